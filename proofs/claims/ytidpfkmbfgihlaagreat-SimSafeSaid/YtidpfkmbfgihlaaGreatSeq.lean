/-
 Slices that are lent aQ local objects,with what lies behind An object that bears maps: Iterators: Fresh results that bear a slice which may be written in plac A slice of the call's own that was written in place becomes Iterators over a map's keys,whose order is not known:
-/
import Derived.Test.YtidpfkmbfgihlaaGreatIns
import Derived.Test.YtidpfkmbfgihlaaGreatMapD
namespace Go.Proofs.YtidpfkmbfgihlaaGreat
open Go.RowKit
set_option linter.unusedVariables false

section vals
variable {w:World} {β:H5} {L:Loc}
theorem V.vsl_lst {α:Type} {f:α→AV} {i ver k t:Nat} {e:Ln α} {v:Value} (h5:Sat w β L) (hi:lk L i=some (.vec t k ver ((e.1++e.2).map f))) (h6:Nat.blt 0 k=true) (hv:V w β L (.vsl i ver k 0 e.1.length) v):D w (fun b _=>b < w.heap.size) (LT k f e) v:=by
 have h8:0 < k:=by simpa [Nat.blt_eq] using h6
 obtain⟨_,hn,_⟩:=hv.inv_vsl hi
 obtain⟨o1,o2⟩:=h5.obj i _ hi
 rcases hv.inv_vsl0 hi with ⟨rfl,e2,e3⟩ | ⟨b,cap,rfl,e2,e3,e4,e5⟩
 ·have h9:(e.1++e.2).map f=[]:=by
   rcases o2 with ⟨_,o2⟩ | ⟨b',o2,_⟩
   ·exact o2
   ·rw [show β i=β.at_ i from rfl,e3] at o2; cases o2
  have h2:=List.map_eq_nil_iff.1 h9
  obtain⟨h3,h4⟩:=List.append_eq_nil_iff.1 h2
  show D w _ (.lst k (e.1.map f) (e.2.map f)) _
  rw [h3,h4]
  exact .lnil (Nat.zero_le _)
 ·rcases o2 with ⟨o2,_⟩ | ⟨b',o2,vs,o3,o4,o5⟩
  ·rw [show β i=β.at_ i from rfl,e2] at o2; cases o2
  ·rw [show β i=β.at_ i from rfl,e2] at o2; cases o2
   have hs:vs.size=cap*k:=by simpa [World.shape?,o3] using e5
   have h7:((e.1++e.2).map f).length≤cap:=by
    rw [hs] at o4
    exact Nat.le_of_mul_le_mul_right o4 h8
   have h0:e.1.map f++e.2.map f=(e.1++e.2).map f:=List.map_append.symm
   have a0:(e.1.map f).length=e.1.length:=Mj ..
   show D w _ (.lst k (e.1.map f) (e.2.map f)) _
   rw [← a0]
   have h1:∀ j,j < (flat ((e.1++e.2).map f)).length→j < vs.size:=fun j hj=>by
    rw [J1 o1] at hj
    omega
   refine .lst (fun j=>vs.getD j undef) ?_ e4 ?_ (fun j hj=>⟨(Ks o3).1,?_⟩) (fun j u hu=>?_)
   ·rw [← Mf,h0]; exact h7
   ·rw [h0]; exact o1
   ·rw [h0] at hj
    have:=h1 j hj
    simp [World.cell?,o3,this]
   ·rw [h0] at hu
    have hj:=(M3 hu).1
    have:=h1 j hj
    exact(o5 j u _ hu (by simp [this])).mono fun b i hs=>⟨hs.lt,rfl⟩
theorem V.vsl_list {α:Type} {f:α→AV} {i ver k t:Nat} {e:Ln α} {v:Value} (h0:Sat w β L) (hi:lk L i=some (.vec t k ver ((e.1++e.2).map f))) (h1:Nat.blt 0 k=true) (hv:V w β L (.vsl i ver k 0 e.1.length) v):D w (fun b _=>b < w.heap.size) (LS k f e.1) v:=
 (hv.vsl_lst h0 hi h1).lst_list
end vals

section calls
variable {P:Program} {o:Oper} {l:Fr} {L:Loc} {u:AV}
inductive Qc2 (L:Loc):AV→AV→Prop
 | data {u u':AV} (h:u.plain=u') (hd:u'.isData=true):Qc2 L u u'
 | vsl {α:Type} {f:α→AV} {i ver k t:Nat} {e:Ln α} (hi:lk L i=some (.vec t k ver ((e.1++e.2).map f))) (hpos:Nat.blt 0 k=true):Qc2 L (.vsl i ver k 0 e.1.length) (LS k f e.1)
 | vlt {α:Type} {f:α→AV} {i ver k t:Nat} {e:Ln α} (hi:lk L i=some (.vec t k ver ((e.1++e.2).map f))) (hpos:Nat.blt 0 k=true):Qc2 L (.vsl i ver k 0 e.1.length) (LT k f e)
theorem Qc2.D {w:World} {β:H5} {u u':AV} (h1:Sat w β L) (h:Qc2 L u u') {v:Value} (hv:V w β L u v):D w (fun b _=>b < w.heap.size) u' v:=by
 cases h with
 | data h hd=>
  subst h
  exact(hv.plain.toD hd).mono fun b i hs=>⟨hs.lt,rfl⟩
 | vsl hi h0=>exact hv.vsl_list h1 hi h0
 | vlt hi h0=>exact hv.vsl_lst h1 hi h0
def H00 (l:Fr) (L:Loc):List Operand→List AV→Prop
 | [],[]=>True
 | x::r,u::s=>Qc2 L (ev l x) u∧H00 l L r s
 | _,_=>False
theorem H00.length {l:Fr} {L:Loc}:∀ {xs:List Operand} {us:List AV},H00 l L xs us→xs.length=us.length
 | [],[],_=>rfl
 | _::r,_::s,h=>by simp [H00.length h.2]
end calls

section ops
variable {P:Program} {N:Cfg} {o:Oper} {l:Fr} {L:Loc} {α:Type}
end ops

section rename
variable {w:World} {β:H5} {L:Loc}
theorem Y84 {i j t k ver verj ver1:Nat} {ys xs:List AV} (h0:Sat w β L) (h3:i≠j) (hi:lk L i=some (.vec t k ver ys)) (hj:lk L j=some (.vec t k verj xs)) (h1:ver < ver1) :
  Step w β L w (upP (upP β j none) i (β.at_ j)) ((i,.vec t k ver1 xs)::(j,.vec t k (verj+1) [])::L)∧Sat w (upP (upP β j none) i (β.at_ j)) ((i,.vec t k ver1 xs)::(j,.vec t k (verj+1) [])::L):=by
 have pi:(upP (upP β j none) i (β.at_ j)).at_ i=β.at_ j:=by simp [upP]
 have pj:(upP (upP β j none) i (β.at_ j)).at_ j=none:=by simp [upP,Ne.symm h3]
 have po:∀ id,i≠id→j≠id→(upP (upP β j none) i (β.at_ j)).at_ id=β.at_ id:=fun id h1 h2=>by simp [upP,Ne.symm h1,Ne.symm h2]
 have li:lk ((i,Ji.vec t k ver1 xs)::(j,.vec t k (verj+1) [])::L) i=some (.vec t k ver1 xs):=by rw [Gi,if_pos rfl]
 have lj:lk ((i,Ji.vec t k ver1 xs)::(j,.vec t k (verj+1) [])::L) j=some (.vec t k (verj+1) []):=by rw [Gi,if_neg h3,Gi,if_pos rfl]
 have lo:∀ id,i≠id→j≠id→lk ((i,Ji.vec t k ver1 xs)::(j,.vec t k (verj+1) [])::L) id=lk L id:=fun id h1 h2=>by rw [Gi,if_neg h1,Gi,if_neg h2]
 -- each object that lies somewhere lay there
 have old:∀ id b,(lk ((i,Ji.vec t k ver1 xs)::(j,.vec t k (verj+1) [])::L) id).isSome=true→(upP (upP β j none) i (β.at_ j)).at_ id=some b→∃ q,(lk L q).isSome=true∧β.at_ q=some b∧((id=i∧q=j)∨(i≠id∧j≠id∧q=id)):=fun id b h hb=>by
  by_cases e1:i=id
  ·subst e1; rw [pi] at hb; exact⟨j,by rw [hj]; rfl,hb,.inl ⟨rfl,rfl⟩⟩
  ·by_cases e2:j=id
   ·subst e2; rw [pj] at hb; cases hb
   ·rw [lo id e1 e2] at h; rw [po id e1 e2] at hb; exact⟨id,h,hb,.inr ⟨e1,e2,rfl⟩⟩
 have stabi:∀ b q,Ju w β L b q→β.at_ j≠some b:=fun b q hs hb=>hs.kept j _ hj hb
 have st:Step w β L w (upP (upP β j none) i (β.at_ j)) ((i,.vec t k ver1 xs)::(j,.vec t k (verj+1) [])::L):=by
  refine⟨rfl,rfl,⟨rfl,M8⟩,M8,fun _ _ _=>Iff.rfl,fun b q hs=>⟨⟨hs.lt,hs.seen,fun id o hid hb=>?_⟩,rfl⟩,fun b hb hf=>⟨rfl,fun id hid h4=>?_⟩,fun id t' cs hid=>?_,fun id t' cs hid=>?_,fun id t' n cs hid=>?_,fun id t' k' vr zs hid=>?_,fun id t' k' vr hw hid=>?_⟩
  ·by_cases e1:i=id
   ·subst e1; exact(stabi b q hs (pi.symm.trans hb)).elim
   ·by_cases e2:j=id
    ·subst e2; have hb:(upP (upP β j none) i (β.at_ j)).at_ j=some b:=hb; rw [pj] at hb; cases hb
    ·rw [lo id e1 e2] at hid; exact hs.kept id o hid ((po id e1 e2).symm.trans hb)
  ·obtain⟨q,g1,g2,_⟩:=old id b hid h4
   exact hf q g1 g2
  ·have e1:i≠id:=fun e=>by subst e; rw [hi] at hid; cases hid
   have e2:j≠id:=fun e=>by subst e; rw [hj] at hid; cases hid
   exact⟨po id e1 e2,cs,by rw [lo id e1 e2]; exact hid⟩
  ·have e1:i≠id:=fun e=>by subst e; rw [hi] at hid; cases hid
   have e2:j≠id:=fun e=>by subst e; rw [hj] at hid; cases hid
   exact⟨po id e1 e2,cs,by rw [lo id e1 e2]; exact hid⟩
  ·have e1:i≠id:=fun e=>by subst e; rw [hi] at hid; cases hid
   have e2:j≠id:=fun e=>by subst e; rw [hj] at hid; cases hid
   exact⟨po id e1 e2,n,cs,by rw [lo id e1 e2]; exact hid⟩
  ·by_cases e1:i=id
   ·subst e1; rw [hi] at hid; cases hid
    exact⟨ver1,xs,li,by omega,fun e=>by omega⟩
   ·by_cases e2:j=id
    ·subst e2; rw [hj] at hid; cases hid
     exact⟨verj+1,[],lj,by omega,fun e=>by omega⟩
    ·exact⟨vr,zs,by rw [lo id e1 e2]; exact hid,M8,fun _=>⟨rfl,po id e1 e2,fun b hb=>rfl⟩⟩
  ·have e1:i≠id:=fun e=>by subst e; rw [hi] at hid; cases hid
   have e2:j≠id:=fun e=>by subst e; rw [hj] at hid; cases hid
   exact⟨vr,hw,by rw [lo id e1 e2]; exact hid,M8,fun _=>⟨rfl,po id e1 e2,fun b hb=>rfl⟩⟩
 refine⟨st,h0.hid,fun id b h hb=>?_,fun id b q h hb=>?_,fun id id' b h h' hb h5=>?_,fun id o ho=>?_⟩
 ·obtain⟨q,g1,g2,_⟩:=old id b h hb
  exact h0.bnd q b g1 g2
 ·obtain⟨q',g1,g2,_⟩:=old id b h hb
  exact h0.apart q' b q g1 g2
 ·obtain⟨q,g1,g2,g3⟩:=old id b h hb
  obtain⟨q',g1',g2',g3'⟩:=old id' b h' h5
  have:=h0.inj q q' b g1 g1' g2 g2'
  subst this
  rcases g3 with ⟨a1,a2⟩ | ⟨a1,a2,a3⟩ <;> rcases g3' with ⟨b1,b2⟩ | ⟨b1,b2,b3⟩
  ·rw [a1,b1]
  ·exact(b2 (a2.symm.trans b3)).elim
  ·exact(a2 (b2.symm.trans a3)).elim
  ·rw [← a3,← b3]
 ·by_cases e1:i=id
  ·subst e1; rw [li] at ho; cases ho
   have:=(h0.obj j _ hj).step st (fun b hb=>rfl)
   rw [show (upP (upP β j none) i (β.at_ j)) i=β.at_ j from pi]
   exact this
  ·by_cases e2:j=id
   ·subst e2; rw [lj] at ho; cases ho
    rw [show (upP (upP β j none) i (β.at_ j)) j=none from pj]
    exact⟨by simp,.inl ⟨rfl,rfl⟩⟩
   ·rw [lo id e1 e2] at ho
    rw [show (upP (upP β j none) i (β.at_ j)) id=β.at_ id from po id e1 e2]
    exact(h0.obj id o ho).step st (fun b hb=>rfl)
end rename
section renameJ
variable {P:Program} {N:Cfg} {Q:Post} {c:Code} {l:Fr} {L:Loc}
theorem Yf1 (s i ver1:Nat) {j ver verj k n t:Nat} {ys xs:List AV} (h1:look l s=.vec j verj k n) (hi:lk L i=some (.vec t k ver ys)) (hj:lk L j=some (.vec t k verj xs)) (h3:i≠j) (h2:ver < ver1)
  (hk:JC P N c Q ((s,.vec i ver1 k xs.length)::l) ((i,.vec t k ver1 xs)::(j,.vec t k (verj+1) [])::L)):JC P N c Q l L:=fun n0 w0 β0 L0 a w β hs=>by
 have hv:=hs.frame.tmp s
 rw [h1] at hv
 obtain⟨h4,h0⟩:Qad w (β.at_ j) t k xs.length (a.tmps.getD s undef)∧(a.tmps.getD s undef).oneCell'=true:=by
  cases hv with
  | data h=>cases h
  | vec hp h0=>
   obtain⟨t',ver',xs',g1,_,g3⟩:=hp
   rw [hj] at g1; cases g1
   obtain⟨rfl,g4⟩:=g3 rfl
   exact⟨g4,h0⟩
 obtain⟨st,sat⟩:=Y84 hs.sat h3 hi hj h2
 refine hk n0 w0 β0 L0 a w _ ⟨sat,hs.step.trans st,(hs.frame.step st).over (.vec ⟨t,ver1,xs,by rw [Gi,if_pos rfl],M8,fun _=>⟨rfl,?_⟩⟩ h0),hs.size,hs.base,hs.defers.step st⟩
 rw [show (upP (upP β j none) i (β.at_ j)) i=β.at_ j by simp [upP]]
 exact h4
theorem Yba (s ver1:Nat) {i ver k n t:Nat} {xs:List AV} (h1:look l s=.vec i ver k n) (hi:lk L i=some (.vec t k ver xs)) (h3:ver < ver1)
  (hk:JC P N c Q ((s,.vec i ver1 k xs.length)::l) ((i,.vec t k ver1 xs)::L)):JC P N c Q l L:=fun n0 w0 β0 L0 a w β hs=>by
 have hv:=hs.frame.tmp s
 rw [h1] at hv
 obtain⟨h2,h0⟩:Qad w (β.at_ i) t k xs.length (a.tmps.getD s undef)∧(a.tmps.getD s undef).oneCell'=true:=by
  cases hv with
  | data h=>cases h
  | vec hp h0=>
   obtain⟨t',ver',xs',g1,_,g3⟩:=hp
   rw [hi] at g1; cases g1
   obtain⟨rfl,g4⟩:=g3 rfl
   exact⟨g4,h0⟩
 obtain⟨st,sat⟩:=Rw (w':=w) (t:=t) (k:=k) (ver1:=ver1) (xs':=xs) (ob':=β.at_ i) hs.sat (.inr ⟨ver,xs,hi,by omega,fun e=>by omega⟩) rfl rfl ⟨rfl,M8⟩ (M8) (fun _ _ _=>rfl) (.inr (.inl ⟨by rw [inL,hi]; rfl,rfl⟩))
 have sat':=sat ((hs.sat.obj i _ hi).step st (fun b hb=>rfl))
 refine hk n0 w0 β0 L0 a w _ ⟨sat',hs.step.trans st,(hs.frame.step st).over (.vec ⟨t,ver1,xs,by rw [Gi,if_pos rfl],M8,fun _=>⟨rfl,?_⟩⟩ h0),hs.size,hs.base,hs.defers.step st⟩
 rw [show (upP β i (β.at_ i)) i=β.at_ i by simp [upP]]
 exact h2
theorem H65 {α:Type} {f:α→AV} (ys:List α) (s ver1:Nat) {i ver k n t:Nat} {xs:List AV} (h1:look l s=.vec i ver k n) (hi:lk L i=some (.vec t k ver xs)) (h0:ver < ver1) (hx:xs=ys.map f)
  (hk:JC P N c Q ((s,.vec i ver1 k ys.length)::l) ((i,.vec t k ver1 (ys.map f))::L)):JC P N c Q l L:=by
 subst hx
 refine Yba s ver1 h1 hi h0 ?_
 rw [Mj]
 exact hk
theorem Ra2 {α:Type} {f:α→AV} (zs:List α) (s i ver1:Nat) {j ver verj k n t:Nat} {ys xs:List AV} (h1:look l s=.vec j verj k n) (hi:lk L i=some (.vec t k ver ys)) (hj:lk L j=some (.vec t k verj xs)) (h2:i≠j) (h0:ver < ver1) (hx:xs=zs.map f)
  (hk:JC P N c Q ((s,.vec i ver1 k zs.length)::l) ((i,.vec t k ver1 (zs.map f))::(j,.vec t k (verj+1) [])::L)):JC P N c Q l L:=by
 subst hx
 refine Yf1 s i ver1 h1 hi hj h2 h0 ?_
 rw [Mj]
 exact hk
end renameJ

section calls
variable {P:Program} {o:Oper} {l:Fr} {L:Loc} {u:AV}
inductive G77 (L:Loc):AV→AV→Prop
 | data {u u':AV} (h:u.plain=u') (hd:u'.isData=true):G77 L u u'
 | vec {i ver k n t:Nat} {xs:List AV} (hi:lk L i=some (.vec t k ver xs)):G77 L (.vec i ver k n) (.list k xs)
 | agg {cs ds:List AV} (hl:ds.length=cs.length) (h:∀ (j:Nat) u u',cs[j]? = some u→ds[j]? = some u'→G77 L u u'):G77 L (.agg cs) (.agg ds)
 | ptr {i off t:Nat} {cs ds:List AV} (hi:lk L i=some (.box t cs)) (hl:ds.length=(cs.drop off).length) (h:∀ (j:Nat) u u',(cs.drop off)[j]? = some u→ds[j]? = some u'→G77 L u u'):G77 L (.ptr i off) (.dptr ds)
 | mp {κ ν:Type} [DecidableEq κ] {kv:κ→Value} {av:ν→AV} {i T:Nat} {m:Gu κ ν} (hi:lk L i=some (TP T kv av m)):G77 L (.mp i) (DM kv av m)
 | fn {f:FuncId} {cs ds:List AV} (hl:ds.length=cs.length) (h:∀ (j:Nat) u u',cs[j]? = some u→ds[j]? = some u'→G77 L u u'):G77 L (.fn f cs) (.fn f ds)
 | ms {i n cap t k:Nat} {cs xs:List AV} (hi:lk L i=some (.box t cs)) (hn:n=xs.length) (hk:∀ x∈xs,x.cells.length=k) (hl:(flat xs).length=cs.length) (h:∀ (j:Nat) u u',cs[j]? = some u→(flat xs)[j]? = some u'→G77 L u u'):G77 L (.ms i 0 n cap) (.list k xs)
def H8b (L:Loc):List AV→List AV→Prop
 | [],[]=>True
 | u::r,u'::s=>G77 L u u'∧H8b L r s
 | _,_=>False
theorem H8b.len {L:Loc}:∀ {cs ds:List AV},H8b L cs ds→ds.length=cs.length
 | [],[],_=>rfl
 | _::_,_::_,h=>by simp [H8b.len h.2]
theorem dnQ {L:Loc}:∀ (n:Nat) {cs ds:List AV},(cs.take n).map AV.plain=ds.take n→(ds.take n).all AV.isData=true→H8b L (cs.drop n) (ds.drop n)→H8b L cs ds
  | 0,_,_,_,_,h=>h
  | _+1,[],[],_,_,_=>trivial
  | _+1,[],_::_,h,_,_=>by simp at h
  | _+1,_::_,[],h,_,_=>by simp at h
  | n+1,u::r,u'::s,h,hd,hk=>by
    simp only [List.take_succ_cons,List.map_cons,List.cons.injEq,List.all_cons,Mh] at h hd
    exact⟨.data h.1 hd.1,dnQ n h.2 hd.2 hk⟩
theorem H8b.get {L:Loc}:∀ {cs ds:List AV},H8b L cs ds→∀ (j:Nat) u u',cs[j]? = some u→ds[j]? = some u'→G77 L u u'
 | _::_,_::_,h,0,_,_,h1,h2=>by simp at h1 h2; subst h1 h2; exact h.1
 | _::_,_::_,h,j+1,u,u',h1,h2=>H8b.get h.2 j u u' (by simpa using h1) (by simpa using h2)
 | [],[],_,j,_,_,h1,_=>by simp at h1
theorem G77.ptrL {i off t:Nat} {cs ds:List AV} (hi:lk L i=some (.box t cs)) (h:H8b L (cs.drop off) ds):G77 L (.ptr i off) (.dptr ds):=.ptr hi h.len h.get
theorem G77.fnL {f:FuncId} {cs ds:List AV} (h:H8b L cs ds):G77 L (.fn f cs) (.fn f ds):=.fn h.len h.get
theorem G77.msL {i n cap t k:Nat} {cs xs:List AV} (hi:lk L i=some (.box t cs)) (hn:n=xs.length) (hk:Gf5 k xs=true) (h:H8b L cs (flat xs)):G77 L (.ms i 0 n cap) (.list k xs):=
 .ms hi hn (fun x hx=>(G93 hk x hx).1) h.len h.get

theorem V.ms_inv {w:World} {β:H5} {i off n cap:Nat} {v:Value} (h:V w β L (.ms i off n cap) v):∃ b,β i=some b∧v=.slice (some ⟨b,off,none⟩) n cap∧n≤cap∧cap≤maxLen:=by
 cases h with
 | data h=>cases h
 | ms hi h hn hm=>exact⟨_,h,rfl,hn,hm⟩
theorem G77.D {w:World} {β:H5} {u u':AV} (h0:Sat w β L) (h:G77 L u u'):∀ {v:Value},V w β L u v→D w (fun b _=>b < w.heap.size) u' v:=by
 induction h with
 | data h hd=>exact fun hv=>G86.D h0 (.data h hd) hv
 | vec hi=>exact fun hv=>G86.D h0 (.vec hi) hv
 | agg hl _ ih=>
  intro v hv
  obtain⟨vs,rfl,h8,h9⟩:=hv.inv_agg
  refine .agg (h8.trans hl.symm) fun j u' x h5 hx=>?_
  have hj:j < _:=(M3 h5).1
  exact ih j _ u' (M4 (hl ▸ hj)) h5 (h9 j _ x (M4 (hl ▸ hj)) hx)
 | fn hl _ ih=>
  intro v hv
  obtain⟨vs,rfl,h8,h9⟩:=hv.inv_fn
  refine .fn (h8.trans hl.symm) fun j u' x h5 hx=>?_
  have hj:j < _:=(M3 h5).1
  exact ih j _ u' (M4 (hl ▸ hj)) h5 (h9 j _ x (M4 (hl ▸ hj)) hx)
 | @ptr i off t cs ds hi hl _ ih=>
  intro v hv
  obtain⟨b,hb,rfl⟩:=hv.inv_ptr
  obtain⟨b',h6,vs,o1,o2,o3⟩:=h0.obj i _ hi
  rw [hb] at h6; cases h6
  have h7:b < w.heap.size:=(Ks o1).1
  have a0:∀ j,j < ds.length→off+j < cs.length:=fun j hj=>by rw [hl,List.length_drop] at hj; omega
  refine .dptr (fun j=>vs.getD (off+j) undef) (fun j hj=>⟨h7,?_⟩) (fun j u hu=>?_)
  ·have:=a0 j hj
   have h2:off+j < vs.size:=by omega
   simp [World.cell?,o1,h2]
  ·have hj:=(M3 hu).1
   have:=a0 j hj
   have h2:off+j < vs.size:=by omega
   have hc:(cs.drop off)[j]? = some cs[off+j]:=by rw [Me]; simp [this]
   refine ih j _ u hc hu ?_
   rw [Array.getD_eq_getD_getElem?,Array.getElem?_eq_getElem h2]
   exact o3 (off+j) _ _ (by simp [this]) (by simp [h2])
 | @ms i n cap t k cs xs hi hn hk hl _ ih=>
  intro v hv
  obtain⟨b,hb,rfl,g1,g2⟩:=hv.ms_inv
  obtain⟨b',h6,vs,o1,o2,o3⟩:=h0.obj i _ hi
  rw [hb] at h6; cases h6
  have h7:b < w.heap.size:=(Ks o1).1
  subst hn
  refine .list (fun j=>vs.getD (0+j) undef) g1 g2 hk (fun j hj=>⟨h7,?_⟩) (fun j u hu=>?_)
  ·have h2:j < vs.size:=by omega
   simp [World.cell?,o1,h2]
  ·have hj:=(M3 hu).1
   have h2:j < vs.size:=by omega
   have hc:cs[j]? = some cs[j]:=by simp
   refine ih j _ u hc hu ?_
   rw [Nat.zero_add,Array.getD_eq_getD_getElem?,Array.getElem?_eq_getElem h2]
   exact o3 j _ _ hc (by simp [h2])
 | @mp κ ν dq kv av i T m hi=>
  intro v hv
  obtain⟨b,vals,Hf,rfl,g1,g2,h1,g3⟩:=hv.tsrc h0 (.own hi)
  have h7:b < w.heap.size:=(Ks h1).1
  exact .dmap vals g1 (by rw [H1f,← g2]; exact h1) (fun _=>h7) (fun i k u v h2 h3 h4=>(g3 i k u v h2 h3 h4).mono fun b i hs=>⟨hs.lt,rfl⟩)

def Gcd (l:Fr) (L:Loc):List Operand→List AV→Prop
 | [],[]=>True
 | x::r,u::s=>G77 L (ev l x) u∧Gcd l L r s
 | _,_=>False
theorem Gcd.length {l:Fr} {L:Loc}:∀ {xs:List Operand} {us:List AV},Gcd l L xs us→xs.length=us.length
 | [],[],_=>rfl
 | _::r,_::s,h=>by simp [Gcd.length h.2]
theorem Gcd.get {l:Fr} {L:Loc}:∀ {xs:List Operand} {us:List AV},Gcd l L xs us→∀ {j:Nat} {x:Operand} {u:AV},xs[j]? = some x→us[j]? = some u→G77 L (ev l x) u
 | [],[],_,j,x,u,h,_=>by simp at h
 | x::r,u::s,h,0,_,_,hx,hu=>by simp at hx hu; subst hx hu; exact h.1
 | x::r,u::s,h,j+1,_,_,hx,hu=>by simp at hx hu; exact Gcd.get h.2 hx hu
theorem Zc {f:FuncId} {xs:List Operand} {args:List AV} {ts:Array TypeId} (ho:o.op=.call { callee:=.value (.func f),args:=xs.toArray,argTypes:=ts }) (hc:Pure P f args (·=u)) (hB:H7 P f=true) (ha:Gcd l L xs args) (hu:u.noRef=true):H2 P o l L (Is u L):=by
 intro a w β K Q h0 hf hK
 have hr:(execOp a.eval o).run P w=.ok (.enter f (xs.toArray.map a.eval)) w:=by
  simp [execOp,ho,resolve,Act.eval,Deferred.ofValue,invoke,H7.out hB]
 unfold Oper.wp
 rw [hr]
 show Calls P f _ w _
 refine(Je2 hc h0 (vs:=xs.toArray.map a.eval) (by simp [ha.length]) (fun j u v hu hv=>?_) (fun r hr=>by rw [hr]; exact hu)).mono fun e w' h=>?_
 ·simp only [Array.getElem?_map,List.getElem?_toArray,Option.map_eq_some_iff] at hv
  obtain⟨x,hx,rfl⟩:=hv
  exact(ha.get hx hu).D h0 (hf.ev x)
 ·obtain⟨v,r,rfl,h1,h2,h3,rfl⟩:=h
  exact hK _ L v w' β ⟨rfl,rfl⟩ h1 h2 h3
theorem Y9 {α:Type} {f:FuncId} {xs:List Operand} {args:List AV} {ts:Array TypeId} {i E k n:Nat} {g:α→AV} {r:List α} (ho:o.op=.call { callee:=.value (.func f),args:=xs.toArray,argTypes:=ts })
  (hc:Jh P f args [] (fun av L'=>∃ p:Nat,av=.vec i p k n∧L'=[(i,.vec E k p (r.map g))])) (hB:H7 P f=true) (ha:Gcd l L xs args) (hg:∀ x,AV.noRef.noRefL (g x).cells=true):H2 P o l L (Is (LS k g r) L):=by
 intro a w β K Q h0 hf hK
 have hr:(execOp a.eval o).run P w=.ok (.enter f (xs.toArray.map a.eval)) w:=by
  simp [execOp,ho,resolve,Act.eval,Deferred.ofValue,invoke,H7.out hB]
 unfold Oper.wp
 rw [hr]
 show Calls P f _ w _
 have h8:∀ b i:Nat,b < w.heap.size→Ju w ⟨fun _=>none,fun _ _=>False⟩ [] b i:=fun b i hs=>⟨hs,fun h=>h,fun id o h=>by simp [lk] at h⟩
 refine(hc w ⟨fun _=>none,fun _ _=>False⟩ (xs.toArray.map a.eval) ⟨fun b i h=>h.elim,fun id b h=>by simp [lk] at h,fun id b j h=>by simp [lk] at h,fun id id' b h=>by simp [lk] at h,fun id o h=>by simp [lk] at h⟩ (by simp [ha.length])
  (fun j u v hu a0=>?_)).mono fun e w' h=>?_
 ·simp only [Array.getElem?_map,List.getElem?_toArray,Option.map_eq_some_iff] at a0
  obtain⟨x,hx,rfl⟩:=a0
  exact .data (((ha.get hx hu).D h0 (hf.ev x)).mono fun b i hs=>⟨h8 b i hs,rfl⟩)
 obtain⟨v,r',β',L',rfl,h9,h6,a1,p,rfl,rfl⟩:=h
 have far:∀ b,b < w.heap.size→w'.heap[b]? = w.heap[b]? := fun b hb=>(h6.far b hb (fun id h=>by simp [lk] at h)).1
 have stab:∀ b i,Ju w β L b i→Ju w' β L b i:=fun b i hs=>⟨Kt hs.lt h6.size,hs.seen,hs.kept⟩
 have step:Step w β L w' β L:=⟨h6.os,h6.tape,h6.output,h6.size,fun _ _ _=>Iff.rfl,fun b i hs=>⟨stab b i hs,Q2 (w:=w) (far b hs.lt)⟩,fun b hb hf=>⟨far b hb,hf⟩,
  fun _ _ cs h=>⟨rfl,cs,h⟩,fun _ _ cs h=>⟨rfl,cs,h⟩,fun _ _ n cs h=>⟨rfl,n,cs,h⟩,fun id _ _ ver xs h=>⟨ver,xs,h,M8,fun _=>⟨rfl,rfl,fun b hb=>G18 (far b (h0.bnd id b (by rw [h]; rfl) hb))⟩⟩,fun id _ _ ver hw h=>⟨ver,hw,h,M8,fun _=>⟨rfl,rfl,fun b hb=>far b (h0.bnd id b (by rw [h]; rfl) hb)⟩⟩⟩
 have hi:lk [(i,Ji.vec E k p (r.map g))] i=some (.vec E k p (r.map g)):=by rw [Gi,if_pos rfl]
 have key:∀ r:List α,∀ u∈flat (r.map g),u.noRef=true:=by
  intro r
  induction r with
  | nil=>intro u hu; simp [flat] at hu
  | cons x r ih=>
   intro u hu
   rw [List.map_cons,flat,Mk] at hu
   rcases hu with hu | hu
   ·exact Gd4 (hg x) u hu
   ·exact ih u hu
 refine hK _ L v w' β ⟨rfl,rfl⟩ ⟨fun b i h=>Kt (h0.hid b i h) h6.size,fun id b h1 h2=>Kt (h0.bnd id b h1 h2) h6.size,h0.apart,h0.inj,fun id o h=>(h0.obj id o h).step step (fun b hb=>far b (h0.bnd id b (by rw [h]; rfl) hb))⟩ step ?_
 obtain⟨_,hk,h⟩:=G62 h9 hi a1
 rcases h with ⟨rfl,e,_⟩ | ⟨b,cap,cs,rfl,hb,h1,h2,h3,h4,h5⟩
 ·have:r=[]:=by simpa using e
  subst this
  exact .data (.nil (Nat.zero_le _))
 ·have a3:w.heap.size≤b:=Nat.le_of_not_lt fun h7=>(h6.far b h7 (fun id h=>by simp [lk] at h)).2 i (by rw [hi]; rfl) hb
  have h7:∀ j,j < (flat (r.map g)).length→j < cs.size:=fun j hj=>by
   rw [J1 hk] at hj
   have:=Nat.mul_le_mul_right k h1
   omega
  refine .data (.list (fun j=>cs.getD j undef) h1 h2 hk (fun j hj=>⟨⟨(Ks h3).1,fun hh=>?_,fun id o ho a2=>?_⟩,?_⟩) (fun j u hu=>?_))
  ·have:=h0.hid _ _ hh; omega
  ·have:=h0.bnd id b (by rw [ho]; rfl) a2; omega
  ·have:=h7 j hj
   simp [World.cell?,h3,this]
  ·have hj:=(M3 hu).1
   have:=h7 j hj
   exact(h5 j u _ hu (by simp [this])).noRef (key r u (M6 hu))
end calls

/-! ### Is it nil -/
def Y60 (P:Program) (T:Nat):Bool:=match P.underlying T with | some (.pointer _)=>true | _=>false
def Y2e (P:Program) (T:Nat):Bool:=match P.underlying T with | some (.map _ _)=>true | _=>false
def AV.isPtr:AV→Bool
 | .ptr .. | .dptr ..=>true
 | _=>false
def AV.isMap:AV→Bool
 | .mp .. | .dmap ..=>true
 | _=>false
theorem V.isPtr {w:World} {β:H5} {L:Loc} {u:AV} {v:Value} (h:V w β L u v) (hu:u.isPtr=true):∃ a,v=.pointer (some a):=by
 cases h with
 | data h=>cases h <;> first | exact⟨_,rfl⟩ | cases hu
 | ptr=>exact⟨_,rfl⟩
 | _=>cases hu
theorem V.isMap {w:World} {β:H5} {L:Loc} {u:AV} {v:Value} (h:V w β L u v) (hu:u.isMap=true):∃ b,v=.map (some b):=by
 cases h with
 | data h=>cases h <;> first | exact⟨_,rfl⟩ | cases hu
 | mp=>exact⟨_,rfl⟩
 | _=>cases hu
theorem J7a {P:Program} {T:Nat} (hT:Y60 P T=true) (a:Option Addr) (w:World):(Op.equal T (.pointer a) (.pointer none)).run P w=.ok a.isNone w:=by
 unfold Y60 at hT
 split at hT
 ·rename_i e h
  unfold Op.equal
  generalize hd:Op.maxDepth=d
  obtain⟨d,rfl⟩:∃ m,d=m+1:=⟨Op.maxDepth - 1,by rw [← hd]; rfl⟩
  clear hd
  cases a with
  | none=>rw [Op.equalIn]; simp [underlying,h]
  | some a=>rw [Op.equalIn]; simp [underlying,h]
 ·cases hT
theorem Rf3 {P:Program} {T:Nat} (hT:Y2e P T=true) (b:Nat) (w:World):(Op.equal T (.map (some b)) (.map none)).run P w=.ok false w:=by
 unfold Y2e at hT
 split at hT
 ·rename_i e h
  unfold Op.equal
  generalize hd:Op.maxDepth=d
  obtain⟨d,rfl⟩:∃ m,d=m+1:=⟨Op.maxDepth - 1,by rw [← hd]; rfl⟩
  clear hd
  rw [Op.equalIn]; simp [underlying,h]
 ·cases hT
section nil
variable {P:Program} {o:Oper} {l:Fr} {L:Loc}
theorem Jcc {x:Operand} {T T':Nat} (hT:Y60 P T=true) (ho:o.op=.binOp .eql T x (.const (.pointer none)) T') (hx:(ev l x).isPtr=true):H2 P o l L (Is (BL false) L):=by
 intro a w β K Q h0 hf hK
 obtain⟨ad,hv⟩:=(hf.ev x).isPtr hx
 have hr:(execOp a.eval o).run P w=.ok (.value (.bool false)) w:=by
  have e2:a.eval (.const (.pointer none))=.pointer none:=rfl
  simp [execOp,ho,eqGuard,binOp,hv,e2,J7a hT]
 unfold Oper.wp
 rw [hr]
 exact hK _ _ _ _ _ ⟨rfl,rfl⟩ h0 (Step.refl _ _ _) .sc
theorem Yc5 {x:Operand} {T T':Nat} (hT:Y60 P T=true) (ho:o.op=.binOp .neq T x (.const (.pointer none)) T') (hx:(ev l x).isPtr=true):H2 P o l L (Is (BL true) L):=by
 intro a w β K Q h0 hf hK
 obtain⟨ad,hv⟩:=(hf.ev x).isPtr hx
 have hr:(execOp a.eval o).run P w=.ok (.value (.bool true)) w:=by
  have e2:a.eval (.const (.pointer none))=.pointer none:=rfl
  simp [execOp,ho,eqGuard,binOp,hv,e2,J7a hT]
 unfold Oper.wp
 rw [hr]
 exact hK _ _ _ _ _ ⟨rfl,rfl⟩ h0 (Step.refl _ _ _) .sc
theorem Yc4 {x:Operand} {T T':Nat} (hT:Y2e P T=true) (ho:o.op=.binOp .neq T x (.const (.map none)) T') (hx:(ev l x).isMap=true):H2 P o l L (Is (BL true) L):=by
 intro a w β K Q h0 hf hK
 obtain⟨b,hv⟩:=(hf.ev x).isMap hx
 have hr:(execOp a.eval o).run P w=.ok (.value (.bool true)) w:=by
  have e2:a.eval (.const (.map none))=.map none:=rfl
  simp [execOp,ho,eqGuard,binOp,hv,e2,Rf3 hT]
 unfold Oper.wp
 rw [hr]
 exact hK _ _ _ _ _ ⟨rfl,rfl⟩ h0 (Step.refl _ _ _) .sc
end nil

/-! ### A row of values that are no data -/
def Q2f (l:Fr):List Operand→List AV→Prop
 | [],[]=>True
 | x::r,u::s=>ev l x=u∧Q2f l r s
 | _,_=>False
theorem Q2f.length {l:Fr}:∀ {xs:List Operand} {us:List AV},Q2f l xs us→xs.length=us.length
 | [],[],_=>rfl
 | _::_,_::_,h=>by simp [Q2f.length h.2]
theorem Q2f.get {l:Fr}:∀ {xs:List Operand} {us:List AV},Q2f l xs us→∀ {j:Nat} {x:Operand} {u:AV},xs[j]? = some x→us[j]? = some u→ev l x=u
 | _::_,_::_,h,0,x,u,hx,hu=>by simp at hx hu; subst hx; subst hu; exact h.1
 | _::_,_::_,h,j+1,x,u,hx,hu=>Q2f.get h.2 (by simpa using hx) (by simpa using hu)
 | [],[],_,j,x,u,hx,_=>by simp at hx
theorem Jf7 {P:Program} {o:Oper} {l:Fr} {L:Loc} (i:Nat) {T E k n:Nat} {parts:List (Nat×Operand)} {xs cs:List AV} (ho:o.op=.buildSlice T n parts.toArray) (hd:Q2f l (parts.map (·.2)) xs) (a3:flat xs=cs) (hT:sliceB P T E k=true) (hz:Y4 P E k=true)
  (h3:parts.map (·.1)=List.range n) (hc:Gf5 k xs=true) (hn:Nat.ble (n*k) 16777216=true) (a4:Nat.blt 0 k=true) (h8:lk L i=none):H2 P o l L (Is (.ms i 0 n n) ((i,.box E cs)::L)):=by
 subst a3
 intro a w β K Q h4 hf hK
 have a2:=hd.length
 have a5:n=xs.length:=by
  have:=congrArg List.length h3
  simp only [Mj,List.length_range] at this a2
  omega
 subst a5
 have h9:=G93 hc
 have b0:∀ x∈xs,x.cells.length=k:=fun x hx=>(h9 x hx).1
 have h6:=H7c (k:=k) xs 0 (List.replicate (xs.length*k) .junk) (by simp) h9
 obtain⟨inf,z,hi,a6,b1⟩:=Y4.out hz
 let zs:Array Value:=if xs.length*k=0 then #[] else z.cells
 obtain⟨vs',e1,e2,e3⟩:=H21 (w:=w) (β:=β) (L:=L) (qs:=parts.map fun p=>(p.1,a.eval p.2)) (vs:=(Array.range (xs.length*k)).map (zs[· % zs.size]!)) h6 (by
   have:=congrArg List.length h3
   simp only [Mj,List.length_range] at this
   simp [this]) (fun j p q hp hq=>by
   simp only [Mc,Option.map_eq_some_iff] at hq
   obtain⟨y,hy,rfl⟩:=hq
   rw [List.getElem?_zip_eq_some] at hp
   obtain⟨a7,a8⟩:=hp
   have h1:(parts.map (·.1))[j]? = (List.range xs.length)[j]? := by rw [h3]
   simp only [Mc,hy,Option.map_some] at h1
   rw [List.range_eq_range',a7] at h1
   have:=(hd.get (j:=j) (x:=y.2) (u:=p.2) (by rw [Mc,hy]; rfl) a8)
   have hv:=hf.ev y.2
   rw [this] at hv
   exact⟨(M5 h1).symm,hv⟩) (by simp) (fun j u v hu _=>by
   have:=List.eq_of_mem_replicate (M6 hu)
   subst this; exact .junk)
 have h7:(List.take (0*k) (List.replicate (xs.length*k) AV.junk))++flat xs=flat xs:=by simp
 rw [h7] at e2 e3
 have a9:xs.length*k≤16777216:=by simpa using hn
 have hr:(execOp a.eval o).run P w=.ok (.value (.slice (some ⟨w.heap.size,0,none⟩) xs.length xs.length)) (w.alloc (.cells vs' E)):=by
  have a0:=Qe (sliceB.out hT).2 w
  have a1:¬ (xs.length*k > 2 ^ 24):=by
   have:(2:Nat) ^ 24=16777216:=by decide
   omega
  have hp:(parts.toArray.map fun(x:Nat×Operand)=>(x.1,a.eval x.2)).toList=parts.map fun p=>(p.1,a.eval p.2):=by simp
  by_cases h0:xs.length*k=0
  ·have h5:zs=#[]:=by simp only [zs,if_pos h0]
   rw [h5] at e1
   simp only [execOp,ho,Instr.buildSlice,underlying,(sliceB.out hT).1,run_program,Sem.run_bind,Result.andThen_ok,a0,a1,if_false,Sem.run_pure,if_pos h0,hp,e1,newRow,run_newObj]
   rfl
  ·have h5:zs=z.cells:=by simp only [zs,if_neg h0]
   rw [h5] at e1
   simp only [execOp,ho,Instr.buildSlice,underlying,(sliceB.out hT).1,run_program,Sem.run_bind,Result.andThen_ok,a0,a1,if_false,Sem.run_pure,if_neg h0,zeroValue,typeInfo,hi,a6,hp,e1,newRow,run_newObj]
   rfl
 unfold Oper.wp
 rw [hr]
 have hm:xs.length≤maxLen:=by
  have h2:0 < k:=by simpa [Nat.blt_eq] using a4
  have:xs.length*1≤xs.length*k:=Nat.mul_le_mul_left _ h2
  simp only [maxLen]; omega
 refine hK _ _ _ _ (upP β i (some w.heap.size)) ⟨rfl,rfl⟩ (h4.alloc h8 _ (fun hs=>⟨_,rfl,vs',heap_alloc_new w _,e2,fun j u v hu hv=>(e3 j u v hu hv).step hs⟩)) (Step.alloc h8 h4.bnd _) (.ms (t:=E) (cs:=flat xs) (by simp [Gi]) (by simp [upP]) (M8) hm)

/-! ### Ranges over maps with gaps -/
section gaps
variable {α σ:Type}
def rk (l:List (Option α)) (j:Nat):Nat:=((l.take j).filterMap id).length
theorem Rf6:∀ {l:List (Option α)} {j:Nat} {e:α},l[j]? = some (some e)→(l.filterMap id)[rk l j]? = some e
 | [],j,e,h=>by simp at h
 | none::r,0,e,h=>by simp at h
 | some a::r,0,e,h=>by simp at h; subst h; simp [rk]
 | none::r,j+1,e,h=>by
  have:=Rf6 (l:=r) (j:=j) (e:=e) (by simpa using h)
  simpa [rk] using this
 | some a::r,j+1,e,h=>by
  have:=Rf6 (l:=r) (j:=j) (e:=e) (by simpa using h)
  simpa [rk] using this
theorem Rf5:∀ {l:List (Option α)} {i j:Nat} {e e':α},l[i]? = some (some e)→l[j]? = some (some e')→rk l i=rk l j→i=j
 | [],i,j,e,e',h,_,_=>by simp at h
 | x::r,0,0,_,_,_,_,_=>rfl
 | none::r,0,j+1,e,e',h,_,_=>by simp at h
 | some a::r,0,j+1,e,e',_,_,hr=>by simp [rk] at hr
 | none::r,i+1,0,e,e',_,h,_=>by simp at h
 | some a::r,i+1,0,e,e',_,_,hr=>by simp [rk] at hr
 | none::r,i+1,j+1,e,e',h,h',hr=>by
  have:=Rf5 (l:=r) (i:=i) (j:=j) (by simpa using h) (by simpa using h') (by simpa [rk] using hr)
  omega
 | some a::r,i+1,j+1,e,e',h,h',hr=>by
  have:=Rf5 (l:=r) (i:=i) (j:=j) (by simpa using h) (by simpa using h') (by simpa [rk] using hr)
  omega
theorem Rf4:∀ {l:List (Option α)} {q:Nat},q < (l.filterMap id).length→∃ j e,l[j]? = some (some e)∧rk l j=q
 | [],q,h=>by simp at h
 | none::r,q,h=>by
  obtain⟨j,e,h1,h2⟩:=Rf4 (l:=r) (q:=q) (by simpa using h)
  exact⟨j+1,e,by simpa using h1,by simpa [rk] using h2⟩
 | some a::r,0,h=>⟨0,a,rfl,rfl⟩
 | some a::r,q+1,h=>by
  obtain⟨j,e,h1,h2⟩:=Rf4 (l:=r) (q:=q) (by simpa using h)
  exact⟨j+1,e,by simpa using h1,by simpa [rk] using h2⟩
def Gcc (b:α→σ→(σ→Option (σ ⊕ Prop))→Option (σ ⊕ Prop)) (kx:σ→Option Prop) (l:List (Option α)) (seen:List Nat) (s:σ):Prop:=
 (∀ j∈seen,∃ e,l[j]? = some (some e))∧MInv b kx (l.filterMap id) (seen.map (rk l)) s
theorem Gcc.start {b:α→σ→(σ→Option (σ ⊕ Prop))→Option (σ ⊕ Prop)} {kx:σ→Option Prop} {l:List (Option α)} {s:σ} {p:Prop} (h:J00 b kx (l.filterMap id) s=some p) (hp:p):Gcc b kx l [] s:=
 ⟨by simp,MInv.start h hp⟩
theorem Gcc.step {b:α→σ→(σ→Option (σ ⊕ Prop))→Option (σ ⊕ Prop)} {kx:σ→Option Prop} {l:List (Option α)} {seen:List Nat} {s:σ} {j:Nat} {e:α} (h:Gcc b kx l seen s) (hj:l[j]? = some (some e)) (hs:j ∉ seen) :
  ∃ o,b e s (fun s'=>some (.inl s'))=some o∧(∀ r,o=.inr r→r)∧∀ s',o=.inl s'→Gcc b kx l (seen++[j]) s':=by
 obtain⟨h1,h2⟩:=h
 obtain⟨o,o1,o2,o3⟩:=h2.step (Rf6 hj) (fun hm=>by
  obtain⟨i,hi,e2⟩:=Mm.1 hm
  obtain⟨e',h0⟩:=h1 i hi
  exact hs (Rf5 h0 hj e2 ▸ hi))
 refine⟨o,o1,o2,fun s' ho=>⟨fun i hi=>?_,?_⟩⟩
 ·rcases Mk.1 hi with hi | hi
  ·exact h1 i hi
  ·simp at hi; subst hi; exact⟨e,hj⟩
 ·rw [List.map_append]; exact o3 s' ho
theorem Gcc.done {b:α→σ→(σ→Option (σ ⊕ Prop))→Option (σ ⊕ Prop)} {kx:σ→Option Prop} {l:List (Option α)} {seen:List Nat} {s:σ} (h:Gcc b kx l seen s) (ha:∀ q e,l[q]? = some (some e)→q∈seen):∃ p,kx s=some p∧p:=
 h.2.done (fun q hq=>by
  obtain⟨j,e,h1,h2⟩:=Rf4 hq
  exact Mm.2 ⟨j,ha j e h1,h2⟩)
end gaps
set_option linter.unusedSimpArgs false

section code
variable {κ:Type} {E:H96 κ} {P:Program} {N:Cfg} {Q:H06 κ} {l:Fr} {L:Loc} {k:κ}
end code

section ops
variable {κ:Type} {E:H96 κ} {P:Program} {N:Cfg} {ops:Array Oper} {o:Oper} {rest:List Oper} {Q:H06 κ} {l:Fr} {L L':Loc} {u:AV} {k:κ}
end ops

/-! ### A slice of one's own that is begun anew -/
section mem
variable {P:Program} {o:Oper} {l:Fr} {L:Loc}
end mem

section lits
variable {P:Program} {o:Oper} {l:Fr} {L:Loc}
end lits

theorem Rk.vgiveB {N:Cfg} {l:Fr} {L:Loc} {w0 w:World} {β0 β:H5} {L0:Loc} {a:Act} (hs:Rk N w0 β0 L0 a w β l L) {i ver k n t t2 bx j:Nat} {cs:List AV} {xs:List AV} (ver1:Nat) (h0:lk L bx=some (.box t2 cs)) (hj:cs[j]? = some (.vec i ver k n)) (hi:lk L i=some (.vec t k ver xs)) (b5:ver < ver1) :
  ∃ β',Rk N w0 β0 L0 a w β' l ((bx,.box t2 (cs.set j (.list k xs)))::(i,.vec t k ver1 [])::L):=by
 have h9:i≠bx:=fun e=>by subst e; rw [hi] at h0; cases h0
 have a7:j < cs.length:=(M3 hj).1
 obtain⟨b,hb,vs,a8,b6,a9⟩:=hs.sat.obj bx _ h0
 have a0:j < vs.size:=by omega
 have hv:=a9 j _ vs[j] hj (by simp [a0])
 obtain⟨rfl,hk,h⟩:=G62 hs.sat hi hv
 obtain⟨st,sat⟩:=Rw (w':=w) (t:=t) (k:=k) (ver1:=ver1) (xs':=[]) (ob':=none) hs.sat (.inr ⟨ver,xs,hi,by omega,fun e=>by omega⟩) rfl rfl ⟨rfl,M8⟩ (M8) (fun _ _ _=>rfl) (.inl rfl)
 have sat':=sat ⟨by simp,.inl ⟨rfl,rfl⟩⟩
 have b0:Rk N w0 β0 L0 a w (upP β i none) l ((i,.vec t k ver1 [])::L):=⟨sat',hs.step.trans st,hs.frame.step st,hs.size,hs.base,hs.defers.step st⟩
 have b1:β.at_ bx=some b:=hb
 refine⟨_,b0.redescribeB (i:=bx) (t:=t2) (cs:=cs) (by rw [Gi,if_neg h9]; exact h0) (by simp) fun vs' q u v h8 a5 b7 hu h7=>?_⟩
 by_cases e:j=q
 ·subst e
  rw [List.getElem?_set_self a7] at hu
  cases hu
  obtain⟨b',h6,a1⟩:=h8
  have h6:(upP β i none).at_ bx=some b':=h6
  have b3:(upP β i none).at_ bx=β.at_ bx:=by simp [upP,Ne.symm h9]
  rw [b3,b1] at h6
  cases h6
  rw [a8] at a1
  cases a1
  have b4:v=vs[j]:=by rw [Array.getElem?_eq_getElem a0] at h7; exact(M5 h7).symm
  subst b4
  rcases h with ⟨e,rfl,_⟩ | ⟨b2,cap,vs2,e,a2,h1,h2,h3,h4,h5⟩
  ·rw [e]; exact .data (.nil (Nat.zero_le _))
  ·rw [e]
   have a3:∀ q,q < (flat xs).length→q < vs2.size:=fun q hq=>by
    rw [J1 hk] at hq
    have:=Nat.mul_le_mul_right k h1
    omega
   refine .data (.list (fun q=>vs2.getD q undef) h1 h2 hk (fun q hq=>⟨⟨(Ks h3).1,hs.sat.apart i b2 _ (by rw [hi]; rfl) a2,fun id o ho a4=>?_⟩,?_⟩) (fun q u hu=>?_))
   ·rw [Gi] at ho
    by_cases e:i=id
    ·subst e; simp [upP] at a4
    ·rw [if_neg e] at ho
     have a6:β.at_ id=some b2:=by simpa [upP,Ne.symm e] using a4
     exact absurd (hs.sat.inj i id b2 (by rw [hi]; rfl) (by rw [ho]; rfl) a2 a6) e
   ·have:=a3 q hq
    simp [World.cell?,h3,this]
   ·have hq:=(M3 hu).1
    have:=a3 q hq
    refine(h5 q u _ hu ?_).mono st.stab
    simp [this]
 ·rw [List.getElem?_set_ne e] at hu
  exact a5 q u v hu h7
theorem R17 {P:Program} {N:Cfg} {c:Code} {Q:Post} {l:Fr} {L:Loc} (bx j ver1:Nat) {i ver k n t t2:Nat} {cs cs':List AV} {xs:List AV} (h1:lk L bx=some (.box t2 cs)) (hj:cs[j]? = some (.vec i ver k n)) (hi:lk L i=some (.vec t k ver xs)) (h0:ver < ver1) (h2:cs.set j (.list k xs)=cs')
  (hk:JC P N c Q l ((bx,.box t2 cs')::(i,.vec t k ver1 [])::L)):JC P N c Q l L:=fun n w0 β0 L0 a w β hs=>by
 subst h2
 obtain⟨β',h⟩:=hs.vgiveB ver1 h1 hj hi h0
 exact hk n w0 β0 L0 a w β' h

theorem Rk.vown {N:Cfg} {l:Fr} {L:Loc} {w0 w:World} {β0 β:H5} {L0:Loc} {a:Act} (hs:Rk N w0 β0 L0 a w β l L) (ver1:Nat) {s i i' ver k n t:Nat} {xs:List AV} (a9:look l s=.vec i ver k n) (hi:lk L i=some (.vec t k ver xs)) (h6:lk L i'=none) :
  ∃ β',Rk N w0 β0 L0 a w β' ((s,.own i' ver1 k xs)::l) ((i',.spare t k ver1 xs.length)::(i,.vec t k (ver+1) [])::L):=by
 have a4:i'≠i:=fun e=>by subst e; rw [hi] at h6; cases h6
 let β':H5:=upP (upP β i none) i' (β.at_ i)
 let L':Loc:=(i',.spare t k ver1 xs.length)::(i,.vec t k (ver+1) [])::L
 have a1:β'.at_ i'=β.at_ i:=by simp [β',upP]
 have a2:β'.at_ i=none:=by simp [β',upP,Ne.symm a4]
 have a3:∀ id,id≠i'→id≠i→β'.at_ id=β.at_ id:=fun id h1 h2=>by simp [β',upP,h1,h2]
 have k1:lk L' i'=some (.spare t k ver1 xs.length):=by show lk (_::_) i'=_; rw [Gi,if_pos rfl]
 have k2:lk L' i=some (.vec t k (ver+1) []):=by show lk (_::_) i=_; rw [Gi,if_neg a4,Gi,if_pos rfl]
 have k3:∀ id,id≠i'→id≠i→lk L' id=lk L id:=fun id h1 h2=>by show lk (_::_) id=_; rw [Gi,if_neg (Ne.symm h1),Gi,if_neg (Ne.symm h2)]
 have old:∀ id b,(lk L' id).isSome=true→β'.at_ id=some b→(id=i'∧β.at_ i=some b)∨(id≠i'∧id≠i∧(lk L id).isSome=true∧β.at_ id=some b):=fun id b h1 h2=>by
  by_cases e1:id=i'
  ·subst e1; exact .inl ⟨rfl,a1.symm.trans h2⟩
  ·by_cases e2:id=i
   ·subst e2; rw [a2] at h2; cases h2
   ·exact .inr ⟨e1,e2,by rw [← k3 id e1 e2]; exact h1,(a3 id e1 e2).symm.trans h2⟩
 have h0:(lk L i).isSome=true:=by rw [hi]; rfl
 have ne':∀ id o,lk L id=some o→id≠i':=fun id o h e=>by subst e; rw [h6] at h; cases h
 have st:Step w β L w β' L':=by
  refine⟨rfl,rfl,⟨rfl,M8⟩,M8,fun _ _ _=>Iff.rfl,fun b j h=>⟨⟨h.lt,h.seen,fun id o ho hb=>?_⟩,rfl⟩,fun b hb hf=>⟨rfl,fun id hid h7=>?_⟩,fun id t cs h=>?_,fun id t cs h=>?_,fun id t n cs h=>?_,fun id t' k' ver' xs' h=>?_,fun id t' k' ver' hw h=>?_⟩
  ·rcases old id b (by rw [ho]; rfl) hb with ⟨_,h2⟩ | ⟨h1,h2,h3,h4⟩
   ·exact(h.kept i _ hi h2).elim
   ·rw [k3 id h1 h2] at ho
    exact h.kept id o ho h4
  ·rcases old id b hid h7 with ⟨_,h2⟩ | ⟨_,_,h3,h4⟩
   ·exact hf i h0 h2
   ·exact hf id h3 h4
  ·have h2:id≠i:=fun e=>by subst e; rw [hi] at h; cases h
   exact⟨a3 id (ne' id _ h) h2,cs,(k3 id (ne' id _ h) h2).trans h⟩
  ·have h2:id≠i:=fun e=>by subst e; rw [hi] at h; cases h
   exact⟨a3 id (ne' id _ h) h2,cs,(k3 id (ne' id _ h) h2).trans h⟩
  ·have h2:id≠i:=fun e=>by subst e; rw [hi] at h; cases h
   exact⟨a3 id (ne' id _ h) h2,n,cs,(k3 id (ne' id _ h) h2).trans h⟩
  ·by_cases h2:id=i
   ·subst h2
    rw [hi] at h; cases h
    exact⟨ver+1,[],k2,by omega,fun e=>by omega⟩
   ·exact⟨ver',xs',(k3 id (ne' id _ h) h2).trans h,M8,fun _=>⟨rfl,a3 id (ne' id _ h) h2,fun _ _=>rfl⟩⟩
  ·have h2:id≠i:=fun e=>by subst e; rw [hi] at h; cases h
   exact⟨ver',hw,(k3 id (ne' id _ h) h2).trans h,M8,fun _=>⟨rfl,a3 id (ne' id _ h) h2,fun _ _=>rfl⟩⟩
 have a8:=hs.sat.obj i _ hi
 have sat:Sat w β' L':=by
  refine⟨hs.sat.hid,fun id b h hb=>?_,fun id b q h hb=>?_,fun id id' b h h' hb b0=>?_,fun id o ho=>?_⟩
  ·rcases old id b h hb with ⟨_,h2⟩ | ⟨_,_,h3,h4⟩
   ·exact hs.sat.bnd i b h0 h2
   ·exact hs.sat.bnd id b h3 h4
  ·rcases old id b h hb with ⟨_,h2⟩ | ⟨_,_,h3,h4⟩
   ·exact hs.sat.apart i b q h0 h2
   ·exact hs.sat.apart id b q h3 h4
  ·rcases old id b h hb with ⟨e1,h2⟩ | ⟨e1,e2,h3,h4⟩ <;> rcases old id' b h' b0 with ⟨e1',b1⟩ | ⟨e1',e2',a5,a6⟩
   ·rw [e1,e1']
   ·exact(e2' (hs.sat.inj id' i b a5 h0 a6 h2)).elim
   ·exact(e2 (hs.sat.inj id i b h3 h0 h4 b1)).elim
   ·exact hs.sat.inj id id' b h3 a5 h4 a6
  ·by_cases e1:id=i'
   ·subst e1
    rw [k1] at ho; cases ho
    rw [a1]
    rcases a8.2 with ⟨h1,h2⟩ | ⟨b,h1,vs,h2,h3,_⟩
    ·exact .inl ⟨h1,by rw [h2]; rfl⟩
    ·exact .inr ⟨b,h1,vs,h2,h3⟩
   ·by_cases e2:id=i
    ·subst e2
     rw [k2] at ho; cases ho
     rw [a2]
     exact⟨by simp,.inl ⟨rfl,rfl⟩⟩
    ·rw [k3 id e1 e2] at ho
     rw [a3 id e1 e2]
     exact(hs.sat.obj id o ho).step st (fun _ _=>rfl)
 refine⟨β',sat,hs.step.trans st,⟨fun t'=>?_⟩,hs.size,hs.base,hs.defers.step st⟩
 simp only [look]
 cases hb:Nat.beq s t' with
 | false=>exact(hs.frame.tmp t').step st
 | true=>
  have:=Kv hb
  subst this
  have hv:=hs.frame.tmp s
  rw [a9] at hv
  simp only [cond_true]
  obtain⟨rfl,hk,h⟩:=G62 hs.sat hi hv
  have a7:=J1 hk
  rcases h with ⟨e,rfl,hn⟩ | ⟨b,cap,vs,e,h8,h1,h2,h3,h4,h5⟩
  ·rw [e]
   refine .own (.nil (Nat.zero_le _)) ⟨t,ver1,0,k1,M8,fun _=>⟨rfl,?_,[],⟨by simp,.inl ⟨rfl,rfl⟩⟩,fun j u hu=>by simp [flat] at hu⟩⟩
   rw [a1,hn]; rfl
  ·rw [e]
   have h9:∀ q,q < (flat xs).length→q < vs.size:=fun q hq=>by
    rw [a7] at hq
    have:=Nat.mul_le_mul_right k h1
    omega
   have a0:∀ (q:Nat) u,(flat xs)[q]? = some u→D w (Ju w β' L') u (vs.getD q undef):=fun q u hu=>by
    have hq:=(M3 hu).1
    have:=h9 q hq
    exact(h5 q u _ hu (by simp [this])).mono st.stab
   refine .own (.list (fun q=>vs.getD q undef) h1 h2 hk (fun q hq=>⟨⟨(Ks h3).1,hs.sat.apart i b _ h0 h8,fun id o ho h7=>?_⟩,?_⟩) a0) ⟨t,ver1,xs.length,k1,M8,fun _=>⟨rfl,?_,vs.toList.take (xs.length*k),⟨?_,.inr ⟨b,cap,vs,rfl,Nat.zero_le _,h3,h1,h2,h4,rfl⟩⟩,fun q u hu=>?_⟩⟩
   ·rcases old id b (by rw [ho]; rfl) h7 with ⟨e1,_⟩ | ⟨_,e2,g3,g4⟩
    ·subst e1
     rw [k1] at ho; cases ho
     show 0+q < xs.length*k
     omega
    ·exact(e2 (hs.sat.inj id i b g3 h0 g4 h8)).elim
   ·have:=h9 q hq
    simp [World.cell?,h3,this]
   ·rw [a1,h8]; rfl
   ·have:=Nat.mul_le_mul_right k h1
    simp only [List.length_take,Array.length_toList]
    omega
   ·have hq:=(M3 hu).1
    have:=h9 q hq
    refine⟨vs.getD q undef,?_,a0 q u hu⟩
    rw [a7] at hq
    rw [Md,if_pos hq]
    simp [this]

def Gde {κ:Type} (f:κ→List AV) (l:List (Option κ)):List Nat→List AV→List Nat→Prop:=fun seen us seen'=>∃ q a,l[q]? = some (some a)∧q ∉ seen∧us=f a∧seen'=seen++[q]
def G55 {κ:Type} (l:List (Option κ)):List Nat→Prop:=fun seen=>∀ q a,l[q]? = some (some a)→q∈seen
def Gu.keys {κ ν:Type} (m:Gu κ ν):List (Option κ):=m.l.map (Option.map Prod.fst)
theorem Ye0 {κ ν:Type} {m:Gu κ ν} {q:Nat} {e:κ×ν} (h:m.l[q]? = some (some e)):(Gu.keys m)[q]? = some (some e.1):=by
 rw [Gu.keys,Mc,h]; rfl
theorem R32 {κ ν:Type} {f:κ→List AV} {m:Gu κ ν} {seen:List Nat} {q:Nat} {e:κ×ν} (h:m.l[q]? = some (some e)) (hs:q ∉ seen):Gde f (Gu.keys m) seen (f e.1) (seen++[q]):=⟨q,e.1,Ye0 h,hs,rfl,rfl⟩
theorem Q96 {κ ν:Type} {m:Gu κ ν} {seen:List Nat} (h:∀ q e,m.l[q]? = some (some e)→q∈seen):G55 (Gu.keys m) seen:=fun q a hq=>by
 rw [Gu.keys,Mc] at hq
 cases ho:m.l[q]? with
 | none=>rw [ho] at hq; cases hq
 | some o=>
  cases o with
  | none=>rw [ho] at hq; cases hq
  | some e=>exact h q e ho
theorem Hbd {κ ν:Type} [DecidableEq κ] (m:Gu κ ν):(Gu.keys m).filterMap id=(Gu.Hf m).map Prod.fst:=by
 unfold Gu.keys Gu.Hf
 induction m.l with
 | nil=>rfl
 | cons o r ih=>cases o <;> simp [ih]

section ops
variable {κ:Type} {E:H96 κ} {P:Program} {N:Cfg} {ops:Array Oper} {o:Oper} {rest:List Oper} {Q:H06 κ} {l:Fr} {L:Loc} {k:κ} {R:AV→Loc→Prop}
theorem Qc5 {d:Nat} (hE:E.Ok P) (hg:o.guard=none) (hd:o.dst=some d) (hn:Nat.blt d N.n=true) (h:H2 P o l L R)
  (hk:∀ u L',R u L'→JIL E P N ops rest Q ((d,u)::l) L' k) (h2:G54 o=true:=by rfl):JIL E P N ops (o::rest) Q l L k:=by
 intro n a w β hs
 refine Gd8 (ro:=none) hg h2 fun K hK=>h a w β K _ hs.sat hs.frame ?_
 intro u L' v w' β' hr h1 h0 hv
 have h3:d < a.tmps.size:=Kt (by simpa [Nat.blt_eq] using hn) hs.size
 rw [hd]
 exact hK _ _ (hk u L' hr n _ w' β' (hs.step hE h0 h1 ((hs.frame.step h0).put h3 hv) (Act.put_size ..) (Act.put_defers' ..)))
end ops

section calls
variable {P:Program} {o:Oper} {l:Fr} {L:Loc} {ρ:Type} {Rp:ρ→Prop}
theorem Rae {f:FuncId} {xs:List Operand} {args:List AV} {ts:Array TypeId} {g:ρ→AV} (ho:o.op=.call { callee:=.value (.func f),args:=xs.toArray,argTypes:=ts }) (hc:Pure P f args (fun av=>∃ r,Rp r∧av=g r)) (hB:H7 P f=true) (ha:G6c l xs args):H2 P o l L (fun u L'=>∃ r,Rp r∧u=g r∧L'=L):=
 fun a w β K Q h0 hf hK=>Ycd hc hB ha ho a w β K Q h0 hf (fun u L' v w' β' hr h1 h2 hv=>hK u L' v w' β' (by obtain⟨e,r,hp,e2⟩:=hr; exact⟨r,hp,e2,e⟩) h1 h2 hv)
theorem Jf8 {f:FuncId} {xs:List Operand} {args:List AV} {ts:Array TypeId} {u:Nat→ρ→AV} {Lr:Nat→ρ→Loc} (ho:o.op=.call { callee:=.value (.func f),args:=xs.toArray,argTypes:=ts }) (hc:Jh P f args [] (fun av L'=>∃ p:Nat,∃ r,Rp r∧av=u p r∧L'=Lr p r)) (hB:H7 P f=true) (ha:J0a l [] xs args)
  (h0:∀ p r,H4a L [] (Lr p r)=true):H2 P o l L (fun u' L''=>∃ p r,Rp r∧u'=u p r∧L''=Lr p r++Hb9 L []):=by
 have h2:Jh P f args [] (fun av L'=>∃ q:Nat×{r:ρ // Rp r},av=u q.1 q.2.1∧L'=Lr q.1 q.2.1):=hc.mono (fun av L' h=>by
  obtain⟨p,r,hp,e1,e2⟩:=h
  exact⟨(p,⟨r,hp⟩),e1,e2⟩)
 have h:=Qd0 (L:=L) ho h2 hB ha trivial rfl (fun q=>h0 q.1 q.2.1)
 exact fun a w β K Q h1 hf hK=>h a w β K Q h1 hf (fun u' L' v w' β' hr h3 h4 hv=>hK u' L' v w' β' (by obtain⟨q,e1,e2⟩:=hr; exact⟨q.1,q.2.1,q.2.2,e1,e2⟩) h3 h4 hv)
end calls
theorem Jh.toOwn {P:Program} {f:FuncId} {args:List AV} {α:Type} {i E k n:Nat} {g:α→AV} {r:List α} (i':Nat) (h1:Nat.beq i i'=false) (h:Jh P f args [] (fun av L'=>∃ p:Nat,av=.vec i p k n∧L'=[(i,.vec E k p (r.map g))])) :
  Jh P f args [] (fun av L'=>av=OW i' k g r∧L'=[(i',.spare E k r.length r.length)]):=fun w β vs a b c=>(h w β vs a b c).mono fun e w' hh=>by
 obtain⟨v,r',β',L',rfl,h2,h3,h4,p,rfl,rfl⟩:=hh
 have h5:i≠i':=fun e=>by subst e; simp at h1
 have hs:Rk ⟨1,[],none⟩ w β [] { tmps:=#[v],defers:=[] } w' β' [(0,.vec i p k n)] [(i,.vec E k p (r.map g))]:=by
  refine⟨h2,h3,⟨fun t=>?_⟩,M8,fun id hid=>by simp [lk] at hid,.nil⟩
  cases t with
  | zero=>exact h4
  | succ t=>exact V.junk
 obtain⟨β2,h6⟩:=hs.vown (s:=0) (i:=i) (i':=i') r.length rfl (by rw [Gi,if_pos rfl]) (by rw [Gi,if_neg h5]; rfl)
 have h7:(lk [(i',Ji.spare E k r.length r.length)] i').isSome=true:=by rw [Gi,if_pos rfl]; rfl
 have e1:lk ((i',Ji.spare E k r.length (r.map g).length)::(i,.vec E k (p+1) [])::[(i,.vec E k p (r.map g))]) i'=some (.spare E k r.length (r.map g).length):=by rw [Gi,if_pos rfl]
 have hf:Fits [] ((0,.own i' r.length k (r.map g))::[(0,.vec i p k n)]) ((i',Ji.spare E k r.length (r.map g).length)::(i,.vec E k (p+1) [])::[(i,.vec E k p (r.map g))]) [(0,.own i' r.length k (r.map g))] [(i',.spare E k r.length r.length)]:=by
  refine⟨⟨Conv.same (u:=.own i' r.length k (r.map g)) h7,trivial⟩,⟨⟨_,e1,by rw [Mj]; exact .same⟩,trivial⟩,rfl⟩
 have h0:=h6.fits (N:=⟨1,[],none⟩) hf
 exact⟨v,_,β2,_,rfl,h0.sat,h0.step,h0.frame.tmp 0,rfl,rfl⟩
section calls
variable {P:Program} {o:Oper} {l:Fr} {L:Loc}
end calls
def BG {α:Type} (k:Nat) (g:α→AV) (xs:List α):AV:=.bag k (xs.map g)
theorem Y93 {α β:Type} {g:α→β} {ys:List β}:∀ {xs:List α},ys.Perm (xs.map g)→∃ zs:List α,zs.Perm xs∧ys=zs.map g:=by
 have key:∀ (aQ bs:List β),aQ.Perm bs→∀ xs:List α,bs=xs.map g→∃ zs:List α,zs.Perm xs∧aQ=zs.map g:=by
  intro aQ bs h
  induction h with
  | nil=>intro xs e; exact⟨[],by have:xs=[]:=List.map_eq_nil_iff.1 e.symm; rw [this],rfl⟩
  | cons a _ ih=>
   intro xs e
   cases xs with
   | nil=>cases e
   | cons x xs=>
    rw [List.map_cons] at e
    injection e with e1 e2
    obtain⟨zs,h1,h2⟩:=ih xs e2
    exact⟨x::zs,h1.cons x,by rw [List.map_cons,← e1,h2]⟩
  | swap a b l=>
   intro xs e
   cases xs with
   | nil=>cases e
   | cons x xs=>
    cases xs with
    | nil=>simp at e
    | cons y xs=>
     simp only [List.map_cons,List.cons.injEq] at e
     exact⟨y::x::xs,List.Perm.swap x y xs,by simp [e.1,e.2.1,e.2.2]⟩
  | trans _ _ ih1 ih2=>
   intro xs e
   obtain⟨zs,h1,h2⟩:=ih2 xs e
   obtain⟨ws,h3,h4⟩:=ih1 zs h2
   exact⟨ws,h3.trans h1,h4⟩
 exact fun {xs} h=>key _ _ h xs rfl
theorem Pure.toBag {P:Program} {f:FuncId} {args:List AV} {α:Type} {k:Nat} {g:α→AV} {xs:List α} (h:Pure P f args (fun av=>∃ r:List α,r.Perm xs∧av=LS k g r)):Pure P f args (·=BG k g xs):=fun w β vs a b c=>(h w β vs a b c).mono fun e w' hh=>by
 obtain⟨v,r,β',L',h1,h2,h3,h4,h5,q,hq,rfl⟩:=hh
 subst h5
 exact⟨v,_,β',[],h1,h2,h3,.data (.bag (hq.map g) h4.data_of_nil),rfl,rfl⟩
theorem Pure.ofBag {P:Program} {f:FuncId} {pre:List AV} {u:AV} {α:Type} {k:Nat} {g:α→AV} {xs:List α} (h:∀ zs:List α,zs.Perm xs→Pure P f (pre++[LS k g zs]) (·=u)):Pure P f (pre++[BG k g xs]) (·=u):=fun w β vs a b c=>by
 have hb:vs.size=pre.length+1:=by simpa using b
 have hv:=(c pre.length (BG k g xs) (vs[pre.length]'(by omega)) (by simp) (by simp [hb])).data_of_nil
 obtain⟨zs,hz,hd⟩:∃ zs:List α,zs.Perm xs∧D w (Ju w β []) (LS k g zs) (vs[pre.length]'(by omega)):=by
  generalize vs[pre.length]'(by omega)=v at hv
  unfold BG at hv
  cases hv with
  | bag hp hd=>
   obtain⟨zs,h1,rfl⟩:=Y93 hp
   exact⟨zs,h1,hd⟩
 refine h zs hz w β vs a (by simpa using b) fun j x v hx hv=>?_
 rcases Kx j pre.length with hj | hj
 ·rw [Ma hj] at hx
  exact c j x v (by rw [Ma hj]; exact hx) hv
 ·rw [M9 hj] at hx
  have:j=pre.length:=by
   have:=(M3 hx).1
   simp at this; omega
  subst this
  simp at hx
  subst hx
  have e:=(Ks hv).2
  rw [← e]
  exact .data hd
abbrev ndM {α:Type} (m:(α→Prop)→Option Prop) (k:α→Option Prop):Option Prop:=m (fun r=>∃ p,k r=some p∧p)
end Go.Proofs.YtidpfkmbfgihlaaGreat
