/-
 The orders of search: The ways to pile boxes up: search.states: search.states:
-/
import Derived.Test.YtibhpogonkdiaaaGreatIsortL
set_option linter.unusedSimpArgs false
set_option linter.unnecessarySimpa false
set_option maxRecDepth 100000
set_option linter.unusedVariables false
namespace Go.Proofs.YtibhpogonkdiaaaGreat
open Go.RowKit Go.Sort

theorem Q51 {α:Type} {c:α→α→Int} (hc:R42 c):SWO (ltOf c) where
 irrefl x:=by
  show decide (c x x < 0)=false
  exact Kv (fun h=>hc.asym x x h h)
 trans x y z h1 h2:=by
  have h1:c x y < 0:=Ks h1
  have h2:c y z < 0:=Ks h2
  refine Ku (Classical.byContradiction fun h=>?_)
  exact hc.ntrans y z x (hc.asym y z h2) h h1
 ntrans x y z h1 h2:=by
  have h1:¬ c x y < 0:=Kt h1
  have h2:¬ c y z < 0:=Kt h2
  exact Kv (hc.ntrans z y x h2 h1)
theorem R22 {α:Type} [Inhabited α] {cmp:α→α→Option Int} {c:α→α→Int} (hc:R42 c) (h0:∀ a b,cmp a b=some (c a b)) {xs:List α} (hu:∀ a∈xs,∀ b∈xs,¬ c a b < 0→¬ c b a < 0→a=b) (hl:xs.length < 4611686018427387904):Hcc cmp xs=some (H49 c xs):=by
 rw [Qa5 c h0 (Q51 hc) hl]
 obtain⟨hp,h5,hs⟩:=H88 c (Q51 hc) xs
 have h3:(Z2 c xs).Perm (H49 c xs):=hp.trans (Ze c xs).symm
 have h1:(Z2 c xs).Pairwise (J79 c):=List.pairwise_iff_getElem.2 (fun i j hi hj h4=>Kt (hs i j h4 hj))
 have h2:=Zz hc xs
 congr 1
 exact List.Perm.eq_of_pairwise (le:=J79 c) (fun a b ha hb h1 h2=>hu a (hp.mem_iff.1 ha) b ((Ze c xs).mem_iff.1 hb) h2 h1) h1 h2 h3
def G55 (a b:Int):Int:=bif decide (a < b) then -1 else bif decide (b < a) then 1 else 0
theorem R66 (a b:Int):R3 a b=some (G55 a b):=by
 have h1:decide (a≠a)=false:=by simp
 have h2:decide (b≠b)=false:=by simp
 simp only [R3,G0d,bnd,h1,h2,cond_false]
 unfold G55
 cases decide (a < b) <;> cases decide (b < a) <;> rfl
theorem Y60 (a b:Int):Zq a b=some (G55 a b):=by
 have h1:decide (a≠a)=false:=by simp
 have h2:decide (b≠b)=false:=by simp
 simp only [Zq,G1a,bnd,h1,h2,cond_false]
 unfold G55
 cases decide (a < b) <;> cases decide (b < a) <;> rfl
def orI:List Int→Int
 | []=>0
 | x::r=>bif decide (x≠0) then x else orI r
theorem Y61 (l:List Int):G6a l=some (orI l):=by
 unfold G6a
 have key:∀ (l:List Int) (i:Nat),each (fun(y19:Int) (_:Nat) (_:Unit) nx19=>bif decide (y19≠0) then some y19 else nx19 ()) (fun(_:Unit)=>some (0:Int)) l i ()=some (orI l):=by
  intro l
  induction l with
  | nil=>intro i; rfl
  | cons x r ih=>
   intro i
   rw [each,orI]
   cases decide (x≠0) with
   | true=>rfl
   | false=>exact ih _
 exact key l 0
def G72 (a b:Slot):Int:=orI [G55 a.G4 b.G4,G55 a.Tier b.Tier,G55 a.Half b.Half]
theorem Qab (a b:Slot):G2f a b=some (G72 a b):=by
 simp only [G2f,R66,Y60,Y61,bnd]; rfl

structure Cmp {α:Type} (c:α→α→Int):Prop where
 anti:∀ x y,c y x = - c x y
 trans:∀ x y z,c x y≤0→c y z≤0→c x z≤0
theorem Cmp.ordc {α:Type} {c:α→α→Int} (h:Cmp c):R42 c:=
 ⟨fun x y h0 h4=>by have:=h.anti x y; omega,fun x y z h1 h2 h3=>by
  have a1:=h.anti x y
  have a2:=h.anti y z
  have a3:=h.anti x z
  have:=h.trans x y z (by omega) (by omega)
  omega⟩
theorem Cmp.strict {α:Type} {c:α→α→Int} (h:Cmp c) {x y z:α} (h1:c x y < 0) (h2:c y z≤0):c x z < 0:=by
 have t:=h.trans x y z (by omega) h2
 rcases Int.lt_or_eq_of_le t with h' | h'
 ·exact h'
 ·have a:=h.anti x z
  have:=h.trans y z x h2 (by omega)
  have b:=h.anti x y
  omega
theorem Cmp.strict2 {α:Type} {c:α→α→Int} (h:Cmp c) {x y z:α} (h1:c x y≤0) (h2:c y z < 0):c x z < 0:=by
 have t:=h.trans x y z h1 (by omega)
 rcases Int.lt_or_eq_of_le t with h' | h'
 ·exact h'
 ·have a:=h.anti x z
  have:=h.trans z x y (by omega) h1
  have b:=h.anti y z
  omega
theorem Cmp.refl {α:Type} {c:α→α→Int} (h:Cmp c) (x:α):c x x=0:=by have:=h.anti x x; omega
def J78 {α:Type} (c d:α→α→Int) (x y:α):Int:=bif decide (c x y≠0) then c x y else d x y
theorem Cmp.lex {α:Type} {c d:α→α→Int} (hc:Cmp c) (hd:Cmp d):Cmp (J78 c d):=by
 refine⟨fun x y=>?_,fun x y z h1 h2=>?_⟩
 ·unfold J78
  have a:=hc.anti x y
  have b:=hd.anti x y
  by_cases h:c x y=0
  ·have h':c y x=0:=by omega
   simp [h,h',b]
  ·have h':c y x≠0:=by omega
   simp [h,h',a]
 ·unfold J78 at h1 h2 ⊢
  by_cases e1:c x y=0
  ·by_cases e2:c y z=0
   ·have t1:=hc.trans x y z (by omega) (by omega)
    have t2:=hc.trans z y x (by have:=hc.anti y z; omega) (by have:=hc.anti x y; omega)
    have a:=hc.anti x z
    have e3:c x z=0:=by omega
    simp [e1] at h1
    simp [e2] at h2
    simp [e3]
    exact hd.trans x y z h1 h2
   ·simp [e2] at h2
    have:=hc.strict2 (x:=x) (y:=y) (z:=z) (by omega) (by omega)
    have e3:c x z≠0:=by omega
    simp [e3]; omega
  ·simp [e1] at h1
   by_cases e2:c y z=0
   ·have:=hc.strict (x:=x) (y:=y) (z:=z) (by omega) (by omega)
    have e3:c x z≠0:=by omega
    simp [e3]; omega
   ·simp [e2] at h2
    have:=hc.strict (x:=x) (y:=y) (z:=z) (by omega) (by omega)
    have e3:c x z≠0:=by omega
    simp [e3]; omega
theorem Q32 {α:Type} {c d:α→α→Int} {x y:α}:J78 c d x y=0 ↔ c x y=0∧d x y=0:=by
 unfold J78
 by_cases h:c x y=0 <;> simp [h]
theorem H2e {a b:Int}:G55 a b < 0 ↔ a < b:=by
 unfold G55
 by_cases h:a < b
 ·simp [h]
 ·by_cases h2:b < a <;> simp [h,h2]
theorem H4b {a b:Int}:G55 a b=0 ↔ a=b:=by
 unfold G55
 by_cases h:a < b
 ·simp [h]; omega
 ·by_cases h2:b < a
  ·simp [h,h2]; omega
  ·simp [h,h2]; omega
theorem J8b {a b:Int}:G55 a b≤0 ↔ a≤b:=by
 unfold G55
 by_cases h:a < b
 ·simp [h]; omega
 ·by_cases h2:b < a
  ·simp [h,h2]
  ·simp [h,h2]; omega
theorem J18 {α:Type} (f:α→Int):Cmp (fun x y:α=>G55 (f x) (f y)):=
 ⟨fun x y=>by
  show G55 (f y) (f x) = - G55 (f x) (f y)
  unfold G55
  by_cases h:f x < f y
  ·have:¬ f y < f x:=by omega
   simp [h,this]
  ·by_cases h2:f y < f x <;> simp [h,h2],fun x y z h1 h2=>J8b.2 (by have:=J8b.1 h1; have:=J8b.1 h2; omega)⟩
theorem J87 (a b:Slot):G72 a b=J78 (fun x y:Slot=>G55 x.G4 y.G4) (J78 (fun x y:Slot=>G55 x.Tier y.Tier) (fun x y:Slot=>G55 x.Half y.Half)) a b:=by
 unfold G72 J78
 simp only [orI]
 cases decide (G55 a.G4 b.G4≠0) with
 | true=>rfl
 | false=>
  cases decide (G55 a.Tier b.Tier≠0) with
  | true=>rfl
  | false=>
   simp only [cond_false]
   by_cases h:G55 a.Half b.Half=0 <;> simp [h]
theorem H46:Cmp G72:=by
 have h:=(J18 (fun x:Slot=>x.G4)).lex ((J18 (fun x:Slot=>x.Tier)).lex (J18 (fun x:Slot=>x.Half)))
 have e:G72=J78 (fun x y:Slot=>G55 x.G4 y.G4) (J78 (fun x y:Slot=>G55 x.Tier y.Tier) (fun x y:Slot=>G55 x.Half y.Half)):=by funext a b; exact J87 a b
 rw [e]; exact h
theorem Q25 {a b:Slot}:G72 a b=0 ↔ a=b:=by
 rw [J87,Q32,Q32]
 show G55 a.G4 b.G4=0∧G55 a.Tier b.Tier=0∧G55 a.Half b.Half=0 ↔ a=b
 rw [H4b,H4b,H4b]
 cases a; cases b; simp
def Yx:List G1→List G1→Int
 | [],[]=>0
 | [],_::_ => -1
 | _::_,[]=>1
 | x::a,y::b=>bif decide (G72 x.Slot y.Slot≠0) then G72 x.Slot y.Slot else Yx a b
theorem Q31:∀ a b:List G1,Yx b a = - Yx a b
 | [],[]=>rfl
 | [],_::_=>rfl
 | _::_,[]=>rfl
 | x::a,y::b=>by
  have h1:=H46.anti x.Slot y.Slot
  have h2:=Q31 a b
  unfold Yx
  by_cases h:G72 x.Slot y.Slot=0
  ·have h':G72 y.Slot x.Slot=0:=by omega
   simp [h,h',h2]
  ·have h':G72 y.Slot x.Slot≠0:=by omega
   simp [h,h',h1]
theorem Jc7:∀ a b c:List G1,Yx a b≤0→Yx b c≤0→Yx a c≤0
 | [],_,[],_,_=>Int.le_refl _
 | [],_,_::_,_,_=>by simp [Yx]
 | _::_,[],_,h,_=>by simp [Yx] at h
 | _::_,_::_,[],_,h=>by simp [Yx] at h
 | x::a,y::b,z::c,h1,h2=>by
  have ih:=Jc7 a b c
  unfold Yx at h1 h2 ⊢
  by_cases e1:G72 x.Slot y.Slot=0
  ·have exy:=Q25.1 e1
   simp [e1] at h1
   by_cases e2:G72 y.Slot z.Slot=0
   ·have e3:G72 x.Slot z.Slot=0:=by rw [exy]; exact e2
    simp [e2] at h2
    simp [e3]; exact ih h1 h2
   ·simp [e2] at h2
    have e3:G72 x.Slot z.Slot=G72 y.Slot z.Slot:=by rw [exy]
    simp [e3,e2]; exact h2
  ·simp [e1] at h1
   have h0:G72 x.Slot z.Slot < 0:=H46.strict (y:=y.Slot) (by omega) (by
    by_cases e2:G72 y.Slot z.Slot=0
    ·omega
    ·simp [e2] at h2; exact h2)
   have e3:G72 x.Slot z.Slot≠0:=by omega
   simp [e3]; omega
theorem G15:Cmp Yx:=⟨Q31,Jc7⟩
theorem J33:∀ {a b:List G1},Yx a b=0→a.map (·.Slot)=b.map (·.Slot)
 | [],[],_=>rfl
 | [],_::_,h=>by simp [Yx] at h
 | _::_,[],h=>by simp [Yx] at h
 | x::a,y::b,h=>by
  unfold Yx at h
  by_cases e:G72 x.Slot y.Slot=0
  ·simp [e] at h
   rw [List.map_cons,List.map_cons,Q25.1 e,J33 h]
  ·simp [e] at h
theorem H95 (a b:List G1):Ya a b=some (Yx a b):=by
 have key:∀ (q:List G1) (n:Nat),each (fun(y38:G1) i38 (_:Unit) nx38=>
   bif decide ((b.length:Int)≤(i38:Int)) then (some (1:Int)) else
   (Q4 b (i38:Int) fun y47=>bnd (Y2 y38 y47) fun r50=>bif decide (r50≠0) then (some r50) else (nx38 ())))
  (fun(_:Unit)=>bif decide (((n+q.length:Nat):Int) < (b.length:Int)) then (some (-1)) else (some 0)) q n ()=if b.length < n then (if q=[] then some 0 else some 1) else some (Yx q (b.drop n)):=by
  intro q
  induction q with
  | nil=>
   intro n
   simp only [each,List.length_nil,Nat.add_zero]
   by_cases h:n < b.length
   ·rw [Ku (by omega),cond_true,if_neg (by omega)]
    rw [List.drop_eq_getElem_cons h]; rfl
   ·rw [Kv (by omega),cond_false]
    by_cases h':b.length < n
    ·rw [if_pos h']; rfl
    ·rw [if_neg h',List.drop_of_length_le (by omega)]; rfl
  | cons x q ih=>
   intro n
   rw [each]
   by_cases h:n < b.length
   ·rw [Kv (by omega),cond_false,if_neg (by omega),H65 (m:=n) rfl (Kx h),List.drop_eq_getElem_cons h]
    have hs:Y2 x b[n]=some (G72 x.Slot b[n].Slot):=by unfold Y2; rw [Qab]; rfl
    rw [hs,G42]
    unfold Yx
    cases hd:decide (G72 x.Slot b[n].Slot≠0) with
    | true=>rfl
    | false=>
     rw [cond_false,cond_false]
     have:=ih (n+1)
     rw [if_neg (by omega)] at this
     rw [show n+(x::q).length=n+1+q.length by simp; omega]
     exact this
   ·rw [Ku (by omega),cond_true]
    by_cases h':b.length < n
    ·rw [if_pos h',if_neg (by simp)]
    ·rw [if_neg h',List.drop_of_length_le (by omega)]; rfl
 unfold Ya Ri
 have:=key a 0
 rw [if_neg (by omega),List.drop_zero,Nat.zero_add] at this
 exact congrArg (fun o:Option Int=>bnd o fun r3=>some r3) this
open Go.RowKit

def J30 (a b:G1):Prop:=a.Slot.G4 < b.Slot.G4∨(a.Slot.G4=b.Slot.G4∧a.Slot.Tier < b.Slot.Tier)
theorem Qbc (hs:List Int) {c:Nat} (hc:c < hs.length) (v:Int) (c':Nat):(hs.set c v).getD c' 0=if c'=c then v else hs.getD c' 0:=by
 by_cases h:c'=c
 ·subst h; simp [List.getD,hc]
 ·rw [if_neg h]
  simp only [List.getD,List.getElem?_set_ne (Ne.symm h)]
theorem R2a {ts hs:List Int} {c:Nat} (h:shut ts hs c=false):hs.getD c 0 < ts.getD c 0∧∀ c',c < c'→hs.getD c' 0≤0:=by
 unfold shut at h
 simp only [Mj,decide_eq_false_iff_not,List.any_eq_false,Mb] at h
 refine⟨by omega,fun c' h0=>?_⟩
 rcases Kq c' hs.length with hl | hl
 ·have hm:hs[c']∈hs.drop (c+1):=by
   refine List.mem_iff_getElem.2 ⟨c' - (c+1),by simp; omega,?_⟩
   simp only [List.getElem_drop]
   congr 1; omega
  have:=h.1 _ hm
  simp only [List.getD,Kx hl,Option.getD_some]; omega
 ·simp [List.getD,List.getElem?_eq_none hl]
theorem Y09 {ts hs:List Int} {c:Nat} (h1:hs.getD c 0 < ts.getD c 0) (h2:∀ c',c < c'→hs.getD c' 0≤0):shut ts hs c=false:=by
 unfold shut
 simp only [Mj,decide_eq_false_iff_not,List.any_eq_false,Mb]
 refine⟨fun x hx=>?_,by omega⟩
 obtain⟨j,hj,rfl⟩:=List.mem_iff_getElem.1 hx
 rw [List.getElem_drop]
 have hl:c+1+j < hs.length:=by simp at hj; omega
 have:=h2 (c+1+j) (by omega)
 simp only [List.getD,Kx hl,Option.getD_some] at this
 omega
theorem Gc5 (ts:List Int) (F:Nat) (ids hs:List Int):G41 ts (F+1) ids hs=bif ids.isEmpty then [[]] else
   (List.range ts.length).flatMap fun c=>bif shut ts hs c then [] else
    (List.range ids.length).flatMap fun i=>(G41 ts F (ids.eraseIdx i) (hs.set c (hs.getD c 0+1))).map fun r=>(⟨ids.getD i 0,⟨(c:Int),hs.getD c 0,0⟩⟩:G1)::r:=rfl
theorem Jd4 {α:Type} {l:List α} {i:Nat} (h:i < l.length):(l[i]::l.eraseIdx i).Perm l:=by
 rw [List.eraseIdx_eq_take_drop_succ]
 have h1:=List.perm_middle (a:=l[i]) (l₁:=l.take i) (l₂:=l.drop (i+1))
 rw [← List.drop_eq_getElem_cons h,List.take_append_drop] at h1
 exact h1.symm
theorem Jc2 {ts:List Int} {F:Nat} {ids hs:List Int} {r:List G1}:r∈G41 ts (F+1) ids hs ↔ (ids=[]∧r=[])∨(ids≠[]∧∃ c i q,c < ts.length∧shut ts hs c=false∧i < ids.length∧q∈G41 ts F (ids.eraseIdx i) (hs.set c (hs.getD c 0+1))∧r=(⟨ids.getD i 0,⟨(c:Int),hs.getD c 0,0⟩⟩:G1)::q):=by
 rw [Gc5]
 cases ids with
 | nil=>simp
 | cons a l=>
  simp only [List.isEmpty_cons,cond_false,List.mem_flatMap,List.mem_range,reduceCtorEq,false_and,false_or,ne_eq,not_false_eq_true,true_and]
  constructor
  ·rintro⟨c,hc,hr⟩
   cases h0:shut ts hs c with
   | true=>rw [h0] at hr; simp at hr
   | false=>
    rw [h0] at hr
    simp only [cond_false,List.mem_flatMap,List.mem_range,Me] at hr
    obtain⟨i,hi,q,hq,rfl⟩:=hr
    exact⟨c,i,q,hc,h0,hi,hq,rfl⟩
  ·rintro⟨c,i,q,hc,h0,hi,hq,rfl⟩
   refine⟨c,hc,?_⟩
   rw [h0]
   simp only [cond_false,List.mem_flatMap,List.mem_range,Me]
   exact⟨i,hi,q,hq,rfl⟩

structure Qcd (ts hs:List Int) (l:List G1):Prop where
 place:∀ x∈l,x.Slot.Half=0∧∃ c:Nat,x.Slot.G4=(c:Int)∧c < ts.length∧hs.getD c 0≤x.Slot.Tier∧x.Slot.Tier < ts.getD c 0∧∀ c',c < c'→hs.getD c' 0≤0
 held:∀ x∈l,(∀ c:Nat,x.Slot.G4=(c:Int)→x.Slot.Tier≤hs.getD c 0)∨∃ y∈l,y.Slot=⟨x.Slot.G4,x.Slot.Tier - 1,0⟩
theorem Hec {ts:List Int}:∀ {F:Nat} {ids hs:List Int} {r:List G1},hs.length=ts.length→(∀ h∈hs,0≤h)→r∈G41 ts F ids hs→(r.map (·.Box)).Perm ids∧Qcd ts hs r∧r.Pairwise J30
 | 0,_,_,_,_,_,h=>by simp [G41] at h
 | F+1,ids,hs,r,hl,hn,h=>by
  rcases Jc2.1 h with ⟨rfl,rfl⟩ | ⟨h8,c,i,q,hc,h2,hi,hq,rfl⟩
  ·exact⟨List.Perm.refl _,⟨fun x hx=>(M0 hx).elim,fun x hx=>(M0 hx).elim⟩,.nil⟩
  ·have h1:c < hs.length:=by omega
   have hh:hs.getD c 0=hs[c]:=by simp [List.getD,h1]
   have h0:0≤hs.getD c 0:=by rw [hh]; exact hn _ (List.getElem_mem h1)
   obtain⟨s1,s2⟩:=R2a h2
   obtain⟨p1,p2,p3⟩:=Hec (F:=F) (by rw [List.length_set]; exact hl) (fun h hm=>by
    rcases List.mem_or_eq_of_mem_set hm with hm | rfl
    ·exact hn h hm
    ·omega) hq
   have hid:ids.getD i 0=ids[i]:=by simp [List.getD,hi]
   have gs:=Qbc hs h1 (hs.getD c 0+1)
   -- the later ones
   have late:∀ y∈q,J30 ⟨ids.getD i 0,⟨(c:Int),hs.getD c 0,0⟩⟩ y:=fun y hy=>by
    obtain⟨_,cy,e1,e2,e3,e4,e5⟩:=p2.place y hy
    rcases Nat.lt_trichotomy cy c with h3 | rfl | h9
    ·have:=e5 c h3
     rw [gs,if_pos rfl] at this; omega
    ·rw [gs,if_pos rfl] at e3
     exact .inr ⟨e1.symm,by show hs.getD cy 0 < y.Slot.Tier; omega⟩
    ·exact .inl (by show (c:Int) < y.Slot.G4; omega)
   refine⟨?_,⟨fun x hx=>?_,fun x hx=>?_⟩,List.pairwise_cons.2 ⟨late,p3⟩⟩
   ·rw [List.map_cons,hid]
    exact(p1.cons _).trans (Jd4 hi)
   ·rcases Mg.1 hx with rfl | hx
    ·exact⟨rfl,c,rfl,hc,Int.le_refl _,s1,s2⟩
    ·obtain⟨e0,cy,e1,e2,e3,e4,e5⟩:=p2.place x hx
     refine⟨e0,cy,e1,e2,?_,e4,fun c' h4=>?_⟩
     ·rw [gs] at e3
      split at e3
      ·next h=>subst h; omega
      ·exact e3
     ·have:=e5 c' h4
      rw [gs] at this
      split at this
      ·next h=>subst h; omega
      ·exact this
   ·rcases Mg.1 hx with rfl | hx
    ·refine .inl fun c2 e=>?_
     have e:(c:Int)=(c2:Int):=e
     have:c2=c:=by omega
     subst this
     exact Int.le_refl _
    ·obtain⟨e0,cy,e1,e2,e3,e4,e5⟩:=p2.place x hx
     rcases p2.held x hx with h5 | ⟨y,hy,h6⟩
     ·have:=h5 cy e1
      rw [gs] at this e3
      by_cases h:cy=c
      ·subst h
       rw [if_pos rfl] at this e3
       have h7:hs.getD cy 0=x.Slot.Tier - 1:=by omega
       exact .inr ⟨_,List.mem_cons_self ..,by rw [e1,← h7]⟩
      ·rw [if_neg h] at this
       refine .inl fun c2 e=>?_
       have:c2=cy:=by omega
       subst this; omega
     ·exact .inr ⟨y,List.mem_cons_of_mem _ hy,h6⟩
theorem Jd3:∀ {l:List G1},l≠[]→∃ x∈l,∀ y∈l,G72 x.Slot y.Slot≤0
 | [],h=>(h rfl).elim
 | [x],_=>⟨x,List.mem_cons_self ..,fun y hy=>by simp at hy; subst hy; rw [H46.refl]; exact Int.le_refl _⟩
 | x::y::r,_=>by
  obtain⟨m,hm,h0⟩:=Jd3 (l:=y::r) (by simp)
  by_cases h:G72 x.Slot m.Slot≤0
  ·refine⟨x,List.mem_cons_self ..,fun z hz=>?_⟩
   rcases Mg.1 hz with rfl | hz
   ·rw [H46.refl]; exact Int.le_refl _
   ·exact H46.trans _ _ _ h (h0 z hz)
  ·refine⟨m,List.mem_cons_of_mem _ hm,fun z hz=>?_⟩
   rcases Mg.1 hz with rfl | hz
   ·have:=H46.anti z.Slot m.Slot; omega
   ·exact h0 z hz
theorem R54 {a b:Slot} (h:G72 a b≤0):a.G4 < b.G4∨(a.G4=b.G4∧(a.Tier < b.Tier∨(a.Tier=b.Tier∧a.Half≤b.Half))):=by
 rw [J87] at h
 unfold J78 at h
 by_cases e1:G55 a.G4 b.G4=0
 ·have e1':=H4b.1 e1
  simp only [e1,ne_eq,not_true_eq_false,decide_false,cond_false] at h
  by_cases e2:G55 a.Tier b.Tier=0
  ·have e2':=H4b.1 e2
   simp only [e2,ne_eq,not_true_eq_false,decide_false,cond_false] at h
   exact .inr ⟨e1',.inr ⟨e2',J8b.1 h⟩⟩
  ·simp only [e2,ne_eq,not_false_eq_true,decide_true,cond_true] at h
   exact .inr ⟨e1',.inl (H2e.1 (by omega))⟩
 ·simp only [e1,ne_eq,not_false_eq_true,decide_true,cond_true] at h
  exact .inl (H2e.1 (by omega))

theorem Qbf {ts:List Int}:∀ {F:Nat} {ids hs:List Int} {l:List G1},hs.length=ts.length→(∀ h∈hs,0≤h)→ids.length < F→(l.map (·.Box)).Perm ids→Qcd ts hs l→l.Pairwise (fun a b=>a.Slot≠b.Slot)→∃ r∈G41 ts F ids hs,r.Perm l
 | 0,_,_,_,_,_,h,_,_,_=>by omega
 | F+1,ids,hs,l,hl,hn,hF,hp,hP,hd=>by
  by_cases h8:l=[]
  ·subst h8
   have:ids=[]:=by simpa using hp.symm.eq_nil
   exact⟨[],Jc2.2 (.inl ⟨this,rfl⟩),List.Perm.refl _⟩
  ·obtain⟨x,hx,h5⟩:=Jd3 h8
   obtain⟨e0,c,e1,e2,e3,e4,e5⟩:=hP.place x hx
   have h6:c < hs.length:=by omega
   have hh:hs.getD c 0=hs[c]:=by simp [List.getD,h6]
   have h0:0≤hs.getD c 0:=by rw [hh]; exact hn _ (List.getElem_mem h6)
   have ht:x.Slot.Tier=hs.getD c 0:=by
    rcases hP.held x hx with h | ⟨y,hy,a2⟩
    ·have:=h c e1; omega
    ·have:=R54 (h5 y hy)
     rw [a2] at this
     simp only at this
     omega
   have a3:shut ts hs c=false:=Y09 (by omega) e5
   have a1:x.Box∈ids:=hp.mem_iff.1 (List.mem_map_of_mem hx)
   obtain⟨i,hi,h9⟩:=List.mem_iff_getElem.1 a1
   have hid:ids.getD i 0=x.Box:=by simp [List.getD,hi,h9]
   have h7:l.Perm (x::l.erase x):=List.perm_cons_erase hx
   have a4:(⟨ids.getD i 0,⟨(c:Int),hs.getD c 0,0⟩⟩:G1)=x:=by
    obtain⟨bx,sl⟩:=x
    obtain⟨sc,st,sh⟩:=sl
    simp only at e0 e1 ht hid
    rw [hid,← e1,← ht,e0]
   have h4:∀ y∈l.erase x,y∈l:=fun y hy=>List.mem_of_mem_erase hy
   have a5:∀ y∈l.erase x,x.Slot≠y.Slot:=fun y hy=>by
    have a6:(x::l.erase x).Pairwise (fun a b=>a.Slot≠b.Slot):=h7.pairwise hd (fun h e=>h e.symm)
    exact(List.pairwise_cons.1 a6).1 y hy
   have gs:=Qbc hs h6 (hs.getD c 0+1)
   have later:∀ y∈l.erase x,∀ cy:Nat,y.Slot.G4=(cy:Int)→c≤cy∧(cy=c→hs.getD c 0+1≤y.Slot.Tier):=fun y hy cy ecy=>by
    have hm:=R54 (h5 y (h4 y hy))
    obtain⟨f0,_⟩:=hP.place y (h4 y hy)
    refine⟨by omega,fun e=>?_⟩
    subst e
    rcases hm with h | ⟨h1,h | ⟨h2,h3⟩⟩
    ·omega
    ·omega
    ·refine(a5 y hy ?_).elim
     obtain⟨bx,⟨sc,st,sh⟩⟩:=x
     obtain⟨by_,⟨sc',st',sh'⟩⟩:=y
     simp only at h1 h2 e0 f0
     rw [h1,h2,e0,f0]
   have a7:Qcd ts (hs.set c (hs.getD c 0+1)) (l.erase x):=by
    refine⟨fun y hy=>?_,fun y hy=>?_⟩
    ·obtain⟨f0,cy,f1,f2,f3,f4,f5⟩:=hP.place y (h4 y hy)
     obtain⟨g1,g2⟩:=later y hy cy f1
     refine⟨f0,cy,f1,f2,?_,f4,fun c' a8=>?_⟩
     ·rw [gs]
      split
      ·next h=>exact g2 h
      ·exact f3
     ·rw [gs,if_neg (by omega)]; exact f5 c' a8
    ·obtain⟨f0,cy,f1,f2,f3,f4,f5⟩:=hP.place y (h4 y hy)
     obtain⟨g1,g2⟩:=later y hy cy f1
     rcases hP.held y (h4 y hy) with h | ⟨z,hz,a0⟩
     ·refine .inl fun c2 e=>?_
      have ec:c2=cy:=by omega
      subst ec
      have:=h c2 e
      rw [gs]
      split
      ·next h'=>have:=g2 h'; subst h'; omega
      ·exact this
     ·by_cases ez:z=x
      ·subst ez
       refine .inl fun c2 e=>?_
       have ec:c2=cy:=by omega
       subst ec
       rw [a0] at e1 ht
       simp only at e1 ht
       have:c2=c:=by omega
       subst this
       rw [gs,if_pos rfl]; omega
      ·exact .inr ⟨z,(List.mem_erase_of_ne ez).2 hz,a0⟩
   obtain⟨q,hq,a9⟩:=Qbf (ts:=ts) (F:=F) (ids:=ids.eraseIdx i) (hs:=hs.set c (hs.getD c 0+1)) (l:=l.erase x) (by rw [List.length_set]; exact hl) (fun h hm=>by
    rcases List.mem_or_eq_of_mem_set hm with hm | rfl
    ·exact hn h hm
    ·omega) (by rw [List.length_eraseIdx_of_lt hi]; omega)
    (by
     have h1:(x.Box::(l.erase x).map (·.Box)).Perm ids:=((h7.map (fun y:G1=>y.Box)).symm.trans hp)
     have h2:(x.Box::ids.eraseIdx i).Perm ids:=by rw [← h9]; exact Jd4 hi
     exact(List.perm_cons _).1 (h1.trans h2.symm))
    a7 (hd.sublist (List.erase_sublist ..))
   exact⟨_,Jc2.2 (.inr ⟨fun e=>by rw [e] at hi; simp at hi,c,i,q,e2,a3,hi,hq,rfl⟩),by rw [a4]; exact(a9.cons x).trans h7.symm⟩
open Go.RowKit Go.Sort

theorem Q5e {α β:Type} {f:α→List β} {B:Nat}:∀ {l:List α},(∀ a∈l,(f a).length≤B)→(l.flatMap f).length≤l.length*B
 | [],_=>by simp
 | a::l,h=>by
  have h1:=h a (List.mem_cons_self ..)
  have h2:=Q5e (l:=l) (fun b hb=>h b (List.mem_cons_of_mem _ hb))
  rw [List.flatMap_cons,M8,M4,Nat.add_mul,Nat.one_mul]
  omega
theorem Q62 {ts:List Int} {m:Nat} (hm:1≤ts.length*m):∀ {F:Nat} {ids hs:List Int},ids.length≤m→(G41 ts F ids hs).length≤(ts.length*m) ^ ids.length
 | 0,ids,hs,_=>by simp [G41]
 | F+1,ids,hs,h=>by
  rw [Gc5]
  cases ids with
  | nil=>simp
  | cons a l=>
   simp only [List.isEmpty_cons,cond_false]
   refine Nat.le_trans (Q5e (B:=m*(ts.length*m) ^ l.length) fun c _=>?_) ?_
   ·cases shut ts hs c with
    | true=>simp
    | false=>
     simp only [cond_false]
     refine Nat.le_trans (Q5e (B:=(ts.length*m) ^ l.length) fun i hi=>?_) (by rw [List.length_range]; exact Nat.mul_le_mul_right _ h)
     rw [Mc]
     have hl:((a::l).eraseIdx i).length=l.length:=by rw [List.length_eraseIdx_of_lt (List.mem_range.1 hi)]; simp
     have:=Q62 hm (F:=F) (ids:=(a::l).eraseIdx i) (hs:=hs.set c (hs.getD c 0+1)) (by rw [hl]; simp at h; omega)
     rwa [hl] at this
   ·rw [List.length_range,M4,Nat.pow_succ,Nat.mul_comm _ (ts.length*m),Nat.mul_assoc]
    exact M1
theorem Hed {ts:List Int}:∀ {F:Nat} {ids hs:List Int},hs.length=ts.length→(∀ h∈hs,0≤h)→ids.Nodup→(G41 ts F ids hs).Pairwise (fun a b=>¬ a.Perm b)
 | 0,_,_,_,_,_=>.nil
 | F+1,ids,hs,hl,hn,hd=>by
  have sound:=fun r (h:r∈G41 ts (F+1) ids hs)=>Hec hl hn h
  rw [Gc5] at sound ⊢
  cases h8:ids.isEmpty with
  | true=>simp
  | false=>
   rw [h8,cond_false] at sound
   rw [cond_false]
   have head:∀ c,c < ts.length→∀ r,(r∈bif shut ts hs c then [] else (List.range ids.length).flatMap fun i=>(G41 ts F (ids.eraseIdx i) (hs.set c (hs.getD c 0+1))).map fun r=>(⟨ids.getD i 0,⟨(c:Int),hs.getD c 0,0⟩⟩:G1)::r)→∃ x q,r=x::q∧x.Slot=⟨(c:Int),hs.getD c 0,0⟩∧∀ y∈q,J30 x y:=fun c hc r hr=>by
    have h9:=(sound r (List.mem_flatMap.2 ⟨c,List.mem_range.2 hc,hr⟩)).2.2
    cases h0:shut ts hs c with
    | true=>rw [h0] at hr; simp at hr
    | false=>
     rw [h0] at hr
     simp only [cond_false,List.mem_flatMap,List.mem_range,Me] at hr
     obtain⟨i,hi,q,hq,rfl⟩:=hr
     exact⟨_,q,rfl,rfl,(List.pairwise_cons.1 h9).1⟩
   refine List.pairwise_flatMap.2 ⟨fun c hc=>?_,(List.pairwise_lt_range).imp_of_mem fun {c1 c2} h1 h2 h5 a ha b hb hp=>?_⟩
   ·have a0:=List.mem_range.1 hc
    have h6:=head c a0
    cases h0:shut ts hs c with
    | true=>exact .nil
    | false=>
     rw [h0,cond_false] at h6
     rw [cond_false]
     refine List.pairwise_flatMap.2 ⟨fun i hi=>List.pairwise_map.2 ?_,(List.pairwise_lt_range).imp_of_mem fun {i1 i2} h1 h2 h5 a ha b hb hp=>?_⟩
     ·have a1:=List.mem_range.1 hi
      have h7:c < hs.length:=by omega
      refine(Hed (F:=F) (ids:=ids.eraseIdx i) (hs:=hs.set c (hs.getD c 0+1)) (by rw [List.length_set]; exact hl) (fun h hm=>by
       rcases List.mem_or_eq_of_mem_set hm with hm | rfl
       ·exact hn h hm
       ·have:hs.getD c 0=hs[c]:=by simp [List.getD,h7]
        have:=hn _ (List.getElem_mem h7)
        omega) (hd.sublist (List.eraseIdx_sublist ..))).imp fun h hp=>h ((List.perm_cons _).1 hp)
     ·have g1:=List.mem_range.1 h1
      have g2:=List.mem_range.1 h2
      obtain⟨x,q,e,hx,h3⟩:=h6 a (List.mem_flatMap.2 ⟨i1,h1,ha⟩)
      obtain⟨q1,_,rfl⟩:=Me.1 ha
      obtain⟨q2,_,rfl⟩:=Me.1 hb
      injection e with e1 e2
      subst e1
      subst e2
      have hm:(⟨ids.getD i2 0,⟨(c:Int),hs.getD c 0,0⟩⟩:G1)∈(⟨ids.getD i1 0,⟨(c:Int),hs.getD c 0,0⟩⟩:G1)::q1:=hp.mem_iff.2 (List.mem_cons_self ..)
      rcases Mg.1 hm with e | hm
      ·injection e with e _
       have n1:ids.getD i1 0=ids[i1]:=by simp [List.getD,g1]
       have n2:ids.getD i2 0=ids[i2]:=by simp [List.getD,g2]
       rw [n1,n2] at e
       have:=(List.pairwise_iff_getElem.1 hd) i1 i2 g1 g2 h5
       exact this e.symm
      ·have:=h3 _ hm
       rcases this with h | ⟨_,h⟩
       ·exact Int.lt_irrefl _ h
       ·exact Int.lt_irrefl _ h
   ·obtain⟨x,q,rfl,hx,h3⟩:=head c1 (List.mem_range.1 h1) a ha
    obtain⟨y,p,rfl,hy,h4⟩:=head c2 (List.mem_range.1 h2) b hb
    have hm:x∈y::p:=hp.mem_iff.1 (List.mem_cons_self ..)
    rcases Mg.1 hm with e | hm
    ·rw [e,hy] at hx
     injection hx with h _
     omega
    ·have:=h4 _ hm
     unfold J30 at this
     rw [hx,hy] at this
     simp only at this
     omega

def Y1a (a b:G1):Int:=G55 a.Box b.Box
theorem Jdc:Cmp Y1a:=J18 (fun x:G1=>x.Box)
theorem R1e (a b:G1):Yr a b=some (Y1a a b):=by unfold Yr; rw [R66]; rfl
def canon (l:List G1):List G1:=H49 Y1a l
theorem J0a {l:List G1} (h:(l.map (·.Box)).Nodup):∀ a∈l,∀ b∈l,a.Box=b.Box→a=b:=fun a ha b hb e=>by
 obtain⟨i,hi,rfl⟩:=List.mem_iff_getElem.1 ha
 obtain⟨j,hj,rfl⟩:=List.mem_iff_getElem.1 hb
 have:=List.pairwise_iff_getElem.1 h
 rcases Nat.lt_trichotomy i j with h0 | rfl | h1
 ·exact(this i j (by simpa using hi) (by simpa using hj) h0 (by simpa using e)).elim
 ·rfl
 ·exact(this j i (by simpa using hj) (by simpa using hi) h1 (by simpa using e.symm)).elim
theorem J5c {l:List G1} (h:(l.map (·.Box)).Nodup) (hl:l.length≤1000):Hcc (fun z0 z1=>Yr z0 z1) l=some (canon l):=
 R22 Jdc.ordc R1e (fun a ha b hb h1 h2=>J0a h a ha b hb (by
  have e1:¬ a.Box < b.Box:=fun h=>h1 (H2e.2 h)
  have e2:¬ b.Box < a.Box:=fun h=>h2 (H2e.2 h)
  omega)) (by omega)
theorem G22 (l:List G1):(canon l).Perm l:=Ze _ _
theorem H04 {l:List G1} {ids:List Int} (hp:(l.map (·.Box)).Perm ids) (hs:ids.Pairwise (· < ·)):(canon l).map (·.Box)=ids:=by
 have h1:((canon l).map (·.Box)).Pairwise (fun a b:Int=>a≤b):=List.pairwise_map.2 ((Zz Jdc.ordc l).imp fun {a b} h=>by
  have:¬ b.Box < a.Box:=fun h'=>h (H2e.2 h')
  omega)
 exact List.Perm.eq_of_pairwise (le:=fun a b:Int=>a≤b) (fun a b _ _ h1 h2=>Int.le_antisymm h1 h2) h1 (hs.imp fun h=>Int.le_of_lt h) (((G22 l).map _).trans hp)
theorem Rdd {a b:List G1} (hp:a.Perm b) (hd:(b.map (·.Box)).Pairwise (· < ·)):canon a=b:=by
 have h1:=Zz Jdc.ordc a
 refine List.Perm.eq_of_pairwise (le:=J79 Y1a) (fun x y hx hy h1 h2=>?_) h1 ?_ ((G22 a).trans hp)
 ·have hn:(b.map (·.Box)).Nodup:=hd.imp fun h=>by omega
  exact J0a hn x (hp.mem_iff.1 ((G22 a).mem_iff.1 hx)) y hy (by
   have e1:¬ y.Box < x.Box:=fun h=>h1 (H2e.2 h)
   have e2:¬ x.Box < y.Box:=fun h=>h2 (H2e.2 h)
   omega)
 ·exact(List.pairwise_map.1 hd).imp fun {x y} h h'=>by have:=H2e.1 h'; omega
open Go.RowKit Go.Sort

theorem H8c (n c:Nat):(List.replicate n (0:Int)).getD c 0=0:=by
 simp only [List.getD,List.getElem?_replicate]; split <;> rfl
theorem Q53:∀ {a b:List G1},a.map (·.Box)=b.map (·.Box)→a.map (·.Slot)=b.map (·.Slot)→a=b
 | [],[],_,_=>rfl
 | [],_::_,h,_=>by simp at h
 | _::_,[],h,_=>by simp at h
 | x::a,y::b,h1,h2=>by
  simp only [List.map_cons,List.cons.injEq] at h1 h2
  rw [Q53 h1.2 h2.2]
  obtain⟨bx,sx⟩:=x
  obtain⟨by_,sy⟩:=y
  simp only at h1 h2
  rw [h1.1,h2.1]
def Yw (s:Gb):List Int:=s.Columns.map (·.Tiers)
def G40 (F:Nat) (s:Gb) (ids:List Int):List (List G1):=G41 (Yw s) F ids (List.replicate s.Columns.length 0)
structure Whole (boxes:List Box) (ids:List Int):Prop where
 sorted:ids.Pairwise (· < ·)
 size:∀ id∈ids,∃ b,G81 boxes id=some b∧b.Size=40
theorem Qaf {s:Gb} {boxes:List Box} {ids:List Int} {l:List G1} (hw:Whole boxes ids) (h:Zj s boxes l) (hm:l.map (·.Box)=ids):Qcd (Yw s) (List.replicate s.Columns.length 0) l∧l.Pairwise (fun a b=>a.Slot≠b.Slot):=by
 have ok:∀ x∈l,H3d s x.Slot 40:=fun x hx=>by
  obtain⟨b,h1,h2,_⟩:=h.each x hx
  obtain⟨b',h3,h4⟩:=hw.size x.Box (by rw [← hm]; exact List.mem_map_of_mem hx)
  rw [h1] at h3; cases h3
  rwa [h4] at h2
 have half:∀ x∈l,x.Slot.Half=0:=fun x hx=>by
  have:=(ok x hx).half
  simpa [Gf7] using this
 refine⟨⟨fun x hx=>?_,fun x hx=>?_⟩,h.apart.imp fun {a b} hn e=>hn ?_⟩
 ·obtain⟨m,c,h1,h2,h3⟩:=(ok x hx).col
  have h0:m < s.Columns.length:=(Kw h2).1
  refine⟨half x hx,m,h1,by unfold Yw; rw [Mc]; exact h0,by rw [H8c]; exact(ok x hx).tier,?_,fun c' _=>by rw [H8c]; exact Int.le_refl _⟩
  have:(Yw s).getD m 0=c.Tiers:=by unfold Yw; simp [List.getD,h2]
  rw [this]; exact h3
 ·obtain⟨b,_,_,h1⟩:=h.each x hx
  have out:∀ hf:Int,below (l.map (·.Slot)) x.Slot hf→∃ y∈l,y.Slot=⟨x.Slot.G4,x.Slot.Tier - 1,hf⟩:=fun hf hb=>by
   obtain⟨y,hy,e⟩:=Me.1 hb
   exact⟨y,hy,e⟩
  rcases h1 with h1 | h1 | ⟨_,h1,_⟩
  ·exact .inl fun c _=>by rw [H8c]; exact h1
  ·rw [half x hx] at h1
   exact .inr (out 0 h1)
  ·obtain⟨y,hy,e⟩:=out 1 h1
   have:=half y hy
   rw [e] at this; cases this
 ·rw [e]
  exact⟨rfl,rfl,.inl rfl⟩
theorem H06 {F:Nat} {s:Gb} {ids:List Int} {r:List G1} (h:r∈G40 F s ids):(r.map (·.Box)).Perm ids∧Qcd (Yw s) (List.replicate s.Columns.length 0) r∧r.Pairwise J30:=
 Hec (by unfold Yw; simp) (fun h hh=>by rw [List.mem_replicate] at hh; omega) h
theorem Rc2 {F:Nat} {s:Gb} {boxes:List Box} {ids:List Int} {l:List G1} (hw:Whole boxes ids) (hF:ids.length < F) (h:Zj s boxes l) (hm:l.map (·.Box)=ids):∃ r∈G40 F s ids,canon r=l:=by
 obtain⟨h1,h2⟩:=Qaf hw h hm
 obtain⟨r,hr,hp⟩:=Qbf (F:=F) (ids:=ids) (by unfold Yw; simp) (fun h hh=>by rw [List.mem_replicate] at hh; omega) hF (by rw [hm]) h1 h2
 exact⟨r,hr,Rdd hp (by rw [hm]; exact hw.sorted)⟩

structure Q6f (F:Nat) (s:Gb) (boxes:List Box) (ids:List Int) (R:List (List G1)):Prop where
 sorted:R.Pairwise (fun a b=>Yx a b < 0)
 mem:∀ l,l∈R ↔ Zj s boxes l∧l.map (·.Box)=ids
 count:(∀ r∈G40 F s ids,Zj s boxes (canon r))→R.length=(G40 F s ids).length
 le:R.length≤(G40 F s ids).length
theorem J5a {F:Nat} {s:Gb} {boxes:List Box} {ids:List Int} (hr:Jg s=some true) (hc:s.Columns.length≤1000) (ht:∀ c∈s.Columns,c.Tiers≤1000000) (hw:Whole boxes ids) (hl:ids.length≤1000) (hF:ids.length < F) (hn:(G40 F s ids).length≤1000000) :
  Wp (Q7 F s boxes ids) (Q6f F s boxes ids):=by
 have h9:ids.Nodup:=hw.sorted.imp fun h=>by omega
 unfold Q7
 have a6:H70 (s.Columns.length:Int)=some s.Columns.length:=by unfold H70; rw [Ku (by omega)]; simp
 refine Gw a6 (Jq (Ku ⟨by omega,Nat.le_trans hc (by decide),by omega⟩) ?_)
 refine Gw (x:=()) rfl ?_
 refine Gw (Q36 s F ids (List.replicate s.Columns.length 0) (by simp) hc (fun h hh=>by rw [List.mem_replicate] at hh; omega) hF hl) ?_
 show Wp (each _ _ (G40 F s ids) 0 []) _
 have a0:(G40 F s ids).Pairwise (fun a b=>¬ a.Perm b):=Hed (by unfold Yw; simp) (fun h hh=>by rw [List.mem_replicate] at hh; omega) h9
 refine Jb (fun pre s18=>s18.length≤pre.length∧s18.Pairwise (fun a b=>Yx a b≠0)∧(∀ l,l∈s18 ↔ Zj s boxes l∧∃ r∈pre,canon r=l)∧((∀ r∈pre,Zj s boxes (canon r))→s18.length=pre.length))
  ⟨M1,.nil,fun l=>⟨fun h=>(M0 h).elim,fun⟨_,r,h,_⟩=>(M0 h).elim⟩,fun _=>rfl⟩ (fun pre y post s18 nx e hI a1=>?_) (fun s18 hI=>?_)
 ·obtain⟨i1,i2,i3,i4⟩:=hI
  have hy:y∈G40 F s ids:=by rw [e]; simp
  obtain⟨w1,w2,w3⟩:=H06 hy
  have a8:y.length=ids.length:=by have:=w1.length_eq; simpa using this
  have a7:=H04 w1 hw.sorted
  refine Gw (J5c (w1.nodup_iff.2 h9) (by omega)) ?_
  have b6:(canon y).length=ids.length:=by rw [(G22 y).length_eq,a8]
  refine H8 (wp_mono (G58 hr ht (by omega)) fun b hb=>?_)
  have b5:pre.length < (G40 F s ids).length:=by rw [e]; simp
  refine Hy (fun a9=>?_) (fun a2=>?_)
  ·have hR:=hb.1 a9
   refine Jq ?_ (a1 _ ⟨?_,?_,fun l=>?_,fun h0=>?_⟩)
   ·refine Ku ⟨?_,?_⟩
    ·rw [M9]; omega
    ·rw [M9]; exact Nat.le_trans (by omega:s18.length+1≤1000001) (by decide)
   ·simp only [M8,M9]; omega
   ·refine List.pairwise_append.2 ⟨i2,List.pairwise_singleton ..,fun a ha b a3=>?_⟩
    rw [Mf] at a3
    subst a3
    intro hz
    obtain⟨_,r,a4,h4⟩:=(i3 a).1 ha
    obtain⟨v1,_,_⟩:=H06 (F:=F) (s:=s) (ids:=ids) (r:=r) (by rw [e]; simp [a4])
    have b0:a.map (·.Box)=ids:=by rw [← h4]; exact H04 v1 hw.sorted
    have b1:a=canon y:=Q53 (by rw [b0,a7]) (J33 hz)
    have h5:r.Perm y:=(G22 r).symm.trans (by rw [h4,b1]; exact G22 y)
    rw [e] at a0
    exact(List.pairwise_append.1 a0).2.2 r a4 y (List.mem_cons_self ..) h5
   ·rw [Md,Mf,i3]
    constructor
    ·rintro(⟨h1,r,h2,h3⟩ | rfl)
     ·exact⟨h1,r,List.mem_append_left _ h2,h3⟩
     ·exact⟨hR,y,by simp,rfl⟩
    ·rintro⟨h1,r,h2,h3⟩
     rcases Md.1 h2 with h2 | h2
     ·exact .inl ⟨h1,r,h2,h3⟩
     ·rw [Mf] at h2
      subst h2
      exact .inr h3.symm
   ·simp only [M8,M9]
    rw [i4 fun r hr=>h0 r (List.mem_append_left _ hr)]
  ·have hR:¬ Zj s boxes (canon y):=fun h=>by rw [hb.2 h] at a2; cases a2
   refine a1 _ ⟨by simp only [M8,M9]; omega,i2,fun l=>?_,fun h0=>(hR (h0 y (by simp))).elim⟩
   rw [i3]
   constructor
   ·rintro⟨h1,r,h2,h3⟩
    exact⟨h1,r,List.mem_append_left _ h2,h3⟩
   ·rintro⟨h1,r,h2,h3⟩
    rcases Md.1 h2 with h2 | h2
    ·exact⟨h1,r,h2,h3⟩
    ·rw [Mf] at h2
     subst h2
     rw [h3] at hR
     exact(hR h1).elim
 ·obtain⟨i1,i2,i3,i4⟩:=hI
  have h6:∀ a∈s18,∀ b∈s18,Yx a b=0→a=b:=fun a ha b hb h=>by
   obtain⟨i,hi,rfl⟩:=List.mem_iff_getElem.1 ha
   obtain⟨j,hj,rfl⟩:=List.mem_iff_getElem.1 hb
   have hp:=List.pairwise_iff_getElem.1 i2
   rcases Nat.lt_trichotomy i j with b2 | rfl | b3
   ·exact(hp i j hi hj b2 h).elim
   ·rfl
   ·have:=G15.anti s18[i] s18[j]
    exact(hp j i hj hi b3 (by omega)).elim
  have h7:∀ r',r'.Perm s18→G69 Yx r'→r'=H49 Yx s18:=fun r' hp hs=>by
   refine List.Perm.eq_of_pairwise (le:=J79 Yx) (fun a b ha hb h1 h2=>?_) (hs.imp fun h=>Kt h) (Zz G15.ordc s18) (hp.trans (Ze _ _).symm)
   have:=G15.anti a b
   exact h6 a (hp.mem_iff.1 ha) b ((Ze _ _).mem_iff.1 hb) (by omega)
  have h8:H87 (fun z0 z1=>Ya z0 z1) s18=some (H49 Yx s18):=Q21 Yx H95 (Q51 G15.ordc) (by omega) (Ze _ _) ((Zz G15.ordc s18).imp fun h=>Kv h) h7
  refine Gw h8 (Gy ⟨?_,fun l=>?_,fun h=>?_,?_⟩)
  ·have b4:(H49 Yx s18).Pairwise (fun a b=>Yx a b≠0):=(Ze Yx s18).symm.pairwise i2 (fun {a b} h e=>h (by have:=G15.anti a b; omega))
   refine(List.pairwise_iff_getElem.2 fun i j hi hj a5=>?_)
   have h1:=(List.pairwise_iff_getElem.1 (Zz G15.ordc s18)) i j hi hj a5
   have h2:=(List.pairwise_iff_getElem.1 b4) i j hi hj a5
   have:=G15.anti (H49 Yx s18)[i] (H49 Yx s18)[j]
   omega
  ·rw [Jcc,i3]
   constructor
   ·rintro⟨h1,r,h2,rfl⟩
    exact⟨h1,H04 (H06 h2).1 hw.sorted⟩
   ·rintro⟨h1,h2⟩
    obtain⟨r,hr,h4⟩:=Rc2 hw hF h1 h2
    exact⟨h1,r,hr,h4⟩
  ·rw [J66]; exact i4 h
  ·rw [J66]; exact i1
end Go.Proofs.YtibhpogonkdiaaaGreat
