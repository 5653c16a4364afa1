/-
 The orders of search: The ways to pile AA up: search.states: search.states:
-/
import Derived.Test.YtibhpogonkdiaaaGreatIsortL
set_option maxRecDepth 100000
set_option linter.unusedVariables false
namespace Go.Proofs.YtibhpogonkdiaaaGreat
open Go.RowKit Go.Sort

variable {α:Type}
theorem Gfe {c:α->α->Int} (hc:J23 c):SWO (ltOf c) where
 irrefl x:=by
  show decide (c x x < 0)=false
  exact S9 (fun h=>hc.asym x x h h)
 trans x y z h1 h2:=by
  have h1:c x y < 0:=S6 h1;have h2:c y z < 0:=S6 h2;refine S8 (Classical.byContradiction fun h=>?_);exact hc.ntrans y z x (hc.asym y z h2) h h1
 ntrans x y z h1 h2:=by
  have h1:¬ c x y < 0:=S7 h1;have h2:¬ c y z < 0:=S7 h2;exact S9 (hc.ntrans z y x h2 h1)
theorem Hfa [Inhabited α] {cmp:α->α->Option Int} {c:α->α->Int} (hc:J23 c) (h0:∀ a b,cmp a b=some (c a b)) {xs:List α} (hu:∀ a∈xs,∀ b∈xs,¬ c a b < 0->¬ c b a < 0->a=b) (hl:xs.length < 4611686018427387904):zK cmp xs=some (tD c xs):=by
 rw [H66 c h0 (Gfe hc) hl];obtain⟨hp,h5,hs⟩:=wK c (Gfe hc) xs;have h3:(aN c xs).Perm (tD c xs):=hp.trans (bJ c xs).symm;have h1:(aN c xs).Pairwise (G08 c):=List.pairwise_iff_getElem.2 (fun i j hi hj h4=>S7 (hs i j h4 hj));have h2:=cG hc xs;congr 1;exact List.Perm.eq_of_pairwise (le:=G08 c) (fun a b ha hb h1 h2=>hu a (hp.mem_iff.1 ha) b ((bJ c xs).mem_iff.1 hb) h2 h1) h1 h2 h3
def gR (a b:Int):Int:=bif decide (a < b) then -1 else bif decide (b < a) then 1 else 0
theorem J4a (a b:Int):Rt a b=some (gR a b):=by
 have h1:decide (a≠a)=false:=by simp
 have h2:decide (b≠b)=false:=by simp
 simp only [Rt,dD,bnd,h1,h2,cond_false];unfold gR;cases decide (a < b) <;> cases decide (b < a) <;> rfl
theorem Q4c (a b:Int):bU a b=some (gR a b):=by
 have h1:decide (a≠a)=false:=by simp
 have h2:decide (b≠b)=false:=by simp
 simp only [bU,dR,bnd,h1,h2,cond_false];unfold gR;cases decide (a < b) <;> cases decide (b < a) <;> rfl
def orI:AD->Int
 | []=>0
 | x::r=>bif decide (x≠0) then x else orI r
theorem Q4d (l:AD):iS l=some (orI l):=by
 unfold iS;have key:∀ (l:AD) (i:Nat),each (fun(y19:Int) (_:Nat) (_:Unit) nx19=>bif decide (y19≠0) then some y19 else nx19 ()) (fun(_:Unit)=>some (0:Int)) l i ()=some (orI l):=by
  intro l
  induction l with
  | nil=>intro i; rfl
  | cons x r ih=>
   intro i;rw [each,orI];cases decide (x≠0) with
   | true=>rfl
   | false=>exact ih _
 exact key l 0
def jB (a b:Slot):Int:=orI [gR a.G7 b.G7,gR a.AL b.AL,gR a.Half b.Half]
theorem H6c (a b:Slot):eN a b=some (jB a b):=by
 simp only [eN,J4a,Q4c,Q4d,bnd]; rfl

structure Cmp {α:Type} (c:α->α->Int):Prop where
 anti:∀ x y,c y x = - c x y
 trans:∀ x y z,c x y<=0->c y z<=0->c x z<=0
theorem Cmp.ordc {c:α->α->Int} (h:Cmp c):J23 c:=
 ⟨fun x y h0 h4=>by have:=h.anti x y; omega,fun x y z h1 h2 h3=>by
  have a1:=h.anti x y;have a2:=h.anti y z;have a3:=h.anti x z;have:=h.trans x y z (by omega) (by omega);omega⟩
variable {x y:α}
theorem Cmp.strict {c:α->α->Int} (h:Cmp c) {z:α} (h1:c x y < 0) (h2:c y z<=0):c x z < 0:=by
 have t:=h.trans x y z (by omega) h2;rcases Int.lt_or_eq_of_le t with h' | h'
 ·exact h'
 ·have a:=h.anti x z;have:=h.trans y z x h2 (by omega);have b:=h.anti x y;omega
theorem Cmp.strict2 {c:α->α->Int} (h:Cmp c) {z:α} (h1:c x y<=0) (h2:c y z < 0):c x z < 0:=by
 have t:=h.trans x y z h1 (by omega);rcases Int.lt_or_eq_of_le t with h' | h'
 ·exact h'
 ·have a:=h.anti x z;have:=h.trans z x y (by omega) h1;have b:=h.anti y z;omega
theorem Cmp.refl {c:α->α->Int} (h:Cmp c) (x:α):c x x=0:=by have:=h.anti x x; omega
def G07 {α:Type} (c d:α->α->Int) (x y:α):Int:=bif decide (c x y≠0) then c x y else d x y
theorem Cmp.lex {c d:α->α->Int} (hc:Cmp c) (hd:Cmp d):Cmp (G07 c d):=by
 refine⟨fun x y=>?_,fun x y z h1 h2=>?_⟩
 ·unfold G07;have a:=hc.anti x y;have b:=hd.anti x y;by_cases h:c x y=0
  ·have h':c y x=0:=by omega
   simp [h,h',b]
  ·have h':c y x≠0:=by omega
   simp [h,h',a]
 ·unfold G07 at h1 h2 ⊢;by_cases e1:c x y=0
  ·by_cases e2:c y z=0
   ·have t1:=hc.trans x y z (by omega) (by omega);have t2:=hc.trans z y x (by have:=hc.anti y z; omega) (by have:=hc.anti x y; omega);have a:=hc.anti x z;have e3:c x z=0:=by omega
    simp [e1] at h1;simp [e2] at h2;simp [e3];exact hd.trans x y z h1 h2
   ·simp [e2] at h2;have:=hc.strict2 (x:=x) (y:=y) (z:=z) (by omega) (by omega);have e3:c x z≠0:=by omega
    simp [e3]; omega
  ·simp [e1] at h1;by_cases e2:c y z=0
   ·have:=hc.strict (x:=x) (y:=y) (z:=z) (by omega) (by omega);have e3:c x z≠0:=by omega
    simp [e3]; omega
   ·simp [e2] at h2;have:=hc.strict (x:=x) (y:=y) (z:=z) (by omega) (by omega);have e3:c x z≠0:=by omega
    simp [e3]; omega
theorem Gd6 {c d:α->α->Int} :G07 c d x y=0 ↔ c x y=0∧d x y=0:=by
 unfold G07;by_cases h:c x y=0 <;> simp [h]
variable {a b:Int}
theorem rR:gR a b < 0 ↔ a < b:=by
 unfold gR;by_cases h:a < b
 ·simp [h]
 ·by_cases h2:b < a <;> simp [h,h2]
theorem tF:gR a b=0 ↔ a=b:=by
 unfold gR;by_cases h:a < b
 ·simp [h]; omega
 ·by_cases h2:b < a
  ·simp [h,h2]; omega
  ·simp [h,h2]; omega
theorem G1d:gR a b<=0 ↔ a<=b:=by
 unfold gR;by_cases h:a < b
 ·simp [h]; omega
 ·by_cases h2:b < a
  ·simp [h,h2]
  ·simp [h,h2]; omega
theorem JS (f:α->Int):Cmp (fun x y:α=>gR (f x) (f y)):=
 ⟨fun x y=>by
  show gR (f y) (f x) = - gR (f x) (f y)
  unfold gR;by_cases h:f x < f y
  ·have:¬ f y < f x:=by omega
   simp [h,this]
  ·by_cases h2:f y < f x <;> simp [h,h2],fun x y z h1 h2=>G1d.2 (by have:=G1d.1 h1; have:=G1d.1 h2; omega)⟩
theorem G17 (a b:Slot):jB a b=G07 (fun x y:Slot=>gR x.G7 y.G7) (G07 (fun x y:Slot=>gR x.AL y.AL) (fun x y:Slot=>gR x.Half y.Half)) a b:=by
 unfold jB G07;simp only [orI];cases decide (gR a.G7 b.G7≠0) with
 | true=>rfl
 | false=>
  cases decide (gR a.AL b.AL≠0) with
  | true=>rfl
  | false=>
   simp only [cond_false];by_cases h:gR a.Half b.Half=0 <;> simp [h]
theorem sX:Cmp jB:=by
 have h:=(JS (fun x:Slot=>x.G7)).lex ((JS (fun x:Slot=>x.AL)).lex (JS (fun x:Slot=>x.Half)));have e:jB=G07 (fun x y:Slot=>gR x.G7 y.G7) (G07 (fun x y:Slot=>gR x.AL y.AL) (fun x y:Slot=>gR x.Half y.Half)):=by funext a b; exact G17 a b
 rw [e]; exact h
theorem Gc8 {a b:Slot}:jB a b=0 ↔ a=b:=by
 rw [G17,Gd6,Gd6];show gR a.G7 b.G7=0∧gR a.AL b.AL=0∧gR a.Half b.Half=0 ↔ a=b
 rw [tF,tF,tF];cases a; cases b; simp
def aG:AE->AE->Int
 | [],[]=>0
 | [],_::_ => -1
 | _::_,[]=>1
 | x::a,y::b=>bif decide (jB x.Slot y.Slot≠0) then jB x.Slot y.Slot else aG a b
theorem Gd5:∀ a b:AE,aG b a = - aG a b
 | [],[]=>rfl
 | [],_::_=>rfl
 | _::_,[]=>rfl
 | x::a,y::b=>by
  have h1:=sX.anti x.Slot y.Slot;have h2:=Gd5 a b;unfold aG;by_cases h:jB x.Slot y.Slot=0
  ·have h':jB y.Slot x.Slot=0:=by omega
   simp [h,h',h2]
  ·have h':jB y.Slot x.Slot≠0:=by omega
   simp [h,h',h1]
theorem G5e:∀ a b c:AE,aG a b<=0->aG b c<=0->aG a c<=0
 | [],_,[],_,_=>Int.le_refl _
 | [],_,_::_,_,_=>by simp [aG]
 | _::_,[],_,h,_=>by simp [aG] at h
 | _::_,_::_,[],_,h=>by simp [aG] at h
 | x::a,y::b,z::c,h1,h2=>by
  have ih:=G5e a b c;unfold aG at h1 h2 ⊢;by_cases e1:jB x.Slot y.Slot=0
  ·have exy:=Gc8.1 e1;simp [e1] at h1;by_cases e2:jB y.Slot z.Slot=0
   ·have e3:jB x.Slot z.Slot=0:=by rw [exy]; exact e2
    simp [e2] at h2;simp [e3]; exact ih h1 h2
   ·simp [e2] at h2;have e3:jB x.Slot z.Slot=jB y.Slot z.Slot:=by rw [exy]
    simp [e3,e2]; exact h2
  ·simp [e1] at h1;have h0:jB x.Slot z.Slot < 0:=sX.strict (y:=y.Slot) (by omega) (by
    by_cases e2:jB y.Slot z.Slot=0
    ·omega
    ·simp [e2] at h2; exact h2)
   have e3:jB x.Slot z.Slot≠0:=by omega
   simp [e3]; omega
theorem dL:Cmp aG:=⟨Gd5,G5e⟩
theorem RC:∀ {a b:AE},aG a b=0->a.map (·.Slot)=b.map (·.Slot)
 | [],[],_=>rfl
 | [],_::_,h=>by simp [aG] at h
 | _::_,[],h=>by simp [aG] at h
 | x::a,y::b,h=>by
  unfold aG at h;by_cases e:jB x.Slot y.Slot=0
  ·simp [e] at h;rw [List.map_cons,List.map_cons,Gc8.1 e,RC h]
  ·simp [e] at h
theorem wX (a b:AE):Zd a b=some (aG a b):=by
 have key:∀ (q:AE) (n:Nat),each (fun(y38:G1) i38 (_:Unit) nx38=>
   bif decide ((b.length:Int)<=(i38:Int)) then (some (1:Int)) else
   (Jy b (i38:Int) fun y47=>bnd (Z5 y38 y47) fun r50=>bif decide (r50≠0) then (some r50) else (nx38 ())))
  (fun(_:Unit)=>bif decide (((n+q.length:Nat):Int) < (b.length:Int)) then (some (-1)) else (some 0)) q n ()=if b.length < n then (if q=[] then some 0 else some 1) else some (aG q (b.drop n)):=by
  intro q
  induction q with
  | nil=>
   intro n;simp only [each,List.length_nil,Nat.add_zero];by_cases h:n < b.length
   ·rw [S8 (by omega),cond_true,if_neg (by omega)];rw [List.drop_eq_getElem_cons h]; rfl
   ·rw [S9 (by omega),cond_false];by_cases h':b.length < n
    ·rw [if_pos h']; rfl
    ·rw [if_neg h',List.drop_of_length_le (by omega)]; rfl
  | cons x q ih=>
   intro n;rw [each];by_cases h:n < b.length
   ·rw [S9 (by omega),cond_false,if_neg (by omega),uV (m:=n) rfl (Sb h),List.drop_eq_getElem_cons h];have hs:Z5 x b[n]=some (jB x.Slot b[n].Slot):=by unfold Z5; rw [H6c]; rfl
    rw [hs,cT];unfold aG;cases hd:decide (jB x.Slot b[n].Slot≠0) with
    | true=>rfl
    | false=>
     rw [cond_false,cond_false];have:=ih (n+1);rw [if_neg (by omega)] at this;rw [show n+(x::q).length=n+1+q.length by simp; omega];exact this
   ·rw [S8 (by omega),cond_true];by_cases h':b.length < n
    ·rw [if_pos h',if_neg (by simp)]
    ·rw [if_neg h',List.drop_of_length_le (by omega)]; rfl
 unfold Zd Yk;have:=key a 0;rw [if_neg (by omega),List.drop_zero,Nat.zero_add] at this;exact congrArg (fun o:Option Int=>bnd o fun r3=>some r3) this
open Go.RowKit

def QZ (a b:G1):Prop:=a.Slot.G7 < b.Slot.G7∨(a.Slot.G7=b.Slot.G7∧a.Slot.AL < b.Slot.AL)
variable {c:Nat}
theorem H82 (hs:AD) (hc:c < hs.length) (v:Int) (c':Nat):(hs.set c v).getD c' 0=if c'=c then v else hs.getD c' 0:=by
 by_cases h:c'=c
 ·subst h; simp [List.getD,hc]
 ·rw [if_neg h];simp only [List.getD,List.getElem?_set_ne (Ne.symm h)]
variable {ts:AD}
theorem J02 {hs:AD} (h:shut ts hs c=false):hs.getD c 0 < ts.getD c 0∧∀ c',c < c'->hs.getD c' 0<=0:=by
 unfold shut at h;simp only [Sz,decide_eq_false_iff_not,List.any_eq_false,Sr] at h;refine⟨by omega,fun c' h0=>?_⟩;rcases S4 c' hs.length with hl | hl
 ·have hm:hs[c']∈hs.drop (c+1):=by
   refine List.mem_iff_getElem.2 ⟨c' - (c+1),by simp; omega,?_⟩;simp only [List.getElem_drop];congr 1; omega
  have:=h.1 _ hm;simp only [List.getD,Sb hl,Option.getD_some]; omega
 ·simp [List.getD,List.getElem?_eq_none hl]
theorem Jf9 {hs:AD} (h1:hs.getD c 0 < ts.getD c 0) (h2:∀ c',c < c'->hs.getD c' 0<=0):shut ts hs c=false:=by
 unfold shut;simp only [Sz,decide_eq_false_iff_not,List.any_eq_false,Sr];refine⟨fun x hx=>?_,by omega⟩;obtain⟨j,hj,rfl⟩:=List.mem_iff_getElem.1 hx;rw [List.getElem_drop];have hl:c+1+j < hs.length:=by simp at hj; omega
 have:=h2 (c+1+j) (by omega);simp only [List.getD,Sb hl,Option.getD_some] at this;omega
theorem mX (ts:AD) (F:Nat) (ids hs:AD):fT ts (F+1) ids hs=bif ids.isEmpty then [[]] else
   (List.range ts.length).flatMap fun c=>bif shut ts hs c then [] else
    (List.range ids.length).flatMap fun i=>(fT ts F (ids.eraseIdx i) (hs.set c (hs.getD c 0+1))).map fun r=>(⟨ids.getD i 0,⟨(c:Int),hs.getD c 0,0⟩⟩:G1)::r:=rfl
theorem G6d {l:List α} {i:Nat} (h:i < l.length):(l[i]::l.eraseIdx i).Perm l:=by
 rw [List.eraseIdx_eq_take_drop_succ];have h1:=List.perm_middle (a:=l[i]) (l₁:=l.take i) (l₂:=l.drop (i+1));rw [<- List.drop_eq_getElem_cons h,List.take_append_drop] at h1;exact h1.symm
variable {ids:AD} {F:Nat}
theorem G59 {hs:AD} {r:AE}:r∈fT ts (F+1) ids hs ↔ (ids=[]∧r=[])∨(ids≠[]∧∃ c i q,c < ts.length∧shut ts hs c=false∧i < ids.length∧q∈fT ts F (ids.eraseIdx i) (hs.set c (hs.getD c 0+1))∧r=(⟨ids.getD i 0,⟨(c:Int),hs.getD c 0,0⟩⟩:G1)::q):=by
 rw [mX];cases ids with
 | nil=>simp
 | cons a l=>
  simp only [List.isEmpty_cons,cond_false,List.mem_flatMap,List.mem_range,reduceCtorEq,false_and,false_or,ne_eq,not_false_eq_true,true_and];constructor
  ·rintro⟨c,hc,hr⟩;cases h0:shut ts hs c with
   | true=>rw [h0] at hr; simp at hr
   | false=>
    rw [h0] at hr;simp only [cond_false,List.mem_flatMap,List.mem_range,Su] at hr;obtain⟨i,hi,q,hq,rfl⟩:=hr;exact⟨c,i,q,hc,h0,hi,hq,rfl⟩
  ·rintro⟨c,i,q,hc,h0,hi,hq,rfl⟩;refine⟨c,hc,?_⟩;rw [h0];simp only [cond_false,List.mem_flatMap,List.mem_range,Su];exact⟨i,hi,q,hq,rfl⟩

structure H96 (ts hs:AD) (l:AE):Prop where
 place:∀ x∈l,x.Slot.Half=0∧∃ c:Nat,x.Slot.G7=(c:Int)∧c < ts.length∧hs.getD c 0<=x.Slot.AL∧x.Slot.AL < ts.getD c 0∧∀ c',c < c'->hs.getD c' 0<=0
 held:∀ x∈l,(∀ c:Nat,x.Slot.G7=(c:Int)->x.Slot.AL<=hs.getD c 0)∨∃ y∈l,y.Slot=⟨x.Slot.G7,x.Slot.AL - 1,0⟩
theorem GV {ts:AD}:∀ {F:Nat} {ids hs:AD} {r:AE},hs.length=ts.length->(∀ h∈hs,0<=h)->r∈fT ts F ids hs->(r.map (·.Box)).Perm ids∧H96 ts hs r∧r.Pairwise QZ
 | 0,_,_,_,_,_,h=>by simp [fT] at h
 | F+1,ids,hs,r,hl,hn,h=>by
  rcases G59.1 h with ⟨rfl,rfl⟩ | ⟨h8,c,i,q,hc,h2,hi,hq,rfl⟩
  ·exact⟨List.Perm.refl _,⟨fun x hx=>(Se hx).elim,fun x hx=>(Se hx).elim⟩,.nil⟩
  ·have h1:c < hs.length:=by omega
   have hh:hs.getD c 0=hs[c]:=by simp [List.getD,h1]
   have h0:0<=hs.getD c 0:=by rw [hh]; exact hn _ (List.getElem_mem h1)
   obtain⟨s1,s2⟩:=J02 h2;obtain⟨p1,p2,p3⟩:=GV (F:=F) (by rw [List.length_set]; exact hl) (fun h hm=>by
    rcases List.mem_or_eq_of_mem_set hm with hm | rfl
    ·exact hn h hm
    ·omega) hq
   have hid:ids.getD i 0=ids[i]:=by simp [List.getD,hi]
   have gs:=H82 hs h1 (hs.getD c 0+1)
   -- the later ones
   have late:∀ y∈q,QZ ⟨ids.getD i 0,⟨(c:Int),hs.getD c 0,0⟩⟩ y:=fun y hy=>by
    obtain⟨_,cy,e1,e2,e3,e4,e5⟩:=p2.place y hy;rcases Nat.lt_trichotomy cy c with h3 | rfl | h9
    ·have:=e5 c h3;rw [gs,if_pos rfl] at this; omega
    ·rw [gs,if_pos rfl] at e3;exact .inr ⟨e1.symm,by show hs.getD cy 0 < y.Slot.AL; omega⟩
    ·exact .inl (by show (c:Int) < y.Slot.G7; omega)
   refine⟨?_,⟨fun x hx=>?_,fun x hx=>?_⟩,List.pairwise_cons.2 ⟨late,p3⟩⟩
   ·rw [List.map_cons,hid];exact(p1.cons _).trans (G6d hi)
   ·rcases Sw.1 hx with rfl | hx
    ·exact⟨rfl,c,rfl,hc,Int.le_refl _,s1,s2⟩
    ·obtain⟨e0,cy,e1,e2,e3,e4,e5⟩:=p2.place x hx;refine⟨e0,cy,e1,e2,?_,e4,fun c' h4=>?_⟩
     ·rw [gs] at e3;split at e3
      ·next h=>subst h; omega
      ·exact e3
     ·have:=e5 c' h4;rw [gs] at this;split at this
      ·next h=>subst h; omega
      ·exact this
   ·rcases Sw.1 hx with rfl | hx
    ·refine .inl fun c2 e=>?_;have e:(c:Int)=(c2:Int):=e;have:c2=c:=by omega
     subst this;exact Int.le_refl _
    ·obtain⟨e0,cy,e1,e2,e3,e4,e5⟩:=p2.place x hx;rcases p2.held x hx with h5 | ⟨y,hy,h6⟩
     ·have:=h5 cy e1;rw [gs] at this e3;by_cases h:cy=c
      ·subst h;rw [if_pos rfl] at this e3;have h7:hs.getD cy 0=x.Slot.AL - 1:=by omega
       exact .inr ⟨_,List.mem_cons_self ..,by rw [e1,<- h7]⟩
      ·rw [if_neg h] at this;refine .inl fun c2 e=>?_;have:c2=cy:=by omega
       subst this; omega
     ·exact .inr ⟨y,List.mem_cons_of_mem _ hy,h6⟩
theorem G6c:∀ {l:AE},l≠[]->∃ x∈l,∀ y∈l,jB x.Slot y.Slot<=0
 | [],h=>(h rfl).elim
 | [x],_=>⟨x,List.mem_cons_self ..,fun y hy=>by simp at hy; subst hy; rw [sX.refl]; exact Int.le_refl _⟩
 | x::y::r,_=>by
  obtain⟨m,hm,h0⟩:=G6c (l:=y::r) (by simp);by_cases h:jB x.Slot m.Slot<=0
  ·refine⟨x,List.mem_cons_self ..,fun z hz=>?_⟩;rcases Sw.1 hz with rfl | hz
   ·rw [sX.refl]; exact Int.le_refl _
   ·exact sX.trans _ _ _ h (h0 z hz)
  ·refine⟨m,List.mem_cons_of_mem _ hm,fun z hz=>?_⟩;rcases Sw.1 hz with rfl | hz
   ·have:=sX.anti z.Slot m.Slot; omega
   ·exact h0 z hz
theorem J37 {a b:Slot} (h:jB a b<=0):a.G7 < b.G7∨(a.G7=b.G7∧(a.AL < b.AL∨(a.AL=b.AL∧a.Half<=b.Half))):=by
 rw [G17] at h;unfold G07 at h;by_cases e1:gR a.G7 b.G7=0
 ·have e1':=tF.1 e1;simp only [e1,ne_eq,not_true_eq_false,decide_false,cond_false] at h;by_cases e2:gR a.AL b.AL=0
  ·have e2':=tF.1 e2;simp only [e2,ne_eq,not_true_eq_false,decide_false,cond_false] at h;exact .inr ⟨e1',.inr ⟨e2',G1d.1 h⟩⟩
  ·simp only [e2,ne_eq,not_false_eq_true,decide_true,cond_true] at h;exact .inr ⟨e1',.inl (rR.1 (by omega))⟩
 ·simp only [e1,ne_eq,not_false_eq_true,decide_true,cond_true] at h;exact .inl (rR.1 (by omega))

theorem H86 {ts:AD}:∀ {F:Nat} {ids hs:AD} {l:AE},hs.length=ts.length->(∀ h∈hs,0<=h)->ids.length < F->(l.map (·.Box)).Perm ids->H96 ts hs l->l.Pairwise (fun a b=>a.Slot≠b.Slot)->∃ r∈fT ts F ids hs,r.Perm l
 | 0,_,_,_,_,_,h,_,_,_=>by omega
 | F+1,ids,hs,l,hl,hn,hF,hp,hP,hd=>by
  by_cases h8:l=[]
  ·subst h8;have:ids=[]:=by simpa using hp.symm.eq_nil
   exact⟨[],G59.2 (.inl ⟨this,rfl⟩),List.Perm.refl _⟩
  ·obtain⟨x,hx,h5⟩:=G6c h8;obtain⟨e0,c,e1,e2,e3,e4,e5⟩:=hP.place x hx;have h6:c < hs.length:=by omega
   have hh:hs.getD c 0=hs[c]:=by simp [List.getD,h6]
   have h0:0<=hs.getD c 0:=by rw [hh]; exact hn _ (List.getElem_mem h6)
   have ht:x.Slot.AL=hs.getD c 0:=by
    rcases hP.held x hx with h | ⟨y,hy,a2⟩
    ·have:=h c e1; omega
    ·have:=J37 (h5 y hy);rw [a2] at this;simp only at this;omega
   have a3:shut ts hs c=false:=Jf9 (by omega) e5;have a1:x.Box∈ids:=hp.mem_iff.1 (List.mem_map_of_mem hx);obtain⟨i,hi,h9⟩:=List.mem_iff_getElem.1 a1;have hid:ids.getD i 0=x.Box:=by simp [List.getD,hi,h9]
   have h7:l.Perm (x::l.erase x):=List.perm_cons_erase hx;have a4:(⟨ids.getD i 0,⟨(c:Int),hs.getD c 0,0⟩⟩:G1)=x:=by
    obtain⟨bx,sl⟩:=x;obtain⟨sc,st,sh⟩:=sl;simp only at e0 e1 ht hid;rw [hid,<- e1,<- ht,e0]
   have h4:∀ y∈l.erase x,y∈l:=fun y hy=>List.mem_of_mem_erase hy;have a5:∀ y∈l.erase x,x.Slot≠y.Slot:=fun y hy=>by
    have a6:(x::l.erase x).Pairwise (fun a b=>a.Slot≠b.Slot):=h7.pairwise hd (fun h e=>h e.symm);exact(List.pairwise_cons.1 a6).1 y hy
   have gs:=H82 hs h6 (hs.getD c 0+1);have later:∀ y∈l.erase x,∀ cy:Nat,y.Slot.G7=(cy:Int)->c<=cy∧(cy=c->hs.getD c 0+1<=y.Slot.AL):=fun y hy cy ecy=>by
    have hm:=J37 (h5 y (h4 y hy));obtain⟨f0,_⟩:=hP.place y (h4 y hy);refine⟨by omega,fun e=>?_⟩;subst e;rcases hm with h | ⟨h1,h | ⟨h2,h3⟩⟩
    ·omega
    ·omega
    ·refine(a5 y hy ?_).elim;obtain⟨bx,⟨sc,st,sh⟩⟩:=x;obtain⟨by_,⟨sc',st',sh'⟩⟩:=y;simp only at h1 h2 e0 f0;rw [h1,h2,e0,f0]
   have a7:H96 ts (hs.set c (hs.getD c 0+1)) (l.erase x):=by
    refine⟨fun y hy=>?_,fun y hy=>?_⟩
    ·obtain⟨f0,cy,f1,f2,f3,f4,f5⟩:=hP.place y (h4 y hy);obtain⟨g1,g2⟩:=later y hy cy f1;refine⟨f0,cy,f1,f2,?_,f4,fun c' a8=>?_⟩
     ·rw [gs];split
      ·next h=>exact g2 h
      ·exact f3
     ·rw [gs,if_neg (by omega)]; exact f5 c' a8
    ·obtain⟨f0,cy,f1,f2,f3,f4,f5⟩:=hP.place y (h4 y hy);obtain⟨g1,g2⟩:=later y hy cy f1;rcases hP.held y (h4 y hy) with h | ⟨z,hz,a0⟩
     ·refine .inl fun c2 e=>?_;have ec:c2=cy:=by omega
      subst ec;have:=h c2 e;rw [gs];split
      ·next h'=>have:=g2 h'; subst h'; omega
      ·exact this
     ·by_cases ez:z=x
      ·subst ez;refine .inl fun c2 e=>?_;have ec:c2=cy:=by omega
       subst ec;rw [a0] at e1 ht;simp only at e1 ht;have:c2=c:=by omega
       subst this;rw [gs,if_pos rfl]; omega
      ·exact .inr ⟨z,(List.mem_erase_of_ne ez).2 hz,a0⟩
   obtain⟨q,hq,a9⟩:=H86 (ts:=ts) (F:=F) (ids:=ids.eraseIdx i) (hs:=hs.set c (hs.getD c 0+1)) (l:=l.erase x) (by rw [List.length_set]; exact hl) (fun h hm=>by
    rcases List.mem_or_eq_of_mem_set hm with hm | rfl
    ·exact hn h hm
    ·omega) (by rw [List.length_eraseIdx_of_lt hi]; omega)
    (by
     have h1:(x.Box::(l.erase x).map (·.Box)).Perm ids:=((h7.map (fun y:G1=>y.Box)).symm.trans hp);have h2:(x.Box::ids.eraseIdx i).Perm ids:=by rw [<- h9]; exact G6d hi
     exact(List.perm_cons _).1 (h1.trans h2.symm))
    a7 (hd.sublist (List.erase_sublist ..))
   exact⟨_,G59.2 (.inr ⟨fun e=>by rw [e] at hi; simp at hi,c,i,q,e2,a3,hi,hq,rfl⟩),by rw [a4]; exact(a9.cons x).trans h7.symm⟩
open Go.RowKit Go.Sort

theorem H11 {α β:Type} {f:α->List β} {B:Nat}:∀ {l:List α},(∀ a∈l,(f a).length<=B)->(l.flatMap f).length<=l.length*B
 | [],_=>by simp
 | a::l,h=>by
  have h1:=h a (List.mem_cons_self ..);have h2:=H11 (l:=l) (fun b hb=>h b (List.mem_cons_of_mem _ hb));rw [List.flatMap_cons,Sn,Si,Nat.add_mul,Nat.one_mul];omega
theorem H14 {ts:AD} {m:Nat} (hm:1<=ts.length*m):∀ {F:Nat} {ids hs:AD},ids.length<=m->(fT ts F ids hs).length<=(ts.length*m) ^ ids.length
 | 0,ids,hs,_=>by simp [fT]
 | F+1,ids,hs,h=>by
  rw [mX];cases ids with
  | nil=>simp
  | cons a l=>
   simp only [List.isEmpty_cons,cond_false];refine Nat.le_trans (H11 (B:=m*(ts.length*m) ^ l.length) fun c _=>?_) ?_
   ·cases shut ts hs c with
    | true=>simp
    | false=>
     simp only [cond_false];refine Nat.le_trans (H11 (B:=(ts.length*m) ^ l.length) fun i hi=>?_) (by rw [List.length_range]; exact Nat.mul_le_mul_right _ h);rw [Ss];have hl:((a::l).eraseIdx i).length=l.length:=by rw [List.length_eraseIdx_of_lt (List.mem_range.1 hi)]; simp
     have:=H14 hm (F:=F) (ids:=(a::l).eraseIdx i) (hs:=hs.set c (hs.getD c 0+1)) (by rw [hl]; simp at h; omega)
     rwa [hl] at this
   ·rw [List.length_range,Si,Nat.pow_succ,Nat.mul_comm _ (ts.length*m),Nat.mul_assoc];exact Sf
theorem GW {ts:AD}:∀ {F:Nat} {ids hs:AD},hs.length=ts.length->(∀ h∈hs,0<=h)->ids.Nodup->(fT ts F ids hs).Pairwise (fun a b=>¬ a.Perm b)
 | 0,_,_,_,_,_=>.nil
 | F+1,ids,hs,hl,hn,hd=>by
  have sound:=fun r (h:r∈fT ts (F+1) ids hs)=>GV hl hn h;rw [mX] at sound ⊢;cases h8:ids.isEmpty with
  | true=>simp
  | false=>
   rw [h8,cond_false] at sound;rw [cond_false];have head:∀ c,c < ts.length->∀ r,(r∈bif shut ts hs c then [] else (List.range ids.length).flatMap fun i=>(fT ts F (ids.eraseIdx i) (hs.set c (hs.getD c 0+1))).map fun r=>(⟨ids.getD i 0,⟨(c:Int),hs.getD c 0,0⟩⟩:G1)::r)->∃ x q,r=x::q∧x.Slot=⟨(c:Int),hs.getD c 0,0⟩∧∀ y∈q,QZ x y:=fun c hc r hr=>by
    have h9:=(sound r (List.mem_flatMap.2 ⟨c,List.mem_range.2 hc,hr⟩)).2.2;cases h0:shut ts hs c with
    | true=>rw [h0] at hr; simp at hr
    | false=>
     rw [h0] at hr;simp only [cond_false,List.mem_flatMap,List.mem_range,Su] at hr;obtain⟨i,hi,q,hq,rfl⟩:=hr;exact⟨_,q,rfl,rfl,(List.pairwise_cons.1 h9).1⟩
   refine List.pairwise_flatMap.2 ⟨fun c hc=>?_,(List.pairwise_lt_range).imp_of_mem fun {c1 c2} h1 h2 h5 a ha b hb hp=>?_⟩
   ·have a0:=List.mem_range.1 hc;have h6:=head c a0;cases h0:shut ts hs c with
    | true=>exact .nil
    | false=>
     rw [h0,cond_false] at h6;rw [cond_false];refine List.pairwise_flatMap.2 ⟨fun i hi=>List.pairwise_map.2 ?_,(List.pairwise_lt_range).imp_of_mem fun {i1 i2} h1 h2 h5 a ha b hb hp=>?_⟩
     ·have a1:=List.mem_range.1 hi;have h7:c < hs.length:=by omega
      refine(GW (F:=F) (ids:=ids.eraseIdx i) (hs:=hs.set c (hs.getD c 0+1)) (by rw [List.length_set]; exact hl) (fun h hm=>by
       rcases List.mem_or_eq_of_mem_set hm with hm | rfl
       ·exact hn h hm
       ·have:hs.getD c 0=hs[c]:=by simp [List.getD,h7]
        have:=hn _ (List.getElem_mem h7);omega) (hd.sublist (List.eraseIdx_sublist ..))).imp fun h hp=>h ((List.perm_cons _).1 hp)
     ·have g1:=List.mem_range.1 h1;have g2:=List.mem_range.1 h2;obtain⟨x,q,e,hx,h3⟩:=h6 a (List.mem_flatMap.2 ⟨i1,h1,ha⟩);obtain⟨q1,_,rfl⟩:=Su.1 ha;obtain⟨q2,_,rfl⟩:=Su.1 hb;injection e with e1 e2;subst e1;subst e2;have hm:(⟨ids.getD i2 0,⟨(c:Int),hs.getD c 0,0⟩⟩:G1)∈(⟨ids.getD i1 0,⟨(c:Int),hs.getD c 0,0⟩⟩:G1)::q1:=hp.mem_iff.2 (List.mem_cons_self ..);rcases Sw.1 hm with e | hm
      ·injection e with e _;have n1:ids.getD i1 0=ids[i1]:=by simp [List.getD,g1]
       have n2:ids.getD i2 0=ids[i2]:=by simp [List.getD,g2]
       rw [n1,n2] at e;have:=(List.pairwise_iff_getElem.1 hd) i1 i2 g1 g2 h5;exact this e.symm
      ·have:=h3 _ hm;rcases this with h | ⟨_,h⟩
       ·exact Int.lt_irrefl _ h
       ·exact Int.lt_irrefl _ h
   ·obtain⟨x,q,rfl,hx,h3⟩:=head c1 (List.mem_range.1 h1) a ha;obtain⟨y,p,rfl,hy,h4⟩:=head c2 (List.mem_range.1 h2) b hb;have hm:x∈y::p:=hp.mem_iff.1 (List.mem_cons_self ..);rcases Sw.1 hm with e | hm
    ·rw [e,hy] at hx;injection hx with h _;omega
    ·have:=h4 _ hm;unfold QZ at this;rw [hx,hy] at this;simp only at this;omega

def Q0a (a b:G1):Int:=gR a.Box b.Box
theorem G76:Cmp Q0a:=JS (fun x:G1=>x.Box)
theorem Hf6 (a b:G1):aA a b=some (Q0a a b):=by unfold aA; rw [J4a]; rfl
def canon (l:AE):AE:=tD Q0a l
variable {l:AE}
theorem JE (h:(l.map (·.Box)).Nodup):∀ a∈l,∀ b∈l,a.Box=b.Box->a=b:=fun a ha b hb e=>by
 obtain⟨i,hi,rfl⟩:=List.mem_iff_getElem.1 ha;obtain⟨j,hj,rfl⟩:=List.mem_iff_getElem.1 hb;have:=List.pairwise_iff_getElem.1 h;rcases Nat.lt_trichotomy i j with h0 | rfl | h1
 ·exact(this i j (by simpa using hi) (by simpa using hj) h0 (by simpa using e)).elim
 ·rfl
 ·exact(this j i (by simpa using hj) (by simpa using hi) h1 (by simpa using e.symm)).elim
theorem ZA (h:(l.map (·.Box)).Nodup) (hl:l.length<=1000):zK (fun z0 z1=>aA z0 z1) l=some (canon l):=
 Hfa G76.ordc Hf6 (fun a ha b hb h1 h2=>JE h a ha b hb (by
  have e1:¬ a.Box < b.Box:=fun h=>h1 (rR.2 h);have e2:¬ b.Box < a.Box:=fun h=>h2 (rR.2 h);omega)) (by omega)
theorem dY (l:AE):(canon l).Perm l:=bJ _ _
theorem pO (hp:(l.map (·.Box)).Perm ids) (hs:ids.Pairwise (· < ·)):(canon l).map (·.Box)=ids:=by
 have h1:((canon l).map (·.Box)).Pairwise (fun a b:Int=>a<=b):=List.pairwise_map.2 ((cG G76.ordc l).imp fun {a b} h=>by
  have:¬ b.Box < a.Box:=fun h'=>h (rR.2 h');omega)
 exact List.Perm.eq_of_pairwise (le:=fun a b:Int=>a<=b) (fun a b _ _ h1 h2=>Int.le_antisymm h1 h2) h1 (hs.imp fun h=>Int.le_of_lt h) (((dY l).map _).trans hp)
theorem Jce {a b:AE} (hp:a.Perm b) (hd:(b.map (·.Box)).Pairwise (· < ·)):canon a=b:=by
 have h1:=cG G76.ordc a;refine List.Perm.eq_of_pairwise (le:=G08 Q0a) (fun x y hx hy h1 h2=>?_) h1 ?_ ((dY a).trans hp)
 ·have hn:(b.map (·.Box)).Nodup:=hd.imp fun h=>by omega
  exact JE hn x (hp.mem_iff.1 ((dY a).mem_iff.1 hx)) y hy (by
   have e1:¬ y.Box < x.Box:=fun h=>h1 (rR.2 h);have e2:¬ x.Box < y.Box:=fun h=>h2 (rR.2 h);omega)
 ·exact(List.pairwise_map.1 hd).imp fun {x y} h h'=>by have:=rR.1 h'; omega
open Go.RowKit Go.Sort

theorem wP (n c:Nat):(List.replicate n (0:Int)).getD c 0=0:=by
 simp only [List.getD,List.getElem?_replicate]; split <;> rfl
theorem H00:∀ {a b:AE},a.map (·.Box)=b.map (·.Box)->a.map (·.Slot)=b.map (·.Slot)->a=b
 | [],[],_,_=>rfl
 | [],_::_,h,_=>by simp at h
 | _::_,[],h,_=>by simp at h
 | x::a,y::b,h1,h2=>by
  simp only [List.map_cons,List.cons.injEq] at h1 h2;rw [H00 h1.2 h2.2];obtain⟨bx,sx⟩:=x;obtain⟨by_,sy⟩:=y;simp only at h1 h2;rw [h1.1,h2.1]
def aF (s:Gc):AD:=s.AB.map (·.Tiers)
def fR (F:Nat) (s:Gc) (ids:AD):List AE:=fT (aF s) F ids (List.replicate s.AB.length 0)
structure Whole (AA:AH) (ids:AD):Prop where
 sorted:ids.Pairwise (· < ·)
 size:∀ id∈ids,∃ b,jU AA id=some b∧b.Size=40
variable {s:Gc} {AA:AH}
theorem H71 (hw:Whole AA ids) (h:Zj s AA l) (hm:l.map (·.Box)=ids):H96 (aF s) (List.replicate s.AB.length 0) l∧l.Pairwise (fun a b=>a.Slot≠b.Slot):=by
 have ok:∀ x∈l,oM s x.Slot 40:=fun x hx=>by
  obtain⟨b,h1,h2,_⟩:=h.each x hx;obtain⟨b',h3,h4⟩:=hw.size x.Box (by rw [<- hm]; exact List.mem_map_of_mem hx);rw [h1] at h3; cases h3
  rwa [h4] at h2
 have half:∀ x∈l,x.Slot.Half=0:=fun x hx=>by
  have:=(ok x hx).half;simpa [jT] using this
 refine⟨⟨fun x hx=>?_,fun x hx=>?_⟩,h.apart.imp fun {a b} hn e=>hn ?_⟩
 ·obtain⟨m,c,h1,h2,h3⟩:=(ok x hx).col;have h0:m < s.AB.length:=(Sa h2).1;refine⟨half x hx,m,h1,by unfold aF; rw [Ss]; exact h0,by rw [wP]; exact(ok x hx).tier,?_,fun c' _=>by rw [wP]; exact Int.le_refl _⟩;have:(aF s).getD m 0=c.Tiers:=by unfold aF; simp [List.getD,h2]
  rw [this]; exact h3
 ·obtain⟨b,_,_,h1⟩:=h.each x hx;have out:∀ hf:Int,below (l.map (·.Slot)) x.Slot hf->∃ y∈l,y.Slot=⟨x.Slot.G7,x.Slot.AL - 1,hf⟩:=fun hf hb=>by
   obtain⟨y,hy,e⟩:=Su.1 hb;exact⟨y,hy,e⟩
  rcases h1 with h1 | h1 | ⟨_,h1,_⟩
  ·exact .inl fun c _=>by rw [wP]; exact h1
  ·rw [half x hx] at h1;exact .inr (out 0 h1)
  ·obtain⟨y,hy,e⟩:=out 1 h1;have:=half y hy;rw [e] at this; cases this
 ·rw [e];exact⟨rfl,rfl,.inl rfl⟩
theorem pQ {r:AE} (h:r∈fR F s ids):(r.map (·.Box)).Perm ids∧H96 (aF s) (List.replicate s.AB.length 0) r∧r.Pairwise QZ:=
 GV (by unfold aF; simp) (fun h hh=>by rw [List.mem_replicate] at hh; omega) h
theorem Ja9 (hw:Whole AA ids) (hF:ids.length < F) (h:Zj s AA l) (hm:l.map (·.Box)=ids):∃ r∈fR F s ids,canon r=l:=by
 obtain⟨h1,h2⟩:=H71 hw h hm;obtain⟨r,hr,hp⟩:=H86 (F:=F) (ids:=ids) (by unfold aF; simp) (fun h hh=>by rw [List.mem_replicate] at hh; omega) hF (by rw [hm]) h1 h2;exact⟨r,hr,Jce hp (by rw [hm]; exact hw.sorted)⟩

structure H23 (F:Nat) (s:Gc) (AA:AH) (ids:AD) (R:List AE):Prop where
 sorted:R.Pairwise (fun a b=>aG a b < 0)
 mem:∀ l,l∈R ↔ Zj s AA l∧l.map (·.Box)=ids
 count:(∀ r∈fR F s ids,Zj s AA (canon r))->R.length=(fR F s ids).length
 le:R.length<=(fR F s ids).length
theorem YY (hr:Jh s=some true) (hc:s.AB.length<=1000) (ht:∀ c∈s.AB,c.Tiers<=1000000) (hw:Whole AA ids) (hl:ids.length<=1000) (hF:ids.length < F) (hn:(fR F s ids).length<=1000000) :
  Wp (Qs F s AA ids) (H23 F s AA ids):=by
 have h9:ids.Nodup:=hw.sorted.imp fun h=>by omega
 unfold Qs;have a6:lM (s.AB.length:Int)=some s.AB.length:=by unfold lM; rw [S8 (by omega)]; simp
 refine Gv a6 (Ji (S8 ⟨by omega,Nat.le_trans hc (by decide),by omega⟩) ?_);refine Gv (x:=()) rfl ?_;refine Gv (Gdc s F ids (List.replicate s.AB.length 0) (by simp) hc (fun h hh=>by rw [List.mem_replicate] at hh; omega) hF hl) ?_;show Wp (each _ _ (fR F s ids) 0 []) _
 have a0:(fR F s ids).Pairwise (fun a b=>¬ a.Perm b):=GW (by unfold aF; simp) (fun h hh=>by rw [List.mem_replicate] at hh; omega) h9;refine Ja (fun pre s18=>s18.length<=pre.length∧s18.Pairwise (fun a b=>aG a b≠0)∧(∀ l,l∈s18 ↔ Zj s AA l∧∃ r∈pre,canon r=l)∧((∀ r∈pre,Zj s AA (canon r))->s18.length=pre.length))
  ⟨Sf,.nil,fun l=>⟨fun h=>(Se h).elim,fun⟨_,r,h,_⟩=>(Se h).elim⟩,fun _=>rfl⟩ (fun pre y post s18 nx e hI a1=>?_) (fun s18 hI=>?_)
 ·obtain⟨i1,i2,i3,i4⟩:=hI;have hy:y∈fR F s ids:=by rw [e]; simp
  obtain⟨w1,w2,w3⟩:=pQ hy;have a8:y.length=ids.length:=by have:=w1.length_eq; simpa using this
  have a7:=pO w1 hw.sorted;refine Gv (ZA (w1.nodup_iff.2 h9) (by omega)) ?_;have b6:(canon y).length=ids.length:=by rw [(dY y).length_eq,a8]
  refine H6 (wp_mono (fK hr ht (by omega)) fun b hb=>?_);have b5:pre.length < (fR F s ids).length:=by rw [e]; simp
  refine Hr (fun a9=>?_) (fun a2=>?_)
  ·have hR:=hb.1 a9;refine Ji ?_ (a1 _ ⟨?_,?_,fun l=>?_,fun h0=>?_⟩)
   ·refine S8 ⟨?_,?_⟩
    ·rw [Sp]; omega
    ·rw [Sp]; exact Nat.le_trans (by omega:s18.length+1<=1000001) (by decide)
   ·simp only [Sn,Sp]; omega
   ·refine List.pairwise_append.2 ⟨i2,List.pairwise_singleton ..,fun a ha b a3=>?_⟩;rw [Sv] at a3;subst a3;intro hz;obtain⟨_,r,a4,h4⟩:=(i3 a).1 ha;obtain⟨v1,_,_⟩:=pQ (F:=F) (s:=s) (ids:=ids) (r:=r) (by rw [e]; simp [a4]);have b0:a.map (·.Box)=ids:=by rw [<- h4]; exact pO v1 hw.sorted
    have b1:a=canon y:=H00 (by rw [b0,a7]) (RC hz);have h5:r.Perm y:=(dY r).symm.trans (by rw [h4,b1]; exact dY y);rw [e] at a0;exact(List.pairwise_append.1 a0).2.2 r a4 y (List.mem_cons_self ..) h5
   ·rw [St,Sv,i3];constructor
    ·rintro(⟨h1,r,h2,h3⟩ | rfl)
     ·exact⟨h1,r,List.mem_append_left _ h2,h3⟩
     ·exact⟨hR,y,by simp,rfl⟩
    ·rintro⟨h1,r,h2,h3⟩;rcases St.1 h2 with h2 | h2
     ·exact .inl ⟨h1,r,h2,h3⟩
     ·rw [Sv] at h2;subst h2;exact .inr h3.symm
   ·simp only [Sn,Sp];rw [i4 fun r hr=>h0 r (List.mem_append_left _ hr)]
  ·have hR:¬ Zj s AA (canon y):=fun h=>by rw [hb.2 h] at a2; cases a2
   refine a1 _ ⟨by simp only [Sn,Sp]; omega,i2,fun l=>?_,fun h0=>(hR (h0 y (by simp))).elim⟩;rw [i3];constructor
   ·rintro⟨h1,r,h2,h3⟩;exact⟨h1,r,List.mem_append_left _ h2,h3⟩
   ·rintro⟨h1,r,h2,h3⟩;rcases St.1 h2 with h2 | h2
    ·exact⟨h1,r,h2,h3⟩
    ·rw [Sv] at h2;subst h2;rw [h3] at hR;exact(hR h1).elim
 ·obtain⟨i1,i2,i3,i4⟩:=hI;have h6:∀ a∈s18,∀ b∈s18,aG a b=0->a=b:=fun a ha b hb h=>by
   obtain⟨i,hi,rfl⟩:=List.mem_iff_getElem.1 ha;obtain⟨j,hj,rfl⟩:=List.mem_iff_getElem.1 hb;have hp:=List.pairwise_iff_getElem.1 i2;rcases Nat.lt_trichotomy i j with b2 | rfl | b3
   ·exact(hp i j hi hj b2 h).elim
   ·rfl
   ·have:=dL.anti s18[i] s18[j];exact(hp j i hj hi b3 (by omega)).elim
  have h7:∀ r',r'.Perm s18->iR aG r'->r'=tD aG s18:=fun r' hp hs=>by
   refine List.Perm.eq_of_pairwise (le:=G08 aG) (fun a b ha hb h1 h2=>?_) (hs.imp fun h=>S7 h) (cG dL.ordc s18) (hp.trans (bJ _ _).symm);have:=dL.anti a b;exact h6 a (hp.mem_iff.1 ha) b ((bJ _ _).mem_iff.1 hb) (by omega)
  have h8:wJ (fun z0 z1=>Zd z0 z1) s18=some (tD aG s18):=Gc4 aG wX (Gfe dL.ordc) (by omega) (bJ _ _) ((cG dL.ordc s18).imp fun h=>S9 h) h7;refine Gv h8 (Gx ⟨?_,fun l=>?_,fun h=>?_,?_⟩)
  ·have b4:(tD aG s18).Pairwise (fun a b=>aG a b≠0):=(bJ aG s18).symm.pairwise i2 (fun {a b} h e=>h (by have:=dL.anti a b; omega));refine(List.pairwise_iff_getElem.2 fun i j hi hj a5=>?_);have h1:=(List.pairwise_iff_getElem.1 (cG dL.ordc s18)) i j hi hj a5;have h2:=(List.pairwise_iff_getElem.1 b4) i j hi hj a5;have:=dL.anti (tD aG s18)[i] (tD aG s18)[j];omega
  ·rw [G63,i3];constructor
   ·rintro⟨h1,r,h2,rfl⟩;exact⟨h1,pO (pQ h2).1 hw.sorted⟩
   ·rintro⟨h1,h2⟩;obtain⟨r,hr,h4⟩:=Ja9 hw hF h1 h2;exact⟨h1,r,hr,h4⟩
  ·rw [ZK]; exact i4 h
  ·rw [ZK]; exact i1
end Go.Proofs.YtibhpogonkdiaaaGreat
