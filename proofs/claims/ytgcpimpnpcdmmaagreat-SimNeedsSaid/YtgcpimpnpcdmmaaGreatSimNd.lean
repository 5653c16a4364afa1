/- SimNeeds: -/
import Derived.Test.YtgcpimpnpcdmmaaGreatSimR
import Derived.Test.YtgcpimpnpcdmmaaGreatXR
set_option maxRecDepth 100000
set_option linter.unusedVariables false
namespace Go.Proofs.YtgcpimpnpcdmmaaGreat
open Go.RowKit
theorem Yec {F:Nat} (hF:60≤F) (places:List H9) (covers:Int) (items:List H8) (hp:∀ p∈places,Q88 p) (hi:∀ x∈items,R8d x) :
  Wp (R2 F places covers items) (fun r=>Hd4 r.1∧Gcb 4 r.2.1∧Q2e r.1 r.2.1 4 r.2.2):=by
 unfold R2
 refine H4 (wp_mono (Y6a places covers hp) (fun s hs=>?_))
 exact H4 (wp_mono (Rf4 (Q6e hs) hi (by decide) hF) (fun r hr=>Gn ⟨hs,hr.1,hr.2⟩))
theorem Hc4 {F:Nat} {s:Gj} {boxes:List Box}:∀ (a:List Move) {b:List Move} {st st':St3},Yx F s boxes (a++b) st=some st'→∃ st1,Yx F s boxes a st=some st1∧Yx F s boxes b st1=some st'
 | [],b,st,st',h=>⟨st,rfl,h⟩
 | x::r,b,st,st',h=>by
  rw [List.cons_append] at h
  obtain⟨hc,h⟩:=Zz.1 h
  obtain⟨st1,h1,h2⟩:=Hc4 r h
  exact⟨st1,Zz.2 ⟨hc,h1⟩,h2⟩
section
variable {s:Gj} {boxes:List Box} {t:St} {x:Move}
theorem Can.kind (h:Can s boxes t x):x.Kind=1∨x.Kind=4∨x.Kind=2∨x.Kind=3:=by
 rcases h with h | h | h | h
 ·exact .inl h.1
 ·exact .inr (.inl h.1)
 ·exact .inr (.inr (.inl h.1))
 ·exact .inr (.inr (.inr h.1))
theorem Can.at2 (h:Can s boxes t x) (hk:x.Kind=2):(⟨x.Box,x.Slot⟩:G1)∈t.l:=by
 rcases h with h | h | h | h
 ·exact absurd h.1 (by omega)
 ·exact absurd h.1 (by omega)
 ·exact h.2.2.1
 ·exact absurd h.1 (by omega)
theorem Can.at3 (h:Can s boxes t x) (hk:x.Kind=3):x.Box∈t.a:=by
 rcases h with h | h | h | h
 ·exact absurd h.1 (by omega)
 ·exact absurd h.1 (by omega)
 ·exact absurd h.1 (by omega)
 ·exact h.2.2.1
theorem Can.at1 (h:Can s boxes t x) (hk:x.Kind=1):x.G9 ∉ t.o:=by
 rcases h with h | h | h | h
 ·exact h.2.2.2.2.2.1
 ·exact absurd h.1 (by omega)
 ·exact absurd h.1 (by omega)
 ·exact absurd h.1 (by omega)
theorem Can.at4 (h:Can s boxes t x) (hk:x.Kind=4):x.G9∈t.o:=by
 rcases h with h | h | h | h
 ·exact absurd h.1 (by omega)
 ·exact h.2.2.2.2.2
 ·exact absurd h.1 (by omega)
 ·exact absurd h.1 (by omega)
theorem Qd1 (hG:Good s boxes t) (h:Can s boxes t x) (y:G1):y∈(nxt t x).l ↔ (x.Kind=3∧y=⟨x.Box,x.Slot⟩)∨(y∈t.l∧¬ (x.Kind=2∧y.Box=x.Box)):=by
 rcases h.kind with hk | hk | hk | hk
 ·rw [Rd6 hk]
  exact⟨fun g=>.inr ⟨g,fun g2=>by omega⟩,fun g=>g.elim (fun g=>by omega) (·.1)⟩
 ·rw [Rd3 hk]
  exact⟨fun g=>.inr ⟨g,fun g2=>by omega⟩,fun g=>g.elim (fun g=>by omega) (·.1)⟩
 ·rw [Rd5 hk]
  show y∈H27 x.Box t.l ↔ _
  rw [Jeb]
  exact⟨fun g=>.inr ⟨g.1,fun g2=>g.2 g2.2⟩,fun g=>g.elim (fun g=>by omega) (fun g=>⟨g.1,fun e=>g.2 ⟨hk,e⟩⟩)⟩
 ·rw [Rd4 hk]
  show y∈H26 ⟨x.Box,x.Slot⟩ t.l ↔ _
  have h0:x.Box ∉ t.l.map (·.Box):=hG.disj _ (h.at3 hk)
  rw [(G37 (H4c hG.right.sorted (y:=⟨x.Box,x.Slot⟩) h0)).mem_iff,Mr]
  exact⟨fun g=>g.elim (fun g=>.inl ⟨hk,g⟩) (fun g=>.inr ⟨g,fun g2=>by omega⟩),fun g=>g.elim (fun g=>.inl g.2) (fun g=>.inr g.1)⟩
theorem Rd2 (h:Can s boxes t x) (k:Int):k∈(nxt t x).o ↔ (x.Kind=1∧k=x.G9)∨(k∈t.o∧¬ (x.Kind=4∧k=x.G9)):=by
 rcases h.kind with hk | hk | hk | hk
 ·rw [Rd6 hk]
  show k∈H14 x.G9 t.o ↔ _
  rw [G24]
  exact⟨fun g=>g.elim (fun g=>.inl ⟨hk,g⟩) (fun g=>.inr ⟨g,fun g2=>by omega⟩),fun g=>g.elim (fun g=>.inl g.2) (fun g=>.inr g.1)⟩
 ·rw [Rd3 hk]
  show k∈H6d x.G9 t.o ↔ _
  rw [G25]
  exact⟨fun g=>.inr ⟨g.1,fun g2=>g.2 g2.2⟩,fun g=>g.elim (fun g=>by omega) (fun g=>⟨g.1,fun e=>g.2 ⟨hk,e⟩⟩)⟩
 ·rw [Rd5 hk]
  exact⟨fun g=>.inr ⟨g,fun g2=>by omega⟩,fun g=>g.elim (fun g=>by omega) (·.1)⟩
 ·rw [Rd4 hk]
  exact⟨fun g=>.inr ⟨g,fun g2=>by omega⟩,fun g=>g.elim (fun g=>by omega) (·.1)⟩
theorem Y8e (h:Can s boxes t x) (k:Int):k∈(nxt t x).a ↔ (x.Kind=2∧k=x.Box)∨(k∈t.a∧¬ (x.Kind=3∧k=x.Box)):=by
 rcases h.kind with hk | hk | hk | hk
 ·rw [Rd6 hk]
  exact⟨fun g=>.inr ⟨g,fun g2=>by omega⟩,fun g=>g.elim (fun g=>by omega) (·.1)⟩
 ·rw [Rd3 hk]
  exact⟨fun g=>.inr ⟨g,fun g2=>by omega⟩,fun g=>g.elim (fun g=>by omega) (·.1)⟩
 ·rw [Rd5 hk]
  show k∈H14 x.Box t.a ↔ _
  rw [G24]
  exact⟨fun g=>g.elim (fun g=>.inl ⟨hk,g⟩) (fun g=>.inr ⟨g,fun g2=>by omega⟩),fun g=>g.elim (fun g=>.inl g.2) (fun g=>.inr g.1)⟩
 ·rw [Rd4 hk]
  show k∈H6d x.Box t.a ↔ _
  rw [G25]
  exact⟨fun g=>.inr ⟨g.1,fun g2=>g.2 g2.2⟩,fun g=>g.elim (fun g=>by omega) (fun g=>⟨g.1,fun e=>g.2 ⟨hk,e⟩⟩)⟩
theorem turn {α:Type} {y:α} {l:Prop} {A1 A2 D1 D2:Prop} (h1:A1→¬ D2) (h2:A2→¬ D1):(A2∨((A1∨(l∧¬ D1))∧¬ D2)) ↔ (A1∨((A2∨(l∧¬ D2))∧¬ D1)):=by
 constructor
 ·rintro(h | ⟨h | ⟨h,hd⟩,h0⟩)
  ·exact .inr ⟨.inl h,h2 h⟩
  ·exact .inl h
  ·exact .inr ⟨.inr ⟨h,h0⟩,hd⟩
 ·rintro(h | ⟨h | ⟨h,hd⟩,h0⟩)
  ·exact .inr ⟨.inl h,h1 h⟩
  ·exact .inl h
  ·exact .inr ⟨.inr ⟨h,h0⟩,hd⟩
theorem exchange {x1 x2:Move} (hG:Good s boxes t) (a1:Can s boxes t x1) (a2:Can s boxes (nxt t x1) x2) (b2:Can s boxes t x2) (b1:Can s boxes (nxt t x2) x1):nxt (nxt t x1) x2=nxt (nxt t x2) x1:=by
 have g1:=a1.step hG
 have g2:=b2.step hG
 have g12:=a2.step g1
 have g21:=b1.step g2
 have same:∀ {y1 y2:Move},Can s boxes t y1→Can s boxes t y2→y1.Kind=3→y2.Kind=2→y1.Box≠y2.Box:=fun c1 c2 k1 k2 e=>hG.disj _ (c1.at3 k1) (Mp.2 ⟨_,c2.at2 k2,e.symm⟩)
 have sameO:∀ {y1 y2:Move},Can s boxes t y1→Can s boxes t y2→y1.Kind=1→y2.Kind=4→y1.G9≠y2.G9:=fun c1 c2 k1 k2 e=>c1.at1 k1 (e ▸ c2.at4 k2)
 have hl:(nxt (nxt t x1) x2).l=(nxt (nxt t x2) x1).l:=by
  refine Gfe ((List.perm_ext_iff_of_nodup (Jbf g12.right.sorted) (Jbf g21.right.sorted)).2 fun y=>?_) g12.right.sorted g21.right.sorted
  rw [Qd1 g1 a2,Qd1 hG a1,Qd1 g2 b1,Qd1 hG b2]
  exact turn (y:=y) (fun h d=>same a1 b2 h.1 d.1 (by rw [← d.2,h.2])) (fun h d=>same b2 a1 h.1 d.1 (by rw [← d.2,h.2]))
 have ho:(nxt (nxt t x1) x2).o=(nxt (nxt t x2) x1).o:=by
  refine G7e g12.opn.sorted g21.opn.sorted fun k=>?_
  rw [Rd2 a2,Rd2 a1,Rd2 b1,Rd2 b2]
  exact turn (y:=k) (fun h d=>sameO a1 b2 h.1 d.1 (by rw [← d.2,h.2])) (fun h d=>sameO b2 a1 h.1 d.1 (by rw [← d.2,h.2]))
 have ha:(nxt (nxt t x1) x2).a=(nxt (nxt t x2) x1).a:=by
  refine G7e g12.asc g21.asc fun k=>?_
  rw [Y8e a2,Y8e a1,Y8e b1,Y8e b2]
  exact turn (y:=k) (fun h d=>same b2 a1 d.1 h.1 (by rw [← d.2,h.2])) (fun h d=>same a1 b2 d.1 h.1 (by rw [← d.2,h.2]))
 exact congrArg H97 (show H35 (nxt (nxt t x1) x2)=H35 (nxt (nxt t x2) x1) from by unfold H35; rw [hl,ho,ha])
def fB (b:Int) (x:Move):Int:=(if x.Kind=3∧b=x.Box then 1 else 0) - (if x.Kind=2∧b=x.Box then 1 else 0)
def fO (k:Int) (x:Move):Int:=(if x.Kind=1∧k=x.G9 then 1 else 0) - (if x.Kind=4∧k=x.G9 then 1 else 0)
def J15 (f:Move→Int):List Move→Int
 | []=>0
 | x::r=>f x+J15 f r
theorem J50 (f:Move→Int):∀ a b:List Move,J15 f (a++b)=J15 f a+J15 f b
 | [],b=>by show _=0+_; rw [List.nil_append]; omega
 | x::a,b=>by
  show f x+J15 f (a++b)=f x+J15 f a+J15 f b
  rw [J50 f a b]; omega
def isB (l:List G1) (b:Int):Int:=if b∈l.map (·.Box) then 1 else 0
def isO (o:List Int) (k:Int):Int:=if k∈o then 1 else 0
theorem adds {p A D:Prop} {p':Prop} [Decidable p] [Decidable p'] [Decidable A] [Decidable D] (h:p' ↔ A∨(p∧¬ D)) (hA:A→¬ p) (hD:D→p) (h0:A→¬ D):(if p' then (1:Int) else 0)=(if p then 1 else 0)+((if A then 1 else 0) - (if D then 1 else 0)):=by
 by_cases a:A
 ·rw [if_pos a,if_neg (hA a),if_neg (h0 a),if_pos (h.2 (.inl a))]; rfl
 ·by_cases d:D
  ·rw [if_neg a,if_pos d,if_pos (hD d),if_neg (fun g=>(h.1 g).elim a (fun g=>g.2 d))]; rfl
  ·rw [if_neg a,if_neg d]
   by_cases q:p
   ·rw [if_pos q,if_pos (h.2 (.inr ⟨q,d⟩))]; rfl
   ·rw [if_neg q,if_neg (fun g=>(h.1 g).elim a (fun g=>q g.1))]; rfl
theorem Z9c (hG:Good s boxes t) (h:Can s boxes t x) (b:Int):isB (nxt t x).l b=isB t.l b+fB b x:=by
 unfold isB fB
 refine adds (A:=x.Kind=3∧b=x.Box) (D:=x.Kind=2∧b=x.Box) ?_ (fun g hm=>hG.disj _ (h.at3 g.1) (g.2 ▸ hm)) (fun g=>Mp.2 ⟨_,h.at2 g.1,g.2.symm⟩) (fun g d=>by omega)
 rw [Mp,Mp]
 constructor
 ·rintro⟨y,hy,rfl⟩
  rcases (Qd1 hG h y).1 hy with ⟨g1,g2⟩ | ⟨g1,g2⟩
  ·exact .inl ⟨g1,by rw [g2]⟩
  ·exact .inr ⟨⟨y,g1,rfl⟩,g2⟩
 ·rintro(⟨g1,g2⟩ | ⟨⟨y,hy,rfl⟩,g2⟩)
  ·exact⟨⟨x.Box,x.Slot⟩,(Qd1 hG h _).2 (.inl ⟨g1,rfl⟩),g2.symm⟩
  ·exact⟨y,(Qd1 hG h y).2 (.inr ⟨hy,g2⟩),rfl⟩
theorem Z9b (h:Can s boxes t x) (k:Int):isO (nxt t x).o k=isO t.o k+fO k x:=by
 unfold isO fO
 exact adds (Rd2 h k) (fun g=>by rw [g.2]; exact h.at1 g.1) (fun g=>by rw [g.2]; exact h.at4 g.1) (fun g d=>by omega)
theorem Qc5 {F:Nat}:∀ (ms:List Move) (t:St) (st':St3),Good s boxes t→Yx F s boxes ms (H35 t)=some st'→(∀ b,isB st'.1 b=isB t.l b+J15 (fB b) ms)∧∀ k,isO st'.2.1 k=isO t.o k+J15 (fO k) ms
 | [],t,st',hG,h=>by
  cases h
  exact⟨fun b=>by show isB t.l b=isB t.l b+0; omega,fun k=>by show isO t.o k=isO t.o k+0; omega⟩
 | m::r,t,st',hG,h=>by
  obtain⟨hc,h⟩:=Zz.1 h
  have hc:Can s boxes t m:=hc
  obtain⟨h1,h2⟩:=Qc5 r (nxt t m) st' (hc.step hG) h
  refine⟨fun b=>?_,fun k=>?_⟩
  ·rw [h1,Z9c hG hc]
   show _=isB t.l b+(fB b m+J15 (fB b) r)
   omega
  ·rw [h2,Z9b hc]
   show _=isO t.o k+(fO k m+J15 (fO k) r)
   omega
theorem needs {F:Nat} {a c:List Move} {m:Move} {af:List G1} {q q2:List Int} (hG:Good s boxes t) (h:Yx F s boxes (a++m::c) (H35 t)=some (af,[],q)) (h2:Yx F s boxes (a++c) (H35 t)=some (af,[],q2)):False:=by
 obtain⟨u1,u2⟩:=Qc5 _ _ _ hG h
 obtain⟨v1,v2⟩:=Qc5 _ _ _ hG h2
 have zB:∀ b,fB b m=0:=fun b=>by
  have e1:isB af b=isB t.l b+J15 (fB b) (a++m::c):=u1 b
  have e2:isB af b=isB t.l b+J15 (fB b) (a++c):=v1 b
  rw [J50] at e1 e2
  have e3:J15 (fB b) (m::c)=fB b m+J15 (fB b) c:=rfl
  omega
 have zO:∀ k,fO k m=0:=fun k=>by
  have e1:isO [] k=isO t.o k+J15 (fO k) (a++m::c):=u2 k
  have e2:isO [] k=isO t.o k+J15 (fO k) (a++c):=v2 k
  rw [J50] at e1 e2
  have e3:J15 (fO k) (m::c)=fO k m+J15 (fO k) c:=rfl
  omega
 obtain⟨st1,_,g2⟩:=Hc4 a h
 obtain⟨hc,_⟩:=Zz.1 g2
 have z1:=zB m.Box
 have z2:=zO m.G9
 unfold fB at z1
 unfold fO at z2
 rcases hc.kind with hk | hk | hk | hk
 ·rw [if_pos ⟨hk,rfl⟩,if_neg (by omega)] at z2; omega
 ·rw [if_neg (by omega),if_pos ⟨hk,rfl⟩] at z2; omega
 ·rw [if_neg (by omega),if_pos ⟨hk,rfl⟩] at z1; omega
 ·rw [if_pos ⟨hk,rfl⟩,if_neg (by omega)] at z1; omega
theorem turned {F:Nat} {a c:List Move} {m1 m2:Move} {st' st2:St3} (hG:Good s boxes t) (h:Yx F s boxes (a++m1::m2::c) (H35 t)=some st') (h2:Yx F s boxes (a++m2::m1::c) (H35 t)=some st2):st2=st':=by
 obtain⟨s1,g1,g2⟩:=Hc4 a h
 obtain⟨s2,k1,k2⟩:=Hc4 a h2
 have e:s2=s1:=M8 (k1.symm.trans g1)
 subst e
 have h0:=Qe2 a t s2 hG g1
 obtain⟨a1,g2⟩:=Zz.1 g2
 obtain⟨a2,g2⟩:=Zz.1 g2
 obtain⟨b2,k2⟩:=Zz.1 k2
 obtain⟨b1,k2⟩:=Zz.1 k2
 have ex:=exchange h0 a1 a2 b2 b1
 have g2:Yx F s boxes c (H35 (nxt (nxt (H97 s2) m1) m2))=some st':=g2
 have k2:Yx F s boxes c (H35 (nxt (nxt (H97 s2) m2) m1))=some st2:=k2
 rw [ex] at g2
 exact M8 (k2.symm.trans g2)
theorem R72 (a c:List Move) (m1 m2:Move):G19 (a++m2::m1::c)=G19 (a++m1::m2::c):=by
 induction a with
 | nil=>
  show G3e m2+(G3e m1+G19 c)=G3e m1+(G3e m2+G19 c)
  omega
 | cons x r ih=>
  show G3e x+G19 (r++m2::m1::c)=G3e x+G19 (r++m1::m2::c)
  rw [ih]
end
theorem Y84 (a b:List G1):Wp (Jh a b) (fun r=>r=true ↔ a=b):=by
 unfold Jh
 refine Hu (fun h=>Gn ⟨fun h=>(by cases h),fun e=>?_⟩) (fun h=>?_)
 ·have h:=M2 h
  subst e
  exact(h rfl).elim
 ·have hl:a.length=b.length:=by have:=M3 h; omega
  refine Jo (fun pre _=>∀ j (hj:j < pre.length),pre[j]? = b[j]?) (fun j hj=>by simp at hj) (fun pre y post u nx e hI h2=>?_) (fun u hI=>Gn ⟨fun _=>?_,fun _=>rfl⟩)
  ·have h0:pre.length < b.length:=by rw [← hl,e]; simp
   refine Yh rfl (M7 h0) (Hu (fun h=>Gn ⟨fun h=>(by cases h),fun e2=>?_⟩) (fun h=>h2 _ fun j hj=>?_))
   ·subst e2
    have:a[pre.length]? = some y:=by rw [e]; simp
    rw [M7 h0] at this
    have:=M8 this
    rw [this] at h
    simp at h
   ·rw [Mi,Mj] at hj
    by_cases h1:j < pre.length
    ·rw [Md h1]; exact hI j h1
    ·have:j=pre.length:=by omega
     subst this
     rw [M7 h0]
     have h:y=b[pre.length]:=by simpa using h
     rw [← h]; simp
  ·apply List.ext_getElem?
   intro j
   by_cases hj:j < a.length
   ·exact hI j hj
   ·rw [List.getElem?_eq_none (by omega),List.getElem?_eq_none (by omega)]
theorem Z62 (a b:List Move) (h:a.length+b.length≤100000):Zf [a,b]=some (a++b):=by
 refine G60 ?_
 unfold Zf
 refine Jo (fun pre n=>n=((pre.map List.length).sum:Int)∧0≤n∧n≤200000) ⟨rfl,by omega,by omega⟩ (fun pre y post n nx e hI h0=>?_) (fun n hI=>?_)
 ·obtain⟨h1,h2,h3⟩:=hI
  have hs:((([a,b]:List (List Move)).map List.length).sum)=a.length+b.length:=by simp
  rw [e,List.map_append,List.sum_append,List.map_cons,List.sum_cons] at hs
  have h1:n=(((pre.map List.length).sum:Nat):Int):=by simpa using h1
  refine Qo (by omega) (Hu (fun h=>absurd (M2 h) (by omega)) (fun _=>h0 _ ⟨?_,by omega,by omega⟩))
  rw [h1]
  simp
 ·obtain⟨h1,h2,h3⟩:=hI
  refine Gt (show Zx n=some [] from ?_) ?_
  ·unfold Zx
   rw [M4 (show 0≤n∧n*48≤140737488355328∧n≤(maxLen:Int) from ⟨h2,by omega,by simp only [maxLen]; omega⟩)]
   rfl
  ·rw [each,each,each]
   refine Rj (M4 ⟨by simp only [List.length_nil]; omega,by simp only [List.length_nil,maxLen]; omega⟩) (Rj (M4 ⟨by simp only [List.length_nil,Mi]; omega,by simp only [List.length_nil,Mi,maxLen]; omega⟩) (Gn rfl))
theorem Z19 {l:List Move} (h:l.length≤1000000):Rf l=some l:=J8c (Y86 (k:=48) h (by decide))
theorem Y5d {F:Nat} (hF:60≤F) (places:List H9) (covers:Int) (items:List H8) (call which:Int) (hp:∀ p∈places,Q88 p) (hi:∀ x∈items,R8d x) (a7:Byte call) (a1:Byte which) :
  Zv F places covers items call which=some true:=by
 refine G60 ?_
 obtain⟨c1,c2⟩:=a7
 obtain⟨w1,w2⟩:=a1
 unfold Zv
 refine Gt Z69 (Hu (fun h=>by cases h) (fun _=>?_))
 refine H4 (wp_mono (Yec hF places covers items hp hi) (fun r7 h7=>?_))
 obtain⟨s,boxes,p⟩:=r7
 obtain⟨hs,hb,h9⟩:=h7
 have hs:Hd4 s:=hs
 have hb:Gcb 4 boxes:=hb
 have h9:Q2e s boxes 4 p:=h9
 dsimp only
 have b0:=h9.len
 refine Qo ⟨by omega,by omega⟩ (H4 (J05 (by omega) ?_))
 rw [b0,show call.tmod 4=call % 4 from Int.tmod_eq_emod_of_nonneg c1]
 obtain⟨k,hk⟩:∃ k:Nat,call % 4=(k:Int):=⟨(call % 4).toNat,by omega⟩
 have b1:k < p.States.length:=by omega
 rw [hk]
 have ha:=M7 b1
 generalize p.States[k]=af at ha
 obtain⟨lf,hc⟩:=Z1b (F:=F) hF hs hb h9 ha
 refine G00 (fun j=>j=Ja4 (p.States.take k)) (fun K hK=>Hu (fun h=>?_) (fun h=>hK _ ?_)) (fun j hj=>?_)
 ·have h:=M2 h
  have a8:k - 1 < p.States.length:=by omega
  refine Qo ⟨by omega,by omega⟩ (Yh (show (k:Int) - 1=((k - 1:Nat):Int) by omega) (M7 a8) (hK _ ?_))
  unfold Ja4
  rw [List.getLast?_take,if_neg (by omega),M7 a8]
  rfl
 ·have h:=M3 h
  have:k=0:=by omega
  subst this
  rfl
 subst hj
 generalize Ja4 (p.States.take k)=bf at hc
 have b2:=hc.C.lb
 have c0:=hc.C.la
 have c3:bf.length+(G3d af bf).length≤10:=hc.good.num
 have b3:=Yd8 (s:=s) (bf:=bf) (af:=af) (lf:=lf) (R53 hs) (by omega) (by omega)
 have h4:=hc.run
 refine Yh rfl ha (Gt hc.call ?_)
 dsimp only
 generalize Hf6 s bf af lf=l at b3 h4
 refine Hu (fun h=>Gn rfl) (fun h=>?_)
 have c4:0 < l.length:=by
  simp only [Mu,decide_eq_false_iff_not] at h
  omega
 refine Qo ⟨by omega,by omega⟩ (H4 (J05 (by omega) ?_))
 have hv:=Int.emod_lt_of_pos which (show (0:Int) < (l.length:Int) by omega)
 have c5:=Int.emod_nonneg which (show (l.length:Int)≠0 by omega)
 rw [Int.tmod_eq_emod_of_nonneg w1]
 obtain⟨i,hi⟩:∃ i:Nat,which % (l.length:Int)=(i:Int):=⟨(which % (l.length:Int)).toNat,by omega⟩
 rw [hi] at hv ⊢
 have h5:i < l.length:=by omega
 have b4:=Y45 hc.good.ship hc.good.right b2 (a:=G3d af bf) (by omega) hc.good.box hc.good.asc hc.good.disj
 obtain⟨r30,e30,h0,hR,a9⟩:=b4
 obtain⟨m0,e0⟩:=r30
 have h0:e0=0:=h0
 subst h0
 have a9:m0.lifts=0:=a9
 refine Gt (R43 (by omega)) (Gt e30 (Gt (R43 (by omega)) (Gt e30 ?_)))
 refine Qo (show -9223372036854775808≤(0:Int)+0∧(0:Int)+0≤9223372036854775807 by decide) (Hu (fun h=>by cases h) (fun _=>?_))
 refine H4 (H87 (m:=i) rfl (by omega) (Qo ⟨by omega,by omega⟩ (H4 (H87 (m:=i+1) (by omega) (by omega) ?_))))
 have b5:(l.take i).length+(l.drop (i+1)).length≤100000:=by rw [List.length_take,List.length_drop]; omega
 refine Gt (Z62 _ _ b5) ?_
 have a2:l=l.take i++l[i]::l.drop (i+1):=by rw [← List.drop_eq_getElem_cons h5,List.take_append_drop]
 refine H4 (wp_mono (R39 hc.good hR (l:=l.take i++l.drop (i+1)) (by rw [Mi]; show 0≤m0.lifts∧m0.lifts+(((l.take i).length+(l.drop (i+1)).length:Nat):Int)≤1000000; omega)) (fun r43 b6=>?_))
 -- the rest, with two neighbours exchanged
 have second:Wp (bnd (Rf l) fun r51=>
     jp (fun kj53=>
      chk ((i:Int)+1) fun v55=>
      bif decide (v55 < (l.length:Int)) then
      (chk ((i:Int)+1) fun v56=>
       chk ((i:Int)+1) fun v57=>
       Qm r51 v57 fun y58=>
       Qm r51 (i:Int) fun y59=>
       Qm r51 (i:Int) fun y60=>
       Qm (r51.set (i:Int).toNat y58) v56 fun y61=>
       kj53 ((r51.set (i:Int).toNat y58).set v56.toNat y59))
      else
      (kj53 r51)) fun(j53:(List Move))=>
     bnd (G0e m0 j53) fun r63=>
     bnd (bif (!(decide (r63.2.1≠0))) then Ya r63.2.2 else some default) fun r65=>
     bnd (bif ((!(decide (r63.2.1≠0)))&&(decide ((r65.length:Int)=0))) then Ye r63.2.2 else some default) fun r66=>
     bnd (bif ((!(decide (r63.2.1≠0)))&&(decide ((r65.length:Int)=0))) then Jh r66 af else some default) fun r67=>
     bnd (bif ((!(decide (r63.2.1≠0)))&&((decide ((r65.length:Int)=0))&&r67)) then Zt r63.2.2 else some default) fun r68=>
     bnd (bif ((!(decide (r63.2.1≠0)))&&((decide ((r65.length:Int)=0))&&r67)) then G5e l else some default) fun r69=>
     some ((decide (r63.2.1≠0))||(((decide ((r65.length:Int)=0))&&r67)&&(decide (r68=r69))))) (·=true):=by
  refine Gt (Z19 (by omega)) ?_
  refine G00 (fun j=>j.length=l.length∧G19 j=G19 l∧∀ st',Yx 0 s boxes j (bf,[],G3d af bf)=some st'→st'=(af,[],G3d bf af)) (fun K hK=>?_) (fun j hj=>?_)
  ·refine Qo ⟨by omega,by omega⟩ (Hu (fun h=>?_) (fun h=>hK _ ⟨rfl,rfl,fun st' hr=>M8 (hr.symm.trans h4)⟩))
   have h:=M2 h
   have a0:i+1 < l.length:=by omega
   have a3:l=l.take i++l[i]::l[i+1]::l.drop (i+2):=by
    rw [← List.drop_eq_getElem_cons a0,← List.drop_eq_getElem_cons h5,List.take_append_drop]
   have b7:(l.set (i:Int).toNat l[i+1]).set ((i:Int)+1).toNat l[i]=l.take i++l[i+1]::l[i]::l.drop (i+2):=by
    rw [show (i:Int).toNat=i by omega,show ((i:Int)+1).toNat=i+1 by omega]
    apply List.ext_getElem?
    intro j
    have a4:(l.take i).length=i:=by rw [List.length_take]; omega
    rw [List.getElem?_set,List.getElem?_set,List.length_set]
    by_cases h1:i+1=j
    ·subst h1
     rw [if_pos rfl,if_pos a0,Mc (by omega),a4,show i+1 - i=1 by omega]; rfl
    ·rw [if_neg h1]
     by_cases h2:i=j
     ·subst h2
      rw [if_pos rfl,if_pos h5,Mc (by omega),a4,Nat.sub_self]; rfl
     ·rw [if_neg h2]
      by_cases h3:j < i
      ·rw [Md (by omega),Mg,if_pos h3]
      ·rw [Mc (by omega),a4]
       obtain⟨d,hd⟩:∃ d,j - i=d+2:=⟨j - i - 2,by omega⟩
       rw [hd,List.getElem?_cons_succ,List.getElem?_cons_succ,Mh]
       congr 1; omega
   refine Qo ⟨by omega,by omega⟩ (Qo ⟨by omega,by omega⟩ (Yh (m:=i+1) (by omega) (M7 a0) (Yh rfl (M7 h5) (Yh rfl (M7 h5) ?_))))
   refine Yh (m:=i+1) (x:=(l.set (i:Int).toNat l[i+1])[i+1]'(by rw [List.length_set]; exact a0)) (by omega) (M7 _) (hK _ ?_)
   rw [b7]
   refine⟨?_,?_,fun st' hr=>?_⟩
   ·conv=>rhs; rw [a3]
    simp only [Mi,Me]
   ·conv=>rhs; rw [a3]
    exact R72 _ _ _ _
   ·rw [a3] at h4
    exact turned hc.good h4 hr
  ·obtain⟨j1,j2,j3⟩:=hj
   refine H4 (wp_mono (R39 hc.good hR (l:=j) (by show 0≤m0.lifts∧m0.lifts+(j.length:Int)≤1000000; omega)) (fun r63 b8=>?_))
   obtain⟨n,e1,m⟩:=r63
   rcases b8 with ⟨t',hr,hn,he,h6,h8,a5⟩ | ⟨_,he⟩
   ·have he:e1=0:=he
    subst he
    have e3:t'=⟨af,[],G3d bf af⟩:=congrArg H97 (j3 _ hr)
    subst e3
    have a5:m.lifts=m0.lifts+G19 j:=a5
    dsimp only
    rw [M5 (show ¬ ((0:Int)≠0) by decide)]
    refine Gt (Y8b h6 h8) (Gt (Rc6 h6 h8) (H4 (wp_mono (Y84 af af) (fun r67 b9=>?_))))
    have:r67=true:=b9.2 rfl
    subst this
    refine Gt (show Zt m=some m.lifts from rfl) (Gt (R70 (by omega)) (Gn ?_))
    rw [M4 (show m.lifts=G19 l by omega)]
    rfl
   ·have he:e1≠0:=he
    dsimp only
    rw [M4 he]
    exact H4 (Gn (H4 (Gn (H4 (Gn (H4 (Gn (H4 (Gn (Gn rfl))))))))))
 obtain⟨n,e1,m⟩:=r43
 rcases b6 with ⟨t',hr,hn,he,h6,h8,a5⟩ | ⟨_,he⟩
 ·have he:e1=0:=he
  subst he
  dsimp only
  rw [M4 (show (0:Int)=0 from rfl)]
  refine Gt (Y8b h6 h8) ?_
  by_cases ho:(t'.o.length:Int)=0
  ·rw [M4 ho]
   refine Gt (Rc6 h6 h8) (H4 (wp_mono (Y84 t'.l af) (fun r48 a6=>?_)))
   refine Hu (fun h=>?_) (fun _=>second)
   exfalso
   have a6:t'.l=af:=a6.1 (by simpa using h)
   have ho:t'.o=[]:=Kw (by omega)
   rw [a2] at h4
   have hr:Yx 0 s boxes (l.take i++l.drop (i+1)) (H35 ⟨bf,[],G3d af bf⟩)=some (af,[],t'.a):=by
    rw [hr]
    show some (t'.l,t'.o,t'.a)=_
    rw [a6,ho]
   exact needs hc.good h4 hr
  ·rw [M5 ho]
   exact H4 (Gn (H4 (Gn (Hu (fun h=>by cases h) (fun _=>second)))))
 ·have he:e1≠0:=he
  dsimp only
  rw [M5 he]
  exact H4 (Gn (H4 (Gn (H4 (Gn (Hu (fun h=>by cases h) (fun _=>second)))))))
end Go.Proofs.YtgcpimpnpcdmmaaGreat
