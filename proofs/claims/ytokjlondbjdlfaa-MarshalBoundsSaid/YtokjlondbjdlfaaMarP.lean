/-
 Way and place of program and reference; The search,from yard to yard. Moves one af the other;
-/
import Derived.Test.YtokjlondbjdlfaaMarI
set_option maxRecDepth 100000
set_option linter.unusedVariables false
namespace Go.Proofs.Ytokjlondbjdlfaa
open Go.RowKit Go.Sort Go.Shelf

/-! ### The reference's sort -/
theorem R47 {ss:List (List Int)} {H:Int} {order:List Int}:Yv ⟨ss,H⟩ order=some (if Yk ss H order then (G0f (Q1 order ss),0) else ([],2)):=by
 unfold Yv
 rw [G3a,G06]
 by_cases h:Yk ss H order
 ·rw [if_pos h,if_pos h,Ja7 h.y.all]; rfl
 ·rw [if_neg h,if_neg h]; rfl
/-! ### The place -/
def mnL (order:List Int) (s:List Int):Nat:=s.foldl (fun m b=>min m (rnk order b)) (order.length+1)
theorem Jdf (order:List Int) (s:List Int) (b:Int):mnL order (s++[b])=min (mnL order s) (rnk order b):=by
 unfold mnL; rw [List.foldl_append]; rfl
def okP (H:Int) (order:List Int) (from_ rank:Nat) (i:Nat) (s:List Int):Prop:=i≠from_∧(s.length:Int) < H∧rank≤mnL order s
def Hc0 (ss:List (List Int)) (H:Int) (order:List Int) (from_ rank:Nat) (D:Nat→Prop) (out:Int):Prop:=
 (out = -1∧∀ i s,D i→ss[i]? = some s→¬ okP H order from_ rank i s) ∨
 ∃ (i:Nat) (s:List Int),out=(i:Int)∧D i∧ss[i]? = some s∧okP H order from_ rank i s∧∀ j t,D j→ss[j]? = some t→okP H order from_ rank j t→mnL order s≤mnL order t∧(mnL order s=mnL order t→i≤j)
theorem Hc0.uniq {ss:List (List Int)} {H:Int} {order:List Int} {from_ rank:Nat} {D E:Nat→Prop} (h0:∀ i,i < ss.length→(D i ↔ E i)) {a b:Int} (ha:Hc0 ss H order from_ rank D a) (hb:Hc0 ss H order from_ rank E b):a=b:=by
 have lt:∀ {i s},ss[i]? = some s→i < ss.length:=fun h=>(Ev h).1
 rcases ha with ⟨rfl,h1⟩ | ⟨i,s,rfl,d1,g1,o1,h1⟩
 ·rcases hb with ⟨rfl,_⟩ | ⟨j,t,rfl,d2,g2,o2,h2⟩
  ·rfl
  ·exact absurd o2 (h1 j t ((h0 j (lt g2)).2 d2) g2)
 ·rcases hb with ⟨rfl,h2⟩ | ⟨j,t,rfl,d2,g2,o2,h2⟩
  ·exact absurd o1 (h2 i s ((h0 i (lt g1)).1 d1) g1)
  ·have p1:=h1 j t ((h0 j (lt g2)).2 d2) g2 o2
   have p2:=h2 i s ((h0 i (lt g1)).1 d1) g1 o1
   have e:mnL order s=mnL order t:=by omega
   have:=p1.2 e
   have:=p2.2 e.symm
   have:i=j:=by omega
   rw [this]
theorem Q45 {ss:List (List Int)} {H:Int} {order:List Int} (hr:Jv ss H) (ho:order.length≤1000000) (from_ rank:Nat):Wp (R7 ⟨ss,H⟩ order (from_:Int) (rank:Int)) (Hc0 ss H order from_ rank (fun _=>True)):=by
 unfold R7
 refine Q8 (fun pre s=>Hc0 ss H order from_ rank (fun i=>i < pre.length) s.1∧∀ (i:Nat) t,s.1=(i:Int)→ss[i]? = some t→s.2=(mnL order t:Int)) ⟨.inl ⟨rfl,fun i s h=>by simp at h⟩,fun i t h=>by dsimp only at h; omega⟩ (fun pre x post s nx e hI a1=>?_) (fun s hI=>Hq ?_)
 ·have e:ss=pre++x::post:=e
  have hx:ss[pre.length]? = some x:=by rw [e]; simp
  have a2:=hr.fit x (Ey hx)
  obtain⟨hB,hv⟩:=hI
  refine H28 (fun r=>Hc0 ss H order from_ rank (fun i=>i < (pre++[x]).length) r.1∧∀ (i:Nat) t,r.1=(i:Int)→ss[i]? = some t→r.2=(mnL order t:Int)) (fun K hK=>?_) (fun a ha=>a1 _ ha)
  rw [Kg,Kh] at hK
  -- no, or not better
  have stay:(okP H order from_ rank pre.length x→0≤s.1∧s.2≤(mnL order x:Int))→Wp (K (s.1,s.2)) _:=fun h8=>hK _ ⟨by
   rcases hB with ⟨h1,h2⟩ | ⟨i,t,h1,h2,h3,h4,h5⟩
   ·refine .inl ⟨h1,fun j u hj hu=>?_⟩
    by_cases ej:j=pre.length
    ·subst ej
     rw [hx] at hu; cases hu
     intro ho
     have:=(h8 ho).1; omega
    ·exact h2 j u (by omega) hu
   ·refine .inr ⟨i,t,h1,by omega,h3,h4,fun j u hj hu h9=>?_⟩
    by_cases ej:j=pre.length
    ·subst ej
     rw [hx] at hu; cases hu
     have g1:=(h8 h9).2
     rw [hv i t h1 h3] at g1
     exact⟨by omega,fun _=>by omega⟩
    ·exact h5 j u (by omega) hu h9,hv⟩
  refine Hs (fun h=>stay fun h0=>?_) (fun h=>?_)
  ·simp only [Kr,Kj] at h
   have:=h0.1; have:=h0.2.1
   omega
  ·simp only [Ks,decide_eq_false_iff_not] at h
   refine Q6 (by omega) ?_
   refine Q8 (fun pr z=>z=(mnL order pr:Int)) (by unfold mnL; simp) (fun pr b po z nx' e' hJ a0=>?_) (fun z hJ=>?_)
   ·subst hJ
    refine Gk (H66 order b) (a0 _ ?_)
    rw [Jdf]; omega
   ·have hJ:z=(mnL order x:Int):=hJ
    subst hJ
    refine Hs (fun h2=>hK _ ⟨.inr ⟨pre.length,x,rfl,by omega,hx,⟨by omega,by omega,?_⟩,fun j t hj ht h0=>?_⟩,fun i t hi ht=>?_⟩) (fun h2=>stay fun h0=>?_)
    ·simp only [Ki,Kr,Kj] at h2; omega
    ·simp only [Ki,Kr,Kj] at h2
     by_cases ej:j=pre.length
     ·subst ej
      rw [hx] at ht; cases ht
      exact⟨K0,fun _=>K0⟩
     ·rcases hB with ⟨h3,h4⟩ | ⟨i,u,h3,h4,h5,h6,h7⟩
      ·exact absurd h0 (h4 j t (by omega) ht)
      ·have g1:=h7 j t (by omega) ht h0
       have g2:=hv i u h3 h5
       rw [g2] at h2
       exact⟨by omega,fun _=>by omega⟩
    ·have hi:(pre.length:Int)=(i:Int):=hi
     have:i=pre.length:=by omega
     subst this
     rw [hx] at ht; cases ht; rfl
    ·have:=h0.2.2
     simp only [Bool.and_eq_false_iff,Ks,decide_eq_false_iff_not] at h2
     omega
 ·have hI:Hc0 ss H order from_ rank (fun i=>i < ss.length) s.1:=hI.1
  rcases hI with ⟨h1,h2⟩ | ⟨i,t,h1,h2,h3,h4,h5⟩
  ·exact .inl ⟨h1,fun j u _ hu=>h2 j u (Ev hu).1 hu⟩
  ·exact .inr ⟨i,t,h1,trivial,h3,h4,fun j u _ hu=>h5 j u (Ev hu).1 hu⟩
theorem J78 {order s:List Int} (ho:order.length≤1000000):R9 s order=some (mnL order s:Int):=by
 refine Y4 ?_
 unfold R9
 refine Q6 (by omega) (Q8 (fun pr z=>z=(mnL order pr:Int)) (by unfold mnL; simp) (fun pr b po z nx' e' hJ h0=>?_) (fun z hJ=>Hq hJ))
 subst hJ
 refine H28 (fun r=>r=(mnL order (pr++[b]):Int)) (fun K hK=>?_) (fun a ha=>h0 _ ha)
 rw [Jdf] at hK
 refine Gk (G9c order b) (Hs (fun h=>Gk (G9c order b) (hK _ ?_)) (fun h=>hK _ ?_))
 ·have:=Ep h; omega
 ·have:=Er h; omega
theorem Jd5 {F:Nat} (hF:400 < F) {ss:List (List Int)} {H:Int} {order:List Int} (hr:Jv ss H) (ho:order.length≤1000000) (from_:Nat) (box:Int):Wp (Qb F ⟨ss,H⟩ order (from_:Int) box) (Hc0 ss H order from_ (rnk order box) (fun _=>True)):=by
 unfold Qb
 have h9:=hr.most
 have a0:=hr.some_
 refine Q6 (by dsimp only; omega) ?_
 refine wp_loop (fun z=>∃ k:Nat,z.2=(k:Int) - 1∧k≤ss.length∧Hc0 ss H order from_ (rnk order box) (fun i=>k≤i) z.1) (fun z=>(z.2+1).toNat) ⟨ss.length,rfl,K0,.inl ⟨rfl,fun i s h1 h2=>by have:=(Ev h2).1; omega⟩⟩ (by dsimp only; omega) (fun z nx hz h8=>?_)
 obtain⟨out,kz⟩:=z
 obtain⟨k,hk,a1,hB⟩:=hz
 have hk:kz=(k:Int) - 1:=hk
 subst hk
 have hB:Hc0 ss H order from_ (rnk order box) (fun i=>k≤i) out:=hB
 refine Hs (fun h=>?_) (fun h=>Hq ?_)
 ·have h:(0:Int)≤(k:Int) - 1:=Ep h
  obtain⟨m,rfl⟩:∃ m,k=m+1:=⟨k - 1,by omega⟩
  have em:((m+1:Nat):Int) - 1=(m:Int):=by omega
  have hx:ss[m]? = some ss[m]:=Ew (by omega)
  dsimp only
  rw [em]
  refine H28 (fun r=>Hc0 ss H order from_ (rnk order box) (fun i=>m≤i) r) (fun K hK=>?_) (fun a ha=>Q6 (by omega) (h8 _ ⟨m,by dsimp only,by omega,ha⟩ (by dsimp only; omega)))
  have skip:(okP H order from_ (rnk order box) m ss[m]→∃ (i:Nat) (t:List Int),out=(i:Int)∧ss[i]? = some t∧mnL order t < mnL order ss[m])→Wp (K out) _:=fun h7=>hK _ (by
   rcases hB with ⟨h1,h2⟩ | ⟨i,t,h1,h2,h3,h4,h5⟩
   ·refine .inl ⟨h1,fun j u hj hu=>?_⟩
    by_cases ej:j=m
    ·subst ej
     rw [hx] at hu; cases hu
     intro ho
     obtain⟨i,t,g1,_⟩:=h7 ho
     omega
    ·exact h2 j u (by omega) hu
   ·refine .inr ⟨i,t,h1,by omega,h3,h4,fun j u hj hu h6=>?_⟩
    by_cases ej:j=m
    ·subst ej
     rw [hx] at hu; cases hu
     obtain⟨i',t',g1,g2,g3⟩:=h7 h6
     have:i=i':=by omega
     subst this
     rw [h3] at g2; cases g2
     exact⟨by omega,fun _=>by omega⟩
    ·exact h5 j u (by omega) hu h6)
  refine Qi rfl hx (Gk (J78 ho) ?_)
  by_cases c1:(m:Int)≠(from_:Int)
  case neg=>
   have e1:decide ((m:Int)≠(from_:Int))=false:=Eu c1
   rw [e1]
   exact Gk (x:=default) rfl (Gk (x:=default) rfl (Gk (x:=default) rfl (Gk (x:=default) rfl (Hs (fun h=>by cases h) (fun _=>skip fun h0=>absurd h0.1 (by omega))))))
  have e1:decide ((m:Int)≠(from_:Int))=true:=Es c1
  rw [e1]
  refine G67 rfl (Gad hx _) ?_
  by_cases c2:(ss[m].length:Int) < H
  case neg=>
   have e2:decide ((ss[m].length:Int) < H)=false:=Eu c2
   rw [e2]
   exact Gk (x:=default) rfl (Gk (x:=default) rfl (Gk (x:=default) rfl (Hs (fun h=>by cases h) (fun _=>skip fun h0=>absurd h0.2.1 c2))))
  have e2:decide ((ss[m].length:Int) < H)=true:=Es c2
  rw [e2]
  refine G67 rfl (G9c order box) ?_
  by_cases c3:(rnk order box:Int)≤(mnL order ss[m]:Int)
  case neg=>
   have e3:decide ((rnk order box:Int)≤(mnL order ss[m]:Int))=false:=Eu c3
   rw [e3]
   exact Gk (x:=default) rfl (Gk (x:=default) rfl (Hs (fun h=>by cases h) (fun _=>skip fun h0=>absurd h0.2.2 (by omega))))
  have e3:decide ((rnk order box:Int)≤(mnL order ss[m]:Int))=true:=Es c3
  rw [e3]
  have h0:okP H order from_ (rnk order box) m ss[m]:=⟨by omega,c2,by omega⟩
  rcases hB with ⟨h1,h2⟩ | ⟨i,t,h1,h2,h3,h4,h5⟩
  ·subst h1
   refine Gk (x:=default) rfl (Gk (x:=default) rfl (Hs (fun _=>hK _ (.inr ⟨m,ss[m],rfl,K0,hx,h0,fun j u hj hu h6=>?_⟩)) (fun h=>by cases h)))
   by_cases ej:j=m
   ·subst ej
    rw [hx] at hu; cases hu
    exact⟨K0,fun _=>K0⟩
   ·exact absurd h6 (h2 j u (by omega) hu)
  ·subst h1
   have e4:decide ((i:Int) < 0)=false:=Eu (by omega)
   rw [e4]
   refine G67 rfl (Gad h3 _) (G67 rfl (J78 ho) (Hs (fun h=>hK _ (.inr ⟨m,ss[m],rfl,K0,hx,h0,fun j u hj hu h6=>?_⟩)) (fun h=>skip fun _=>⟨i,t,rfl,h3,?_⟩)))
   ·simp only [Bool.true_and,Bool.false_or,Kj] at h
    by_cases ej:j=m
    ·subst ej
     rw [hx] at hu; cases hu
     exact⟨K0,fun _=>K0⟩
    ·have:=h5 j u (by omega) hu h6
     exact⟨by omega,fun _=>by omega⟩
   ·simp only [Bool.true_and,Bool.false_or,decide_eq_false_iff_not] at h
    omega
 ·have h:¬ (0:Int)≤(k:Int) - 1:=Er h
  have:k=0:=by omega
  subst this
  rcases hB with ⟨h1,h2⟩ | ⟨i,t,h1,h2,h3,h4,h5⟩
  ·exact .inl ⟨h1,fun j u _ hu=>h2 j u (Nat.zero_le _) hu⟩
  ·exact .inr ⟨i,t,h1,trivial,h3,h4,fun j u _ hu=>h5 j u (Nat.zero_le _) hu⟩
theorem places {F:Nat} (hF:400 < F) {ss:List (List Int)} {H:Int} {order:List Int} (hr:Jv ss H) (ho:order.length≤1000000) (from_:Nat) (box:Int):∃ v,R7 ⟨ss,H⟩ order (from_:Int) (rnk order box:Int)=some v∧Qb F ⟨ss,H⟩ order (from_:Int) box=some v∧Hc0 ss H order from_ (rnk order box) (fun _=>True) v:=by
 obtain⟨v,h1,h2⟩:=Q45 hr ho from_ (rnk order box)
 obtain⟨u,h3,h4⟩:=Jd5 hF hr ho from_ box
 have:=Hc0.uniq (fun i _=>Iff.rfl) h2 h4
 subst this
 exact⟨v,h1,h3,h2⟩
open Go.RowKit

def bfs (order:List Int) (H:Int):Nat→List Gb→Nat→List Gb×Option Nat
 | 0,all,_=>(all,none)
 | f+1,all,at_=>match all[at_]? with
  | none=>(all,none)
  | some z=>if Q1 order z.y.Stacks=[] then (all,some at_) else bfs order H f (G37 H (at_:Int) all (G5d z.y.Stacks H.toNat)) (at_+1)
def R17 (boxes:List Int) (n:Nat) (H:Int) (r:List Gb×Option Nat):Prop:=Met boxes n H r.1∧∀ i,r.2=some i→i < r.1.length
theorem Jaf {boxes order:List Int} {n:Nat} {H:Int}:∀ (f:Nat) {all:List Gb} (at_:Nat),Met boxes n H all→R17 boxes n H (bfs order H f all at_)
 | 0,all,at_,hA=>⟨hA,fun i h=>by cases h⟩
 | f+1,all,at_,hA=>by
  rw [bfs]
  cases hz:all[at_]? with
  | none=>exact⟨hA,fun i h=>by cases h⟩
  | some z=>
   have h0:=(Ev hz).1
   dsimp only
   split
   ·exact⟨hA,fun i h=>by cases h; exact h0⟩
   ·exact Jaf f (at_+1) (hA.G37 _ h0 (H37 (hA.ok z (Ey hz)).1))

/-! ### Which moves come first -/
def ltM (a b:G3):Prop:=a.From < b.From∨(a.From=b.From∧a.To < b.To)
def Je7:List G3→List G3→Prop
 | a::p,b::q=>ltM a b∨(a=b∧Je7 p q)
 | _,_=>False
def slt (p q:List G3):Prop:=p.length < q.length∨(p.length=q.length∧Je7 p q)
def sle (p q:List G3):Prop:=p=q∨slt p q
theorem Qb8 {a b c:G3} (h:ltM a b) (g:ltM b c):ltM a c:=by unfold ltM at *; omega
theorem J34:∀ {p q r:List G3},Je7 p q→Je7 q r→Je7 p r
 | a::p,b::q,c::r,h,g=>by
  rcases h with h | ⟨rfl,h⟩
  ·rcases g with g | ⟨rfl,g⟩
   ·exact .inl (Qb8 h g)
   ·exact .inl h
  ·rcases g with g | ⟨rfl,g⟩
   ·exact .inl g
   ·exact .inr ⟨rfl,J34 h g⟩
 | [],_,_,h,_=>h.elim
 | _::_,[],_,h,_=>h.elim
 | _::_,_::_,[],_,g=>g.elim
theorem Qa9 {p q r:List G3} (h:slt p q) (g:slt q r):slt p r:=by
 rcases h with h | ⟨h1,h2⟩
 ·rcases g with g | ⟨g1,g2⟩
  ·exact .inl (by omega)
  ·exact .inl (by omega)
 ·rcases g with g | ⟨g1,g2⟩
  ·exact .inl (by omega)
  ·exact .inr ⟨by omega,J34 h2 g2⟩
theorem H53 {p q r:List G3} (h:sle p q) (g:sle q r):sle p r:=by
 rcases h with rfl | h
 ·exact g
 ·rcases g with rfl | g
  ·exact .inr h
  ·exact .inr (Qa9 h g)
theorem Je6 {a b:List G3}:∀ {p q:List G3},Je7 p q→Je7 (p++a) (q++b)
 | x::p,y::q,h=>by
  rcases h with h | ⟨rfl,h⟩
  ·exact .inl h
  ·exact .inr ⟨rfl,Je6 h⟩
 | [],_,h=>h.elim
 | _::_,[],h=>h.elim
theorem J84 {m m':G3} (h:ltM m m'):∀ p:List G3,Je7 (p++[m]) (p++[m'])
 | []=>.inl h
 | x::p=>.inr ⟨rfl,J84 h p⟩
theorem Q72 {p q:List G3} {m m':G3} (h:slt p q):slt (p++[m]) (q++[m']):=by
 rcases h with h | ⟨h1,h2⟩
 ·exact .inl (by rw [Kg,Kg,Kh,Kh]; omega)
 ·exact .inr ⟨by rw [Kg,Kg,Kh,Kh,h1],Je6 h2⟩
theorem Qdd {m m':G3} (h:ltM m m') (p:List G3):slt (p++[m]) (p++[m']):=.inr ⟨by simp,J84 h p⟩
theorem R30 {p q:List G3} {m:G3} (h:sle p q):sle (p++[m]) (q++[m]):=by
 rcases h with rfl | h
 ·exact .inl rfl
 ·exact .inr (Q72 h)
theorem R2f (p q:List G3):sle p (p++q):=by
 cases q with
 | nil=>exact .inl (by simp)
 | cons x q=>exact .inr (.inl (by rw [Kg,Kc]; omega))

/-! ### Moves that can be done -/
def run (h:Nat):List (List Int)→List G3→Option (List (List Int))
 | ss,[]=>some ss
 | ss,m::p=>if (Hi ss h m).2=0 then run h (Hi ss h m).1 p else none
theorem J20 {h:Nat} {m:G3}:∀ {p:List G3} {ss t:List (List Int)},run h ss (p++[m])=some t ↔ ∃ u,run h ss p=some u∧(Hi u h m).2=0∧(Hi u h m).1=t
 | [],ss,t=>by
  show (if (Hi ss h m).2=0 then some (Hi ss h m).1 else none)=some t ↔ _
  constructor
  ·intro g
   split at g
   ·rename_i h0; exact⟨ss,rfl,h0,Ex g⟩
   ·cases g
  ·rintro⟨u,hu,h0,rfl⟩
   cases hu
   rw [if_pos h0]
 | x::p,ss,t=>by
  rw [List.cons_append,run,run]
  split
  ·exact J20
  ·exact⟨fun g=>(by cases g),fun⟨u,hu,_⟩=>(by cases hu)⟩
theorem Qb5 {ss:List (List Int)} {h:Nat} {m:G3} (h0:(Hi ss h m).2=0):(m,(Hi ss h m).1)∈G5d ss h:=by
 rcases G32 ss h m with h' | ⟨f,t,a,b,x,c⟩
 ·exact(h' h0).elim
 ·have h3:=(Ev c.hf).1
  have h4:=(Ev c.ht).1
  have e:m=⟨(f:Int),(t:Int)⟩:=by
   obtain⟨p,q⟩:=m
   have h1:p=(f:Int):=c.from_
   have h2:q=(t:Int):=c.to_
   rw [h1,h2]
  unfold G5d H19
  refine List.mem_flatMap.2 ⟨f,List.mem_range.2 h3,?_⟩
  unfold Gf1
  refine List.mem_flatMap.2 ⟨t,List.mem_range.2 h4,?_⟩
  unfold G27
  rw [← e,if_pos h0]
  exact Ko.2 rfl
theorem Heb (ss:List (List Int)) (h a:Nat):∀ m,(Gf1 ss h a m).Pairwise (fun x y=>ltM x.1 y.1)∧∀ x∈Gf1 ss h a m,x.1.From=(a:Int)∧x.1.To < (m:Int)
 | 0=>⟨by simp [Gf1],by simp [Gf1]⟩
 | m+1=>by
  obtain⟨h1,h2⟩:=Heb ss h a m
  have h3:∀ x∈G27 ss h a m,x.1=⟨(a:Int),(m:Int)⟩:=fun x hx=>by
   unfold G27 at hx
   split at hx
   ·rw [Ko] at hx; rw [hx]
   ·simp at hx
  rw [H56]
  refine⟨List.pairwise_append.2 ⟨h1,?_,fun x hx y hy=>?_⟩,fun x hx=>?_⟩
  ·unfold G27; split <;> simp
  ·have:=h2 x hx
   rw [h3 y hy]
   exact .inr ⟨this.1,this.2⟩
  ·rcases Km.1 hx with hx | hx
   ·have:=h2 x hx; exact⟨this.1,by omega⟩
   ·rw [h3 x hx]; exact⟨rfl,by show (m:Int) < ((m+1:Nat):Int); omega⟩
theorem Ja8 (ss:List (List Int)) (h:Nat):(G5d ss h).Pairwise (fun x y=>ltM x.1 y.1):=by
 have key:∀ m,(H19 ss h ss.length m).Pairwise (fun x y=>ltM x.1 y.1)∧∀ x∈H19 ss h ss.length m,x.1.From < (m:Int):=by
  intro m
  induction m with
  | zero=>exact⟨by simp [H19],by simp [H19]⟩
  | succ m ih=>
   obtain⟨h1,h2⟩:=Heb ss h m ss.length
   rw [H64]
   refine⟨List.pairwise_append.2 ⟨ih.1,h1,fun x hx y hy=>?_⟩,fun x hx=>?_⟩
   ·have:=ih.2 x hx
    have:=(h2 y hy).1
    exact .inl (by omega)
   ·rcases Km.1 hx with hx | hx
    ·have:=ih.2 x hx; omega
    ·have:=(h2 x hx).1; omega
 exact(key _).1

/-! ### The search with the ways it came -/
structure H1b (h:Nat) (order:List Int) (ss:List (List Int)) (all:List Gb) (ps:List (List G3)) (at_:Nat):Prop where
 len:ps.length=all.length
 node:∀ (i:Nat) z p,all[i]? = some z→ps[i]? = some p→run h ss p=some z.y.Stacks
 inc:∀ (i j:Nat) p q,i < j→ps[i]? = some p→ps[j]? = some q→slt p q
 root:ps[0]? = some []
 par:∀ (j:Nat) z q,0 < j→all[j]? = some z→ps[j]? = some q→∃ (i:Nat) (p:List G3),i < at_∧z.from_=(i:Int)∧ps[i]? = some p∧q=p++[mv z.by_]
 cl:∀ (i:Nat) z p,i < at_→all[i]? = some z→ps[i]? = some p→∀ m,(Hi z.y.Stacks h m).2=0→∃ (j:Nat) (z':Gb) (q:List G3),all[j]? = some z'∧ps[j]? = some q∧z'.y.Stacks=(Hi z.y.Stacks h m).1∧sle q (p++[m])
 uns:∀ (i:Nat) z,i < at_→all[i]? = some z→Q1 order z.y.Stacks≠[]
structure Hfa (h:Nat) (order:List Int) (ss:List (List Int)) (all:List Gb) (ps:List (List G3)) (at_:Nat) (za:Gb) (pa:List G3) (pre:List (G3×List (List Int))):Prop where
 hza:all[at_]? = some za
 hpa:ps[at_]? = some pa
 len:ps.length=all.length
 node:∀ (i:Nat) z p,all[i]? = some z→ps[i]? = some p→run h ss p=some z.y.Stacks
 inc:∀ (i j:Nat) p q,i < j→ps[i]? = some p→ps[j]? = some q→slt p q
 root:ps[0]? = some []
 par:∀ (j:Nat) z q,0 < j→all[j]? = some z→ps[j]? = some q→∃ (i:Nat) (p:List G3),z.from_=(i:Int)∧ps[i]? = some p∧q=p++[mv z.by_]∧(i < at_∨(i=at_∧∃ x∈pre,x.1=mv z.by_))
 cl:∀ (i:Nat) z p,i < at_→all[i]? = some z→ps[i]? = some p→∀ m,(Hi z.y.Stacks h m).2=0→∃ (j:Nat) (z':Gb) (q:List G3),all[j]? = some z'∧ps[j]? = some q∧z'.y.Stacks=(Hi z.y.Stacks h m).1∧sle q (p++[m])
 cla:∀ x∈pre,∃ (j:Nat) (z':Gb) (q:List G3),all[j]? = some z'∧ps[j]? = some q∧z'.y.Stacks=x.2∧sle q (pa++[x.1])
 uns:∀ (i:Nat) z,i < at_→all[i]? = some z→Q1 order z.y.Stacks≠[]
theorem G36 {α:Type} {l:List α} {i:Nat} {x:α} (h:l[i]? = some x):i < l.length:=(Ev h).1
theorem Hfa.step {h:Nat} {order:List Int} {ss:List (List Int)} {all:List Gb} {ps:List (List G3)} {at_:Nat} {za:Gb} {pa:List G3} {pre:List (G3×List (List Int))} (hS:Hfa h order ss all ps at_ za pa pre) {H:Int} {x:G3×List (List Int)}
  (hx:(Hi za.y.Stacks h x.1).2=0∧x.2=(Hi za.y.Stacks h x.1).1) (h7:∀ y∈pre,ltM y.1 x.1):∃ ps',Hfa h order ss (addN H (at_:Int) all x) ps' at_ za pa (pre++[x]):=by
 -- all ways so far are ahead of this one
 have below:∀ (j:Nat) q,ps[j]? = some q→slt q (pa++[x.1]):=fun j q hq=>by
  by_cases hj:j=0
  ·subst hj
   rw [hS.root] at hq
   have hq:=Ex hq
   subst hq
   exact .inl (by rw [Kg,Kh,List.length_nil]; omega)
  ·have h8:j < all.length:=by rw [← hS.len]; exact G36 hq
   obtain⟨i,p,h1,h2,h3,h4⟩:=hS.par j _ q (by omega) (Ew h8) hq
   rw [h3]
   rcases h4 with h4 | ⟨rfl,y,hy,e⟩
   ·exact Q72 (hS.inc i at_ p pa h4 h2 hS.hpa)
   ·rw [hS.hpa] at h2
    have h2:=Ex h2
    subst h2
    rw [← e]
    exact Qdd (h7 y hy) pa
 have a3:=G36 hS.hza
 unfold addN
 split
 ·rename_i h9
  obtain⟨z,hz,e⟩:=h9
  obtain⟨j,hj⟩:=List.mem_iff_getElem?.1 hz
  have h5:j < ps.length:=by rw [hS.len]; exact G36 hj
  refine⟨ps,hS.hza,hS.hpa,hS.len,hS.node,hS.inc,hS.root,fun j z q h0 h1 h2=>?_,hS.cl,fun y hy=>?_,hS.uns⟩
  ·obtain⟨i,p,g1,g2,g3,g4⟩:=hS.par j z q h0 h1 h2
   exact⟨i,p,g1,g2,g3,g4.imp id fun⟨a,y,hy,e⟩=>⟨a,y,Km.2 (.inl hy),e⟩⟩
  ·rcases Km.1 hy with hy | hy
   ·exact hS.cla y hy
   ·rw [Ko] at hy
    subst hy
    exact⟨j,z,ps[j],hj,Ew h5,e,.inr (below j _ (Ew h5))⟩
 ·obtain⟨z,hz⟩:∃ z:Gb,z=⟨⟨x.2,H⟩,(at_:Int),⟨x.1.From,x.1.To⟩⟩:=⟨_,rfl⟩
  rw [← hz]
  have h6:mv z.by_=x.1:=by rw [hz]; rfl
  have old:∀ {i:Nat} {z':Gb},(all++[z])[i]? = some z'→(i < all.length∧all[i]? = some z')∨(i=all.length∧z'=z):=fun {i z'} g=>by
   rcases En i all.length with hl | hl
   ·rw [Kb hl] at g; exact .inl ⟨hl,g⟩
   ·have:=G36 g
    rw [Kg,Kh] at this
    have e:i=all.length:=by omega
    subst e
    rw [Ka hl,Nat.sub_self] at g
    exact .inr ⟨rfl,(Ex g).symm⟩
  have oldp:∀ {i:Nat} {q:List G3},(ps++[pa++[x.1]])[i]? = some q→(i < ps.length∧ps[i]? = some q)∨(i=ps.length∧q=pa++[x.1]):=fun {i q} g=>by
   rcases En i ps.length with hl | hl
   ·rw [Kb hl] at g; exact .inl ⟨hl,g⟩
   ·have:=G36 g
    rw [Kg,Kh] at this
    have e:i=ps.length:=by omega
    subst e
    rw [Ka hl,Nat.sub_self] at g
    exact .inr ⟨rfl,(Ex g).symm⟩
  have up:∀ {i:Nat} {z':Gb},all[i]? = some z'→(all++[z])[i]? = some z':=fun g=>by rw [Kb (G36 g)]; exact g
  have upp:∀ {i:Nat} {q:List G3},ps[i]? = some q→(ps++[pa++[x.1]])[i]? = some q:=fun g=>by rw [Kb (G36 g)]; exact g
  have newz:(all++[z])[all.length]? = some z:=by simp
  have newp:(ps++[pa++[x.1]])[all.length]? = some (pa++[x.1]):=by rw [← hS.len]; simp
  have hl:=hS.len
  refine⟨ps++[pa++[x.1]],up hS.hza,upp hS.hpa,by rw [Kg,Kg,hl,Kh,Kh],fun i z' p h1 h2=>?_,fun i j p q a0 h1 h2=>?_,upp hS.root,fun j z' q h0 h1 h2=>?_,fun i z' p hi h1 h2 m hm=>?_,fun y hy=>?_,fun i z' hi h1=>?_⟩
  ·rcases old h1 with ⟨a1,a2⟩ | ⟨rfl,rfl⟩
   ·rcases oldp h2 with ⟨b1,b2⟩ | ⟨rfl,rfl⟩
    ·exact hS.node i z' p a2 b2
    ·omega
   ·rcases oldp h2 with ⟨b1,b2⟩ | ⟨_,rfl⟩
    ·omega
    ·refine J20.2 ⟨za.y.Stacks,hS.node at_ za pa hS.hza hS.hpa,hx.1,?_⟩
     rw [hz]; exact hx.2.symm
  ·rcases oldp h1 with ⟨a1,a2⟩ | ⟨rfl,rfl⟩
   ·rcases oldp h2 with ⟨b1,b2⟩ | ⟨rfl,rfl⟩
    ·exact hS.inc i j p q a0 a2 b2
    ·exact below i p a2
   ·have:=G36 h2
    rw [Kg,Kh] at this
    omega
  ·rcases old h1 with ⟨a1,a2⟩ | ⟨rfl,rfl⟩
   ·rcases oldp h2 with ⟨b1,b2⟩ | ⟨rfl,rfl⟩
    ·obtain⟨i,p,g1,g2,g3,g4⟩:=hS.par j z' q h0 a2 b2
     exact⟨i,p,g1,upp g2,g3,g4.imp id fun⟨a,y,hy,e⟩=>⟨a,y,Km.2 (.inl hy),e⟩⟩
    ·omega
   ·rcases oldp h2 with ⟨b1,b2⟩ | ⟨_,rfl⟩
    ·omega
    ·exact⟨at_,pa,by rw [hz],upp hS.hpa,by rw [h6],.inr ⟨rfl,x,by simp,h6.symm⟩⟩
  ·rcases old h1 with ⟨a1,a2⟩ | ⟨rfl,rfl⟩
   ·rcases oldp h2 with ⟨b1,b2⟩ | ⟨rfl,rfl⟩
    ·obtain⟨j,z2,q,g1,g2,g3,g4⟩:=hS.cl i z' p hi a2 b2 m hm
     exact⟨j,z2,q,up g1,upp g2,g3,g4⟩
    ·omega
   ·omega
  ·rcases Km.1 hy with hy | hy
   ·obtain⟨j,z2,q,g1,g2,g3,g4⟩:=hS.cla y hy
    exact⟨j,z2,q,up g1,upp g2,g3,g4⟩
   ·rw [Ko] at hy
    subst hy
    exact⟨all.length,z,_,newz,newp,by rw [hz],.inl rfl⟩
  ·rcases old h1 with ⟨a1,a2⟩ | ⟨rfl,rfl⟩
   ·exact hS.uns i z' hi a2
   ·omega
theorem Hfa.steps {h:Nat} {order:List Int} {ss:List (List Int)} {H:Int} {at_:Nat} {za:Gb} {pa:List G3}:∀ (l:List (G3×List (List Int))) {all:List Gb} {ps:List (List G3)} {pre:List (G3×List (List Int))},Hfa h order ss all ps at_ za pa pre→(∀ x∈l,(Hi za.y.Stacks h x.1).2=0∧x.2=(Hi za.y.Stacks h x.1).1)→(pre++l).Pairwise (fun x y=>ltM x.1 y.1) →
  ∃ ps',Hfa h order ss (G37 H (at_:Int) all l) ps' at_ za pa (pre++l)
 | [],all,ps,pre,hS,_,_=>⟨ps,by rw [List.append_nil]; exact hS⟩
 | x::l,all,ps,pre,hS,hl,ho=>by
  have h0:=List.pairwise_append.1 ho
  obtain⟨ps1,h1⟩:=hS.step (H:=H) (hl x (List.mem_cons_self ..)) (fun y hy=>h0.2.2 y hy x (List.mem_cons_self ..))
  have e:pre++x::l=(pre++[x])++l:=by simp
  obtain⟨ps2,h2⟩:=Hfa.steps l h1 (fun y hy=>hl y (List.mem_cons_of_mem _ hy)) (by rw [← e]; exact ho)
  exact⟨ps2,by rw [e]; exact h2⟩
theorem H1b.next {h:Nat} {order:List Int} {ss:List (List Int)} {all:List Gb} {ps:List (List G3)} {at_:Nat} (hS:H1b h order ss all ps at_) {za:Gb} (hza:all[at_]? = some za) (hw:Q1 order za.y.Stacks≠[]) (H:Int):∃ ps',H1b h order ss (G37 H (at_:Int) all (G5d za.y.Stacks h)) ps' (at_+1):=by
 have h3:=G36 hza
 have hpa:ps[at_]? = some (ps[at_]'(by rw [hS.len]; exact h3)):=Ew _
 obtain⟨ps',hM⟩:=Hfa.steps (H:=H) (G5d za.y.Stacks h) (pre:=[]) ⟨hza,hpa,hS.len,hS.node,hS.inc,hS.root,fun j z q h0 h1 h2=>by
  obtain⟨i,p,g1,g2,g3,g4⟩:=hS.par j z q h0 h1 h2
  exact⟨i,p,g2,g3,g4,.inl g1⟩,hS.cl,fun x hx=>by simp at hx,hS.uns⟩ (fun x hx=>by
   obtain⟨a,b,_,_,_,h0,e⟩:=J7f hx
   exact⟨h0,e⟩) (by rw [List.nil_append]; exact Ja8 _ _)
 rw [List.nil_append] at hM
 refine⟨ps',hM.len,hM.node,hM.inc,hM.root,fun j z q h0 h1 h2=>?_,fun i z p hi h1 h2 m hm=>?_,fun i z hi h1=>?_⟩
 ·obtain⟨i,p,g1,g2,g3,g4⟩:=hM.par j z q h0 h1 h2
  exact⟨i,p,by rcases g4 with g4 | ⟨g4,_⟩ <;> omega,g1,g2,g3⟩
 ·by_cases e:i=at_
  ·subst e
   rw [hM.hza] at h1; cases h1
   rw [hM.hpa] at h2; cases h2
   exact hM.cla _ (Qb5 hm)
  ·exact hM.cl i z p (by omega) h1 h2 m hm
 ·by_cases e:i=at_
  ·subst e
   rw [hM.hza] at h1; cases h1
   exact hw
  ·exact hM.uns i z (by omega) h1
theorem Jf3 {boxes order:List Int} {n:Nat} {H:Int} {ss:List (List Int)} (hb:boxes.length≤5):∀ (f:Nat) {all:List Gb} {ps:List (List G3)} (at_:Nat),Met boxes n H all→H1b H.toNat order ss all ps at_→at_≤all.length→7962624 < f+at_ →
  ∃ ps',(∃ i z p,(bfs order H f all at_).2=some i∧(bfs order H f all at_).1[i]? = some z∧ps'[i]? = some p∧Q1 order z.y.Stacks=[]∧H1b H.toNat order ss (bfs order H f all at_).1 ps' i)∨((bfs order H f all at_).2=none∧H1b H.toNat order ss (bfs order H f all at_).1 ps' (bfs order H f all at_).1.length)
 | 0,all,ps,at_,hA,hS,h1,hf=>by have:=hA.len hb; omega
 | f+1,all,ps,at_,hA,hS,h1,hf=>by
  rw [bfs]
  cases hz:all[at_]? with
  | none=>
   have h3:all.length≤at_:=List.getElem?_eq_none_iff.1 hz
   have e:at_=all.length:=by omega
   subst e
   exact⟨ps,.inr ⟨rfl,hS⟩⟩
  | some z=>
   have h0:=G36 hz
   dsimp only
   by_cases hw:Q1 order z.y.Stacks=[]
   ·rw [if_pos hw]
    exact⟨ps,.inl ⟨at_,z,_,rfl,hz,Ew (by rw [hS.len]; exact h0),hw,hS⟩⟩
   ·rw [if_neg hw]
    obtain⟨ps',h2⟩:=hS.next hz hw H
    have hl:=(H45 H (at_:Int) (G5d z.y.Stacks H.toNat) all).1
    exact Jf3 hb f (at_+1) (hA.G37 _ h0 (H37 (hA.ok z (Ey hz)).1)) h2 (by omega) (by omega)
theorem H1b.cover {h:Nat} {order:List Int} {ss:List (List Int)} {all:List Gb} {ps:List (List G3)} {at_:Nat} (hS:H1b h order ss all ps at_):∀ (n:Nat) (q:List G3) (t:List (List Int)),q.length=n→run h ss q=some t →
  (∃ (i:Nat) (z:Gb) (p:List G3),all[i]? = some z∧ps[i]? = some p∧z.y.Stacks=t∧sle p q)∨∃ (k:Nat) (z:Gb) (p q1 q2:List G3),at_≤k∧all[k]? = some z∧ps[k]? = some p∧q=q1++q2∧sle p q1
 | 0,q,t,hn,hr=>by
  have:q=[]:=Ej hn
  subst this
  have hl:=G36 hS.root
  rw [hS.len] at hl
  have h0:=hS.node 0 _ [] (Ew hl) hS.root
  rw [hr] at h0
  exact .inl ⟨0,_,[],Ew hl,hS.root,(Ex h0).symm,.inl rfl⟩
 | n+1,q,t,hn,hr=>by
  rcases List.eq_nil_or_concat q with rfl | ⟨q0,m,rfl⟩
  ·simp at hn
  rw [List.concat_eq_append] at hn hr ⊢
  obtain⟨u,hu,h0,ht⟩:=J20.1 hr
  rcases hS.cover n q0 u (by rw [Kg,Kh] at hn; omega) hu with ⟨i,z,p,h1,h2,h3,h4⟩ | ⟨k,z,p,q1,q2,h1,h2,h3,h4,h5⟩
  ·rcases En i at_ with hi | hi
   ·obtain⟨j,z',q',g1,g2,g3,g4⟩:=hS.cl i z p hi h1 h2 m (by rw [h3]; exact h0)
    exact .inl ⟨j,z',q',g1,g2,by rw [g3,h3]; exact ht,H53 g4 (R30 h4)⟩
   ·exact .inr ⟨i,z,p,q0,[m],hi,h1,h2,rfl,h4⟩
  ·exact .inr ⟨k,z,p,q1,q2++[m],h1,h2,h3,by rw [h4,List.append_assoc],h5⟩
theorem H1b.le {h:Nat} {order:List Int} {ss:List (List Int)} {all:List Gb} {ps:List (List G3)} {at_:Nat} (hS:H1b h order ss all ps at_) {i j:Nat} {p q:List G3} (h0:i≤j) (hp:ps[i]? = some p) (hq:ps[j]? = some q):sle p q:=by
 rcases En i j with hl | hl
 ·exact .inr (hS.inc i j p q hl hp hq)
 ·have:i=j:=by omega
  subst this
  rw [hp] at hq
  exact .inl (Ex hq)
theorem H1b.first {h:Nat} {order:List Int} {ss:List (List Int)} {all:List Gb} {ps:List (List G3)} {at_:Nat} (hS:H1b h order ss all ps at_) {p:List G3} (hp:ps[at_]? = some p) {q:List G3} {t:List (List Int)} (hr:run h ss q=some t) (hw:Q1 order t=[]):sle p q:=by
 rcases hS.cover q.length q t rfl hr with ⟨i,z,p',h1,h2,h3,h4⟩ | ⟨k,z,p',q1,q2,h1,h2,h3,h4,h5⟩
 ·have hi:at_≤i:=Nat.le_of_not_lt fun hl=>hS.uns i z hl h1 (by rw [h3]; exact hw)
  exact H53 (hS.le hi hp h2) h4
 ·rw [h4]
  exact H53 (H53 (hS.le h1 hp h3) h5) (R2f q1 q2)
theorem H1b.none_ {h:Nat} {order:List Int} {ss:List (List Int)} {all:List Gb} {ps:List (List G3)} (hS:H1b h order ss all ps all.length) {q:List G3} {t:List (List Int)} (hr:run h ss q=some t):Q1 order t≠[]:=fun hw=>by
 rcases hS.cover q.length q t rfl hr with ⟨i,z,p',h1,h2,h3,h4⟩ | ⟨k,z,p',q1,q2,h1,h2,h3,h4,h5⟩
 ·exact hS.uns i z (G36 h1) h1 (by rw [h3]; exact hw)
 ·have:=G36 h2; omega
theorem H1b.back {h:Nat} {order:List Int} {ss:List (List Int)} {all:List Gb} {ps:List (List G3)} {at_:Nat} (hS:H1b h order ss all ps at_):∀ {i:Nat} {l:List G8},J55 all i l→∀ {p:List G3},ps[i]? = some p→p=(l.map mv).reverse
 | _,_,.stop,p,hp=>by rw [hS.root] at hp; exact(Ex hp).symm
 | i,_,.go (z:=z) (j:=j) (l:=l) hz h0 hf hj hb,p,hp=>by
  obtain⟨k,p',g1,g2,g3,g4⟩:=hS.par i z p h0 hz hp
  have:k=j:=by omega
  subst this
  have:=hS.back hb g3
  rw [g4,this]; simp
theorem H1b.start {h:Nat} {order:List Int} {ss:List (List Int)} {z:Gb} (hz:z.y.Stacks=ss):H1b h order ss [z] [[]] 0:=by
 refine⟨rfl,fun i z' p h1 h2=>?_,fun i j p q h3 h1 h2=>?_,rfl,fun j z' q h0 h1=>?_,fun i z' p hi=>by omega,fun i z' hi=>by omega⟩
 ·have:=G36 h1
  have e:i=0:=by simpa using this
  subst e
  simp at h1 h2
  subst h1 h2
  rw [hz]; rfl
 ·have:=G36 h2
  simp at this; omega
 ·have:=G36 h1
  simp at this; omega
end Go.Proofs.Ytokjlondbjdlfaa
