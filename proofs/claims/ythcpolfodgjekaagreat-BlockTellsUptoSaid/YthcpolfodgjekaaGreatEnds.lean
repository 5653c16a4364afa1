/-
 The ends of calls: results in slots and in cells,whatever their number.
-/
import Derived.Test.YthcpolfodgjekaaGreatExt
namespace Go.Proofs.YthcpolfodgjekaaGreat
open Go.RowKit

def ResOk (P:Program) (l:Fr) (L:Loc):ResultVar→AV→Prop
 | .tmp t,u=>look l t=u
 | .cell t T,u=>∃ i tt cs k,look l t=.ptr i 0∧lk L i=some (.box tt cs)∧cs.length=k∧((Gd8 P T k=true∧u=.agg cs)∨(Yf P T=true∧cs[0]? = some u))
inductive ConvA (ok:Nat→Bool):AV→AV→Prop
 | conv {u u':AV} (h:Conv ok u u'):ConvA ok u u'
 | agg {cs cs':List AV} (h:Hb2 ok cs cs'):ConvA ok (.agg cs) (.agg cs')
def ResAll (P:Program) (l:Fr) (L:Loc) (ok:Nat→Bool):List ResultVar→List AV→Prop
 | [],[]=>True
 | rv::r,u'::s=>(∃ u,ResOk P l L rv u∧ConvA ok u u')∧ResAll P l L ok r s
 | _,_=>False
def oneOr:List AV→AV
 | [u]=>u
 | us=>.tup us
def FinG (P:Program) (B:List Nat) (rvs:List ResultVar) (R:AV→Loc→Prop):Fr→Loc→Prop:=
 fun l L=>∃ us L',Gd9 (fun i=>(lk L' i).isSome) L L'∧allIn L' B=true∧ResAll P l L (fun i=>(lk L' i).isSome) rvs us∧R (oneOr us) L'

theorem V.convA {w:World} {β:H7} {L L':Loc} (hd:J2f L L') {u u':AV} {v:Value} (h:V w β L u v) (hc:ConvA (fun i=>(lk L' i).isSome) u u'):V w β L' u' v:=by
 cases hc with
 | conv hc=>exact h.conv hd hc
 | @agg cs cs' hc=>
  obtain⟨vs,rfl,hl,hv⟩:=h.inv_agg
  exact .agg (hl.trans hc.length) (fun j u' v hu hvj=>by
   have hj:j < vs.size:=(Array.getElem?_eq_some_iff.1 hvj).1
   obtain⟨u,hu0⟩:∃ u,cs[j]? = some u:=⟨_,List.getElem?_eq_getElem (hl ▸ hj)⟩
   exact(hv j u v hu0 hvj).conv hd (hc.get j u u' hu0 hu))

def J67 (a:Act):ResultVar→Sem Value
 | .tmp t=>pure (a.tmps.getD t undef)
 | .cell q t=>do loadVar t (← asAddr (a.tmps.getD q undef))
theorem run_res {P:Program} {w:World} {β:H7} {L L':Loc} {l:Fr} {a:Act} (hsat:Sat w β L) (hf:Q7 a w β L l) (hd:J2f L L') :
  ∀ {rvs:List ResultVar} {us:List AV},ResAll P l L (fun i=>(lk L' i).isSome) rvs us →
  ∃ vs:List Value,(rvs.mapM (J67 a)).run P w=.ok vs w∧vs.length=us.length ∧
   ∀ (j:Nat) u v,us[j]? = some u→vs[j]? = some v→V w β L' u v
 | [],[],_=>⟨[],by simp,rfl,fun j u v hu=>by simp at hu⟩
 | rv::r,u'::s,⟨⟨u,hu,hc⟩,h⟩=>by
  obtain⟨vs,h1,h2,h3⟩:=run_res (P:=P) hsat hf hd (rvs:=r) (us:=s) h
  have key:∃ v,(J67 a rv).run P w=.ok v w∧V w β L u v:=by
   cases rv with
   | tmp t=>
    refine⟨_,rfl,?_⟩
    have:=hf.tmp t
    rw [show look l t=u from hu] at this
    exact this
   | cell q T=>
    obtain⟨i,tt,cs,k,e1,e2,e3,e4⟩:=hu
    have hv:=hf.tmp q
    rw [e1] at hv
    obtain⟨b,hb,he⟩:=hv.inv_ptr
    obtain⟨xs,x1,x2,x3⟩:=Hd4 hsat e2 hb
    rcases e4 with ⟨e4,rfl⟩ | ⟨e4,e5⟩
    ·refine⟨.agg xs,?_,.agg x2 x3⟩
     have:=J9d (w:=w) e4 x1 (x2.trans e3)
     simp only [J67,he,asAddr,Sem.run_bind,Sem.run_pure,Result.andThen_ok]
     exact this
    ·have hlt:0 < xs.size:=by
      have:=(List.getElem?_eq_some_iff.1 e5).1
      omega
     refine⟨xs[0],?_,x3 0 u _ e5 (by simp [hlt])⟩
     have h5:=Ga3 (P:=P) (T:=T) (b:=b) (o':=0) (v:=xs[0]) e4 (w:=w) (by simp [World.cell?,x1,hlt])
     simp only [J67,he,asAddr,Sem.run_bind,Sem.run_pure,Result.andThen_ok]
     simpa [Instr.loadAt,Instr.sureAddr,asAddr] using h5
  obtain⟨v,k1,k2⟩:=key
  refine⟨v::vs,?_,by simp [h2],fun j u0 v0 hu0 hv0=>?_⟩
  ·rw [List.mapM_cons,Sem.run_bind,k1,Result.andThen_ok,Sem.run_bind,h1,Result.andThen_ok]
   rfl
  ·cases j with
   | zero=>simp at hu0 hv0; subst hu0 hv0; exact k2.convA hd hc
   | succ j=>simp at hu0 hv0; exact h3 j u0 v0 hu0 hv0
 | [],_::_,h=>h.elim
 | _::_,[],h=>h.elim

theorem Ge8 {P:Program} {f:FuncId} {fn:Func} {c:Code} {args:List AV} {L0:Loc} {R:AV→Loc→Prop} (base:List Nat) (rvs:List ResultVar) (hf:P.funcs[f]? = some fn) (hb:fn.body=some c) (hres:fn.results=rvs.toArray)
  (hbase:∀ id,(lk L0 id).isSome=true→id∈base) (h:JC P ⟨fn.ntmps,base,none⟩ c (.fin (FinG P base rvs R)) (Gff 0 args) L0):Y1 P f args L0 R:=
 H9f hf hb hbase (fun w0 β0 a w β l L hs hq=>by
  obtain⟨us,L',q1,q2,q3,q4⟩:=hq
  have hfit:Fits base l L [] L':=⟨trivial,q1,q2⟩
  have hs':=hs.fits hfit
  obtain⟨vs,h1,h2,h3⟩:=run_res hs.sat hs.frame hfit.drop q3
  have hrun:(results fn a.tmps).run P w=.ok (if h:vs.toArray.size=1 then vs.toArray[0] else .tuple vs.toArray) w:=by
   have e:results fn a.tmps=(do let vs ← fn.results.mapM (J67 a); pure (if h:vs.size=1 then vs[0] else .tuple vs)):=by
    unfold results
    refine congrArg (fun g=>bind (Array.mapM g fn.results) _) ?_
    funext rv
    cases rv <;> rfl
   rw [e,hres,List.mapM_toArray,Sem.run_bind]
   rw [show (List.toArray <$> List.mapM (J67 a) rvs:Sem (Array Value)).run P w=.ok vs.toArray w from by
    rw [map_eq_pure_bind,Sem.run_bind,h1,Result.andThen_ok]; rfl]
   rfl
  refine⟨_,oneOr us,L',hrun,hs'.sat,hs'.step,?_,q4⟩
  match us,vs,h2,h3 with
  | [u],[v],_,h3=>simpa [oneOr] using h3 0 u v rfl rfl
  | [],[],_,h3=>exact .tup rfl (fun j u v hu=>by simp at hu)
  | u::u2::us,v::v2::vs,h2,h3=>
   have:¬ (v::v2::vs).toArray.size=1:=by simp
   rw [dif_neg this]
   exact .tup (by simpa using h2) (fun j u v hu hv=>h3 j u v hu (by simpa using hv))) h

theorem Gx {P:Program} {f:FuncId} {fn:Func} {c:Code} {args:List AV} {R:AV→Prop} (rvs:List ResultVar) (hf:P.funcs[f]? = some fn) (hb:fn.body=some c) (hres:fn.results=rvs.toArray)
  (h:JC P ⟨fn.ntmps,[],none⟩ c (.fin (FinG P [] rvs (fun r L'=>L'=[]∧R r))) (Gff 0 args) []):Pure P f args R:=Ge8 [] rvs hf hb hres nobase h
theorem fin1 {P:Program} {t:Tmp} {α:Type} {l:Fr} {L:Loc} (f:α→AV) {a r:α} (h:some a=some r) (hc:Conv (fun i=>(lk [] i).isSome) (look l t) (f a):=by exact .same rfl):FinG P [] [.tmp t] (fun u L'=>L'=[]∧u=f r) l L:=
 ⟨[f a],[],trivial,rfl,⟨⟨_,rfl,.conv hc⟩,trivial⟩,rfl,congrArg f (Option.some.inj h)⟩
theorem fin1l {P:Program} {t:Tmp} {α:Type} {l:Fr} {L:Loc} (f:α→AV) {a r:α} (h:some a=some r) (hc:Conv (fun i=>(lk [] i).isSome) (look l t) (f a):=by exact .list rfl):FinG P [] [.tmp t] (fun u L'=>L'=[]∧u=f r) l L:=fin1 f h hc
end Go.Proofs.YthcpolfodgjekaaGreat
