/-
 The ends of calls: results in slots and in cells,whatever their number.
-/
import Derived.Test.YtecjdioomlhhiaaGreatExt
namespace Go.Proofs.YtecjdioomlhhiaaGreat
open Go.RowKit

def Y64 (P:Program) (l:Fr) (L:Loc):ResultVar→AV→Prop
 | .tmp t,u=>look l t=u
 | .cell t T,u=>∃ i tt cs k,look l t=.ptr i 0∧lk L i=some (.box tt cs)∧cs.length=k∧((Ge6 P T k=true∧u=.agg cs)∨(Ym P T=true∧cs[0]? = some u))
inductive R77 (ok:Nat→Bool):AV→AV→Prop
 | conv {u u':AV} (h:Conv ok u u'):R77 ok u u'
 | agg {cs cs':List AV} (h:Hc5 ok cs cs'):R77 ok (.agg cs) (.agg cs')
def R48 (P:Program) (l:Fr) (L:Loc) (ok:Nat→Bool):List ResultVar→List AV→Prop
 | [],[]=>True
 | rv::r,u'::s=>(∃ u,Y64 P l L rv u∧R77 ok u u')∧R48 P l L ok r s
 | _,_=>False
def Rce:List AV→AV
 | [u]=>u
 | us=>.tup us
def Y0e (P:Program) (B:List Nat) (rvs:List ResultVar) (R:AV→Loc→Prop):Fr→Loc→Prop:=
 fun l L=>∃ us L',Gea (fun i=>(lk L' i).isSome) L L'∧allIn L' B=true∧R48 P l L (fun i=>(lk L' i).isSome) rvs us∧R (Rce us) L'

theorem V.convA {w:World} {β:H5} {L L':Loc} (hd:J32 L L') {u u':AV} {v:Value} (h:V w β L u v) (hc:R77 (fun i=>(lk L' i).isSome) u u'):V w β L' u' v:=by
 cases hc with
 | conv hc=>exact h.conv hd hc
 | @agg cs cs' hc=>
  obtain⟨vs,rfl,hl,hv⟩:=h.inv_agg
  exact .agg (hl.trans hc.length) (fun j u' v hu hvj=>by
   have hj:j < vs.size:=(Array.getElem?_eq_some_iff.1 hvj).1
   obtain⟨u,hu0⟩:∃ u,cs[j]? = some u:=⟨_,List.getElem?_eq_getElem (hl ▸ hj)⟩
   exact(hv j u v hu0 hvj).conv hd (hc.get j u u' hu0 hu))

def J62 (a:Act):ResultVar→Sem Value
 | .tmp t=>pure (a.tmps.getD t undef)
 | .cell q t=>do loadVar t (← asAddr (a.tmps.getD q undef))
theorem R56 {P:Program} {w:World} {β:H5} {L L':Loc} {l:Fr} {a:Act} (hsat:Sat w β L) (hf:Q3 a w β L l) (hd:J32 L L') :
  ∀ {rvs:List ResultVar} {us:List AV},R48 P l L (fun i=>(lk L' i).isSome) rvs us →
  ∃ vs:List Value,(rvs.mapM (J62 a)).run P w=.ok vs w∧vs.length=us.length ∧
   ∀ (j:Nat) u v,us[j]? = some u→vs[j]? = some v→V w β L' u v
 | [],[],_=>⟨[],by simp,rfl,fun j u v hu=>by simp at hu⟩
 | rv::r,u'::s,⟨⟨u,hu,hc⟩,h⟩=>by
  obtain⟨vs,h1,h2,h3⟩:=R56 (P:=P) hsat hf hd (rvs:=r) (us:=s) h
  have key:∃ v,(J62 a rv).run P w=.ok v w∧V w β L u v:=by
   cases rv with
   | tmp t=>
    refine⟨_,rfl,?_⟩
    have:=hf.tmp t
    rw [show look l t=u from hu] at this
    exact this
   | cell q T=>
    obtain⟨i,tt,cs,k,e1,e2,e3,e4⟩:=hu
    have hv:=hf.tmp q
    rw [e1] at hv
    obtain⟨b,hb,he⟩:=hv.inv_ptr
    obtain⟨xs,x1,x2,x3⟩:=He5 hsat e2 hb
    rcases e4 with ⟨e4,rfl⟩ | ⟨e4,e5⟩
    ·refine⟨.agg xs,?_,.agg x2 x3⟩
     have:=J8b (w:=w) e4 x1 (x2.trans e3)
     simp only [J62,he,asAddr,Sem.run_bind,Sem.run_pure,Result.andThen_ok]
     exact this
    ·have hlt:0 < xs.size:=by
      have:=(List.getElem?_eq_some_iff.1 e5).1
      omega
     refine⟨xs[0],?_,x3 0 u _ e5 (by simp [hlt])⟩
     have h5:=Ga4 (P:=P) (T:=T) (b:=b) (o':=0) (v:=xs[0]) e4 (w:=w) (by simp [World.cell?,x1,hlt])
     simp only [J62,he,asAddr,Sem.run_bind,Sem.run_pure,Result.andThen_ok]
     simpa [Instr.loadAt,Instr.sureAddr,asAddr] using h5
  obtain⟨v,k1,k2⟩:=key
  refine⟨v::vs,?_,by simp [h2],fun j u0 v0 hu0 hv0=>?_⟩
  ·rw [List.mapM_cons,Sem.run_bind,k1,Result.andThen_ok,Sem.run_bind,h1,Result.andThen_ok]
   rfl
  ·cases j with
   | zero=>simp at hu0 hv0; subst hu0 hv0; exact k2.convA hd hc
   | succ j=>simp at hu0 hv0; exact h3 j u0 v0 hu0 hv0
 | [],_::_,h=>h.elim
 | _::_,[],h=>h.elim

theorem Qz {P:Program} {f:FuncId} {fn:Func} {c:Code} {args:List AV} {L0:Loc} {R:AV→Loc→Prop} (base:List Nat) (rvs:List ResultVar) (hf:P.funcs[f]? = some fn) (hb:fn.body=some c) (hres:fn.results=rvs.toArray)
  (hbase:∀ id,(lk L0 id).isSome=true→id∈base) (h:JC P ⟨fn.ntmps,base,none⟩ c (.fin (Y0e P base rvs R)) (H0b 0 args) L0):Qb P f args L0 R:=
 Hb9 hf hb hbase (fun w0 β0 a w β l L hs hq=>by
  obtain⟨us,L',q1,q2,q3,q4⟩:=hq
  have hfit:Fits base l L [] L':=⟨trivial,q1,q2⟩
  have hs':=hs.fits hfit
  obtain⟨vs,h1,h2,h3⟩:=R56 hs.sat hs.frame hfit.drop q3
  have hrun:(results fn a.tmps).run P w=.ok (if h:vs.toArray.size=1 then vs.toArray[0] else .tuple vs.toArray) w:=by
   have e:results fn a.tmps=(do let vs ← fn.results.mapM (J62 a); pure (if h:vs.size=1 then vs[0] else .tuple vs)):=by
    unfold results
    refine congrArg (fun g=>bind (Array.mapM g fn.results) _) ?_
    funext rv
    cases rv <;> rfl
   rw [e,hres,List.mapM_toArray,Sem.run_bind]
   rw [show (List.toArray <$> List.mapM (J62 a) rvs:Sem (Array Value)).run P w=.ok vs.toArray w from by
    rw [map_eq_pure_bind,Sem.run_bind,h1,Result.andThen_ok]; rfl]
   rfl
  refine⟨_,Rce us,L',hrun,hs'.sat,hs'.step,?_,q4⟩
  match us,vs,h2,h3 with
  | [u],[v],_,h3=>simpa [Rce] using h3 0 u v rfl rfl
  | [],[],_,h3=>exact .tup rfl (fun j u v hu=>by simp at hu)
  | u::u2::us,v::v2::vs,h2,h3=>
   have:¬ (v::v2::vs).toArray.size=1:=by simp
   rw [dif_neg this]
   exact .tup (by simpa using h2) (fun j u v hu hv=>h3 j u v hu (by simpa using hv))) h

theorem Gz {P:Program} {f:FuncId} {fn:Func} {c:Code} {args:List AV} {R:AV→Prop} (rvs:List ResultVar) (hf:P.funcs[f]? = some fn) (hb:fn.body=some c) (hres:fn.results=rvs.toArray)
  (h:JC P ⟨fn.ntmps,[],none⟩ c (.fin (Y0e P [] rvs (fun r L'=>L'=[]∧R r))) (H0b 0 args) []):Pure P f args R:=Qz [] rvs hf hb hres Rcf h
theorem fin1 {P:Program} {t:Tmp} {α:Type} {l:Fr} {L:Loc} (f:α→AV) {a r:α} (h:some a=some r) (hc:Conv (fun i=>(lk [] i).isSome) (look l t) (f a):=by exact .same rfl):Y0e P [] [.tmp t] (fun u L'=>L'=[]∧u=f r) l L:=
 ⟨[f a],[],trivial,rfl,⟨⟨_,rfl,.conv hc⟩,trivial⟩,rfl,congrArg f (Option.some.inj h)⟩
theorem fin1l {P:Program} {t:Tmp} {α:Type} {l:Fr} {L:Loc} (f:α→AV) {a r:α} (h:some a=some r) (hc:Conv (fun i=>(lk [] i).isSome) (look l t) (f a):=by exact .list rfl):Y0e P [] [.tmp t] (fun u L'=>L'=[]∧u=f r) l L:=fin1 f h hc
end Go.Proofs.YtecjdioomlhhiaaGreat
