/-
 Models of functions of the program,and that they return what the models say.
-/
import Derived.Test.YtidpfkmbfgihlaaGreatXP
set_option maxRecDepth 100000
set_option maxHeartbeats 1000000
set_option linter.unusedVariables false
set_option linter.unusedSimpArgs false
namespace Go.Proofs.YtidpfkmbfgihlaaGreat
open Go.RowKit
noncomputable section

namespace XJF
open XAF
open XCF
open XSF
open XKF
open XTF
open XUF
open XBF
open XPF
theorem J8e:Y4 Eo 46=true:=by kernel_rfl
end XJF
open XAF
open XCF
open XSF
open XKF
open XTF
open XUF
open XBF
open XPF
open XJF

def Z9 (F:Nat) (p1:List Move) (ys_:List (Int×Move)):Option Unit:=
 chk ((p1.length:Int) - 1) fun v2=>
 loop (fun nx16 (s16:Int×Nat)=>
  bif decide (0≤s16.1) then
  (Yy p1 s16.1 fun y21=>
   need (decide (ys_[s16.2]? = some (s16.1,y21))) <|
   chk (s16.1 - 1) fun v24=>
   nx16 (v24,(s16.2+1)))
  else
  (need (decide (s16.2=ys_.length)) (some ()))) F (v2,0)
theorem H35 (F:Nat) (p1:List Move) (ys_:List (Int×Move)) (q_:Unit) (h:Z9 F p1 ys_=some q_):Iter Eo 48 [.dptr [Ec p1]] (ys_.map (fun y:Int×Move=>[I64 y.1,.agg (Move.cs y.2)])):=by
 unfold Z9 at h
 refine Y32 Tryz.func48 O O ?_
 intro E hE hys
 refine Rh (fun K1 hK1=>Qh (J2 (u:=Ec p1) hE (Gg J8e O O O) ?_ O O O O))
 refine Qba hE (f:=Move.av) (xs:=p1) G84 O O (fun hm5=>?_) O O O
 obtain⟨v2,hv2,h⟩:=Jd h
 refine J2 (u:=I64 v2) hE (H49 hv2 O O O) ?_ O O O O
 refine J2 (u:=I64 v2) hE (G7 O O) ?_ O O O O
 refine Rf ?_
 refine hK1 _ _ _ (G3f ?_)
 obtain⟨b16,hb16,h⟩:=R23 h
 refine Jb9 (fun i16 (s16:Int×Nat)=>loop b16 i16 s16=some q_) (fun i16 s16=>[(0,.sc (.func (.yield E.lp) #[] #[])),(1,.dptr [Ec p1]),(3,I64 s16.1)]) (fun i16 s16=>[]) (fun i16 s16=>s16.2) (fun i16=>i16) F (v2,0) h ⟨(.sm O O),G,O⟩ O ?_
 clear h
 intro i16 s16 hi16 K16 e16
 obtain⟨m16,nx16,hm_16,hn16,h⟩:=Q86 hi16
 replace h:=Z12 hb16 h
 refine Rh (fun K17 hK17=>Rh (fun K18 hK18=>Qh (J2 (u:=I64 s16.1) hE (G6 O O) ?_ O O O O)))
 refine J2 (u:=BL (decide (0≤s16.1))) hE (Gfb O O O) ?_ O O O O
 refine Rf ?_
 refine hK18 _ _ _ (J49 O (fun hb=>?_) (fun hb=>?_))
 ·
  replace h:=H1 hb h
  refine Gcb (hK17 _ _ _ (Rh (fun K19 hK19=>G3f (Rh (fun K20 hK20=>Qh (J2 (u:=.sc (.func (.yield E.lp) #[] #[])) hE (G6 O O) ?_ O O O O))))))
  refine J2 (u:=I64 s16.1) hE (G6 O O) ?_ O O O O
  refine J2 (u:=Ec p1) hE (Gg J8e O O O) ?_ O O O O
  refine J2 (u:=I64 s16.1) hE (G6 O O) ?_ O O O O
  obtain⟨m22,y21,hm22,hy21,h⟩:=Y9 h
  refine J2 (u:=Ee y21) hE (Hf (f:=Move.av) (xs:=p1) (y:=y21) O O O G84 hy21 hm22) ?_ O O O O
  refine J2 (u:=.agg (Move.cs y21)) hE (Gi G2c O O O) ?_ O O O O
  obtain⟨ha23,h⟩:=J7 h
  refine Hc2 (us:=[I64 s16.1,.agg (Move.cs y21)]) hE O O ⟨O,O,O,O,G⟩ (Ra3 (f:=(fun y:Int×Move=>[I64 y.1,.agg (Move.cs y.2)])) (x:=(s16.1,y21)) hys ha23) ?_ O O O
  refine J2 (u:=BL false) hE (Qx (b:=true) O O) ?_ O O O O
  refine Rf ?_
  refine hK20 _ _ _ (H3a O (Gcb (hK19 _ _ _ (Qh (J2 (u:=I64 s16.1) hE (G6 O O) ?_ O O O O)))))
  obtain⟨v24,hv24,h⟩:=Jd h
  refine J2 (u:=I64 v24) hE (H49 hv24 O O O) ?_ O O O O
  refine J2 (u:=I64 v24) hE (G7 O O) ?_ O O O O
  refine Rf ?_
  exact e16 _ _ m16 (v24,(s16.2+1)) _ (app1 hn16 h) (by omega) ⟨(.sm O O),G,rfl⟩ rfl
 ·
  replace h:=Hj hb h
  refine Hf6 (Y0c (J7 h).1)
theorem H36 (S_:Nat→(List Move)→Option (List (Int×Move))) (hS_:∀ F p1 r,S_ F p1=some r→Z9 F p1 r=some ()) (F:Nat) (p1:List Move) (r:List (Int×Move)) (h:S_ F p1=some r):Iter Eo 48 [.dptr [Ec p1]] (r.map (fun y:Int×Move=>[I64 y.1,.agg (Move.cs y.2)])):=H35 F p1 r () (hS_ F p1 r h)
end
end Go.Proofs.YtidpfkmbfgihlaaGreat
