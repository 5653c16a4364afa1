/-
 Models of functions of the program,and that they return what the models say.
-/
import Derived.Test.YteoeccjboahfgaaGreatXVc
set_option maxRecDepth 100000
set_option linter.unusedVariables false
set_option linter.unusedSimpArgs false
namespace Go.Proofs.YteoeccjboahfgaaGreat
open Go.RowKit
noncomputable section
open XAF
open XVF

def G8b (F:Nat) (s:Hc) (boxes:List Gr) (calls:Int) (p:G6a):Option (Int×Int):=
 bnd (G3e F s boxes calls p) fun r3=>
 each (fun y19 i19 (s19:Int) nx19=>
  Rn (s19+(y19.length:Int)) fun v24=>
  nx19 v24)
 (fun(s19:Int)=>
  some (s19,r3.2)) r3.1 0 0
theorem J9c (F:Nat) (s:Hc) (boxes:List Gr) (calls:Int) (p:G6a) (r:Int×Int) (h:G8b F s boxes calls p=some r):Pure Tryz.prog 6 [.agg (Hc.cs s),E2 boxes,G1 calls,.agg [LS 1 (E0) p.States,LS 1 (E1) p.Water]] (·=.tup [G1 r.1,G1 r.2]):=by
 unfold G8b at h
 refine H4 [.tmp 8,.tmp 9] Tryz.func6 O O ?_
 refine G5 fun K1 hK1=>G3 (JLh (.ptr 1018 0) (Jw (u:=.agg (Hc.cs s)) (cs:=(Hc.cs s)) 1018 O O O O O) O (JLh (.ptr 1019 0) (Jw (u:=.agg [LS 1 (E0) p.States,LS 1 (E1) p.Water]) (cs:=[LS 1 (E0) p.States,LS 1 (E1) p.Water]) 1019 O O O O O) O (JLh (G1 0) (Gb O O) O (JLh (G1 0) (Gb O O) O (G8 (hK1 _ _ ?_))))))
 refine Gq [(1,E2 boxes),(2,G1 calls),(4,Ee s),(7,.ptr 1019 0)] [(1019,.box 42 [LS 1 (E0) p.States,LS 1 (E1) p.Water])] 1018 rfl rfl rfl ⟨⟨_,rfl,.boxEq rfl rfl⟩,G⟩ rfl (by repeat' (first | exact .ptr | constructor)) ?_
 refine Gq [(1,E2 boxes),(2,G1 calls),(4,Ee s),(7,.dptr [LS 1 (E0) p.States,LS 1 (E1) p.Water])] [] 1019 rfl rfl rfl G rfl (by repeat' (first | exact .ptr | constructor)) ?_
 refine G5 fun K2 hK2=>G3 (JLh (.agg (Hc.cs s)) (Gh J5 O O O) O (JLh (E2 boxes) (G6 O O) O (JLh (G1 calls) (G6 O O) O (JLh (.agg [LS 1 (E0) p.States,LS 1 (E1) p.Water]) (Gh G36 O O O) O ?_))))
 obtain⟨r3,hr3,h⟩:=Gf h
 refine JLh (.tup [LS 1 (E1) r3.1,G1 r3.2]) (Gy (args:=[.agg (Hc.cs s),E2 boxes,G1 calls,.agg [LS 1 (E0) p.States,LS 1 (E1) p.Water]]) O (J09 F s boxes calls p r3 hr3) Q18 ⟨O,O,O,O,O,O,O,O,G⟩) O (JLh (.tup [LS 1 (E1) r3.1,G1 r3.2]) (G6 O O) O (JLh (LS 1 (E1) r3.1) (H0 O O O) O (JLh (G1 r3.2) (H0 O O O) O (JLh (LS 1 (E1) r3.1) (Gb O O) O (JLh (G1 r3.2) (Gb O O) O (G8 (hK2 _ _ (G5 fun K4 hK4=>G3 (JLh (G1 0) (Gb O O) O (G8 (hK4 _ _ (G5 (fun K5 hK5=>?_)))))))))))))
 refine G5 fun K6 hK6=>G3 (JLh (LS 1 (E1) r3.1) (G6 O O) O (Hp (f:=(E1)) (xs:=r3.1) Gf8 O O (fun hm24=>?_) O O O))
 refine JLh (G1 0) (G6 O O) O (G8 (hK6 _ _ (Gi ?_)))
 obtain⟨b19,kx19,hb19,hkx19,h⟩:=Hy h
 refine Ha (fun i19 (s19:Int)=>each b19 kx19 (List.drop i19 r3.1) i19 s19=some r) (fun i19 s19=>[(11,G1 r3.2),(12,G1 s19),(23,LS 1 (E1) r3.1),(24,Ek r3.1.length),(25,Ek i19)]) (fun i19 s19=>[]) (fun i19=>r3.1.length - i19) 0 0 h ⟨(by repeat' constructor),G,rfl⟩ ?_
 clear h
 intro i19 s19 hi19 K19 e19
 refine G5 fun K20 hK20=>G3 (JLh (BL (decide ((i19:Int) < (r3.1.length:Int)))) (J2 O O O) O (G8 (hK20 _ _ (G5 (fun K21 hK21=>Gn O (fun hb=>?_) (fun hb=>?_))))))
 ·
  have hk19:=Jd hb
  obtain⟨y19,nx19,hy19,hn19,h⟩:=Hr hi19 hk19
  replace h:=Rq hb19 h
  refine Gp (hK21 _ _ (G5 (fun K22 hK22=>Gi (G5 fun K23 hK23=>G3 (JLh (.dptr [E1 y19]) (Gz (f:=(E1)) (xs:=r3.1) (y:=y19) O O O Gf8 hy19 O) O (JLh (E1 y19) (Gk Qy O O O) O (JLh (E1 y19) (Gb O O) O (G8 (hK23 _ _ (G3 (JLh (G1 s19) (G6 O O) O (JLh (E1 y19) (G6 O O) O (Hp (f:=G1) (xs:=y19) Gt O O (fun hm31=>?_) O O O)))))))))))))
  obtain⟨v24,hv24,h⟩:=Hb h
  refine JLh (G1 v24) (Ht hv24 O O O) O (JLh (G1 v24) (Gb O O) O (G8 (hK22 _ _ (G3 (JLh (G1 ((i19+1:Nat):Int)) (Ht (Hn hk19 hm24) O O O) O (JLh (G1 ((i19+1:Nat):Int)) (G6 O O) O (G8 (e19 _ _ (i19+1) v24 (app1 hn19 h) (by omega) ⟨(by repeat' constructor),G,rfl⟩))))))))
 ·
  have h:=app1 hkx19 (Hs hi19 (H9 hb))
  refine Hi (hK5 _ _ (G5 fun K25 hK25=>G3 (JLh (G1 s19) (G6 O O) O (JLh (G1 r3.2) (G6 O O) O (JLh (G1 s19) (Gb O O) O (JLh (G1 r3.2) (Gb O O) O (G8 (hK25 _ _ (Gx (⟨[G1 s19,G1 r3.2],[],G,O,⟨⟨_,O,.conv (.same O)⟩,⟨_,O,.conv (.same O)⟩,G⟩,O,congrArg (fun r:Int×Int=>(.tup [G1 r.1,G1 r.2]:AV)) (Option.some.inj h)⟩))))))))))
end
end Go.Proofs.YteoeccjboahfgaaGreat
