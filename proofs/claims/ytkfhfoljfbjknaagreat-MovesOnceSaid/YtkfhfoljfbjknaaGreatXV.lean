/-
 Models of functions of the program,and that they return what the models say.
-/
import Derived.Test.YtkfhfoljfbjknaaGreatProg
import Derived.Test.YtkfhfoljfbjknaaGreatSortM
import Derived.Test.YtkfhfoljfbjknaaGreatSortLay
import Derived.Test.YtkfhfoljfbjknaaGreatRel
import Derived.Test.YtkfhfoljfbjknaaGreatLit0
import Derived.Test.YtkfhfoljfbjknaaGreatXA
import Derived.Test.YtkfhfoljfbjknaaGreatSpecA
import Derived.Test.YtkfhfoljfbjknaaGreatSpecI
import Derived.Test.YtkfhfoljfbjknaaGreatSpecJ
import Derived.Test.YtkfhfoljfbjknaaGreatXVa
import Derived.Test.YtkfhfoljfbjknaaGreatXVb
import Derived.Test.YtkfhfoljfbjknaaGreatXVc
set_option maxRecDepth 100000
set_option linter.unusedVariables false
set_option linter.unusedSimpArgs false
namespace Go.Proofs.YtkfhfoljfbjknaaGreat
open Go.RowKit
noncomputable section
open XAF
open XVF

def M_plan_Count (F:Nat) (s:Gz) (boxes:List Gp) (calls:Int) (p:Plan):Option (Int×Int):=
 bnd (M_plan_Restows F s boxes calls p) fun r3=>
 each (fun y19 i19 (s19:Int) nx19=>
  chk (s19+(y19.length:Int)) fun v24=>
  nx19 v24)
 (fun(s19:Int)=>
  some (s19,r3.2)) r3.1 0 0
theorem M_plan_Count_w (F:Nat) (s:Gz) (boxes:List Gp) (calls:Int) (p:Plan) (r:Int×Int) (h:M_plan_Count F s boxes calls p=some r):Pure Tryz.prog 7 [.agg (Gz.cs s),E2 boxes,G0 calls,.agg [LS 1 (E0) p.States,LS 1 (E1) p.Water]] (·=.tup [G0 r.1,G0 r.2]):=by
 unfold M_plan_Count at h
 refine H9 [.tmp 8,.tmp 9] Tryz.func7 O O ?_
 refine G6 fun K1 hK1=>G3 ?_
 refine JLg (.ptr 1027 0) (Q1 (u:=.agg (Gz.cs s)) (cs:=(Gz.cs s)) 1027 O O O O O) ?_
 refine JLg (.ptr 1028 0) (Q1 (u:=.agg [LS 1 (E0) p.States,LS 1 (E1) p.Water]) (cs:=[LS 1 (E0) p.States,LS 1 (E1) p.Water]) 1028 O O O O O) ?_
 refine JLg (G0 0) (G9 O O) ?_
 refine JLg (G0 0) (G9 O O) ?_
 refine G8 (hK1 _ _ ?_)
 refine Gk [(1,E2 boxes),(2,G0 calls),(4,Ee s),(7,.ptr 1028 0)] [(1028,.box 41 [LS 1 (E0) p.States,LS 1 (E1) p.Water])] 1027 rfl rfl rfl ⟨⟨_,rfl,.boxEq rfl rfl⟩,G⟩ rfl (by repeat' (first | exact .ptr | constructor)) ?_
 refine Gk [(1,E2 boxes),(2,G0 calls),(4,Ee s),(7,.dptr [LS 1 (E0) p.States,LS 1 (E1) p.Water])] [] 1028 rfl rfl rfl G rfl (by repeat' (first | exact .ptr | constructor)) ?_
 refine G6 fun K2 hK2=>G3 ?_
 refine JLg (.agg (Gz.cs s)) (Gi J0 O O O) ?_
 refine JLg (E2 boxes) (G7 O O) ?_
 refine JLg (G0 calls) (G7 O O) ?_
 refine JLg (.agg [LS 1 (E0) p.States,LS 1 (E1) p.Water]) (Gi Ru O O O) ?_
 obtain⟨r3,hr3,h⟩:=Ge h
 refine JLg (.tup [LS 1 (E1) r3.1,G0 r3.2]) (H1 (args:=[.agg (Gz.cs s),E2 boxes,G0 calls,.agg [LS 1 (E0) p.States,LS 1 (E1) p.Water]]) O (M_plan_Restows_w F s boxes calls p r3 hr3) tf_call_17 ⟨O,O,O,O,O,O,O,O,G⟩) ?_
 refine JLg (.tup [LS 1 (E1) r3.1,G0 r3.2]) (G7 O O) ?_
 refine JLg (LS 1 (E1) r3.1) (Hq O O O) ?_
 refine JLg (G0 r3.2) (Hq O O O) ?_
 refine JLg (LS 1 (E1) r3.1) (G9 O O) ?_
 refine JLg (G0 r3.2) (G9 O O) ?_
 refine G8 (hK2 _ _ ?_)
 refine G6 fun K4 hK4=>G3 ?_
 refine JLg (G0 0) (G9 O O) ?_
 refine G8 (hK4 _ _ ?_)
 refine G6 (fun K5 hK5=>?_)
 refine G6 fun K6 hK6=>G3 ?_
 refine JLg (LS 1 (E1) r3.1) (G7 O O) ?_
 refine Hs (f:=(E1)) (xs:=r3.1) tf_slice_39 O O (fun hm24=>?_) O O O
 refine JLg (G0 0) (G7 O O) ?_
 refine G8 (hK6 _ _ ?_)
 refine Gg ?_
 obtain⟨b19,kx19,hb19,hkx19,h⟩:=Hu h
 refine H7 (fun i19 (s19:Int)=>each b19 kx19 (List.drop i19 r3.1) i19 s19=some r) (fun i19 s19=>[(11,G0 r3.2),(12,G0 s19),(23,LS 1 (E1) r3.1),(24,Em r3.1.length),(25,Em i19)]) (fun i19 s19=>[]) (fun i19=>r3.1.length - i19) 0 0 h ⟨(by repeat' constructor),G,rfl⟩ ?_
 clear h
 intro i19 s19 hi19 K19 e19
 refine G6 fun K20 hK20=>G3 ?_
 refine JLg (BL (decide ((i19:Int) < (r3.1.length:Int)))) (Hy O O O) ?_
 refine G8 (hK20 _ _ ?_)
 refine G6 (fun K21 hK21=>?_)
 refine Gh O (fun hb=>?_) (fun hb=>?_)
 ·
  have hk19:=J9 hb
  obtain⟨y19,nx19,hy19,hn19,h⟩:=Hn hi19 hk19
  replace h:=app4 hb19 h
  refine Gj ?_
  refine hK21 _ _ ?_
  refine G6 (fun K22 hK22=>?_)
  refine Gg ?_
  refine G6 fun K23 hK23=>G3 ?_
  refine JLg (.dptr [E1 y19]) (H0 (f:=(E1)) (xs:=r3.1) (y:=y19) O O O tf_slice_39 hy19 O) ?_
  refine JLg (E1 y19) (Gf Qt O O O) ?_
  refine JLg (E1 y19) (G9 O O) ?_
  refine G8 (hK23 _ _ ?_)
  refine G3 ?_
  refine JLg (G0 s19) (G7 O O) ?_
  refine JLg (E1 y19) (G7 O O) ?_
  refine Hs (f:=G0) (xs:=y19) Gy O O (fun hm31=>?_) O O O
  obtain⟨v24,hv24,h⟩:=Hm h
  refine JLg (G0 v24) (Ht hv24 O O O) ?_
  refine JLg (G0 v24) (G9 O O) ?_
  refine G8 (hK22 _ _ ?_)
  refine G3 ?_
  refine JLg (G0 ((i19+1:Nat):Int)) (Ht (Hc hk19 hm24) O O O) ?_
  refine JLg (G0 ((i19+1:Nat):Int)) (G7 O O) ?_
  refine G8 ?_
  exact e19 _ _ (i19+1) v24 (app1 hn19 h) (by omega) ⟨(by repeat' constructor),G,rfl⟩
 ·
  have h:=app1 hkx19 (Ho hi19 (H3 hb))
  refine Hk ?_
  refine hK5 _ _ ?_
  refine G6 fun K25 hK25=>G3 ?_
  refine JLg (G0 s19) (G7 O O) ?_
  refine JLg (G0 r3.2) (G7 O O) ?_
  refine JLg (G0 s19) (G9 O O) ?_
  refine JLg (G0 r3.2) (G9 O O) ?_
  refine G8 (hK25 _ _ ?_)
  refine Gu ?_
  exact⟨[G0 s19,G0 r3.2],[],G,O,⟨⟨_,O,.conv (.same O)⟩,⟨_,O,.conv (.same O)⟩,G⟩,O,congrArg (fun r:Int×Int=>(.tup [G0 r.1,G0 r.2]:AV)) (Option.some.inj h)⟩
end
end Go.Proofs.YtkfhfoljfbjknaaGreat
