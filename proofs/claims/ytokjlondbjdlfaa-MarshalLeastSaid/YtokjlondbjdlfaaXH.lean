/- Walks of functions. -/
import Derived.Test.YtokjlondbjdlfaaXG
set_option maxRecDepth 100000
set_option maxHeartbeats 1000000
set_option linter.unusedVariables false
set_option linter.unusedSimpArgs false
namespace Go.Proofs.Ytokjlondbjdlfaa
open Go.RowKit
noncomputable section

namespace XHF
open XAF
open XBF
open XCF
open XDF
open XEF
open XFF
open XGF
theorem Je3:Hi E8 13=true:=by kernel_rfl
theorem Je2:Hi E8 14=true:=by kernel_rfl
end XHF
open XAF
open XBF
open XCF
open XDF
open XEF
open XFF
open XGF
open XHF

def R3 (F:Nat) (y:Gp) (order:List Int):Option Bool:=
 bnd (Qs y) fun a=>
 bnd (bif (!((!a)||(decide (60 < (order.length:Int))))) then Rq y else some default) fun b=>
 bnd (bif (!(((!a)||(decide (60 < (order.length:Int))))||(!b))) then Rr F y order else some default) fun c=>
 bnd (bif ((((!a)||(decide (60 < (order.length:Int))))||(!b))||c) then Qc F else some default) fun d=>
 some (((((!a)||(decide (60 < (order.length:Int))))||(!b))||c)&&d)
theorem G69 (F:Nat) (y:Gp) (order:List Int) (r:Bool) (h:R3 F y order=some r):Pure E8 4 [.agg [LS 1 (E1) y.Stacks,I64 y.Height],E1 order] (·=BL r):=by
 unfold R3 at h
 refine Hb [.tmp 4] Try.func4 O O (Jr fun g=>(JLh (.ptr 1002 0) (Q5 (cs:=[LS 1 (E1) y.Stacks,I64 y.Height]) 1002 O O O O O) O (JLm (BL false) O (G6 (g (H5 [(1,E1 order),(2,.dptr [LS 1 (E1) y.Stacks,I64 y.Height])] [] 1002 rfl rfl rfl ø rfl (by exact⟨.conv (.same rfl),.ptr,ø⟩) (Jr fun i=>(JLh (.agg [LS 1 (E1) y.Stacks,I64 y.Height]) (Gu Hj O O O) O ?_))))))))
 obtain⟨a,j,h⟩:=Gc h
 refine JLh (BL a) (Gt O (G13 y a j) H55 ⟨O,O,ø⟩) O (JLh (BL (!a)) (Ym (b:=a) O O) O (JLm (BL (!a)) O (JLo (E1 order) [] O .scf ø (fun hc=>G2 O O) O (JLo (E7 order.length) [9] O .scf ⟨Ua,ø⟩ (fun hc=>Q7 (f:=I64) (xs:=order) G7 O O) O (JLo (BL (decide (60 < (order.length:Int)))) [10] O .scf ⟨Ua,ø⟩ (fun hc=>Y5 O O O) O (JLh (BL ((!a)||(decide (60 < (order.length:Int))))) (Z6 O O O O) O (JLm (BL ((!a)||(decide (60 < (order.length:Int))))) O (JLo (.agg [LS 1 (E1) y.Stacks,I64 y.Height]) [] O .scf ø (fun hc=>Gu Hj O O O) O ?_))))))))
 obtain⟨c,k,h⟩:=Gc h
 refine JLo (BL c) [14] O .scf ⟨Ua,ø⟩ (fun hc=>Gt (args:=[.agg [LS 1 (E1) y.Stacks,I64 y.Height]]) O (Gd9 y c (H1 hc k)) Je3 ⟨O,O,ø⟩) O (JLo (BL (!c)) [15] O .scf ⟨Ua,ø⟩ (fun hc=>Ym (b:=c) O O) O (JLh (BL (((!a)||(decide (60 < (order.length:Int))))||(!c))) (Z6 O O O O) O (JLm (BL (((!a)||(decide (60 < (order.length:Int))))||(!c))) O (JLo (.agg [LS 1 (E1) y.Stacks,I64 y.Height]) [] O .scf ø (fun hc=>Gu Hj O O O) O (JLo (E1 order) [] O .scf ø (fun hc=>G2 O O) O ?_)))))
 obtain⟨d,l,h⟩:=Gc h
 refine JLo (BL d) [19,20] O .scf ⟨Ua,Ua,ø⟩ (fun hc=>Gt (args:=[.agg [LS 1 (E1) y.Stacks,I64 y.Height],E1 order]) O (Gda F y order d (H1 hc l)) Je2 ⟨O,O,O,O,ø⟩) O (JLh (BL ((((!a)||(decide (60 < (order.length:Int))))||(!c))||d)) (Z6 O O O O) O (JLm (BL ((((!a)||(decide (60 < (order.length:Int))))||(!c))||d)) O ?_))
 obtain⟨e,m,h⟩:=Gc h
 refine JLo (BL e) [] O .sct ø (fun hc=>Gt (args:=[]) O (Zx F e (H1 hc m)) H54 ø) O (JLh (BL (((((!a)||(decide (60 < (order.length:Int))))||(!c))||d)&&e)) (Y6 O O O O) O (JLm (BL (((((!a)||(decide (60 < (order.length:Int))))||(!c))||d)&&e)) O (G6 (i (H0 (fin1 BL h))))))
end
end Go.Proofs.Ytokjlondbjdlfaa
