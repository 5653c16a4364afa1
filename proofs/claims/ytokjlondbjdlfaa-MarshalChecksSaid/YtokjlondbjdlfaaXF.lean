/- Walks of functions. -/
import Derived.Test.YtokjlondbjdlfaaXE
set_option maxRecDepth 100000
set_option maxHeartbeats 1000000
set_option linter.unusedVariables false
set_option linter.unusedSimpArgs false
namespace Go.Proofs.Ytokjlondbjdlfaa
open Go.RowKit
noncomputable section

namespace XFF
open XAF
open XBF
open XCF
open XDF
open XEF
theorem Jb3:Hi E8 10=true:=by kernel_rfl
theorem Jb2:Hi E8 11=true:=by kernel_rfl
theorem Jb1:Hi E8 12=true:=by kernel_rfl
end XFF
open XAF
open XBF
open XCF
open XDF
open XEF
open XFF

def Qk (F:Nat) (y:Gp) (order:List Int) (l:List G5):Option Bool:=
 bnd (Ry y) fun a=>
 bnd (bif (!(((!a)||(decide (60 < (order.length:Int))))||(decide (60 < (l.length:Int))))) then Qz F y order l else some default) fun b=>
 bnd (bif ((((!a)||(decide (60 < (order.length:Int))))||(decide (60 < (l.length:Int))))||b) then Yk F else some default) fun c=>
 some (((((!a)||(decide (60 < (order.length:Int))))||(decide (60 < (l.length:Int))))||b)&&c)
theorem G53 (F:Nat) (y:Gp) (order:List Int) (l:List G5) (r:Bool) (h:Qk F y order l=some r):Pure E8 3 [.agg [LS 1 (E1) y.Stacks,I64 y.Height],E1 order,E2 l] (·=BL r):=by
 unfold Qk at h
 refine Hc [.tmp 6] Try.func3 O O (Jr fun e=>(JLh (.ptr 1001 0) (Q3 (cs:=[LS 1 (E1) y.Stacks,I64 y.Height]) 1001 O O O O O) O (JLm (BL false) O (G6 (e (H5 [(1,E1 order),(2,E2 l),(3,.dptr [LS 1 (E1) y.Stacks,I64 y.Height])] [] 1001 rfl rfl rfl G rfl (by exact⟨.conv (.same rfl),.conv (.same rfl),.ptr,G⟩) (Jr fun g=>(JLh (.agg [LS 1 (E1) y.Stacks,I64 y.Height]) (Gv Hn O O O) O ?_))))))))
 obtain⟨a,i,h⟩:=Gc h
 refine JLh (BL a) (Gr O (Geb y a i) Jb3 ⟨O,O,G⟩) O (JLh (BL (!a)) (Yr (b:=a) O O) O (JLm (BL (!a)) O (JLo (E1 order) [] O .scf G (fun hc=>G2 O O) O (JLo (E7 order.length) [11] O .scf ⟨Ua,G⟩ (fun hc=>Q6 (f:=I64) (xs:=order) G7 O O) O (JLo (BL (decide (60 < (order.length:Int)))) [12] O .scf ⟨Ua,G⟩ (fun hc=>Rz O O O) O (JLh (BL ((!a)||(decide (60 < (order.length:Int))))) (Za O O O O) O (JLm (BL ((!a)||(decide (60 < (order.length:Int))))) O (JLo (E2 l) [] O .scf G (fun hc=>G2 O O) O (JLo (E7 l.length) [16] O .scf ⟨Ua,G⟩ (fun hc=>Q6 (f:=G5.av) (xs:=l) J8 O O) O (JLo (BL (decide (60 < (l.length:Int)))) [17] O .scf ⟨Ua,G⟩ (fun hc=>Rz O O O) O (JLh (BL (((!a)||(decide (60 < (order.length:Int))))||(decide (60 < (l.length:Int))))) (Za O O O O) O (JLm (BL (((!a)||(decide (60 < (order.length:Int))))||(decide (60 < (l.length:Int))))) O (JLo (.agg [LS 1 (E1) y.Stacks,I64 y.Height]) [] O .scf G (fun hc=>Gv Hn O O O) O ?_)))))))))))))
 refine JLo (E1 order) [] O .scf G (fun hc=>G2 O O) O (JLo (E2 l) [] O .scf G (fun hc=>G2 O O) O ?_)
 obtain⟨c,j,h⟩:=Gc h
 refine JLo (BL c) [21,22,23] O .scf ⟨Ua,Ua,Ua,G⟩ (fun hc=>Gr (args:=[.agg [LS 1 (E1) y.Stacks,I64 y.Height],E1 order,E2 l]) O (Gab F y order l c (H3 hc j)) Jb2 ⟨O,O,O,O,O,O,G⟩) O (JLh (BL ((((!a)||(decide (60 < (order.length:Int))))||(decide (60 < (l.length:Int))))||c)) (Za O O O O) O (JLm (BL ((((!a)||(decide (60 < (order.length:Int))))||(decide (60 < (l.length:Int))))||c)) O ?_))
 obtain⟨d,k,h⟩:=Gc h
 refine JLo (BL d) [] O .sct G (fun hc=>Gr (args:=[]) O (Gc5 F d (H3 hc k)) Jb1 G) O (JLh (BL (((((!a)||(decide (60 < (order.length:Int))))||(decide (60 < (l.length:Int))))||c)&&d)) (Y0 O O O O) O (JLm (BL (((((!a)||(decide (60 < (order.length:Int))))||(decide (60 < (l.length:Int))))||c)&&d)) O (G6 (g (H0 (fin1 BL h))))))
end
end Go.Proofs.Ytokjlondbjdlfaa
