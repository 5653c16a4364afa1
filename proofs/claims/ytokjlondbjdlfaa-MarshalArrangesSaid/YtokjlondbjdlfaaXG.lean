/- Walks of functions. -/
import Derived.Test.YtokjlondbjdlfaaXF
set_option maxRecDepth 100000
set_option maxHeartbeats 1000000
set_option linter.unusedVariables false
set_option linter.unusedSimpArgs false
namespace Go.Proofs.Ytokjlondbjdlfaa
open Go.RowKit
noncomputable section

namespace XGF
open XAF
open XBF
open XCF
open XDF
open XEF
open XFF
theorem Jf3:Hj E8 21=true:=by kernel_rfl
end XGF
open XAF
open XBF
open XCF
open XDF
open XEF
open XFF
open XGF

def Qn (F:Nat) (y:Gn) (order:List Int):Option Bool:=
 bnd (Rm y) fun a=>
 bnd (bif (!((!a)||(decide (60 < (order.length:Int))))) then R2 F y order else some default) fun b=>
 bnd (bif (((!a)||(decide (60 < (order.length:Int))))||b) then R0 F else some default) fun c=>
 some ((((!a)||(decide (60 < (order.length:Int))))||b)&&c)
theorem G45 (F:Nat) (y:Gn) (order:List Int) (r:Bool) (h:Qn F y order=some r):Pure E8 6 [.agg [LS 1 (E1) y.Stacks,I64 y.Height],E1 order] (·=BL r):=by
 unfold Qn at h
 refine Hb [.tmp 4] Try.func6 O O (Jr fun e=>(JLh (.ptr 1002 0) (Q9 (cs:=[LS 1 (E1) y.Stacks,I64 y.Height]) 1002 O O O O O) O (JLm (BL false) O (G6 (e (H5 [(1,E1 order),(2,.dptr [LS 1 (E1) y.Stacks,I64 y.Height])] [] 1002 rfl rfl rfl ø rfl (by exact⟨.conv (.same rfl),.ptr,ø⟩) (Jr fun g=>(JLh (.agg [LS 1 (E1) y.Stacks,I64 y.Height]) (Gv Hn O O O) O ?_))))))))
 obtain⟨a,i,h⟩:=Gd h
 refine JLh (BL a) (Gt O (G64 y a i) Hf3 ⟨O,O,ø⟩) O (JLh (BL (!a)) (Z6 (b:=a) O O) O (JLm (BL (!a)) O (JLo (E1 order) [] O .scf ø (fun hc=>G2 O O) O (JLo (E7 order.length) [9] O .scf ⟨Ua,ø⟩ (fun hc=>Qe (f:=I64) (xs:=order) G7 O O) O (JLo (BL (decide (60 < (order.length:Int)))) [10] O .scf ⟨Ua,ø⟩ (fun hc=>Yk O O O) O (JLh (BL ((!a)||(decide (60 < (order.length:Int))))) (Ze O O O O) O (JLm (BL ((!a)||(decide (60 < (order.length:Int))))) O (JLo (.agg [LS 1 (E1) y.Stacks,I64 y.Height]) [] O .scf ø (fun hc=>Gv Hn O O O) O (JLo (E1 order) [] O .scf ø (fun hc=>G2 O O) O ?_)))))))))
 obtain⟨c,j,h⟩:=Gd h
 refine JLo (BL c) [14,15] O .scf ⟨Ua,Ua,ø⟩ (fun hc=>Gt (args:=[.agg [LS 1 (E1) y.Stacks,I64 y.Height],E1 order]) O (G97 F y order c (H6 hc j)) Jf3 ⟨O,O,O,O,ø⟩) O (JLh (BL (((!a)||(decide (60 < (order.length:Int))))||c)) (Ze O O O O) O (JLm (BL (((!a)||(decide (60 < (order.length:Int))))||c)) O ?_))
 obtain⟨d,k,h⟩:=Gd h
 refine JLo (BL d) [] O .sct ø (fun hc=>Gt (args:=[]) O (G3d F d (H6 hc k)) Hf2 ø) O (JLh (BL ((((!a)||(decide (60 < (order.length:Int))))||c)&&d)) (Yn O O O O) O (JLm (BL ((((!a)||(decide (60 < (order.length:Int))))||c)&&d)) O (G6 (g (H1 (fin1 BL h))))))
end
end Go.Proofs.Ytokjlondbjdlfaa
