/- Walks of functions. -/
import Derived.Test.YtkiekighbhnolaaGreatXLb
set_option maxRecDepth 100000
set_option maxHeartbeats 1000000
set_option linter.unusedVariables false
set_option linter.unusedSimpArgs false
namespace Go.Proofs.YtkiekighbhnolaaGreat
open Go.RowKit
noncomputable section
open XAF
open XLF

def dC (out:Ln Move) (l:AH):Option Bool:=JV R9 out l
theorem uY (out:Ln Move) (l:AH) (r:Bool) (h:dC out l=some r):Pure Ep 37 [LT 6 Move.av out,E3 l] (·=BL r):=yE Jv wW Gbb J4 fG (fun u v _ _ _ _ _ _ ho hx hy=>oX (vs:=[.int .u8 u.Kind,.int .i64 u.Box,.int .i64 u.Slot.G5,.int .i64 u.Slot.AB,.int .u8 u.Slot.Half,.int .i64 u.Gv]) (us:=[.int .u8 v.Kind,.int .i64 v.Box,.int .i64 v.Slot.G5,.int .i64 v.Slot.AB,.int .u8 v.Slot.Half,.int .i64 v.Gv]) 4 rfl (Q34 u v) G69 H40 ho hx hy) out l r h Tryz.func37

end
end Go.Proofs.YtkiekighbhnolaaGreat
