/-
 Models of functions of the program,and that they return what the models say.
-/
import Derived.Test.YtidpfkmbfgihlaaGreatXQ
set_option maxRecDepth 100000
set_option maxHeartbeats 1000000
set_option linter.unusedVariables false
set_option linter.unusedSimpArgs false
namespace Go.Proofs.YtidpfkmbfgihlaaGreat
open Go.RowKit
noncomputable section
structure Gv where
 s:Gk
 boxes:List Box
 l:List Stowed
 open_:List Int
 x:Stowed
 deriving DecidableEq,Inhabited
def Gv.cs (x:Gv):List AV:=[E1 x.s.Columns,E7 x.s.Covers,I64 x.s.Light.Kilos,I64 x.s.Light.X,I64 x.s.Light.Y,I64 x.s.Light.Z,E3 x.s.Rows,E4 x.s.Frames,E5 x.s.Tanks,I64 x.s.G4.Tolerance,I64 x.s.G4.Trim,I64 x.s.G4.List_,I64 x.s.G4.Stability,E8 x.boxes,E6 x.l,E2 x.open_,I64 x.x.Box,I64 x.x.Slot.G2,I64 x.x.Slot.Tier,U8 x.x.Slot.Half]
def Gv.av (x:Gv):AV:=.agg x.cs
namespace XRF
open XAF
open XCF
open XSF
open XKF
open XTF
open XUF
open XBF
open XPF
open XJF
open XQF
end XRF
open XAF
open XCF
open XSF
open XKF
open XTF
open XUF
open XBF
open XPF
open XJF
open XQF
open XRF

def Zg (s:Gk) (boxes:List Box) (l:List Stowed) (open_:List Int):Option Bool:=
 each (fun y22 i22 (s22:Unit) nx22=>
  bnd (bif ((!((decide (y22 < 0))||(decide ((s.Covers.length:Int)≤y22))))&&(decide (0 < (i22:Int)))) then chk ((i22:Int) - 1) some else some 0) fun v28=>
  bnd (bif ((!((decide (y22 < 0))||(decide ((s.Covers.length:Int)≤y22))))&&(decide (0 < (i22:Int)))) then Yy open_ v28 some else some default) fun y29=>
  bif (((decide (y22 < 0))||(decide ((s.Covers.length:Int)≤y22)))||((decide (0 < (i22:Int)))&&(decide (y22≤y29)))) then
  (some false)
  else
  (nx22 ()))
 (fun(s22:Unit)=>
  bnd (Yz s boxes l) fun r32=>
  some r32) open_ 0 ()
end
end Go.Proofs.YtidpfkmbfgihlaaGreat
