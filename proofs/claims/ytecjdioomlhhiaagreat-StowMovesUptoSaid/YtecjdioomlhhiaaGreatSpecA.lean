/-
 What the functions return that range over maps: the order in which a map is ranged over does not matter.
-/
import Derived.Test.YtecjdioomlhhiaaGreatXA
set_option maxRecDepth 100000
namespace Go.Proofs.YtecjdioomlhhiaaGreat
open Go.RowKit

theorem J71 (s:H0) (r:Bool):Rel r (Gde s (fun r_=>r_=r)) (H28 s):=by
 unfold Gde H28
 refine Gfa (fun _=>H83) (fun _=>?_)
 refine Hdb (fun x i s nx nx' hnx=>?_) (fun s=>?_)
 ·refine Y2c (fun K K' hK=>Gfa (fun _=>hK _) (fun _=>hK _)) (fun j=>?_)
  refine H1a (fun v=>R5a (fun v=>H1a (fun q=>?_)))
  exact Gfa (fun _=>H83) (fun _=>hnx _)
 ·refine Hdb (fun x i s nx nx' hnx=>?_) (fun s=>?_)
  ·refine Gfa (fun _=>H83) (fun _=>?_)
   refine Hdb (fun x i s nx nx' hnx=>?_) (fun s=>hnx _)
   refine H1a (fun v=>H1a (fun v=>?_))
   exact Gfa (fun _=>H83) (fun _=>H1a (fun v=>R5a (fun v=>hnx _)))
  ·exact Rf6 (c:=fun x:Hh×Int=>decide (1 < x.2)) (e:=false) (e':=true)
abbrev G96:=H28
def Q10:=PLift.up (Q18 G96 (fun s r h=>J71 s r h))
end Go.Proofs.YtecjdioomlhhiaaGreat
