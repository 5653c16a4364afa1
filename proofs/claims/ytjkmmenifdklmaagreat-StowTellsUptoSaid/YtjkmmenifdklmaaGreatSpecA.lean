/-
 What the functions return that range over maps: the order in which a map is ranged over does not matter.
-/
import Derived.Test.YtjkmmenifdklmaaGreatXA
set_option linter.unusedVariables false
set_option linter.unusedSimpArgs false
set_option maxRecDepth 100000
namespace Go.Proofs.YtjkmmenifdklmaaGreat
open Go.RowKit

theorem J39 (s:H4) (r:Bool):Hf4 r (Gad s (fun r_=>r_=r)) (Gf9 s):=by
 unfold Gad Gf9
 refine Gc8 (fun _=>H4a) (fun _=>?_)
 refine H97 (fun x i s nx nx' hnx=>?_) (fun s=>?_)
 ·refine rel_jp (fun K K' hK=>Gc8 (fun _=>hK _) (fun _=>hK _)) (fun j=>?_)
  refine Geb (fun v=>rel_chk (fun v=>Geb (fun q=>?_)))
  exact Gc8 (fun _=>H4a) (fun _=>hnx _)
 ·refine H97 (fun x i s nx nx' hnx=>?_) (fun s=>?_)
  ·refine Gc8 (fun _=>H4a) (fun _=>?_)
   refine H97 (fun x i s nx nx' hnx=>?_) (fun s=>hnx _)
   refine Geb (fun v=>Geb (fun v=>?_))
   exact Gc8 (fun _=>H4a) (fun _=>Geb (fun v=>rel_chk (fun v=>hnx _)))
  ·exact rel_any (c:=fun x:H9×Int=>decide (1 < x.2)) (e:=false) (e':=true)
abbrev G6d:=Gf9
def Jbe:=PLift.up (Jc5 G6d (fun s r h=>J39 s r h))
end Go.Proofs.YtjkmmenifdklmaaGreat
