/-
 What the functions return that range over maps: the order in which a map is ranged over does not matter. What iterators yield: lists,collected by models of the same shape.
-/
import Derived.Test.YteogacmpgdpjlaaGreatXA
set_option maxRecDepth 100000
namespace Go.Proofs.YteogacmpgdpjlaaGreat
open Go.RowKit

theorem Jb9 (s:H8) (r:Bool):J20 r (Gfd s (fun r_=>r_=r)) (H4e s):=by
 unfold Gfd H4e
 refine G7d (fun _=>Haf) (fun _=>?_)
 refine J82 (fun x i s nx nx' hnx=>?_) (fun s=>?_)
 ·refine Q30 (fun K K' hK=>G7d (fun _=>hK _) (fun _=>hK _)) (fun j=>?_)
  refine H41 (fun v=>Jfc (fun v=>H41 (fun q=>?_)))
  exact G7d (fun _=>Haf) (fun _=>hnx _)
 ·refine J82 (fun x i s nx nx' hnx=>?_) (fun s=>?_)
  ·refine G7d (fun _=>Haf) (fun _=>?_)
   refine J82 (fun x i s nx nx' hnx=>?_) (fun s=>hnx _)
   refine H41 (fun v=>H41 (fun v=>?_))
   exact G7d (fun _=>Haf) (fun _=>H41 (fun v=>Jfc (fun v=>hnx _)))
  ·exact rel_any (c:=fun x:Hn×Int=>decide (1 < x.2)) (e:=false) (e':=true)
abbrev G29:=H4e
def J1e:=PLift.up (Q56 G29 (fun s r h=>Jb9 s r h))
end Go.Proofs.YteogacmpgdpjlaaGreat
set_option maxRecDepth 100000
namespace Go.Proofs.YteogacmpgdpjlaaGreat
open Go.RowKit

end Go.Proofs.YteogacmpgdpjlaaGreat
