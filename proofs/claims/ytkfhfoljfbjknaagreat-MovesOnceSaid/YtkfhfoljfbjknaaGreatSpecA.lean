/-
  What the functions return that range over maps: the order in which a map is ranged over does not matter.
-/
import Derived.Test.YtkfhfoljfbjknaaGreatXA
set_option maxRecDepth 100000
namespace Go.Proofs.YtkfhfoljfbjknaaGreat
open Go.RowKit

theorem D_ship_Right_rel (s : Gz) (r : Bool) : Rel r (M_ship_Right s (fun r_ => r_ = r)) (D_ship_Right s) := by
  unfold M_ship_Right D_ship_Right
  refine rel_bif (fun _ => rel_some) (fun _ => ?_)
  refine rel_each (fun x i s nx nx' hnx => ?_) (fun s => ?_)
  · refine rel_jp (fun K K' hK => rel_bif (fun _ => hK _) (fun _ => hK _)) (fun j => ?_)
    refine rel_bnd (fun v => rel_chk (fun v => rel_bnd (fun q => ?_)))
    exact rel_bif (fun _ => rel_some) (fun _ => hnx _)
  · refine rel_each (fun x i s nx nx' hnx => ?_) (fun s => ?_)
    · refine rel_bif (fun _ => rel_some) (fun _ => ?_)
      refine rel_each (fun x i s nx nx' hnx => ?_) (fun s => hnx _)
      refine rel_bnd (fun v => rel_bnd (fun v => ?_))
      exact rel_bif (fun _ => rel_some) (fun _ => rel_bnd (fun v => rel_chk (fun v => hnx _)))
    · exact rel_any (c := fun x : H5 × Int => decide (1 < x.2)) (e := false) (e' := true)
abbrev S_ship_Right := D_ship_Right
def S_ship_Right_w := PLift.up (M_ship_Right_s S_ship_Right (fun s r h => D_ship_Right_rel s r h))
end Go.Proofs.YtkfhfoljfbjknaaGreat
