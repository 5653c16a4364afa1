/-
 What the functions return that range over maps: What iterators yield:
-/
import Derived.Test.YtkiekighbhnolaaGreatXA
set_option maxRecDepth 100000
namespace Go.Proofs.YtkiekighbhnolaaGreat
open Go.RowKit

theorem G48 (s:Ge) (r:Bool):Rel r (oT s (fun r_=>r_=r)) (sW s):=by
 unfold oT sW;refine iH (fun _=>xS) (fun _=>?_);refine G02 (fun x i s nx nx' h0=>?_) (fun s=>?_)
 .refine Gd3 (fun K K' hK=>iH (fun _=>hK _) (fun _=>hK _)) (fun j=>?_);refine sC (fun v=>Ga1 (fun v=>sC (fun q=>?_)));exact iH (fun _=>xS) (fun _=>h0 _)
 .refine G02 (fun x i s nx nx' h0=>?_) (fun s=>?_)
  .refine iH (fun _=>xS) (fun _=>?_);refine G02 (fun x i s nx nx' h0=>?_) (fun s=>h0 _);refine sC (fun v=>sC (fun v=>?_));exact iH (fun _=>xS) (fun _=>sC (fun v=>Ga1 (fun v=>h0 _)))
  .exact Qa2 (c:=fun x:Ho×Int=>decide (1 < x.2)) (e:=false) (e':=true)
abbrev aY:=sW
def uL:=PLift.up (Gfd aY (fun s r h=>G48 s r h))

end Go.Proofs.YtkiekighbhnolaaGreat
