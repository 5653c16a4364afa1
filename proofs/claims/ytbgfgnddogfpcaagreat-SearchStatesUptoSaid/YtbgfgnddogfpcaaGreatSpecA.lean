/- What the functions return that range over maps: -/
import Derived.Test.YtbgfgnddogfpcaaGreatXA
set_option maxRecDepth 100000
namespace Go.Proofs.YtbgfgnddogfpcaaGreat
open Go.RowKit

theorem YD (s:Gf) (r:Bool):Rel r (lW s (fun r_=>r_=r)) (pH s):=by
 unfold lW pH;refine sD (fun _=>JF) (fun _=>?_);refine JG (fun x i s nx nx' h0=>?_) (fun s=>?_)
 .refine Q88 (fun K K' hK=>sD (fun _=>hK _) (fun _=>hK _)) (fun j=>?_);refine yO (fun v=>J31 (fun v=>yO (fun q=>?_)));exact sD (fun _=>JF) (fun _=>h0 _)
 .refine JG (fun x i s nx nx' h0=>?_) (fun s=>?_)
  .refine sD (fun _=>JF) (fun _=>?_);refine JG (fun x i s nx nx' h0=>?_) (fun s=>h0 _);refine yO (fun v=>yO (fun v=>?_));exact sD (fun _=>JF) (fun _=>yO (fun v=>J31 (fun v=>h0 _)))
  .exact Q19 (c:=fun x:Hh×Int=>decide (1 < x.2)) (e:=false) (e':=true)
abbrev Z8:=pH
def qO:=PLift.up (G79 Z8 (fun s r h=>YD s r h))
end Go.Proofs.YtbgfgnddogfpcaaGreat
