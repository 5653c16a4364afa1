/- What the functions return that range over maps: -/
import Derived.Test.YtmfhaflabpnaoaaGreatXA
set_option maxRecDepth 100000
namespace Go.Proofs.YtmfhaflabpnaoaaGreat
open Go.RowKit

theorem J8b (s:G6) (r:Bool):Rel r (Gda s (fun r_=>r_=r)) (H2a s):=by
 unfold Gda H2a
 refine H56 (fun _=>J46) (fun _=>?_)
 refine J47 (fun x i s nx nx' h0=>?_) (fun s=>?_)
 ·refine Y9a (fun K K' hK=>H56 (fun _=>hK _) (fun _=>hK _)) (fun j=>?_)
  refine Hf0 (fun v=>R9d (fun v=>Hf0 (fun q=>?_)))
  exact H56 (fun _=>J46) (fun _=>h0 _)
 ·refine J47 (fun x i s nx nx' h0=>?_) (fun s=>?_)
  ·refine H56 (fun _=>J46) (fun _=>?_)
   refine J47 (fun x i s nx nx' h0=>?_) (fun s=>h0 _)
   refine Hf0 (fun v=>Hf0 (fun v=>?_))
   exact H56 (fun _=>J46) (fun _=>Hf0 (fun v=>R9d (fun v=>h0 _)))
  ·exact Y51 (c:=fun x:Ha×Int=>decide (1 < x.2)) (e:=false) (e':=true)
abbrev G96:=H2a
def Q43:=PLift.up (Q4c G96 (fun s r h=>J8b s r h))
end Go.Proofs.YtmfhaflabpnaoaaGreat
