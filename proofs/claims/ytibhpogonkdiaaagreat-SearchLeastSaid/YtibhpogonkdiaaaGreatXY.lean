/- Walks of functions. -/
import Derived.Test.YtibhpogonkdiaaaGreatXX
set_option maxRecDepth 100000
set_option maxHeartbeats 1000000
set_option linter.unusedVariables false
set_option linter.unusedSimpArgs false
namespace Go.Proofs.YtibhpogonkdiaaaGreat
open Go.RowKit
noncomputable section

namespace XYF
open XAF
open XCF
open XFF
open XSF
open XLF
open XVF
open XWF
open XXF
theorem uG:Hh Es 11=true:=zZ
theorem uF:Hh Es 12=true:=zZ
theorem Hb9:Y9 Es 99 6 6=true:=zZ
end XYF
open XAF
open XCF
open XFF
open XSF
open XLF
open XVF
open XWF
open XXF
open XYF

def Yh (l:List Gu) (most:Int):Option (List Gu):=bnd (eI (min (l.length:Int) most) l.length) fun d=>each (fun a e (b:(List Gu)) c=>need (decide ((b.length+[(Gu.mk a.G7 a.Kilos a.Load a.Stay false false)].length)*6<=140737488355328∧b.length+[(Gu.mk a.G7 a.Kilos a.Load a.Stay false false)].length<=maxLen)) <| c (b++[(Gu.mk a.G7 a.Kilos a.Load a.Stay false false)])) (fun(b:(List Gu))=>some b) (l.take d) 0 []
theorem aT (l:List Gu) (most:Int) (r:(List Gu)) (h:Yh l most=some r):Pure Es 12 [Ef l,I64 most] (·=Ef r):=by
 unfold Yh at h;refine H8 [.tmp 4] Tryz.func12 O O (Jr fun z=>(JLh (Ef ([]:List Gu)) (Q5 6) O (G6 (z (Jr fun a0=>(JLh (OW 1057 6 Gu.av ([]:List Gu)) (aJ 1057 99 6 O O O) O (G6 (a0 (Js fun a1=>Jr fun a2=>(JLm (Ef l) O (JLm (Ef l) O (JLl cC O O O fun a6=>(JLm (I64 most) O (JLh (I64 (min (l.length:Int) most)) vS O ?_))))))))))))));obtain⟨d,a3,h⟩:=Ge h;refine JLh (Ef (l.take d)) (Yb (f:=Gu.av) (xs:=l) O O O cC (Qf a3)) O (JLl cC O O O fun j=>(JLm (I64 0) O (G6 (a2 (Gi ?_)))));obtain⟨a4,k,m,i,h⟩:=J7 h;refine GO h (fun c b=>[(5,OW 1057 6 Gu.av b),(13,Ef (l.take d)),(14,I64 ((l.take d).length:Int)),(15,Er c)]) (fun c b=>[(1057,.spare 99 6 b.length b.length)]) ⟨.q,⟨GI,ø⟩,rfl⟩ ?_;clear h;intro c b e a8 a5;refine Jr fun n=>(JLh (BL (decide ((c:Int) < ((l.take d).length:Int)))) J9 O (G6 (n (Js fun o=>Gp O (fun hb=>?_) (fun hb=>?_)))))
 ·have g:=Jq hb;obtain⟨a,a7,p,q,h⟩:=Hv e g;replace h:=Y2 m h;refine Gs (o (Js fun s=>Gi (Jr fun t=>(JLh (Ep a) (H4 (f:=Gu.av) (xs:=(l.take d)) (y:=a) O O O cC p) O (JLh (.agg (Gu.cs a)) (Gf QU) O (JLh (.ptr 1058 0) (H9 1058 6 vY O O) O (Ha (u:=.AP) (H1 (u:=.agg (Gu.cs a)) (ds:=[U8 a.G7,U8 a.Kilos,U8 a.Load,U8 a.Stay,BL a.Small,BL a.High]) G26 O O O O O O O O) (G6 (t ?_)))))))));refine Jr fun v=>(JLh (.ptr 1058 4) (Jg zE) O (Ha (u:=.AP) (H1 (u:=BL false) (ds:=[U8 a.G7,U8 a.Kilos,U8 a.Load,U8 a.Stay,BL false,BL a.High]) QS O O O O O O O O) (JLh (.ptr 1058 5) (Jg sG) O (Ha (u:=.AP) (H1 (u:=BL false) (ds:=[U8 a.G7,U8 a.Kilos,U8 a.Load,U8 a.Stay,BL false,BL false]) QS O O O O O O O O) (G6 (v (fzQ [(5,OW 1057 6 Gu.av b),(7,.AC [U8 a.G7,U8 a.Kilos,U8 a.Load,U8 a.Stay,BL false,BL false]),(13,Ef (l.take d)),(14,I64 ((l.take d).length:Int)),(15,Er c)] [(1057,.spare 99 6 b.length b.length)] 1058 rfl rfl rfl ⟨GI,ø⟩ rfl (G2 ?_))))))));refine JLm (OW 1057 6 Gu.av b) O (JLh (.agg [U8 a.G7,U8 a.Kilos,U8 a.Load,U8 a.Stay,BL false,BL false]) (Gf QU) O (JLh (Ef [(Gu.mk a.G7 a.Kilos a.Load a.Stay false false)]) (Hb (xs:=[.agg [U8 a.G7,U8 a.Kilos,U8 a.Load,U8 a.Stay,BL false,BL false]]) O ⟨O,O,ø⟩ cC vY) O ?_));obtain⟨w,h⟩:=Hz h;refine JLh (OW 1057 6 Gu.av (b++[(Gu.mk a.G7 a.Kilos a.Load a.Stay false false)])) (Q8 (f:=Gu.av) (xs:=b) (ys:=[(Gu.mk a.G7 a.Kilos a.Load a.Stay false false)]) O O O O cC Hb9 w (fun _=>O) (.inl O) O) O (JLm (OW 1057 6 Gu.av (b++[(Gu.mk a.G7 a.Kilos a.Load a.Stay false false)])) O (G6 (s (G2 (JLh (I64 ((c+1:Nat):Int)) (Hs (Hi g j)) O (JLm (I64 ((c+1:Nat):Int)) O (G6 (a5 _ _ (c+1) (b++[(Gu.mk a.G7 a.Kilos a.Load a.Stay false false)]) (app1 q h) (by omega) ⟨.q,⟨GI,ø⟩,rfl⟩))))))))
 ·have h:=app1 i (Hw e (Hd hb));refine Hn (a1 (Jr fun x=>(JLm (OW 1057 6 Gu.av b) O (JLm (OW 1057 6 Gu.av b) O (G6 (x (H0 (fin1l (fun r:(List Gu)=>(Ef r:AV)) h))))))))

end
end Go.Proofs.YtibhpogonkdiaaaGreat
