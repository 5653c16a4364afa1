/- Walks of functions. -/
import Derived.Test.YtgcpimpnpcdmmaaGreatSpecI
import Derived.Test.YtgcpimpnpcdmmaaGreatSpecI
set_option maxRecDepth 100000
set_option maxHeartbeats 1000000
set_option linter.unusedVariables false
set_option linter.unusedSimpArgs false
namespace Go.Proofs.YtgcpimpnpcdmmaaGreat
open Go.RowKit
noncomputable section

namespace XCF
open XAF
theorem G89:Z9 En 3 1 8=true:=by kernel_rfl
theorem J9a:Z9 En 97 12 112=true:=by kernel_rfl
end XCF
open XAF
open XCF

def Yw (s:List Int):Option (List Int):=
 Y4e s fun a=>
 bif a then
 (some [])
 else
 (need (decide ((([]:List Int).length+s.length)*8≤140737488355328∧([]:List Int).length+s.length≤maxLen)) <|
  some (([]:List Int)++s))
theorem J55 (s:List Int) (r:(List Int)) (h:Yw s=some r):Pure En 35 [E2 s] (·=E2 r):=by
 unfold Yw at h
 refine Gx [.tmp 2] Tryz.func35 O O (Jr fun a=>(JLh (E2 ([]:List Int)) (Jh 1 O O) O (G5 (a (Js fun b=>Jr fun c=>(JLm (E2 s) O (Yf O O O (J7b H1 O O) ?_)))))))
 rintro u_ L_ ⟨j,d,rfl,rfl⟩
 replace h:=Hdb h j d
 refine G5 (c (JCc O h (fun h hb=>?_) (fun h hb=>?_)))
 ·
  refine Jr fun e=>(JLh (E2 ([]:List Int)) (Jh 1 O O) O (G5 (e (Gs (fin1 (fun r:(List Int)=>(E2 r:AV)) h)))))
 ·
  refine Gm (b (Jr fun g=>(JLh (OW 360000005 1 I64 ([]:List Int)) (R02 360000005 3 1 O O H1) O (JLm (E2 s) O ?_))))
  obtain⟨i,h⟩:=Ji h
  refine JLh (OW 360000005 1 I64 (([]:List Int)++s)) (Q2d (f:=I64) (xs:=([]:List Int)) (ys:=s) O O O O H1 G89 i (fun _=>O) (.inl O)) O (JLm (OW 360000005 1 I64 (([]:List Int)++s)) O (G5 (g (Gs (fin1l (fun r:(List Int)=>(E2 r:AV)) h)))))


def Rf (s:List G3):Option (List G3):=
 Y4e s fun a=>
 bif a then
 (some [])
 else
 (need (decide ((([]:List G3).length+s.length)*112≤140737488355328∧([]:List G3).length+s.length≤maxLen)) <|
  some (([]:List G3)++s))
theorem H9a (s:List G3) (r:(List G3)) (h:Rf s=some r):Pure En 33 [E3 s] (·=E3 r):=by
 unfold Rf at h
 refine Gx [.tmp 2] Tryz.func33 O O (Jr fun a=>(JLh (E3 ([]:List G3)) (Jh 12 O O) O (G5 (a (Js fun b=>Jr fun c=>(JLm (E3 s) O (Yf O O O (J7b Hy O O) ?_)))))))
 rintro u_ L_ ⟨j,d,rfl,rfl⟩
 replace h:=Hdb h j d
 refine G5 (c (JCc O h (fun h hb=>?_) (fun h hb=>?_)))
 ·
  refine Jr fun e=>(JLh (E3 ([]:List G3)) (Jh 12 O O) O (G5 (e (Gs (fin1 (fun r:(List G3)=>(E3 r:AV)) h)))))
 ·
  refine Gm (b (Jr fun g=>(JLh (OW 340000005 12 G3.av ([]:List G3)) (R02 340000005 97 12 O O Hy) O (JLm (E3 s) O ?_))))
  obtain⟨i,h⟩:=Ji h
  refine JLh (OW 340000005 12 G3.av (([]:List G3)++s)) (Q2d (f:=G3.av) (xs:=([]:List G3)) (ys:=s) O O O O Hy J9a i (fun _=>O) (.inl O)) O (JLm (OW 340000005 12 G3.av (([]:List G3)++s)) O (G5 (g (Gs (fin1l (fun r:(List G3)=>(E3 r:AV)) h)))))


end
end Go.Proofs.YtgcpimpnpcdmmaaGreat
