/- Walks of functions. -/
import Derived.Test.YtgcpimpnpcdmmaaGreatSpecI
import Derived.Test.YtgcpimpnpcdmmaaGreatSpecI
set_option maxRecDepth 100000
set_option maxHeartbeats 1000000
set_option linter.unusedVariables false
set_option linter.unusedSimpArgs false
namespace Go.Proofs.YtgcpimpnpcdmmaaGreat
open Go.RowKit
noncomputable section

namespace XCF
open XAF
theorem G94:Yy En 3 1 8=true:=by kernel_rfl
theorem Jad:Yy En 97 12 112=true:=by kernel_rfl
end XCF
open XAF
open XCF

def Z7 (s:List Int):Option (List Int):=
 Rd7 s fun a=>
 bif a then
 (some [])
 else
 (need (decide ((([]:List Int).length+s.length)*8≤140737488355328∧([]:List Int).length+s.length≤maxLen)) <|
  some (([]:List Int)++s))
theorem J6d (s:List Int) (r:(List Int)) (h:Z7 s=some r):Pure En 35 [E2 s] (·=E2 r):=by
 unfold Z7 at h
 refine Gz [.tmp 2] Tryz.func35 O O (Jr fun a=>(JLh (E2 ([]:List Int)) (Jd 1 O O) O (G6 (a (Js fun b=>Jr fun c=>(JLm (E2 s) O (Rn O O O (Hd7 H3 O O) ?_)))))))
 rintro u_ L_ ⟨j,d,rfl,rfl⟩
 replace h:=H5b h j d
 refine G6 (c (JCc O h (fun h hb=>?_) (fun h hb=>?_)))
 ·
  refine Jr fun e=>(JLh (E2 ([]:List Int)) (Jd 1 O O) O (G6 (e (Gs (fin1 (fun r:(List Int)=>(E2 r:AV)) h)))))
 ·
  refine Gk (b (Jr fun g=>(JLh (OW 360000005 1 I64 ([]:List Int)) (Q0e 360000005 3 1 O O H3) O (JLm (E2 s) O ?_))))
  obtain⟨i,h⟩:=Jf h
  refine JLh (OW 360000005 1 I64 (([]:List Int)++s)) (J91 (f:=I64) (xs:=([]:List Int)) (ys:=s) O O O O H3 G94 i (fun _=>O) (.inl O)) O (JLm (OW 360000005 1 I64 (([]:List Int)++s)) O (G6 (g (Gs (fin1l (fun r:(List Int)=>(E2 r:AV)) h)))))


def Rq (s:List G3):Option (List G3):=
 Rd7 s fun a=>
 bif a then
 (some [])
 else
 (need (decide ((([]:List G3).length+s.length)*112≤140737488355328∧([]:List G3).length+s.length≤maxLen)) <|
  some (([]:List G3)++s))
theorem Hab (s:List G3) (r:(List G3)) (h:Rq s=some r):Pure En 33 [E3 s] (·=E3 r):=by
 unfold Rq at h
 refine Gz [.tmp 2] Tryz.func33 O O (Jr fun a=>(JLh (E3 ([]:List G3)) (Jd 12 O O) O (G6 (a (Js fun b=>Jr fun c=>(JLm (E3 s) O (Rn O O O (Hd7 Hz O O) ?_)))))))
 rintro u_ L_ ⟨j,d,rfl,rfl⟩
 replace h:=H5b h j d
 refine G6 (c (JCc O h (fun h hb=>?_) (fun h hb=>?_)))
 ·
  refine Jr fun e=>(JLh (E3 ([]:List G3)) (Jd 12 O O) O (G6 (e (Gs (fin1 (fun r:(List G3)=>(E3 r:AV)) h)))))
 ·
  refine Gk (b (Jr fun g=>(JLh (OW 340000005 12 G3.av ([]:List G3)) (Q0e 340000005 97 12 O O Hz) O (JLm (E3 s) O ?_))))
  obtain⟨i,h⟩:=Jf h
  refine JLh (OW 340000005 12 G3.av (([]:List G3)++s)) (J91 (f:=G3.av) (xs:=([]:List G3)) (ys:=s) O O O O Hz Jad i (fun _=>O) (.inl O)) O (JLm (OW 340000005 12 G3.av (([]:List G3)++s)) O (G6 (g (Gs (fin1l (fun r:(List G3)=>(E3 r:AV)) h)))))


end
end Go.Proofs.YtgcpimpnpcdmmaaGreat
