/- Walks of functions. -/
import Derived.Test.YtmfhaflabpnaoaaGreatXL
set_option maxRecDepth 100000
set_option maxHeartbeats 1000000
set_option linter.unusedVariables false
set_option linter.unusedSimpArgs false
namespace Go.Proofs.YtmfhaflabpnaoaaGreat
open Go.RowKit
noncomputable section

namespace XCF
open XAF
open XLF
theorem G31:Zd Ek 3 1 8=true:=by kernel_rfl
theorem Je7:Zd Ek 72 12 112=true:=by kernel_rfl
end XCF
open XAF
open XLF
open XCF

def Qy (s:List Int):Option (List Int):=
 R76 s fun a=>
 bif a then
 (some [])
 else
 (need (decide ((([]:List Int).length+s.length)*8≤140737488355328∧([]:List Int).length+s.length≤maxLen)) <|
  some (([]:List Int)++s))
theorem H0c (s:List Int) (r:(List Int)) (h:Qy s=some r):Pure Ek 26 [E1 s] (·=E1 r):=by
 unfold Qy at h
 refine H3 [.tmp 2] Tryz.func26 O O (Jr fun a=>(JLh (E1 ([]:List Int)) (Jb 1 O O) O (G8 (a (Js fun b=>Jr fun c=>(JLm (E1 s) O (G18 O O O (J00 Gz O O) ?_)))))))
 rintro u_ L_ ⟨j,d,rfl,rfl⟩
 replace h:=H78 h j d
 refine G8 (c (JCc O h (fun h hb=>?_) (fun h hb=>?_)))
 ·
  refine Jr fun e=>(JLh (E1 ([]:List Int)) (Jb 1 O O) O (G8 (e (Gs (fin1 (fun r:(List Int)=>(E1 r:AV)) h)))))
 ·
  refine Gn (b (Jr fun g=>(JLh (OW 270000005 1 I64 ([]:List Int)) (Q57 270000005 3 1 O O Gz) O (JLm (E1 s) O ?_))))
  obtain⟨i,h⟩:=Qa h
  refine JLh (OW 270000005 1 I64 (([]:List Int)++s)) (J01 (f:=I64) (xs:=([]:List Int)) (ys:=s) O O O O Gz G31 i (fun _=>O) (.inl O)) O (JLm (OW 270000005 1 I64 (([]:List Int)++s)) O (G8 (g (Gs (fin1l (fun r:(List Int)=>(E1 r:AV)) h)))))


def Qz (s:List G1):Option (List G1):=
 R76 s fun a=>
 bif a then
 (some [])
 else
 (need (decide ((([]:List G1).length+s.length)*112≤140737488355328∧([]:List G1).length+s.length≤maxLen)) <|
  some (([]:List G1)++s))
theorem G86 (s:List G1) (r:(List G1)) (h:Qz s=some r):Pure Ek 24 [E3 s] (·=E3 r):=by
 unfold Qz at h
 refine H3 [.tmp 2] Tryz.func24 O O (Jr fun a=>(JLh (E3 ([]:List G1)) (Jb 12 O O) O (G8 (a (Js fun b=>Jr fun c=>(JLm (E3 s) O (G18 O O O (J00 Hk O O) ?_)))))))
 rintro u_ L_ ⟨j,d,rfl,rfl⟩
 replace h:=H78 h j d
 refine G8 (c (JCc O h (fun h hb=>?_) (fun h hb=>?_)))
 ·
  refine Jr fun e=>(JLh (E3 ([]:List G1)) (Jb 12 O O) O (G8 (e (Gs (fin1 (fun r:(List G1)=>(E3 r:AV)) h)))))
 ·
  refine Gn (b (Jr fun g=>(JLh (OW 250000005 12 G1.av ([]:List G1)) (Q57 250000005 72 12 O O Hk) O (JLm (E3 s) O ?_))))
  obtain⟨i,h⟩:=Qa h
  refine JLh (OW 250000005 12 G1.av (([]:List G1)++s)) (J01 (f:=G1.av) (xs:=([]:List G1)) (ys:=s) O O O O Hk Je7 i (fun _=>O) (.inl O)) O (JLm (OW 250000005 12 G1.av (([]:List G1)++s)) O (G8 (g (Gs (fin1l (fun r:(List G1)=>(E3 r:AV)) h)))))


end
end Go.Proofs.YtmfhaflabpnaoaaGreat
