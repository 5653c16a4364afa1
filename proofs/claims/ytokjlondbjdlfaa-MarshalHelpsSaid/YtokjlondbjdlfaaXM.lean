/- Walks of functions. -/
import Derived.Test.YtokjlondbjdlfaaXK
set_option maxRecDepth 100000
set_option maxHeartbeats 1000000
set_option linter.unusedVariables false
set_option linter.unusedSimpArgs false
namespace Go.Proofs.Ytokjlondbjdlfaa
open Go.RowKit
noncomputable section

namespace XMF
open XAF
open XBF
open XCF
open XDF
open XEF
open XIF
open XKF
theorem Ha5:Gcc E8 109 3=true:=by kernel_rfl
theorem Q6c:Hr E8 29=true:=by kernel_rfl
theorem Q6b:Hr E8 30=true:=by kernel_rfl
theorem Q5d:Hr E8 59=true:=by kernel_rfl
theorem J43:Hr E8 60=true:=by kernel_rfl
theorem J42:Hr E8 62=true:=by kernel_rfl
theorem Q55:Hr E8 83=true:=by kernel_rfl
theorem Q54:Hr E8 84=true:=by kernel_rfl
theorem Q53:Hr E8 85=true:=by kernel_rfl
theorem Jf8:Qw E8 109 3 24=true:=by kernel_rfl
theorem Gd9:R2 E8 105 4 4=true:=by kernel_rfl
theorem Yb:R2 E8 105 5 5=true:=by kernel_rfl
theorem Gd8:R2 E8 109 0 0=true:=by kernel_rfl
theorem G80:R2 E8 109 1 1=true:=by kernel_rfl
theorem H50:R2 E8 109 2 2=true:=by kernel_rfl
theorem J8b:placesOf E8 109=some [(0,1),(1,1),(2,1)]:=by kernel_rfl
theorem Hc3:Qp E8 57=true:=by kernel_rfl
theorem Jf6:Rx E8 109 3=true:=by kernel_rfl
theorem Q4c:Rx E8 25 1=true:=by kernel_rfl
theorem Q4b:Rx E8 57 1=true:=by kernel_rfl
theorem G41:sliceB E8 57 109 3=true:=by kernel_rfl
theorem Jf4:(E8.info? 109).bind (fun i=>i.zero.map Value.cells)=some (List.toArray [E0,E0,E0]):=by kernel_rfl
theorem Hc1:Qn E8 109 3=true:=by kernel_rfl
end XMF
open XAF
open XBF
open XCF
open XDF
open XEF
open XIF
open XKF
open XMF

def Z3 (j:Gf) (stack:Int):Option Int:=
 bnd (bif (!((decide (stack < 0))||(decide ((j.stacks.length:Int)≤stack)))) then Qu j.stacks stack some else some default) fun c=>
 bif (((decide (stack < 0))||(decide ((j.stacks.length:Int)≤stack)))||(decide ((c.length:Int)=0))) then
 (some 0)
 else
 (Qu j.stacks stack fun d=>
  Qu j.stacks stack fun e=>
  chk ((e.length:Int) - 1) fun a=>
  Qu d a fun b=>
  some b)
theorem Gbb (j:Gf) (stack:Int) (r:Int) (h:Z3 j stack=some r):Pure E8 62 [.dptr (Gf.cs j),I64 stack] (·=I64 r):=by
 unfold Z3 at h
 refine H9 [.tmp 4] Try.func62 O O (Jr fun l=>(JLm (I64 0) O (G6 (l (Js fun m=>?_)))))
 refine Jr fun n=>(JLm (I64 stack) O (JLh (BL (decide (stack < 0))) (J0 O O O) O (JLm (BL (decide (stack < 0))) O (JLo (I64 stack) [] O .scf ø (fun hc=>G2 O O) O (JLo (E5 j) [] O .scf ø (fun hc=>G2 O O) O (JLo (E5 j) [9] O .scf ⟨Ua,ø⟩ (fun hc=>G26 O O) O (JLo (E5 j) [10] O .scf ⟨Ua,ø⟩ (fun hc=>Gy Qe O O O) O (JLo (LS 1 (E1) j.stacks) [11] O .scf ⟨Ua,ø⟩ (fun hc=>Gm Gr O O O) O (JLo (E7 j.stacks.length) [12] O .scf ⟨Ua,ø⟩ (fun hc=>Jq (f:=(E1)) (xs:=j.stacks) Gh O O) O (JLo (BL (decide ((j.stacks.length:Int)≤stack))) [8,13] O .scf ⟨Ua,Ua,ø⟩ (fun hc=>G40 O O O) O (JLh (BL ((decide (stack < 0))||(decide ((j.stacks.length:Int)≤stack)))) (Yr O O O O) O (JLm (BL ((decide (stack < 0))||(decide ((j.stacks.length:Int)≤stack)))) O (JLo (E5 j) [] O .scf ø (fun hc=>G2 O O) O ?_)))))))))))))
 refine JLo (E5 j) [17] O .scf ⟨Ua,ø⟩ (fun hc=>G26 O O) O (JLo (E5 j) [18] O .scf ⟨Ua,ø⟩ (fun hc=>Gy Qe O O O) O (JLo (LS 1 (E1) j.stacks) [19] O .scf ⟨Ua,ø⟩ (fun hc=>Gm Gr O O O) O (JLo (I64 stack) [] O .scf ø (fun hc=>G2 O O) O ?_)))
 obtain⟨a,o,h⟩:=Gg h
 refine JLo (.dptr [E1 a]) [20,21] O .scf ⟨Ua,Ua,ø⟩ (fun hc=>(match G37 (H5 hc o) with | ⟨_,hm_,hy_⟩=>H1 (f:=(E1)) (xs:=j.stacks) (y:=a) O O O Gh hy_ hm_)) O (JLo (E1 a) [22] O .scf ⟨Ua,ø⟩ (fun hc=>Gm H3 O O O) O (JLo (E7 a.length) [23] O .scf ⟨Ua,ø⟩ (fun hc=>Jq (f:=I64) (xs:=a) G7 O O) O (JLo (BL (decide ((a.length:Int)=0))) [24] O .scf ⟨Ua,ø⟩ (fun hc=>Qm O O O) O (JLh (BL (((decide (stack < 0))||(decide ((j.stacks.length:Int)≤stack)))||(decide ((a.length:Int)=0)))) (Yr O O O O) O (G6 (n (JCc O h (fun h hb=>?_) (fun h hb=>?_))))))))
 ·
  refine Jr fun p=>(JLm (I64 0) O (G6 (p (H0 (fin1 I64 h)))))
 ·
  refine Gp (m (Js fun q=>?_))
  obtain⟨z,d,s,t,h⟩:=Qq h
  obtain⟨w,c,e,u,h⟩:=Qq h
  obtain⟨v,g,h⟩:=J8 h
  obtain⟨x,b,i,k,h⟩:=Qq h
  refine JC_d0 Jc (by kernel_rfl) (Dq (E5 j) (G2 O O) O (Dq (E5 j) (G26 O O) O (Dq (E5 j) (Gy Qe O O O) O (Dq (LS 1 (E1) j.stacks) (Gm Gr O O O) O (Dq (I64 stack) (G2 O O) O (Dq (.dptr [E1 d]) (H1 (f:=(E1)) (xs:=j.stacks) (y:=d) O O O Gh t s) O (Dq (E1 d) (Gm H3 O O O) O (Dq (E5 j) (G2 O O) O (Dq (E5 j) (G26 O O) O (Dq (E5 j) (Gy Qe O O O) O (Dq (LS 1 (E1) j.stacks) (Gm Gr O O O) O (Dq (I64 stack) (G2 O O) O (Dq (.dptr [E1 c]) (H1 (f:=(E1)) (xs:=j.stacks) (y:=c) O O O Gh u e) O ?_)))))))))))))
  refine Dq (E1 c) (Gm H3 O O O) O (Dq (E7 c.length) (Jq (f:=I64) (xs:=c) G7 O O) O (Dq (I64 v) (G00 g O O O) O (Dq (.dptr [I64 b]) (H1 (f:=I64) (xs:=d) (y:=b) O O O G7 k i) O (Dq (I64 b) (Gm Gi O O O) O (Dq (I64 b) (G4 O O) O (Dnil (q (H0 (fin1 I64 h)))))))))

def Yh (j:Gf) (s:G8):Option (Bool×Gf):=
 bnd (bif (!(decide (s.Box < 1))) then Z3 j s.From else some default) fun g=>
 bif ((decide (s.Box < 1))||(decide (g≠s.Box))) then
 (some (false,j))
 else
 (bif decide (s.To=(-1)) then
  (bnd (bif (!(decide (j.next=(j.order.length:Int)))) then Qu j.order j.next some else some default) fun b=>
   bif ((decide (j.next=(j.order.length:Int)))||(decide (b≠s.Box))) then
   (some (false,j))
   else
   (chk (j.next+1) fun c=>
    Qu j.stacks s.From fun a=>
    Qu j.stacks s.From fun d=>
    chk ((d.length:Int) - 1) fun e=>
    bnd (Y5 e a.length) fun f=>
    Qu j.stacks s.From fun h=>
    need (decide ((j.steps.length+[s].length)*24≤140737488355328∧j.steps.length+[s].length≤maxLen)) <|
    some (true,(Gf.mk (j.stacks.set s.From.toNat (a.take f)) j.height j.order j.ranks (j.steps++[s]) c))))
  else
  (none))
abbrev Ef (j:Gf):List AV:=[.vec 1115 j.stacks.length 1 j.stacks.length,I64 j.height,E1 j.order,.mp 1114,.vec 1116 j.steps.length 3 j.steps.length,I64 j.next]
theorem Gc3 (j:Gf) (s:G8) (r:Bool×Gf) (h:Yh j s=some r):Q8 E8 60 [.ptr 1113 0,.agg [I64 s.Box,I64 s.From,I64 s.To]] [(1113,.box 105 [.vec 1115 j.stacks.length 1 j.stacks.length,I64 j.height,E1 j.order,.mp 1114,.vec 1116 j.steps.length 3 j.steps.length,I64 j.next]),(1114,TP 103 Ei I64 j.ranks),(1115,.vec 25 1 j.stacks.length (j.stacks.map (E1))),(1116,.vec 109 3 j.steps.length (j.steps.map G8.av))] (fun av L'=>av=BL r.1∧L'=[(1113,.box 105 [.vec 1115 r.2.stacks.length 1 r.2.stacks.length,I64 r.2.height,E1 r.2.order,.mp 1114,.vec 1116 r.2.steps.length 3 r.2.steps.length,I64 r.2.next]),(1114,TP 103 Ei I64 r.2.ranks),(1115,.vec 25 1 r.2.stacks.length (r.2.stacks.map (E1))),(1116,.vec 109 3 r.2.steps.length (r.2.steps.map G8.av))]):=by
 unfold Yh at h
 refine G1b [1113,1114,1115,1116] [.tmp 4] Try.func60 O O (H90 O) (Jr fun a3=>(JLh (.ptr 1074 0) (Qj (cs:=[I64 s.Box,I64 s.From,I64 s.To]) 1074 O O O O O) O (JLm (BL false) O (G6 (a3 (H4 [(0,.ptr 1113 0),(3,.dptr [I64 s.Box,I64 s.From,I64 s.To])] [(1113,.box 105 (Ef j)),(1114,TP 103 Ei I64 j.ranks),(1115,.vec 25 1 j.stacks.length (j.stacks.map (E1))),(1116,.vec 109 3 j.steps.length (j.steps.map G8.av))] 1074 rfl rfl rfl ⟨⟨_,rfl,.boxEq rfl rfl⟩,fmQ O,⟨_,rfl,.vec⟩,⟨_,rfl,.vec⟩,ø⟩ rfl (by exact⟨.conv (.same rfl),.ptr,ø⟩) (Js fun a4=>?_)))))))
 refine Js fun a5=>R8 (l':=[(0,.ptr 1113 0),(3,.dptr [I64 s.Box,I64 s.From,I64 s.To])]) (L':=[(1113,.box 105 (Ef j)),(1114,TP 103 Ei I64 j.ranks),(1115,.vec 25 1 j.stacks.length (j.stacks.map (E1))),(1116,.vec 109 3 j.steps.length (j.steps.map G8.av))]) ⟨(.sm O O),⟨fbQ O (.sm O O),fmQ O,⟨_,rfl,.vec⟩,⟨_,rfl,.vec⟩,ø⟩,rfl⟩ ?_
 obtain⟨l,a6,h⟩:=Gg h
 refine JC_d0 Jc (by kernel_rfl) (Dq (.dptr [I64 s.Box,I64 s.From,I64 s.To]) (Gy Gd8 O O O) O (Dq (I64 s.Box) (Gm Gi O O O) O (Dq (BL (decide (s.Box < 1))) (J0 O O O) O (Dq (BL (decide (s.Box < 1))) (G2 O O) O (Do (.ptr 1113 0) [] O .scf ø (fun hc=>G2 O O) O (Do (.dptr [I64 s.From,I64 s.To]) [] O .scf ø (fun hc=>Gy G80 O O O) O (Do (I64 s.From) [10] O .scf ⟨Ua,ø⟩ (fun hc=>Gm Gi O O O) O (Do (I64 l) [9,11] O .scf ⟨Ua,Ua,ø⟩ (fun hc=>H6e (args:=[.dptr (Gf.cs j),I64 s.From]) O (Gbb j s.From l (H5 hc a6)) J42 ⟨.ptrL O ⟨.vec O,.data O O,.data O O,.mp O,.vec O,.data O O,ø⟩,.data O O,ø⟩ O) O (Do (.dptr [I64 s.Box,I64 s.From,I64 s.To]) [] O .scf ø (fun hc=>Gy Gd8 O O O) O (Do (I64 s.Box) [13] O .scf ⟨Ua,ø⟩ (fun hc=>Gm Gi O O O) O (Do (BL (decide (l≠s.Box))) [12,14] O .scf ⟨Ua,Ua,ø⟩ (fun hc=>Yj O O O) O (Dq (BL ((decide (s.Box < 1))||(decide (l≠s.Box)))) (Yr O O O O) O (Dnil ?_)))))))))))))
 refine a5 (JCc O h (fun h hb=>?_) (fun h hb=>?_))
 ·
  refine Jr fun a7=>(JLm (BL false) O (G6 (a7 (H0 ?_))))
  obtain rfl:=K0 h
  exact⟨[BL false],[(1113,.box 105 (Ef j)),(1114,TP 103 Ei I64 j.ranks),(1115,.vec 25 1 j.stacks.length (j.stacks.map (E1))),(1116,.vec 109 3 j.steps.length (j.steps.map G8.av))],⟨fbQ O (.sm O O),fmQ O,⟨_,rfl,.vec⟩,⟨_,rfl,.vec⟩,ø⟩,rfl,⟨⟨_,rfl,.conv (.same rfl)⟩,ø⟩,rfl,rfl⟩
 ·
  refine Gp (a4 (Js fun a8=>Jr fun a9=>(JLh (.dptr [I64 s.To]) (Gy H50 O O O) O (JLh (I64 s.To) (Gm Gi O O O) O (JLh (BL (decide (s.To=(-1)))) (Qm O O O) O (G6 (a9 (JCc O h (fun h hb=>?_) (fun h hb=>?_)))))))))
  ·
   refine Js fun b0=>Js fun b1=>R8 (l':=[(0,.ptr 1113 0),(3,.dptr [I64 s.Box,I64 s.From,I64 s.To])]) (L':=[(1113,.box 105 (Ef j)),(1114,TP 103 Ei I64 j.ranks),(1115,.vec 25 1 j.stacks.length (j.stacks.map (E1))),(1116,.vec 109 3 j.steps.length (j.steps.map G8.av))]) ⟨(.sm O O),⟨fbQ O (.sm O O),fmQ O,⟨_,rfl,.vec⟩,⟨_,rfl,.vec⟩,ø⟩,rfl⟩ ?_
   obtain⟨d,p,h⟩:=Gg h
   refine JC_d0 Jc (by kernel_rfl) (Dq (.ptr 1113 0) (G2 O O) O (Dq (.ptr 1113 0) (Rh O O) O (Dq (.ptr 1113 5) (Hh Yb O O) O (Dq (I64 j.next) (Hk Gi O O O O) O (Dq (.ptr 1113 0) (G2 O O) O (Dq (.ptr 1113 0) (Rh O O) O (Dq (.ptr 1113 2) (Hh G02 O O) O (Dq (E1 j.order) (Hk H3 O O O O) O (Dq (E7 j.order.length) (Jq (f:=I64) (xs:=j.order) G7 O O) O (Dq (BL (decide (j.next=(j.order.length:Int)))) (Qm O O O) O (Dq (BL (decide (j.next=(j.order.length:Int)))) (G2 O O) O (Do (.ptr 1113 0) [] O .scf ø (fun hc=>G2 O O) O (Do (.ptr 1113 0) [31] O .scf ⟨Ua,ø⟩ (fun hc=>Rh O O) O ?_)))))))))))))
   refine Do (.ptr 1113 2) [32] O .scf ⟨Ua,ø⟩ (fun hc=>Hh G02 O O) O (Do (E1 j.order) [33] O .scf ⟨Ua,ø⟩ (fun hc=>Hk H3 O O O O) O (Do (.ptr 1113 0) [] O .scf ø (fun hc=>G2 O O) O (Do (.ptr 1113 0) [35] O .scf ⟨Ua,ø⟩ (fun hc=>Rh O O) O (Do (.ptr 1113 5) [36] O .scf ⟨Ua,ø⟩ (fun hc=>Hh Yb O O) O (Do (I64 j.next) [37] O .scf ⟨Ua,ø⟩ (fun hc=>Hk Gi O O O O) O (Do (.dptr [I64 d]) [34,38] O .scf ⟨Ua,Ua,ø⟩ (fun hc=>(match G37 (H5 hc p) with | ⟨_,hm_,hy_⟩=>H1 (f:=I64) (xs:=j.order) (y:=d) O O O G7 hy_ hm_)) O (Do (I64 d) [39] O .scf ⟨Ua,ø⟩ (fun hc=>Gm Gi O O O) O (Do (.dptr [I64 s.Box,I64 s.From,I64 s.To]) [] O .scf ø (fun hc=>Gy Gd8 O O O) O (Do (I64 s.Box) [41] O .scf ⟨Ua,ø⟩ (fun hc=>Gm Gi O O O) O (Do (BL (decide (d≠s.Box))) [40,42] O .scf ⟨Ua,Ua,ø⟩ (fun hc=>Yj O O O) O (Dq (BL ((decide (j.next=(j.order.length:Int)))||(decide (d≠s.Box)))) (Yr O O O O) O (Dnil ?_))))))))))))
   refine b1 (JCc O h (fun h hb=>?_) (fun h hb=>?_))
   ·
    refine Jr fun q=>(JLm (BL false) O (G6 (q (H0 ?_))))
    obtain rfl:=K0 h
    exact⟨[BL false],[(1113,.box 105 (Ef j)),(1114,TP 103 Ei I64 j.ranks),(1115,.vec 25 1 j.stacks.length (j.stacks.map (E1))),(1116,.vec 109 3 j.steps.length (j.steps.map G8.av))],⟨fbQ O (.sm O O),fmQ O,⟨_,rfl,.vec⟩,⟨_,rfl,.vec⟩,ø⟩,rfl,⟨⟨_,rfl,.conv (.same rfl)⟩,ø⟩,rfl,rfl⟩
   ·
    refine Gp (b0 (G1 (JLm (.ptr 1113 0) O (JLh (.ptr 1113 0) (Rh O O) O (JLh (.ptr 1113 5) (Hh Yb O O) O (JLh (I64 j.next) (Hk Gi O O O O) O ?_))))))
    obtain⟨c,t,h⟩:=J8 h
    refine JLh (I64 c) (Hz t O O O) O (JLh (.ptr 1113 0) (Rh O O) O (JLh (.ptr 1113 5) (Hh Yb O O) O (J9 (u:=.junk) (Ht (u:=I64 c) (ds:=[.vec 1115 j.stacks.length 1 j.stacks.length,I64 j.height,E1 j.order,.mp 1114,.vec 1116 j.steps.length 3 j.steps.length,I64 c]) G96 O O O O O O O O) (G6 (a8 (Js fun v=>?_))))))
    refine R8 (l':=[(0,.ptr 1113 0),(3,.dptr [I64 s.Box,I64 s.From,I64 s.To])]) (L':=[(1113,.box 105 [.vec 1115 j.stacks.length 1 j.stacks.length,I64 j.height,E1 j.order,.mp 1114,.vec 1116 j.steps.length 3 j.steps.length,I64 c]),(1114,TP 103 Ei I64 j.ranks),(1115,.vec 25 1 j.stacks.length (j.stacks.map (E1))),(1116,.vec 109 3 j.steps.length (j.steps.map G8.av))]) ⟨(.sm O O),⟨fbQ O (.sm O O),fmQ O,⟨_,rfl,.vec⟩,⟨_,rfl,.vec⟩,ø⟩,rfl⟩ ?_
    obtain⟨a,m,g,h⟩:=Ym h
    obtain⟨e,n,i,h⟩:=Ym h
    obtain⟨b2,w,h⟩:=J8 h
    obtain⟨b,x,h⟩:=Gg h
    obtain⟨b3,o,k,h⟩:=Ym h
    refine Jh [26] (.replicate 27 0) (.replicate 27 0) [[(1113,.box 105 [.vec 1115 j.stacks.length 1 j.stacks.length,I64 j.height,E1 j.order,.mp 1114,.vec 1116 j.steps.length 3 j.steps.length,I64 c]),(1114,TP 103 Ei I64 j.ranks),(1115,.vec 25 1 j.stacks.length (j.stacks.map (E1))),(1116,.vec 109 3 j.steps.length (j.steps.map G8.av))],((1115,.vec 25 1 j.stacks.length ((j.stacks.set s.From.toNat (a.take b)).map (E1)))::[(1113,.box 105 [.vec 1115 j.stacks.length 1 j.stacks.length,I64 j.height,E1 j.order,.mp 1114,.vec 1116 j.steps.length 3 j.steps.length,I64 c]),(1114,TP 103 Ei I64 j.ranks),(1115,.vec 25 1 j.stacks.length (j.stacks.map (E1))),(1116,.vec 109 3 j.steps.length (j.steps.map G8.av))])] Jc (by kernel_rfl) rfl rfl ?_
    refine Gd (u:=.ptr 1113 0) O O ⟨Gb (G2 O O) O,ø⟩ (Gd (u:=.ptr 1113 0) O O ⟨Gb (Rh O O) O,ø⟩ (Gd (u:=.ptr 1113 0) O O ⟨Gb (Hh Qe O O) O,ø⟩ (Gd (u:=.vec 1115 j.stacks.length 1 j.stacks.length) O O ⟨Gb (Hk Gr O O O O) O,ø⟩ (Gd (u:=.dptr [I64 s.From,I64 s.To]) O O ⟨Gb (Gy G80 O O O) O,ø⟩ (Gd (u:=I64 s.From) O O ⟨Gb (Gm Gi O O O) O,ø⟩ (Gd (u:=.ptr 1113 0) O O ⟨Gb (G2 O O) O,ø⟩ (Gd (u:=.ptr 1113 0) O O ⟨Gb (Rh O O) O,ø⟩ (Gd (u:=.ptr 1113 0) O O ⟨Gb (Hh Qe O O) O,ø⟩ (Gd (u:=.vec 1115 j.stacks.length 1 j.stacks.length) O O ⟨Gb (Hk Gr O O O O) O,ø⟩ (Gd (u:=.dptr [I64 s.From,I64 s.To]) O O ⟨Gb (Gy G80 O O O) O,ø⟩ (Gd (u:=I64 s.From) O O ⟨Gb (Gm Gi O O O) O,ø⟩ (Gd (u:=.vptr 1115 j.stacks.length s.From.toNat 0) O O ⟨Gb (Zw (f:=(E1)) (xs:=j.stacks) (y:=a) O O O O Gh g m) O,ø⟩ (Gd (u:=E1 a) O O ⟨Gb (Gbc (f:=(E1)) (xs:=j.stacks) (y:=a) H3 O O O g O O) O,ø⟩ ?_)))))))))))))
    refine Gd (u:=.ptr 1113 0) O O ⟨Gb (G2 O O) O,ø⟩ (Gd (u:=.ptr 1113 0) O O ⟨Gb (Rh O O) O,ø⟩ (Gd (u:=.ptr 1113 0) O O ⟨Gb (Hh Qe O O) O,ø⟩ (Gd (u:=.vec 1115 j.stacks.length 1 j.stacks.length) O O ⟨Gb (Hk Gr O O O O) O,ø⟩ (Gd (u:=.dptr [I64 s.From,I64 s.To]) O O ⟨Gb (Gy G80 O O O) O,ø⟩ (Gd (u:=I64 s.From) O O ⟨Gb (Gm Gi O O O) O,ø⟩ (Gd (u:=.vptr 1115 j.stacks.length s.From.toNat 0) O O ⟨Gb (Zw (f:=(E1)) (xs:=j.stacks) (y:=e) O O O O Gh i n) O,ø⟩ (Gd (u:=E1 e) O O ⟨Gb (Gbc (f:=(E1)) (xs:=j.stacks) (y:=e) H3 O O O i O O) O,ø⟩ (Gd (u:=E7 e.length) O O ⟨Gb (Jq (f:=I64) (xs:=e) G7 O O) O,ø⟩ (Gd (u:=I64 b2) O O ⟨Gb (G00 w O O O) O,ø⟩ (Gd (u:=E1 (a.take b)) O O ⟨Gb (Ga8 (f:=I64) (xs:=a) O O O G7 (Hg x)) O,ø⟩ (Gd (u:=.vptr 1115 j.stacks.length s.From.toNat 0) O O ⟨Gb (Zw (f:=(E1)) (xs:=j.stacks) (y:=b3) O O O O Gh k o) O,ø⟩ ?_)))))))))))
    refine H1d (u:=.junk) O O O O (Gb (H1e (f:=(E1)) (xs:=j.stacks) (z:=(a.take b)) Q4c O O O O (Ey k).1 O O O O) O) (Rc (v (Js fun a0=>R8 (l':=[(0,.ptr 1113 0),(3,.dptr [I64 s.Box,I64 s.From,I64 s.To])]) (L':=[(1113,.box 105 [.vec 1115 j.stacks.length 1 j.stacks.length,I64 j.height,E1 j.order,.mp 1114,.vec 1116 j.steps.length 3 j.steps.length,I64 c]),(1114,TP 103 Ei I64 j.ranks),(1115,.vec 25 1 j.stacks.length ((j.stacks.set s.From.toNat (a.take b)).map (E1))),(1116,.vec 109 3 j.steps.length (j.steps.map G8.av))]) ⟨(.sm O O),⟨fbQ O (.sm O O),fmQ O,⟨_,rfl,.vec⟩,⟨_,rfl,.vec⟩,ø⟩,rfl⟩ ?_)))
    obtain⟨a1,h⟩:=J1 h
    refine Jh [7,10] [0,0,0,0,0,0,0,0,1,1,0] [1,0,0,0,0,0,0,0,1,1,0] [[(1113,.box 105 [.vec 1115 j.stacks.length 1 j.stacks.length,I64 j.height,E1 j.order,.mp 1114,.vec 1116 j.steps.length 3 j.steps.length,I64 c]),(1114,TP 103 Ei I64 j.ranks),(1115,.vec 25 1 j.stacks.length ((j.stacks.set s.From.toNat (a.take b)).map (E1))),(1116,.vec 109 3 j.steps.length (j.steps.map G8.av))],((1116,.vec 109 3 ((j.steps++[s]).length) ((j.steps++[s]).map G8.av))::[(1113,.box 105 [.vec 1115 j.stacks.length 1 j.stacks.length,I64 j.height,E1 j.order,.mp 1114,.vec 1116 j.steps.length 3 j.steps.length,I64 c]),(1114,TP 103 Ei I64 j.ranks),(1115,.vec 25 1 j.stacks.length ((j.stacks.set s.From.toNat (a.take b)).map (E1))),(1116,.vec 109 3 j.steps.length (j.steps.map G8.av))]),((1113,.box 105 [.vec 1115 j.stacks.length 1 j.stacks.length,I64 j.height,E1 j.order,.mp 1114,.vec 1116 ((j.steps++[s]).length) 3 ((j.steps++[s]).length),I64 c])::((1116,.vec 109 3 ((j.steps++[s]).length) ((j.steps++[s]).map G8.av))::[(1113,.box 105 [.vec 1115 j.stacks.length 1 j.stacks.length,I64 j.height,E1 j.order,.mp 1114,.vec 1116 j.steps.length 3 j.steps.length,I64 c]),(1114,TP 103 Ei I64 j.ranks),(1115,.vec 25 1 j.stacks.length ((j.stacks.set s.From.toNat (a.take b)).map (E1))),(1116,.vec 109 3 j.steps.length (j.steps.map G8.av))]))] Jc (by kernel_rfl) rfl rfl ?_
    refine Gd (u:=.ptr 1113 0) O O ⟨Gb (G2 O O) O,Gb (G2 O O) O,ø⟩ (Gd (u:=.ptr 1113 0) O O ⟨Gb (G2 O O) O,ø⟩ (Gd (u:=.ptr 1113 0) O O ⟨Gb (Rh O O) O,ø⟩ (Gd (u:=.ptr 1113 4) O O ⟨Gb (Hh Gd9 O O) O,ø⟩ (Gd (u:=.vec 1116 j.steps.length 3 j.steps.length) O O ⟨Gb (Hk Hc3 O O O O) O,ø⟩ (Gd (u:=.agg [I64 s.Box,I64 s.From,I64 s.To]) O O ⟨Gb (Gu Ha5 O O O) O,ø⟩ (Gd (u:=E3 [s]) O O ⟨Gb (Hb (xs:=[.agg [I64 s.Box,I64 s.From,I64 s.To]]) O ⟨O,O,ø⟩ G41 Hc1 O O O O) O,ø⟩ (D_w (u:=.vec 1116 ((j.steps++[s]).length) 3 ((j.steps++[s]).length)) rfl rfl rfl rfl (Gb (G30 (f:=G8.av) (xs:=j.steps) (ys:=[s]) (ver:=j.steps.length) (ver1:=(j.steps++[s]).length) rfl rfl rfl rfl G41 Jf8 a1 (fun _=>rfl) (.inl rfl) (by simp)) rfl) (Gd (u:=.ptr 1113 0) O O ⟨Gb (Rh O O) O,ø⟩ (Gd (u:=.ptr 1113 4) O O ⟨Gb (Hh Gd9 O O) O,ø⟩ (H1d (u:=.junk) O O O O (Gb (Ht (u:=.vec 1116 ((j.steps++[s]).length) 3 ((j.steps++[s]).length)) (ds:=[.vec 1115 j.stacks.length 1 j.stacks.length,I64 j.height,E1 j.order,.mp 1114,.vec 1116 ((j.steps++[s]).length) 3 ((j.steps++[s]).length),I64 c]) Q4b O O O O O O O O) O) (Rc ?_)))))))))))
    refine a0 (Jr fun a2=>(JLm (BL true) O (G6 (a2 (R8 (l':=[(4,BL true)]) (L':=[(1113,.box 105 [.vec 1115 j.stacks.length 1 j.stacks.length,I64 j.height,E1 j.order,.mp 1114,.vec 1116 ((j.steps++[s]).length) 3 ((j.steps++[s]).length),I64 c]),(1114,TP 103 Ei I64 j.ranks),(1115,.vec 25 1 j.stacks.length ((j.stacks.set s.From.toNat (a.take b)).map (E1))),(1116,.vec 109 3 ((j.steps++[s]).length) ((j.steps++[s]).map G8.av))]) ⟨⟨.same rfl,ø⟩,⟨fbQ O (.sm O O),fmQ O,⟨_,rfl,.vec⟩,⟨_,rfl,.vec⟩,ø⟩,rfl⟩ ?_)))))
    refine R4c [(1113,.box 105 [.vec 1115 ((j.stacks.set s.From.toNat (a.take b)).length) 1 ((j.stacks.set s.From.toNat (a.take b)).length),I64 j.height,E1 j.order,.mp 1114,.vec 1116 ((j.steps++[s]).length) 3 ((j.steps++[s]).length),I64 c]),(1114,TP 103 Ei I64 j.ranks),(1115,.vec 25 1 ((j.stacks.set s.From.toNat (a.take b)).length) ((j.stacks.set s.From.toNat (a.take b)).map (E1))),(1116,.vec 109 3 ((j.steps++[s]).length) ((j.steps++[s]).map G8.av))] (by simp only [List.length_set,Kj,Kf,List.length_nil,Nat.zero_add]) (H0 ?_)
    obtain rfl:=K0 h
    exact⟨[BL true],[(1113,.box 105 [.vec 1115 ((j.stacks.set s.From.toNat (a.take b)).length) 1 ((j.stacks.set s.From.toNat (a.take b)).length),I64 j.height,E1 j.order,.mp 1114,.vec 1116 ((j.steps++[s]).length) 3 ((j.steps++[s]).length),I64 c]),(1114,TP 103 Ei I64 j.ranks),(1115,.vec 25 1 ((j.stacks.set s.From.toNat (a.take b)).length) ((j.stacks.set s.From.toNat (a.take b)).map (E1))),(1116,.vec 109 3 ((j.steps++[s]).length) ((j.steps++[s]).map G8.av))],⟨fbQ O (.sm O O),fmQ O,⟨_,rfl,.vec⟩,⟨_,rfl,.vec⟩,ø⟩,rfl,⟨⟨_,rfl,.conv (.same rfl)⟩,ø⟩,rfl,rfl⟩
  ·
   refine Js fun b4=>Js fun b5=>?_
   cases h

def G06 (s:List Int) (v:Int):Option Bool:=
 bnd (Rg s v) fun a=>
 some (decide (0≤a))
theorem H1a (s:List Int) (v:Int) (r:Bool) (h:G06 s v=some r):Pure E8 85 [E1 s,I64 v] (·=BL r):=by
 unfold G06 at h
 refine H9 [.tmp 4] Try.func85 O O (Jr fun b=>(JLm (BL false) O (G6 (b (Jr fun c=>(JLm (E1 s) O (JLm (I64 v) O ?_)))))))
 obtain⟨a,d,h⟩:=Gg h
 refine JLh (I64 a) (Gv O (G4e s v a d) H9a ⟨O,O,O,O,ø⟩) O (JLh (BL (decide (0≤a))) (G40 O O O) O (JLm (BL (decide (0≤a))) O (G6 (c (H0 (fin1 BL h))))))

def R1 (s:List Int) (a:Int):Option Bool:=
 bnd (G06 s a) fun b=>
 some b
theorem H0d (s:List Int) (a:Int) (r:Bool) (h:R1 s a=some r):Pure E8 84 [E1 s,.dptr [I64 a]] (·=BL r):=by
 unfold R1 at h
 refine H9 [.tmp 3] Try.func84 O O (Jr fun c=>(JLm (BL false) O (G6 (c (Jr fun d=>(JLm (E1 s) O (JLh (I64 a) (Gm Gi O O O) O ?_)))))))
 obtain⟨b,e,h⟩:=Gg h
 refine JLh (BL b) (Gv O (H1a s a b e) Q53 ⟨O,O,O,O,ø⟩) O (JLm (BL b) O (G6 (d (H0 (fin1 BL h)))))

def Yg (s:List (List Int)) (f:(List Int)→Option Bool):Option Int:=
 each (fun b c (d:Unit) a=>
  bnd (f b) fun e=>
  bif e then
  (some (c:Int))
  else
  (a ()))
 (fun(d:Unit)=>
  some (-1)) s 0 ()
theorem H0c (s:List (List Int)) (f:(List Int)→Option Bool) (f_f:FuncId) (f_c:List AV) (f_B:Hr E8 f_f=true) (f_d:Yd (fun _=>false) f_c=true) (f_w:∀ a0 q,f a0=some q→Pure E8 f_f ([E1 a0]++f_c) (·=BL q)) (r:Int) (h:Yg s f=some r):Pure E8 83 [LS 1 (E1) s,.fn f_f f_c] (·=I64 r):=by
 unfold Yg at h
 refine H9 [.tmp 4] Try.func83 O O (Jr fun x=>(JLm (I64 0) O (G6 (x (Js fun z=>Jr fun a1=>(JLm (LS 1 (E1) s) O (JLl Gh O O O fun a2=>(JLm (I64 0) O (G6 (a1 (Gk ?_)))))))))))
 obtain⟨a3,i,j,g,h⟩:=J3 h
 refine Ha (fun a (c:Unit)=>each a3 i (List.drop a s) a c=some r) (fun a c=>[(0,LS 1 (E1) s),(1,.fn f_f f_c),(7,E7 s.length),(8,E7 a)]) (fun a c=>[]) (fun a=>s.length - a) 0 () h ⟨⟨.same O,.same (Z2 _ _ f_d),.same O,.same O,ø⟩,ø,O⟩ ?_
 clear h
 intro a c d a7 a4
 refine Jr fun k=>(JLh (BL (decide ((a:Int) < (s.length:Int)))) (J0 O O O) O (G6 (k (Js fun l=>Gj O (fun hb=>?_) (fun hb=>?_)))))
 ·
  have e:=Ji hb
  obtain⟨b,a6,m,n,h⟩:=Hv d e
  replace h:=Yq j h
  refine Gp (l (Js fun o=>Gk (Jr fun p=>(JLm (E7 a) O (JLm (E7 a) O (G6 (p (Jr fun t=>(JLm (.fn f_f f_c) O (JLm (LS 1 (E1) s) O (JLm (E7 a) O (JLh (.dptr [E1 b]) (H1 (f:=(E1)) (xs:=s) (y:=b) O O O Gh m O) O (JLh (E1 b) (Gm H3 O O O) O ?_)))))))))))))
  obtain⟨a5,u,h⟩:=Gg h
  refine JLh (BL a5) (Q42 (args:=[E1 b]) (caps:=f_c) O O (f_w b _ u) f_B ⟨O,O,ø⟩ f_d) O (G6 (t (JCc O h (fun h hb=>?_) (fun h hb=>?_))))
  ·
   refine Jr fun v=>(JLm (E7 a) O (JLm (E7 a) O (G6 (v (H0 (fin1 I64 h))))))
  ·
   refine Gp (o (G1 (JLh (I64 ((a+1:Nat):Int)) (Hz (Hn e a2) O O O) O (JLm (I64 ((a+1:Nat):Int)) O (G6 (a4 _ _ (a+1) () (app1 n h) (by omega) ⟨⟨.same rfl,.same (Z2 _ _ f_d),.same rfl,.same rfl,ø⟩,ø,rfl⟩))))))
 ·
  have h:=app1 g (Hw d (Hd hb))
  refine Hf (z (Jr fun w=>(JLm (I64 (-1)) O (G6 (w (H0 (fin1 I64 h)))))))

def Zh (j:Gf):Option (Int×Bool):=
 Qu j.order j.next fun a=>
 bnd (Yg j.stacks (fun z0=>R1 z0 a)) fun b=>
 bnd (Z3 j b) fun c=>
 some (b,decide (c=a))
theorem H3d (j:Gf) (r:Int×Bool) (h:Zh j=some r):Pure E8 59 [.dptr (Gf.cs j)] (·=.tup [I64 r.1,BL r.2]):=by
 unfold Zh at h
 refine H9 [.tmp 2,.tmp 3] Try.func59 O O (Jr fun g=>(JLm (I64 0) O (JLm (BL false) O (G6 (g (Js fun i=>?_))))))
 obtain⟨o,a,d,e,h⟩:=Qq h
 refine Jh [10,11] (.replicate 12 0) [1,1,1,1,1,1,1,1,1,1,0,0] [[],((1073,.box 3 [.junk])::[]),((1073,.box 3 [I64 a])::((1073,.box 3 [.junk])::[]))] Jc (by kernel_rfl) rfl rfl ?_
 refine Gd (u:=E5 j) O O ⟨Gb (G2 O O) O,Gb (G2 O O) O,ø⟩ (Gd (u:=E5 j) O O ⟨Gb (G26 O O) O,Gb (G26 O O) O,ø⟩ (Gd (u:=.dptr ((Gf.cs j).drop 2)) O O ⟨Gb (Gy G02 O O O) O,Gb (Gy G02 O O O) O,ø⟩ (Gd (u:=E1 j.order) O O ⟨Gb (Gm H3 O O O) O,Gb (Gm H3 O O O) O,ø⟩ (Gd (u:=E5 j) O O ⟨Gb (G2 O O) O,Gb (G2 O O) O,ø⟩ (Gd (u:=E5 j) O O ⟨Gb (G26 O O) O,Gb (G26 O O) O,ø⟩ (Gd (u:=.dptr [I64 j.next]) O O ⟨Gb (Gy Yb O O O) O,Gb (Gy Yb O O O) O,ø⟩ (Gd (u:=I64 j.next) O O ⟨Gb (Gm Gi O O O) O,Gb (Gm Gi O O O) O,ø⟩ (Gd (u:=.dptr [I64 a]) O O ⟨Gb (H1 (f:=I64) (xs:=j.order) (y:=a) O O O G7 e d) O,Gb (H1 (f:=I64) (xs:=j.order) (y:=a) O O O G7 e d) O,ø⟩ (Gd (u:=I64 a) O O ⟨Gb (Gm Gi O O O) O,Gb (Gm Gi O O O) O,ø⟩ (D_w (u:=.ptr 1073 0) O O O O (Gb (Ja 1073 1 Jg O O) O) (H1d (u:=.junk) O O O O (Gb (Ht (u:=I64 a) (ds:=[I64 a]) G96 O O O O O O O O) O) (Rc ?_))))))))))))
 refine i (H4 [(0,E5 j),(4,.dptr [I64 a])] [] 1073 rfl rfl rfl ø rfl (by exact⟨.conv (.same rfl),.ptr,ø⟩) (Jr fun k=>(JLm (E5 j) O (JLh (E5 j) (G26 O O) O (JLh (E5 j) (Gy Qe O O O) O (JLh (LS 1 (E1) j.stacks) (Gm Gr O O O) O (JLh (.fn 84 [.dptr [I64 a]]) (H40 (cs:=[.dptr [I64 a]]) O O) O ?_)))))))
 obtain⟨b,l,h⟩:=Gg h
 refine JLh (I64 b) (Gv O (H0c j.stacks (fun z0=>R1 z0 a) 84 [.dptr [I64 a]] Q54 O (fun z0 q hq=>H0d z0 a q hq) b l) Q55 ⟨O,O,O,O,ø⟩) O (JLm (I64 b) O (G6 (k (Js fun m=>?_))))
 obtain⟨c,n,h⟩:=Gg h
 refine JC_d0 Jc (by kernel_rfl) (Dq (I64 b) (G2 O O) O (Dq (E5 j) (G2 O O) O (Dq (I64 b) (G2 O O) O (Dq (I64 c) (Gv (args:=[.dptr (Gf.cs j),I64 b]) O (Gbb j b c n) J42 ⟨O,O,O,O,ø⟩) O (Dq (I64 a) (Gm Gi O O O) O (Dq (BL (decide (c=a))) (Qm O O O) O (Dq (I64 b) (G4 O O) O (Dq (BL (decide (c=a))) (G4 O O) O (Dnil (m (H0 (⟨[I64 b,BL (decide (c=a))],[],ø,O,⟨⟨_,O,.conv (.same O)⟩,⟨_,O,.conv (.same O)⟩,ø⟩,O,congrArg (fun r:Int×Bool=>(.tup [I64 r.1,BL r.2]:AV)) (K0 h)⟩))))))))))))

def G23 (y:Gs) (order:List Int) (l:List G8):Option (Int×Int):=
 bnd (Jp y order) fun g=>
 bif (!g.2) then
 (some (0,2))
 else
 (bif decide (2000 < (l.length:Int)) then
  (some (0,5))
  else
  (each (fun d h (a:Int×Gf) f=>
    jp (fun b=>
     bnd (Yh a.2 d) fun c=>
     bif (!c.1) then
     (some ((h:Int),350))
     else
     (bif decide (0≤d.To) then
      (chk (a.1+1) fun i=>
       b (i,c.2))
      else
      (b (a.1,c.2)))) fun(e:Int×Gf)=>
    f (e.1,e.2))
   (fun(a:Int×Gf)=>
    bif decide (a.2.next < (order.length:Int)) then
    (some ((l.length:Int),351))
    else
    (some (a.1,0))) l 0 (0,g.1)))
abbrev Eg (a:Int×Gf):List AV:=[.vec 1115 a.2.stacks.length 1 a.2.stacks.length,I64 a.2.height,E1 a.2.order,.mp 1114,.vec 1116 a.2.steps.length 3 a.2.steps.length,I64 a.2.next]
theorem Hb6 (y:Gs) (order:List Int) (l:List G8) (r:Int×Int) (h:G23 y order l=some r):Pure E8 30 [.agg [LS 1 (E1) y.Stacks,I64 y.Height],E1 order,E3 l] (·=.tup [I64 r.1,I64 r.2]):=by
 unfold G23 at h
 refine H9 [.tmp 6,.tmp 7] Try.func30 O O (Jr fun b3=>(JLh (.ptr 1045 0) (Qj (cs:=[LS 1 (E1) y.Stacks,I64 y.Height]) 1045 O O O O O) O (JLm (I64 0) O (JLm (I64 0) O (G6 (b3 (H4 [(1,E1 order),(2,E3 l),(3,.dptr [LS 1 (E1) y.Stacks,I64 y.Height])] [] 1045 rfl rfl rfl ø rfl (by exact⟨.conv (.same rfl),.conv (.same rfl),.ptr,ø⟩) (Jr fun b4=>(JLh (.agg [LS 1 (E1) y.Stacks,I64 y.Height]) (Gu He O O O) O (JLm (E1 order) O ?_))))))))))
 obtain⟨i,b5,h⟩:=Gg h
 refine JLh (.tup [.ptr 1113 0,BL i.2]) (Gd0 (args:=[.agg [LS 1 (E1) y.Stacks,I64 y.Height],E1 order]) (L0:=[]) (Lr:=[(1113,.box 105 [.vec 1115 i.1.stacks.length 1 i.1.stacks.length,I64 i.1.height,E1 i.1.order,.mp 1114,.vec 1116 i.1.steps.length 3 i.1.steps.length,I64 i.1.next]),(1114,TP 103 Ei I64 i.1.ranks),(1115,.vec 25 1 i.1.stacks.length (i.1.stacks.map (E1))),(1116,.vec 109 3 i.1.steps.length (i.1.steps.map G8.av))]) O (G6b y order i b5) H27 ⟨.inl O,O,.inl O,O,ø⟩ ø O O O) O (JLm (.tup [.ptr 1113 0,BL i.2]) O (JLh (.ptr 1113 0) (Gq O O O) O (JLh (BL i.2) (Gq O O O) O (JLm (.ptr 1113 0) O (JLm (BL i.2) O (G6 (b4 (Js fun b6=>Gk ?_))))))))
 refine Jr fun b7=>(JLm (BL i.2) O (JLh (BL (!i.2)) (Yt (b:=i.2) O O) O (JLm (BL (!i.2)) O (G6 (b7 (JCc O h (fun h hb=>?_) (fun h hb=>?_)))))))
 ·
  refine Jr fun b8=>(JLm (I64 0) O (JLm (I64 2) O (G6 (b8 (H0 (⟨[I64 0,I64 2],[],ø,O,⟨⟨_,O,.conv (.same O)⟩,⟨_,O,.conv (.same O)⟩,ø⟩,O,congrArg (fun r:Int×Int=>(.tup [I64 r.1,I64 r.2]:AV)) (K0 h)⟩))))))
 ·
  refine Jr fun b9=>(JLm (E3 l) O (JLl G41 O O O fun c4=>(JLh (BL (decide (2000 < (l.length:Int)))) (Z7 O O O) O (JLm (BL (decide (2000 < (l.length:Int)))) O (G6 (b9 (JCc O h (fun h hb=>?_) (fun h hb=>?_))))))))
  ·
   refine Jr fun c0=>(JLm (I64 0) O (JLm (I64 5) O (G6 (c0 (H0 (⟨[I64 0,I64 5],[],ø,O,⟨⟨_,O,.conv (.same O)⟩,⟨_,O,.conv (.same O)⟩,ø⟩,O,congrArg (fun r:Int×Int=>(.tup [I64 r.1,I64 r.2]:AV)) (K0 h)⟩))))))
  ·
   refine Gp (b6 (Jr fun c1=>(JLm (I64 0) O (G6 (c1 (Js fun p=>Jr fun q=>(JLm (E3 l) O (JLl G41 O O O fun s=>(JLm (I64 0) O (G6 (q (Gk ?_))))))))))))
   obtain⟨c2,t,v,n,h⟩:=J3 h
   refine Ha (fun d (a:Int×Gf)=>each c2 t (List.drop d l) d a=some r) (fun d a=>[(1,E1 order),(2,E3 l),(8,.ptr 1113 0),(10,I64 a.1),(26,E3 l),(27,E7 l.length),(28,E7 d)]) (fun d a=>[(1113,.box 105 (Eg a)),(1114,TP 103 Ei I64 a.2.ranks),(1115,.vec 25 1 a.2.stacks.length (a.2.stacks.map (E1))),(1116,.vec 109 3 a.2.steps.length (a.2.steps.map G8.av))]) (fun d=>l.length - d) 0 (0,i.1) h ⟨(.sm O O),⟨fbQ O (.sm O O),fmQ O,⟨_,rfl,.vec⟩,⟨_,rfl,.vec⟩,ø⟩,rfl⟩ ?_
   clear h
   intro d a j c8 c3
   refine Jr fun w=>(JLh (BL (decide ((d:Int) < (l.length:Int)))) (J0 O O O) O (G6 (w (Js fun x=>Gj O (fun hb=>?_) (fun hb=>?_)))))
   ·
    have k:=Ji hb
    obtain⟨c,c5,z,a0,h⟩:=Hv j k
    replace h:=Yq v h
    refine Gp (x ?_)
    obtain⟨a1,o,h⟩:=G0a h
    refine Yy (fun e:Int×Gf=>a1 e=some r) (fun e=>[(1,E1 order),(2,E3 l),(8,.ptr 1113 0),(10,I64 e.1),(26,E3 l),(27,E7 l.length),(28,E7 d)]) (fun e=>[(1113,.box 105 [.vec 1115 e.2.stacks.length 1 e.2.stacks.length,I64 e.2.height,E1 e.2.order,.mp 1114,.vec 1116 e.2.steps.length 3 e.2.steps.length,I64 e.2.next]),(1114,TP 103 Ei I64 e.2.ranks),(1115,.vec 25 1 e.2.stacks.length (e.2.stacks.map (E1))),(1116,.vec 109 3 e.2.steps.length (e.2.steps.map G8.av))]) (fun Kj71 ej71=>?_) ?_
    ·
     refine Gk (Jr fun a2=>(JLm (E7 d) O (JLh (.dptr [I64 c.Box,I64 c.From,I64 c.To]) (H1 (f:=G8.av) (xs:=l) (y:=c) O O O G41 z O) O (JLh (.agg [I64 c.Box,I64 c.From,I64 c.To]) (Gu Ha5 O O O) O (JLh (.ptr 1046 0) (Ja 1046 3 Hc1 O O) O (JLm (E7 d) O (J9 (u:=.junk) (Ht (u:=.agg [I64 c.Box,I64 c.From,I64 c.To]) (ds:=[I64 c.Box,I64 c.From,I64 c.To]) Jf6 O O O O O O O O) (G6 (a2 ?_)))))))))
     refine fzQ [(1,E1 order),(2,E3 l),(8,.ptr 1113 0),(10,I64 a.1),(11,E7 d),(12,.dptr [I64 c.Box,I64 c.From,I64 c.To]),(26,E3 l),(27,E7 l.length),(28,E7 d)] [(1113,.box 105 (Eg a)),(1114,TP 103 Ei I64 a.2.ranks),(1115,.vec 25 1 a.2.stacks.length (a.2.stacks.map (E1))),(1116,.vec 109 3 a.2.steps.length (a.2.steps.map G8.av))] 1046 rfl rfl rfl ⟨⟨_,rfl,.boxEq rfl rfl⟩,fmQ O,⟨_,rfl,.vec⟩,⟨_,rfl,.vec⟩,ø⟩ rfl (Js fun a3=>?_)
     refine Jr fun a4=>(JLm (.ptr 1113 0) O (JLh (.agg [I64 c.Box,I64 c.From,I64 c.To]) (Gu Ha5 O O O) O ?_))
     obtain⟨g,a5,h⟩:=Gg h
     refine JLh (BL g.1) (Gd0 (args:=[.ptr 1113 0,.agg [I64 c.Box,I64 c.From,I64 c.To]]) (L0:=[(1113,.box 105 (Eg a)),(1114,TP 103 Ei I64 a.2.ranks),(1115,.vec 25 1 a.2.stacks.length (a.2.stacks.map (E1))),(1116,.vec 109 3 a.2.steps.length (a.2.steps.map G8.av))]) (Lr:=[(1113,.box 105 [.vec 1115 g.2.stacks.length 1 g.2.stacks.length,I64 g.2.height,E1 g.2.order,.mp 1114,.vec 1116 g.2.steps.length 3 g.2.steps.length,I64 g.2.next]),(1114,TP 103 Ei I64 g.2.ranks),(1115,.vec 25 1 g.2.stacks.length (g.2.stacks.map (E1))),(1116,.vec 109 3 g.2.steps.length (g.2.steps.map G8.av))]) O (Gc3 a.2 c g a5) J43 ⟨.inl O,O,.inl O,O,ø⟩ ⟨O,O,O,O,ø⟩ O O O) O (JLh (BL (!g.1)) (Yt (b:=g.1) O O) O (G6 (a4 ?_)))
     refine JCc O h ?_ ?_<;>intro h hb
     ·
      refine Jr fun a6=>(JLm (E7 d) O (JLm (E7 d) O (JLm (I64 350) O (G6 (a6 (H0 (⟨[E7 d,I64 350],[],ø,O,⟨⟨_,O,.conv (.same O)⟩,⟨_,O,.conv (.same O)⟩,ø⟩,O,congrArg (fun r:Int×Int=>(.tup [I64 r.1,I64 r.2]:AV)) (K0 h)⟩)))))))
     ·
      refine Gp (a3 (Jr fun a7=>(JLh (.dptr [I64 c.To]) (Gy H50 O O O) O (JLh (I64 c.To) (Gm Gi O O O) O (JLh (BL (decide (0≤c.To))) (G40 O O O) O (G6 (a7 (JCc O h (fun h hb=>?_) (fun h hb=>?_)))))))))
      ·
       refine G1 (JLm (I64 a.1) O ?_)
       obtain⟨m,a8,h⟩:=J8 h
       refine JLh (I64 m) (Hz a8 O O O) O (JLm (I64 m) O (G6 (ej71 _ _ (m,g.2) h ⟨(.sm O O),⟨fbQ O (.sm O O),fmQ O,⟨_,rfl,.vec⟩,⟨_,rfl,.vec⟩,ø⟩,rfl⟩)))
      ·
       refine Gp (ej71 _ _ (a.1,g.2) h ⟨(.sm O O),⟨fbQ O (.sm O O),fmQ O,⟨_,rfl,.vec⟩,⟨_,rfl,.vec⟩,ø⟩,rfl⟩)
    ·intro e h
     replace h:=app1 o h
     refine G1 (JLh (I64 ((d+1:Nat):Int)) (Hz (Hn k s) O O O) O (JLm (I64 ((d+1:Nat):Int)) O (G6 (c3 _ _ (d+1) (e.1,e.2) (app1 a0 h) (by omega) ⟨(.sm O O),⟨fbQ O (.sm O O),fmQ O,⟨_,rfl,.vec⟩,⟨_,rfl,.vec⟩,ø⟩,rfl⟩))))
   ·
    have h:=app1 n (Hw j (Hd hb))
    refine Hf (p (Js fun a9=>Jr fun b0=>(JLm (.ptr 1113 0) O (JLh (.ptr 1113 0) (Rh O O) O (JLh (.ptr 1113 5) (Hh Yb O O) O (JLh (I64 a.2.next) (Hk Gi O O O O) O (JLm (E1 order) O (JLl G7 O O O fun c6=>(JLh (BL (decide (a.2.next < (order.length:Int)))) (J0 O O O) O (G6 (b0 (JCc O h (fun h hb=>?_) (fun h hb=>?_)))))))))))))
    ·
     refine Jr fun b1=>(JLm (E3 l) O (JLl G41 O O O fun c7=>(JLm (E7 l.length) O (JLm (I64 351) O (G6 (b1 (H0 (⟨[E7 l.length,I64 351],[],ø,O,⟨⟨_,O,.conv (.same O)⟩,⟨_,O,.conv (.same O)⟩,ø⟩,O,congrArg (fun r:Int×Int=>(.tup [I64 r.1,I64 r.2]:AV)) (K0 h)⟩))))))))
    ·
     refine Gp (a9 (Jr fun b2=>(JLm (I64 a.1) O (JLm (I64 a.1) O (JLm (I64 0) O (G6 (b2 (H0 (⟨[I64 a.1,I64 0],[],ø,O,⟨⟨_,O,.conv (.same O)⟩,⟨_,O,.conv (.same O)⟩,ø⟩,O,congrArg (fun r:Int×Int=>(.tup [I64 r.1,I64 r.2]:AV)) (K0 h)⟩)))))))))

def G4f (F:Nat) (y:Gs) (order:List Int):Option ((List G8)×Int):=
 bnd (Jp y order) fun d=>
 bif (!d.2) then
 (some ([],2))
 else
 (loop (fun c (a:Gf)=>
   bif decide (a.next < (order.length:Int)) then
   (bnd (Zh a) fun b=>
    bif b.2 then
    (Qu order a.next fun e=>
     bnd (Yh a (G8.mk e b.1 (-1))) fun f=>
     c f.2)
    else
    (none))
   else
   (some (a.steps,0))) F d.1)
abbrev Eh (a:Gf):List AV:=[.vec 1115 a.stacks.length 1 a.stacks.length,I64 a.height,E1 a.order,.mp 1114,.vec 1116 a.steps.length 3 a.steps.length,I64 a.next]
theorem J05 (F:Nat) (y:Gs) (order:List Int) (r:(List G8)×Int) (h:G4f F y order=some r):Pure E8 29 [.agg [LS 1 (E1) y.Stacks,I64 y.Height],E1 order] (·=.tup [E3 r.1,I64 r.2]):=by
 unfold G4f at h
 refine H9 [.tmp 4,.tmp 5] Try.func29 O O (Jr fun z=>(JLh (.ptr 1044 0) (Qj (cs:=[LS 1 (E1) y.Stacks,I64 y.Height]) 1044 O O O O O) O (JLh (E3 ([]:List G8)) (Jn 3 O O) O (JLm (I64 0) O (G6 (z (H4 [(1,E1 order),(2,.dptr [LS 1 (E1) y.Stacks,I64 y.Height])] [] 1044 rfl rfl rfl ø rfl (by exact⟨.conv (.same rfl),.ptr,ø⟩) (Jr fun a0=>(JLh (.agg [LS 1 (E1) y.Stacks,I64 y.Height]) (Gu He O O O) O (JLm (E1 order) O ?_))))))))))
 obtain⟨e,a1,h⟩:=Gg h
 refine JLh (.tup [.ptr 1113 0,BL e.2]) (Gd0 (args:=[.agg [LS 1 (E1) y.Stacks,I64 y.Height],E1 order]) (L0:=[]) (Lr:=[(1113,.box 105 [.vec 1115 e.1.stacks.length 1 e.1.stacks.length,I64 e.1.height,E1 e.1.order,.mp 1114,.vec 1116 e.1.steps.length 3 e.1.steps.length,I64 e.1.next]),(1114,TP 103 Ei I64 e.1.ranks),(1115,.vec 25 1 e.1.stacks.length (e.1.stacks.map (E1))),(1116,.vec 109 3 e.1.steps.length (e.1.steps.map G8.av))]) O (G6b y order e a1) H27 ⟨.inl O,O,.inl O,O,ø⟩ ø O O O) O (JLm (.tup [.ptr 1113 0,BL e.2]) O (JLh (.ptr 1113 0) (Gq O O O) O (JLh (BL e.2) (Gq O O O) O (JLm (.ptr 1113 0) O (JLm (BL e.2) O (G6 (a0 (Js fun a2=>?_))))))))
 refine Jr fun a3=>(JLm (BL e.2) O (JLh (BL (!e.2)) (Yt (b:=e.2) O O) O (G6 (a3 (JCc O h (fun h hb=>?_) (fun h hb=>?_))))))
 ·
  refine Jr fun a4=>(JLh (E3 ([]:List G8)) (Jn 3 O O) O (JLm (I64 2) O (G6 (a4 (H0 (⟨[E3 ([]:List G8),I64 2],[],ø,O,⟨⟨_,O,.conv (.same O)⟩,⟨_,O,.conv (.same O)⟩,ø⟩,O,congrArg (fun r:(List G8)×Int=>(.tup [E3 r.1,I64 r.2]:AV)) (K0 h)⟩))))))
 ·
  refine Gp (a2 (Js fun a5=>Gk ?_))
  obtain⟨a6,j,h⟩:=G2a h
  refine Ha (fun i (a:Gf)=>loop a6 i a=some r) (fun i a=>[(1,E1 order),(6,.ptr 1113 0)]) (fun i a=>[(1113,.box 105 (Eh a)),(1114,TP 103 Ei I64 a.ranks),(1115,.vec 25 1 a.stacks.length (a.stacks.map (E1))),(1116,.vec 109 3 a.steps.length (a.steps.map G8.av))]) (fun i=>i) F e.1 h ⟨(.sm O O),⟨fbQ O (.sm O O),fmQ O,⟨_,rfl,.vec⟩,⟨_,rfl,.vec⟩,ø⟩,rfl⟩ ?_
  clear h
  intro i a k b2 a7
  obtain⟨a8,a9,hm_42,l,h⟩:=G03 k
  replace h:=Hb5 j h
  refine Js fun m=>Jr fun n=>(JLm (.ptr 1113 0) O (JLh (.ptr 1113 0) (Rh O O) O (JLh (.ptr 1113 5) (Hh Yb O O) O (JLh (I64 a.next) (Hk Gi O O O O) O (JLm (E1 order) O (JLl G7 O O O fun b0=>(JLh (BL (decide (a.next < (order.length:Int)))) (J0 O O O) O (G6 (n (JCc O h (fun h hb=>?_) (fun h hb=>?_)))))))))))
  ·
   refine Gp (m (Gk (Jr fun o=>(JLm (.ptr 1113 0) O ?_))))
   obtain⟨c,p,h⟩:=Gg h
   refine JLh (.tup [I64 c.1,BL c.2]) (H6e (args:=[.dptr (Gf.cs a)]) O (H3d a c p) Q5d ⟨.ptrL O ⟨.vec O,.data O O,.data O O,.mp O,.vec O,.data O O,ø⟩,ø⟩ O) O (JLm (.tup [I64 c.1,BL c.2]) O (JLh (I64 c.1) (Gq O O O) O (JLh (BL c.2) (Gq O O O) O (JLm (I64 c.1) O (JLm (BL c.2) O (G6 (o (Js fun q=>Jr fun s=>(JLm (BL c.2) O (G6 (s (JCc O h (fun h hb=>?_) (fun h hb=>?_)))))))))))))
   ·
    refine Jr fun t=>(JLm (.ptr 1113 0) O (JLm (E1 order) O (JLm (.ptr 1113 0) O (JLh (.ptr 1113 0) (Rh O O) O (JLh (.ptr 1113 5) (Hh Yb O O) O (JLh (I64 a.next) (Hk Gi O O O O) O ?_))))))
    obtain⟨b3,g,u,v,h⟩:=Qq h
    refine JLh (.dptr [I64 g]) (H1 (f:=I64) (xs:=order) (y:=g) O O O G7 v u) O (JLh (I64 g) (Gm Gi O O O) O (JLm (I64 c.1) O (JLh (.agg [I64 g,I64 c.1,I64 (-1)]) (Jt (cs:=[I64 g,I64 c.1,I64 (-1)]) [(0,1),(1,1),(2,1)] [I64 0,I64 0,I64 0] [E0,E0,E0] J8b Jf4 (zzQ O) O O) O ?_)))
    obtain⟨d,w,h⟩:=Gg h
    refine JLh (BL d.1) (Gd0 (args:=[.ptr 1113 0,.agg [I64 g,I64 c.1,I64 (-1)]]) (L0:=[(1113,.box 105 (Eh a)),(1114,TP 103 Ei I64 a.ranks),(1115,.vec 25 1 a.stacks.length (a.stacks.map (E1))),(1116,.vec 109 3 a.steps.length (a.steps.map G8.av))]) (Lr:=[(1113,.box 105 [.vec 1115 d.2.stacks.length 1 d.2.stacks.length,I64 d.2.height,E1 d.2.order,.mp 1114,.vec 1116 d.2.steps.length 3 d.2.steps.length,I64 d.2.next]),(1114,TP 103 Ei I64 d.2.ranks),(1115,.vec 25 1 d.2.stacks.length (d.2.stacks.map (E1))),(1116,.vec 109 3 d.2.steps.length (d.2.steps.map G8.av))]) O (Gc3 a (G8.mk g c.1 (-1)) d w) J43 ⟨.inl O,O,.inl O,O,ø⟩ ⟨O,O,O,O,ø⟩ O O O) O (G6 (t ?_))
    refine Hf (a7 _ _ a8 d.2 (app1 l h) (by omega) ⟨(.sm O O),⟨fbQ O (.sm O O),fmQ O,⟨_,rfl,.vec⟩,⟨_,rfl,.vec⟩,ø⟩,rfl⟩)
   ·
    refine Gp (q (Js fun b1=>?_))
    cases h
  ·
   refine Hf (a5 (Jr fun x=>(JLm (.ptr 1113 0) O (JLh (.ptr 1113 0) (Rh O O) O (JLh (.ptr 1113 4) (Hh Gd9 O O) O (JLh (.vec 1116 a.steps.length 3 a.steps.length) (Hk Hc3 O O O O) O (JLm (.vec 1116 a.steps.length 3 a.steps.length) O (JLm (I64 0) O (G6 (x (Ge8 [(4,E3 a.steps),(5,I64 0)] [(1115,.vec 25 1 a.stacks.length (a.stacks.map (E1)))] 1116 rfl rfl ⟨⟨_,rfl,.vec⟩,ø⟩ rfl (by exact⟨.vec,.conv (.same rfl),ø⟩) (H0 (⟨[E3 a.steps,I64 0],[],ø,O,⟨⟨_,O,.conv (.same O)⟩,⟨_,O,.conv (.same O)⟩,ø⟩,O,congrArg (fun r:(List G8)×Int=>(.tup [E3 r.1,I64 r.2]:AV)) (K0 h)⟩)))))))))))))

def Ry (F:Nat) (stacks:Int) (height:Int) (l:List Int) (o:List Int):Option Bool:=
 bnd (Qh F) fun g=>
 bif (!g) then
 (some false)
 else
 (bnd (Qr stacks height l) fun f=>
  bnd (Q7 F f o 20) fun d=>
  bnd (Jx F f d) fun a=>
  bif decide (a.2≠0) then
  (some (decide (a.2=360)))
  else
  (bnd (G4a f a.1) fun b=>
   bnd (G4f F b.1 d) fun c=>
   bnd (G23 b.1 d c.1) fun e=>
   some (((((decide (b.2.2=0))&&(decide (c.2=0)))&&(decide (e.2=0)))&&(decide (e.1=0)))&&(decide ((c.1.length:Int)=(d.length:Int))))))
theorem G92 (F:Nat) (stacks:Int) (height:Int) (l:List Int) (o:List Int) (r:Bool) (h:Ry F stacks height l o=some r):Pure E8 9 [U8 stacks,U8 height,E4 l,E4 o] (·=BL r):=by
 unfold Ry at h
 refine H9 [.tmp 8] Try.func9 O O (Jr fun a0=>(JLm (BL false) O (G6 (a0 (Js fun a1=>Jr fun a2=>?_)))))
 obtain⟨j,a3,h⟩:=Gg h
 refine JLh (BL j) (Gv O (G60 F j a3) J49 ø) O (JLh (BL (!j)) (Yt (b:=j) O O) O (G6 (a2 (JCc O h (fun h hb=>?_) (fun h hb=>?_)))))
 ·
  refine Jr fun a4=>(JLm (BL false) O (G6 (a4 (H0 (fin1 BL h)))))
 ·
  refine Gp (a1 (Jr fun a5=>(JLm (U8 stacks) O (JLm (U8 height) O (JLm (E4 l) O ?_)))))
  obtain⟨g,a6,h⟩:=Gg h
  refine JLh (.agg [LS 1 (E1) g.Stacks,I64 g.Height]) (Gv O (G76.down stacks height l g a6) J48 ⟨O,O,O,O,O,O,ø⟩) O (JLh (.ptr 1003 0) (Ja 1003 2 Zf O O) O (J9 (u:=.junk) (Ht (u:=.agg [LS 1 (E1) g.Stacks,I64 g.Height]) (ds:=[LS 1 (E1) g.Stacks,I64 g.Height]) Z1 O O O O O O O O) (G6 (a5 (H4 [(3,E4 o),(9,.dptr [LS 1 (E1) g.Stacks,I64 g.Height])] [] 1003 rfl rfl rfl ø rfl (by exact⟨.conv (.same rfl),.ptr,ø⟩) (Jr fun a7=>(JLh (.agg [LS 1 (E1) g.Stacks,I64 g.Height]) (Gu He O O O) O (JLm (E4 o) O ?_))))))))
  obtain⟨i,a8,h⟩:=Gg h
  refine JLh (E1 i) (Gv O (G4c F g o 20 i a8) J47 ⟨O,O,O,O,O,O,ø⟩) O (JLm (E1 i) O (G6 (a7 (Jr fun k=>(JLh (.agg [LS 1 (E1) g.Stacks,I64 g.Height]) (Gu He O O O) O (JLm (E1 i) O ?_))))))
  obtain⟨e,m,h⟩:=Gg h
  refine JLh (.tup [E2 e.1,I64 e.2]) (Gv O (Rw F g i e m) G68 ⟨O,O,O,O,ø⟩) O (JLm (.tup [E2 e.1,I64 e.2]) O (JLh (E2 e.1) (Gq O O O) O (JLh (I64 e.2) (Gq O O O) O (JLm (E2 e.1) O (JLm (I64 e.2) O (G6 (k (Js fun n=>Jr fun p=>(JLm (I64 e.2) O (JLh (BL (decide (e.2≠0))) (Yj O O O) O (G6 (p (JCc O h (fun h hb=>?_) (fun h hb=>?_))))))))))))))
  ·
   refine Jr fun q=>(JLm (I64 e.2) O (JLh (BL (decide (e.2=360))) (Qm O O O) O (JLm (BL (decide (e.2=360))) O (G6 (q (H0 (fin1 BL h)))))))
  ·
   refine Gp (n (Jr fun s=>(JLh (.agg [LS 1 (E1) g.Stacks,I64 g.Height]) (Gu He O O O) O (JLm (E2 e.1) O ?_))))
   obtain⟨a,t,h⟩:=Gg h
   refine JLh (.tup [.agg [LS 1 (E1) a.1.Stacks,I64 a.1.Height],I64 a.2.1,I64 a.2.2]) (Gv O (H05.down g e.1 a t) Ha2 ⟨O,O,O,O,ø⟩) O (JLm (.tup [.agg [LS 1 (E1) a.1.Stacks,I64 a.1.Height],I64 a.2.1,I64 a.2.2]) O (JLh (.agg [LS 1 (E1) a.1.Stacks,I64 a.1.Height]) (Gq O O O) O (JLh (I64 a.2.1) (Gq O O O) O (JLh (I64 a.2.2) (Gq O O O) O (JLh (.ptr 1004 0) (Ja 1004 2 Zf O O) O (J9 (u:=.junk) (Ht (u:=.agg [LS 1 (E1) a.1.Stacks,I64 a.1.Height]) (ds:=[LS 1 (E1) a.1.Stacks,I64 a.1.Height]) Z1 O O O O O O O O) (JLm (I64 a.2.1) O (JLm (I64 a.2.2) O (G6 (s ?_))))))))))
   refine H4 [(10,E1 i),(12,I64 a.2.2),(13,.dptr [LS 1 (E1) a.1.Stacks,I64 a.1.Height])] [] 1004 rfl rfl rfl ø rfl (by exact⟨.conv (.same rfl),.conv (.same rfl),.ptr,ø⟩) (Jr fun v=>(JLh (.agg [LS 1 (E1) a.1.Stacks,I64 a.1.Height]) (Gu He O O O) O (JLm (E1 i) O ?_)))
   obtain⟨c,w,h⟩:=Gg h
   refine JLh (.tup [E3 c.1,I64 c.2]) (Gv O (J05 F a.1 i c w) Q6c ⟨O,O,O,O,ø⟩) O (JLm (.tup [E3 c.1,I64 c.2]) O (JLh (E3 c.1) (Gq O O O) O (JLh (I64 c.2) (Gq O O O) O (JLm (E3 c.1) O (JLm (I64 c.2) O (G6 (v (Jr fun x=>(JLh (.agg [LS 1 (E1) a.1.Stacks,I64 a.1.Height]) (Gu He O O O) O (JLm (E1 i) O (JLm (E3 c.1) O ?_)))))))))))
   obtain⟨d,y,h⟩:=Gg h
   refine JLh (.tup [I64 d.1,I64 d.2]) (Gv O (Hb6 a.1 i c.1 d y) Q6b ⟨O,O,O,O,O,O,ø⟩) O (JLm (.tup [I64 d.1,I64 d.2]) O (JLh (I64 d.1) (Gq O O O) O (JLh (I64 d.2) (Gq O O O) O (JLm (I64 d.1) O (JLm (I64 d.2) O (G6 (x ?_)))))))
   refine Jr fun z=>(JLm (I64 a.2.2) O (JLh (BL (decide (a.2.2=0))) (Qm O O O) O (JLm (BL (decide (a.2.2=0))) O (JLo (I64 c.2) [] O .sct ø (fun hc=>G2 O O) O (JLo (BL (decide (c.2=0))) [61] O .sct ⟨Ua,ø⟩ (fun hc=>Qm O O O) O (JLh (BL ((decide (a.2.2=0))&&(decide (c.2=0)))) (R9 O O O O) O (JLm (BL ((decide (a.2.2=0))&&(decide (c.2=0)))) O (JLo (I64 d.2) [] O .sct ø (fun hc=>G2 O O) O (JLo (BL (decide (d.2=0))) [65] O .sct ⟨Ua,ø⟩ (fun hc=>Qm O O O) O (JLh (BL (((decide (a.2.2=0))&&(decide (c.2=0)))&&(decide (d.2=0)))) (R9 O O O O) O (JLm (BL (((decide (a.2.2=0))&&(decide (c.2=0)))&&(decide (d.2=0)))) O (JLo (I64 d.1) [] O .sct ø (fun hc=>G2 O O) O (JLo (BL (decide (d.1=0))) [69] O .sct ⟨Ua,ø⟩ (fun hc=>Qm O O O) O ?_)))))))))))))
   refine JLh (BL ((((decide (a.2.2=0))&&(decide (c.2=0)))&&(decide (d.2=0)))&&(decide (d.1=0)))) (R9 O O O O) O (JLm (BL ((((decide (a.2.2=0))&&(decide (c.2=0)))&&(decide (d.2=0)))&&(decide (d.1=0)))) O (JLo (E3 c.1) [] O .sct ø (fun hc=>G2 O O) O (JLo (E7 c.1.length) [73] O .sct ⟨Ua,ø⟩ (fun hc=>Jq (f:=G8.av) (xs:=c.1) G41 O O) O (JLo (E1 i) [] O .sct ø (fun hc=>G2 O O) O (JLo (E7 i.length) [75] O .sct ⟨Ua,ø⟩ (fun hc=>Jq (f:=I64) (xs:=i) G7 O O) O (JLo (BL (decide ((c.1.length:Int)=(i.length:Int)))) [74,76] O .sct ⟨Ua,Ua,ø⟩ (fun hc=>Qm O O O) O (JLh (BL (((((decide (a.2.2=0))&&(decide (c.2=0)))&&(decide (d.2=0)))&&(decide (d.1=0)))&&(decide ((c.1.length:Int)=(i.length:Int))))) (R9 O O O O) O (JLm (BL (((((decide (a.2.2=0))&&(decide (c.2=0)))&&(decide (d.2=0)))&&(decide (d.1=0)))&&(decide ((c.1.length:Int)=(i.length:Int))))) O (G6 (z ?_))))))))))
   refine H0 (fin1 BL h)
end
end Go.Proofs.Ytokjlondbjdlfaa
