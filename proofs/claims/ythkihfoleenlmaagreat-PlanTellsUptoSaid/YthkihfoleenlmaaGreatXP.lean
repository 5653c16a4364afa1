/- Walks of functions. -/
import Derived.Test.YthkihfoleenlmaaGreatFrz
import Derived.Test.YthkihfoleenlmaaGreatFrz
import Derived.Test.YthkihfoleenlmaaGreatXPc
set_option maxRecDepth 100000
set_option maxHeartbeats 1000000
set_option linter.unusedVariables false
set_option linter.unusedSimpArgs false
namespace Go.Proofs.YthkihfoleenlmaaGreat
open Go.RowKit
noncomputable section
open XAF
open XLF
open XPF


abbrev Mx (bf:List G2) (af:List G2) (s:Gq):List AV:=[.ptr 1079 0,.ptr 1080 0,.dptr [LS 1 (E1) [bf,af]],Ed s,.ptr 1081 0]
abbrev My:Nat×Jn:=(1077,.vec 3 1 (([]:List Int).length) (([]:List Int).map I64))
abbrev Mz:Nat×Jn:=(1079,.box 202 [.mp 1085])
abbrev N0 (a:(J8 Int Unit)×(List Int)):Nat×Jn:=(1080,.box 51 [.vec 1086 a.2.length 1 a.2.length])
abbrev N1 (bf:List G2) (af:List G2) (s:Gq):Nat×Jn:=(1081,.box 203 [.fn 118 (Mx bf af s)])
abbrev N2 (a:(J8 Int Unit)×(List Int)):Nat×Jn:=(1086,.vec 3 1 a.2.length (a.2.map I64))
theorem YL (F:Nat) (s:Gq) (bf:List G2) (af:List G2) (r:(List Int)) (h:Zm F s bf af=some r):Rb Ek 52 [.agg (Gq.cs s),E1 bf,E1 af] [] (fun av L'=>∃ p:Nat,av=.vec 1086 p 1 r.length/\L'=[(1086,.vec 3 1 p (r.map I64))]):=by
 unfold Zm at h
 refine fL [] [.tmp 6] Tryz.func52 G G (G88 G) (Jr fun c4=>(JLh (.ptr 1076 0) (Jy (cs:=(Gq.cs s)) 1076 G G G G G) G (JLh (.vec 1077 (([]:List Int).length) 1 (([]:List Int).length)) (Ha2 1077 3 1 G G G) G (G5 (c4 (Gw [(1,E1 bf),(2,E1 af),(3,Ed s)] [My] 1076 rfl rfl rfl ⟨⟨_,rfl,.vec⟩,U⟩ rfl (by exact⟨.conv (.same rfl),.conv (.same rfl),.ptr,U⟩) ?_))))))
 refine Jr fun c5=>(JLm (E1 bf) G (JLm (E1 af) G (JLh (LS 1 (E1) [bf,af]) (Hf (xs:=[E1 bf,E1 af]) G ⟨G,G,G,G,U⟩ Hn gN G G G G) G (JLh (.ptr 1078 0) (Jp 1078 1 JX G G) G (J7 (u:=.junk) (Hv (u:=LS 1 (E1) [bf,af]) (ds:=[LS 1 (E1) [bf,af]]) yM G G G G G G G G) (G5 (c5 (fzQ [(1,E1 bf),(2,E1 af),(3,Ed s),(7,.dptr [LS 1 (E1) [bf,af]])] [My] 1078 rfl rfl rfl ⟨⟨_,rfl,.vec⟩,U⟩ rfl ?_))))))))
 refine Jr fun c6=>(JLh (.mp 1085) (zS 1085 Nx (fun _:Unit=>.agg []) G G) G (JLh (.ptr 1079 0) (Jp 1079 1 zW G G) G (J7 (u:=.junk) (Hv (u:=.mp 1085) (ds:=[.mp 1085]) QH G G G G G G G G) (G5 (c6 (Jr fun c7=>(JLh (.ptr 1080 0) (Rn 1080 [.sc (.slice none 0 0)] [.slice none 0 0] YZ ⟨.inl G,U⟩ G G) G (G39 1080 0 1086 3 1 G G G (cs':=[.vec 1086 (([]:List Int).length) 1 (([]:List Int).length)]) G (G5 (c7 (Jr fun c8=>(JLh (.ptr 1081 0) (Jp 1081 1 zV G G) G (G5 (c8 ?_))))))))))))))
 refine Jr fun c9=>(JLh (.fn 118 (Mx bf af s)) (eS (cs:=(Mx bf af s)) G G) G (J7 (u:=.junk) (Hv (u:=.fn 118 (Mx bf af s)) (ds:=[.fn 118 (Mx bf af s)]) QG G G G G G G G G) (G5 (c9 (Js fun d0=>Jr fun d1=>(JLh (LS 1 (E1) [bf,af]) (Ge Qe G G G) G (JLl Hn G G G fun x=>(JLm (I64 0) G (G5 (d1 (Gf ?_)))))))))))
 obtain⟨b9,d2,d3,z,h⟩:=Hy h
 refine H8 (fun j (g:(J8 Int Unit)×(List Int))=>each b9 d2 (List.drop j [bf,af]) j g=some r) (fun j g=>[(1,E1 bf),(2,E1 af),(9,.ptr 1080 0),(10,.ptr 1081 0),(24,LS 1 (E1) [bf,af]),(25,I64 ([bf,af].length:Int)),(26,Ej j)]) (fun j g=>[My,(1085,MP 202 Nx (fun _:Unit=>.agg []) g.1),(N2 g),Mz,(N0 g),(N1 bf af s)]) (fun j=>[bf,af].length - j) 0 ((J8.empty:J8 Int Unit),[]) h ⟨(.sm G G),⟨⟨_,rfl,.vec⟩,fmQ G,⟨_,rfl,.vec⟩,fbQ G ⟨.same rfl,U⟩,fbQ G ⟨.same rfl,U⟩,fbQ G ⟨.same rfl,U⟩,U⟩,rfl⟩ ?_
 clear h
 intro j g t K9 e9
 refine Jr fun a0=>(JLh (BL (decide ((j:Int) < ([bf,af].length:Int)))) (Hr G G G) G (G5 (a0 (Js fun a1=>Gg G (fun hb=>?_) (fun hb=>?_)))))
 ·
  have v:=Je hb
  obtain⟨i,e1,d4,d5,h⟩:=Hh t v
  replace h:=Rx d3 h
  refine Gn (a1 (Js fun a2=>Gf (Jr fun a3=>(JLh (.dptr [E1 i]) (Gr (f:=(E1)) (xs:=[bf,af]) (y:=i) G G G Hn d4 G) G (JLh (E1 i) (Ge Q6 G G G) G (JLm (E1 i) G (G5 (a3 (Jr fun a4=>(JLm (E1 i) G (JLl H5 G G G fun a5=>(JLm (I64 0) G (G5 (a4 (Gf ?_)))))))))))))))
  obtain⟨d6,a6,a7,o,h⟩:=Hy h
  refine H8 (fun e (b:(J8 Int Unit)×(List Int))=>each d6 a6 (List.drop e i) e b=some r) (fun e b=>[(1,E1 bf),(2,E1 af),(9,.ptr 1080 0),(10,.ptr 1081 0),(24,LS 1 (E1) [bf,af]),(25,I64 ([bf,af].length:Int)),(26,Ej j),(30,E1 i),(31,Ej i.length),(32,Ej e)]) (fun e b=>[My,(1085,MP 202 Nx (fun _:Unit=>.agg []) b.1),(N2 b),Mz,(N0 b),(N1 bf af s)]) (fun e=>i.length - e) 0 (g.1,g.2) h ⟨(.sm G G),⟨⟨_,rfl,.vec⟩,fmQ G,⟨_,rfl,.vec⟩,fbQ G ⟨.same rfl,U⟩,fbQ G ⟨.same rfl,U⟩,fbQ G ⟨.same rfl,U⟩,U⟩,rfl⟩ ?_
  clear h
  intro e b m e2 d7
  refine Jr fun a8=>(JLh (BL (decide ((e:Int) < (i.length:Int)))) (Hr G G G) G (G5 (a8 (Js fun a9=>Gg G (fun hb=>?_) (fun hb=>?_)))))
  ·
   have n:=Je hb
   obtain⟨d,e0,b0,b1,h⟩:=Hh m n
   replace h:=Rx a7 h
   refine Gn (a9 ?_)
   obtain⟨b2,q,h⟩:=gF h
   refine Zc (fun k:(J8 Int Unit)×(List Int)=>b2 k=some r) (fun k=>[(1,E1 bf),(2,E1 af),(9,.ptr 1080 0),(10,.ptr 1081 0),(24,LS 1 (E1) [bf,af]),(25,I64 ([bf,af].length:Int)),(26,Ej j),(30,E1 i),(31,Ej i.length),(32,Ej e)]) (fun k=>[My,(1085,MP 202 Nx (fun _:Unit=>.agg []) k.1),(N2 k),Mz,(N0 k),(N1 bf af s)]) (fun Kj62 ej62=>?_) ?_
   ·
    refine Gf (Jr fun b3=>(JLh (Ee d) (Gr (f:=G2.av) (xs:=i) (y:=d) G G G H5 b0 G) G (JLh (.agg (G2.cs d)) (Gj Zt G G G) G (JLh (.ptr 1082 0) (Jp 1082 4 Yd G G) G (J7 (u:=.junk) (Hv (u:=.agg (G2.cs d)) (ds:=[I64 d.Box,I64 d.Slot.G6,I64 d.Slot.Tier,U8 d.Slot.Half]) eH G G G G G G G G) (G5 (b3 ?_)))))))
    refine fzQ [(1,E1 bf),(2,E1 af),(9,.ptr 1080 0),(10,.ptr 1081 0),(14,Ee d),(24,LS 1 (E1) [bf,af]),(25,I64 ([bf,af].length:Int)),(26,Ej j),(30,E1 i),(31,Ej i.length),(32,Ej e)] [My,(1085,MP 202 Nx (fun _:Unit=>.agg []) b.1),(N2 b),Mz,(N0 b),(N1 bf af s)] 1082 rfl rfl rfl ⟨⟨_,rfl,.vec⟩,fmQ G,⟨_,rfl,.vec⟩,⟨_,rfl,.boxEq rfl rfl⟩,⟨_,rfl,.boxEq rfl rfl⟩,⟨_,rfl,.boxEq rfl rfl⟩,U⟩ rfl ?_
    refine Jr fun b4=>(JLm (E1 bf) G (JLh (Ee d) (Ga Qf G G G) G (JLh (I64 d.Box) (Ge Gb G G G) G ?_)))
    obtain⟨a,b5,h⟩:=Gd h
    refine JLh (.tup [.agg (Slot.cs a.1),BL a.2]) (Gi G (eR bf d.Box a b5) jN ⟨G,G,G,G,U⟩) G (JLm (.tup [.agg (Slot.cs a.1),BL a.2]) G (JLh (.agg (Slot.cs a.1)) (Hx G G G) G (JLh (BL a.2) (Hx G G G) G (JLh (.ptr 1083 0) (Jp 1083 3 cY G G) G (J7 (u:=.junk) (Hv (u:=.agg (Slot.cs a.1)) (ds:=[I64 a.1.G6,I64 a.1.Tier,U8 a.1.Half]) dG G G G G G G G G) (JLm (BL a.2) G (G5 (b4 ?_))))))))
    refine fzQ [(1,E1 bf),(2,E1 af),(9,.ptr 1080 0),(10,.ptr 1081 0),(14,Ee d),(15,Eh a.1),(16,BL a.2),(24,LS 1 (E1) [bf,af]),(25,I64 ([bf,af].length:Int)),(26,Ej j),(30,E1 i),(31,Ej i.length),(32,Ej e)] [My,(1085,MP 202 Nx (fun _:Unit=>.agg []) b.1),(N2 b),Mz,(N0 b),(N1 bf af s)] 1083 rfl rfl rfl ⟨⟨_,rfl,.vec⟩,fmQ G,⟨_,rfl,.vec⟩,⟨_,rfl,.boxEq rfl rfl⟩,⟨_,rfl,.boxEq rfl rfl⟩,⟨_,rfl,.boxEq rfl rfl⟩,U⟩ rfl ?_
    refine Jr fun b6=>(JLm (E1 af) G (JLh (Ee d) (Ga Qf G G G) G (JLh (I64 d.Box) (Ge Gb G G G) G ?_)))
    obtain⟨c,b7,h⟩:=Gd h
    refine JLh (.tup [.agg (Slot.cs c.1),BL c.2]) (Gi G (eR af d.Box c b7) jN ⟨G,G,G,G,U⟩) G (JLm (.tup [.agg (Slot.cs c.1),BL c.2]) G (JLh (.agg (Slot.cs c.1)) (Hx G G G) G (JLh (BL c.2) (Hx G G G) G (JLh (.ptr 1084 0) (Jp 1084 3 cY G G) G (J7 (u:=.junk) (Hv (u:=.agg (Slot.cs c.1)) (ds:=[I64 c.1.G6,I64 c.1.Tier,U8 c.1.Half]) dG G G G G G G G G) (JLm (BL c.2) G (G5 (b6 ?_))))))))
    refine fzQ [(1,E1 bf),(2,E1 af),(9,.ptr 1080 0),(10,.ptr 1081 0),(14,Ee d),(15,Eh a.1),(16,BL a.2),(17,Eh c.1),(18,BL c.2),(24,LS 1 (E1) [bf,af]),(25,I64 ([bf,af].length:Int)),(26,Ej j),(30,E1 i),(31,Ej i.length),(32,Ej e)] [My,(1085,MP 202 Nx (fun _:Unit=>.agg []) b.1),(N2 b),Mz,(N0 b),(N1 bf af s)] 1084 rfl rfl rfl ⟨⟨_,rfl,.vec⟩,fmQ G,⟨_,rfl,.vec⟩,⟨_,rfl,.boxEq rfl rfl⟩,⟨_,rfl,.boxEq rfl rfl⟩,⟨_,rfl,.boxEq rfl rfl⟩,U⟩ rfl ?_
    refine Jr fun b8=>(JLm (BL a.2) G (JLm (BL c.2) G (JLh (BL (!(a.2==c.2))) (G40 sI G G G) G (JLm (BL (!(a.2==c.2))) G (JLo (.agg (Slot.cs a.1)) [] G .scf U (fun hc=>Gj Q9 G G G) G (JLo (.agg (Slot.cs c.1)) [] G .scf U (fun hc=>Gj Q9 G G G) G (JLo (BL (!decide (a.1=c.1))) [54,55] G .scf ⟨Ua,Ua,U⟩ (fun hc=>uY (vs:=[.int .i64 a.1.G6,.int .i64 a.1.Tier,.int .u8 a.1.Half]) (us:=[.int .i64 c.1.G6,.int .i64 c.1.Tier,.int .u8 c.1.Half]) 4 G (Haf a.1 c.1) qV xD G G G) G (JLh (BL ((!(a.2==c.2))||(!decide (a.1=c.1)))) (Rm G G G G) G (G5 (b8 (JCc G h (fun h hb=>?_) (fun h hb=>?_))))))))))))
    ·
     refine G1 (JLh (.fn 118 (Mx bf af s)) (Zp lT G G G G) G (JLh (Ee d) (Ga Qf G G G) G (JLh (I64 d.Box) (Ge Gb G G G) G ?_)))
     obtain⟨l,c0,h⟩:=Gd h
     refine JLh (.tup []) (HJ (args:=[I64 d.Box]) (caps:=(Mx bf af s)) (L0:=[Mz,(1085,MP 202 Nx (fun _:Unit=>.agg []) b.1),(N0 b),(N2 b),(N1 bf af s)]) (Lr:=[Mz,(1085,MP 202 Nx (fun _:Unit=>.agg []) l.1),(1080,.box 51 [.vec 1086 l.2.length 1 l.2.length]),(1086,.vec 3 1 l.2.length (l.2.map I64)),(N1 bf af s)]) G G (rH F d.Box b.1 b.2 [bf,af] s l c0) qU ⟨.inl G,G,U⟩ G ⟨G,G,G,G,G,U⟩ G G G) G (G5 ?_)
     exact ej62 _ _ (l.1,l.2) h ⟨(.sm G G),⟨⟨_,rfl,.vec⟩,fmQ G,⟨_,rfl,.vec⟩,fbQ G ⟨.same rfl,U⟩,fbQ G ⟨.same rfl,U⟩,fbQ G ⟨.same rfl,U⟩,U⟩,rfl⟩
    ·
     refine Gn (ej62 _ _ (b.1,b.2) h ⟨(.sm G G),⟨⟨_,rfl,.vec⟩,fmQ G,⟨_,rfl,.vec⟩,fbQ G ⟨.same rfl,U⟩,fbQ G ⟨.same rfl,U⟩,fbQ G ⟨.same rfl,U⟩,U⟩,rfl⟩)
   .intro k h
    replace h:=app1 q h
    refine G1 (JLh (I64 ((e+1:Nat):Int)) (Hs (Hb n a5) G G G) G (JLm (I64 ((e+1:Nat):Int)) G (G5 (d7 _ _ (e+1) (k.1,k.2) (app1 b1 h) (by omega) ⟨(.sm G G),⟨⟨_,rfl,.vec⟩,fmQ G,⟨_,rfl,.vec⟩,fbQ G ⟨.same rfl,U⟩,fbQ G ⟨.same rfl,U⟩,fbQ G ⟨.same rfl,U⟩,U⟩,rfl⟩))))
  ·
   have h:=app1 o (Hi m (H6 hb))
   refine H9 (a2 (G1 (JLh (I64 ((j+1:Nat):Int)) (Hs (Hb v x) G G G) G (JLm (I64 ((j+1:Nat):Int)) G (G5 (e9 _ _ (j+1) (b.1,b.2) (app1 d5 h) (by omega) ⟨(.sm G G),⟨⟨_,rfl,.vec⟩,fmQ G,⟨_,rfl,.vec⟩,fbQ G ⟨.same rfl,U⟩,fbQ G ⟨.same rfl,U⟩,fbQ G ⟨.same rfl,U⟩,U⟩,rfl⟩))))))
 ·
  have h:=app1 z (Hi t (H6 hb))
  refine H9 (d0 (Jr fun c1=>(JLh (.vec 1086 g.2.length 1 g.2.length) (Zp He G G G G) G ?_)))
  obtain⟨w,c2,h⟩:=Gd h
  refine JLh (.tup []) (Hd3 (F:=122) (xs:=g.2) (r:=w) G GC yA QS G G G c2 G) G (G5 (c1 (Jr fun c3=>(JLh (.vec 1086 g.2.length 1 g.2.length) (Zp He G G G G) G (JLm (.vec 1086 g.2.length 1 g.2.length) G (G5 (c3 (Gc0 6 G G (fun hn_=>Gs ?_)))))))))
  obtain rfl:=Pc h
  exact⟨[.vec 1086 g.2.length 1 g.2.length],[(1086,.vec 3 1 g.2.length (w.map I64))],⟨⟨_,G,.vec⟩,U⟩,G,⟨⟨_,G,.conv (.same G)⟩,U⟩,g.2.length,congrArg (fun n_:Nat=>(.vec 1086 g.2.length 1 n_:AV)) (hn_.trans (Pr _)),G⟩

def Ym (F:Nat) (s:List Int) (del:Int→Option Bool):Option (List Int):=
 bnd (cX s del) fun f=>
 bif decide (f=(-1)) then
 (some s)
 else
 (chk (f+1) fun l=>
  loop (fun g (a:Int×Int×(List Int))=>
   bif decide (a.2.1 < (a.2.2.length:Int)) then
   (jp (fun c=>
     Jo a.2.2 a.2.1 fun d=>
     bnd (del d) fun h=>
     bif (!h) then
     (Jo a.2.2 a.1 fun m=>
      chk (a.1+1) fun i=>
      c (i,(a.2.2.set a.1.toNat d)))
     else
     (c (a.1,a.2.2))) fun(e:Int×(List Int))=>
    chk (a.2.1+1) fun j=>
    g (e.1,j,e.2))
   else
   (bnd (cO a.1 a.2.2.length) fun b=>
    bnd (cO a.1 (blank a.2.2 b (a.2.2.length - b) 0).length) fun k=>
    some ((blank a.2.2 b (a.2.2.length - b) 0).take k))) F (f,l,s))
abbrev N3:Nat×Jn:=(1075,.vec 3 1 (([]:List Int).length) (([]:List Int).map I64))
theorem jQ (F:Nat) (s:List Int) (s_q:Nat) (del:Int→Option Bool) (del_f:FuncId) (del_c:List AV) (del_B:H7 Ek del_f=true) (del_d:Ys (fun _=>false) del_c=true) (del_w:∀ a0 q,del a0=some q→Pure Ek del_f ([I64 a0]++del_c) (·=BL q)) (r:(List Int)) (h:Ym F s del=some r):Rb Ek 51 [.vec 1086 s_q 1 s.length,.fn del_f del_c] [(1086,.vec 3 1 s_q (s.map I64))] (fun av L'=>∃ p:Nat,av=.vec 1086 p 1 r.length/\L'=[(1086,.vec 3 1 p (r.map I64))]):=by
 unfold Ym at h
 refine fL [1086] [.tmp 4] Tryz.func51 G G (G88 G) (Jr fun b8=>(JLh (.vec 1075 (([]:List Int).length) 1 (([]:List Int).length)) (Ha2 1075 3 1 G G G) G (G5 (b8 (Jr fun b9=>(JLm (.vec 1086 s_q 1 s.length) G (JLm (.fn del_f del_c) G ?_)))))))
 obtain⟨i,c0,h⟩:=Gd h
 refine JLh (I64 i) (Had (args:=[E2 s,.fn del_f del_c]) G (sE s del del_f del_c del_B del_d del_w i c0) Gf6 ⟨.vec G,.data G del_d,U⟩ G) G (JLm (I64 i) G (G5 (b9 (Js fun c1=>Jr fun c2=>(JLm (I64 i) G (JLh (BL (decide (i=(-1)))) (Qc G G G) G (G5 (c2 (JCc G h (fun h hb=>?_) (fun h hb=>?_))))))))))
 ·
  refine Jr fun c3=>(JLm (.vec 1086 s_q 1 s.length) G (JLm (.vec 1086 s_q 1 s.length) G (G5 (c3 (Gc0 4 G G (fun hn_=>Gs ?_))))))
  obtain rfl:=Pc h
  exact⟨[.vec 1086 s_q 1 s.length],[(1086,.vec 3 1 s_q (s.map I64))],⟨⟨_,G,.vec⟩,U⟩,G,⟨⟨_,G,.conv (.same G)⟩,U⟩,s_q,congrArg (fun n_:Nat=>(.vec 1086 s_q 1 n_:AV)) (hn_.trans (Pr _)),G⟩
 ·
  refine Gn (c1 (Js fun c4=>Jr fun c5=>(JLm (I64 i) G ?_)))
  obtain⟨v9,c6,h⟩:=R2 h
  refine JLh (I64 v9) (Hs c6 G G G) G (JLm (I64 v9) G (G5 (c5 (Gf ?_))))
  obtain⟨c7,a2,h⟩:=Ga8 h
  refine H8 (fun g (a:Int×Int×(List Int))=>loop c7 g a=some r) (fun g a=>[(0,.vec 1086 s_q 1 s.length),(1,.fn del_f del_c),(5,I64 a.1),(6,I64 a.2.1)]) (fun g a=>[(1086,.vec 3 1 s_q (a.2.2.map I64)),N3]) (fun g=>g) F (i,v9,s) h ⟨⟨.same G,.same (Qw _ _ del_d),.same G,.same G,U⟩,⟨⟨_,G,.vec⟩,⟨_,G,.vec⟩,U⟩,G⟩ ?_
  clear h
  intro g a a3 d3 c8
  obtain⟨c9,d1,hm_48,a4,h⟩:=G15 a3
  replace h:=Jeb a2 h
  refine Js fun a5=>Jr fun a6=>(JLm (I64 a.2.1) G (JLm (.vec 1086 s_q 1 s.length) G (J44 (f:=I64) (xs:=a.2.2) Gz G G G (fun d2=>?_) G G G)))
  refine JLh (BL (decide (a.2.1 < (a.2.2.length:Int)))) (Hr G G G) G (G5 (a6 (JCc G h (fun h hb=>?_) (fun h hb=>?_))))
  ·
   refine Gn (a5 ?_)
   obtain⟨a7,v,h⟩:=gF h
   refine Zc (fun e:Int×(List Int)=>a7 e=some r) (fun e=>[(0,.vec 1086 s_q 1 s.length),(1,.fn del_f del_c),(5,I64 e.1),(6,I64 a.2.1)]) (fun e=>[(1086,.vec 3 1 s_q (e.2.map I64)),N3]) (fun Kj51 ej51=>?_) ?_
   ·
    refine Gf (Jr fun a8=>(JLm (.vec 1086 s_q 1 s.length) G (JLm (I64 a.2.1) G ?_)))
    obtain⟨d,w,k,h⟩:=oN h
    refine JLh (.vptr 1086 s_q a.2.1.toNat 0) (fK (f:=I64) (xs:=a.2.2) (y:=d) G G G G Gz k w) G (JLh (I64 d) (jF (f:=I64) (xs:=a.2.2) (y:=d) Gb G G G k G G) G (JLm (I64 d) G (G5 (a8 (Jr fun a9=>(JLm (.fn del_f del_c) G (JLm (I64 d) G ?_)))))))
    obtain⟨l,b0,h⟩:=Gd h
    refine JLh (BL l) (fR (args:=[I64 d]) (caps:=del_c) G G (del_w d _ b0) del_B ⟨G,G,U⟩ del_d) G (JLh (BL (!l)) (Qj (b:=l) G G) G (G5 (a9 (JCc G h (fun h hb=>?_) (fun h hb=>?_)))))
    ·
     refine Jr fun b1=>(JLm (.vec 1086 s_q 1 s.length) G (JLm (I64 a.1) G (JLm (I64 d) G ?_)))
     obtain⟨d0,x,m,h⟩:=oN h
     refine JLh (.vptr 1086 s_q a.1.toNat 0) (fK (f:=I64) (xs:=a.2.2) (y:=d0) G G G G Gz m x) G (J7 (u:=.junk) (xS (f:=I64) (xs:=a.2.2) (z:=d) Hdc G G G G (Pa m).1 G G G G) (G5 (b1 (G1 (JLm (I64 a.1) G ?_)))))
     obtain⟨o,b2,h⟩:=R2 h
     refine JLh (I64 o) (Hs b2 G G G) G (JLm (I64 o) G (G5 (ej51 _ _ (o,(a.2.2.set a.1.toNat d)) h ⟨⟨.same G,.same (Qw _ _ del_d),.same G,.same G,U⟩,⟨⟨_,G,.vec⟩,⟨_,G,.vec⟩,U⟩,G⟩)))
    ·
     refine Gn (ej51 _ _ (a.1,a.2.2) h ⟨⟨.same G,.same (Qw _ _ del_d),.same G,.same G,U⟩,⟨⟨_,G,.vec⟩,⟨_,G,.vec⟩,U⟩,G⟩)
   .intro e h
    replace h:=app1 v h
    refine G1 (JLm (I64 a.2.1) G ?_)
    obtain⟨t,b3,h⟩:=R2 h
    refine JLh (I64 t) (Hs b3 G G G) G (JLm (I64 t) G (G5 (c8 _ _ c9 (e.1,t,e.2) (app1 a4 h) (by omega) ⟨⟨.same rfl,.same (Qw _ _ del_d),.same rfl,.same rfl,U⟩,⟨⟨_,rfl,.vec⟩,⟨_,rfl,.vec⟩,U⟩,rfl⟩)))
  ·
   refine H9 (c4 (Jr fun b4=>(JLm (.vec 1086 s_q 1 s.length) G (JLm (I64 a.1) G ?_))))
   obtain⟨c,b5,h⟩:=Gd h
   refine JLh (.vsl 1086 s_q 1 c (a.2.2.length - c)) (J0e (f:=I64) (xs:=a.2.2) G G G G Gz (Rq b5)) G (J7 (u:=.tup []) (J62 (f:=I64) (xs:=a.2.2) (off:=c) (n:=(a.2.2.length - c)) 0 [E0] G Gz (.inr G) G Hda G G G ⟨.inl G,U⟩) (G5 (b4 (Jr fun b6=>(JLm (.vec 1086 s_q 1 s.length) G (JLm (I64 a.1) G ?_))))))
   obtain⟨j,b7,h⟩:=Gd h
   refine JLh (.vec 1086 (s_q+1) 1 (((blank a.2.2 c (a.2.2.length - c) 0).take j).length)) (J53 (f:=I64) (xs:=(blank a.2.2 c (a.2.2.length - c) 0)) G G G G Gz (Rq b7)) G (JLm (.vec 1086 (s_q+1) 1 (((blank a.2.2 c (a.2.2.length - c) 0).take j).length)) G (G5 (b6 (Gc0 4 G G (fun hn_=>Gs ?_)))))
   obtain rfl:=Pc h
   exact⟨[.vec 1086 (s_q+1) 1 (((blank a.2.2 c (a.2.2.length - c) 0).take j).length)],[(1086,.vec 3 1 (s_q+1) (((blank a.2.2 c (a.2.2.length - c) 0).take j).map I64))],⟨⟨_,G,.vec⟩,U⟩,G,⟨⟨_,G,.conv (.same G)⟩,U⟩,(s_q+1),congrArg (fun n_:Nat=>(.vec 1086 (s_q+1) 1 n_:AV)) (hn_.trans (Pr _)),G⟩

def aX (F:Nat) (s:Gq) (bx:List Box) (calls:Int) (p:Ya):Option ((List (List Int))×Int):=
 bnd (bW s bx calls p) fun f=>
 bif decide (f.2≠0) then
 (some ([],f.2))
 else
 (bnd (uU p) fun h=>
  bnd (gR p) fun d=>
  each (fun b i (a:(List (List Int))) e=>
   bnd (Zm F s b.1 b.2) fun g=>
   bnd (Ym F g (fun z0=>bP z0 b.1 b.2)) fun c=>
   need (decide ((a.length+[c].length)*24≤140737488355328/\a.length+[c].length≤maxLen)) <|
   e (a++[c]))
  (fun(a:(List (List Int)))=>
   some (a,0)) d 0 [])
abbrev bkI (e:Option (Nat×Nat)×List Int):AV:=.blk e.1 3 1 (E2 e.2)
theorem J06 {es:List (Option (Nat×Nat)×List Int)} {o:Option (Nat×Nat)} {m:List Int} (hn:(lB (es.map Prod.fst)).Nodup) (ho:∀ b c,o=some (b,c)→b ∉ lB (es.map (·.1))):(lB ((es++[(o,m)]).map Prod.fst)).Nodup:=by
 rw [List.map_append]
 unfold lB at hn ho ⊢
 rw [List.filterMap_append]
 rcases o with _ | ⟨b,c⟩
 .simpa using hn
 .refine List.nodup_append.2 ⟨hn,by simp,fun x hx y hy=>?_⟩
  simp at hy
  subst hy
  exact fun e=>ho _ c G (e ▸ hx)
abbrev N4 (p:Ya):List AV:=[LS 1 (E1) p.States,LS 1 (E2) p.Water]
abbrev N5 (a:List Int):Nat×Jn:=(1086,.vec 3 1 0 (a.map I64))
theorem tF (F:Nat) (s:Gq) (bx:List Box) (calls:Int) (p:Ya) (r:(List (List Int))×Int) (h:aX F s bx calls p=some r):Pure Ek 18 [.agg (Gq.cs s),E3 bx,I64 calls,.agg [LS 1 (E1) p.States,LS 1 (E2) p.Water]] (·=.tup [.frz 3 1 (LS 1 (E2) r.1),I64 r.2]):=by
 unfold aX at h
 refine Gy [.tmp 8,.tmp 9] Tryz.func18 G G (Jr fun a7=>(JLh (.ptr 1025 0) (Jy (cs:=(Gq.cs s)) 1025 G G G G G) G (JLh (.ptr 1026 0) (Jy (cs:=(N4 p)) 1026 G G G G G) G (JLh (LS 1 (E2) ([]:List (List Int))) (Qd 1 G G) G (JLm (I64 0) G (G5 (a7 ?_)))))))
 refine fzQ [(1,E3 bx),(2,I64 calls),(4,Ed s),(7,.ptr 1026 0)] [(1026,.box 37 (N4 p))] 1025 rfl rfl rfl ⟨⟨_,rfl,.boxEq rfl rfl⟩,U⟩ rfl (fzQ [(1,E3 bx),(2,I64 calls),(4,Ed s),(7,.dptr (N4 p))] [] 1026 rfl rfl rfl U rfl (Js fun a8=>Jr fun a9=>(JLh (.agg (Gq.cs s)) (Gj J4 G G G) G (JLm (E3 bx) G (JLm (I64 calls) G (JLh (.agg (N4 p)) (Gj R5 G G G) G ?_))))))
 obtain⟨i,b0,h⟩:=Gd h
 refine JLh (.tup [I64 i.1,I64 i.2]) (Gi G (pY s bx calls p i b0) yY ⟨G,G,G,G,G,G,G,G,U⟩) G (JLm (.tup [I64 i.1,I64 i.2]) G (JLh (I64 i.1) (Hx G G G) G (JLh (I64 i.2) (Hx G G G) G (JLm (I64 i.1) G (JLm (I64 i.2) G (G5 (a9 (Jr fun b1=>(JLm (I64 i.2) G (JLh (BL (decide (i.2≠0))) (aH G G G) G (G5 (b1 (JCc G h (fun h hb=>?_) (fun h hb=>?_))))))))))))))
 ·
  refine Jr fun b2=>(JLm (I64 i.2) G (JLh (.frz 3 1 (.list 1 [])) (J5b 3 1 G G) G (JLm (I64 i.2) G (G5 (b2 (Gs (⟨[.frz 3 1 (.list 1 []),I64 i.2],[],U,G,⟨⟨_,G,.conv (.same G)⟩,⟨_,G,.conv (.same G)⟩,U⟩,G,congrArg (fun r:(List (List Int))×Int=>(.tup [.frz 3 1 (LS 1 (E2) r.1),I64 r.2]:AV)) (Pc h)⟩)))))))
 ·
  refine Gn (a8 (Jr fun b3=>(JLh (.ptr 1027 0) (Rn 1027 [.sc (.slice none 0 0)] [.slice none 0 0] H4c ⟨.inl G,U⟩ G G) G (G3a 1027 0 1030 51 1 G G G (cs':=[OW 1030 1 bkI ([]:List (Option (Nat×Nat)×List Int))]) G (G5 (b3 (Js fun b4=>Jr fun b5=>(JLh (.agg (N4 p)) (Gj R5 G G G) G ?_))))))))
  obtain⟨b6,t,h⟩:=Gd h
  refine JLh (.fn 116 [.dptr (N4 p)]) (Gi G (G34 p b6 t) H64 ⟨G,G,U⟩) G (G5 (b5 (Gf ?_)))
  obtain⟨k,hy_21,h⟩:=Gd h
  obtain⟨b7,x,z,o,h⟩:=Hy h
  refine Gc1 (ps:=[28,29]) [(4,Ed s),(12,.ptr 1027 0),(27,.fn 116 [.dptr (N4 p)])] (k.map (fun y:(List G2)×(List G2)=>[E1 y.1,E1 y.2])) (fun m (b:List (Option (Nat×Nat)×List Int))=>each b7 x (List.drop m k) m (b.map Prod.snd)=some r/\(lB (b.map Prod.fst)).Nodup) (fun b=>[(1030,.spare 51 1 b.length b.length),(1027,.box 35 [OW 1030 1 bkI b])]) [] rfl rfl rfl Gf7 (JP.down p k hy_21) ⟨h,List.nodup_nil⟩ ⟨(.sm G G),⟨⟨_,rfl,.same⟩,fbQ G ⟨.same rfl,trivial⟩,trivial⟩,rfl⟩ rfl (fun us_ hus_=>by obtain⟨_,_,rfl⟩:=Pt.1 hus_; rfl) (fun p_ hp_=>Nat.blt_eq.mp (by revert p_; decide)) (fun _=>(.sm G G)) (fun _=>rfl) ?_ ?_
  ·
   intro m us_ b hu_ l lr_ c0 b8
   obtain⟨l,hnd⟩:=l
   obtain⟨a0,rfl⟩:=J98 hu_
   obtain⟨c,b9,a1,a2,h⟩:=Hh l a0
   replace h:=Rx z h
   obtain⟨_,rfl⟩:=Pa a1
   generalize k[m]=c at h ⊢
   change (lB (b.map Prod.fst)).Nodup at hnd
   change JC _ _ _ _ [(29,E1 c.2),(28,E1 c.1),(4,Ed s),(12,.ptr 1027 0),(27,.fn 116 [.dptr (N4 p)])] [(1030,.spare 51 1 b.length b.length),(1027,.box 35 [OW 1030 1 bkI b])]
   refine Jr fun a3=>(JLh (.ptr 1028 0) (Jp 1028 1 gN G G) G (J7 (u:=.junk) (Hv (u:=E1 c.1) (ds:=[E1 c.1]) ZA G G G G G G G G) (G5 (a3 (fzQ [(4,Ed s),(12,.ptr 1027 0),(13,.dptr [E1 c.1]),(29,E1 c.2)] [(1030,.spare 51 1 b.length b.length),(1027,.box 35 [OW 1030 1 bkI b])] 1028 rfl rfl rfl ⟨⟨_,rfl,.same⟩,⟨_,rfl,.boxEq rfl rfl⟩,U⟩ rfl (G1 (JLh (.ptr 1029 0) (Jp 1029 1 gN G G) G (J7 (u:=.junk) (Hv (u:=E1 c.2) (ds:=[E1 c.2]) ZA G G G G G G G G) (G5 ?_)))))))))
   refine H9e [(4,Ed s),(12,.ptr 1027 0),(13,.dptr [E1 c.1]),(14,.dptr [E1 c.2])] [(1030,.spare 51 1 b.length b.length),(1027,.box 35 [OW 1030 1 bkI b])] 1029 rfl rfl rfl ⟨⟨_,rfl,.same⟩,⟨_,rfl,.boxEq rfl rfl⟩,U⟩ rfl (by repeat' (first | exact .ptr | constructor)) (Jf0 (Gf (rM (l':=[(4,Ed s),(12,.ptr 1027 0),(13,.dptr [E1 c.1]),(14,.dptr [E1 c.2])]) (L':=[(1030,.spare 51 1 b.length b.length),(1027,.box 35 [OW 1030 1 bkI b])]) ⟨(.sm G G),⟨⟨_,rfl,.same⟩,fbQ G ⟨.same rfl,U⟩,U⟩,rfl⟩ ?_)))
   obtain⟨j,a4,h⟩:=Gd h
   obtain⟨d,a5,h⟩:=Gd h
   obtain⟨n,h⟩:=J5 h
   refine J4d (Γ:=Gho (lB (b.map (·.1)))) 6 1 36 _ (fun J=>bkI (J.1,d)) [4,6,8,9] [0,0,0,0,0,0,0,2,0,0] [2,0,0,0,0,1,0,2,0,0] [[(1030,.spare 51 1 b.length b.length),(1027,.box 35 [OW 1030 1 bkI b])],((N5 j)::[(1030,.spare 51 1 b.length b.length),(1027,.box 35 [OW 1030 1 bkI b])]),((1086,.vec 3 1 (0+1) [])::[(1030,.spare 51 1 b.length b.length),(1027,.box 35 [OW 1030 1 bkI b])])] (fun J=>[[(1030,.spare 51 1 b.length b.length),(1027,.box 35 [OW 1030 1 bkI b])],((N5 j)::[(1030,.spare 51 1 b.length b.length),(1027,.box 35 [OW 1030 1 bkI b])]),((1086,.vec 3 1 (0+1) [])::[(1030,.spare 51 1 b.length b.length),(1027,.box 35 [OW 1030 1 bkI b])]),((1030,.spare 51 1 (b++[(J.1,d)]).length (b++[(J.1,d)]).length)::((1086,.vec 3 1 (0+1) [])::[(1030,.spare 51 1 b.length b.length),(1027,.box 35 [OW 1030 1 bkI b])])),((1027,.box 35 [OW 1030 1 bkI (b++[(J.1,d)])])::((1030,.spare 51 1 (b++[(J.1,d)]).length (b++[(J.1,d)]).length)::((1086,.vec 3 1 (0+1) [])::[(1030,.spare 51 1 b.length b.length),(1027,.box 35 [OW 1030 1 bkI b])])))]) Jd (by kernel_rfl) rfl (fun _=>rfl) rfl rfl rfl rfl rfl rfl (by kernel_rfl) ?_
   simp only [List.take_succ_cons,List.take_zero,List.drop_succ_cons,List.drop_zero]
   refine G8 (u:=OW 1030 1 bkI b) G G ⟨Gp (Zp cP G G G G) G,Gp (Zp cP G G G G) G,Gp (Zp cP G G G G) G,U⟩ (G8 (u:=.agg (Gq.cs s)) G G ⟨Gp (Gj J4 G G G) G,U⟩ (G8 (u:=E1 c.1) G G ⟨Gp (Ge Q6 G G G) G,U⟩ (G8 (u:=E1 c.2) G G ⟨Gp (Ge Q6 G G G) G,U⟩ (D_w (u:=.vec 1086 0 1 j.length) G G G G (Gp (YX (args:=[.agg (Gq.cs s),E1 c.1,E1 c.2]) (L0:=[]) (Lr:=[(N5 j)]) G (Rb.fresh0 (YL F s c.1 c.2 j a4)) ZP ⟨.inl G,G,.inl G,G,.inl G,G,U⟩ U G G G) G) (G8 (u:=.fn 53 [.dptr [E1 c.1],.dptr [E1 c.2]]) G G ⟨Gp (eS (cs:=[.dptr [E1 c.1],.dptr [E1 c.2]]) G G) G,Gp (eS (cs:=[.dptr [E1 c.1],.dptr [E1 c.2]]) G G) G,U⟩ (Rk ?_))))))
   refine⟨⟨_,G,?_⟩,fun J=>?_⟩
   .refine H2.mono (R:=fun v L1=>∃ J:Gho (lB (b.map (·.1))),v=.blk J.1 3 1 (.list 1 (d.map I64))/\L1=(1086,.vec 3 1 (0+1) [])::[(1030,.spare 51 1 b.length b.length),(1027,.box 35 [OW 1030 1 bkI b])]) (fun v L1 hv=>by obtain⟨J,rfl,rfl⟩:=hv; exact⟨J,rfl,rfl⟩) (Hac (zs:=[.tmp 34,.tmp 35]) (ts:=#[51,105]) (args:=[.vec 1086 0 1 j.length,.fn 53 [.dptr [E1 c.1],.dptr [E1 c.2]]]) (L0:=[(N5 j)]) (obs:=lB (b.map (·.1))) (ys:=j.map I64) ?_ (jQ F j 0 (fun z0=>bP z0 c.1 c.2) 53 [.dptr [E1 c.1],.dptr [E1 c.2]] H62 G (fun z0 q hq=>zQ z0 c.1 c.2 q hq) d a5) H63 ?_ ?_ G (fun _=>G) ?_ ?_ ?_ ?_ ?_)
    .rfl
    .exact⟨.inl G,G,.inl G,G,U⟩
    .exact⟨G,U⟩
    .rfl
    .rfl
    .rfl
    .exact fun p=>⟨⟨_,G,.same⟩,⟨_,G,.boxEq G G⟩,U⟩
    .exact fun a w β hs _=>H98 (B:=1027) (g:=E2) hs G
   refine G8 (u:=LS 1 bkI [(J.1,d)]) G G ⟨Gp (Hf (xs:=[bkI (J.1,d)]) G ⟨G,G,U⟩ Hz mE G G G G) G,U⟩ (D_w (u:=OW 1030 1 bkI (b++[(J.1,d)])) rfl rfl rfl rfl (Gp (R8 (f:=bkI) (xs:=b) (ys:=[(J.1,d)]) rfl rfl rfl rfl Hz oT (by rw [Pr] at n; exact n) (fun _=>rfl) (.inl rfl) rfl) rfl) (Jf9 (u:=.junk) G G G G (Gp (Hv (u:=OW 1030 1 bkI (b++[(J.1,d)])) (ds:=[OW 1030 1 bkI (b++[(J.1,d)])]) ZB G G G G G G G G) G) (Rk (fun L' hL'=>?_))))
   cases hL'
   refine b8 _ _ (b++[(J.1,d)]) ⟨by simp only [List.map_append,List.map_cons,List.map_nil]; exact app1 a2 h,J06 hnd J.2⟩ ⟨U,⟨⟨_,G,.same⟩,⟨_,G,.boxL G ⟨.same G,U⟩⟩,U⟩,G⟩
  ·
   rintro b ⟨h,hnd⟩
   rw [Pr] at h
   replace h:=app1 o (Hi h (Nat.lt_irrefl _))
   refine b4 (Jr fun a6=>(JLh (OW 1030 1 bkI b) (Zp cP G G G G) G (JLm (OW 1030 1 bkI b) G (JLm (I64 0) G (G5 (a6 (Jab 8 [(9,I64 0)] [] 1030 G (g:=E2) G G U G ⟨.same G,U⟩ hnd (fun _=>G) (Gs ?_))))))))
   rw [show (b.map fun e=>E2 e.2)=(b.map Prod.snd).map (E2) by rw [List.map_map]; rfl]
   exact⟨[.frz 3 1 (LS 1 (E2) (b.map Prod.snd)),I64 0],[],U,G,⟨⟨_,G,.conv (.same G)⟩,⟨_,G,.conv (.same G)⟩,U⟩,G,congrArg (fun r:(List (List Int))×Int=>(.tup [.frz 3 1 (LS 1 (E2) r.1),I64 r.2]:AV)) (Pc h)⟩
theorem tG (F:Nat) (s:Gq) (bx:List Box) (calls:Int) (p:Ya) (r:(List (List Int))×Int) (h:aX F s bx calls p=some r):Pure Ek 18 [.agg (Gq.cs s),E3 bx,I64 calls,.agg [LS 1 (E1) p.States,LS 1 (E2) p.Water]] (·=.tup [LS 1 (E2) r.1,I64 r.2]):=
 (tF F s bx calls p r h).tupFrz
def eG (F:Nat) (s:Gq) (bx:List Box) (calls:Int) (p:Ya):Option (Int×Int):=
 bnd (aX F s bx calls p) fun c=>
 each (fun d f (a:Int) b=>
  chk (a+(d.length:Int)) fun e=>
  b e)
 (fun(a:Int)=>
  some (a,c.2)) c.1 0 0
theorem wY (F:Nat) (s:Gq) (bx:List Box) (calls:Int) (p:Ya) (r:Int×Int) (h:eG F s bx calls p=some r):Pure Ek 20 [.agg (Gq.cs s),E3 bx,I64 calls,.agg [LS 1 (E1) p.States,LS 1 (E2) p.Water]] (·=.tup [I64 r.1,I64 r.2]):=by
 unfold eG at h
 refine Gy [.tmp 8,.tmp 9] Tryz.func20 G G (Jr fun z=>(JLh (.ptr 1035 0) (Jy (cs:=(Gq.cs s)) 1035 G G G G G) G (JLh (.ptr 1036 0) (Jy (cs:=[LS 1 (E1) p.States,LS 1 (E2) p.Water]) 1036 G G G G G) G (JLm (I64 0) G (JLm (I64 0) G (G5 (z (fzQ [(1,E3 bx),(2,I64 calls),(4,Ed s),(7,.ptr 1036 0)] [(1036,.box 37 [LS 1 (E1) p.States,LS 1 (E2) p.Water])] 1035 rfl rfl rfl ⟨⟨_,rfl,.boxEq rfl rfl⟩,U⟩ rfl ?_))))))))
 refine fzQ [(1,E3 bx),(2,I64 calls),(4,Ed s),(7,.dptr [LS 1 (E1) p.States,LS 1 (E2) p.Water])] [] 1036 rfl rfl rfl U rfl (Jr fun a0=>(JLh (.agg (Gq.cs s)) (Gj J4 G G G) G (JLm (E3 bx) G (JLm (I64 calls) G (JLh (.agg [LS 1 (E1) p.States,LS 1 (E2) p.Water]) (Gj R5 G G G) G ?_)))))
 obtain⟨a,a1,h⟩:=Gd h
 refine JLh (.tup [LS 1 (E2) a.1,I64 a.2]) (Gi G (tG F s bx calls p a a1) yW ⟨G,G,G,G,G,G,G,G,U⟩) G (JLm (.tup [LS 1 (E2) a.1,I64 a.2]) G (JLh (LS 1 (E2) a.1) (Hx G G G) G (JLh (I64 a.2) (Hx G G G) G (JLm (LS 1 (E2) a.1) G (JLm (I64 a.2) G (G5 (a0 (Jr fun a2=>(JLm (I64 0) G (G5 (a2 (Js fun a3=>Jr fun a4=>(JLm (LS 1 (E2) a.1) G (JLl Hz G G G fun k=>(JLm (I64 0) G (G5 (a4 (Gf ?_))))))))))))))))))
 obtain⟨a5,l,m,j,h⟩:=Hy h
 refine H8 (fun b (c:Int)=>each a5 l (List.drop b a.1) b c=some r) (fun b c=>[(11,I64 a.2),(12,I64 c),(23,LS 1 (E2) a.1),(24,Ej a.1.length),(25,Ej b)]) (fun b c=>[]) (fun b=>a.1.length - b) 0 0 h ⟨(.sm G G),U,rfl⟩ ?_
 clear h
 intro b c e a9 a6
 refine Jr fun n=>(JLh (BL (decide ((b:Int) < (a.1.length:Int)))) (Hr G G G) G (G5 (n (Js fun o=>Gg G (fun hb=>?_) (fun hb=>?_)))))
 ·
  have g:=Je hb
  obtain⟨d,a7,q,t,h⟩:=Hh e g
  replace h:=Rx m h
  refine Gn (o (Js fun u=>Gf (Jr fun v=>(JLh (.dptr [E2 d]) (Gr (f:=(E2)) (xs:=a.1) (y:=d) G G G Hz q G) G (JLh (E2 d) (Ge He G G G) G (JLm (E2 d) G (G5 (v (G1 (JLm (I64 c) G (JLm (E2 d) G (JLl Gz G G G fun a8=>?_))))))))))))
  obtain⟨i,w,h⟩:=R2 h
  refine JLh (I64 i) (Hs w G G G) G (JLm (I64 i) G (G5 (u (G1 (JLh (I64 ((b+1:Nat):Int)) (Hs (Hb g k) G G G) G (JLm (I64 ((b+1:Nat):Int)) G (G5 (a6 _ _ (b+1) i (app1 t h) (by omega) ⟨(.sm G G),U,rfl⟩))))))))
 ·
  have h:=app1 j (Hi e (H6 hb))
  refine H9 (a3 (Jr fun x=>(JLm (I64 c) G (JLm (I64 a.2) G (JLm (I64 c) G (JLm (I64 a.2) G (G5 (x (Gs (⟨[I64 c,I64 a.2],[],U,G,⟨⟨_,G,.conv (.same G)⟩,⟨_,G,.conv (.same G)⟩,U⟩,G,congrArg (fun r:Int×Int=>(.tup [I64 r.1,I64 r.2]:AV)) (Pc h)⟩))))))))))
end
end Go.Proofs.YthkihfoleenlmaaGreat
