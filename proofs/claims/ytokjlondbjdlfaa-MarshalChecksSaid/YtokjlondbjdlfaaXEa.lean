/- Walks of functions. -/
import Derived.Test.YtokjlondbjdlfaaXD
set_option maxRecDepth 100000
set_option maxHeartbeats 1000000
set_option linter.unusedVariables false
set_option linter.unusedSimpArgs false
namespace Go.Proofs.Ytokjlondbjdlfaa
open Go.RowKit
noncomputable section
structure Gq where
 Stacks:List (List Int)
 Height:Int
 deriving DecidableEq,Inhabited
def Gq.cs (x:Gq):List AV:=[LS 1 (E1) x.Stacks,I64 x.Height]
structure G9 where
 From:Int
 To:Int
 deriving DecidableEq,Inhabited
def G9.cs (x:G9):List AV:=[I64 x.From,I64 x.To]
def G9.av (x:G9):AV:=.agg x.cs
abbrev E4:=LS 2 G9.av
structure Gm where
 y:Gq
 from_:Int
 by_:G9
 deriving DecidableEq,Inhabited
def Gm.cs (x:Gm):List AV:=[LS 1 (E1) x.y.Stacks,I64 x.y.Height,I64 x.from_,I64 x.by_.From,I64 x.by_.To]
structure Q1 where
 Stacks:Ln (Ln Int)
 Height:Int
 deriving Inhabited
def Q1.cs (x:Q1):List AV:=[LT 1 (LT 1 I64) x.Stacks,I64 x.Height]
def Q1.pl (x:Q1):Gp:=⟨(fun e=>e.1.map Prod.fst) x.Stacks,x.Height⟩
def Q1.of (x:Gp):Q1:=⟨(fun e=>(e.map (fun e=>(e,[])),[])) x.Stacks,x.Height⟩
namespace XEF
open XAF
open XBF
open XCF
open XDF
theorem G08:Ga8 E8 64 2=true:=by kernel_rfl
theorem He:Ga8 E8 67 2=true:=by kernel_rfl
theorem J17:Haa E8 4=true:=by kernel_rfl
theorem H39:Hi E8 31=true:=by kernel_rfl
theorem Gda:Hi E8 32=true:=by kernel_rfl
theorem Jad:Hi E8 33=true:=by kernel_rfl
theorem H38:Hi E8 34=true:=by kernel_rfl
theorem Gd9:Hi E8 35=true:=by kernel_rfl
theorem Ja0:Hi E8 63=true:=by kernel_rfl
theorem H34:Hi E8 64=true:=by kernel_rfl
theorem Gd8:Hi E8 65=true:=by kernel_rfl
theorem J9f:Hi E8 66=true:=by kernel_rfl
theorem G97:Hi E8 67=true:=by kernel_rfl
theorem J9e:Hi E8 68=true:=by kernel_rfl
theorem Hc9:Hi E8 69=true:=by kernel_rfl
theorem Gd7:Hi E8 76=true:=by kernel_rfl
theorem Hc4:Hi E8 87=true:=by kernel_rfl
theorem H32:Hi E8 88=true:=by kernel_rfl
theorem Hc3:Hi E8 89=true:=by kernel_rfl
theorem Zc:Hi E8 90=true:=by kernel_rfl
theorem Gd6:Hi E8 91=true:=by kernel_rfl
theorem H31:Qb E8 64 2 16=true:=by kernel_rfl
theorem G29:R0 E8 64 0 0=true:=by kernel_rfl
theorem Qg:R0 E8 64 1 1=true:=by kernel_rfl
theorem H1:R0 E8 67 0 0=true:=by kernel_rfl
theorem G07:R0 E8 67 1 1=true:=by kernel_rfl
theorem Yh:placesOf E8 67=some [(0,1),(1,1)]:=by kernel_rfl
theorem Jy:R4 E8 67 2=true:=by kernel_rfl
theorem Rc:sliceB E8 63 64 2=true:=by kernel_rfl
theorem Y5:(E8.info? 67).bind (fun i=>i.zero.map Value.cells)=some (List.toArray [.slice none 0 0,E0]):=by kernel_rfl
theorem G73:Q2 E8 64 2=true:=by kernel_rfl
theorem Rx:Q2 E8 67 2=true:=by kernel_rfl
end XEF
open XAF
open XBF
open XCF
open XDF
open XEF

def Qj (y:Gq):Option (List Int):=
 each (fun b d (a:(List Int)) c=>
  need (decide ((a.length+b.length)*8≤140737488355328∧a.length+b.length≤maxLen)) <|
  c (a++b))
 (fun(a:(List Int))=>
  some a) y.Stacks 0 []
theorem G2d (y:Gq) (r:(List Int)) (h:Qj y=some r):Pure E8 69 [.agg [LS 1 (E1) y.Stacks,I64 y.Height]] (·=E1 r):=by
 unfold Qj at h
 refine Hc [.tmp 2] Try.func69 O O (Jr fun s=>(JLh (.ptr 1072 0) (Q3 (cs:=[LS 1 (E1) y.Stacks,I64 y.Height]) 1072 O O O O O) O (JLh (E1 ([]:List Int)) (Jj 1 O O) O (G6 (s (H5 [(1,.dptr [LS 1 (E1) y.Stacks,I64 y.Height])] [] 1072 rfl rfl rfl G rfl (by exact⟨.ptr,G⟩) (Jr fun t=>(JLh (OW 1073 1 I64 ([]:List Int)) (Gd0 1073 3 1 O O O) O (G6 (t (Js fun u=>Jr fun v=>(JLm (I64 0) O (G6 (v (Gf ?_)))))))))))))))
 obtain⟨w,i,j,g,h⟩:=J0 h
 refine H7 (fun a (b:(List Int))=>each w i (List.drop a y.Stacks) a b=some r) (fun a b=>[(1,.dptr [LS 1 (E1) y.Stacks,I64 y.Height]),(3,OW 1073 1 I64 b),(4,E7 a)]) (fun a b=>[(1073,.spare 3 1 b.length b.length)]) (fun a=>y.Stacks.length - a) 0 [] h ⟨(.sm O O),⟨⟨_,O,.same⟩,G⟩,O⟩ ?_
 clear h
 intro a b d a1 x
 refine Js fun k=>Jr fun l=>(JLm (E7 a) O (JLh (.dptr [LS 1 (E1) y.Stacks,I64 y.Height]) (Gy H1 O O O) O (JLh (LS 1 (E1) y.Stacks) (Gk Gn O O O) O (JLl Gd O O O fun z=>(JLh (BL (decide ((a:Int) < (y.Stacks.length:Int)))) (Hu O O O) O (G6 (l (Gh O (fun hb=>?_) (fun hb=>?_)))))))))
 ·
  have e:=Jn hb
  obtain⟨c,a0,m,n,h⟩:=Hp d e
  replace h:=Y1 j h
  refine Gi (k (Js fun o=>Gf (G1 (JLm (OW 1073 1 I64 b) O (JLh (.dptr [LS 1 (E1) y.Stacks,I64 y.Height]) (Gy H1 O O O) O (JLh (LS 1 (E1) y.Stacks) (Gk Gn O O O) O (JLm (E7 a) O (JLh (.dptr [E1 c]) (Gz (f:=(E1)) (xs:=y.Stacks) (y:=c) O O O Gd m O) O (JLh (E1 c) (Gk H4 O O O) O ?_)))))))))
  obtain⟨p,h⟩:=Hz h
  refine JLh (OW 1073 1 I64 (b++c)) (G22 (f:=I64) (xs:=b) (ys:=c) O O O O G7 Qx p (fun _=>O) (.inl O)) O (JLm (OW 1073 1 I64 (b++c)) O (G6 (o (G1 (JLm (E7 a) O (JLh (I64 ((a+1:Nat):Int)) (Hv (Hh e z) O O O) O (JLm (I64 ((a+1:Nat):Int)) O (G6 (x _ _ (a+1) (b++c) (app1 n h) (by omega) ⟨(.sm O O),⟨⟨_,rfl,.same⟩,G⟩,rfl⟩)))))))))
 ·
  have h:=app1 g (Hq d (Ha hb))
  refine Hd (u (Jr fun q=>(JLm (OW 1073 1 I64 b) O (JLm (OW 1073 1 I64 b) O (G6 (q (H0 (fin1l (fun r:(List Int)=>(E1 r:AV)) h))))))))

def Q5 (F:Nat) (y:Gq):Option Bool:=
 bif ((((decide (y.Height < 1))||(decide (6 < y.Height)))||(decide ((y.Stacks.length:Int)=0)))||(decide (30 < (y.Stacks.length:Int)))) then
 (some false)
 else
 (each (fun g m (h:Unit) d=>
   bif decide (y.Height < (g.length:Int)) then
   (some false)
   else
   (d ()))
  (fun(h:Unit)=>
   bnd (Qj y) fun b=>
   each (fun a c (i:Unit) e=>
    bif ((decide (a < 1))||(decide (999999 < a))) then
    (some false)
    else
    (need (decide ((c:Int)≤9223372036854775807)) <|
     upto (fun j (k:Unit) f=>
      Qu b (j:Int) fun l=>
      bif decide (l=a) then
      (some false)
      else
      (f ()))
     (fun(k:Unit)=>
      e ()) (c:Int).toNat 0 ()))
   (fun(i:Unit)=>
    some true) b 0 ()) y.Stacks 0 ())
theorem Zf (F:Nat) (y:Gq) (r:Bool) (h:Q5 F y=some r):Pure E8 88 [.agg [LS 1 (E1) y.Stacks,I64 y.Height]] (·=BL r):=by
 unfold Q5 at h
 refine Hc [.tmp 2] Try.func88 O O (Jr fun d5=>(JLh (.ptr 1088 0) (Q3 (cs:=[LS 1 (E1) y.Stacks,I64 y.Height]) 1088 O O O O O) O (JLm (BL false) O (G6 (d5 (H5 [(1,.dptr [LS 1 (E1) y.Stacks,I64 y.Height])] [] 1088 rfl rfl rfl G rfl (by exact⟨.ptr,G⟩) (Js fun d6=>?_)))))))
 refine Jr fun d7=>(JLh (.dptr [I64 y.Height]) (Gy G07 O O O) O (JLh (I64 y.Height) (Gk Gg O O O) O (JLh (BL (decide (y.Height < 1))) (Hu O O O) O (JLm (BL (decide (y.Height < 1))) O (JLo (.dptr [I64 y.Height]) [] O .scf G (fun hc=>Gy G07 O O O) O (JLo (I64 y.Height) [11] O .scf ⟨Ua,G⟩ (fun hc=>Gk Gg O O O) O (JLo (BL (decide (6 < y.Height))) [12] O .scf ⟨Ua,G⟩ (fun hc=>Rz O O O) O (JLh (BL ((decide (y.Height < 1))||(decide (6 < y.Height)))) (Za O O O O) O (JLm (BL ((decide (y.Height < 1))||(decide (6 < y.Height)))) O (JLo (.dptr [LS 1 (E1) y.Stacks,I64 y.Height]) [] O .scf G (fun hc=>Gy H1 O O O) O (JLo (LS 1 (E1) y.Stacks) [16] O .scf ⟨Ua,G⟩ (fun hc=>Gk Gn O O O) O (JLo (E7 y.Stacks.length) [17] O .scf ⟨Ua,G⟩ (fun hc=>Q6 (f:=(E1)) (xs:=y.Stacks) Gd O O) O (JLo (BL (decide ((y.Stacks.length:Int)=0))) [18] O .scf ⟨Ua,G⟩ (fun hc=>Rq O O O) O ?_)))))))))))))
 refine JLh (BL (((decide (y.Height < 1))||(decide (6 < y.Height)))||(decide ((y.Stacks.length:Int)=0)))) (Za O O O O) O (JLm (BL (((decide (y.Height < 1))||(decide (6 < y.Height)))||(decide ((y.Stacks.length:Int)=0)))) O (JLo (.dptr [LS 1 (E1) y.Stacks,I64 y.Height]) [] O .scf G (fun hc=>Gy H1 O O O) O (JLo (LS 1 (E1) y.Stacks) [22] O .scf ⟨Ua,G⟩ (fun hc=>Gk Gn O O O) O (JLo (E7 y.Stacks.length) [23] O .scf ⟨Ua,G⟩ (fun hc=>Q6 (f:=(E1)) (xs:=y.Stacks) Gd O O) O (JLo (BL (decide (30 < (y.Stacks.length:Int)))) [24] O .scf ⟨Ua,G⟩ (fun hc=>Rz O O O) O (JLh (BL ((((decide (y.Height < 1))||(decide (6 < y.Height)))||(decide ((y.Stacks.length:Int)=0)))||(decide (30 < (y.Stacks.length:Int))))) (Za O O O O) O (G6 (d7 ?_))))))))
 refine JCc O h ?_ ?_<;>intro h hb
 ·
  refine Jr fun d8=>(JLm (BL false) O (G6 (d8 (H0 (fin1 BL h)))))
 ·
  refine Gi (d6 (Js fun d9=>Jr fun e0=>(JLm (I64 0) O (G6 (e0 (Gf ?_))))))
  obtain⟨e1,x,z,u,h⟩:=J0 h
  refine H7 (fun c (j:Unit)=>each e1 x (List.drop c y.Stacks) c j=some r) (fun c j=>[(1,.dptr [LS 1 (E1) y.Stacks,I64 y.Height]),(3,E7 c)]) (fun c j=>[]) (fun c=>y.Stacks.length - c) 0 () h ⟨(.sm O O),G,O⟩ ?_
  clear h
  intro c j n f0 e2
  refine Js fun a0=>Jr fun a1=>(JLm (E7 c) O (JLh (.dptr [LS 1 (E1) y.Stacks,I64 y.Height]) (Gy H1 O O O) O (JLh (LS 1 (E1) y.Stacks) (Gk Gn O O O) O (JLl Gd O O O fun a2=>(JLh (BL (decide ((c:Int) < (y.Stacks.length:Int)))) (Hu O O O) O (G6 (a1 (Gh O (fun hb=>?_) (fun hb=>?_)))))))))
  ·
   have o:=Jn hb
   obtain⟨g,e7,a3,a4,h⟩:=Hp n o
   replace h:=Y1 z h
   refine Gi (a0 (Js fun a5=>Gf (Js fun a6=>JC_d0 Jf (by kernel_rfl) (Dq (.dptr [LS 1 (E1) y.Stacks,I64 y.Height]) (Gy H1 O O O) O (Dq (LS 1 (E1) y.Stacks) (Gk Gn O O O) O (Dq (E7 c) (G2 O O) O (Dq (.dptr [E1 g]) (Gz (f:=(E1)) (xs:=y.Stacks) (y:=g) O O O Gd a3 O) O (Dq (E1 g) (Gk H4 O O O) O (Dq (E7 g.length) (Q6 (f:=I64) (xs:=g) G7 O O) O (Dq (.dptr [I64 y.Height]) (Gy G07 O O O) O (Dq (I64 y.Height) (Gk Gg O O O) O (Dq (BL (decide (y.Height < (g.length:Int)))) (Rz O O O) O (Dnil (a6 (JCc O h (fun h hb=>?_) (fun h hb=>?_))))))))))))))))
   ·
    refine Jr fun a7=>(JLm (BL false) O (G6 (a7 (H0 (fin1 BL h)))))
   ·
    refine Gi (a5 (G1 (JLm (E7 c) O (JLh (I64 ((c+1:Nat):Int)) (Hv (Hh o a2) O O O) O (JLm (I64 ((c+1:Nat):Int)) O (G6 (e2 _ _ (c+1) () (app1 a4 h) (by omega) ⟨(.sm O O),G,rfl⟩)))))))
  ·
   have h:=app1 u (Hq n (Ha hb))
   refine Hd (d9 (Jr fun a8=>(JLh (.agg [LS 1 (E1) y.Stacks,I64 y.Height]) (Gv He O O O) O ?_)))
   obtain⟨b,a9,h⟩:=Gc h
   refine JLh (E1 b) (Gr O (G2d y b a9) Hc9 ⟨O,O,G⟩) O (JLm (E1 b) O (G6 (a8 (Js fun b0=>Jr fun b1=>(JLm (I64 0) O (G6 (b1 (Gf ?_))))))))
   obtain⟨e3,b2,b3,v,h⟩:=J0 h
   refine H7 (fun a (k:Unit)=>each e3 b2 (List.drop a b) a k=some r) (fun a k=>[(4,E1 b),(5,E7 a)]) (fun a k=>[]) (fun a=>b.length - a) 0 () h ⟨(.sm O O),G,O⟩ ?_
   clear h
   intro a k p f1 e4
   refine Js fun b4=>Jr fun b5=>(JLm (E7 a) O (JLm (E1 b) O (JLl G7 O O O fun b6=>(JLh (BL (decide ((a:Int) < (b.length:Int)))) (Hu O O O) O (G6 (b5 (Gh O (fun hb=>?_) (fun hb=>?_))))))))
   ·
    have q:=Jn hb
    obtain⟨d,e8,i,b7,h⟩:=Hp p q
    replace h:=Y1 b3 h
    refine Gi (b4 (Js fun b8=>Gf (Js fun b9=>Jr fun c0=>(JLm (E1 b) O (JLm (E7 a) O (JLh (.dptr [I64 d]) (Gz (f:=I64) (xs:=b) (y:=d) O O O G7 i O) O (JLh (I64 d) (Gk Gg O O O) O (JLh (BL (decide (d < 1))) (Hu O O O) O (JLm (BL (decide (d < 1))) O (JLo (E1 b) [] O .scf G (fun hc=>G2 O O) O (JLo (E7 a) [] O .scf G (fun hc=>G2 O O) O (JLo (.dptr [I64 d]) [57,58] O .scf ⟨Ua,Ua,G⟩ (fun hc=>Gz (f:=I64) (xs:=b) (y:=d) O O O G7 i O) O (JLo (I64 d) [59] O .scf ⟨Ua,G⟩ (fun hc=>Gk Gg O O O) O (JLo (BL (decide (999999 < d))) [60] O .scf ⟨Ua,G⟩ (fun hc=>Rz O O O) O (JLh (BL ((decide (d < 1))||(decide (999999 < d)))) (Za O O O O) O (G6 (c0 ?_)))))))))))))))))
    refine JCc O h ?_ ?_<;>intro h hb
    ·
     refine Jr fun c1=>(JLm (BL false) O (G6 (c1 (H0 (fin1 BL h)))))
    ·
     refine Gi (b9 (Jr fun c2=>(JLm (I64 0) O (G6 (c2 (Gf ?_))))))
     obtain⟨c3,h⟩:=Hz h
     obtain⟨e5,c4,c5,w,h⟩:=Gae h
     refine H7 (fun e (l:Unit)=>upto e5 c4 ((a:Int).toNat - e) e l=some r) (fun e l=>[(4,E1 b),(5,E7 a),(6,E7 e)]) (fun e l=>[]) (fun e=>(a:Int).toNat - e) 0 () h ⟨(.sm O O),G,O⟩ ?_
     clear h
     intro e l s f2 e6
     refine Js fun c6=>Jr fun c7=>(JLm (E7 e) O (JLm (E7 a) O (JLh (BL (decide ((e:Int) < (a:Int)))) (Hu O O O) O (G6 (c7 (Gh O (fun hb=>?_) (fun hb=>?_)))))))
     ·
      have t:=G76 hb
      obtain⟨e9,c8,h⟩:=G70 s t
      replace h:=J75 c5 h
      refine Gi (c6 (Js fun c9=>Gf (Js fun d0=>?_)))
      obtain⟨f3,m,d1,d2,h⟩:=Qs h
      refine JC_d0 Jf (by kernel_rfl) (Dq (E1 b) (G2 O O) O (Dq (E7 e) (G2 O O) O (Dq (.dptr [I64 m]) (Gz (f:=I64) (xs:=b) (y:=m) O O O G7 d2 d1) O (Dq (I64 m) (Gk Gg O O O) O (Dq (E1 b) (G2 O O) O (Dq (E7 a) (G2 O O) O (Dq (.dptr [I64 d]) (Gz (f:=I64) (xs:=b) (y:=d) O O O G7 i O) O (Dq (I64 d) (Gk Gg O O O) O (Dq (BL (decide (m=d))) (Rq O O O) O (Dnil (d0 (JCc O h (fun h hb=>?_) (fun h hb=>?_)))))))))))))
      ·
       refine Jr fun d3=>(JLm (BL false) O (G6 (d3 (H0 (fin1 BL h)))))
      ·
       refine Gi (c9 (G1 (JLm (E7 e) O (JLh (I64 ((e+1:Nat):Int)) (Hv (Hh t (G39 c3)) O O O) O (JLm (I64 ((e+1:Nat):Int)) O (G6 (e6 _ _ (e+1) () (app1 c8 h) (by omega) ⟨(.sm O O),G,rfl⟩)))))))
     ·
      have h:=app1 w (G71 s (Z4 hb))
      refine Hd (b8 (G1 (JLm (E7 a) O (JLh (I64 ((a+1:Nat):Int)) (Hv (Hh q b6) O O O) O (JLm (I64 ((a+1:Nat):Int)) O (G6 (e4 _ _ (a+1) () (app1 b7 h) (by omega) ⟨(.sm O O),G,rfl⟩)))))))
   ·
    have h:=app1 v (Hq p (Ha hb))
    refine Hd (b0 (Jr fun d4=>(JLm (BL true) O (G6 (d4 (H0 (fin1 BL h)))))))

def Qr (F:Nat) (y:Gq) (box:Int):Option (Int×Int×Bool):=
 each (fun f g (h:Unit) b=>
  each (fun c d (e:Unit) a=>
   bif decide (c=box) then
   (some ((g:Int),(d:Int),true))
   else
   (a ()))
  (fun(e:Unit)=>
   b ()) f 0 ())
 (fun(h:Unit)=>
  some (0,0,false)) y.Stacks 0 ()
theorem G42 (F:Nat) (y:Gq) (box:Int) (r:Int×Int×Bool) (h:Qr F y box=some r):Pure E8 89 [.agg [LS 1 (E1) y.Stacks,I64 y.Height],I64 box] (·=.tup [I64 r.1,I64 r.2.1,BL r.2.2]):=by
 unfold Qr at h
 refine Hc [.tmp 4,.tmp 5,.tmp 6] Try.func89 O O (Jr fun a3=>(JLh (.ptr 1089 0) (Q3 (cs:=[LS 1 (E1) y.Stacks,I64 y.Height]) 1089 O O O O O) O (JLm (I64 0) O (JLm (I64 0) O (JLm (BL false) O (G6 (a3 (H5 [(1,I64 box),(2,.dptr [LS 1 (E1) y.Stacks,I64 y.Height])] [] 1089 rfl rfl rfl G rfl (by exact⟨.conv (.same rfl),.ptr,G⟩) (Js fun a4=>Jr fun a5=>(JLm (I64 0) O (G6 (a5 (Gf ?_)))))))))))))
 obtain⟨b4,a6,a7,o,h⟩:=J0 h
 refine H7 (fun b (j:Unit)=>each b4 a6 (List.drop b y.Stacks) b j=some r) (fun b j=>[(1,I64 box),(2,.dptr [LS 1 (E1) y.Stacks,I64 y.Height]),(7,E7 b)]) (fun b j=>[]) (fun b=>y.Stacks.length - b) 0 () h ⟨(.sm O O),G,O⟩ ?_
 clear h
 intro b j l K4 e4
 refine Js fun a8=>Jr fun a9=>(JLm (E7 b) O (JLh (.dptr [LS 1 (E1) y.Stacks,I64 y.Height]) (Gy H1 O O O) O (JLh (LS 1 (E1) y.Stacks) (Gk Gn O O O) O (JLl Gd O O O fun p=>(JLh (BL (decide ((b:Int) < (y.Stacks.length:Int)))) (Hu O O O) O (G6 (a9 (Gh O (fun hb=>?_) (fun hb=>?_)))))))))
 ·
  have m:=Jn hb
  obtain⟨c,b9,n,b0,h⟩:=Hp l m
  replace h:=Y1 a7 h
  refine Gi (a8 (Js fun b1=>Gf (Jr fun b2=>(JLm (I64 0) O (G6 (b2 (Gf ?_)))))))
  obtain⟨b3,q,s,k,h⟩:=J0 h
  refine H7 (fun a (d:Unit)=>each b3 q (List.drop a c) a d=some r) (fun a d=>[(1,I64 box),(2,.dptr [LS 1 (E1) y.Stacks,I64 y.Height]),(7,E7 b),(8,E7 a)]) (fun a d=>[]) (fun a=>c.length - a) 0 () h ⟨(.sm O O),G,rfl⟩ ?_
  clear h
  intro a d g c0 b5
  refine Js fun t=>Jr fun u=>(JLm (E7 a) O (JLh (.dptr [LS 1 (E1) y.Stacks,I64 y.Height]) (Gy H1 O O O) O (JLh (LS 1 (E1) y.Stacks) (Gk Gn O O O) O (JLm (E7 b) O (JLh (.dptr [E1 c]) (Gz (f:=(E1)) (xs:=y.Stacks) (y:=c) O O O Gd n O) O (JLh (E1 c) (Gk H4 O O O) O (JLl G7 O O O fun v=>(JLh (BL (decide ((a:Int) < (c.length:Int)))) (Hu O O O) O (G6 (u (Gh O (fun hb=>?_) (fun hb=>?_))))))))))))
  ·
   have i:=Jn hb
   obtain⟨e,b8,w,x,h⟩:=Hp g i
   replace h:=Y1 s h
   refine Gi (t (Js fun z=>Gf (Jr fun a0=>(JLh (.dptr [LS 1 (E1) y.Stacks,I64 y.Height]) (Gy H1 O O O) O (JLh (LS 1 (E1) y.Stacks) (Gk Gn O O O) O (JLm (E7 b) O (JLh (.dptr [E1 c]) (Gz (f:=(E1)) (xs:=y.Stacks) (y:=c) O O O Gd n O) O (JLh (E1 c) (Gk H4 O O O) O (JLm (E7 a) O (JLh (.dptr [I64 e]) (Gz (f:=I64) (xs:=c) (y:=e) O O O G7 w O) O (JLh (I64 e) (Gk Gg O O O) O (JLm (I64 box) O (JLh (BL (decide (e=box))) (Rq O O O) O (G6 (a0 (JCc O h (fun h hb=>?_) (fun h hb=>?_)))))))))))))))))
   ·
    refine Jr fun a1=>(JLm (E7 b) O (JLm (E7 a) O (JLm (E7 b) O (JLm (E7 a) O (JLm (BL true) O (G6 (a1 (H0 (⟨[E7 b,E7 a,BL true],[],G,O,⟨⟨_,O,.conv (.same O)⟩,⟨_,O,.conv (.same O)⟩,⟨_,O,.conv (.same O)⟩,G⟩,O,congrArg (fun r:Int×Int×Bool=>(.tup [I64 r.1,I64 r.2.1,BL r.2.2]:AV)) (Ez h)⟩)))))))))
   ·
    refine Gi (z (G1 (JLm (E7 a) O (JLh (I64 ((a+1:Nat):Int)) (Hv (Hh i v) O O O) O (JLm (I64 ((a+1:Nat):Int)) O (G6 (b5 _ _ (a+1) () (app1 x h) (by omega) ⟨(.sm O O),G,rfl⟩)))))))
  ·
   have h:=app1 k (Hq g (Ha hb))
   refine Hd (b1 (G1 (JLm (E7 b) O (JLh (I64 ((b+1:Nat):Int)) (Hv (Hh m p) O O O) O (JLm (I64 ((b+1:Nat):Int)) O (G6 (e4 _ _ (b+1) () (app1 b0 h) (by omega) ⟨(.sm O O),G,rfl⟩)))))))
 ·
  have h:=app1 o (Hq l (Ha hb))
  refine Hd (a4 (Jr fun a2=>(JLm (I64 0) O (JLm (I64 0) O (JLm (BL false) O (G6 (a2 (H0 (⟨[I64 0,I64 0,BL false],[],G,O,⟨⟨_,O,.conv (.same O)⟩,⟨_,O,.conv (.same O)⟩,⟨_,O,.conv (.same O)⟩,G⟩,O,congrArg (fun r:Int×Int×Bool=>(.tup [I64 r.1,I64 r.2.1,BL r.2.2]:AV)) (Ez h)⟩)))))))))

def J5 (order:List Int) (box:Int):Option Int:=
 each (fun b c (d:Unit) a=>
  bif decide (b=box) then
  (some (c:Int))
  else
  (a ()))
 (fun(d:Unit)=>
  some (order.length:Int)) order 0 ()
theorem Jb (order:List Int) (box:Int) (r:Int) (h:J5 order box=some r):Pure E8 90 [E1 order,I64 box] (·=I64 r):=by
 unfold J5 at h
 refine Hc [.tmp 4] Try.func90 O O (Jr fun t=>(JLm (I64 0) O (G6 (t (Js fun u=>Jr fun v=>(JLm (I64 0) O (G6 (v (Gf ?_)))))))))
 obtain⟨w,i,j,g,h⟩:=J0 h
 refine H7 (fun a (b:Unit)=>each w i (List.drop a order) a b=some r) (fun a b=>[(0,E1 order),(1,I64 box),(5,E7 a)]) (fun a b=>[]) (fun a=>order.length - a) 0 () h ⟨(.sm O O),G,O⟩ ?_
 clear h
 intro a b d a2 x
 refine Js fun k=>Jr fun l=>(JLm (E7 a) O (JLm (E1 order) O (JLl G7 O O O fun z=>(JLh (BL (decide ((a:Int) < (order.length:Int)))) (Hu O O O) O (G6 (l (Gh O (fun hb=>?_) (fun hb=>?_))))))))
 ·
  have e:=Jn hb
  obtain⟨c,a0,m,n,h⟩:=Hp d e
  replace h:=Y1 j h
  refine Gi (k (Js fun o=>Gf (Jr fun p=>(JLm (E1 order) O (JLm (E7 a) O (JLh (.dptr [I64 c]) (Gz (f:=I64) (xs:=order) (y:=c) O O O G7 m O) O (JLh (I64 c) (Gk Gg O O O) O (JLm (I64 box) O (JLh (BL (decide (c=box))) (Rq O O O) O (G6 (p (JCc O h (fun h hb=>?_) (fun h hb=>?_)))))))))))))
  ·
   refine Jr fun q=>(JLm (E7 a) O (JLm (E7 a) O (G6 (q (H0 (fin1 I64 h))))))
  ·
   refine Gi (o (G1 (JLm (E7 a) O (JLh (I64 ((a+1:Nat):Int)) (Hv (Hh e z) O O O) O (JLm (I64 ((a+1:Nat):Int)) O (G6 (x _ _ (a+1) () (app1 n h) (by omega) ⟨(.sm O O),G,rfl⟩)))))))
 ·
  have h:=app1 g (Hq d (Ha hb))
  refine Hd (u (Jr fun s=>(JLm (E1 order) O (JLl G7 O O O fun a1=>(JLm (E7 order.length) O (G6 (s (H0 (fin1 I64 h)))))))))

def Jw (F:Nat) (y:Gq) (order:List Int):Option Bool:=
 bnd (Q5 F y) fun g=>
 bif (!g) then
 (some false)
 else
 (each (fun a d (e:Unit) c=>
   bnd (Qr F y a) fun b=>
   bnd (bif (!(!b.2.2)) then J5 order a else some default) fun f=>
   bif ((!b.2.2)||(decide (f≠(d:Int)))) then
   (some false)
   else
   (c ()))
  (fun(e:Unit)=>
   some true) order 0 ())
theorem Ru (F:Nat) (y:Gq) (order:List Int) (r:Bool) (h:Jw F y order=some r):Pure E8 65 [.agg [LS 1 (E1) y.Stacks,I64 y.Height],E1 order] (·=BL r):=by
 unfold Jw at h
 refine Hc [.tmp 4] Try.func65 O O (Jr fun a2=>(JLh (.ptr 1064 0) (Q3 (cs:=[LS 1 (E1) y.Stacks,I64 y.Height]) 1064 O O O O O) O (JLm (BL false) O (G6 (a2 (H5 [(1,E1 order),(2,.dptr [LS 1 (E1) y.Stacks,I64 y.Height])] [] 1064 rfl rfl rfl G rfl (by exact⟨.conv (.same rfl),.ptr,G⟩) (Js fun a3=>Jr fun a4=>(JLh (.agg [LS 1 (E1) y.Stacks,I64 y.Height]) (Gv He O O O) O ?_))))))))
 obtain⟨l,a5,h⟩:=Gc h
 refine JLh (BL l) (Gr O (Zf F y l a5) H32 ⟨O,O,G⟩) O (JLh (BL (!l)) (Yr (b:=l) O O) O (G6 (a4 (JCc O h (fun h hb=>?_) (fun h hb=>?_)))))
 ·
  refine Jr fun a6=>(JLm (BL false) O (G6 (a6 (H0 (fin1 BL h)))))
 ·
  refine Gi (a3 (Js fun a7=>Jr fun a8=>(JLm (I64 0) O (G6 (a8 (Gf ?_))))))
  obtain⟨a9,n,o,m,h⟩:=J0 h
  refine H7 (fun a (e:Unit)=>each a9 n (List.drop a order) a e=some r) (fun a e=>[(1,E1 order),(2,.dptr [LS 1 (E1) y.Stacks,I64 y.Height]),(5,E7 a)]) (fun a e=>[]) (fun a=>order.length - a) 0 () h ⟨(.sm O O),G,O⟩ ?_
  clear h
  intro a e i b2 b0
  refine Js fun p=>Jr fun q=>(JLm (E7 a) O (JLm (E1 order) O (JLl G7 O O O fun s=>(JLh (BL (decide ((a:Int) < (order.length:Int)))) (Hu O O O) O (G6 (q (Gh O (fun hb=>?_) (fun hb=>?_))))))))
  ·
   have j:=Jn hb
   obtain⟨d,b1,k,t,h⟩:=Hp i j
   replace h:=Y1 o h
   refine Gi (p (Js fun u=>Gf (Js fun v=>?_)))
   obtain⟨c,w,h⟩:=Gc h
   refine JC_d0 Jf (by kernel_rfl) (Dq (.agg [LS 1 (E1) y.Stacks,I64 y.Height]) (Gv He O O O) O (Dq (E1 order) (G2 O O) O (Dq (E7 a) (G2 O O) O (Dq (.dptr [I64 d]) (Gz (f:=I64) (xs:=order) (y:=d) O O O G7 k O) O (Dq (I64 d) (Gk Gg O O O) O (Dq (.tup [I64 c.1,I64 c.2.1,BL c.2.2]) (Gr (args:=[.agg [LS 1 (E1) y.Stacks,I64 y.Height],I64 d]) O (G42 F y d c w) Hc3 ⟨O,O,O,O,G⟩) O (Dq (.tup [I64 c.1,I64 c.2.1,BL c.2.2]) (G2 O O) O (Dq (I64 c.1) (Gs O O O) O (Dq (I64 c.2.1) (Gs O O O) O (Dq (BL c.2.2) (Gs O O O) O (Dq (I64 c.1) (G4 O O) O (Dq (I64 c.2.1) (G4 O O) O (Dq (BL c.2.2) (G4 O O) O (Dnil (v ?_)))))))))))))))
   refine Jr fun x=>(JLm (BL c.2.2) O (JLh (BL (!c.2.2)) (Yr (b:=c.2.2) O O) O (JLm (BL (!c.2.2)) O (JLo (E1 order) [] O .scf G (fun hc=>G2 O O) O (JLo (E1 order) [] O .scf G (fun hc=>G2 O O) O (JLo (E7 a) [] O .scf G (fun hc=>G2 O O) O (JLo (.dptr [I64 d]) [32,33] O .scf ⟨Ua,Ua,G⟩ (fun hc=>Gz (f:=I64) (xs:=order) (y:=d) O O O G7 k O) O (JLo (I64 d) [34] O .scf ⟨Ua,G⟩ (fun hc=>Gk Gg O O O) O ?_))))))))
   obtain⟨g,z,h⟩:=Gc h
   refine JLo (I64 g) [31,35] O .scf ⟨Ua,Ua,G⟩ (fun hc=>Gr (args:=[E1 order,I64 d]) O (Jb order d g (H3 hc z)) Zc ⟨O,O,O,O,G⟩) O (JLo (E7 a) [] O .scf G (fun hc=>G2 O O) O (JLo (BL (decide (g≠(a:Int)))) [36,37] O .scf ⟨Ua,Ua,G⟩ (fun hc=>G06 O O O) O (JLh (BL ((!c.2.2)||(decide (g≠(a:Int))))) (Za O O O O) O (G6 (x (JCc O h (fun h hb=>?_) (fun h hb=>?_)))))))
   ·
    refine Jr fun a0=>(JLm (BL false) O (G6 (a0 (H0 (fin1 BL h)))))
   ·
    refine Gi (u (G1 (JLm (E7 a) O (JLh (I64 ((a+1:Nat):Int)) (Hv (Hh j s) O O O) O (JLm (I64 ((a+1:Nat):Int)) O (G6 (b0 _ _ (a+1) () (app1 t h) (by omega) ⟨(.sm O O),G,rfl⟩)))))))
  ·
   have h:=app1 m (Hq i (Ha hb))
   refine Hd (a7 (Jr fun a1=>(JLm (BL true) O (G6 (a1 (H0 (fin1 BL h)))))))

def Q9 (y:Gq) (stack:Int) (boxes:List Int):Option Gq:=
 each (fun b e (a:(List (List Int))×Int) d=>
  jp (fun c=>
   bif decide ((e:Int)=stack) then
   (need (decide ((([]:List Int).length+boxes.length)*8≤140737488355328∧([]:List Int).length+boxes.length≤maxLen)) <|
    need (decide ((a.1.length+[(([]:List Int)++boxes)].length)*24≤140737488355328∧a.1.length+[(([]:List Int)++boxes)].length≤maxLen)) <|
    c (a.1++[(([]:List Int)++boxes)]))
   else
   (need (decide ((([]:List Int).length+b.length)*8≤140737488355328∧([]:List Int).length+b.length≤maxLen)) <|
    need (decide ((a.1.length+[(([]:List Int)++b)].length)*24≤140737488355328∧a.1.length+[(([]:List Int)++b)].length≤maxLen)) <|
    c (a.1++[(([]:List Int)++b)]))) fun(f:(List (List Int)))=>
  d (f,a.2))
 (fun(a:(List (List Int))×Int)=>
  some (Gq.mk a.1 a.2)) y.Stacks 0 ([],y.Height)
theorem Y2 (y:Gq) (stack:Int) (boxes:List Int) (r:Gq) (h:Q9 y stack boxes=some r):Pure E8 91 [.agg [LS 1 (E1) y.Stacks,I64 y.Height],I64 stack,E1 boxes] (·=.agg [LS 1 (E1) r.Stacks,I64 r.Height]):=by
 unfold Q9 at h
 refine Hc [.cell 6 67] Try.func91 O O (Jr fun a1=>(JLh (.ptr 1090 0) (Q3 (cs:=[LS 1 (E1) y.Stacks,I64 y.Height]) 1090 O O O O O) O (JLh (.ptr 1091 0) (Ga6 1091 [LS 1 (E1) ([]:List (List Int)),I64 0] [.slice none 0 0,E0] Y5 ⟨.inr ⟨_,O,O⟩,.inl O,G⟩ O O) O (G6 (a1 (fzQ [(1,I64 stack),(2,E1 boxes),(3,.dptr [LS 1 (E1) y.Stacks,I64 y.Height]),(6,.ptr 1091 0)] [(1091,.box 67 [LS 1 (E1) ([]:List (List Int)),I64 0])] 1090 rfl rfl rfl ⟨⟨_,rfl,.boxEq rfl rfl⟩,G⟩ rfl ?_))))))
 refine Jr fun a2=>(JLh (.dptr [I64 y.Height]) (Gy G07 O O O) O (JLh (I64 y.Height) (Gk Gg O O O) O (JLh (.agg [.sc (.slice none 0 0),I64 y.Height]) (Jk (cs:=[.sc (.slice none 0 0),I64 y.Height]) [(0,1),(1,1)] [.sc (.slice none 0 0),I64 0] [.slice none 0 0,E0] Yh Y5 (zzQ O) O O) O (JLh (.ptr 1092 0) (Jg 1092 2 Rx O O) O (J7 (u:=.junk) (Ho (u:=.agg [.sc (.slice none 0 0),I64 y.Height]) (ds:=[.sc (.slice none 0 0),I64 y.Height]) Jy O O O O O O O O) (H4b 1092 0 1095 25 1 O O O (cs':=[OW 1095 1 (E1) ([]:List (List Int)),I64 y.Height]) O (G6 (a2 (Js fun a3=>Jr fun a4=>(JLm (I64 0) O (G6 (a4 (Gf ?_)))))))))))))
 obtain⟨a5,l,m,j,h⟩:=J0 h
 refine H7 (fun c (a:(List (List Int))×Int)=>each a5 l (List.drop c y.Stacks) c a=some r) (fun c a=>[(1,I64 stack),(2,E1 boxes),(3,.dptr [LS 1 (E1) y.Stacks,I64 y.Height]),(6,.ptr 1091 0),(7,.ptr 1092 0),(8,E7 c)]) (fun c a=>[(1095,.spare 25 1 a.1.length a.1.length),(1091,.box 67 [LS 1 (E1) ([]:List (List Int)),I64 0]),(1092,.box 67 [OW 1095 1 (E1) a.1,I64 a.2])]) (fun c=>y.Stacks.length - c) 0 ([],y.Height) h ⟨(.sm O O),⟨⟨_,rfl,.same⟩,fbQ O (.sm O O),fbQ O (.sm O O),G⟩,rfl⟩ ?_
 clear h
 intro c a e a8 a6
 refine Js fun n=>Jr fun o=>(JLm (E7 c) O (JLh (.dptr [LS 1 (E1) y.Stacks,I64 y.Height]) (Gy H1 O O O) O (JLh (LS 1 (E1) y.Stacks) (Gk Gn O O O) O (JLl Gd O O O fun p=>(JLh (BL (decide ((c:Int) < (y.Stacks.length:Int)))) (Hu O O O) O (G6 (o (Gh O (fun hb=>?_) (fun hb=>?_)))))))))
 ·
  have g:=Jn hb
  obtain⟨b,a7,i,q,h⟩:=Hp e g
  replace h:=Y1 m h
  refine Gi (n ?_)
  obtain⟨s,k,h⟩:=Zw h
  refine Yw (fun d:(List (List Int))=>s d=some r) (fun d=>[(1,I64 stack),(2,E1 boxes),(3,.dptr [LS 1 (E1) y.Stacks,I64 y.Height]),(6,.ptr 1091 0),(7,.ptr 1092 0),(8,E7 c)]) (fun d=>[(1095,.spare 25 1 d.length d.length),(1091,.box 67 [LS 1 (E1) ([]:List (List Int)),I64 0]),(1092,.box 67 [OW 1095 1 (E1) d,I64 a.2])]) (fun Kj46 ej46=>?_) ?_
  ·
   refine Gf (Jr fun t=>(JLm (E7 c) O (JLm (I64 stack) O (JLh (BL (decide ((c:Int)=stack))) (Rq O O O) O (G6 (t (JCc O h (fun h hb=>?_) (fun h hb=>?_))))))))
   ·
    refine Qn (l':=[(1,I64 stack),(2,E1 boxes),(3,.dptr [LS 1 (E1) y.Stacks,I64 y.Height]),(6,.ptr 1091 0),(7,.ptr 1092 0),(8,E7 c)]) (L':=[(1095,.spare 25 1 a.1.length a.1.length),(1091,.box 67 [LS 1 (E1) ([]:List (List Int)),I64 0]),(1092,.box 67 [OW 1095 1 (E1) a.1,I64 a.2])]) ⟨(.sm O O),⟨⟨_,rfl,.same⟩,fbQ O (.sm O O),fbQ O (.sm O O),G⟩,rfl⟩ ?_
    obtain⟨v,h⟩:=Hz h
    obtain⟨w,h⟩:=Hz h
    refine Jt [2,4,6,8] [0,0,0,0,0,2,0,3,0] [2,2,0,1,0,2,0,3,0] [[(1095,.spare 25 1 a.1.length a.1.length),(1091,.box 67 [LS 1 (E1) ([]:List (List Int)),I64 0]),(1092,.box 67 [OW 1095 1 (E1) a.1,I64 a.2])],((1093,.spare 3 1 ([]:List Int).length ([]:List Int).length)::[(1095,.spare 25 1 a.1.length a.1.length),(1091,.box 67 [LS 1 (E1) ([]:List (List Int)),I64 0]),(1092,.box 67 [OW 1095 1 (E1) a.1,I64 a.2])]),((1093,.spare 3 1 (([]:List Int)++boxes).length (([]:List Int)++boxes).length)::((1093,.spare 3 1 ([]:List Int).length ([]:List Int).length)::[(1095,.spare 25 1 a.1.length a.1.length),(1091,.box 67 [LS 1 (E1) ([]:List (List Int)),I64 0]),(1092,.box 67 [OW 1095 1 (E1) a.1,I64 a.2])])),((1095,.spare 25 1 (a.1++[(([]:List Int)++boxes)]).length (a.1++[(([]:List Int)++boxes)]).length)::((1093,.spare 3 1 (([]:List Int)++boxes).length (([]:List Int)++boxes).length)::((1093,.spare 3 1 ([]:List Int).length ([]:List Int).length)::[(1095,.spare 25 1 a.1.length a.1.length),(1091,.box 67 [LS 1 (E1) ([]:List (List Int)),I64 0]),(1092,.box 67 [OW 1095 1 (E1) a.1,I64 a.2])]))),((1092,.box 67 [OW 1095 1 (E1) (a.1++[(([]:List Int)++boxes)]),I64 a.2])::((1095,.spare 25 1 (a.1++[(([]:List Int)++boxes)]).length (a.1++[(([]:List Int)++boxes)]).length)::((1093,.spare 3 1 (([]:List Int)++boxes).length (([]:List Int)++boxes).length)::((1093,.spare 3 1 ([]:List Int).length ([]:List Int).length)::[(1095,.spare 25 1 a.1.length a.1.length),(1091,.box 67 [LS 1 (E1) ([]:List (List Int)),I64 0]),(1092,.box 67 [OW 1095 1 (E1) a.1,I64 a.2])]))))] Jf (by kernel_rfl) rfl rfl ?_
    refine Gb (u:=.ptr 1092 0) O O ⟨Ga (Hs H1 O O) O,Ga (Hs H1 O O) O,Ga (Hs H1 O O) O,G⟩ (Gb (u:=OW 1095 1 (E1) a.1) O O ⟨Ga (Hr Gn O O O O) O,Ga (Hr Gn O O O O) O,Ga (Hr Gn O O O O) O,G⟩ (D_w (u:=OW 1093 1 I64 ([]:List Int)) O O O O (Ga (Gcf 1093 3 1 O O G7) O) (Gb (u:=E1 boxes) O O ⟨Ga (G2 O O) O,Ga (G2 O O) O,G⟩ (D_w (u:=OW 1093 1 I64 (([]:List Int)++boxes)) O O O O (Ga (G22 (f:=I64) (xs:=([]:List Int)) (ys:=boxes) O O O O G7 Qx v (fun _=>O) (.inl O)) O) (Gb (u:=LS 1 (E1) ([(([]:List Int)++boxes)])) O O ⟨Ga (H9 (xs:=[E1 (([]:List Int)++boxes)]) O ⟨O,O,G⟩ Gd Yo O O O O) O,G⟩ (D_w (u:=OW 1095 1 (E1) (a.1++[(([]:List Int)++boxes)])) O O O O (Ga (Rb (f:=(E1)) (xs:=a.1) (ys:=[(([]:List Int)++boxes)]) O O O O Gd G34 w (fun _=>O) (.inl O) O) O) (Gb (u:=.ptr 1092 0) O O ⟨Ga (Hs H1 O O) O,G⟩ (Gfb (u:=.junk) O O O O (Ga (Ho (u:=OW 1095 1 (E1) (a.1++[(([]:List Int)++boxes)])) (ds:=[OW 1095 1 (E1) (a.1++[(([]:List Int)++boxes)]),I64 a.2]) G95 O O O O O O O O) O) (R9 ?_)))))))))
    exact ej46 _ _ (a.1++[(([]:List Int)++boxes)]) h ⟨(.sm O O),⟨⟨_,rfl,.same⟩,fbQ O (.sm O O),fbQ O (.sm O O),G⟩,rfl⟩
   ·
    refine Qn (l':=[(1,I64 stack),(2,E1 boxes),(3,.dptr [LS 1 (E1) y.Stacks,I64 y.Height]),(6,.ptr 1091 0),(7,.ptr 1092 0),(8,E7 c)]) (L':=[(1095,.spare 25 1 a.1.length a.1.length),(1091,.box 67 [LS 1 (E1) ([]:List (List Int)),I64 0]),(1092,.box 67 [OW 1095 1 (E1) a.1,I64 a.2])]) ⟨(.sm O O),⟨⟨_,rfl,.same⟩,fbQ O (.sm O O),fbQ O (.sm O O),G⟩,rfl⟩ ?_
    obtain⟨x,h⟩:=Hz h
    obtain⟨z,h⟩:=Hz h
    refine Jt [2,8,10,12] [0,0,0,0,0,0,0,0,0,2,0,3,0] [2,2,0,1,1,1,1,1,0,2,0,3,0] [[(1095,.spare 25 1 a.1.length a.1.length),(1091,.box 67 [LS 1 (E1) ([]:List (List Int)),I64 0]),(1092,.box 67 [OW 1095 1 (E1) a.1,I64 a.2])],((1094,.spare 3 1 ([]:List Int).length ([]:List Int).length)::[(1095,.spare 25 1 a.1.length a.1.length),(1091,.box 67 [LS 1 (E1) ([]:List (List Int)),I64 0]),(1092,.box 67 [OW 1095 1 (E1) a.1,I64 a.2])]),((1094,.spare 3 1 (([]:List Int)++b).length (([]:List Int)++b).length)::((1094,.spare 3 1 ([]:List Int).length ([]:List Int).length)::[(1095,.spare 25 1 a.1.length a.1.length),(1091,.box 67 [LS 1 (E1) ([]:List (List Int)),I64 0]),(1092,.box 67 [OW 1095 1 (E1) a.1,I64 a.2])])),((1095,.spare 25 1 (a.1++[(([]:List Int)++b)]).length (a.1++[(([]:List Int)++b)]).length)::((1094,.spare 3 1 (([]:List Int)++b).length (([]:List Int)++b).length)::((1094,.spare 3 1 ([]:List Int).length ([]:List Int).length)::[(1095,.spare 25 1 a.1.length a.1.length),(1091,.box 67 [LS 1 (E1) ([]:List (List Int)),I64 0]),(1092,.box 67 [OW 1095 1 (E1) a.1,I64 a.2])]))),((1092,.box 67 [OW 1095 1 (E1) (a.1++[(([]:List Int)++b)]),I64 a.2])::((1095,.spare 25 1 (a.1++[(([]:List Int)++b)]).length (a.1++[(([]:List Int)++b)]).length)::((1094,.spare 3 1 (([]:List Int)++b).length (([]:List Int)++b).length)::((1094,.spare 3 1 ([]:List Int).length ([]:List Int).length)::[(1095,.spare 25 1 a.1.length a.1.length),(1091,.box 67 [LS 1 (E1) ([]:List (List Int)),I64 0]),(1092,.box 67 [OW 1095 1 (E1) a.1,I64 a.2])]))))] Jf (by kernel_rfl) rfl rfl ?_
    refine Gb (u:=.ptr 1092 0) O O ⟨Ga (Hs H1 O O) O,Ga (Hs H1 O O) O,Ga (Hs H1 O O) O,G⟩ (Gb (u:=OW 1095 1 (E1) a.1) O O ⟨Ga (Hr Gn O O O O) O,Ga (Hr Gn O O O O) O,Ga (Hr Gn O O O O) O,G⟩ (D_w (u:=OW 1094 1 I64 ([]:List Int)) O O O O (Ga (Gcf 1094 3 1 O O G7) O) (Gb (u:=.dptr [LS 1 (E1) y.Stacks,I64 y.Height]) O O ⟨Ga (Gy H1 O O O) O,Ga (Gy H1 O O O) O,G⟩ (Gb (u:=LS 1 (E1) y.Stacks) O O ⟨Ga (Gk Gn O O O) O,Ga (Gk Gn O O O) O,G⟩ (Gb (u:=E7 c) O O ⟨Ga (G2 O O) O,Ga (G2 O O) O,G⟩ (Gb (u:=.dptr [E1 b]) O O ⟨Ga (Gz (f:=(E1)) (xs:=y.Stacks) (y:=b) O O O Gd i O) O,Ga (Gz (f:=(E1)) (xs:=y.Stacks) (y:=b) O O O Gd i O) O,G⟩ (Gb (u:=E1 b) O O ⟨Ga (Gk H4 O O O) O,Ga (Gk H4 O O O) O,G⟩ (D_w (u:=OW 1094 1 I64 (([]:List Int)++b)) O O O O (Ga (G22 (f:=I64) (xs:=([]:List Int)) (ys:=b) O O O O G7 Qx x (fun _=>O) (.inl O)) O) (Gb (u:=LS 1 (E1) ([(([]:List Int)++b)])) O O ⟨Ga (H9 (xs:=[E1 (([]:List Int)++b)]) O ⟨O,O,G⟩ Gd Yo O O O O) O,G⟩ (D_w (u:=OW 1095 1 (E1) (a.1++[(([]:List Int)++b)])) O O O O (Ga (Rb (f:=(E1)) (xs:=a.1) (ys:=[(([]:List Int)++b)]) O O O O Gd G34 z (fun _=>O) (.inl O) O) O) (Gb (u:=.ptr 1092 0) O O ⟨Ga (Hs H1 O O) O,G⟩ (Gfb (u:=.junk) O O O O (Ga (Ho (u:=OW 1095 1 (E1) (a.1++[(([]:List Int)++b)])) (ds:=[OW 1095 1 (E1) (a.1++[(([]:List Int)++b)]),I64 a.2]) G95 O O O O O O O O) O) (R9 ?_)))))))))))))
    exact ej46 _ _ (a.1++[(([]:List Int)++b)]) h ⟨(.sm O O),⟨⟨_,rfl,.same⟩,fbQ O (.sm O O),fbQ O (.sm O O),G⟩,rfl⟩
  ·intro d h
   replace h:=app1 k h
   refine G1 (JLm (E7 c) O (JLh (I64 ((c+1:Nat):Int)) (Hv (Hh g p) O O O) O (JLm (I64 ((c+1:Nat):Int)) O (G6 (a6 _ _ (c+1) (d,a.2) (app1 q h) (by omega) ⟨(.sm O O),⟨⟨_,rfl,.same⟩,fbQ O (.sm O O),fbQ O (.sm O O),G⟩,rfl⟩)))))
 ·
  have h:=app1 j (Hq e (Ha hb))
  refine Hd (a3 (Jr fun a0=>(JLh (.agg [OW 1095 1 (E1) a.1,I64 a.2]) (Je He O O O O) O (J7 (u:=.junk) (Ho (u:=.agg [OW 1095 1 (E1) a.1,I64 a.2]) (ds:=[OW 1095 1 (E1) a.1,I64 a.2]) Jy O O O O O O O O) (G6 (a0 (H0 (⟨[.agg [LS 1 (E1) a.1,I64 a.2]],[],G,O,⟨⟨_,⟨_,_,_,_,O,O,O,.inl ⟨He,O⟩⟩,.agg ⟨.list O,.same O,G⟩⟩,G⟩,O,congrArg (fun r:Gq=>(.agg [LS 1 (E1) r.Stacks,I64 r.Height]:AV)) (Ez h)⟩))))))))

def Jx (F:Nat) (y:Gq) (m:G9):Option (Gq×Int):=
 bnd (Q5 F y) fun i=>
 bif (!i) then
 (some ((Gq.mk [] 0),2))
 else
 (bif ((((decide (m.From < 0))||(decide (m.To < 0)))||(decide ((y.Stacks.length:Int)≤m.From)))||(decide ((y.Stacks.length:Int)≤m.To))) then
  (some ((Gq.mk [] 0),6))
  else
  (bif decide (m.From=m.To) then
   (some ((Gq.mk [] 0),340))
   else
   (Qu y.Stacks m.From fun a=>
    Qu y.Stacks m.To fun b=>
    bif decide ((a.length:Int)=0) then
    (some ((Gq.mk [] 0),341))
    else
    (bif decide (y.Height≤(b.length:Int)) then
     (some ((Gq.mk [] 0),4))
     else
     (need (decide ((([]:List Int).length+b.length)*8≤140737488355328∧([]:List Int).length+b.length≤maxLen)) <|
      chk ((a.length:Int) - 1) fun d=>
      Qu a d fun c=>
      need (decide (((([]:List Int)++b).length+[c].length)*8≤140737488355328∧(([]:List Int)++b).length+[c].length≤maxLen)) <|
      bnd (Q9 y m.To ((([]:List Int)++b)++[c])) fun e=>
      chk ((a.length:Int) - 1) fun f=>
      bnd (Rj f a.length) fun g=>
      bnd (Q9 e m.From (a.take g)) fun h=>
      some (h,0))))))
abbrev Ef (r:Gq×Int):List AV:=[.agg [LS 1 (E1) r.1.Stacks,I64 r.1.Height],I64 r.2]
theorem Rw (F:Nat) (y:Gq) (m:G9) (r:Gq×Int) (h:Jx F y m=some r):Pure E8 76 [.agg [LS 1 (E1) y.Stacks,I64 y.Height],.agg [I64 m.From,I64 m.To]] (·=.tup [.agg [LS 1 (E1) r.1.Stacks,I64 r.1.Height],I64 r.2]):=by
 unfold Jx at h
 refine Hc [.cell 4 67,.tmp 5] Try.func76 O O (Jr fun b3=>(JLh (.ptr 1083 0) (Q3 (cs:=[LS 1 (E1) y.Stacks,I64 y.Height]) 1083 O O O O O) O (JLh (.ptr 1084 0) (Q3 (cs:=[I64 m.From,I64 m.To]) 1084 O O O O O) O (JLh (.ptr 1085 0) (Ga6 1085 [LS 1 (E1) ([]:List (List Int)),I64 0] [.slice none 0 0,E0] Y5 ⟨.inr ⟨_,O,O⟩,.inl O,G⟩ O O) O (JLm (I64 0) O (G6 (b3 (H5 [(2,.dptr [LS 1 (E1) y.Stacks,I64 y.Height]),(3,.ptr 1084 0),(4,.ptr 1085 0)] [(1084,.box 64 [I64 m.From,I64 m.To]),(1085,.box 67 [LS 1 (E1) ([]:List (List Int)),I64 0])] 1083 rfl rfl rfl ⟨⟨_,rfl,.boxEq rfl rfl⟩,⟨_,rfl,.boxEq rfl rfl⟩,G⟩ rfl (by exact⟨.ptr,.conv (.same rfl),.conv (.same rfl),G⟩) ?_))))))))
 refine H5 [(2,.dptr [LS 1 (E1) y.Stacks,I64 y.Height]),(3,.dptr [I64 m.From,I64 m.To]),(4,.ptr 1085 0)] [(1085,.box 67 [LS 1 (E1) ([]:List (List Int)),I64 0])] 1084 rfl rfl rfl ⟨⟨_,rfl,.boxEq rfl rfl⟩,G⟩ rfl (by exact⟨.conv (.same rfl),.ptr,.conv (.same rfl),G⟩) (Js fun b4=>Jr fun b5=>(JLh (.agg [LS 1 (E1) y.Stacks,I64 y.Height]) (Gv He O O O) O ?_))
 obtain⟨p,b6,h⟩:=Gc h
 refine JLh (BL p) (Gr O (Zf F y p b6) H32 ⟨O,O,G⟩) O (JLh (BL (!p)) (Yr (b:=p) O O) O (G6 (b5 (JCc O h (fun h hb=>?_) (fun h hb=>?_)))))
 ·
  refine Jr fun b7=>(JLh (.agg [LS 1 (E1) ([]:List (List Int)),I64 0]) (Jk (cs:=[LS 1 (E1) ([]:List (List Int)),I64 0]) [(0,1),(1,1)] [LS 1 (E1) ([]:List (List Int)),I64 0] [.slice none 0 0,E0] Yh Y5 ⟨.inr ⟨_,O,O⟩,.inl O,G⟩ O O) O (J7 (u:=.junk) (Ho (u:=.agg [LS 1 (E1) ([]:List (List Int)),I64 0]) (ds:=[LS 1 (E1) ([]:List (List Int)),I64 0]) Jy O O O O O O O O) (JLm (I64 2) O (G6 (b7 (H0 (⟨[.agg [LS 1 (E1) ([]:List (List Int)),I64 0],I64 2],[],G,O,⟨⟨_,⟨_,_,_,_,O,O,O,.inl ⟨He,O⟩⟩,.conv (.same O)⟩,⟨_,O,.conv (.same O)⟩,G⟩,O,congrArg (fun r:Gq×Int=>(.tup (Ef r):AV)) (Ez h)⟩)))))))
 ·
  refine Gi (b4 (Js fun b8=>?_))
  refine Jr fun b9=>(JLh (.dptr [I64 m.From,I64 m.To]) (Gy G29 O O O) O (JLh (I64 m.From) (Gk Gg O O O) O (JLh (BL (decide (m.From < 0))) (Hu O O O) O (JLm (BL (decide (m.From < 0))) O (JLo (.dptr [I64 m.To]) [] O .scf G (fun hc=>Gy Qg O O O) O (JLo (I64 m.To) [17] O .scf ⟨Ua,G⟩ (fun hc=>Gk Gg O O O) O (JLo (BL (decide (m.To < 0))) [18] O .scf ⟨Ua,G⟩ (fun hc=>Hu O O O) O (JLh (BL ((decide (m.From < 0))||(decide (m.To < 0)))) (Za O O O O) O (JLm (BL ((decide (m.From < 0))||(decide (m.To < 0)))) O (JLo (.dptr [I64 m.From,I64 m.To]) [] O .scf G (fun hc=>Gy G29 O O O) O (JLo (I64 m.From) [22] O .scf ⟨Ua,G⟩ (fun hc=>Gk Gg O O O) O (JLo (.dptr [LS 1 (E1) y.Stacks,I64 y.Height]) [] O .scf G (fun hc=>Gy H1 O O O) O (JLo (LS 1 (E1) y.Stacks) [24] O .scf ⟨Ua,G⟩ (fun hc=>Gk Gn O O O) O ?_)))))))))))))
  refine JLo (E7 y.Stacks.length) [25] O .scf ⟨Ua,G⟩ (fun hc=>Q6 (f:=(E1)) (xs:=y.Stacks) Gd O O) O (JLo (BL (decide ((y.Stacks.length:Int)≤m.From))) [23,26] O .scf ⟨Ua,Ua,G⟩ (fun hc=>G45 O O O) O (JLh (BL (((decide (m.From < 0))||(decide (m.To < 0)))||(decide ((y.Stacks.length:Int)≤m.From)))) (Za O O O O) O (JLm (BL (((decide (m.From < 0))||(decide (m.To < 0)))||(decide ((y.Stacks.length:Int)≤m.From)))) O (JLo (.dptr [I64 m.To]) [] O .scf G (fun hc=>Gy Qg O O O) O (JLo (I64 m.To) [30] O .scf ⟨Ua,G⟩ (fun hc=>Gk Gg O O O) O (JLo (.dptr [LS 1 (E1) y.Stacks,I64 y.Height]) [] O .scf G (fun hc=>Gy H1 O O O) O (JLo (LS 1 (E1) y.Stacks) [32] O .scf ⟨Ua,G⟩ (fun hc=>Gk Gn O O O) O (JLo (E7 y.Stacks.length) [33] O .scf ⟨Ua,G⟩ (fun hc=>Q6 (f:=(E1)) (xs:=y.Stacks) Gd O O) O (JLo (BL (decide ((y.Stacks.length:Int)≤m.To))) [31,34] O .scf ⟨Ua,Ua,G⟩ (fun hc=>G45 O O O) O (JLh (BL ((((decide (m.From < 0))||(decide (m.To < 0)))||(decide ((y.Stacks.length:Int)≤m.From)))||(decide ((y.Stacks.length:Int)≤m.To)))) (Za O O O O) O (G6 (b9 ?_))))))))))))
  refine JCc O h ?_ ?_<;>intro h hb
  ·
   refine Jr fun c0=>(JLh (.agg [LS 1 (E1) ([]:List (List Int)),I64 0]) (Jk (cs:=[LS 1 (E1) ([]:List (List Int)),I64 0]) [(0,1),(1,1)] [LS 1 (E1) ([]:List (List Int)),I64 0] [.slice none 0 0,E0] Yh Y5 ⟨.inr ⟨_,O,O⟩,.inl O,G⟩ O O) O (J7 (u:=.junk) (Ho (u:=.agg [LS 1 (E1) ([]:List (List Int)),I64 0]) (ds:=[LS 1 (E1) ([]:List (List Int)),I64 0]) Jy O O O O O O O O) (JLm (I64 6) O (G6 (c0 (H0 (⟨[.agg [LS 1 (E1) ([]:List (List Int)),I64 0],I64 6],[],G,O,⟨⟨_,⟨_,_,_,_,O,O,O,.inl ⟨He,O⟩⟩,.conv (.same O)⟩,⟨_,O,.conv (.same O)⟩,G⟩,O,congrArg (fun r:Gq×Int=>(.tup (Ef r):AV)) (Ez h)⟩)))))))
  ·
   refine Gi (b8 (Js fun c1=>Jr fun s=>(JLh (.dptr [I64 m.From,I64 m.To]) (Gy G29 O O O) O (JLh (I64 m.From) (Gk Gg O O O) O (JLh (.dptr [I64 m.To]) (Gy Qg O O O) O (JLh (I64 m.To) (Gk Gg O O O) O (JLh (BL (decide (m.From=m.To))) (Rq O O O) O (G6 (s (JCc O h (fun h hb=>?_) (fun h hb=>?_)))))))))))
   ·
    refine Jr fun t=>(JLh (.agg [LS 1 (E1) ([]:List (List Int)),I64 0]) (Jk (cs:=[LS 1 (E1) ([]:List (List Int)),I64 0]) [(0,1),(1,1)] [LS 1 (E1) ([]:List (List Int)),I64 0] [.slice none 0 0,E0] Yh Y5 ⟨.inr ⟨_,O,O⟩,.inl O,G⟩ O O) O (J7 (u:=.junk) (Ho (u:=.agg [LS 1 (E1) ([]:List (List Int)),I64 0]) (ds:=[LS 1 (E1) ([]:List (List Int)),I64 0]) Jy O O O O O O O O) (JLm (I64 340) O (G6 (t (H0 (⟨[.agg [LS 1 (E1) ([]:List (List Int)),I64 0],I64 340],[],G,O,⟨⟨_,⟨_,_,_,_,O,O,O,.inl ⟨He,O⟩⟩,.conv (.same O)⟩,⟨_,O,.conv (.same O)⟩,G⟩,O,congrArg (fun r:Gq×Int=>(.tup (Ef r):AV)) (Ez h)⟩)))))))
   ·
    refine Gi (c1 (Js fun v=>Qn (l':=[(2,.dptr [LS 1 (E1) y.Stacks,I64 y.Height]),(3,.dptr [I64 m.From,I64 m.To]),(4,.ptr 1085 0)]) (L':=[(1085,.box 67 [LS 1 (E1) ([]:List (List Int)),I64 0])]) ⟨(.sm O O),⟨⟨_,O,.boxL O (.sm O O)⟩,G⟩,O⟩ ?_))
    obtain⟨c6,d,x,z,h⟩:=Qs h
    obtain⟨c7,a,a0,a1,h⟩:=Qs h
    refine JC_d0 Jf (by kernel_rfl) (Dq (.dptr [LS 1 (E1) y.Stacks,I64 y.Height]) (Gy H1 O O O) O (Dq (LS 1 (E1) y.Stacks) (Gk Gn O O O) O (Dq (.dptr [I64 m.From,I64 m.To]) (Gy G29 O O O) O (Dq (I64 m.From) (Gk Gg O O O) O (Dq (.dptr [E1 d]) (Gz (f:=(E1)) (xs:=y.Stacks) (y:=d) O O O Gd z x) O (Dq (E1 d) (Gk H4 O O O) O (Dq (.dptr [LS 1 (E1) y.Stacks,I64 y.Height]) (Gy H1 O O O) O (Dq (LS 1 (E1) y.Stacks) (Gk Gn O O O) O (Dq (.dptr [I64 m.To]) (Gy Qg O O O) O (Dq (I64 m.To) (Gk Gg O O O) O (Dq (.dptr [E1 a]) (Gz (f:=(E1)) (xs:=y.Stacks) (y:=a) O O O Gd a1 a0) O (Dq (E1 a) (Gk H4 O O O) O (Dq (E1 d) (G4 O O) O ?_)))))))))))))
    refine Dq (E1 a) (G4 O O) O (Dnil (v (Js fun a2=>Jr fun a3=>(JLm (E1 d) O (JLl G7 O O O fun c4=>(JLh (BL (decide ((d.length:Int)=0))) (Rq O O O) O (G6 (a3 (JCc O h (fun h hb=>?_) (fun h hb=>?_))))))))))
    ·
     refine Jr fun a4=>(JLh (.agg [LS 1 (E1) ([]:List (List Int)),I64 0]) (Jk (cs:=[LS 1 (E1) ([]:List (List Int)),I64 0]) [(0,1),(1,1)] [LS 1 (E1) ([]:List (List Int)),I64 0] [.slice none 0 0,E0] Yh Y5 ⟨.inr ⟨_,O,O⟩,.inl O,G⟩ O O) O (J7 (u:=.junk) (Ho (u:=.agg [LS 1 (E1) ([]:List (List Int)),I64 0]) (ds:=[LS 1 (E1) ([]:List (List Int)),I64 0]) Jy O O O O O O O O) (JLm (I64 341) O (G6 (a4 (H0 (⟨[.agg [LS 1 (E1) ([]:List (List Int)),I64 0],I64 341],[],G,O,⟨⟨_,⟨_,_,_,_,O,O,O,.inl ⟨He,O⟩⟩,.conv (.same O)⟩,⟨_,O,.conv (.same O)⟩,G⟩,O,congrArg (fun r:Gq×Int=>(.tup (Ef r):AV)) (Ez h)⟩)))))))
    ·
     refine Gi (a2 (Js fun a5=>Jr fun a6=>(JLm (E1 a) O (JLl G7 O O O fun c5=>(JLh (.dptr [I64 y.Height]) (Gy G07 O O O) O (JLh (I64 y.Height) (Gk Gg O O O) O (JLh (BL (decide (y.Height≤(a.length:Int)))) (G45 O O O) O (G6 (a6 (JCc O h (fun h hb=>?_) (fun h hb=>?_)))))))))))
     ·
      refine Jr fun a7=>(JLh (.agg [LS 1 (E1) ([]:List (List Int)),I64 0]) (Jk (cs:=[LS 1 (E1) ([]:List (List Int)),I64 0]) [(0,1),(1,1)] [LS 1 (E1) ([]:List (List Int)),I64 0] [.slice none 0 0,E0] Yh Y5 ⟨.inr ⟨_,O,O⟩,.inl O,G⟩ O O) O (J7 (u:=.junk) (Ho (u:=.agg [LS 1 (E1) ([]:List (List Int)),I64 0]) (ds:=[LS 1 (E1) ([]:List (List Int)),I64 0]) Jy O O O O O O O O) (JLm (I64 4) O (G6 (a7 (H0 (⟨[.agg [LS 1 (E1) ([]:List (List Int)),I64 0],I64 4],[],G,O,⟨⟨_,⟨_,_,_,_,O,O,O,.inl ⟨He,O⟩⟩,.conv (.same O)⟩,⟨_,O,.conv (.same O)⟩,G⟩,O,congrArg (fun r:Gq×Int=>(.tup (Ef r):AV)) (Ez h)⟩)))))))
     ·
      refine Gi (a5 (Js fun a8=>Qn (l':=[(2,.dptr [LS 1 (E1) y.Stacks,I64 y.Height]),(3,.dptr [I64 m.From,I64 m.To]),(4,.ptr 1085 0),(6,E1 d),(7,E1 a)]) (L':=[(1085,.box 67 [LS 1 (E1) ([]:List (List Int)),I64 0])]) ⟨(.sm O O),⟨fbQ O (.sm O O),G⟩,rfl⟩ ?_))
      obtain⟨l,h⟩:=Hz h
      obtain⟨c2,i,h⟩:=J4 h
      obtain⟨c8,c,j,k,h⟩:=Qs h
      obtain⟨n,h⟩:=Hz h
      obtain⟨e,o,h⟩:=Gc h
      refine Q62 [3,5,13,15,16] [[[false,false,false,false,false],[true,false,false,false,false],[true,true,false,false,false],[true,true,true,false,false],[false,false,false,true,false],[true,false,false,true,false],[true,true,false,true,false],[true,true,true,true,false]],[[false,false,false,false,false],[true,false,false,false,false],[true,true,false,false,false],[true,true,true,false,false],[false,false,false,true,false],[true,false,false,true,false],[true,true,false,true,false],[true,true,true,true,false]],[[false,false,false,false,false],[true,false,false,false,false],[true,true,false,false,false],[true,true,true,false,false],[false,false,false,true,false],[true,false,false,true,false],[true,true,false,true,false],[true,true,true,true,false]],[[false,false,false,false,false],[false,false,false,true,false]],[[false,false,false,false,false],[true,false,false,false,false],[false,false,false,true,false],[true,false,false,true,false]],[[true,false,false,false,false],[true,false,false,true,false]],[[false,false,false,false,false],[true,false,false,false,false],[true,true,false,false,false],[false,false,false,true,false],[true,false,false,true,false],[true,true,false,true,false]],[[false,false,false,false,false],[true,false,false,false,false],[true,true,false,false,false],[false,false,false,true,false],[true,false,false,true,false],[true,true,false,true,false]],[[false,false,false,false,false],[true,false,false,false,false],[true,true,false,false,false],[false,false,false,true,false],[true,false,false,true,false],[true,true,false,true,false]],[[false,false,false,false,false],[true,false,false,false,false],[true,true,false,false,false],[false,false,false,true,false],[true,false,false,true,false],[true,true,false,true,false]],[[false,false,false,false,false],[true,false,false,false,false],[true,true,false,false,false],[false,false,false,true,false],[true,false,false,true,false],[true,true,false,true,false]],[[false,false,false,false,false],[true,false,false,false,false],[true,true,false,false,false],[false,false,false,true,false],[true,false,false,true,false],[true,true,false,true,false]],[[false,false,false,false,false],[true,false,false,false,false],[true,true,false,false,false],[false,false,false,true,false],[true,false,false,true,false],[true,true,false,true,false]],[[true,true,false,false,false],[true,true,false,true,false]],[[true,true,true,false,false],[true,true,true,true,false]],[[false,false,false,false,false],[true,false,false,false,false],[true,true,false,false,false],[true,true,true,false,false]],[[true,true,true,true,false]]] [([false,false,false,false,false],[(1085,.box 67 [LS 1 (E1) ([]:List (List Int)),I64 0])]),([true,false,false,false,false],[(1085,.box 67 [LS 1 (E1) ([]:List (List Int)),I64 0]),(1087,.spare 3 1 ([]:List Int).length ([]:List Int).length)]),([true,true,false,false,false],[(1085,.box 67 [LS 1 (E1) ([]:List (List Int)),I64 0]),(1087,.spare 3 1 (([]:List Int)++a).length (([]:List Int)++a).length)]),([true,true,true,false,false],[(1085,.box 67 [LS 1 (E1) ([]:List (List Int)),I64 0]),(1087,.spare 3 1 ((([]:List Int)++a)++[c]).length ((([]:List Int)++a)++[c]).length)]),([false,false,false,true,false],[(1085,.box 67 [LS 1 (E1) ([]:List (List Int)),I64 0]),(1086,.box 67 [.junk,.junk])]),([true,false,false,true,false],[(1085,.box 67 [LS 1 (E1) ([]:List (List Int)),I64 0]),(1087,.spare 3 1 ([]:List Int).length ([]:List Int).length),(1086,.box 67 [.junk,.junk])]),([true,true,false,true,false],[(1085,.box 67 [LS 1 (E1) ([]:List (List Int)),I64 0]),(1087,.spare 3 1 (([]:List Int)++a).length (([]:List Int)++a).length),(1086,.box 67 [.junk,.junk])]),([true,true,true,true,false],[(1085,.box 67 [LS 1 (E1) ([]:List (List Int)),I64 0]),(1087,.spare 3 1 ((([]:List Int)++a)++[c]).length ((([]:List Int)++a)++[c]).length),(1086,.box 67 [.junk,.junk])]),([true,true,true,true,true],[(1085,.box 67 [LS 1 (E1) ([]:List (List Int)),I64 0]),(1087,.spare 3 1 ((([]:List Int)++a)++[c]).length ((([]:List Int)++a)++[c]).length),(1086,.box 67 [LS 1 (E1) e.Stacks,I64 e.Height])])] Jf (by kernel_rfl) rfl rfl ?_
      refine G89 (u:=.agg [LS 1 (E1) y.Stacks,I64 y.Height]) O ⟨.ro O O (Ga (Gv He O O O) O),.ro O O (Ga (Gv He O O O) O),.ro O O (Ga (Gv He O O O) O),.ro O O (Ga (Gv He O O O) O),.ro O O (Ga (Gv He O O O) O),.ro O O (Ga (Gv He O O O) O),.ro O O (Ga (Gv He O O O) O),.ro O O (Ga (Gv He O O O) O),G⟩ ?_ O
      refine G89 (u:=.dptr [I64 m.To]) O ⟨.ro O O (Ga (Gy Qg O O O) O),.ro O O (Ga (Gy Qg O O O) O),.ro O O (Ga (Gy Qg O O O) O),.ro O O (Ga (Gy Qg O O O) O),.ro O O (Ga (Gy Qg O O O) O),.ro O O (Ga (Gy Qg O O O) O),.ro O O (Ga (Gy Qg O O O) O),.ro O O (Ga (Gy Qg O O O) O),G⟩ ?_ O
      refine G89 (u:=I64 m.To) O ⟨.ro O O (Ga (Gk Gg O O O) O),.ro O O (Ga (Gk Gg O O O) O),.ro O O (Ga (Gk Gg O O O) O),.ro O O (Ga (Gk Gg O O O) O),.ro O O (Ga (Gk Gg O O O) O),.ro O O (Ga (Gk Gg O O O) O),.ro O O (Ga (Gk Gg O O O) O),.ro O O (Ga (Gk Gg O O O) O),G⟩ ?_ O
      refine G89 (u:=OW 1087 1 I64 ([]:List Int)) O ⟨.w [1085,1087] O O (Ga (Gcf 1087 3 1 O O G7) O) O O ⟨O,O,G⟩,.w [1085,1086,1087] O O (Ga (Gcf 1087 3 1 O O G7) O) O O ⟨O,O,O,G⟩,G⟩ ?_ O
      refine G89 (u:=E1 a) O ⟨.ro O O (Ga (G2 O O) O),.ro O O (Ga (G2 O O) O),.ro O O (Ga (G2 O O) O),.ro O O (Ga (G2 O O) O),G⟩ ?_ O
      refine G89 (u:=OW 1087 1 I64 (([]:List Int)++a)) O ⟨.w [1085,1087] O O (Ga (G22 (f:=I64) (xs:=([]:List Int)) (ys:=a) O O O O G7 Qx l (fun _=>O) (.inl O)) O) O O ⟨O,O,G⟩,.w [1085,1087,1086] O O (Ga (G22 (f:=I64) (xs:=([]:List Int)) (ys:=a) O O O O G7 Qx l (fun _=>O) (.inl O)) O) O O ⟨O,O,O,G⟩,G⟩ ?_ O
      refine G89 (u:=E1 d) O ⟨.ro O O (Ga (G2 O O) O),.ro O O (Ga (G2 O O) O),.ro O O (Ga (G2 O O) O),.ro O O (Ga (G2 O O) O),.ro O O (Ga (G2 O O) O),.ro O O (Ga (G2 O O) O),G⟩ ?_ O
      refine G89 (u:=E1 d) O ⟨.ro O O (Ga (G2 O O) O),.ro O O (Ga (G2 O O) O),.ro O O (Ga (G2 O O) O),.ro O O (Ga (G2 O O) O),.ro O O (Ga (G2 O O) O),.ro O O (Ga (G2 O O) O),G⟩ ?_ O
      refine G89 (u:=E7 d.length) O ⟨.ro O O (Ga (Q6 (f:=I64) (xs:=d) G7 O O) O),.ro O O (Ga (Q6 (f:=I64) (xs:=d) G7 O O) O),.ro O O (Ga (Q6 (f:=I64) (xs:=d) G7 O O) O),.ro O O (Ga (Q6 (f:=I64) (xs:=d) G7 O O) O),.ro O O (Ga (Q6 (f:=I64) (xs:=d) G7 O O) O),.ro O O (Ga (Q6 (f:=I64) (xs:=d) G7 O O) O),G⟩ ?_ O
      refine G89 (u:=I64 c2) O ⟨.ro O O (Ga (Y4 i O O O) O),.ro O O (Ga (Y4 i O O O) O),.ro O O (Ga (Y4 i O O O) O),.ro O O (Ga (Y4 i O O O) O),.ro O O (Ga (Y4 i O O O) O),.ro O O (Ga (Y4 i O O O) O),G⟩ ?_ O
      refine G89 (u:=.dptr [I64 c]) O ⟨.ro O O (Ga (Gz (f:=I64) (xs:=d) (y:=c) O O O G7 k j) O),.ro O O (Ga (Gz (f:=I64) (xs:=d) (y:=c) O O O G7 k j) O),.ro O O (Ga (Gz (f:=I64) (xs:=d) (y:=c) O O O G7 k j) O),.ro O O (Ga (Gz (f:=I64) (xs:=d) (y:=c) O O O G7 k j) O),.ro O O (Ga (Gz (f:=I64) (xs:=d) (y:=c) O O O G7 k j) O),.ro O O (Ga (Gz (f:=I64) (xs:=d) (y:=c) O O O G7 k j) O),G⟩ ?_ O
      refine G89 (u:=I64 c) O ⟨.ro O O (Ga (Gk Gg O O O) O),.ro O O (Ga (Gk Gg O O O) O),.ro O O (Ga (Gk Gg O O O) O),.ro O O (Ga (Gk Gg O O O) O),.ro O O (Ga (Gk Gg O O O) O),.ro O O (Ga (Gk Gg O O O) O),G⟩ ?_ O
      refine G89 (u:=E1 [c]) O ⟨.ro O O (Ga (H9 (xs:=[I64 c]) O ⟨O,O,G⟩ G7 Jd O O O O) O),.ro O O (Ga (H9 (xs:=[I64 c]) O ⟨O,O,G⟩ G7 Jd O O O O) O),.ro O O (Ga (H9 (xs:=[I64 c]) O ⟨O,O,G⟩ G7 Jd O O O O) O),.ro O O (Ga (H9 (xs:=[I64 c]) O ⟨O,O,G⟩ G7 Jd O O O O) O),.ro O O (Ga (H9 (xs:=[I64 c]) O ⟨O,O,G⟩ G7 Jd O O O O) O),.ro O O (Ga (H9 (xs:=[I64 c]) O ⟨O,O,G⟩ G7 Jd O O O O) O),G⟩ ?_ O
      refine G89 (u:=OW 1087 1 I64 ((([]:List Int)++a)++[c])) O ⟨.w [1085,1087] O O (Ga (Rb (f:=I64) (xs:=(([]:List Int)++a)) (ys:=[c]) O O O O G7 Qx n (fun _=>O) (.inl O) O) O) O O ⟨O,O,G⟩,.w [1085,1087,1086] O O (Ga (Rb (f:=I64) (xs:=(([]:List Int)++a)) (ys:=[c]) O O O O G7 Qx n (fun _=>O) (.inl O) O) O) O O ⟨O,O,O,G⟩,G⟩ ?_ O
      refine G89 (u:=.agg [LS 1 (E1) e.Stacks,I64 e.Height]) O ⟨.ro O O (Ga (Gr O (Y2 y m.To ((([]:List Int)++a)++[c]) e o) Gd6 ⟨O,O,O,O,O,O,G⟩) O),.ro O O (Ga (Gr O (Y2 y m.To ((([]:List Int)++a)++[c]) e o) Gd6 ⟨O,O,O,O,O,O,G⟩) O),G⟩ ?_ O
      refine G89 (u:=.ptr 1086 0) O ⟨.w [1085,1086] O O (Ga (Jg 1086 2 Rx O O) O) O O ⟨O,O,G⟩,.w [1085,1087,1086] O O (Ga (Jg 1086 2 Rx O O) O) O O ⟨O,O,O,G⟩,.w [1085,1087,1086] O O (Ga (Jg 1086 2 Rx O O) O) O O ⟨O,O,O,G⟩,.w [1085,1087,1086] O O (Ga (Jg 1086 2 Rx O O) O) O O ⟨O,O,O,G⟩,G⟩ ?_ O
      refine Qe7 (u:=.junk) O ⟨.w [1085,1087,1086] O O (Ga (Ho (u:=.agg [LS 1 (E1) e.Stacks,I64 e.Height]) (ds:=[LS 1 (E1) e.Stacks,I64 e.Height]) Jy O O O O O O O O) O) O O ⟨O,O,O,G⟩,G⟩ (Qe6 (a8 (fzQ [(3,.dptr [I64 m.From,I64 m.To]),(4,.ptr 1085 0),(6,E1 d),(8,.dptr [LS 1 (E1) e.Stacks,I64 e.Height])] [(1085,.box 67 [LS 1 (E1) ([]:List (List Int)),I64 0]),(1087,.spare 3 1 ((([]:List Int)++a)++[c]).length ((([]:List Int)++a)++[c]).length)] 1086 rfl rfl rfl ⟨⟨_,rfl,.boxEq rfl rfl⟩,⟨_,rfl,.same⟩,G⟩ rfl (Js fun a9=>?_))))
      refine Qn (l':=[(3,.dptr [I64 m.From,I64 m.To]),(4,.ptr 1085 0),(6,E1 d),(8,.dptr [LS 1 (E1) e.Stacks,I64 e.Height])]) (L':=[(1085,.box 67 [LS 1 (E1) ([]:List (List Int)),I64 0]),(1087,.spare 3 1 ((([]:List Int)++a)++[c]).length ((([]:List Int)++a)++[c]).length)]) ⟨(.sm O O),⟨fbQ O (.sm O O),⟨_,rfl,.same⟩,G⟩,rfl⟩ ?_
      obtain⟨c3,b0,h⟩:=J4 h
      obtain⟨q,b1,h⟩:=Gc h
      obtain⟨g,b2,h⟩:=Gc h
      refine Jt [9] [0,0,0,0,0,0,0,0,0,0,1] [0,0,0,0,0,0,0,0,0,0,1] [[(1085,.box 67 [LS 1 (E1) ([]:List (List Int)),I64 0]),(1087,.spare 3 1 ((([]:List Int)++a)++[c]).length ((([]:List Int)++a)++[c]).length)],((1085,.box 67 [LS 1 (E1) g.Stacks,I64 g.Height])::[(1085,.box 67 [LS 1 (E1) ([]:List (List Int)),I64 0]),(1087,.spare 3 1 ((([]:List Int)++a)++[c]).length ((([]:List Int)++a)++[c]).length)])] Jf (by kernel_rfl) rfl rfl ?_
      refine Gb (u:=.agg [LS 1 (E1) e.Stacks,I64 e.Height]) O O ⟨Ga (Gv He O O O) O,G⟩ (Gb (u:=.dptr [I64 m.From,I64 m.To]) O O ⟨Ga (Gy G29 O O O) O,G⟩ (Gb (u:=I64 m.From) O O ⟨Ga (Gk Gg O O O) O,G⟩ (Gb (u:=E1 d) O O ⟨Ga (G2 O O) O,G⟩ (Gb (u:=E1 d) O O ⟨Ga (G2 O O) O,G⟩ (Gb (u:=E7 d.length) O O ⟨Ga (Q6 (f:=I64) (xs:=d) G7 O O) O,G⟩ (Gb (u:=I64 c3) O O ⟨Ga (Y4 b0 O O O) O,G⟩ (Gb (u:=E1 (d.take q)) O O ⟨Ga (H4e (f:=I64) (xs:=d) O O O G7 (Hb b1)) O,G⟩ (Gb (u:=.agg [LS 1 (E1) g.Stacks,I64 g.Height]) O O ⟨Ga (Gr O (Y2 e m.From (d.take q) g b2) Gd6 ⟨O,O,O,O,O,O,G⟩) O,G⟩ (Gfb (u:=.junk) O O O O (Ga (Ho (u:=.agg [LS 1 (E1) g.Stacks,I64 g.Height]) (ds:=[LS 1 (E1) g.Stacks,I64 g.Height]) Jy O O O O O O O O) O) (Gb (u:=I64 0) O O ⟨Ga (G4 O O) O,G⟩ (R9 ?_)))))))))))
      refine a9 (H0 (⟨[.agg [LS 1 (E1) g.Stacks,I64 g.Height],I64 0],[],G,O,⟨⟨_,⟨_,_,_,_,O,O,O,.inl ⟨He,O⟩⟩,.conv (.same O)⟩,⟨_,O,.conv (.same O)⟩,G⟩,O,congrArg (fun r:Gq×Int=>(.tup (Ef r):AV)) (Ez h)⟩))

def Rk (F:Nat) (y:Gq) (l:List G9):Option (Gq×Int×Int):=
 bnd (Q5 F y) fun g=>
 bif (!g) then
 (some ((Gq.mk [] 0),0,2))
 else
 (bif decide (10000 < (l.length:Int)) then
  (some ((Gq.mk [] 0),0,5))
  else
  (bnd (Q9 y (-1) []) fun c=>
   each (fun e f (a:(List (List Int))×Int) d=>
    bnd (Jx F (Gq.mk a.1 a.2) e) fun b=>
    bif decide (b.2≠0) then
    (some ((Gq.mk [] 0),(f:Int),b.2))
    else
    (d (b.1.Stacks,b.1.Height)))
   (fun(a:(List (List Int))×Int)=>
    some ((Gq.mk a.1 a.2),0,0)) l 0 (c.Stacks,c.Height)))
abbrev Eg (r:Gq×Int×Int):List AV:=[.agg [LS 1 (E1) r.1.Stacks,I64 r.1.Height],I64 r.2.1,I64 r.2.2]
theorem Gcd (F:Nat) (y:Gq) (l:List G9) (r:Gq×Int×Int) (h:Rk F y l=some r):Pure E8 66 [.agg [LS 1 (E1) y.Stacks,I64 y.Height],E4 l] (·=.tup [.agg [LS 1 (E1) r.1.Stacks,I64 r.1.Height],I64 r.2.1,I64 r.2.2]):=by
 unfold Rk at h
 refine Hc [.cell 4 67,.tmp 5,.tmp 6] Try.func66 O O (Jr fun a7=>(JLh (.ptr 1065 0) (Q3 (cs:=[LS 1 (E1) y.Stacks,I64 y.Height]) 1065 O O O O O) O (JLh (.ptr 1066 0) (Ga6 1066 [LS 1 (E1) ([]:List (List Int)),I64 0] [.slice none 0 0,E0] Y5 ⟨.inr ⟨_,O,O⟩,.inl O,G⟩ O O) O (JLm (I64 0) O (JLm (I64 0) O (G6 (a7 (H5 [(1,E4 l),(2,.dptr [LS 1 (E1) y.Stacks,I64 y.Height]),(4,.ptr 1066 0)] [(1066,.box 67 [LS 1 (E1) ([]:List (List Int)),I64 0])] 1065 rfl rfl rfl ⟨⟨_,rfl,.boxEq rfl rfl⟩,G⟩ rfl (by exact⟨.conv (.same rfl),.ptr,.conv (.same rfl),G⟩) (Js fun a8=>Jr fun a9=>(JLh (.agg [LS 1 (E1) y.Stacks,I64 y.Height]) (Gv He O O O) O ?_))))))))))
 obtain⟨n,b0,h⟩:=Gc h
 refine JLh (BL n) (Gr O (Zf F y n b0) H32 ⟨O,O,G⟩) O (JLh (BL (!n)) (Yr (b:=n) O O) O (G6 (a9 (JCc O h (fun h hb=>?_) (fun h hb=>?_)))))
 ·
  refine Jr fun b1=>(JLh (.agg [LS 1 (E1) ([]:List (List Int)),I64 0]) (Jk (cs:=[LS 1 (E1) ([]:List (List Int)),I64 0]) [(0,1),(1,1)] [LS 1 (E1) ([]:List (List Int)),I64 0] [.slice none 0 0,E0] Yh Y5 ⟨.inr ⟨_,O,O⟩,.inl O,G⟩ O O) O (J7 (u:=.junk) (Ho (u:=.agg [LS 1 (E1) ([]:List (List Int)),I64 0]) (ds:=[LS 1 (E1) ([]:List (List Int)),I64 0]) Jy O O O O O O O O) (JLm (I64 0) O (JLm (I64 2) O (G6 (b1 (H0 ?_)))))))
  exact⟨[.agg [LS 1 (E1) ([]:List (List Int)),I64 0],I64 0,I64 2],[],G,O,⟨⟨_,⟨_,_,_,_,O,O,O,.inl ⟨He,O⟩⟩,.conv (.same O)⟩,⟨_,O,.conv (.same O)⟩,⟨_,O,.conv (.same O)⟩,G⟩,O,congrArg (fun r:Gq×Int×Int=>(.tup (Eg r):AV)) (Ez h)⟩
 ·
  refine Gi (a8 (Js fun b2=>Jr fun b3=>(JLm (E4 l) O (JLl Rc O O O fun b8=>(JLh (BL (decide (10000 < (l.length:Int)))) (Rz O O O) O (G6 (b3 (JCc O h (fun h hb=>?_) (fun h hb=>?_)))))))))
  ·
   refine Jr fun b4=>(JLh (.agg [LS 1 (E1) ([]:List (List Int)),I64 0]) (Jk (cs:=[LS 1 (E1) ([]:List (List Int)),I64 0]) [(0,1),(1,1)] [LS 1 (E1) ([]:List (List Int)),I64 0] [.slice none 0 0,E0] Yh Y5 ⟨.inr ⟨_,O,O⟩,.inl O,G⟩ O O) O (J7 (u:=.junk) (Ho (u:=.agg [LS 1 (E1) ([]:List (List Int)),I64 0]) (ds:=[LS 1 (E1) ([]:List (List Int)),I64 0]) Jy O O O O O O O O) (JLm (I64 0) O (JLm (I64 5) O (G6 (b4 (H0 ?_)))))))
   exact⟨[.agg [LS 1 (E1) ([]:List (List Int)),I64 0],I64 0,I64 5],[],G,O,⟨⟨_,⟨_,_,_,_,O,O,O,.inl ⟨He,O⟩⟩,.conv (.same O)⟩,⟨_,O,.conv (.same O)⟩,⟨_,O,.conv (.same O)⟩,G⟩,O,congrArg (fun r:Gq×Int×Int=>(.tup (Eg r):AV)) (Ez h)⟩
  ·
   refine Gi (b2 (Jr fun b5=>(JLh (.agg [LS 1 (E1) y.Stacks,I64 y.Height]) (Gv He O O O) O ?_)))
   obtain⟨e,p,h⟩:=Gc h
   refine JLh (.agg [LS 1 (E1) e.Stacks,I64 e.Height]) (Q79 (args:=[.agg [LS 1 (E1) y.Stacks,I64 y.Height],I64 (-1),E1 ([]:List Int)]) O (Y2 y (-1) [] e p) Gd6 ⟨.inl O,O,.inl O,O,.inr ⟨_,O,O⟩,O,G⟩) O (JLh (.ptr 1067 0) (Jg 1067 2 Rx O O) O (J7 (u:=.junk) (Ho (u:=.agg [LS 1 (E1) e.Stacks,I64 e.Height]) (ds:=[LS 1 (E1) e.Stacks,I64 e.Height]) Jy O O O O O O O O) (G6 (b5 (Js fun q=>Jr fun s=>(JLm (I64 0) O (G6 (s (Gf ?_)))))))))
   obtain⟨b6,t,v,o,h⟩:=J0 h
   refine H7 (fun d (c:(List (List Int))×Int)=>each b6 t (List.drop d l) d c=some r) (fun d c=>[(1,E4 l),(4,.ptr 1066 0),(7,.ptr 1067 0),(8,E7 d)]) (fun d c=>[(1066,.box 67 [LS 1 (E1) ([]:List (List Int)),I64 0]),(1067,.box 67 [LS 1 (E1) c.1,I64 c.2])]) (fun d=>l.length - d) 0 (e.Stacks,e.Height) h ⟨(.sm O O),⟨fbQ O (.sm O O),fbQ O (.sm O O),G⟩,rfl⟩ ?_
   clear h
   intro d c i c0 b7
   refine Js fun w=>Jr fun x=>(JLm (E7 d) O (JLm (E4 l) O (JLl Rc O O O fun z=>(JLh (BL (decide ((d:Int) < (l.length:Int)))) (Hu O O O) O (G6 (x (Gh O (fun hb=>?_) (fun hb=>?_))))))))
   ·
    have j:=Jn hb
    obtain⟨g,b9,k,a0,h⟩:=Hp i j
    replace h:=Y1 v h
    refine Gi (w (Js fun a1=>Gf (Js fun a2=>Qn (l':=[(1,E4 l),(4,.ptr 1066 0),(7,.ptr 1067 0),(8,E7 d)]) (L':=[(1066,.box 67 [LS 1 (E1) ([]:List (List Int)),I64 0]),(1067,.box 67 [LS 1 (E1) c.1,I64 c.2])]) ⟨(.sm O O),⟨fbQ O (.sm O O),fbQ O (.sm O O),G⟩,rfl⟩ ?_)))
    obtain⟨a,m,h⟩:=Gc h
    refine Jt [9,10] [0,0,0,0,0,0,0,0,0,0,0,2] [1,1,1,1,1,1,1,1,2,0,0,2] [[(1066,.box 67 [LS 1 (E1) ([]:List (List Int)),I64 0]),(1067,.box 67 [LS 1 (E1) c.1,I64 c.2])],((1068,.box 67 [.junk,.junk])::[(1066,.box 67 [LS 1 (E1) ([]:List (List Int)),I64 0]),(1067,.box 67 [LS 1 (E1) c.1,I64 c.2])]),((1068,.box 67 [LS 1 (E1) a.1.Stacks,I64 a.1.Height])::((1068,.box 67 [.junk,.junk])::[(1066,.box 67 [LS 1 (E1) ([]:List (List Int)),I64 0]),(1067,.box 67 [LS 1 (E1) c.1,I64 c.2])]))] Jf (by kernel_rfl) rfl rfl ?_
    refine Gb (u:=.agg [LS 1 (E1) c.1,I64 c.2]) O O ⟨Ga (Je He O O O O) O,Ga (Je He O O O O) O,G⟩ (Gb (u:=E4 l) O O ⟨Ga (G2 O O) O,Ga (G2 O O) O,G⟩ (Gb (u:=E7 d) O O ⟨Ga (G2 O O) O,Ga (G2 O O) O,G⟩ (Gb (u:=.dptr [I64 g.From,I64 g.To]) O O ⟨Ga (Gz (f:=G9.av) (xs:=l) (y:=g) O O O Rc k O) O,Ga (Gz (f:=G9.av) (xs:=l) (y:=g) O O O Rc k O) O,G⟩ (Gb (u:=.agg [I64 g.From,I64 g.To]) O O ⟨Ga (Gv G08 O O O) O,Ga (Gv G08 O O O) O,G⟩ (Gb (u:=.tup [.agg [LS 1 (E1) a.1.Stacks,I64 a.1.Height],I64 a.2]) O O ⟨Ga (Gr O (Rw F (Gq.mk c.1 c.2) g a m) Gd7 ⟨O,O,O,O,G⟩) O,Ga (Gr O (Rw F (Gq.mk c.1 c.2) g a m) Gd7 ⟨O,O,O,O,G⟩) O,G⟩ (Gb (u:=.tup [.agg [LS 1 (E1) a.1.Stacks,I64 a.1.Height],I64 a.2]) O O ⟨Ga (G2 O O) O,Ga (G2 O O) O,G⟩ (Gb (u:=.agg [LS 1 (E1) a.1.Stacks,I64 a.1.Height]) O O ⟨Ga (Gs O O O) O,Ga (Gs O O O) O,G⟩ (Gb (u:=I64 a.2) O O ⟨Ga (Gs O O O) O,Ga (Gs O O O) O,Ga (Gs O O O) O,G⟩ (D_w (u:=.ptr 1068 0) O O O O (Ga (Jg 1068 2 Rx O O) O) (Gfb (u:=.junk) O O O O (Ga (Ho (u:=.agg [LS 1 (E1) a.1.Stacks,I64 a.1.Height]) (ds:=[LS 1 (E1) a.1.Stacks,I64 a.1.Height]) Jy O O O O O O O O) O) (Gb (u:=I64 a.2) O O ⟨Ga (G4 O O) O,G⟩ (R9 ?_))))))))))))
    refine a2 (fzQ [(1,E4 l),(4,.ptr 1066 0),(7,.ptr 1067 0),(8,E7 d),(9,.dptr [LS 1 (E1) a.1.Stacks,I64 a.1.Height]),(10,I64 a.2)] [(1066,.box 67 [LS 1 (E1) ([]:List (List Int)),I64 0]),(1067,.box 67 [LS 1 (E1) c.1,I64 c.2])] 1068 rfl rfl rfl ⟨⟨_,rfl,.boxEq rfl rfl⟩,⟨_,rfl,.boxEq rfl rfl⟩,G⟩ rfl (Js fun a3=>Jr fun a4=>(JLm (I64 a.2) O (JLh (BL (decide (a.2≠0))) (G06 O O O) O (G6 (a4 (JCc O h (fun h hb=>?_) (fun h hb=>?_))))))))
    ·
     refine Jr fun a5=>(JLh (.agg [LS 1 (E1) ([]:List (List Int)),I64 0]) (Jk (cs:=[LS 1 (E1) ([]:List (List Int)),I64 0]) [(0,1),(1,1)] [LS 1 (E1) ([]:List (List Int)),I64 0] [.slice none 0 0,E0] Yh Y5 ⟨.inr ⟨_,O,O⟩,.inl O,G⟩ O O) O (JLm (E7 d) O (JLm (I64 a.2) O (J7 (u:=.junk) (Ho (u:=.agg [LS 1 (E1) ([]:List (List Int)),I64 0]) (ds:=[LS 1 (E1) ([]:List (List Int)),I64 0]) Jy O O O O O O O O) (JLm (E7 d) O (JLm (I64 a.2) O (G6 (a5 (H5 [(4,.ptr 1066 0),(5,E7 d),(6,I64 a.2)] [(1066,.box 67 [LS 1 (E1) ([]:List (List Int)),I64 0])] 1067 rfl rfl rfl ⟨⟨_,rfl,.boxEq rfl rfl⟩,G⟩ rfl (by exact⟨.conv (.same rfl),.conv (.same rfl),.conv (.same rfl),G⟩) (H0 ?_))))))))))
     exact⟨[.agg [LS 1 (E1) ([]:List (List Int)),I64 0],E7 d,I64 a.2],[],G,O,⟨⟨_,⟨_,_,_,_,O,O,O,.inl ⟨He,O⟩⟩,.conv (.same O)⟩,⟨_,O,.conv (.same O)⟩,⟨_,O,.conv (.same O)⟩,G⟩,O,congrArg (fun r:Gq×Int×Int=>(.tup (Eg r):AV)) (Ez h)⟩
    ·
     refine Gi (a3 (G1 (JLh (.agg [LS 1 (E1) a.1.Stacks,I64 a.1.Height]) (Gv He O O O) O (J7 (u:=.junk) (Ho (u:=.agg [LS 1 (E1) a.1.Stacks,I64 a.1.Height]) (ds:=[LS 1 (E1) a.1.Stacks,I64 a.1.Height]) Jy O O O O O O O O) (G6 (a1 (G1 (JLm (E7 d) O (JLh (I64 ((d+1:Nat):Int)) (Hv (Hh j z) O O O) O (JLm (I64 ((d+1:Nat):Int)) O (G6 (b7 _ _ (d+1) (a.1.Stacks,a.1.Height) (app1 a0 h) (by omega) ⟨(.sm O O),⟨fbQ O (.sm O O),fbQ O (.sm O O),G⟩,rfl⟩))))))))))))
   ·
    have h:=app1 o (Hq i (Ha hb))
    refine Hd (q (Jr fun a6=>(JLh (.agg [LS 1 (E1) c.1,I64 c.2]) (Je He O O O O) O (J7 (u:=.junk) (Ho (u:=.agg [LS 1 (E1) c.1,I64 c.2]) (ds:=[LS 1 (E1) c.1,I64 c.2]) Jy O O O O O O O O) (JLm (I64 0) O (JLm (I64 0) O (G6 (a6 (H5 [(4,.ptr 1066 0),(5,I64 0),(6,I64 0)] [(1066,.box 67 [LS 1 (E1) c.1,I64 c.2])] 1067 rfl rfl rfl ⟨⟨_,rfl,.boxEq rfl rfl⟩,G⟩ rfl (by exact⟨.conv (.same rfl),.conv (.same rfl),.conv (.same rfl),G⟩) (H0 ?_))))))))))
    exact⟨[.agg [LS 1 (E1) c.1,I64 c.2],I64 0,I64 0],[],G,O,⟨⟨_,⟨_,_,_,_,O,O,O,.inl ⟨He,O⟩⟩,.conv (.same O)⟩,⟨_,O,.conv (.same O)⟩,⟨_,O,.conv (.same O)⟩,G⟩,O,congrArg (fun r:Gq×Int×Int=>(.tup (Eg r):AV)) (Ez h)⟩

def J1 (F:Nat) (y:Gq) (order:List Int):Option (List Int):=
 each (fun i p (f:(List Int)) j=>
  each (fun c e (a:(List Int)) g=>
   jp (fun d=>
    need (decide ((e:Int)≤9223372036854775807)) <|
    upto (fun k (b:Bool) h=>
     bnd (bif (!b) then Qu i (k:Int) some else some default) fun l=>
     bnd (bif (!b) then J5 order l else some default) fun m=>
     bnd (bif (!b) then J5 order c else some default) fun n=>
     h (b||(decide (m < n))))
    (fun(b:Bool)=>
     bif b then
     (need (decide ((a.length+[c].length)*8≤140737488355328∧a.length+[c].length≤maxLen)) <|
      d (a++[c]))
     else
     (d a)) (e:Int).toNat 0 false) fun(o:(List Int))=>
   g o)
  (fun(a:(List Int))=>
   j a) i 0 f)
 (fun(f:(List Int))=>
  some f) y.Stacks 0 []
theorem Rv (F:Nat) (y:Gq) (order:List Int) (r:(List Int)) (h:J1 F y order=some r):Pure E8 67 [.agg [LS 1 (E1) y.Stacks,I64 y.Height],E1 order] (·=E1 r):=by
 unfold J1 at h
 refine Hc [.tmp 4] Try.func67 O O (Jr fun c7=>(JLh (.ptr 1069 0) (Q3 (cs:=[LS 1 (E1) y.Stacks,I64 y.Height]) 1069 O O O O O) O (JLh (E1 ([]:List Int)) (Jj 1 O O) O (G6 (c7 (H5 [(1,E1 order),(2,.dptr [LS 1 (E1) y.Stacks,I64 y.Height])] [] 1069 rfl rfl rfl G rfl (by exact⟨.conv (.same rfl),.ptr,G⟩) (Jr fun c8=>(JLh (OW 1071 1 I64 ([]:List Int)) (Gd0 1071 3 1 O O O) O (G6 (c8 (Js fun c9=>Jr fun d0=>(JLm (I64 0) O (G6 (d0 (Gf ?_)))))))))))))))
 obtain⟨b5,d1,d2,a1,h⟩:=J0 h
 refine H7 (fun d (k:(List Int))=>each b5 d1 (List.drop d y.Stacks) d k=some r) (fun d k=>[(1,E1 order),(2,.dptr [LS 1 (E1) y.Stacks,I64 y.Height]),(5,OW 1071 1 I64 k),(6,E7 d)]) (fun d k=>[(1071,.spare 3 1 k.length k.length)]) (fun d=>y.Stacks.length - d) 0 [] h ⟨(.sm O O),⟨⟨_,rfl,.same⟩,G⟩,rfl⟩ ?_
 clear h
 intro d k z K5 e5
 refine Js fun d3=>Jr fun d4=>(JLm (E7 d) O (JLh (.dptr [LS 1 (E1) y.Stacks,I64 y.Height]) (Gy H1 O O O) O (JLh (LS 1 (E1) y.Stacks) (Gk Gn O O O) O (JLl Gd O O O fun a2=>(JLh (BL (decide ((d:Int) < (y.Stacks.length:Int)))) (Hu O O O) O (G6 (d4 (Gh O (fun hb=>?_) (fun hb=>?_)))))))))
 ·
  have a0:=Jn hb
  obtain⟨i,e7,o,d5,h⟩:=Hp z a0
  replace h:=Y1 d2 h
  refine Gi (d3 (Js fun d6=>Gf (Jr fun d7=>(JLm (I64 0) O (G6 (d7 (Gf ?_)))))))
  obtain⟨d8,a3,a4,v,h⟩:=J0 h
  refine H7 (fun a (b:(List Int))=>each d8 a3 (List.drop a i) a b=some r) (fun a b=>[(1,E1 order),(2,.dptr [LS 1 (E1) y.Stacks,I64 y.Height]),(5,OW 1071 1 I64 b),(6,E7 d),(7,E7 a)]) (fun a b=>[(1071,.spare 3 1 b.length b.length)]) (fun a=>i.length - a) 0 k h ⟨(.sm O O),⟨⟨_,rfl,.same⟩,G⟩,rfl⟩ ?_
  clear h
  intro a b p e8 d9
  refine Js fun a5=>Jr fun a6=>(JLm (E7 a) O (JLh (.dptr [LS 1 (E1) y.Stacks,I64 y.Height]) (Gy H1 O O O) O (JLh (LS 1 (E1) y.Stacks) (Gk Gn O O O) O (JLm (E7 d) O (JLh (.dptr [E1 i]) (Gz (f:=(E1)) (xs:=y.Stacks) (y:=i) O O O Gd o O) O (JLh (E1 i) (Gk H4 O O O) O (JLl G7 O O O fun a7=>(JLh (BL (decide ((a:Int) < (i.length:Int)))) (Hu O O O) O (G6 (a6 (Gh O (fun hb=>?_) (fun hb=>?_))))))))))))
  ·
   have q:=Jn hb
   obtain⟨e,e4,s,a8,h⟩:=Hp p q
   replace h:=Y1 a4 h
   refine Gi (a5 ?_)
   obtain⟨a9,w,h⟩:=Zw h
   refine Yw (fun j:(List Int)=>a9 j=some r) (fun j=>[(1,E1 order),(2,.dptr [LS 1 (E1) y.Stacks,I64 y.Height]),(5,OW 1071 1 I64 j),(6,E7 d),(7,E7 a)]) (fun j=>[(1071,.spare 3 1 j.length j.length)]) (fun Kj13 ej13=>?_) ?_
   ·
    refine Gf (Jr fun b0=>(JLm (BL false) O (G6 (b0 (Js fun b1=>Jr fun b2=>(JLm (I64 0) O (G6 (b2 (Gf ?_)))))))))
    obtain⟨b3,h⟩:=Hz h
    obtain⟨e0,b4,b6,x,h⟩:=Gae h
    refine H7 (fun c (g:Bool)=>upto e0 b4 ((a:Int).toNat - c) c g=some r) (fun c g=>[(1,E1 order),(2,.dptr [LS 1 (E1) y.Stacks,I64 y.Height]),(5,OW 1071 1 I64 b),(6,E7 d),(7,E7 a),(8,BL g),(9,E7 c)]) (fun c g=>[(1071,.spare 3 1 b.length b.length)]) (fun c=>(a:Int).toNat - c) 0 false h ⟨(.sm O O),⟨⟨_,rfl,.same⟩,G⟩,rfl⟩ ?_
    clear h
    intro c g t e9 e1
    refine Js fun b7=>Jr fun b8=>(JLm (E7 c) O (JLm (E7 a) O (JLh (BL (decide ((c:Int) < (a:Int)))) (Hu O O O) O (G6 (b8 (Gh O (fun hb=>?_) (fun hb=>?_)))))))
    ·
     have u:=G76 hb
     obtain⟨e6,b9,h⟩:=G70 t u
     replace h:=J75 b6 h
     refine Gi (b7 (Js fun c0=>Gf (Qn (l':=[(1,E1 order),(2,.dptr [LS 1 (E1) y.Stacks,I64 y.Height]),(5,OW 1071 1 I64 b),(6,E7 d),(7,E7 a),(8,BL g),(9,E7 c)]) (L':=[(1071,.spare 3 1 b.length b.length)]) ⟨(.sm O O),⟨⟨_,rfl,.same⟩,G⟩,rfl⟩ ?_)))
     obtain⟨n,c1,h⟩:=Gc h
     obtain⟨l,c2,h⟩:=Gc h
     obtain⟨m,c3,h⟩:=Gc h
     refine JC_d0 Jf (by kernel_rfl) (Dq (BL g) (G2 O O) O (Dq (BL g) (G2 O O) O (Do (E1 order) [] O .scf G (fun hc=>G2 O O) O (Do (.dptr [LS 1 (E1) y.Stacks,I64 y.Height]) [] O .scf G (fun hc=>Gy H1 O O O) O (Do (LS 1 (E1) y.Stacks) [35] O .scf ⟨Ua,G⟩ (fun hc=>Gk Gn O O O) O (Do (E7 d) [] O .scf G (fun hc=>G2 O O) O (Do (.dptr [E1 i]) [36,37] O .scf ⟨Ua,Ua,G⟩ (fun hc=>Gz (f:=(E1)) (xs:=y.Stacks) (y:=i) O O O Gd o O) O (Do (E1 i) [38] O .scf ⟨Ua,G⟩ (fun hc=>Gk H4 O O O) O (Do (E7 c) [] O .scf G (fun hc=>G2 O O) O (Do (.dptr [I64 n]) [39,40] O .scf ⟨Ua,Ua,G⟩ (fun hc=>(match G3f (H3 hc c1) with | ⟨_,hm_,hy_⟩=>Gz (f:=I64) (xs:=i) (y:=n) O O O G7 hy_ hm_)) O (Do (I64 n) [41] O .scf ⟨Ua,G⟩ (fun hc=>Gk Gg O O O) O (Do (I64 l) [34,42] O .scf ⟨Ua,Ua,G⟩ (fun hc=>Gr (args:=[E1 order,I64 n]) O (Jb order n l (H3 hc c2)) Zc ⟨O,O,O,O,G⟩) O (Do (E1 order) [] O .scf G (fun hc=>G2 O O) O ?_)))))))))))))
     refine Do (.dptr [LS 1 (E1) y.Stacks,I64 y.Height]) [] O .scf G (fun hc=>Gy H1 O O O) O (Do (LS 1 (E1) y.Stacks) [45] O .scf ⟨Ua,G⟩ (fun hc=>Gk Gn O O O) O (Do (E7 d) [] O .scf G (fun hc=>G2 O O) O (Do (.dptr [E1 i]) [46,47] O .scf ⟨Ua,Ua,G⟩ (fun hc=>Gz (f:=(E1)) (xs:=y.Stacks) (y:=i) O O O Gd o O) O (Do (E1 i) [48] O .scf ⟨Ua,G⟩ (fun hc=>Gk H4 O O O) O (Do (E7 a) [] O .scf G (fun hc=>G2 O O) O (Do (.dptr [I64 e]) [49,50] O .scf ⟨Ua,Ua,G⟩ (fun hc=>Gz (f:=I64) (xs:=i) (y:=e) O O O G7 s O) O (Do (I64 e) [51] O .scf ⟨Ua,G⟩ (fun hc=>Gk Gg O O O) O (Do (I64 m) [44,52] O .scf ⟨Ua,Ua,G⟩ (fun hc=>Gr (args:=[E1 order,I64 e]) O (Jb order e m (H3 hc c3)) Zc ⟨O,O,O,O,G⟩) O (Do (BL (decide (l < m))) [43,53] O .scf ⟨Ua,Ua,G⟩ (fun hc=>Hu O O O) O (Dq (BL (g||(decide (l < m)))) (Za O O O O) O (Dq (BL (g||(decide (l < m)))) (G4 O O) O (Dnil ?_))))))))))))
     refine c0 (G1 (JLm (E7 c) O (JLh (I64 ((c+1:Nat):Int)) (Hv (Hh u (G39 b3)) O O O) O (JLm (I64 ((c+1:Nat):Int)) O (G6 (e1 _ _ (c+1) (g||(decide (l < m))) (app1 b9 h) (by omega) ⟨(.sm O O),⟨⟨_,rfl,.same⟩,G⟩,rfl⟩))))))
    ·
     have h:=app1 x (G71 t (Z4 hb))
     refine Hd (b1 (Jr fun c4=>(JLm (BL g) O (G6 (c4 (JCc O h (fun h hb=>?_) (fun h hb=>?_)))))))
     ·
      refine G1 (JLm (OW 1071 1 I64 b) O (JLh (.dptr [LS 1 (E1) y.Stacks,I64 y.Height]) (Gy H1 O O O) O (JLh (LS 1 (E1) y.Stacks) (Gk Gn O O O) O (JLm (E7 d) O (JLh (.dptr [E1 i]) (Gz (f:=(E1)) (xs:=y.Stacks) (y:=i) O O O Gd o O) O (JLh (E1 i) (Gk H4 O O O) O (JLm (E7 a) O (JLh (.dptr [I64 e]) (Gz (f:=I64) (xs:=i) (y:=e) O O O G7 s O) O (JLh (I64 e) (Gk Gg O O O) O (JLh (E1 [e]) (H9 (xs:=[I64 e]) O ⟨O,O,G⟩ G7 Jd O O O O) O ?_))))))))))
      obtain⟨c5,h⟩:=Hz h
      refine JLh (OW 1071 1 I64 (b++[e])) (Rb (f:=I64) (xs:=b) (ys:=[e]) O O O O G7 Qx c5 (fun _=>O) (.inl O) O) O (JLm (OW 1071 1 I64 (b++[e])) O (G6 (ej13 _ _ (b++[e]) h ⟨(.sm O O),⟨⟨_,rfl,.same⟩,G⟩,rfl⟩)))
     ·
      refine Gi (ej13 _ _ b h ⟨(.sm O O),⟨⟨_,rfl,.same⟩,G⟩,rfl⟩)
   ·intro j h
    replace h:=app1 w h
    refine G1 (JLm (E7 a) O (JLh (I64 ((a+1:Nat):Int)) (Hv (Hh q a7) O O O) O (JLm (I64 ((a+1:Nat):Int)) O (G6 (d9 _ _ (a+1) j (app1 a8 h) (by omega) ⟨(.sm O O),⟨⟨_,rfl,.same⟩,G⟩,rfl⟩)))))
  ·
   have h:=app1 v (Hq p (Ha hb))
   refine Hd (d6 (G1 (JLm (E7 d) O (JLh (I64 ((d+1:Nat):Int)) (Hv (Hh a0 a2) O O O) O (JLm (I64 ((d+1:Nat):Int)) O (G6 (e5 _ _ (d+1) b (app1 d5 h) (by omega) ⟨(.sm O O),⟨⟨_,rfl,.same⟩,G⟩,rfl⟩)))))))
 ·
  have h:=app1 a1 (Hq z (Ha hb))
  refine Hd (c9 (Jr fun c6=>(JLm (OW 1071 1 I64 k) O (JLm (OW 1071 1 I64 k) O (G6 (c6 (H0 (fin1l (fun r:(List Int)=>(E1 r:AV)) h))))))))

def R6 (F:Nat) (y:Gq) (order:List Int) (l:List G9):Option (Bool×Int):=
 bnd (Jw F y order) fun b=>
 bif (!b) then
 (some (false,2))
 else
 (bnd (Rk F y l) fun a=>
  bnd (bif decide (a.2.2=0) then J1 F a.1 order else some default) fun c=>
  some (((decide (a.2.2=0))&&(decide ((c.length:Int)=0))),0))
theorem Gc3 (F:Nat) (y:Gq) (order:List Int) (l:List G9) (r:Bool×Int) (h:R6 F y order l=some r):Pure E8 33 [.agg [LS 1 (E1) y.Stacks,I64 y.Height],E1 order,E4 l] (·=.tup [BL r.1,I64 r.2]):=by
 unfold R6 at h
 refine Hc [.tmp 6,.tmp 7] Try.func33 O O (Jr fun e=>(JLh (.ptr 1039 0) (Q3 (cs:=[LS 1 (E1) y.Stacks,I64 y.Height]) 1039 O O O O O) O (JLm (BL false) O (JLm (I64 0) O (G6 (e (H5 [(1,E1 order),(2,E4 l),(3,.dptr [LS 1 (E1) y.Stacks,I64 y.Height])] [] 1039 rfl rfl rfl G rfl (by exact⟨.conv (.same rfl),.conv (.same rfl),.ptr,G⟩) (Js fun g=>Jr fun i=>(JLh (.agg [LS 1 (E1) y.Stacks,I64 y.Height]) (Gv He O O O) O (JLm (E1 order) O ?_))))))))))
 obtain⟨d,j,h⟩:=Gc h
 refine JLh (BL d) (Gr O (Ru F y order d j) Gd8 ⟨O,O,O,O,G⟩) O (JLh (BL (!d)) (Yr (b:=d) O O) O (G6 (i (JCc O h (fun h hb=>?_) (fun h hb=>?_)))))
 ·
  refine Jr fun k=>(JLm (BL false) O (JLm (I64 2) O (G6 (k (H0 (⟨[BL false,I64 2],[],G,O,⟨⟨_,O,.conv (.same O)⟩,⟨_,O,.conv (.same O)⟩,G⟩,O,congrArg (fun r:Bool×Int=>(.tup [BL r.1,I64 r.2]:AV)) (Ez h)⟩))))))
 ·
  refine Gi (g (Jr fun m=>(JLh (.agg [LS 1 (E1) y.Stacks,I64 y.Height]) (Gv He O O O) O (JLm (E4 l) O ?_))))
  obtain⟨a,n,h⟩:=Gc h
  refine JLh (.tup [.agg [LS 1 (E1) a.1.Stacks,I64 a.1.Height],I64 a.2.1,I64 a.2.2]) (Gr O (Gcd F y l a n) J9f ⟨O,O,O,O,G⟩) O (JLm (.tup [.agg [LS 1 (E1) a.1.Stacks,I64 a.1.Height],I64 a.2.1,I64 a.2.2]) O (JLh (.agg [LS 1 (E1) a.1.Stacks,I64 a.1.Height]) (Gs O O O) O (JLh (I64 a.2.1) (Gs O O O) O (JLh (I64 a.2.2) (Gs O O O) O (JLh (.ptr 1040 0) (Jg 1040 2 Rx O O) O (J7 (u:=.junk) (Ho (u:=.agg [LS 1 (E1) a.1.Stacks,I64 a.1.Height]) (ds:=[LS 1 (E1) a.1.Stacks,I64 a.1.Height]) Jy O O O O O O O O) (JLm (I64 a.2.1) O (JLm (I64 a.2.2) O (G6 (m ?_))))))))))
  refine H5 [(1,E1 order),(8,.dptr [LS 1 (E1) a.1.Stacks,I64 a.1.Height]),(10,I64 a.2.2)] [] 1040 rfl rfl rfl G rfl (by exact⟨.conv (.same rfl),.ptr,.conv (.same rfl),G⟩) (Jr fun o=>(JLm (I64 a.2.2) O (JLh (BL (decide (a.2.2=0))) (Rq O O O) O (JLm (BL (decide (a.2.2=0))) O (JLo (.agg [LS 1 (E1) a.1.Stacks,I64 a.1.Height]) [] O .sct G (fun hc=>Gv He O O O) O (JLo (E1 order) [] O .sct G (fun hc=>G2 O O) O ?_))))))
  obtain⟨c,p,h⟩:=Gc h
  refine JLo (E1 c) [25,26] O .sct ⟨Ua,Ua,G⟩ (fun hc=>Gr (args:=[.agg [LS 1 (E1) a.1.Stacks,I64 a.1.Height],E1 order]) O (Rv F a.1 order c (H3 hc p)) G97 ⟨O,O,O,O,G⟩) O (JLo (E7 c.length) [27] O .sct ⟨Ua,G⟩ (fun hc=>Q6 (f:=I64) (xs:=c) G7 O O) O (JLo (BL (decide ((c.length:Int)=0))) [28] O .sct ⟨Ua,G⟩ (fun hc=>Rq O O O) O (JLh (BL ((decide (a.2.2=0))&&(decide ((c.length:Int)=0)))) (Y0 O O O O) O (JLm (BL ((decide (a.2.2=0))&&(decide ((c.length:Int)=0)))) O (JLm (I64 0) O (G6 (o (H0 (⟨[BL ((decide (a.2.2=0))&&(decide ((c.length:Int)=0))),I64 0],[],G,O,⟨⟨_,O,.conv (.same O)⟩,⟨_,O,.conv (.same O)⟩,G⟩,O,congrArg (fun r:Bool×Int=>(.tup [BL r.1,I64 r.2]:AV)) (Ez h)⟩)))))))))

end
end Go.Proofs.Ytokjlondbjdlfaa
