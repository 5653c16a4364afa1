/- Walks of functions. -/
import Derived.Test.YtokjlondbjdlfaaXD
set_option maxRecDepth 100000
set_option maxHeartbeats 1000000
set_option linter.unusedVariables false
set_option linter.unusedSimpArgs false
namespace Go.Proofs.Ytokjlondbjdlfaa
open Go.RowKit
noncomputable section
structure Gp where
 Stacks:List (List Int)
 Height:Int
 deriving DecidableEq,Inhabited
def Gp.cs (x:Gp):List AV:=[LS 1 (E1) x.Stacks,I64 x.Height]
structure G8 where
 From:Int
 To:Int
 deriving DecidableEq,Inhabited
def G8.cs (x:G8):List AV:=[I64 x.From,I64 x.To]
def G8.av (x:G8):AV:=.agg x.cs
abbrev E4:=LS 2 G8.av
structure Gf where
 y:Gp
 from_:Int
 by_:G8
 deriving DecidableEq,Inhabited
def Gf.cs (x:Gf):List AV:=[LS 1 (E1) x.y.Stacks,I64 x.y.Height,I64 x.from_,I64 x.by_.From,I64 x.by_.To]
structure Q8 where
 Stacks:Ln (Ln Int)
 Height:Int
 deriving Inhabited
def Q8.cs (x:Q8):List AV:=[LT 1 (LT 1 I64) x.Stacks,I64 x.Height]
def Q8.pl (x:Q8):Gn:=⟨(fun e=>e.1.map Prod.fst) x.Stacks,x.Height⟩
def Q8.of (x:Gn):Q8:=⟨(fun e=>(e.map (fun e=>(e,[])),[])) x.Stacks,x.Height⟩
namespace XEF
open XAF
open XBF
open XCF
open XDF
theorem G1a:Gb5 E8 64 2=true:=by kernel_rfl
theorem He:Gb5 E8 67 2=true:=by kernel_rfl
theorem J3f:Hcf E8 4=true:=by kernel_rfl
theorem Hbe:Hj E8 106=true:=by kernel_rfl
theorem Jf2:Hj E8 22=true:=by kernel_rfl
theorem H54:Hj E8 31=true:=by kernel_rfl
theorem Ged:Hj E8 32=true:=by kernel_rfl
theorem H53:Hj E8 34=true:=by kernel_rfl
theorem Gec:Hj E8 35=true:=by kernel_rfl
theorem Hef:Hj E8 38=true:=by kernel_rfl
theorem Jea:Hj E8 47=true:=by kernel_rfl
theorem Hed:Hj E8 48=true:=by kernel_rfl
theorem Je9:Hj E8 49=true:=by kernel_rfl
theorem Je3:Hj E8 63=true:=by kernel_rfl
theorem H4f:Hj E8 64=true:=by kernel_rfl
theorem Geb:Hj E8 65=true:=by kernel_rfl
theorem Ga3:Hj E8 67=true:=by kernel_rfl
theorem Je1:Hj E8 68=true:=by kernel_rfl
theorem Hea:Hj E8 69=true:=by kernel_rfl
theorem Jdd:Hj E8 75=true:=by kernel_rfl
theorem Gea:Hj E8 76=true:=by kernel_rfl
theorem He5:Hj E8 87=true:=by kernel_rfl
theorem H4d:Hj E8 88=true:=by kernel_rfl
theorem He4:Hj E8 89=true:=by kernel_rfl
theorem Zs:Hj E8 90=true:=by kernel_rfl
theorem Ge9:Hj E8 91=true:=by kernel_rfl
theorem Jda:Hj E8 93=true:=by kernel_rfl
theorem Jd9:Hj E8 94=true:=by kernel_rfl
theorem H4c:Qm E8 64 2 16=true:=by kernel_rfl
theorem G38:Ro E8 64 0 0=true:=by kernel_rfl
theorem Qu:Ro E8 64 1 1=true:=by kernel_rfl
theorem H2:Ro E8 67 0 0=true:=by kernel_rfl
theorem G19:Ro E8 67 1 1=true:=by kernel_rfl
theorem Ge7:placesOf E8 64=some [(0,1),(1,1)]:=by kernel_rfl
theorem Yz:placesOf E8 67=some [(0,1),(1,1)]:=by kernel_rfl
theorem Ge6:Rr E8 64 2=true:=by kernel_rfl
theorem Q5:Rr E8 67 2=true:=by kernel_rfl
theorem Y0:sliceB E8 63 64 2=true:=by kernel_rfl
theorem G9f:(E8.info? 64).bind (fun i=>i.zero.map Value.cells)=some (List.toArray [E0,E0]):=by kernel_rfl
theorem Yt:(E8.info? 67).bind (fun i=>i.zero.map Value.cells)=some (List.toArray [.slice none 0 0,E0]):=by kernel_rfl
theorem G80:Qa E8 64 2=true:=by kernel_rfl
theorem Yi:Qa E8 67 2=true:=by kernel_rfl
end XEF
open XAF
open XBF
open XCF
open XDF
open XEF

def Qz (y:Gp):Option (List Int):=
 each (fun b d (a:(List Int)) c=>
  need (decide ((a.length+b.length)*8≤140737488355328∧a.length+b.length≤maxLen)) <|
  c (a++b))
 (fun(a:(List Int))=>
  some a) y.Stacks 0 []
theorem G3c (y:Gp) (r:(List Int)) (h:Qz y=some r):Pure E8 69 [.agg [LS 1 (E1) y.Stacks,I64 y.Height]] (·=E1 r):=by
 unfold Qz at h
 refine Hb [.tmp 2] Try.func69 O O (Jr fun s=>(JLh (.ptr 1073 0) (Q9 (cs:=[LS 1 (E1) y.Stacks,I64 y.Height]) 1073 O O O O O) O (JLh (E1 ([]:List Int)) (Jn 1 O O) O (G6 (s (H5 [(1,.dptr [LS 1 (E1) y.Stacks,I64 y.Height])] [] 1073 rfl rfl rfl ø rfl (by exact⟨.ptr,ø⟩) (Jr fun t=>(JLh (OW 1074 1 I64 ([]:List Int)) (Ge3 1074 3 1 O O O) O (G6 (t (Js fun u=>Jr fun v=>(JLm (I64 0) O (G6 (v (Gg ?_)))))))))))))))
 obtain⟨w,i,j,g,h⟩:=J4 h
 refine H9 (fun a (b:(List Int))=>each w i (List.drop a y.Stacks) a b=some r) (fun a b=>[(1,.dptr [LS 1 (E1) y.Stacks,I64 y.Height]),(3,OW 1074 1 I64 b),(4,E7 a)]) (fun a b=>[(1074,.spare 3 1 b.length b.length)]) (fun a=>y.Stacks.length - a) 0 [] h ⟨(.sm O O),⟨⟨_,O,.same⟩,ø⟩,O⟩ ?_
 clear h
 intro a b d a1 x
 refine Js fun k=>Jr fun l=>(JLm (E7 a) O (JLh (.dptr [LS 1 (E1) y.Stacks,I64 y.Height]) (Gz H2 O O O) O (JLh (LS 1 (E1) y.Stacks) (Gm Gq O O O) O (JLl Gc O O O fun z=>(JLh (BL (decide ((a:Int) < (y.Stacks.length:Int)))) (Hz O O O) O (G6 (l (Gh O (fun hb=>?_) (fun hb=>?_)))))))))
 ·
  have e:=Jq hb
  obtain⟨c,a0,m,n,h⟩:=Hp d e
  replace h:=Yo j h
  refine Gk (k (Js fun o=>Gg (G1 (JLm (OW 1074 1 I64 b) O (JLh (.dptr [LS 1 (E1) y.Stacks,I64 y.Height]) (Gz H2 O O O) O (JLh (LS 1 (E1) y.Stacks) (Gm Gq O O O) O (JLm (E7 a) O (JLh (.dptr [E1 c]) (H0 (f:=(E1)) (xs:=y.Stacks) (y:=c) O O O Gc m O) O (JLh (E1 c) (Gm H4 O O O) O ?_)))))))))
  obtain⟨p,h⟩:=J3 h
  refine JLh (OW 1074 1 I64 (b++c)) (G30 (f:=I64) (xs:=b) (ys:=c) O O O O G7 Rj p (fun _=>O) (.inl O)) O (JLm (OW 1074 1 I64 (b++c)) O (G6 (o (G1 (JLm (E7 a) O (JLh (I64 ((a+1:Nat):Int)) (J2 (Hi e z) O O O) O (JLm (I64 ((a+1:Nat):Int)) O (G6 (x _ _ (a+1) (b++c) (app1 n h) (by omega) ⟨(.sm O O),⟨⟨_,rfl,.same⟩,ø⟩,rfl⟩)))))))))
 ·
  have h:=app1 g (Hq d (Ha hb))
  refine Hg (u (Jr fun q=>(JLm (OW 1074 1 I64 b) O (JLm (OW 1074 1 I64 b) O (G6 (q (H1 (fin1l (fun r:(List Int)=>(E1 r:AV)) h))))))))

def Qd (F:Nat) (y:Gp):Option Bool:=
 bif ((((decide (y.Height < 1))||(decide (6 < y.Height)))||(decide ((y.Stacks.length:Int)=0)))||(decide (30 < (y.Stacks.length:Int)))) then
 (some false)
 else
 (each (fun g m (h:Unit) d=>
   bif decide (y.Height < (g.length:Int)) then
   (some false)
   else
   (d ()))
  (fun(h:Unit)=>
   bnd (Qz y) fun b=>
   each (fun a c (i:Unit) e=>
    bif ((decide (a < 1))||(decide (999999 < a))) then
    (some false)
    else
    (need (decide ((c:Int)≤9223372036854775807)) <|
     upto (fun j (k:Unit) f=>
      R6 b (j:Int) fun l=>
      bif decide (l=a) then
      (some false)
      else
      (f ()))
     (fun(k:Unit)=>
      e ()) (c:Int).toNat 0 ()))
   (fun(i:Unit)=>
    some true) b 0 ()) y.Stacks 0 ())
theorem Zu (F:Nat) (y:Gp) (r:Bool) (h:Qd F y=some r):Pure E8 88 [.agg [LS 1 (E1) y.Stacks,I64 y.Height]] (·=BL r):=by
 unfold Qd at h
 refine Hb [.tmp 2] Try.func88 O O (Jr fun d5=>(JLh (.ptr 1089 0) (Q9 (cs:=[LS 1 (E1) y.Stacks,I64 y.Height]) 1089 O O O O O) O (JLm (BL false) O (G6 (d5 (H5 [(1,.dptr [LS 1 (E1) y.Stacks,I64 y.Height])] [] 1089 rfl rfl rfl ø rfl (by exact⟨.ptr,ø⟩) (Js fun d6=>?_)))))))
 refine Jr fun d7=>(JLh (.dptr [I64 y.Height]) (Gz G19 O O O) O (JLh (I64 y.Height) (Gm Gi O O O) O (JLh (BL (decide (y.Height < 1))) (Hz O O O) O (JLm (BL (decide (y.Height < 1))) O (JLo (.dptr [I64 y.Height]) [] O .scf ø (fun hc=>Gz G19 O O O) O (JLo (I64 y.Height) [11] O .scf ⟨Ua,ø⟩ (fun hc=>Gm Gi O O O) O (JLo (BL (decide (6 < y.Height))) [12] O .scf ⟨Ua,ø⟩ (fun hc=>Yk O O O) O (JLh (BL ((decide (y.Height < 1))||(decide (6 < y.Height)))) (Ze O O O O) O (JLm (BL ((decide (y.Height < 1))||(decide (6 < y.Height)))) O (JLo (.dptr [LS 1 (E1) y.Stacks,I64 y.Height]) [] O .scf ø (fun hc=>Gz H2 O O O) O (JLo (LS 1 (E1) y.Stacks) [16] O .scf ⟨Ua,ø⟩ (fun hc=>Gm Gq O O O) O (JLo (E7 y.Stacks.length) [17] O .scf ⟨Ua,ø⟩ (fun hc=>Qe (f:=(E1)) (xs:=y.Stacks) Gc O O) O (JLo (BL (decide ((y.Stacks.length:Int)=0))) [18] O .scf ⟨Ua,ø⟩ (fun hc=>Ym O O O) O ?_)))))))))))))
 refine JLh (BL (((decide (y.Height < 1))||(decide (6 < y.Height)))||(decide ((y.Stacks.length:Int)=0)))) (Ze O O O O) O (JLm (BL (((decide (y.Height < 1))||(decide (6 < y.Height)))||(decide ((y.Stacks.length:Int)=0)))) O (JLo (.dptr [LS 1 (E1) y.Stacks,I64 y.Height]) [] O .scf ø (fun hc=>Gz H2 O O O) O (JLo (LS 1 (E1) y.Stacks) [22] O .scf ⟨Ua,ø⟩ (fun hc=>Gm Gq O O O) O (JLo (E7 y.Stacks.length) [23] O .scf ⟨Ua,ø⟩ (fun hc=>Qe (f:=(E1)) (xs:=y.Stacks) Gc O O) O (JLo (BL (decide (30 < (y.Stacks.length:Int)))) [24] O .scf ⟨Ua,ø⟩ (fun hc=>Yk O O O) O (JLh (BL ((((decide (y.Height < 1))||(decide (6 < y.Height)))||(decide ((y.Stacks.length:Int)=0)))||(decide (30 < (y.Stacks.length:Int))))) (Ze O O O O) O (G6 (d7 ?_))))))))
 refine JCc O h ?_ ?_<;>intro h hb
 ·
  refine Jr fun d8=>(JLm (BL false) O (G6 (d8 (H1 (fin1 BL h)))))
 ·
  refine Gk (d6 (Js fun d9=>Jr fun e0=>(JLm (I64 0) O (G6 (e0 (Gg ?_))))))
  obtain⟨e1,x,z,u,h⟩:=J4 h
  refine H9 (fun c (j:Unit)=>each e1 x (List.drop c y.Stacks) c j=some r) (fun c j=>[(1,.dptr [LS 1 (E1) y.Stacks,I64 y.Height]),(3,E7 c)]) (fun c j=>[]) (fun c=>y.Stacks.length - c) 0 () h ⟨(.sm O O),ø,O⟩ ?_
  clear h
  intro c j n f0 e2
  refine Js fun a0=>Jr fun a1=>(JLm (E7 c) O (JLh (.dptr [LS 1 (E1) y.Stacks,I64 y.Height]) (Gz H2 O O O) O (JLh (LS 1 (E1) y.Stacks) (Gm Gq O O O) O (JLl Gc O O O fun a2=>(JLh (BL (decide ((c:Int) < (y.Stacks.length:Int)))) (Hz O O O) O (G6 (a1 (Gh O (fun hb=>?_) (fun hb=>?_)))))))))
  ·
   have o:=Jq hb
   obtain⟨g,e7,a3,a4,h⟩:=Hp n o
   replace h:=Yo z h
   refine Gk (a0 (Js fun a5=>Gg (Js fun a6=>JC_d0 Jj (by kernel_rfl) (Dq (.dptr [LS 1 (E1) y.Stacks,I64 y.Height]) (Gz H2 O O O) O (Dq (LS 1 (E1) y.Stacks) (Gm Gq O O O) O (Dq (E7 c) (G2 O O) O (Dq (.dptr [E1 g]) (H0 (f:=(E1)) (xs:=y.Stacks) (y:=g) O O O Gc a3 O) O (Dq (E1 g) (Gm H4 O O O) O (Dq (E7 g.length) (Qe (f:=I64) (xs:=g) G7 O O) O (Dq (.dptr [I64 y.Height]) (Gz G19 O O O) O (Dq (I64 y.Height) (Gm Gi O O O) O (Dq (BL (decide (y.Height < (g.length:Int)))) (Yk O O O) O (Dnil (a6 (JCc O h (fun h hb=>?_) (fun h hb=>?_))))))))))))))))
   ·
    refine Jr fun a7=>(JLm (BL false) O (G6 (a7 (H1 (fin1 BL h)))))
   ·
    refine Gk (a5 (G1 (JLm (E7 c) O (JLh (I64 ((c+1:Nat):Int)) (J2 (Hi o a2) O O O) O (JLm (I64 ((c+1:Nat):Int)) O (G6 (e2 _ _ (c+1) () (app1 a4 h) (by omega) ⟨(.sm O O),ø,rfl⟩)))))))
  ·
   have h:=app1 u (Hq n (Ha hb))
   refine Hg (d9 (Jr fun a8=>(JLh (.agg [LS 1 (E1) y.Stacks,I64 y.Height]) (Gv He O O O) O ?_)))
   obtain⟨b,a9,h⟩:=Gd h
   refine JLh (E1 b) (Gt O (G3c y b a9) Hea ⟨O,O,ø⟩) O (JLm (E1 b) O (G6 (a8 (Js fun b0=>Jr fun b1=>(JLm (I64 0) O (G6 (b1 (Gg ?_))))))))
   obtain⟨e3,b2,b3,v,h⟩:=J4 h
   refine H9 (fun a (k:Unit)=>each e3 b2 (List.drop a b) a k=some r) (fun a k=>[(4,E1 b),(5,E7 a)]) (fun a k=>[]) (fun a=>b.length - a) 0 () h ⟨(.sm O O),ø,O⟩ ?_
   clear h
   intro a k p f1 e4
   refine Js fun b4=>Jr fun b5=>(JLm (E7 a) O (JLm (E1 b) O (JLl G7 O O O fun b6=>(JLh (BL (decide ((a:Int) < (b.length:Int)))) (Hz O O O) O (G6 (b5 (Gh O (fun hb=>?_) (fun hb=>?_))))))))
   ·
    have q:=Jq hb
    obtain⟨d,e8,i,b7,h⟩:=Hp p q
    replace h:=Yo b3 h
    refine Gk (b4 (Js fun b8=>Gg (Js fun b9=>Jr fun c0=>(JLm (E1 b) O (JLm (E7 a) O (JLh (.dptr [I64 d]) (H0 (f:=I64) (xs:=b) (y:=d) O O O G7 i O) O (JLh (I64 d) (Gm Gi O O O) O (JLh (BL (decide (d < 1))) (Hz O O O) O (JLm (BL (decide (d < 1))) O (JLo (E1 b) [] O .scf ø (fun hc=>G2 O O) O (JLo (E7 a) [] O .scf ø (fun hc=>G2 O O) O (JLo (.dptr [I64 d]) [57,58] O .scf ⟨Ua,Ua,ø⟩ (fun hc=>H0 (f:=I64) (xs:=b) (y:=d) O O O G7 i O) O (JLo (I64 d) [59] O .scf ⟨Ua,ø⟩ (fun hc=>Gm Gi O O O) O (JLo (BL (decide (999999 < d))) [60] O .scf ⟨Ua,ø⟩ (fun hc=>Yk O O O) O (JLh (BL ((decide (d < 1))||(decide (999999 < d)))) (Ze O O O O) O (G6 (c0 ?_)))))))))))))))))
    refine JCc O h ?_ ?_<;>intro h hb
    ·
     refine Jr fun c1=>(JLm (BL false) O (G6 (c1 (H1 (fin1 BL h)))))
    ·
     refine Gk (b9 (Jr fun c2=>(JLm (I64 0) O (G6 (c2 (Gg ?_))))))
     obtain⟨c3,h⟩:=J3 h
     obtain⟨e5,c4,c5,w,h⟩:=Gbb h
     refine H9 (fun e (l:Unit)=>upto e5 c4 ((a:Int).toNat - e) e l=some r) (fun e l=>[(4,E1 b),(5,E7 a),(6,E7 e)]) (fun e l=>[]) (fun e=>(a:Int).toNat - e) 0 () h ⟨(.sm O O),ø,O⟩ ?_
     clear h
     intro e l s f2 e6
     refine Js fun c6=>Jr fun c7=>(JLm (E7 e) O (JLm (E7 a) O (JLh (BL (decide ((e:Int) < (a:Int)))) (Hz O O O) O (G6 (c7 (Gh O (fun hb=>?_) (fun hb=>?_)))))))
     ·
      have t:=G84 hb
      obtain⟨e9,c8,h⟩:=G7d s t
      replace h:=Jb8 c5 h
      refine Gk (c6 (Js fun c9=>Gg (Js fun d0=>?_)))
      obtain⟨f3,m,d1,d2,h⟩:=Rb h
      refine JC_d0 Jj (by kernel_rfl) (Dq (E1 b) (G2 O O) O (Dq (E7 e) (G2 O O) O (Dq (.dptr [I64 m]) (H0 (f:=I64) (xs:=b) (y:=m) O O O G7 d2 d1) O (Dq (I64 m) (Gm Gi O O O) O (Dq (E1 b) (G2 O O) O (Dq (E7 a) (G2 O O) O (Dq (.dptr [I64 d]) (H0 (f:=I64) (xs:=b) (y:=d) O O O G7 i O) O (Dq (I64 d) (Gm Gi O O O) O (Dq (BL (decide (m=d))) (Ym O O O) O (Dnil (d0 (JCc O h (fun h hb=>?_) (fun h hb=>?_)))))))))))))
      ·
       refine Jr fun d3=>(JLm (BL false) O (G6 (d3 (H1 (fin1 BL h)))))
      ·
       refine Gk (c9 (G1 (JLm (E7 e) O (JLh (I64 ((e+1:Nat):Int)) (J2 (Hi t (G47 c3)) O O O) O (JLm (I64 ((e+1:Nat):Int)) O (G6 (e6 _ _ (e+1) () (app1 c8 h) (by omega) ⟨(.sm O O),ø,rfl⟩)))))))
     ·
      have h:=app1 w (G7e s (Zj hb))
      refine Hg (b8 (G1 (JLm (E7 a) O (JLh (I64 ((a+1:Nat):Int)) (J2 (Hi q b6) O O O) O (JLm (I64 ((a+1:Nat):Int)) O (G6 (e4 _ _ (a+1) () (app1 b7 h) (by omega) ⟨(.sm O O),ø,rfl⟩)))))))
   ·
    have h:=app1 v (Hq p (Ha hb))
    refine Hg (b0 (Jr fun d4=>(JLm (BL true) O (G6 (d4 (H1 (fin1 BL h)))))))

def R9 (F:Nat) (y:Gp) (box:Int):Option (Int×Int×Bool):=
 each (fun f g (h:Unit) b=>
  each (fun c d (e:Unit) a=>
   bif decide (c=box) then
   (some ((g:Int),(d:Int),true))
   else
   (a ()))
  (fun(e:Unit)=>
   b ()) f 0 ())
 (fun(h:Unit)=>
  some (0,0,false)) y.Stacks 0 ()
theorem G50 (F:Nat) (y:Gp) (box:Int) (r:Int×Int×Bool) (h:R9 F y box=some r):Pure E8 89 [.agg [LS 1 (E1) y.Stacks,I64 y.Height],I64 box] (·=.tup [I64 r.1,I64 r.2.1,BL r.2.2]):=by
 unfold R9 at h
 refine Hb [.tmp 4,.tmp 5,.tmp 6] Try.func89 O O (Jr fun a3=>(JLh (.ptr 1090 0) (Q9 (cs:=[LS 1 (E1) y.Stacks,I64 y.Height]) 1090 O O O O O) O (JLm (I64 0) O (JLm (I64 0) O (JLm (BL false) O (G6 (a3 (H5 [(1,I64 box),(2,.dptr [LS 1 (E1) y.Stacks,I64 y.Height])] [] 1090 rfl rfl rfl ø rfl (by exact⟨.conv (.same rfl),.ptr,ø⟩) (Js fun a4=>Jr fun a5=>(JLm (I64 0) O (G6 (a5 (Gg ?_)))))))))))))
 obtain⟨b4,a6,a7,o,h⟩:=J4 h
 refine H9 (fun b (j:Unit)=>each b4 a6 (List.drop b y.Stacks) b j=some r) (fun b j=>[(1,I64 box),(2,.dptr [LS 1 (E1) y.Stacks,I64 y.Height]),(7,E7 b)]) (fun b j=>[]) (fun b=>y.Stacks.length - b) 0 () h ⟨(.sm O O),ø,O⟩ ?_
 clear h
 intro b j l K4 e4
 refine Js fun a8=>Jr fun a9=>(JLm (E7 b) O (JLh (.dptr [LS 1 (E1) y.Stacks,I64 y.Height]) (Gz H2 O O O) O (JLh (LS 1 (E1) y.Stacks) (Gm Gq O O O) O (JLl Gc O O O fun p=>(JLh (BL (decide ((b:Int) < (y.Stacks.length:Int)))) (Hz O O O) O (G6 (a9 (Gh O (fun hb=>?_) (fun hb=>?_)))))))))
 ·
  have m:=Jq hb
  obtain⟨c,b9,n,b0,h⟩:=Hp l m
  replace h:=Yo a7 h
  refine Gk (a8 (Js fun b1=>Gg (Jr fun b2=>(JLm (I64 0) O (G6 (b2 (Gg ?_)))))))
  obtain⟨b3,q,s,k,h⟩:=J4 h
  refine H9 (fun a (d:Unit)=>each b3 q (List.drop a c) a d=some r) (fun a d=>[(1,I64 box),(2,.dptr [LS 1 (E1) y.Stacks,I64 y.Height]),(7,E7 b),(8,E7 a)]) (fun a d=>[]) (fun a=>c.length - a) 0 () h ⟨(.sm O O),ø,rfl⟩ ?_
  clear h
  intro a d g c0 b5
  refine Js fun t=>Jr fun u=>(JLm (E7 a) O (JLh (.dptr [LS 1 (E1) y.Stacks,I64 y.Height]) (Gz H2 O O O) O (JLh (LS 1 (E1) y.Stacks) (Gm Gq O O O) O (JLm (E7 b) O (JLh (.dptr [E1 c]) (H0 (f:=(E1)) (xs:=y.Stacks) (y:=c) O O O Gc n O) O (JLh (E1 c) (Gm H4 O O O) O (JLl G7 O O O fun v=>(JLh (BL (decide ((a:Int) < (c.length:Int)))) (Hz O O O) O (G6 (u (Gh O (fun hb=>?_) (fun hb=>?_))))))))))))
  ·
   have i:=Jq hb
   obtain⟨e,b8,w,x,h⟩:=Hp g i
   replace h:=Yo s h
   refine Gk (t (Js fun z=>Gg (Jr fun a0=>(JLh (.dptr [LS 1 (E1) y.Stacks,I64 y.Height]) (Gz H2 O O O) O (JLh (LS 1 (E1) y.Stacks) (Gm Gq O O O) O (JLm (E7 b) O (JLh (.dptr [E1 c]) (H0 (f:=(E1)) (xs:=y.Stacks) (y:=c) O O O Gc n O) O (JLh (E1 c) (Gm H4 O O O) O (JLm (E7 a) O (JLh (.dptr [I64 e]) (H0 (f:=I64) (xs:=c) (y:=e) O O O G7 w O) O (JLh (I64 e) (Gm Gi O O O) O (JLm (I64 box) O (JLh (BL (decide (e=box))) (Ym O O O) O (G6 (a0 (JCc O h (fun h hb=>?_) (fun h hb=>?_)))))))))))))))))
   ·
    refine Jr fun a1=>(JLm (E7 b) O (JLm (E7 a) O (JLm (E7 b) O (JLm (E7 a) O (JLm (BL true) O (G6 (a1 (H1 (⟨[E7 b,E7 a,BL true],[],ø,O,⟨⟨_,O,.conv (.same O)⟩,⟨_,O,.conv (.same O)⟩,⟨_,O,.conv (.same O)⟩,ø⟩,O,congrArg (fun r:Int×Int×Bool=>(.tup [I64 r.1,I64 r.2.1,BL r.2.2]:AV)) (Ey h)⟩)))))))))
   ·
    refine Gk (z (G1 (JLm (E7 a) O (JLh (I64 ((a+1:Nat):Int)) (J2 (Hi i v) O O O) O (JLm (I64 ((a+1:Nat):Int)) O (G6 (b5 _ _ (a+1) () (app1 x h) (by omega) ⟨(.sm O O),ø,rfl⟩)))))))
  ·
   have h:=app1 k (Hq g (Ha hb))
   refine Hg (b1 (G1 (JLm (E7 b) O (JLh (I64 ((b+1:Nat):Int)) (J2 (Hi m p) O O O) O (JLm (I64 ((b+1:Nat):Int)) O (G6 (e4 _ _ (b+1) () (app1 b0 h) (by omega) ⟨(.sm O O),ø,rfl⟩)))))))
 ·
  have h:=app1 o (Hq l (Ha hb))
  refine Hg (a4 (Jr fun a2=>(JLm (I64 0) O (JLm (I64 0) O (JLm (BL false) O (G6 (a2 (H1 (⟨[I64 0,I64 0,BL false],[],ø,O,⟨⟨_,O,.conv (.same O)⟩,⟨_,O,.conv (.same O)⟩,⟨_,O,.conv (.same O)⟩,ø⟩,O,congrArg (fun r:Int×Int×Bool=>(.tup [I64 r.1,I64 r.2.1,BL r.2.2]:AV)) (Ey h)⟩)))))))))

def J7 (order:List Int) (box:Int):Option Int:=
 each (fun b c (d:Unit) a=>
  bif decide (b=box) then
  (some (c:Int))
  else
  (a ()))
 (fun(d:Unit)=>
  some (order.length:Int)) order 0 ()
theorem Jc (order:List Int) (box:Int) (r:Int) (h:J7 order box=some r):Pure E8 90 [E1 order,I64 box] (·=I64 r):=by
 unfold J7 at h
 refine Hb [.tmp 4] Try.func90 O O (Jr fun t=>(JLm (I64 0) O (G6 (t (Js fun u=>Jr fun v=>(JLm (I64 0) O (G6 (v (Gg ?_)))))))))
 obtain⟨w,i,j,g,h⟩:=J4 h
 refine H9 (fun a (b:Unit)=>each w i (List.drop a order) a b=some r) (fun a b=>[(0,E1 order),(1,I64 box),(5,E7 a)]) (fun a b=>[]) (fun a=>order.length - a) 0 () h ⟨(.sm O O),ø,O⟩ ?_
 clear h
 intro a b d a2 x
 refine Js fun k=>Jr fun l=>(JLm (E7 a) O (JLm (E1 order) O (JLl G7 O O O fun z=>(JLh (BL (decide ((a:Int) < (order.length:Int)))) (Hz O O O) O (G6 (l (Gh O (fun hb=>?_) (fun hb=>?_))))))))
 ·
  have e:=Jq hb
  obtain⟨c,a0,m,n,h⟩:=Hp d e
  replace h:=Yo j h
  refine Gk (k (Js fun o=>Gg (Jr fun p=>(JLm (E1 order) O (JLm (E7 a) O (JLh (.dptr [I64 c]) (H0 (f:=I64) (xs:=order) (y:=c) O O O G7 m O) O (JLh (I64 c) (Gm Gi O O O) O (JLm (I64 box) O (JLh (BL (decide (c=box))) (Ym O O O) O (G6 (p (JCc O h (fun h hb=>?_) (fun h hb=>?_)))))))))))))
  ·
   refine Jr fun q=>(JLm (E7 a) O (JLm (E7 a) O (G6 (q (H1 (fin1 I64 h))))))
  ·
   refine Gk (o (G1 (JLm (E7 a) O (JLh (I64 ((a+1:Nat):Int)) (J2 (Hi e z) O O O) O (JLm (I64 ((a+1:Nat):Int)) O (G6 (x _ _ (a+1) () (app1 n h) (by omega) ⟨(.sm O O),ø,rfl⟩)))))))
 ·
  have h:=app1 g (Hq d (Ha hb))
  refine Hg (u (Jr fun s=>(JLm (E1 order) O (JLl G7 O O O fun a1=>(JLm (E7 order.length) O (G6 (s (H1 (fin1 I64 h)))))))))

def Q3 (F:Nat) (y:Gp) (order:List Int):Option Bool:=
 bnd (Qd F y) fun g=>
 bif (!g) then
 (some false)
 else
 (each (fun a d (e:Unit) c=>
   bnd (R9 F y a) fun b=>
   bnd (bif (!(!b.2.2)) then J7 order a else some default) fun f=>
   bif ((!b.2.2)||(decide (f≠(d:Int)))) then
   (some false)
   else
   (c ()))
  (fun(e:Unit)=>
   some true) order 0 ())
theorem Ye (F:Nat) (y:Gp) (order:List Int) (r:Bool) (h:Q3 F y order=some r):Pure E8 65 [.agg [LS 1 (E1) y.Stacks,I64 y.Height],E1 order] (·=BL r):=by
 unfold Q3 at h
 refine Hb [.tmp 4] Try.func65 O O (Jr fun a2=>(JLh (.ptr 1065 0) (Q9 (cs:=[LS 1 (E1) y.Stacks,I64 y.Height]) 1065 O O O O O) O (JLm (BL false) O (G6 (a2 (H5 [(1,E1 order),(2,.dptr [LS 1 (E1) y.Stacks,I64 y.Height])] [] 1065 rfl rfl rfl ø rfl (by exact⟨.conv (.same rfl),.ptr,ø⟩) (Js fun a3=>Jr fun a4=>(JLh (.agg [LS 1 (E1) y.Stacks,I64 y.Height]) (Gv He O O O) O ?_))))))))
 obtain⟨l,a5,h⟩:=Gd h
 refine JLh (BL l) (Gt O (Zu F y l a5) H4d ⟨O,O,ø⟩) O (JLh (BL (!l)) (Z6 (b:=l) O O) O (G6 (a4 (JCc O h (fun h hb=>?_) (fun h hb=>?_)))))
 ·
  refine Jr fun a6=>(JLm (BL false) O (G6 (a6 (H1 (fin1 BL h)))))
 ·
  refine Gk (a3 (Js fun a7=>Jr fun a8=>(JLm (I64 0) O (G6 (a8 (Gg ?_))))))
  obtain⟨a9,n,o,m,h⟩:=J4 h
  refine H9 (fun a (e:Unit)=>each a9 n (List.drop a order) a e=some r) (fun a e=>[(1,E1 order),(2,.dptr [LS 1 (E1) y.Stacks,I64 y.Height]),(5,E7 a)]) (fun a e=>[]) (fun a=>order.length - a) 0 () h ⟨(.sm O O),ø,O⟩ ?_
  clear h
  intro a e i b2 b0
  refine Js fun p=>Jr fun q=>(JLm (E7 a) O (JLm (E1 order) O (JLl G7 O O O fun s=>(JLh (BL (decide ((a:Int) < (order.length:Int)))) (Hz O O O) O (G6 (q (Gh O (fun hb=>?_) (fun hb=>?_))))))))
  ·
   have j:=Jq hb
   obtain⟨d,b1,k,t,h⟩:=Hp i j
   replace h:=Yo o h
   refine Gk (p (Js fun u=>Gg (Js fun v=>?_)))
   obtain⟨c,w,h⟩:=Gd h
   refine JC_d0 Jj (by kernel_rfl) (Dq (.agg [LS 1 (E1) y.Stacks,I64 y.Height]) (Gv He O O O) O (Dq (E1 order) (G2 O O) O (Dq (E7 a) (G2 O O) O (Dq (.dptr [I64 d]) (H0 (f:=I64) (xs:=order) (y:=d) O O O G7 k O) O (Dq (I64 d) (Gm Gi O O O) O (Dq (.tup [I64 c.1,I64 c.2.1,BL c.2.2]) (Gt (args:=[.agg [LS 1 (E1) y.Stacks,I64 y.Height],I64 d]) O (G50 F y d c w) He4 ⟨O,O,O,O,ø⟩) O (Dq (.tup [I64 c.1,I64 c.2.1,BL c.2.2]) (G2 O O) O (Dq (I64 c.1) (Gu O O O) O (Dq (I64 c.2.1) (Gu O O O) O (Dq (BL c.2.2) (Gu O O O) O (Dq (I64 c.1) (G4 O O) O (Dq (I64 c.2.1) (G4 O O) O (Dq (BL c.2.2) (G4 O O) O (Dnil (v ?_)))))))))))))))
   refine Jr fun x=>(JLm (BL c.2.2) O (JLh (BL (!c.2.2)) (Z6 (b:=c.2.2) O O) O (JLm (BL (!c.2.2)) O (JLo (E1 order) [] O .scf ø (fun hc=>G2 O O) O (JLo (E1 order) [] O .scf ø (fun hc=>G2 O O) O (JLo (E7 a) [] O .scf ø (fun hc=>G2 O O) O (JLo (.dptr [I64 d]) [32,33] O .scf ⟨Ua,Ua,ø⟩ (fun hc=>H0 (f:=I64) (xs:=order) (y:=d) O O O G7 k O) O (JLo (I64 d) [34] O .scf ⟨Ua,ø⟩ (fun hc=>Gm Gi O O O) O ?_))))))))
   obtain⟨g,z,h⟩:=Gd h
   refine JLo (I64 g) [31,35] O .scf ⟨Ua,Ua,ø⟩ (fun hc=>Gt (args:=[E1 order,I64 d]) O (Jc order d g (H6 hc z)) Zs ⟨O,O,O,O,ø⟩) O (JLo (E7 a) [] O .scf ø (fun hc=>G2 O O) O (JLo (BL (decide (g≠(a:Int)))) [36,37] O .scf ⟨Ua,Ua,ø⟩ (fun hc=>G18 O O O) O (JLh (BL ((!c.2.2)||(decide (g≠(a:Int))))) (Ze O O O O) O (G6 (x (JCc O h (fun h hb=>?_) (fun h hb=>?_)))))))
   ·
    refine Jr fun a0=>(JLm (BL false) O (G6 (a0 (H1 (fin1 BL h)))))
   ·
    refine Gk (u (G1 (JLm (E7 a) O (JLh (I64 ((a+1:Nat):Int)) (J2 (Hi j s) O O O) O (JLm (I64 ((a+1:Nat):Int)) O (G6 (b0 _ _ (a+1) () (app1 t h) (by omega) ⟨(.sm O O),ø,rfl⟩)))))))
  ·
   have h:=app1 m (Hq i (Ha hb))
   refine Hg (a7 (Jr fun a1=>(JLm (BL true) O (G6 (a1 (H1 (fin1 BL h)))))))

def Qj (y:Gp) (stack:Int) (boxes:List Int):Option Gp:=
 each (fun b e (a:(List (List Int))×Int) d=>
  jp (fun c=>
   bif decide ((e:Int)=stack) then
   (need (decide ((([]:List Int).length+boxes.length)*8≤140737488355328∧([]:List Int).length+boxes.length≤maxLen)) <|
    need (decide ((a.1.length+[(([]:List Int)++boxes)].length)*24≤140737488355328∧a.1.length+[(([]:List Int)++boxes)].length≤maxLen)) <|
    c (a.1++[(([]:List Int)++boxes)]))
   else
   (need (decide ((([]:List Int).length+b.length)*8≤140737488355328∧([]:List Int).length+b.length≤maxLen)) <|
    need (decide ((a.1.length+[(([]:List Int)++b)].length)*24≤140737488355328∧a.1.length+[(([]:List Int)++b)].length≤maxLen)) <|
    c (a.1++[(([]:List Int)++b)]))) fun(f:(List (List Int)))=>
  d (f,a.2))
 (fun(a:(List (List Int))×Int)=>
  some (Gp.mk a.1 a.2)) y.Stacks 0 ([],y.Height)
theorem Yq (y:Gp) (stack:Int) (boxes:List Int) (r:Gp) (h:Qj y stack boxes=some r):Pure E8 91 [.agg [LS 1 (E1) y.Stacks,I64 y.Height],I64 stack,E1 boxes] (·=.agg [LS 1 (E1) r.Stacks,I64 r.Height]):=by
 unfold Qj at h
 refine Hb [.cell 6 67] Try.func91 O O (Jr fun a1=>(JLh (.ptr 1091 0) (Q9 (cs:=[LS 1 (E1) y.Stacks,I64 y.Height]) 1091 O O O O O) O (JLh (.ptr 1092 0) (Gb3 1092 [LS 1 (E1) ([]:List (List Int)),I64 0] [.slice none 0 0,E0] Yt ⟨.inr ⟨_,O,O⟩,.inl O,ø⟩ O O) O (G6 (a1 (fzQ [(1,I64 stack),(2,E1 boxes),(3,.dptr [LS 1 (E1) y.Stacks,I64 y.Height]),(6,.ptr 1092 0)] [(1092,.box 67 [LS 1 (E1) ([]:List (List Int)),I64 0])] 1091 rfl rfl rfl ⟨⟨_,rfl,.boxEq rfl rfl⟩,ø⟩ rfl ?_))))))
 refine Jr fun a2=>(JLh (.dptr [I64 y.Height]) (Gz G19 O O O) O (JLh (I64 y.Height) (Gm Gi O O O) O (JLh (.agg [.sc (.slice none 0 0),I64 y.Height]) (Jo (cs:=[.sc (.slice none 0 0),I64 y.Height]) [(0,1),(1,1)] [.sc (.slice none 0 0),I64 0] [.slice none 0 0,E0] Yz Yt (zzQ O) O O) O (JLh (.ptr 1093 0) (Ji 1093 2 Yi O O) O (J9 (u:=.junk) (Ho (u:=.agg [.sc (.slice none 0 0),I64 y.Height]) (ds:=[.sc (.slice none 0 0),I64 y.Height]) Q5 O O O O O O O O) (H67 1093 0 1096 25 1 O O O (cs':=[OW 1096 1 (E1) ([]:List (List Int)),I64 y.Height]) O (G6 (a2 (Js fun a3=>Jr fun a4=>(JLm (I64 0) O (G6 (a4 (Gg ?_)))))))))))))
 obtain⟨a5,l,m,j,h⟩:=J4 h
 refine H9 (fun c (a:(List (List Int))×Int)=>each a5 l (List.drop c y.Stacks) c a=some r) (fun c a=>[(1,I64 stack),(2,E1 boxes),(3,.dptr [LS 1 (E1) y.Stacks,I64 y.Height]),(6,.ptr 1092 0),(7,.ptr 1093 0),(8,E7 c)]) (fun c a=>[(1096,.spare 25 1 a.1.length a.1.length),(1092,.box 67 [LS 1 (E1) ([]:List (List Int)),I64 0]),(1093,.box 67 [OW 1096 1 (E1) a.1,I64 a.2])]) (fun c=>y.Stacks.length - c) 0 ([],y.Height) h ⟨(.sm O O),⟨⟨_,rfl,.same⟩,fbQ O (.sm O O),fbQ O (.sm O O),ø⟩,rfl⟩ ?_
 clear h
 intro c a e a8 a6
 refine Js fun n=>Jr fun o=>(JLm (E7 c) O (JLh (.dptr [LS 1 (E1) y.Stacks,I64 y.Height]) (Gz H2 O O O) O (JLh (LS 1 (E1) y.Stacks) (Gm Gq O O O) O (JLl Gc O O O fun p=>(JLh (BL (decide ((c:Int) < (y.Stacks.length:Int)))) (Hz O O O) O (G6 (o (Gh O (fun hb=>?_) (fun hb=>?_)))))))))
 ·
  have g:=Jq hb
  obtain⟨b,a7,i,q,h⟩:=Hp e g
  replace h:=Yo m h
  refine Gk (n ?_)
  obtain⟨s,k,h⟩:=G0e h
  refine Zc (fun d:(List (List Int))=>s d=some r) (fun d=>[(1,I64 stack),(2,E1 boxes),(3,.dptr [LS 1 (E1) y.Stacks,I64 y.Height]),(6,.ptr 1092 0),(7,.ptr 1093 0),(8,E7 c)]) (fun d=>[(1096,.spare 25 1 d.length d.length),(1092,.box 67 [LS 1 (E1) ([]:List (List Int)),I64 0]),(1093,.box 67 [OW 1096 1 (E1) d,I64 a.2])]) (fun Kj46 ej46=>?_) ?_
  ·
   refine Gg (Jr fun t=>(JLm (E7 c) O (JLm (I64 stack) O (JLh (BL (decide ((c:Int)=stack))) (Ym O O O) O (G6 (t (JCc O h (fun h hb=>?_) (fun h hb=>?_))))))))
   ·
    refine Rg (l':=[(1,I64 stack),(2,E1 boxes),(3,.dptr [LS 1 (E1) y.Stacks,I64 y.Height]),(6,.ptr 1092 0),(7,.ptr 1093 0),(8,E7 c)]) (L':=[(1096,.spare 25 1 a.1.length a.1.length),(1092,.box 67 [LS 1 (E1) ([]:List (List Int)),I64 0]),(1093,.box 67 [OW 1096 1 (E1) a.1,I64 a.2])]) ⟨(.sm O O),⟨⟨_,rfl,.same⟩,fbQ O (.sm O O),fbQ O (.sm O O),ø⟩,rfl⟩ ?_
    obtain⟨v,h⟩:=J3 h
    obtain⟨w,h⟩:=J3 h
    refine Q0 [2,4,6,8] [0,0,0,0,0,2,0,3,0] [2,2,0,1,0,2,0,3,0] [[(1096,.spare 25 1 a.1.length a.1.length),(1092,.box 67 [LS 1 (E1) ([]:List (List Int)),I64 0]),(1093,.box 67 [OW 1096 1 (E1) a.1,I64 a.2])],((1094,.spare 3 1 ([]:List Int).length ([]:List Int).length)::[(1096,.spare 25 1 a.1.length a.1.length),(1092,.box 67 [LS 1 (E1) ([]:List (List Int)),I64 0]),(1093,.box 67 [OW 1096 1 (E1) a.1,I64 a.2])]),((1094,.spare 3 1 (([]:List Int)++boxes).length (([]:List Int)++boxes).length)::((1094,.spare 3 1 ([]:List Int).length ([]:List Int).length)::[(1096,.spare 25 1 a.1.length a.1.length),(1092,.box 67 [LS 1 (E1) ([]:List (List Int)),I64 0]),(1093,.box 67 [OW 1096 1 (E1) a.1,I64 a.2])])),((1096,.spare 25 1 (a.1++[(([]:List Int)++boxes)]).length (a.1++[(([]:List Int)++boxes)]).length)::((1094,.spare 3 1 (([]:List Int)++boxes).length (([]:List Int)++boxes).length)::((1094,.spare 3 1 ([]:List Int).length ([]:List Int).length)::[(1096,.spare 25 1 a.1.length a.1.length),(1092,.box 67 [LS 1 (E1) ([]:List (List Int)),I64 0]),(1093,.box 67 [OW 1096 1 (E1) a.1,I64 a.2])]))),((1093,.box 67 [OW 1096 1 (E1) (a.1++[(([]:List Int)++boxes)]),I64 a.2])::((1096,.spare 25 1 (a.1++[(([]:List Int)++boxes)]).length (a.1++[(([]:List Int)++boxes)]).length)::((1094,.spare 3 1 (([]:List Int)++boxes).length (([]:List Int)++boxes).length)::((1094,.spare 3 1 ([]:List Int).length ([]:List Int).length)::[(1096,.spare 25 1 a.1.length a.1.length),(1092,.box 67 [LS 1 (E1) ([]:List (List Int)),I64 0]),(1093,.box 67 [OW 1096 1 (E1) a.1,I64 a.2])]))))] Jj (by kernel_rfl) rfl rfl ?_
    refine Gb (u:=.ptr 1093 0) O O ⟨Ga (Hv H2 O O) O,Ga (Hv H2 O O) O,Ga (Hv H2 O O) O,ø⟩ (Gb (u:=OW 1096 1 (E1) a.1) O O ⟨Ga (Hu Gq O O O O) O,Ga (Hu Gq O O O O) O,Ga (Hu Gq O O O O) O,ø⟩ (D_w (u:=OW 1094 1 I64 ([]:List Int)) O O O O (Ga (Ge2 1094 3 1 O O G7) O) (Gb (u:=E1 boxes) O O ⟨Ga (G2 O O) O,Ga (G2 O O) O,ø⟩ (D_w (u:=OW 1094 1 I64 (([]:List Int)++boxes)) O O O O (Ga (G30 (f:=I64) (xs:=([]:List Int)) (ys:=boxes) O O O O G7 Rj v (fun _=>O) (.inl O)) O) (Gb (u:=LS 1 (E1) ([(([]:List Int)++boxes)])) O O ⟨Ga (H8 (xs:=[E1 (([]:List Int)++boxes)]) O ⟨O,O,ø⟩ Gc Z2 O O O O) O,ø⟩ (D_w (u:=OW 1096 1 (E1) (a.1++[(([]:List Int)++boxes)])) O O O O (Ga (Rz (f:=(E1)) (xs:=a.1) (ys:=[(([]:List Int)++boxes)]) O O O O Gc G42 w (fun _=>O) (.inl O) O) O) (Gb (u:=.ptr 1093 0) O O ⟨Ga (Hv H2 O O) O,ø⟩ (H41 (u:=.junk) O O O O (Ga (Ho (u:=OW 1096 1 (E1) (a.1++[(([]:List Int)++boxes)])) (ds:=[OW 1096 1 (E1) (a.1++[(([]:List Int)++boxes)]),I64 a.2]) Ga1 O O O O O O O O) O) (Y9 ?_)))))))))
    exact ej46 _ _ (a.1++[(([]:List Int)++boxes)]) h ⟨(.sm O O),⟨⟨_,rfl,.same⟩,fbQ O (.sm O O),fbQ O (.sm O O),ø⟩,rfl⟩
   ·
    refine Rg (l':=[(1,I64 stack),(2,E1 boxes),(3,.dptr [LS 1 (E1) y.Stacks,I64 y.Height]),(6,.ptr 1092 0),(7,.ptr 1093 0),(8,E7 c)]) (L':=[(1096,.spare 25 1 a.1.length a.1.length),(1092,.box 67 [LS 1 (E1) ([]:List (List Int)),I64 0]),(1093,.box 67 [OW 1096 1 (E1) a.1,I64 a.2])]) ⟨(.sm O O),⟨⟨_,rfl,.same⟩,fbQ O (.sm O O),fbQ O (.sm O O),ø⟩,rfl⟩ ?_
    obtain⟨x,h⟩:=J3 h
    obtain⟨z,h⟩:=J3 h
    refine Q0 [2,8,10,12] [0,0,0,0,0,0,0,0,0,2,0,3,0] [2,2,0,1,1,1,1,1,0,2,0,3,0] [[(1096,.spare 25 1 a.1.length a.1.length),(1092,.box 67 [LS 1 (E1) ([]:List (List Int)),I64 0]),(1093,.box 67 [OW 1096 1 (E1) a.1,I64 a.2])],((1095,.spare 3 1 ([]:List Int).length ([]:List Int).length)::[(1096,.spare 25 1 a.1.length a.1.length),(1092,.box 67 [LS 1 (E1) ([]:List (List Int)),I64 0]),(1093,.box 67 [OW 1096 1 (E1) a.1,I64 a.2])]),((1095,.spare 3 1 (([]:List Int)++b).length (([]:List Int)++b).length)::((1095,.spare 3 1 ([]:List Int).length ([]:List Int).length)::[(1096,.spare 25 1 a.1.length a.1.length),(1092,.box 67 [LS 1 (E1) ([]:List (List Int)),I64 0]),(1093,.box 67 [OW 1096 1 (E1) a.1,I64 a.2])])),((1096,.spare 25 1 (a.1++[(([]:List Int)++b)]).length (a.1++[(([]:List Int)++b)]).length)::((1095,.spare 3 1 (([]:List Int)++b).length (([]:List Int)++b).length)::((1095,.spare 3 1 ([]:List Int).length ([]:List Int).length)::[(1096,.spare 25 1 a.1.length a.1.length),(1092,.box 67 [LS 1 (E1) ([]:List (List Int)),I64 0]),(1093,.box 67 [OW 1096 1 (E1) a.1,I64 a.2])]))),((1093,.box 67 [OW 1096 1 (E1) (a.1++[(([]:List Int)++b)]),I64 a.2])::((1096,.spare 25 1 (a.1++[(([]:List Int)++b)]).length (a.1++[(([]:List Int)++b)]).length)::((1095,.spare 3 1 (([]:List Int)++b).length (([]:List Int)++b).length)::((1095,.spare 3 1 ([]:List Int).length ([]:List Int).length)::[(1096,.spare 25 1 a.1.length a.1.length),(1092,.box 67 [LS 1 (E1) ([]:List (List Int)),I64 0]),(1093,.box 67 [OW 1096 1 (E1) a.1,I64 a.2])]))))] Jj (by kernel_rfl) rfl rfl ?_
    refine Gb (u:=.ptr 1093 0) O O ⟨Ga (Hv H2 O O) O,Ga (Hv H2 O O) O,Ga (Hv H2 O O) O,ø⟩ (Gb (u:=OW 1096 1 (E1) a.1) O O ⟨Ga (Hu Gq O O O O) O,Ga (Hu Gq O O O O) O,Ga (Hu Gq O O O O) O,ø⟩ (D_w (u:=OW 1095 1 I64 ([]:List Int)) O O O O (Ga (Ge2 1095 3 1 O O G7) O) (Gb (u:=.dptr [LS 1 (E1) y.Stacks,I64 y.Height]) O O ⟨Ga (Gz H2 O O O) O,Ga (Gz H2 O O O) O,ø⟩ (Gb (u:=LS 1 (E1) y.Stacks) O O ⟨Ga (Gm Gq O O O) O,Ga (Gm Gq O O O) O,ø⟩ (Gb (u:=E7 c) O O ⟨Ga (G2 O O) O,Ga (G2 O O) O,ø⟩ (Gb (u:=.dptr [E1 b]) O O ⟨Ga (H0 (f:=(E1)) (xs:=y.Stacks) (y:=b) O O O Gc i O) O,Ga (H0 (f:=(E1)) (xs:=y.Stacks) (y:=b) O O O Gc i O) O,ø⟩ (Gb (u:=E1 b) O O ⟨Ga (Gm H4 O O O) O,Ga (Gm H4 O O O) O,ø⟩ (D_w (u:=OW 1095 1 I64 (([]:List Int)++b)) O O O O (Ga (G30 (f:=I64) (xs:=([]:List Int)) (ys:=b) O O O O G7 Rj x (fun _=>O) (.inl O)) O) (Gb (u:=LS 1 (E1) ([(([]:List Int)++b)])) O O ⟨Ga (H8 (xs:=[E1 (([]:List Int)++b)]) O ⟨O,O,ø⟩ Gc Z2 O O O O) O,ø⟩ (D_w (u:=OW 1096 1 (E1) (a.1++[(([]:List Int)++b)])) O O O O (Ga (Rz (f:=(E1)) (xs:=a.1) (ys:=[(([]:List Int)++b)]) O O O O Gc G42 z (fun _=>O) (.inl O) O) O) (Gb (u:=.ptr 1093 0) O O ⟨Ga (Hv H2 O O) O,ø⟩ (H41 (u:=.junk) O O O O (Ga (Ho (u:=OW 1096 1 (E1) (a.1++[(([]:List Int)++b)])) (ds:=[OW 1096 1 (E1) (a.1++[(([]:List Int)++b)]),I64 a.2]) Ga1 O O O O O O O O) O) (Y9 ?_)))))))))))))
    exact ej46 _ _ (a.1++[(([]:List Int)++b)]) h ⟨(.sm O O),⟨⟨_,rfl,.same⟩,fbQ O (.sm O O),fbQ O (.sm O O),ø⟩,rfl⟩
  ·intro d h
   replace h:=app1 k h
   refine G1 (JLm (E7 c) O (JLh (I64 ((c+1:Nat):Int)) (J2 (Hi g p) O O O) O (JLm (I64 ((c+1:Nat):Int)) O (G6 (a6 _ _ (c+1) (d,a.2) (app1 q h) (by omega) ⟨(.sm O O),⟨⟨_,rfl,.same⟩,fbQ O (.sm O O),fbQ O (.sm O O),ø⟩,rfl⟩)))))
 ·
  have h:=app1 j (Hq e (Ha hb))
  refine Hg (a3 (Jr fun a0=>(JLh (.agg [OW 1096 1 (E1) a.1,I64 a.2]) (Jg He O O O O) O (J9 (u:=.junk) (Ho (u:=.agg [OW 1096 1 (E1) a.1,I64 a.2]) (ds:=[OW 1096 1 (E1) a.1,I64 a.2]) Q5 O O O O O O O O) (G6 (a0 (H1 (⟨[.agg [LS 1 (E1) a.1,I64 a.2]],[],ø,O,⟨⟨_,⟨_,_,_,_,O,O,O,.inl ⟨He,O⟩⟩,.agg ⟨.list O,.same O,ø⟩⟩,ø⟩,O,congrArg (fun r:Gp=>(.agg [LS 1 (E1) r.Stacks,I64 r.Height]:AV)) (Ey h)⟩))))))))

def Ju (F:Nat) (y:Gp) (m:G8):Option (Gp×Int):=
 bnd (Qd F y) fun i=>
 bif (!i) then
 (some ((Gp.mk [] 0),2))
 else
 (bif ((((decide (m.From < 0))||(decide (m.To < 0)))||(decide ((y.Stacks.length:Int)≤m.From)))||(decide ((y.Stacks.length:Int)≤m.To))) then
  (some ((Gp.mk [] 0),6))
  else
  (bif decide (m.From=m.To) then
   (some ((Gp.mk [] 0),340))
   else
   (R6 y.Stacks m.From fun a=>
    R6 y.Stacks m.To fun b=>
    bif decide ((a.length:Int)=0) then
    (some ((Gp.mk [] 0),341))
    else
    (bif decide (y.Height≤(b.length:Int)) then
     (some ((Gp.mk [] 0),4))
     else
     (need (decide ((([]:List Int).length+b.length)*8≤140737488355328∧([]:List Int).length+b.length≤maxLen)) <|
      chk ((a.length:Int) - 1) fun d=>
      R6 a d fun c=>
      need (decide (((([]:List Int)++b).length+[c].length)*8≤140737488355328∧(([]:List Int)++b).length+[c].length≤maxLen)) <|
      bnd (Qj y m.To ((([]:List Int)++b)++[c])) fun e=>
      chk ((a.length:Int) - 1) fun f=>
      bnd (Y6 f a.length) fun g=>
      bnd (Qj e m.From (a.take g)) fun h=>
      some (h,0))))))
abbrev Ef (r:Gp×Int):List AV:=[.agg [LS 1 (E1) r.1.Stacks,I64 r.1.Height],I64 r.2]
theorem Yg (F:Nat) (y:Gp) (m:G8) (r:Gp×Int) (h:Ju F y m=some r):Pure E8 76 [.agg [LS 1 (E1) y.Stacks,I64 y.Height],.agg [I64 m.From,I64 m.To]] (·=.tup [.agg [LS 1 (E1) r.1.Stacks,I64 r.1.Height],I64 r.2]):=by
 unfold Ju at h
 refine Hb [.cell 4 67,.tmp 5] Try.func76 O O (Jr fun b3=>(JLh (.ptr 1084 0) (Q9 (cs:=[LS 1 (E1) y.Stacks,I64 y.Height]) 1084 O O O O O) O (JLh (.ptr 1085 0) (Q9 (cs:=[I64 m.From,I64 m.To]) 1085 O O O O O) O (JLh (.ptr 1086 0) (Gb3 1086 [LS 1 (E1) ([]:List (List Int)),I64 0] [.slice none 0 0,E0] Yt ⟨.inr ⟨_,O,O⟩,.inl O,ø⟩ O O) O (JLm (I64 0) O (G6 (b3 (H5 [(2,.dptr [LS 1 (E1) y.Stacks,I64 y.Height]),(3,.ptr 1085 0),(4,.ptr 1086 0)] [(1085,.box 64 [I64 m.From,I64 m.To]),(1086,.box 67 [LS 1 (E1) ([]:List (List Int)),I64 0])] 1084 rfl rfl rfl ⟨⟨_,rfl,.boxEq rfl rfl⟩,⟨_,rfl,.boxEq rfl rfl⟩,ø⟩ rfl (by exact⟨.ptr,.conv (.same rfl),.conv (.same rfl),ø⟩) ?_))))))))
 refine H5 [(2,.dptr [LS 1 (E1) y.Stacks,I64 y.Height]),(3,.dptr [I64 m.From,I64 m.To]),(4,.ptr 1086 0)] [(1086,.box 67 [LS 1 (E1) ([]:List (List Int)),I64 0])] 1085 rfl rfl rfl ⟨⟨_,rfl,.boxEq rfl rfl⟩,ø⟩ rfl (by exact⟨.conv (.same rfl),.ptr,.conv (.same rfl),ø⟩) (Js fun b4=>Jr fun b5=>(JLh (.agg [LS 1 (E1) y.Stacks,I64 y.Height]) (Gv He O O O) O ?_))
 obtain⟨p,b6,h⟩:=Gd h
 refine JLh (BL p) (Gt O (Zu F y p b6) H4d ⟨O,O,ø⟩) O (JLh (BL (!p)) (Z6 (b:=p) O O) O (G6 (b5 (JCc O h (fun h hb=>?_) (fun h hb=>?_)))))
 ·
  refine Jr fun b7=>(JLh (.agg [LS 1 (E1) ([]:List (List Int)),I64 0]) (Jo (cs:=[LS 1 (E1) ([]:List (List Int)),I64 0]) [(0,1),(1,1)] [LS 1 (E1) ([]:List (List Int)),I64 0] [.slice none 0 0,E0] Yz Yt ⟨.inr ⟨_,O,O⟩,.inl O,ø⟩ O O) O (J9 (u:=.junk) (Ho (u:=.agg [LS 1 (E1) ([]:List (List Int)),I64 0]) (ds:=[LS 1 (E1) ([]:List (List Int)),I64 0]) Q5 O O O O O O O O) (JLm (I64 2) O (G6 (b7 (H1 (⟨[.agg [LS 1 (E1) ([]:List (List Int)),I64 0],I64 2],[],ø,O,⟨⟨_,⟨_,_,_,_,O,O,O,.inl ⟨He,O⟩⟩,.conv (.same O)⟩,⟨_,O,.conv (.same O)⟩,ø⟩,O,congrArg (fun r:Gp×Int=>(.tup (Ef r):AV)) (Ey h)⟩)))))))
 ·
  refine Gk (b4 (Js fun b8=>?_))
  refine Jr fun b9=>(JLh (.dptr [I64 m.From,I64 m.To]) (Gz G38 O O O) O (JLh (I64 m.From) (Gm Gi O O O) O (JLh (BL (decide (m.From < 0))) (Hz O O O) O (JLm (BL (decide (m.From < 0))) O (JLo (.dptr [I64 m.To]) [] O .scf ø (fun hc=>Gz Qu O O O) O (JLo (I64 m.To) [17] O .scf ⟨Ua,ø⟩ (fun hc=>Gm Gi O O O) O (JLo (BL (decide (m.To < 0))) [18] O .scf ⟨Ua,ø⟩ (fun hc=>Hz O O O) O (JLh (BL ((decide (m.From < 0))||(decide (m.To < 0)))) (Ze O O O O) O (JLm (BL ((decide (m.From < 0))||(decide (m.To < 0)))) O (JLo (.dptr [I64 m.From,I64 m.To]) [] O .scf ø (fun hc=>Gz G38 O O O) O (JLo (I64 m.From) [22] O .scf ⟨Ua,ø⟩ (fun hc=>Gm Gi O O O) O (JLo (.dptr [LS 1 (E1) y.Stacks,I64 y.Height]) [] O .scf ø (fun hc=>Gz H2 O O O) O (JLo (LS 1 (E1) y.Stacks) [24] O .scf ⟨Ua,ø⟩ (fun hc=>Gm Gq O O O) O ?_)))))))))))))
  refine JLo (E7 y.Stacks.length) [25] O .scf ⟨Ua,ø⟩ (fun hc=>Qe (f:=(E1)) (xs:=y.Stacks) Gc O O) O (JLo (BL (decide ((y.Stacks.length:Int)≤m.From))) [23,26] O .scf ⟨Ua,Ua,ø⟩ (fun hc=>G53 O O O) O (JLh (BL (((decide (m.From < 0))||(decide (m.To < 0)))||(decide ((y.Stacks.length:Int)≤m.From)))) (Ze O O O O) O (JLm (BL (((decide (m.From < 0))||(decide (m.To < 0)))||(decide ((y.Stacks.length:Int)≤m.From)))) O (JLo (.dptr [I64 m.To]) [] O .scf ø (fun hc=>Gz Qu O O O) O (JLo (I64 m.To) [30] O .scf ⟨Ua,ø⟩ (fun hc=>Gm Gi O O O) O (JLo (.dptr [LS 1 (E1) y.Stacks,I64 y.Height]) [] O .scf ø (fun hc=>Gz H2 O O O) O (JLo (LS 1 (E1) y.Stacks) [32] O .scf ⟨Ua,ø⟩ (fun hc=>Gm Gq O O O) O (JLo (E7 y.Stacks.length) [33] O .scf ⟨Ua,ø⟩ (fun hc=>Qe (f:=(E1)) (xs:=y.Stacks) Gc O O) O (JLo (BL (decide ((y.Stacks.length:Int)≤m.To))) [31,34] O .scf ⟨Ua,Ua,ø⟩ (fun hc=>G53 O O O) O (JLh (BL ((((decide (m.From < 0))||(decide (m.To < 0)))||(decide ((y.Stacks.length:Int)≤m.From)))||(decide ((y.Stacks.length:Int)≤m.To)))) (Ze O O O O) O (G6 (b9 ?_))))))))))))
  refine JCc O h ?_ ?_<;>intro h hb
  ·
   refine Jr fun c0=>(JLh (.agg [LS 1 (E1) ([]:List (List Int)),I64 0]) (Jo (cs:=[LS 1 (E1) ([]:List (List Int)),I64 0]) [(0,1),(1,1)] [LS 1 (E1) ([]:List (List Int)),I64 0] [.slice none 0 0,E0] Yz Yt ⟨.inr ⟨_,O,O⟩,.inl O,ø⟩ O O) O (J9 (u:=.junk) (Ho (u:=.agg [LS 1 (E1) ([]:List (List Int)),I64 0]) (ds:=[LS 1 (E1) ([]:List (List Int)),I64 0]) Q5 O O O O O O O O) (JLm (I64 6) O (G6 (c0 (H1 (⟨[.agg [LS 1 (E1) ([]:List (List Int)),I64 0],I64 6],[],ø,O,⟨⟨_,⟨_,_,_,_,O,O,O,.inl ⟨He,O⟩⟩,.conv (.same O)⟩,⟨_,O,.conv (.same O)⟩,ø⟩,O,congrArg (fun r:Gp×Int=>(.tup (Ef r):AV)) (Ey h)⟩)))))))
  ·
   refine Gk (b8 (Js fun c1=>Jr fun s=>(JLh (.dptr [I64 m.From,I64 m.To]) (Gz G38 O O O) O (JLh (I64 m.From) (Gm Gi O O O) O (JLh (.dptr [I64 m.To]) (Gz Qu O O O) O (JLh (I64 m.To) (Gm Gi O O O) O (JLh (BL (decide (m.From=m.To))) (Ym O O O) O (G6 (s (JCc O h (fun h hb=>?_) (fun h hb=>?_)))))))))))
   ·
    refine Jr fun t=>(JLh (.agg [LS 1 (E1) ([]:List (List Int)),I64 0]) (Jo (cs:=[LS 1 (E1) ([]:List (List Int)),I64 0]) [(0,1),(1,1)] [LS 1 (E1) ([]:List (List Int)),I64 0] [.slice none 0 0,E0] Yz Yt ⟨.inr ⟨_,O,O⟩,.inl O,ø⟩ O O) O (J9 (u:=.junk) (Ho (u:=.agg [LS 1 (E1) ([]:List (List Int)),I64 0]) (ds:=[LS 1 (E1) ([]:List (List Int)),I64 0]) Q5 O O O O O O O O) (JLm (I64 340) O (G6 (t (H1 (⟨[.agg [LS 1 (E1) ([]:List (List Int)),I64 0],I64 340],[],ø,O,⟨⟨_,⟨_,_,_,_,O,O,O,.inl ⟨He,O⟩⟩,.conv (.same O)⟩,⟨_,O,.conv (.same O)⟩,ø⟩,O,congrArg (fun r:Gp×Int=>(.tup (Ef r):AV)) (Ey h)⟩)))))))
   ·
    refine Gk (c1 (Js fun v=>Rg (l':=[(2,.dptr [LS 1 (E1) y.Stacks,I64 y.Height]),(3,.dptr [I64 m.From,I64 m.To]),(4,.ptr 1086 0)]) (L':=[(1086,.box 67 [LS 1 (E1) ([]:List (List Int)),I64 0])]) ⟨(.sm O O),⟨⟨_,O,.boxL O (.sm O O)⟩,ø⟩,O⟩ ?_))
    obtain⟨c6,d,x,z,h⟩:=Rb h
    obtain⟨c7,a,a0,a1,h⟩:=Rb h
    refine JC_d0 Jj (by kernel_rfl) (Dq (.dptr [LS 1 (E1) y.Stacks,I64 y.Height]) (Gz H2 O O O) O (Dq (LS 1 (E1) y.Stacks) (Gm Gq O O O) O (Dq (.dptr [I64 m.From,I64 m.To]) (Gz G38 O O O) O (Dq (I64 m.From) (Gm Gi O O O) O (Dq (.dptr [E1 d]) (H0 (f:=(E1)) (xs:=y.Stacks) (y:=d) O O O Gc z x) O (Dq (E1 d) (Gm H4 O O O) O (Dq (.dptr [LS 1 (E1) y.Stacks,I64 y.Height]) (Gz H2 O O O) O (Dq (LS 1 (E1) y.Stacks) (Gm Gq O O O) O (Dq (.dptr [I64 m.To]) (Gz Qu O O O) O (Dq (I64 m.To) (Gm Gi O O O) O (Dq (.dptr [E1 a]) (H0 (f:=(E1)) (xs:=y.Stacks) (y:=a) O O O Gc a1 a0) O (Dq (E1 a) (Gm H4 O O O) O (Dq (E1 d) (G4 O O) O ?_)))))))))))))
    refine Dq (E1 a) (G4 O O) O (Dnil (v (Js fun a2=>Jr fun a3=>(JLm (E1 d) O (JLl G7 O O O fun c4=>(JLh (BL (decide ((d.length:Int)=0))) (Ym O O O) O (G6 (a3 (JCc O h (fun h hb=>?_) (fun h hb=>?_))))))))))
    ·
     refine Jr fun a4=>(JLh (.agg [LS 1 (E1) ([]:List (List Int)),I64 0]) (Jo (cs:=[LS 1 (E1) ([]:List (List Int)),I64 0]) [(0,1),(1,1)] [LS 1 (E1) ([]:List (List Int)),I64 0] [.slice none 0 0,E0] Yz Yt ⟨.inr ⟨_,O,O⟩,.inl O,ø⟩ O O) O (J9 (u:=.junk) (Ho (u:=.agg [LS 1 (E1) ([]:List (List Int)),I64 0]) (ds:=[LS 1 (E1) ([]:List (List Int)),I64 0]) Q5 O O O O O O O O) (JLm (I64 341) O (G6 (a4 (H1 (⟨[.agg [LS 1 (E1) ([]:List (List Int)),I64 0],I64 341],[],ø,O,⟨⟨_,⟨_,_,_,_,O,O,O,.inl ⟨He,O⟩⟩,.conv (.same O)⟩,⟨_,O,.conv (.same O)⟩,ø⟩,O,congrArg (fun r:Gp×Int=>(.tup (Ef r):AV)) (Ey h)⟩)))))))
    ·
     refine Gk (a2 (Js fun a5=>Jr fun a6=>(JLm (E1 a) O (JLl G7 O O O fun c5=>(JLh (.dptr [I64 y.Height]) (Gz G19 O O O) O (JLh (I64 y.Height) (Gm Gi O O O) O (JLh (BL (decide (y.Height≤(a.length:Int)))) (G53 O O O) O (G6 (a6 (JCc O h (fun h hb=>?_) (fun h hb=>?_)))))))))))
     ·
      refine Jr fun a7=>(JLh (.agg [LS 1 (E1) ([]:List (List Int)),I64 0]) (Jo (cs:=[LS 1 (E1) ([]:List (List Int)),I64 0]) [(0,1),(1,1)] [LS 1 (E1) ([]:List (List Int)),I64 0] [.slice none 0 0,E0] Yz Yt ⟨.inr ⟨_,O,O⟩,.inl O,ø⟩ O O) O (J9 (u:=.junk) (Ho (u:=.agg [LS 1 (E1) ([]:List (List Int)),I64 0]) (ds:=[LS 1 (E1) ([]:List (List Int)),I64 0]) Q5 O O O O O O O O) (JLm (I64 4) O (G6 (a7 (H1 (⟨[.agg [LS 1 (E1) ([]:List (List Int)),I64 0],I64 4],[],ø,O,⟨⟨_,⟨_,_,_,_,O,O,O,.inl ⟨He,O⟩⟩,.conv (.same O)⟩,⟨_,O,.conv (.same O)⟩,ø⟩,O,congrArg (fun r:Gp×Int=>(.tup (Ef r):AV)) (Ey h)⟩)))))))
     ·
      refine Gk (a5 (Js fun a8=>Rg (l':=[(2,.dptr [LS 1 (E1) y.Stacks,I64 y.Height]),(3,.dptr [I64 m.From,I64 m.To]),(4,.ptr 1086 0),(6,E1 d),(7,E1 a)]) (L':=[(1086,.box 67 [LS 1 (E1) ([]:List (List Int)),I64 0])]) ⟨(.sm O O),⟨fbQ O (.sm O O),ø⟩,rfl⟩ ?_))
      obtain⟨l,h⟩:=J3 h
      obtain⟨c2,i,h⟩:=Jh h
      obtain⟨c8,c,j,k,h⟩:=Rb h
      obtain⟨n,h⟩:=J3 h
      obtain⟨e,o,h⟩:=Gd h
      refine Qb8 [3,5,13,15,16] [[[false,false,false,false,false],[true,false,false,false,false],[true,true,false,false,false],[true,true,true,false,false],[false,false,false,true,false],[true,false,false,true,false],[true,true,false,true,false],[true,true,true,true,false]],[[false,false,false,false,false],[true,false,false,false,false],[true,true,false,false,false],[true,true,true,false,false],[false,false,false,true,false],[true,false,false,true,false],[true,true,false,true,false],[true,true,true,true,false]],[[false,false,false,false,false],[true,false,false,false,false],[true,true,false,false,false],[true,true,true,false,false],[false,false,false,true,false],[true,false,false,true,false],[true,true,false,true,false],[true,true,true,true,false]],[[false,false,false,false,false],[false,false,false,true,false]],[[false,false,false,false,false],[true,false,false,false,false],[false,false,false,true,false],[true,false,false,true,false]],[[true,false,false,false,false],[true,false,false,true,false]],[[false,false,false,false,false],[true,false,false,false,false],[true,true,false,false,false],[false,false,false,true,false],[true,false,false,true,false],[true,true,false,true,false]],[[false,false,false,false,false],[true,false,false,false,false],[true,true,false,false,false],[false,false,false,true,false],[true,false,false,true,false],[true,true,false,true,false]],[[false,false,false,false,false],[true,false,false,false,false],[true,true,false,false,false],[false,false,false,true,false],[true,false,false,true,false],[true,true,false,true,false]],[[false,false,false,false,false],[true,false,false,false,false],[true,true,false,false,false],[false,false,false,true,false],[true,false,false,true,false],[true,true,false,true,false]],[[false,false,false,false,false],[true,false,false,false,false],[true,true,false,false,false],[false,false,false,true,false],[true,false,false,true,false],[true,true,false,true,false]],[[false,false,false,false,false],[true,false,false,false,false],[true,true,false,false,false],[false,false,false,true,false],[true,false,false,true,false],[true,true,false,true,false]],[[false,false,false,false,false],[true,false,false,false,false],[true,true,false,false,false],[false,false,false,true,false],[true,false,false,true,false],[true,true,false,true,false]],[[true,true,false,false,false],[true,true,false,true,false]],[[true,true,true,false,false],[true,true,true,true,false]],[[false,false,false,false,false],[true,false,false,false,false],[true,true,false,false,false],[true,true,true,false,false]],[[true,true,true,true,false]]] [([false,false,false,false,false],[(1086,.box 67 [LS 1 (E1) ([]:List (List Int)),I64 0])]),([true,false,false,false,false],[(1086,.box 67 [LS 1 (E1) ([]:List (List Int)),I64 0]),(1088,.spare 3 1 ([]:List Int).length ([]:List Int).length)]),([true,true,false,false,false],[(1086,.box 67 [LS 1 (E1) ([]:List (List Int)),I64 0]),(1088,.spare 3 1 (([]:List Int)++a).length (([]:List Int)++a).length)]),([true,true,true,false,false],[(1086,.box 67 [LS 1 (E1) ([]:List (List Int)),I64 0]),(1088,.spare 3 1 ((([]:List Int)++a)++[c]).length ((([]:List Int)++a)++[c]).length)]),([false,false,false,true,false],[(1086,.box 67 [LS 1 (E1) ([]:List (List Int)),I64 0]),(1087,.box 67 [.junk,.junk])]),([true,false,false,true,false],[(1086,.box 67 [LS 1 (E1) ([]:List (List Int)),I64 0]),(1088,.spare 3 1 ([]:List Int).length ([]:List Int).length),(1087,.box 67 [.junk,.junk])]),([true,true,false,true,false],[(1086,.box 67 [LS 1 (E1) ([]:List (List Int)),I64 0]),(1088,.spare 3 1 (([]:List Int)++a).length (([]:List Int)++a).length),(1087,.box 67 [.junk,.junk])]),([true,true,true,true,false],[(1086,.box 67 [LS 1 (E1) ([]:List (List Int)),I64 0]),(1088,.spare 3 1 ((([]:List Int)++a)++[c]).length ((([]:List Int)++a)++[c]).length),(1087,.box 67 [.junk,.junk])]),([true,true,true,true,true],[(1086,.box 67 [LS 1 (E1) ([]:List (List Int)),I64 0]),(1088,.spare 3 1 ((([]:List Int)++a)++[c]).length ((([]:List Int)++a)++[c]).length),(1087,.box 67 [LS 1 (E1) e.Stacks,I64 e.Height])])] Jj (by kernel_rfl) rfl rfl ?_
      refine G91 (u:=.agg [LS 1 (E1) y.Stacks,I64 y.Height]) O ⟨.ro O O (Ga (Gv He O O O) O),.ro O O (Ga (Gv He O O O) O),.ro O O (Ga (Gv He O O O) O),.ro O O (Ga (Gv He O O O) O),.ro O O (Ga (Gv He O O O) O),.ro O O (Ga (Gv He O O O) O),.ro O O (Ga (Gv He O O O) O),.ro O O (Ga (Gv He O O O) O),ø⟩ ?_ O
      refine G91 (u:=.dptr [I64 m.To]) O ⟨.ro O O (Ga (Gz Qu O O O) O),.ro O O (Ga (Gz Qu O O O) O),.ro O O (Ga (Gz Qu O O O) O),.ro O O (Ga (Gz Qu O O O) O),.ro O O (Ga (Gz Qu O O O) O),.ro O O (Ga (Gz Qu O O O) O),.ro O O (Ga (Gz Qu O O O) O),.ro O O (Ga (Gz Qu O O O) O),ø⟩ ?_ O
      refine G91 (u:=I64 m.To) O ⟨.ro O O (Ga (Gm Gi O O O) O),.ro O O (Ga (Gm Gi O O O) O),.ro O O (Ga (Gm Gi O O O) O),.ro O O (Ga (Gm Gi O O O) O),.ro O O (Ga (Gm Gi O O O) O),.ro O O (Ga (Gm Gi O O O) O),.ro O O (Ga (Gm Gi O O O) O),.ro O O (Ga (Gm Gi O O O) O),ø⟩ ?_ O
      refine G91 (u:=OW 1088 1 I64 ([]:List Int)) O ⟨.w [1086,1088] O O (Ga (Ge2 1088 3 1 O O G7) O) O O ⟨O,O,ø⟩,.w [1086,1087,1088] O O (Ga (Ge2 1088 3 1 O O G7) O) O O ⟨O,O,O,ø⟩,ø⟩ ?_ O
      refine G91 (u:=E1 a) O ⟨.ro O O (Ga (G2 O O) O),.ro O O (Ga (G2 O O) O),.ro O O (Ga (G2 O O) O),.ro O O (Ga (G2 O O) O),ø⟩ ?_ O
      refine G91 (u:=OW 1088 1 I64 (([]:List Int)++a)) O ⟨.w [1086,1088] O O (Ga (G30 (f:=I64) (xs:=([]:List Int)) (ys:=a) O O O O G7 Rj l (fun _=>O) (.inl O)) O) O O ⟨O,O,ø⟩,.w [1086,1088,1087] O O (Ga (G30 (f:=I64) (xs:=([]:List Int)) (ys:=a) O O O O G7 Rj l (fun _=>O) (.inl O)) O) O O ⟨O,O,O,ø⟩,ø⟩ ?_ O
      refine G91 (u:=E1 d) O ⟨.ro O O (Ga (G2 O O) O),.ro O O (Ga (G2 O O) O),.ro O O (Ga (G2 O O) O),.ro O O (Ga (G2 O O) O),.ro O O (Ga (G2 O O) O),.ro O O (Ga (G2 O O) O),ø⟩ ?_ O
      refine G91 (u:=E1 d) O ⟨.ro O O (Ga (G2 O O) O),.ro O O (Ga (G2 O O) O),.ro O O (Ga (G2 O O) O),.ro O O (Ga (G2 O O) O),.ro O O (Ga (G2 O O) O),.ro O O (Ga (G2 O O) O),ø⟩ ?_ O
      refine G91 (u:=E7 d.length) O ⟨.ro O O (Ga (Qe (f:=I64) (xs:=d) G7 O O) O),.ro O O (Ga (Qe (f:=I64) (xs:=d) G7 O O) O),.ro O O (Ga (Qe (f:=I64) (xs:=d) G7 O O) O),.ro O O (Ga (Qe (f:=I64) (xs:=d) G7 O O) O),.ro O O (Ga (Qe (f:=I64) (xs:=d) G7 O O) O),.ro O O (Ga (Qe (f:=I64) (xs:=d) G7 O O) O),ø⟩ ?_ O
      refine G91 (u:=I64 c2) O ⟨.ro O O (Ga (Zv i O O O) O),.ro O O (Ga (Zv i O O O) O),.ro O O (Ga (Zv i O O O) O),.ro O O (Ga (Zv i O O O) O),.ro O O (Ga (Zv i O O O) O),.ro O O (Ga (Zv i O O O) O),ø⟩ ?_ O
      refine G91 (u:=.dptr [I64 c]) O ⟨.ro O O (Ga (H0 (f:=I64) (xs:=d) (y:=c) O O O G7 k j) O),.ro O O (Ga (H0 (f:=I64) (xs:=d) (y:=c) O O O G7 k j) O),.ro O O (Ga (H0 (f:=I64) (xs:=d) (y:=c) O O O G7 k j) O),.ro O O (Ga (H0 (f:=I64) (xs:=d) (y:=c) O O O G7 k j) O),.ro O O (Ga (H0 (f:=I64) (xs:=d) (y:=c) O O O G7 k j) O),.ro O O (Ga (H0 (f:=I64) (xs:=d) (y:=c) O O O G7 k j) O),ø⟩ ?_ O
      refine G91 (u:=I64 c) O ⟨.ro O O (Ga (Gm Gi O O O) O),.ro O O (Ga (Gm Gi O O O) O),.ro O O (Ga (Gm Gi O O O) O),.ro O O (Ga (Gm Gi O O O) O),.ro O O (Ga (Gm Gi O O O) O),.ro O O (Ga (Gm Gi O O O) O),ø⟩ ?_ O
      refine G91 (u:=E1 [c]) O ⟨.ro O O (Ga (H8 (xs:=[I64 c]) O ⟨O,O,ø⟩ G7 Jf O O O O) O),.ro O O (Ga (H8 (xs:=[I64 c]) O ⟨O,O,ø⟩ G7 Jf O O O O) O),.ro O O (Ga (H8 (xs:=[I64 c]) O ⟨O,O,ø⟩ G7 Jf O O O O) O),.ro O O (Ga (H8 (xs:=[I64 c]) O ⟨O,O,ø⟩ G7 Jf O O O O) O),.ro O O (Ga (H8 (xs:=[I64 c]) O ⟨O,O,ø⟩ G7 Jf O O O O) O),.ro O O (Ga (H8 (xs:=[I64 c]) O ⟨O,O,ø⟩ G7 Jf O O O O) O),ø⟩ ?_ O
      refine G91 (u:=OW 1088 1 I64 ((([]:List Int)++a)++[c])) O ⟨.w [1086,1088] O O (Ga (Rz (f:=I64) (xs:=(([]:List Int)++a)) (ys:=[c]) O O O O G7 Rj n (fun _=>O) (.inl O) O) O) O O ⟨O,O,ø⟩,.w [1086,1088,1087] O O (Ga (Rz (f:=I64) (xs:=(([]:List Int)++a)) (ys:=[c]) O O O O G7 Rj n (fun _=>O) (.inl O) O) O) O O ⟨O,O,O,ø⟩,ø⟩ ?_ O
      refine G91 (u:=.agg [LS 1 (E1) e.Stacks,I64 e.Height]) O ⟨.ro O O (Ga (Gt O (Yq y m.To ((([]:List Int)++a)++[c]) e o) Ge9 ⟨O,O,O,O,O,O,ø⟩) O),.ro O O (Ga (Gt O (Yq y m.To ((([]:List Int)++a)++[c]) e o) Ge9 ⟨O,O,O,O,O,O,ø⟩) O),ø⟩ ?_ O
      refine G91 (u:=.ptr 1087 0) O ⟨.w [1086,1087] O O (Ga (Ji 1087 2 Yi O O) O) O O ⟨O,O,ø⟩,.w [1086,1088,1087] O O (Ga (Ji 1087 2 Yi O O) O) O O ⟨O,O,O,ø⟩,.w [1086,1088,1087] O O (Ga (Ji 1087 2 Yi O O) O) O O ⟨O,O,O,ø⟩,.w [1086,1088,1087] O O (Ga (Ji 1087 2 Yi O O) O) O O ⟨O,O,O,ø⟩,ø⟩ ?_ O
      refine R3c (u:=.junk) O ⟨.w [1086,1088,1087] O O (Ga (Ho (u:=.agg [LS 1 (E1) e.Stacks,I64 e.Height]) (ds:=[LS 1 (E1) e.Stacks,I64 e.Height]) Q5 O O O O O O O O) O) O O ⟨O,O,O,ø⟩,ø⟩ (R3b (a8 (fzQ [(3,.dptr [I64 m.From,I64 m.To]),(4,.ptr 1086 0),(6,E1 d),(8,.dptr [LS 1 (E1) e.Stacks,I64 e.Height])] [(1086,.box 67 [LS 1 (E1) ([]:List (List Int)),I64 0]),(1088,.spare 3 1 ((([]:List Int)++a)++[c]).length ((([]:List Int)++a)++[c]).length)] 1087 rfl rfl rfl ⟨⟨_,rfl,.boxEq rfl rfl⟩,⟨_,rfl,.same⟩,ø⟩ rfl (Js fun a9=>?_))))
      refine Rg (l':=[(3,.dptr [I64 m.From,I64 m.To]),(4,.ptr 1086 0),(6,E1 d),(8,.dptr [LS 1 (E1) e.Stacks,I64 e.Height])]) (L':=[(1086,.box 67 [LS 1 (E1) ([]:List (List Int)),I64 0]),(1088,.spare 3 1 ((([]:List Int)++a)++[c]).length ((([]:List Int)++a)++[c]).length)]) ⟨(.sm O O),⟨fbQ O (.sm O O),⟨_,rfl,.same⟩,ø⟩,rfl⟩ ?_
      obtain⟨c3,b0,h⟩:=Jh h
      obtain⟨q,b1,h⟩:=Gd h
      obtain⟨g,b2,h⟩:=Gd h
      refine Q0 [9] [0,0,0,0,0,0,0,0,0,0,1] [0,0,0,0,0,0,0,0,0,0,1] [[(1086,.box 67 [LS 1 (E1) ([]:List (List Int)),I64 0]),(1088,.spare 3 1 ((([]:List Int)++a)++[c]).length ((([]:List Int)++a)++[c]).length)],((1086,.box 67 [LS 1 (E1) g.Stacks,I64 g.Height])::[(1086,.box 67 [LS 1 (E1) ([]:List (List Int)),I64 0]),(1088,.spare 3 1 ((([]:List Int)++a)++[c]).length ((([]:List Int)++a)++[c]).length)])] Jj (by kernel_rfl) rfl rfl ?_
      refine Gb (u:=.agg [LS 1 (E1) e.Stacks,I64 e.Height]) O O ⟨Ga (Gv He O O O) O,ø⟩ (Gb (u:=.dptr [I64 m.From,I64 m.To]) O O ⟨Ga (Gz G38 O O O) O,ø⟩ (Gb (u:=I64 m.From) O O ⟨Ga (Gm Gi O O O) O,ø⟩ (Gb (u:=E1 d) O O ⟨Ga (G2 O O) O,ø⟩ (Gb (u:=E1 d) O O ⟨Ga (G2 O O) O,ø⟩ (Gb (u:=E7 d.length) O O ⟨Ga (Qe (f:=I64) (xs:=d) G7 O O) O,ø⟩ (Gb (u:=I64 c3) O O ⟨Ga (Zv b0 O O O) O,ø⟩ (Gb (u:=E1 (d.take q)) O O ⟨Ga (H6a (f:=I64) (xs:=d) O O O G7 (Hc b1)) O,ø⟩ (Gb (u:=.agg [LS 1 (E1) g.Stacks,I64 g.Height]) O O ⟨Ga (Gt O (Yq e m.From (d.take q) g b2) Ge9 ⟨O,O,O,O,O,O,ø⟩) O,ø⟩ (H41 (u:=.junk) O O O O (Ga (Ho (u:=.agg [LS 1 (E1) g.Stacks,I64 g.Height]) (ds:=[LS 1 (E1) g.Stacks,I64 g.Height]) Q5 O O O O O O O O) O) (Gb (u:=I64 0) O O ⟨Ga (G4 O O) O,ø⟩ (Y9 ?_)))))))))))
      refine a9 (H1 (⟨[.agg [LS 1 (E1) g.Stacks,I64 g.Height],I64 0],[],ø,O,⟨⟨_,⟨_,_,_,_,O,O,O,.inl ⟨He,O⟩⟩,.conv (.same O)⟩,⟨_,O,.conv (.same O)⟩,ø⟩,O,congrArg (fun r:Gp×Int=>(.tup (Ef r):AV)) (Ey h)⟩))

def J0 (F:Nat) (y:Gp) (order:List Int):Option (List Int):=
 each (fun i p (f:(List Int)) j=>
  each (fun c e (a:(List Int)) g=>
   jp (fun d=>
    need (decide ((e:Int)≤9223372036854775807)) <|
    upto (fun k (b:Bool) h=>
     bnd (bif (!b) then R6 i (k:Int) some else some default) fun l=>
     bnd (bif (!b) then J7 order l else some default) fun m=>
     bnd (bif (!b) then J7 order c else some default) fun n=>
     h (b||(decide (m < n))))
    (fun(b:Bool)=>
     bif b then
     (need (decide ((a.length+[c].length)*8≤140737488355328∧a.length+[c].length≤maxLen)) <|
      d (a++[c]))
     else
     (d a)) (e:Int).toNat 0 false) fun(o:(List Int))=>
   g o)
  (fun(a:(List Int))=>
   j a) i 0 f)
 (fun(f:(List Int))=>
  some f) y.Stacks 0 []
theorem Yf (F:Nat) (y:Gp) (order:List Int) (r:(List Int)) (h:J0 F y order=some r):Pure E8 67 [.agg [LS 1 (E1) y.Stacks,I64 y.Height],E1 order] (·=E1 r):=by
 unfold J0 at h
 refine Hb [.tmp 4] Try.func67 O O (Jr fun c7=>(JLh (.ptr 1070 0) (Q9 (cs:=[LS 1 (E1) y.Stacks,I64 y.Height]) 1070 O O O O O) O (JLh (E1 ([]:List Int)) (Jn 1 O O) O (G6 (c7 (H5 [(1,E1 order),(2,.dptr [LS 1 (E1) y.Stacks,I64 y.Height])] [] 1070 rfl rfl rfl ø rfl (by exact⟨.conv (.same rfl),.ptr,ø⟩) (Jr fun c8=>(JLh (OW 1072 1 I64 ([]:List Int)) (Ge3 1072 3 1 O O O) O (G6 (c8 (Js fun c9=>Jr fun d0=>(JLm (I64 0) O (G6 (d0 (Gg ?_)))))))))))))))
 obtain⟨b5,d1,d2,a1,h⟩:=J4 h
 refine H9 (fun d (k:(List Int))=>each b5 d1 (List.drop d y.Stacks) d k=some r) (fun d k=>[(1,E1 order),(2,.dptr [LS 1 (E1) y.Stacks,I64 y.Height]),(5,OW 1072 1 I64 k),(6,E7 d)]) (fun d k=>[(1072,.spare 3 1 k.length k.length)]) (fun d=>y.Stacks.length - d) 0 [] h ⟨(.sm O O),⟨⟨_,rfl,.same⟩,ø⟩,rfl⟩ ?_
 clear h
 intro d k z K5 e5
 refine Js fun d3=>Jr fun d4=>(JLm (E7 d) O (JLh (.dptr [LS 1 (E1) y.Stacks,I64 y.Height]) (Gz H2 O O O) O (JLh (LS 1 (E1) y.Stacks) (Gm Gq O O O) O (JLl Gc O O O fun a2=>(JLh (BL (decide ((d:Int) < (y.Stacks.length:Int)))) (Hz O O O) O (G6 (d4 (Gh O (fun hb=>?_) (fun hb=>?_)))))))))
 ·
  have a0:=Jq hb
  obtain⟨i,e7,o,d5,h⟩:=Hp z a0
  replace h:=Yo d2 h
  refine Gk (d3 (Js fun d6=>Gg (Jr fun d7=>(JLm (I64 0) O (G6 (d7 (Gg ?_)))))))
  obtain⟨d8,a3,a4,v,h⟩:=J4 h
  refine H9 (fun a (b:(List Int))=>each d8 a3 (List.drop a i) a b=some r) (fun a b=>[(1,E1 order),(2,.dptr [LS 1 (E1) y.Stacks,I64 y.Height]),(5,OW 1072 1 I64 b),(6,E7 d),(7,E7 a)]) (fun a b=>[(1072,.spare 3 1 b.length b.length)]) (fun a=>i.length - a) 0 k h ⟨(.sm O O),⟨⟨_,rfl,.same⟩,ø⟩,rfl⟩ ?_
  clear h
  intro a b p e8 d9
  refine Js fun a5=>Jr fun a6=>(JLm (E7 a) O (JLh (.dptr [LS 1 (E1) y.Stacks,I64 y.Height]) (Gz H2 O O O) O (JLh (LS 1 (E1) y.Stacks) (Gm Gq O O O) O (JLm (E7 d) O (JLh (.dptr [E1 i]) (H0 (f:=(E1)) (xs:=y.Stacks) (y:=i) O O O Gc o O) O (JLh (E1 i) (Gm H4 O O O) O (JLl G7 O O O fun a7=>(JLh (BL (decide ((a:Int) < (i.length:Int)))) (Hz O O O) O (G6 (a6 (Gh O (fun hb=>?_) (fun hb=>?_))))))))))))
  ·
   have q:=Jq hb
   obtain⟨e,e4,s,a8,h⟩:=Hp p q
   replace h:=Yo a4 h
   refine Gk (a5 ?_)
   obtain⟨a9,w,h⟩:=G0e h
   refine Zc (fun j:(List Int)=>a9 j=some r) (fun j=>[(1,E1 order),(2,.dptr [LS 1 (E1) y.Stacks,I64 y.Height]),(5,OW 1072 1 I64 j),(6,E7 d),(7,E7 a)]) (fun j=>[(1072,.spare 3 1 j.length j.length)]) (fun Kj13 ej13=>?_) ?_
   ·
    refine Gg (Jr fun b0=>(JLm (BL false) O (G6 (b0 (Js fun b1=>Jr fun b2=>(JLm (I64 0) O (G6 (b2 (Gg ?_)))))))))
    obtain⟨b3,h⟩:=J3 h
    obtain⟨e0,b4,b6,x,h⟩:=Gbb h
    refine H9 (fun c (g:Bool)=>upto e0 b4 ((a:Int).toNat - c) c g=some r) (fun c g=>[(1,E1 order),(2,.dptr [LS 1 (E1) y.Stacks,I64 y.Height]),(5,OW 1072 1 I64 b),(6,E7 d),(7,E7 a),(8,BL g),(9,E7 c)]) (fun c g=>[(1072,.spare 3 1 b.length b.length)]) (fun c=>(a:Int).toNat - c) 0 false h ⟨(.sm O O),⟨⟨_,rfl,.same⟩,ø⟩,rfl⟩ ?_
    clear h
    intro c g t e9 e1
    refine Js fun b7=>Jr fun b8=>(JLm (E7 c) O (JLm (E7 a) O (JLh (BL (decide ((c:Int) < (a:Int)))) (Hz O O O) O (G6 (b8 (Gh O (fun hb=>?_) (fun hb=>?_)))))))
    ·
     have u:=G84 hb
     obtain⟨e6,b9,h⟩:=G7d t u
     replace h:=Jb8 b6 h
     refine Gk (b7 (Js fun c0=>Gg (Rg (l':=[(1,E1 order),(2,.dptr [LS 1 (E1) y.Stacks,I64 y.Height]),(5,OW 1072 1 I64 b),(6,E7 d),(7,E7 a),(8,BL g),(9,E7 c)]) (L':=[(1072,.spare 3 1 b.length b.length)]) ⟨(.sm O O),⟨⟨_,rfl,.same⟩,ø⟩,rfl⟩ ?_)))
     obtain⟨n,c1,h⟩:=Gd h
     obtain⟨l,c2,h⟩:=Gd h
     obtain⟨m,c3,h⟩:=Gd h
     refine JC_d0 Jj (by kernel_rfl) (Dq (BL g) (G2 O O) O (Dq (BL g) (G2 O O) O (Do (E1 order) [] O .scf ø (fun hc=>G2 O O) O (Do (.dptr [LS 1 (E1) y.Stacks,I64 y.Height]) [] O .scf ø (fun hc=>Gz H2 O O O) O (Do (LS 1 (E1) y.Stacks) [35] O .scf ⟨Ua,ø⟩ (fun hc=>Gm Gq O O O) O (Do (E7 d) [] O .scf ø (fun hc=>G2 O O) O (Do (.dptr [E1 i]) [36,37] O .scf ⟨Ua,Ua,ø⟩ (fun hc=>H0 (f:=(E1)) (xs:=y.Stacks) (y:=i) O O O Gc o O) O (Do (E1 i) [38] O .scf ⟨Ua,ø⟩ (fun hc=>Gm H4 O O O) O (Do (E7 c) [] O .scf ø (fun hc=>G2 O O) O (Do (.dptr [I64 n]) [39,40] O .scf ⟨Ua,Ua,ø⟩ (fun hc=>(match G4e (H6 hc c1) with | ⟨_,hm_,hy_⟩=>H0 (f:=I64) (xs:=i) (y:=n) O O O G7 hy_ hm_)) O (Do (I64 n) [41] O .scf ⟨Ua,ø⟩ (fun hc=>Gm Gi O O O) O (Do (I64 l) [34,42] O .scf ⟨Ua,Ua,ø⟩ (fun hc=>Gt (args:=[E1 order,I64 n]) O (Jc order n l (H6 hc c2)) Zs ⟨O,O,O,O,ø⟩) O (Do (E1 order) [] O .scf ø (fun hc=>G2 O O) O ?_)))))))))))))
     refine Do (.dptr [LS 1 (E1) y.Stacks,I64 y.Height]) [] O .scf ø (fun hc=>Gz H2 O O O) O (Do (LS 1 (E1) y.Stacks) [45] O .scf ⟨Ua,ø⟩ (fun hc=>Gm Gq O O O) O (Do (E7 d) [] O .scf ø (fun hc=>G2 O O) O (Do (.dptr [E1 i]) [46,47] O .scf ⟨Ua,Ua,ø⟩ (fun hc=>H0 (f:=(E1)) (xs:=y.Stacks) (y:=i) O O O Gc o O) O (Do (E1 i) [48] O .scf ⟨Ua,ø⟩ (fun hc=>Gm H4 O O O) O (Do (E7 a) [] O .scf ø (fun hc=>G2 O O) O (Do (.dptr [I64 e]) [49,50] O .scf ⟨Ua,Ua,ø⟩ (fun hc=>H0 (f:=I64) (xs:=i) (y:=e) O O O G7 s O) O (Do (I64 e) [51] O .scf ⟨Ua,ø⟩ (fun hc=>Gm Gi O O O) O (Do (I64 m) [44,52] O .scf ⟨Ua,Ua,ø⟩ (fun hc=>Gt (args:=[E1 order,I64 e]) O (Jc order e m (H6 hc c3)) Zs ⟨O,O,O,O,ø⟩) O (Do (BL (decide (l < m))) [43,53] O .scf ⟨Ua,Ua,ø⟩ (fun hc=>Hz O O O) O (Dq (BL (g||(decide (l < m)))) (Ze O O O O) O (Dq (BL (g||(decide (l < m)))) (G4 O O) O (Dnil ?_))))))))))))
     refine c0 (G1 (JLm (E7 c) O (JLh (I64 ((c+1:Nat):Int)) (J2 (Hi u (G47 b3)) O O O) O (JLm (I64 ((c+1:Nat):Int)) O (G6 (e1 _ _ (c+1) (g||(decide (l < m))) (app1 b9 h) (by omega) ⟨(.sm O O),⟨⟨_,rfl,.same⟩,ø⟩,rfl⟩))))))
    ·
     have h:=app1 x (G7e t (Zj hb))
     refine Hg (b1 (Jr fun c4=>(JLm (BL g) O (G6 (c4 (JCc O h (fun h hb=>?_) (fun h hb=>?_)))))))
     ·
      refine G1 (JLm (OW 1072 1 I64 b) O (JLh (.dptr [LS 1 (E1) y.Stacks,I64 y.Height]) (Gz H2 O O O) O (JLh (LS 1 (E1) y.Stacks) (Gm Gq O O O) O (JLm (E7 d) O (JLh (.dptr [E1 i]) (H0 (f:=(E1)) (xs:=y.Stacks) (y:=i) O O O Gc o O) O (JLh (E1 i) (Gm H4 O O O) O (JLm (E7 a) O (JLh (.dptr [I64 e]) (H0 (f:=I64) (xs:=i) (y:=e) O O O G7 s O) O (JLh (I64 e) (Gm Gi O O O) O (JLh (E1 [e]) (H8 (xs:=[I64 e]) O ⟨O,O,ø⟩ G7 Jf O O O O) O ?_))))))))))
      obtain⟨c5,h⟩:=J3 h
      refine JLh (OW 1072 1 I64 (b++[e])) (Rz (f:=I64) (xs:=b) (ys:=[e]) O O O O G7 Rj c5 (fun _=>O) (.inl O) O) O (JLm (OW 1072 1 I64 (b++[e])) O (G6 (ej13 _ _ (b++[e]) h ⟨(.sm O O),⟨⟨_,rfl,.same⟩,ø⟩,rfl⟩)))
     ·
      refine Gk (ej13 _ _ b h ⟨(.sm O O),⟨⟨_,rfl,.same⟩,ø⟩,rfl⟩)
   ·intro j h
    replace h:=app1 w h
    refine G1 (JLm (E7 a) O (JLh (I64 ((a+1:Nat):Int)) (J2 (Hi q a7) O O O) O (JLm (I64 ((a+1:Nat):Int)) O (G6 (d9 _ _ (a+1) j (app1 a8 h) (by omega) ⟨(.sm O O),⟨⟨_,rfl,.same⟩,ø⟩,rfl⟩)))))
  ·
   have h:=app1 v (Hq p (Ha hb))
   refine Hg (d6 (G1 (JLm (E7 d) O (JLh (I64 ((d+1:Nat):Int)) (J2 (Hi a0 a2) O O O) O (JLm (I64 ((d+1:Nat):Int)) O (G6 (e5 _ _ (d+1) b (app1 d5 h) (by omega) ⟨(.sm O O),⟨⟨_,rfl,.same⟩,ø⟩,rfl⟩)))))))
 ·
  have h:=app1 a1 (Hq z (Ha hb))
  refine Hg (c9 (Jr fun c6=>(JLm (OW 1072 1 I64 k) O (JLm (OW 1072 1 I64 k) O (G6 (c6 (H1 (fin1l (fun r:(List Int)=>(E1 r:AV)) h))))))))

def Rt (order:List Int) (a:Int) (b:Int):Option Bool:=
 bnd (J7 order a) fun c=>
 bnd (J7 order b) fun d=>
 some ((decide (d < c))||((decide (c=d))&&(decide (a < b))))
theorem Gd1 (order:List Int) (a:Int) (b:Int) (r:Bool) (h:Rt order a b=some r):Pure E8 93 [E1 order,I64 a,I64 b] (·=BL r):=by
 unfold Rt at h
 refine Hb [.tmp 6] Try.func93 O O (Jr fun e=>(JLm (BL false) O (G6 (e (Jr fun f=>(JLm (E1 order) O (JLm (I64 a) O ?_)))))))
 obtain⟨c,g,h⟩:=Gd h
 refine JLh (I64 c) (Gt O (Jc order a c g) Zs ⟨O,O,O,O,ø⟩) O (JLm (E1 order) O (JLm (I64 b) O ?_))
 obtain⟨d,i,h⟩:=Gd h
 refine JLh (I64 d) (Gt O (Jc order b d i) Zs ⟨O,O,O,O,ø⟩) O (JLm (I64 c) O (JLm (I64 d) O (G6 (f (Jr fun j=>(JLm (I64 c) O (JLm (I64 d) O (JLh (BL (decide (d < c))) (Yk O O O) O (JLm (BL (decide (d < c))) O (JLo (I64 c) [] O .scf ø (fun hc=>G2 O O) O (JLo (I64 d) [] O .scf ø (fun hc=>G2 O O) O (JLo (BL (decide (c=d))) [19,20] O .scf ⟨Ua,Ua,ø⟩ (fun hc=>Ym O O O) O (JLo (BL (decide (c=d))) [21] O .scf ⟨Ua,ø⟩ (fun hc=>G2 O O) O (JLo (I64 a) [] O .optt ø (fun hc=>G2 O O) O (JLo (I64 b) [] O .optt ø (fun hc=>G2 O O) O (JLo (BL (decide (a < b))) [23,24] O .optt ⟨Ua,Ua,ø⟩ (fun hc=>Hz O O O) O (Ge (u:=BL ((decide (c=d))&&(decide (a < b)))) [(22,BL (decide (c=d))),(25,_)] O O O .scf ⟨.all id,.part,ø⟩ (fun hc=>Yn O O O O) ?_)))))))))))))))))
 refine JLh (BL ((decide (d < c))||((decide (c=d))&&(decide (a < b))))) (Ze O O O O) O (JLm (BL ((decide (d < c))||((decide (c=d))&&(decide (a < b))))) O (G6 (j (H1 (fin1 BL h)))))

def Qy (s:List Int) (order:List Int):Option Int:=
 chk ((order.length:Int)+1) fun h=>
 each (fun c i (a:Int) d=>
  jp (fun b=>
   bnd (J7 order c) fun e=>
   bif decide (e < a) then
   (bnd (J7 order c) fun f=>
    b f)
   else
   (b a)) fun(g:Int)=>
  d g)
 (fun(a:Int)=>
  some a) s 0 h
theorem G3b (s:List Int) (order:List Int) (r:Int) (h:Qy s order=some r):Pure E8 106 [E1 s,E1 order] (·=I64 r):=by
 unfold Qy at h
 refine Hb [.tmp 4] Try.func106 O O (Jr fun a2=>(JLm (I64 0) O (G6 (a2 (Jr fun a3=>(JLm (E1 order) O (JLl G7 O O O fun b0=>?_)))))))
 obtain⟨n,a4,h⟩:=Jh h
 refine JLh (I64 n) (J2 a4 O O O) O (JLm (I64 n) O (G6 (a3 (Js fun a5=>Jr fun a6=>(JLm (I64 0) O (G6 (a6 (Gg ?_))))))))
 obtain⟨a7,o,p,l,h⟩:=J4 h
 refine H9 (fun a (b:Int)=>each a7 o (List.drop a s) a b=some r) (fun a b=>[(0,E1 s),(1,E1 order),(5,I64 b),(6,E7 a)]) (fun a b=>[]) (fun a=>s.length - a) 0 n h ⟨(.sm O O),ø,rfl⟩ ?_
 clear h
 intro a b g b1 a8
 refine Js fun q=>Jr fun t=>(JLm (E7 a) O (JLm (E1 s) O (JLl G7 O O O fun u=>(JLh (BL (decide ((a:Int) < (s.length:Int)))) (Hz O O O) O (G6 (t (Gh O (fun hb=>?_) (fun hb=>?_))))))))
 ·
  have i:=Jq hb
  obtain⟨c,a9,j,v,h⟩:=Hp g i
  replace h:=Yo p h
  refine Gk (q ?_)
  obtain⟨w,m,h⟩:=G0e h
  refine Zc (fun d:Int=>w d=some r) (fun d=>[(0,E1 s),(1,E1 order),(5,I64 d),(6,E7 a)]) (fun d=>[]) (fun Kj28 ej28=>?_) ?_
  ·
   refine Gg (Jr fun x=>(JLm (E1 order) O (JLm (E1 s) O (JLm (E7 a) O (JLh (.dptr [I64 c]) (H0 (f:=I64) (xs:=s) (y:=c) O O O G7 j O) O (JLh (I64 c) (Gm Gi O O O) O ?_))))))
   obtain⟨k,z,h⟩:=Gd h
   refine JLh (I64 k) (Gt O (Jc order c k z) Zs ⟨O,O,O,O,ø⟩) O (JLm (I64 b) O (JLh (BL (decide (k < b))) (Hz O O O) O (G6 (x (JCc O h (fun h hb=>?_) (fun h hb=>?_))))))
   ·
    refine G1 (JLm (E1 order) O (JLm (E1 s) O (JLm (E7 a) O (JLh (.dptr [I64 c]) (H0 (f:=I64) (xs:=s) (y:=c) O O O G7 j O) O (JLh (I64 c) (Gm Gi O O O) O ?_)))))
    obtain⟨e,a0,h⟩:=Gd h
    refine JLh (I64 e) (Gt O (Jc order c e a0) Zs ⟨O,O,O,O,ø⟩) O (JLm (I64 e) O (G6 (ej28 _ _ e h ⟨(.sm O O),ø,rfl⟩)))
   ·
    refine Gk (ej28 _ _ b h ⟨(.sm O O),ø,rfl⟩)
  ·intro d h
   replace h:=app1 m h
   refine G1 (JLm (E7 a) O (JLh (I64 ((a+1:Nat):Int)) (J2 (Hi i u) O O O) O (JLm (I64 ((a+1:Nat):Int)) O (G6 (a8 _ _ (a+1) d (app1 v h) (by omega) ⟨(.sm O O),ø,rfl⟩)))))
 ·
  have h:=app1 l (Hq g (Ha hb))
  refine Hg (a5 (Jr fun a1=>(JLm (I64 b) O (JLm (I64 b) O (G6 (a1 (H1 (fin1 I64 h))))))))
end
end Go.Proofs.Ytokjlondbjdlfaa
