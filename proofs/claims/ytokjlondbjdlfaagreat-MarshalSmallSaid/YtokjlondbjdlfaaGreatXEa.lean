/- Walks of functions. -/
import Derived.Test.YtokjlondbjdlfaaGreatXD
set_option maxRecDepth 100000
set_option maxHeartbeats 1000000
set_option linter.unusedVariables false
set_option linter.unusedSimpArgs false
namespace Go.Proofs.YtokjlondbjdlfaaGreat
open Go.RowKit
noncomputable section
structure Gs where
 Stacks:List (List Int)
 Height:Int
 deriving DecidableEq,Inhabited
def Gs.cs (x:Gs):List AV:=[LS 1 (E1) x.Stacks,I64 x.Height]
structure G7 where
 From:Int
 To:Int
 deriving DecidableEq,Inhabited
def G7.cs (x:G7):List AV:=[I64 x.From,I64 x.To]
def G7.av (x:G7):AV:=.agg x.cs
abbrev E3:=LS 2 G7.av
structure Gb where
 y:Gs
 from_:Int
 by_:G7
 deriving DecidableEq,Inhabited
def Gb.cs (x:Gb):List AV:=[LS 1 (E1) x.y.Stacks,I64 x.y.Height,I64 x.from_,I64 x.by_.From,I64 x.by_.To]
def Gb.av (x:Gb):AV:=.agg x.cs
structure Qg where
 Stacks:Ln (Ln Int)
 Height:Int
 deriving Inhabited
def Qg.cs (x:Qg):List AV:=[LT 1 (LT 1 I64) x.Stacks,I64 x.Height]
def Qg.pl (x:Qg):Gh:=⟨(fun e=>e.1.map Prod.fst) x.Stacks,x.Height⟩
def Qg.of (x:Gh):Qg:=⟨(fun e=>(e.map (fun e=>(e,[])),[])) x.Stacks,x.Height⟩
namespace XEF
open XAF
open XBF
open XCF
open XDF
theorem Hg:Gcb E8 30 2=true:=by kernel_rfl
theorem G10:Gcb E8 55 2=true:=by kernel_rfl
theorem J62:Hf0 E8 4=true:=by kernel_rfl
theorem H7d:Hp E8 10=true:=by kernel_rfl
theorem H09:Hp E8 11=true:=by kernel_rfl
theorem Q1f:Hp E8 12=true:=by kernel_rfl
theorem Q1e:Hp E8 13=true:=by kernel_rfl
theorem J10:Hp E8 15=true:=by kernel_rfl
theorem H7b:Hp E8 19=true:=by kernel_rfl
theorem H08:Hp E8 20=true:=by kernel_rfl
theorem Q1d:Hp E8 22=true:=by kernel_rfl
theorem H06:Hp E8 23=true:=by kernel_rfl
theorem Gb8:Hp E8 24=true:=by kernel_rfl
theorem Q1c:Hp E8 25=true:=by kernel_rfl
theorem H05:Hp E8 26=true:=by kernel_rfl
theorem Q1b:Hp E8 28=true:=by kernel_rfl
theorem Q1a:Hp E8 29=true:=by kernel_rfl
theorem H7a:Hp E8 30=true:=by kernel_rfl
theorem Q14:Hp E8 41=true:=by kernel_rfl
theorem J0d:Hp E8 46=true:=by kernel_rfl
theorem Q0f:Hp E8 47=true:=by kernel_rfl
theorem H77:Hp E8 48=true:=by kernel_rfl
theorem J0c:Hp E8 49=true:=by kernel_rfl
theorem G0a:Hp E8 50=true:=by kernel_rfl
theorem Q0e:Hp E8 51=true:=by kernel_rfl
theorem Q0d:Hp E8 52=true:=by kernel_rfl
theorem H04:Hp E8 53=true:=by kernel_rfl
theorem Q0b:Hp E8 55=true:=by kernel_rfl
theorem J0b:Hp E8 56=true:=by kernel_rfl
theorem J61:Hp E8 6=true:=by kernel_rfl
theorem Hc5:Hp E8 7=true:=by kernel_rfl
theorem Q07:Hp E8 70=true:=by kernel_rfl
theorem J05:Hp E8 71=true:=by kernel_rfl
theorem H75:Qk E8 55 2 16=true:=by kernel_rfl
theorem Q03:Qk E8 92 5 56=true:=by kernel_rfl
theorem H3:Ry E8 30 0 0=true:=by kernel_rfl
theorem G2c:Ry E8 30 1 1=true:=by kernel_rfl
theorem G50:Ry E8 55 0 0=true:=by kernel_rfl
theorem R6:Ry E8 55 1 1=true:=by kernel_rfl
theorem Ge3:Ry E8 92 0 0=true:=by kernel_rfl
theorem J50:Ry E8 92 1 2=true:=by kernel_rfl
theorem J4f:Ry E8 92 2 3=true:=by kernel_rfl
theorem Za:placesOf E8 30=some [(0,1),(1,1)]:=by kernel_rfl
theorem H03:placesOf E8 55=some [(0,1),(1,1)]:=by kernel_rfl
theorem H9b:placesOf E8 92=some [(0,2),(2,1),(3,2)]:=by kernel_rfl
theorem Qc:Rw E8 30 2=true:=by kernel_rfl
theorem H02:Rw E8 55 2=true:=by kernel_rfl
theorem Rk:sliceB E8 27 55 2=true:=by kernel_rfl
theorem Zg:sliceB E8 93 92 5=true:=by kernel_rfl
theorem Z2:(E8.info? 30).bind (fun i=>i.zero.map Value.cells)=some (List.toArray [.slice none 0 0,E0]):=by kernel_rfl
theorem Gb5:(E8.info? 55).bind (fun i=>i.zero.map Value.cells)=some (List.toArray [E0,E0]):=by kernel_rfl
theorem J01:(E8.info? 92).bind (fun i=>i.zero.map Value.cells)=some (List.toArray [.slice none 0 0,E0,E0,E0,E0]):=by kernel_rfl
theorem Yt:Qe E8 30 2=true:=by kernel_rfl
theorem G97:Qe E8 55 2=true:=by kernel_rfl
theorem Hdf:Qe E8 92 5=true:=by kernel_rfl
end XEF
open XAF
open XBF
open XCF
open XDF
open XEF

def Ra (y:Gs):Option (List Int):=
 each (fun b d (a:(List Int)) c=>
  need (decide ((a.length+b.length)*8≤140737488355328∧a.length+b.length≤maxLen)) <|
  c (a++b))
 (fun(a:(List Int))=>
  some a) y.Stacks 0 []
theorem G54 (y:Gs) (r:(List Int)) (h:Ra y=some r):Pure E8 46 [.agg [LS 1 (E1) y.Stacks,I64 y.Height]] (·=E1 r):=by
 unfold Ra at h
 refine Hj [.tmp 2] Tryz.func46 O O (Jr fun s=>(JLh (.ptr 1075 0) (Qw (cs:=[LS 1 (E1) y.Stacks,I64 y.Height]) 1075 O O O O O) O (JLh (E1 ([]:List Int)) (Jo 1 O O) O (G6 (s (H7 [(1,.dptr [LS 1 (E1) y.Stacks,I64 y.Height])] [] 1075 rfl rfl rfl ø rfl (by exact⟨.ptr,ø⟩) (Jr fun t=>(JLh (OW 1076 1 I64 ([]:List Int)) (Ga2 1076 3 1 O O O) O (G6 (t (Js fun u=>Jr fun v=>(JLm (I64 0) O (G6 (v (Gf ?_)))))))))))))))
 obtain⟨w,i,j,g,h⟩:=J7 h
 refine Ha (fun a (b:(List Int))=>each w i (List.drop a y.Stacks) a b=some r) (fun a b=>[(1,.dptr [LS 1 (E1) y.Stacks,I64 y.Height]),(3,OW 1076 1 I64 b),(4,E7 a)]) (fun a b=>[(1076,.spare 3 1 b.length b.length)]) (fun a=>y.Stacks.length - a) 0 [] h ⟨(.sm O O),⟨⟨_,O,.same⟩,ø⟩,O⟩ ?_
 clear h
 intro a b d a1 x
 refine Js fun k=>Jr fun l=>(JLm (E7 a) O (JLh (.dptr [LS 1 (E1) y.Stacks,I64 y.Height]) (H1 H3 O O O) O (JLh (LS 1 (E1) y.Stacks) (Gr Gv O O O) O (JLl Ge O O O fun z=>(JLh (BL (decide ((a:Int) < (y.Stacks.length:Int)))) (J2 O O O) O (G6 (l (Gi O (fun hb=>?_) (fun hb=>?_)))))))))
 ·
  have e:=Jp hb
  obtain⟨c,a0,m,n,h⟩:=Hw d e
  replace h:=Yw j h
  refine Gk (k (Js fun o=>Gf (G1 (JLm (OW 1076 1 I64 b) O (JLh (.dptr [LS 1 (E1) y.Stacks,I64 y.Height]) (H1 H3 O O O) O (JLh (LS 1 (E1) y.Stacks) (Gr Gv O O O) O (JLm (E7 a) O (JLh (.dptr [E1 c]) (Gz (f:=(E1)) (xs:=y.Stacks) (y:=c) O O O Ge m O) O (JLh (E1 c) (Gr H5 O O O) O ?_)))))))))
  obtain⟨p,h⟩:=Ho h
  refine JLh (OW 1076 1 I64 (b++c)) (G18 (f:=I64) (xs:=b) (ys:=c) O O O O G8 Ro p (fun _=>O) (.inl O)) O (JLm (OW 1076 1 I64 (b++c)) O (G6 (o (G1 (JLm (E7 a) O (JLh (I64 ((a+1:Nat):Int)) (Hz (Hi e z) O O O) O (JLm (I64 ((a+1:Nat):Int)) O (G6 (x _ _ (a+1) (b++c) (app1 n h) (by omega) ⟨(.sm O O),⟨⟨_,rfl,.same⟩,ø⟩,rfl⟩)))))))))
 ·
  have h:=app1 g (Hx d (Hc hb))
  refine Hd (u (Jr fun q=>(JLm (OW 1076 1 I64 b) O (JLm (OW 1076 1 I64 b) O (G6 (q (H0 (fin1l (fun r:(List Int)=>(E1 r:AV)) h))))))))

def Qq (F:Nat) (y:Gs):Option Bool:=
 bif ((((decide (y.Height < 1))||(decide (6 < y.Height)))||(decide ((y.Stacks.length:Int)=0)))||(decide (30 < (y.Stacks.length:Int)))) then
 (some false)
 else
 (each (fun g m (h:Unit) d=>
   bif decide (y.Height < (g.length:Int)) then
   (some false)
   else
   (d ()))
  (fun(h:Unit)=>
   bnd (Ra y) fun b=>
   each (fun a c (i:Unit) e=>
    bif ((decide (a < 1))||(decide (999999 < a))) then
    (some false)
    else
    (need (decide ((c:Int)≤9223372036854775807)) <|
     upto (fun j (k:Unit) f=>
      Qx b (j:Int) fun l=>
      bif decide (l=a) then
      (some false)
      else
      (f ()))
     (fun(k:Unit)=>
      e ()) (c:Int).toNat 0 ()))
   (fun(i:Unit)=>
    some true) b 0 ()) y.Stacks 0 ())
theorem G0b (F:Nat) (y:Gs) (r:Bool) (h:Qq F y=some r):Pure E8 48 [.agg [LS 1 (E1) y.Stacks,I64 y.Height]] (·=BL r):=by
 unfold Qq at h
 refine Hj [.tmp 2] Tryz.func48 O O (Jr fun d5=>(JLh (.ptr 1081 0) (Qw (cs:=[LS 1 (E1) y.Stacks,I64 y.Height]) 1081 O O O O O) O (JLm (BL false) O (G6 (d5 (H7 [(1,.dptr [LS 1 (E1) y.Stacks,I64 y.Height])] [] 1081 rfl rfl rfl ø rfl (by exact⟨.ptr,ø⟩) (Js fun d6=>?_)))))))
 refine Jr fun d7=>(JLh (.dptr [I64 y.Height]) (H1 G2c O O O) O (JLh (I64 y.Height) (Gr Gj O O O) O (JLh (BL (decide (y.Height < 1))) (J2 O O O) O (JLm (BL (decide (y.Height < 1))) O (JLo (.dptr [I64 y.Height]) [] O .scf ø (fun hc=>H1 G2c O O O) O (JLo (I64 y.Height) [11] O .scf ⟨Ua,ø⟩ (fun hc=>Gr Gj O O O) O (JLo (BL (decide (6 < y.Height))) [12] O .scf ⟨Ua,ø⟩ (fun hc=>G08 O O O) O (JLh (BL ((decide (y.Height < 1))||(decide (6 < y.Height)))) (G17 O O O O) O (JLm (BL ((decide (y.Height < 1))||(decide (6 < y.Height)))) O (JLo (.dptr [LS 1 (E1) y.Stacks,I64 y.Height]) [] O .scf ø (fun hc=>H1 H3 O O O) O (JLo (LS 1 (E1) y.Stacks) [16] O .scf ⟨Ua,ø⟩ (fun hc=>Gr Gv O O O) O (JLo (E7 y.Stacks.length) [17] O .scf ⟨Ua,ø⟩ (fun hc=>Re (f:=(E1)) (xs:=y.Stacks) Ge O O) O (JLo (BL (decide ((y.Stacks.length:Int)=0))) [18] O .scf ⟨Ua,ø⟩ (fun hc=>Yx O O O) O ?_)))))))))))))
 refine JLh (BL (((decide (y.Height < 1))||(decide (6 < y.Height)))||(decide ((y.Stacks.length:Int)=0)))) (G17 O O O O) O (JLm (BL (((decide (y.Height < 1))||(decide (6 < y.Height)))||(decide ((y.Stacks.length:Int)=0)))) O (JLo (.dptr [LS 1 (E1) y.Stacks,I64 y.Height]) [] O .scf ø (fun hc=>H1 H3 O O O) O (JLo (LS 1 (E1) y.Stacks) [22] O .scf ⟨Ua,ø⟩ (fun hc=>Gr Gv O O O) O (JLo (E7 y.Stacks.length) [23] O .scf ⟨Ua,ø⟩ (fun hc=>Re (f:=(E1)) (xs:=y.Stacks) Ge O O) O (JLo (BL (decide (30 < (y.Stacks.length:Int)))) [24] O .scf ⟨Ua,ø⟩ (fun hc=>G08 O O O) O (JLh (BL ((((decide (y.Height < 1))||(decide (6 < y.Height)))||(decide ((y.Stacks.length:Int)=0)))||(decide (30 < (y.Stacks.length:Int))))) (G17 O O O O) O (G6 (d7 ?_))))))))
 refine JCc O h ?_ ?_<;>intro h hb
 ·
  refine Jr fun d8=>(JLm (BL false) O (G6 (d8 (H0 (fin1 BL h)))))
 ·
  refine Gk (d6 (Js fun d9=>Jr fun e0=>(JLm (I64 0) O (G6 (e0 (Gf ?_))))))
  obtain⟨e1,x,z,u,h⟩:=J7 h
  refine Ha (fun c (j:Unit)=>each e1 x (List.drop c y.Stacks) c j=some r) (fun c j=>[(1,.dptr [LS 1 (E1) y.Stacks,I64 y.Height]),(3,E7 c)]) (fun c j=>[]) (fun c=>y.Stacks.length - c) 0 () h ⟨(.sm O O),ø,O⟩ ?_
  clear h
  intro c j n f0 e2
  refine Js fun a0=>Jr fun a1=>(JLm (E7 c) O (JLh (.dptr [LS 1 (E1) y.Stacks,I64 y.Height]) (H1 H3 O O O) O (JLh (LS 1 (E1) y.Stacks) (Gr Gv O O O) O (JLl Ge O O O fun a2=>(JLh (BL (decide ((c:Int) < (y.Stacks.length:Int)))) (J2 O O O) O (G6 (a1 (Gi O (fun hb=>?_) (fun hb=>?_)))))))))
  ·
   have o:=Jp hb
   obtain⟨g,e7,a3,a4,h⟩:=Hw n o
   replace h:=Yw z h
   refine Gk (a0 (Js fun a5=>Gf (Js fun a6=>JC_d0 Jg (by kernel_rfl) (Dq (.dptr [LS 1 (E1) y.Stacks,I64 y.Height]) (H1 H3 O O O) O (Dq (LS 1 (E1) y.Stacks) (Gr Gv O O O) O (Dq (E7 c) (G3 O O) O (Dq (.dptr [E1 g]) (Gz (f:=(E1)) (xs:=y.Stacks) (y:=g) O O O Ge a3 O) O (Dq (E1 g) (Gr H5 O O O) O (Dq (E7 g.length) (Re (f:=I64) (xs:=g) G8 O O) O (Dq (.dptr [I64 y.Height]) (H1 G2c O O O) O (Dq (I64 y.Height) (Gr Gj O O O) O (Dq (BL (decide (y.Height < (g.length:Int)))) (G08 O O O) O (Dnil (a6 (JCc O h (fun h hb=>?_) (fun h hb=>?_))))))))))))))))
   ·
    refine Jr fun a7=>(JLm (BL false) O (G6 (a7 (H0 (fin1 BL h)))))
   ·
    refine Gk (a5 (G1 (JLm (E7 c) O (JLh (I64 ((c+1:Nat):Int)) (Hz (Hi o a2) O O O) O (JLm (I64 ((c+1:Nat):Int)) O (G6 (e2 _ _ (c+1) () (app1 a4 h) (by omega) ⟨(.sm O O),ø,rfl⟩)))))))
  ·
   have h:=app1 u (Hx n (Hc hb))
   refine Hd (d9 (Jr fun a8=>(JLh (.agg [LS 1 (E1) y.Stacks,I64 y.Height]) (Gt Hg O O O) O ?_)))
   obtain⟨b,a9,h⟩:=Gd h
   refine JLh (E1 b) (Gu O (G54 y b a9) J0d ⟨O,O,ø⟩) O (JLm (E1 b) O (G6 (a8 (Js fun b0=>Jr fun b1=>(JLm (I64 0) O (G6 (b1 (Gf ?_))))))))
   obtain⟨e3,b2,b3,v,h⟩:=J7 h
   refine Ha (fun a (k:Unit)=>each e3 b2 (List.drop a b) a k=some r) (fun a k=>[(4,E1 b),(5,E7 a)]) (fun a k=>[]) (fun a=>b.length - a) 0 () h ⟨(.sm O O),ø,O⟩ ?_
   clear h
   intro a k p f1 e4
   refine Js fun b4=>Jr fun b5=>(JLm (E7 a) O (JLm (E1 b) O (JLl G8 O O O fun b6=>(JLh (BL (decide ((a:Int) < (b.length:Int)))) (J2 O O O) O (G6 (b5 (Gi O (fun hb=>?_) (fun hb=>?_))))))))
   ·
    have q:=Jp hb
    obtain⟨d,e8,i,b7,h⟩:=Hw p q
    replace h:=Yw b3 h
    refine Gk (b4 (Js fun b8=>Gf (Js fun b9=>Jr fun c0=>(JLm (E1 b) O (JLm (E7 a) O (JLh (.dptr [I64 d]) (Gz (f:=I64) (xs:=b) (y:=d) O O O G8 i O) O (JLh (I64 d) (Gr Gj O O O) O (JLh (BL (decide (d < 1))) (J2 O O O) O (JLm (BL (decide (d < 1))) O (JLo (E1 b) [] O .scf ø (fun hc=>G3 O O) O (JLo (E7 a) [] O .scf ø (fun hc=>G3 O O) O (JLo (.dptr [I64 d]) [57,58] O .scf ⟨Ua,Ua,ø⟩ (fun hc=>Gz (f:=I64) (xs:=b) (y:=d) O O O G8 i O) O (JLo (I64 d) [59] O .scf ⟨Ua,ø⟩ (fun hc=>Gr Gj O O O) O (JLo (BL (decide (999999 < d))) [60] O .scf ⟨Ua,ø⟩ (fun hc=>G08 O O O) O (JLh (BL ((decide (d < 1))||(decide (999999 < d)))) (G17 O O O O) O (G6 (c0 ?_)))))))))))))))))
    refine JCc O h ?_ ?_<;>intro h hb
    ·
     refine Jr fun c1=>(JLm (BL false) O (G6 (c1 (H0 (fin1 BL h)))))
    ·
     refine Gk (b9 (Jr fun c2=>(JLm (I64 0) O (G6 (c2 (Gf ?_))))))
     obtain⟨c3,h⟩:=Ho h
     obtain⟨e5,c4,c5,w,h⟩:=Ga9 h
     refine Ha (fun e (l:Unit)=>upto e5 c4 ((a:Int).toNat - e) e l=some r) (fun e l=>[(4,E1 b),(5,E7 a),(6,E7 e)]) (fun e l=>[]) (fun e=>(a:Int).toNat - e) 0 () h ⟨(.sm O O),ø,O⟩ ?_
     clear h
     intro e l s f2 e6
     refine Js fun c6=>Jr fun c7=>(JLm (E7 e) O (JLm (E7 a) O (JLh (BL (decide ((e:Int) < (a:Int)))) (J2 O O O) O (G6 (c7 (Gi O (fun hb=>?_) (fun hb=>?_)))))))
     ·
      have t:=G73 hb
      obtain⟨e9,c8,h⟩:=G6e s t
      replace h:=J9e c5 h
      refine Gk (c6 (Js fun c9=>Gf (Js fun d0=>?_)))
      obtain⟨f3,m,d1,d2,h⟩:=Rf h
      refine JC_d0 Jg (by kernel_rfl) (Dq (E1 b) (G3 O O) O (Dq (E7 e) (G3 O O) O (Dq (.dptr [I64 m]) (Gz (f:=I64) (xs:=b) (y:=m) O O O G8 d2 d1) O (Dq (I64 m) (Gr Gj O O O) O (Dq (E1 b) (G3 O O) O (Dq (E7 a) (G3 O O) O (Dq (.dptr [I64 d]) (Gz (f:=I64) (xs:=b) (y:=d) O O O G8 i O) O (Dq (I64 d) (Gr Gj O O O) O (Dq (BL (decide (m=d))) (Yx O O O) O (Dnil (d0 (JCc O h (fun h hb=>?_) (fun h hb=>?_)))))))))))))
      ·
       refine Jr fun d3=>(JLm (BL false) O (G6 (d3 (H0 (fin1 BL h)))))
      ·
       refine Gk (c9 (G1 (JLm (E7 e) O (JLh (I64 ((e+1:Nat):Int)) (Hz (Hi t (G45 c3)) O O O) O (JLm (I64 ((e+1:Nat):Int)) O (G6 (e6 _ _ (e+1) () (app1 c8 h) (by omega) ⟨(.sm O O),ø,rfl⟩)))))))
     ·
      have h:=app1 w (G6f s (Zc hb))
      refine Hd (b8 (G1 (JLm (E7 a) O (JLh (I64 ((a+1:Nat):Int)) (Hz (Hi q b6) O O O) O (JLm (I64 ((a+1:Nat):Int)) O (G6 (e4 _ _ (a+1) () (app1 b7 h) (by omega) ⟨(.sm O O),ø,rfl⟩)))))))
   ·
    have h:=app1 v (Hx p (Hc hb))
    refine Hd (b0 (Jr fun d4=>(JLm (BL true) O (G6 (d4 (H0 (fin1 BL h)))))))

def Rr (F:Nat) (y:Gs) (box:Int):Option (Int×Int×Bool):=
 each (fun f g (h:Unit) b=>
  each (fun c d (e:Unit) a=>
   bif decide (c=box) then
   (some ((g:Int),(d:Int),true))
   else
   (a ()))
  (fun(e:Unit)=>
   b ()) f 0 ())
 (fun(h:Unit)=>
  some (0,0,false)) y.Stacks 0 ()
theorem G68 (F:Nat) (y:Gs) (box:Int) (r:Int×Int×Bool) (h:Rr F y box=some r):Pure E8 49 [.agg [LS 1 (E1) y.Stacks,I64 y.Height],I64 box] (·=.tup [I64 r.1,I64 r.2.1,BL r.2.2]):=by
 unfold Rr at h
 refine Hj [.tmp 4,.tmp 5,.tmp 6] Tryz.func49 O O (Jr fun a3=>(JLh (.ptr 1082 0) (Qw (cs:=[LS 1 (E1) y.Stacks,I64 y.Height]) 1082 O O O O O) O (JLm (I64 0) O (JLm (I64 0) O (JLm (BL false) O (G6 (a3 (H7 [(1,I64 box),(2,.dptr [LS 1 (E1) y.Stacks,I64 y.Height])] [] 1082 rfl rfl rfl ø rfl (by exact⟨.conv (.same rfl),.ptr,ø⟩) (Js fun a4=>Jr fun a5=>(JLm (I64 0) O (G6 (a5 (Gf ?_)))))))))))))
 obtain⟨b4,a6,a7,o,h⟩:=J7 h
 refine Ha (fun b (j:Unit)=>each b4 a6 (List.drop b y.Stacks) b j=some r) (fun b j=>[(1,I64 box),(2,.dptr [LS 1 (E1) y.Stacks,I64 y.Height]),(7,E7 b)]) (fun b j=>[]) (fun b=>y.Stacks.length - b) 0 () h ⟨(.sm O O),ø,O⟩ ?_
 clear h
 intro b j l K4 e4
 refine Js fun a8=>Jr fun a9=>(JLm (E7 b) O (JLh (.dptr [LS 1 (E1) y.Stacks,I64 y.Height]) (H1 H3 O O O) O (JLh (LS 1 (E1) y.Stacks) (Gr Gv O O O) O (JLl Ge O O O fun p=>(JLh (BL (decide ((b:Int) < (y.Stacks.length:Int)))) (J2 O O O) O (G6 (a9 (Gi O (fun hb=>?_) (fun hb=>?_)))))))))
 ·
  have m:=Jp hb
  obtain⟨c,b9,n,b0,h⟩:=Hw l m
  replace h:=Yw a7 h
  refine Gk (a8 (Js fun b1=>Gf (Jr fun b2=>(JLm (I64 0) O (G6 (b2 (Gf ?_)))))))
  obtain⟨b3,q,s,k,h⟩:=J7 h
  refine Ha (fun a (d:Unit)=>each b3 q (List.drop a c) a d=some r) (fun a d=>[(1,I64 box),(2,.dptr [LS 1 (E1) y.Stacks,I64 y.Height]),(7,E7 b),(8,E7 a)]) (fun a d=>[]) (fun a=>c.length - a) 0 () h ⟨(.sm O O),ø,rfl⟩ ?_
  clear h
  intro a d g c0 b5
  refine Js fun t=>Jr fun u=>(JLm (E7 a) O (JLh (.dptr [LS 1 (E1) y.Stacks,I64 y.Height]) (H1 H3 O O O) O (JLh (LS 1 (E1) y.Stacks) (Gr Gv O O O) O (JLm (E7 b) O (JLh (.dptr [E1 c]) (Gz (f:=(E1)) (xs:=y.Stacks) (y:=c) O O O Ge n O) O (JLh (E1 c) (Gr H5 O O O) O (JLl G8 O O O fun v=>(JLh (BL (decide ((a:Int) < (c.length:Int)))) (J2 O O O) O (G6 (u (Gi O (fun hb=>?_) (fun hb=>?_))))))))))))
  ·
   have i:=Jp hb
   obtain⟨e,b8,w,x,h⟩:=Hw g i
   replace h:=Yw s h
   refine Gk (t (Js fun z=>Gf (Jr fun a0=>(JLh (.dptr [LS 1 (E1) y.Stacks,I64 y.Height]) (H1 H3 O O O) O (JLh (LS 1 (E1) y.Stacks) (Gr Gv O O O) O (JLm (E7 b) O (JLh (.dptr [E1 c]) (Gz (f:=(E1)) (xs:=y.Stacks) (y:=c) O O O Ge n O) O (JLh (E1 c) (Gr H5 O O O) O (JLm (E7 a) O (JLh (.dptr [I64 e]) (Gz (f:=I64) (xs:=c) (y:=e) O O O G8 w O) O (JLh (I64 e) (Gr Gj O O O) O (JLm (I64 box) O (JLh (BL (decide (e=box))) (Yx O O O) O (G6 (a0 (JCc O h (fun h hb=>?_) (fun h hb=>?_)))))))))))))))))
   ·
    refine Jr fun a1=>(JLm (E7 b) O (JLm (E7 a) O (JLm (E7 b) O (JLm (E7 a) O (JLm (BL true) O (G6 (a1 (H0 (⟨[E7 b,E7 a,BL true],[],ø,O,⟨⟨_,O,.conv (.same O)⟩,⟨_,O,.conv (.same O)⟩,⟨_,O,.conv (.same O)⟩,ø⟩,O,congrArg (fun r:Int×Int×Bool=>(.tup [I64 r.1,I64 r.2.1,BL r.2.2]:AV)) (Ez h)⟩)))))))))
   ·
    refine Gk (z (G1 (JLm (E7 a) O (JLh (I64 ((a+1:Nat):Int)) (Hz (Hi i v) O O O) O (JLm (I64 ((a+1:Nat):Int)) O (G6 (b5 _ _ (a+1) () (app1 x h) (by omega) ⟨(.sm O O),ø,rfl⟩)))))))
  ·
   have h:=app1 k (Hx g (Hc hb))
   refine Hd (b1 (G1 (JLm (E7 b) O (JLh (I64 ((b+1:Nat):Int)) (Hz (Hi m p) O O O) O (JLm (I64 ((b+1:Nat):Int)) O (G6 (e4 _ _ (b+1) () (app1 b0 h) (by omega) ⟨(.sm O O),ø,rfl⟩)))))))
 ·
  have h:=app1 o (Hx l (Hc hb))
  refine Hd (a4 (Jr fun a2=>(JLm (I64 0) O (JLm (I64 0) O (JLm (BL false) O (G6 (a2 (H0 (⟨[I64 0,I64 0,BL false],[],ø,O,⟨⟨_,O,.conv (.same O)⟩,⟨_,O,.conv (.same O)⟩,⟨_,O,.conv (.same O)⟩,ø⟩,O,congrArg (fun r:Int×Int×Bool=>(.tup [I64 r.1,I64 r.2.1,BL r.2.2]:AV)) (Ez h)⟩)))))))))

def Jd (order:List Int) (box:Int):Option Int:=
 each (fun b c (d:Unit) a=>
  bif decide (b=box) then
  (some (c:Int))
  else
  (a ()))
 (fun(d:Unit)=>
  some (order.length:Int)) order 0 ()
theorem Jk (order:List Int) (box:Int) (r:Int) (h:Jd order box=some r):Pure E8 50 [E1 order,I64 box] (·=I64 r):=by
 unfold Jd at h
 refine Hj [.tmp 4] Tryz.func50 O O (Jr fun t=>(JLm (I64 0) O (G6 (t (Js fun u=>Jr fun v=>(JLm (I64 0) O (G6 (v (Gf ?_)))))))))
 obtain⟨w,i,j,g,h⟩:=J7 h
 refine Ha (fun a (b:Unit)=>each w i (List.drop a order) a b=some r) (fun a b=>[(0,E1 order),(1,I64 box),(5,E7 a)]) (fun a b=>[]) (fun a=>order.length - a) 0 () h ⟨(.sm O O),ø,O⟩ ?_
 clear h
 intro a b d a2 x
 refine Js fun k=>Jr fun l=>(JLm (E7 a) O (JLm (E1 order) O (JLl G8 O O O fun z=>(JLh (BL (decide ((a:Int) < (order.length:Int)))) (J2 O O O) O (G6 (l (Gi O (fun hb=>?_) (fun hb=>?_))))))))
 ·
  have e:=Jp hb
  obtain⟨c,a0,m,n,h⟩:=Hw d e
  replace h:=Yw j h
  refine Gk (k (Js fun o=>Gf (Jr fun p=>(JLm (E1 order) O (JLm (E7 a) O (JLh (.dptr [I64 c]) (Gz (f:=I64) (xs:=order) (y:=c) O O O G8 m O) O (JLh (I64 c) (Gr Gj O O O) O (JLm (I64 box) O (JLh (BL (decide (c=box))) (Yx O O O) O (G6 (p (JCc O h (fun h hb=>?_) (fun h hb=>?_)))))))))))))
  ·
   refine Jr fun q=>(JLm (E7 a) O (JLm (E7 a) O (G6 (q (H0 (fin1 I64 h))))))
  ·
   refine Gk (o (G1 (JLm (E7 a) O (JLh (I64 ((a+1:Nat):Int)) (Hz (Hi e z) O O O) O (JLm (I64 ((a+1:Nat):Int)) O (G6 (x _ _ (a+1) () (app1 n h) (by omega) ⟨(.sm O O),ø,rfl⟩)))))))
 ·
  have h:=app1 g (Hx d (Hc hb))
  refine Hd (u (Jr fun s=>(JLm (E1 order) O (JLl G8 O O O fun a1=>(JLm (E7 order.length) O (G6 (s (H0 (fin1 I64 h)))))))))

def Q9 (F:Nat) (y:Gs) (order:List Int):Option Bool:=
 bnd (Qq F y) fun g=>
 bif (!g) then
 (some false)
 else
 (each (fun a d (e:Unit) c=>
   bnd (Rr F y a) fun b=>
   bnd (bif (!(!b.2.2)) then Jd order a else some default) fun f=>
   bif ((!b.2.2)||(decide (f≠(d:Int)))) then
   (some false)
   else
   (c ()))
  (fun(e:Unit)=>
   some true) order 0 ())
theorem Yq (F:Nat) (y:Gs) (order:List Int) (r:Bool) (h:Q9 F y order=some r):Pure E8 23 [.agg [LS 1 (E1) y.Stacks,I64 y.Height],E1 order] (·=BL r):=by
 unfold Q9 at h
 refine Hj [.tmp 4] Tryz.func23 O O (Jr fun a2=>(JLh (.ptr 1049 0) (Qw (cs:=[LS 1 (E1) y.Stacks,I64 y.Height]) 1049 O O O O O) O (JLm (BL false) O (G6 (a2 (H7 [(1,E1 order),(2,.dptr [LS 1 (E1) y.Stacks,I64 y.Height])] [] 1049 rfl rfl rfl ø rfl (by exact⟨.conv (.same rfl),.ptr,ø⟩) (Js fun a3=>Jr fun a4=>(JLh (.agg [LS 1 (E1) y.Stacks,I64 y.Height]) (Gt Hg O O O) O ?_))))))))
 obtain⟨l,a5,h⟩:=Gd h
 refine JLh (BL l) (Gu O (G0b F y l a5) H77 ⟨O,O,ø⟩) O (JLh (BL (!l)) (Y4 (b:=l) O O) O (G6 (a4 (JCc O h (fun h hb=>?_) (fun h hb=>?_)))))
 ·
  refine Jr fun a6=>(JLm (BL false) O (G6 (a6 (H0 (fin1 BL h)))))
 ·
  refine Gk (a3 (Js fun a7=>Jr fun a8=>(JLm (I64 0) O (G6 (a8 (Gf ?_))))))
  obtain⟨a9,n,o,m,h⟩:=J7 h
  refine Ha (fun a (e:Unit)=>each a9 n (List.drop a order) a e=some r) (fun a e=>[(1,E1 order),(2,.dptr [LS 1 (E1) y.Stacks,I64 y.Height]),(5,E7 a)]) (fun a e=>[]) (fun a=>order.length - a) 0 () h ⟨(.sm O O),ø,O⟩ ?_
  clear h
  intro a e i b2 b0
  refine Js fun p=>Jr fun q=>(JLm (E7 a) O (JLm (E1 order) O (JLl G8 O O O fun s=>(JLh (BL (decide ((a:Int) < (order.length:Int)))) (J2 O O O) O (G6 (q (Gi O (fun hb=>?_) (fun hb=>?_))))))))
  ·
   have j:=Jp hb
   obtain⟨d,b1,k,t,h⟩:=Hw i j
   replace h:=Yw o h
   refine Gk (p (Js fun u=>Gf (Js fun v=>?_)))
   obtain⟨c,w,h⟩:=Gd h
   refine JC_d0 Jg (by kernel_rfl) (Dq (.agg [LS 1 (E1) y.Stacks,I64 y.Height]) (Gt Hg O O O) O (Dq (E1 order) (G3 O O) O (Dq (E7 a) (G3 O O) O (Dq (.dptr [I64 d]) (Gz (f:=I64) (xs:=order) (y:=d) O O O G8 k O) O (Dq (I64 d) (Gr Gj O O O) O (Dq (.tup [I64 c.1,I64 c.2.1,BL c.2.2]) (Gu (args:=[.agg [LS 1 (E1) y.Stacks,I64 y.Height],I64 d]) O (G68 F y d c w) J0c ⟨O,O,O,O,ø⟩) O (Dq (.tup [I64 c.1,I64 c.2.1,BL c.2.2]) (G3 O O) O (Dq (I64 c.1) (Gw O O O) O (Dq (I64 c.2.1) (Gw O O O) O (Dq (BL c.2.2) (Gw O O O) O (Dq (I64 c.1) (G5 O O) O (Dq (I64 c.2.1) (G5 O O) O (Dq (BL c.2.2) (G5 O O) O (Dnil (v ?_)))))))))))))))
   refine Jr fun x=>(JLm (BL c.2.2) O (JLh (BL (!c.2.2)) (Y4 (b:=c.2.2) O O) O (JLm (BL (!c.2.2)) O (JLo (E1 order) [] O .scf ø (fun hc=>G3 O O) O (JLo (E1 order) [] O .scf ø (fun hc=>G3 O O) O (JLo (E7 a) [] O .scf ø (fun hc=>G3 O O) O (JLo (.dptr [I64 d]) [32,33] O .scf ⟨Ua,Ua,ø⟩ (fun hc=>Gz (f:=I64) (xs:=order) (y:=d) O O O G8 k O) O (JLo (I64 d) [34] O .scf ⟨Ua,ø⟩ (fun hc=>Gr Gj O O O) O ?_))))))))
   obtain⟨g,z,h⟩:=Gd h
   refine JLo (I64 g) [31,35] O .scf ⟨Ua,Ua,ø⟩ (fun hc=>Gu (args:=[E1 order,I64 d]) O (Jk order d g (H6 hc z)) G0a ⟨O,O,O,O,ø⟩) O (JLo (E7 a) [] O .scf ø (fun hc=>G3 O O) O (JLo (BL (decide (g≠(a:Int)))) [36,37] O .scf ⟨Ua,Ua,ø⟩ (fun hc=>G1c O O O) O (JLh (BL ((!c.2.2)||(decide (g≠(a:Int))))) (G17 O O O O) O (G6 (x (JCc O h (fun h hb=>?_) (fun h hb=>?_)))))))
   ·
    refine Jr fun a0=>(JLm (BL false) O (G6 (a0 (H0 (fin1 BL h)))))
   ·
    refine Gk (u (G1 (JLm (E7 a) O (JLh (I64 ((a+1:Nat):Int)) (Hz (Hi j s) O O O) O (JLm (I64 ((a+1:Nat):Int)) O (G6 (b0 _ _ (a+1) () (app1 t h) (by omega) ⟨(.sm O O),ø,rfl⟩)))))))
  ·
   have h:=app1 m (Hx i (Hc hb))
   refine Hd (a7 (Jr fun a1=>(JLm (BL true) O (G6 (a1 (H0 (fin1 BL h)))))))

def Qy (y:Gs) (stack:Int) (boxes:List Int):Option Gs:=
 each (fun b e (a:(List (List Int))×Int) d=>
  jp (fun c=>
   bif decide ((e:Int)=stack) then
   (need (decide ((([]:List Int).length+boxes.length)*8≤140737488355328∧([]:List Int).length+boxes.length≤maxLen)) <|
    need (decide ((a.1.length+[(([]:List Int)++boxes)].length)*24≤140737488355328∧a.1.length+[(([]:List Int)++boxes)].length≤maxLen)) <|
    c (a.1++[(([]:List Int)++boxes)]))
   else
   (need (decide ((([]:List Int).length+b.length)*8≤140737488355328∧([]:List Int).length+b.length≤maxLen)) <|
    need (decide ((a.1.length+[(([]:List Int)++b)].length)*24≤140737488355328∧a.1.length+[(([]:List Int)++b)].length≤maxLen)) <|
    c (a.1++[(([]:List Int)++b)]))) fun(f:(List (List Int)))=>
  d (f,a.2))
 (fun(a:(List (List Int))×Int)=>
  some (Gs.mk a.1 a.2)) y.Stacks 0 ([],y.Height)
theorem Yz (y:Gs) (stack:Int) (boxes:List Int) (r:Gs) (h:Qy y stack boxes=some r):Pure E8 53 [.agg [LS 1 (E1) y.Stacks,I64 y.Height],I64 stack,E1 boxes] (·=.agg [LS 1 (E1) r.Stacks,I64 r.Height]):=by
 unfold Qy at h
 refine Hj [.cell 6 30] Tryz.func53 O O (Jr fun a1=>(JLh (.ptr 1084 0) (Qw (cs:=[LS 1 (E1) y.Stacks,I64 y.Height]) 1084 O O O O O) O (JLh (.ptr 1085 0) (Gc9 1085 [LS 1 (E1) ([]:List (List Int)),I64 0] [.slice none 0 0,E0] Z2 ⟨.inr ⟨_,O,O⟩,.inl O,ø⟩ O O) O (G6 (a1 (fzQ [(1,I64 stack),(2,E1 boxes),(3,.dptr [LS 1 (E1) y.Stacks,I64 y.Height]),(6,.ptr 1085 0)] [(1085,.box 30 [LS 1 (E1) ([]:List (List Int)),I64 0])] 1084 rfl rfl rfl ⟨⟨_,rfl,.boxEq rfl rfl⟩,ø⟩ rfl ?_))))))
 refine Jr fun a2=>(JLh (.dptr [I64 y.Height]) (H1 G2c O O O) O (JLh (I64 y.Height) (Gr Gj O O O) O (JLh (.agg [.sc (.slice none 0 0),I64 y.Height]) (Jf (cs:=[.sc (.slice none 0 0),I64 y.Height]) [(0,1),(1,1)] [.sc (.slice none 0 0),I64 0] [.slice none 0 0,E0] Za Z2 (zzQ O) O O) O (JLh (.ptr 1086 0) (Ji 1086 2 Yt O O) O (Jb (u:=.junk) (Hu (u:=.agg [.sc (.slice none 0 0),I64 y.Height]) (ds:=[.sc (.slice none 0 0),I64 y.Height]) Qc O O O O O O O O) (H91 1086 0 1089 22 1 O O O (cs':=[OW 1089 1 (E1) ([]:List (List Int)),I64 y.Height]) O (G6 (a2 (Js fun a3=>Jr fun a4=>(JLm (I64 0) O (G6 (a4 (Gf ?_)))))))))))))
 obtain⟨a5,l,m,j,h⟩:=J7 h
 refine Ha (fun c (a:(List (List Int))×Int)=>each a5 l (List.drop c y.Stacks) c a=some r) (fun c a=>[(1,I64 stack),(2,E1 boxes),(3,.dptr [LS 1 (E1) y.Stacks,I64 y.Height]),(6,.ptr 1085 0),(7,.ptr 1086 0),(8,E7 c)]) (fun c a=>[(1089,.spare 22 1 a.1.length a.1.length),(1085,.box 30 [LS 1 (E1) ([]:List (List Int)),I64 0]),(1086,.box 30 [OW 1089 1 (E1) a.1,I64 a.2])]) (fun c=>y.Stacks.length - c) 0 ([],y.Height) h ⟨(.sm O O),⟨⟨_,rfl,.same⟩,fbQ O (.sm O O),fbQ O (.sm O O),ø⟩,rfl⟩ ?_
 clear h
 intro c a e a8 a6
 refine Js fun n=>Jr fun o=>(JLm (E7 c) O (JLh (.dptr [LS 1 (E1) y.Stacks,I64 y.Height]) (H1 H3 O O O) O (JLh (LS 1 (E1) y.Stacks) (Gr Gv O O O) O (JLl Ge O O O fun p=>(JLh (BL (decide ((c:Int) < (y.Stacks.length:Int)))) (J2 O O O) O (G6 (o (Gi O (fun hb=>?_) (fun hb=>?_)))))))))
 ·
  have g:=Jp hb
  obtain⟨b,a7,i,q,h⟩:=Hw e g
  replace h:=Yw m h
  refine Gk (n ?_)
  obtain⟨s,k,h⟩:=G23 h
  refine Zr (fun d:(List (List Int))=>s d=some r) (fun d=>[(1,I64 stack),(2,E1 boxes),(3,.dptr [LS 1 (E1) y.Stacks,I64 y.Height]),(6,.ptr 1085 0),(7,.ptr 1086 0),(8,E7 c)]) (fun d=>[(1089,.spare 22 1 d.length d.length),(1085,.box 30 [LS 1 (E1) ([]:List (List Int)),I64 0]),(1086,.box 30 [OW 1089 1 (E1) d,I64 a.2])]) (fun Kj46 ej46=>?_) ?_
  ·
   refine Gf (Jr fun t=>(JLm (E7 c) O (JLm (I64 stack) O (JLh (BL (decide ((c:Int)=stack))) (Yx O O O) O (G6 (t (JCc O h (fun h hb=>?_) (fun h hb=>?_))))))))
   ·
    refine R0 (l':=[(1,I64 stack),(2,E1 boxes),(3,.dptr [LS 1 (E1) y.Stacks,I64 y.Height]),(6,.ptr 1085 0),(7,.ptr 1086 0),(8,E7 c)]) (L':=[(1089,.spare 22 1 a.1.length a.1.length),(1085,.box 30 [LS 1 (E1) ([]:List (List Int)),I64 0]),(1086,.box 30 [OW 1089 1 (E1) a.1,I64 a.2])]) ⟨(.sm O O),⟨⟨_,rfl,.same⟩,fbQ O (.sm O O),fbQ O (.sm O O),ø⟩,rfl⟩ ?_
    obtain⟨v,h⟩:=Ho h
    obtain⟨w,h⟩:=Ho h
    refine Ju [2,4,6,8] [0,0,0,0,0,2,0,3,0] [2,2,0,1,0,2,0,3,0] [[(1089,.spare 22 1 a.1.length a.1.length),(1085,.box 30 [LS 1 (E1) ([]:List (List Int)),I64 0]),(1086,.box 30 [OW 1089 1 (E1) a.1,I64 a.2])],((1087,.spare 3 1 ([]:List Int).length ([]:List Int).length)::[(1089,.spare 22 1 a.1.length a.1.length),(1085,.box 30 [LS 1 (E1) ([]:List (List Int)),I64 0]),(1086,.box 30 [OW 1089 1 (E1) a.1,I64 a.2])]),((1087,.spare 3 1 (([]:List Int)++boxes).length (([]:List Int)++boxes).length)::((1087,.spare 3 1 ([]:List Int).length ([]:List Int).length)::[(1089,.spare 22 1 a.1.length a.1.length),(1085,.box 30 [LS 1 (E1) ([]:List (List Int)),I64 0]),(1086,.box 30 [OW 1089 1 (E1) a.1,I64 a.2])])),((1089,.spare 22 1 (a.1++[(([]:List Int)++boxes)]).length (a.1++[(([]:List Int)++boxes)]).length)::((1087,.spare 3 1 (([]:List Int)++boxes).length (([]:List Int)++boxes).length)::((1087,.spare 3 1 ([]:List Int).length ([]:List Int).length)::[(1089,.spare 22 1 a.1.length a.1.length),(1085,.box 30 [LS 1 (E1) ([]:List (List Int)),I64 0]),(1086,.box 30 [OW 1089 1 (E1) a.1,I64 a.2])]))),((1086,.box 30 [OW 1089 1 (E1) (a.1++[(([]:List Int)++boxes)]),I64 a.2])::((1089,.spare 22 1 (a.1++[(([]:List Int)++boxes)]).length (a.1++[(([]:List Int)++boxes)]).length)::((1087,.spare 3 1 (([]:List Int)++boxes).length (([]:List Int)++boxes).length)::((1087,.spare 3 1 ([]:List Int).length ([]:List Int).length)::[(1089,.spare 22 1 a.1.length a.1.length),(1085,.box 30 [LS 1 (E1) ([]:List (List Int)),I64 0]),(1086,.box 30 [OW 1089 1 (E1) a.1,I64 a.2])]))))] Jg (by kernel_rfl) rfl rfl ?_
    refine Gc (u:=.ptr 1086 0) O O ⟨Ga (Hs H3 O O) O,Ga (Hs H3 O O) O,Ga (Hs H3 O O) O,ø⟩ (Gc (u:=OW 1089 1 (E1) a.1) O O ⟨Ga (Ht Gv O O O O) O,Ga (Ht Gv O O O O) O,Ga (Ht Gv O O O O) O,ø⟩ (D_w (u:=OW 1087 1 I64 ([]:List Int)) O O O O (Ga (Gc7 1087 3 1 O O G8) O) (Gc (u:=E1 boxes) O O ⟨Ga (G3 O O) O,Ga (G3 O O) O,ø⟩ (D_w (u:=OW 1087 1 I64 (([]:List Int)++boxes)) O O O O (Ga (G18 (f:=I64) (xs:=([]:List Int)) (ys:=boxes) O O O O G8 Ro v (fun _=>O) (.inl O)) O) (Gc (u:=LS 1 (E1) ([(([]:List Int)++boxes)])) O O ⟨Ga (H4 (xs:=[E1 (([]:List Int)++boxes)]) O ⟨O,O,ø⟩ Ge Yu O O O O) O,ø⟩ (D_w (u:=OW 1089 1 (E1) (a.1++[(([]:List Int)++boxes)])) O O O O (Ga (R3 (f:=(E1)) (xs:=a.1) (ys:=[(([]:List Int)++boxes)]) O O O O Ge G3a w (fun _=>O) (.inl O) O) O) (Gc (u:=.ptr 1086 0) O O ⟨Ga (Hs H3 O O) O,ø⟩ (H2a (u:=.junk) O O O O (Ga (Hu (u:=OW 1089 1 (E1) (a.1++[(([]:List Int)++boxes)])) (ds:=[OW 1089 1 (E1) (a.1++[(([]:List Int)++boxes)]),I64 a.2]) Gb6 O O O O O O O O) O) (Rx ?_)))))))))
    exact ej46 _ _ (a.1++[(([]:List Int)++boxes)]) h ⟨(.sm O O),⟨⟨_,rfl,.same⟩,fbQ O (.sm O O),fbQ O (.sm O O),ø⟩,rfl⟩
   ·
    refine R0 (l':=[(1,I64 stack),(2,E1 boxes),(3,.dptr [LS 1 (E1) y.Stacks,I64 y.Height]),(6,.ptr 1085 0),(7,.ptr 1086 0),(8,E7 c)]) (L':=[(1089,.spare 22 1 a.1.length a.1.length),(1085,.box 30 [LS 1 (E1) ([]:List (List Int)),I64 0]),(1086,.box 30 [OW 1089 1 (E1) a.1,I64 a.2])]) ⟨(.sm O O),⟨⟨_,rfl,.same⟩,fbQ O (.sm O O),fbQ O (.sm O O),ø⟩,rfl⟩ ?_
    obtain⟨x,h⟩:=Ho h
    obtain⟨z,h⟩:=Ho h
    refine Ju [2,8,10,12] [0,0,0,0,0,0,0,0,0,2,0,3,0] [2,2,0,1,1,1,1,1,0,2,0,3,0] [[(1089,.spare 22 1 a.1.length a.1.length),(1085,.box 30 [LS 1 (E1) ([]:List (List Int)),I64 0]),(1086,.box 30 [OW 1089 1 (E1) a.1,I64 a.2])],((1088,.spare 3 1 ([]:List Int).length ([]:List Int).length)::[(1089,.spare 22 1 a.1.length a.1.length),(1085,.box 30 [LS 1 (E1) ([]:List (List Int)),I64 0]),(1086,.box 30 [OW 1089 1 (E1) a.1,I64 a.2])]),((1088,.spare 3 1 (([]:List Int)++b).length (([]:List Int)++b).length)::((1088,.spare 3 1 ([]:List Int).length ([]:List Int).length)::[(1089,.spare 22 1 a.1.length a.1.length),(1085,.box 30 [LS 1 (E1) ([]:List (List Int)),I64 0]),(1086,.box 30 [OW 1089 1 (E1) a.1,I64 a.2])])),((1089,.spare 22 1 (a.1++[(([]:List Int)++b)]).length (a.1++[(([]:List Int)++b)]).length)::((1088,.spare 3 1 (([]:List Int)++b).length (([]:List Int)++b).length)::((1088,.spare 3 1 ([]:List Int).length ([]:List Int).length)::[(1089,.spare 22 1 a.1.length a.1.length),(1085,.box 30 [LS 1 (E1) ([]:List (List Int)),I64 0]),(1086,.box 30 [OW 1089 1 (E1) a.1,I64 a.2])]))),((1086,.box 30 [OW 1089 1 (E1) (a.1++[(([]:List Int)++b)]),I64 a.2])::((1089,.spare 22 1 (a.1++[(([]:List Int)++b)]).length (a.1++[(([]:List Int)++b)]).length)::((1088,.spare 3 1 (([]:List Int)++b).length (([]:List Int)++b).length)::((1088,.spare 3 1 ([]:List Int).length ([]:List Int).length)::[(1089,.spare 22 1 a.1.length a.1.length),(1085,.box 30 [LS 1 (E1) ([]:List (List Int)),I64 0]),(1086,.box 30 [OW 1089 1 (E1) a.1,I64 a.2])]))))] Jg (by kernel_rfl) rfl rfl ?_
    refine Gc (u:=.ptr 1086 0) O O ⟨Ga (Hs H3 O O) O,Ga (Hs H3 O O) O,Ga (Hs H3 O O) O,ø⟩ (Gc (u:=OW 1089 1 (E1) a.1) O O ⟨Ga (Ht Gv O O O O) O,Ga (Ht Gv O O O O) O,Ga (Ht Gv O O O O) O,ø⟩ (D_w (u:=OW 1088 1 I64 ([]:List Int)) O O O O (Ga (Gc7 1088 3 1 O O G8) O) (Gc (u:=.dptr [LS 1 (E1) y.Stacks,I64 y.Height]) O O ⟨Ga (H1 H3 O O O) O,Ga (H1 H3 O O O) O,ø⟩ (Gc (u:=LS 1 (E1) y.Stacks) O O ⟨Ga (Gr Gv O O O) O,Ga (Gr Gv O O O) O,ø⟩ (Gc (u:=E7 c) O O ⟨Ga (G3 O O) O,Ga (G3 O O) O,ø⟩ (Gc (u:=.dptr [E1 b]) O O ⟨Ga (Gz (f:=(E1)) (xs:=y.Stacks) (y:=b) O O O Ge i O) O,Ga (Gz (f:=(E1)) (xs:=y.Stacks) (y:=b) O O O Ge i O) O,ø⟩ (Gc (u:=E1 b) O O ⟨Ga (Gr H5 O O O) O,Ga (Gr H5 O O O) O,ø⟩ (D_w (u:=OW 1088 1 I64 (([]:List Int)++b)) O O O O (Ga (G18 (f:=I64) (xs:=([]:List Int)) (ys:=b) O O O O G8 Ro x (fun _=>O) (.inl O)) O) (Gc (u:=LS 1 (E1) ([(([]:List Int)++b)])) O O ⟨Ga (H4 (xs:=[E1 (([]:List Int)++b)]) O ⟨O,O,ø⟩ Ge Yu O O O O) O,ø⟩ (D_w (u:=OW 1089 1 (E1) (a.1++[(([]:List Int)++b)])) O O O O (Ga (R3 (f:=(E1)) (xs:=a.1) (ys:=[(([]:List Int)++b)]) O O O O Ge G3a z (fun _=>O) (.inl O) O) O) (Gc (u:=.ptr 1086 0) O O ⟨Ga (Hs H3 O O) O,ø⟩ (H2a (u:=.junk) O O O O (Ga (Hu (u:=OW 1089 1 (E1) (a.1++[(([]:List Int)++b)])) (ds:=[OW 1089 1 (E1) (a.1++[(([]:List Int)++b)]),I64 a.2]) Gb6 O O O O O O O O) O) (Rx ?_)))))))))))))
    exact ej46 _ _ (a.1++[(([]:List Int)++b)]) h ⟨(.sm O O),⟨⟨_,rfl,.same⟩,fbQ O (.sm O O),fbQ O (.sm O O),ø⟩,rfl⟩
  ·intro d h
   replace h:=app1 k h
   refine G1 (JLm (E7 c) O (JLh (I64 ((c+1:Nat):Int)) (Hz (Hi g p) O O O) O (JLm (I64 ((c+1:Nat):Int)) O (G6 (a6 _ _ (c+1) (d,a.2) (app1 q h) (by omega) ⟨(.sm O O),⟨⟨_,rfl,.same⟩,fbQ O (.sm O O),fbQ O (.sm O O),ø⟩,rfl⟩)))))
 ·
  have h:=app1 j (Hx e (Hc hb))
  refine Hd (a3 (Jr fun a0=>(JLh (.agg [OW 1089 1 (E1) a.1,I64 a.2]) (Jc Hg O O O O) O (Jb (u:=.junk) (Hu (u:=.agg [OW 1089 1 (E1) a.1,I64 a.2]) (ds:=[OW 1089 1 (E1) a.1,I64 a.2]) Qc O O O O O O O O) (G6 (a0 (H0 (⟨[.agg [LS 1 (E1) a.1,I64 a.2]],[],ø,O,⟨⟨_,⟨_,_,_,_,O,O,O,.inl ⟨Hg,O⟩⟩,.agg ⟨.list O,.same O,ø⟩⟩,ø⟩,O,congrArg (fun r:Gs=>(.agg [LS 1 (E1) r.Stacks,I64 r.Height]:AV)) (Ez h)⟩))))))))

def Jx (F:Nat) (y:Gs) (m:G7):Option (Gs×Int):=
 bnd (Qq F y) fun i=>
 bif (!i) then
 (some ((Gs.mk [] 0),2))
 else
 (bif ((((decide (m.From < 0))||(decide (m.To < 0)))||(decide ((y.Stacks.length:Int)≤m.From)))||(decide ((y.Stacks.length:Int)≤m.To))) then
  (some ((Gs.mk [] 0),6))
  else
  (bif decide (m.From=m.To) then
   (some ((Gs.mk [] 0),340))
   else
   (Qx y.Stacks m.From fun a=>
    Qx y.Stacks m.To fun b=>
    bif decide ((a.length:Int)=0) then
    (some ((Gs.mk [] 0),341))
    else
    (bif decide (y.Height≤(b.length:Int)) then
     (some ((Gs.mk [] 0),4))
     else
     (need (decide ((([]:List Int).length+b.length)*8≤140737488355328∧([]:List Int).length+b.length≤maxLen)) <|
      chk ((a.length:Int) - 1) fun d=>
      Qx a d fun c=>
      need (decide (((([]:List Int)++b).length+[c].length)*8≤140737488355328∧(([]:List Int)++b).length+[c].length≤maxLen)) <|
      bnd (Qy y m.To ((([]:List Int)++b)++[c])) fun e=>
      chk ((a.length:Int) - 1) fun f=>
      bnd (Rm f a.length) fun g=>
      bnd (Qy e m.From (a.take g)) fun h=>
      some (h,0))))))
abbrev Ef (r:Gs×Int):List AV:=[.agg [LS 1 (E1) r.1.Stacks,I64 r.1.Height],I64 r.2]
theorem Ys (F:Nat) (y:Gs) (m:G7) (r:Gs×Int) (h:Jx F y m=some r):Pure E8 26 [.agg [LS 1 (E1) y.Stacks,I64 y.Height],.agg [I64 m.From,I64 m.To]] (·=.tup [.agg [LS 1 (E1) r.1.Stacks,I64 r.1.Height],I64 r.2]):=by
 unfold Jx at h
 refine Hj [.cell 4 30,.tmp 5] Tryz.func26 O O (Jr fun b3=>(JLh (.ptr 1056 0) (Qw (cs:=[LS 1 (E1) y.Stacks,I64 y.Height]) 1056 O O O O O) O (JLh (.ptr 1057 0) (Qw (cs:=[I64 m.From,I64 m.To]) 1057 O O O O O) O (JLh (.ptr 1058 0) (Gc9 1058 [LS 1 (E1) ([]:List (List Int)),I64 0] [.slice none 0 0,E0] Z2 ⟨.inr ⟨_,O,O⟩,.inl O,ø⟩ O O) O (JLm (I64 0) O (G6 (b3 (H7 [(2,.dptr [LS 1 (E1) y.Stacks,I64 y.Height]),(3,.ptr 1057 0),(4,.ptr 1058 0)] [(1057,.box 55 [I64 m.From,I64 m.To]),(1058,.box 30 [LS 1 (E1) ([]:List (List Int)),I64 0])] 1056 rfl rfl rfl ⟨⟨_,rfl,.boxEq rfl rfl⟩,⟨_,rfl,.boxEq rfl rfl⟩,ø⟩ rfl (by exact⟨.ptr,.conv (.same rfl),.conv (.same rfl),ø⟩) ?_))))))))
 refine H7 [(2,.dptr [LS 1 (E1) y.Stacks,I64 y.Height]),(3,.dptr [I64 m.From,I64 m.To]),(4,.ptr 1058 0)] [(1058,.box 30 [LS 1 (E1) ([]:List (List Int)),I64 0])] 1057 rfl rfl rfl ⟨⟨_,rfl,.boxEq rfl rfl⟩,ø⟩ rfl (by exact⟨.conv (.same rfl),.ptr,.conv (.same rfl),ø⟩) (Js fun b4=>Jr fun b5=>(JLh (.agg [LS 1 (E1) y.Stacks,I64 y.Height]) (Gt Hg O O O) O ?_))
 obtain⟨p,b6,h⟩:=Gd h
 refine JLh (BL p) (Gu O (G0b F y p b6) H77 ⟨O,O,ø⟩) O (JLh (BL (!p)) (Y4 (b:=p) O O) O (G6 (b5 (JCc O h (fun h hb=>?_) (fun h hb=>?_)))))
 ·
  refine Jr fun b7=>(JLh (.agg [LS 1 (E1) ([]:List (List Int)),I64 0]) (Jf (cs:=[LS 1 (E1) ([]:List (List Int)),I64 0]) [(0,1),(1,1)] [LS 1 (E1) ([]:List (List Int)),I64 0] [.slice none 0 0,E0] Za Z2 ⟨.inr ⟨_,O,O⟩,.inl O,ø⟩ O O) O (Jb (u:=.junk) (Hu (u:=.agg [LS 1 (E1) ([]:List (List Int)),I64 0]) (ds:=[LS 1 (E1) ([]:List (List Int)),I64 0]) Qc O O O O O O O O) (JLm (I64 2) O (G6 (b7 (H0 (⟨[.agg [LS 1 (E1) ([]:List (List Int)),I64 0],I64 2],[],ø,O,⟨⟨_,⟨_,_,_,_,O,O,O,.inl ⟨Hg,O⟩⟩,.conv (.same O)⟩,⟨_,O,.conv (.same O)⟩,ø⟩,O,congrArg (fun r:Gs×Int=>(.tup (Ef r):AV)) (Ez h)⟩)))))))
 ·
  refine Gk (b4 (Js fun b8=>?_))
  refine Jr fun b9=>(JLh (.dptr [I64 m.From,I64 m.To]) (H1 G50 O O O) O (JLh (I64 m.From) (Gr Gj O O O) O (JLh (BL (decide (m.From < 0))) (J2 O O O) O (JLm (BL (decide (m.From < 0))) O (JLo (.dptr [I64 m.To]) [] O .scf ø (fun hc=>H1 R6 O O O) O (JLo (I64 m.To) [17] O .scf ⟨Ua,ø⟩ (fun hc=>Gr Gj O O O) O (JLo (BL (decide (m.To < 0))) [18] O .scf ⟨Ua,ø⟩ (fun hc=>J2 O O O) O (JLh (BL ((decide (m.From < 0))||(decide (m.To < 0)))) (G17 O O O O) O (JLm (BL ((decide (m.From < 0))||(decide (m.To < 0)))) O (JLo (.dptr [I64 m.From,I64 m.To]) [] O .scf ø (fun hc=>H1 G50 O O O) O (JLo (I64 m.From) [22] O .scf ⟨Ua,ø⟩ (fun hc=>Gr Gj O O O) O (JLo (.dptr [LS 1 (E1) y.Stacks,I64 y.Height]) [] O .scf ø (fun hc=>H1 H3 O O O) O (JLo (LS 1 (E1) y.Stacks) [24] O .scf ⟨Ua,ø⟩ (fun hc=>Gr Gv O O O) O ?_)))))))))))))
  refine JLo (E7 y.Stacks.length) [25] O .scf ⟨Ua,ø⟩ (fun hc=>Re (f:=(E1)) (xs:=y.Stacks) Ge O O) O (JLo (BL (decide ((y.Stacks.length:Int)≤m.From))) [23,26] O .scf ⟨Ua,Ua,ø⟩ (fun hc=>G6b O O O) O (JLh (BL (((decide (m.From < 0))||(decide (m.To < 0)))||(decide ((y.Stacks.length:Int)≤m.From)))) (G17 O O O O) O (JLm (BL (((decide (m.From < 0))||(decide (m.To < 0)))||(decide ((y.Stacks.length:Int)≤m.From)))) O (JLo (.dptr [I64 m.To]) [] O .scf ø (fun hc=>H1 R6 O O O) O (JLo (I64 m.To) [30] O .scf ⟨Ua,ø⟩ (fun hc=>Gr Gj O O O) O (JLo (.dptr [LS 1 (E1) y.Stacks,I64 y.Height]) [] O .scf ø (fun hc=>H1 H3 O O O) O (JLo (LS 1 (E1) y.Stacks) [32] O .scf ⟨Ua,ø⟩ (fun hc=>Gr Gv O O O) O (JLo (E7 y.Stacks.length) [33] O .scf ⟨Ua,ø⟩ (fun hc=>Re (f:=(E1)) (xs:=y.Stacks) Ge O O) O (JLo (BL (decide ((y.Stacks.length:Int)≤m.To))) [31,34] O .scf ⟨Ua,Ua,ø⟩ (fun hc=>G6b O O O) O (JLh (BL ((((decide (m.From < 0))||(decide (m.To < 0)))||(decide ((y.Stacks.length:Int)≤m.From)))||(decide ((y.Stacks.length:Int)≤m.To)))) (G17 O O O O) O (G6 (b9 ?_))))))))))))
  refine JCc O h ?_ ?_<;>intro h hb
  ·
   refine Jr fun c0=>(JLh (.agg [LS 1 (E1) ([]:List (List Int)),I64 0]) (Jf (cs:=[LS 1 (E1) ([]:List (List Int)),I64 0]) [(0,1),(1,1)] [LS 1 (E1) ([]:List (List Int)),I64 0] [.slice none 0 0,E0] Za Z2 ⟨.inr ⟨_,O,O⟩,.inl O,ø⟩ O O) O (Jb (u:=.junk) (Hu (u:=.agg [LS 1 (E1) ([]:List (List Int)),I64 0]) (ds:=[LS 1 (E1) ([]:List (List Int)),I64 0]) Qc O O O O O O O O) (JLm (I64 6) O (G6 (c0 (H0 (⟨[.agg [LS 1 (E1) ([]:List (List Int)),I64 0],I64 6],[],ø,O,⟨⟨_,⟨_,_,_,_,O,O,O,.inl ⟨Hg,O⟩⟩,.conv (.same O)⟩,⟨_,O,.conv (.same O)⟩,ø⟩,O,congrArg (fun r:Gs×Int=>(.tup (Ef r):AV)) (Ez h)⟩)))))))
  ·
   refine Gk (b8 (Js fun c1=>Jr fun s=>(JLh (.dptr [I64 m.From,I64 m.To]) (H1 G50 O O O) O (JLh (I64 m.From) (Gr Gj O O O) O (JLh (.dptr [I64 m.To]) (H1 R6 O O O) O (JLh (I64 m.To) (Gr Gj O O O) O (JLh (BL (decide (m.From=m.To))) (Yx O O O) O (G6 (s (JCc O h (fun h hb=>?_) (fun h hb=>?_)))))))))))
   ·
    refine Jr fun t=>(JLh (.agg [LS 1 (E1) ([]:List (List Int)),I64 0]) (Jf (cs:=[LS 1 (E1) ([]:List (List Int)),I64 0]) [(0,1),(1,1)] [LS 1 (E1) ([]:List (List Int)),I64 0] [.slice none 0 0,E0] Za Z2 ⟨.inr ⟨_,O,O⟩,.inl O,ø⟩ O O) O (Jb (u:=.junk) (Hu (u:=.agg [LS 1 (E1) ([]:List (List Int)),I64 0]) (ds:=[LS 1 (E1) ([]:List (List Int)),I64 0]) Qc O O O O O O O O) (JLm (I64 340) O (G6 (t (H0 (⟨[.agg [LS 1 (E1) ([]:List (List Int)),I64 0],I64 340],[],ø,O,⟨⟨_,⟨_,_,_,_,O,O,O,.inl ⟨Hg,O⟩⟩,.conv (.same O)⟩,⟨_,O,.conv (.same O)⟩,ø⟩,O,congrArg (fun r:Gs×Int=>(.tup (Ef r):AV)) (Ez h)⟩)))))))
   ·
    refine Gk (c1 (Js fun v=>R0 (l':=[(2,.dptr [LS 1 (E1) y.Stacks,I64 y.Height]),(3,.dptr [I64 m.From,I64 m.To]),(4,.ptr 1058 0)]) (L':=[(1058,.box 30 [LS 1 (E1) ([]:List (List Int)),I64 0])]) ⟨(.sm O O),⟨⟨_,O,.boxL O (.sm O O)⟩,ø⟩,O⟩ ?_))
    obtain⟨c6,d,x,z,h⟩:=Rf h
    obtain⟨c7,a,a0,a1,h⟩:=Rf h
    refine JC_d0 Jg (by kernel_rfl) (Dq (.dptr [LS 1 (E1) y.Stacks,I64 y.Height]) (H1 H3 O O O) O (Dq (LS 1 (E1) y.Stacks) (Gr Gv O O O) O (Dq (.dptr [I64 m.From,I64 m.To]) (H1 G50 O O O) O (Dq (I64 m.From) (Gr Gj O O O) O (Dq (.dptr [E1 d]) (Gz (f:=(E1)) (xs:=y.Stacks) (y:=d) O O O Ge z x) O (Dq (E1 d) (Gr H5 O O O) O (Dq (.dptr [LS 1 (E1) y.Stacks,I64 y.Height]) (H1 H3 O O O) O (Dq (LS 1 (E1) y.Stacks) (Gr Gv O O O) O (Dq (.dptr [I64 m.To]) (H1 R6 O O O) O (Dq (I64 m.To) (Gr Gj O O O) O (Dq (.dptr [E1 a]) (Gz (f:=(E1)) (xs:=y.Stacks) (y:=a) O O O Ge a1 a0) O (Dq (E1 a) (Gr H5 O O O) O (Dq (E1 d) (G5 O O) O ?_)))))))))))))
    refine Dq (E1 a) (G5 O O) O (Dnil (v (Js fun a2=>Jr fun a3=>(JLm (E1 d) O (JLl G8 O O O fun c4=>(JLh (BL (decide ((d.length:Int)=0))) (Yx O O O) O (G6 (a3 (JCc O h (fun h hb=>?_) (fun h hb=>?_))))))))))
    ·
     refine Jr fun a4=>(JLh (.agg [LS 1 (E1) ([]:List (List Int)),I64 0]) (Jf (cs:=[LS 1 (E1) ([]:List (List Int)),I64 0]) [(0,1),(1,1)] [LS 1 (E1) ([]:List (List Int)),I64 0] [.slice none 0 0,E0] Za Z2 ⟨.inr ⟨_,O,O⟩,.inl O,ø⟩ O O) O (Jb (u:=.junk) (Hu (u:=.agg [LS 1 (E1) ([]:List (List Int)),I64 0]) (ds:=[LS 1 (E1) ([]:List (List Int)),I64 0]) Qc O O O O O O O O) (JLm (I64 341) O (G6 (a4 (H0 (⟨[.agg [LS 1 (E1) ([]:List (List Int)),I64 0],I64 341],[],ø,O,⟨⟨_,⟨_,_,_,_,O,O,O,.inl ⟨Hg,O⟩⟩,.conv (.same O)⟩,⟨_,O,.conv (.same O)⟩,ø⟩,O,congrArg (fun r:Gs×Int=>(.tup (Ef r):AV)) (Ez h)⟩)))))))
    ·
     refine Gk (a2 (Js fun a5=>Jr fun a6=>(JLm (E1 a) O (JLl G8 O O O fun c5=>(JLh (.dptr [I64 y.Height]) (H1 G2c O O O) O (JLh (I64 y.Height) (Gr Gj O O O) O (JLh (BL (decide (y.Height≤(a.length:Int)))) (G6b O O O) O (G6 (a6 (JCc O h (fun h hb=>?_) (fun h hb=>?_)))))))))))
     ·
      refine Jr fun a7=>(JLh (.agg [LS 1 (E1) ([]:List (List Int)),I64 0]) (Jf (cs:=[LS 1 (E1) ([]:List (List Int)),I64 0]) [(0,1),(1,1)] [LS 1 (E1) ([]:List (List Int)),I64 0] [.slice none 0 0,E0] Za Z2 ⟨.inr ⟨_,O,O⟩,.inl O,ø⟩ O O) O (Jb (u:=.junk) (Hu (u:=.agg [LS 1 (E1) ([]:List (List Int)),I64 0]) (ds:=[LS 1 (E1) ([]:List (List Int)),I64 0]) Qc O O O O O O O O) (JLm (I64 4) O (G6 (a7 (H0 (⟨[.agg [LS 1 (E1) ([]:List (List Int)),I64 0],I64 4],[],ø,O,⟨⟨_,⟨_,_,_,_,O,O,O,.inl ⟨Hg,O⟩⟩,.conv (.same O)⟩,⟨_,O,.conv (.same O)⟩,ø⟩,O,congrArg (fun r:Gs×Int=>(.tup (Ef r):AV)) (Ez h)⟩)))))))
     ·
      refine Gk (a5 (Js fun a8=>R0 (l':=[(2,.dptr [LS 1 (E1) y.Stacks,I64 y.Height]),(3,.dptr [I64 m.From,I64 m.To]),(4,.ptr 1058 0),(6,E1 d),(7,E1 a)]) (L':=[(1058,.box 30 [LS 1 (E1) ([]:List (List Int)),I64 0])]) ⟨(.sm O O),⟨fbQ O (.sm O O),ø⟩,rfl⟩ ?_))
      obtain⟨l,h⟩:=Ho h
      obtain⟨c2,i,h⟩:=Je h
      obtain⟨c8,c,j,k,h⟩:=Rf h
      obtain⟨n,h⟩:=Ho h
      obtain⟨e,o,h⟩:=Gd h
      refine Qff [3,5,13,15,16] [[[false,false,false,false,false],[true,false,false,false,false],[true,true,false,false,false],[true,true,true,false,false],[false,false,false,true,false],[true,false,false,true,false],[true,true,false,true,false],[true,true,true,true,false]],[[false,false,false,false,false],[true,false,false,false,false],[true,true,false,false,false],[true,true,true,false,false],[false,false,false,true,false],[true,false,false,true,false],[true,true,false,true,false],[true,true,true,true,false]],[[false,false,false,false,false],[true,false,false,false,false],[true,true,false,false,false],[true,true,true,false,false],[false,false,false,true,false],[true,false,false,true,false],[true,true,false,true,false],[true,true,true,true,false]],[[false,false,false,false,false],[false,false,false,true,false]],[[false,false,false,false,false],[true,false,false,false,false],[false,false,false,true,false],[true,false,false,true,false]],[[true,false,false,false,false],[true,false,false,true,false]],[[false,false,false,false,false],[true,false,false,false,false],[true,true,false,false,false],[false,false,false,true,false],[true,false,false,true,false],[true,true,false,true,false]],[[false,false,false,false,false],[true,false,false,false,false],[true,true,false,false,false],[false,false,false,true,false],[true,false,false,true,false],[true,true,false,true,false]],[[false,false,false,false,false],[true,false,false,false,false],[true,true,false,false,false],[false,false,false,true,false],[true,false,false,true,false],[true,true,false,true,false]],[[false,false,false,false,false],[true,false,false,false,false],[true,true,false,false,false],[false,false,false,true,false],[true,false,false,true,false],[true,true,false,true,false]],[[false,false,false,false,false],[true,false,false,false,false],[true,true,false,false,false],[false,false,false,true,false],[true,false,false,true,false],[true,true,false,true,false]],[[false,false,false,false,false],[true,false,false,false,false],[true,true,false,false,false],[false,false,false,true,false],[true,false,false,true,false],[true,true,false,true,false]],[[false,false,false,false,false],[true,false,false,false,false],[true,true,false,false,false],[false,false,false,true,false],[true,false,false,true,false],[true,true,false,true,false]],[[true,true,false,false,false],[true,true,false,true,false]],[[true,true,true,false,false],[true,true,true,true,false]],[[false,false,false,false,false],[true,false,false,false,false],[true,true,false,false,false],[true,true,true,false,false]],[[true,true,true,true,false]]] [([false,false,false,false,false],[(1058,.box 30 [LS 1 (E1) ([]:List (List Int)),I64 0])]),([true,false,false,false,false],[(1058,.box 30 [LS 1 (E1) ([]:List (List Int)),I64 0]),(1060,.spare 3 1 ([]:List Int).length ([]:List Int).length)]),([true,true,false,false,false],[(1058,.box 30 [LS 1 (E1) ([]:List (List Int)),I64 0]),(1060,.spare 3 1 (([]:List Int)++a).length (([]:List Int)++a).length)]),([true,true,true,false,false],[(1058,.box 30 [LS 1 (E1) ([]:List (List Int)),I64 0]),(1060,.spare 3 1 ((([]:List Int)++a)++[c]).length ((([]:List Int)++a)++[c]).length)]),([false,false,false,true,false],[(1058,.box 30 [LS 1 (E1) ([]:List (List Int)),I64 0]),(1059,.box 30 [.junk,.junk])]),([true,false,false,true,false],[(1058,.box 30 [LS 1 (E1) ([]:List (List Int)),I64 0]),(1060,.spare 3 1 ([]:List Int).length ([]:List Int).length),(1059,.box 30 [.junk,.junk])]),([true,true,false,true,false],[(1058,.box 30 [LS 1 (E1) ([]:List (List Int)),I64 0]),(1060,.spare 3 1 (([]:List Int)++a).length (([]:List Int)++a).length),(1059,.box 30 [.junk,.junk])]),([true,true,true,true,false],[(1058,.box 30 [LS 1 (E1) ([]:List (List Int)),I64 0]),(1060,.spare 3 1 ((([]:List Int)++a)++[c]).length ((([]:List Int)++a)++[c]).length),(1059,.box 30 [.junk,.junk])]),([true,true,true,true,true],[(1058,.box 30 [LS 1 (E1) ([]:List (List Int)),I64 0]),(1060,.spare 3 1 ((([]:List Int)++a)++[c]).length ((([]:List Int)++a)++[c]).length),(1059,.box 30 [LS 1 (E1) e.Stacks,I64 e.Height])])] Jg (by kernel_rfl) rfl rfl ?_
      refine Ga8 (u:=.agg [LS 1 (E1) y.Stacks,I64 y.Height]) O ⟨.ro O O (Ga (Gt Hg O O O) O),.ro O O (Ga (Gt Hg O O O) O),.ro O O (Ga (Gt Hg O O O) O),.ro O O (Ga (Gt Hg O O O) O),.ro O O (Ga (Gt Hg O O O) O),.ro O O (Ga (Gt Hg O O O) O),.ro O O (Ga (Gt Hg O O O) O),.ro O O (Ga (Gt Hg O O O) O),ø⟩ ?_ O
      refine Ga8 (u:=.dptr [I64 m.To]) O ⟨.ro O O (Ga (H1 R6 O O O) O),.ro O O (Ga (H1 R6 O O O) O),.ro O O (Ga (H1 R6 O O O) O),.ro O O (Ga (H1 R6 O O O) O),.ro O O (Ga (H1 R6 O O O) O),.ro O O (Ga (H1 R6 O O O) O),.ro O O (Ga (H1 R6 O O O) O),.ro O O (Ga (H1 R6 O O O) O),ø⟩ ?_ O
      refine Ga8 (u:=I64 m.To) O ⟨.ro O O (Ga (Gr Gj O O O) O),.ro O O (Ga (Gr Gj O O O) O),.ro O O (Ga (Gr Gj O O O) O),.ro O O (Ga (Gr Gj O O O) O),.ro O O (Ga (Gr Gj O O O) O),.ro O O (Ga (Gr Gj O O O) O),.ro O O (Ga (Gr Gj O O O) O),.ro O O (Ga (Gr Gj O O O) O),ø⟩ ?_ O
      refine Ga8 (u:=OW 1060 1 I64 ([]:List Int)) O ⟨.w [1058,1060] O O (Ga (Gc7 1060 3 1 O O G8) O) O O ⟨O,O,ø⟩,.w [1058,1059,1060] O O (Ga (Gc7 1060 3 1 O O G8) O) O O ⟨O,O,O,ø⟩,ø⟩ ?_ O
      refine Ga8 (u:=E1 a) O ⟨.ro O O (Ga (G3 O O) O),.ro O O (Ga (G3 O O) O),.ro O O (Ga (G3 O O) O),.ro O O (Ga (G3 O O) O),ø⟩ ?_ O
      refine Ga8 (u:=OW 1060 1 I64 (([]:List Int)++a)) O ⟨.w [1058,1060] O O (Ga (G18 (f:=I64) (xs:=([]:List Int)) (ys:=a) O O O O G8 Ro l (fun _=>O) (.inl O)) O) O O ⟨O,O,ø⟩,.w [1058,1060,1059] O O (Ga (G18 (f:=I64) (xs:=([]:List Int)) (ys:=a) O O O O G8 Ro l (fun _=>O) (.inl O)) O) O O ⟨O,O,O,ø⟩,ø⟩ ?_ O
      refine Ga8 (u:=E1 d) O ⟨.ro O O (Ga (G3 O O) O),.ro O O (Ga (G3 O O) O),.ro O O (Ga (G3 O O) O),.ro O O (Ga (G3 O O) O),.ro O O (Ga (G3 O O) O),.ro O O (Ga (G3 O O) O),ø⟩ ?_ O
      refine Ga8 (u:=E1 d) O ⟨.ro O O (Ga (G3 O O) O),.ro O O (Ga (G3 O O) O),.ro O O (Ga (G3 O O) O),.ro O O (Ga (G3 O O) O),.ro O O (Ga (G3 O O) O),.ro O O (Ga (G3 O O) O),ø⟩ ?_ O
      refine Ga8 (u:=E7 d.length) O ⟨.ro O O (Ga (Re (f:=I64) (xs:=d) G8 O O) O),.ro O O (Ga (Re (f:=I64) (xs:=d) G8 O O) O),.ro O O (Ga (Re (f:=I64) (xs:=d) G8 O O) O),.ro O O (Ga (Re (f:=I64) (xs:=d) G8 O O) O),.ro O O (Ga (Re (f:=I64) (xs:=d) G8 O O) O),.ro O O (Ga (Re (f:=I64) (xs:=d) G8 O O) O),ø⟩ ?_ O
      refine Ga8 (u:=I64 c2) O ⟨.ro O O (Ga (G07 i O O O) O),.ro O O (Ga (G07 i O O O) O),.ro O O (Ga (G07 i O O O) O),.ro O O (Ga (G07 i O O O) O),.ro O O (Ga (G07 i O O O) O),.ro O O (Ga (G07 i O O O) O),ø⟩ ?_ O
      refine Ga8 (u:=.dptr [I64 c]) O ⟨.ro O O (Ga (Gz (f:=I64) (xs:=d) (y:=c) O O O G8 k j) O),.ro O O (Ga (Gz (f:=I64) (xs:=d) (y:=c) O O O G8 k j) O),.ro O O (Ga (Gz (f:=I64) (xs:=d) (y:=c) O O O G8 k j) O),.ro O O (Ga (Gz (f:=I64) (xs:=d) (y:=c) O O O G8 k j) O),.ro O O (Ga (Gz (f:=I64) (xs:=d) (y:=c) O O O G8 k j) O),.ro O O (Ga (Gz (f:=I64) (xs:=d) (y:=c) O O O G8 k j) O),ø⟩ ?_ O
      refine Ga8 (u:=I64 c) O ⟨.ro O O (Ga (Gr Gj O O O) O),.ro O O (Ga (Gr Gj O O O) O),.ro O O (Ga (Gr Gj O O O) O),.ro O O (Ga (Gr Gj O O O) O),.ro O O (Ga (Gr Gj O O O) O),.ro O O (Ga (Gr Gj O O O) O),ø⟩ ?_ O
      refine Ga8 (u:=E1 [c]) O ⟨.ro O O (Ga (H4 (xs:=[I64 c]) O ⟨O,O,ø⟩ G8 J6 O O O O) O),.ro O O (Ga (H4 (xs:=[I64 c]) O ⟨O,O,ø⟩ G8 J6 O O O O) O),.ro O O (Ga (H4 (xs:=[I64 c]) O ⟨O,O,ø⟩ G8 J6 O O O O) O),.ro O O (Ga (H4 (xs:=[I64 c]) O ⟨O,O,ø⟩ G8 J6 O O O O) O),.ro O O (Ga (H4 (xs:=[I64 c]) O ⟨O,O,ø⟩ G8 J6 O O O O) O),.ro O O (Ga (H4 (xs:=[I64 c]) O ⟨O,O,ø⟩ G8 J6 O O O O) O),ø⟩ ?_ O
      refine Ga8 (u:=OW 1060 1 I64 ((([]:List Int)++a)++[c])) O ⟨.w [1058,1060] O O (Ga (R3 (f:=I64) (xs:=(([]:List Int)++a)) (ys:=[c]) O O O O G8 Ro n (fun _=>O) (.inl O) O) O) O O ⟨O,O,ø⟩,.w [1058,1060,1059] O O (Ga (R3 (f:=I64) (xs:=(([]:List Int)++a)) (ys:=[c]) O O O O G8 Ro n (fun _=>O) (.inl O) O) O) O O ⟨O,O,O,ø⟩,ø⟩ ?_ O
      refine Ga8 (u:=.agg [LS 1 (E1) e.Stacks,I64 e.Height]) O ⟨.ro O O (Ga (Gu O (Yz y m.To ((([]:List Int)++a)++[c]) e o) H04 ⟨O,O,O,O,O,O,ø⟩) O),.ro O O (Ga (Gu O (Yz y m.To ((([]:List Int)++a)++[c]) e o) H04 ⟨O,O,O,O,O,O,ø⟩) O),ø⟩ ?_ O
      refine Ga8 (u:=.ptr 1059 0) O ⟨.w [1058,1059] O O (Ga (Ji 1059 2 Yt O O) O) O O ⟨O,O,ø⟩,.w [1058,1060,1059] O O (Ga (Ji 1059 2 Yt O O) O) O O ⟨O,O,O,ø⟩,.w [1058,1060,1059] O O (Ga (Ji 1059 2 Yt O O) O) O O ⟨O,O,O,ø⟩,.w [1058,1060,1059] O O (Ga (Ji 1059 2 Yt O O) O) O O ⟨O,O,O,ø⟩,ø⟩ ?_ O
      refine R95 (u:=.junk) O ⟨.w [1058,1060,1059] O O (Ga (Hu (u:=.agg [LS 1 (E1) e.Stacks,I64 e.Height]) (ds:=[LS 1 (E1) e.Stacks,I64 e.Height]) Qc O O O O O O O O) O) O O ⟨O,O,O,ø⟩,ø⟩ (R94 (a8 (fzQ [(3,.dptr [I64 m.From,I64 m.To]),(4,.ptr 1058 0),(6,E1 d),(8,.dptr [LS 1 (E1) e.Stacks,I64 e.Height])] [(1058,.box 30 [LS 1 (E1) ([]:List (List Int)),I64 0]),(1060,.spare 3 1 ((([]:List Int)++a)++[c]).length ((([]:List Int)++a)++[c]).length)] 1059 rfl rfl rfl ⟨⟨_,rfl,.boxEq rfl rfl⟩,⟨_,rfl,.same⟩,ø⟩ rfl (Js fun a9=>?_))))
      refine R0 (l':=[(3,.dptr [I64 m.From,I64 m.To]),(4,.ptr 1058 0),(6,E1 d),(8,.dptr [LS 1 (E1) e.Stacks,I64 e.Height])]) (L':=[(1058,.box 30 [LS 1 (E1) ([]:List (List Int)),I64 0]),(1060,.spare 3 1 ((([]:List Int)++a)++[c]).length ((([]:List Int)++a)++[c]).length)]) ⟨(.sm O O),⟨fbQ O (.sm O O),⟨_,rfl,.same⟩,ø⟩,rfl⟩ ?_
      obtain⟨c3,b0,h⟩:=Je h
      obtain⟨q,b1,h⟩:=Gd h
      obtain⟨g,b2,h⟩:=Gd h
      refine Ju [9] [0,0,0,0,0,0,0,0,0,0,1] [0,0,0,0,0,0,0,0,0,0,1] [[(1058,.box 30 [LS 1 (E1) ([]:List (List Int)),I64 0]),(1060,.spare 3 1 ((([]:List Int)++a)++[c]).length ((([]:List Int)++a)++[c]).length)],((1058,.box 30 [LS 1 (E1) g.Stacks,I64 g.Height])::[(1058,.box 30 [LS 1 (E1) ([]:List (List Int)),I64 0]),(1060,.spare 3 1 ((([]:List Int)++a)++[c]).length ((([]:List Int)++a)++[c]).length)])] Jg (by kernel_rfl) rfl rfl ?_
      refine Gc (u:=.agg [LS 1 (E1) e.Stacks,I64 e.Height]) O O ⟨Ga (Gt Hg O O O) O,ø⟩ (Gc (u:=.dptr [I64 m.From,I64 m.To]) O O ⟨Ga (H1 G50 O O O) O,ø⟩ (Gc (u:=I64 m.From) O O ⟨Ga (Gr Gj O O O) O,ø⟩ (Gc (u:=E1 d) O O ⟨Ga (G3 O O) O,ø⟩ (Gc (u:=E1 d) O O ⟨Ga (G3 O O) O,ø⟩ (Gc (u:=E7 d.length) O O ⟨Ga (Re (f:=I64) (xs:=d) G8 O O) O,ø⟩ (Gc (u:=I64 c3) O O ⟨Ga (G07 b0 O O O) O,ø⟩ (Gc (u:=E1 (d.take q)) O O ⟨Ga (G43 (f:=I64) (xs:=d) O O O G8 (H8 b1)) O,ø⟩ (Gc (u:=.agg [LS 1 (E1) g.Stacks,I64 g.Height]) O O ⟨Ga (Gu O (Yz e m.From (d.take q) g b2) H04 ⟨O,O,O,O,O,O,ø⟩) O,ø⟩ (H2a (u:=.junk) O O O O (Ga (Hu (u:=.agg [LS 1 (E1) g.Stacks,I64 g.Height]) (ds:=[LS 1 (E1) g.Stacks,I64 g.Height]) Qc O O O O O O O O) O) (Gc (u:=I64 0) O O ⟨Ga (G5 O O) O,ø⟩ (Rx ?_)))))))))))
      refine a9 (H0 (⟨[.agg [LS 1 (E1) g.Stacks,I64 g.Height],I64 0],[],ø,O,⟨⟨_,⟨_,_,_,_,O,O,O,.inl ⟨Hg,O⟩⟩,.conv (.same O)⟩,⟨_,O,.conv (.same O)⟩,ø⟩,O,congrArg (fun r:Gs×Int=>(.tup (Ef r):AV)) (Ez h)⟩))

def Ym (F:Nat) (y:Gs) (l:List G7):Option (Gs×Int×Int):=
 bnd (Qq F y) fun g=>
 bif (!g) then
 (some ((Gs.mk [] 0),0,2))
 else
 (bif decide (10000 < (l.length:Int)) then
  (some ((Gs.mk [] 0),0,5))
  else
  (bnd (Qy y (-1) []) fun c=>
   each (fun e f (a:(List (List Int))×Int) d=>
    bnd (Jx F (Gs.mk a.1 a.2) e) fun b=>
    bif decide (b.2≠0) then
    (some ((Gs.mk [] 0),(f:Int),b.2))
    else
    (d (b.1.Stacks,b.1.Height)))
   (fun(a:(List (List Int))×Int)=>
    some ((Gs.mk a.1 a.2),0,0)) l 0 (c.Stacks,c.Height)))
abbrev Eg (r:Gs×Int×Int):List AV:=[.agg [LS 1 (E1) r.1.Stacks,I64 r.1.Height],I64 r.2.1,I64 r.2.2]
theorem Gfa (F:Nat) (y:Gs) (l:List G7) (r:Gs×Int×Int) (h:Ym F y l=some r):Pure E8 55 [.agg [LS 1 (E1) y.Stacks,I64 y.Height],E3 l] (·=.tup [.agg [LS 1 (E1) r.1.Stacks,I64 r.1.Height],I64 r.2.1,I64 r.2.2]):=by
 unfold Ym at h
 refine Hj [.cell 4 30,.tmp 5,.tmp 6] Tryz.func55 O O (Jr fun a7=>(JLh (.ptr 1090 0) (Qw (cs:=[LS 1 (E1) y.Stacks,I64 y.Height]) 1090 O O O O O) O (JLh (.ptr 1091 0) (Gc9 1091 [LS 1 (E1) ([]:List (List Int)),I64 0] [.slice none 0 0,E0] Z2 ⟨.inr ⟨_,O,O⟩,.inl O,ø⟩ O O) O (JLm (I64 0) O (JLm (I64 0) O (G6 (a7 (H7 [(1,E3 l),(2,.dptr [LS 1 (E1) y.Stacks,I64 y.Height]),(4,.ptr 1091 0)] [(1091,.box 30 [LS 1 (E1) ([]:List (List Int)),I64 0])] 1090 rfl rfl rfl ⟨⟨_,rfl,.boxEq rfl rfl⟩,ø⟩ rfl (by exact⟨.conv (.same rfl),.ptr,.conv (.same rfl),ø⟩) (Js fun a8=>Jr fun a9=>(JLh (.agg [LS 1 (E1) y.Stacks,I64 y.Height]) (Gt Hg O O O) O ?_))))))))))
 obtain⟨n,b0,h⟩:=Gd h
 refine JLh (BL n) (Gu O (G0b F y n b0) H77 ⟨O,O,ø⟩) O (JLh (BL (!n)) (Y4 (b:=n) O O) O (G6 (a9 (JCc O h (fun h hb=>?_) (fun h hb=>?_)))))
 ·
  refine Jr fun b1=>(JLh (.agg [LS 1 (E1) ([]:List (List Int)),I64 0]) (Jf (cs:=[LS 1 (E1) ([]:List (List Int)),I64 0]) [(0,1),(1,1)] [LS 1 (E1) ([]:List (List Int)),I64 0] [.slice none 0 0,E0] Za Z2 ⟨.inr ⟨_,O,O⟩,.inl O,ø⟩ O O) O (Jb (u:=.junk) (Hu (u:=.agg [LS 1 (E1) ([]:List (List Int)),I64 0]) (ds:=[LS 1 (E1) ([]:List (List Int)),I64 0]) Qc O O O O O O O O) (JLm (I64 0) O (JLm (I64 2) O (G6 (b1 (H0 ?_)))))))
  exact⟨[.agg [LS 1 (E1) ([]:List (List Int)),I64 0],I64 0,I64 2],[],ø,O,⟨⟨_,⟨_,_,_,_,O,O,O,.inl ⟨Hg,O⟩⟩,.conv (.same O)⟩,⟨_,O,.conv (.same O)⟩,⟨_,O,.conv (.same O)⟩,ø⟩,O,congrArg (fun r:Gs×Int×Int=>(.tup (Eg r):AV)) (Ez h)⟩
 ·
  refine Gk (a8 (Js fun b2=>Jr fun b3=>(JLm (E3 l) O (JLl Rk O O O fun b8=>(JLh (BL (decide (10000 < (l.length:Int)))) (G08 O O O) O (G6 (b3 (JCc O h (fun h hb=>?_) (fun h hb=>?_)))))))))
  ·
   refine Jr fun b4=>(JLh (.agg [LS 1 (E1) ([]:List (List Int)),I64 0]) (Jf (cs:=[LS 1 (E1) ([]:List (List Int)),I64 0]) [(0,1),(1,1)] [LS 1 (E1) ([]:List (List Int)),I64 0] [.slice none 0 0,E0] Za Z2 ⟨.inr ⟨_,O,O⟩,.inl O,ø⟩ O O) O (Jb (u:=.junk) (Hu (u:=.agg [LS 1 (E1) ([]:List (List Int)),I64 0]) (ds:=[LS 1 (E1) ([]:List (List Int)),I64 0]) Qc O O O O O O O O) (JLm (I64 0) O (JLm (I64 5) O (G6 (b4 (H0 ?_)))))))
   exact⟨[.agg [LS 1 (E1) ([]:List (List Int)),I64 0],I64 0,I64 5],[],ø,O,⟨⟨_,⟨_,_,_,_,O,O,O,.inl ⟨Hg,O⟩⟩,.conv (.same O)⟩,⟨_,O,.conv (.same O)⟩,⟨_,O,.conv (.same O)⟩,ø⟩,O,congrArg (fun r:Gs×Int×Int=>(.tup (Eg r):AV)) (Ez h)⟩
  ·
   refine Gk (b2 (Jr fun b5=>(JLh (.agg [LS 1 (E1) y.Stacks,I64 y.Height]) (Gt Hg O O O) O ?_)))
   obtain⟨e,p,h⟩:=Gd h
   refine JLh (.agg [LS 1 (E1) e.Stacks,I64 e.Height]) (R13 (args:=[.agg [LS 1 (E1) y.Stacks,I64 y.Height],I64 (-1),E1 ([]:List Int)]) O (Yz y (-1) [] e p) H04 ⟨.inl O,O,.inl O,O,.inr ⟨_,O,O⟩,O,ø⟩) O (JLh (.ptr 1092 0) (Ji 1092 2 Yt O O) O (Jb (u:=.junk) (Hu (u:=.agg [LS 1 (E1) e.Stacks,I64 e.Height]) (ds:=[LS 1 (E1) e.Stacks,I64 e.Height]) Qc O O O O O O O O) (G6 (b5 (Js fun q=>Jr fun s=>(JLm (I64 0) O (G6 (s (Gf ?_)))))))))
   obtain⟨b6,t,v,o,h⟩:=J7 h
   refine Ha (fun d (c:(List (List Int))×Int)=>each b6 t (List.drop d l) d c=some r) (fun d c=>[(1,E3 l),(4,.ptr 1091 0),(7,.ptr 1092 0),(8,E7 d)]) (fun d c=>[(1091,.box 30 [LS 1 (E1) ([]:List (List Int)),I64 0]),(1092,.box 30 [LS 1 (E1) c.1,I64 c.2])]) (fun d=>l.length - d) 0 (e.Stacks,e.Height) h ⟨(.sm O O),⟨fbQ O (.sm O O),fbQ O (.sm O O),ø⟩,rfl⟩ ?_
   clear h
   intro d c i c0 b7
   refine Js fun w=>Jr fun x=>(JLm (E7 d) O (JLm (E3 l) O (JLl Rk O O O fun z=>(JLh (BL (decide ((d:Int) < (l.length:Int)))) (J2 O O O) O (G6 (x (Gi O (fun hb=>?_) (fun hb=>?_))))))))
   ·
    have j:=Jp hb
    obtain⟨g,b9,k,a0,h⟩:=Hw i j
    replace h:=Yw v h
    refine Gk (w (Js fun a1=>Gf (Js fun a2=>R0 (l':=[(1,E3 l),(4,.ptr 1091 0),(7,.ptr 1092 0),(8,E7 d)]) (L':=[(1091,.box 30 [LS 1 (E1) ([]:List (List Int)),I64 0]),(1092,.box 30 [LS 1 (E1) c.1,I64 c.2])]) ⟨(.sm O O),⟨fbQ O (.sm O O),fbQ O (.sm O O),ø⟩,rfl⟩ ?_)))
    obtain⟨a,m,h⟩:=Gd h
    refine Ju [9,10] [0,0,0,0,0,0,0,0,0,0,0,2] [1,1,1,1,1,1,1,1,2,0,0,2] [[(1091,.box 30 [LS 1 (E1) ([]:List (List Int)),I64 0]),(1092,.box 30 [LS 1 (E1) c.1,I64 c.2])],((1093,.box 30 [.junk,.junk])::[(1091,.box 30 [LS 1 (E1) ([]:List (List Int)),I64 0]),(1092,.box 30 [LS 1 (E1) c.1,I64 c.2])]),((1093,.box 30 [LS 1 (E1) a.1.Stacks,I64 a.1.Height])::((1093,.box 30 [.junk,.junk])::[(1091,.box 30 [LS 1 (E1) ([]:List (List Int)),I64 0]),(1092,.box 30 [LS 1 (E1) c.1,I64 c.2])]))] Jg (by kernel_rfl) rfl rfl ?_
    refine Gc (u:=.agg [LS 1 (E1) c.1,I64 c.2]) O O ⟨Ga (Jc Hg O O O O) O,Ga (Jc Hg O O O O) O,ø⟩ (Gc (u:=E3 l) O O ⟨Ga (G3 O O) O,Ga (G3 O O) O,ø⟩ (Gc (u:=E7 d) O O ⟨Ga (G3 O O) O,Ga (G3 O O) O,ø⟩ (Gc (u:=.dptr [I64 g.From,I64 g.To]) O O ⟨Ga (Gz (f:=G7.av) (xs:=l) (y:=g) O O O Rk k O) O,Ga (Gz (f:=G7.av) (xs:=l) (y:=g) O O O Rk k O) O,ø⟩ (Gc (u:=.agg [I64 g.From,I64 g.To]) O O ⟨Ga (Gt G10 O O O) O,Ga (Gt G10 O O O) O,ø⟩ (Gc (u:=.tup [.agg [LS 1 (E1) a.1.Stacks,I64 a.1.Height],I64 a.2]) O O ⟨Ga (Gu O (Ys F (Gs.mk c.1 c.2) g a m) H05 ⟨O,O,O,O,ø⟩) O,Ga (Gu O (Ys F (Gs.mk c.1 c.2) g a m) H05 ⟨O,O,O,O,ø⟩) O,ø⟩ (Gc (u:=.tup [.agg [LS 1 (E1) a.1.Stacks,I64 a.1.Height],I64 a.2]) O O ⟨Ga (G3 O O) O,Ga (G3 O O) O,ø⟩ (Gc (u:=.agg [LS 1 (E1) a.1.Stacks,I64 a.1.Height]) O O ⟨Ga (Gw O O O) O,Ga (Gw O O O) O,ø⟩ (Gc (u:=I64 a.2) O O ⟨Ga (Gw O O O) O,Ga (Gw O O O) O,Ga (Gw O O O) O,ø⟩ (D_w (u:=.ptr 1093 0) O O O O (Ga (Ji 1093 2 Yt O O) O) (H2a (u:=.junk) O O O O (Ga (Hu (u:=.agg [LS 1 (E1) a.1.Stacks,I64 a.1.Height]) (ds:=[LS 1 (E1) a.1.Stacks,I64 a.1.Height]) Qc O O O O O O O O) O) (Gc (u:=I64 a.2) O O ⟨Ga (G5 O O) O,ø⟩ (Rx ?_))))))))))))
    refine a2 (fzQ [(1,E3 l),(4,.ptr 1091 0),(7,.ptr 1092 0),(8,E7 d),(9,.dptr [LS 1 (E1) a.1.Stacks,I64 a.1.Height]),(10,I64 a.2)] [(1091,.box 30 [LS 1 (E1) ([]:List (List Int)),I64 0]),(1092,.box 30 [LS 1 (E1) c.1,I64 c.2])] 1093 rfl rfl rfl ⟨⟨_,rfl,.boxEq rfl rfl⟩,⟨_,rfl,.boxEq rfl rfl⟩,ø⟩ rfl (Js fun a3=>Jr fun a4=>(JLm (I64 a.2) O (JLh (BL (decide (a.2≠0))) (G1c O O O) O (G6 (a4 (JCc O h (fun h hb=>?_) (fun h hb=>?_))))))))
    ·
     refine Jr fun a5=>(JLh (.agg [LS 1 (E1) ([]:List (List Int)),I64 0]) (Jf (cs:=[LS 1 (E1) ([]:List (List Int)),I64 0]) [(0,1),(1,1)] [LS 1 (E1) ([]:List (List Int)),I64 0] [.slice none 0 0,E0] Za Z2 ⟨.inr ⟨_,O,O⟩,.inl O,ø⟩ O O) O (JLm (E7 d) O (JLm (I64 a.2) O (Jb (u:=.junk) (Hu (u:=.agg [LS 1 (E1) ([]:List (List Int)),I64 0]) (ds:=[LS 1 (E1) ([]:List (List Int)),I64 0]) Qc O O O O O O O O) (JLm (E7 d) O (JLm (I64 a.2) O (G6 (a5 (H7 [(4,.ptr 1091 0),(5,E7 d),(6,I64 a.2)] [(1091,.box 30 [LS 1 (E1) ([]:List (List Int)),I64 0])] 1092 rfl rfl rfl ⟨⟨_,rfl,.boxEq rfl rfl⟩,ø⟩ rfl (by exact⟨.conv (.same rfl),.conv (.same rfl),.conv (.same rfl),ø⟩) (H0 ?_))))))))))
     exact⟨[.agg [LS 1 (E1) ([]:List (List Int)),I64 0],E7 d,I64 a.2],[],ø,O,⟨⟨_,⟨_,_,_,_,O,O,O,.inl ⟨Hg,O⟩⟩,.conv (.same O)⟩,⟨_,O,.conv (.same O)⟩,⟨_,O,.conv (.same O)⟩,ø⟩,O,congrArg (fun r:Gs×Int×Int=>(.tup (Eg r):AV)) (Ez h)⟩
    ·
     refine Gk (a3 (G1 (JLh (.agg [LS 1 (E1) a.1.Stacks,I64 a.1.Height]) (Gt Hg O O O) O (Jb (u:=.junk) (Hu (u:=.agg [LS 1 (E1) a.1.Stacks,I64 a.1.Height]) (ds:=[LS 1 (E1) a.1.Stacks,I64 a.1.Height]) Qc O O O O O O O O) (G6 (a1 (G1 (JLm (E7 d) O (JLh (I64 ((d+1:Nat):Int)) (Hz (Hi j z) O O O) O (JLm (I64 ((d+1:Nat):Int)) O (G6 (b7 _ _ (d+1) (a.1.Stacks,a.1.Height) (app1 a0 h) (by omega) ⟨(.sm O O),⟨fbQ O (.sm O O),fbQ O (.sm O O),ø⟩,rfl⟩))))))))))))
   ·
    have h:=app1 o (Hx i (Hc hb))
    refine Hd (q (Jr fun a6=>(JLh (.agg [LS 1 (E1) c.1,I64 c.2]) (Jc Hg O O O O) O (Jb (u:=.junk) (Hu (u:=.agg [LS 1 (E1) c.1,I64 c.2]) (ds:=[LS 1 (E1) c.1,I64 c.2]) Qc O O O O O O O O) (JLm (I64 0) O (JLm (I64 0) O (G6 (a6 (H7 [(4,.ptr 1091 0),(5,I64 0),(6,I64 0)] [(1091,.box 30 [LS 1 (E1) c.1,I64 c.2])] 1092 rfl rfl rfl ⟨⟨_,rfl,.boxEq rfl rfl⟩,ø⟩ rfl (by exact⟨.conv (.same rfl),.conv (.same rfl),.conv (.same rfl),ø⟩) (H0 ?_))))))))))
    exact⟨[.agg [LS 1 (E1) c.1,I64 c.2],I64 0,I64 0],[],ø,O,⟨⟨_,⟨_,_,_,_,O,O,O,.inl ⟨Hg,O⟩⟩,.conv (.same O)⟩,⟨_,O,.conv (.same O)⟩,⟨_,O,.conv (.same O)⟩,ø⟩,O,congrArg (fun r:Gs×Int×Int=>(.tup (Eg r):AV)) (Ez h)⟩

def J1 (F:Nat) (y:Gs) (order:List Int):Option (List Int):=
 each (fun i p (f:(List Int)) j=>
  each (fun c e (a:(List Int)) g=>
   jp (fun d=>
    need (decide ((e:Int)≤9223372036854775807)) <|
    upto (fun k (b:Bool) h=>
     bnd (bif (!b) then Qx i (k:Int) some else some default) fun l=>
     bnd (bif (!b) then Jd order l else some default) fun m=>
     bnd (bif (!b) then Jd order c else some default) fun n=>
     h (b||(decide (m < n))))
    (fun(b:Bool)=>
     bif b then
     (need (decide ((a.length+[c].length)*8≤140737488355328∧a.length+[c].length≤maxLen)) <|
      d (a++[c]))
     else
     (d a)) (e:Int).toNat 0 false) fun(o:(List Int))=>
   g o)
  (fun(a:(List Int))=>
   j a) i 0 f)
 (fun(f:(List Int))=>
  some f) y.Stacks 0 []
theorem Yr (F:Nat) (y:Gs) (order:List Int) (r:(List Int)) (h:J1 F y order=some r):Pure E8 24 [.agg [LS 1 (E1) y.Stacks,I64 y.Height],E1 order] (·=E1 r):=by
 unfold J1 at h
 refine Hj [.tmp 4] Tryz.func24 O O (Jr fun c7=>(JLh (.ptr 1050 0) (Qw (cs:=[LS 1 (E1) y.Stacks,I64 y.Height]) 1050 O O O O O) O (JLh (E1 ([]:List Int)) (Jo 1 O O) O (G6 (c7 (H7 [(1,E1 order),(2,.dptr [LS 1 (E1) y.Stacks,I64 y.Height])] [] 1050 rfl rfl rfl ø rfl (by exact⟨.conv (.same rfl),.ptr,ø⟩) (Jr fun c8=>(JLh (OW 1052 1 I64 ([]:List Int)) (Ga2 1052 3 1 O O O) O (G6 (c8 (Js fun c9=>Jr fun d0=>(JLm (I64 0) O (G6 (d0 (Gf ?_)))))))))))))))
 obtain⟨b5,d1,d2,a1,h⟩:=J7 h
 refine Ha (fun d (k:(List Int))=>each b5 d1 (List.drop d y.Stacks) d k=some r) (fun d k=>[(1,E1 order),(2,.dptr [LS 1 (E1) y.Stacks,I64 y.Height]),(5,OW 1052 1 I64 k),(6,E7 d)]) (fun d k=>[(1052,.spare 3 1 k.length k.length)]) (fun d=>y.Stacks.length - d) 0 [] h ⟨(.sm O O),⟨⟨_,rfl,.same⟩,ø⟩,rfl⟩ ?_
 clear h
 intro d k z K5 e5
 refine Js fun d3=>Jr fun d4=>(JLm (E7 d) O (JLh (.dptr [LS 1 (E1) y.Stacks,I64 y.Height]) (H1 H3 O O O) O (JLh (LS 1 (E1) y.Stacks) (Gr Gv O O O) O (JLl Ge O O O fun a2=>(JLh (BL (decide ((d:Int) < (y.Stacks.length:Int)))) (J2 O O O) O (G6 (d4 (Gi O (fun hb=>?_) (fun hb=>?_)))))))))
 ·
  have a0:=Jp hb
  obtain⟨i,e7,o,d5,h⟩:=Hw z a0
  replace h:=Yw d2 h
  refine Gk (d3 (Js fun d6=>Gf (Jr fun d7=>(JLm (I64 0) O (G6 (d7 (Gf ?_)))))))
  obtain⟨d8,a3,a4,v,h⟩:=J7 h
  refine Ha (fun a (b:(List Int))=>each d8 a3 (List.drop a i) a b=some r) (fun a b=>[(1,E1 order),(2,.dptr [LS 1 (E1) y.Stacks,I64 y.Height]),(5,OW 1052 1 I64 b),(6,E7 d),(7,E7 a)]) (fun a b=>[(1052,.spare 3 1 b.length b.length)]) (fun a=>i.length - a) 0 k h ⟨(.sm O O),⟨⟨_,rfl,.same⟩,ø⟩,rfl⟩ ?_
  clear h
  intro a b p e8 d9
  refine Js fun a5=>Jr fun a6=>(JLm (E7 a) O (JLh (.dptr [LS 1 (E1) y.Stacks,I64 y.Height]) (H1 H3 O O O) O (JLh (LS 1 (E1) y.Stacks) (Gr Gv O O O) O (JLm (E7 d) O (JLh (.dptr [E1 i]) (Gz (f:=(E1)) (xs:=y.Stacks) (y:=i) O O O Ge o O) O (JLh (E1 i) (Gr H5 O O O) O (JLl G8 O O O fun a7=>(JLh (BL (decide ((a:Int) < (i.length:Int)))) (J2 O O O) O (G6 (a6 (Gi O (fun hb=>?_) (fun hb=>?_))))))))))))
  ·
   have q:=Jp hb
   obtain⟨e,e4,s,a8,h⟩:=Hw p q
   replace h:=Yw a4 h
   refine Gk (a5 ?_)
   obtain⟨a9,w,h⟩:=G23 h
   refine Zr (fun j:(List Int)=>a9 j=some r) (fun j=>[(1,E1 order),(2,.dptr [LS 1 (E1) y.Stacks,I64 y.Height]),(5,OW 1052 1 I64 j),(6,E7 d),(7,E7 a)]) (fun j=>[(1052,.spare 3 1 j.length j.length)]) (fun Kj13 ej13=>?_) ?_
   ·
    refine Gf (Jr fun b0=>(JLm (BL false) O (G6 (b0 (Js fun b1=>Jr fun b2=>(JLm (I64 0) O (G6 (b2 (Gf ?_)))))))))
    obtain⟨b3,h⟩:=Ho h
    obtain⟨e0,b4,b6,x,h⟩:=Ga9 h
    refine Ha (fun c (g:Bool)=>upto e0 b4 ((a:Int).toNat - c) c g=some r) (fun c g=>[(1,E1 order),(2,.dptr [LS 1 (E1) y.Stacks,I64 y.Height]),(5,OW 1052 1 I64 b),(6,E7 d),(7,E7 a),(8,BL g),(9,E7 c)]) (fun c g=>[(1052,.spare 3 1 b.length b.length)]) (fun c=>(a:Int).toNat - c) 0 false h ⟨(.sm O O),⟨⟨_,rfl,.same⟩,ø⟩,rfl⟩ ?_
    clear h
    intro c g t e9 e1
    refine Js fun b7=>Jr fun b8=>(JLm (E7 c) O (JLm (E7 a) O (JLh (BL (decide ((c:Int) < (a:Int)))) (J2 O O O) O (G6 (b8 (Gi O (fun hb=>?_) (fun hb=>?_)))))))
    ·
     have u:=G73 hb
     obtain⟨e6,b9,h⟩:=G6e t u
     replace h:=J9e b6 h
     refine Gk (b7 (Js fun c0=>Gf (R0 (l':=[(1,E1 order),(2,.dptr [LS 1 (E1) y.Stacks,I64 y.Height]),(5,OW 1052 1 I64 b),(6,E7 d),(7,E7 a),(8,BL g),(9,E7 c)]) (L':=[(1052,.spare 3 1 b.length b.length)]) ⟨(.sm O O),⟨⟨_,rfl,.same⟩,ø⟩,rfl⟩ ?_)))
     obtain⟨n,c1,h⟩:=Gd h
     obtain⟨l,c2,h⟩:=Gd h
     obtain⟨m,c3,h⟩:=Gd h
     refine JC_d0 Jg (by kernel_rfl) (Dq (BL g) (G3 O O) O (Dq (BL g) (G3 O O) O (Do (E1 order) [] O .scf ø (fun hc=>G3 O O) O (Do (.dptr [LS 1 (E1) y.Stacks,I64 y.Height]) [] O .scf ø (fun hc=>H1 H3 O O O) O (Do (LS 1 (E1) y.Stacks) [35] O .scf ⟨Ua,ø⟩ (fun hc=>Gr Gv O O O) O (Do (E7 d) [] O .scf ø (fun hc=>G3 O O) O (Do (.dptr [E1 i]) [36,37] O .scf ⟨Ua,Ua,ø⟩ (fun hc=>Gz (f:=(E1)) (xs:=y.Stacks) (y:=i) O O O Ge o O) O (Do (E1 i) [38] O .scf ⟨Ua,ø⟩ (fun hc=>Gr H5 O O O) O (Do (E7 c) [] O .scf ø (fun hc=>G3 O O) O (Do (.dptr [I64 n]) [39,40] O .scf ⟨Ua,Ua,ø⟩ (fun hc=>(match G66 (H6 hc c1) with | ⟨_,hm_,hy_⟩=>Gz (f:=I64) (xs:=i) (y:=n) O O O G8 hy_ hm_)) O (Do (I64 n) [41] O .scf ⟨Ua,ø⟩ (fun hc=>Gr Gj O O O) O (Do (I64 l) [34,42] O .scf ⟨Ua,Ua,ø⟩ (fun hc=>Gu (args:=[E1 order,I64 n]) O (Jk order n l (H6 hc c2)) G0a ⟨O,O,O,O,ø⟩) O (Do (E1 order) [] O .scf ø (fun hc=>G3 O O) O ?_)))))))))))))
     refine Do (.dptr [LS 1 (E1) y.Stacks,I64 y.Height]) [] O .scf ø (fun hc=>H1 H3 O O O) O (Do (LS 1 (E1) y.Stacks) [45] O .scf ⟨Ua,ø⟩ (fun hc=>Gr Gv O O O) O (Do (E7 d) [] O .scf ø (fun hc=>G3 O O) O (Do (.dptr [E1 i]) [46,47] O .scf ⟨Ua,Ua,ø⟩ (fun hc=>Gz (f:=(E1)) (xs:=y.Stacks) (y:=i) O O O Ge o O) O (Do (E1 i) [48] O .scf ⟨Ua,ø⟩ (fun hc=>Gr H5 O O O) O (Do (E7 a) [] O .scf ø (fun hc=>G3 O O) O (Do (.dptr [I64 e]) [49,50] O .scf ⟨Ua,Ua,ø⟩ (fun hc=>Gz (f:=I64) (xs:=i) (y:=e) O O O G8 s O) O (Do (I64 e) [51] O .scf ⟨Ua,ø⟩ (fun hc=>Gr Gj O O O) O (Do (I64 m) [44,52] O .scf ⟨Ua,Ua,ø⟩ (fun hc=>Gu (args:=[E1 order,I64 e]) O (Jk order e m (H6 hc c3)) G0a ⟨O,O,O,O,ø⟩) O (Do (BL (decide (l < m))) [43,53] O .scf ⟨Ua,Ua,ø⟩ (fun hc=>J2 O O O) O (Dq (BL (g||(decide (l < m)))) (G17 O O O O) O (Dq (BL (g||(decide (l < m)))) (G5 O O) O (Dnil ?_))))))))))))
     refine c0 (G1 (JLm (E7 c) O (JLh (I64 ((c+1:Nat):Int)) (Hz (Hi u (G45 b3)) O O O) O (JLm (I64 ((c+1:Nat):Int)) O (G6 (e1 _ _ (c+1) (g||(decide (l < m))) (app1 b9 h) (by omega) ⟨(.sm O O),⟨⟨_,rfl,.same⟩,ø⟩,rfl⟩))))))
    ·
     have h:=app1 x (G6f t (Zc hb))
     refine Hd (b1 (Jr fun c4=>(JLm (BL g) O (G6 (c4 (JCc O h (fun h hb=>?_) (fun h hb=>?_)))))))
     ·
      refine G1 (JLm (OW 1052 1 I64 b) O (JLh (.dptr [LS 1 (E1) y.Stacks,I64 y.Height]) (H1 H3 O O O) O (JLh (LS 1 (E1) y.Stacks) (Gr Gv O O O) O (JLm (E7 d) O (JLh (.dptr [E1 i]) (Gz (f:=(E1)) (xs:=y.Stacks) (y:=i) O O O Ge o O) O (JLh (E1 i) (Gr H5 O O O) O (JLm (E7 a) O (JLh (.dptr [I64 e]) (Gz (f:=I64) (xs:=i) (y:=e) O O O G8 s O) O (JLh (I64 e) (Gr Gj O O O) O (JLh (E1 [e]) (H4 (xs:=[I64 e]) O ⟨O,O,ø⟩ G8 J6 O O O O) O ?_))))))))))
      obtain⟨c5,h⟩:=Ho h
      refine JLh (OW 1052 1 I64 (b++[e])) (R3 (f:=I64) (xs:=b) (ys:=[e]) O O O O G8 Ro c5 (fun _=>O) (.inl O) O) O (JLm (OW 1052 1 I64 (b++[e])) O (G6 (ej13 _ _ (b++[e]) h ⟨(.sm O O),⟨⟨_,rfl,.same⟩,ø⟩,rfl⟩)))
     ·
      refine Gk (ej13 _ _ b h ⟨(.sm O O),⟨⟨_,rfl,.same⟩,ø⟩,rfl⟩)
   ·intro j h
    replace h:=app1 w h
    refine G1 (JLm (E7 a) O (JLh (I64 ((a+1:Nat):Int)) (Hz (Hi q a7) O O O) O (JLm (I64 ((a+1:Nat):Int)) O (G6 (d9 _ _ (a+1) j (app1 a8 h) (by omega) ⟨(.sm O O),⟨⟨_,rfl,.same⟩,ø⟩,rfl⟩)))))
  ·
   have h:=app1 v (Hx p (Hc hb))
   refine Hd (d6 (G1 (JLm (E7 d) O (JLh (I64 ((d+1:Nat):Int)) (Hz (Hi a0 a2) O O O) O (JLm (I64 ((d+1:Nat):Int)) O (G6 (e5 _ _ (d+1) b (app1 d5 h) (by omega) ⟨(.sm O O),⟨⟨_,rfl,.same⟩,ø⟩,rfl⟩)))))))
 ·
  have h:=app1 a1 (Hx z (Hc hb))
  refine Hd (c9 (Jr fun c6=>(JLm (OW 1052 1 I64 k) O (JLm (OW 1052 1 I64 k) O (G6 (c6 (H0 (fin1l (fun r:(List Int)=>(E1 r:AV)) h))))))))

def Y8 (F:Nat) (y:Gs) (order:List Int) (l:List G7):Option (Bool×Int):=
 bnd (Q9 F y order) fun b=>
 bif (!b) then
 (some (false,2))
 else
 (bnd (Ym F y l) fun a=>
  bnd (bif decide (a.2.2=0) then J1 F a.1 order else some default) fun c=>
  some (((decide (a.2.2=0))&&(decide ((c.length:Int)=0))),0))
theorem Geb (F:Nat) (y:Gs) (order:List Int) (l:List G7) (r:Bool×Int) (h:Y8 F y order l=some r):Pure E8 28 [.agg [LS 1 (E1) y.Stacks,I64 y.Height],E1 order,E3 l] (·=.tup [BL r.1,I64 r.2]):=by
 unfold Y8 at h
 refine Hj [.tmp 6,.tmp 7] Tryz.func28 O O (Jr fun e=>(JLh (.ptr 1063 0) (Qw (cs:=[LS 1 (E1) y.Stacks,I64 y.Height]) 1063 O O O O O) O (JLm (BL false) O (JLm (I64 0) O (G6 (e (H7 [(1,E1 order),(2,E3 l),(3,.dptr [LS 1 (E1) y.Stacks,I64 y.Height])] [] 1063 rfl rfl rfl ø rfl (by exact⟨.conv (.same rfl),.conv (.same rfl),.ptr,ø⟩) (Js fun g=>Jr fun i=>(JLh (.agg [LS 1 (E1) y.Stacks,I64 y.Height]) (Gt Hg O O O) O (JLm (E1 order) O ?_))))))))))
 obtain⟨d,j,h⟩:=Gd h
 refine JLh (BL d) (Gu O (Yq F y order d j) H06 ⟨O,O,O,O,ø⟩) O (JLh (BL (!d)) (Y4 (b:=d) O O) O (G6 (i (JCc O h (fun h hb=>?_) (fun h hb=>?_)))))
 ·
  refine Jr fun k=>(JLm (BL false) O (JLm (I64 2) O (G6 (k (H0 (⟨[BL false,I64 2],[],ø,O,⟨⟨_,O,.conv (.same O)⟩,⟨_,O,.conv (.same O)⟩,ø⟩,O,congrArg (fun r:Bool×Int=>(.tup [BL r.1,I64 r.2]:AV)) (Ez h)⟩))))))
 ·
  refine Gk (g (Jr fun m=>(JLh (.agg [LS 1 (E1) y.Stacks,I64 y.Height]) (Gt Hg O O O) O (JLm (E3 l) O ?_))))
  obtain⟨a,n,h⟩:=Gd h
  refine JLh (.tup [.agg [LS 1 (E1) a.1.Stacks,I64 a.1.Height],I64 a.2.1,I64 a.2.2]) (Gu O (Gfa F y l a n) Q0b ⟨O,O,O,O,ø⟩) O (JLm (.tup [.agg [LS 1 (E1) a.1.Stacks,I64 a.1.Height],I64 a.2.1,I64 a.2.2]) O (JLh (.agg [LS 1 (E1) a.1.Stacks,I64 a.1.Height]) (Gw O O O) O (JLh (I64 a.2.1) (Gw O O O) O (JLh (I64 a.2.2) (Gw O O O) O (JLh (.ptr 1064 0) (Ji 1064 2 Yt O O) O (Jb (u:=.junk) (Hu (u:=.agg [LS 1 (E1) a.1.Stacks,I64 a.1.Height]) (ds:=[LS 1 (E1) a.1.Stacks,I64 a.1.Height]) Qc O O O O O O O O) (JLm (I64 a.2.1) O (JLm (I64 a.2.2) O (G6 (m ?_))))))))))
  refine H7 [(1,E1 order),(8,.dptr [LS 1 (E1) a.1.Stacks,I64 a.1.Height]),(10,I64 a.2.2)] [] 1064 rfl rfl rfl ø rfl (by exact⟨.conv (.same rfl),.ptr,.conv (.same rfl),ø⟩) (Jr fun o=>(JLm (I64 a.2.2) O (JLh (BL (decide (a.2.2=0))) (Yx O O O) O (JLm (BL (decide (a.2.2=0))) O (JLo (.agg [LS 1 (E1) a.1.Stacks,I64 a.1.Height]) [] O .sct ø (fun hc=>Gt Hg O O O) O (JLo (E1 order) [] O .sct ø (fun hc=>G3 O O) O ?_))))))
  obtain⟨c,p,h⟩:=Gd h
  refine JLo (E1 c) [25,26] O .sct ⟨Ua,Ua,ø⟩ (fun hc=>Gu (args:=[.agg [LS 1 (E1) a.1.Stacks,I64 a.1.Height],E1 order]) O (Yr F a.1 order c (H6 hc p)) Gb8 ⟨O,O,O,O,ø⟩) O (JLo (E7 c.length) [27] O .sct ⟨Ua,ø⟩ (fun hc=>Re (f:=I64) (xs:=c) G8 O O) O (JLo (BL (decide ((c.length:Int)=0))) [28] O .sct ⟨Ua,ø⟩ (fun hc=>Yx O O O) O (JLh (BL ((decide (a.2.2=0))&&(decide ((c.length:Int)=0)))) (Yy O O O O) O (JLm (BL ((decide (a.2.2=0))&&(decide ((c.length:Int)=0)))) O (JLm (I64 0) O (G6 (o (H0 (⟨[BL ((decide (a.2.2=0))&&(decide ((c.length:Int)=0))),I64 0],[],ø,O,⟨⟨_,O,.conv (.same O)⟩,⟨_,O,.conv (.same O)⟩,ø⟩,O,congrArg (fun r:Bool×Int=>(.tup [BL r.1,I64 r.2]:AV)) (Ez h)⟩)))))))))

def Yk (F:Nat) (a:Gs) (b:Gs):Option Bool:=
 each (fun d e (m:Unit) f=>
  Qx b.Stacks (e:Int) fun g=>
  bif decide ((d.length:Int)≠(g.length:Int)) then
  (some false)
  else
  (each (fun h i (j:Unit) c=>
    Qx b.Stacks (e:Int) fun k=>
    Qx k (i:Int) fun l=>
    bif decide (h≠l) then
    (some false)
    else
    (c ()))
   (fun(j:Unit)=>
    f ()) d 0 ()))
 (fun(m:Unit)=>
  some true) a.Stacks 0 ()
theorem Gf8 (F:Nat) (a:Gs) (b:Gs) (r:Bool) (h:Yk F a b=some r):Pure E8 70 [.agg [LS 1 (E1) a.Stacks,I64 a.Height],.agg [LS 1 (E1) b.Stacks,I64 b.Height]] (·=BL r):=by
 unfold Yk at h
 refine Hj [.tmp 4] Tryz.func70 O O (Jr fun b7=>(JLh (.ptr 1100 0) (Qw (cs:=[LS 1 (E1) a.Stacks,I64 a.Height]) 1100 O O O O O) O (JLh (.ptr 1101 0) (Qw (cs:=[LS 1 (E1) b.Stacks,I64 b.Height]) 1101 O O O O O) O (JLm (BL false) O (G6 (b7 (H7 [(2,.dptr [LS 1 (E1) a.Stacks,I64 a.Height]),(3,.ptr 1101 0)] [(1101,.box 30 [LS 1 (E1) b.Stacks,I64 b.Height])] 1100 rfl rfl rfl ⟨⟨_,rfl,.boxEq rfl rfl⟩,ø⟩ rfl (by exact⟨.ptr,.conv (.same rfl),ø⟩) (H7 [(2,.dptr [LS 1 (E1) a.Stacks,I64 a.Height]),(3,.dptr [LS 1 (E1) b.Stacks,I64 b.Height])] [] 1101 rfl rfl rfl ø rfl (by exact⟨.conv (.same rfl),.ptr,ø⟩) (Js fun b8=>Jr fun b9=>(JLm (I64 0) O (G6 (b9 (Gf ?_)))))))))))))
 obtain⟨b4,c0,c1,u,h⟩:=J7 h
 refine Ha (fun d (p:Unit)=>each b4 c0 (List.drop d a.Stacks) d p=some r) (fun d p=>[(2,.dptr [LS 1 (E1) a.Stacks,I64 a.Height]),(3,.dptr [LS 1 (E1) b.Stacks,I64 b.Height]),(5,E7 d)]) (fun d p=>[]) (fun d=>a.Stacks.length - d) 0 () h ⟨(.sm O O),ø,O⟩ ?_
 clear h
 intro d p s K4 e4
 refine Js fun c2=>Jr fun c3=>(JLm (E7 d) O (JLh (.dptr [LS 1 (E1) a.Stacks,I64 a.Height]) (H1 H3 O O O) O (JLh (LS 1 (E1) a.Stacks) (Gr Gv O O O) O (JLl Ge O O O fun v=>(JLh (BL (decide ((d:Int) < (a.Stacks.length:Int)))) (J2 O O O) O (G6 (c3 (Gi O (fun hb=>?_) (fun hb=>?_)))))))))
 ·
  have t:=Jp hb
  obtain⟨e,d3,m,c4,h⟩:=Hw s t
  replace h:=Yw c1 h
  refine Gk (c2 (Js fun c5=>Gf (Js fun c6=>Js fun c7=>?_)))
  obtain⟨d4,g,w,x,h⟩:=Rf h
  refine JC_d0 Jg (by kernel_rfl) (Dq (.dptr [LS 1 (E1) a.Stacks,I64 a.Height]) (H1 H3 O O O) O (Dq (LS 1 (E1) a.Stacks) (Gr Gv O O O) O (Dq (E7 d) (G3 O O) O (Dq (.dptr [E1 e]) (Gz (f:=(E1)) (xs:=a.Stacks) (y:=e) O O O Ge m O) O (Dq (E1 e) (Gr H5 O O O) O (Dq (E7 e.length) (Re (f:=I64) (xs:=e) G8 O O) O (Dq (.dptr [LS 1 (E1) b.Stacks,I64 b.Height]) (H1 H3 O O O) O (Dq (LS 1 (E1) b.Stacks) (Gr Gv O O O) O (Dq (E7 d) (G3 O O) O (Dq (.dptr [E1 g]) (Gz (f:=(E1)) (xs:=b.Stacks) (y:=g) O O O Ge x w) O (Dq (E1 g) (Gr H5 O O O) O (Dq (E7 g.length) (Re (f:=I64) (xs:=g) G8 O O) O (Dq (BL (decide ((e.length:Int)≠(g.length:Int)))) (G1c O O O) O (Dnil ?_))))))))))))))
  refine c7 (JCc O h (fun h hb=>?_) (fun h hb=>?_))
  ·
   refine Jr fun z=>(JLm (BL false) O (G6 (z (H0 (fin1 BL h)))))
  ·
   refine Gk (c6 (Jr fun a0=>(JLm (I64 0) O (G6 (a0 (Gf ?_))))))
   obtain⟨c8,a1,a2,q,h⟩:=J7 h
   refine Ha (fun c (i:Unit)=>each c8 a1 (List.drop c e) c i=some r) (fun c i=>[(2,.dptr [LS 1 (E1) a.Stacks,I64 a.Height]),(3,.dptr [LS 1 (E1) b.Stacks,I64 b.Height]),(5,E7 d),(6,E7 c)]) (fun c i=>[]) (fun c=>e.length - c) 0 () h ⟨(.sm O O),ø,rfl⟩ ?_
   clear h
   intro c i n d5 c9
   refine Js fun a3=>Jr fun a4=>(JLm (E7 c) O (JLh (.dptr [LS 1 (E1) a.Stacks,I64 a.Height]) (H1 H3 O O O) O (JLh (LS 1 (E1) a.Stacks) (Gr Gv O O O) O (JLm (E7 d) O (JLh (.dptr [E1 e]) (Gz (f:=(E1)) (xs:=a.Stacks) (y:=e) O O O Ge m O) O (JLh (E1 e) (Gr H5 O O O) O (JLl G8 O O O fun a5=>(JLh (BL (decide ((c:Int) < (e.length:Int)))) (J2 O O O) O (G6 (a4 (Gi O (fun hb=>?_) (fun hb=>?_))))))))))))
   ·
    have o:=Jp hb
    obtain⟨j,d2,a6,a7,h⟩:=Hw n o
    replace h:=Yw a2 h
    refine Gk (a3 (Js fun a8=>Gf (Js fun a9=>?_)))
    obtain⟨d6,k,b0,b1,h⟩:=Rf h
    obtain⟨d7,l,b2,b3,h⟩:=Rf h
    refine JC_d0 Jg (by kernel_rfl) (Dq (.dptr [LS 1 (E1) a.Stacks,I64 a.Height]) (H1 H3 O O O) O (Dq (LS 1 (E1) a.Stacks) (Gr Gv O O O) O (Dq (E7 d) (G3 O O) O (Dq (.dptr [E1 e]) (Gz (f:=(E1)) (xs:=a.Stacks) (y:=e) O O O Ge m O) O (Dq (E1 e) (Gr H5 O O O) O (Dq (E7 c) (G3 O O) O (Dq (.dptr [I64 j]) (Gz (f:=I64) (xs:=e) (y:=j) O O O G8 a6 O) O (Dq (I64 j) (Gr Gj O O O) O (Dq (.dptr [LS 1 (E1) b.Stacks,I64 b.Height]) (H1 H3 O O O) O (Dq (LS 1 (E1) b.Stacks) (Gr Gv O O O) O (Dq (E7 d) (G3 O O) O (Dq (.dptr [E1 k]) (Gz (f:=(E1)) (xs:=b.Stacks) (y:=k) O O O Ge b1 b0) O (Dq (E1 k) (Gr H5 O O O) O ?_)))))))))))))
    refine Dq (E7 c) (G3 O O) O (Dq (.dptr [I64 l]) (Gz (f:=I64) (xs:=k) (y:=l) O O O G8 b3 b2) O (Dq (I64 l) (Gr Gj O O O) O (Dq (BL (decide (j≠l))) (G1c O O O) O (Dnil (a9 (JCc O h (fun h hb=>?_) (fun h hb=>?_)))))))
    ·
     refine Jr fun b5=>(JLm (BL false) O (G6 (b5 (H0 (fin1 BL h)))))
    ·
     refine Gk (a8 (G1 (JLm (E7 c) O (JLh (I64 ((c+1:Nat):Int)) (Hz (Hi o a5) O O O) O (JLm (I64 ((c+1:Nat):Int)) O (G6 (c9 _ _ (c+1) () (app1 a7 h) (by omega) ⟨(.sm O O),ø,rfl⟩)))))))
   ·
    have h:=app1 q (Hx n (Hc hb))
    refine Hd (c5 (G1 (JLm (E7 d) O (JLh (I64 ((d+1:Nat):Int)) (Hz (Hi t v) O O O) O (JLm (I64 ((d+1:Nat):Int)) O (G6 (e4 _ _ (d+1) () (app1 c4 h) (by omega) ⟨(.sm O O),ø,rfl⟩)))))))
 ·
  have h:=app1 u (Hx s (Hc hb))
  refine Hd (b8 (Jr fun b6=>(JLm (BL true) O (G6 (b6 (H0 (fin1 BL h)))))))

def R9 (F:Nat) (all:List Gb) (at_:Int):Option (List Gb):=
 Qx all at_ fun g=>
 each (fun q f (h:(List Gb)) k=>
  each (fun p d (a:(List Gb)) i=>
   jp (fun e=>
    bnd (Jx F g.y (G7.mk (f:Int) (d:Int))) fun b=>
    loop (fun j (c:Bool×Int)=>
     bif ((decide (c.2 < (a.length:Int)))&&(!c.1)) then
     (Qx a c.2 fun l=>
      bnd (Yk F l.y b.1) fun m=>
      chk (c.2+1) fun n=>
      j (m,n))
     else
     (bif (!c.1) then
      (need (decide ((a.length+[(Gb.mk b.1 at_ (G7.mk (f:Int) (d:Int)))].length)*56≤140737488355328∧a.length+[(Gb.mk b.1 at_ (G7.mk (f:Int) (d:Int)))].length≤maxLen)) <|
       e (a++[(Gb.mk b.1 at_ (G7.mk (f:Int) (d:Int)))]))
      else
      (e a))) F (decide (b.2≠0),0)) fun(o:(List Gb))=>
   i o)
  (fun(a:(List Gb))=>
   k a) g.y.Stacks 0 h)
 (fun(h:(List Gb))=>
  some h) g.y.Stacks 0 all
theorem G6c (F:Nat) (all:List Gb) (all_q:Nat) (at_:Int) (r:(List Gb)) (h:R9 F all at_=some r):Jz E8 47 [.vec 1048 all_q 5 all.length,I64 at_] [(1048,.vec 92 5 all_q (all.map Gb.av))] (fun av L'=>∃ p:Nat,av=.vec 1048 p 5 r.length∧L'=[(1048,.vec 92 5 p (r.map Gb.av))]):=by
 unfold R9 at h
 refine G0c [1048] [.tmp 4] Tryz.func47 O O (H6f O) (Jr fun d3=>(JLh (.vec 1077 (([]:List Gb).length) 5 (([]:List Gb).length)) (H48 1077 92 5 O O O) O (G6 (d3 (Jr fun d4=>(JLm (.vec 1048 all_q 5 all.length) O (JLm (I64 at_) O ?_)))))))
 obtain⟨e,a7,a3,h⟩:=Yc h
 refine JLh (.vptr 1048 all_q at_.toNat 0) (Zf (f:=Gb.av) (xs:=all) (y:=e) O O O O Zg a3 a7) O (JLh (.vptr 1048 all_q at_.toNat 0) (Gc6 Ge3 O O O) O (JLh (.agg [LS 1 (E1) e.y.Stacks,I64 e.y.Height]) (G6a (f:=Gb.av) (xs:=all) (y:=e) Hg O O O a3 O O) O (JLh (.ptr 1078 0) (Ji 1078 2 Yt O O) O (Jb (u:=.junk) (Hu (u:=.agg [LS 1 (E1) e.y.Stacks,I64 e.y.Height]) (ds:=[LS 1 (E1) e.y.Stacks,I64 e.y.Height]) Qc O O O O O O O O) (G6 (d4 ?_))))))
 refine H7 [(0,.vec 1048 all_q 5 all.length),(1,I64 at_),(5,.dptr [LS 1 (E1) e.y.Stacks,I64 e.y.Height])] [(1048,.vec 92 5 all_q (all.map Gb.av)),(1077,.vec 92 5 (([]:List Gb).length) (([]:List Gb).map Gb.av))] 1078 rfl rfl rfl ⟨⟨_,rfl,.vec⟩,⟨_,rfl,.vec⟩,ø⟩ rfl (by exact⟨.conv (.same rfl),.conv (.same rfl),.ptr,ø⟩) (Js fun d5=>Jr fun d6=>(JLm (I64 0) O (G6 (d6 (Gf ?_)))))
 obtain⟨b6,a4,d8,a8,h⟩:=J7 h
 refine Ha (fun g (o:((List Gb))×Nat)=>(fun(j:(List Gb))=>each b6 a4 (List.drop g e.y.Stacks) g j=some r) o.1) (fun g o=>(fun(j:(List Gb)) (gv6:Nat)=>[(0,.vec 1048 gv6 5 j.length),(1,I64 at_),(5,.dptr [LS 1 (E1) e.y.Stacks,I64 e.y.Height]),(6,E7 g)]) o.1 o.2) (fun g o=>(fun(j:(List Gb)) (gv6:Nat)=>[(1048,.vec 92 5 gv6 (j.map Gb.av)),(1077,.vec 92 5 (([]:List Gb).length) (([]:List Gb).map Gb.av))]) o.1 o.2) (fun g=>e.y.Stacks.length - g) 0 (all,all_q) h ⟨(.sm O O),⟨⟨_,rfl,.vec⟩,⟨_,rfl,.vec⟩,ø⟩,rfl⟩ ?_
 clear h
 rintro g ⟨j,gv6⟩ q K6 e6
 replace q:each b6 a4 (List.drop g e.y.Stacks) g j=some r:=q
 change JC _ _ _ _ [(0,.vec 1048 gv6 5 j.length),(1,I64 at_),(5,.dptr [LS 1 (E1) e.y.Stacks,I64 e.y.Height]),(6,E7 g)] [(1048,.vec 92 5 gv6 (j.map Gb.av)),(1077,.vec 92 5 (([]:List Gb).length) (([]:List Gb).map Gb.av))]
 refine Js fun d9=>Jr fun e0=>(JLm (E7 g) O (JLh (.dptr [LS 1 (E1) e.y.Stacks,I64 e.y.Height]) (H1 H3 O O O) O (JLh (LS 1 (E1) e.y.Stacks) (Gr Gv O O O) O (JLl Ge O O O fun f0=>(JLh (BL (decide ((g:Int) < (e.y.Stacks.length:Int)))) (J2 O O O) O (G6 (e0 (Gi O (fun hb=>?_) (fun hb=>?_)))))))))
 ·
  have a5:=Jp hb
  obtain⟨y6,f5,f6,e1,h⟩:=Hw q a5
  replace h:=Yw d8 h
  refine Gk (d9 (Js fun e2=>Gf (Jr fun a9=>(JLm (I64 0) O (G6 (a9 (Gf ?_)))))))
  obtain⟨a6,t,b0,a0,h⟩:=J7 h
  refine Ha (fun c (k:((List Gb))×Nat)=>(fun(d:(List Gb))=>each a6 t (List.drop c e.y.Stacks) c d=some r) k.1) (fun c k=>(fun(d:(List Gb)) (gv11:Nat)=>[(0,.vec 1048 gv11 5 d.length),(1,I64 at_),(5,.dptr [LS 1 (E1) e.y.Stacks,I64 e.y.Height]),(6,E7 g),(7,E7 c)]) k.1 k.2) (fun c k=>(fun(d:(List Gb)) (gv11:Nat)=>[(1048,.vec 92 5 gv11 (d.map Gb.av)),(1077,.vec 92 5 (([]:List Gb).length) (([]:List Gb).map Gb.av))]) k.1 k.2) (fun c=>e.y.Stacks.length - c) 0 (j,gv6) h ⟨(.sm O O),⟨⟨_,rfl,.vec⟩,⟨_,rfl,.vec⟩,ø⟩,rfl⟩ ?_
  clear h
  rintro c ⟨d,gv11⟩ n f7 e3
  replace n:each a6 t (List.drop c e.y.Stacks) c d=some r:=n
  change JC _ _ _ _ [(0,.vec 1048 gv11 5 d.length),(1,I64 at_),(5,.dptr [LS 1 (E1) e.y.Stacks,I64 e.y.Height]),(6,E7 g),(7,E7 c)] [(1048,.vec 92 5 gv11 (d.map Gb.av)),(1077,.vec 92 5 (([]:List Gb).length) (([]:List Gb).map Gb.av))]
  refine Js fun b1=>Jr fun b2=>(JLm (E7 c) O (JLh (.dptr [LS 1 (E1) e.y.Stacks,I64 e.y.Height]) (H1 H3 O O O) O (JLh (LS 1 (E1) e.y.Stacks) (Gr Gv O O O) O (JLl Ge O O O fun v=>(JLh (BL (decide ((c:Int) < (e.y.Stacks.length:Int)))) (J2 O O O) O (G6 (b2 (Gi O (fun hb=>?_) (fun hb=>?_)))))))))
  ·
   have w:=Jp hb
   obtain⟨f8,f1,f2,b3,h⟩:=Hw n w
   replace h:=Yw b0 h
   refine Gk (b1 ?_)
   obtain⟨b4,a1,h⟩:=G23 h
   refine Zr (fun q_:((List Gb))×Nat=>b4 q_.1=some r) (fun q_=>[(0,.vec 1048 q_.2 5 q_.1.length),(1,I64 at_),(5,.dptr [LS 1 (E1) e.y.Stacks,I64 e.y.Height]),(6,E7 g),(7,E7 c)]) (fun q_=>[(1048,.vec 92 5 q_.2 (q_.1.map Gb.av)),(1077,.vec 92 5 (([]:List Gb).length) (([]:List Gb).map Gb.av))]) (fun Kj14 ej14=>?_) ?_
   ·
    refine Gf (Jr fun b5=>(JLm (E7 g) O (JLm (E7 c) O (JLh (.agg [E7 g,E7 c]) (Jf (cs:=[E7 g,E7 c]) [(0,1),(1,1)] [I64 0,I64 0] [E0,E0] H03 Gb5 (zzQ O) O O) O (JLh (.ptr 1079 0) (Ji 1079 2 G97 O O) O (Jb (u:=.junk) (Hu (u:=.agg [E7 g,E7 c]) (ds:=[E7 g,E7 c]) H02 O O O O O O O O) (G6 (b5 ?_))))))))
    refine fzQ [(0,.vec 1048 gv11 5 d.length),(1,I64 at_),(5,.dptr [LS 1 (E1) e.y.Stacks,I64 e.y.Height]),(6,E7 g),(7,E7 c),(8,.dptr [E7 g,E7 c])] [(1048,.vec 92 5 gv11 (d.map Gb.av)),(1077,.vec 92 5 (([]:List Gb).length) (([]:List Gb).map Gb.av))] 1079 rfl rfl rfl ⟨⟨_,rfl,.vec⟩,⟨_,rfl,.vec⟩,ø⟩ rfl (Jr fun b7=>(JLh (.agg [LS 1 (E1) e.y.Stacks,I64 e.y.Height]) (Gt Hg O O O) O (JLh (.agg [E7 g,E7 c]) (Gt G10 O O O) O ?_)))
    obtain⟨a,b8,h⟩:=Gd h
    refine JLh (.tup [.agg [LS 1 (E1) a.1.Stacks,I64 a.1.Height],I64 a.2]) (Gu O (Ys F e.y (G7.mk (g:Int) (c:Int)) a b8) H05 ⟨O,O,O,O,ø⟩) O (JLm (.tup [.agg [LS 1 (E1) a.1.Stacks,I64 a.1.Height],I64 a.2]) O (JLh (.agg [LS 1 (E1) a.1.Stacks,I64 a.1.Height]) (Gw O O O) O (JLh (I64 a.2) (Gw O O O) O (JLh (.ptr 1080 0) (Ji 1080 2 Yt O O) O (Jb (u:=.junk) (Hu (u:=.agg [LS 1 (E1) a.1.Stacks,I64 a.1.Height]) (ds:=[LS 1 (E1) a.1.Stacks,I64 a.1.Height]) Qc O O O O O O O O) (JLm (I64 a.2) O (G6 (b7 ?_))))))))
    refine fzQ [(0,.vec 1048 gv11 5 d.length),(1,I64 at_),(5,.dptr [LS 1 (E1) e.y.Stacks,I64 e.y.Height]),(6,E7 g),(7,E7 c),(8,.dptr [E7 g,E7 c]),(9,.dptr [LS 1 (E1) a.1.Stacks,I64 a.1.Height]),(10,I64 a.2)] [(1048,.vec 92 5 gv11 (d.map Gb.av)),(1077,.vec 92 5 (([]:List Gb).length) (([]:List Gb).map Gb.av))] 1080 rfl rfl rfl ⟨⟨_,rfl,.vec⟩,⟨_,rfl,.vec⟩,ø⟩ rfl (Jr fun b9=>(JLm (I64 a.2) O (JLh (BL (decide (a.2≠0))) (G1c O O O) O (JLm (BL (decide (a.2≠0))) O (G6 (b9 (Js fun c0=>Jr fun c1=>(JLm (I64 0) O (G6 (c1 (Gf ?_)))))))))))
    obtain⟨e4,c2,h⟩:=G0e h
    refine Ha (fun m (i:Bool×Int)=>loop e4 m i=some r) (fun m i=>[(0,.vec 1048 gv11 5 d.length),(1,I64 at_),(5,.dptr [LS 1 (E1) e.y.Stacks,I64 e.y.Height]),(6,E7 g),(7,E7 c),(8,.dptr [E7 g,E7 c]),(9,.dptr [LS 1 (E1) a.1.Stacks,I64 a.1.Height]),(11,BL i.1),(12,I64 i.2)]) (fun m i=>[(1048,.vec 92 5 gv11 (d.map Gb.av)),(1077,.vec 92 5 (([]:List Gb).length) (([]:List Gb).map Gb.av))]) (fun m=>m) F (decide (a.2≠0),0) h ⟨(.sm O O),⟨⟨_,rfl,.vec⟩,⟨_,rfl,.vec⟩,ø⟩,rfl⟩ ?_
    clear h
    intro m i c3 f9 e5
    obtain⟨e7,f3,hm_30,c4,h⟩:=Z7 c3
    replace h:=H65 c2 h
    refine Js fun c5=>Jr fun c6=>(JLm (I64 i.2) O (JLm (.vec 1048 gv11 5 d.length) O (Gfd (f:=Gb.av) (xs:=d) Zg O O O (fun f4=>?_) O O O)))
    refine JLh (BL (decide (i.2 < (d.length:Int)))) (J2 O O O) O (JLm (BL (decide (i.2 < (d.length:Int)))) O (JLo (BL i.1) [] O .sct ø (fun hc=>G3 O O) O (JLo (BL (!i.1)) [48] O .sct ⟨Ua,ø⟩ (fun hc=>Y4 (b:=i.1) O O) O (JLh (BL ((decide (i.2 < (d.length:Int)))&&(!i.1))) (Yy O O O O) O (G6 (c6 (JCc O h (fun h hb=>?_) (fun h hb=>?_))))))))
    ·
     refine Gk (c5 (Js fun c7=>Gf (R0 (l':=[(0,.vec 1048 gv11 5 d.length),(1,I64 at_),(5,.dptr [LS 1 (E1) e.y.Stacks,I64 e.y.Height]),(6,E7 g),(7,E7 c),(8,.dptr [E7 g,E7 c]),(9,.dptr [LS 1 (E1) a.1.Stacks,I64 a.1.Height]),(12,I64 i.2)]) (L':=[(1048,.vec 92 5 gv11 (d.map Gb.av)),(1077,.vec 92 5 (([]:List Gb).length) (([]:List Gb).map Gb.av))]) ⟨(.sm O O),⟨⟨_,rfl,.vec⟩,⟨_,rfl,.vec⟩,ø⟩,rfl⟩ ?_)))
     obtain⟨l,a2,x,h⟩:=Yc h
     obtain⟨s,c8,h⟩:=Gd h
     refine JC_d0 Jg (by kernel_rfl) (Dq (.vec 1048 gv11 5 d.length) (G3 O O) O (Dq (I64 i.2) (G3 O O) O (Dq (.vptr 1048 gv11 i.2.toNat 0) (Zf (f:=Gb.av) (xs:=d) (y:=l) O O O O Zg x a2) O (Dq (.vptr 1048 gv11 i.2.toNat 0) (Gc6 Ge3 O O O) O (Dq (.agg [LS 1 (E1) l.y.Stacks,I64 l.y.Height]) (G6a (f:=Gb.av) (xs:=d) (y:=l) Hg O O O x O O) O (Dq (.agg [LS 1 (E1) a.1.Stacks,I64 a.1.Height]) (Gt Hg O O O) O (Dq (BL s) (Gu (args:=[.agg [LS 1 (E1) l.y.Stacks,I64 l.y.Height],.agg [LS 1 (E1) a.1.Stacks,I64 a.1.Height]]) O (Gf8 F l.y a.1 s c8) Q07 ⟨O,O,O,O,ø⟩) O (Dq (BL s) (G5 O O) O (Dnil (c7 (G1 (JLm (I64 i.2) O ?_))))))))))))
     obtain⟨z,c9,h⟩:=Je h
     refine JLh (I64 z) (Hz c9 O O O) O (JLm (I64 z) O (G6 (e5 _ _ e7 (s,z) (app1 c4 h) (by omega) ⟨(.sm O O),⟨⟨_,rfl,.vec⟩,⟨_,rfl,.vec⟩,ø⟩,rfl⟩)))
    ·
     refine Hd (c0 (Jr fun d0=>(JLm (BL i.1) O (JLh (BL (!i.1)) (Y4 (b:=i.1) O O) O (G6 (d0 (JCc O h (fun h hb=>?_) (fun h hb=>?_))))))))
     ·
      refine G1 ?_
      refine JLm (.vec 1048 gv11 5 d.length) O (JLh (.agg [LS 1 (E1) a.1.Stacks,I64 a.1.Height]) (Gt Hg O O O) O (JLm (I64 at_) O (JLh (.agg [E7 g,E7 c]) (Gt G10 O O O) O (JLh (.agg [LS 1 (E1) a.1.Stacks,I64 a.1.Height,I64 at_,E7 g,E7 c]) (Jf (cs:=[LS 1 (E1) a.1.Stacks,I64 a.1.Height,I64 at_,E7 g,E7 c]) [(0,2),(2,1),(3,2)] [LS 1 (E1) ([]:List (List Int)),I64 0,I64 0,I64 0,I64 0] [.slice none 0 0,E0,E0,E0,E0] H9b J01 ⟨.inr ⟨_,O,O⟩,.inl O,.inl O,.inl O,.inl O,ø⟩ O O) O (JLh (LS 5 Gb.av [(Gb.mk a.1 at_ (G7.mk (g:Int) (c:Int)))]) (H4 (xs:=[.agg [LS 1 (E1) a.1.Stacks,I64 a.1.Height,I64 at_,E7 g,E7 c]]) O ⟨O,O,ø⟩ Zg Hdf O O O O) O ?_)))))
      obtain⟨d1,h⟩:=Ho h
      refine JLh (.vec 1048 (gv11+1) 5 ((d++[(Gb.mk a.1 at_ (G7.mk (g:Int) (c:Int)))]).length)) (G5d (f:=Gb.av) (xs:=d) (ys:=[(Gb.mk a.1 at_ (G7.mk (g:Int) (c:Int)))]) (ver:=gv11) (ver1:=(gv11+1)) rfl rfl rfl rfl Zg Q03 d1 (fun _=>rfl) (.inl rfl) (by simp)) O (JLm (.vec 1048 (gv11+1) 5 ((d++[(Gb.mk a.1 at_ (G7.mk (g:Int) (c:Int)))]).length)) O (G6 (ej14 _ _ ((d++[(Gb.mk a.1 at_ (G7.mk (g:Int) (c:Int)))]),(gv11+1)) h ⟨(.sm O O),⟨⟨_,rfl,.vec⟩,⟨_,rfl,.vec⟩,ø⟩,rfl⟩)))
     ·
      refine Gk (ej14 _ _ (d,gv11) h ⟨(.sm O O),⟨⟨_,rfl,.vec⟩,⟨_,rfl,.vec⟩,ø⟩,rfl⟩)
   ·rintro⟨e8,gj14⟩ h
    replace h:=app1 a1 h
    refine G1 (JLm (E7 c) O (JLh (I64 ((c+1:Nat):Int)) (Hz (Hi w v) O O O) O (JLm (I64 ((c+1:Nat):Int)) O (G6 (e3 _ _ (c+1) (e8,gj14) (app1 b3 h) (by omega) ⟨(.sm O O),⟨⟨_,rfl,.vec⟩,⟨_,rfl,.vec⟩,ø⟩,rfl⟩)))))
  ·
   have h:=app1 a0 (Hx n (Hc hb))
   refine Hd (e2 (G1 (JLm (E7 g) O (JLh (I64 ((g+1:Nat):Int)) (Hz (Hi a5 v) O O O) O (JLm (I64 ((g+1:Nat):Int)) O (G6 (e6 _ _ (g+1) (d,gv11) (app1 e1 h) (by omega) ⟨(.sm O O),⟨⟨_,rfl,.vec⟩,⟨_,rfl,.vec⟩,ø⟩,rfl⟩)))))))
 ·
  have h:=app1 a8 (Hx q (Hc hb))
  refine Hd (d5 (Jr fun d2=>(JLm (.vec 1048 gv6 5 j.length) O (JLm (.vec 1048 gv6 5 j.length) O (G6 (d2 (Ja4 4 O O (fun hn_=>H0 ?_))))))))
  obtain rfl:=Ez h
  exact⟨[.vec 1048 gv6 5 j.length],[(1048,.vec 92 5 gv6 (j.map Gb.av))],⟨⟨_,O,.vec⟩,ø⟩,O,⟨⟨_,O,.conv (.same O)⟩,ø⟩,gv6,congrArg (fun n_:Nat=>(.vec 1048 gv6 5 n_:AV)) (hn_.trans (Kn _)),O⟩

def Qp (F:Nat) (y:Gs) (order:List Int):Option ((List G7)×Int):=
 bnd (Q9 F y order) fun k=>
 bif (!k) then
 (some ([],2))
 else
 (bnd (Ra y) fun l=>
  bif ((decide (5 < (l.length:Int)))||(decide (4 < (y.Stacks.length:Int)))) then
  (some ([],5))
  else
  (loop (fun d (a:Int×(List Gb))=>
    bif decide (a.1 < (a.2.length:Int)) then
    (Qx a.2 a.1 fun f=>
     bnd (J1 F f.y order) fun g=>
     bif decide (0 < (g.length:Int)) then
     (bnd (R9 F a.2 a.1) fun h=>
      chk (a.1+1) fun i=>
      d (i,h))
     else
     (loop (fun e (b:(List G7)×Int)=>
       bif decide (0 < b.2) then
       (Qx a.2 b.2 fun c=>
        need (decide (([c.by_].length+b.1.length)*16≤140737488355328∧[c.by_].length+b.1.length≤maxLen)) <|
        Qx a.2 b.2 fun j=>
        e (([c.by_]++b.1),j.from_))
       else
       (some (b.1,0))) F ([],a.1)))
    else
    (some ([],6))) F (0,[(Gb.mk y (-1) (G7.mk 0 0))])))
theorem Gea (F:Nat) (y:Gs) (order:List Int) (r:(List G7)×Int) (h:Qp F y order=some r):Pure E8 22 [.agg [LS 1 (E1) y.Stacks,I64 y.Height],E1 order] (·=.tup [E3 r.1,I64 r.2]):=by
 unfold Qp at h
 refine Hj [.tmp 4,.tmp 5] Tryz.func22 O O (Jr fun c9=>(JLh (.ptr 1047 0) (Qw (cs:=[LS 1 (E1) y.Stacks,I64 y.Height]) 1047 O O O O O) O (JLh (E3 ([]:List G7)) (Jo 2 O O) O (JLm (I64 0) O (G6 (c9 (H7 [(1,E1 order),(2,.dptr [LS 1 (E1) y.Stacks,I64 y.Height])] [] 1047 rfl rfl rfl ø rfl (by exact⟨.conv (.same rfl),.ptr,ø⟩) (Js fun d0=>Jr fun d1=>(JLh (.agg [LS 1 (E1) y.Stacks,I64 y.Height]) (Gt Hg O O O) O (JLm (E1 order) O ?_))))))))))
 obtain⟨w,d2,h⟩:=Gd h
 refine JLh (BL w) (Gu O (Yq F y order w d2) H06 ⟨O,O,O,O,ø⟩) O (JLh (BL (!w)) (Y4 (b:=w) O O) O (G6 (d1 (JCc O h (fun h hb=>?_) (fun h hb=>?_)))))
 ·
  refine Jr fun d3=>(JLh (E3 ([]:List G7)) (Jo 2 O O) O (JLm (I64 2) O (G6 (d3 (H0 (⟨[E3 ([]:List G7),I64 2],[],ø,O,⟨⟨_,O,.conv (.same O)⟩,⟨_,O,.conv (.same O)⟩,ø⟩,O,congrArg (fun r:(List G7)×Int=>(.tup [E3 r.1,I64 r.2]:AV)) (Ez h)⟩))))))
 ·
  refine Gk (d0 (Js fun d4=>Jr fun d5=>(JLh (.agg [LS 1 (E1) y.Stacks,I64 y.Height]) (Gt Hg O O O) O ?_)))
  obtain⟨n,d6,h⟩:=Gd h
  refine JLh (E1 n) (Gu O (G54 y n d6) J0d ⟨O,O,ø⟩) O (JLl G8 O O O fun e3=>(JLh (BL (decide (5 < (n.length:Int)))) (G08 O O O) O (JLm (BL (decide (5 < (n.length:Int)))) O (JLo (.dptr [LS 1 (E1) y.Stacks,I64 y.Height]) [] O .scf ø (fun hc=>H1 H3 O O O) O (JLo (LS 1 (E1) y.Stacks) [19] O .scf ⟨Ua,ø⟩ (fun hc=>Gr Gv O O O) O (JLo (E7 y.Stacks.length) [20] O .scf ⟨Ua,ø⟩ (fun hc=>Re (f:=(E1)) (xs:=y.Stacks) Ge O O) O (JLo (BL (decide (4 < (y.Stacks.length:Int)))) [21] O .scf ⟨Ua,ø⟩ (fun hc=>G08 O O O) O (JLh (BL ((decide (5 < (n.length:Int)))||(decide (4 < (y.Stacks.length:Int))))) (G17 O O O O) O (G6 (d5 (JCc O h (fun h hb=>?_) (fun h hb=>?_))))))))))))
  ·
   refine Jr fun d7=>(JLh (E3 ([]:List G7)) (Jo 2 O O) O (JLm (I64 5) O (G6 (d7 (H0 (⟨[E3 ([]:List G7),I64 5],[],ø,O,⟨⟨_,O,.conv (.same O)⟩,⟨_,O,.conv (.same O)⟩,ø⟩,O,congrArg (fun r:(List G7)×Int=>(.tup [E3 r.1,I64 r.2]:AV)) (Ez h)⟩))))))
  ·
   refine Gk (d4 ?_)
   refine Jr fun a3=>(JLh (.agg [LS 1 (E1) y.Stacks,I64 y.Height]) (Gt Hg O O O) O (JLh (.agg [I64 0,I64 0]) (Jf (cs:=[I64 0,I64 0]) [(0,1),(1,1)] [I64 0,I64 0] [E0,E0] H03 Gb5 (zzQ O) O O) O (JLh (.agg [LS 1 (E1) y.Stacks,I64 y.Height,I64 (-1),I64 0,I64 0]) (Jf (cs:=[LS 1 (E1) y.Stacks,I64 y.Height,I64 (-1),I64 0,I64 0]) [(0,2),(2,1),(3,2)] [LS 1 (E1) ([]:List (List Int)),I64 0,I64 0,I64 0,I64 0] [.slice none 0 0,E0,E0,E0,E0] H9b J01 ⟨.inr ⟨_,O,O⟩,.inl O,.inl O,.inl O,.inl O,ø⟩ O O) O (JLh (.vec 1048 ([(Gb.mk y (-1) (G7.mk 0 0))].length) 5 ([(Gb.mk y (-1) (G7.mk 0 0))].length)) (Q53 1048 (f:=Gb.av) [(Gb.mk y (-1) (G7.mk 0 0))] O ⟨O,O,ø⟩ Zg Hdf O O O O O) O (JLm (.vec 1048 ([(Gb.mk y (-1) (G7.mk 0 0))].length) 5 ([(Gb.mk y (-1) (G7.mk 0 0))].length)) O (G6 (a3 ?_)))))))
   refine Js fun a4=>Jr fun a5=>(JLm (I64 0) O (G6 (a5 (Gf ?_))))
   obtain⟨a1,a6,h⟩:=G0e h
   refine Ha (fun e (g:(Int×(List Gb))×Nat)=>(fun(a:Int×(List Gb))=>loop a1 e a=some r) g.1) (fun e g=>(fun(a:Int×(List Gb)) (gv13:Nat)=>[(1,E1 order),(6,.vec 1048 gv13 5 a.2.length),(7,I64 a.1)]) g.1 g.2) (fun e g=>(fun(a:Int×(List Gb)) (gv13:Nat)=>[(1048,.vec 92 5 gv13 (a.2.map Gb.av))]) g.1 g.2) (fun e=>e) F ((0,[(Gb.mk y (-1) (G7.mk 0 0))]),[(Gb.mk y (-1) (G7.mk 0 0))].length) h ⟨(.sm O O),⟨⟨_,O,.vec⟩,ø⟩,O⟩ ?_
   clear h
   rintro e ⟨a,gv13⟩ m e8 d8
   replace m:loop a1 e a=some r:=m
   change JC _ _ _ _ [(1,E1 order),(6,.vec 1048 gv13 5 a.2.length),(7,I64 a.1)] [(1048,.vec 92 5 gv13 (a.2.map Gb.av))]
   obtain⟨d9,e4,hm_13,a7,h⟩:=Z7 m
   replace h:=H65 a6 h
   refine Js fun a8=>Jr fun a9=>(JLm (I64 a.1) O (JLm (.vec 1048 gv13 5 a.2.length) O (Gfd (f:=Gb.av) (xs:=a.2) Zg O O O (fun e5=>?_) O O O)))
   refine JLh (BL (decide (a.1 < (a.2.length:Int)))) (J2 O O O) O (G6 (a9 (JCc O h (fun h hb=>?_) (fun h hb=>?_))))
   ·
    refine Gk (a8 (Js fun b0=>Gf (Js fun b1=>Jr fun b2=>(JLm (.vec 1048 gv13 5 a.2.length) O (JLm (I64 a.1) O ?_)))))
    obtain⟨j,x,o,h⟩:=Yc h
    refine JLh (.vptr 1048 gv13 a.1.toNat 0) (Zf (f:=Gb.av) (xs:=a.2) (y:=j) O O O O Zg o x) O (JLh (.vptr 1048 gv13 a.1.toNat 0) (Gc6 Ge3 O O O) O (JLh (.agg [LS 1 (E1) j.y.Stacks,I64 j.y.Height]) (G6a (f:=Gb.av) (xs:=a.2) (y:=j) Hg O O O o O O) O (JLm (E1 order) O ?_)))
    obtain⟨q,b3,h⟩:=Gd h
    refine JLh (E1 q) (Gu O (Yr F j.y order q b3) Gb8 ⟨O,O,O,O,ø⟩) O (JLl G8 O O O fun e6=>(JLh (BL (decide (0 < (q.length:Int)))) (G08 O O O) O (G6 (b2 (JCc O h (fun h hb=>?_) (fun h hb=>?_))))))
    ·
     refine Jr fun b4=>(JLm (.vec 1048 gv13 5 a.2.length) O (JLm (I64 a.1) O ?_))
     obtain⟨k,b5,h⟩:=Gd h
     refine G7c O O O (G80 (args:=[.vec 1048 gv13 5 a.2.length,I64 a.1]) (L0:=[(1048,.vec 92 5 gv13 (a.2.map Gb.av))]) (u:=fun p=>.vec 1048 p 5 k.length) (Lr:=fun p=>[(1048,.vec 92 5 p (k.map Gb.av))]) O (G6c F a.2 gv13 a.1 k b5) Q0f ⟨.inl O,O,.inl O,O,ø⟩ ⟨O,ø⟩ O (fun _=>O)) ?_
     rintro u_ L_ ⟨a2,rfl,rfl⟩
     refine JLm (.vec 1048 a2 5 k.length) O (G6 (b4 (Hd (b0 (G1 (JLm (I64 a.1) O ?_))))))
     obtain⟨s,b6,h⟩:=Je h
     refine JLh (I64 s) (Hz b6 O O O) O (JLm (I64 s) O (G6 (d8 _ _ d9 ((s,k),a2) (app1 a7 h) (by omega) ⟨(.sm O O),⟨⟨_,rfl,.vec⟩,ø⟩,rfl⟩)))
    ·
     refine Gk (b1 (Jr fun b7=>(JLh (E3 ([]:List G7)) (Jo 2 O O) O (G6 (b7 (Js fun b8=>Jr fun b9=>(JLm (I64 a.1) O (JLm (I64 a.1) O (G6 (b9 (Gf ?_)))))))))))
     obtain⟨e0,c0,h⟩:=G0e h
     refine Ha (fun i (c:(List G7)×Int)=>loop e0 i c=some r) (fun i c=>[(6,.vec 1048 gv13 5 a.2.length),(8,E3 c.1),(9,I64 c.2)]) (fun i c=>[(1048,.vec 92 5 gv13 (a.2.map Gb.av))]) (fun i=>i) F ([],a.1) h ⟨(.sm O O),⟨⟨_,O,.vec⟩,ø⟩,O⟩ ?_
     clear h
     intro i c c1 e9 e1
     obtain⟨e2,e7,hm_37,c2,h⟩:=Z7 c1
     replace h:=H65 c0 h
     refine Js fun c3=>Jr fun c4=>(JLm (I64 c.2) O (JLh (BL (decide (0 < c.2))) (G08 O O O) O (G6 (c4 (JCc O h (fun h hb=>?_) (fun h hb=>?_))))))
     ·
      refine Gk (c3 (Js fun c5=>Gf (G1 (JLm (.vec 1048 gv13 5 a.2.length) O (JLm (I64 c.2) O ?_)))))
      obtain⟨d,z,t,h⟩:=Yc h
      refine JLh (.vptr 1048 gv13 c.2.toNat 0) (Zf (f:=Gb.av) (xs:=a.2) (y:=d) O O O O Zg t z) O (JLh (.vptr 1048 gv13 c.2.toNat 3) (Gc6 J4f O O O) O (JLh (.agg [I64 d.by_.From,I64 d.by_.To]) (G6a (f:=Gb.av) (xs:=a.2) (y:=d) G10 O O O t O O) O (JLh (OW 230000059 2 G7.av [d.by_]) (H95 230000059 (f:=G7.av) [d.by_] O ⟨O,O,ø⟩ Rk G97 O O O O O) O (JLm (E3 c.1) O ?_))))
      obtain⟨c6,h⟩:=Ho h
      refine JLh (OW 230000059 2 G7.av ([d.by_]++c.1)) (G18 (f:=G7.av) (xs:=[d.by_]) (ys:=c.1) O O O O Rk H75 c6 (fun _=>O) (.inl O)) O (JLm (OW 230000059 2 G7.av ([d.by_]++c.1)) O (G6 (c5 (G1 (JLm (.vec 1048 gv13 5 a.2.length) O (JLm (I64 c.2) O ?_))))))
      obtain⟨l,a0,v,h⟩:=Yc h
      refine JLh (.vptr 1048 gv13 c.2.toNat 0) (Zf (f:=Gb.av) (xs:=a.2) (y:=l) O O O O Zg v a0) O (JLh (.vptr 1048 gv13 c.2.toNat 2) (Gc6 J50 O O O) O (JLh (I64 l.from_) (Gc5 (f:=Gb.av) (xs:=a.2) (y:=l) Gj O O O v O O) O (JLm (I64 l.from_) O (G6 (e1 _ _ e2 (([d.by_]++c.1),l.from_) (app1 c2 h) (by omega) ⟨⟨.same rfl,.list rfl,.same rfl,ø⟩,⟨⟨_,rfl,.vec⟩,ø⟩,rfl⟩)))))
     ·
      refine Hd (b8 (Jr fun c7=>(JLm (E3 c.1) O (JLm (E3 c.1) O (JLm (I64 0) O (G6 (c7 (H0 (⟨[E3 c.1,I64 0],[],ø,O,⟨⟨_,O,.conv (.same O)⟩,⟨_,O,.conv (.same O)⟩,ø⟩,O,congrArg (fun r:(List G7)×Int=>(.tup [E3 r.1,I64 r.2]:AV)) (Ez h)⟩)))))))))
   ·
    refine Hd (a4 (Jr fun c8=>(JLh (E3 ([]:List G7)) (Jo 2 O O) O (JLm (I64 6) O (G6 (c8 (H0 (⟨[E3 ([]:List G7),I64 6],[],ø,O,⟨⟨_,O,.conv (.same O)⟩,⟨_,O,.conv (.same O)⟩,ø⟩,O,congrArg (fun r:(List G7)×Int=>(.tup [E3 r.1,I64 r.2]:AV)) (Ez h)⟩))))))))

def Y7 (order:List Int) (a:Int) (b:Int):Option Bool:=
 bnd (Jd order a) fun c=>
 bnd (Jd order b) fun d=>
 some ((decide (d < c))||((decide (c=d))&&(decide (a < b))))
theorem Ge9 (order:List Int) (a:Int) (b:Int) (r:Bool) (h:Y7 order a b=some r):Pure E8 51 [E1 order,I64 a,I64 b] (·=BL r):=by
 unfold Y7 at h
 refine Hj [.tmp 6] Tryz.func51 O O (Jr fun e=>(JLm (BL false) O (G6 (e (Jr fun f=>(JLm (E1 order) O (JLm (I64 a) O ?_)))))))
 obtain⟨c,g,h⟩:=Gd h
 refine JLh (I64 c) (Gu O (Jk order a c g) G0a ⟨O,O,O,O,ø⟩) O (JLm (E1 order) O (JLm (I64 b) O ?_))
 obtain⟨d,i,h⟩:=Gd h
 refine JLh (I64 d) (Gu O (Jk order b d i) G0a ⟨O,O,O,O,ø⟩) O (JLm (I64 c) O (JLm (I64 d) O (G6 (f (Jr fun j=>(JLm (I64 c) O (JLm (I64 d) O (JLh (BL (decide (d < c))) (G08 O O O) O (JLm (BL (decide (d < c))) O (JLo (I64 c) [] O .scf ø (fun hc=>G3 O O) O (JLo (I64 d) [] O .scf ø (fun hc=>G3 O O) O (JLo (BL (decide (c=d))) [19,20] O .scf ⟨Ua,Ua,ø⟩ (fun hc=>Yx O O O) O (JLo (BL (decide (c=d))) [21] O .scf ⟨Ua,ø⟩ (fun hc=>G3 O O) O (JLo (I64 a) [] O .optt ø (fun hc=>G3 O O) O (JLo (I64 b) [] O .optt ø (fun hc=>G3 O O) O (JLo (BL (decide (a < b))) [23,24] O .optt ⟨Ua,Ua,ø⟩ (fun hc=>J2 O O O) O (Gm (u:=BL ((decide (c=d))&&(decide (a < b)))) [(22,BL (decide (c=d))),(25,_)] O O O .scf ⟨.all id,.part,ø⟩ (fun hc=>Yy O O O O) ?_)))))))))))))))))
 refine JLh (BL ((decide (d < c))||((decide (c=d))&&(decide (a < b))))) (G17 O O O O) O (JLm (BL ((decide (d < c))||((decide (c=d))&&(decide (a < b))))) O (G6 (j (H0 (fin1 BL h)))))

def R8 (s:List Int) (order:List Int):Option Int:=
 chk ((order.length:Int)+1) fun h=>
 each (fun c i (a:Int) d=>
  jp (fun b=>
   bnd (Jd order c) fun e=>
   bif decide (e < a) then
   (bnd (Jd order c) fun f=>
    b f)
   else
   (b a)) fun(g:Int)=>
  d g)
 (fun(a:Int)=>
  some a) s 0 h
theorem G53 (s:List Int) (order:List Int) (r:Int) (h:R8 s order=some r):Pure E8 71 [E1 s,E1 order] (·=I64 r):=by
 unfold R8 at h
 refine Hj [.tmp 4] Tryz.func71 O O (Jr fun a2=>(JLm (I64 0) O (G6 (a2 (Jr fun a3=>(JLm (E1 order) O (JLl G8 O O O fun b0=>?_)))))))
 obtain⟨n,a4,h⟩:=Je h
 refine JLh (I64 n) (Hz a4 O O O) O (JLm (I64 n) O (G6 (a3 (Js fun a5=>Jr fun a6=>(JLm (I64 0) O (G6 (a6 (Gf ?_))))))))
 obtain⟨a7,o,p,l,h⟩:=J7 h
 refine Ha (fun a (b:Int)=>each a7 o (List.drop a s) a b=some r) (fun a b=>[(0,E1 s),(1,E1 order),(5,I64 b),(6,E7 a)]) (fun a b=>[]) (fun a=>s.length - a) 0 n h ⟨(.sm O O),ø,rfl⟩ ?_
 clear h
 intro a b g b1 a8
 refine Js fun q=>Jr fun t=>(JLm (E7 a) O (JLm (E1 s) O (JLl G8 O O O fun u=>(JLh (BL (decide ((a:Int) < (s.length:Int)))) (J2 O O O) O (G6 (t (Gi O (fun hb=>?_) (fun hb=>?_))))))))
 ·
  have i:=Jp hb
  obtain⟨c,a9,j,v,h⟩:=Hw g i
  replace h:=Yw p h
  refine Gk (q ?_)
  obtain⟨w,m,h⟩:=G23 h
  refine Zr (fun d:Int=>w d=some r) (fun d=>[(0,E1 s),(1,E1 order),(5,I64 d),(6,E7 a)]) (fun d=>[]) (fun Kj28 ej28=>?_) ?_
  ·
   refine Gf (Jr fun x=>(JLm (E1 order) O (JLm (E1 s) O (JLm (E7 a) O (JLh (.dptr [I64 c]) (Gz (f:=I64) (xs:=s) (y:=c) O O O G8 j O) O (JLh (I64 c) (Gr Gj O O O) O ?_))))))
   obtain⟨k,z,h⟩:=Gd h
   refine JLh (I64 k) (Gu O (Jk order c k z) G0a ⟨O,O,O,O,ø⟩) O (JLm (I64 b) O (JLh (BL (decide (k < b))) (J2 O O O) O (G6 (x (JCc O h (fun h hb=>?_) (fun h hb=>?_))))))
   ·
    refine G1 (JLm (E1 order) O (JLm (E1 s) O (JLm (E7 a) O (JLh (.dptr [I64 c]) (Gz (f:=I64) (xs:=s) (y:=c) O O O G8 j O) O (JLh (I64 c) (Gr Gj O O O) O ?_)))))
    obtain⟨e,a0,h⟩:=Gd h
    refine JLh (I64 e) (Gu O (Jk order c e a0) G0a ⟨O,O,O,O,ø⟩) O (JLm (I64 e) O (G6 (ej28 _ _ e h ⟨(.sm O O),ø,rfl⟩)))
   ·
    refine Gk (ej28 _ _ b h ⟨(.sm O O),ø,rfl⟩)
  ·intro d h
   replace h:=app1 m h
   refine G1 (JLm (E7 a) O (JLh (I64 ((a+1:Nat):Int)) (Hz (Hi i u) O O O) O (JLm (I64 ((a+1:Nat):Int)) O (G6 (a8 _ _ (a+1) d (app1 v h) (by omega) ⟨(.sm O O),ø,rfl⟩)))))
 ·
  have h:=app1 l (Hx g (Hc hb))
  refine Hd (a5 (Jr fun a1=>(JLm (I64 b) O (JLm (I64 b) O (G6 (a1 (H0 (fin1 I64 h))))))))
end
end Go.Proofs.YtokjlondbjdlfaaGreat
