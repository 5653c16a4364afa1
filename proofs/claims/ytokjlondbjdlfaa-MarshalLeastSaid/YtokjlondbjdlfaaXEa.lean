/- Walks of functions. -/
import Derived.Test.YtokjlondbjdlfaaXD
set_option maxRecDepth 100000
set_option maxHeartbeats 1000000
set_option linter.unusedVariables false
set_option linter.unusedSimpArgs false
namespace Go.Proofs.Ytokjlondbjdlfaa
open Go.RowKit
noncomputable section
structure Gs where
 Stacks:List (List Int)
 Height:Int
 deriving DecidableEq,Inhabited
def Gs.cs (x:Gs):List AV:=[LS 1 (E1) x.Stacks,I64 x.Height]
structure G8 where
 From:Int
 To:Int
 deriving DecidableEq,Inhabited
def G8.cs (x:G8):List AV:=[I64 x.From,I64 x.To]
def G8.av (x:G8):AV:=.agg x.cs
abbrev E4:=LS 2 G8.av
structure Gd where
 y:Gs
 from_:Int
 by_:G8
 deriving DecidableEq,Inhabited
def Gd.cs (x:Gd):List AV:=[LS 1 (E1) x.y.Stacks,I64 x.y.Height,I64 x.from_,I64 x.by_.From,I64 x.by_.To]
def Gd.av (x:Gd):AV:=.agg x.cs
structure Q4 where
 Stacks:Ln (Ln Int)
 Height:Int
 deriving Inhabited
def Q4.cs (x:Q4):List AV:=[LT 1 (LT 1 I64) x.Stacks,I64 x.Height]
def Q4.pl (x:Q4):Gp:=⟨(fun e=>e.1.map Prod.fst) x.Stacks,x.Height⟩
def Q4.of (x:Gp):Q4:=⟨(fun e=>(e.map (fun e=>(e,[])),[])) x.Stacks,x.Height⟩
namespace XEF
open XAF
open XBF
open XCF
open XDF
theorem G18:Gba E8 64 2=true:=by kernel_rfl
theorem Hf:Gba E8 67 2=true:=by kernel_rfl
theorem H53:Hi E8 31=true:=by kernel_rfl
theorem Gee:Hi E8 32=true:=by kernel_rfl
theorem H52:Hi E8 34=true:=by kernel_rfl
theorem Ged:Hi E8 35=true:=by kernel_rfl
theorem Jdc:Hi E8 37=true:=by kernel_rfl
theorem Heb:Hi E8 38=true:=by kernel_rfl
theorem Jd0:Hi E8 63=true:=by kernel_rfl
theorem H4e:Hi E8 64=true:=by kernel_rfl
theorem Gec:Hi E8 65=true:=by kernel_rfl
theorem Ga8:Hi E8 67=true:=by kernel_rfl
theorem Jce:Hi E8 68=true:=by kernel_rfl
theorem He6:Hi E8 69=true:=by kernel_rfl
theorem Jcd:Hi E8 70=true:=by kernel_rfl
theorem Geb:Hi E8 76=true:=by kernel_rfl
theorem He1:Hi E8 87=true:=by kernel_rfl
theorem H4c:Hi E8 88=true:=by kernel_rfl
theorem He0:Hi E8 89=true:=by kernel_rfl
theorem Zu:Hi E8 90=true:=by kernel_rfl
theorem Gea:Hi E8 91=true:=by kernel_rfl
theorem Jc6:Hi E8 92=true:=by kernel_rfl
theorem J7c:Qm E8 122 5 56=true:=by kernel_rfl
theorem H4b:Qm E8 64 2 16=true:=by kernel_rfl
theorem Ga7:Rf E8 122 0 0=true:=by kernel_rfl
theorem Hdf:Rf E8 122 1 2=true:=by kernel_rfl
theorem Hde:Rf E8 122 2 3=true:=by kernel_rfl
theorem G38:Rf E8 64 0 0=true:=by kernel_rfl
theorem Qt:Rf E8 64 1 1=true:=by kernel_rfl
theorem H2:Rf E8 67 0 0=true:=by kernel_rfl
theorem G17:Rf E8 67 1 1=true:=by kernel_rfl
theorem H42:placesOf E8 122=some [(0,2),(2,1),(3,2)]:=by kernel_rfl
theorem Ge8:placesOf E8 64=some [(0,1),(1,1)]:=by kernel_rfl
theorem Z1:placesOf E8 67=some [(0,1),(1,1)]:=by kernel_rfl
theorem Ge7:Rk E8 64 2=true:=by kernel_rfl
theorem Q1:Rk E8 67 2=true:=by kernel_rfl
theorem Yb:sliceB E8 123 122 5=true:=by kernel_rfl
theorem Rx:sliceB E8 63 64 2=true:=by kernel_rfl
theorem Hba:(E8.info? 122).bind (fun i=>i.zero.map Value.cells)=some (List.toArray [.slice none 0 0,E0,E0,E0,E0]):=by kernel_rfl
theorem Ga4:(E8.info? 64).bind (fun i=>i.zero.map Value.cells)=some (List.toArray [E0,E0]):=by kernel_rfl
theorem Yr:(E8.info? 67).bind (fun i=>i.zero.map Value.cells)=some (List.toArray [.slice none 0 0,E0]):=by kernel_rfl
theorem H72:Q6 E8 122 5=true:=by kernel_rfl
theorem G84:Q6 E8 64 2=true:=by kernel_rfl
theorem Yk:Q6 E8 67 2=true:=by kernel_rfl
end XEF
open XAF
open XBF
open XCF
open XDF
open XEF

def Qv (y:Gs):Option (List Int):=
 each (fun b d (a:(List Int)) c=>
  need (decide ((a.length+b.length)*8≤140737488355328∧a.length+b.length≤maxLen)) <|
  c (a++b))
 (fun(a:(List Int))=>
  some a) y.Stacks 0 []
theorem G3d (y:Gs) (r:(List Int)) (h:Qv y=some r):Pure E8 69 [.agg [LS 1 (E1) y.Stacks,I64 y.Height]] (·=E1 r):=by
 unfold Qv at h
 refine Hb [.tmp 2] Try.func69 O O (Jr fun s=>(JLh (.ptr 1074 0) (Q5 (cs:=[LS 1 (E1) y.Stacks,I64 y.Height]) 1074 O O O O O) O (JLh (E1 ([]:List Int)) (Jk 1 O O) O (G6 (s (H5 [(1,.dptr [LS 1 (E1) y.Stacks,I64 y.Height])] [] 1074 rfl rfl rfl ø rfl (by exact⟨.ptr,ø⟩) (Jr fun t=>(JLh (OW 1075 1 I64 ([]:List Int)) (Ge4 1075 3 1 O O O) O (G6 (t (Js fun u=>Jr fun v=>(JLm (I64 0) O (G6 (v (Gg ?_)))))))))))))))
 obtain⟨w,i,j,g,h⟩:=J4 h
 refine H7 (fun a (b:(List Int))=>each w i (List.drop a y.Stacks) a b=some r) (fun a b=>[(1,.dptr [LS 1 (E1) y.Stacks,I64 y.Height]),(3,OW 1075 1 I64 b),(4,E7 a)]) (fun a b=>[(1075,.spare 3 1 b.length b.length)]) (fun a=>y.Stacks.length - a) 0 [] h ⟨(.sm O O),⟨⟨_,O,.same⟩,ø⟩,O⟩ ?_
 clear h
 intro a b d a1 x
 refine Js fun k=>Jr fun l=>(JLm (E7 a) O (JLh (.dptr [LS 1 (E1) y.Stacks,I64 y.Height]) (Gy H2 O O O) O (JLh (LS 1 (E1) y.Stacks) (Gm Gr O O O) O (JLl Gf O O O fun z=>(JLh (BL (decide ((a:Int) < (y.Stacks.length:Int)))) (Hx O O O) O (G6 (l (Gi O (fun hb=>?_) (fun hb=>?_)))))))))
 ·
  have e:=Jo hb
  obtain⟨c,a0,m,n,h⟩:=Hq d e
  replace h:=Yn j h
  refine Gj (k (Js fun o=>Gg (G1 (JLm (OW 1075 1 I64 b) O (JLh (.dptr [LS 1 (E1) y.Stacks,I64 y.Height]) (Gy H2 O O O) O (JLh (LS 1 (E1) y.Stacks) (Gm Gr O O O) O (JLm (E7 a) O (JLh (.dptr [E1 c]) (Gz (f:=(E1)) (xs:=y.Stacks) (y:=c) O O O Gf m O) O (JLh (E1 c) (Gm H4 O O O) O ?_)))))))))
  obtain⟨p,h⟩:=J3 h
  refine JLh (OW 1075 1 I64 (b++c)) (G33 (f:=I64) (xs:=b) (ys:=c) O O O O G7 Ra p (fun _=>O) (.inl O)) O (JLm (OW 1075 1 I64 (b++c)) O (G6 (o (G1 (JLm (E7 a) O (JLh (I64 ((a+1:Nat):Int)) (Hy (Hk e z) O O O) O (JLm (I64 ((a+1:Nat):Int)) O (G6 (x _ _ (a+1) (b++c) (app1 n h) (by omega) ⟨(.sm O O),⟨⟨_,rfl,.same⟩,ø⟩,rfl⟩)))))))))
 ·
  have h:=app1 g (Hr d (Ha hb))
  refine Hd (u (Jr fun q=>(JLm (OW 1075 1 I64 b) O (JLm (OW 1075 1 I64 b) O (G6 (q (H0 (fin1l (fun r:(List Int)=>(E1 r:AV)) h))))))))

def Qb (F:Nat) (y:Gs):Option Bool:=
 bif ((((decide (y.Height < 1))||(decide (6 < y.Height)))||(decide ((y.Stacks.length:Int)=0)))||(decide (30 < (y.Stacks.length:Int)))) then
 (some false)
 else
 (each (fun g m (h:Unit) d=>
   bif decide (y.Height < (g.length:Int)) then
   (some false)
   else
   (d ()))
  (fun(h:Unit)=>
   bnd (Qv y) fun b=>
   each (fun a c (i:Unit) e=>
    bif ((decide (a < 1))||(decide (999999 < a))) then
    (some false)
    else
    (need (decide ((c:Int)≤9223372036854775807)) <|
     upto (fun j (k:Unit) f=>
      Qn b (j:Int) fun l=>
      bif decide (l=a) then
      (some false)
      else
      (f ()))
     (fun(k:Unit)=>
      e ()) (c:Int).toNat 0 ()))
   (fun(i:Unit)=>
    some true) b 0 ()) y.Stacks 0 ())
theorem Zw (F:Nat) (y:Gs) (r:Bool) (h:Qb F y=some r):Pure E8 88 [.agg [LS 1 (E1) y.Stacks,I64 y.Height]] (·=BL r):=by
 unfold Qb at h
 refine Hb [.tmp 2] Try.func88 O O (Jr fun d5=>(JLh (.ptr 1090 0) (Q5 (cs:=[LS 1 (E1) y.Stacks,I64 y.Height]) 1090 O O O O O) O (JLm (BL false) O (G6 (d5 (H5 [(1,.dptr [LS 1 (E1) y.Stacks,I64 y.Height])] [] 1090 rfl rfl rfl ø rfl (by exact⟨.ptr,ø⟩) (Js fun d6=>?_)))))))
 refine Jr fun d7=>(JLh (.dptr [I64 y.Height]) (Gy G17 O O O) O (JLh (I64 y.Height) (Gm Gh O O O) O (JLh (BL (decide (y.Height < 1))) (Hx O O O) O (JLm (BL (decide (y.Height < 1))) O (JLo (.dptr [I64 y.Height]) [] O .scf ø (fun hc=>Gy G17 O O O) O (JLo (I64 y.Height) [11] O .scf ⟨Ua,ø⟩ (fun hc=>Gm Gh O O O) O (JLo (BL (decide (6 < y.Height))) [12] O .scf ⟨Ua,ø⟩ (fun hc=>Y5 O O O) O (JLh (BL ((decide (y.Height < 1))||(decide (6 < y.Height)))) (Z6 O O O O) O (JLm (BL ((decide (y.Height < 1))||(decide (6 < y.Height)))) O (JLo (.dptr [LS 1 (E1) y.Stacks,I64 y.Height]) [] O .scf ø (fun hc=>Gy H2 O O O) O (JLo (LS 1 (E1) y.Stacks) [16] O .scf ⟨Ua,ø⟩ (fun hc=>Gm Gr O O O) O (JLo (E7 y.Stacks.length) [17] O .scf ⟨Ua,ø⟩ (fun hc=>Q7 (f:=(E1)) (xs:=y.Stacks) Gf O O) O (JLo (BL (decide ((y.Stacks.length:Int)=0))) [18] O .scf ⟨Ua,ø⟩ (fun hc=>Ya O O O) O ?_)))))))))))))
 refine JLh (BL (((decide (y.Height < 1))||(decide (6 < y.Height)))||(decide ((y.Stacks.length:Int)=0)))) (Z6 O O O O) O (JLm (BL (((decide (y.Height < 1))||(decide (6 < y.Height)))||(decide ((y.Stacks.length:Int)=0)))) O (JLo (.dptr [LS 1 (E1) y.Stacks,I64 y.Height]) [] O .scf ø (fun hc=>Gy H2 O O O) O (JLo (LS 1 (E1) y.Stacks) [22] O .scf ⟨Ua,ø⟩ (fun hc=>Gm Gr O O O) O (JLo (E7 y.Stacks.length) [23] O .scf ⟨Ua,ø⟩ (fun hc=>Q7 (f:=(E1)) (xs:=y.Stacks) Gf O O) O (JLo (BL (decide (30 < (y.Stacks.length:Int)))) [24] O .scf ⟨Ua,ø⟩ (fun hc=>Y5 O O O) O (JLh (BL ((((decide (y.Height < 1))||(decide (6 < y.Height)))||(decide ((y.Stacks.length:Int)=0)))||(decide (30 < (y.Stacks.length:Int))))) (Z6 O O O O) O (G6 (d7 ?_))))))))
 refine JCc O h ?_ ?_<;>intro h hb
 ·
  refine Jr fun d8=>(JLm (BL false) O (G6 (d8 (H0 (fin1 BL h)))))
 ·
  refine Gj (d6 (Js fun d9=>Jr fun e0=>(JLm (I64 0) O (G6 (e0 (Gg ?_))))))
  obtain⟨e1,x,z,u,h⟩:=J4 h
  refine H7 (fun c (j:Unit)=>each e1 x (List.drop c y.Stacks) c j=some r) (fun c j=>[(1,.dptr [LS 1 (E1) y.Stacks,I64 y.Height]),(3,E7 c)]) (fun c j=>[]) (fun c=>y.Stacks.length - c) 0 () h ⟨(.sm O O),ø,O⟩ ?_
  clear h
  intro c j n f0 e2
  refine Js fun a0=>Jr fun a1=>(JLm (E7 c) O (JLh (.dptr [LS 1 (E1) y.Stacks,I64 y.Height]) (Gy H2 O O O) O (JLh (LS 1 (E1) y.Stacks) (Gm Gr O O O) O (JLl Gf O O O fun a2=>(JLh (BL (decide ((c:Int) < (y.Stacks.length:Int)))) (Hx O O O) O (G6 (a1 (Gi O (fun hb=>?_) (fun hb=>?_)))))))))
  ·
   have o:=Jo hb
   obtain⟨g,e7,a3,a4,h⟩:=Hq n o
   replace h:=Yn z h
   refine Gj (a0 (Js fun a5=>Gg (Js fun a6=>JC_d0 Jg (by kernel_rfl) (Dq (.dptr [LS 1 (E1) y.Stacks,I64 y.Height]) (Gy H2 O O O) O (Dq (LS 1 (E1) y.Stacks) (Gm Gr O O O) O (Dq (E7 c) (G2 O O) O (Dq (.dptr [E1 g]) (Gz (f:=(E1)) (xs:=y.Stacks) (y:=g) O O O Gf a3 O) O (Dq (E1 g) (Gm H4 O O O) O (Dq (E7 g.length) (Q7 (f:=I64) (xs:=g) G7 O O) O (Dq (.dptr [I64 y.Height]) (Gy G17 O O O) O (Dq (I64 y.Height) (Gm Gh O O O) O (Dq (BL (decide (y.Height < (g.length:Int)))) (Y5 O O O) O (Dnil (a6 (JCc O h (fun h hb=>?_) (fun h hb=>?_))))))))))))))))
   ·
    refine Jr fun a7=>(JLm (BL false) O (G6 (a7 (H0 (fin1 BL h)))))
   ·
    refine Gj (a5 (G1 (JLm (E7 c) O (JLh (I64 ((c+1:Nat):Int)) (Hy (Hk o a2) O O O) O (JLm (I64 ((c+1:Nat):Int)) O (G6 (e2 _ _ (c+1) () (app1 a4 h) (by omega) ⟨(.sm O O),ø,rfl⟩)))))))
  ·
   have h:=app1 u (Hr n (Ha hb))
   refine Hd (d9 (Jr fun a8=>(JLh (.agg [LS 1 (E1) y.Stacks,I64 y.Height]) (Gu Hf O O O) O ?_)))
   obtain⟨b,a9,h⟩:=Gc h
   refine JLh (E1 b) (Gt O (G3d y b a9) He6 ⟨O,O,ø⟩) O (JLm (E1 b) O (G6 (a8 (Js fun b0=>Jr fun b1=>(JLm (I64 0) O (G6 (b1 (Gg ?_))))))))
   obtain⟨e3,b2,b3,v,h⟩:=J4 h
   refine H7 (fun a (k:Unit)=>each e3 b2 (List.drop a b) a k=some r) (fun a k=>[(4,E1 b),(5,E7 a)]) (fun a k=>[]) (fun a=>b.length - a) 0 () h ⟨(.sm O O),ø,O⟩ ?_
   clear h
   intro a k p f1 e4
   refine Js fun b4=>Jr fun b5=>(JLm (E7 a) O (JLm (E1 b) O (JLl G7 O O O fun b6=>(JLh (BL (decide ((a:Int) < (b.length:Int)))) (Hx O O O) O (G6 (b5 (Gi O (fun hb=>?_) (fun hb=>?_))))))))
   ·
    have q:=Jo hb
    obtain⟨d,e8,i,b7,h⟩:=Hq p q
    replace h:=Yn b3 h
    refine Gj (b4 (Js fun b8=>Gg (Js fun b9=>Jr fun c0=>(JLm (E1 b) O (JLm (E7 a) O (JLh (.dptr [I64 d]) (Gz (f:=I64) (xs:=b) (y:=d) O O O G7 i O) O (JLh (I64 d) (Gm Gh O O O) O (JLh (BL (decide (d < 1))) (Hx O O O) O (JLm (BL (decide (d < 1))) O (JLo (E1 b) [] O .scf ø (fun hc=>G2 O O) O (JLo (E7 a) [] O .scf ø (fun hc=>G2 O O) O (JLo (.dptr [I64 d]) [57,58] O .scf ⟨Ua,Ua,ø⟩ (fun hc=>Gz (f:=I64) (xs:=b) (y:=d) O O O G7 i O) O (JLo (I64 d) [59] O .scf ⟨Ua,ø⟩ (fun hc=>Gm Gh O O O) O (JLo (BL (decide (999999 < d))) [60] O .scf ⟨Ua,ø⟩ (fun hc=>Y5 O O O) O (JLh (BL ((decide (d < 1))||(decide (999999 < d)))) (Z6 O O O O) O (G6 (c0 ?_)))))))))))))))))
    refine JCc O h ?_ ?_<;>intro h hb
    ·
     refine Jr fun c1=>(JLm (BL false) O (G6 (c1 (H0 (fin1 BL h)))))
    ·
     refine Gj (b9 (Jr fun c2=>(JLm (I64 0) O (G6 (c2 (Gg ?_))))))
     obtain⟨c3,h⟩:=J3 h
     obtain⟨e5,c4,c5,w,h⟩:=Gc0 h
     refine H7 (fun e (l:Unit)=>upto e5 c4 ((a:Int).toNat - e) e l=some r) (fun e l=>[(4,E1 b),(5,E7 a),(6,E7 e)]) (fun e l=>[]) (fun e=>(a:Int).toNat - e) 0 () h ⟨(.sm O O),ø,O⟩ ?_
     clear h
     intro e l s f2 e6
     refine Js fun c6=>Jr fun c7=>(JLm (E7 e) O (JLm (E7 a) O (JLh (BL (decide ((e:Int) < (a:Int)))) (Hx O O O) O (G6 (c7 (Gi O (fun hb=>?_) (fun hb=>?_)))))))
     ·
      have t:=G87 hb
      obtain⟨e9,c8,h⟩:=G81 s t
      replace h:=Ja2 c5 h
      refine Gj (c6 (Js fun c9=>Gg (Js fun d0=>?_)))
      obtain⟨f3,m,d1,d2,h⟩:=R6 h
      refine JC_d0 Jg (by kernel_rfl) (Dq (E1 b) (G2 O O) O (Dq (E7 e) (G2 O O) O (Dq (.dptr [I64 m]) (Gz (f:=I64) (xs:=b) (y:=m) O O O G7 d2 d1) O (Dq (I64 m) (Gm Gh O O O) O (Dq (E1 b) (G2 O O) O (Dq (E7 a) (G2 O O) O (Dq (.dptr [I64 d]) (Gz (f:=I64) (xs:=b) (y:=d) O O O G7 i O) O (Dq (I64 d) (Gm Gh O O O) O (Dq (BL (decide (m=d))) (Ya O O O) O (Dnil (d0 (JCc O h (fun h hb=>?_) (fun h hb=>?_)))))))))))))
      ·
       refine Jr fun d3=>(JLm (BL false) O (G6 (d3 (H0 (fin1 BL h)))))
      ·
       refine Gj (c9 (G1 (JLm (E7 e) O (JLh (I64 ((e+1:Nat):Int)) (Hy (Hk t (G4a c3)) O O O) O (JLm (I64 ((e+1:Nat):Int)) O (G6 (e6 _ _ (e+1) () (app1 c8 h) (by omega) ⟨(.sm O O),ø,rfl⟩)))))))
     ·
      have h:=app1 w (G82 s (Zk hb))
      refine Hd (b8 (G1 (JLm (E7 a) O (JLh (I64 ((a+1:Nat):Int)) (Hy (Hk q b6) O O O) O (JLm (I64 ((a+1:Nat):Int)) O (G6 (e4 _ _ (a+1) () (app1 b7 h) (by omega) ⟨(.sm O O),ø,rfl⟩)))))))
   ·
    have h:=app1 v (Hr p (Ha hb))
    refine Hd (b0 (Jr fun d4=>(JLm (BL true) O (G6 (d4 (H0 (fin1 BL h)))))))

def R4 (F:Nat) (y:Gs) (box:Int):Option (Int×Int×Bool):=
 each (fun f g (h:Unit) b=>
  each (fun c d (e:Unit) a=>
   bif decide (c=box) then
   (some ((g:Int),(d:Int),true))
   else
   (a ()))
  (fun(e:Unit)=>
   b ()) f 0 ())
 (fun(h:Unit)=>
  some (0,0,false)) y.Stacks 0 ()
theorem G53 (F:Nat) (y:Gs) (box:Int) (r:Int×Int×Bool) (h:R4 F y box=some r):Pure E8 89 [.agg [LS 1 (E1) y.Stacks,I64 y.Height],I64 box] (·=.tup [I64 r.1,I64 r.2.1,BL r.2.2]):=by
 unfold R4 at h
 refine Hb [.tmp 4,.tmp 5,.tmp 6] Try.func89 O O (Jr fun a3=>(JLh (.ptr 1091 0) (Q5 (cs:=[LS 1 (E1) y.Stacks,I64 y.Height]) 1091 O O O O O) O (JLm (I64 0) O (JLm (I64 0) O (JLm (BL false) O (G6 (a3 (H5 [(1,I64 box),(2,.dptr [LS 1 (E1) y.Stacks,I64 y.Height])] [] 1091 rfl rfl rfl ø rfl (by exact⟨.conv (.same rfl),.ptr,ø⟩) (Js fun a4=>Jr fun a5=>(JLm (I64 0) O (G6 (a5 (Gg ?_)))))))))))))
 obtain⟨b4,a6,a7,o,h⟩:=J4 h
 refine H7 (fun b (j:Unit)=>each b4 a6 (List.drop b y.Stacks) b j=some r) (fun b j=>[(1,I64 box),(2,.dptr [LS 1 (E1) y.Stacks,I64 y.Height]),(7,E7 b)]) (fun b j=>[]) (fun b=>y.Stacks.length - b) 0 () h ⟨(.sm O O),ø,O⟩ ?_
 clear h
 intro b j l K4 e4
 refine Js fun a8=>Jr fun a9=>(JLm (E7 b) O (JLh (.dptr [LS 1 (E1) y.Stacks,I64 y.Height]) (Gy H2 O O O) O (JLh (LS 1 (E1) y.Stacks) (Gm Gr O O O) O (JLl Gf O O O fun p=>(JLh (BL (decide ((b:Int) < (y.Stacks.length:Int)))) (Hx O O O) O (G6 (a9 (Gi O (fun hb=>?_) (fun hb=>?_)))))))))
 ·
  have m:=Jo hb
  obtain⟨c,b9,n,b0,h⟩:=Hq l m
  replace h:=Yn a7 h
  refine Gj (a8 (Js fun b1=>Gg (Jr fun b2=>(JLm (I64 0) O (G6 (b2 (Gg ?_)))))))
  obtain⟨b3,q,s,k,h⟩:=J4 h
  refine H7 (fun a (d:Unit)=>each b3 q (List.drop a c) a d=some r) (fun a d=>[(1,I64 box),(2,.dptr [LS 1 (E1) y.Stacks,I64 y.Height]),(7,E7 b),(8,E7 a)]) (fun a d=>[]) (fun a=>c.length - a) 0 () h ⟨(.sm O O),ø,rfl⟩ ?_
  clear h
  intro a d g c0 b5
  refine Js fun t=>Jr fun u=>(JLm (E7 a) O (JLh (.dptr [LS 1 (E1) y.Stacks,I64 y.Height]) (Gy H2 O O O) O (JLh (LS 1 (E1) y.Stacks) (Gm Gr O O O) O (JLm (E7 b) O (JLh (.dptr [E1 c]) (Gz (f:=(E1)) (xs:=y.Stacks) (y:=c) O O O Gf n O) O (JLh (E1 c) (Gm H4 O O O) O (JLl G7 O O O fun v=>(JLh (BL (decide ((a:Int) < (c.length:Int)))) (Hx O O O) O (G6 (u (Gi O (fun hb=>?_) (fun hb=>?_))))))))))))
  ·
   have i:=Jo hb
   obtain⟨e,b8,w,x,h⟩:=Hq g i
   replace h:=Yn s h
   refine Gj (t (Js fun z=>Gg (Jr fun a0=>(JLh (.dptr [LS 1 (E1) y.Stacks,I64 y.Height]) (Gy H2 O O O) O (JLh (LS 1 (E1) y.Stacks) (Gm Gr O O O) O (JLm (E7 b) O (JLh (.dptr [E1 c]) (Gz (f:=(E1)) (xs:=y.Stacks) (y:=c) O O O Gf n O) O (JLh (E1 c) (Gm H4 O O O) O (JLm (E7 a) O (JLh (.dptr [I64 e]) (Gz (f:=I64) (xs:=c) (y:=e) O O O G7 w O) O (JLh (I64 e) (Gm Gh O O O) O (JLm (I64 box) O (JLh (BL (decide (e=box))) (Ya O O O) O (G6 (a0 (JCc O h (fun h hb=>?_) (fun h hb=>?_)))))))))))))))))
   ·
    refine Jr fun a1=>(JLm (E7 b) O (JLm (E7 a) O (JLm (E7 b) O (JLm (E7 a) O (JLm (BL true) O (G6 (a1 (H0 (⟨[E7 b,E7 a,BL true],[],ø,O,⟨⟨_,O,.conv (.same O)⟩,⟨_,O,.conv (.same O)⟩,⟨_,O,.conv (.same O)⟩,ø⟩,O,congrArg (fun r:Int×Int×Bool=>(.tup [I64 r.1,I64 r.2.1,BL r.2.2]:AV)) (Ey h)⟩)))))))))
   ·
    refine Gj (z (G1 (JLm (E7 a) O (JLh (I64 ((a+1:Nat):Int)) (Hy (Hk i v) O O O) O (JLm (I64 ((a+1:Nat):Int)) O (G6 (b5 _ _ (a+1) () (app1 x h) (by omega) ⟨(.sm O O),ø,rfl⟩)))))))
  ·
   have h:=app1 k (Hr g (Ha hb))
   refine Hd (b1 (G1 (JLm (E7 b) O (JLh (I64 ((b+1:Nat):Int)) (Hy (Hk m p) O O O) O (JLm (I64 ((b+1:Nat):Int)) O (G6 (e4 _ _ (b+1) () (app1 b0 h) (by omega) ⟨(.sm O O),ø,rfl⟩)))))))
 ·
  have h:=app1 o (Hr l (Ha hb))
  refine Hd (a4 (Jr fun a2=>(JLm (I64 0) O (JLm (I64 0) O (JLm (BL false) O (G6 (a2 (H0 (⟨[I64 0,I64 0,BL false],[],ø,O,⟨⟨_,O,.conv (.same O)⟩,⟨_,O,.conv (.same O)⟩,⟨_,O,.conv (.same O)⟩,ø⟩,O,congrArg (fun r:Int×Int×Bool=>(.tup [I64 r.1,I64 r.2.1,BL r.2.2]:AV)) (Ey h)⟩)))))))))

def J7 (order:List Int) (box:Int):Option Int:=
 each (fun b c (d:Unit) a=>
  bif decide (b=box) then
  (some (c:Int))
  else
  (a ()))
 (fun(d:Unit)=>
  some (order.length:Int)) order 0 ()
theorem Jc (order:List Int) (box:Int) (r:Int) (h:J7 order box=some r):Pure E8 90 [E1 order,I64 box] (·=I64 r):=by
 unfold J7 at h
 refine Hb [.tmp 4] Try.func90 O O (Jr fun t=>(JLm (I64 0) O (G6 (t (Js fun u=>Jr fun v=>(JLm (I64 0) O (G6 (v (Gg ?_)))))))))
 obtain⟨w,i,j,g,h⟩:=J4 h
 refine H7 (fun a (b:Unit)=>each w i (List.drop a order) a b=some r) (fun a b=>[(0,E1 order),(1,I64 box),(5,E7 a)]) (fun a b=>[]) (fun a=>order.length - a) 0 () h ⟨(.sm O O),ø,O⟩ ?_
 clear h
 intro a b d a2 x
 refine Js fun k=>Jr fun l=>(JLm (E7 a) O (JLm (E1 order) O (JLl G7 O O O fun z=>(JLh (BL (decide ((a:Int) < (order.length:Int)))) (Hx O O O) O (G6 (l (Gi O (fun hb=>?_) (fun hb=>?_))))))))
 ·
  have e:=Jo hb
  obtain⟨c,a0,m,n,h⟩:=Hq d e
  replace h:=Yn j h
  refine Gj (k (Js fun o=>Gg (Jr fun p=>(JLm (E1 order) O (JLm (E7 a) O (JLh (.dptr [I64 c]) (Gz (f:=I64) (xs:=order) (y:=c) O O O G7 m O) O (JLh (I64 c) (Gm Gh O O O) O (JLm (I64 box) O (JLh (BL (decide (c=box))) (Ya O O O) O (G6 (p (JCc O h (fun h hb=>?_) (fun h hb=>?_)))))))))))))
  ·
   refine Jr fun q=>(JLm (E7 a) O (JLm (E7 a) O (G6 (q (H0 (fin1 I64 h))))))
  ·
   refine Gj (o (G1 (JLm (E7 a) O (JLh (I64 ((a+1:Nat):Int)) (Hy (Hk e z) O O O) O (JLm (I64 ((a+1:Nat):Int)) O (G6 (x _ _ (a+1) () (app1 n h) (by omega) ⟨(.sm O O),ø,rfl⟩)))))))
 ·
  have h:=app1 g (Hr d (Ha hb))
  refine Hd (u (Jr fun s=>(JLm (E1 order) O (JLl G7 O O O fun a1=>(JLm (E7 order.length) O (G6 (s (H0 (fin1 I64 h)))))))))

def Jx (F:Nat) (y:Gs) (order:List Int):Option Bool:=
 bnd (Qb F y) fun g=>
 bif (!g) then
 (some false)
 else
 (each (fun a d (e:Unit) c=>
   bnd (R4 F y a) fun b=>
   bnd (bif (!(!b.2.2)) then J7 order a else some default) fun f=>
   bif ((!b.2.2)||(decide (f≠(d:Int)))) then
   (some false)
   else
   (c ()))
  (fun(e:Unit)=>
   some true) order 0 ())
theorem Ye (F:Nat) (y:Gs) (order:List Int) (r:Bool) (h:Jx F y order=some r):Pure E8 65 [.agg [LS 1 (E1) y.Stacks,I64 y.Height],E1 order] (·=BL r):=by
 unfold Jx at h
 refine Hb [.tmp 4] Try.func65 O O (Jr fun a2=>(JLh (.ptr 1066 0) (Q5 (cs:=[LS 1 (E1) y.Stacks,I64 y.Height]) 1066 O O O O O) O (JLm (BL false) O (G6 (a2 (H5 [(1,E1 order),(2,.dptr [LS 1 (E1) y.Stacks,I64 y.Height])] [] 1066 rfl rfl rfl ø rfl (by exact⟨.conv (.same rfl),.ptr,ø⟩) (Js fun a3=>Jr fun a4=>(JLh (.agg [LS 1 (E1) y.Stacks,I64 y.Height]) (Gu Hf O O O) O ?_))))))))
 obtain⟨l,a5,h⟩:=Gc h
 refine JLh (BL l) (Gt O (Zw F y l a5) H4c ⟨O,O,ø⟩) O (JLh (BL (!l)) (Ym (b:=l) O O) O (G6 (a4 (JCc O h (fun h hb=>?_) (fun h hb=>?_)))))
 ·
  refine Jr fun a6=>(JLm (BL false) O (G6 (a6 (H0 (fin1 BL h)))))
 ·
  refine Gj (a3 (Js fun a7=>Jr fun a8=>(JLm (I64 0) O (G6 (a8 (Gg ?_))))))
  obtain⟨a9,n,o,m,h⟩:=J4 h
  refine H7 (fun a (e:Unit)=>each a9 n (List.drop a order) a e=some r) (fun a e=>[(1,E1 order),(2,.dptr [LS 1 (E1) y.Stacks,I64 y.Height]),(5,E7 a)]) (fun a e=>[]) (fun a=>order.length - a) 0 () h ⟨(.sm O O),ø,O⟩ ?_
  clear h
  intro a e i b2 b0
  refine Js fun p=>Jr fun q=>(JLm (E7 a) O (JLm (E1 order) O (JLl G7 O O O fun s=>(JLh (BL (decide ((a:Int) < (order.length:Int)))) (Hx O O O) O (G6 (q (Gi O (fun hb=>?_) (fun hb=>?_))))))))
  ·
   have j:=Jo hb
   obtain⟨d,b1,k,t,h⟩:=Hq i j
   replace h:=Yn o h
   refine Gj (p (Js fun u=>Gg (Js fun v=>?_)))
   obtain⟨c,w,h⟩:=Gc h
   refine JC_d0 Jg (by kernel_rfl) (Dq (.agg [LS 1 (E1) y.Stacks,I64 y.Height]) (Gu Hf O O O) O (Dq (E1 order) (G2 O O) O (Dq (E7 a) (G2 O O) O (Dq (.dptr [I64 d]) (Gz (f:=I64) (xs:=order) (y:=d) O O O G7 k O) O (Dq (I64 d) (Gm Gh O O O) O (Dq (.tup [I64 c.1,I64 c.2.1,BL c.2.2]) (Gt (args:=[.agg [LS 1 (E1) y.Stacks,I64 y.Height],I64 d]) O (G53 F y d c w) He0 ⟨O,O,O,O,ø⟩) O (Dq (.tup [I64 c.1,I64 c.2.1,BL c.2.2]) (G2 O O) O (Dq (I64 c.1) (Gv O O O) O (Dq (I64 c.2.1) (Gv O O O) O (Dq (BL c.2.2) (Gv O O O) O (Dq (I64 c.1) (G4 O O) O (Dq (I64 c.2.1) (G4 O O) O (Dq (BL c.2.2) (G4 O O) O (Dnil (v ?_)))))))))))))))
   refine Jr fun x=>(JLm (BL c.2.2) O (JLh (BL (!c.2.2)) (Ym (b:=c.2.2) O O) O (JLm (BL (!c.2.2)) O (JLo (E1 order) [] O .scf ø (fun hc=>G2 O O) O (JLo (E1 order) [] O .scf ø (fun hc=>G2 O O) O (JLo (E7 a) [] O .scf ø (fun hc=>G2 O O) O (JLo (.dptr [I64 d]) [32,33] O .scf ⟨Ua,Ua,ø⟩ (fun hc=>Gz (f:=I64) (xs:=order) (y:=d) O O O G7 k O) O (JLo (I64 d) [34] O .scf ⟨Ua,ø⟩ (fun hc=>Gm Gh O O O) O ?_))))))))
   obtain⟨g,z,h⟩:=Gc h
   refine JLo (I64 g) [31,35] O .scf ⟨Ua,Ua,ø⟩ (fun hc=>Gt (args:=[E1 order,I64 d]) O (Jc order d g (H1 hc z)) Zu ⟨O,O,O,O,ø⟩) O (JLo (E7 a) [] O .scf ø (fun hc=>G2 O O) O (JLo (BL (decide (g≠(a:Int)))) [36,37] O .scf ⟨Ua,Ua,ø⟩ (fun hc=>G16 O O O) O (JLh (BL ((!c.2.2)||(decide (g≠(a:Int))))) (Z6 O O O O) O (G6 (x (JCc O h (fun h hb=>?_) (fun h hb=>?_)))))))
   ·
    refine Jr fun a0=>(JLm (BL false) O (G6 (a0 (H0 (fin1 BL h)))))
   ·
    refine Gj (u (G1 (JLm (E7 a) O (JLh (I64 ((a+1:Nat):Int)) (Hy (Hk j s) O O O) O (JLm (I64 ((a+1:Nat):Int)) O (G6 (b0 _ _ (a+1) () (app1 t h) (by omega) ⟨(.sm O O),ø,rfl⟩)))))))
  ·
   have h:=app1 m (Hr i (Ha hb))
   refine Hd (a7 (Jr fun a1=>(JLm (BL true) O (G6 (a1 (H0 (fin1 BL h)))))))

def Qi (y:Gs) (stack:Int) (boxes:List Int):Option Gs:=
 each (fun b e (a:(List (List Int))×Int) d=>
  jp (fun c=>
   bif decide ((e:Int)=stack) then
   (need (decide ((([]:List Int).length+boxes.length)*8≤140737488355328∧([]:List Int).length+boxes.length≤maxLen)) <|
    need (decide ((a.1.length+[(([]:List Int)++boxes)].length)*24≤140737488355328∧a.1.length+[(([]:List Int)++boxes)].length≤maxLen)) <|
    c (a.1++[(([]:List Int)++boxes)]))
   else
   (need (decide ((([]:List Int).length+b.length)*8≤140737488355328∧([]:List Int).length+b.length≤maxLen)) <|
    need (decide ((a.1.length+[(([]:List Int)++b)].length)*24≤140737488355328∧a.1.length+[(([]:List Int)++b)].length≤maxLen)) <|
    c (a.1++[(([]:List Int)++b)]))) fun(f:(List (List Int)))=>
  d (f,a.2))
 (fun(a:(List (List Int))×Int)=>
  some (Gs.mk a.1 a.2)) y.Stacks 0 ([],y.Height)
theorem Yo (y:Gs) (stack:Int) (boxes:List Int) (r:Gs) (h:Qi y stack boxes=some r):Pure E8 91 [.agg [LS 1 (E1) y.Stacks,I64 y.Height],I64 stack,E1 boxes] (·=.agg [LS 1 (E1) r.Stacks,I64 r.Height]):=by
 unfold Qi at h
 refine Hb [.cell 6 67] Try.func91 O O (Jr fun a1=>(JLh (.ptr 1092 0) (Q5 (cs:=[LS 1 (E1) y.Stacks,I64 y.Height]) 1092 O O O O O) O (JLh (.ptr 1093 0) (Gb7 1093 [LS 1 (E1) ([]:List (List Int)),I64 0] [.slice none 0 0,E0] Yr ⟨.inr ⟨_,O,O⟩,.inl O,ø⟩ O O) O (G6 (a1 (fzQ [(1,I64 stack),(2,E1 boxes),(3,.dptr [LS 1 (E1) y.Stacks,I64 y.Height]),(6,.ptr 1093 0)] [(1093,.box 67 [LS 1 (E1) ([]:List (List Int)),I64 0])] 1092 rfl rfl rfl ⟨⟨_,rfl,.boxEq rfl rfl⟩,ø⟩ rfl ?_))))))
 refine Jr fun a2=>(JLh (.dptr [I64 y.Height]) (Gy G17 O O O) O (JLh (I64 y.Height) (Gm Gh O O O) O (JLh (.agg [.sc (.slice none 0 0),I64 y.Height]) (Jm (cs:=[.sc (.slice none 0 0),I64 y.Height]) [(0,1),(1,1)] [.sc (.slice none 0 0),I64 0] [.slice none 0 0,E0] Z1 Yr (zzQ O) O O) O (JLh (.ptr 1094 0) (Jh 1094 2 Yk O O) O (J9 (u:=.junk) (Hp (u:=.agg [.sc (.slice none 0 0),I64 y.Height]) (ds:=[.sc (.slice none 0 0),I64 y.Height]) Q1 O O O O O O O O) (H68 1094 0 1097 25 1 O O O (cs':=[OW 1097 1 (E1) ([]:List (List Int)),I64 y.Height]) O (G6 (a2 (Js fun a3=>Jr fun a4=>(JLm (I64 0) O (G6 (a4 (Gg ?_)))))))))))))
 obtain⟨a5,l,m,j,h⟩:=J4 h
 refine H7 (fun c (a:(List (List Int))×Int)=>each a5 l (List.drop c y.Stacks) c a=some r) (fun c a=>[(1,I64 stack),(2,E1 boxes),(3,.dptr [LS 1 (E1) y.Stacks,I64 y.Height]),(6,.ptr 1093 0),(7,.ptr 1094 0),(8,E7 c)]) (fun c a=>[(1097,.spare 25 1 a.1.length a.1.length),(1093,.box 67 [LS 1 (E1) ([]:List (List Int)),I64 0]),(1094,.box 67 [OW 1097 1 (E1) a.1,I64 a.2])]) (fun c=>y.Stacks.length - c) 0 ([],y.Height) h ⟨(.sm O O),⟨⟨_,rfl,.same⟩,fbQ O (.sm O O),fbQ O (.sm O O),ø⟩,rfl⟩ ?_
 clear h
 intro c a e a8 a6
 refine Js fun n=>Jr fun o=>(JLm (E7 c) O (JLh (.dptr [LS 1 (E1) y.Stacks,I64 y.Height]) (Gy H2 O O O) O (JLh (LS 1 (E1) y.Stacks) (Gm Gr O O O) O (JLl Gf O O O fun p=>(JLh (BL (decide ((c:Int) < (y.Stacks.length:Int)))) (Hx O O O) O (G6 (o (Gi O (fun hb=>?_) (fun hb=>?_)))))))))
 ·
  have g:=Jo hb
  obtain⟨b,a7,i,q,h⟩:=Hq e g
  replace h:=Yn m h
  refine Gj (n ?_)
  obtain⟨s,k,h⟩:=G0e h
  refine Zd (fun d:(List (List Int))=>s d=some r) (fun d=>[(1,I64 stack),(2,E1 boxes),(3,.dptr [LS 1 (E1) y.Stacks,I64 y.Height]),(6,.ptr 1093 0),(7,.ptr 1094 0),(8,E7 c)]) (fun d=>[(1097,.spare 25 1 d.length d.length),(1093,.box 67 [LS 1 (E1) ([]:List (List Int)),I64 0]),(1094,.box 67 [OW 1097 1 (E1) d,I64 a.2])]) (fun Kj46 ej46=>?_) ?_
  ·
   refine Gg (Jr fun t=>(JLm (E7 c) O (JLm (I64 stack) O (JLh (BL (decide ((c:Int)=stack))) (Ya O O O) O (G6 (t (JCc O h (fun h hb=>?_) (fun h hb=>?_))))))))
   ·
    refine Qz (l':=[(1,I64 stack),(2,E1 boxes),(3,.dptr [LS 1 (E1) y.Stacks,I64 y.Height]),(6,.ptr 1093 0),(7,.ptr 1094 0),(8,E7 c)]) (L':=[(1097,.spare 25 1 a.1.length a.1.length),(1093,.box 67 [LS 1 (E1) ([]:List (List Int)),I64 0]),(1094,.box 67 [OW 1097 1 (E1) a.1,I64 a.2])]) ⟨(.sm O O),⟨⟨_,rfl,.same⟩,fbQ O (.sm O O),fbQ O (.sm O O),ø⟩,rfl⟩ ?_
    obtain⟨v,h⟩:=J3 h
    obtain⟨w,h⟩:=J3 h
    refine Ju [2,4,6,8] [0,0,0,0,0,2,0,3,0] [2,2,0,1,0,2,0,3,0] [[(1097,.spare 25 1 a.1.length a.1.length),(1093,.box 67 [LS 1 (E1) ([]:List (List Int)),I64 0]),(1094,.box 67 [OW 1097 1 (E1) a.1,I64 a.2])],((1095,.spare 3 1 ([]:List Int).length ([]:List Int).length)::[(1097,.spare 25 1 a.1.length a.1.length),(1093,.box 67 [LS 1 (E1) ([]:List (List Int)),I64 0]),(1094,.box 67 [OW 1097 1 (E1) a.1,I64 a.2])]),((1095,.spare 3 1 (([]:List Int)++boxes).length (([]:List Int)++boxes).length)::((1095,.spare 3 1 ([]:List Int).length ([]:List Int).length)::[(1097,.spare 25 1 a.1.length a.1.length),(1093,.box 67 [LS 1 (E1) ([]:List (List Int)),I64 0]),(1094,.box 67 [OW 1097 1 (E1) a.1,I64 a.2])])),((1097,.spare 25 1 (a.1++[(([]:List Int)++boxes)]).length (a.1++[(([]:List Int)++boxes)]).length)::((1095,.spare 3 1 (([]:List Int)++boxes).length (([]:List Int)++boxes).length)::((1095,.spare 3 1 ([]:List Int).length ([]:List Int).length)::[(1097,.spare 25 1 a.1.length a.1.length),(1093,.box 67 [LS 1 (E1) ([]:List (List Int)),I64 0]),(1094,.box 67 [OW 1097 1 (E1) a.1,I64 a.2])]))),((1094,.box 67 [OW 1097 1 (E1) (a.1++[(([]:List Int)++boxes)]),I64 a.2])::((1097,.spare 25 1 (a.1++[(([]:List Int)++boxes)]).length (a.1++[(([]:List Int)++boxes)]).length)::((1095,.spare 3 1 (([]:List Int)++boxes).length (([]:List Int)++boxes).length)::((1095,.spare 3 1 ([]:List Int).length ([]:List Int).length)::[(1097,.spare 25 1 a.1.length a.1.length),(1093,.box 67 [LS 1 (E1) ([]:List (List Int)),I64 0]),(1094,.box 67 [OW 1097 1 (E1) a.1,I64 a.2])]))))] Jg (by kernel_rfl) rfl rfl ?_
    refine Gb (u:=.ptr 1094 0) O O ⟨Ga (Hu H2 O O) O,Ga (Hu H2 O O) O,Ga (Hu H2 O O) O,ø⟩ (Gb (u:=OW 1097 1 (E1) a.1) O O ⟨Ga (Ht Gr O O O O) O,Ga (Ht Gr O O O O) O,Ga (Ht Gr O O O O) O,ø⟩ (D_w (u:=OW 1095 1 I64 ([]:List Int)) O O O O (Ga (Ge3 1095 3 1 O O G7) O) (Gb (u:=E1 boxes) O O ⟨Ga (G2 O O) O,Ga (G2 O O) O,ø⟩ (D_w (u:=OW 1095 1 I64 (([]:List Int)++boxes)) O O O O (Ga (G33 (f:=I64) (xs:=([]:List Int)) (ys:=boxes) O O O O G7 Ra v (fun _=>O) (.inl O)) O) (Gb (u:=LS 1 (E1) ([(([]:List Int)++boxes)])) O O ⟨Ga (H9 (xs:=[E1 (([]:List Int)++boxes)]) O ⟨O,O,ø⟩ Gf Z7 O O O O) O,ø⟩ (D_w (u:=OW 1097 1 (E1) (a.1++[(([]:List Int)++boxes)])) O O O O (Ga (Rw (f:=(E1)) (xs:=a.1) (ys:=[(([]:List Int)++boxes)]) O O O O Gf G45 w (fun _=>O) (.inl O) O) O) (Gb (u:=.ptr 1094 0) O O ⟨Ga (Hu H2 O O) O,ø⟩ (H0e (u:=.junk) O O O O (Ga (Hp (u:=OW 1097 1 (E1) (a.1++[(([]:List Int)++boxes)])) (ds:=[OW 1097 1 (E1) (a.1++[(([]:List Int)++boxes)]),I64 a.2]) Ga6 O O O O O O O O) O) (Ru ?_)))))))))
    exact ej46 _ _ (a.1++[(([]:List Int)++boxes)]) h ⟨(.sm O O),⟨⟨_,rfl,.same⟩,fbQ O (.sm O O),fbQ O (.sm O O),ø⟩,rfl⟩
   ·
    refine Qz (l':=[(1,I64 stack),(2,E1 boxes),(3,.dptr [LS 1 (E1) y.Stacks,I64 y.Height]),(6,.ptr 1093 0),(7,.ptr 1094 0),(8,E7 c)]) (L':=[(1097,.spare 25 1 a.1.length a.1.length),(1093,.box 67 [LS 1 (E1) ([]:List (List Int)),I64 0]),(1094,.box 67 [OW 1097 1 (E1) a.1,I64 a.2])]) ⟨(.sm O O),⟨⟨_,rfl,.same⟩,fbQ O (.sm O O),fbQ O (.sm O O),ø⟩,rfl⟩ ?_
    obtain⟨x,h⟩:=J3 h
    obtain⟨z,h⟩:=J3 h
    refine Ju [2,8,10,12] [0,0,0,0,0,0,0,0,0,2,0,3,0] [2,2,0,1,1,1,1,1,0,2,0,3,0] [[(1097,.spare 25 1 a.1.length a.1.length),(1093,.box 67 [LS 1 (E1) ([]:List (List Int)),I64 0]),(1094,.box 67 [OW 1097 1 (E1) a.1,I64 a.2])],((1096,.spare 3 1 ([]:List Int).length ([]:List Int).length)::[(1097,.spare 25 1 a.1.length a.1.length),(1093,.box 67 [LS 1 (E1) ([]:List (List Int)),I64 0]),(1094,.box 67 [OW 1097 1 (E1) a.1,I64 a.2])]),((1096,.spare 3 1 (([]:List Int)++b).length (([]:List Int)++b).length)::((1096,.spare 3 1 ([]:List Int).length ([]:List Int).length)::[(1097,.spare 25 1 a.1.length a.1.length),(1093,.box 67 [LS 1 (E1) ([]:List (List Int)),I64 0]),(1094,.box 67 [OW 1097 1 (E1) a.1,I64 a.2])])),((1097,.spare 25 1 (a.1++[(([]:List Int)++b)]).length (a.1++[(([]:List Int)++b)]).length)::((1096,.spare 3 1 (([]:List Int)++b).length (([]:List Int)++b).length)::((1096,.spare 3 1 ([]:List Int).length ([]:List Int).length)::[(1097,.spare 25 1 a.1.length a.1.length),(1093,.box 67 [LS 1 (E1) ([]:List (List Int)),I64 0]),(1094,.box 67 [OW 1097 1 (E1) a.1,I64 a.2])]))),((1094,.box 67 [OW 1097 1 (E1) (a.1++[(([]:List Int)++b)]),I64 a.2])::((1097,.spare 25 1 (a.1++[(([]:List Int)++b)]).length (a.1++[(([]:List Int)++b)]).length)::((1096,.spare 3 1 (([]:List Int)++b).length (([]:List Int)++b).length)::((1096,.spare 3 1 ([]:List Int).length ([]:List Int).length)::[(1097,.spare 25 1 a.1.length a.1.length),(1093,.box 67 [LS 1 (E1) ([]:List (List Int)),I64 0]),(1094,.box 67 [OW 1097 1 (E1) a.1,I64 a.2])]))))] Jg (by kernel_rfl) rfl rfl ?_
    refine Gb (u:=.ptr 1094 0) O O ⟨Ga (Hu H2 O O) O,Ga (Hu H2 O O) O,Ga (Hu H2 O O) O,ø⟩ (Gb (u:=OW 1097 1 (E1) a.1) O O ⟨Ga (Ht Gr O O O O) O,Ga (Ht Gr O O O O) O,Ga (Ht Gr O O O O) O,ø⟩ (D_w (u:=OW 1096 1 I64 ([]:List Int)) O O O O (Ga (Ge3 1096 3 1 O O G7) O) (Gb (u:=.dptr [LS 1 (E1) y.Stacks,I64 y.Height]) O O ⟨Ga (Gy H2 O O O) O,Ga (Gy H2 O O O) O,ø⟩ (Gb (u:=LS 1 (E1) y.Stacks) O O ⟨Ga (Gm Gr O O O) O,Ga (Gm Gr O O O) O,ø⟩ (Gb (u:=E7 c) O O ⟨Ga (G2 O O) O,Ga (G2 O O) O,ø⟩ (Gb (u:=.dptr [E1 b]) O O ⟨Ga (Gz (f:=(E1)) (xs:=y.Stacks) (y:=b) O O O Gf i O) O,Ga (Gz (f:=(E1)) (xs:=y.Stacks) (y:=b) O O O Gf i O) O,ø⟩ (Gb (u:=E1 b) O O ⟨Ga (Gm H4 O O O) O,Ga (Gm H4 O O O) O,ø⟩ (D_w (u:=OW 1096 1 I64 (([]:List Int)++b)) O O O O (Ga (G33 (f:=I64) (xs:=([]:List Int)) (ys:=b) O O O O G7 Ra x (fun _=>O) (.inl O)) O) (Gb (u:=LS 1 (E1) ([(([]:List Int)++b)])) O O ⟨Ga (H9 (xs:=[E1 (([]:List Int)++b)]) O ⟨O,O,ø⟩ Gf Z7 O O O O) O,ø⟩ (D_w (u:=OW 1097 1 (E1) (a.1++[(([]:List Int)++b)])) O O O O (Ga (Rw (f:=(E1)) (xs:=a.1) (ys:=[(([]:List Int)++b)]) O O O O Gf G45 z (fun _=>O) (.inl O) O) O) (Gb (u:=.ptr 1094 0) O O ⟨Ga (Hu H2 O O) O,ø⟩ (H0e (u:=.junk) O O O O (Ga (Hp (u:=OW 1097 1 (E1) (a.1++[(([]:List Int)++b)])) (ds:=[OW 1097 1 (E1) (a.1++[(([]:List Int)++b)]),I64 a.2]) Ga6 O O O O O O O O) O) (Ru ?_)))))))))))))
    exact ej46 _ _ (a.1++[(([]:List Int)++b)]) h ⟨(.sm O O),⟨⟨_,rfl,.same⟩,fbQ O (.sm O O),fbQ O (.sm O O),ø⟩,rfl⟩
  ·intro d h
   replace h:=app1 k h
   refine G1 (JLm (E7 c) O (JLh (I64 ((c+1:Nat):Int)) (Hy (Hk g p) O O O) O (JLm (I64 ((c+1:Nat):Int)) O (G6 (a6 _ _ (c+1) (d,a.2) (app1 q h) (by omega) ⟨(.sm O O),⟨⟨_,rfl,.same⟩,fbQ O (.sm O O),fbQ O (.sm O O),ø⟩,rfl⟩)))))
 ·
  have h:=app1 j (Hr e (Ha hb))
  refine Hd (a3 (Jr fun a0=>(JLh (.agg [OW 1097 1 (E1) a.1,I64 a.2]) (Jf Hf O O O O) O (J9 (u:=.junk) (Hp (u:=.agg [OW 1097 1 (E1) a.1,I64 a.2]) (ds:=[OW 1097 1 (E1) a.1,I64 a.2]) Q1 O O O O O O O O) (G6 (a0 (H0 (⟨[.agg [LS 1 (E1) a.1,I64 a.2]],[],ø,O,⟨⟨_,⟨_,_,_,_,O,O,O,.inl ⟨Hf,O⟩⟩,.agg ⟨.list O,.same O,ø⟩⟩,ø⟩,O,congrArg (fun r:Gs=>(.agg [LS 1 (E1) r.Stacks,I64 r.Height]:AV)) (Ey h)⟩))))))))

def Jy (F:Nat) (y:Gs) (m:G8):Option (Gs×Int):=
 bnd (Qb F y) fun i=>
 bif (!i) then
 (some ((Gs.mk [] 0),2))
 else
 (bif ((((decide (m.From < 0))||(decide (m.To < 0)))||(decide ((y.Stacks.length:Int)≤m.From)))||(decide ((y.Stacks.length:Int)≤m.To))) then
  (some ((Gs.mk [] 0),6))
  else
  (bif decide (m.From=m.To) then
   (some ((Gs.mk [] 0),340))
   else
   (Qn y.Stacks m.From fun a=>
    Qn y.Stacks m.To fun b=>
    bif decide ((a.length:Int)=0) then
    (some ((Gs.mk [] 0),341))
    else
    (bif decide (y.Height≤(b.length:Int)) then
     (some ((Gs.mk [] 0),4))
     else
     (need (decide ((([]:List Int).length+b.length)*8≤140737488355328∧([]:List Int).length+b.length≤maxLen)) <|
      chk ((a.length:Int) - 1) fun d=>
      Qn a d fun c=>
      need (decide (((([]:List Int)++b).length+[c].length)*8≤140737488355328∧(([]:List Int)++b).length+[c].length≤maxLen)) <|
      bnd (Qi y m.To ((([]:List Int)++b)++[c])) fun e=>
      chk ((a.length:Int) - 1) fun f=>
      bnd (Rn f a.length) fun g=>
      bnd (Qi e m.From (a.take g)) fun h=>
      some (h,0))))))
abbrev Ef (r:Gs×Int):List AV:=[.agg [LS 1 (E1) r.1.Stacks,I64 r.1.Height],I64 r.2]
theorem Yg (F:Nat) (y:Gs) (m:G8) (r:Gs×Int) (h:Jy F y m=some r):Pure E8 76 [.agg [LS 1 (E1) y.Stacks,I64 y.Height],.agg [I64 m.From,I64 m.To]] (·=.tup [.agg [LS 1 (E1) r.1.Stacks,I64 r.1.Height],I64 r.2]):=by
 unfold Jy at h
 refine Hb [.cell 4 67,.tmp 5] Try.func76 O O (Jr fun b3=>(JLh (.ptr 1085 0) (Q5 (cs:=[LS 1 (E1) y.Stacks,I64 y.Height]) 1085 O O O O O) O (JLh (.ptr 1086 0) (Q5 (cs:=[I64 m.From,I64 m.To]) 1086 O O O O O) O (JLh (.ptr 1087 0) (Gb7 1087 [LS 1 (E1) ([]:List (List Int)),I64 0] [.slice none 0 0,E0] Yr ⟨.inr ⟨_,O,O⟩,.inl O,ø⟩ O O) O (JLm (I64 0) O (G6 (b3 (H5 [(2,.dptr [LS 1 (E1) y.Stacks,I64 y.Height]),(3,.ptr 1086 0),(4,.ptr 1087 0)] [(1086,.box 64 [I64 m.From,I64 m.To]),(1087,.box 67 [LS 1 (E1) ([]:List (List Int)),I64 0])] 1085 rfl rfl rfl ⟨⟨_,rfl,.boxEq rfl rfl⟩,⟨_,rfl,.boxEq rfl rfl⟩,ø⟩ rfl (by exact⟨.ptr,.conv (.same rfl),.conv (.same rfl),ø⟩) ?_))))))))
 refine H5 [(2,.dptr [LS 1 (E1) y.Stacks,I64 y.Height]),(3,.dptr [I64 m.From,I64 m.To]),(4,.ptr 1087 0)] [(1087,.box 67 [LS 1 (E1) ([]:List (List Int)),I64 0])] 1086 rfl rfl rfl ⟨⟨_,rfl,.boxEq rfl rfl⟩,ø⟩ rfl (by exact⟨.conv (.same rfl),.ptr,.conv (.same rfl),ø⟩) (Js fun b4=>Jr fun b5=>(JLh (.agg [LS 1 (E1) y.Stacks,I64 y.Height]) (Gu Hf O O O) O ?_))
 obtain⟨p,b6,h⟩:=Gc h
 refine JLh (BL p) (Gt O (Zw F y p b6) H4c ⟨O,O,ø⟩) O (JLh (BL (!p)) (Ym (b:=p) O O) O (G6 (b5 (JCc O h (fun h hb=>?_) (fun h hb=>?_)))))
 ·
  refine Jr fun b7=>(JLh (.agg [LS 1 (E1) ([]:List (List Int)),I64 0]) (Jm (cs:=[LS 1 (E1) ([]:List (List Int)),I64 0]) [(0,1),(1,1)] [LS 1 (E1) ([]:List (List Int)),I64 0] [.slice none 0 0,E0] Z1 Yr ⟨.inr ⟨_,O,O⟩,.inl O,ø⟩ O O) O (J9 (u:=.junk) (Hp (u:=.agg [LS 1 (E1) ([]:List (List Int)),I64 0]) (ds:=[LS 1 (E1) ([]:List (List Int)),I64 0]) Q1 O O O O O O O O) (JLm (I64 2) O (G6 (b7 (H0 (⟨[.agg [LS 1 (E1) ([]:List (List Int)),I64 0],I64 2],[],ø,O,⟨⟨_,⟨_,_,_,_,O,O,O,.inl ⟨Hf,O⟩⟩,.conv (.same O)⟩,⟨_,O,.conv (.same O)⟩,ø⟩,O,congrArg (fun r:Gs×Int=>(.tup (Ef r):AV)) (Ey h)⟩)))))))
 ·
  refine Gj (b4 (Js fun b8=>?_))
  refine Jr fun b9=>(JLh (.dptr [I64 m.From,I64 m.To]) (Gy G38 O O O) O (JLh (I64 m.From) (Gm Gh O O O) O (JLh (BL (decide (m.From < 0))) (Hx O O O) O (JLm (BL (decide (m.From < 0))) O (JLo (.dptr [I64 m.To]) [] O .scf ø (fun hc=>Gy Qt O O O) O (JLo (I64 m.To) [17] O .scf ⟨Ua,ø⟩ (fun hc=>Gm Gh O O O) O (JLo (BL (decide (m.To < 0))) [18] O .scf ⟨Ua,ø⟩ (fun hc=>Hx O O O) O (JLh (BL ((decide (m.From < 0))||(decide (m.To < 0)))) (Z6 O O O O) O (JLm (BL ((decide (m.From < 0))||(decide (m.To < 0)))) O (JLo (.dptr [I64 m.From,I64 m.To]) [] O .scf ø (fun hc=>Gy G38 O O O) O (JLo (I64 m.From) [22] O .scf ⟨Ua,ø⟩ (fun hc=>Gm Gh O O O) O (JLo (.dptr [LS 1 (E1) y.Stacks,I64 y.Height]) [] O .scf ø (fun hc=>Gy H2 O O O) O (JLo (LS 1 (E1) y.Stacks) [24] O .scf ⟨Ua,ø⟩ (fun hc=>Gm Gr O O O) O ?_)))))))))))))
  refine JLo (E7 y.Stacks.length) [25] O .scf ⟨Ua,ø⟩ (fun hc=>Q7 (f:=(E1)) (xs:=y.Stacks) Gf O O) O (JLo (BL (decide ((y.Stacks.length:Int)≤m.From))) [23,26] O .scf ⟨Ua,Ua,ø⟩ (fun hc=>G56 O O O) O (JLh (BL (((decide (m.From < 0))||(decide (m.To < 0)))||(decide ((y.Stacks.length:Int)≤m.From)))) (Z6 O O O O) O (JLm (BL (((decide (m.From < 0))||(decide (m.To < 0)))||(decide ((y.Stacks.length:Int)≤m.From)))) O (JLo (.dptr [I64 m.To]) [] O .scf ø (fun hc=>Gy Qt O O O) O (JLo (I64 m.To) [30] O .scf ⟨Ua,ø⟩ (fun hc=>Gm Gh O O O) O (JLo (.dptr [LS 1 (E1) y.Stacks,I64 y.Height]) [] O .scf ø (fun hc=>Gy H2 O O O) O (JLo (LS 1 (E1) y.Stacks) [32] O .scf ⟨Ua,ø⟩ (fun hc=>Gm Gr O O O) O (JLo (E7 y.Stacks.length) [33] O .scf ⟨Ua,ø⟩ (fun hc=>Q7 (f:=(E1)) (xs:=y.Stacks) Gf O O) O (JLo (BL (decide ((y.Stacks.length:Int)≤m.To))) [31,34] O .scf ⟨Ua,Ua,ø⟩ (fun hc=>G56 O O O) O (JLh (BL ((((decide (m.From < 0))||(decide (m.To < 0)))||(decide ((y.Stacks.length:Int)≤m.From)))||(decide ((y.Stacks.length:Int)≤m.To)))) (Z6 O O O O) O (G6 (b9 ?_))))))))))))
  refine JCc O h ?_ ?_<;>intro h hb
  ·
   refine Jr fun c0=>(JLh (.agg [LS 1 (E1) ([]:List (List Int)),I64 0]) (Jm (cs:=[LS 1 (E1) ([]:List (List Int)),I64 0]) [(0,1),(1,1)] [LS 1 (E1) ([]:List (List Int)),I64 0] [.slice none 0 0,E0] Z1 Yr ⟨.inr ⟨_,O,O⟩,.inl O,ø⟩ O O) O (J9 (u:=.junk) (Hp (u:=.agg [LS 1 (E1) ([]:List (List Int)),I64 0]) (ds:=[LS 1 (E1) ([]:List (List Int)),I64 0]) Q1 O O O O O O O O) (JLm (I64 6) O (G6 (c0 (H0 (⟨[.agg [LS 1 (E1) ([]:List (List Int)),I64 0],I64 6],[],ø,O,⟨⟨_,⟨_,_,_,_,O,O,O,.inl ⟨Hf,O⟩⟩,.conv (.same O)⟩,⟨_,O,.conv (.same O)⟩,ø⟩,O,congrArg (fun r:Gs×Int=>(.tup (Ef r):AV)) (Ey h)⟩)))))))
  ·
   refine Gj (b8 (Js fun c1=>Jr fun s=>(JLh (.dptr [I64 m.From,I64 m.To]) (Gy G38 O O O) O (JLh (I64 m.From) (Gm Gh O O O) O (JLh (.dptr [I64 m.To]) (Gy Qt O O O) O (JLh (I64 m.To) (Gm Gh O O O) O (JLh (BL (decide (m.From=m.To))) (Ya O O O) O (G6 (s (JCc O h (fun h hb=>?_) (fun h hb=>?_)))))))))))
   ·
    refine Jr fun t=>(JLh (.agg [LS 1 (E1) ([]:List (List Int)),I64 0]) (Jm (cs:=[LS 1 (E1) ([]:List (List Int)),I64 0]) [(0,1),(1,1)] [LS 1 (E1) ([]:List (List Int)),I64 0] [.slice none 0 0,E0] Z1 Yr ⟨.inr ⟨_,O,O⟩,.inl O,ø⟩ O O) O (J9 (u:=.junk) (Hp (u:=.agg [LS 1 (E1) ([]:List (List Int)),I64 0]) (ds:=[LS 1 (E1) ([]:List (List Int)),I64 0]) Q1 O O O O O O O O) (JLm (I64 340) O (G6 (t (H0 (⟨[.agg [LS 1 (E1) ([]:List (List Int)),I64 0],I64 340],[],ø,O,⟨⟨_,⟨_,_,_,_,O,O,O,.inl ⟨Hf,O⟩⟩,.conv (.same O)⟩,⟨_,O,.conv (.same O)⟩,ø⟩,O,congrArg (fun r:Gs×Int=>(.tup (Ef r):AV)) (Ey h)⟩)))))))
   ·
    refine Gj (c1 (Js fun v=>Qz (l':=[(2,.dptr [LS 1 (E1) y.Stacks,I64 y.Height]),(3,.dptr [I64 m.From,I64 m.To]),(4,.ptr 1087 0)]) (L':=[(1087,.box 67 [LS 1 (E1) ([]:List (List Int)),I64 0])]) ⟨(.sm O O),⟨⟨_,O,.boxL O (.sm O O)⟩,ø⟩,O⟩ ?_))
    obtain⟨c6,d,x,z,h⟩:=R6 h
    obtain⟨c7,a,a0,a1,h⟩:=R6 h
    refine JC_d0 Jg (by kernel_rfl) (Dq (.dptr [LS 1 (E1) y.Stacks,I64 y.Height]) (Gy H2 O O O) O (Dq (LS 1 (E1) y.Stacks) (Gm Gr O O O) O (Dq (.dptr [I64 m.From,I64 m.To]) (Gy G38 O O O) O (Dq (I64 m.From) (Gm Gh O O O) O (Dq (.dptr [E1 d]) (Gz (f:=(E1)) (xs:=y.Stacks) (y:=d) O O O Gf z x) O (Dq (E1 d) (Gm H4 O O O) O (Dq (.dptr [LS 1 (E1) y.Stacks,I64 y.Height]) (Gy H2 O O O) O (Dq (LS 1 (E1) y.Stacks) (Gm Gr O O O) O (Dq (.dptr [I64 m.To]) (Gy Qt O O O) O (Dq (I64 m.To) (Gm Gh O O O) O (Dq (.dptr [E1 a]) (Gz (f:=(E1)) (xs:=y.Stacks) (y:=a) O O O Gf a1 a0) O (Dq (E1 a) (Gm H4 O O O) O (Dq (E1 d) (G4 O O) O ?_)))))))))))))
    refine Dq (E1 a) (G4 O O) O (Dnil (v (Js fun a2=>Jr fun a3=>(JLm (E1 d) O (JLl G7 O O O fun c4=>(JLh (BL (decide ((d.length:Int)=0))) (Ya O O O) O (G6 (a3 (JCc O h (fun h hb=>?_) (fun h hb=>?_))))))))))
    ·
     refine Jr fun a4=>(JLh (.agg [LS 1 (E1) ([]:List (List Int)),I64 0]) (Jm (cs:=[LS 1 (E1) ([]:List (List Int)),I64 0]) [(0,1),(1,1)] [LS 1 (E1) ([]:List (List Int)),I64 0] [.slice none 0 0,E0] Z1 Yr ⟨.inr ⟨_,O,O⟩,.inl O,ø⟩ O O) O (J9 (u:=.junk) (Hp (u:=.agg [LS 1 (E1) ([]:List (List Int)),I64 0]) (ds:=[LS 1 (E1) ([]:List (List Int)),I64 0]) Q1 O O O O O O O O) (JLm (I64 341) O (G6 (a4 (H0 (⟨[.agg [LS 1 (E1) ([]:List (List Int)),I64 0],I64 341],[],ø,O,⟨⟨_,⟨_,_,_,_,O,O,O,.inl ⟨Hf,O⟩⟩,.conv (.same O)⟩,⟨_,O,.conv (.same O)⟩,ø⟩,O,congrArg (fun r:Gs×Int=>(.tup (Ef r):AV)) (Ey h)⟩)))))))
    ·
     refine Gj (a2 (Js fun a5=>Jr fun a6=>(JLm (E1 a) O (JLl G7 O O O fun c5=>(JLh (.dptr [I64 y.Height]) (Gy G17 O O O) O (JLh (I64 y.Height) (Gm Gh O O O) O (JLh (BL (decide (y.Height≤(a.length:Int)))) (G56 O O O) O (G6 (a6 (JCc O h (fun h hb=>?_) (fun h hb=>?_)))))))))))
     ·
      refine Jr fun a7=>(JLh (.agg [LS 1 (E1) ([]:List (List Int)),I64 0]) (Jm (cs:=[LS 1 (E1) ([]:List (List Int)),I64 0]) [(0,1),(1,1)] [LS 1 (E1) ([]:List (List Int)),I64 0] [.slice none 0 0,E0] Z1 Yr ⟨.inr ⟨_,O,O⟩,.inl O,ø⟩ O O) O (J9 (u:=.junk) (Hp (u:=.agg [LS 1 (E1) ([]:List (List Int)),I64 0]) (ds:=[LS 1 (E1) ([]:List (List Int)),I64 0]) Q1 O O O O O O O O) (JLm (I64 4) O (G6 (a7 (H0 (⟨[.agg [LS 1 (E1) ([]:List (List Int)),I64 0],I64 4],[],ø,O,⟨⟨_,⟨_,_,_,_,O,O,O,.inl ⟨Hf,O⟩⟩,.conv (.same O)⟩,⟨_,O,.conv (.same O)⟩,ø⟩,O,congrArg (fun r:Gs×Int=>(.tup (Ef r):AV)) (Ey h)⟩)))))))
     ·
      refine Gj (a5 (Js fun a8=>Qz (l':=[(2,.dptr [LS 1 (E1) y.Stacks,I64 y.Height]),(3,.dptr [I64 m.From,I64 m.To]),(4,.ptr 1087 0),(6,E1 d),(7,E1 a)]) (L':=[(1087,.box 67 [LS 1 (E1) ([]:List (List Int)),I64 0])]) ⟨(.sm O O),⟨fbQ O (.sm O O),ø⟩,rfl⟩ ?_))
      obtain⟨l,h⟩:=J3 h
      obtain⟨c2,i,h⟩:=J6 h
      obtain⟨c8,c,j,k,h⟩:=R6 h
      obtain⟨n,h⟩:=J3 h
      obtain⟨e,o,h⟩:=Gc h
      refine Qad [3,5,13,15,16] [[[false,false,false,false,false],[true,false,false,false,false],[true,true,false,false,false],[true,true,true,false,false],[false,false,false,true,false],[true,false,false,true,false],[true,true,false,true,false],[true,true,true,true,false]],[[false,false,false,false,false],[true,false,false,false,false],[true,true,false,false,false],[true,true,true,false,false],[false,false,false,true,false],[true,false,false,true,false],[true,true,false,true,false],[true,true,true,true,false]],[[false,false,false,false,false],[true,false,false,false,false],[true,true,false,false,false],[true,true,true,false,false],[false,false,false,true,false],[true,false,false,true,false],[true,true,false,true,false],[true,true,true,true,false]],[[false,false,false,false,false],[false,false,false,true,false]],[[false,false,false,false,false],[true,false,false,false,false],[false,false,false,true,false],[true,false,false,true,false]],[[true,false,false,false,false],[true,false,false,true,false]],[[false,false,false,false,false],[true,false,false,false,false],[true,true,false,false,false],[false,false,false,true,false],[true,false,false,true,false],[true,true,false,true,false]],[[false,false,false,false,false],[true,false,false,false,false],[true,true,false,false,false],[false,false,false,true,false],[true,false,false,true,false],[true,true,false,true,false]],[[false,false,false,false,false],[true,false,false,false,false],[true,true,false,false,false],[false,false,false,true,false],[true,false,false,true,false],[true,true,false,true,false]],[[false,false,false,false,false],[true,false,false,false,false],[true,true,false,false,false],[false,false,false,true,false],[true,false,false,true,false],[true,true,false,true,false]],[[false,false,false,false,false],[true,false,false,false,false],[true,true,false,false,false],[false,false,false,true,false],[true,false,false,true,false],[true,true,false,true,false]],[[false,false,false,false,false],[true,false,false,false,false],[true,true,false,false,false],[false,false,false,true,false],[true,false,false,true,false],[true,true,false,true,false]],[[false,false,false,false,false],[true,false,false,false,false],[true,true,false,false,false],[false,false,false,true,false],[true,false,false,true,false],[true,true,false,true,false]],[[true,true,false,false,false],[true,true,false,true,false]],[[true,true,true,false,false],[true,true,true,true,false]],[[false,false,false,false,false],[true,false,false,false,false],[true,true,false,false,false],[true,true,true,false,false]],[[true,true,true,true,false]]] [([false,false,false,false,false],[(1087,.box 67 [LS 1 (E1) ([]:List (List Int)),I64 0])]),([true,false,false,false,false],[(1087,.box 67 [LS 1 (E1) ([]:List (List Int)),I64 0]),(1089,.spare 3 1 ([]:List Int).length ([]:List Int).length)]),([true,true,false,false,false],[(1087,.box 67 [LS 1 (E1) ([]:List (List Int)),I64 0]),(1089,.spare 3 1 (([]:List Int)++a).length (([]:List Int)++a).length)]),([true,true,true,false,false],[(1087,.box 67 [LS 1 (E1) ([]:List (List Int)),I64 0]),(1089,.spare 3 1 ((([]:List Int)++a)++[c]).length ((([]:List Int)++a)++[c]).length)]),([false,false,false,true,false],[(1087,.box 67 [LS 1 (E1) ([]:List (List Int)),I64 0]),(1088,.box 67 [.junk,.junk])]),([true,false,false,true,false],[(1087,.box 67 [LS 1 (E1) ([]:List (List Int)),I64 0]),(1089,.spare 3 1 ([]:List Int).length ([]:List Int).length),(1088,.box 67 [.junk,.junk])]),([true,true,false,true,false],[(1087,.box 67 [LS 1 (E1) ([]:List (List Int)),I64 0]),(1089,.spare 3 1 (([]:List Int)++a).length (([]:List Int)++a).length),(1088,.box 67 [.junk,.junk])]),([true,true,true,true,false],[(1087,.box 67 [LS 1 (E1) ([]:List (List Int)),I64 0]),(1089,.spare 3 1 ((([]:List Int)++a)++[c]).length ((([]:List Int)++a)++[c]).length),(1088,.box 67 [.junk,.junk])]),([true,true,true,true,true],[(1087,.box 67 [LS 1 (E1) ([]:List (List Int)),I64 0]),(1089,.spare 3 1 ((([]:List Int)++a)++[c]).length ((([]:List Int)++a)++[c]).length),(1088,.box 67 [LS 1 (E1) e.Stacks,I64 e.Height])])] Jg (by kernel_rfl) rfl rfl ?_
      refine G97 (u:=.agg [LS 1 (E1) y.Stacks,I64 y.Height]) O ⟨.ro O O (Ga (Gu Hf O O O) O),.ro O O (Ga (Gu Hf O O O) O),.ro O O (Ga (Gu Hf O O O) O),.ro O O (Ga (Gu Hf O O O) O),.ro O O (Ga (Gu Hf O O O) O),.ro O O (Ga (Gu Hf O O O) O),.ro O O (Ga (Gu Hf O O O) O),.ro O O (Ga (Gu Hf O O O) O),ø⟩ ?_ O
      refine G97 (u:=.dptr [I64 m.To]) O ⟨.ro O O (Ga (Gy Qt O O O) O),.ro O O (Ga (Gy Qt O O O) O),.ro O O (Ga (Gy Qt O O O) O),.ro O O (Ga (Gy Qt O O O) O),.ro O O (Ga (Gy Qt O O O) O),.ro O O (Ga (Gy Qt O O O) O),.ro O O (Ga (Gy Qt O O O) O),.ro O O (Ga (Gy Qt O O O) O),ø⟩ ?_ O
      refine G97 (u:=I64 m.To) O ⟨.ro O O (Ga (Gm Gh O O O) O),.ro O O (Ga (Gm Gh O O O) O),.ro O O (Ga (Gm Gh O O O) O),.ro O O (Ga (Gm Gh O O O) O),.ro O O (Ga (Gm Gh O O O) O),.ro O O (Ga (Gm Gh O O O) O),.ro O O (Ga (Gm Gh O O O) O),.ro O O (Ga (Gm Gh O O O) O),ø⟩ ?_ O
      refine G97 (u:=OW 1089 1 I64 ([]:List Int)) O ⟨.w [1087,1089] O O (Ga (Ge3 1089 3 1 O O G7) O) O O ⟨O,O,ø⟩,.w [1087,1088,1089] O O (Ga (Ge3 1089 3 1 O O G7) O) O O ⟨O,O,O,ø⟩,ø⟩ ?_ O
      refine G97 (u:=E1 a) O ⟨.ro O O (Ga (G2 O O) O),.ro O O (Ga (G2 O O) O),.ro O O (Ga (G2 O O) O),.ro O O (Ga (G2 O O) O),ø⟩ ?_ O
      refine G97 (u:=OW 1089 1 I64 (([]:List Int)++a)) O ⟨.w [1087,1089] O O (Ga (G33 (f:=I64) (xs:=([]:List Int)) (ys:=a) O O O O G7 Ra l (fun _=>O) (.inl O)) O) O O ⟨O,O,ø⟩,.w [1087,1089,1088] O O (Ga (G33 (f:=I64) (xs:=([]:List Int)) (ys:=a) O O O O G7 Ra l (fun _=>O) (.inl O)) O) O O ⟨O,O,O,ø⟩,ø⟩ ?_ O
      refine G97 (u:=E1 d) O ⟨.ro O O (Ga (G2 O O) O),.ro O O (Ga (G2 O O) O),.ro O O (Ga (G2 O O) O),.ro O O (Ga (G2 O O) O),.ro O O (Ga (G2 O O) O),.ro O O (Ga (G2 O O) O),ø⟩ ?_ O
      refine G97 (u:=E1 d) O ⟨.ro O O (Ga (G2 O O) O),.ro O O (Ga (G2 O O) O),.ro O O (Ga (G2 O O) O),.ro O O (Ga (G2 O O) O),.ro O O (Ga (G2 O O) O),.ro O O (Ga (G2 O O) O),ø⟩ ?_ O
      refine G97 (u:=E7 d.length) O ⟨.ro O O (Ga (Q7 (f:=I64) (xs:=d) G7 O O) O),.ro O O (Ga (Q7 (f:=I64) (xs:=d) G7 O O) O),.ro O O (Ga (Q7 (f:=I64) (xs:=d) G7 O O) O),.ro O O (Ga (Q7 (f:=I64) (xs:=d) G7 O O) O),.ro O O (Ga (Q7 (f:=I64) (xs:=d) G7 O O) O),.ro O O (Ga (Q7 (f:=I64) (xs:=d) G7 O O) O),ø⟩ ?_ O
      refine G97 (u:=I64 c2) O ⟨.ro O O (Ga (Yq i O O O) O),.ro O O (Ga (Yq i O O O) O),.ro O O (Ga (Yq i O O O) O),.ro O O (Ga (Yq i O O O) O),.ro O O (Ga (Yq i O O O) O),.ro O O (Ga (Yq i O O O) O),ø⟩ ?_ O
      refine G97 (u:=.dptr [I64 c]) O ⟨.ro O O (Ga (Gz (f:=I64) (xs:=d) (y:=c) O O O G7 k j) O),.ro O O (Ga (Gz (f:=I64) (xs:=d) (y:=c) O O O G7 k j) O),.ro O O (Ga (Gz (f:=I64) (xs:=d) (y:=c) O O O G7 k j) O),.ro O O (Ga (Gz (f:=I64) (xs:=d) (y:=c) O O O G7 k j) O),.ro O O (Ga (Gz (f:=I64) (xs:=d) (y:=c) O O O G7 k j) O),.ro O O (Ga (Gz (f:=I64) (xs:=d) (y:=c) O O O G7 k j) O),ø⟩ ?_ O
      refine G97 (u:=I64 c) O ⟨.ro O O (Ga (Gm Gh O O O) O),.ro O O (Ga (Gm Gh O O O) O),.ro O O (Ga (Gm Gh O O O) O),.ro O O (Ga (Gm Gh O O O) O),.ro O O (Ga (Gm Gh O O O) O),.ro O O (Ga (Gm Gh O O O) O),ø⟩ ?_ O
      refine G97 (u:=E1 [c]) O ⟨.ro O O (Ga (H9 (xs:=[I64 c]) O ⟨O,O,ø⟩ G7 Je O O O O) O),.ro O O (Ga (H9 (xs:=[I64 c]) O ⟨O,O,ø⟩ G7 Je O O O O) O),.ro O O (Ga (H9 (xs:=[I64 c]) O ⟨O,O,ø⟩ G7 Je O O O O) O),.ro O O (Ga (H9 (xs:=[I64 c]) O ⟨O,O,ø⟩ G7 Je O O O O) O),.ro O O (Ga (H9 (xs:=[I64 c]) O ⟨O,O,ø⟩ G7 Je O O O O) O),.ro O O (Ga (H9 (xs:=[I64 c]) O ⟨O,O,ø⟩ G7 Je O O O O) O),ø⟩ ?_ O
      refine G97 (u:=OW 1089 1 I64 ((([]:List Int)++a)++[c])) O ⟨.w [1087,1089] O O (Ga (Rw (f:=I64) (xs:=(([]:List Int)++a)) (ys:=[c]) O O O O G7 Ra n (fun _=>O) (.inl O) O) O) O O ⟨O,O,ø⟩,.w [1087,1089,1088] O O (Ga (Rw (f:=I64) (xs:=(([]:List Int)++a)) (ys:=[c]) O O O O G7 Ra n (fun _=>O) (.inl O) O) O) O O ⟨O,O,O,ø⟩,ø⟩ ?_ O
      refine G97 (u:=.agg [LS 1 (E1) e.Stacks,I64 e.Height]) O ⟨.ro O O (Ga (Gt O (Yo y m.To ((([]:List Int)++a)++[c]) e o) Gea ⟨O,O,O,O,O,O,ø⟩) O),.ro O O (Ga (Gt O (Yo y m.To ((([]:List Int)++a)++[c]) e o) Gea ⟨O,O,O,O,O,O,ø⟩) O),ø⟩ ?_ O
      refine G97 (u:=.ptr 1088 0) O ⟨.w [1087,1088] O O (Ga (Jh 1088 2 Yk O O) O) O O ⟨O,O,ø⟩,.w [1087,1089,1088] O O (Ga (Jh 1088 2 Yk O O) O) O O ⟨O,O,O,ø⟩,.w [1087,1089,1088] O O (Ga (Jh 1088 2 Yk O O) O) O O ⟨O,O,O,ø⟩,.w [1087,1089,1088] O O (Ga (Jh 1088 2 Yk O O) O) O O ⟨O,O,O,ø⟩,ø⟩ ?_ O
      refine R34 (u:=.junk) O ⟨.w [1087,1089,1088] O O (Ga (Hp (u:=.agg [LS 1 (E1) e.Stacks,I64 e.Height]) (ds:=[LS 1 (E1) e.Stacks,I64 e.Height]) Q1 O O O O O O O O) O) O O ⟨O,O,O,ø⟩,ø⟩ (R33 (a8 (fzQ [(3,.dptr [I64 m.From,I64 m.To]),(4,.ptr 1087 0),(6,E1 d),(8,.dptr [LS 1 (E1) e.Stacks,I64 e.Height])] [(1087,.box 67 [LS 1 (E1) ([]:List (List Int)),I64 0]),(1089,.spare 3 1 ((([]:List Int)++a)++[c]).length ((([]:List Int)++a)++[c]).length)] 1088 rfl rfl rfl ⟨⟨_,rfl,.boxEq rfl rfl⟩,⟨_,rfl,.same⟩,ø⟩ rfl (Js fun a9=>?_))))
      refine Qz (l':=[(3,.dptr [I64 m.From,I64 m.To]),(4,.ptr 1087 0),(6,E1 d),(8,.dptr [LS 1 (E1) e.Stacks,I64 e.Height])]) (L':=[(1087,.box 67 [LS 1 (E1) ([]:List (List Int)),I64 0]),(1089,.spare 3 1 ((([]:List Int)++a)++[c]).length ((([]:List Int)++a)++[c]).length)]) ⟨(.sm O O),⟨fbQ O (.sm O O),⟨_,rfl,.same⟩,ø⟩,rfl⟩ ?_
      obtain⟨c3,b0,h⟩:=J6 h
      obtain⟨q,b1,h⟩:=Gc h
      obtain⟨g,b2,h⟩:=Gc h
      refine Ju [9] [0,0,0,0,0,0,0,0,0,0,1] [0,0,0,0,0,0,0,0,0,0,1] [[(1087,.box 67 [LS 1 (E1) ([]:List (List Int)),I64 0]),(1089,.spare 3 1 ((([]:List Int)++a)++[c]).length ((([]:List Int)++a)++[c]).length)],((1087,.box 67 [LS 1 (E1) g.Stacks,I64 g.Height])::[(1087,.box 67 [LS 1 (E1) ([]:List (List Int)),I64 0]),(1089,.spare 3 1 ((([]:List Int)++a)++[c]).length ((([]:List Int)++a)++[c]).length)])] Jg (by kernel_rfl) rfl rfl ?_
      refine Gb (u:=.agg [LS 1 (E1) e.Stacks,I64 e.Height]) O O ⟨Ga (Gu Hf O O O) O,ø⟩ (Gb (u:=.dptr [I64 m.From,I64 m.To]) O O ⟨Ga (Gy G38 O O O) O,ø⟩ (Gb (u:=I64 m.From) O O ⟨Ga (Gm Gh O O O) O,ø⟩ (Gb (u:=E1 d) O O ⟨Ga (G2 O O) O,ø⟩ (Gb (u:=E1 d) O O ⟨Ga (G2 O O) O,ø⟩ (Gb (u:=E7 d.length) O O ⟨Ga (Q7 (f:=I64) (xs:=d) G7 O O) O,ø⟩ (Gb (u:=I64 c3) O O ⟨Ga (Yq b0 O O O) O,ø⟩ (Gb (u:=E1 (d.take q)) O O ⟨Ga (H6b (f:=I64) (xs:=d) O O O G7 (Hc b1)) O,ø⟩ (Gb (u:=.agg [LS 1 (E1) g.Stacks,I64 g.Height]) O O ⟨Ga (Gt O (Yo e m.From (d.take q) g b2) Gea ⟨O,O,O,O,O,O,ø⟩) O,ø⟩ (H0e (u:=.junk) O O O O (Ga (Hp (u:=.agg [LS 1 (E1) g.Stacks,I64 g.Height]) (ds:=[LS 1 (E1) g.Stacks,I64 g.Height]) Q1 O O O O O O O O) O) (Gb (u:=I64 0) O O ⟨Ga (G4 O O) O,ø⟩ (Ru ?_)))))))))))
      refine a9 (H0 (⟨[.agg [LS 1 (E1) g.Stacks,I64 g.Height],I64 0],[],ø,O,⟨⟨_,⟨_,_,_,_,O,O,O,.inl ⟨Hf,O⟩⟩,.conv (.same O)⟩,⟨_,O,.conv (.same O)⟩,ø⟩,O,congrArg (fun r:Gs×Int=>(.tup (Ef r):AV)) (Ey h)⟩))

def Hz (F:Nat) (y:Gs) (order:List Int):Option (List Int):=
 each (fun i p (f:(List Int)) j=>
  each (fun c e (a:(List Int)) g=>
   jp (fun d=>
    need (decide ((e:Int)≤9223372036854775807)) <|
    upto (fun k (b:Bool) h=>
     bnd (bif (!b) then Qn i (k:Int) some else some default) fun l=>
     bnd (bif (!b) then J7 order l else some default) fun m=>
     bnd (bif (!b) then J7 order c else some default) fun n=>
     h (b||(decide (m < n))))
    (fun(b:Bool)=>
     bif b then
     (need (decide ((a.length+[c].length)*8≤140737488355328∧a.length+[c].length≤maxLen)) <|
      d (a++[c]))
     else
     (d a)) (e:Int).toNat 0 false) fun(o:(List Int))=>
   g o)
  (fun(a:(List Int))=>
   j a) i 0 f)
 (fun(f:(List Int))=>
  some f) y.Stacks 0 []
theorem Yf (F:Nat) (y:Gs) (order:List Int) (r:(List Int)) (h:Hz F y order=some r):Pure E8 67 [.agg [LS 1 (E1) y.Stacks,I64 y.Height],E1 order] (·=E1 r):=by
 unfold Hz at h
 refine Hb [.tmp 4] Try.func67 O O (Jr fun c7=>(JLh (.ptr 1071 0) (Q5 (cs:=[LS 1 (E1) y.Stacks,I64 y.Height]) 1071 O O O O O) O (JLh (E1 ([]:List Int)) (Jk 1 O O) O (G6 (c7 (H5 [(1,E1 order),(2,.dptr [LS 1 (E1) y.Stacks,I64 y.Height])] [] 1071 rfl rfl rfl ø rfl (by exact⟨.conv (.same rfl),.ptr,ø⟩) (Jr fun c8=>(JLh (OW 1073 1 I64 ([]:List Int)) (Ge4 1073 3 1 O O O) O (G6 (c8 (Js fun c9=>Jr fun d0=>(JLm (I64 0) O (G6 (d0 (Gg ?_)))))))))))))))
 obtain⟨b5,d1,d2,a1,h⟩:=J4 h
 refine H7 (fun d (k:(List Int))=>each b5 d1 (List.drop d y.Stacks) d k=some r) (fun d k=>[(1,E1 order),(2,.dptr [LS 1 (E1) y.Stacks,I64 y.Height]),(5,OW 1073 1 I64 k),(6,E7 d)]) (fun d k=>[(1073,.spare 3 1 k.length k.length)]) (fun d=>y.Stacks.length - d) 0 [] h ⟨(.sm O O),⟨⟨_,rfl,.same⟩,ø⟩,rfl⟩ ?_
 clear h
 intro d k z K5 e5
 refine Js fun d3=>Jr fun d4=>(JLm (E7 d) O (JLh (.dptr [LS 1 (E1) y.Stacks,I64 y.Height]) (Gy H2 O O O) O (JLh (LS 1 (E1) y.Stacks) (Gm Gr O O O) O (JLl Gf O O O fun a2=>(JLh (BL (decide ((d:Int) < (y.Stacks.length:Int)))) (Hx O O O) O (G6 (d4 (Gi O (fun hb=>?_) (fun hb=>?_)))))))))
 ·
  have a0:=Jo hb
  obtain⟨i,e7,o,d5,h⟩:=Hq z a0
  replace h:=Yn d2 h
  refine Gj (d3 (Js fun d6=>Gg (Jr fun d7=>(JLm (I64 0) O (G6 (d7 (Gg ?_)))))))
  obtain⟨d8,a3,a4,v,h⟩:=J4 h
  refine H7 (fun a (b:(List Int))=>each d8 a3 (List.drop a i) a b=some r) (fun a b=>[(1,E1 order),(2,.dptr [LS 1 (E1) y.Stacks,I64 y.Height]),(5,OW 1073 1 I64 b),(6,E7 d),(7,E7 a)]) (fun a b=>[(1073,.spare 3 1 b.length b.length)]) (fun a=>i.length - a) 0 k h ⟨(.sm O O),⟨⟨_,rfl,.same⟩,ø⟩,rfl⟩ ?_
  clear h
  intro a b p e8 d9
  refine Js fun a5=>Jr fun a6=>(JLm (E7 a) O (JLh (.dptr [LS 1 (E1) y.Stacks,I64 y.Height]) (Gy H2 O O O) O (JLh (LS 1 (E1) y.Stacks) (Gm Gr O O O) O (JLm (E7 d) O (JLh (.dptr [E1 i]) (Gz (f:=(E1)) (xs:=y.Stacks) (y:=i) O O O Gf o O) O (JLh (E1 i) (Gm H4 O O O) O (JLl G7 O O O fun a7=>(JLh (BL (decide ((a:Int) < (i.length:Int)))) (Hx O O O) O (G6 (a6 (Gi O (fun hb=>?_) (fun hb=>?_))))))))))))
  ·
   have q:=Jo hb
   obtain⟨e,e4,s,a8,h⟩:=Hq p q
   replace h:=Yn a4 h
   refine Gj (a5 ?_)
   obtain⟨a9,w,h⟩:=G0e h
   refine Zd (fun j:(List Int)=>a9 j=some r) (fun j=>[(1,E1 order),(2,.dptr [LS 1 (E1) y.Stacks,I64 y.Height]),(5,OW 1073 1 I64 j),(6,E7 d),(7,E7 a)]) (fun j=>[(1073,.spare 3 1 j.length j.length)]) (fun Kj13 ej13=>?_) ?_
   ·
    refine Gg (Jr fun b0=>(JLm (BL false) O (G6 (b0 (Js fun b1=>Jr fun b2=>(JLm (I64 0) O (G6 (b2 (Gg ?_)))))))))
    obtain⟨b3,h⟩:=J3 h
    obtain⟨e0,b4,b6,x,h⟩:=Gc0 h
    refine H7 (fun c (g:Bool)=>upto e0 b4 ((a:Int).toNat - c) c g=some r) (fun c g=>[(1,E1 order),(2,.dptr [LS 1 (E1) y.Stacks,I64 y.Height]),(5,OW 1073 1 I64 b),(6,E7 d),(7,E7 a),(8,BL g),(9,E7 c)]) (fun c g=>[(1073,.spare 3 1 b.length b.length)]) (fun c=>(a:Int).toNat - c) 0 false h ⟨(.sm O O),⟨⟨_,rfl,.same⟩,ø⟩,rfl⟩ ?_
    clear h
    intro c g t e9 e1
    refine Js fun b7=>Jr fun b8=>(JLm (E7 c) O (JLm (E7 a) O (JLh (BL (decide ((c:Int) < (a:Int)))) (Hx O O O) O (G6 (b8 (Gi O (fun hb=>?_) (fun hb=>?_)))))))
    ·
     have u:=G87 hb
     obtain⟨e6,b9,h⟩:=G81 t u
     replace h:=Ja2 b6 h
     refine Gj (b7 (Js fun c0=>Gg (Qz (l':=[(1,E1 order),(2,.dptr [LS 1 (E1) y.Stacks,I64 y.Height]),(5,OW 1073 1 I64 b),(6,E7 d),(7,E7 a),(8,BL g),(9,E7 c)]) (L':=[(1073,.spare 3 1 b.length b.length)]) ⟨(.sm O O),⟨⟨_,rfl,.same⟩,ø⟩,rfl⟩ ?_)))
     obtain⟨n,c1,h⟩:=Gc h
     obtain⟨l,c2,h⟩:=Gc h
     obtain⟨m,c3,h⟩:=Gc h
     refine JC_d0 Jg (by kernel_rfl) (Dq (BL g) (G2 O O) O (Dq (BL g) (G2 O O) O (Do (E1 order) [] O .scf ø (fun hc=>G2 O O) O (Do (.dptr [LS 1 (E1) y.Stacks,I64 y.Height]) [] O .scf ø (fun hc=>Gy H2 O O O) O (Do (LS 1 (E1) y.Stacks) [35] O .scf ⟨Ua,ø⟩ (fun hc=>Gm Gr O O O) O (Do (E7 d) [] O .scf ø (fun hc=>G2 O O) O (Do (.dptr [E1 i]) [36,37] O .scf ⟨Ua,Ua,ø⟩ (fun hc=>Gz (f:=(E1)) (xs:=y.Stacks) (y:=i) O O O Gf o O) O (Do (E1 i) [38] O .scf ⟨Ua,ø⟩ (fun hc=>Gm H4 O O O) O (Do (E7 c) [] O .scf ø (fun hc=>G2 O O) O (Do (.dptr [I64 n]) [39,40] O .scf ⟨Ua,Ua,ø⟩ (fun hc=>(match G51 (H1 hc c1) with | ⟨_,hm_,hy_⟩=>Gz (f:=I64) (xs:=i) (y:=n) O O O G7 hy_ hm_)) O (Do (I64 n) [41] O .scf ⟨Ua,ø⟩ (fun hc=>Gm Gh O O O) O (Do (I64 l) [34,42] O .scf ⟨Ua,Ua,ø⟩ (fun hc=>Gt (args:=[E1 order,I64 n]) O (Jc order n l (H1 hc c2)) Zu ⟨O,O,O,O,ø⟩) O (Do (E1 order) [] O .scf ø (fun hc=>G2 O O) O ?_)))))))))))))
     refine Do (.dptr [LS 1 (E1) y.Stacks,I64 y.Height]) [] O .scf ø (fun hc=>Gy H2 O O O) O (Do (LS 1 (E1) y.Stacks) [45] O .scf ⟨Ua,ø⟩ (fun hc=>Gm Gr O O O) O (Do (E7 d) [] O .scf ø (fun hc=>G2 O O) O (Do (.dptr [E1 i]) [46,47] O .scf ⟨Ua,Ua,ø⟩ (fun hc=>Gz (f:=(E1)) (xs:=y.Stacks) (y:=i) O O O Gf o O) O (Do (E1 i) [48] O .scf ⟨Ua,ø⟩ (fun hc=>Gm H4 O O O) O (Do (E7 a) [] O .scf ø (fun hc=>G2 O O) O (Do (.dptr [I64 e]) [49,50] O .scf ⟨Ua,Ua,ø⟩ (fun hc=>Gz (f:=I64) (xs:=i) (y:=e) O O O G7 s O) O (Do (I64 e) [51] O .scf ⟨Ua,ø⟩ (fun hc=>Gm Gh O O O) O (Do (I64 m) [44,52] O .scf ⟨Ua,Ua,ø⟩ (fun hc=>Gt (args:=[E1 order,I64 e]) O (Jc order e m (H1 hc c3)) Zu ⟨O,O,O,O,ø⟩) O (Do (BL (decide (l < m))) [43,53] O .scf ⟨Ua,Ua,ø⟩ (fun hc=>Hx O O O) O (Dq (BL (g||(decide (l < m)))) (Z6 O O O O) O (Dq (BL (g||(decide (l < m)))) (G4 O O) O (Dnil ?_))))))))))))
     refine c0 (G1 (JLm (E7 c) O (JLh (I64 ((c+1:Nat):Int)) (Hy (Hk u (G4a b3)) O O O) O (JLm (I64 ((c+1:Nat):Int)) O (G6 (e1 _ _ (c+1) (g||(decide (l < m))) (app1 b9 h) (by omega) ⟨(.sm O O),⟨⟨_,rfl,.same⟩,ø⟩,rfl⟩))))))
    ·
     have h:=app1 x (G82 t (Zk hb))
     refine Hd (b1 (Jr fun c4=>(JLm (BL g) O (G6 (c4 (JCc O h (fun h hb=>?_) (fun h hb=>?_)))))))
     ·
      refine G1 (JLm (OW 1073 1 I64 b) O (JLh (.dptr [LS 1 (E1) y.Stacks,I64 y.Height]) (Gy H2 O O O) O (JLh (LS 1 (E1) y.Stacks) (Gm Gr O O O) O (JLm (E7 d) O (JLh (.dptr [E1 i]) (Gz (f:=(E1)) (xs:=y.Stacks) (y:=i) O O O Gf o O) O (JLh (E1 i) (Gm H4 O O O) O (JLm (E7 a) O (JLh (.dptr [I64 e]) (Gz (f:=I64) (xs:=i) (y:=e) O O O G7 s O) O (JLh (I64 e) (Gm Gh O O O) O (JLh (E1 [e]) (H9 (xs:=[I64 e]) O ⟨O,O,ø⟩ G7 Je O O O O) O ?_))))))))))
      obtain⟨c5,h⟩:=J3 h
      refine JLh (OW 1073 1 I64 (b++[e])) (Rw (f:=I64) (xs:=b) (ys:=[e]) O O O O G7 Ra c5 (fun _=>O) (.inl O) O) O (JLm (OW 1073 1 I64 (b++[e])) O (G6 (ej13 _ _ (b++[e]) h ⟨(.sm O O),⟨⟨_,rfl,.same⟩,ø⟩,rfl⟩)))
     ·
      refine Gj (ej13 _ _ b h ⟨(.sm O O),⟨⟨_,rfl,.same⟩,ø⟩,rfl⟩)
   ·intro j h
    replace h:=app1 w h
    refine G1 (JLm (E7 a) O (JLh (I64 ((a+1:Nat):Int)) (Hy (Hk q a7) O O O) O (JLm (I64 ((a+1:Nat):Int)) O (G6 (d9 _ _ (a+1) j (app1 a8 h) (by omega) ⟨(.sm O O),⟨⟨_,rfl,.same⟩,ø⟩,rfl⟩)))))
  ·
   have h:=app1 v (Hr p (Ha hb))
   refine Hd (d6 (G1 (JLm (E7 d) O (JLh (I64 ((d+1:Nat):Int)) (Hy (Hk a0 a2) O O O) O (JLm (I64 ((d+1:Nat):Int)) O (G6 (e5 _ _ (d+1) b (app1 d5 h) (by omega) ⟨(.sm O O),⟨⟨_,rfl,.same⟩,ø⟩,rfl⟩)))))))
 ·
  have h:=app1 a1 (Hr z (Ha hb))
  refine Hd (c9 (Jr fun c6=>(JLm (OW 1073 1 I64 k) O (JLm (OW 1073 1 I64 k) O (G6 (c6 (H0 (fin1l (fun r:(List Int)=>(E1 r:AV)) h))))))))

def Y3 (F:Nat) (a:Gs) (b:Gs):Option Bool:=
 each (fun d e (m:Unit) f=>
  Qn b.Stacks (e:Int) fun g=>
  bif decide ((d.length:Int)≠(g.length:Int)) then
  (some false)
  else
  (each (fun h i (j:Unit) c=>
    Qn b.Stacks (e:Int) fun k=>
    Qn k (i:Int) fun l=>
    bif decide (h≠l) then
    (some false)
    else
    (c ()))
   (fun(j:Unit)=>
    f ()) d 0 ()))
 (fun(m:Unit)=>
  some true) a.Stacks 0 ()
theorem Gdf (F:Nat) (a:Gs) (b:Gs) (r:Bool) (h:Y3 F a b=some r):Pure E8 92 [.agg [LS 1 (E1) a.Stacks,I64 a.Height],.agg [LS 1 (E1) b.Stacks,I64 b.Height]] (·=BL r):=by
 unfold Y3 at h
 refine Hb [.tmp 4] Try.func92 O O (Jr fun b7=>(JLh (.ptr 1098 0) (Q5 (cs:=[LS 1 (E1) a.Stacks,I64 a.Height]) 1098 O O O O O) O (JLh (.ptr 1099 0) (Q5 (cs:=[LS 1 (E1) b.Stacks,I64 b.Height]) 1099 O O O O O) O (JLm (BL false) O (G6 (b7 (H5 [(2,.dptr [LS 1 (E1) a.Stacks,I64 a.Height]),(3,.ptr 1099 0)] [(1099,.box 67 [LS 1 (E1) b.Stacks,I64 b.Height])] 1098 rfl rfl rfl ⟨⟨_,rfl,.boxEq rfl rfl⟩,ø⟩ rfl (by exact⟨.ptr,.conv (.same rfl),ø⟩) (H5 [(2,.dptr [LS 1 (E1) a.Stacks,I64 a.Height]),(3,.dptr [LS 1 (E1) b.Stacks,I64 b.Height])] [] 1099 rfl rfl rfl ø rfl (by exact⟨.conv (.same rfl),.ptr,ø⟩) (Js fun b8=>Jr fun b9=>(JLm (I64 0) O (G6 (b9 (Gg ?_)))))))))))))
 obtain⟨b4,c0,c1,u,h⟩:=J4 h
 refine H7 (fun d (p:Unit)=>each b4 c0 (List.drop d a.Stacks) d p=some r) (fun d p=>[(2,.dptr [LS 1 (E1) a.Stacks,I64 a.Height]),(3,.dptr [LS 1 (E1) b.Stacks,I64 b.Height]),(5,E7 d)]) (fun d p=>[]) (fun d=>a.Stacks.length - d) 0 () h ⟨(.sm O O),ø,O⟩ ?_
 clear h
 intro d p s K4 e4
 refine Js fun c2=>Jr fun c3=>(JLm (E7 d) O (JLh (.dptr [LS 1 (E1) a.Stacks,I64 a.Height]) (Gy H2 O O O) O (JLh (LS 1 (E1) a.Stacks) (Gm Gr O O O) O (JLl Gf O O O fun v=>(JLh (BL (decide ((d:Int) < (a.Stacks.length:Int)))) (Hx O O O) O (G6 (c3 (Gi O (fun hb=>?_) (fun hb=>?_)))))))))
 ·
  have t:=Jo hb
  obtain⟨e,d3,m,c4,h⟩:=Hq s t
  replace h:=Yn c1 h
  refine Gj (c2 (Js fun c5=>Gg (Js fun c6=>Js fun c7=>?_)))
  obtain⟨d4,g,w,x,h⟩:=R6 h
  refine JC_d0 Jg (by kernel_rfl) (Dq (.dptr [LS 1 (E1) a.Stacks,I64 a.Height]) (Gy H2 O O O) O (Dq (LS 1 (E1) a.Stacks) (Gm Gr O O O) O (Dq (E7 d) (G2 O O) O (Dq (.dptr [E1 e]) (Gz (f:=(E1)) (xs:=a.Stacks) (y:=e) O O O Gf m O) O (Dq (E1 e) (Gm H4 O O O) O (Dq (E7 e.length) (Q7 (f:=I64) (xs:=e) G7 O O) O (Dq (.dptr [LS 1 (E1) b.Stacks,I64 b.Height]) (Gy H2 O O O) O (Dq (LS 1 (E1) b.Stacks) (Gm Gr O O O) O (Dq (E7 d) (G2 O O) O (Dq (.dptr [E1 g]) (Gz (f:=(E1)) (xs:=b.Stacks) (y:=g) O O O Gf x w) O (Dq (E1 g) (Gm H4 O O O) O (Dq (E7 g.length) (Q7 (f:=I64) (xs:=g) G7 O O) O (Dq (BL (decide ((e.length:Int)≠(g.length:Int)))) (G16 O O O) O (Dnil ?_))))))))))))))
  refine c7 (JCc O h (fun h hb=>?_) (fun h hb=>?_))
  ·
   refine Jr fun z=>(JLm (BL false) O (G6 (z (H0 (fin1 BL h)))))
  ·
   refine Gj (c6 (Jr fun a0=>(JLm (I64 0) O (G6 (a0 (Gg ?_))))))
   obtain⟨c8,a1,a2,q,h⟩:=J4 h
   refine H7 (fun c (i:Unit)=>each c8 a1 (List.drop c e) c i=some r) (fun c i=>[(2,.dptr [LS 1 (E1) a.Stacks,I64 a.Height]),(3,.dptr [LS 1 (E1) b.Stacks,I64 b.Height]),(5,E7 d),(6,E7 c)]) (fun c i=>[]) (fun c=>e.length - c) 0 () h ⟨(.sm O O),ø,rfl⟩ ?_
   clear h
   intro c i n d5 c9
   refine Js fun a3=>Jr fun a4=>(JLm (E7 c) O (JLh (.dptr [LS 1 (E1) a.Stacks,I64 a.Height]) (Gy H2 O O O) O (JLh (LS 1 (E1) a.Stacks) (Gm Gr O O O) O (JLm (E7 d) O (JLh (.dptr [E1 e]) (Gz (f:=(E1)) (xs:=a.Stacks) (y:=e) O O O Gf m O) O (JLh (E1 e) (Gm H4 O O O) O (JLl G7 O O O fun a5=>(JLh (BL (decide ((c:Int) < (e.length:Int)))) (Hx O O O) O (G6 (a4 (Gi O (fun hb=>?_) (fun hb=>?_))))))))))))
   ·
    have o:=Jo hb
    obtain⟨j,d2,a6,a7,h⟩:=Hq n o
    replace h:=Yn a2 h
    refine Gj (a3 (Js fun a8=>Gg (Js fun a9=>?_)))
    obtain⟨d6,k,b0,b1,h⟩:=R6 h
    obtain⟨d7,l,b2,b3,h⟩:=R6 h
    refine JC_d0 Jg (by kernel_rfl) (Dq (.dptr [LS 1 (E1) a.Stacks,I64 a.Height]) (Gy H2 O O O) O (Dq (LS 1 (E1) a.Stacks) (Gm Gr O O O) O (Dq (E7 d) (G2 O O) O (Dq (.dptr [E1 e]) (Gz (f:=(E1)) (xs:=a.Stacks) (y:=e) O O O Gf m O) O (Dq (E1 e) (Gm H4 O O O) O (Dq (E7 c) (G2 O O) O (Dq (.dptr [I64 j]) (Gz (f:=I64) (xs:=e) (y:=j) O O O G7 a6 O) O (Dq (I64 j) (Gm Gh O O O) O (Dq (.dptr [LS 1 (E1) b.Stacks,I64 b.Height]) (Gy H2 O O O) O (Dq (LS 1 (E1) b.Stacks) (Gm Gr O O O) O (Dq (E7 d) (G2 O O) O (Dq (.dptr [E1 k]) (Gz (f:=(E1)) (xs:=b.Stacks) (y:=k) O O O Gf b1 b0) O (Dq (E1 k) (Gm H4 O O O) O ?_)))))))))))))
    refine Dq (E7 c) (G2 O O) O (Dq (.dptr [I64 l]) (Gz (f:=I64) (xs:=k) (y:=l) O O O G7 b3 b2) O (Dq (I64 l) (Gm Gh O O O) O (Dq (BL (decide (j≠l))) (G16 O O O) O (Dnil (a9 (JCc O h (fun h hb=>?_) (fun h hb=>?_)))))))
    ·
     refine Jr fun b5=>(JLm (BL false) O (G6 (b5 (H0 (fin1 BL h)))))
    ·
     refine Gj (a8 (G1 (JLm (E7 c) O (JLh (I64 ((c+1:Nat):Int)) (Hy (Hk o a5) O O O) O (JLm (I64 ((c+1:Nat):Int)) O (G6 (c9 _ _ (c+1) () (app1 a7 h) (by omega) ⟨(.sm O O),ø,rfl⟩)))))))
   ·
    have h:=app1 q (Hr n (Ha hb))
    refine Hd (c5 (G1 (JLm (E7 d) O (JLh (I64 ((d+1:Nat):Int)) (Hy (Hk t v) O O O) O (JLm (I64 ((d+1:Nat):Int)) O (G6 (e4 _ _ (d+1) () (app1 c4 h) (by omega) ⟨(.sm O O),ø,rfl⟩)))))))
 ·
  have h:=app1 u (Hr s (Ha hb))
  refine Hd (b8 (Jr fun b6=>(JLm (BL true) O (G6 (b6 (H0 (fin1 BL h)))))))

def Qu (F:Nat) (all:List Gd) (at_:Int):Option (List Gd):=
 Qn all at_ fun g=>
 each (fun q f (h:(List Gd)) k=>
  each (fun p d (a:(List Gd)) i=>
   jp (fun e=>
    bnd (Jy F g.y (G8.mk (f:Int) (d:Int))) fun b=>
    loop (fun j (c:Bool×Int)=>
     bif ((decide (c.2 < (a.length:Int)))&&(!c.1)) then
     (Qn a c.2 fun l=>
      bnd (Y3 F l.y b.1) fun m=>
      chk (c.2+1) fun n=>
      j (m,n))
     else
     (bif (!c.1) then
      (need (decide ((a.length+[(Gd.mk b.1 at_ (G8.mk (f:Int) (d:Int)))].length)*56≤140737488355328∧a.length+[(Gd.mk b.1 at_ (G8.mk (f:Int) (d:Int)))].length≤maxLen)) <|
       e (a++[(Gd.mk b.1 at_ (G8.mk (f:Int) (d:Int)))]))
      else
      (e a))) F (decide (b.2≠0),0)) fun(o:(List Gd))=>
   i o)
  (fun(a:(List Gd))=>
   k a) g.y.Stacks 0 h)
 (fun(h:(List Gd))=>
  some h) g.y.Stacks 0 all
theorem G57 (F:Nat) (all:List Gd) (all_q:Nat) (at_:Int) (r:(List Gd)) (h:Qu F all at_=some r):Jq E8 70 [.vec 1046 all_q 5 all.length,I64 at_] [(1046,.vec 122 5 all_q (all.map Gd.av))] (fun av L'=>∃ p:Nat,av=.vec 1046 p 5 r.length∧L'=[(1046,.vec 122 5 p (r.map Gd.av))]):=by
 unfold Qu at h
 refine Yv [1046] [.tmp 4] Try.func70 O O (H05 O) (Jr fun d3=>(JLh (.vec 1076 (([]:List Gd).length) 5 (([]:List Gd).length)) (H2a 1076 122 5 O O O) O (G6 (d3 (Jr fun d4=>(JLm (.vec 1046 all_q 5 all.length) O (JLm (I64 at_) O ?_)))))))
 obtain⟨e,a7,a3,h⟩:=Rb h
 refine JLh (.vptr 1046 all_q at_.toNat 0) (Y2 (f:=Gd.av) (xs:=all) (y:=e) O O O O Yb a3 a7) O (JLh (.vptr 1046 all_q at_.toNat 0) (H2b Ga7 O O O) O (JLh (.agg [LS 1 (E1) e.y.Stacks,I64 e.y.Height]) (G55 (f:=Gd.av) (xs:=all) (y:=e) Hf O O O a3 O O) O (JLh (.ptr 1077 0) (Jh 1077 2 Yk O O) O (J9 (u:=.junk) (Hp (u:=.agg [LS 1 (E1) e.y.Stacks,I64 e.y.Height]) (ds:=[LS 1 (E1) e.y.Stacks,I64 e.y.Height]) Q1 O O O O O O O O) (G6 (d4 ?_))))))
 refine H5 [(0,.vec 1046 all_q 5 all.length),(1,I64 at_),(5,.dptr [LS 1 (E1) e.y.Stacks,I64 e.y.Height])] [(1046,.vec 122 5 all_q (all.map Gd.av)),(1076,.vec 122 5 (([]:List Gd).length) (([]:List Gd).map Gd.av))] 1077 rfl rfl rfl ⟨⟨_,rfl,.vec⟩,⟨_,rfl,.vec⟩,ø⟩ rfl (by exact⟨.conv (.same rfl),.conv (.same rfl),.ptr,ø⟩) (Js fun d5=>Jr fun d6=>(JLm (I64 0) O (G6 (d6 (Gg ?_)))))
 obtain⟨b6,a4,d8,a8,h⟩:=J4 h
 refine H7 (fun g (o:((List Gd))×Nat)=>(fun(j:(List Gd))=>each b6 a4 (List.drop g e.y.Stacks) g j=some r) o.1) (fun g o=>(fun(j:(List Gd)) (gv6:Nat)=>[(0,.vec 1046 gv6 5 j.length),(1,I64 at_),(5,.dptr [LS 1 (E1) e.y.Stacks,I64 e.y.Height]),(6,E7 g)]) o.1 o.2) (fun g o=>(fun(j:(List Gd)) (gv6:Nat)=>[(1046,.vec 122 5 gv6 (j.map Gd.av)),(1076,.vec 122 5 (([]:List Gd).length) (([]:List Gd).map Gd.av))]) o.1 o.2) (fun g=>e.y.Stacks.length - g) 0 (all,all_q) h ⟨(.sm O O),⟨⟨_,rfl,.vec⟩,⟨_,rfl,.vec⟩,ø⟩,rfl⟩ ?_
 clear h
 rintro g ⟨j,gv6⟩ q K6 e6
 replace q:each b6 a4 (List.drop g e.y.Stacks) g j=some r:=q
 change JC _ _ _ _ [(0,.vec 1046 gv6 5 j.length),(1,I64 at_),(5,.dptr [LS 1 (E1) e.y.Stacks,I64 e.y.Height]),(6,E7 g)] [(1046,.vec 122 5 gv6 (j.map Gd.av)),(1076,.vec 122 5 (([]:List Gd).length) (([]:List Gd).map Gd.av))]
 refine Js fun d9=>Jr fun e0=>(JLm (E7 g) O (JLh (.dptr [LS 1 (E1) e.y.Stacks,I64 e.y.Height]) (Gy H2 O O O) O (JLh (LS 1 (E1) e.y.Stacks) (Gm Gr O O O) O (JLl Gf O O O fun f0=>(JLh (BL (decide ((g:Int) < (e.y.Stacks.length:Int)))) (Hx O O O) O (G6 (e0 (Gi O (fun hb=>?_) (fun hb=>?_)))))))))
 ·
  have a5:=Jo hb
  obtain⟨y6,f5,f6,e1,h⟩:=Hq q a5
  replace h:=Yn d8 h
  refine Gj (d9 (Js fun e2=>Gg (Jr fun a9=>(JLm (I64 0) O (G6 (a9 (Gg ?_)))))))
  obtain⟨a6,t,b0,a0,h⟩:=J4 h
  refine H7 (fun c (k:((List Gd))×Nat)=>(fun(d:(List Gd))=>each a6 t (List.drop c e.y.Stacks) c d=some r) k.1) (fun c k=>(fun(d:(List Gd)) (gv11:Nat)=>[(0,.vec 1046 gv11 5 d.length),(1,I64 at_),(5,.dptr [LS 1 (E1) e.y.Stacks,I64 e.y.Height]),(6,E7 g),(7,E7 c)]) k.1 k.2) (fun c k=>(fun(d:(List Gd)) (gv11:Nat)=>[(1046,.vec 122 5 gv11 (d.map Gd.av)),(1076,.vec 122 5 (([]:List Gd).length) (([]:List Gd).map Gd.av))]) k.1 k.2) (fun c=>e.y.Stacks.length - c) 0 (j,gv6) h ⟨(.sm O O),⟨⟨_,rfl,.vec⟩,⟨_,rfl,.vec⟩,ø⟩,rfl⟩ ?_
  clear h
  rintro c ⟨d,gv11⟩ n f7 e3
  replace n:each a6 t (List.drop c e.y.Stacks) c d=some r:=n
  change JC _ _ _ _ [(0,.vec 1046 gv11 5 d.length),(1,I64 at_),(5,.dptr [LS 1 (E1) e.y.Stacks,I64 e.y.Height]),(6,E7 g),(7,E7 c)] [(1046,.vec 122 5 gv11 (d.map Gd.av)),(1076,.vec 122 5 (([]:List Gd).length) (([]:List Gd).map Gd.av))]
  refine Js fun b1=>Jr fun b2=>(JLm (E7 c) O (JLh (.dptr [LS 1 (E1) e.y.Stacks,I64 e.y.Height]) (Gy H2 O O O) O (JLh (LS 1 (E1) e.y.Stacks) (Gm Gr O O O) O (JLl Gf O O O fun v=>(JLh (BL (decide ((c:Int) < (e.y.Stacks.length:Int)))) (Hx O O O) O (G6 (b2 (Gi O (fun hb=>?_) (fun hb=>?_)))))))))
  ·
   have w:=Jo hb
   obtain⟨f8,f1,f2,b3,h⟩:=Hq n w
   replace h:=Yn b0 h
   refine Gj (b1 ?_)
   obtain⟨b4,a1,h⟩:=G0e h
   refine Zd (fun q_:((List Gd))×Nat=>b4 q_.1=some r) (fun q_=>[(0,.vec 1046 q_.2 5 q_.1.length),(1,I64 at_),(5,.dptr [LS 1 (E1) e.y.Stacks,I64 e.y.Height]),(6,E7 g),(7,E7 c)]) (fun q_=>[(1046,.vec 122 5 q_.2 (q_.1.map Gd.av)),(1076,.vec 122 5 (([]:List Gd).length) (([]:List Gd).map Gd.av))]) (fun Kj14 ej14=>?_) ?_
   ·
    refine Gg (Jr fun b5=>(JLm (E7 g) O (JLm (E7 c) O (JLh (.agg [E7 g,E7 c]) (Jm (cs:=[E7 g,E7 c]) [(0,1),(1,1)] [I64 0,I64 0] [E0,E0] Ge8 Ga4 (zzQ O) O O) O (JLh (.ptr 1078 0) (Jh 1078 2 G84 O O) O (J9 (u:=.junk) (Hp (u:=.agg [E7 g,E7 c]) (ds:=[E7 g,E7 c]) Ge7 O O O O O O O O) (G6 (b5 ?_))))))))
    refine fzQ [(0,.vec 1046 gv11 5 d.length),(1,I64 at_),(5,.dptr [LS 1 (E1) e.y.Stacks,I64 e.y.Height]),(6,E7 g),(7,E7 c),(8,.dptr [E7 g,E7 c])] [(1046,.vec 122 5 gv11 (d.map Gd.av)),(1076,.vec 122 5 (([]:List Gd).length) (([]:List Gd).map Gd.av))] 1078 rfl rfl rfl ⟨⟨_,rfl,.vec⟩,⟨_,rfl,.vec⟩,ø⟩ rfl (Jr fun b7=>(JLh (.agg [LS 1 (E1) e.y.Stacks,I64 e.y.Height]) (Gu Hf O O O) O (JLh (.agg [E7 g,E7 c]) (Gu G18 O O O) O ?_)))
    obtain⟨a,b8,h⟩:=Gc h
    refine JLh (.tup [.agg [LS 1 (E1) a.1.Stacks,I64 a.1.Height],I64 a.2]) (Gt O (Yg F e.y (G8.mk (g:Int) (c:Int)) a b8) Geb ⟨O,O,O,O,ø⟩) O (JLm (.tup [.agg [LS 1 (E1) a.1.Stacks,I64 a.1.Height],I64 a.2]) O (JLh (.agg [LS 1 (E1) a.1.Stacks,I64 a.1.Height]) (Gv O O O) O (JLh (I64 a.2) (Gv O O O) O (JLh (.ptr 1079 0) (Jh 1079 2 Yk O O) O (J9 (u:=.junk) (Hp (u:=.agg [LS 1 (E1) a.1.Stacks,I64 a.1.Height]) (ds:=[LS 1 (E1) a.1.Stacks,I64 a.1.Height]) Q1 O O O O O O O O) (JLm (I64 a.2) O (G6 (b7 ?_))))))))
    refine fzQ [(0,.vec 1046 gv11 5 d.length),(1,I64 at_),(5,.dptr [LS 1 (E1) e.y.Stacks,I64 e.y.Height]),(6,E7 g),(7,E7 c),(8,.dptr [E7 g,E7 c]),(9,.dptr [LS 1 (E1) a.1.Stacks,I64 a.1.Height]),(10,I64 a.2)] [(1046,.vec 122 5 gv11 (d.map Gd.av)),(1076,.vec 122 5 (([]:List Gd).length) (([]:List Gd).map Gd.av))] 1079 rfl rfl rfl ⟨⟨_,rfl,.vec⟩,⟨_,rfl,.vec⟩,ø⟩ rfl (Jr fun b9=>(JLm (I64 a.2) O (JLh (BL (decide (a.2≠0))) (G16 O O O) O (JLm (BL (decide (a.2≠0))) O (G6 (b9 (Js fun c0=>Jr fun c1=>(JLm (I64 0) O (G6 (c1 (Gg ?_)))))))))))
    obtain⟨e4,c2,h⟩:=Zy h
    refine H7 (fun m (i:Bool×Int)=>loop e4 m i=some r) (fun m i=>[(0,.vec 1046 gv11 5 d.length),(1,I64 at_),(5,.dptr [LS 1 (E1) e.y.Stacks,I64 e.y.Height]),(6,E7 g),(7,E7 c),(8,.dptr [E7 g,E7 c]),(9,.dptr [LS 1 (E1) a.1.Stacks,I64 a.1.Height]),(11,BL i.1),(12,I64 i.2)]) (fun m i=>[(1046,.vec 122 5 gv11 (d.map Gd.av)),(1076,.vec 122 5 (([]:List Gd).length) (([]:List Gd).map Gd.av))]) (fun m=>m) F (decide (a.2≠0),0) h ⟨(.sm O O),⟨⟨_,rfl,.vec⟩,⟨_,rfl,.vec⟩,ø⟩,rfl⟩ ?_
    clear h
    intro m i c3 f9 e5
    obtain⟨e7,f3,hm_30,c4,h⟩:=Yx c3
    replace h:=H3e c2 h
    refine Js fun c5=>Jr fun c6=>(JLm (I64 i.2) O (JLm (.vec 1046 gv11 5 d.length) O (Gb4 (f:=Gd.av) (xs:=d) Yb O O O (fun f4=>?_) O O O)))
    refine JLh (BL (decide (i.2 < (d.length:Int)))) (Hx O O O) O (JLm (BL (decide (i.2 < (d.length:Int)))) O (JLo (BL i.1) [] O .sct ø (fun hc=>G2 O O) O (JLo (BL (!i.1)) [48] O .sct ⟨Ua,ø⟩ (fun hc=>Ym (b:=i.1) O O) O (JLh (BL ((decide (i.2 < (d.length:Int)))&&(!i.1))) (Y6 O O O O) O (G6 (c6 (JCc O h (fun h hb=>?_) (fun h hb=>?_))))))))
    ·
     refine Gj (c5 (Js fun c7=>Gg (Qz (l':=[(0,.vec 1046 gv11 5 d.length),(1,I64 at_),(5,.dptr [LS 1 (E1) e.y.Stacks,I64 e.y.Height]),(6,E7 g),(7,E7 c),(8,.dptr [E7 g,E7 c]),(9,.dptr [LS 1 (E1) a.1.Stacks,I64 a.1.Height]),(12,I64 i.2)]) (L':=[(1046,.vec 122 5 gv11 (d.map Gd.av)),(1076,.vec 122 5 (([]:List Gd).length) (([]:List Gd).map Gd.av))]) ⟨(.sm O O),⟨⟨_,rfl,.vec⟩,⟨_,rfl,.vec⟩,ø⟩,rfl⟩ ?_)))
     obtain⟨l,a2,x,h⟩:=Rb h
     obtain⟨s,c8,h⟩:=Gc h
     refine JC_d0 Jg (by kernel_rfl) (Dq (.vec 1046 gv11 5 d.length) (G2 O O) O (Dq (I64 i.2) (G2 O O) O (Dq (.vptr 1046 gv11 i.2.toNat 0) (Y2 (f:=Gd.av) (xs:=d) (y:=l) O O O O Yb x a2) O (Dq (.vptr 1046 gv11 i.2.toNat 0) (H2b Ga7 O O O) O (Dq (.agg [LS 1 (E1) l.y.Stacks,I64 l.y.Height]) (G55 (f:=Gd.av) (xs:=d) (y:=l) Hf O O O x O O) O (Dq (.agg [LS 1 (E1) a.1.Stacks,I64 a.1.Height]) (Gu Hf O O O) O (Dq (BL s) (Gt (args:=[.agg [LS 1 (E1) l.y.Stacks,I64 l.y.Height],.agg [LS 1 (E1) a.1.Stacks,I64 a.1.Height]]) O (Gdf F l.y a.1 s c8) Jc6 ⟨O,O,O,O,ø⟩) O (Dq (BL s) (G4 O O) O (Dnil (c7 (G1 (JLm (I64 i.2) O ?_))))))))))))
     obtain⟨z,c9,h⟩:=J6 h
     refine JLh (I64 z) (Hy c9 O O O) O (JLm (I64 z) O (G6 (e5 _ _ e7 (s,z) (app1 c4 h) (by omega) ⟨(.sm O O),⟨⟨_,rfl,.vec⟩,⟨_,rfl,.vec⟩,ø⟩,rfl⟩)))
    ·
     refine Hd (c0 (Jr fun d0=>(JLm (BL i.1) O (JLh (BL (!i.1)) (Ym (b:=i.1) O O) O (G6 (d0 (JCc O h (fun h hb=>?_) (fun h hb=>?_))))))))
     ·
      refine G1 ?_
      refine JLm (.vec 1046 gv11 5 d.length) O (JLh (.agg [LS 1 (E1) a.1.Stacks,I64 a.1.Height]) (Gu Hf O O O) O (JLm (I64 at_) O (JLh (.agg [E7 g,E7 c]) (Gu G18 O O O) O (JLh (.agg [LS 1 (E1) a.1.Stacks,I64 a.1.Height,I64 at_,E7 g,E7 c]) (Jm (cs:=[LS 1 (E1) a.1.Stacks,I64 a.1.Height,I64 at_,E7 g,E7 c]) [(0,2),(2,1),(3,2)] [LS 1 (E1) ([]:List (List Int)),I64 0,I64 0,I64 0,I64 0] [.slice none 0 0,E0,E0,E0,E0] H42 Hba ⟨.inr ⟨_,O,O⟩,.inl O,.inl O,.inl O,.inl O,ø⟩ O O) O (JLh (LS 5 Gd.av [(Gd.mk a.1 at_ (G8.mk (g:Int) (c:Int)))]) (H9 (xs:=[.agg [LS 1 (E1) a.1.Stacks,I64 a.1.Height,I64 at_,E7 g,E7 c]]) O ⟨O,O,ø⟩ Yb H72 O O O O) O ?_)))))
      obtain⟨d1,h⟩:=J3 h
      refine JLh (.vec 1046 (gv11+1) 5 ((d++[(Gd.mk a.1 at_ (G8.mk (g:Int) (c:Int)))]).length)) (G7c (f:=Gd.av) (xs:=d) (ys:=[(Gd.mk a.1 at_ (G8.mk (g:Int) (c:Int)))]) (ver:=gv11) (ver1:=(gv11+1)) rfl rfl rfl rfl Yb J7c d1 (fun _=>rfl) (.inl rfl) (by simp)) O (JLm (.vec 1046 (gv11+1) 5 ((d++[(Gd.mk a.1 at_ (G8.mk (g:Int) (c:Int)))]).length)) O (G6 (ej14 _ _ ((d++[(Gd.mk a.1 at_ (G8.mk (g:Int) (c:Int)))]),(gv11+1)) h ⟨(.sm O O),⟨⟨_,rfl,.vec⟩,⟨_,rfl,.vec⟩,ø⟩,rfl⟩)))
     ·
      refine Gj (ej14 _ _ (d,gv11) h ⟨(.sm O O),⟨⟨_,rfl,.vec⟩,⟨_,rfl,.vec⟩,ø⟩,rfl⟩)
   ·rintro⟨e8,gj14⟩ h
    replace h:=app1 a1 h
    refine G1 (JLm (E7 c) O (JLh (I64 ((c+1:Nat):Int)) (Hy (Hk w v) O O O) O (JLm (I64 ((c+1:Nat):Int)) O (G6 (e3 _ _ (c+1) (e8,gj14) (app1 b3 h) (by omega) ⟨(.sm O O),⟨⟨_,rfl,.vec⟩,⟨_,rfl,.vec⟩,ø⟩,rfl⟩)))))
  ·
   have h:=app1 a0 (Hr n (Ha hb))
   refine Hd (e2 (G1 (JLm (E7 g) O (JLh (I64 ((g+1:Nat):Int)) (Hy (Hk a5 v) O O O) O (JLm (I64 ((g+1:Nat):Int)) O (G6 (e6 _ _ (g+1) (d,gv11) (app1 e1 h) (by omega) ⟨(.sm O O),⟨⟨_,rfl,.vec⟩,⟨_,rfl,.vec⟩,ø⟩,rfl⟩)))))))
 ·
  have h:=app1 a8 (Hr q (Ha hb))
  refine Hd (d5 (Jr fun d2=>(JLm (.vec 1046 gv6 5 j.length) O (JLm (.vec 1046 gv6 5 j.length) O (G6 (d2 (J6c 4 O O (fun hn_=>H0 ?_))))))))
  obtain rfl:=Ey h
  exact⟨[.vec 1046 gv6 5 j.length],[(1046,.vec 122 5 gv6 (j.map Gd.av))],⟨⟨_,O,.vec⟩,ø⟩,O,⟨⟨_,O,.conv (.same O)⟩,ø⟩,gv6,congrArg (fun n_:Nat=>(.vec 1046 gv6 5 n_:AV)) (hn_.trans (Km _)),O⟩

def Qa (F:Nat) (y:Gs) (order:List Int):Option ((List G8)×Int):=
 bnd (Jx F y order) fun k=>
 bif (!k) then
 (some ([],2))
 else
 (bnd (Qv y) fun l=>
  bif ((decide (5 < (l.length:Int)))||(decide (4 < (y.Stacks.length:Int)))) then
  (some ([],5))
  else
  (loop (fun d (a:Int×(List Gd))=>
    bif decide (a.1 < (a.2.length:Int)) then
    (Qn a.2 a.1 fun f=>
     bnd (Hz F f.y order) fun g=>
     bif decide (0 < (g.length:Int)) then
     (bnd (Qu F a.2 a.1) fun h=>
      chk (a.1+1) fun i=>
      d (i,h))
     else
     (loop (fun e (b:(List G8)×Int)=>
       bif decide (0 < b.2) then
       (Qn a.2 b.2 fun c=>
        need (decide (([c.by_].length+b.1.length)*16≤140737488355328∧[c.by_].length+b.1.length≤maxLen)) <|
        Qn a.2 b.2 fun j=>
        e (([c.by_]++b.1),j.from_))
       else
       (some (b.1,0))) F ([],a.1)))
    else
    (some ([],6))) F (0,[(Gd.mk y (-1) (G8.mk 0 0))])))
theorem Gd6 (F:Nat) (y:Gs) (order:List Int) (r:(List G8)×Int) (h:Qa F y order=some r):Pure E8 37 [.agg [LS 1 (E1) y.Stacks,I64 y.Height],E1 order] (·=.tup [E4 r.1,I64 r.2]):=by
 unfold Qa at h
 refine Hb [.tmp 4,.tmp 5] Try.func37 O O (Jr fun c9=>(JLh (.ptr 1045 0) (Q5 (cs:=[LS 1 (E1) y.Stacks,I64 y.Height]) 1045 O O O O O) O (JLh (E4 ([]:List G8)) (Jk 2 O O) O (JLm (I64 0) O (G6 (c9 (H5 [(1,E1 order),(2,.dptr [LS 1 (E1) y.Stacks,I64 y.Height])] [] 1045 rfl rfl rfl ø rfl (by exact⟨.conv (.same rfl),.ptr,ø⟩) (Js fun d0=>Jr fun d1=>(JLh (.agg [LS 1 (E1) y.Stacks,I64 y.Height]) (Gu Hf O O O) O (JLm (E1 order) O ?_))))))))))
 obtain⟨w,d2,h⟩:=Gc h
 refine JLh (BL w) (Gt O (Ye F y order w d2) Gec ⟨O,O,O,O,ø⟩) O (JLh (BL (!w)) (Ym (b:=w) O O) O (G6 (d1 (JCc O h (fun h hb=>?_) (fun h hb=>?_)))))
 ·
  refine Jr fun d3=>(JLh (E4 ([]:List G8)) (Jk 2 O O) O (JLm (I64 2) O (G6 (d3 (H0 (⟨[E4 ([]:List G8),I64 2],[],ø,O,⟨⟨_,O,.conv (.same O)⟩,⟨_,O,.conv (.same O)⟩,ø⟩,O,congrArg (fun r:(List G8)×Int=>(.tup [E4 r.1,I64 r.2]:AV)) (Ey h)⟩))))))
 ·
  refine Gj (d0 (Js fun d4=>Jr fun d5=>(JLh (.agg [LS 1 (E1) y.Stacks,I64 y.Height]) (Gu Hf O O O) O ?_)))
  obtain⟨n,d6,h⟩:=Gc h
  refine JLh (E1 n) (Gt O (G3d y n d6) He6 ⟨O,O,ø⟩) O (JLl G7 O O O fun e3=>(JLh (BL (decide (5 < (n.length:Int)))) (Y5 O O O) O (JLm (BL (decide (5 < (n.length:Int)))) O (JLo (.dptr [LS 1 (E1) y.Stacks,I64 y.Height]) [] O .scf ø (fun hc=>Gy H2 O O O) O (JLo (LS 1 (E1) y.Stacks) [19] O .scf ⟨Ua,ø⟩ (fun hc=>Gm Gr O O O) O (JLo (E7 y.Stacks.length) [20] O .scf ⟨Ua,ø⟩ (fun hc=>Q7 (f:=(E1)) (xs:=y.Stacks) Gf O O) O (JLo (BL (decide (4 < (y.Stacks.length:Int)))) [21] O .scf ⟨Ua,ø⟩ (fun hc=>Y5 O O O) O (JLh (BL ((decide (5 < (n.length:Int)))||(decide (4 < (y.Stacks.length:Int))))) (Z6 O O O O) O (G6 (d5 (JCc O h (fun h hb=>?_) (fun h hb=>?_))))))))))))
  ·
   refine Jr fun d7=>(JLh (E4 ([]:List G8)) (Jk 2 O O) O (JLm (I64 5) O (G6 (d7 (H0 (⟨[E4 ([]:List G8),I64 5],[],ø,O,⟨⟨_,O,.conv (.same O)⟩,⟨_,O,.conv (.same O)⟩,ø⟩,O,congrArg (fun r:(List G8)×Int=>(.tup [E4 r.1,I64 r.2]:AV)) (Ey h)⟩))))))
  ·
   refine Gj (d4 ?_)
   refine Jr fun a3=>(JLh (.agg [LS 1 (E1) y.Stacks,I64 y.Height]) (Gu Hf O O O) O (JLh (.agg [I64 0,I64 0]) (Jm (cs:=[I64 0,I64 0]) [(0,1),(1,1)] [I64 0,I64 0] [E0,E0] Ge8 Ga4 (zzQ O) O O) O (JLh (.agg [LS 1 (E1) y.Stacks,I64 y.Height,I64 (-1),I64 0,I64 0]) (Jm (cs:=[LS 1 (E1) y.Stacks,I64 y.Height,I64 (-1),I64 0,I64 0]) [(0,2),(2,1),(3,2)] [LS 1 (E1) ([]:List (List Int)),I64 0,I64 0,I64 0,I64 0] [.slice none 0 0,E0,E0,E0,E0] H42 Hba ⟨.inr ⟨_,O,O⟩,.inl O,.inl O,.inl O,.inl O,ø⟩ O O) O (JLh (.vec 1046 ([(Gd.mk y (-1) (G8.mk 0 0))].length) 5 ([(Gd.mk y (-1) (G8.mk 0 0))].length)) (Q12 1046 (f:=Gd.av) [(Gd.mk y (-1) (G8.mk 0 0))] O ⟨O,O,ø⟩ Yb H72 O O O O O) O (JLm (.vec 1046 ([(Gd.mk y (-1) (G8.mk 0 0))].length) 5 ([(Gd.mk y (-1) (G8.mk 0 0))].length)) O (G6 (a3 ?_)))))))
   refine Js fun a4=>Jr fun a5=>(JLm (I64 0) O (G6 (a5 (Gg ?_))))
   obtain⟨a1,a6,h⟩:=Zy h
   refine H7 (fun e (g:(Int×(List Gd))×Nat)=>(fun(a:Int×(List Gd))=>loop a1 e a=some r) g.1) (fun e g=>(fun(a:Int×(List Gd)) (gv13:Nat)=>[(1,E1 order),(6,.vec 1046 gv13 5 a.2.length),(7,I64 a.1)]) g.1 g.2) (fun e g=>(fun(a:Int×(List Gd)) (gv13:Nat)=>[(1046,.vec 122 5 gv13 (a.2.map Gd.av))]) g.1 g.2) (fun e=>e) F ((0,[(Gd.mk y (-1) (G8.mk 0 0))]),[(Gd.mk y (-1) (G8.mk 0 0))].length) h ⟨(.sm O O),⟨⟨_,O,.vec⟩,ø⟩,O⟩ ?_
   clear h
   rintro e ⟨a,gv13⟩ m e8 d8
   replace m:loop a1 e a=some r:=m
   change JC _ _ _ _ [(1,E1 order),(6,.vec 1046 gv13 5 a.2.length),(7,I64 a.1)] [(1046,.vec 122 5 gv13 (a.2.map Gd.av))]
   obtain⟨d9,e4,hm_13,a7,h⟩:=Yx m
   replace h:=H3e a6 h
   refine Js fun a8=>Jr fun a9=>(JLm (I64 a.1) O (JLm (.vec 1046 gv13 5 a.2.length) O (Gb4 (f:=Gd.av) (xs:=a.2) Yb O O O (fun e5=>?_) O O O)))
   refine JLh (BL (decide (a.1 < (a.2.length:Int)))) (Hx O O O) O (G6 (a9 (JCc O h (fun h hb=>?_) (fun h hb=>?_))))
   ·
    refine Gj (a8 (Js fun b0=>Gg (Js fun b1=>Jr fun b2=>(JLm (.vec 1046 gv13 5 a.2.length) O (JLm (I64 a.1) O ?_)))))
    obtain⟨j,x,o,h⟩:=Rb h
    refine JLh (.vptr 1046 gv13 a.1.toNat 0) (Y2 (f:=Gd.av) (xs:=a.2) (y:=j) O O O O Yb o x) O (JLh (.vptr 1046 gv13 a.1.toNat 0) (H2b Ga7 O O O) O (JLh (.agg [LS 1 (E1) j.y.Stacks,I64 j.y.Height]) (G55 (f:=Gd.av) (xs:=a.2) (y:=j) Hf O O O o O O) O (JLm (E1 order) O ?_)))
    obtain⟨q,b3,h⟩:=Gc h
    refine JLh (E1 q) (Gt O (Yf F j.y order q b3) Ga8 ⟨O,O,O,O,ø⟩) O (JLl G7 O O O fun e6=>(JLh (BL (decide (0 < (q.length:Int)))) (Y5 O O O) O (G6 (b2 (JCc O h (fun h hb=>?_) (fun h hb=>?_))))))
    ·
     refine Jr fun b4=>(JLm (.vec 1046 gv13 5 a.2.length) O (JLm (I64 a.1) O ?_))
     obtain⟨k,b5,h⟩:=Gc h
     refine G64 O O O (G67 (args:=[.vec 1046 gv13 5 a.2.length,I64 a.1]) (L0:=[(1046,.vec 122 5 gv13 (a.2.map Gd.av))]) (u:=fun p=>.vec 1046 p 5 k.length) (Lr:=fun p=>[(1046,.vec 122 5 p (k.map Gd.av))]) O (G57 F a.2 gv13 a.1 k b5) Jcd ⟨.inl O,O,.inl O,O,ø⟩ ⟨O,ø⟩ O (fun _=>O)) ?_
     rintro u_ L_ ⟨a2,rfl,rfl⟩
     refine JLm (.vec 1046 a2 5 k.length) O (G6 (b4 (Hd (b0 (G1 (JLm (I64 a.1) O ?_))))))
     obtain⟨s,b6,h⟩:=J6 h
     refine JLh (I64 s) (Hy b6 O O O) O (JLm (I64 s) O (G6 (d8 _ _ d9 ((s,k),a2) (app1 a7 h) (by omega) ⟨(.sm O O),⟨⟨_,rfl,.vec⟩,ø⟩,rfl⟩)))
    ·
     refine Gj (b1 (Jr fun b7=>(JLh (E4 ([]:List G8)) (Jk 2 O O) O (G6 (b7 (Js fun b8=>Jr fun b9=>(JLm (I64 a.1) O (JLm (I64 a.1) O (G6 (b9 (Gg ?_)))))))))))
     obtain⟨e0,c0,h⟩:=Zy h
     refine H7 (fun i (c:(List G8)×Int)=>loop e0 i c=some r) (fun i c=>[(6,.vec 1046 gv13 5 a.2.length),(8,E4 c.1),(9,I64 c.2)]) (fun i c=>[(1046,.vec 122 5 gv13 (a.2.map Gd.av))]) (fun i=>i) F ([],a.1) h ⟨(.sm O O),⟨⟨_,O,.vec⟩,ø⟩,O⟩ ?_
     clear h
     intro i c c1 e9 e1
     obtain⟨e2,e7,hm_37,c2,h⟩:=Yx c1
     replace h:=H3e c0 h
     refine Js fun c3=>Jr fun c4=>(JLm (I64 c.2) O (JLh (BL (decide (0 < c.2))) (Y5 O O O) O (G6 (c4 (JCc O h (fun h hb=>?_) (fun h hb=>?_))))))
     ·
      refine Gj (c3 (Js fun c5=>Gg (G1 (JLm (.vec 1046 gv13 5 a.2.length) O (JLm (I64 c.2) O ?_)))))
      obtain⟨d,z,t,h⟩:=Rb h
      refine JLh (.vptr 1046 gv13 c.2.toNat 0) (Y2 (f:=Gd.av) (xs:=a.2) (y:=d) O O O O Yb t z) O (JLh (.vptr 1046 gv13 c.2.toNat 3) (H2b Hde O O O) O (JLh (.agg [I64 d.by_.From,I64 d.by_.To]) (G55 (f:=Gd.av) (xs:=a.2) (y:=d) G18 O O O t O O) O (JLh (OW 380000059 2 G8.av [d.by_]) (H6c 380000059 (f:=G8.av) [d.by_] O ⟨O,O,ø⟩ Rx G84 O O O O O) O (JLm (E4 c.1) O ?_))))
      obtain⟨c6,h⟩:=J3 h
      refine JLh (OW 380000059 2 G8.av ([d.by_]++c.1)) (G33 (f:=G8.av) (xs:=[d.by_]) (ys:=c.1) O O O O Rx H4b c6 (fun _=>O) (.inl O)) O (JLm (OW 380000059 2 G8.av ([d.by_]++c.1)) O (G6 (c5 (G1 (JLm (.vec 1046 gv13 5 a.2.length) O (JLm (I64 c.2) O ?_))))))
      obtain⟨l,a0,v,h⟩:=Rb h
      refine JLh (.vptr 1046 gv13 c.2.toNat 0) (Y2 (f:=Gd.av) (xs:=a.2) (y:=l) O O O O Yb v a0) O (JLh (.vptr 1046 gv13 c.2.toNat 2) (H2b Hdf O O O) O (JLh (I64 l.from_) (G41 (f:=Gd.av) (xs:=a.2) (y:=l) Gh O O O v O O) O (JLm (I64 l.from_) O (G6 (e1 _ _ e2 (([d.by_]++c.1),l.from_) (app1 c2 h) (by omega) ⟨⟨.same rfl,.list rfl,.same rfl,ø⟩,⟨⟨_,rfl,.vec⟩,ø⟩,rfl⟩)))))
     ·
      refine Hd (b8 (Jr fun c7=>(JLm (E4 c.1) O (JLm (E4 c.1) O (JLm (I64 0) O (G6 (c7 (H0 (⟨[E4 c.1,I64 0],[],ø,O,⟨⟨_,O,.conv (.same O)⟩,⟨_,O,.conv (.same O)⟩,ø⟩,O,congrArg (fun r:(List G8)×Int=>(.tup [E4 r.1,I64 r.2]:AV)) (Ey h)⟩)))))))))
   ·
    refine Hd (a4 (Jr fun c8=>(JLh (E4 ([]:List G8)) (Jk 2 O O) O (JLm (I64 6) O (G6 (c8 (H0 (⟨[E4 ([]:List G8),I64 6],[],ø,O,⟨⟨_,O,.conv (.same O)⟩,⟨_,O,.conv (.same O)⟩,ø⟩,O,congrArg (fun r:(List G8)×Int=>(.tup [E4 r.1,I64 r.2]:AV)) (Ey h)⟩))))))))

end
end Go.Proofs.Ytokjlondbjdlfaa
