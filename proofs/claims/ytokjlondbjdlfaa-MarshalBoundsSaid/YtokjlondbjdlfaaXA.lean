/- Walks of functions. -/
import Derived.Test.YtokjlondbjdlfaaSortLay
import Derived.Test.YtokjlondbjdlfaaIterD
import Derived.Test.YtokjlondbjdlfaaIterD
import Derived.Test.YtokjlondbjdlfaaIterD
import Derived.Test.YtokjlondbjdlfaaIterD
import Derived.Test.YtokjlondbjdlfaaIterD
import Derived.Test.YtokjlondbjdlfaaIterD
set_option maxRecDepth 100000
set_option maxHeartbeats 1000000
set_option linter.unusedVariables false
set_option linter.unusedSimpArgs false
namespace Go.Proofs.Ytokjlondbjdlfaa
open Go.RowKit
noncomputable section
abbrev E8:=Try.prog
structure Gq where
 Stacks:List (List Int)
 Height:Int
 deriving DecidableEq,Inhabited
def Gq.cs (x:Gq):List AV:=[LS 1 (E1) x.Stacks,I64 x.Height]
structure Gy where
 Box:Int
 From:Int
 To:Int
 deriving DecidableEq,Inhabited
def Gy.cs (x:Gy):List AV:=[I64 x.Box,I64 x.From,I64 x.To]
def Gy.av (x:Gy):AV:=.agg x.cs
abbrev E3:=LS 3 Gy.av
structure Hp where
 stacks:List (List Int)
 height:Int
 order:List Int
 ranks:Hn Int Int
 steps:List Gy
 next:Int
 deriving Inhabited
def Hp.cs (x:Hp):List AV:=[LS 1 (E1) x.stacks,I64 x.height,E1 x.order,DM Ef I64 x.ranks,E3 x.steps,I64 x.next]
abbrev E6 (x:Hp):AV:=.dptr (Hp.cs x)
structure G3 where
 From:Int
 To:Int
 deriving DecidableEq,Inhabited
def G3.cs (x:G3):List AV:=[I64 x.From,I64 x.To]
def G3.av (x:G3):AV:=.agg x.cs
abbrev E2:=LS 2 G3.av
namespace XAF
theorem Rd9 (a b:G3):Hb7 E8 4 39 [.int .i64 a.From,.int .i64 a.To] [.int .i64 b.From,.int .i64 b.To]=some (decide (a=b)):=by
 refine(show _=some ((a.From==b.From)&&((a.To==b.To)&&true)) by kernel_rfl).trans (congrArg some ?_)
 rw [Bool.eq_iff_iff]
 simp only [Ki,beq_iff_eq,Kj,Bool.and_true]
 constructor
 ·intro h; obtain⟨_,_⟩:=a; obtain⟨_,_⟩:=b; simp_all
 ·intro h; subst h; simp
theorem He:Gc3 E8 24 2=true:=by kernel_rfl
theorem G5b:Gc3 E8 39 2=true:=by kernel_rfl
theorem Jc8:G12 E8 39=true:=by kernel_rfl
theorem G7b:Hm E8 26=true:=by kernel_rfl
theorem G52:Hm E8 40=true:=by kernel_rfl
theorem H7d:Hm E8 44=true:=by kernel_rfl
theorem H7c:Hm E8 50=true:=by kernel_rfl
theorem H7b:Hm E8 55=true:=by kernel_rfl
theorem J18:Hm E8 57=true:=by kernel_rfl
theorem Q25:Hm E8 58=true:=by kernel_rfl
theorem J16:Hm E8 72=true:=by kernel_rfl
theorem J15:Hm E8 77=true:=by kernel_rfl
theorem J13:Hm E8 81=true:=by kernel_rfl
theorem Q1d:Hm E8 82=true:=by kernel_rfl
theorem G51:Qp E8 25 1 24=true:=by kernel_rfl
theorem Qv:Qp E8 3 1 8=true:=by kernel_rfl
theorem Qa2:E8.eqGuardType E8.depth 39=false:=by kernel_rfl
theorem G31:Rs E8 105 0 0=true:=by kernel_rfl
theorem H2e:Rs E8 105 2 2=true:=by kernel_rfl
theorem G30:Rs E8 105 3 3=true:=by kernel_rfl
theorem Hu:Rs E8 24 0 0=true:=by kernel_rfl
theorem Rr:Rs E8 24 1 1=true:=by kernel_rfl
theorem G2f:Ye E8 103 3 3=true:=by kernel_rfl
theorem Jm:E8.follows .mixedOrders=true:=by kernel_rfl
theorem H6e:placesOf E8 105=some [(0,1),(1,1),(2,1),(3,1),(4,1),(5,1)]:=by kernel_rfl
theorem G45:Qn E8 103=true:=by kernel_rfl
theorem Gs:Qn E8 22=true:=by kernel_rfl
theorem H3:Qn E8 25=true:=by kernel_rfl
theorem Gj:Qn E8 3=true:=by kernel_rfl
theorem Gb7:Ry E8 22 1=true:=by kernel_rfl
theorem Gf:sliceB E8 22 25 1=true:=by kernel_rfl
theorem G7:sliceB E8 25 3 1=true:=by kernel_rfl
theorem J4:sliceB E8 26 39 2=true:=by kernel_rfl
theorem He5:(E8.info? 105).bind (fun i=>i.zero.map Value.cells)=some (List.toArray [.slice none 0 0,E0,.slice none 0 0,.map none,.slice none 0 0,E0]):=by kernel_rfl
theorem Zi:Qh E8 25 1=true:=by kernel_rfl
theorem Jf:Qh E8 3 1=true:=by kernel_rfl
theorem H51:(E8.info? 3).bind (·.zero)=some E0:=by kernel_rfl
theorem Jc2:G66 E8 3 Ef:=G66.of_int (by kernel_rfl)
end XAF
open XAF

def Zg (y:Gq):Option Bool:=
 bif ((((decide (y.Height < 1))||(decide (6 < y.Height)))||(decide ((y.Stacks.length:Int) < 1)))||(decide (30 < (y.Stacks.length:Int)))) then
 (some false)
 else
 (each (fun e k (f:(Hn Int Int)) g=>
   bif decide (y.Height < (e.length:Int)) then
   (some false)
   else
   (each (fun a j (b:(Hn Int Int)) d=>
     bnd (some (Hn.get b a 0)) fun h=>
     chk (h+1) fun c=>
     bnd (bif (!((decide (a < 1))||(decide (999999 < a)))) then some (Hn.get (Hn.put b a c) a 0) else some 0) fun i=>
     bif (((decide (a < 1))||(decide (999999 < a)))||(decide (1 < i))) then
     (some false)
     else
     (d (Hn.put b a c)))
    (fun(b:(Hn Int Int))=>
     g b) e 0 f))
  (fun(f:(Hn Int Int))=>
   some true) y.Stacks 0 (Hn.empty:Hn Int Int))
theorem G38 (y:Gq) (r:Bool) (h:Zg y=some r):Pure E8 44 [.agg [LS 1 (E1) y.Stacks,I64 y.Height]] (·=BL r):=by
 unfold Zg at h
 refine Hc [.tmp 2] Try.func44 O O (Jr fun c1=>(JLh (.ptr 1055 0) (Qo (cs:=[LS 1 (E1) y.Stacks,I64 y.Height]) 1055 O O O O O) O (JLm (BL false) O (G6 (c1 (H5 [(1,.dptr [LS 1 (E1) y.Stacks,I64 y.Height])] [] 1055 rfl rfl rfl ø rfl (by exact⟨.ptr,ø⟩) (Js fun c2=>?_)))))))
 refine Jr fun c3=>(JLh (.dptr [I64 y.Height]) (Gz Rr O O O) O (JLh (I64 y.Height) (Gm Gj O O O) O (JLh (BL (decide (y.Height < 1))) (J0 O O O) O (JLm (BL (decide (y.Height < 1))) O (JLo (.dptr [I64 y.Height]) [] O .scf ø (fun hc=>Gz Rr O O O) O (JLo (I64 y.Height) [12] O .scf ⟨Ua,ø⟩ (fun hc=>Gm Gj O O O) O (JLo (BL (decide (6 < y.Height))) [13] O .scf ⟨Ua,ø⟩ (fun hc=>Z0 O O O) O (JLh (BL ((decide (y.Height < 1))||(decide (6 < y.Height)))) (Yz O O O O) O (JLm (BL ((decide (y.Height < 1))||(decide (6 < y.Height)))) O (JLo (.dptr [LS 1 (E1) y.Stacks,I64 y.Height]) [] O .scf ø (fun hc=>Gz Hu O O O) O (JLo (LS 1 (E1) y.Stacks) [17] O .scf ⟨Ua,ø⟩ (fun hc=>Gm Gs O O O) O (JLo (E7 y.Stacks.length) [18] O .scf ⟨Ua,ø⟩ (fun hc=>Q3 (f:=(E1)) (xs:=y.Stacks) Gf O O) O (JLo (BL (decide ((y.Stacks.length:Int) < 1))) [19] O .scf ⟨Ua,ø⟩ (fun hc=>J0 O O O) O ?_)))))))))))))
 refine JLh (BL (((decide (y.Height < 1))||(decide (6 < y.Height)))||(decide ((y.Stacks.length:Int) < 1)))) (Yz O O O O) O (JLm (BL (((decide (y.Height < 1))||(decide (6 < y.Height)))||(decide ((y.Stacks.length:Int) < 1)))) O (JLo (.dptr [LS 1 (E1) y.Stacks,I64 y.Height]) [] O .scf ø (fun hc=>Gz Hu O O O) O (JLo (LS 1 (E1) y.Stacks) [23] O .scf ⟨Ua,ø⟩ (fun hc=>Gm Gs O O O) O (JLo (E7 y.Stacks.length) [24] O .scf ⟨Ua,ø⟩ (fun hc=>Q3 (f:=(E1)) (xs:=y.Stacks) Gf O O) O (JLo (BL (decide (30 < (y.Stacks.length:Int)))) [25] O .scf ⟨Ua,ø⟩ (fun hc=>Z0 O O O) O (JLh (BL ((((decide (y.Height < 1))||(decide (6 < y.Height)))||(decide ((y.Stacks.length:Int) < 1)))||(decide (30 < (y.Stacks.length:Int))))) (Yz O O O O) O (G6 (c3 ?_))))))))
 refine JCc O h ?_ ?_<;>intro h hb
 ·
  refine Jr fun c4=>(JLm (BL false) O (G6 (c4 (H1 (fin1 BL h)))))
 ·
  refine Gi (c2 (Jr fun c5=>(JLh (.mp 1056) (H98 1056 Ef I64 O O) O (JLm (.mp 1056) O (G6 (c5 (Js fun c6=>Jr fun c7=>(JLh (.dptr [LS 1 (E1) y.Stacks,I64 y.Height]) (Gz Hu O O O) O (JLh (LS 1 (E1) y.Stacks) (Gm Gs O O O) O (JLl Gf O O O fun s=>(JLm (I64 0) O (G6 (c7 (Gg ?_))))))))))))))
  obtain⟨b8,c8,c9,t,h⟩:=J7 h
  refine H9 (fun e (j:(Hn Int Int))=>each b8 c8 (List.drop e y.Stacks) e j=some r) (fun e j=>[(1,.dptr [LS 1 (E1) y.Stacks,I64 y.Height]),(3,.mp 1056),(30,LS 1 (E1) y.Stacks),(31,E7 y.Stacks.length),(32,E7 e)]) (fun e j=>[(1056,TP 103 Ef I64 j)]) (fun e=>y.Stacks.length - e) 0 (Hn.empty:Hn Int Int) h ⟨(.sm O O),⟨fmQ O,ø⟩,rfl⟩ ?_
  clear h
  intro e j p K8 e8
  refine Jr fun d0=>(JLh (BL (decide ((e:Int) < (y.Stacks.length:Int)))) (J0 O O O) O (G6 (d0 (Js fun w=>Gh O (fun hb=>?_) (fun hb=>?_)))))
  ·
   have q:=Jn hb
   obtain⟨g,e0,d1,d2,h⟩:=Hx p q
   replace h:=Yr c9 h
   refine Gi (w (Js fun x=>Gg (Jr fun z=>(JLh (.dptr [E1 g]) (H0 (f:=(E1)) (xs:=y.Stacks) (y:=g) O O O Gf d1 O) O (JLh (E1 g) (Gm H3 O O O) O (JLm (E1 g) O (G6 (z (Js fun a0=>Jr fun a1=>(JLm (E1 g) O (JLl G7 O O O fun d8=>(JLh (.dptr [I64 y.Height]) (Gz Rr O O O) O (JLh (I64 y.Height) (Gm Gj O O O) O (JLh (BL (decide (y.Height < (g.length:Int)))) (Z0 O O O) O (G6 (a1 (JCc O h (fun h hb=>?_) (fun h hb=>?_))))))))))))))))))
   ·
    refine Jr fun a2=>(JLm (BL false) O (G6 (a2 (H1 (fin1 BL h)))))
   ·
    refine Gi (a0 (Jr fun a3=>(JLm (E1 g) O (JLl G7 O O O fun a4=>(JLm (I64 0) O (G6 (a3 (Gg ?_))))))))
    obtain⟨d3,a5,a6,o,h⟩:=J7 h
    refine H9 (fun c (d:(Hn Int Int))=>each d3 a5 (List.drop c g) c d=some r) (fun c d=>[(1,.dptr [LS 1 (E1) y.Stacks,I64 y.Height]),(3,.mp 1056),(30,LS 1 (E1) y.Stacks),(31,E7 y.Stacks.length),(32,E7 e),(41,E1 g),(42,E7 g.length),(43,E7 c)]) (fun c d=>[(1056,TP 103 Ef I64 d)]) (fun c=>g.length - c) 0 j h ⟨(.sm O O),⟨fmQ O,ø⟩,rfl⟩ ?_
    clear h
    intro c d k e1 d4
    refine Jr fun a7=>(JLh (BL (decide ((c:Int) < (g.length:Int)))) (J0 O O O) O (G6 (a7 (Js fun a8=>Gh O (fun hb=>?_) (fun hb=>?_)))))
    ·
     have l:=Jn hb
     obtain⟨b,d9,a9,b0,h⟩:=Hx k l
     replace h:=Yr a6 h
     refine Gi (a8 (Js fun b1=>Gg (Jr fun b2=>(JLh (.dptr [I64 b]) (H0 (f:=I64) (xs:=g) (y:=b) O O O G7 a9 O) O (JLh (I64 b) (Gm Gj O O O) O (JLm (I64 b) O (G6 (b2 (Jr fun b3=>(JLm (.mp 1056) O (JLm (I64 b) O ?_)))))))))))
     obtain⟨d5,b4,h⟩:=Ge h
     refine JLh (I64 d5) (((Ex b4) ▸ J5a (av:=I64) (m:=d) (a:=b) 0 E0 (fun _=>O) O (.own O) O Jc2 G2f H51 O)) O ?_
     obtain⟨i,b5,h⟩:=J9 h
     refine JLh (I64 i) (Hz b5 O O O) O (Jc (u:=.junk) (H1d (m:=d) (a:=b) (v:=i) (fun _=>O) O O O O O O Jc2 G2f) (G6 (b3 (Jr fun b6=>(JLm (I64 b) O (JLh (BL (decide (b < 1))) (J0 O O O) O (JLm (BL (decide (b < 1))) O (JLo (I64 b) [] O .scf ø (fun hc=>G2 O O) O (JLo (BL (decide (999999 < b))) [54] O .scf ⟨Ua,ø⟩ (fun hc=>Z0 O O O) O (JLh (BL ((decide (b < 1))||(decide (999999 < b)))) (Yz O O O O) O (JLm (BL ((decide (b < 1))||(decide (999999 < b)))) O (JLo (.mp 1056) [] O .scf ø (fun hc=>G2 O O) O (JLo (I64 b) [] O .scf ø (fun hc=>G2 O O) O ?_)))))))))))))
     obtain⟨n,b7,h⟩:=Ge h
     refine JLo (I64 n) [58,59] O .scf ⟨Ua,Ua,ø⟩ (fun hc=>((Ex (H6 hc b7)) ▸ J5a (av:=I64) (m:=(Hn.put d b i)) (a:=b) 0 E0 (fun _=>O) O (.own O) O Jc2 G2f H51 O)) O (JLo (BL (decide (1 < n))) [60] O .scf ⟨Ua,ø⟩ (fun hc=>Z0 O O O) O (JLh (BL (((decide (b < 1))||(decide (999999 < b)))||(decide (1 < n)))) (Yz O O O O) O (G6 (b6 (JCc O h (fun h hb=>?_) (fun h hb=>?_))))))
     ·
      refine Jr fun b9=>(JLm (BL false) O (G6 (b9 (H1 (fin1 BL h)))))
     ·
      refine Gi (b1 (G1 (JLh (I64 ((c+1:Nat):Int)) (Hz (Hk l a4) O O O) O (JLm (I64 ((c+1:Nat):Int)) O (G6 (d4 _ _ (c+1) (Hn.put d b i) (app1 b0 h) (by omega) ⟨(.sm O O),⟨fmQ O,ø⟩,rfl⟩))))))
    ·
     have h:=app1 o (Hy k (Hb hb))
     refine Hd (x (G1 (JLh (I64 ((e+1:Nat):Int)) (Hz (Hk q s) O O O) O (JLm (I64 ((e+1:Nat):Int)) O (G6 (e8 _ _ (e+1) d (app1 d2 h) (by omega) ⟨(.sm O O),⟨fmQ O,ø⟩,rfl⟩))))))
  ·
   have h:=app1 t (Hy p (Hb hb))
   refine Hd (c6 (Jr fun c0=>(JLm (BL true) O (G6 (c0 (H1 (fin1 BL h)))))))

def Rx (s:List Int):Option (List Int):=
 R38 s fun a=>
 bif a then
 (some [])
 else
 (need (decide ((([]:List Int).length+s.length)*8≤140737488355328∧([]:List Int).length+s.length≤maxLen)) <|
  some (([]:List Int)++s))
theorem G9f (s:List Int) (r:(List Int)) (h:Rx s=some r):Pure E8 81 [E1 s] (·=E1 r):=by
 unfold Rx at h
 refine Hc [.tmp 2] Try.func81 O O (Jr fun a=>(JLh (E1 ([]:List Int)) (Jk 1 O O) O (G6 (a (Js fun b=>Jr fun c=>(JLm (E1 s) O (G74 O O O (R61 G7 O O) ?_)))))))
 rintro u_ L_ ⟨j,d,rfl,rfl⟩
 replace h:=Qec h j d
 refine G6 (c (JCc O h (fun h hb=>?_) (fun h hb=>?_)))
 ·
  refine Jr fun e=>(JLh (E1 ([]:List Int)) (Jk 1 O O) O (G6 (e (H1 (fin1 (fun r:(List Int)=>(E1 r:AV)) h)))))
 ·
  refine Gi (b (Jr fun g=>(JLh (OW 820000005 1 I64 ([]:List Int)) (Gcb 820000005 3 1 O O G7) O (JLm (E1 s) O ?_))))
  obtain⟨i,h⟩:=J1 h
  refine JLh (OW 820000005 1 I64 (([]:List Int)++s)) (Zw (f:=I64) (xs:=([]:List Int)) (ys:=s) O O O O G7 Qv i (fun _=>O) (.inl O)) O (JLm (OW 820000005 1 I64 (([]:List Int)++s)) O (G6 (g (H1 (fin1l (fun r:(List Int)=>(E1 r:AV)) h)))))

def Rw (s:List Int) (v:Int):Option Int:=
 each (fun b c (d:Unit) a=>
  bif decide (v=b) then
  (some (c:Int))
  else
  (a ()))
 (fun(d:Unit)=>
  some (-1)) s 0 ()
theorem G9e (s:List Int) (v:Int) (r:Int) (h:Rw s v=some r):Pure E8 72 [E1 s,I64 v] (·=I64 r):=by
 unfold Rw at h
 refine Hc [.tmp 4] Try.func72 O O (Jr fun w=>(JLm (I64 0) O (G6 (w (Js fun x=>Jr fun z=>(JLm (E1 s) O (JLl G7 O O O fun a0=>(JLm (I64 0) O (G6 (z (Gg ?_)))))))))))
 obtain⟨a1,i,j,g,h⟩:=J7 h
 refine H9 (fun a (b:Unit)=>each a1 i (List.drop a s) a b=some r) (fun a b=>[(0,E1 s),(1,I64 v),(7,E7 s.length),(8,E7 a)]) (fun a b=>[]) (fun a=>s.length - a) 0 () h ⟨(.sm O O),ø,rfl⟩ ?_
 clear h
 intro a b d a4 a2
 refine Jr fun k=>(JLh (BL (decide ((a:Int) < (s.length:Int)))) (J0 O O O) O (G6 (k (Js fun l=>Gh O (fun hb=>?_) (fun hb=>?_)))))
 ·
  have e:=Jn hb
  obtain⟨c,a3,m,n,h⟩:=Hx d e
  replace h:=Yr j h
  refine Gi (l (Js fun o=>Gg (Jr fun p=>(JLm (E7 a) O (JLm (E7 a) O (G6 (p (Jr fun q=>(JLm (I64 v) O (JLm (E1 s) O (JLm (E7 a) O (JLh (.dptr [I64 c]) (H0 (f:=I64) (xs:=s) (y:=c) O O O G7 m O) O (JLh (I64 c) (Gm Gj O O O) O (JLh (BL (decide (v=c))) (R8 O O O) O (G6 (q (JCc O h (fun h hb=>?_) (fun h hb=>?_))))))))))))))))))
  ·
   refine Jr fun t=>(JLm (E7 a) O (JLm (E7 a) O (G6 (t (H1 (fin1 I64 h))))))
  ·
   refine Gi (o (G1 (JLh (I64 ((a+1:Nat):Int)) (Hz (Hk e a0) O O O) O (JLm (I64 ((a+1:Nat):Int)) O (G6 (a2 _ _ (a+1) () (app1 n h) (by omega) ⟨(.sm O O),ø,rfl⟩))))))
 ·
  have h:=app1 g (Hy d (Hb hb))
  refine Hd (x (Jr fun u=>(JLm (I64 (-1)) O (G6 (u (H1 (fin1 I64 h)))))))

def G07 (y:Gq) (box:Int):Option (Int×Int×Bool):=
 each (fun c d (e:Unit) b=>
  bnd (Rw c box) fun a=>
  bif decide (0≤a) then
  (some ((d:Int),a,true))
  else
  (b ()))
 (fun(e:Unit)=>
  some (0,0,false)) y.Stacks 0 ()
theorem Ge6 (y:Gq) (box:Int) (r:Int×Int×Bool) (h:G07 y box=some r):Pure E8 55 [.agg [LS 1 (E1) y.Stacks,I64 y.Height],I64 box] (·=.tup [I64 r.1,I64 r.2.1,BL r.2.2]):=by
 unfold G07 at h
 refine Hc [.tmp 4,.tmp 5,.tmp 6] Try.func55 O O (Jr fun z=>(JLh (.ptr 1065 0) (Qo (cs:=[LS 1 (E1) y.Stacks,I64 y.Height]) 1065 O O O O O) O (JLm (I64 0) O (JLm (I64 0) O (JLm (BL false) O (G6 (z (H5 [(1,I64 box),(2,.dptr [LS 1 (E1) y.Stacks,I64 y.Height])] [] 1065 rfl rfl rfl ø rfl (by exact⟨.conv (.same rfl),.ptr,ø⟩) (Js fun a0=>Jr fun a1=>(JLh (.dptr [LS 1 (E1) y.Stacks,I64 y.Height]) (Gz Hu O O O) O (JLh (LS 1 (E1) y.Stacks) (Gm Gs O O O) O (JLl Gf O O O fun j=>(JLm (I64 0) O (G6 (a1 (Gg ?_))))))))))))))))
 obtain⟨a2,k,l,i,h⟩:=J7 h
 refine H9 (fun a (d:Unit)=>each a2 k (List.drop a y.Stacks) a d=some r) (fun a d=>[(1,I64 box),(11,LS 1 (E1) y.Stacks),(12,E7 y.Stacks.length),(13,E7 a)]) (fun a d=>[]) (fun a=>y.Stacks.length - a) 0 () h ⟨(.sm O O),ø,rfl⟩ ?_
 clear h
 intro a d e a5 a3
 refine Jr fun m=>(JLh (BL (decide ((a:Int) < (y.Stacks.length:Int)))) (J0 O O O) O (G6 (m (Js fun n=>Gh O (fun hb=>?_) (fun hb=>?_)))))
 ·
  have g:=Jn hb
  obtain⟨c,a4,o,p,h⟩:=Hx e g
  replace h:=Yr l h
  refine Gi (n (Js fun q=>Gg (Jr fun s=>(JLm (E7 a) O (JLh (.dptr [E1 c]) (H0 (f:=(E1)) (xs:=y.Stacks) (y:=c) O O O Gf o O) O (JLh (E1 c) (Gm H3 O O O) O (JLm (E7 a) O (JLm (E1 c) O (G6 (s (Jr fun t=>(JLm (E1 c) O (JLm (I64 box) O ?_)))))))))))))
  obtain⟨b,u,h⟩:=Ge h
  refine JLh (I64 b) (Gv O (G9e c box b u) J16 ⟨O,O,O,O,ø⟩) O (JLm (I64 b) O (G6 (t (Jr fun v=>(JLm (I64 b) O (JLh (BL (decide (0≤b))) (G4e O O O) O (G6 (v (JCc O h (fun h hb=>?_) (fun h hb=>?_))))))))))
  ·
   refine Jr fun w=>(JLm (E7 a) O (JLm (I64 b) O (JLm (E7 a) O (JLm (I64 b) O (JLm (BL true) O (G6 (w (H1 (⟨[E7 a,I64 b,BL true],[],ø,O,⟨⟨_,O,.conv (.same O)⟩,⟨_,O,.conv (.same O)⟩,⟨_,O,.conv (.same O)⟩,ø⟩,O,congrArg (fun r:Int×Int×Bool=>(.tup [I64 r.1,I64 r.2.1,BL r.2.2]:AV)) (Ex h)⟩)))))))))
  ·
   refine Gi (q (G1 (JLh (I64 ((a+1:Nat):Int)) (Hz (Hk g j) O O O) O (JLm (I64 ((a+1:Nat):Int)) O (G6 (a3 _ _ (a+1) () (app1 p h) (by omega) ⟨(.sm O O),ø,rfl⟩))))))
 ·
  have h:=app1 i (Hy e (Hb hb))
  refine Hd (a0 (Jr fun x=>(JLm (I64 0) O (JLm (I64 0) O (JLm (BL false) O (G6 (x (H1 (⟨[I64 0,I64 0,BL false],[],ø,O,⟨⟨_,O,.conv (.same O)⟩,⟨_,O,.conv (.same O)⟩,⟨_,O,.conv (.same O)⟩,ø⟩,O,congrArg (fun r:Int×Int×Bool=>(.tup [I64 r.1,I64 r.2.1,BL r.2.2]:AV)) (Ex h)⟩)))))))))

def Qx (y:Gq) (order:List Int):Option (Hp×Bool):=
 bnd (Zg y) fun j=>
 bif (!j) then
 (none)
 else
 (each (fun i l (a:(List (List Int))×Int×(List Int)×(List Gy)×Int) f=>
   bnd (Rx i) fun d=>
   need (decide ((a.1.length+[d].length)*24≤140737488355328∧a.1.length+[d].length≤maxLen)) <|
   f ((a.1++[d]),a.2.1,a.2.2.1,a.2.2.2.1,a.2.2.2.2))
  (fun(a:(List (List Int))×Int×(List Int)×(List Gy)×Int)=>
   each (fun c g (b:(Hn Int Int)) e=>
    bnd (G07 y c) fun h=>
    bnd (some (Hn.get b c 0)) fun k=>
    bif ((Hn.has b c)||(!h.2.2)) then
    (none)
    else
    (e (Hn.put b c (g:Int))))
   (fun(b:(Hn Int Int))=>
    some ((Hp.mk a.1 a.2.1 a.2.2.1 b a.2.2.2.1 a.2.2.2.2),true)) order 0 (Hn.empty:Hn Int Int)) y.Stacks 0 ([],y.Height,order,[],0))
abbrev E9 (a:(List (List Int))×Int×(List Int)×(List Gy)×Int):List AV:=[OW 1068 1 (E1) a.1,I64 a.2.1,E1 a.2.2.1,.mp 1106,E3 a.2.2.2.1,I64 a.2.2.2.2]
theorem H92 (y:Gq) (order:List Int) (r:Hp×Bool) (h:Qx y order=some r):Q4 E8 57 [.agg [LS 1 (E1) y.Stacks,I64 y.Height],E1 order] [] (fun av L'=>av=.tup [.ptr 1105 0,BL r.2]∧L'=[(1105,.box 105 [LS 1 (E1) r.1.stacks,I64 r.1.height,E1 r.1.order,.mp 1106,E3 r.1.steps,I64 r.1.next]),(1106,TP 103 Ef I64 r.1.ranks)]):=by
 unfold Qx at h
 refine G1f [] [.tmp 4,.tmp 5] Try.func57 O O (Hb1 O) (Jr fun d1=>(JLh (.ptr 1067 0) (Qo (cs:=[LS 1 (E1) y.Stacks,I64 y.Height]) 1067 O O O O O) O (JLm (.sc (.pointer none)) O (JLm (BL false) O (G6 (d1 (H5 [(1,E1 order),(2,.dptr [LS 1 (E1) y.Stacks,I64 y.Height])] [] 1067 rfl rfl rfl ø rfl (by exact⟨.conv (.same rfl),.ptr,ø⟩) (Js fun d2=>Jr fun d3=>(JLh (.agg [LS 1 (E1) y.Stacks,I64 y.Height]) (Gw He O O O) O ?_)))))))))
 obtain⟨w,d4,h⟩:=Ge h
 refine JLh (BL w) (Gv O (G38 y w d4) H7d ⟨O,O,ø⟩) O (JLh (BL (!w)) (Zd (b:=w) O O) O (G6 (d3 (JCc O h (fun h hb=>?_) (fun h hb=>?_)))))
 ·
  refine Jr fun d5=>(JLm (.sc (.pointer none)) O (JLm (BL false) O (G6 (d5 (H1 ?_)))))
  cases h
 ·
  refine Gi (d2 ?_)
  refine Jr fun d6=>(JLh (.dptr [I64 y.Height]) (Gz Rr O O O) O (JLh (I64 y.Height) (Gm Gj O O O) O (JLm (E1 order) O (JLh (.mp 1106) (H98 1106 Ef I64 O O) O (JLh (.agg [.sc (.slice none 0 0),I64 y.Height,E1 order,.mp 1106,E3 ([]:List Gy),I64 0]) (Jo (cs:=[.sc (.slice none 0 0),I64 y.Height,E1 order,.mp 1106,E3 ([]:List Gy),I64 0]) [(0,1),(1,1),(2,1),(3,1),(4,1),(5,1)] [.sc (.slice none 0 0),I64 0,E1 ([]:List Int),.sc (.map none),E3 ([]:List Gy),I64 0] [.slice none 0 0,E0,.slice none 0 0,.map none,.slice none 0 0,E0] H6e He5 ⟨.inl O,.inl O,.inr ⟨_,O,O⟩,.inl O,.inr ⟨_,O,O⟩,.inl O,ø⟩ O O) O (JLh (.ptr 1105 0) (Qo (cs:=[.sc (.slice none 0 0),I64 y.Height,E1 order,.mp 1106,E3 ([]:List Gy),I64 0]) 1105 O O O O O) O ?_))))))
  refine H93 1105 0 1068 25 1 O O O (cs':=[OW 1068 1 (E1) ([]:List (List Int)),I64 y.Height,E1 order,.mp 1106,E3 ([]:List Gy),I64 0]) O (JLm (.ptr 1105 0) O (G6 (d6 (Js fun d7=>Jr fun d8=>(JLh (.dptr [LS 1 (E1) y.Stacks,I64 y.Height]) (Gz Hu O O O) O (JLh (LS 1 (E1) y.Stacks) (Gm Gs O O O) O (JLl Gf O O O fun b5=>(JLm (I64 0) O (G6 (d8 (Gg ?_)))))))))))
  obtain⟨d9,b6,b7,x,h⟩:=J7 h
  refine H9 (fun k (c:(List (List Int))×Int×(List Int)×(List Gy)×Int)=>each d9 b6 (List.drop k y.Stacks) k c=some r) (fun k c=>[(1,E1 order),(2,.dptr [LS 1 (E1) y.Stacks,I64 y.Height]),(6,.ptr 1105 0),(26,LS 1 (E1) y.Stacks),(27,E7 y.Stacks.length),(28,E7 k)]) (fun k c=>[(1106,TP 103 Ef I64 (Hn.empty:Hn Int Int)),(1068,.spare 25 1 c.1.length c.1.length),(1105,.box 105 (E9 c))]) (fun k=>y.Stacks.length - k) 0 ([],y.Height,order,[],0) h ⟨(.sm O O),⟨fmQ O,⟨_,rfl,.same⟩,fbQ O (.sm O O),ø⟩,rfl⟩ ?_
  clear h
  intro k c q e4 e0
  refine Jr fun b8=>(JLh (BL (decide ((k:Int) < (y.Stacks.length:Int)))) (J0 O O O) O (G6 (b8 (Js fun b9=>Gh O (fun hb=>?_) (fun hb=>?_)))))
  ·
   have s:=Jn hb
   obtain⟨l,e2,c0,c1,h⟩:=Hx q s
   replace h:=Yr b7 h
   refine Gi (b9 (Js fun c2=>Gg (Jr fun c3=>(JLh (.dptr [E1 l]) (H0 (f:=(E1)) (xs:=y.Stacks) (y:=l) O O O Gf c0 O) O (JLh (E1 l) (Gm H3 O O O) O (JLm (E1 l) O (G6 (c3 ?_))))))))
   refine Rj (l':=[(1,E1 order),(2,.dptr [LS 1 (E1) y.Stacks,I64 y.Height]),(6,.ptr 1105 0),(8,E1 l),(26,LS 1 (E1) y.Stacks),(27,E7 y.Stacks.length),(28,E7 k)]) (L':=[(1106,TP 103 Ef I64 (Hn.empty:Hn Int Int)),(1068,.spare 25 1 c.1.length c.1.length),(1105,.box 105 (E9 c))]) ⟨(.sm O O),⟨fmQ O,⟨_,rfl,.same⟩,fbQ O (.sm O O),ø⟩,rfl⟩ ?_
   obtain⟨j,c4,h⟩:=Ge h
   obtain⟨c5,h⟩:=J1 h
   refine Ju [8,11] [0,0,0,0,0,0,0,0,0,1,1,0] [1,0,0,0,0,0,0,0,0,1,1,0] [[(1106,TP 103 Ef I64 (Hn.empty:Hn Int Int)),(1068,.spare 25 1 c.1.length c.1.length),(1105,.box 105 (E9 c))],((1068,.spare 25 1 (c.1++[j]).length (c.1++[j]).length)::[(1106,TP 103 Ef I64 (Hn.empty:Hn Int Int)),(1068,.spare 25 1 c.1.length c.1.length),(1105,.box 105 (E9 c))]),((1105,.box 105 [OW 1068 1 (E1) (c.1++[j]),I64 c.2.1,E1 c.2.2.1,.mp 1106,E3 c.2.2.2.1,I64 c.2.2.2.2])::((1068,.spare 25 1 (c.1++[j]).length (c.1++[j]).length)::[(1106,TP 103 Ef I64 (Hn.empty:Hn Int Int)),(1068,.spare 25 1 c.1.length c.1.length),(1105,.box 105 (E9 c))]))] Jm (by kernel_rfl) rfl rfl ?_
   refine Gd (u:=.ptr 1105 0) O O ⟨Gc (G2 O O) O,Gc (G2 O O) O,ø⟩ (Gd (u:=.ptr 1105 0) O O ⟨Gc (G2 O O) O,ø⟩ (Gd (u:=.ptr 1105 0) O O ⟨Gc (Ga0 O O) O,ø⟩ (Gd (u:=.ptr 1105 0) O O ⟨Gc (Ht G31 O O) O,ø⟩ (Gd (u:=OW 1068 1 (E1) c.1) O O ⟨Gc (Hw Gs O O O O) O,ø⟩ (Gd (u:=E1 l) O O ⟨Gc (G2 O O) O,ø⟩ (Gd (u:=E1 j) O O ⟨Gc (Gv O (G9f l j c4) J13 ⟨O,O,ø⟩) O,ø⟩ (Gd (u:=LS 1 (E1) [j]) O O ⟨Gc (H8 (xs:=[E1 j]) O ⟨O,O,ø⟩ Gf Zi O O O O) O,ø⟩ (D_w (u:=OW 1068 1 (E1) (c.1++[j])) O O O O (Gc (Ro (f:=(E1)) (xs:=c.1) (ys:=[j]) O O O O Gf G51 c5 (fun _=>O) (.inl O) O) O) (Gd (u:=.ptr 1105 0) O O ⟨Gc (Ga0 O O) O,ø⟩ (Gd (u:=.ptr 1105 0) O O ⟨Gc (Ht G31 O O) O,ø⟩ (H4b (u:=.junk) O O O O (Gc (Hv (u:=OW 1068 1 (E1) (c.1++[j])) (ds:=[OW 1068 1 (E1) (c.1++[j]),I64 c.2.1,E1 c.2.2.1,.mp 1106,E3 c.2.2.2.1,I64 c.2.2.2.2]) Gb7 O O O O O O O O) O) (Y3 ?_))))))))))))
   refine c2 (G1 (JLh (I64 ((k+1:Nat):Int)) (Hz (Hk s b5) O O O) O (JLm (I64 ((k+1:Nat):Int)) O (G6 (e0 _ _ (k+1) ((c.1++[j]),c.2.1,c.2.2.1,c.2.2.2.1,c.2.2.2.2) (app1 c1 h) (by omega) ⟨(.sm O O),⟨fmQ O,⟨_,rfl,.same⟩,fbQ O (.sm O O),ø⟩,rfl⟩)))))
  ·
   have h:=app1 x (Hy q (Hb hb))
   refine Hd (d7 (Js fun c6=>Jr fun c7=>(JLm (E1 order) O (JLl G7 O O O fun c8=>(JLm (I64 0) O (G6 (c7 (Gg ?_))))))))
   obtain⟨c9,z,a0,t,h⟩:=J7 h
   refine H9 (fun e (g:(Hn Int Int))=>each c9 z (List.drop e order) e g=some r) (fun e g=>[(2,.dptr [LS 1 (E1) y.Stacks,I64 y.Height]),(6,.ptr 1105 0),(44,E1 order),(45,E7 order.length),(46,E7 e)]) (fun e g=>[(1106,TP 103 Ef I64 g),(1068,.spare 25 1 c.1.length c.1.length),(1105,.box 105 (E9 c))]) (fun e=>order.length - e) 0 (Hn.empty:Hn Int Int) h ⟨(.sm O O),⟨fmQ O,⟨_,rfl,.same⟩,fbQ O (.sm O O),ø⟩,rfl⟩ ?_
   clear h
   intro e g o e3 d0
   refine Jr fun a1=>(JLh (BL (decide ((e:Int) < (order.length:Int)))) (J0 O O O) O (G6 (a1 (Js fun a2=>Gh O (fun hb=>?_) (fun hb=>?_)))))
   ·
    have p:=Jn hb
    obtain⟨d,e1,a3,a4,h⟩:=Hx o p
    replace h:=Yr a0 h
    refine Gi (a2 (Js fun a5=>Gg (Jr fun a6=>(JLm (E7 e) O (JLh (.dptr [I64 d]) (H0 (f:=I64) (xs:=order) (y:=d) O O O G7 a3 O) O (JLh (I64 d) (Gm Gj O O O) O (JLm (E7 e) O (JLm (I64 d) O (G6 (a6 (Jr fun a7=>(JLh (.agg [LS 1 (E1) y.Stacks,I64 y.Height]) (Gw He O O O) O (JLm (I64 d) O ?_)))))))))))))
    obtain⟨i,a8,h⟩:=Ge h
    refine JLh (.tup [I64 i.1,I64 i.2.1,BL i.2.2]) (Gv O (Ge6 y d i a8) H7b ⟨O,O,O,O,ø⟩) O (JLm (.tup [I64 i.1,I64 i.2.1,BL i.2.2]) O (JLh (I64 i.1) (Gn O O O) O (JLh (I64 i.2.1) (Gn O O O) O (JLh (BL i.2.2) (Gn O O O) O (JLm (I64 i.1) O (JLm (I64 i.2.1) O (JLm (BL i.2.2) O (G6 (a7 (Js fun a9=>Jr fun b0=>(JLm (.ptr 1105 0) O (JLh (.ptr 1105 0) (Ga0 O O) O (JLh (.ptr 1105 3) (Ht G30 O O) O (JLh (.mp 1106) (Hw G45 O O O O) O (JLm (I64 d) O ?_)))))))))))))))
    obtain⟨n,b1,h⟩:=Ge h
    refine JLh (.tup [I64 n,BL (Hn.has g d)]) (((Ex b1) ▸ H99 (av:=I64) (m:=g) (a:=d) 0 E0 (fun _=>O) O (.own O) O Jc2 G2f H51 O)) O (JLm (.tup [I64 n,BL (Hn.has g d)]) O (JLh (I64 n) (Gn O O O) O (JLh (BL (Hn.has g d)) (Gn O O O) O (JLm (I64 n) O (JLm (BL (Hn.has g d)) O (G6 (b0 (Jr fun b2=>(JLm (BL (Hn.has g d)) O (JLm (BL (Hn.has g d)) O (JLo (BL i.2.2) [] O .scf ø (fun hc=>G2 O O) O (JLo (BL (!i.2.2)) [69] O .scf ⟨Ua,ø⟩ (fun hc=>Zd (b:=i.2.2) O O) O (JLh (BL ((Hn.has g d)||(!i.2.2))) (Yz O O O O) O (G6 (b2 (JCc O h (fun h hb=>?_) (fun h hb=>?_)))))))))))))))))
    ·
     refine Jr fun b3=>(JLm (.sc (.pointer none)) O (JLm (BL false) O (G6 (b3 (H1 ?_)))))
     cases h
    ·
     refine Gi (a9 (G1 (JLm (.ptr 1105 0) O (JLh (.ptr 1105 0) (Ga0 O O) O (JLh (.ptr 1105 3) (Ht G30 O O) O (JLh (.mp 1106) (Hw G45 O O O O) O (JLm (I64 d) O (JLm (E7 e) O (Jc (u:=.junk) (H1d (m:=g) (a:=d) (v:=(e:Int)) (fun _=>O) O O O O O O Jc2 G2f) (G6 (a5 (G1 (JLh (I64 ((e+1:Nat):Int)) (Hz (Hk p c8) O O O) O (JLm (I64 ((e+1:Nat):Int)) O (G6 (d0 _ _ (e+1) (Hn.put g d (e:Int)) (app1 a4 h) (by omega) ⟨(.sm O O),⟨fmQ O,⟨_,rfl,.same⟩,fbQ O (.sm O O),ø⟩,rfl⟩))))))))))))))))
   ·
    have h:=app1 t (Hy o (Hb hb))
    refine Hd (c6 (Jr fun b4=>(JLm (.ptr 1105 0) O (JLm (.ptr 1105 0) O (JLm (BL true) O (G6 (b4 (Rj (l':=[(4,.ptr 1105 0),(5,BL true)]) (L':=[(1106,TP 103 Ef I64 g),(1105,.box 105 [LS 1 (E1) c.1,I64 c.2.1,E1 c.2.2.1,.mp 1106,E3 c.2.2.2.1,I64 c.2.2.2.2])]) ⟨(.sm O O),⟨⟨_,O,.map⟩,⟨_,O,.boxL O ⟨.list O,.same O,.same O,.same O,.same O,.same O,ø⟩⟩,ø⟩,O⟩ (H1 ?_)))))))))
    obtain rfl:=Ex h
    exact⟨[.ptr 1105 0,BL true],[(1105,.box 105 [LS 1 (E1) c.1,I64 c.2.1,E1 c.2.2.1,.mp 1106,E3 c.2.2.2.1,I64 c.2.2.2.2]),(1106,TP 103 Ef I64 g)],⟨fbQ O (.sm O O),fmQ O,ø⟩,rfl,⟨⟨_,rfl,.conv (.same rfl)⟩,⟨_,rfl,.conv (.same rfl)⟩,ø⟩,rfl,rfl⟩

def Ym (y:Gq) (order:List Int):Option Bool:=
 bnd (Zg y) fun j=>
 bif (!j) then
 (some false)
 else
 (each (fun i l (a:(List (List Int))×Int×(List Int)×(List Gy)×Int) f=>
   bnd (Rx i) fun d=>
   need (decide ((a.1.length+[d].length)*24≤140737488355328∧a.1.length+[d].length≤maxLen)) <|
   f ((a.1++[d]),a.2.1,a.2.2.1,a.2.2.2.1,a.2.2.2.2))
  (fun(a:(List (List Int))×Int×(List Int)×(List Gy)×Int)=>
   each (fun b g (c:(Hn Int Int)) e=>
    bnd (G07 y b) fun h=>
    bnd (some (Hn.get c b 0)) fun k=>
    bif ((Hn.has c b)||(!h.2.2)) then
    (some false)
    else
    (e (Hn.put c b (g:Int))))
   (fun(c:(Hn Int Int))=>
    none) order 0 (Hn.empty:Hn Int Int)) y.Stacks 0 ([],y.Height,order,[],0))
abbrev Ea (a:(List (List Int))×Int×(List Int)×(List Gy)×Int):List AV:=[OW 1068 1 (E1) a.1,I64 a.2.1,E1 a.2.2.1,.mp 1106,E3 a.2.2.2.1,I64 a.2.2.2.2]
theorem H4a (y:Gq) (order:List Int) (r:Bool) (h:Ym y order=some r):Pure E8 57 [.agg [LS 1 (E1) y.Stacks,I64 y.Height],E1 order] (·=.tup [.sc (.pointer none),BL r]):=by
 unfold Ym at h
 refine Hc [.tmp 4,.tmp 5] Try.func57 O O (Jr fun d1=>(JLh (.ptr 1067 0) (Qo (cs:=[LS 1 (E1) y.Stacks,I64 y.Height]) 1067 O O O O O) O (JLm (.sc (.pointer none)) O (JLm (BL false) O (G6 (d1 (H5 [(1,E1 order),(2,.dptr [LS 1 (E1) y.Stacks,I64 y.Height])] [] 1067 rfl rfl rfl ø rfl (by exact⟨.conv (.same rfl),.ptr,ø⟩) (Js fun d2=>Jr fun d3=>(JLh (.agg [LS 1 (E1) y.Stacks,I64 y.Height]) (Gw He O O O) O ?_)))))))))
 obtain⟨w,d4,h⟩:=Ge h
 refine JLh (BL w) (Gv O (G38 y w d4) H7d ⟨O,O,ø⟩) O (JLh (BL (!w)) (Zd (b:=w) O O) O (G6 (d3 (JCc O h (fun h hb=>?_) (fun h hb=>?_)))))
 ·
  refine Jr fun d5=>(JLm (.sc (.pointer none)) O (JLm (BL false) O (G6 (d5 (H1 (⟨[.sc (.pointer none),BL false],[],ø,O,⟨⟨_,O,.conv (.same O)⟩,⟨_,O,.conv (.same O)⟩,ø⟩,O,congrArg (fun r:Bool=>(.tup [.sc (.pointer none),BL r]:AV)) (Ex h)⟩))))))
 ·
  refine Gi (d2 ?_)
  refine Jr fun d6=>(JLh (.dptr [I64 y.Height]) (Gz Rr O O O) O (JLh (I64 y.Height) (Gm Gj O O O) O (JLm (E1 order) O (JLh (.mp 1106) (H98 1106 Ef I64 O O) O (JLh (.agg [.sc (.slice none 0 0),I64 y.Height,E1 order,.mp 1106,E3 ([]:List Gy),I64 0]) (Jo (cs:=[.sc (.slice none 0 0),I64 y.Height,E1 order,.mp 1106,E3 ([]:List Gy),I64 0]) [(0,1),(1,1),(2,1),(3,1),(4,1),(5,1)] [.sc (.slice none 0 0),I64 0,E1 ([]:List Int),.sc (.map none),E3 ([]:List Gy),I64 0] [.slice none 0 0,E0,.slice none 0 0,.map none,.slice none 0 0,E0] H6e He5 ⟨.inl O,.inl O,.inr ⟨_,O,O⟩,.inl O,.inr ⟨_,O,O⟩,.inl O,ø⟩ O O) O (JLh (.ptr 1105 0) (Qo (cs:=[.sc (.slice none 0 0),I64 y.Height,E1 order,.mp 1106,E3 ([]:List Gy),I64 0]) 1105 O O O O O) O ?_))))))
  refine H93 1105 0 1068 25 1 O O O (cs':=[OW 1068 1 (E1) ([]:List (List Int)),I64 y.Height,E1 order,.mp 1106,E3 ([]:List Gy),I64 0]) O (JLm (.ptr 1105 0) O (G6 (d6 (Js fun d7=>Jr fun d8=>(JLh (.dptr [LS 1 (E1) y.Stacks,I64 y.Height]) (Gz Hu O O O) O (JLh (LS 1 (E1) y.Stacks) (Gm Gs O O O) O (JLl Gf O O O fun b5=>(JLm (I64 0) O (G6 (d8 (Gg ?_)))))))))))
  obtain⟨d9,b6,b7,x,h⟩:=J7 h
  refine H9 (fun k (c:(List (List Int))×Int×(List Int)×(List Gy)×Int)=>each d9 b6 (List.drop k y.Stacks) k c=some r) (fun k c=>[(1,E1 order),(2,.dptr [LS 1 (E1) y.Stacks,I64 y.Height]),(6,.ptr 1105 0),(26,LS 1 (E1) y.Stacks),(27,E7 y.Stacks.length),(28,E7 k)]) (fun k c=>[(1106,TP 103 Ef I64 (Hn.empty:Hn Int Int)),(1068,.spare 25 1 c.1.length c.1.length),(1105,.box 105 (Ea c))]) (fun k=>y.Stacks.length - k) 0 ([],y.Height,order,[],0) h ⟨(.sm O O),⟨fmQ O,⟨_,rfl,.same⟩,fbQ O (.sm O O),ø⟩,rfl⟩ ?_
  clear h
  intro k c q e4 e0
  refine Jr fun b8=>(JLh (BL (decide ((k:Int) < (y.Stacks.length:Int)))) (J0 O O O) O (G6 (b8 (Js fun b9=>Gh O (fun hb=>?_) (fun hb=>?_)))))
  ·
   have s:=Jn hb
   obtain⟨l,e2,c0,c1,h⟩:=Hx q s
   replace h:=Yr b7 h
   refine Gi (b9 (Js fun c2=>Gg (Jr fun c3=>(JLh (.dptr [E1 l]) (H0 (f:=(E1)) (xs:=y.Stacks) (y:=l) O O O Gf c0 O) O (JLh (E1 l) (Gm H3 O O O) O (JLm (E1 l) O (G6 (c3 ?_))))))))
   refine Rj (l':=[(1,E1 order),(2,.dptr [LS 1 (E1) y.Stacks,I64 y.Height]),(6,.ptr 1105 0),(8,E1 l),(26,LS 1 (E1) y.Stacks),(27,E7 y.Stacks.length),(28,E7 k)]) (L':=[(1106,TP 103 Ef I64 (Hn.empty:Hn Int Int)),(1068,.spare 25 1 c.1.length c.1.length),(1105,.box 105 (Ea c))]) ⟨(.sm O O),⟨fmQ O,⟨_,rfl,.same⟩,fbQ O (.sm O O),ø⟩,rfl⟩ ?_
   obtain⟨j,c4,h⟩:=Ge h
   obtain⟨c5,h⟩:=J1 h
   refine Ju [8,11] [0,0,0,0,0,0,0,0,0,1,1,0] [1,0,0,0,0,0,0,0,0,1,1,0] [[(1106,TP 103 Ef I64 (Hn.empty:Hn Int Int)),(1068,.spare 25 1 c.1.length c.1.length),(1105,.box 105 (Ea c))],((1068,.spare 25 1 (c.1++[j]).length (c.1++[j]).length)::[(1106,TP 103 Ef I64 (Hn.empty:Hn Int Int)),(1068,.spare 25 1 c.1.length c.1.length),(1105,.box 105 (Ea c))]),((1105,.box 105 [OW 1068 1 (E1) (c.1++[j]),I64 c.2.1,E1 c.2.2.1,.mp 1106,E3 c.2.2.2.1,I64 c.2.2.2.2])::((1068,.spare 25 1 (c.1++[j]).length (c.1++[j]).length)::[(1106,TP 103 Ef I64 (Hn.empty:Hn Int Int)),(1068,.spare 25 1 c.1.length c.1.length),(1105,.box 105 (Ea c))]))] Jm (by kernel_rfl) rfl rfl ?_
   refine Gd (u:=.ptr 1105 0) O O ⟨Gc (G2 O O) O,Gc (G2 O O) O,ø⟩ (Gd (u:=.ptr 1105 0) O O ⟨Gc (G2 O O) O,ø⟩ (Gd (u:=.ptr 1105 0) O O ⟨Gc (Ga0 O O) O,ø⟩ (Gd (u:=.ptr 1105 0) O O ⟨Gc (Ht G31 O O) O,ø⟩ (Gd (u:=OW 1068 1 (E1) c.1) O O ⟨Gc (Hw Gs O O O O) O,ø⟩ (Gd (u:=E1 l) O O ⟨Gc (G2 O O) O,ø⟩ (Gd (u:=E1 j) O O ⟨Gc (Gv O (G9f l j c4) J13 ⟨O,O,ø⟩) O,ø⟩ (Gd (u:=LS 1 (E1) [j]) O O ⟨Gc (H8 (xs:=[E1 j]) O ⟨O,O,ø⟩ Gf Zi O O O O) O,ø⟩ (D_w (u:=OW 1068 1 (E1) (c.1++[j])) O O O O (Gc (Ro (f:=(E1)) (xs:=c.1) (ys:=[j]) O O O O Gf G51 c5 (fun _=>O) (.inl O) O) O) (Gd (u:=.ptr 1105 0) O O ⟨Gc (Ga0 O O) O,ø⟩ (Gd (u:=.ptr 1105 0) O O ⟨Gc (Ht G31 O O) O,ø⟩ (H4b (u:=.junk) O O O O (Gc (Hv (u:=OW 1068 1 (E1) (c.1++[j])) (ds:=[OW 1068 1 (E1) (c.1++[j]),I64 c.2.1,E1 c.2.2.1,.mp 1106,E3 c.2.2.2.1,I64 c.2.2.2.2]) Gb7 O O O O O O O O) O) (Y3 ?_))))))))))))
   refine c2 (G1 (JLh (I64 ((k+1:Nat):Int)) (Hz (Hk s b5) O O O) O (JLm (I64 ((k+1:Nat):Int)) O (G6 (e0 _ _ (k+1) ((c.1++[j]),c.2.1,c.2.2.1,c.2.2.2.1,c.2.2.2.2) (app1 c1 h) (by omega) ⟨(.sm O O),⟨fmQ O,⟨_,rfl,.same⟩,fbQ O (.sm O O),ø⟩,rfl⟩)))))
  ·
   have h:=app1 x (Hy q (Hb hb))
   refine Hd (d7 (Js fun c6=>Jr fun c7=>(JLm (E1 order) O (JLl G7 O O O fun c8=>(JLm (I64 0) O (G6 (c7 (Gg ?_))))))))
   obtain⟨c9,z,a0,t,h⟩:=J7 h
   refine H9 (fun e (i:(Hn Int Int))=>each c9 z (List.drop e order) e i=some r) (fun e i=>[(2,.dptr [LS 1 (E1) y.Stacks,I64 y.Height]),(6,.ptr 1105 0),(44,E1 order),(45,E7 order.length),(46,E7 e)]) (fun e i=>[(1106,TP 103 Ef I64 i),(1068,.spare 25 1 c.1.length c.1.length),(1105,.box 105 (Ea c))]) (fun e=>order.length - e) 0 (Hn.empty:Hn Int Int) h ⟨(.sm O O),⟨fmQ O,⟨_,rfl,.same⟩,fbQ O (.sm O O),ø⟩,rfl⟩ ?_
   clear h
   intro e i o e3 d0
   refine Jr fun a1=>(JLh (BL (decide ((e:Int) < (order.length:Int)))) (J0 O O O) O (G6 (a1 (Js fun a2=>Gh O (fun hb=>?_) (fun hb=>?_)))))
   ·
    have p:=Jn hb
    obtain⟨d,e1,a3,a4,h⟩:=Hx o p
    replace h:=Yr a0 h
    refine Gi (a2 (Js fun a5=>Gg (Jr fun a6=>(JLm (E7 e) O (JLh (.dptr [I64 d]) (H0 (f:=I64) (xs:=order) (y:=d) O O O G7 a3 O) O (JLh (I64 d) (Gm Gj O O O) O (JLm (E7 e) O (JLm (I64 d) O (G6 (a6 (Jr fun a7=>(JLh (.agg [LS 1 (E1) y.Stacks,I64 y.Height]) (Gw He O O O) O (JLm (I64 d) O ?_)))))))))))))
    obtain⟨g,a8,h⟩:=Ge h
    refine JLh (.tup [I64 g.1,I64 g.2.1,BL g.2.2]) (Gv O (Ge6 y d g a8) H7b ⟨O,O,O,O,ø⟩) O (JLm (.tup [I64 g.1,I64 g.2.1,BL g.2.2]) O (JLh (I64 g.1) (Gn O O O) O (JLh (I64 g.2.1) (Gn O O O) O (JLh (BL g.2.2) (Gn O O O) O (JLm (I64 g.1) O (JLm (I64 g.2.1) O (JLm (BL g.2.2) O (G6 (a7 (Js fun a9=>Jr fun b0=>(JLm (.ptr 1105 0) O (JLh (.ptr 1105 0) (Ga0 O O) O (JLh (.ptr 1105 3) (Ht G30 O O) O (JLh (.mp 1106) (Hw G45 O O O O) O (JLm (I64 d) O ?_)))))))))))))))
    obtain⟨n,b1,h⟩:=Ge h
    refine JLh (.tup [I64 n,BL (Hn.has i d)]) (((Ex b1) ▸ H99 (av:=I64) (m:=i) (a:=d) 0 E0 (fun _=>O) O (.own O) O Jc2 G2f H51 O)) O (JLm (.tup [I64 n,BL (Hn.has i d)]) O (JLh (I64 n) (Gn O O O) O (JLh (BL (Hn.has i d)) (Gn O O O) O (JLm (I64 n) O (JLm (BL (Hn.has i d)) O (G6 (b0 (Jr fun b2=>(JLm (BL (Hn.has i d)) O (JLm (BL (Hn.has i d)) O (JLo (BL g.2.2) [] O .scf ø (fun hc=>G2 O O) O (JLo (BL (!g.2.2)) [69] O .scf ⟨Ua,ø⟩ (fun hc=>Zd (b:=g.2.2) O O) O (JLh (BL ((Hn.has i d)||(!g.2.2))) (Yz O O O O) O (G6 (b2 (JCc O h (fun h hb=>?_) (fun h hb=>?_)))))))))))))))))
    ·
     refine Jr fun b3=>(JLm (.sc (.pointer none)) O (JLm (BL false) O (G6 (b3 (H1 (⟨[.sc (.pointer none),BL false],[],ø,O,⟨⟨_,O,.conv (.same O)⟩,⟨_,O,.conv (.same O)⟩,ø⟩,O,congrArg (fun r:Bool=>(.tup [.sc (.pointer none),BL r]:AV)) (Ex h)⟩))))))
    ·
     refine Gi (a9 (G1 (JLm (.ptr 1105 0) O (JLh (.ptr 1105 0) (Ga0 O O) O (JLh (.ptr 1105 3) (Ht G30 O O) O (JLh (.mp 1106) (Hw G45 O O O O) O (JLm (I64 d) O (JLm (E7 e) O (Jc (u:=.junk) (H1d (m:=i) (a:=d) (v:=(e:Int)) (fun _=>O) O O O O O O Jc2 G2f) (G6 (a5 (G1 (JLh (I64 ((e+1:Nat):Int)) (Hz (Hk p c8) O O O) O (JLm (I64 ((e+1:Nat):Int)) O (G6 (d0 _ _ (e+1) (Hn.put i d (e:Int)) (app1 a4 h) (by omega) ⟨(.sm O O),⟨fmQ O,⟨_,rfl,.same⟩,fbQ O (.sm O O),ø⟩,rfl⟩))))))))))))))))
   ·
    have h:=app1 t (Hy o (Hb hb))
    refine Hd (c6 (Jr fun b4=>(JLm (.ptr 1105 0) O (JLm (.ptr 1105 0) O (JLm (BL true) O (G6 (b4 (Rj (l':=[(4,.ptr 1105 0),(5,BL true)]) (L':=[(1106,TP 103 Ef I64 i),(1105,.box 105 [LS 1 (E1) c.1,I64 c.2.1,E1 c.2.2.1,.mp 1106,E3 c.2.2.2.1,I64 c.2.2.2.2])]) ⟨(.sm O O),⟨⟨_,O,.map⟩,⟨_,O,.boxL O ⟨.list O,.same O,.same O,.same O,.same O,.same O,ø⟩⟩,ø⟩,O⟩ (H1 ?_)))))))))
    cases h

def Zc (j:Hp) (box:Int):Option Int:=
 bnd (some (Hn.get j.ranks box 0)) fun a=>
 bif (Hn.has j.ranks box) then
 (some a)
 else
 (some (j.order.length:Int))
theorem H26 (j:Hp) (box:Int) (r:Int) (h:Zc j box=some r):Pure E8 82 [.dptr (Hp.cs j),I64 box] (·=I64 r):=by
 unfold Zc at h
 refine Hc [.tmp 4] Try.func82 O O (Jr fun c=>(JLm (I64 0) O (G6 (c (Js fun d=>Jr fun e=>(JLm (E6 j) O (JLh (E6 j) (H4e O O) O (JLh (.dptr ((Hp.cs j).drop 3)) (Gz G30 O O O) O (JLh (DM Ef I64 j.ranks) (Gm G45 O O O) O (JLm (I64 box) O ?_))))))))))
 obtain⟨b,f,h⟩:=Ge h
 refine JLh (.tup [I64 b,BL (Hn.has j.ranks box)]) (((Ex f) ▸ H99 (av:=I64) (m:=j.ranks) (a:=box) 0 E0 (fun _=>O) O .data O Jc2 G2f H51 O)) O (JLm (.tup [I64 b,BL (Hn.has j.ranks box)]) O (JLh (I64 b) (Gn O O O) O (JLh (BL (Hn.has j.ranks box)) (Gn O O O) O (JLm (I64 b) O (JLm (BL (Hn.has j.ranks box)) O (G6 (e (Jr fun g=>(JLm (BL (Hn.has j.ranks box)) O (G6 (g (JCc O h (fun h hb=>?_) (fun h hb=>?_)))))))))))))
 ·
  refine Jr fun i=>(JLm (I64 b) O (JLm (I64 b) O (G6 (i (H1 (fin1 I64 h))))))
 ·
  refine Gi (d (Jr fun k=>(JLm (E6 j) O (JLh (E6 j) (H4e O O) O (JLh (.dptr ((Hp.cs j).drop 2)) (Gz H2e O O O) O (JLh (E1 j.order) (Gm H3 O O O) O (JLl G7 O O O fun l=>(JLm (E7 j.order.length) O (G6 (k (H1 (fin1 I64 h))))))))))))

def Zp (j:Hp):Option Int:=
 each (fun k m (e:Int) g=>
  each (fun h l (a:Int×Int) f=>
   jp (fun b=>
    bnd (Zc j h) fun c=>
    bif decide (a.2 < c) then
    (chk (a.1+1) fun i=>
     b (i,a.2))
    else
    (b (a.1,c))) fun(d:Int×Int)=>
   f (d.1,d.2))
  (fun(a:Int×Int)=>
   g a.1) k 0 (e,(j.order.length:Int)))
 (fun(e:Int)=>
  some e) j.stacks 0 0
theorem H49 (j:Hp) (r:Int) (h:Zp j=some r):Pure E8 58 [.dptr (Hp.cs j)] (·=I64 r):=by
 unfold Zp at h
 refine Hc [.tmp 2] Try.func58 O O (Jr fun b2=>(JLm (I64 0) O (G6 (b2 (Jr fun b3=>(JLm (I64 0) O (G6 (b3 (Js fun b4=>Jr fun b6=>(JLm (E6 j) O (JLh (E6 j) (H4e O O) O (JLh (E6 j) (Gz G31 O O O) O (JLh (LS 1 (E1) j.stacks) (Gm Gs O O O) O (JLl Gf O O O fun t=>(JLm (I64 0) O (G6 (b6 (Gg ?_))))))))))))))))))
 obtain⟨b5,b7,b8,u,h⟩:=J7 h
 refine H9 (fun c (k:Int)=>each b5 b7 (List.drop c j.stacks) c k=some r) (fun c k=>[(0,E6 j),(3,I64 k),(13,LS 1 (E1) j.stacks),(14,E7 j.stacks.length),(15,E7 c)]) (fun c k=>[]) (fun c=>j.stacks.length - c) 0 0 h ⟨(.sm O O),ø,rfl⟩ ?_
 clear h
 intro c k q K5 e5
 refine Jr fun b9=>(JLh (BL (decide ((c:Int) < (j.stacks.length:Int)))) (J0 O O O) O (G6 (b9 (Js fun c0=>Gh O (fun hb=>?_) (fun hb=>?_)))))
 ·
  have s:=Jn hb
  obtain⟨d,d1,c1,c2,h⟩:=Hx q s
  replace h:=Yr b8 h
  refine Gi (c0 (Js fun c3=>Gg (Jr fun c4=>(JLh (.dptr [E1 d]) (H0 (f:=(E1)) (xs:=j.stacks) (y:=d) O O O Gf c1 O) O (JLh (E1 d) (Gm H3 O O O) O (JLm (E1 d) O (G6 (c4 (Jr fun v=>(JLm (E6 j) O (JLh (E6 j) (H4e O O) O (JLh (.dptr ((Hp.cs j).drop 2)) (Gz H2e O O O) O (JLh (E1 j.order) (Gm H3 O O O) O (JLl G7 O O O fun c9=>(JLm (E7 j.order.length) O (G6 (v (Jr fun w=>(JLm (E1 d) O (JLl G7 O O O fun x=>(JLm (I64 0) O (G6 (w (Gg ?_))))))))))))))))))))))))
  obtain⟨c5,z,a0,o,h⟩:=J7 h
  refine H9 (fun a (b:Int×Int)=>each c5 z (List.drop a d) a b=some r) (fun a b=>[(0,E6 j),(3,I64 b.1),(6,I64 b.2),(13,LS 1 (E1) j.stacks),(14,E7 j.stacks.length),(15,E7 c),(24,E1 d),(25,E7 d.length),(26,E7 a)]) (fun a b=>[]) (fun a=>d.length - a) 0 (k,(j.order.length:Int)) h ⟨(.sm O O),ø,rfl⟩ ?_
  clear h
  intro a b l d2 c6
  refine Jr fun a1=>(JLh (BL (decide ((a:Int) < (d.length:Int)))) (J0 O O O) O (G6 (a1 (Js fun a2=>Gh O (fun hb=>?_) (fun hb=>?_)))))
  ·
   have m:=Jn hb
   obtain⟨i,d0,a3,a4,h⟩:=Hx l m
   replace h:=Yr a0 h
   refine Gi (a2 ?_)
   obtain⟨a5,p,h⟩:=G11 h
   refine Z5 (fun e:Int×Int=>a5 e=some r) (fun e=>[(0,E6 j),(3,I64 e.1),(6,I64 e.2),(13,LS 1 (E1) j.stacks),(14,E7 j.stacks.length),(15,E7 c),(24,E1 d),(25,E7 d.length),(26,E7 a)]) (fun e=>[]) (fun Kj33 ej33=>?_) ?_
   ·
    refine Gg (Jr fun a6=>(JLh (.dptr [I64 i]) (H0 (f:=I64) (xs:=d) (y:=i) O O O G7 a3 O) O (JLh (I64 i) (Gm Gj O O O) O (JLm (I64 i) O (G6 (a6 (Jr fun a7=>(JLm (E6 j) O (JLm (I64 i) O ?_)))))))))
    obtain⟨g,a8,h⟩:=Ge h
    refine JLh (I64 g) (Gv O (H26 j i g a8) Q1d ⟨O,O,O,O,ø⟩) O (JLm (I64 g) O (G6 (a7 (Jr fun a9=>(JLm (I64 g) O (JLm (I64 b.2) O (JLh (BL (decide (b.2 < g))) (Z0 O O O) O (G6 (a9 (JCc O h (fun h hb=>?_) (fun h hb=>?_)))))))))))
    ·
     refine G1 (JLm (I64 b.1) O ?_)
     obtain⟨n,b0,h⟩:=J9 h
     refine JLh (I64 n) (Hz b0 O O O) O (JLm (I64 n) O (G6 (ej33 _ _ (n,b.2) h ⟨(.sm O O),ø,rfl⟩)))
    ·
     refine G1 (JLm (I64 g) O (JLm (I64 g) O (G6 (ej33 _ _ (b.1,g) h ⟨(.sm O O),ø,rfl⟩))))
   ·intro e h
    replace h:=app1 p h
    refine G1 (JLh (I64 ((a+1:Nat):Int)) (Hz (Hk m x) O O O) O (JLm (I64 ((a+1:Nat):Int)) O (G6 (c6 _ _ (a+1) (e.1,e.2) (app1 a4 h) (by omega) ⟨(.sm O O),ø,rfl⟩))))
  ·
   have h:=app1 o (Hy l (Hb hb))
   refine Hd (c3 (G1 (JLh (I64 ((c+1:Nat):Int)) (Hz (Hk s t) O O O) O (JLm (I64 ((c+1:Nat):Int)) O (G6 (e5 _ _ (c+1) b.1 (app1 c2 h) (by omega) ⟨(.sm O O),ø,rfl⟩))))))
 ·
  have h:=app1 u (Hy q (Hb hb))
  refine Hd (b4 (Jr fun b1=>(JLm (I64 k) O (JLm (I64 k) O (G6 (b1 (H1 (fin1 I64 h))))))))

def Qm (y:Gq) (order:List Int):Option (Int×Int):=
 bif (Qx y order).isSome then
 (bnd (Qx y order) fun a=>
  bif (!a.2) then
  (some (0,2))
  else
  (bnd (Zp a.1) fun c=>
   some (c,0)))
 else
 (bnd (Ym y order) fun b=>
  bif (!b) then
  (some (0,2))
  else
  (none))
theorem Yn (y:Gq) (order:List Int) (r:Int×Int) (h:Qm y order=some r):Pure E8 26 [.agg [LS 1 (E1) y.Stacks,I64 y.Height],E1 order] (·=.tup [I64 r.1,I64 r.2]):=by
 unfold Qm at h
 refine Hc [.tmp 4,.tmp 5] Try.func26 O O (Jr fun l=>(JLh (.ptr 1040 0) (Qo (cs:=[LS 1 (E1) y.Stacks,I64 y.Height]) 1040 O O O O O) O (JLm (I64 0) O (JLm (I64 0) O (G6 (l (H5 [(1,E1 order),(2,.dptr [LS 1 (E1) y.Stacks,I64 y.Height])] [] 1040 rfl rfl rfl ø rfl (by exact⟨.conv (.same rfl),.ptr,ø⟩) (Jr fun f=>(JLh (.agg [LS 1 (E1) y.Stacks,I64 y.Height]) (Gw He O O O) O (JLm (E1 order) O ((Bool.eq_false_or_eq_true (Qx y order).isSome).elim (fun d=>?_) (fun d=>?_))))))))))))
 ·
  replace h:=H6 d h
  obtain⟨a,m,h⟩:=Ge h
  refine JLh (.tup [.ptr 1105 0,BL a.2]) (Hc5 (args:=[.agg [LS 1 (E1) y.Stacks,I64 y.Height],E1 order]) (L0:=[]) (Lr:=[(1105,.box 105 [LS 1 (E1) a.1.stacks,I64 a.1.height,E1 a.1.order,.mp 1106,E3 a.1.steps,I64 a.1.next]),(1106,TP 103 Ef I64 a.1.ranks)]) O (H92 y order a m) J18 ⟨.inl O,O,.inl O,O,ø⟩ ø O O O) O (JLm (.tup [.ptr 1105 0,BL a.2]) O (JLh (.ptr 1105 0) (Gn O O O) O (JLh (BL a.2) (Gn O O O) O (JLm (.ptr 1105 0) O (JLm (BL a.2) O (G6 (f (Js fun n=>Jr fun o=>(JLm (BL a.2) O (JLh (BL (!a.2)) (Zd (b:=a.2) O O) O (G6 (o (JCc O h (fun h hb=>?_) (fun h hb=>?_))))))))))))))
  ·
   refine Jr fun p=>(JLm (I64 0) O (JLm (I64 2) O (G6 (p (H1 (⟨[I64 0,I64 2],[],ø,O,⟨⟨_,O,.conv (.same O)⟩,⟨_,O,.conv (.same O)⟩,ø⟩,O,congrArg (fun r:Int×Int=>(.tup [I64 r.1,I64 r.2]:AV)) (Ex h)⟩))))))
  ·
   refine Gi (n (Jr fun q=>(JLm (.ptr 1105 0) O ?_)))
   obtain⟨e,s,h⟩:=Ge h
   refine JLh (I64 e) (Q0e (args:=[.dptr (Hp.cs a.1)]) O (H49 a.1 e s) Q25 ⟨.ptrL O (dnQ 3 O O ⟨.mp O,.data O O,.data O O,ø⟩),ø⟩ O) O (JLm (I64 e) O (JLm (I64 0) O (G6 (q (H1 (⟨[I64 e,I64 0],[],ø,O,⟨⟨_,O,.conv (.same O)⟩,⟨_,O,.conv (.same O)⟩,ø⟩,O,congrArg (fun r:Int×Int=>(.tup [I64 r.1,I64 r.2]:AV)) (Ex h)⟩))))))
 ·
  replace h:=Hr d h
  obtain⟨c,g,h⟩:=Ge h
  refine JLh (.tup [.sc (.pointer none),BL c]) (Gv O (H4a y order c g) J18 ⟨O,O,O,O,ø⟩) O (JLm (.tup [.sc (.pointer none),BL c]) O (JLh (.sc (.pointer none)) (Gn O O O) O (JLh (BL c) (Gn O O O) O (JLm (.sc (.pointer none)) O (JLm (BL c) O (G6 (f (Js fun i=>Jr fun j=>(JLm (BL c) O (JLh (BL (!c)) (Zd (b:=c) O O) O (G6 (j (JCc O h (fun h hb=>?_) (fun h hb=>?_))))))))))))))
  ·
   refine Jr fun k=>(JLm (I64 0) O (JLm (I64 2) O (G6 (k (H1 (⟨[I64 0,I64 2],[],ø,O,⟨⟨_,O,.conv (.same O)⟩,⟨_,O,.conv (.same O)⟩,ø⟩,O,congrArg (fun r:Int×Int=>(.tup [I64 r.1,I64 r.2]:AV)) (Ex h)⟩))))))
  ·
   refine Gi (i (Jr fun t=>(JLm (.sc (.pointer none)) O ?_)))
   cases h

def Jt (a:List G3) (b:List G3):Option Bool:=
 bif decide ((a.length:Int)≠(b.length:Int)) then
 (some false)
 else
 (each (fun d e (f:Unit) c=>
   R2 b (e:Int) fun g=>
   bif (!decide (d=g)) then
   (some false)
   else
   (c ()))
  (fun(f:Unit)=>
   some true) a 0 ())
theorem R3 (a:List G3) (b:List G3) (r:Bool) (h:Jt a b=some r):Pure E8 20 [E2 a,E2 b] (·=BL r):=by
 unfold Jt at h
 refine Hc [.tmp 4] Try.func20 O O (Jr fun a0=>(JLm (BL false) O (G6 (a0 (Js fun a1=>Jr fun a2=>(JLm (E2 a) O (JLl J4 O O O fun a9=>(JLm (E2 b) O (JLl J4 O O O fun b0=>(JLh (BL (decide ((a.length:Int)≠(b.length:Int)))) (Yo O O O) O (G6 (a2 (JCc O h (fun h hb=>?_) (fun h hb=>?_))))))))))))))
 ·
  refine Jr fun a3=>(JLm (BL false) O (G6 (a3 (H1 (fin1 BL h)))))
 ·
  refine Gi (a1 (Js fun a4=>Jr fun a5=>(JLm (I64 0) O (G6 (a5 (Gg ?_))))))
  obtain⟨a6,l,m,k,h⟩:=J7 h
  refine H9 (fun c (g:Unit)=>each a6 l (List.drop c a) c g=some r) (fun c g=>[(0,E2 a),(1,E2 b),(5,E7 c)]) (fun c g=>[]) (fun c=>a.length - c) 0 () h ⟨(.sm O O),ø,O⟩ ?_
  clear h
  intro c g i b1 a7
  refine Js fun n=>Jr fun o=>(JLm (E7 c) O (JLm (E2 a) O (JLl J4 O O O fun p=>(JLh (BL (decide ((c:Int) < (a.length:Int)))) (J0 O O O) O (G6 (o (Gh O (fun hb=>?_) (fun hb=>?_))))))))
  ·
   have j:=Jn hb
   obtain⟨d,a8,q,s,h⟩:=Hx i j
   replace h:=Yr m h
   refine Gi (n (Js fun t=>Gg (Js fun u=>?_)))
   obtain⟨b2,e,v,w,h⟩:=R4 h
   refine JC_d0 Jm (by kernel_rfl) (Dq (E2 a) (G2 O O) O (Dq (E7 c) (G2 O O) O (Dq (.dptr [I64 d.From,I64 d.To]) (H0 (f:=G3.av) (xs:=a) (y:=d) O O O J4 q O) O (Dq (.agg [I64 d.From,I64 d.To]) (Gw G5b O O O) O (Dq (E2 b) (G2 O O) O (Dq (E7 c) (G2 O O) O (Dq (.dptr [I64 e.From,I64 e.To]) (H0 (f:=G3.av) (xs:=b) (y:=e) O O O J4 w v) O (Dq (.agg [I64 e.From,I64 e.To]) (Gw G5b O O O) O (Dq (BL (!decide (d=e))) (R5c (vs:=[.int .i64 d.From,.int .i64 d.To]) (us:=[.int .i64 e.From,.int .i64 e.To]) 4 O (Rd9 d e) Jc8 Qa2 O O O) O (Dnil (u (JCc O h (fun h hb=>?_) (fun h hb=>?_)))))))))))))
   ·
    refine Jr fun x=>(JLm (BL false) O (G6 (x (H1 (fin1 BL h)))))
   ·
    refine Gi (t (G1 (JLm (E7 c) O (JLh (I64 ((c+1:Nat):Int)) (Hz (Hk j p) O O O) O (JLm (I64 ((c+1:Nat):Int)) O (G6 (a7 _ _ (c+1) () (app1 s h) (by omega) ⟨(.sm O O),ø,rfl⟩)))))))
  ·
   have h:=app1 k (Hy i (Hb hb))
   refine Hd (a4 (Jr fun z=>(JLm (BL true) O (G6 (z (H1 (fin1 BL h)))))))

def Qa (y:Gq) (order:List Int):Option (Bool×Int):=
 bnd (Qm y order) fun a=>
 some (((decide (a.2=0))&&(decide (a.1=0))),a.2)
theorem G55 (y:Gq) (order:List Int) (r:Bool×Int) (h:Qa y order=some r):Pure E8 22 [.agg [LS 1 (E1) y.Stacks,I64 y.Height],E1 order] (·=.tup [BL r.1,I64 r.2]):=by
 unfold Qa at h
 refine Hc [.tmp 4,.tmp 5] Try.func22 O O (Jr fun b=>(JLh (.ptr 1033 0) (Qo (cs:=[LS 1 (E1) y.Stacks,I64 y.Height]) 1033 O O O O O) O (JLm (BL false) O (JLm (I64 0) O (G6 (b (H5 [(1,E1 order),(2,.dptr [LS 1 (E1) y.Stacks,I64 y.Height])] [] 1033 rfl rfl rfl ø rfl (by exact⟨.conv (.same rfl),.ptr,ø⟩) (Jr fun c=>(JLh (.agg [LS 1 (E1) y.Stacks,I64 y.Height]) (Gw He O O O) O (JLm (E1 order) O ?_))))))))))
 obtain⟨a,d,h⟩:=Ge h
 refine JLh (.tup [I64 a.1,I64 a.2]) (Gv O (Yn y order a d) G7b ⟨O,O,O,O,ø⟩) O (JLm (.tup [I64 a.1,I64 a.2]) O (JLh (I64 a.1) (Gn O O O) O (JLh (I64 a.2) (Gn O O O) O (JLm (I64 a.1) O (JLm (I64 a.2) O (G6 (c (Jr fun e=>(JLm (I64 a.2) O (JLh (BL (decide (a.2=0))) (R8 O O O) O (JLm (BL (decide (a.2=0))) O (JLo (I64 a.1) [] O .sct ø (fun hc=>G2 O O) O (JLo (BL (decide (a.1=0))) [17] O .sct ⟨Ua,ø⟩ (fun hc=>R8 O O O) O (JLh (BL ((decide (a.2=0))&&(decide (a.1=0)))) (Rh O O O O) O (JLm (I64 a.2) O (JLm (BL ((decide (a.2=0))&&(decide (a.1=0)))) O (JLm (I64 a.2) O (G6 (e (H1 ?_))))))))))))))))))))
 exact⟨[BL ((decide (a.2=0))&&(decide (a.1=0))),I64 a.2],[],ø,O,⟨⟨_,O,.conv (.same O)⟩,⟨_,O,.conv (.same O)⟩,ø⟩,O,congrArg (fun r:Bool×Int=>(.tup [BL r.1,I64 r.2]:AV)) (Ex h)⟩

def Q9 (order:List Int) (box:Int):Option Int:=
 bnd (Rw order box) fun a=>
 bif decide (0≤a) then
 (some a)
 else
 (some (order.length:Int))
theorem Y9 (order:List Int) (box:Int) (r:Int) (h:Q9 order box=some r):Pure E8 40 [E1 order,I64 box] (·=I64 r):=by
 unfold Q9 at h
 refine Hc [.tmp 4] Try.func40 O O (Jr fun b=>(JLm (I64 0) O (G6 (b (Js fun c=>Jr fun d=>(JLm (E1 order) O (JLm (I64 box) O ?_)))))))
 obtain⟨a,e,h⟩:=Ge h
 refine JLh (I64 a) (Gv O (G9e order box a e) J16 ⟨O,O,O,O,ø⟩) O (JLm (I64 a) O (G6 (d (Jr fun f=>(JLm (I64 a) O (JLh (BL (decide (0≤a))) (G4e O O O) O (G6 (f (JCc O h (fun h hb=>?_) (fun h hb=>?_))))))))))
 ·
  refine Jr fun g=>(JLm (I64 a) O (JLm (I64 a) O (G6 (g (H1 (fin1 I64 h))))))
 ·
  refine Gi (c (Jr fun i=>(JLm (E1 order) O (JLl G7 O O O fun j=>(JLm (E7 order.length) O (G6 (i (H1 (fin1 I64 h)))))))))

def Rt (y:Gq) (order:List Int):Option (List Int):=
 each (fun j l (e:(List Int)) g=>
  each (fun b k (a:Int×(List Int)) f=>
   bnd (Q9 order b) fun d=>
   jp (fun c=>
    bif decide (a.1 < d) then
    (need (decide ((a.2.length+[b].length)*8≤140737488355328∧a.2.length+[b].length≤maxLen)) <|
     c (a.2++[b]))
    else
    (c a.2)) fun(h:(List Int))=>
   f ((min a.1 d),h))
  (fun(a:Int×(List Int))=>
   g a.2) j 0 ((order.length:Int),e))
 (fun(e:(List Int))=>
  bnd (J1f e) fun i=>
  some i) y.Stacks 0 []
theorem H20 (y:Gq) (order:List Int) (r:(List Int)) (h:Rt y order=some r):Pure E8 50 [.agg [LS 1 (E1) y.Stacks,I64 y.Height],E1 order] (·=E1 r):=by
 unfold Rt at h
 refine Hc [.tmp 4] Try.func50 O O (Jr fun b4=>(JLh (.ptr 1062 0) (Qo (cs:=[LS 1 (E1) y.Stacks,I64 y.Height]) 1062 O O O O O) O (JLh (E1 ([]:List Int)) (Jk 1 O O) O (G6 (b4 (H5 [(1,E1 order),(2,.dptr [LS 1 (E1) y.Stacks,I64 y.Height])] [] 1062 rfl rfl rfl ø rfl (by exact⟨.conv (.same rfl),.ptr,ø⟩) (Jr fun b6=>(JLh (.vec 1064 (([]:List Int).length) 1 (([]:List Int).length)) (H4c 1064 3 1 O O O) O (G6 (b6 (Js fun b7=>Jr fun b8=>(JLh (.dptr [LS 1 (E1) y.Stacks,I64 y.Height]) (Gz Hu O O O) O (JLh (LS 1 (E1) y.Stacks) (Gm Gs O O O) O (JLl Gf O O O fun s=>(JLm (I64 0) O (G6 (b8 (Gg ?_))))))))))))))))))
 obtain⟨b5,b9,c0,t,h⟩:=J7 h
 refine H9 (fun g (d:(List Int))=>each b5 b9 (List.drop g y.Stacks) g d=some r) (fun g d=>[(1,E1 order),(5,.vec 1064 d.length 1 d.length),(13,LS 1 (E1) y.Stacks),(14,E7 y.Stacks.length),(15,E7 g)]) (fun g d=>[(1064,.vec 3 1 d.length (d.map I64))]) (fun g=>y.Stacks.length - g) 0 [] h ⟨(.sm O O),⟨⟨_,rfl,.vec⟩,ø⟩,rfl⟩ ?_
 clear h
 intro g d o K5 e5
 refine Jr fun c1=>(JLh (BL (decide ((g:Int) < (y.Stacks.length:Int)))) (J0 O O O) O (G6 (c1 (Js fun c2=>Gh O (fun hb=>?_) (fun hb=>?_)))))
 ·
  have p:=Jn hb
  obtain⟨j,d3,c3,c4,h⟩:=Hx o p
  replace h:=Yr c0 h
  refine Gi (c2 (Js fun c5=>Gg (Jr fun c6=>(JLh (.dptr [E1 j]) (H0 (f:=(E1)) (xs:=y.Stacks) (y:=j) O O O Gf c3 O) O (JLh (E1 j) (Gm H3 O O O) O (JLm (E1 j) O (G6 (c6 (Jr fun u=>(JLm (E1 order) O (JLl G7 O O O fun d1=>(JLm (E7 order.length) O (G6 (u (Jr fun v=>(JLm (E1 j) O (JLl G7 O O O fun w=>(JLm (I64 0) O (G6 (v (Gg ?_)))))))))))))))))))))
  obtain⟨c7,x,z,m,h⟩:=J7 h
  refine H9 (fun c (a:Int×(List Int))=>each c7 x (List.drop c j) c a=some r) (fun c a=>[(1,E1 order),(5,.vec 1064 a.2.length 1 a.2.length),(8,I64 a.1),(13,LS 1 (E1) y.Stacks),(14,E7 y.Stacks.length),(15,E7 g),(21,E1 j),(22,E7 j.length),(23,E7 c)]) (fun c a=>[(1064,.vec 3 1 a.2.length (a.2.map I64))]) (fun c=>j.length - c) 0 ((order.length:Int),d) h ⟨(.sm O O),⟨⟨_,rfl,.vec⟩,ø⟩,rfl⟩ ?_
  clear h
  intro c a k d4 c8
  refine Jr fun a0=>(JLh (BL (decide ((c:Int) < (j.length:Int)))) (J0 O O O) O (G6 (a0 (Js fun a1=>Gh O (fun hb=>?_) (fun hb=>?_)))))
  ·
   have l:=Jn hb
   obtain⟨b,d2,a2,a3,h⟩:=Hx k l
   replace h:=Yr z h
   refine Gi (a1 (Js fun a4=>Gg (Jr fun a5=>(JLh (.dptr [I64 b]) (H0 (f:=I64) (xs:=j) (y:=b) O O O G7 a2 O) O (JLh (I64 b) (Gm Gj O O O) O (JLm (I64 b) O (G6 (a5 (Jr fun a6=>(JLm (E1 order) O (JLm (I64 b) O ?_)))))))))))
   obtain⟨e,a7,h⟩:=Ge h
   refine JLh (I64 e) (Gv O (Y9 order b e a7) G52 ⟨O,O,O,O,ø⟩) O (JLm (I64 e) O (G6 (a6 ?_)))
   obtain⟨a8,n,h⟩:=G11 h
   refine Z5 (fun i:(List Int)=>a8 i=some r) (fun i=>[(1,E1 order),(5,.vec 1064 i.length 1 i.length),(8,I64 a.1),(11,I64 e),(13,LS 1 (E1) y.Stacks),(14,E7 y.Stacks.length),(15,E7 g),(21,E1 j),(22,E7 j.length),(23,E7 c)]) (fun i=>[(1064,.vec 3 1 i.length (i.map I64))]) (fun Kj67 ej67=>?_) ?_
   ·
    refine Jr fun a9=>(JLm (I64 e) O (JLm (I64 a.1) O (JLh (BL (decide (a.1 < e))) (Z0 O O O) O (G6 (a9 (JCc O h (fun h hb=>?_) (fun h hb=>?_)))))))
    ·
     refine G1 (JLm (.vec 1064 a.2.length 1 a.2.length) O (JLm (I64 b) O (JLh (E1 [b]) (H8 (xs:=[I64 b]) O ⟨O,O,ø⟩ G7 Jf O O O O) O ?_)))
     obtain⟨b0,h⟩:=J1 h
     refine JLh (.vec 1064 ((a.2++[b]).length) 1 ((a.2++[b]).length)) (G8c (f:=I64) (xs:=a.2) (ys:=[b]) (ver:=a.2.length) (ver1:=(a.2++[b]).length) rfl rfl rfl rfl G7 Qv b0 (fun _=>rfl) (.inl rfl) (by simp)) O (JLm (.vec 1064 ((a.2++[b]).length) 1 ((a.2++[b]).length)) O (G6 (ej67 _ _ (a.2++[b]) h ⟨(.sm O O),⟨⟨_,rfl,.vec⟩,ø⟩,rfl⟩)))
    ·
     refine Gi (ej67 _ _ a.2 h ⟨(.sm O O),⟨⟨_,rfl,.vec⟩,ø⟩,rfl⟩)
   ·intro i h
    replace h:=app1 n h
    refine G1 (JLm (I64 a.1) O (JLm (I64 e) O (JLh (I64 (min a.1 e)) (Q9d O O O) O (JLm (I64 (min a.1 e)) O (G6 (a4 (G1 (JLh (I64 ((c+1:Nat):Int)) (Hz (Hk l w) O O O) O (JLm (I64 ((c+1:Nat):Int)) O (G6 (c8 _ _ (c+1) ((min a.1 e),i) (app1 a3 h) (by omega) ⟨(.sm O O),⟨⟨_,rfl,.vec⟩,ø⟩,rfl⟩)))))))))))
  ·
   have h:=app1 m (Hy k (Hb hb))
   refine Hd (c5 (G1 (JLh (I64 ((g+1:Nat):Int)) (Hz (Hk p s) O O O) O (JLm (I64 ((g+1:Nat):Int)) O (G6 (e5 _ _ (g+1) a.2 (app1 c4 h) (by omega) ⟨(.sm O O),⟨⟨_,rfl,.vec⟩,ø⟩,rfl⟩))))))
 ·
  have h:=app1 t (Hy o (Hb hb))
  refine Hd (b7 (Jr fun b1=>(JLm (.vec 1064 d.length 1 d.length) O ?_)))
  obtain⟨q,b2,h⟩:=Ge h
  refine JLh (.tup []) (Q98 (F:=77) (xs:=d) (r:=q) O He9 Ha0 J15 O O O b2 O) O (G6 (b1 (Jr fun b3=>(JLm (.vec 1064 d.length 1 d.length) O (JLm (.vec 1064 d.length 1 d.length) O (G6 (b3 (H1c [(4,E1 q)] [] 1064 rfl rfl ø rfl (by exact⟨.vec,ø⟩) (H1 (fin1 (fun r:(List Int)=>(E1 r:AV)) h))))))))))

def Yv (y:Gq) (order:List Int):Option ((List Int)×Int):=
 bnd (Qm y order) fun a=>
 bif decide (a.2≠0) then
 (some ([],a.2))
 else
 (bnd (Rt y order) fun b=>
  some (b,0))
theorem Ga5 (y:Gq) (order:List Int) (r:(List Int)×Int) (h:Yv y order=some r):Pure E8 23 [.agg [LS 1 (E1) y.Stacks,I64 y.Height],E1 order] (·=.tup [E1 r.1,I64 r.2]):=by
 unfold Yv at h
 refine Hc [.tmp 4,.tmp 5] Try.func23 O O (Jr fun c=>(JLh (.ptr 1034 0) (Qo (cs:=[LS 1 (E1) y.Stacks,I64 y.Height]) 1034 O O O O O) O (JLh (E1 ([]:List Int)) (Jk 1 O O) O (JLm (I64 0) O (G6 (c (H5 [(1,E1 order),(2,.dptr [LS 1 (E1) y.Stacks,I64 y.Height])] [] 1034 rfl rfl rfl ø rfl (by exact⟨.conv (.same rfl),.ptr,ø⟩) (Js fun d=>Jr fun e=>(JLh (.agg [LS 1 (E1) y.Stacks,I64 y.Height]) (Gw He O O O) O (JLm (E1 order) O ?_))))))))))
 obtain⟨a,f,h⟩:=Ge h
 refine JLh (.tup [I64 a.1,I64 a.2]) (Gv O (Yn y order a f) G7b ⟨O,O,O,O,ø⟩) O (JLm (.tup [I64 a.1,I64 a.2]) O (JLh (I64 a.1) (Gn O O O) O (JLh (I64 a.2) (Gn O O O) O (JLm (I64 a.1) O (JLm (I64 a.2) O (G6 (e (Jr fun g=>(JLm (I64 a.2) O (JLh (BL (decide (a.2≠0))) (Yo O O O) O (G6 (g (JCc O h (fun h hb=>?_) (fun h hb=>?_))))))))))))))
 ·
  refine Jr fun i=>(JLm (I64 a.2) O (JLh (E1 ([]:List Int)) (Jk 1 O O) O (JLm (I64 a.2) O (G6 (i (H1 (⟨[E1 ([]:List Int),I64 a.2],[],ø,O,⟨⟨_,O,.conv (.same O)⟩,⟨_,O,.conv (.same O)⟩,ø⟩,O,congrArg (fun r:(List Int)×Int=>(.tup [E1 r.1,I64 r.2]:AV)) (Ex h)⟩)))))))
 ·
  refine Gi (d (Jr fun j=>(JLh (.agg [LS 1 (E1) y.Stacks,I64 y.Height]) (Gw He O O O) O (JLm (E1 order) O ?_))))
  obtain⟨b,k,h⟩:=Ge h
  refine JLh (E1 b) (Gv O (H20 y order b k) H7c ⟨O,O,O,O,ø⟩) O (JLm (E1 b) O (JLm (I64 0) O (G6 (j (H1 (⟨[E1 b,I64 0],[],ø,O,⟨⟨_,O,.conv (.same O)⟩,⟨_,O,.conv (.same O)⟩,ø⟩,O,congrArg (fun r:(List Int)×Int=>(.tup [E1 r.1,I64 r.2]:AV)) (Ex h)⟩))))))

def R7 (y:Gq) (order:List Int) (from_:Int) (rank:Int):Option Int:=
 each (fun e f (a:Int×Int) g=>
  jp (fun c=>
   bif ((decide ((f:Int)=from_))||(decide ((e.length:Int)=y.Height))) then
   (c (a.1,a.2))
   else
   (chk ((order.length:Int)+1) fun h=>
    each (fun i l (b:Int) d=>
     bnd (Q9 order i) fun j=>
     d (min b j))
    (fun(b:Int)=>
     bif ((decide (rank≤b))&&((decide (a.1 < 0))||(decide (b < a.2)))) then
     (c ((f:Int),b))
     else
     (c (a.1,a.2))) e 0 h)) fun(k:Int×Int)=>
  g (k.1,k.2))
 (fun(a:Int×Int)=>
  some a.1) y.Stacks 0 ((-1),0)
theorem Hbb (y:Gq) (order:List Int) (from_:Int) (rank:Int) (r:Int) (h:R7 y order from_ rank=some r):Pure E8 56 [.agg [LS 1 (E1) y.Stacks,I64 y.Height],E1 order,I64 from_,I64 rank] (·=I64 r):=by
 unfold R7 at h
 refine Hc [.tmp 8] Try.func56 O O (Jr fun b4=>(JLh (.ptr 1066 0) (Qo (cs:=[LS 1 (E1) y.Stacks,I64 y.Height]) 1066 O O O O O) O (JLm (I64 0) O (G6 (b4 (fzQ [(1,E1 order),(2,I64 from_),(3,I64 rank),(4,.dptr [LS 1 (E1) y.Stacks,I64 y.Height])] [] 1066 rfl rfl rfl ø rfl (Jr fun b6=>(JLm (I64 (-1)) O (JLm (I64 0) O (G6 (b6 (Js fun b7=>Jr fun b8=>(JLh (.dptr [LS 1 (E1) y.Stacks,I64 y.Height]) (Gz Hu O O O) O (JLh (LS 1 (E1) y.Stacks) (Gm Gs O O O) O (JLl Gf O O O fun q=>(JLm (I64 0) O (G6 (b8 (Gg ?_)))))))))))))))))))
 obtain⟨b5,b9,c0,s,h⟩:=J7 h
 refine H9 (fun b (c:Int×Int)=>each b5 b9 (List.drop b y.Stacks) b c=some r) (fun b c=>[(1,E1 order),(2,I64 from_),(3,I64 rank),(4,.dptr [LS 1 (E1) y.Stacks,I64 y.Height]),(9,I64 c.1),(10,I64 c.2),(17,LS 1 (E1) y.Stacks),(18,E7 y.Stacks.length),(19,E7 b)]) (fun b c=>[]) (fun b=>y.Stacks.length - b) 0 ((-1),0) h ⟨(.sm O O),ø,rfl⟩ ?_
 clear h
 intro b c o K5 e5
 refine Jr fun c1=>(JLh (BL (decide ((b:Int) < (y.Stacks.length:Int)))) (J0 O O O) O (G6 (c1 (Js fun c2=>Gh O (fun hb=>?_) (fun hb=>?_)))))
 ·
  have p:=Jn hb
  obtain⟨e,d3,c3,c4,h⟩:=Hx o p
  replace h:=Yr c0 h
  refine Gi (c2 ?_)
  obtain⟨c5,t,h⟩:=G11 h
  refine Z5 (fun i:Int×Int=>c5 i=some r) (fun i=>[(1,E1 order),(2,I64 from_),(3,I64 rank),(4,.dptr [LS 1 (E1) y.Stacks,I64 y.Height]),(9,I64 i.1),(10,I64 i.2),(17,LS 1 (E1) y.Stacks),(18,E7 y.Stacks.length),(19,E7 b)]) (fun i=>[]) (fun Kj8 ej8=>?_) ?_
  ·
   refine Gg (Jr fun c6=>(JLm (E7 b) O (JLh (.dptr [E1 e]) (H0 (f:=(E1)) (xs:=y.Stacks) (y:=e) O O O Gf c3 O) O (JLh (E1 e) (Gm H3 O O O) O (JLm (E7 b) O (JLm (E1 e) O (G6 (c6 (Js fun v=>?_)))))))))
   refine Jr fun w=>(JLm (E7 b) O (JLm (I64 from_) O (JLh (BL (decide ((b:Int)=from_))) (R8 O O O) O (JLm (BL (decide ((b:Int)=from_))) O (JLo (E1 e) [] O .scf ø (fun hc=>G2 O O) O (JLo (E7 e.length) [28] O .scf ⟨Ua,ø⟩ (fun hc=>Q3 (f:=I64) (xs:=e) G7 O O) O (JLo (.dptr [I64 y.Height]) [] O .scf ø (fun hc=>Gz Rr O O O) O (JLo (I64 y.Height) [30] O .scf ⟨Ua,ø⟩ (fun hc=>Gm Gj O O O) O (JLo (BL (decide ((e.length:Int)=y.Height))) [29,31] O .scf ⟨Ua,Ua,ø⟩ (fun hc=>R8 O O O) O (JLh (BL ((decide ((b:Int)=from_))||(decide ((e.length:Int)=y.Height)))) (Yz O O O O) O (G6 (w (JCc O h (fun h hb=>?_) (fun h hb=>?_))))))))))))))
   ·
    refine Hd (ej8 _ _ (c.1,c.2) h ⟨(.sm O O),ø,rfl⟩)
   ·
    refine Gi (v (Jr fun x=>(JLm (E1 order) O (JLl G7 O O O fun d1=>?_))))
    obtain⟨k,z,h⟩:=J9 h
    refine JLh (I64 k) (Hz z O O O) O (JLm (I64 k) O (G6 (x (Js fun a0=>Jr fun a1=>(JLm (E1 e) O (JLl G7 O O O fun a2=>(JLm (I64 0) O (G6 (a1 (Gg ?_))))))))))
    obtain⟨c7,a3,a4,n,h⟩:=J7 h
    refine H9 (fun d (a:Int)=>each c7 a3 (List.drop d e) d a=some r) (fun d a=>[(1,E1 order),(2,I64 from_),(3,I64 rank),(4,.dptr [LS 1 (E1) y.Stacks,I64 y.Height]),(9,I64 c.1),(10,I64 c.2),(11,E7 b),(13,I64 a),(17,LS 1 (E1) y.Stacks),(18,E7 y.Stacks.length),(19,E7 b),(37,E1 e),(38,E7 e.length),(39,E7 d)]) (fun d a=>[]) (fun d=>e.length - d) 0 k h ⟨(.sm O O),ø,rfl⟩ ?_
    clear h
    intro d a l d4 c8
    refine Jr fun a5=>(JLh (BL (decide ((d:Int) < (e.length:Int)))) (J0 O O O) O (G6 (a5 (Js fun a6=>Gh O (fun hb=>?_) (fun hb=>?_)))))
    ·
     have m:=Jn hb
     obtain⟨g,d2,a7,a8,h⟩:=Hx l m
     replace h:=Yr a4 h
     refine Gi (a6 (Js fun a9=>Gg (Jr fun b0=>(JLh (.dptr [I64 g]) (H0 (f:=I64) (xs:=e) (y:=g) O O O G7 a7 O) O (JLh (I64 g) (Gm Gj O O O) O (JLm (I64 g) O (G6 (b0 (G1 (JLm (I64 a) O (JLm (E1 order) O (JLm (I64 g) O ?_))))))))))))
     obtain⟨j,b1,h⟩:=Ge h
     refine JLh (I64 j) (Gv O (Y9 order g j b1) G52 ⟨O,O,O,O,ø⟩) O (JLh (I64 (min a j)) (Q9d O O O) O (JLm (I64 (min a j)) O (G6 (a9 (G1 (JLh (I64 ((d+1:Nat):Int)) (Hz (Hk m a2) O O O) O (JLm (I64 ((d+1:Nat):Int)) O (G6 (c8 _ _ (d+1) (min a j) (app1 a8 h) (by omega) ⟨(.sm O O),ø,rfl⟩)))))))))
    ·
     have h:=app1 n (Hy l (Hb hb))
     refine Hd (a0 (Jr fun b2=>(JLm (I64 a) O (JLm (I64 rank) O (JLh (BL (decide (rank≤a))) (G4e O O O) O (JLm (BL (decide (rank≤a))) O (JLo (I64 c.1) [] O .sct ø (fun hc=>G2 O O) O (JLo (BL (decide (c.1 < 0))) [53] O .sct ⟨Ua,ø⟩ (fun hc=>J0 O O O) O (JLo (BL (decide (c.1 < 0))) [54] O .sct ⟨Ua,ø⟩ (fun hc=>G2 O O) O (JLo (I64 a) [] O .optf ø (fun hc=>G2 O O) O (JLo (I64 c.2) [] O .optf ø (fun hc=>G2 O O) O (JLo (BL (decide (a < c.2))) [56,57] O .optf ⟨Ua,Ua,ø⟩ (fun hc=>J0 O O O) O (Ga (u:=BL ((decide (c.1 < 0))||(decide (a < c.2)))) [(55,BL (decide (c.1 < 0))),(58,_)] O O O .sct ⟨.all id,.part,ø⟩ (fun hc=>Yz O O O O) ?_)))))))))))))
     refine JLh (BL ((decide (rank≤a))&&((decide (c.1 < 0))||(decide (a < c.2))))) (Rh O O O O) O (G6 (b2 (JCc O h (fun h hb=>?_) (fun h hb=>?_))))
     ·
      refine G1 (JLm (E7 b) O (JLm (I64 a) O (JLm (E7 b) O (JLm (I64 a) O (G6 (ej8 _ _ ((b:Int),a) h ⟨(.sm O O),ø,rfl⟩))))))
     ·
      refine Gi (ej8 _ _ (c.1,c.2) h ⟨(.sm O O),ø,rfl⟩)
  ·intro i h
   replace h:=app1 t h
   refine G1 (JLh (I64 ((b+1:Nat):Int)) (Hz (Hk p q) O O O) O (JLm (I64 ((b+1:Nat):Int)) O (G6 (e5 _ _ (b+1) (i.1,i.2) (app1 c4 h) (by omega) ⟨(.sm O O),ø,rfl⟩))))
 ·
  have h:=app1 s (Hy o (Hb hb))
  refine Hd (b7 (Jr fun b3=>(JLm (I64 c.1) O (JLm (I64 c.1) O (G6 (b3 (H1 (fin1 I64 h))))))))
end
end Go.Proofs.Ytokjlondbjdlfaa
