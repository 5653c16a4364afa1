/- Walks of functions. -/
import Derived.Test.YtokjlondbjdlfaaSortLay
import Derived.Test.YtokjlondbjdlfaaIterD
import Derived.Test.YtokjlondbjdlfaaIterD
import Derived.Test.YtokjlondbjdlfaaIterD
import Derived.Test.YtokjlondbjdlfaaIterD
import Derived.Test.YtokjlondbjdlfaaIterD
import Derived.Test.YtokjlondbjdlfaaIterD
set_option maxRecDepth 100000
set_option maxHeartbeats 1000000
set_option linter.unusedVariables false
set_option linter.unusedSimpArgs false
namespace Go.Proofs.Ytokjlondbjdlfaa
open Go.RowKit
noncomputable section
abbrev E8:=Try.prog
structure Gs where
 Stacks:List (List Int)
 Height:Int
 deriving DecidableEq,Inhabited
def Gs.cs (x:Gs):List AV:=[LS 1 (E1) x.Stacks,I64 x.Height]
structure G8 where
 Box:Int
 From:Int
 To:Int
 deriving DecidableEq,Inhabited
def G8.cs (x:G8):List AV:=[I64 x.Box,I64 x.From,I64 x.To]
def G8.av (x:G8):AV:=.agg x.cs
abbrev E3:=LS 3 G8.av
structure Gf where
 stacks:List (List Int)
 height:Int
 order:List Int
 ranks:Hu Int Int
 steps:List G8
 next:Int
 deriving Inhabited
def Gf.cs (x:Gf):List AV:=[LS 1 (E1) x.stacks,I64 x.height,E1 x.order,DM Ei I64 x.ranks,E3 x.steps,I64 x.next]
abbrev E5 (x:Gf):AV:=.dptr (Gf.cs x)
structure G5 where
 From:Int
 To:Int
 deriving DecidableEq,Inhabited
def G5.cs (x:G5):List AV:=[I64 x.From,I64 x.To]
def G5.av (x:G5):AV:=.agg x.cs
abbrev E2:=LS 2 G5.av
namespace XAF
theorem Y1a (a b:G5):Hde E8 4 39 [.int .i64 a.From,.int .i64 a.To] [.int .i64 b.From,.int .i64 b.To]=some (decide (a=b)):=by
 refine(show _=some ((a.From==b.From)&&((a.To==b.To)&&true)) by kernel_rfl).trans (congrArg some ?_)
 rw [Bool.eq_iff_iff]
 simp only [Km,beq_iff_eq,Kn,Bool.and_true]
 constructor
 ·intro h; obtain⟨_,_⟩:=a; obtain⟨_,_⟩:=b; simp_all
 ·intro h; subst h; simp
theorem He:Gcc E8 24 2=true:=by kernel_rfl
theorem G72:Gcc E8 39 2=true:=by kernel_rfl
theorem Jfa:G1f E8 39=true:=by kernel_rfl
theorem G97:Hr E8 26=true:=by kernel_rfl
theorem G67:Hr E8 40=true:=by kernel_rfl
theorem H9e:Hr E8 44=true:=by kernel_rfl
theorem H9d:Hr E8 50=true:=by kernel_rfl
theorem H9c:Hr E8 55=true:=by kernel_rfl
theorem H27:Hr E8 57=true:=by kernel_rfl
theorem Q5e:Hr E8 58=true:=by kernel_rfl
theorem H9a:Hr E8 72=true:=by kernel_rfl
theorem J40:Hr E8 77=true:=by kernel_rfl
theorem J3e:Hr E8 81=true:=by kernel_rfl
theorem J3d:Hr E8 82=true:=by kernel_rfl
theorem G66:Qw E8 25 1 24=true:=by kernel_rfl
theorem R3:Qw E8 3 1 8=true:=by kernel_rfl
theorem Qdb:E8.eqGuardType E8.depth 39=false:=by kernel_rfl
theorem Qe:R2 E8 105 0 0=true:=by kernel_rfl
theorem G02:R2 E8 105 2 2=true:=by kernel_rfl
theorem G43:R2 E8 105 3 3=true:=by kernel_rfl
theorem Hy:R2 E8 24 0 0=true:=by kernel_rfl
theorem Y2:R2 E8 24 1 1=true:=by kernel_rfl
theorem G42:Yv E8 103 3 3=true:=by kernel_rfl
theorem Jc:E8.follows .mixedOrders=true:=by kernel_rfl
theorem H8d:placesOf E8 105=some [(0,1),(1,1),(2,1),(3,1),(4,1),(5,1)]:=by kernel_rfl
theorem G5a:Qp E8 103=true:=by kernel_rfl
theorem Gr:Qp E8 22=true:=by kernel_rfl
theorem H3:Qp E8 25=true:=by kernel_rfl
theorem Gi:Qp E8 3=true:=by kernel_rfl
theorem Gd6:Rx E8 22 1=true:=by kernel_rfl
theorem Gh:sliceB E8 22 25 1=true:=by kernel_rfl
theorem G7:sliceB E8 25 3 1=true:=by kernel_rfl
theorem J5:sliceB E8 26 39 2=true:=by kernel_rfl
theorem J0d:(E8.info? 105).bind (fun i=>i.zero.map Value.cells)=some (List.toArray [.slice none 0 0,E0,.slice none 0 0,.map none,.slice none 0 0,E0]):=by kernel_rfl
theorem Zx:Qn E8 25 1=true:=by kernel_rfl
theorem Jg:Qn E8 3 1=true:=by kernel_rfl
theorem H70:(E8.info? 3).bind (·.zero)=some E0:=by kernel_rfl
theorem Jf1:G7d E8 3 Ei:=G7d.of_int (by kernel_rfl)
end XAF
open XAF

def Zu (y:Gs):Option Bool:=
 bif ((((decide (y.Height < 1))||(decide (6 < y.Height)))||(decide ((y.Stacks.length:Int) < 1)))||(decide (30 < (y.Stacks.length:Int)))) then
 (some false)
 else
 (each (fun e k (f:(Hu Int Int)) g=>
   bif decide (y.Height < (e.length:Int)) then
   (some false)
   else
   (each (fun a j (b:(Hu Int Int)) d=>
     bnd (some (Hu.get b a 0)) fun h=>
     chk (h+1) fun c=>
     bnd (bif (!((decide (a < 1))||(decide (999999 < a)))) then some (Hu.get (Hu.put b a c) a 0) else some 0) fun i=>
     bif (((decide (a < 1))||(decide (999999 < a)))||(decide (1 < i))) then
     (some false)
     else
     (d (Hu.put b a c)))
    (fun(b:(Hu Int Int))=>
     g b) e 0 f))
  (fun(f:(Hu Int Int))=>
   some true) y.Stacks 0 (Hu.empty:Hu Int Int))
theorem G4b (y:Gs) (r:Bool) (h:Zu y=some r):Pure E8 44 [.agg [LS 1 (E1) y.Stacks,I64 y.Height]] (·=BL r):=by
 unfold Zu at h
 refine H9 [.tmp 2] Try.func44 O O (Jr fun c1=>(JLh (.ptr 1060 0) (Qj (cs:=[LS 1 (E1) y.Stacks,I64 y.Height]) 1060 O O O O O) O (JLm (BL false) O (G6 (c1 (H4 [(1,.dptr [LS 1 (E1) y.Stacks,I64 y.Height])] [] 1060 rfl rfl rfl ø rfl (by exact⟨.ptr,ø⟩) (Js fun c2=>?_)))))))
 refine Jr fun c3=>(JLh (.dptr [I64 y.Height]) (Gy Y2 O O O) O (JLh (I64 y.Height) (Gm Gi O O O) O (JLh (BL (decide (y.Height < 1))) (J0 O O O) O (JLm (BL (decide (y.Height < 1))) O (JLo (.dptr [I64 y.Height]) [] O .scf ø (fun hc=>Gy Y2 O O O) O (JLo (I64 y.Height) [12] O .scf ⟨Ua,ø⟩ (fun hc=>Gm Gi O O O) O (JLo (BL (decide (6 < y.Height))) [13] O .scf ⟨Ua,ø⟩ (fun hc=>Z7 O O O) O (JLh (BL ((decide (y.Height < 1))||(decide (6 < y.Height)))) (Yr O O O O) O (JLm (BL ((decide (y.Height < 1))||(decide (6 < y.Height)))) O (JLo (.dptr [LS 1 (E1) y.Stacks,I64 y.Height]) [] O .scf ø (fun hc=>Gy Hy O O O) O (JLo (LS 1 (E1) y.Stacks) [17] O .scf ⟨Ua,ø⟩ (fun hc=>Gm Gr O O O) O (JLo (E7 y.Stacks.length) [18] O .scf ⟨Ua,ø⟩ (fun hc=>Jq (f:=(E1)) (xs:=y.Stacks) Gh O O) O (JLo (BL (decide ((y.Stacks.length:Int) < 1))) [19] O .scf ⟨Ua,ø⟩ (fun hc=>J0 O O O) O ?_)))))))))))))
 refine JLh (BL (((decide (y.Height < 1))||(decide (6 < y.Height)))||(decide ((y.Stacks.length:Int) < 1)))) (Yr O O O O) O (JLm (BL (((decide (y.Height < 1))||(decide (6 < y.Height)))||(decide ((y.Stacks.length:Int) < 1)))) O (JLo (.dptr [LS 1 (E1) y.Stacks,I64 y.Height]) [] O .scf ø (fun hc=>Gy Hy O O O) O (JLo (LS 1 (E1) y.Stacks) [23] O .scf ⟨Ua,ø⟩ (fun hc=>Gm Gr O O O) O (JLo (E7 y.Stacks.length) [24] O .scf ⟨Ua,ø⟩ (fun hc=>Jq (f:=(E1)) (xs:=y.Stacks) Gh O O) O (JLo (BL (decide (30 < (y.Stacks.length:Int)))) [25] O .scf ⟨Ua,ø⟩ (fun hc=>Z7 O O O) O (JLh (BL ((((decide (y.Height < 1))||(decide (6 < y.Height)))||(decide ((y.Stacks.length:Int) < 1)))||(decide (30 < (y.Stacks.length:Int))))) (Yr O O O O) O (G6 (c3 ?_))))))))
 refine JCc O h ?_ ?_<;>intro h hb
 ·
  refine Jr fun c4=>(JLm (BL false) O (G6 (c4 (H0 (fin1 BL h)))))
 ·
  refine Gp (c2 (Jr fun c5=>(JLh (.mp 1061) (Hbb 1061 Ei I64 O O) O (JLm (.mp 1061) O (G6 (c5 (Js fun c6=>Jr fun c7=>(JLh (.dptr [LS 1 (E1) y.Stacks,I64 y.Height]) (Gy Hy O O O) O (JLh (LS 1 (E1) y.Stacks) (Gm Gr O O O) O (JLl Gh O O O fun s=>(JLm (I64 0) O (G6 (c7 (Gk ?_))))))))))))))
  obtain⟨b8,c8,c9,t,h⟩:=J3 h
  refine Ha (fun e (j:(Hu Int Int))=>each b8 c8 (List.drop e y.Stacks) e j=some r) (fun e j=>[(1,.dptr [LS 1 (E1) y.Stacks,I64 y.Height]),(3,.mp 1061),(30,LS 1 (E1) y.Stacks),(31,E7 y.Stacks.length),(32,E7 e)]) (fun e j=>[(1061,TP 103 Ei I64 j)]) (fun e=>y.Stacks.length - e) 0 (Hu.empty:Hu Int Int) h ⟨(.sm O O),⟨fmQ O,ø⟩,rfl⟩ ?_
  clear h
  intro e j p K8 e8
  refine Jr fun d0=>(JLh (BL (decide ((e:Int) < (y.Stacks.length:Int)))) (J0 O O O) O (G6 (d0 (Js fun w=>Gj O (fun hb=>?_) (fun hb=>?_)))))
  ·
   have q:=Ji hb
   obtain⟨g,e0,d1,d2,h⟩:=Hv p q
   replace h:=Yq c9 h
   refine Gp (w (Js fun x=>Gk (Jr fun z=>(JLh (.dptr [E1 g]) (H1 (f:=(E1)) (xs:=y.Stacks) (y:=g) O O O Gh d1 O) O (JLh (E1 g) (Gm H3 O O O) O (JLm (E1 g) O (G6 (z (Js fun a0=>Jr fun a1=>(JLm (E1 g) O (JLl G7 O O O fun d8=>(JLh (.dptr [I64 y.Height]) (Gy Y2 O O O) O (JLh (I64 y.Height) (Gm Gi O O O) O (JLh (BL (decide (y.Height < (g.length:Int)))) (Z7 O O O) O (G6 (a1 (JCc O h (fun h hb=>?_) (fun h hb=>?_))))))))))))))))))
   ·
    refine Jr fun a2=>(JLm (BL false) O (G6 (a2 (H0 (fin1 BL h)))))
   ·
    refine Gp (a0 (Jr fun a3=>(JLm (E1 g) O (JLl G7 O O O fun a4=>(JLm (I64 0) O (G6 (a3 (Gk ?_))))))))
    obtain⟨d3,a5,a6,o,h⟩:=J3 h
    refine Ha (fun c (d:(Hu Int Int))=>each d3 a5 (List.drop c g) c d=some r) (fun c d=>[(1,.dptr [LS 1 (E1) y.Stacks,I64 y.Height]),(3,.mp 1061),(30,LS 1 (E1) y.Stacks),(31,E7 y.Stacks.length),(32,E7 e),(41,E1 g),(42,E7 g.length),(43,E7 c)]) (fun c d=>[(1061,TP 103 Ei I64 d)]) (fun c=>g.length - c) 0 j h ⟨(.sm O O),⟨fmQ O,ø⟩,rfl⟩ ?_
    clear h
    intro c d k e1 d4
    refine Jr fun a7=>(JLh (BL (decide ((c:Int) < (g.length:Int)))) (J0 O O O) O (G6 (a7 (Js fun a8=>Gj O (fun hb=>?_) (fun hb=>?_)))))
    ·
     have l:=Ji hb
     obtain⟨b,d9,a9,b0,h⟩:=Hv k l
     replace h:=Yq a6 h
     refine Gp (a8 (Js fun b1=>Gk (Jr fun b2=>(JLh (.dptr [I64 b]) (H1 (f:=I64) (xs:=g) (y:=b) O O O G7 a9 O) O (JLh (I64 b) (Gm Gi O O O) O (JLm (I64 b) O (G6 (b2 (Jr fun b3=>(JLm (.mp 1061) O (JLm (I64 b) O ?_)))))))))))
     obtain⟨d5,b4,h⟩:=Gg h
     refine JLh (I64 d5) (((K0 b4) ▸ J86 (av:=I64) (m:=d) (a:=b) 0 E0 (fun _=>O) O (.own O) O Jf1 G42 H70 O)) O ?_
     obtain⟨i,b5,h⟩:=J8 h
     refine JLh (I64 i) (Hz b5 O O O) O (J9 (u:=.junk) (H3f (m:=d) (a:=b) (v:=i) (fun _=>O) O O O O O O Jf1 G42) (G6 (b3 (Jr fun b6=>(JLm (I64 b) O (JLh (BL (decide (b < 1))) (J0 O O O) O (JLm (BL (decide (b < 1))) O (JLo (I64 b) [] O .scf ø (fun hc=>G2 O O) O (JLo (BL (decide (999999 < b))) [54] O .scf ⟨Ua,ø⟩ (fun hc=>Z7 O O O) O (JLh (BL ((decide (b < 1))||(decide (999999 < b)))) (Yr O O O O) O (JLm (BL ((decide (b < 1))||(decide (999999 < b)))) O (JLo (.mp 1061) [] O .scf ø (fun hc=>G2 O O) O (JLo (I64 b) [] O .scf ø (fun hc=>G2 O O) O ?_)))))))))))))
     obtain⟨n,b7,h⟩:=Gg h
     refine JLo (I64 n) [58,59] O .scf ⟨Ua,Ua,ø⟩ (fun hc=>((K0 (H5 hc b7)) ▸ J86 (av:=I64) (m:=(Hu.put d b i)) (a:=b) 0 E0 (fun _=>O) O (.own O) O Jf1 G42 H70 O)) O (JLo (BL (decide (1 < n))) [60] O .scf ⟨Ua,ø⟩ (fun hc=>Z7 O O O) O (JLh (BL (((decide (b < 1))||(decide (999999 < b)))||(decide (1 < n)))) (Yr O O O O) O (G6 (b6 (JCc O h (fun h hb=>?_) (fun h hb=>?_))))))
     ·
      refine Jr fun b9=>(JLm (BL false) O (G6 (b9 (H0 (fin1 BL h)))))
     ·
      refine Gp (b1 (G1 (JLh (I64 ((c+1:Nat):Int)) (Hz (Hn l a4) O O O) O (JLm (I64 ((c+1:Nat):Int)) O (G6 (d4 _ _ (c+1) (Hu.put d b i) (app1 b0 h) (by omega) ⟨(.sm O O),⟨fmQ O,ø⟩,rfl⟩))))))
    ·
     have h:=app1 o (Hw k (Hd hb))
     refine Hf (x (G1 (JLh (I64 ((e+1:Nat):Int)) (Hz (Hn q s) O O O) O (JLm (I64 ((e+1:Nat):Int)) O (G6 (e8 _ _ (e+1) d (app1 d2 h) (by omega) ⟨(.sm O O),⟨fmQ O,ø⟩,rfl⟩))))))
  ·
   have h:=app1 t (Hw p (Hd hb))
   refine Hf (c6 (Jr fun c0=>(JLm (BL true) O (G6 (c0 (H0 (fin1 BL h)))))))

def Y6 (s:List Int):Option (List Int):=
 R75 s fun a=>
 bif a then
 (some [])
 else
 (need (decide ((([]:List Int).length+s.length)*8≤140737488355328∧([]:List Int).length+s.length≤maxLen)) <|
  some (([]:List Int)++s))
theorem Gba (s:List Int) (r:(List Int)) (h:Y6 s=some r):Pure E8 81 [E1 s] (·=E1 r):=by
 unfold Y6 at h
 refine H9 [.tmp 2] Try.func81 O O (Jr fun a=>(JLh (E1 ([]:List Int)) (Jn 1 O O) O (G6 (a (Js fun b=>Jr fun c=>(JLm (E1 s) O (G8c O O O (R9f G7 O O) ?_)))))))
 rintro u_ L_ ⟨j,d,rfl,rfl⟩
 replace h:=R27 h j d
 refine G6 (c (JCc O h (fun h hb=>?_) (fun h hb=>?_)))
 ·
  refine Jr fun e=>(JLh (E1 ([]:List Int)) (Jn 1 O O) O (G6 (e (H0 (fin1 (fun r:(List Int)=>(E1 r:AV)) h)))))
 ·
  refine Gp (b (Jr fun g=>(JLh (OW 820000005 1 I64 ([]:List Int)) (Gea 820000005 3 1 O O G7) O (JLm (E1 s) O ?_))))
  obtain⟨i,h⟩:=J1 h
  refine JLh (OW 820000005 1 I64 (([]:List Int)++s)) (G0c (f:=I64) (xs:=([]:List Int)) (ys:=s) O O O O G7 R3 i (fun _=>O) (.inl O)) O (JLm (OW 820000005 1 I64 (([]:List Int)++s)) O (G6 (g (H0 (fin1l (fun r:(List Int)=>(E1 r:AV)) h)))))

def Rg (s:List Int) (v:Int):Option Int:=
 each (fun b c (d:Unit) a=>
  bif decide (v=b) then
  (some (c:Int))
  else
  (a ()))
 (fun(d:Unit)=>
  some (-1)) s 0 ()
theorem G4e (s:List Int) (v:Int) (r:Int) (h:Rg s v=some r):Pure E8 72 [E1 s,I64 v] (·=I64 r):=by
 unfold Rg at h
 refine H9 [.tmp 4] Try.func72 O O (Jr fun w=>(JLm (I64 0) O (G6 (w (Js fun x=>Jr fun z=>(JLm (E1 s) O (JLl G7 O O O fun a0=>(JLm (I64 0) O (G6 (z (Gk ?_)))))))))))
 obtain⟨a1,i,j,g,h⟩:=J3 h
 refine Ha (fun a (b:Unit)=>each a1 i (List.drop a s) a b=some r) (fun a b=>[(0,E1 s),(1,I64 v),(7,E7 s.length),(8,E7 a)]) (fun a b=>[]) (fun a=>s.length - a) 0 () h ⟨(.sm O O),ø,rfl⟩ ?_
 clear h
 intro a b d a4 a2
 refine Jr fun k=>(JLh (BL (decide ((a:Int) < (s.length:Int)))) (J0 O O O) O (G6 (k (Js fun l=>Gj O (fun hb=>?_) (fun hb=>?_)))))
 ·
  have e:=Ji hb
  obtain⟨c,a3,m,n,h⟩:=Hv d e
  replace h:=Yq j h
  refine Gp (l (Js fun o=>Gk (Jr fun p=>(JLm (E7 a) O (JLm (E7 a) O (G6 (p (Jr fun q=>(JLm (I64 v) O (JLm (E1 s) O (JLm (E7 a) O (JLh (.dptr [I64 c]) (H1 (f:=I64) (xs:=s) (y:=c) O O O G7 m O) O (JLh (I64 c) (Gm Gi O O O) O (JLh (BL (decide (v=c))) (Qm O O O) O (G6 (q (JCc O h (fun h hb=>?_) (fun h hb=>?_))))))))))))))))))
  ·
   refine Jr fun t=>(JLm (E7 a) O (JLm (E7 a) O (G6 (t (H0 (fin1 I64 h))))))
  ·
   refine Gp (o (G1 (JLh (I64 ((a+1:Nat):Int)) (Hz (Hn e a0) O O O) O (JLm (I64 ((a+1:Nat):Int)) O (G6 (a2 _ _ (a+1) () (app1 n h) (by omega) ⟨(.sm O O),ø,rfl⟩))))))
 ·
  have h:=app1 g (Hw d (Hd hb))
  refine Hf (x (Jr fun u=>(JLm (I64 (-1)) O (G6 (u (H0 (fin1 I64 h)))))))

def G14 (y:Gs) (box:Int):Option (Int×Int×Bool):=
 each (fun c d (e:Unit) b=>
  bnd (Rg c box) fun a=>
  bif decide (0≤a) then
  (some ((d:Int),a,true))
  else
  (b ()))
 (fun(e:Unit)=>
  some (0,0,false)) y.Stacks 0 ()
theorem H06 (y:Gs) (box:Int) (r:Int×Int×Bool) (h:G14 y box=some r):Pure E8 55 [.agg [LS 1 (E1) y.Stacks,I64 y.Height],I64 box] (·=.tup [I64 r.1,I64 r.2.1,BL r.2.2]):=by
 unfold G14 at h
 refine H9 [.tmp 4,.tmp 5,.tmp 6] Try.func55 O O (Jr fun z=>(JLh (.ptr 1070 0) (Qj (cs:=[LS 1 (E1) y.Stacks,I64 y.Height]) 1070 O O O O O) O (JLm (I64 0) O (JLm (I64 0) O (JLm (BL false) O (G6 (z (H4 [(1,I64 box),(2,.dptr [LS 1 (E1) y.Stacks,I64 y.Height])] [] 1070 rfl rfl rfl ø rfl (by exact⟨.conv (.same rfl),.ptr,ø⟩) (Js fun a0=>Jr fun a1=>(JLh (.dptr [LS 1 (E1) y.Stacks,I64 y.Height]) (Gy Hy O O O) O (JLh (LS 1 (E1) y.Stacks) (Gm Gr O O O) O (JLl Gh O O O fun j=>(JLm (I64 0) O (G6 (a1 (Gk ?_))))))))))))))))
 obtain⟨a2,k,l,i,h⟩:=J3 h
 refine Ha (fun a (d:Unit)=>each a2 k (List.drop a y.Stacks) a d=some r) (fun a d=>[(1,I64 box),(11,LS 1 (E1) y.Stacks),(12,E7 y.Stacks.length),(13,E7 a)]) (fun a d=>[]) (fun a=>y.Stacks.length - a) 0 () h ⟨(.sm O O),ø,rfl⟩ ?_
 clear h
 intro a d e a5 a3
 refine Jr fun m=>(JLh (BL (decide ((a:Int) < (y.Stacks.length:Int)))) (J0 O O O) O (G6 (m (Js fun n=>Gj O (fun hb=>?_) (fun hb=>?_)))))
 ·
  have g:=Ji hb
  obtain⟨c,a4,o,p,h⟩:=Hv e g
  replace h:=Yq l h
  refine Gp (n (Js fun q=>Gk (Jr fun s=>(JLm (E7 a) O (JLh (.dptr [E1 c]) (H1 (f:=(E1)) (xs:=y.Stacks) (y:=c) O O O Gh o O) O (JLh (E1 c) (Gm H3 O O O) O (JLm (E7 a) O (JLm (E1 c) O (G6 (s (Jr fun t=>(JLm (E1 c) O (JLm (I64 box) O ?_)))))))))))))
  obtain⟨b,u,h⟩:=Gg h
  refine JLh (I64 b) (Gv O (G4e c box b u) H9a ⟨O,O,O,O,ø⟩) O (JLm (I64 b) O (G6 (t (Jr fun v=>(JLm (I64 b) O (JLh (BL (decide (0≤b))) (G40 O O O) O (G6 (v (JCc O h (fun h hb=>?_) (fun h hb=>?_))))))))))
  ·
   refine Jr fun w=>(JLm (E7 a) O (JLm (I64 b) O (JLm (E7 a) O (JLm (I64 b) O (JLm (BL true) O (G6 (w (H0 (⟨[E7 a,I64 b,BL true],[],ø,O,⟨⟨_,O,.conv (.same O)⟩,⟨_,O,.conv (.same O)⟩,⟨_,O,.conv (.same O)⟩,ø⟩,O,congrArg (fun r:Int×Int×Bool=>(.tup [I64 r.1,I64 r.2.1,BL r.2.2]:AV)) (K0 h)⟩)))))))))
  ·
   refine Gp (q (G1 (JLh (I64 ((a+1:Nat):Int)) (Hz (Hn g j) O O O) O (JLm (I64 ((a+1:Nat):Int)) O (G6 (a3 _ _ (a+1) () (app1 p h) (by omega) ⟨(.sm O O),ø,rfl⟩))))))
 ·
  have h:=app1 i (Hw e (Hd hb))
  refine Hf (a0 (Jr fun x=>(JLm (I64 0) O (JLm (I64 0) O (JLm (BL false) O (G6 (x (H0 (⟨[I64 0,I64 0,BL false],[],ø,O,⟨⟨_,O,.conv (.same O)⟩,⟨_,O,.conv (.same O)⟩,⟨_,O,.conv (.same O)⟩,ø⟩,O,congrArg (fun r:Int×Int×Bool=>(.tup [I64 r.1,I64 r.2.1,BL r.2.2]:AV)) (K0 h)⟩)))))))))

def Jp (y:Gs) (order:List Int):Option (Gf×Bool):=
 bnd (Zu y) fun j=>
 bif (!j) then
 (none)
 else
 (each (fun i l (a:Int×(List Int)×Int×(List (List Int))) f=>
   bnd (Y6 i) fun d=>
   need (decide ((a.2.2.2.length+[d].length)*24≤140737488355328∧a.2.2.2.length+[d].length≤maxLen)) <|
   f (a.1,a.2.1,a.2.2.1,(a.2.2.2++[d])))
  (fun(a:Int×(List Int)×Int×(List (List Int)))=>
   each (fun c g (b:(Hu Int Int)) e=>
    bnd (G14 y c) fun h=>
    bnd (some (Hu.get b c 0)) fun k=>
    bif ((Hu.has b c)||(!h.2.2)) then
    (none)
    else
    (e (Hu.put b c (g:Int))))
   (fun(b:(Hu Int Int))=>
    some ((Gf.mk a.2.2.2 a.1 a.2.1 b [] a.2.2.1),true)) order 0 (Hu.empty:Hu Int Int)) y.Stacks 0 (y.Height,order,0,[]))
abbrev E9 (a:Int×(List Int)×Int×(List (List Int))):List AV:=[.vec 1115 a.2.2.2.length 1 a.2.2.2.length,I64 a.1,E1 a.2.1,.mp 1114,.vec 1116 (([]:List G8).length) 3 (([]:List G8).length),I64 a.2.2.1]
theorem G6b (y:Gs) (order:List Int) (r:Gf×Bool) (h:Jp y order=some r):Q8 E8 57 [.agg [LS 1 (E1) y.Stacks,I64 y.Height],E1 order] [] (fun av L'=>av=.tup [.ptr 1113 0,BL r.2]∧L'=[(1113,.box 105 [.vec 1115 r.1.stacks.length 1 r.1.stacks.length,I64 r.1.height,E1 r.1.order,.mp 1114,.vec 1116 r.1.steps.length 3 r.1.steps.length,I64 r.1.next]),(1114,TP 103 Ei I64 r.1.ranks),(1115,.vec 25 1 r.1.stacks.length (r.1.stacks.map (E1))),(1116,.vec 109 3 r.1.steps.length (r.1.steps.map G8.av))]):=by
 unfold Jp at h
 refine G1b [] [.tmp 4,.tmp 5] Try.func57 O O (H90 O) (Jr fun d1=>(JLh (.ptr 1072 0) (Qj (cs:=[LS 1 (E1) y.Stacks,I64 y.Height]) 1072 O O O O O) O (JLm (.sc (.pointer none)) O (JLm (BL false) O (G6 (d1 (H4 [(1,E1 order),(2,.dptr [LS 1 (E1) y.Stacks,I64 y.Height])] [] 1072 rfl rfl rfl ø rfl (by exact⟨.conv (.same rfl),.ptr,ø⟩) (Js fun d2=>Jr fun d3=>(JLh (.agg [LS 1 (E1) y.Stacks,I64 y.Height]) (Gu He O O O) O ?_)))))))))
 obtain⟨w,d4,h⟩:=Gg h
 refine JLh (BL w) (Gv O (G4b y w d4) H9e ⟨O,O,ø⟩) O (JLh (BL (!w)) (Yt (b:=w) O O) O (G6 (d3 (JCc O h (fun h hb=>?_) (fun h hb=>?_)))))
 ·
  refine Jr fun d5=>(JLm (.sc (.pointer none)) O (JLm (BL false) O (G6 (d5 (H0 ?_)))))
  cases h
 ·
  refine Gp (d2 ?_)
  refine Jr fun d6=>(JLh (.dptr [I64 y.Height]) (Gy Y2 O O O) O (JLh (I64 y.Height) (Gm Gi O O O) O (JLm (E1 order) O (JLh (.mp 1114) (Hbb 1114 Ei I64 O O) O (JLh (.agg [.sc (.slice none 0 0),I64 y.Height,E1 order,.mp 1114,.sc (.slice none 0 0),I64 0]) (Jt (cs:=[.sc (.slice none 0 0),I64 y.Height,E1 order,.mp 1114,.sc (.slice none 0 0),I64 0]) [(0,1),(1,1),(2,1),(3,1),(4,1),(5,1)] [.sc (.slice none 0 0),I64 0,E1 ([]:List Int),.sc (.map none),.sc (.slice none 0 0),I64 0] [.slice none 0 0,E0,.slice none 0 0,.map none,.slice none 0 0,E0] H8d J0d ⟨.inl O,.inl O,.inr ⟨_,O,O⟩,.inl O,.inl O,.inl O,ø⟩ O O) O (JLh (.ptr 1113 0) (Qj (cs:=[.sc (.slice none 0 0),I64 y.Height,E1 order,.mp 1114,.sc (.slice none 0 0),I64 0]) 1113 O O O O O) O ?_))))))
  refine Ge7 1113 0 1115 25 1 O O O (cs':=[.vec 1115 (([]:List (List Int)).length) 1 (([]:List (List Int)).length),I64 y.Height,E1 order,.mp 1114,.sc (.slice none 0 0),I64 0]) O (Ge7 1113 4 1116 109 3 O O O (cs':=[.vec 1115 (([]:List (List Int)).length) 1 (([]:List (List Int)).length),I64 y.Height,E1 order,.mp 1114,.vec 1116 (([]:List G8).length) 3 (([]:List G8).length),I64 0]) O (JLm (.ptr 1113 0) O (G6 (d6 (Js fun d7=>Jr fun d8=>(JLh (.dptr [LS 1 (E1) y.Stacks,I64 y.Height]) (Gy Hy O O O) O (JLh (LS 1 (E1) y.Stacks) (Gm Gr O O O) O (JLl Gh O O O fun b5=>(JLm (I64 0) O (G6 (d8 (Gk ?_))))))))))))
  obtain⟨d9,b6,b7,x,h⟩:=J3 h
  refine Ha (fun k (c:Int×(List Int)×Int×(List (List Int)))=>each d9 b6 (List.drop k y.Stacks) k c=some r) (fun k c=>[(1,E1 order),(2,.dptr [LS 1 (E1) y.Stacks,I64 y.Height]),(6,.ptr 1113 0),(26,LS 1 (E1) y.Stacks),(27,E7 y.Stacks.length),(28,E7 k)]) (fun k c=>[(1114,TP 103 Ei I64 (Hu.empty:Hu Int Int)),(1115,.vec 25 1 c.2.2.2.length (c.2.2.2.map (E1))),(1116,.vec 109 3 (([]:List G8).length) (([]:List G8).map G8.av)),(1113,.box 105 (E9 c))]) (fun k=>y.Stacks.length - k) 0 (y.Height,order,0,[]) h ⟨(.sm O O),⟨fmQ O,⟨_,rfl,.vec⟩,⟨_,rfl,.vec⟩,fbQ O (.sm O O),ø⟩,rfl⟩ ?_
  clear h
  intro k c q e4 e0
  refine Jr fun b8=>(JLh (BL (decide ((k:Int) < (y.Stacks.length:Int)))) (J0 O O O) O (G6 (b8 (Js fun b9=>Gj O (fun hb=>?_) (fun hb=>?_)))))
  ·
   have s:=Ji hb
   obtain⟨l,e2,c0,c1,h⟩:=Hv q s
   replace h:=Yq b7 h
   refine Gp (b9 (Js fun c2=>Gk (Jr fun c3=>(JLh (.dptr [E1 l]) (H1 (f:=(E1)) (xs:=y.Stacks) (y:=l) O O O Gh c0 O) O (JLh (E1 l) (Gm H3 O O O) O (JLm (E1 l) O (G6 (c3 ?_))))))))
   refine R8 (l':=[(1,E1 order),(2,.dptr [LS 1 (E1) y.Stacks,I64 y.Height]),(6,.ptr 1113 0),(8,E1 l),(26,LS 1 (E1) y.Stacks),(27,E7 y.Stacks.length),(28,E7 k)]) (L':=[(1114,TP 103 Ei I64 (Hu.empty:Hu Int Int)),(1115,.vec 25 1 c.2.2.2.length (c.2.2.2.map (E1))),(1116,.vec 109 3 (([]:List G8).length) (([]:List G8).map G8.av)),(1113,.box 105 (E9 c))]) ⟨(.sm O O),⟨fmQ O,⟨_,rfl,.vec⟩,⟨_,rfl,.vec⟩,fbQ O (.sm O O),ø⟩,rfl⟩ ?_
   obtain⟨j,c4,h⟩:=Gg h
   obtain⟨c5,h⟩:=J1 h
   refine Jh [8,11] [0,0,0,0,0,0,0,0,0,1,1,0] [1,0,0,0,0,0,0,0,0,1,1,0] [[(1114,TP 103 Ei I64 (Hu.empty:Hu Int Int)),(1115,.vec 25 1 c.2.2.2.length (c.2.2.2.map (E1))),(1116,.vec 109 3 (([]:List G8).length) (([]:List G8).map G8.av)),(1113,.box 105 (E9 c))],((1115,.vec 25 1 ((c.2.2.2++[j]).length) ((c.2.2.2++[j]).map (E1)))::[(1114,TP 103 Ei I64 (Hu.empty:Hu Int Int)),(1115,.vec 25 1 c.2.2.2.length (c.2.2.2.map (E1))),(1116,.vec 109 3 (([]:List G8).length) (([]:List G8).map G8.av)),(1113,.box 105 (E9 c))]),((1113,.box 105 [.vec 1115 ((c.2.2.2++[j]).length) 1 ((c.2.2.2++[j]).length),I64 c.1,E1 c.2.1,.mp 1114,.vec 1116 (([]:List G8).length) 3 (([]:List G8).length),I64 c.2.2.1])::((1115,.vec 25 1 ((c.2.2.2++[j]).length) ((c.2.2.2++[j]).map (E1)))::[(1114,TP 103 Ei I64 (Hu.empty:Hu Int Int)),(1115,.vec 25 1 c.2.2.2.length (c.2.2.2.map (E1))),(1116,.vec 109 3 (([]:List G8).length) (([]:List G8).map G8.av)),(1113,.box 105 (E9 c))]))] Jc (by kernel_rfl) rfl rfl ?_
   refine Gd (u:=.ptr 1113 0) O O ⟨Gb (G2 O O) O,Gb (G2 O O) O,ø⟩ (Gd (u:=.ptr 1113 0) O O ⟨Gb (G2 O O) O,ø⟩ (Gd (u:=.ptr 1113 0) O O ⟨Gb (Rh O O) O,ø⟩ (Gd (u:=.ptr 1113 0) O O ⟨Gb (Hh Qe O O) O,ø⟩ (Gd (u:=.vec 1115 c.2.2.2.length 1 c.2.2.2.length) O O ⟨Gb (Hk Gr O O O O) O,ø⟩ (Gd (u:=E1 l) O O ⟨Gb (G2 O O) O,ø⟩ (Gd (u:=E1 j) O O ⟨Gb (Gv O (Gba l j c4) J3e ⟨O,O,ø⟩) O,ø⟩ (Gd (u:=LS 1 (E1) [j]) O O ⟨Gb (Hb (xs:=[E1 j]) O ⟨O,O,ø⟩ Gh Zx O O O O) O,ø⟩ (D_w (u:=.vec 1115 ((c.2.2.2++[j]).length) 1 ((c.2.2.2++[j]).length)) rfl rfl rfl rfl (Gb (G30 (f:=(E1)) (xs:=c.2.2.2) (ys:=[j]) (ver:=c.2.2.2.length) (ver1:=(c.2.2.2++[j]).length) rfl rfl rfl rfl Gh G66 c5 (fun _=>rfl) (.inl rfl) (by simp)) rfl) (Gd (u:=.ptr 1113 0) O O ⟨Gb (Rh O O) O,ø⟩ (Gd (u:=.ptr 1113 0) O O ⟨Gb (Hh Qe O O) O,ø⟩ (H1d (u:=.junk) O O O O (Gb (Ht (u:=.vec 1115 ((c.2.2.2++[j]).length) 1 ((c.2.2.2++[j]).length)) (ds:=[.vec 1115 ((c.2.2.2++[j]).length) 1 ((c.2.2.2++[j]).length),I64 c.1,E1 c.2.1,.mp 1114,.vec 1116 (([]:List G8).length) 3 (([]:List G8).length),I64 c.2.2.1]) Gd6 O O O O O O O O) O) (Rc ?_))))))))))))
   refine c2 (G1 (JLh (I64 ((k+1:Nat):Int)) (Hz (Hn s b5) O O O) O (JLm (I64 ((k+1:Nat):Int)) O (G6 (e0 _ _ (k+1) (c.1,c.2.1,c.2.2.1,(c.2.2.2++[j])) (app1 c1 h) (by omega) ⟨(.sm O O),⟨fmQ O,⟨_,rfl,.vec⟩,⟨_,rfl,.vec⟩,fbQ O (.sm O O),ø⟩,rfl⟩)))))
  ·
   have h:=app1 x (Hw q (Hd hb))
   refine Hf (d7 (Js fun c6=>Jr fun c7=>(JLm (E1 order) O (JLl G7 O O O fun c8=>(JLm (I64 0) O (G6 (c7 (Gk ?_))))))))
   obtain⟨c9,z,a0,t,h⟩:=J3 h
   refine Ha (fun e (i:(Hu Int Int))=>each c9 z (List.drop e order) e i=some r) (fun e i=>[(2,.dptr [LS 1 (E1) y.Stacks,I64 y.Height]),(6,.ptr 1113 0),(44,E1 order),(45,E7 order.length),(46,E7 e)]) (fun e i=>[(1114,TP 103 Ei I64 i),(1115,.vec 25 1 c.2.2.2.length (c.2.2.2.map (E1))),(1116,.vec 109 3 (([]:List G8).length) (([]:List G8).map G8.av)),(1113,.box 105 (E9 c))]) (fun e=>order.length - e) 0 (Hu.empty:Hu Int Int) h ⟨(.sm O O),⟨fmQ O,⟨_,rfl,.vec⟩,⟨_,rfl,.vec⟩,fbQ O (.sm O O),ø⟩,rfl⟩ ?_
   clear h
   intro e i o e3 d0
   refine Jr fun a1=>(JLh (BL (decide ((e:Int) < (order.length:Int)))) (J0 O O O) O (G6 (a1 (Js fun a2=>Gj O (fun hb=>?_) (fun hb=>?_)))))
   ·
    have p:=Ji hb
    obtain⟨d,e1,a3,a4,h⟩:=Hv o p
    replace h:=Yq a0 h
    refine Gp (a2 (Js fun a5=>Gk (Jr fun a6=>(JLm (E7 e) O (JLh (.dptr [I64 d]) (H1 (f:=I64) (xs:=order) (y:=d) O O O G7 a3 O) O (JLh (I64 d) (Gm Gi O O O) O (JLm (E7 e) O (JLm (I64 d) O (G6 (a6 (Jr fun a7=>(JLh (.agg [LS 1 (E1) y.Stacks,I64 y.Height]) (Gu He O O O) O (JLm (I64 d) O ?_)))))))))))))
    obtain⟨g,a8,h⟩:=Gg h
    refine JLh (.tup [I64 g.1,I64 g.2.1,BL g.2.2]) (Gv O (H06 y d g a8) H9c ⟨O,O,O,O,ø⟩) O (JLm (.tup [I64 g.1,I64 g.2.1,BL g.2.2]) O (JLh (I64 g.1) (Gq O O O) O (JLh (I64 g.2.1) (Gq O O O) O (JLh (BL g.2.2) (Gq O O O) O (JLm (I64 g.1) O (JLm (I64 g.2.1) O (JLm (BL g.2.2) O (G6 (a7 (Js fun a9=>Jr fun b0=>(JLm (.ptr 1113 0) O (JLh (.ptr 1113 0) (Rh O O) O (JLh (.ptr 1113 3) (Hh G43 O O) O (JLh (.mp 1114) (Hk G5a O O O O) O (JLm (I64 d) O ?_)))))))))))))))
    obtain⟨n,b1,h⟩:=Gg h
    refine JLh (.tup [I64 n,BL (Hu.has i d)]) (((K0 b1) ▸ Hbc (av:=I64) (m:=i) (a:=d) 0 E0 (fun _=>O) O (.own O) O Jf1 G42 H70 O)) O (JLm (.tup [I64 n,BL (Hu.has i d)]) O (JLh (I64 n) (Gq O O O) O (JLh (BL (Hu.has i d)) (Gq O O O) O (JLm (I64 n) O (JLm (BL (Hu.has i d)) O (G6 (b0 (Jr fun b2=>(JLm (BL (Hu.has i d)) O (JLm (BL (Hu.has i d)) O (JLo (BL g.2.2) [] O .scf ø (fun hc=>G2 O O) O (JLo (BL (!g.2.2)) [69] O .scf ⟨Ua,ø⟩ (fun hc=>Yt (b:=g.2.2) O O) O (JLh (BL ((Hu.has i d)||(!g.2.2))) (Yr O O O O) O (G6 (b2 (JCc O h (fun h hb=>?_) (fun h hb=>?_)))))))))))))))))
    ·
     refine Jr fun b3=>(JLm (.sc (.pointer none)) O (JLm (BL false) O (G6 (b3 (H0 ?_)))))
     cases h
    ·
     refine Gp (a9 (G1 (JLm (.ptr 1113 0) O (JLh (.ptr 1113 0) (Rh O O) O (JLh (.ptr 1113 3) (Hh G43 O O) O (JLh (.mp 1114) (Hk G5a O O O O) O (JLm (I64 d) O (JLm (E7 e) O (J9 (u:=.junk) (H3f (m:=i) (a:=d) (v:=(e:Int)) (fun _=>O) O O O O O O Jf1 G42) (G6 (a5 (G1 (JLh (I64 ((e+1:Nat):Int)) (Hz (Hn p c8) O O O) O (JLm (I64 ((e+1:Nat):Int)) O (G6 (d0 _ _ (e+1) (Hu.put i d (e:Int)) (app1 a4 h) (by omega) ⟨(.sm O O),⟨fmQ O,⟨_,rfl,.vec⟩,⟨_,rfl,.vec⟩,fbQ O (.sm O O),ø⟩,rfl⟩))))))))))))))))
   ·
    have h:=app1 t (Hw o (Hd hb))
    refine Hf (c6 (Jr fun b4=>(JLm (.ptr 1113 0) O (JLm (.ptr 1113 0) O (JLm (BL true) O (G6 (b4 (H0 ?_))))))))
    obtain rfl:=K0 h
    exact⟨[.ptr 1113 0,BL true],[(1113,.box 105 (E9 c)),(1114,TP 103 Ei I64 i),(1115,.vec 25 1 c.2.2.2.length (c.2.2.2.map (E1))),(1116,.vec 109 3 (([]:List G8).length) (([]:List G8).map G8.av))],⟨fbQ O (.sm O O),fmQ O,⟨_,rfl,.vec⟩,⟨_,rfl,.vec⟩,ø⟩,rfl,⟨⟨_,rfl,.conv (.same rfl)⟩,⟨_,rfl,.conv (.same rfl)⟩,ø⟩,rfl,rfl⟩

def Z4 (y:Gs) (order:List Int):Option Bool:=
 bnd (Zu y) fun j=>
 bif (!j) then
 (some false)
 else
 (each (fun i l (a:Int×(List Int)×Int×(List (List Int))) f=>
   bnd (Y6 i) fun d=>
   need (decide ((a.2.2.2.length+[d].length)*24≤140737488355328∧a.2.2.2.length+[d].length≤maxLen)) <|
   f (a.1,a.2.1,a.2.2.1,(a.2.2.2++[d])))
  (fun(a:Int×(List Int)×Int×(List (List Int)))=>
   each (fun b g (c:(Hu Int Int)) e=>
    bnd (G14 y b) fun h=>
    bnd (some (Hu.get c b 0)) fun k=>
    bif ((Hu.has c b)||(!h.2.2)) then
    (some false)
    else
    (e (Hu.put c b (g:Int))))
   (fun(c:(Hu Int Int))=>
    none) order 0 (Hu.empty:Hu Int Int)) y.Stacks 0 (y.Height,order,0,[]))
abbrev Ea (a:Int×(List Int)×Int×(List (List Int))):List AV:=[.vec 1115 a.2.2.2.length 1 a.2.2.2.length,I64 a.1,E1 a.2.1,.mp 1114,.vec 1116 (([]:List G8).length) 3 (([]:List G8).length),I64 a.2.2.1]
theorem H6a (y:Gs) (order:List Int) (r:Bool) (h:Z4 y order=some r):Pure E8 57 [.agg [LS 1 (E1) y.Stacks,I64 y.Height],E1 order] (·=.tup [.sc (.pointer none),BL r]):=by
 unfold Z4 at h
 refine H9 [.tmp 4,.tmp 5] Try.func57 O O (Jr fun d1=>(JLh (.ptr 1072 0) (Qj (cs:=[LS 1 (E1) y.Stacks,I64 y.Height]) 1072 O O O O O) O (JLm (.sc (.pointer none)) O (JLm (BL false) O (G6 (d1 (H4 [(1,E1 order),(2,.dptr [LS 1 (E1) y.Stacks,I64 y.Height])] [] 1072 rfl rfl rfl ø rfl (by exact⟨.conv (.same rfl),.ptr,ø⟩) (Js fun d2=>Jr fun d3=>(JLh (.agg [LS 1 (E1) y.Stacks,I64 y.Height]) (Gu He O O O) O ?_)))))))))
 obtain⟨w,d4,h⟩:=Gg h
 refine JLh (BL w) (Gv O (G4b y w d4) H9e ⟨O,O,ø⟩) O (JLh (BL (!w)) (Yt (b:=w) O O) O (G6 (d3 (JCc O h (fun h hb=>?_) (fun h hb=>?_)))))
 ·
  refine Jr fun d5=>(JLm (.sc (.pointer none)) O (JLm (BL false) O (G6 (d5 (H0 (⟨[.sc (.pointer none),BL false],[],ø,O,⟨⟨_,O,.conv (.same O)⟩,⟨_,O,.conv (.same O)⟩,ø⟩,O,congrArg (fun r:Bool=>(.tup [.sc (.pointer none),BL r]:AV)) (K0 h)⟩))))))
 ·
  refine Gp (d2 ?_)
  refine Jr fun d6=>(JLh (.dptr [I64 y.Height]) (Gy Y2 O O O) O (JLh (I64 y.Height) (Gm Gi O O O) O (JLm (E1 order) O (JLh (.mp 1114) (Hbb 1114 Ei I64 O O) O (JLh (.agg [.sc (.slice none 0 0),I64 y.Height,E1 order,.mp 1114,.sc (.slice none 0 0),I64 0]) (Jt (cs:=[.sc (.slice none 0 0),I64 y.Height,E1 order,.mp 1114,.sc (.slice none 0 0),I64 0]) [(0,1),(1,1),(2,1),(3,1),(4,1),(5,1)] [.sc (.slice none 0 0),I64 0,E1 ([]:List Int),.sc (.map none),.sc (.slice none 0 0),I64 0] [.slice none 0 0,E0,.slice none 0 0,.map none,.slice none 0 0,E0] H8d J0d ⟨.inl O,.inl O,.inr ⟨_,O,O⟩,.inl O,.inl O,.inl O,ø⟩ O O) O (JLh (.ptr 1113 0) (Qj (cs:=[.sc (.slice none 0 0),I64 y.Height,E1 order,.mp 1114,.sc (.slice none 0 0),I64 0]) 1113 O O O O O) O ?_))))))
  refine Ge7 1113 0 1115 25 1 O O O (cs':=[.vec 1115 (([]:List (List Int)).length) 1 (([]:List (List Int)).length),I64 y.Height,E1 order,.mp 1114,.sc (.slice none 0 0),I64 0]) O (Ge7 1113 4 1116 109 3 O O O (cs':=[.vec 1115 (([]:List (List Int)).length) 1 (([]:List (List Int)).length),I64 y.Height,E1 order,.mp 1114,.vec 1116 (([]:List G8).length) 3 (([]:List G8).length),I64 0]) O (JLm (.ptr 1113 0) O (G6 (d6 (Js fun d7=>Jr fun d8=>(JLh (.dptr [LS 1 (E1) y.Stacks,I64 y.Height]) (Gy Hy O O O) O (JLh (LS 1 (E1) y.Stacks) (Gm Gr O O O) O (JLl Gh O O O fun b5=>(JLm (I64 0) O (G6 (d8 (Gk ?_))))))))))))
  obtain⟨d9,b6,b7,x,h⟩:=J3 h
  refine Ha (fun k (c:Int×(List Int)×Int×(List (List Int)))=>each d9 b6 (List.drop k y.Stacks) k c=some r) (fun k c=>[(1,E1 order),(2,.dptr [LS 1 (E1) y.Stacks,I64 y.Height]),(6,.ptr 1113 0),(26,LS 1 (E1) y.Stacks),(27,E7 y.Stacks.length),(28,E7 k)]) (fun k c=>[(1114,TP 103 Ei I64 (Hu.empty:Hu Int Int)),(1115,.vec 25 1 c.2.2.2.length (c.2.2.2.map (E1))),(1116,.vec 109 3 (([]:List G8).length) (([]:List G8).map G8.av)),(1113,.box 105 (Ea c))]) (fun k=>y.Stacks.length - k) 0 (y.Height,order,0,[]) h ⟨(.sm O O),⟨fmQ O,⟨_,rfl,.vec⟩,⟨_,rfl,.vec⟩,fbQ O (.sm O O),ø⟩,rfl⟩ ?_
  clear h
  intro k c q e4 e0
  refine Jr fun b8=>(JLh (BL (decide ((k:Int) < (y.Stacks.length:Int)))) (J0 O O O) O (G6 (b8 (Js fun b9=>Gj O (fun hb=>?_) (fun hb=>?_)))))
  ·
   have s:=Ji hb
   obtain⟨l,e2,c0,c1,h⟩:=Hv q s
   replace h:=Yq b7 h
   refine Gp (b9 (Js fun c2=>Gk (Jr fun c3=>(JLh (.dptr [E1 l]) (H1 (f:=(E1)) (xs:=y.Stacks) (y:=l) O O O Gh c0 O) O (JLh (E1 l) (Gm H3 O O O) O (JLm (E1 l) O (G6 (c3 ?_))))))))
   refine R8 (l':=[(1,E1 order),(2,.dptr [LS 1 (E1) y.Stacks,I64 y.Height]),(6,.ptr 1113 0),(8,E1 l),(26,LS 1 (E1) y.Stacks),(27,E7 y.Stacks.length),(28,E7 k)]) (L':=[(1114,TP 103 Ei I64 (Hu.empty:Hu Int Int)),(1115,.vec 25 1 c.2.2.2.length (c.2.2.2.map (E1))),(1116,.vec 109 3 (([]:List G8).length) (([]:List G8).map G8.av)),(1113,.box 105 (Ea c))]) ⟨(.sm O O),⟨fmQ O,⟨_,rfl,.vec⟩,⟨_,rfl,.vec⟩,fbQ O (.sm O O),ø⟩,rfl⟩ ?_
   obtain⟨j,c4,h⟩:=Gg h
   obtain⟨c5,h⟩:=J1 h
   refine Jh [8,11] [0,0,0,0,0,0,0,0,0,1,1,0] [1,0,0,0,0,0,0,0,0,1,1,0] [[(1114,TP 103 Ei I64 (Hu.empty:Hu Int Int)),(1115,.vec 25 1 c.2.2.2.length (c.2.2.2.map (E1))),(1116,.vec 109 3 (([]:List G8).length) (([]:List G8).map G8.av)),(1113,.box 105 (Ea c))],((1115,.vec 25 1 ((c.2.2.2++[j]).length) ((c.2.2.2++[j]).map (E1)))::[(1114,TP 103 Ei I64 (Hu.empty:Hu Int Int)),(1115,.vec 25 1 c.2.2.2.length (c.2.2.2.map (E1))),(1116,.vec 109 3 (([]:List G8).length) (([]:List G8).map G8.av)),(1113,.box 105 (Ea c))]),((1113,.box 105 [.vec 1115 ((c.2.2.2++[j]).length) 1 ((c.2.2.2++[j]).length),I64 c.1,E1 c.2.1,.mp 1114,.vec 1116 (([]:List G8).length) 3 (([]:List G8).length),I64 c.2.2.1])::((1115,.vec 25 1 ((c.2.2.2++[j]).length) ((c.2.2.2++[j]).map (E1)))::[(1114,TP 103 Ei I64 (Hu.empty:Hu Int Int)),(1115,.vec 25 1 c.2.2.2.length (c.2.2.2.map (E1))),(1116,.vec 109 3 (([]:List G8).length) (([]:List G8).map G8.av)),(1113,.box 105 (Ea c))]))] Jc (by kernel_rfl) rfl rfl ?_
   refine Gd (u:=.ptr 1113 0) O O ⟨Gb (G2 O O) O,Gb (G2 O O) O,ø⟩ (Gd (u:=.ptr 1113 0) O O ⟨Gb (G2 O O) O,ø⟩ (Gd (u:=.ptr 1113 0) O O ⟨Gb (Rh O O) O,ø⟩ (Gd (u:=.ptr 1113 0) O O ⟨Gb (Hh Qe O O) O,ø⟩ (Gd (u:=.vec 1115 c.2.2.2.length 1 c.2.2.2.length) O O ⟨Gb (Hk Gr O O O O) O,ø⟩ (Gd (u:=E1 l) O O ⟨Gb (G2 O O) O,ø⟩ (Gd (u:=E1 j) O O ⟨Gb (Gv O (Gba l j c4) J3e ⟨O,O,ø⟩) O,ø⟩ (Gd (u:=LS 1 (E1) [j]) O O ⟨Gb (Hb (xs:=[E1 j]) O ⟨O,O,ø⟩ Gh Zx O O O O) O,ø⟩ (D_w (u:=.vec 1115 ((c.2.2.2++[j]).length) 1 ((c.2.2.2++[j]).length)) rfl rfl rfl rfl (Gb (G30 (f:=(E1)) (xs:=c.2.2.2) (ys:=[j]) (ver:=c.2.2.2.length) (ver1:=(c.2.2.2++[j]).length) rfl rfl rfl rfl Gh G66 c5 (fun _=>rfl) (.inl rfl) (by simp)) rfl) (Gd (u:=.ptr 1113 0) O O ⟨Gb (Rh O O) O,ø⟩ (Gd (u:=.ptr 1113 0) O O ⟨Gb (Hh Qe O O) O,ø⟩ (H1d (u:=.junk) O O O O (Gb (Ht (u:=.vec 1115 ((c.2.2.2++[j]).length) 1 ((c.2.2.2++[j]).length)) (ds:=[.vec 1115 ((c.2.2.2++[j]).length) 1 ((c.2.2.2++[j]).length),I64 c.1,E1 c.2.1,.mp 1114,.vec 1116 (([]:List G8).length) 3 (([]:List G8).length),I64 c.2.2.1]) Gd6 O O O O O O O O) O) (Rc ?_))))))))))))
   refine c2 (G1 (JLh (I64 ((k+1:Nat):Int)) (Hz (Hn s b5) O O O) O (JLm (I64 ((k+1:Nat):Int)) O (G6 (e0 _ _ (k+1) (c.1,c.2.1,c.2.2.1,(c.2.2.2++[j])) (app1 c1 h) (by omega) ⟨(.sm O O),⟨fmQ O,⟨_,rfl,.vec⟩,⟨_,rfl,.vec⟩,fbQ O (.sm O O),ø⟩,rfl⟩)))))
  ·
   have h:=app1 x (Hw q (Hd hb))
   refine Hf (d7 (Js fun c6=>Jr fun c7=>(JLm (E1 order) O (JLl G7 O O O fun c8=>(JLm (I64 0) O (G6 (c7 (Gk ?_))))))))
   obtain⟨c9,z,a0,t,h⟩:=J3 h
   refine Ha (fun e (i:(Hu Int Int))=>each c9 z (List.drop e order) e i=some r) (fun e i=>[(2,.dptr [LS 1 (E1) y.Stacks,I64 y.Height]),(6,.ptr 1113 0),(44,E1 order),(45,E7 order.length),(46,E7 e)]) (fun e i=>[(1114,TP 103 Ei I64 i),(1115,.vec 25 1 c.2.2.2.length (c.2.2.2.map (E1))),(1116,.vec 109 3 (([]:List G8).length) (([]:List G8).map G8.av)),(1113,.box 105 (Ea c))]) (fun e=>order.length - e) 0 (Hu.empty:Hu Int Int) h ⟨(.sm O O),⟨fmQ O,⟨_,rfl,.vec⟩,⟨_,rfl,.vec⟩,fbQ O (.sm O O),ø⟩,rfl⟩ ?_
   clear h
   intro e i o e3 d0
   refine Jr fun a1=>(JLh (BL (decide ((e:Int) < (order.length:Int)))) (J0 O O O) O (G6 (a1 (Js fun a2=>Gj O (fun hb=>?_) (fun hb=>?_)))))
   ·
    have p:=Ji hb
    obtain⟨d,e1,a3,a4,h⟩:=Hv o p
    replace h:=Yq a0 h
    refine Gp (a2 (Js fun a5=>Gk (Jr fun a6=>(JLm (E7 e) O (JLh (.dptr [I64 d]) (H1 (f:=I64) (xs:=order) (y:=d) O O O G7 a3 O) O (JLh (I64 d) (Gm Gi O O O) O (JLm (E7 e) O (JLm (I64 d) O (G6 (a6 (Jr fun a7=>(JLh (.agg [LS 1 (E1) y.Stacks,I64 y.Height]) (Gu He O O O) O (JLm (I64 d) O ?_)))))))))))))
    obtain⟨g,a8,h⟩:=Gg h
    refine JLh (.tup [I64 g.1,I64 g.2.1,BL g.2.2]) (Gv O (H06 y d g a8) H9c ⟨O,O,O,O,ø⟩) O (JLm (.tup [I64 g.1,I64 g.2.1,BL g.2.2]) O (JLh (I64 g.1) (Gq O O O) O (JLh (I64 g.2.1) (Gq O O O) O (JLh (BL g.2.2) (Gq O O O) O (JLm (I64 g.1) O (JLm (I64 g.2.1) O (JLm (BL g.2.2) O (G6 (a7 (Js fun a9=>Jr fun b0=>(JLm (.ptr 1113 0) O (JLh (.ptr 1113 0) (Rh O O) O (JLh (.ptr 1113 3) (Hh G43 O O) O (JLh (.mp 1114) (Hk G5a O O O O) O (JLm (I64 d) O ?_)))))))))))))))
    obtain⟨n,b1,h⟩:=Gg h
    refine JLh (.tup [I64 n,BL (Hu.has i d)]) (((K0 b1) ▸ Hbc (av:=I64) (m:=i) (a:=d) 0 E0 (fun _=>O) O (.own O) O Jf1 G42 H70 O)) O (JLm (.tup [I64 n,BL (Hu.has i d)]) O (JLh (I64 n) (Gq O O O) O (JLh (BL (Hu.has i d)) (Gq O O O) O (JLm (I64 n) O (JLm (BL (Hu.has i d)) O (G6 (b0 (Jr fun b2=>(JLm (BL (Hu.has i d)) O (JLm (BL (Hu.has i d)) O (JLo (BL g.2.2) [] O .scf ø (fun hc=>G2 O O) O (JLo (BL (!g.2.2)) [69] O .scf ⟨Ua,ø⟩ (fun hc=>Yt (b:=g.2.2) O O) O (JLh (BL ((Hu.has i d)||(!g.2.2))) (Yr O O O O) O (G6 (b2 (JCc O h (fun h hb=>?_) (fun h hb=>?_)))))))))))))))))
    ·
     refine Jr fun b3=>(JLm (.sc (.pointer none)) O (JLm (BL false) O (G6 (b3 (H0 (⟨[.sc (.pointer none),BL false],[],ø,O,⟨⟨_,O,.conv (.same O)⟩,⟨_,O,.conv (.same O)⟩,ø⟩,O,congrArg (fun r:Bool=>(.tup [.sc (.pointer none),BL r]:AV)) (K0 h)⟩))))))
    ·
     refine Gp (a9 (G1 (JLm (.ptr 1113 0) O (JLh (.ptr 1113 0) (Rh O O) O (JLh (.ptr 1113 3) (Hh G43 O O) O (JLh (.mp 1114) (Hk G5a O O O O) O (JLm (I64 d) O (JLm (E7 e) O (J9 (u:=.junk) (H3f (m:=i) (a:=d) (v:=(e:Int)) (fun _=>O) O O O O O O Jf1 G42) (G6 (a5 (G1 (JLh (I64 ((e+1:Nat):Int)) (Hz (Hn p c8) O O O) O (JLm (I64 ((e+1:Nat):Int)) O (G6 (d0 _ _ (e+1) (Hu.put i d (e:Int)) (app1 a4 h) (by omega) ⟨(.sm O O),⟨fmQ O,⟨_,rfl,.vec⟩,⟨_,rfl,.vec⟩,fbQ O (.sm O O),ø⟩,rfl⟩))))))))))))))))
   ·
    have h:=app1 t (Hw o (Hd hb))
    refine Hf (c6 (Jr fun b4=>(JLm (.ptr 1113 0) O (JLm (.ptr 1113 0) O (JLm (BL true) O (G6 (b4 (H0 ?_))))))))
    cases h

def Yo (j:Gf) (box:Int):Option Int:=
 bnd (some (Hu.get j.ranks box 0)) fun a=>
 bif (Hu.has j.ranks box) then
 (some a)
 else
 (some (j.order.length:Int))
theorem G93 (j:Gf) (box:Int) (r:Int) (h:Yo j box=some r):Pure E8 82 [.dptr (Gf.cs j),I64 box] (·=I64 r):=by
 unfold Yo at h
 refine H9 [.tmp 4] Try.func82 O O (Jr fun c=>(JLm (I64 0) O (G6 (c (Js fun d=>Jr fun e=>(JLm (E5 j) O (JLh (E5 j) (G26 O O) O (JLh (.dptr ((Gf.cs j).drop 3)) (Gy G43 O O O) O (JLh (DM Ei I64 j.ranks) (Gm G5a O O O) O (JLm (I64 box) O ?_))))))))))
 obtain⟨b,f,h⟩:=Gg h
 refine JLh (.tup [I64 b,BL (Hu.has j.ranks box)]) (((K0 f) ▸ Hbc (av:=I64) (m:=j.ranks) (a:=box) 0 E0 (fun _=>O) O .data O Jf1 G42 H70 O)) O (JLm (.tup [I64 b,BL (Hu.has j.ranks box)]) O (JLh (I64 b) (Gq O O O) O (JLh (BL (Hu.has j.ranks box)) (Gq O O O) O (JLm (I64 b) O (JLm (BL (Hu.has j.ranks box)) O (G6 (e (Jr fun g=>(JLm (BL (Hu.has j.ranks box)) O (G6 (g (JCc O h (fun h hb=>?_) (fun h hb=>?_)))))))))))))
 ·
  refine Jr fun i=>(JLm (I64 b) O (JLm (I64 b) O (G6 (i (H0 (fin1 I64 h))))))
 ·
  refine Gp (d (Jr fun k=>(JLm (E5 j) O (JLh (E5 j) (G26 O O) O (JLh (.dptr ((Gf.cs j).drop 2)) (Gy G02 O O O) O (JLh (E1 j.order) (Gm H3 O O O) O (JLl G7 O O O fun l=>(JLm (E7 j.order.length) O (G6 (k (H0 (fin1 I64 h))))))))))))

def G04 (j:Gf):Option Int:=
 each (fun k m (e:Int) g=>
  each (fun h l (a:Int×Int) f=>
   jp (fun b=>
    bnd (Yo j h) fun c=>
    bif decide (a.2 < c) then
    (chk (a.1+1) fun i=>
     b (i,a.2))
    else
    (b (a.1,c))) fun(d:Int×Int)=>
   f (d.1,d.2))
  (fun(a:Int×Int)=>
   g a.1) k 0 (e,(j.order.length:Int)))
 (fun(e:Int)=>
  some e) j.stacks 0 0
theorem H69 (j:Gf) (r:Int) (h:G04 j=some r):Pure E8 58 [.dptr (Gf.cs j)] (·=I64 r):=by
 unfold G04 at h
 refine H9 [.tmp 2] Try.func58 O O (Jr fun b2=>(JLm (I64 0) O (G6 (b2 (Jr fun b3=>(JLm (I64 0) O (G6 (b3 (Js fun b4=>Jr fun b6=>(JLm (E5 j) O (JLh (E5 j) (G26 O O) O (JLh (E5 j) (Gy Qe O O O) O (JLh (LS 1 (E1) j.stacks) (Gm Gr O O O) O (JLl Gh O O O fun t=>(JLm (I64 0) O (G6 (b6 (Gk ?_))))))))))))))))))
 obtain⟨b5,b7,b8,u,h⟩:=J3 h
 refine Ha (fun c (k:Int)=>each b5 b7 (List.drop c j.stacks) c k=some r) (fun c k=>[(0,E5 j),(3,I64 k),(13,LS 1 (E1) j.stacks),(14,E7 j.stacks.length),(15,E7 c)]) (fun c k=>[]) (fun c=>j.stacks.length - c) 0 0 h ⟨(.sm O O),ø,rfl⟩ ?_
 clear h
 intro c k q K5 e5
 refine Jr fun b9=>(JLh (BL (decide ((c:Int) < (j.stacks.length:Int)))) (J0 O O O) O (G6 (b9 (Js fun c0=>Gj O (fun hb=>?_) (fun hb=>?_)))))
 ·
  have s:=Ji hb
  obtain⟨d,d1,c1,c2,h⟩:=Hv q s
  replace h:=Yq b8 h
  refine Gp (c0 (Js fun c3=>Gk (Jr fun c4=>(JLh (.dptr [E1 d]) (H1 (f:=(E1)) (xs:=j.stacks) (y:=d) O O O Gh c1 O) O (JLh (E1 d) (Gm H3 O O O) O (JLm (E1 d) O (G6 (c4 (Jr fun v=>(JLm (E5 j) O (JLh (E5 j) (G26 O O) O (JLh (.dptr ((Gf.cs j).drop 2)) (Gy G02 O O O) O (JLh (E1 j.order) (Gm H3 O O O) O (JLl G7 O O O fun c9=>(JLm (E7 j.order.length) O (G6 (v (Jr fun w=>(JLm (E1 d) O (JLl G7 O O O fun x=>(JLm (I64 0) O (G6 (w (Gk ?_))))))))))))))))))))))))
  obtain⟨c5,z,a0,o,h⟩:=J3 h
  refine Ha (fun a (b:Int×Int)=>each c5 z (List.drop a d) a b=some r) (fun a b=>[(0,E5 j),(3,I64 b.1),(6,I64 b.2),(13,LS 1 (E1) j.stacks),(14,E7 j.stacks.length),(15,E7 c),(24,E1 d),(25,E7 d.length),(26,E7 a)]) (fun a b=>[]) (fun a=>d.length - a) 0 (k,(j.order.length:Int)) h ⟨(.sm O O),ø,rfl⟩ ?_
  clear h
  intro a b l d2 c6
  refine Jr fun a1=>(JLh (BL (decide ((a:Int) < (d.length:Int)))) (J0 O O O) O (G6 (a1 (Js fun a2=>Gj O (fun hb=>?_) (fun hb=>?_)))))
  ·
   have m:=Ji hb
   obtain⟨i,d0,a3,a4,h⟩:=Hv l m
   replace h:=Yq a0 h
   refine Gp (a2 ?_)
   obtain⟨a5,p,h⟩:=G0a h
   refine Yy (fun e:Int×Int=>a5 e=some r) (fun e=>[(0,E5 j),(3,I64 e.1),(6,I64 e.2),(13,LS 1 (E1) j.stacks),(14,E7 j.stacks.length),(15,E7 c),(24,E1 d),(25,E7 d.length),(26,E7 a)]) (fun e=>[]) (fun Kj33 ej33=>?_) ?_
   ·
    refine Gk (Jr fun a6=>(JLh (.dptr [I64 i]) (H1 (f:=I64) (xs:=d) (y:=i) O O O G7 a3 O) O (JLh (I64 i) (Gm Gi O O O) O (JLm (I64 i) O (G6 (a6 (Jr fun a7=>(JLm (E5 j) O (JLm (I64 i) O ?_)))))))))
    obtain⟨g,a8,h⟩:=Gg h
    refine JLh (I64 g) (Gv O (G93 j i g a8) J3d ⟨O,O,O,O,ø⟩) O (JLm (I64 g) O (G6 (a7 (Jr fun a9=>(JLm (I64 g) O (JLm (I64 b.2) O (JLh (BL (decide (b.2 < g))) (Z7 O O O) O (G6 (a9 (JCc O h (fun h hb=>?_) (fun h hb=>?_)))))))))))
    ·
     refine G1 (JLm (I64 b.1) O ?_)
     obtain⟨n,b0,h⟩:=J8 h
     refine JLh (I64 n) (Hz b0 O O O) O (JLm (I64 n) O (G6 (ej33 _ _ (n,b.2) h ⟨(.sm O O),ø,rfl⟩)))
    ·
     refine G1 (JLm (I64 g) O (JLm (I64 g) O (G6 (ej33 _ _ (b.1,g) h ⟨(.sm O O),ø,rfl⟩))))
   ·intro e h
    replace h:=app1 p h
    refine G1 (JLh (I64 ((a+1:Nat):Int)) (Hz (Hn m x) O O O) O (JLm (I64 ((a+1:Nat):Int)) O (G6 (c6 _ _ (a+1) (e.1,e.2) (app1 a4 h) (by omega) ⟨(.sm O O),ø,rfl⟩))))
  ·
   have h:=app1 o (Hw l (Hd hb))
   refine Hf (c3 (G1 (JLh (I64 ((c+1:Nat):Int)) (Hz (Hn s t) O O O) O (JLm (I64 ((c+1:Nat):Int)) O (G6 (e5 _ _ (c+1) b.1 (app1 c2 h) (by omega) ⟨(.sm O O),ø,rfl⟩))))))
 ·
  have h:=app1 u (Hw q (Hd hb))
  refine Hf (b4 (Jr fun b1=>(JLm (I64 k) O (JLm (I64 k) O (G6 (b1 (H0 (fin1 I64 h))))))))

def Qv (y:Gs) (order:List Int):Option (Int×Int):=
 bif (Jp y order).isSome then
 (bnd (Jp y order) fun a=>
  bif (!a.2) then
  (some (0,2))
  else
  (bnd (G04 a.1) fun c=>
   some (c,0)))
 else
 (bnd (Z4 y order) fun b=>
  bif (!b) then
  (some (0,2))
  else
  (none))
theorem Z5 (y:Gs) (order:List Int) (r:Int×Int) (h:Qv y order=some r):Pure E8 26 [.agg [LS 1 (E1) y.Stacks,I64 y.Height],E1 order] (·=.tup [I64 r.1,I64 r.2]):=by
 unfold Qv at h
 refine H9 [.tmp 4,.tmp 5] Try.func26 O O (Jr fun l=>(JLh (.ptr 1042 0) (Qj (cs:=[LS 1 (E1) y.Stacks,I64 y.Height]) 1042 O O O O O) O (JLm (I64 0) O (JLm (I64 0) O (G6 (l (H4 [(1,E1 order),(2,.dptr [LS 1 (E1) y.Stacks,I64 y.Height])] [] 1042 rfl rfl rfl ø rfl (by exact⟨.conv (.same rfl),.ptr,ø⟩) (Jr fun f=>(JLh (.agg [LS 1 (E1) y.Stacks,I64 y.Height]) (Gu He O O O) O (JLm (E1 order) O ((Bool.eq_false_or_eq_true (Jp y order).isSome).elim (fun d=>?_) (fun d=>?_))))))))))))
 ·
  replace h:=H5 d h
  obtain⟨a,m,h⟩:=Gg h
  refine JLh (.tup [.ptr 1113 0,BL a.2]) (Gd0 (args:=[.agg [LS 1 (E1) y.Stacks,I64 y.Height],E1 order]) (L0:=[]) (Lr:=[(1113,.box 105 [.vec 1115 a.1.stacks.length 1 a.1.stacks.length,I64 a.1.height,E1 a.1.order,.mp 1114,.vec 1116 a.1.steps.length 3 a.1.steps.length,I64 a.1.next]),(1114,TP 103 Ei I64 a.1.ranks),(1115,.vec 25 1 a.1.stacks.length (a.1.stacks.map (E1))),(1116,.vec 109 3 a.1.steps.length (a.1.steps.map G8.av))]) O (G6b y order a m) H27 ⟨.inl O,O,.inl O,O,ø⟩ ø O O O) O (JLm (.tup [.ptr 1113 0,BL a.2]) O (JLh (.ptr 1113 0) (Gq O O O) O (JLh (BL a.2) (Gq O O O) O (JLm (.ptr 1113 0) O (JLm (BL a.2) O (G6 (f (Js fun n=>?_))))))))
  refine Jr fun o=>(JLm (BL a.2) O (JLh (BL (!a.2)) (Yt (b:=a.2) O O) O (G6 (o (JCc O h (fun h hb=>?_) (fun h hb=>?_))))))
  ·
   refine Jr fun p=>(JLm (I64 0) O (JLm (I64 2) O (G6 (p (H0 (⟨[I64 0,I64 2],[],ø,O,⟨⟨_,O,.conv (.same O)⟩,⟨_,O,.conv (.same O)⟩,ø⟩,O,congrArg (fun r:Int×Int=>(.tup [I64 r.1,I64 r.2]:AV)) (K0 h)⟩))))))
  ·
   refine Gp (n (Jr fun q=>(JLm (.ptr 1113 0) O ?_)))
   obtain⟨e,s,h⟩:=Gg h
   refine JLh (I64 e) (H6e (args:=[.dptr (Gf.cs a.1)]) O (H69 a.1 e s) Q5e ⟨.ptrL O ⟨.vec O,.data O O,.data O O,.mp O,.vec O,.data O O,ø⟩,ø⟩ O) O (JLm (I64 e) O (JLm (I64 0) O (G6 (q (H0 (⟨[I64 e,I64 0],[],ø,O,⟨⟨_,O,.conv (.same O)⟩,⟨_,O,.conv (.same O)⟩,ø⟩,O,congrArg (fun r:Int×Int=>(.tup [I64 r.1,I64 r.2]:AV)) (K0 h)⟩))))))
 ·
  replace h:=Ho d h
  obtain⟨c,g,h⟩:=Gg h
  refine JLh (.tup [.sc (.pointer none),BL c]) (Gv O (H6a y order c g) H27 ⟨O,O,O,O,ø⟩) O (JLm (.tup [.sc (.pointer none),BL c]) O (JLh (.sc (.pointer none)) (Gq O O O) O (JLh (BL c) (Gq O O O) O (JLm (.sc (.pointer none)) O (JLm (BL c) O (G6 (f (Js fun i=>Jr fun j=>(JLm (BL c) O (JLh (BL (!c)) (Yt (b:=c) O O) O (G6 (j (JCc O h (fun h hb=>?_) (fun h hb=>?_))))))))))))))
  ·
   refine Jr fun k=>(JLm (I64 0) O (JLm (I64 2) O (G6 (k (H0 (⟨[I64 0,I64 2],[],ø,O,⟨⟨_,O,.conv (.same O)⟩,⟨_,O,.conv (.same O)⟩,ø⟩,O,congrArg (fun r:Int×Int=>(.tup [I64 r.1,I64 r.2]:AV)) (K0 h)⟩))))))
  ·
   refine Gp (i (Jr fun t=>(JLm (.sc (.pointer none)) O ?_)))
   cases h

def Jy (a:List G5) (b:List G5):Option Bool:=
 bif decide ((a.length:Int)≠(b.length:Int)) then
 (some false)
 else
 (each (fun d e (f:Unit) c=>
   Qu b (e:Int) fun g=>
   bif (!decide (d=g)) then
   (some false)
   else
   (c ()))
  (fun(f:Unit)=>
   some true) a 0 ())
theorem Rb (a:List G5) (b:List G5) (r:Bool) (h:Jy a b=some r):Pure E8 20 [E2 a,E2 b] (·=BL r):=by
 unfold Jy at h
 refine H9 [.tmp 4] Try.func20 O O (Jr fun a0=>(JLm (BL false) O (G6 (a0 (Js fun a1=>Jr fun a2=>(JLm (E2 a) O (JLl J5 O O O fun a9=>(JLm (E2 b) O (JLl J5 O O O fun b0=>(JLh (BL (decide ((a.length:Int)≠(b.length:Int)))) (Yj O O O) O (G6 (a2 (JCc O h (fun h hb=>?_) (fun h hb=>?_))))))))))))))
 ·
  refine Jr fun a3=>(JLm (BL false) O (G6 (a3 (H0 (fin1 BL h)))))
 ·
  refine Gp (a1 (Js fun a4=>Jr fun a5=>(JLm (I64 0) O (G6 (a5 (Gk ?_))))))
  obtain⟨a6,l,m,k,h⟩:=J3 h
  refine Ha (fun c (g:Unit)=>each a6 l (List.drop c a) c g=some r) (fun c g=>[(0,E2 a),(1,E2 b),(5,E7 c)]) (fun c g=>[]) (fun c=>a.length - c) 0 () h ⟨(.sm O O),ø,O⟩ ?_
  clear h
  intro c g i b1 a7
  refine Js fun n=>Jr fun o=>(JLm (E7 c) O (JLm (E2 a) O (JLl J5 O O O fun p=>(JLh (BL (decide ((c:Int) < (a.length:Int)))) (J0 O O O) O (G6 (o (Gj O (fun hb=>?_) (fun hb=>?_))))))))
  ·
   have j:=Ji hb
   obtain⟨d,a8,q,s,h⟩:=Hv i j
   replace h:=Yq m h
   refine Gp (n (Js fun t=>Gk (Js fun u=>?_)))
   obtain⟨b2,e,v,w,h⟩:=Qq h
   refine JC_d0 Jc (by kernel_rfl) (Dq (E2 a) (G2 O O) O (Dq (E7 c) (G2 O O) O (Dq (.dptr [I64 d.From,I64 d.To]) (H1 (f:=G5.av) (xs:=a) (y:=d) O O O J5 q O) O (Dq (.agg [I64 d.From,I64 d.To]) (Gu G72 O O O) O (Dq (E2 b) (G2 O O) O (Dq (E7 c) (G2 O O) O (Dq (.dptr [I64 e.From,I64 e.To]) (H1 (f:=G5.av) (xs:=b) (y:=e) O O O J5 w v) O (Dq (.agg [I64 e.From,I64 e.To]) (Gu G72 O O O) O (Dq (BL (!decide (d=e))) (R9a (vs:=[.int .i64 d.From,.int .i64 d.To]) (us:=[.int .i64 e.From,.int .i64 e.To]) 4 O (Y1a d e) Jfa Qdb O O O) O (Dnil (u (JCc O h (fun h hb=>?_) (fun h hb=>?_)))))))))))))
   ·
    refine Jr fun x=>(JLm (BL false) O (G6 (x (H0 (fin1 BL h)))))
   ·
    refine Gp (t (G1 (JLm (E7 c) O (JLh (I64 ((c+1:Nat):Int)) (Hz (Hn j p) O O O) O (JLm (I64 ((c+1:Nat):Int)) O (G6 (a7 _ _ (c+1) () (app1 s h) (by omega) ⟨(.sm O O),ø,rfl⟩)))))))
  ·
   have h:=app1 k (Hw i (Hd hb))
   refine Hf (a4 (Jr fun z=>(JLm (BL true) O (G6 (z (H0 (fin1 BL h)))))))

def Qc (order:List Int) (box:Int):Option Int:=
 bnd (Rg order box) fun a=>
 bif decide (0≤a) then
 (some a)
 else
 (some (order.length:Int))
theorem Yi (order:List Int) (box:Int) (r:Int) (h:Qc order box=some r):Pure E8 40 [E1 order,I64 box] (·=I64 r):=by
 unfold Qc at h
 refine H9 [.tmp 4] Try.func40 O O (Jr fun b=>(JLm (I64 0) O (G6 (b (Js fun c=>Jr fun d=>(JLm (E1 order) O (JLm (I64 box) O ?_)))))))
 obtain⟨a,e,h⟩:=Gg h
 refine JLh (I64 a) (Gv O (G4e order box a e) H9a ⟨O,O,O,O,ø⟩) O (JLm (I64 a) O (G6 (d (Jr fun f=>(JLm (I64 a) O (JLh (BL (decide (0≤a))) (G40 O O O) O (G6 (f (JCc O h (fun h hb=>?_) (fun h hb=>?_))))))))))
 ·
  refine Jr fun g=>(JLm (I64 a) O (JLm (I64 a) O (G6 (g (H0 (fin1 I64 h))))))
 ·
  refine Gp (c (Jr fun i=>(JLm (E1 order) O (JLl G7 O O O fun j=>(JLm (E7 order.length) O (G6 (i (H0 (fin1 I64 h)))))))))

def Y3 (y:Gs) (order:List Int):Option (List Int):=
 each (fun j l (e:(List Int)) g=>
  each (fun b k (a:Int×(List Int)) f=>
   bnd (Qc order b) fun d=>
   jp (fun c=>
    bif decide (a.1 < d) then
    (need (decide ((a.2.length+[b].length)*8≤140737488355328∧a.2.length+[b].length≤maxLen)) <|
     c (a.2++[b]))
    else
    (c a.2)) fun(h:(List Int))=>
   f ((min a.1 d),h))
  (fun(a:Int×(List Int))=>
   g a.2) j 0 ((order.length:Int),e))
 (fun(e:(List Int))=>
  bnd (J4b e) fun i=>
  some i) y.Stacks 0 []
theorem H44 (y:Gs) (order:List Int) (r:(List Int)) (h:Y3 y order=some r):Pure E8 50 [.agg [LS 1 (E1) y.Stacks,I64 y.Height],E1 order] (·=E1 r):=by
 unfold Y3 at h
 refine H9 [.tmp 4] Try.func50 O O (Jr fun b4=>(JLh (.ptr 1067 0) (Qj (cs:=[LS 1 (E1) y.Stacks,I64 y.Height]) 1067 O O O O O) O (JLh (E1 ([]:List Int)) (Jn 1 O O) O (G6 (b4 (H4 [(1,E1 order),(2,.dptr [LS 1 (E1) y.Stacks,I64 y.Height])] [] 1067 rfl rfl rfl ø rfl (by exact⟨.conv (.same rfl),.ptr,ø⟩) (Jr fun b6=>(JLh (.vec 1069 (([]:List Int).length) 1 (([]:List Int).length)) (H6b 1069 3 1 O O O) O (G6 (b6 (Js fun b7=>Jr fun b8=>(JLh (.dptr [LS 1 (E1) y.Stacks,I64 y.Height]) (Gy Hy O O O) O (JLh (LS 1 (E1) y.Stacks) (Gm Gr O O O) O (JLl Gh O O O fun s=>(JLm (I64 0) O (G6 (b8 (Gk ?_))))))))))))))))))
 obtain⟨b5,b9,c0,t,h⟩:=J3 h
 refine Ha (fun g (d:(List Int))=>each b5 b9 (List.drop g y.Stacks) g d=some r) (fun g d=>[(1,E1 order),(5,.vec 1069 d.length 1 d.length),(13,LS 1 (E1) y.Stacks),(14,E7 y.Stacks.length),(15,E7 g)]) (fun g d=>[(1069,.vec 3 1 d.length (d.map I64))]) (fun g=>y.Stacks.length - g) 0 [] h ⟨(.sm O O),⟨⟨_,rfl,.vec⟩,ø⟩,rfl⟩ ?_
 clear h
 intro g d o K5 e5
 refine Jr fun c1=>(JLh (BL (decide ((g:Int) < (y.Stacks.length:Int)))) (J0 O O O) O (G6 (c1 (Js fun c2=>Gj O (fun hb=>?_) (fun hb=>?_)))))
 ·
  have p:=Ji hb
  obtain⟨j,d3,c3,c4,h⟩:=Hv o p
  replace h:=Yq c0 h
  refine Gp (c2 (Js fun c5=>Gk (Jr fun c6=>(JLh (.dptr [E1 j]) (H1 (f:=(E1)) (xs:=y.Stacks) (y:=j) O O O Gh c3 O) O (JLh (E1 j) (Gm H3 O O O) O (JLm (E1 j) O (G6 (c6 (Jr fun u=>(JLm (E1 order) O (JLl G7 O O O fun d1=>(JLm (E7 order.length) O (G6 (u (Jr fun v=>(JLm (E1 j) O (JLl G7 O O O fun w=>(JLm (I64 0) O (G6 (v (Gk ?_)))))))))))))))))))))
  obtain⟨c7,x,z,m,h⟩:=J3 h
  refine Ha (fun c (a:Int×(List Int))=>each c7 x (List.drop c j) c a=some r) (fun c a=>[(1,E1 order),(5,.vec 1069 a.2.length 1 a.2.length),(8,I64 a.1),(13,LS 1 (E1) y.Stacks),(14,E7 y.Stacks.length),(15,E7 g),(21,E1 j),(22,E7 j.length),(23,E7 c)]) (fun c a=>[(1069,.vec 3 1 a.2.length (a.2.map I64))]) (fun c=>j.length - c) 0 ((order.length:Int),d) h ⟨(.sm O O),⟨⟨_,rfl,.vec⟩,ø⟩,rfl⟩ ?_
  clear h
  intro c a k d4 c8
  refine Jr fun a0=>(JLh (BL (decide ((c:Int) < (j.length:Int)))) (J0 O O O) O (G6 (a0 (Js fun a1=>Gj O (fun hb=>?_) (fun hb=>?_)))))
  ·
   have l:=Ji hb
   obtain⟨b,d2,a2,a3,h⟩:=Hv k l
   replace h:=Yq z h
   refine Gp (a1 (Js fun a4=>Gk (Jr fun a5=>(JLh (.dptr [I64 b]) (H1 (f:=I64) (xs:=j) (y:=b) O O O G7 a2 O) O (JLh (I64 b) (Gm Gi O O O) O (JLm (I64 b) O (G6 (a5 (Jr fun a6=>(JLm (E1 order) O (JLm (I64 b) O ?_)))))))))))
   obtain⟨e,a7,h⟩:=Gg h
   refine JLh (I64 e) (Gv O (Yi order b e a7) G67 ⟨O,O,O,O,ø⟩) O (JLm (I64 e) O (G6 (a6 ?_)))
   obtain⟨a8,n,h⟩:=G0a h
   refine Yy (fun i:(List Int)=>a8 i=some r) (fun i=>[(1,E1 order),(5,.vec 1069 i.length 1 i.length),(8,I64 a.1),(11,I64 e),(13,LS 1 (E1) y.Stacks),(14,E7 y.Stacks.length),(15,E7 g),(21,E1 j),(22,E7 j.length),(23,E7 c)]) (fun i=>[(1069,.vec 3 1 i.length (i.map I64))]) (fun Kj67 ej67=>?_) ?_
   ·
    refine Jr fun a9=>(JLm (I64 e) O (JLm (I64 a.1) O (JLh (BL (decide (a.1 < e))) (Z7 O O O) O (G6 (a9 (JCc O h (fun h hb=>?_) (fun h hb=>?_)))))))
    ·
     refine G1 (JLm (.vec 1069 a.2.length 1 a.2.length) O (JLm (I64 b) O (JLh (E1 [b]) (Hb (xs:=[I64 b]) O ⟨O,O,ø⟩ G7 Jg O O O O) O ?_)))
     obtain⟨b0,h⟩:=J1 h
     refine JLh (.vec 1069 ((a.2++[b]).length) 1 ((a.2++[b]).length)) (G30 (f:=I64) (xs:=a.2) (ys:=[b]) (ver:=a.2.length) (ver1:=(a.2++[b]).length) rfl rfl rfl rfl G7 R3 b0 (fun _=>rfl) (.inl rfl) (by simp)) O (JLm (.vec 1069 ((a.2++[b]).length) 1 ((a.2++[b]).length)) O (G6 (ej67 _ _ (a.2++[b]) h ⟨(.sm O O),⟨⟨_,rfl,.vec⟩,ø⟩,rfl⟩)))
    ·
     refine Gp (ej67 _ _ a.2 h ⟨(.sm O O),⟨⟨_,rfl,.vec⟩,ø⟩,rfl⟩)
   ·intro i h
    replace h:=app1 n h
    refine G1 (JLm (I64 a.1) O (JLm (I64 e) O (JLh (I64 (min a.1 e)) (Q3a O O O) O (JLm (I64 (min a.1 e)) O (G6 (a4 (G1 (JLh (I64 ((c+1:Nat):Int)) (Hz (Hn l w) O O O) O (JLm (I64 ((c+1:Nat):Int)) O (G6 (c8 _ _ (c+1) ((min a.1 e),i) (app1 a3 h) (by omega) ⟨(.sm O O),⟨⟨_,rfl,.vec⟩,ø⟩,rfl⟩)))))))))))
  ·
   have h:=app1 m (Hw k (Hd hb))
   refine Hf (c5 (G1 (JLh (I64 ((g+1:Nat):Int)) (Hz (Hn p s) O O O) O (JLm (I64 ((g+1:Nat):Int)) O (G6 (e5 _ _ (g+1) a.2 (app1 c4 h) (by omega) ⟨(.sm O O),⟨⟨_,rfl,.vec⟩,ø⟩,rfl⟩))))))
 ·
  have h:=app1 t (Hw o (Hd hb))
  refine Hf (b7 (Jr fun b1=>(JLm (.vec 1069 d.length 1 d.length) O ?_)))
  obtain⟨q,b2,h⟩:=Gg h
  refine JLh (.tup []) (Qd2 (F:=77) (xs:=d) (r:=q) O J12 Hc6 J40 O O O b2 O) O (G6 (b1 (Jr fun b3=>(JLm (.vec 1069 d.length 1 d.length) O (JLm (.vec 1069 d.length 1 d.length) O (G6 (b3 (Ge8 [(4,E1 q)] [] 1069 rfl rfl ø rfl (by exact⟨.vec,ø⟩) (H0 (fin1 (fun r:(List Int)=>(E1 r:AV)) h))))))))))

def Zd (y:Gs) (order:List Int):Option ((List Int)×Int):=
 bnd (Qv y order) fun a=>
 bif decide (a.2≠0) then
 (some ([],a.2))
 else
 (bnd (Y3 y order) fun b=>
  some (b,0))
theorem Gc1 (y:Gs) (order:List Int) (r:(List Int)×Int) (h:Zd y order=some r):Pure E8 23 [.agg [LS 1 (E1) y.Stacks,I64 y.Height],E1 order] (·=.tup [E1 r.1,I64 r.2]):=by
 unfold Zd at h
 refine H9 [.tmp 4,.tmp 5] Try.func23 O O (Jr fun c=>(JLh (.ptr 1036 0) (Qj (cs:=[LS 1 (E1) y.Stacks,I64 y.Height]) 1036 O O O O O) O (JLh (E1 ([]:List Int)) (Jn 1 O O) O (JLm (I64 0) O (G6 (c (H4 [(1,E1 order),(2,.dptr [LS 1 (E1) y.Stacks,I64 y.Height])] [] 1036 rfl rfl rfl ø rfl (by exact⟨.conv (.same rfl),.ptr,ø⟩) (Js fun d=>Jr fun e=>(JLh (.agg [LS 1 (E1) y.Stacks,I64 y.Height]) (Gu He O O O) O (JLm (E1 order) O ?_))))))))))
 obtain⟨a,f,h⟩:=Gg h
 refine JLh (.tup [I64 a.1,I64 a.2]) (Gv O (Z5 y order a f) G97 ⟨O,O,O,O,ø⟩) O (JLm (.tup [I64 a.1,I64 a.2]) O (JLh (I64 a.1) (Gq O O O) O (JLh (I64 a.2) (Gq O O O) O (JLm (I64 a.1) O (JLm (I64 a.2) O (G6 (e (Jr fun g=>(JLm (I64 a.2) O (JLh (BL (decide (a.2≠0))) (Yj O O O) O (G6 (g (JCc O h (fun h hb=>?_) (fun h hb=>?_))))))))))))))
 ·
  refine Jr fun i=>(JLm (I64 a.2) O (JLh (E1 ([]:List Int)) (Jn 1 O O) O (JLm (I64 a.2) O (G6 (i (H0 (⟨[E1 ([]:List Int),I64 a.2],[],ø,O,⟨⟨_,O,.conv (.same O)⟩,⟨_,O,.conv (.same O)⟩,ø⟩,O,congrArg (fun r:(List Int)×Int=>(.tup [E1 r.1,I64 r.2]:AV)) (K0 h)⟩)))))))
 ·
  refine Gp (d (Jr fun j=>(JLh (.agg [LS 1 (E1) y.Stacks,I64 y.Height]) (Gu He O O O) O (JLm (E1 order) O ?_))))
  obtain⟨b,k,h⟩:=Gg h
  refine JLh (E1 b) (Gv O (H44 y order b k) H9d ⟨O,O,O,O,ø⟩) O (JLm (E1 b) O (JLm (I64 0) O (G6 (j (H0 (⟨[E1 b,I64 0],[],ø,O,⟨⟨_,O,.conv (.same O)⟩,⟨_,O,.conv (.same O)⟩,ø⟩,O,congrArg (fun r:(List Int)×Int=>(.tup [E1 r.1,I64 r.2]:AV)) (K0 h)⟩))))))

def Rj (y:Gs) (order:List Int) (from_:Int) (rank:Int):Option Int:=
 each (fun e f (a:Int×Int) g=>
  jp (fun c=>
   bif ((decide ((f:Int)=from_))||(decide ((e.length:Int)=y.Height))) then
   (c (a.1,a.2))
   else
   (chk ((order.length:Int)+1) fun h=>
    each (fun i l (b:Int) d=>
     bnd (Qc order i) fun j=>
     d (min b j))
    (fun(b:Int)=>
     bif ((decide (rank≤b))&&((decide (a.1 < 0))||(decide (b < a.2)))) then
     (c ((f:Int),b))
     else
     (c (a.1,a.2))) e 0 h)) fun(k:Int×Int)=>
  g (k.1,k.2))
 (fun(a:Int×Int)=>
  some a.1) y.Stacks 0 ((-1),0)
theorem He4 (y:Gs) (order:List Int) (from_:Int) (rank:Int) (r:Int) (h:Rj y order from_ rank=some r):Pure E8 56 [.agg [LS 1 (E1) y.Stacks,I64 y.Height],E1 order,I64 from_,I64 rank] (·=I64 r):=by
 unfold Rj at h
 refine H9 [.tmp 8] Try.func56 O O (Jr fun b4=>(JLh (.ptr 1071 0) (Qj (cs:=[LS 1 (E1) y.Stacks,I64 y.Height]) 1071 O O O O O) O (JLm (I64 0) O (G6 (b4 (fzQ [(1,E1 order),(2,I64 from_),(3,I64 rank),(4,.dptr [LS 1 (E1) y.Stacks,I64 y.Height])] [] 1071 rfl rfl rfl ø rfl (Jr fun b6=>(JLm (I64 (-1)) O (JLm (I64 0) O (G6 (b6 (Js fun b7=>Jr fun b8=>(JLh (.dptr [LS 1 (E1) y.Stacks,I64 y.Height]) (Gy Hy O O O) O (JLh (LS 1 (E1) y.Stacks) (Gm Gr O O O) O (JLl Gh O O O fun q=>(JLm (I64 0) O (G6 (b8 (Gk ?_)))))))))))))))))))
 obtain⟨b5,b9,c0,s,h⟩:=J3 h
 refine Ha (fun b (c:Int×Int)=>each b5 b9 (List.drop b y.Stacks) b c=some r) (fun b c=>[(1,E1 order),(2,I64 from_),(3,I64 rank),(4,.dptr [LS 1 (E1) y.Stacks,I64 y.Height]),(9,I64 c.1),(10,I64 c.2),(17,LS 1 (E1) y.Stacks),(18,E7 y.Stacks.length),(19,E7 b)]) (fun b c=>[]) (fun b=>y.Stacks.length - b) 0 ((-1),0) h ⟨(.sm O O),ø,rfl⟩ ?_
 clear h
 intro b c o K5 e5
 refine Jr fun c1=>(JLh (BL (decide ((b:Int) < (y.Stacks.length:Int)))) (J0 O O O) O (G6 (c1 (Js fun c2=>Gj O (fun hb=>?_) (fun hb=>?_)))))
 ·
  have p:=Ji hb
  obtain⟨e,d3,c3,c4,h⟩:=Hv o p
  replace h:=Yq c0 h
  refine Gp (c2 ?_)
  obtain⟨c5,t,h⟩:=G0a h
  refine Yy (fun i:Int×Int=>c5 i=some r) (fun i=>[(1,E1 order),(2,I64 from_),(3,I64 rank),(4,.dptr [LS 1 (E1) y.Stacks,I64 y.Height]),(9,I64 i.1),(10,I64 i.2),(17,LS 1 (E1) y.Stacks),(18,E7 y.Stacks.length),(19,E7 b)]) (fun i=>[]) (fun Kj8 ej8=>?_) ?_
  ·
   refine Gk (Jr fun c6=>(JLm (E7 b) O (JLh (.dptr [E1 e]) (H1 (f:=(E1)) (xs:=y.Stacks) (y:=e) O O O Gh c3 O) O (JLh (E1 e) (Gm H3 O O O) O (JLm (E7 b) O (JLm (E1 e) O (G6 (c6 (Js fun v=>?_)))))))))
   refine Jr fun w=>(JLm (E7 b) O (JLm (I64 from_) O (JLh (BL (decide ((b:Int)=from_))) (Qm O O O) O (JLm (BL (decide ((b:Int)=from_))) O (JLo (E1 e) [] O .scf ø (fun hc=>G2 O O) O (JLo (E7 e.length) [28] O .scf ⟨Ua,ø⟩ (fun hc=>Jq (f:=I64) (xs:=e) G7 O O) O (JLo (.dptr [I64 y.Height]) [] O .scf ø (fun hc=>Gy Y2 O O O) O (JLo (I64 y.Height) [30] O .scf ⟨Ua,ø⟩ (fun hc=>Gm Gi O O O) O (JLo (BL (decide ((e.length:Int)=y.Height))) [29,31] O .scf ⟨Ua,Ua,ø⟩ (fun hc=>Qm O O O) O (JLh (BL ((decide ((b:Int)=from_))||(decide ((e.length:Int)=y.Height)))) (Yr O O O O) O (G6 (w (JCc O h (fun h hb=>?_) (fun h hb=>?_))))))))))))))
   ·
    refine Hf (ej8 _ _ (c.1,c.2) h ⟨(.sm O O),ø,rfl⟩)
   ·
    refine Gp (v (Jr fun x=>(JLm (E1 order) O (JLl G7 O O O fun d1=>?_))))
    obtain⟨k,z,h⟩:=J8 h
    refine JLh (I64 k) (Hz z O O O) O (JLm (I64 k) O (G6 (x (Js fun a0=>Jr fun a1=>(JLm (E1 e) O (JLl G7 O O O fun a2=>(JLm (I64 0) O (G6 (a1 (Gk ?_))))))))))
    obtain⟨c7,a3,a4,n,h⟩:=J3 h
    refine Ha (fun d (a:Int)=>each c7 a3 (List.drop d e) d a=some r) (fun d a=>[(1,E1 order),(2,I64 from_),(3,I64 rank),(4,.dptr [LS 1 (E1) y.Stacks,I64 y.Height]),(9,I64 c.1),(10,I64 c.2),(11,E7 b),(13,I64 a),(17,LS 1 (E1) y.Stacks),(18,E7 y.Stacks.length),(19,E7 b),(37,E1 e),(38,E7 e.length),(39,E7 d)]) (fun d a=>[]) (fun d=>e.length - d) 0 k h ⟨(.sm O O),ø,rfl⟩ ?_
    clear h
    intro d a l d4 c8
    refine Jr fun a5=>(JLh (BL (decide ((d:Int) < (e.length:Int)))) (J0 O O O) O (G6 (a5 (Js fun a6=>Gj O (fun hb=>?_) (fun hb=>?_)))))
    ·
     have m:=Ji hb
     obtain⟨g,d2,a7,a8,h⟩:=Hv l m
     replace h:=Yq a4 h
     refine Gp (a6 (Js fun a9=>Gk (Jr fun b0=>(JLh (.dptr [I64 g]) (H1 (f:=I64) (xs:=e) (y:=g) O O O G7 a7 O) O (JLh (I64 g) (Gm Gi O O O) O (JLm (I64 g) O (G6 (b0 (G1 (JLm (I64 a) O (JLm (E1 order) O (JLm (I64 g) O ?_))))))))))))
     obtain⟨j,b1,h⟩:=Gg h
     refine JLh (I64 j) (Gv O (Yi order g j b1) G67 ⟨O,O,O,O,ø⟩) O (JLh (I64 (min a j)) (Q3a O O O) O (JLm (I64 (min a j)) O (G6 (a9 (G1 (JLh (I64 ((d+1:Nat):Int)) (Hz (Hn m a2) O O O) O (JLm (I64 ((d+1:Nat):Int)) O (G6 (c8 _ _ (d+1) (min a j) (app1 a8 h) (by omega) ⟨(.sm O O),ø,rfl⟩)))))))))
    ·
     have h:=app1 n (Hw l (Hd hb))
     refine Hf (a0 (Jr fun b2=>(JLm (I64 a) O (JLm (I64 rank) O (JLh (BL (decide (rank≤a))) (G40 O O O) O (JLm (BL (decide (rank≤a))) O (JLo (I64 c.1) [] O .sct ø (fun hc=>G2 O O) O (JLo (BL (decide (c.1 < 0))) [53] O .sct ⟨Ua,ø⟩ (fun hc=>J0 O O O) O (JLo (BL (decide (c.1 < 0))) [54] O .sct ⟨Ua,ø⟩ (fun hc=>G2 O O) O (JLo (I64 a) [] O .optf ø (fun hc=>G2 O O) O (JLo (I64 c.2) [] O .optf ø (fun hc=>G2 O O) O (JLo (BL (decide (a < c.2))) [56,57] O .optf ⟨Ua,Ua,ø⟩ (fun hc=>J0 O O O) O (Gc (u:=BL ((decide (c.1 < 0))||(decide (a < c.2)))) [(55,BL (decide (c.1 < 0))),(58,_)] O O O .sct ⟨.all id,.part,ø⟩ (fun hc=>Yr O O O O) ?_)))))))))))))
     refine JLh (BL ((decide (rank≤a))&&((decide (c.1 < 0))||(decide (a < c.2))))) (R9 O O O O) O (G6 (b2 (JCc O h (fun h hb=>?_) (fun h hb=>?_))))
     ·
      refine G1 (JLm (E7 b) O (JLm (I64 a) O (JLm (E7 b) O (JLm (I64 a) O (G6 (ej8 _ _ ((b:Int),a) h ⟨(.sm O O),ø,rfl⟩))))))
     ·
      refine Gp (ej8 _ _ (c.1,c.2) h ⟨(.sm O O),ø,rfl⟩)
  ·intro i h
   replace h:=app1 t h
   refine G1 (JLh (I64 ((b+1:Nat):Int)) (Hz (Hn p q) O O O) O (JLm (I64 ((b+1:Nat):Int)) O (G6 (e5 _ _ (b+1) (i.1,i.2) (app1 c4 h) (by omega) ⟨(.sm O O),ø,rfl⟩))))
 ·
  have h:=app1 s (Hw o (Hd hb))
  refine Hf (b7 (Jr fun b3=>(JLm (I64 c.1) O (JLm (I64 c.1) O (G6 (b3 (H0 (fin1 I64 h))))))))
end
end Go.Proofs.Ytokjlondbjdlfaa
