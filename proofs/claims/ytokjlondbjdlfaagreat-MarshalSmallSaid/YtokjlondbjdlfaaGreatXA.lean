/- Walks of functions. -/
import Derived.Test.YtokjlondbjdlfaaGreatSortLay
import Derived.Test.YtokjlondbjdlfaaGreatIterD
import Derived.Test.YtokjlondbjdlfaaGreatIterD
import Derived.Test.YtokjlondbjdlfaaGreatIterD
import Derived.Test.YtokjlondbjdlfaaGreatIterD
import Derived.Test.YtokjlondbjdlfaaGreatIterD
import Derived.Test.YtokjlondbjdlfaaGreatIterD
set_option maxRecDepth 100000
set_option maxHeartbeats 1000000
set_option linter.unusedVariables false
set_option linter.unusedSimpArgs false
namespace Go.Proofs.YtokjlondbjdlfaaGreat
open Go.RowKit
noncomputable section
abbrev E8:=Tryz.prog
structure Gh where
 Stacks:List (List Int)
 Height:Int
 deriving DecidableEq,Inhabited
def Gh.cs (x:Gh):List AV:=[LS 1 (E1) x.Stacks,I64 x.Height]
structure Gy where
 Box:Int
 From:Int
 To:Int
 deriving DecidableEq,Inhabited
def Gy.cs (x:Gy):List AV:=[I64 x.Box,I64 x.From,I64 x.To]
def Gy.av (x:Gy):AV:=.agg x.cs
abbrev E4:=LS 3 Gy.av
structure Hr where
 stacks:List (List Int)
 height:Int
 order:List Int
 ranks:Hq Int Int
 steps:List Gy
 next:Int
 deriving Inhabited
def Hr.cs (x:Hr):List AV:=[LS 1 (E1) x.stacks,I64 x.height,E1 x.order,DM Eh I64 x.ranks,E4 x.steps,I64 x.next]
abbrev E6 (x:Hr):AV:=.dptr (Hr.cs x)
structure G2 where
 From:Int
 To:Int
 deriving DecidableEq,Inhabited
def G2.cs (x:G2):List AV:=[I64 x.From,I64 x.To]
def G2.av (x:G2):AV:=.agg x.cs
abbrev E2:=LS 2 G2.av
namespace XAF
theorem Rc5 (a b:G2):Hb4 E8 4 35 [.int .i64 a.From,.int .i64 a.To] [.int .i64 b.From,.int .i64 b.To]=some (decide (a=b)):=by
 refine(show _=some ((a.From==b.From)&&((a.To==b.To)&&true)) by kernel_rfl).trans (congrArg some ?_)
 rw [Bool.eq_iff_iff]
 simp only [Kk,beq_iff_eq,Km,Bool.and_true]
 constructor
 ·intro h; obtain⟨_,_⟩:=a; obtain⟨_,_⟩:=b; simp_all
 ·intro h; subst h; simp
theorem Hf:Gcb E8 25 2=true:=by kernel_rfl
theorem G61:Gcb E8 35 2=true:=by kernel_rfl
theorem Jb6:G13 E8 35=true:=by kernel_rfl
theorem Gb7:Hp E8 31=true:=by kernel_rfl
theorem H79:Hp E8 32=true:=by kernel_rfl
theorem G5b:Hp E8 37=true:=by kernel_rfl
theorem H78:Hp E8 38=true:=by kernel_rfl
theorem J0a:Hp E8 57=true:=by kernel_rfl
theorem Q0a:Hp E8 58=true:=by kernel_rfl
theorem J09:Hp E8 59=true:=by kernel_rfl
theorem J07:Hp E8 63=true:=by kernel_rfl
theorem J06:Hp E8 64=true:=by kernel_rfl
theorem J04:Hp E8 72=true:=by kernel_rfl
theorem Q06:Hp E8 73=true:=by kernel_rfl
theorem G3a:Qk E8 22 1 24=true:=by kernel_rfl
theorem Ro:Qk E8 3 1 8=true:=by kernel_rfl
theorem Q8b:E8.eqGuardType E8.depth 35=false:=by kernel_rfl
theorem G39:Ry E8 125 0 0=true:=by kernel_rfl
theorem H2f:Ry E8 125 2 2=true:=by kernel_rfl
theorem G38:Ry E8 125 3 3=true:=by kernel_rfl
theorem J8:Ry E8 25 0 0=true:=by kernel_rfl
theorem Rt:Ry E8 25 1 1=true:=by kernel_rfl
theorem G37:Yf E8 122 3 3=true:=by kernel_rfl
theorem Jg:E8.follows .mixedOrders=true:=by kernel_rfl
theorem H6a:placesOf E8 125=some [(0,1),(1,1),(2,1),(3,1),(4,1),(5,1)]:=by kernel_rfl
theorem G4f:Qs E8 122=true:=by kernel_rfl
theorem H5:Qs E8 22=true:=by kernel_rfl
theorem Gv:Qs E8 23=true:=by kernel_rfl
theorem Gj:Qs E8 3=true:=by kernel_rfl
theorem Gb6:Rw E8 23 1=true:=by kernel_rfl
theorem G8:sliceB E8 22 3 1=true:=by kernel_rfl
theorem Ge:sliceB E8 23 22 1=true:=by kernel_rfl
theorem Hk:sliceB E8 31 35 2=true:=by kernel_rfl
theorem He1:(E8.info? 125).bind (fun i=>i.zero.map Value.cells)=some (List.toArray [.slice none 0 0,E0,.slice none 0 0,.map none,.slice none 0 0,E0]):=by kernel_rfl
theorem Yu:Qe E8 22 1=true:=by kernel_rfl
theorem J6:Qe E8 3 1=true:=by kernel_rfl
theorem H4a:(E8.info? 3).bind (·.zero)=some E0:=by kernel_rfl
theorem Jb1:G6d E8 3 Eh:=G6d.of_int (by kernel_rfl)
end XAF
open XAF

def G05 (y:Gh):Option Bool:=
 bif ((((decide (y.Height < 1))||(decide (6 < y.Height)))||(decide ((y.Stacks.length:Int) < 1)))||(decide (30 < (y.Stacks.length:Int)))) then
 (some false)
 else
 (each (fun e k (f:(Hq Int Int)) g=>
   bif decide (y.Height < (e.length:Int)) then
   (some false)
   else
   (each (fun a j (b:(Hq Int Int)) d=>
     bnd (some (Hq.get b a 0)) fun h=>
     chk (h+1) fun c=>
     bnd (bif (!((decide (a < 1))||(decide (999999 < a)))) then some (Hq.get (Hq.put b a c) a 0) else some 0) fun i=>
     bif (((decide (a < 1))||(decide (999999 < a)))||(decide (1 < i))) then
     (some false)
     else
     (d (Hq.put b a c)))
    (fun(b:(Hq Int Int))=>
     g b) e 0 f))
  (fun(f:(Hq Int Int))=>
   some true) y.Stacks 0 (Hq.empty:Hq Int Int))
theorem G78 (y:Gh) (r:Bool) (h:G05 y=some r):Pure E8 64 [.agg [LS 1 (E1) y.Stacks,I64 y.Height]] (·=BL r):=by
 unfold G05 at h
 refine Hj [.tmp 2] Tryz.func64 O O (Jr fun c1=>(JLh (.ptr 1096 0) (Qw (cs:=[LS 1 (E1) y.Stacks,I64 y.Height]) 1096 O O O O O) O (JLm (BL false) O (G6 (c1 (H7 [(1,.dptr [LS 1 (E1) y.Stacks,I64 y.Height])] [] 1096 rfl rfl rfl ø rfl (by exact⟨.ptr,ø⟩) (Js fun c2=>?_)))))))
 refine Jr fun c3=>(JLh (.dptr [I64 y.Height]) (H1 Rt O O O) O (JLh (I64 y.Height) (Gr Gj O O O) O (JLh (BL (decide (y.Height < 1))) (J2 O O O) O (JLm (BL (decide (y.Height < 1))) O (JLo (.dptr [I64 y.Height]) [] O .scf ø (fun hc=>H1 Rt O O O) O (JLo (I64 y.Height) [12] O .scf ⟨Ua,ø⟩ (fun hc=>Gr Gj O O O) O (JLo (BL (decide (6 < y.Height))) [13] O .scf ⟨Ua,ø⟩ (fun hc=>G08 O O O) O (JLh (BL ((decide (y.Height < 1))||(decide (6 < y.Height)))) (G17 O O O O) O (JLm (BL ((decide (y.Height < 1))||(decide (6 < y.Height)))) O (JLo (.dptr [LS 1 (E1) y.Stacks,I64 y.Height]) [] O .scf ø (fun hc=>H1 J8 O O O) O (JLo (LS 1 (E1) y.Stacks) [17] O .scf ⟨Ua,ø⟩ (fun hc=>Gr Gv O O O) O (JLo (E7 y.Stacks.length) [18] O .scf ⟨Ua,ø⟩ (fun hc=>Re (f:=(E1)) (xs:=y.Stacks) Ge O O) O (JLo (BL (decide ((y.Stacks.length:Int) < 1))) [19] O .scf ⟨Ua,ø⟩ (fun hc=>J2 O O O) O ?_)))))))))))))
 refine JLh (BL (((decide (y.Height < 1))||(decide (6 < y.Height)))||(decide ((y.Stacks.length:Int) < 1)))) (G17 O O O O) O (JLm (BL (((decide (y.Height < 1))||(decide (6 < y.Height)))||(decide ((y.Stacks.length:Int) < 1)))) O (JLo (.dptr [LS 1 (E1) y.Stacks,I64 y.Height]) [] O .scf ø (fun hc=>H1 J8 O O O) O (JLo (LS 1 (E1) y.Stacks) [23] O .scf ⟨Ua,ø⟩ (fun hc=>Gr Gv O O O) O (JLo (E7 y.Stacks.length) [24] O .scf ⟨Ua,ø⟩ (fun hc=>Re (f:=(E1)) (xs:=y.Stacks) Ge O O) O (JLo (BL (decide (30 < (y.Stacks.length:Int)))) [25] O .scf ⟨Ua,ø⟩ (fun hc=>G08 O O O) O (JLh (BL ((((decide (y.Height < 1))||(decide (6 < y.Height)))||(decide ((y.Stacks.length:Int) < 1)))||(decide (30 < (y.Stacks.length:Int))))) (G17 O O O O) O (G6 (c3 ?_))))))))
 refine JCc O h ?_ ?_<;>intro h hb
 ·
  refine Jr fun c4=>(JLm (BL false) O (G6 (c4 (H0 (fin1 BL h)))))
 ·
  refine Gk (c2 (Jr fun c5=>(JLh (.mp 1097) (H96 1097 Eh I64 O O) O (JLm (.mp 1097) O (G6 (c5 (Js fun c6=>Jr fun c7=>(JLh (.dptr [LS 1 (E1) y.Stacks,I64 y.Height]) (H1 J8 O O O) O (JLh (LS 1 (E1) y.Stacks) (Gr Gv O O O) O (JLl Ge O O O fun s=>(JLm (I64 0) O (G6 (c7 (Gf ?_))))))))))))))
  obtain⟨b8,c8,c9,t,h⟩:=J7 h
  refine Ha (fun e (j:(Hq Int Int))=>each b8 c8 (List.drop e y.Stacks) e j=some r) (fun e j=>[(1,.dptr [LS 1 (E1) y.Stacks,I64 y.Height]),(3,.mp 1097),(30,LS 1 (E1) y.Stacks),(31,E7 y.Stacks.length),(32,E7 e)]) (fun e j=>[(1097,TP 122 Eh I64 j)]) (fun e=>y.Stacks.length - e) 0 (Hq.empty:Hq Int Int) h ⟨(.sm O O),⟨fmQ O,ø⟩,rfl⟩ ?_
  clear h
  intro e j p K8 e8
  refine Jr fun d0=>(JLh (BL (decide ((e:Int) < (y.Stacks.length:Int)))) (J2 O O O) O (G6 (d0 (Js fun w=>Gi O (fun hb=>?_) (fun hb=>?_)))))
  ·
   have q:=Jp hb
   obtain⟨g,e0,d1,d2,h⟩:=Hw p q
   replace h:=Yw c9 h
   refine Gk (w (Js fun x=>Gf (Jr fun z=>(JLh (.dptr [E1 g]) (Gz (f:=(E1)) (xs:=y.Stacks) (y:=g) O O O Ge d1 O) O (JLh (E1 g) (Gr H5 O O O) O (JLm (E1 g) O (G6 (z (Js fun a0=>Jr fun a1=>(JLm (E1 g) O (JLl G8 O O O fun d8=>(JLh (.dptr [I64 y.Height]) (H1 Rt O O O) O (JLh (I64 y.Height) (Gr Gj O O O) O (JLh (BL (decide (y.Height < (g.length:Int)))) (G08 O O O) O (G6 (a1 (JCc O h (fun h hb=>?_) (fun h hb=>?_))))))))))))))))))
   ·
    refine Jr fun a2=>(JLm (BL false) O (G6 (a2 (H0 (fin1 BL h)))))
   ·
    refine Gk (a0 (Jr fun a3=>(JLm (E1 g) O (JLl G8 O O O fun a4=>(JLm (I64 0) O (G6 (a3 (Gf ?_))))))))
    obtain⟨d3,a5,a6,o,h⟩:=J7 h
    refine Ha (fun c (d:(Hq Int Int))=>each d3 a5 (List.drop c g) c d=some r) (fun c d=>[(1,.dptr [LS 1 (E1) y.Stacks,I64 y.Height]),(3,.mp 1097),(30,LS 1 (E1) y.Stacks),(31,E7 y.Stacks.length),(32,E7 e),(41,E1 g),(42,E7 g.length),(43,E7 c)]) (fun c d=>[(1097,TP 122 Eh I64 d)]) (fun c=>g.length - c) 0 j h ⟨(.sm O O),⟨fmQ O,ø⟩,rfl⟩ ?_
    clear h
    intro c d k e1 d4
    refine Jr fun a7=>(JLh (BL (decide ((c:Int) < (g.length:Int)))) (J2 O O O) O (G6 (a7 (Js fun a8=>Gi O (fun hb=>?_) (fun hb=>?_)))))
    ·
     have l:=Jp hb
     obtain⟨b,d9,a9,b0,h⟩:=Hw k l
     replace h:=Yw a6 h
     refine Gk (a8 (Js fun b1=>Gf (Jr fun b2=>(JLh (.dptr [I64 b]) (Gz (f:=I64) (xs:=g) (y:=b) O O O G8 a9 O) O (JLh (I64 b) (Gr Gj O O O) O (JLm (I64 b) O (G6 (b2 (Jr fun b3=>(JLm (.mp 1097) O (JLm (I64 b) O ?_)))))))))))
     obtain⟨d5,b4,h⟩:=Gd h
     refine JLh (I64 d5) (((Ez b4) ▸ J4d (av:=I64) (m:=d) (a:=b) 0 E0 (fun _=>O) O (.own O) O Jb1 G37 H4a O)) O ?_
     obtain⟨i,b5,h⟩:=Je h
     refine JLh (I64 i) (Hz b5 O O O) O (Jb (u:=.junk) (H1e (m:=d) (a:=b) (v:=i) (fun _=>O) O O O O O O Jb1 G37) (G6 (b3 (Jr fun b6=>(JLm (I64 b) O (JLh (BL (decide (b < 1))) (J2 O O O) O (JLm (BL (decide (b < 1))) O (JLo (I64 b) [] O .scf ø (fun hc=>G3 O O) O (JLo (BL (decide (999999 < b))) [54] O .scf ⟨Ua,ø⟩ (fun hc=>G08 O O O) O (JLh (BL ((decide (b < 1))||(decide (999999 < b)))) (G17 O O O O) O (JLm (BL ((decide (b < 1))||(decide (999999 < b)))) O (JLo (.mp 1097) [] O .scf ø (fun hc=>G3 O O) O (JLo (I64 b) [] O .scf ø (fun hc=>G3 O O) O ?_)))))))))))))
     obtain⟨n,b7,h⟩:=Gd h
     refine JLo (I64 n) [58,59] O .scf ⟨Ua,Ua,ø⟩ (fun hc=>((Ez (H6 hc b7)) ▸ J4d (av:=I64) (m:=(Hq.put d b i)) (a:=b) 0 E0 (fun _=>O) O (.own O) O Jb1 G37 H4a O)) O (JLo (BL (decide (1 < n))) [60] O .scf ⟨Ua,ø⟩ (fun hc=>G08 O O O) O (JLh (BL (((decide (b < 1))||(decide (999999 < b)))||(decide (1 < n)))) (G17 O O O O) O (G6 (b6 (JCc O h (fun h hb=>?_) (fun h hb=>?_))))))
     ·
      refine Jr fun b9=>(JLm (BL false) O (G6 (b9 (H0 (fin1 BL h)))))
     ·
      refine Gk (b1 (G1 (JLh (I64 ((c+1:Nat):Int)) (Hz (Hi l a4) O O O) O (JLm (I64 ((c+1:Nat):Int)) O (G6 (d4 _ _ (c+1) (Hq.put d b i) (app1 b0 h) (by omega) ⟨(.sm O O),⟨fmQ O,ø⟩,rfl⟩))))))
    ·
     have h:=app1 o (Hx k (Hc hb))
     refine Hd (x (G1 (JLh (I64 ((e+1:Nat):Int)) (Hz (Hi q s) O O O) O (JLm (I64 ((e+1:Nat):Int)) O (G6 (e8 _ _ (e+1) d (app1 d2 h) (by omega) ⟨(.sm O O),⟨fmQ O,ø⟩,rfl⟩))))))
  ·
   have h:=app1 t (Hx p (Hc hb))
   refine Hd (c6 (Jr fun c0=>(JLm (BL true) O (G6 (c0 (H0 (fin1 BL h)))))))

def Y0 (s:List Int):Option (List Int):=
 R27 s fun a=>
 bif a then
 (some [])
 else
 (need (decide ((([]:List Int).length+s.length)*8≤140737488355328∧([]:List Int).length+s.length≤maxLen)) <|
  some (([]:List Int)++s))
theorem G9f (s:List Int) (r:(List Int)) (h:Y0 s=some r):Pure E8 72 [E1 s] (·=E1 r):=by
 unfold Y0 at h
 refine Hj [.tmp 2] Tryz.func72 O O (Jr fun a=>(JLh (E1 ([]:List Int)) (Jo 1 O O) O (G6 (a (Js fun b=>Jr fun c=>(JLm (E1 s) O (G7c O O O (R4e G8 O O) ?_)))))))
 rintro u_ L_ ⟨j,d,rfl,rfl⟩
 replace h:=Qd5 h j d
 refine G6 (c (JCc O h (fun h hb=>?_) (fun h hb=>?_)))
 ·
  refine Jr fun e=>(JLh (E1 ([]:List Int)) (Jo 1 O O) O (G6 (e (H0 (fin1 (fun r:(List Int)=>(E1 r:AV)) h)))))
 ·
  refine Gk (b (Jr fun g=>(JLh (OW 730000005 1 I64 ([]:List Int)) (Gc7 730000005 3 1 O O G8) O (JLm (E1 s) O ?_))))
  obtain⟨i,h⟩:=Ho h
  refine JLh (OW 730000005 1 I64 (([]:List Int)++s)) (G18 (f:=I64) (xs:=([]:List Int)) (ys:=s) O O O O G8 Ro i (fun _=>O) (.inl O)) O (JLm (OW 730000005 1 I64 (([]:List Int)++s)) O (G6 (g (H0 (fin1l (fun r:(List Int)=>(E1 r:AV)) h)))))

def Rz (s:List Int) (v:Int):Option Int:=
 each (fun b c (d:Unit) a=>
  bif decide (v=b) then
  (some (c:Int))
  else
  (a ()))
 (fun(d:Unit)=>
  some (-1)) s 0 ()
theorem G9e (s:List Int) (v:Int) (r:Int) (h:Rz s v=some r):Pure E8 63 [E1 s,I64 v] (·=I64 r):=by
 unfold Rz at h
 refine Hj [.tmp 4] Tryz.func63 O O (Jr fun w=>(JLm (I64 0) O (G6 (w (Js fun x=>Jr fun z=>(JLm (E1 s) O (JLl G8 O O O fun a0=>(JLm (I64 0) O (G6 (z (Gf ?_)))))))))))
 obtain⟨a1,i,j,g,h⟩:=J7 h
 refine Ha (fun a (b:Unit)=>each a1 i (List.drop a s) a b=some r) (fun a b=>[(0,E1 s),(1,I64 v),(7,E7 s.length),(8,E7 a)]) (fun a b=>[]) (fun a=>s.length - a) 0 () h ⟨(.sm O O),ø,rfl⟩ ?_
 clear h
 intro a b d a4 a2
 refine Jr fun k=>(JLh (BL (decide ((a:Int) < (s.length:Int)))) (J2 O O O) O (G6 (k (Js fun l=>Gi O (fun hb=>?_) (fun hb=>?_)))))
 ·
  have e:=Jp hb
  obtain⟨c,a3,m,n,h⟩:=Hw d e
  replace h:=Yw j h
  refine Gk (l (Js fun o=>Gf (Jr fun p=>(JLm (E7 a) O (JLm (E7 a) O (G6 (p (Jr fun q=>(JLm (I64 v) O (JLm (E1 s) O (JLm (E7 a) O (JLh (.dptr [I64 c]) (Gz (f:=I64) (xs:=s) (y:=c) O O O G8 m O) O (JLh (I64 c) (Gr Gj O O O) O (JLh (BL (decide (v=c))) (Yx O O O) O (G6 (q (JCc O h (fun h hb=>?_) (fun h hb=>?_))))))))))))))))))
  ·
   refine Jr fun t=>(JLm (E7 a) O (JLm (E7 a) O (G6 (t (H0 (fin1 I64 h))))))
  ·
   refine Gk (o (G1 (JLh (I64 ((a+1:Nat):Int)) (Hz (Hi e a0) O O O) O (JLm (I64 ((a+1:Nat):Int)) O (G6 (a2 _ _ (a+1) () (app1 n h) (by omega) ⟨(.sm O O),ø,rfl⟩))))))
 ·
  have h:=app1 g (Hx d (Hc hb))
  refine Hd (x (Jr fun u=>(JLm (I64 (-1)) O (G6 (u (H0 (fin1 I64 h)))))))

def G06 (y:Gh) (box:Int):Option (Int×Int×Bool):=
 each (fun c d (e:Unit) b=>
  bnd (Rz c box) fun a=>
  bif decide (0≤a) then
  (some ((d:Int),a,true))
  else
  (b ()))
 (fun(e:Unit)=>
  some (0,0,false)) y.Stacks 0 ()
theorem Ge7 (y:Gh) (box:Int) (r:Int×Int×Bool) (h:G06 y box=some r):Pure E8 38 [.agg [LS 1 (E1) y.Stacks,I64 y.Height],I64 box] (·=.tup [I64 r.1,I64 r.2.1,BL r.2.2]):=by
 unfold G06 at h
 refine Hj [.tmp 4,.tmp 5,.tmp 6] Tryz.func38 O O (Jr fun z=>(JLh (.ptr 1070 0) (Qw (cs:=[LS 1 (E1) y.Stacks,I64 y.Height]) 1070 O O O O O) O (JLm (I64 0) O (JLm (I64 0) O (JLm (BL false) O (G6 (z (H7 [(1,I64 box),(2,.dptr [LS 1 (E1) y.Stacks,I64 y.Height])] [] 1070 rfl rfl rfl ø rfl (by exact⟨.conv (.same rfl),.ptr,ø⟩) (Js fun a0=>Jr fun a1=>(JLh (.dptr [LS 1 (E1) y.Stacks,I64 y.Height]) (H1 J8 O O O) O (JLh (LS 1 (E1) y.Stacks) (Gr Gv O O O) O (JLl Ge O O O fun j=>(JLm (I64 0) O (G6 (a1 (Gf ?_))))))))))))))))
 obtain⟨a2,k,l,i,h⟩:=J7 h
 refine Ha (fun a (d:Unit)=>each a2 k (List.drop a y.Stacks) a d=some r) (fun a d=>[(1,I64 box),(11,LS 1 (E1) y.Stacks),(12,E7 y.Stacks.length),(13,E7 a)]) (fun a d=>[]) (fun a=>y.Stacks.length - a) 0 () h ⟨(.sm O O),ø,rfl⟩ ?_
 clear h
 intro a d e a5 a3
 refine Jr fun m=>(JLh (BL (decide ((a:Int) < (y.Stacks.length:Int)))) (J2 O O O) O (G6 (m (Js fun n=>Gi O (fun hb=>?_) (fun hb=>?_)))))
 ·
  have g:=Jp hb
  obtain⟨c,a4,o,p,h⟩:=Hw e g
  replace h:=Yw l h
  refine Gk (n (Js fun q=>Gf (Jr fun s=>(JLm (E7 a) O (JLh (.dptr [E1 c]) (Gz (f:=(E1)) (xs:=y.Stacks) (y:=c) O O O Ge o O) O (JLh (E1 c) (Gr H5 O O O) O (JLm (E7 a) O (JLm (E1 c) O (G6 (s (Jr fun t=>(JLm (E1 c) O (JLm (I64 box) O ?_)))))))))))))
  obtain⟨b,u,h⟩:=Gd h
  refine JLh (I64 b) (Gu O (G9e c box b u) J07 ⟨O,O,O,O,ø⟩) O (JLm (I64 b) O (G6 (t (Jr fun v=>(JLm (I64 b) O (JLh (BL (decide (0≤b))) (G6b O O O) O (G6 (v (JCc O h (fun h hb=>?_) (fun h hb=>?_))))))))))
  ·
   refine Jr fun w=>(JLm (E7 a) O (JLm (I64 b) O (JLm (E7 a) O (JLm (I64 b) O (JLm (BL true) O (G6 (w (H0 (⟨[E7 a,I64 b,BL true],[],ø,O,⟨⟨_,O,.conv (.same O)⟩,⟨_,O,.conv (.same O)⟩,⟨_,O,.conv (.same O)⟩,ø⟩,O,congrArg (fun r:Int×Int×Bool=>(.tup [I64 r.1,I64 r.2.1,BL r.2.2]:AV)) (Ez h)⟩)))))))))
  ·
   refine Gk (q (G1 (JLh (I64 ((a+1:Nat):Int)) (Hz (Hi g j) O O O) O (JLm (I64 ((a+1:Nat):Int)) O (G6 (a3 _ _ (a+1) () (app1 p h) (by omega) ⟨(.sm O O),ø,rfl⟩))))))
 ·
  have h:=app1 i (Hx e (Hc hb))
  refine Hd (a0 (Jr fun x=>(JLm (I64 0) O (JLm (I64 0) O (JLm (BL false) O (G6 (x (H0 (⟨[I64 0,I64 0,BL false],[],ø,O,⟨⟨_,O,.conv (.same O)⟩,⟨_,O,.conv (.same O)⟩,⟨_,O,.conv (.same O)⟩,ø⟩,O,congrArg (fun r:Int×Int×Bool=>(.tup [I64 r.1,I64 r.2.1,BL r.2.2]:AV)) (Ez h)⟩)))))))))

def Qu (y:Gh) (order:List Int):Option (Hr×Bool):=
 bnd (G05 y) fun j=>
 bif (!j) then
 (none)
 else
 (each (fun i l (a:(List (List Int))×Int×(List Int)×(List Gy)×Int) f=>
   bnd (Y0 i) fun d=>
   need (decide ((a.1.length+[d].length)*24≤140737488355328∧a.1.length+[d].length≤maxLen)) <|
   f ((a.1++[d]),a.2.1,a.2.2.1,a.2.2.2.1,a.2.2.2.2))
  (fun(a:(List (List Int))×Int×(List Int)×(List Gy)×Int)=>
   each (fun c g (b:(Hq Int Int)) e=>
    bnd (G06 y c) fun h=>
    bnd (some (Hq.get b c 0)) fun k=>
    bif ((Hq.has b c)||(!h.2.2)) then
    (none)
    else
    (e (Hq.put b c (g:Int))))
   (fun(b:(Hq Int Int))=>
    some ((Hr.mk a.1 a.2.1 a.2.2.1 b a.2.2.2.1 a.2.2.2.2),true)) order 0 (Hq.empty:Hq Int Int)) y.Stacks 0 ([],y.Height,order,[],0))
abbrev E9 (a:(List (List Int))×Int×(List Int)×(List Gy)×Int):List AV:=[OW 1095 1 (E1) a.1,I64 a.2.1,E1 a.2.2.1,.mp 1103,E4 a.2.2.2.1,I64 a.2.2.2.2]
theorem H8f (y:Gh) (order:List Int) (r:Hr×Bool) (h:Qu y order=some r):Jz E8 57 [.agg [LS 1 (E1) y.Stacks,I64 y.Height],E1 order] [] (fun av L'=>av=.tup [.ptr 1102 0,BL r.2]∧L'=[(1102,.box 125 [LS 1 (E1) r.1.stacks,I64 r.1.height,E1 r.1.order,.mp 1103,E4 r.1.steps,I64 r.1.next]),(1103,TP 122 Eh I64 r.1.ranks)]):=by
 unfold Qu at h
 refine G0c [] [.tmp 4,.tmp 5] Tryz.func57 O O (H6f O) (Jr fun d1=>(JLh (.ptr 1094 0) (Qw (cs:=[LS 1 (E1) y.Stacks,I64 y.Height]) 1094 O O O O O) O (JLm (.sc (.pointer none)) O (JLm (BL false) O (G6 (d1 (H7 [(1,E1 order),(2,.dptr [LS 1 (E1) y.Stacks,I64 y.Height])] [] 1094 rfl rfl rfl ø rfl (by exact⟨.conv (.same rfl),.ptr,ø⟩) (Js fun d2=>Jr fun d3=>(JLh (.agg [LS 1 (E1) y.Stacks,I64 y.Height]) (Gt Hf O O O) O ?_)))))))))
 obtain⟨w,d4,h⟩:=Gd h
 refine JLh (BL w) (Gu O (G78 y w d4) J06 ⟨O,O,ø⟩) O (JLh (BL (!w)) (Y4 (b:=w) O O) O (G6 (d3 (JCc O h (fun h hb=>?_) (fun h hb=>?_)))))
 ·
  refine Jr fun d5=>(JLm (.sc (.pointer none)) O (JLm (BL false) O (G6 (d5 (H0 ?_)))))
  cases h
 ·
  refine Gk (d2 ?_)
  refine Jr fun d6=>(JLh (.dptr [I64 y.Height]) (H1 Rt O O O) O (JLh (I64 y.Height) (Gr Gj O O O) O (JLm (E1 order) O (JLh (.mp 1103) (H96 1103 Eh I64 O O) O (JLh (.agg [.sc (.slice none 0 0),I64 y.Height,E1 order,.mp 1103,E4 ([]:List Gy),I64 0]) (Jf (cs:=[.sc (.slice none 0 0),I64 y.Height,E1 order,.mp 1103,E4 ([]:List Gy),I64 0]) [(0,1),(1,1),(2,1),(3,1),(4,1),(5,1)] [.sc (.slice none 0 0),I64 0,E1 ([]:List Int),.sc (.map none),E4 ([]:List Gy),I64 0] [.slice none 0 0,E0,.slice none 0 0,.map none,.slice none 0 0,E0] H6a He1 ⟨.inl O,.inl O,.inr ⟨_,O,O⟩,.inl O,.inr ⟨_,O,O⟩,.inl O,ø⟩ O O) O (JLh (.ptr 1102 0) (Qw (cs:=[.sc (.slice none 0 0),I64 y.Height,E1 order,.mp 1103,E4 ([]:List Gy),I64 0]) 1102 O O O O O) O ?_))))))
  refine H91 1102 0 1095 22 1 O O O (cs':=[OW 1095 1 (E1) ([]:List (List Int)),I64 y.Height,E1 order,.mp 1103,E4 ([]:List Gy),I64 0]) O (JLm (.ptr 1102 0) O (G6 (d6 (Js fun d7=>Jr fun d8=>(JLh (.dptr [LS 1 (E1) y.Stacks,I64 y.Height]) (H1 J8 O O O) O (JLh (LS 1 (E1) y.Stacks) (Gr Gv O O O) O (JLl Ge O O O fun b5=>(JLm (I64 0) O (G6 (d8 (Gf ?_)))))))))))
  obtain⟨d9,b6,b7,x,h⟩:=J7 h
  refine Ha (fun k (c:(List (List Int))×Int×(List Int)×(List Gy)×Int)=>each d9 b6 (List.drop k y.Stacks) k c=some r) (fun k c=>[(1,E1 order),(2,.dptr [LS 1 (E1) y.Stacks,I64 y.Height]),(6,.ptr 1102 0),(26,LS 1 (E1) y.Stacks),(27,E7 y.Stacks.length),(28,E7 k)]) (fun k c=>[(1103,TP 122 Eh I64 (Hq.empty:Hq Int Int)),(1095,.spare 22 1 c.1.length c.1.length),(1102,.box 125 (E9 c))]) (fun k=>y.Stacks.length - k) 0 ([],y.Height,order,[],0) h ⟨(.sm O O),⟨fmQ O,⟨_,rfl,.same⟩,fbQ O (.sm O O),ø⟩,rfl⟩ ?_
  clear h
  intro k c q e4 e0
  refine Jr fun b8=>(JLh (BL (decide ((k:Int) < (y.Stacks.length:Int)))) (J2 O O O) O (G6 (b8 (Js fun b9=>Gi O (fun hb=>?_) (fun hb=>?_)))))
  ·
   have s:=Jp hb
   obtain⟨l,e2,c0,c1,h⟩:=Hw q s
   replace h:=Yw b7 h
   refine Gk (b9 (Js fun c2=>Gf (Jr fun c3=>(JLh (.dptr [E1 l]) (Gz (f:=(E1)) (xs:=y.Stacks) (y:=l) O O O Ge c0 O) O (JLh (E1 l) (Gr H5 O O O) O (JLm (E1 l) O (G6 (c3 ?_))))))))
   refine R0 (l':=[(1,E1 order),(2,.dptr [LS 1 (E1) y.Stacks,I64 y.Height]),(6,.ptr 1102 0),(8,E1 l),(26,LS 1 (E1) y.Stacks),(27,E7 y.Stacks.length),(28,E7 k)]) (L':=[(1103,TP 122 Eh I64 (Hq.empty:Hq Int Int)),(1095,.spare 22 1 c.1.length c.1.length),(1102,.box 125 (E9 c))]) ⟨(.sm O O),⟨fmQ O,⟨_,rfl,.same⟩,fbQ O (.sm O O),ø⟩,rfl⟩ ?_
   obtain⟨j,c4,h⟩:=Gd h
   obtain⟨c5,h⟩:=Ho h
   refine Ju [8,11] [0,0,0,0,0,0,0,0,0,1,1,0] [1,0,0,0,0,0,0,0,0,1,1,0] [[(1103,TP 122 Eh I64 (Hq.empty:Hq Int Int)),(1095,.spare 22 1 c.1.length c.1.length),(1102,.box 125 (E9 c))],((1095,.spare 22 1 (c.1++[j]).length (c.1++[j]).length)::[(1103,TP 122 Eh I64 (Hq.empty:Hq Int Int)),(1095,.spare 22 1 c.1.length c.1.length),(1102,.box 125 (E9 c))]),((1102,.box 125 [OW 1095 1 (E1) (c.1++[j]),I64 c.2.1,E1 c.2.2.1,.mp 1103,E4 c.2.2.2.1,I64 c.2.2.2.2])::((1095,.spare 22 1 (c.1++[j]).length (c.1++[j]).length)::[(1103,TP 122 Eh I64 (Hq.empty:Hq Int Int)),(1095,.spare 22 1 c.1.length c.1.length),(1102,.box 125 (E9 c))]))] Jg (by kernel_rfl) rfl rfl ?_
   refine Gc (u:=.ptr 1102 0) O O ⟨Ga (G3 O O) O,Ga (G3 O O) O,ø⟩ (Gc (u:=.ptr 1102 0) O O ⟨Ga (G3 O O) O,ø⟩ (Gc (u:=.ptr 1102 0) O O ⟨Ga (Ga1 O O) O,ø⟩ (Gc (u:=.ptr 1102 0) O O ⟨Ga (Hs G39 O O) O,ø⟩ (Gc (u:=OW 1095 1 (E1) c.1) O O ⟨Ga (Ht Gv O O O O) O,ø⟩ (Gc (u:=E1 l) O O ⟨Ga (G3 O O) O,ø⟩ (Gc (u:=E1 j) O O ⟨Ga (Gu O (G9f l j c4) J04 ⟨O,O,ø⟩) O,ø⟩ (Gc (u:=LS 1 (E1) [j]) O O ⟨Ga (H4 (xs:=[E1 j]) O ⟨O,O,ø⟩ Ge Yu O O O O) O,ø⟩ (D_w (u:=OW 1095 1 (E1) (c.1++[j])) O O O O (Ga (R3 (f:=(E1)) (xs:=c.1) (ys:=[j]) O O O O Ge G3a c5 (fun _=>O) (.inl O) O) O) (Gc (u:=.ptr 1102 0) O O ⟨Ga (Ga1 O O) O,ø⟩ (Gc (u:=.ptr 1102 0) O O ⟨Ga (Hs G39 O O) O,ø⟩ (H2a (u:=.junk) O O O O (Ga (Hu (u:=OW 1095 1 (E1) (c.1++[j])) (ds:=[OW 1095 1 (E1) (c.1++[j]),I64 c.2.1,E1 c.2.2.1,.mp 1103,E4 c.2.2.2.1,I64 c.2.2.2.2]) Gb6 O O O O O O O O) O) (Rx ?_))))))))))))
   refine c2 (G1 (JLh (I64 ((k+1:Nat):Int)) (Hz (Hi s b5) O O O) O (JLm (I64 ((k+1:Nat):Int)) O (G6 (e0 _ _ (k+1) ((c.1++[j]),c.2.1,c.2.2.1,c.2.2.2.1,c.2.2.2.2) (app1 c1 h) (by omega) ⟨(.sm O O),⟨fmQ O,⟨_,rfl,.same⟩,fbQ O (.sm O O),ø⟩,rfl⟩)))))
  ·
   have h:=app1 x (Hx q (Hc hb))
   refine Hd (d7 (Js fun c6=>Jr fun c7=>(JLm (E1 order) O (JLl G8 O O O fun c8=>(JLm (I64 0) O (G6 (c7 (Gf ?_))))))))
   obtain⟨c9,z,a0,t,h⟩:=J7 h
   refine Ha (fun e (g:(Hq Int Int))=>each c9 z (List.drop e order) e g=some r) (fun e g=>[(2,.dptr [LS 1 (E1) y.Stacks,I64 y.Height]),(6,.ptr 1102 0),(44,E1 order),(45,E7 order.length),(46,E7 e)]) (fun e g=>[(1103,TP 122 Eh I64 g),(1095,.spare 22 1 c.1.length c.1.length),(1102,.box 125 (E9 c))]) (fun e=>order.length - e) 0 (Hq.empty:Hq Int Int) h ⟨(.sm O O),⟨fmQ O,⟨_,rfl,.same⟩,fbQ O (.sm O O),ø⟩,rfl⟩ ?_
   clear h
   intro e g o e3 d0
   refine Jr fun a1=>(JLh (BL (decide ((e:Int) < (order.length:Int)))) (J2 O O O) O (G6 (a1 (Js fun a2=>Gi O (fun hb=>?_) (fun hb=>?_)))))
   ·
    have p:=Jp hb
    obtain⟨d,e1,a3,a4,h⟩:=Hw o p
    replace h:=Yw a0 h
    refine Gk (a2 (Js fun a5=>Gf (Jr fun a6=>(JLm (E7 e) O (JLh (.dptr [I64 d]) (Gz (f:=I64) (xs:=order) (y:=d) O O O G8 a3 O) O (JLh (I64 d) (Gr Gj O O O) O (JLm (E7 e) O (JLm (I64 d) O (G6 (a6 (Jr fun a7=>(JLh (.agg [LS 1 (E1) y.Stacks,I64 y.Height]) (Gt Hf O O O) O (JLm (I64 d) O ?_)))))))))))))
    obtain⟨i,a8,h⟩:=Gd h
    refine JLh (.tup [I64 i.1,I64 i.2.1,BL i.2.2]) (Gu O (Ge7 y d i a8) H78 ⟨O,O,O,O,ø⟩) O (JLm (.tup [I64 i.1,I64 i.2.1,BL i.2.2]) O (JLh (I64 i.1) (Gw O O O) O (JLh (I64 i.2.1) (Gw O O O) O (JLh (BL i.2.2) (Gw O O O) O (JLm (I64 i.1) O (JLm (I64 i.2.1) O (JLm (BL i.2.2) O (G6 (a7 (Js fun a9=>Jr fun b0=>(JLm (.ptr 1102 0) O (JLh (.ptr 1102 0) (Ga1 O O) O (JLh (.ptr 1102 3) (Hs G38 O O) O (JLh (.mp 1103) (Ht G4f O O O O) O (JLm (I64 d) O ?_)))))))))))))))
    obtain⟨n,b1,h⟩:=Gd h
    refine JLh (.tup [I64 n,BL (Hq.has g d)]) (((Ez b1) ▸ H97 (av:=I64) (m:=g) (a:=d) 0 E0 (fun _=>O) O (.own O) O Jb1 G37 H4a O)) O (JLm (.tup [I64 n,BL (Hq.has g d)]) O (JLh (I64 n) (Gw O O O) O (JLh (BL (Hq.has g d)) (Gw O O O) O (JLm (I64 n) O (JLm (BL (Hq.has g d)) O (G6 (b0 (Jr fun b2=>(JLm (BL (Hq.has g d)) O (JLm (BL (Hq.has g d)) O (JLo (BL i.2.2) [] O .scf ø (fun hc=>G3 O O) O (JLo (BL (!i.2.2)) [69] O .scf ⟨Ua,ø⟩ (fun hc=>Y4 (b:=i.2.2) O O) O (JLh (BL ((Hq.has g d)||(!i.2.2))) (G17 O O O O) O (G6 (b2 (JCc O h (fun h hb=>?_) (fun h hb=>?_)))))))))))))))))
    ·
     refine Jr fun b3=>(JLm (.sc (.pointer none)) O (JLm (BL false) O (G6 (b3 (H0 ?_)))))
     cases h
    ·
     refine Gk (a9 (G1 (JLm (.ptr 1102 0) O (JLh (.ptr 1102 0) (Ga1 O O) O (JLh (.ptr 1102 3) (Hs G38 O O) O (JLh (.mp 1103) (Ht G4f O O O O) O (JLm (I64 d) O (JLm (E7 e) O (Jb (u:=.junk) (H1e (m:=g) (a:=d) (v:=(e:Int)) (fun _=>O) O O O O O O Jb1 G37) (G6 (a5 (G1 (JLh (I64 ((e+1:Nat):Int)) (Hz (Hi p c8) O O O) O (JLm (I64 ((e+1:Nat):Int)) O (G6 (d0 _ _ (e+1) (Hq.put g d (e:Int)) (app1 a4 h) (by omega) ⟨(.sm O O),⟨fmQ O,⟨_,rfl,.same⟩,fbQ O (.sm O O),ø⟩,rfl⟩))))))))))))))))
   ·
    have h:=app1 t (Hx o (Hc hb))
    refine Hd (c6 (Jr fun b4=>(JLm (.ptr 1102 0) O (JLm (.ptr 1102 0) O (JLm (BL true) O (G6 (b4 (R0 (l':=[(4,.ptr 1102 0),(5,BL true)]) (L':=[(1103,TP 122 Eh I64 g),(1102,.box 125 [LS 1 (E1) c.1,I64 c.2.1,E1 c.2.2.1,.mp 1103,E4 c.2.2.2.1,I64 c.2.2.2.2])]) ⟨(.sm O O),⟨⟨_,O,.map⟩,⟨_,O,.boxL O ⟨.list O,.same O,.same O,.same O,.same O,.same O,ø⟩⟩,ø⟩,O⟩ (H0 ?_)))))))))
    obtain rfl:=Ez h
    exact⟨[.ptr 1102 0,BL true],[(1102,.box 125 [LS 1 (E1) c.1,I64 c.2.1,E1 c.2.2.1,.mp 1103,E4 c.2.2.2.1,I64 c.2.2.2.2]),(1103,TP 122 Eh I64 g)],⟨fbQ O (.sm O O),fmQ O,ø⟩,rfl,⟨⟨_,rfl,.conv (.same rfl)⟩,⟨_,rfl,.conv (.same rfl)⟩,ø⟩,rfl,rfl⟩

def Yn (y:Gh) (order:List Int):Option Bool:=
 bnd (G05 y) fun j=>
 bif (!j) then
 (some false)
 else
 (each (fun i l (a:(List (List Int))×Int×(List Int)×(List Gy)×Int) f=>
   bnd (Y0 i) fun d=>
   need (decide ((a.1.length+[d].length)*24≤140737488355328∧a.1.length+[d].length≤maxLen)) <|
   f ((a.1++[d]),a.2.1,a.2.2.1,a.2.2.2.1,a.2.2.2.2))
  (fun(a:(List (List Int))×Int×(List Int)×(List Gy)×Int)=>
   each (fun b g (c:(Hq Int Int)) e=>
    bnd (G06 y b) fun h=>
    bnd (some (Hq.get c b 0)) fun k=>
    bif ((Hq.has c b)||(!h.2.2)) then
    (some false)
    else
    (e (Hq.put c b (g:Int))))
   (fun(c:(Hq Int Int))=>
    none) order 0 (Hq.empty:Hq Int Int)) y.Stacks 0 ([],y.Height,order,[],0))
abbrev Ea (a:(List (List Int))×Int×(List Int)×(List Gy)×Int):List AV:=[OW 1095 1 (E1) a.1,I64 a.2.1,E1 a.2.2.1,.mp 1103,E4 a.2.2.2.1,I64 a.2.2.2.2]
theorem H47 (y:Gh) (order:List Int) (r:Bool) (h:Yn y order=some r):Pure E8 57 [.agg [LS 1 (E1) y.Stacks,I64 y.Height],E1 order] (·=.tup [.sc (.pointer none),BL r]):=by
 unfold Yn at h
 refine Hj [.tmp 4,.tmp 5] Tryz.func57 O O (Jr fun d1=>(JLh (.ptr 1094 0) (Qw (cs:=[LS 1 (E1) y.Stacks,I64 y.Height]) 1094 O O O O O) O (JLm (.sc (.pointer none)) O (JLm (BL false) O (G6 (d1 (H7 [(1,E1 order),(2,.dptr [LS 1 (E1) y.Stacks,I64 y.Height])] [] 1094 rfl rfl rfl ø rfl (by exact⟨.conv (.same rfl),.ptr,ø⟩) (Js fun d2=>Jr fun d3=>(JLh (.agg [LS 1 (E1) y.Stacks,I64 y.Height]) (Gt Hf O O O) O ?_)))))))))
 obtain⟨w,d4,h⟩:=Gd h
 refine JLh (BL w) (Gu O (G78 y w d4) J06 ⟨O,O,ø⟩) O (JLh (BL (!w)) (Y4 (b:=w) O O) O (G6 (d3 (JCc O h (fun h hb=>?_) (fun h hb=>?_)))))
 ·
  refine Jr fun d5=>(JLm (.sc (.pointer none)) O (JLm (BL false) O (G6 (d5 (H0 (⟨[.sc (.pointer none),BL false],[],ø,O,⟨⟨_,O,.conv (.same O)⟩,⟨_,O,.conv (.same O)⟩,ø⟩,O,congrArg (fun r:Bool=>(.tup [.sc (.pointer none),BL r]:AV)) (Ez h)⟩))))))
 ·
  refine Gk (d2 ?_)
  refine Jr fun d6=>(JLh (.dptr [I64 y.Height]) (H1 Rt O O O) O (JLh (I64 y.Height) (Gr Gj O O O) O (JLm (E1 order) O (JLh (.mp 1103) (H96 1103 Eh I64 O O) O (JLh (.agg [.sc (.slice none 0 0),I64 y.Height,E1 order,.mp 1103,E4 ([]:List Gy),I64 0]) (Jf (cs:=[.sc (.slice none 0 0),I64 y.Height,E1 order,.mp 1103,E4 ([]:List Gy),I64 0]) [(0,1),(1,1),(2,1),(3,1),(4,1),(5,1)] [.sc (.slice none 0 0),I64 0,E1 ([]:List Int),.sc (.map none),E4 ([]:List Gy),I64 0] [.slice none 0 0,E0,.slice none 0 0,.map none,.slice none 0 0,E0] H6a He1 ⟨.inl O,.inl O,.inr ⟨_,O,O⟩,.inl O,.inr ⟨_,O,O⟩,.inl O,ø⟩ O O) O (JLh (.ptr 1102 0) (Qw (cs:=[.sc (.slice none 0 0),I64 y.Height,E1 order,.mp 1103,E4 ([]:List Gy),I64 0]) 1102 O O O O O) O ?_))))))
  refine H91 1102 0 1095 22 1 O O O (cs':=[OW 1095 1 (E1) ([]:List (List Int)),I64 y.Height,E1 order,.mp 1103,E4 ([]:List Gy),I64 0]) O (JLm (.ptr 1102 0) O (G6 (d6 (Js fun d7=>Jr fun d8=>(JLh (.dptr [LS 1 (E1) y.Stacks,I64 y.Height]) (H1 J8 O O O) O (JLh (LS 1 (E1) y.Stacks) (Gr Gv O O O) O (JLl Ge O O O fun b5=>(JLm (I64 0) O (G6 (d8 (Gf ?_)))))))))))
  obtain⟨d9,b6,b7,x,h⟩:=J7 h
  refine Ha (fun k (c:(List (List Int))×Int×(List Int)×(List Gy)×Int)=>each d9 b6 (List.drop k y.Stacks) k c=some r) (fun k c=>[(1,E1 order),(2,.dptr [LS 1 (E1) y.Stacks,I64 y.Height]),(6,.ptr 1102 0),(26,LS 1 (E1) y.Stacks),(27,E7 y.Stacks.length),(28,E7 k)]) (fun k c=>[(1103,TP 122 Eh I64 (Hq.empty:Hq Int Int)),(1095,.spare 22 1 c.1.length c.1.length),(1102,.box 125 (Ea c))]) (fun k=>y.Stacks.length - k) 0 ([],y.Height,order,[],0) h ⟨(.sm O O),⟨fmQ O,⟨_,rfl,.same⟩,fbQ O (.sm O O),ø⟩,rfl⟩ ?_
  clear h
  intro k c q e4 e0
  refine Jr fun b8=>(JLh (BL (decide ((k:Int) < (y.Stacks.length:Int)))) (J2 O O O) O (G6 (b8 (Js fun b9=>Gi O (fun hb=>?_) (fun hb=>?_)))))
  ·
   have s:=Jp hb
   obtain⟨l,e2,c0,c1,h⟩:=Hw q s
   replace h:=Yw b7 h
   refine Gk (b9 (Js fun c2=>Gf (Jr fun c3=>(JLh (.dptr [E1 l]) (Gz (f:=(E1)) (xs:=y.Stacks) (y:=l) O O O Ge c0 O) O (JLh (E1 l) (Gr H5 O O O) O (JLm (E1 l) O (G6 (c3 ?_))))))))
   refine R0 (l':=[(1,E1 order),(2,.dptr [LS 1 (E1) y.Stacks,I64 y.Height]),(6,.ptr 1102 0),(8,E1 l),(26,LS 1 (E1) y.Stacks),(27,E7 y.Stacks.length),(28,E7 k)]) (L':=[(1103,TP 122 Eh I64 (Hq.empty:Hq Int Int)),(1095,.spare 22 1 c.1.length c.1.length),(1102,.box 125 (Ea c))]) ⟨(.sm O O),⟨fmQ O,⟨_,rfl,.same⟩,fbQ O (.sm O O),ø⟩,rfl⟩ ?_
   obtain⟨j,c4,h⟩:=Gd h
   obtain⟨c5,h⟩:=Ho h
   refine Ju [8,11] [0,0,0,0,0,0,0,0,0,1,1,0] [1,0,0,0,0,0,0,0,0,1,1,0] [[(1103,TP 122 Eh I64 (Hq.empty:Hq Int Int)),(1095,.spare 22 1 c.1.length c.1.length),(1102,.box 125 (Ea c))],((1095,.spare 22 1 (c.1++[j]).length (c.1++[j]).length)::[(1103,TP 122 Eh I64 (Hq.empty:Hq Int Int)),(1095,.spare 22 1 c.1.length c.1.length),(1102,.box 125 (Ea c))]),((1102,.box 125 [OW 1095 1 (E1) (c.1++[j]),I64 c.2.1,E1 c.2.2.1,.mp 1103,E4 c.2.2.2.1,I64 c.2.2.2.2])::((1095,.spare 22 1 (c.1++[j]).length (c.1++[j]).length)::[(1103,TP 122 Eh I64 (Hq.empty:Hq Int Int)),(1095,.spare 22 1 c.1.length c.1.length),(1102,.box 125 (Ea c))]))] Jg (by kernel_rfl) rfl rfl ?_
   refine Gc (u:=.ptr 1102 0) O O ⟨Ga (G3 O O) O,Ga (G3 O O) O,ø⟩ (Gc (u:=.ptr 1102 0) O O ⟨Ga (G3 O O) O,ø⟩ (Gc (u:=.ptr 1102 0) O O ⟨Ga (Ga1 O O) O,ø⟩ (Gc (u:=.ptr 1102 0) O O ⟨Ga (Hs G39 O O) O,ø⟩ (Gc (u:=OW 1095 1 (E1) c.1) O O ⟨Ga (Ht Gv O O O O) O,ø⟩ (Gc (u:=E1 l) O O ⟨Ga (G3 O O) O,ø⟩ (Gc (u:=E1 j) O O ⟨Ga (Gu O (G9f l j c4) J04 ⟨O,O,ø⟩) O,ø⟩ (Gc (u:=LS 1 (E1) [j]) O O ⟨Ga (H4 (xs:=[E1 j]) O ⟨O,O,ø⟩ Ge Yu O O O O) O,ø⟩ (D_w (u:=OW 1095 1 (E1) (c.1++[j])) O O O O (Ga (R3 (f:=(E1)) (xs:=c.1) (ys:=[j]) O O O O Ge G3a c5 (fun _=>O) (.inl O) O) O) (Gc (u:=.ptr 1102 0) O O ⟨Ga (Ga1 O O) O,ø⟩ (Gc (u:=.ptr 1102 0) O O ⟨Ga (Hs G39 O O) O,ø⟩ (H2a (u:=.junk) O O O O (Ga (Hu (u:=OW 1095 1 (E1) (c.1++[j])) (ds:=[OW 1095 1 (E1) (c.1++[j]),I64 c.2.1,E1 c.2.2.1,.mp 1103,E4 c.2.2.2.1,I64 c.2.2.2.2]) Gb6 O O O O O O O O) O) (Rx ?_))))))))))))
   refine c2 (G1 (JLh (I64 ((k+1:Nat):Int)) (Hz (Hi s b5) O O O) O (JLm (I64 ((k+1:Nat):Int)) O (G6 (e0 _ _ (k+1) ((c.1++[j]),c.2.1,c.2.2.1,c.2.2.2.1,c.2.2.2.2) (app1 c1 h) (by omega) ⟨(.sm O O),⟨fmQ O,⟨_,rfl,.same⟩,fbQ O (.sm O O),ø⟩,rfl⟩)))))
  ·
   have h:=app1 x (Hx q (Hc hb))
   refine Hd (d7 (Js fun c6=>Jr fun c7=>(JLm (E1 order) O (JLl G8 O O O fun c8=>(JLm (I64 0) O (G6 (c7 (Gf ?_))))))))
   obtain⟨c9,z,a0,t,h⟩:=J7 h
   refine Ha (fun e (i:(Hq Int Int))=>each c9 z (List.drop e order) e i=some r) (fun e i=>[(2,.dptr [LS 1 (E1) y.Stacks,I64 y.Height]),(6,.ptr 1102 0),(44,E1 order),(45,E7 order.length),(46,E7 e)]) (fun e i=>[(1103,TP 122 Eh I64 i),(1095,.spare 22 1 c.1.length c.1.length),(1102,.box 125 (Ea c))]) (fun e=>order.length - e) 0 (Hq.empty:Hq Int Int) h ⟨(.sm O O),⟨fmQ O,⟨_,rfl,.same⟩,fbQ O (.sm O O),ø⟩,rfl⟩ ?_
   clear h
   intro e i o e3 d0
   refine Jr fun a1=>(JLh (BL (decide ((e:Int) < (order.length:Int)))) (J2 O O O) O (G6 (a1 (Js fun a2=>Gi O (fun hb=>?_) (fun hb=>?_)))))
   ·
    have p:=Jp hb
    obtain⟨d,e1,a3,a4,h⟩:=Hw o p
    replace h:=Yw a0 h
    refine Gk (a2 (Js fun a5=>Gf (Jr fun a6=>(JLm (E7 e) O (JLh (.dptr [I64 d]) (Gz (f:=I64) (xs:=order) (y:=d) O O O G8 a3 O) O (JLh (I64 d) (Gr Gj O O O) O (JLm (E7 e) O (JLm (I64 d) O (G6 (a6 (Jr fun a7=>(JLh (.agg [LS 1 (E1) y.Stacks,I64 y.Height]) (Gt Hf O O O) O (JLm (I64 d) O ?_)))))))))))))
    obtain⟨g,a8,h⟩:=Gd h
    refine JLh (.tup [I64 g.1,I64 g.2.1,BL g.2.2]) (Gu O (Ge7 y d g a8) H78 ⟨O,O,O,O,ø⟩) O (JLm (.tup [I64 g.1,I64 g.2.1,BL g.2.2]) O (JLh (I64 g.1) (Gw O O O) O (JLh (I64 g.2.1) (Gw O O O) O (JLh (BL g.2.2) (Gw O O O) O (JLm (I64 g.1) O (JLm (I64 g.2.1) O (JLm (BL g.2.2) O (G6 (a7 (Js fun a9=>Jr fun b0=>(JLm (.ptr 1102 0) O (JLh (.ptr 1102 0) (Ga1 O O) O (JLh (.ptr 1102 3) (Hs G38 O O) O (JLh (.mp 1103) (Ht G4f O O O O) O (JLm (I64 d) O ?_)))))))))))))))
    obtain⟨n,b1,h⟩:=Gd h
    refine JLh (.tup [I64 n,BL (Hq.has i d)]) (((Ez b1) ▸ H97 (av:=I64) (m:=i) (a:=d) 0 E0 (fun _=>O) O (.own O) O Jb1 G37 H4a O)) O (JLm (.tup [I64 n,BL (Hq.has i d)]) O (JLh (I64 n) (Gw O O O) O (JLh (BL (Hq.has i d)) (Gw O O O) O (JLm (I64 n) O (JLm (BL (Hq.has i d)) O (G6 (b0 (Jr fun b2=>(JLm (BL (Hq.has i d)) O (JLm (BL (Hq.has i d)) O (JLo (BL g.2.2) [] O .scf ø (fun hc=>G3 O O) O (JLo (BL (!g.2.2)) [69] O .scf ⟨Ua,ø⟩ (fun hc=>Y4 (b:=g.2.2) O O) O (JLh (BL ((Hq.has i d)||(!g.2.2))) (G17 O O O O) O (G6 (b2 (JCc O h (fun h hb=>?_) (fun h hb=>?_)))))))))))))))))
    ·
     refine Jr fun b3=>(JLm (.sc (.pointer none)) O (JLm (BL false) O (G6 (b3 (H0 (⟨[.sc (.pointer none),BL false],[],ø,O,⟨⟨_,O,.conv (.same O)⟩,⟨_,O,.conv (.same O)⟩,ø⟩,O,congrArg (fun r:Bool=>(.tup [.sc (.pointer none),BL r]:AV)) (Ez h)⟩))))))
    ·
     refine Gk (a9 (G1 (JLm (.ptr 1102 0) O (JLh (.ptr 1102 0) (Ga1 O O) O (JLh (.ptr 1102 3) (Hs G38 O O) O (JLh (.mp 1103) (Ht G4f O O O O) O (JLm (I64 d) O (JLm (E7 e) O (Jb (u:=.junk) (H1e (m:=i) (a:=d) (v:=(e:Int)) (fun _=>O) O O O O O O Jb1 G37) (G6 (a5 (G1 (JLh (I64 ((e+1:Nat):Int)) (Hz (Hi p c8) O O O) O (JLm (I64 ((e+1:Nat):Int)) O (G6 (d0 _ _ (e+1) (Hq.put i d (e:Int)) (app1 a4 h) (by omega) ⟨(.sm O O),⟨fmQ O,⟨_,rfl,.same⟩,fbQ O (.sm O O),ø⟩,rfl⟩))))))))))))))))
   ·
    have h:=app1 t (Hx o (Hc hb))
    refine Hd (c6 (Jr fun b4=>(JLm (.ptr 1102 0) O (JLm (.ptr 1102 0) O (JLm (BL true) O (G6 (b4 (R0 (l':=[(4,.ptr 1102 0),(5,BL true)]) (L':=[(1103,TP 122 Eh I64 i),(1102,.box 125 [LS 1 (E1) c.1,I64 c.2.1,E1 c.2.2.1,.mp 1103,E4 c.2.2.2.1,I64 c.2.2.2.2])]) ⟨(.sm O O),⟨⟨_,O,.map⟩,⟨_,O,.boxL O ⟨.list O,.same O,.same O,.same O,.same O,.same O,ø⟩⟩,ø⟩,O⟩ (H0 ?_)))))))))
    cases h

def Z8 (j:Hr) (box:Int):Option Int:=
 bnd (some (Hq.get j.ranks box 0)) fun a=>
 bif (Hq.has j.ranks box) then
 (some a)
 else
 (some (j.order.length:Int))
theorem H28 (j:Hr) (box:Int) (r:Int) (h:Z8 j box=some r):Pure E8 73 [.dptr (Hr.cs j),I64 box] (·=I64 r):=by
 unfold Z8 at h
 refine Hj [.tmp 4] Tryz.func73 O O (Jr fun c=>(JLm (I64 0) O (G6 (c (Js fun d=>Jr fun e=>(JLm (E6 j) O (JLh (E6 j) (H49 O O) O (JLh (.dptr ((Hr.cs j).drop 3)) (H1 G38 O O O) O (JLh (DM Eh I64 j.ranks) (Gr G4f O O O) O (JLm (I64 box) O ?_))))))))))
 obtain⟨b,f,h⟩:=Gd h
 refine JLh (.tup [I64 b,BL (Hq.has j.ranks box)]) (((Ez f) ▸ H97 (av:=I64) (m:=j.ranks) (a:=box) 0 E0 (fun _=>O) O .data O Jb1 G37 H4a O)) O (JLm (.tup [I64 b,BL (Hq.has j.ranks box)]) O (JLh (I64 b) (Gw O O O) O (JLh (BL (Hq.has j.ranks box)) (Gw O O O) O (JLm (I64 b) O (JLm (BL (Hq.has j.ranks box)) O (G6 (e (Jr fun g=>(JLm (BL (Hq.has j.ranks box)) O (G6 (g (JCc O h (fun h hb=>?_) (fun h hb=>?_)))))))))))))
 ·
  refine Jr fun i=>(JLm (I64 b) O (JLm (I64 b) O (G6 (i (H0 (fin1 I64 h))))))
 ·
  refine Gk (d (Jr fun k=>(JLm (E6 j) O (JLh (E6 j) (H49 O O) O (JLh (.dptr ((Hr.cs j).drop 2)) (H1 H2f O O O) O (JLh (E1 j.order) (Gr H5 O O O) O (JLl G8 O O O fun l=>(JLm (E7 j.order.length) O (G6 (k (H0 (fin1 I64 h))))))))))))

def Zo (j:Hr):Option Int:=
 each (fun k m (e:Int) g=>
  each (fun h l (a:Int×Int) f=>
   jp (fun b=>
    bnd (Z8 j h) fun c=>
    bif decide (a.2 < c) then
    (chk (a.1+1) fun i=>
     b (i,a.2))
    else
    (b (a.1,c))) fun(d:Int×Int)=>
   f (d.1,d.2))
  (fun(a:Int×Int)=>
   g a.1) k 0 (e,(j.order.length:Int)))
 (fun(e:Int)=>
  some e) j.stacks 0 0
theorem H46 (j:Hr) (r:Int) (h:Zo j=some r):Pure E8 58 [.dptr (Hr.cs j)] (·=I64 r):=by
 unfold Zo at h
 refine Hj [.tmp 2] Tryz.func58 O O (Jr fun b2=>(JLm (I64 0) O (G6 (b2 (Jr fun b3=>(JLm (I64 0) O (G6 (b3 (Js fun b4=>Jr fun b6=>(JLm (E6 j) O (JLh (E6 j) (H49 O O) O (JLh (E6 j) (H1 G39 O O O) O (JLh (LS 1 (E1) j.stacks) (Gr Gv O O O) O (JLl Ge O O O fun t=>(JLm (I64 0) O (G6 (b6 (Gf ?_))))))))))))))))))
 obtain⟨b5,b7,b8,u,h⟩:=J7 h
 refine Ha (fun c (k:Int)=>each b5 b7 (List.drop c j.stacks) c k=some r) (fun c k=>[(0,E6 j),(3,I64 k),(13,LS 1 (E1) j.stacks),(14,E7 j.stacks.length),(15,E7 c)]) (fun c k=>[]) (fun c=>j.stacks.length - c) 0 0 h ⟨(.sm O O),ø,rfl⟩ ?_
 clear h
 intro c k q K5 e5
 refine Jr fun b9=>(JLh (BL (decide ((c:Int) < (j.stacks.length:Int)))) (J2 O O O) O (G6 (b9 (Js fun c0=>Gi O (fun hb=>?_) (fun hb=>?_)))))
 ·
  have s:=Jp hb
  obtain⟨d,d1,c1,c2,h⟩:=Hw q s
  replace h:=Yw b8 h
  refine Gk (c0 (Js fun c3=>Gf (Jr fun c4=>(JLh (.dptr [E1 d]) (Gz (f:=(E1)) (xs:=j.stacks) (y:=d) O O O Ge c1 O) O (JLh (E1 d) (Gr H5 O O O) O (JLm (E1 d) O (G6 (c4 (Jr fun v=>(JLm (E6 j) O (JLh (E6 j) (H49 O O) O (JLh (.dptr ((Hr.cs j).drop 2)) (H1 H2f O O O) O (JLh (E1 j.order) (Gr H5 O O O) O (JLl G8 O O O fun c9=>(JLm (E7 j.order.length) O (G6 (v (Jr fun w=>(JLm (E1 d) O (JLl G8 O O O fun x=>(JLm (I64 0) O (G6 (w (Gf ?_))))))))))))))))))))))))
  obtain⟨c5,z,a0,o,h⟩:=J7 h
  refine Ha (fun a (b:Int×Int)=>each c5 z (List.drop a d) a b=some r) (fun a b=>[(0,E6 j),(3,I64 b.1),(6,I64 b.2),(13,LS 1 (E1) j.stacks),(14,E7 j.stacks.length),(15,E7 c),(24,E1 d),(25,E7 d.length),(26,E7 a)]) (fun a b=>[]) (fun a=>d.length - a) 0 (k,(j.order.length:Int)) h ⟨(.sm O O),ø,rfl⟩ ?_
  clear h
  intro a b l d2 c6
  refine Jr fun a1=>(JLh (BL (decide ((a:Int) < (d.length:Int)))) (J2 O O O) O (G6 (a1 (Js fun a2=>Gi O (fun hb=>?_) (fun hb=>?_)))))
  ·
   have m:=Jp hb
   obtain⟨i,d0,a3,a4,h⟩:=Hw l m
   replace h:=Yw a0 h
   refine Gk (a2 ?_)
   obtain⟨a5,p,h⟩:=G23 h
   refine Zr (fun e:Int×Int=>a5 e=some r) (fun e=>[(0,E6 j),(3,I64 e.1),(6,I64 e.2),(13,LS 1 (E1) j.stacks),(14,E7 j.stacks.length),(15,E7 c),(24,E1 d),(25,E7 d.length),(26,E7 a)]) (fun e=>[]) (fun Kj33 ej33=>?_) ?_
   ·
    refine Gf (Jr fun a6=>(JLh (.dptr [I64 i]) (Gz (f:=I64) (xs:=d) (y:=i) O O O G8 a3 O) O (JLh (I64 i) (Gr Gj O O O) O (JLm (I64 i) O (G6 (a6 (Jr fun a7=>(JLm (E6 j) O (JLm (I64 i) O ?_)))))))))
    obtain⟨g,a8,h⟩:=Gd h
    refine JLh (I64 g) (Gu O (H28 j i g a8) Q06 ⟨O,O,O,O,ø⟩) O (JLm (I64 g) O (G6 (a7 (Jr fun a9=>(JLm (I64 g) O (JLm (I64 b.2) O (JLh (BL (decide (b.2 < g))) (G08 O O O) O (G6 (a9 (JCc O h (fun h hb=>?_) (fun h hb=>?_)))))))))))
    ·
     refine G1 (JLm (I64 b.1) O ?_)
     obtain⟨n,b0,h⟩:=Je h
     refine JLh (I64 n) (Hz b0 O O O) O (JLm (I64 n) O (G6 (ej33 _ _ (n,b.2) h ⟨(.sm O O),ø,rfl⟩)))
    ·
     refine G1 (JLm (I64 g) O (JLm (I64 g) O (G6 (ej33 _ _ (b.1,g) h ⟨(.sm O O),ø,rfl⟩))))
   ·intro e h
    replace h:=app1 p h
    refine G1 (JLh (I64 ((a+1:Nat):Int)) (Hz (Hi m x) O O O) O (JLm (I64 ((a+1:Nat):Int)) O (G6 (c6 _ _ (a+1) (e.1,e.2) (app1 a4 h) (by omega) ⟨(.sm O O),ø,rfl⟩))))
  ·
   have h:=app1 o (Hx l (Hc hb))
   refine Hd (c3 (G1 (JLh (I64 ((c+1:Nat):Int)) (Hz (Hi s t) O O O) O (JLm (I64 ((c+1:Nat):Int)) O (G6 (e5 _ _ (c+1) b.1 (app1 c2 h) (by omega) ⟨(.sm O O),ø,rfl⟩))))))
 ·
  have h:=app1 u (Hx q (Hc hb))
  refine Hd (b4 (Jr fun b1=>(JLm (I64 k) O (JLm (I64 k) O (G6 (b1 (H0 (fin1 I64 h))))))))

def Rb (y:Gh) (order:List Int):Option (Int×Int):=
 bif (Qu y order).isSome then
 (bnd (Qu y order) fun a=>
  bif (!a.2) then
  (some (0,2))
  else
  (bnd (Zo a.1) fun c=>
   some (c,0)))
 else
 (bnd (Yn y order) fun b=>
  bif (!b) then
  (some (0,2))
  else
  (none))
theorem Zp (y:Gh) (order:List Int) (r:Int×Int) (h:Rb y order=some r):Pure E8 31 [.agg [LS 1 (E1) y.Stacks,I64 y.Height],E1 order] (·=.tup [I64 r.1,I64 r.2]):=by
 unfold Rb at h
 refine Hj [.tmp 4,.tmp 5] Tryz.func31 O O (Jr fun l=>(JLh (.ptr 1066 0) (Qw (cs:=[LS 1 (E1) y.Stacks,I64 y.Height]) 1066 O O O O O) O (JLm (I64 0) O (JLm (I64 0) O (G6 (l (H7 [(1,E1 order),(2,.dptr [LS 1 (E1) y.Stacks,I64 y.Height])] [] 1066 rfl rfl rfl ø rfl (by exact⟨.conv (.same rfl),.ptr,ø⟩) (Jr fun f=>(JLh (.agg [LS 1 (E1) y.Stacks,I64 y.Height]) (Gt Hf O O O) O (JLm (E1 order) O ((Bool.eq_false_or_eq_true (Qu y order).isSome).elim (fun d=>?_) (fun d=>?_))))))))))))
 ·
  replace h:=H6 d h
  obtain⟨a,m,h⟩:=Gd h
  refine JLh (.tup [.ptr 1102 0,BL a.2]) (H63 (args:=[.agg [LS 1 (E1) y.Stacks,I64 y.Height],E1 order]) (L0:=[]) (Lr:=[(1102,.box 125 [LS 1 (E1) a.1.stacks,I64 a.1.height,E1 a.1.order,.mp 1103,E4 a.1.steps,I64 a.1.next]),(1103,TP 122 Eh I64 a.1.ranks)]) O (H8f y order a m) J0a ⟨.inl O,O,.inl O,O,ø⟩ ø O O O) O (JLm (.tup [.ptr 1102 0,BL a.2]) O (JLh (.ptr 1102 0) (Gw O O O) O (JLh (BL a.2) (Gw O O O) O (JLm (.ptr 1102 0) O (JLm (BL a.2) O (G6 (f (Js fun n=>Jr fun o=>(JLm (BL a.2) O (JLh (BL (!a.2)) (Y4 (b:=a.2) O O) O (G6 (o (JCc O h (fun h hb=>?_) (fun h hb=>?_))))))))))))))
  ·
   refine Jr fun p=>(JLm (I64 0) O (JLm (I64 2) O (G6 (p (H0 (⟨[I64 0,I64 2],[],ø,O,⟨⟨_,O,.conv (.same O)⟩,⟨_,O,.conv (.same O)⟩,ø⟩,O,congrArg (fun r:Int×Int=>(.tup [I64 r.1,I64 r.2]:AV)) (Ez h)⟩))))))
  ·
   refine Gk (n (Jr fun q=>(JLm (.ptr 1102 0) O ?_)))
   obtain⟨e,s,h⟩:=Gd h
   refine JLh (I64 e) (Jf6 (args:=[.dptr (Hr.cs a.1)]) O (H46 a.1 e s) Q0a ⟨.ptrL O (dnQ 3 O O ⟨.mp O,.data O O,.data O O,ø⟩),ø⟩ O) O (JLm (I64 e) O (JLm (I64 0) O (G6 (q (H0 (⟨[I64 e,I64 0],[],ø,O,⟨⟨_,O,.conv (.same O)⟩,⟨_,O,.conv (.same O)⟩,ø⟩,O,congrArg (fun r:Int×Int=>(.tup [I64 r.1,I64 r.2]:AV)) (Ez h)⟩))))))
 ·
  replace h:=Hv d h
  obtain⟨c,g,h⟩:=Gd h
  refine JLh (.tup [.sc (.pointer none),BL c]) (Gu O (H47 y order c g) J0a ⟨O,O,O,O,ø⟩) O (JLm (.tup [.sc (.pointer none),BL c]) O (JLh (.sc (.pointer none)) (Gw O O O) O (JLh (BL c) (Gw O O O) O (JLm (.sc (.pointer none)) O (JLm (BL c) O (G6 (f (Js fun i=>Jr fun j=>(JLm (BL c) O (JLh (BL (!c)) (Y4 (b:=c) O O) O (G6 (j (JCc O h (fun h hb=>?_) (fun h hb=>?_))))))))))))))
  ·
   refine Jr fun k=>(JLm (I64 0) O (JLm (I64 2) O (G6 (k (H0 (⟨[I64 0,I64 2],[],ø,O,⟨⟨_,O,.conv (.same O)⟩,⟨_,O,.conv (.same O)⟩,ø⟩,O,congrArg (fun r:Int×Int=>(.tup [I64 r.1,I64 r.2]:AV)) (Ez h)⟩))))))
  ·
   refine Gk (i (Jr fun t=>(JLm (.sc (.pointer none)) O ?_)))
   cases h

def Jv (a:List G2) (b:List G2):Option Bool:=
 bif decide ((a.length:Int)≠(b.length:Int)) then
 (some false)
 else
 (each (fun d e (f:Unit) c=>
   Qx b (e:Int) fun g=>
   bif (!decide (d=g)) then
   (some false)
   else
   (c ()))
  (fun(f:Unit)=>
   some true) a 0 ())
theorem R2 (a:List G2) (b:List G2) (r:Bool) (h:Jv a b=some r):Pure E8 18 [E2 a,E2 b] (·=BL r):=by
 unfold Jv at h
 refine Hj [.tmp 4] Tryz.func18 O O (Jr fun a0=>(JLm (BL false) O (G6 (a0 (Js fun a1=>Jr fun a2=>(JLm (E2 a) O (JLl Hk O O O fun a9=>(JLm (E2 b) O (JLl Hk O O O fun b0=>(JLh (BL (decide ((a.length:Int)≠(b.length:Int)))) (G1c O O O) O (G6 (a2 (JCc O h (fun h hb=>?_) (fun h hb=>?_))))))))))))))
 ·
  refine Jr fun a3=>(JLm (BL false) O (G6 (a3 (H0 (fin1 BL h)))))
 ·
  refine Gk (a1 (Js fun a4=>Jr fun a5=>(JLm (I64 0) O (G6 (a5 (Gf ?_))))))
  obtain⟨a6,l,m,k,h⟩:=J7 h
  refine Ha (fun c (g:Unit)=>each a6 l (List.drop c a) c g=some r) (fun c g=>[(0,E2 a),(1,E2 b),(5,E7 c)]) (fun c g=>[]) (fun c=>a.length - c) 0 () h ⟨(.sm O O),ø,O⟩ ?_
  clear h
  intro c g i b1 a7
  refine Js fun n=>Jr fun o=>(JLm (E7 c) O (JLm (E2 a) O (JLl Hk O O O fun p=>(JLh (BL (decide ((c:Int) < (a.length:Int)))) (J2 O O O) O (G6 (o (Gi O (fun hb=>?_) (fun hb=>?_))))))))
  ·
   have j:=Jp hb
   obtain⟨d,a8,q,s,h⟩:=Hw i j
   replace h:=Yw m h
   refine Gk (n (Js fun t=>Gf (Js fun u=>?_)))
   obtain⟨b2,e,v,w,h⟩:=Rf h
   refine JC_d0 Jg (by kernel_rfl) (Dq (E2 a) (G3 O O) O (Dq (E7 c) (G3 O O) O (Dq (.dptr [I64 d.From,I64 d.To]) (Gz (f:=G2.av) (xs:=a) (y:=d) O O O Hk q O) O (Dq (.agg [I64 d.From,I64 d.To]) (Gt G61 O O O) O (Dq (E2 b) (G3 O O) O (Dq (E7 c) (G3 O O) O (Dq (.dptr [I64 e.From,I64 e.To]) (Gz (f:=G2.av) (xs:=b) (y:=e) O O O Hk w v) O (Dq (.agg [I64 e.From,I64 e.To]) (Gt G61 O O O) O (Dq (BL (!decide (d=e))) (R49 (vs:=[.int .i64 d.From,.int .i64 d.To]) (us:=[.int .i64 e.From,.int .i64 e.To]) 4 O (Rc5 d e) Jb6 Q8b O O O) O (Dnil (u (JCc O h (fun h hb=>?_) (fun h hb=>?_)))))))))))))
   ·
    refine Jr fun x=>(JLm (BL false) O (G6 (x (H0 (fin1 BL h)))))
   ·
    refine Gk (t (G1 (JLm (E7 c) O (JLh (I64 ((c+1:Nat):Int)) (Hz (Hi j p) O O O) O (JLm (I64 ((c+1:Nat):Int)) O (G6 (a7 _ _ (c+1) () (app1 s h) (by omega) ⟨(.sm O O),ø,rfl⟩)))))))
  ·
   have h:=app1 k (Hx i (Hc hb))
   refine Hd (a4 (Jr fun z=>(JLm (BL true) O (G6 (z (H0 (fin1 BL h)))))))

def Zk (y:Gh) (order:List Int):Option (Bool×Int):=
 bnd (Rb y order) fun a=>
 some (((decide (a.2=0))&&(decide (a.1=0))),a.2)
theorem H90 (y:Gh) (order:List Int) (r:Bool×Int) (h:Zk y order=some r):Pure E8 12 [.agg [LS 1 (E1) y.Stacks,I64 y.Height],E1 order] (·=.tup [BL r.1,I64 r.2]):=by
 unfold Zk at h
 refine Hj [.tmp 4,.tmp 5] Tryz.func12 O O (Jr fun b=>(JLh (.ptr 1026 0) (Qw (cs:=[LS 1 (E1) y.Stacks,I64 y.Height]) 1026 O O O O O) O (JLm (BL false) O (JLm (I64 0) O (G6 (b (H7 [(1,E1 order),(2,.dptr [LS 1 (E1) y.Stacks,I64 y.Height])] [] 1026 rfl rfl rfl ø rfl (by exact⟨.conv (.same rfl),.ptr,ø⟩) (Jr fun c=>(JLh (.agg [LS 1 (E1) y.Stacks,I64 y.Height]) (Gt Hf O O O) O (JLm (E1 order) O ?_))))))))))
 obtain⟨a,d,h⟩:=Gd h
 refine JLh (.tup [I64 a.1,I64 a.2]) (Gu O (Zp y order a d) Gb7 ⟨O,O,O,O,ø⟩) O (JLm (.tup [I64 a.1,I64 a.2]) O (JLh (I64 a.1) (Gw O O O) O (JLh (I64 a.2) (Gw O O O) O (JLm (I64 a.1) O (JLm (I64 a.2) O (G6 (c (Jr fun e=>(JLm (I64 a.2) O (JLh (BL (decide (a.2=0))) (Yx O O O) O (JLm (BL (decide (a.2=0))) O (JLo (I64 a.1) [] O .sct ø (fun hc=>G3 O O) O (JLo (BL (decide (a.1=0))) [17] O .sct ⟨Ua,ø⟩ (fun hc=>Yx O O O) O (JLh (BL ((decide (a.2=0))&&(decide (a.1=0)))) (Yy O O O O) O (JLm (I64 a.2) O (JLm (BL ((decide (a.2=0))&&(decide (a.1=0)))) O (JLm (I64 a.2) O (G6 (e (H0 ?_))))))))))))))))))))
 exact⟨[BL ((decide (a.2=0))&&(decide (a.1=0))),I64 a.2],[],ø,O,⟨⟨_,O,.conv (.same O)⟩,⟨_,O,.conv (.same O)⟩,ø⟩,O,congrArg (fun r:Bool×Int=>(.tup [BL r.1,I64 r.2]:AV)) (Ez h)⟩

def Q6 (order:List Int) (box:Int):Option Int:=
 bnd (Rz order box) fun a=>
 bif decide (0≤a) then
 (some a)
 else
 (some (order.length:Int))
theorem Ya (order:List Int) (box:Int) (r:Int) (h:Q6 order box=some r):Pure E8 37 [E1 order,I64 box] (·=I64 r):=by
 unfold Q6 at h
 refine Hj [.tmp 4] Tryz.func37 O O (Jr fun b=>(JLm (I64 0) O (G6 (b (Js fun c=>Jr fun d=>(JLm (E1 order) O (JLm (I64 box) O ?_)))))))
 obtain⟨a,e,h⟩:=Gd h
 refine JLh (I64 a) (Gu O (G9e order box a e) J07 ⟨O,O,O,O,ø⟩) O (JLm (I64 a) O (G6 (d (Jr fun f=>(JLm (I64 a) O (JLh (BL (decide (0≤a))) (G6b O O O) O (G6 (f (JCc O h (fun h hb=>?_) (fun h hb=>?_))))))))))
 ·
  refine Jr fun g=>(JLm (I64 a) O (JLm (I64 a) O (G6 (g (H0 (fin1 I64 h))))))
 ·
  refine Gk (c (Jr fun i=>(JLm (E1 order) O (JLl G8 O O O fun j=>(JLm (E7 order.length) O (G6 (i (H0 (fin1 I64 h)))))))))

def Ru (y:Gh) (order:List Int):Option (List Int):=
 each (fun j l (e:(List Int)) g=>
  each (fun b k (a:Int×(List Int)) f=>
   bnd (Q6 order b) fun d=>
   jp (fun c=>
    bif decide (a.1 < d) then
    (need (decide ((a.2.length+[b].length)*8≤140737488355328∧a.2.length+[b].length≤maxLen)) <|
     c (a.2++[b]))
    else
    (c a.2)) fun(h:(List Int))=>
   f ((min a.1 d),h))
  (fun(a:Int×(List Int))=>
   g a.2) j 0 ((order.length:Int),e))
 (fun(e:(List Int))=>
  bnd (J13 e) fun i=>
  some i) y.Stacks 0 []
theorem H22 (y:Gh) (order:List Int) (r:(List Int)) (h:Ru y order=some r):Pure E8 32 [.agg [LS 1 (E1) y.Stacks,I64 y.Height],E1 order] (·=E1 r):=by
 unfold Ru at h
 refine Hj [.tmp 4] Tryz.func32 O O (Jr fun b4=>(JLh (.ptr 1067 0) (Qw (cs:=[LS 1 (E1) y.Stacks,I64 y.Height]) 1067 O O O O O) O (JLh (E1 ([]:List Int)) (Jo 1 O O) O (G6 (b4 (H7 [(1,E1 order),(2,.dptr [LS 1 (E1) y.Stacks,I64 y.Height])] [] 1067 rfl rfl rfl ø rfl (by exact⟨.conv (.same rfl),.ptr,ø⟩) (Jr fun b6=>(JLh (.vec 1069 (([]:List Int).length) 1 (([]:List Int).length)) (H48 1069 3 1 O O O) O (G6 (b6 (Js fun b7=>Jr fun b8=>(JLh (.dptr [LS 1 (E1) y.Stacks,I64 y.Height]) (H1 J8 O O O) O (JLh (LS 1 (E1) y.Stacks) (Gr Gv O O O) O (JLl Ge O O O fun s=>(JLm (I64 0) O (G6 (b8 (Gf ?_))))))))))))))))))
 obtain⟨b5,b9,c0,t,h⟩:=J7 h
 refine Ha (fun g (d:(List Int))=>each b5 b9 (List.drop g y.Stacks) g d=some r) (fun g d=>[(1,E1 order),(5,.vec 1069 d.length 1 d.length),(13,LS 1 (E1) y.Stacks),(14,E7 y.Stacks.length),(15,E7 g)]) (fun g d=>[(1069,.vec 3 1 d.length (d.map I64))]) (fun g=>y.Stacks.length - g) 0 [] h ⟨(.sm O O),⟨⟨_,rfl,.vec⟩,ø⟩,rfl⟩ ?_
 clear h
 intro g d o K5 e5
 refine Jr fun c1=>(JLh (BL (decide ((g:Int) < (y.Stacks.length:Int)))) (J2 O O O) O (G6 (c1 (Js fun c2=>Gi O (fun hb=>?_) (fun hb=>?_)))))
 ·
  have p:=Jp hb
  obtain⟨j,d3,c3,c4,h⟩:=Hw o p
  replace h:=Yw c0 h
  refine Gk (c2 (Js fun c5=>Gf (Jr fun c6=>(JLh (.dptr [E1 j]) (Gz (f:=(E1)) (xs:=y.Stacks) (y:=j) O O O Ge c3 O) O (JLh (E1 j) (Gr H5 O O O) O (JLm (E1 j) O (G6 (c6 (Jr fun u=>(JLm (E1 order) O (JLl G8 O O O fun d1=>(JLm (E7 order.length) O (G6 (u (Jr fun v=>(JLm (E1 j) O (JLl G8 O O O fun w=>(JLm (I64 0) O (G6 (v (Gf ?_)))))))))))))))))))))
  obtain⟨c7,x,z,m,h⟩:=J7 h
  refine Ha (fun c (a:Int×(List Int))=>each c7 x (List.drop c j) c a=some r) (fun c a=>[(1,E1 order),(5,.vec 1069 a.2.length 1 a.2.length),(8,I64 a.1),(13,LS 1 (E1) y.Stacks),(14,E7 y.Stacks.length),(15,E7 g),(21,E1 j),(22,E7 j.length),(23,E7 c)]) (fun c a=>[(1069,.vec 3 1 a.2.length (a.2.map I64))]) (fun c=>j.length - c) 0 ((order.length:Int),d) h ⟨(.sm O O),⟨⟨_,rfl,.vec⟩,ø⟩,rfl⟩ ?_
  clear h
  intro c a k d4 c8
  refine Jr fun a0=>(JLh (BL (decide ((c:Int) < (j.length:Int)))) (J2 O O O) O (G6 (a0 (Js fun a1=>Gi O (fun hb=>?_) (fun hb=>?_)))))
  ·
   have l:=Jp hb
   obtain⟨b,d2,a2,a3,h⟩:=Hw k l
   replace h:=Yw z h
   refine Gk (a1 (Js fun a4=>Gf (Jr fun a5=>(JLh (.dptr [I64 b]) (Gz (f:=I64) (xs:=j) (y:=b) O O O G8 a2 O) O (JLh (I64 b) (Gr Gj O O O) O (JLm (I64 b) O (G6 (a5 (Jr fun a6=>(JLm (E1 order) O (JLm (I64 b) O ?_)))))))))))
   obtain⟨e,a7,h⟩:=Gd h
   refine JLh (I64 e) (Gu O (Ya order b e a7) G5b ⟨O,O,O,O,ø⟩) O (JLm (I64 e) O (G6 (a6 ?_)))
   obtain⟨a8,n,h⟩:=G23 h
   refine Zr (fun i:(List Int)=>a8 i=some r) (fun i=>[(1,E1 order),(5,.vec 1069 i.length 1 i.length),(8,I64 a.1),(11,I64 e),(13,LS 1 (E1) y.Stacks),(14,E7 y.Stacks.length),(15,E7 g),(21,E1 j),(22,E7 j.length),(23,E7 c)]) (fun i=>[(1069,.vec 3 1 i.length (i.map I64))]) (fun Kj67 ej67=>?_) ?_
   ·
    refine Jr fun a9=>(JLm (I64 e) O (JLm (I64 a.1) O (JLh (BL (decide (a.1 < e))) (G08 O O O) O (G6 (a9 (JCc O h (fun h hb=>?_) (fun h hb=>?_)))))))
    ·
     refine G1 (JLm (.vec 1069 a.2.length 1 a.2.length) O (JLm (I64 b) O (JLh (E1 [b]) (H4 (xs:=[I64 b]) O ⟨O,O,ø⟩ G8 J6 O O O O) O ?_)))
     obtain⟨b0,h⟩:=Ho h
     refine JLh (.vec 1069 ((a.2++[b]).length) 1 ((a.2++[b]).length)) (G5d (f:=I64) (xs:=a.2) (ys:=[b]) (ver:=a.2.length) (ver1:=(a.2++[b]).length) rfl rfl rfl rfl G8 Ro b0 (fun _=>rfl) (.inl rfl) (by simp)) O (JLm (.vec 1069 ((a.2++[b]).length) 1 ((a.2++[b]).length)) O (G6 (ej67 _ _ (a.2++[b]) h ⟨(.sm O O),⟨⟨_,rfl,.vec⟩,ø⟩,rfl⟩)))
    ·
     refine Gk (ej67 _ _ a.2 h ⟨(.sm O O),⟨⟨_,rfl,.vec⟩,ø⟩,rfl⟩)
   ·intro i h
    replace h:=app1 n h
    refine G1 (JLm (I64 a.1) O (JLm (I64 e) O (JLh (I64 (min a.1 e)) (Q86 O O O) O (JLm (I64 (min a.1 e)) O (G6 (a4 (G1 (JLh (I64 ((c+1:Nat):Int)) (Hz (Hi l w) O O O) O (JLm (I64 ((c+1:Nat):Int)) O (G6 (c8 _ _ (c+1) ((min a.1 e),i) (app1 a3 h) (by omega) ⟨(.sm O O),⟨⟨_,rfl,.vec⟩,ø⟩,rfl⟩)))))))))))
  ·
   have h:=app1 m (Hx k (Hc hb))
   refine Hd (c5 (G1 (JLh (I64 ((g+1:Nat):Int)) (Hz (Hi p s) O O O) O (JLm (I64 ((g+1:Nat):Int)) O (G6 (e5 _ _ (g+1) a.2 (app1 c4 h) (by omega) ⟨(.sm O O),⟨⟨_,rfl,.vec⟩,ø⟩,rfl⟩))))))
 ·
  have h:=app1 t (Hx o (Hc hb))
  refine Hd (b7 (Jr fun b1=>(JLm (.vec 1069 d.length 1 d.length) O ?_)))
  obtain⟨q,b2,h⟩:=Gd h
  refine JLh (.tup []) (Q83 (F:=59) (xs:=d) (r:=q) O He3 H9e J09 O O O b2 O) O (G6 (b1 (Jr fun b3=>(JLm (.vec 1069 d.length 1 d.length) O (JLm (.vec 1069 d.length 1 d.length) O (G6 (b3 (H1c [(4,E1 q)] [] 1069 rfl rfl ø rfl (by exact⟨.vec,ø⟩) (H0 (fin1 (fun r:(List Int)=>(E1 r:AV)) h))))))))))

def Zj (y:Gh) (order:List Int):Option ((List Int)×Int):=
 bnd (Rb y order) fun a=>
 bif decide (a.2≠0) then
 (some ([],a.2))
 else
 (bnd (Ru y order) fun b=>
  some (b,0))
theorem H23 (y:Gh) (order:List Int) (r:(List Int)×Int) (h:Zj y order=some r):Pure E8 14 [.agg [LS 1 (E1) y.Stacks,I64 y.Height],E1 order] (·=.tup [E1 r.1,I64 r.2]):=by
 unfold Zj at h
 refine Hj [.tmp 4,.tmp 5] Tryz.func14 O O (Jr fun c=>(JLh (.ptr 1028 0) (Qw (cs:=[LS 1 (E1) y.Stacks,I64 y.Height]) 1028 O O O O O) O (JLh (E1 ([]:List Int)) (Jo 1 O O) O (JLm (I64 0) O (G6 (c (H7 [(1,E1 order),(2,.dptr [LS 1 (E1) y.Stacks,I64 y.Height])] [] 1028 rfl rfl rfl ø rfl (by exact⟨.conv (.same rfl),.ptr,ø⟩) (Js fun d=>Jr fun e=>(JLh (.agg [LS 1 (E1) y.Stacks,I64 y.Height]) (Gt Hf O O O) O (JLm (E1 order) O ?_))))))))))
 obtain⟨a,f,h⟩:=Gd h
 refine JLh (.tup [I64 a.1,I64 a.2]) (Gu O (Zp y order a f) Gb7 ⟨O,O,O,O,ø⟩) O (JLm (.tup [I64 a.1,I64 a.2]) O (JLh (I64 a.1) (Gw O O O) O (JLh (I64 a.2) (Gw O O O) O (JLm (I64 a.1) O (JLm (I64 a.2) O (G6 (e (Jr fun g=>(JLm (I64 a.2) O (JLh (BL (decide (a.2≠0))) (G1c O O O) O (G6 (g (JCc O h (fun h hb=>?_) (fun h hb=>?_))))))))))))))
 ·
  refine Jr fun i=>(JLm (I64 a.2) O (JLh (E1 ([]:List Int)) (Jo 1 O O) O (JLm (I64 a.2) O (G6 (i (H0 (⟨[E1 ([]:List Int),I64 a.2],[],ø,O,⟨⟨_,O,.conv (.same O)⟩,⟨_,O,.conv (.same O)⟩,ø⟩,O,congrArg (fun r:(List Int)×Int=>(.tup [E1 r.1,I64 r.2]:AV)) (Ez h)⟩)))))))
 ·
  refine Gk (d (Jr fun j=>(JLh (.agg [LS 1 (E1) y.Stacks,I64 y.Height]) (Gt Hf O O O) O (JLm (E1 order) O ?_))))
  obtain⟨b,k,h⟩:=Gd h
  refine JLh (E1 b) (Gu O (H22 y order b k) H79 ⟨O,O,O,O,ø⟩) O (JLm (E1 b) O (JLm (I64 0) O (G6 (j (H0 (⟨[E1 b,I64 0],[],ø,O,⟨⟨_,O,.conv (.same O)⟩,⟨_,O,.conv (.same O)⟩,ø⟩,O,congrArg (fun r:(List Int)×Int=>(.tup [E1 r.1,I64 r.2]:AV)) (Ez h)⟩))))))

def R7 (y:Gh) (order:List Int) (from_:Int) (rank:Int):Option Int:=
 each (fun e f (a:Int×Int) g=>
  jp (fun c=>
   bif ((decide ((f:Int)=from_))||(decide ((e.length:Int)=y.Height))) then
   (c (a.1,a.2))
   else
   (chk ((order.length:Int)+1) fun h=>
    each (fun i l (b:Int) d=>
     bnd (Q6 order i) fun j=>
     d (min b j))
    (fun(b:Int)=>
     bif ((decide (rank≤b))&&((decide (a.1 < 0))||(decide (b < a.2)))) then
     (c ((f:Int),b))
     else
     (c (a.1,a.2))) e 0 h)) fun(k:Int×Int)=>
  g (k.1,k.2))
 (fun(a:Int×Int)=>
  some a.1) y.Stacks 0 ((-1),0)
theorem Hb7 (y:Gh) (order:List Int) (from_:Int) (rank:Int) (r:Int) (h:R7 y order from_ rank=some r):Pure E8 39 [.agg [LS 1 (E1) y.Stacks,I64 y.Height],E1 order,I64 from_,I64 rank] (·=I64 r):=by
 unfold R7 at h
 refine Hj [.tmp 8] Tryz.func39 O O (Jr fun b4=>(JLh (.ptr 1071 0) (Qw (cs:=[LS 1 (E1) y.Stacks,I64 y.Height]) 1071 O O O O O) O (JLm (I64 0) O (G6 (b4 (fzQ [(1,E1 order),(2,I64 from_),(3,I64 rank),(4,.dptr [LS 1 (E1) y.Stacks,I64 y.Height])] [] 1071 rfl rfl rfl ø rfl (Jr fun b6=>(JLm (I64 (-1)) O (JLm (I64 0) O (G6 (b6 (Js fun b7=>Jr fun b8=>(JLh (.dptr [LS 1 (E1) y.Stacks,I64 y.Height]) (H1 J8 O O O) O (JLh (LS 1 (E1) y.Stacks) (Gr Gv O O O) O (JLl Ge O O O fun q=>(JLm (I64 0) O (G6 (b8 (Gf ?_)))))))))))))))))))
 obtain⟨b5,b9,c0,s,h⟩:=J7 h
 refine Ha (fun b (c:Int×Int)=>each b5 b9 (List.drop b y.Stacks) b c=some r) (fun b c=>[(1,E1 order),(2,I64 from_),(3,I64 rank),(4,.dptr [LS 1 (E1) y.Stacks,I64 y.Height]),(9,I64 c.1),(10,I64 c.2),(17,LS 1 (E1) y.Stacks),(18,E7 y.Stacks.length),(19,E7 b)]) (fun b c=>[]) (fun b=>y.Stacks.length - b) 0 ((-1),0) h ⟨(.sm O O),ø,rfl⟩ ?_
 clear h
 intro b c o K5 e5
 refine Jr fun c1=>(JLh (BL (decide ((b:Int) < (y.Stacks.length:Int)))) (J2 O O O) O (G6 (c1 (Js fun c2=>Gi O (fun hb=>?_) (fun hb=>?_)))))
 ·
  have p:=Jp hb
  obtain⟨e,d3,c3,c4,h⟩:=Hw o p
  replace h:=Yw c0 h
  refine Gk (c2 ?_)
  obtain⟨c5,t,h⟩:=G23 h
  refine Zr (fun i:Int×Int=>c5 i=some r) (fun i=>[(1,E1 order),(2,I64 from_),(3,I64 rank),(4,.dptr [LS 1 (E1) y.Stacks,I64 y.Height]),(9,I64 i.1),(10,I64 i.2),(17,LS 1 (E1) y.Stacks),(18,E7 y.Stacks.length),(19,E7 b)]) (fun i=>[]) (fun Kj8 ej8=>?_) ?_
  ·
   refine Gf (Jr fun c6=>(JLm (E7 b) O (JLh (.dptr [E1 e]) (Gz (f:=(E1)) (xs:=y.Stacks) (y:=e) O O O Ge c3 O) O (JLh (E1 e) (Gr H5 O O O) O (JLm (E7 b) O (JLm (E1 e) O (G6 (c6 (Js fun v=>?_)))))))))
   refine Jr fun w=>(JLm (E7 b) O (JLm (I64 from_) O (JLh (BL (decide ((b:Int)=from_))) (Yx O O O) O (JLm (BL (decide ((b:Int)=from_))) O (JLo (E1 e) [] O .scf ø (fun hc=>G3 O O) O (JLo (E7 e.length) [28] O .scf ⟨Ua,ø⟩ (fun hc=>Re (f:=I64) (xs:=e) G8 O O) O (JLo (.dptr [I64 y.Height]) [] O .scf ø (fun hc=>H1 Rt O O O) O (JLo (I64 y.Height) [30] O .scf ⟨Ua,ø⟩ (fun hc=>Gr Gj O O O) O (JLo (BL (decide ((e.length:Int)=y.Height))) [29,31] O .scf ⟨Ua,Ua,ø⟩ (fun hc=>Yx O O O) O (JLh (BL ((decide ((b:Int)=from_))||(decide ((e.length:Int)=y.Height)))) (G17 O O O O) O (G6 (w (JCc O h (fun h hb=>?_) (fun h hb=>?_))))))))))))))
   ·
    refine Hd (ej8 _ _ (c.1,c.2) h ⟨(.sm O O),ø,rfl⟩)
   ·
    refine Gk (v (Jr fun x=>(JLm (E1 order) O (JLl G8 O O O fun d1=>?_))))
    obtain⟨k,z,h⟩:=Je h
    refine JLh (I64 k) (Hz z O O O) O (JLm (I64 k) O (G6 (x (Js fun a0=>Jr fun a1=>(JLm (E1 e) O (JLl G8 O O O fun a2=>(JLm (I64 0) O (G6 (a1 (Gf ?_))))))))))
    obtain⟨c7,a3,a4,n,h⟩:=J7 h
    refine Ha (fun d (a:Int)=>each c7 a3 (List.drop d e) d a=some r) (fun d a=>[(1,E1 order),(2,I64 from_),(3,I64 rank),(4,.dptr [LS 1 (E1) y.Stacks,I64 y.Height]),(9,I64 c.1),(10,I64 c.2),(11,E7 b),(13,I64 a),(17,LS 1 (E1) y.Stacks),(18,E7 y.Stacks.length),(19,E7 b),(37,E1 e),(38,E7 e.length),(39,E7 d)]) (fun d a=>[]) (fun d=>e.length - d) 0 k h ⟨(.sm O O),ø,rfl⟩ ?_
    clear h
    intro d a l d4 c8
    refine Jr fun a5=>(JLh (BL (decide ((d:Int) < (e.length:Int)))) (J2 O O O) O (G6 (a5 (Js fun a6=>Gi O (fun hb=>?_) (fun hb=>?_)))))
    ·
     have m:=Jp hb
     obtain⟨g,d2,a7,a8,h⟩:=Hw l m
     replace h:=Yw a4 h
     refine Gk (a6 (Js fun a9=>Gf (Jr fun b0=>(JLh (.dptr [I64 g]) (Gz (f:=I64) (xs:=e) (y:=g) O O O G8 a7 O) O (JLh (I64 g) (Gr Gj O O O) O (JLm (I64 g) O (G6 (b0 (G1 (JLm (I64 a) O (JLm (E1 order) O (JLm (I64 g) O ?_))))))))))))
     obtain⟨j,b1,h⟩:=Gd h
     refine JLh (I64 j) (Gu O (Ya order g j b1) G5b ⟨O,O,O,O,ø⟩) O (JLh (I64 (min a j)) (Q86 O O O) O (JLm (I64 (min a j)) O (G6 (a9 (G1 (JLh (I64 ((d+1:Nat):Int)) (Hz (Hi m a2) O O O) O (JLm (I64 ((d+1:Nat):Int)) O (G6 (c8 _ _ (d+1) (min a j) (app1 a8 h) (by omega) ⟨(.sm O O),ø,rfl⟩)))))))))
    ·
     have h:=app1 n (Hx l (Hc hb))
     refine Hd (a0 (Jr fun b2=>(JLm (I64 a) O (JLm (I64 rank) O (JLh (BL (decide (rank≤a))) (G6b O O O) O (JLm (BL (decide (rank≤a))) O (JLo (I64 c.1) [] O .sct ø (fun hc=>G3 O O) O (JLo (BL (decide (c.1 < 0))) [53] O .sct ⟨Ua,ø⟩ (fun hc=>J2 O O O) O (JLo (BL (decide (c.1 < 0))) [54] O .sct ⟨Ua,ø⟩ (fun hc=>G3 O O) O (JLo (I64 a) [] O .optf ø (fun hc=>G3 O O) O (JLo (I64 c.2) [] O .optf ø (fun hc=>G3 O O) O (JLo (BL (decide (a < c.2))) [56,57] O .optf ⟨Ua,Ua,ø⟩ (fun hc=>J2 O O O) O (Gm (u:=BL ((decide (c.1 < 0))||(decide (a < c.2)))) [(55,BL (decide (c.1 < 0))),(58,_)] O O O .sct ⟨.all id,.part,ø⟩ (fun hc=>G17 O O O O) ?_)))))))))))))
     refine JLh (BL ((decide (rank≤a))&&((decide (c.1 < 0))||(decide (a < c.2))))) (Yy O O O O) O (G6 (b2 (JCc O h (fun h hb=>?_) (fun h hb=>?_))))
     ·
      refine G1 (JLm (E7 b) O (JLm (I64 a) O (JLm (E7 b) O (JLm (I64 a) O (G6 (ej8 _ _ ((b:Int),a) h ⟨(.sm O O),ø,rfl⟩))))))
     ·
      refine Gk (ej8 _ _ (c.1,c.2) h ⟨(.sm O O),ø,rfl⟩)
  ·intro i h
   replace h:=app1 t h
   refine G1 (JLh (I64 ((b+1:Nat):Int)) (Hz (Hi p q) O O O) O (JLm (I64 ((b+1:Nat):Int)) O (G6 (e5 _ _ (b+1) (i.1,i.2) (app1 c4 h) (by omega) ⟨(.sm O O),ø,rfl⟩))))
 ·
  have h:=app1 s (Hx o (Hc hb))
  refine Hd (b7 (Jr fun b3=>(JLm (I64 c.1) O (JLm (I64 c.1) O (G6 (b3 (H0 (fin1 I64 h))))))))
end
end Go.Proofs.YtokjlondbjdlfaaGreat
