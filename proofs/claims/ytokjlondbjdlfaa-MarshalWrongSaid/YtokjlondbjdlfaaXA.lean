/- Walks of functions. -/
import Derived.Test.YtokjlondbjdlfaaSortLay
import Derived.Test.YtokjlondbjdlfaaIterD
import Derived.Test.YtokjlondbjdlfaaIterD
import Derived.Test.YtokjlondbjdlfaaIterD
import Derived.Test.YtokjlondbjdlfaaIterD
import Derived.Test.YtokjlondbjdlfaaIterD
import Derived.Test.YtokjlondbjdlfaaIterD
set_option maxRecDepth 100000
set_option maxHeartbeats 1000000
set_option linter.unusedVariables false
set_option linter.unusedSimpArgs false
namespace Go.Proofs.Ytokjlondbjdlfaa
open Go.RowKit
noncomputable section
abbrev E8:=Try.prog
structure Gn where
 Stacks:List (List Int)
 Height:Int
 deriving DecidableEq,Inhabited
def Gn.cs (x:Gn):List AV:=[LS 1 (E1) x.Stacks,I64 x.Height]
structure Gx where
 Box:Int
 From:Int
 To:Int
 deriving DecidableEq,Inhabited
def Gx.cs (x:Gx):List AV:=[I64 x.Box,I64 x.From,I64 x.To]
def Gx.av (x:Gx):AV:=.agg x.cs
abbrev E3:=LS 3 Gx.av
structure Hn where
 stacks:List (List Int)
 height:Int
 order:List Int
 ranks:Hk Int Int
 steps:List Gx
 next:Int
 deriving Inhabited
def Hn.cs (x:Hn):List AV:=[LS 1 (E1) x.stacks,I64 x.height,E1 x.order,DM Ef I64 x.ranks,E3 x.steps,I64 x.next]
abbrev E6 (x:Hn):AV:=.dptr (Hn.cs x)
structure G5 where
 From:Int
 To:Int
 deriving DecidableEq,Inhabited
def G5.cs (x:G5):List AV:=[I64 x.From,I64 x.To]
def G5.av (x:G5):AV:=.agg x.cs
abbrev E2:=LS 2 G5.av
namespace XAF
theorem R94 (a b:G5):Ha3 E8 4 39 [.int .i64 a.From,.int .i64 a.To] [.int .i64 b.From,.int .i64 b.To]=some (decide (a=b)):=by
 refine(show _=some ((a.From==b.From)&&((a.To==b.To)&&true)) by kernel_rfl).trans (congrArg some ?_)
 rw [Bool.eq_iff_iff]
 simp only [Ki,beq_iff_eq,Kj,Bool.and_true]
 constructor
 ·intro h; obtain⟨_,_⟩:=a; obtain⟨_,_⟩:=b; simp_all
 ·intro h; subst h; simp
theorem Hj:Gb7 E8 24 2=true:=by kernel_rfl
theorem G4c:Gb7 E8 39 2=true:=by kernel_rfl
theorem Ja8:G09 E8 39=true:=by kernel_rfl
theorem Gad:Hm E8 26=true:=by kernel_rfl
theorem G45:Hm E8 40=true:=by kernel_rfl
theorem J06:Hm E8 44=true:=by kernel_rfl
theorem H68:Hm E8 50=true:=by kernel_rfl
theorem H67:Hm E8 55=true:=by kernel_rfl
theorem J03:Hm E8 57=true:=by kernel_rfl
theorem Jfd:Hm E8 58=true:=by kernel_rfl
theorem J01:Hm E8 72=true:=by kernel_rfl
theorem J00:Hm E8 77=true:=by kernel_rfl
theorem Hfe:Hm E8 81=true:=by kernel_rfl
theorem Jf5:Hm E8 82=true:=by kernel_rfl
theorem G44:Qe E8 25 1 24=true:=by kernel_rfl
theorem Q3:Qe E8 3 1 8=true:=by kernel_rfl
theorem Q77:E8.eqGuardType E8.depth 39=false:=by kernel_rfl
theorem G2b:Rc E8 105 0 0=true:=by kernel_rfl
theorem H23:Rc E8 105 2 2=true:=by kernel_rfl
theorem G2a:Rc E8 105 3 3=true:=by kernel_rfl
theorem Hx:Rc E8 24 0 0=true:=by kernel_rfl
theorem Yg:Rc E8 24 1 1=true:=by kernel_rfl
theorem G29:Y4 E8 103 3 3=true:=by kernel_rfl
theorem Jm:E8.follows .mixedOrders=true:=by kernel_rfl
theorem H5a:placesOf E8 105=some [(0,1),(1,1),(2,1),(3,1),(4,1),(5,1)]:=by kernel_rfl
theorem G3a:Qd E8 103=true:=by kernel_rfl
theorem Gp:Qd E8 22=true:=by kernel_rfl
theorem H3:Qd E8 25=true:=by kernel_rfl
theorem Gj:Qd E8 3=true:=by kernel_rfl
theorem Gaa:Rj E8 22 1=true:=by kernel_rfl
theorem Gc:sliceB E8 22 25 1=true:=by kernel_rfl
theorem G7:sliceB E8 25 3 1=true:=by kernel_rfl
theorem Jh:sliceB E8 26 39 2=true:=by kernel_rfl
theorem Hd4:(E8.info? 105).bind (fun i=>i.zero.map Value.cells)=some (List.toArray [.slice none 0 0,E0,.slice none 0 0,.map none,.slice none 0 0,E0]):=by kernel_rfl
theorem Yp:Q9 E8 25 1=true:=by kernel_rfl
theorem J8:Q9 E8 3 1=true:=by kernel_rfl
theorem H41:(E8.info? 3).bind (·.zero)=some E0:=by kernel_rfl
theorem Ja2:G56 E8 3 Ef:=G56.of_int (by kernel_rfl)
end XAF
open XAF

def Zt (y:Gn):Option Bool:=
 bif ((((decide (y.Height < 1))||(decide (6 < y.Height)))||(decide ((y.Stacks.length:Int) < 1)))||(decide (30 < (y.Stacks.length:Int)))) then
 (some false)
 else
 (each (fun e k (f:(Hk Int Int)) g=>
   bif decide (y.Height < (e.length:Int)) then
   (some false)
   else
   (each (fun a j (b:(Hk Int Int)) d=>
     bnd (some (Hk.get b a 0)) fun h=>
     chk (h+1) fun c=>
     bnd (bif (!((decide (a < 1))||(decide (999999 < a)))) then some (Hk.get (Hk.put b a c) a 0) else some 0) fun i=>
     bif (((decide (a < 1))||(decide (999999 < a)))||(decide (1 < i))) then
     (some false)
     else
     (d (Hk.put b a c)))
    (fun(b:(Hk Int Int))=>
     g b) e 0 f))
  (fun(f:(Hk Int Int))=>
   some true) y.Stacks 0 (Hk.empty:Hk Int Int))
theorem G61 (y:Gn) (r:Bool) (h:Zt y=some r):Pure E8 44 [.agg [LS 1 (E1) y.Stacks,I64 y.Height]] (·=BL r):=by
 unfold Zt at h
 refine Hd [.tmp 2] Try.func44 O O (Jr fun c1=>(JLh (.ptr 1053 0) (Qf (cs:=[LS 1 (E1) y.Stacks,I64 y.Height]) 1053 O O O O O) O (JLm (BL false) O (G6 (c1 (H5 [(1,.dptr [LS 1 (E1) y.Stacks,I64 y.Height])] [] 1053 rfl rfl rfl ø rfl (by exact⟨.ptr,ø⟩) (Js fun c2=>?_)))))))
 refine Jr fun c3=>(JLh (.dptr [I64 y.Height]) (Gz Yg O O O) O (JLh (I64 y.Height) (Gm Gj O O O) O (JLh (BL (decide (y.Height < 1))) (Hy O O O) O (JLm (BL (decide (y.Height < 1))) O (JLo (.dptr [I64 y.Height]) [] O .scf ø (fun hc=>Gz Yg O O O) O (JLo (I64 y.Height) [12] O .scf ⟨Ua,ø⟩ (fun hc=>Gm Gj O O O) O (JLo (BL (decide (6 < y.Height))) [13] O .scf ⟨Ua,ø⟩ (fun hc=>Z3 O O O) O (JLh (BL ((decide (y.Height < 1))||(decide (6 < y.Height)))) (Zj O O O O) O (JLm (BL ((decide (y.Height < 1))||(decide (6 < y.Height)))) O (JLo (.dptr [LS 1 (E1) y.Stacks,I64 y.Height]) [] O .scf ø (fun hc=>Gz Hx O O O) O (JLo (LS 1 (E1) y.Stacks) [17] O .scf ⟨Ua,ø⟩ (fun hc=>Gm Gp O O O) O (JLo (E7 y.Stacks.length) [18] O .scf ⟨Ua,ø⟩ (fun hc=>Qj (f:=(E1)) (xs:=y.Stacks) Gc O O) O (JLo (BL (decide ((y.Stacks.length:Int) < 1))) [19] O .scf ⟨Ua,ø⟩ (fun hc=>Hy O O O) O ?_)))))))))))))
 refine JLh (BL (((decide (y.Height < 1))||(decide (6 < y.Height)))||(decide ((y.Stacks.length:Int) < 1)))) (Zj O O O O) O (JLm (BL (((decide (y.Height < 1))||(decide (6 < y.Height)))||(decide ((y.Stacks.length:Int) < 1)))) O (JLo (.dptr [LS 1 (E1) y.Stacks,I64 y.Height]) [] O .scf ø (fun hc=>Gz Hx O O O) O (JLo (LS 1 (E1) y.Stacks) [23] O .scf ⟨Ua,ø⟩ (fun hc=>Gm Gp O O O) O (JLo (E7 y.Stacks.length) [24] O .scf ⟨Ua,ø⟩ (fun hc=>Qj (f:=(E1)) (xs:=y.Stacks) Gc O O) O (JLo (BL (decide (30 < (y.Stacks.length:Int)))) [25] O .scf ⟨Ua,ø⟩ (fun hc=>Z3 O O O) O (JLh (BL ((((decide (y.Height < 1))||(decide (6 < y.Height)))||(decide ((y.Stacks.length:Int) < 1)))||(decide (30 < (y.Stacks.length:Int))))) (Zj O O O O) O (G6 (c3 ?_))))))))
 refine JCc O h ?_ ?_<;>intro h hb
 ·
  refine Jr fun c4=>(JLm (BL false) O (G6 (c4 (H1 (fin1 BL h)))))
 ·
  refine Gi (c2 (Jr fun c5=>(JLh (.mp 1054) (H84 1054 Ef I64 O O) O (JLm (.mp 1054) O (G6 (c5 (Js fun c6=>Jr fun c7=>(JLh (.dptr [LS 1 (E1) y.Stacks,I64 y.Height]) (Gz Hx O O O) O (JLh (LS 1 (E1) y.Stacks) (Gm Gp O O O) O (JLl Gc O O O fun s=>(JLm (I64 0) O (G6 (c7 (Gf ?_))))))))))))))
  obtain⟨b8,c8,c9,t,h⟩:=J4 h
  refine H9 (fun e (j:(Hk Int Int))=>each b8 c8 (List.drop e y.Stacks) e j=some r) (fun e j=>[(1,.dptr [LS 1 (E1) y.Stacks,I64 y.Height]),(3,.mp 1054),(30,LS 1 (E1) y.Stacks),(31,E7 y.Stacks.length),(32,E7 e)]) (fun e j=>[(1054,TP 103 Ef I64 j)]) (fun e=>y.Stacks.length - e) 0 (Hk.empty:Hk Int Int) h ⟨(.sm O O),⟨fmQ O,ø⟩,rfl⟩ ?_
  clear h
  intro e j p K8 e8
  refine Jr fun d0=>(JLh (BL (decide ((e:Int) < (y.Stacks.length:Int)))) (Hy O O O) O (G6 (d0 (Js fun w=>Gh O (fun hb=>?_) (fun hb=>?_)))))
  ·
   have q:=Jn hb
   obtain⟨g,e0,d1,d2,h⟩:=Hr p q
   replace h:=Yi c9 h
   refine Gi (w (Js fun x=>Gf (Jr fun z=>(JLh (.dptr [E1 g]) (Gy (f:=(E1)) (xs:=y.Stacks) (y:=g) O O O Gc d1 O) O (JLh (E1 g) (Gm H3 O O O) O (JLm (E1 g) O (G6 (z (Js fun a0=>Jr fun a1=>(JLm (E1 g) O (JLl G7 O O O fun d8=>(JLh (.dptr [I64 y.Height]) (Gz Yg O O O) O (JLh (I64 y.Height) (Gm Gj O O O) O (JLh (BL (decide (y.Height < (g.length:Int)))) (Z3 O O O) O (G6 (a1 (JCc O h (fun h hb=>?_) (fun h hb=>?_))))))))))))))))))
   ·
    refine Jr fun a2=>(JLm (BL false) O (G6 (a2 (H1 (fin1 BL h)))))
   ·
    refine Gi (a0 (Jr fun a3=>(JLm (E1 g) O (JLl G7 O O O fun a4=>(JLm (I64 0) O (G6 (a3 (Gf ?_))))))))
    obtain⟨d3,a5,a6,o,h⟩:=J4 h
    refine H9 (fun c (d:(Hk Int Int))=>each d3 a5 (List.drop c g) c d=some r) (fun c d=>[(1,.dptr [LS 1 (E1) y.Stacks,I64 y.Height]),(3,.mp 1054),(30,LS 1 (E1) y.Stacks),(31,E7 y.Stacks.length),(32,E7 e),(41,E1 g),(42,E7 g.length),(43,E7 c)]) (fun c d=>[(1054,TP 103 Ef I64 d)]) (fun c=>g.length - c) 0 j h ⟨(.sm O O),⟨fmQ O,ø⟩,rfl⟩ ?_
    clear h
    intro c d k e1 d4
    refine Jr fun a7=>(JLh (BL (decide ((c:Int) < (g.length:Int)))) (Hy O O O) O (G6 (a7 (Js fun a8=>Gh O (fun hb=>?_) (fun hb=>?_)))))
    ·
     have l:=Jn hb
     obtain⟨b,d9,a9,b0,h⟩:=Hr k l
     replace h:=Yi a6 h
     refine Gi (a8 (Js fun b1=>Gf (Jr fun b2=>(JLh (.dptr [I64 b]) (Gy (f:=I64) (xs:=g) (y:=b) O O O G7 a9 O) O (JLh (I64 b) (Gm Gj O O O) O (JLm (I64 b) O (G6 (b2 (Jr fun b3=>(JLm (.mp 1054) O (JLm (I64 b) O ?_)))))))))))
     obtain⟨d5,b4,h⟩:=Gd h
     refine JLh (I64 d5) (((Ex b4) ▸ J3e (av:=I64) (m:=d) (a:=b) 0 E0 (fun _=>O) O (.own O) O Ja2 G29 H41 O)) O ?_
     obtain⟨i,b5,h⟩:=Jb h
     refine JLh (I64 i) (Hv b5 O O O) O (J9 (u:=.junk) (H10 (m:=d) (a:=b) (v:=i) (fun _=>O) O O O O O O Ja2 G29) (G6 (b3 (Jr fun b6=>(JLm (I64 b) O (JLh (BL (decide (b < 1))) (Hy O O O) O (JLm (BL (decide (b < 1))) O (JLo (I64 b) [] O .scf ø (fun hc=>G2 O O) O (JLo (BL (decide (999999 < b))) [54] O .scf ⟨Ua,ø⟩ (fun hc=>Z3 O O O) O (JLh (BL ((decide (b < 1))||(decide (999999 < b)))) (Zj O O O O) O (JLm (BL ((decide (b < 1))||(decide (999999 < b)))) O (JLo (.mp 1054) [] O .scf ø (fun hc=>G2 O O) O (JLo (I64 b) [] O .scf ø (fun hc=>G2 O O) O ?_)))))))))))))
     obtain⟨n,b7,h⟩:=Gd h
     refine JLo (I64 n) [58,59] O .scf ⟨Ua,Ua,ø⟩ (fun hc=>((Ex (H7 hc b7)) ▸ J3e (av:=I64) (m:=(Hk.put d b i)) (a:=b) 0 E0 (fun _=>O) O (.own O) O Ja2 G29 H41 O)) O (JLo (BL (decide (1 < n))) [60] O .scf ⟨Ua,ø⟩ (fun hc=>Z3 O O O) O (JLh (BL (((decide (b < 1))||(decide (999999 < b)))||(decide (1 < n)))) (Zj O O O O) O (G6 (b6 (JCc O h (fun h hb=>?_) (fun h hb=>?_))))))
     ·
      refine Jr fun b9=>(JLm (BL false) O (G6 (b9 (H1 (fin1 BL h)))))
     ·
      refine Gi (b1 (G1 (JLh (I64 ((c+1:Nat):Int)) (Hv (Hi l a4) O O O) O (JLm (I64 ((c+1:Nat):Int)) O (G6 (d4 _ _ (c+1) (Hk.put d b i) (app1 b0 h) (by omega) ⟨(.sm O O),⟨fmQ O,ø⟩,rfl⟩))))))
    ·
     have h:=app1 o (Hs k (Hb hb))
     refine Hc (x (G1 (JLh (I64 ((e+1:Nat):Int)) (Hv (Hi q s) O O O) O (JLm (I64 ((e+1:Nat):Int)) O (G6 (e8 _ _ (e+1) d (app1 d2 h) (by omega) ⟨(.sm O O),⟨fmQ O,ø⟩,rfl⟩))))))
  ·
   have h:=app1 t (Hs p (Hb hb))
   refine Hc (c6 (Jr fun c0=>(JLm (BL true) O (G6 (c0 (H1 (fin1 BL h)))))))

def Ri (s:List Int):Option (List Int):=
 Qfe s fun a=>
 bif a then
 (some [])
 else
 (need (decide ((([]:List Int).length+s.length)*8≤140737488355328∧([]:List Int).length+s.length≤maxLen)) <|
  some (([]:List Int)++s))
theorem G90 (s:List Int) (r:(List Int)) (h:Ri s=some r):Pure E8 81 [E1 s] (·=E1 r):=by
 unfold Ri at h
 refine Hd [.tmp 2] Try.func81 O O (Jr fun a=>(JLh (E1 ([]:List Int)) (Jk 1 O O) O (G6 (a (Js fun b=>Jr fun c=>(JLm (E1 s) O (G68 O O O (R25 G7 O O) ?_)))))))
 rintro u_ L_ ⟨j,d,rfl,rfl⟩
 replace h:=Qb7 h j d
 refine G6 (c (JCc O h (fun h hb=>?_) (fun h hb=>?_)))
 ·
  refine Jr fun e=>(JLh (E1 ([]:List Int)) (Jk 1 O O) O (G6 (e (H1 (fin1 (fun r:(List Int)=>(E1 r:AV)) h)))))
 ·
  refine Gi (b (Jr fun g=>(JLh (OW 820000005 1 I64 ([]:List Int)) (G6c 820000005 3 1 O O G7) O (JLm (E1 s) O ?_))))
  obtain⟨i,h⟩:=Hu h
  refine JLh (OW 820000005 1 I64 (([]:List Int)++s)) (Yc (f:=I64) (xs:=([]:List Int)) (ys:=s) O O O O G7 Q3 i (fun _=>O) (.inl O)) O (JLm (OW 820000005 1 I64 (([]:List Int)++s)) O (G6 (g (H1 (fin1l (fun r:(List Int)=>(E1 r:AV)) h)))))

def Rh (s:List Int) (v:Int):Option Int:=
 each (fun b c (d:Unit) a=>
  bif decide (v=b) then
  (some (c:Int))
  else
  (a ()))
 (fun(d:Unit)=>
  some (-1)) s 0 ()
theorem G8f (s:List Int) (v:Int) (r:Int) (h:Rh s v=some r):Pure E8 72 [E1 s,I64 v] (·=I64 r):=by
 unfold Rh at h
 refine Hd [.tmp 4] Try.func72 O O (Jr fun w=>(JLm (I64 0) O (G6 (w (Js fun x=>Jr fun z=>(JLm (E1 s) O (JLl G7 O O O fun a0=>(JLm (I64 0) O (G6 (z (Gf ?_)))))))))))
 obtain⟨a1,i,j,g,h⟩:=J4 h
 refine H9 (fun a (b:Unit)=>each a1 i (List.drop a s) a b=some r) (fun a b=>[(0,E1 s),(1,I64 v),(7,E7 s.length),(8,E7 a)]) (fun a b=>[]) (fun a=>s.length - a) 0 () h ⟨(.sm O O),ø,rfl⟩ ?_
 clear h
 intro a b d a4 a2
 refine Jr fun k=>(JLh (BL (decide ((a:Int) < (s.length:Int)))) (Hy O O O) O (G6 (k (Js fun l=>Gh O (fun hb=>?_) (fun hb=>?_)))))
 ·
  have e:=Jn hb
  obtain⟨c,a3,m,n,h⟩:=Hr d e
  replace h:=Yi j h
  refine Gi (l (Js fun o=>Gf (Jr fun p=>(JLm (E7 a) O (JLm (E7 a) O (G6 (p (Jr fun q=>(JLm (I64 v) O (JLm (E1 s) O (JLm (E7 a) O (JLh (.dptr [I64 c]) (Gy (f:=I64) (xs:=s) (y:=c) O O O G7 m O) O (JLh (I64 c) (Gm Gj O O O) O (JLh (BL (decide (v=c))) (Yd O O O) O (G6 (q (JCc O h (fun h hb=>?_) (fun h hb=>?_))))))))))))))))))
  ·
   refine Jr fun t=>(JLm (E7 a) O (JLm (E7 a) O (G6 (t (H1 (fin1 I64 h))))))
  ·
   refine Gi (o (G1 (JLh (I64 ((a+1:Nat):Int)) (Hv (Hi e a0) O O O) O (JLm (I64 ((a+1:Nat):Int)) O (G6 (a2 _ _ (a+1) () (app1 n h) (by omega) ⟨(.sm O O),ø,rfl⟩))))))
 ·
  have h:=app1 g (Hs d (Hb hb))
  refine Hc (x (Jr fun u=>(JLm (I64 (-1)) O (G6 (u (H1 (fin1 I64 h)))))))

def Zu (y:Gn) (box:Int):Option (Int×Int×Bool):=
 each (fun c d (e:Unit) b=>
  bnd (Rh c box) fun a=>
  bif decide (0≤a) then
  (some ((d:Int),a,true))
  else
  (b ()))
 (fun(e:Unit)=>
  some (0,0,false)) y.Stacks 0 ()
theorem Gd7 (y:Gn) (box:Int) (r:Int×Int×Bool) (h:Zu y box=some r):Pure E8 55 [.agg [LS 1 (E1) y.Stacks,I64 y.Height],I64 box] (·=.tup [I64 r.1,I64 r.2.1,BL r.2.2]):=by
 unfold Zu at h
 refine Hd [.tmp 4,.tmp 5,.tmp 6] Try.func55 O O (Jr fun z=>(JLh (.ptr 1063 0) (Qf (cs:=[LS 1 (E1) y.Stacks,I64 y.Height]) 1063 O O O O O) O (JLm (I64 0) O (JLm (I64 0) O (JLm (BL false) O (G6 (z (H5 [(1,I64 box),(2,.dptr [LS 1 (E1) y.Stacks,I64 y.Height])] [] 1063 rfl rfl rfl ø rfl (by exact⟨.conv (.same rfl),.ptr,ø⟩) (Js fun a0=>Jr fun a1=>(JLh (.dptr [LS 1 (E1) y.Stacks,I64 y.Height]) (Gz Hx O O O) O (JLh (LS 1 (E1) y.Stacks) (Gm Gp O O O) O (JLl Gc O O O fun j=>(JLm (I64 0) O (G6 (a1 (Gf ?_))))))))))))))))
 obtain⟨a2,k,l,i,h⟩:=J4 h
 refine H9 (fun a (d:Unit)=>each a2 k (List.drop a y.Stacks) a d=some r) (fun a d=>[(1,I64 box),(11,LS 1 (E1) y.Stacks),(12,E7 y.Stacks.length),(13,E7 a)]) (fun a d=>[]) (fun a=>y.Stacks.length - a) 0 () h ⟨(.sm O O),ø,rfl⟩ ?_
 clear h
 intro a d e a5 a3
 refine Jr fun m=>(JLh (BL (decide ((a:Int) < (y.Stacks.length:Int)))) (Hy O O O) O (G6 (m (Js fun n=>Gh O (fun hb=>?_) (fun hb=>?_)))))
 ·
  have g:=Jn hb
  obtain⟨c,a4,o,p,h⟩:=Hr e g
  replace h:=Yi l h
  refine Gi (n (Js fun q=>Gf (Jr fun s=>(JLm (E7 a) O (JLh (.dptr [E1 c]) (Gy (f:=(E1)) (xs:=y.Stacks) (y:=c) O O O Gc o O) O (JLh (E1 c) (Gm H3 O O O) O (JLm (E7 a) O (JLm (E1 c) O (G6 (s (Jr fun t=>(JLm (E1 c) O (JLm (I64 box) O ?_)))))))))))))
  obtain⟨b,u,h⟩:=Gd h
  refine JLh (I64 b) (Gu O (G8f c box b u) J01 ⟨O,O,O,O,ø⟩) O (JLm (I64 b) O (G6 (t (Jr fun v=>(JLm (I64 b) O (JLh (BL (decide (0≤b))) (G54 O O O) O (G6 (v (JCc O h (fun h hb=>?_) (fun h hb=>?_))))))))))
  ·
   refine Jr fun w=>(JLm (E7 a) O (JLm (I64 b) O (JLm (E7 a) O (JLm (I64 b) O (JLm (BL true) O (G6 (w (H1 (⟨[E7 a,I64 b,BL true],[],ø,O,⟨⟨_,O,.conv (.same O)⟩,⟨_,O,.conv (.same O)⟩,⟨_,O,.conv (.same O)⟩,ø⟩,O,congrArg (fun r:Int×Int×Bool=>(.tup [I64 r.1,I64 r.2.1,BL r.2.2]:AV)) (Ex h)⟩)))))))))
  ·
   refine Gi (q (G1 (JLh (I64 ((a+1:Nat):Int)) (Hv (Hi g j) O O O) O (JLm (I64 ((a+1:Nat):Int)) O (G6 (a3 _ _ (a+1) () (app1 p h) (by omega) ⟨(.sm O O),ø,rfl⟩))))))
 ·
  have h:=app1 i (Hs e (Hb hb))
  refine Hc (a0 (Jr fun x=>(JLm (I64 0) O (JLm (I64 0) O (JLm (BL false) O (G6 (x (H1 (⟨[I64 0,I64 0,BL false],[],ø,O,⟨⟨_,O,.conv (.same O)⟩,⟨_,O,.conv (.same O)⟩,⟨_,O,.conv (.same O)⟩,ø⟩,O,congrArg (fun r:Int×Int×Bool=>(.tup [I64 r.1,I64 r.2.1,BL r.2.2]:AV)) (Ex h)⟩)))))))))

def Qp (y:Gn) (order:List Int):Option (Hn×Bool):=
 bnd (Zt y) fun j=>
 bif (!j) then
 (none)
 else
 (each (fun i l (a:(List (List Int))×Int×(List Int)×(List Gx)×Int) f=>
   bnd (Ri i) fun d=>
   need (decide ((a.1.length+[d].length)*24≤140737488355328∧a.1.length+[d].length≤maxLen)) <|
   f ((a.1++[d]),a.2.1,a.2.2.1,a.2.2.2.1,a.2.2.2.2))
  (fun(a:(List (List Int))×Int×(List Int)×(List Gx)×Int)=>
   each (fun c g (b:(Hk Int Int)) e=>
    bnd (Zu y c) fun h=>
    bnd (some (Hk.get b c 0)) fun k=>
    bif ((Hk.has b c)||(!h.2.2)) then
    (none)
    else
    (e (Hk.put b c (g:Int))))
   (fun(b:(Hk Int Int))=>
    some ((Hn.mk a.1 a.2.1 a.2.2.1 b a.2.2.2.1 a.2.2.2.2),true)) order 0 (Hk.empty:Hk Int Int)) y.Stacks 0 ([],y.Height,order,[],0))
abbrev E9 (a:(List (List Int))×Int×(List Int)×(List Gx)×Int):List AV:=[OW 1066 1 (E1) a.1,I64 a.2.1,E1 a.2.2.1,.mp 1104,E3 a.2.2.2.1,I64 a.2.2.2.2]
theorem H7e (y:Gn) (order:List Int) (r:Hn×Bool) (h:Qp y order=some r):Jz E8 57 [.agg [LS 1 (E1) y.Stacks,I64 y.Height],E1 order] [] (fun av L'=>av=.tup [.ptr 1103 0,BL r.2]∧L'=[(1103,.box 105 [LS 1 (E1) r.1.stacks,I64 r.1.height,E1 r.1.order,.mp 1104,E3 r.1.steps,I64 r.1.next]),(1104,TP 103 Ef I64 r.1.ranks)]):=by
 unfold Qp at h
 refine G1c [] [.tmp 4,.tmp 5] Try.func57 O O (H9e O) (Jr fun d1=>(JLh (.ptr 1065 0) (Qf (cs:=[LS 1 (E1) y.Stacks,I64 y.Height]) 1065 O O O O O) O (JLm (.sc (.pointer none)) O (JLm (BL false) O (G6 (d1 (H5 [(1,E1 order),(2,.dptr [LS 1 (E1) y.Stacks,I64 y.Height])] [] 1065 rfl rfl rfl ø rfl (by exact⟨.conv (.same rfl),.ptr,ø⟩) (Js fun d2=>Jr fun d3=>(JLh (.agg [LS 1 (E1) y.Stacks,I64 y.Height]) (Gv Hj O O O) O ?_)))))))))
 obtain⟨w,d4,h⟩:=Gd h
 refine JLh (BL w) (Gu O (G61 y w d4) J06 ⟨O,O,ø⟩) O (JLh (BL (!w)) (Zc (b:=w) O O) O (G6 (d3 (JCc O h (fun h hb=>?_) (fun h hb=>?_)))))
 ·
  refine Jr fun d5=>(JLm (.sc (.pointer none)) O (JLm (BL false) O (G6 (d5 (H1 ?_)))))
  cases h
 ·
  refine Gi (d2 ?_)
  refine Jr fun d6=>(JLh (.dptr [I64 y.Height]) (Gz Yg O O O) O (JLh (I64 y.Height) (Gm Gj O O O) O (JLm (E1 order) O (JLh (.mp 1104) (H84 1104 Ef I64 O O) O (JLh (.agg [.sc (.slice none 0 0),I64 y.Height,E1 order,.mp 1104,E3 ([]:List Gx),I64 0]) (Jo (cs:=[.sc (.slice none 0 0),I64 y.Height,E1 order,.mp 1104,E3 ([]:List Gx),I64 0]) [(0,1),(1,1),(2,1),(3,1),(4,1),(5,1)] [.sc (.slice none 0 0),I64 0,E1 ([]:List Int),.sc (.map none),E3 ([]:List Gx),I64 0] [.slice none 0 0,E0,.slice none 0 0,.map none,.slice none 0 0,E0] H5a Hd4 ⟨.inl O,.inl O,.inr ⟨_,O,O⟩,.inl O,.inr ⟨_,O,O⟩,.inl O,ø⟩ O O) O (JLh (.ptr 1103 0) (Qf (cs:=[.sc (.slice none 0 0),I64 y.Height,E1 order,.mp 1104,E3 ([]:List Gx),I64 0]) 1103 O O O O O) O ?_))))))
  refine H7f 1103 0 1066 25 1 O O O (cs':=[OW 1066 1 (E1) ([]:List (List Int)),I64 y.Height,E1 order,.mp 1104,E3 ([]:List Gx),I64 0]) O (JLm (.ptr 1103 0) O (G6 (d6 (Js fun d7=>Jr fun d8=>(JLh (.dptr [LS 1 (E1) y.Stacks,I64 y.Height]) (Gz Hx O O O) O (JLh (LS 1 (E1) y.Stacks) (Gm Gp O O O) O (JLl Gc O O O fun b5=>(JLm (I64 0) O (G6 (d8 (Gf ?_)))))))))))
  obtain⟨d9,b6,b7,x,h⟩:=J4 h
  refine H9 (fun k (c:(List (List Int))×Int×(List Int)×(List Gx)×Int)=>each d9 b6 (List.drop k y.Stacks) k c=some r) (fun k c=>[(1,E1 order),(2,.dptr [LS 1 (E1) y.Stacks,I64 y.Height]),(6,.ptr 1103 0),(26,LS 1 (E1) y.Stacks),(27,E7 y.Stacks.length),(28,E7 k)]) (fun k c=>[(1104,TP 103 Ef I64 (Hk.empty:Hk Int Int)),(1066,.spare 25 1 c.1.length c.1.length),(1103,.box 105 (E9 c))]) (fun k=>y.Stacks.length - k) 0 ([],y.Height,order,[],0) h ⟨(.sm O O),⟨fmQ O,⟨_,rfl,.same⟩,fbQ O (.sm O O),ø⟩,rfl⟩ ?_
  clear h
  intro k c q e4 e0
  refine Jr fun b8=>(JLh (BL (decide ((k:Int) < (y.Stacks.length:Int)))) (Hy O O O) O (G6 (b8 (Js fun b9=>Gh O (fun hb=>?_) (fun hb=>?_)))))
  ·
   have s:=Jn hb
   obtain⟨l,e2,c0,c1,h⟩:=Hr q s
   replace h:=Yi b7 h
   refine Gi (b9 (Js fun c2=>Gf (Jr fun c3=>(JLh (.dptr [E1 l]) (Gy (f:=(E1)) (xs:=y.Stacks) (y:=l) O O O Gc c0 O) O (JLh (E1 l) (Gm H3 O O O) O (JLm (E1 l) O (G6 (c3 ?_))))))))
   refine R9 (l':=[(1,E1 order),(2,.dptr [LS 1 (E1) y.Stacks,I64 y.Height]),(6,.ptr 1103 0),(8,E1 l),(26,LS 1 (E1) y.Stacks),(27,E7 y.Stacks.length),(28,E7 k)]) (L':=[(1104,TP 103 Ef I64 (Hk.empty:Hk Int Int)),(1066,.spare 25 1 c.1.length c.1.length),(1103,.box 105 (E9 c))]) ⟨(.sm O O),⟨fmQ O,⟨_,rfl,.same⟩,fbQ O (.sm O O),ø⟩,rfl⟩ ?_
   obtain⟨j,c4,h⟩:=Gd h
   obtain⟨c5,h⟩:=Hu h
   refine Ju [8,11] [0,0,0,0,0,0,0,0,0,1,1,0] [1,0,0,0,0,0,0,0,0,1,1,0] [[(1104,TP 103 Ef I64 (Hk.empty:Hk Int Int)),(1066,.spare 25 1 c.1.length c.1.length),(1103,.box 105 (E9 c))],((1066,.spare 25 1 (c.1++[j]).length (c.1++[j]).length)::[(1104,TP 103 Ef I64 (Hk.empty:Hk Int Int)),(1066,.spare 25 1 c.1.length c.1.length),(1103,.box 105 (E9 c))]),((1103,.box 105 [OW 1066 1 (E1) (c.1++[j]),I64 c.2.1,E1 c.2.2.1,.mp 1104,E3 c.2.2.2.1,I64 c.2.2.2.2])::((1066,.spare 25 1 (c.1++[j]).length (c.1++[j]).length)::[(1104,TP 103 Ef I64 (Hk.empty:Hk Int Int)),(1066,.spare 25 1 c.1.length c.1.length),(1103,.box 105 (E9 c))]))] Jm (by kernel_rfl) rfl rfl ?_
   refine Gb (u:=.ptr 1103 0) O O ⟨Ga (G2 O O) O,Ga (G2 O O) O,ø⟩ (Gb (u:=.ptr 1103 0) O O ⟨Ga (G2 O O) O,ø⟩ (Gb (u:=.ptr 1103 0) O O ⟨Ga (G91 O O) O,ø⟩ (Gb (u:=.ptr 1103 0) O O ⟨Ga (Ho G2b O O) O,ø⟩ (Gb (u:=OW 1066 1 (E1) c.1) O O ⟨Ga (Hq Gp O O O O) O,ø⟩ (Gb (u:=E1 l) O O ⟨Ga (G2 O O) O,ø⟩ (Gb (u:=E1 j) O O ⟨Ga (Gu O (G90 l j c4) Hfe ⟨O,O,ø⟩) O,ø⟩ (Gb (u:=LS 1 (E1) [j]) O O ⟨Ga (H8 (xs:=[E1 j]) O ⟨O,O,ø⟩ Gc Yp O O O O) O,ø⟩ (D_w (u:=OW 1066 1 (E1) (c.1++[j])) O O O O (Ga (R4 (f:=(E1)) (xs:=c.1) (ys:=[j]) O O O O Gc G44 c5 (fun _=>O) (.inl O) O) O) (Gb (u:=.ptr 1103 0) O O ⟨Ga (G91 O O) O,ø⟩ (Gb (u:=.ptr 1103 0) O O ⟨Ga (Ho G2b O O) O,ø⟩ (H3c (u:=.junk) O O O O (Ga (Hp (u:=OW 1066 1 (E1) (c.1++[j])) (ds:=[OW 1066 1 (E1) (c.1++[j]),I64 c.2.1,E1 c.2.2.1,.mp 1104,E3 c.2.2.2.1,I64 c.2.2.2.2]) Gaa O O O O O O O O) O) (Ro ?_))))))))))))
   refine c2 (G1 (JLh (I64 ((k+1:Nat):Int)) (Hv (Hi s b5) O O O) O (JLm (I64 ((k+1:Nat):Int)) O (G6 (e0 _ _ (k+1) ((c.1++[j]),c.2.1,c.2.2.1,c.2.2.2.1,c.2.2.2.2) (app1 c1 h) (by omega) ⟨(.sm O O),⟨fmQ O,⟨_,rfl,.same⟩,fbQ O (.sm O O),ø⟩,rfl⟩)))))
  ·
   have h:=app1 x (Hs q (Hb hb))
   refine Hc (d7 (Js fun c6=>Jr fun c7=>(JLm (E1 order) O (JLl G7 O O O fun c8=>(JLm (I64 0) O (G6 (c7 (Gf ?_))))))))
   obtain⟨c9,z,a0,t,h⟩:=J4 h
   refine H9 (fun e (g:(Hk Int Int))=>each c9 z (List.drop e order) e g=some r) (fun e g=>[(2,.dptr [LS 1 (E1) y.Stacks,I64 y.Height]),(6,.ptr 1103 0),(44,E1 order),(45,E7 order.length),(46,E7 e)]) (fun e g=>[(1104,TP 103 Ef I64 g),(1066,.spare 25 1 c.1.length c.1.length),(1103,.box 105 (E9 c))]) (fun e=>order.length - e) 0 (Hk.empty:Hk Int Int) h ⟨(.sm O O),⟨fmQ O,⟨_,rfl,.same⟩,fbQ O (.sm O O),ø⟩,rfl⟩ ?_
   clear h
   intro e g o e3 d0
   refine Jr fun a1=>(JLh (BL (decide ((e:Int) < (order.length:Int)))) (Hy O O O) O (G6 (a1 (Js fun a2=>Gh O (fun hb=>?_) (fun hb=>?_)))))
   ·
    have p:=Jn hb
    obtain⟨d,e1,a3,a4,h⟩:=Hr o p
    replace h:=Yi a0 h
    refine Gi (a2 (Js fun a5=>Gf (Jr fun a6=>(JLm (E7 e) O (JLh (.dptr [I64 d]) (Gy (f:=I64) (xs:=order) (y:=d) O O O G7 a3 O) O (JLh (I64 d) (Gm Gj O O O) O (JLm (E7 e) O (JLm (I64 d) O (G6 (a6 (Jr fun a7=>(JLh (.agg [LS 1 (E1) y.Stacks,I64 y.Height]) (Gv Hj O O O) O (JLm (I64 d) O ?_)))))))))))))
    obtain⟨i,a8,h⟩:=Gd h
    refine JLh (.tup [I64 i.1,I64 i.2.1,BL i.2.2]) (Gu O (Gd7 y d i a8) H67 ⟨O,O,O,O,ø⟩) O (JLm (.tup [I64 i.1,I64 i.2.1,BL i.2.2]) O (JLh (I64 i.1) (Gr O O O) O (JLh (I64 i.2.1) (Gr O O O) O (JLh (BL i.2.2) (Gr O O O) O (JLm (I64 i.1) O (JLm (I64 i.2.1) O (JLm (BL i.2.2) O (G6 (a7 (Js fun a9=>Jr fun b0=>(JLm (.ptr 1103 0) O (JLh (.ptr 1103 0) (G91 O O) O (JLh (.ptr 1103 3) (Ho G2a O O) O (JLh (.mp 1104) (Hq G3a O O O O) O (JLm (I64 d) O ?_)))))))))))))))
    obtain⟨n,b1,h⟩:=Gd h
    refine JLh (.tup [I64 n,BL (Hk.has g d)]) (((Ex b1) ▸ H85 (av:=I64) (m:=g) (a:=d) 0 E0 (fun _=>O) O (.own O) O Ja2 G29 H41 O)) O (JLm (.tup [I64 n,BL (Hk.has g d)]) O (JLh (I64 n) (Gr O O O) O (JLh (BL (Hk.has g d)) (Gr O O O) O (JLm (I64 n) O (JLm (BL (Hk.has g d)) O (G6 (b0 (Jr fun b2=>(JLm (BL (Hk.has g d)) O (JLm (BL (Hk.has g d)) O (JLo (BL i.2.2) [] O .scf ø (fun hc=>G2 O O) O (JLo (BL (!i.2.2)) [69] O .scf ⟨Ua,ø⟩ (fun hc=>Zc (b:=i.2.2) O O) O (JLh (BL ((Hk.has g d)||(!i.2.2))) (Zj O O O O) O (G6 (b2 (JCc O h (fun h hb=>?_) (fun h hb=>?_)))))))))))))))))
    ·
     refine Jr fun b3=>(JLm (.sc (.pointer none)) O (JLm (BL false) O (G6 (b3 (H1 ?_)))))
     cases h
    ·
     refine Gi (a9 (G1 (JLm (.ptr 1103 0) O (JLh (.ptr 1103 0) (G91 O O) O (JLh (.ptr 1103 3) (Ho G2a O O) O (JLh (.mp 1104) (Hq G3a O O O O) O (JLm (I64 d) O (JLm (E7 e) O (J9 (u:=.junk) (H10 (m:=g) (a:=d) (v:=(e:Int)) (fun _=>O) O O O O O O Ja2 G29) (G6 (a5 (G1 (JLh (I64 ((e+1:Nat):Int)) (Hv (Hi p c8) O O O) O (JLm (I64 ((e+1:Nat):Int)) O (G6 (d0 _ _ (e+1) (Hk.put g d (e:Int)) (app1 a4 h) (by omega) ⟨(.sm O O),⟨fmQ O,⟨_,rfl,.same⟩,fbQ O (.sm O O),ø⟩,rfl⟩))))))))))))))))
   ·
    have h:=app1 t (Hs o (Hb hb))
    refine Hc (c6 (Jr fun b4=>(JLm (.ptr 1103 0) O (JLm (.ptr 1103 0) O (JLm (BL true) O (G6 (b4 (R9 (l':=[(4,.ptr 1103 0),(5,BL true)]) (L':=[(1104,TP 103 Ef I64 g),(1103,.box 105 [LS 1 (E1) c.1,I64 c.2.1,E1 c.2.2.1,.mp 1104,E3 c.2.2.2.1,I64 c.2.2.2.2])]) ⟨(.sm O O),⟨⟨_,O,.map⟩,⟨_,O,.boxL O ⟨.list O,.same O,.same O,.same O,.same O,.same O,ø⟩⟩,ø⟩,O⟩ (H1 ?_)))))))))
    obtain rfl:=Ex h
    exact⟨[.ptr 1103 0,BL true],[(1103,.box 105 [LS 1 (E1) c.1,I64 c.2.1,E1 c.2.2.1,.mp 1104,E3 c.2.2.2.1,I64 c.2.2.2.2]),(1104,TP 103 Ef I64 g)],⟨fbQ O (.sm O O),fmQ O,ø⟩,rfl,⟨⟨_,rfl,.conv (.same rfl)⟩,⟨_,rfl,.conv (.same rfl)⟩,ø⟩,rfl,rfl⟩

def Yb (y:Gn) (order:List Int):Option Bool:=
 bnd (Zt y) fun j=>
 bif (!j) then
 (some false)
 else
 (each (fun i l (a:(List (List Int))×Int×(List Int)×(List Gx)×Int) f=>
   bnd (Ri i) fun d=>
   need (decide ((a.1.length+[d].length)*24≤140737488355328∧a.1.length+[d].length≤maxLen)) <|
   f ((a.1++[d]),a.2.1,a.2.2.1,a.2.2.2.1,a.2.2.2.2))
  (fun(a:(List (List Int))×Int×(List Int)×(List Gx)×Int)=>
   each (fun b g (c:(Hk Int Int)) e=>
    bnd (Zu y b) fun h=>
    bnd (some (Hk.get c b 0)) fun k=>
    bif ((Hk.has c b)||(!h.2.2)) then
    (some false)
    else
    (e (Hk.put c b (g:Int))))
   (fun(c:(Hk Int Int))=>
    none) order 0 (Hk.empty:Hk Int Int)) y.Stacks 0 ([],y.Height,order,[],0))
abbrev Ea (a:(List (List Int))×Int×(List Int)×(List Gx)×Int):List AV:=[OW 1066 1 (E1) a.1,I64 a.2.1,E1 a.2.2.1,.mp 1104,E3 a.2.2.2.1,I64 a.2.2.2.2]
theorem H3b (y:Gn) (order:List Int) (r:Bool) (h:Yb y order=some r):Pure E8 57 [.agg [LS 1 (E1) y.Stacks,I64 y.Height],E1 order] (·=.tup [.sc (.pointer none),BL r]):=by
 unfold Yb at h
 refine Hd [.tmp 4,.tmp 5] Try.func57 O O (Jr fun d1=>(JLh (.ptr 1065 0) (Qf (cs:=[LS 1 (E1) y.Stacks,I64 y.Height]) 1065 O O O O O) O (JLm (.sc (.pointer none)) O (JLm (BL false) O (G6 (d1 (H5 [(1,E1 order),(2,.dptr [LS 1 (E1) y.Stacks,I64 y.Height])] [] 1065 rfl rfl rfl ø rfl (by exact⟨.conv (.same rfl),.ptr,ø⟩) (Js fun d2=>Jr fun d3=>(JLh (.agg [LS 1 (E1) y.Stacks,I64 y.Height]) (Gv Hj O O O) O ?_)))))))))
 obtain⟨w,d4,h⟩:=Gd h
 refine JLh (BL w) (Gu O (G61 y w d4) J06 ⟨O,O,ø⟩) O (JLh (BL (!w)) (Zc (b:=w) O O) O (G6 (d3 (JCc O h (fun h hb=>?_) (fun h hb=>?_)))))
 ·
  refine Jr fun d5=>(JLm (.sc (.pointer none)) O (JLm (BL false) O (G6 (d5 (H1 (⟨[.sc (.pointer none),BL false],[],ø,O,⟨⟨_,O,.conv (.same O)⟩,⟨_,O,.conv (.same O)⟩,ø⟩,O,congrArg (fun r:Bool=>(.tup [.sc (.pointer none),BL r]:AV)) (Ex h)⟩))))))
 ·
  refine Gi (d2 ?_)
  refine Jr fun d6=>(JLh (.dptr [I64 y.Height]) (Gz Yg O O O) O (JLh (I64 y.Height) (Gm Gj O O O) O (JLm (E1 order) O (JLh (.mp 1104) (H84 1104 Ef I64 O O) O (JLh (.agg [.sc (.slice none 0 0),I64 y.Height,E1 order,.mp 1104,E3 ([]:List Gx),I64 0]) (Jo (cs:=[.sc (.slice none 0 0),I64 y.Height,E1 order,.mp 1104,E3 ([]:List Gx),I64 0]) [(0,1),(1,1),(2,1),(3,1),(4,1),(5,1)] [.sc (.slice none 0 0),I64 0,E1 ([]:List Int),.sc (.map none),E3 ([]:List Gx),I64 0] [.slice none 0 0,E0,.slice none 0 0,.map none,.slice none 0 0,E0] H5a Hd4 ⟨.inl O,.inl O,.inr ⟨_,O,O⟩,.inl O,.inr ⟨_,O,O⟩,.inl O,ø⟩ O O) O (JLh (.ptr 1103 0) (Qf (cs:=[.sc (.slice none 0 0),I64 y.Height,E1 order,.mp 1104,E3 ([]:List Gx),I64 0]) 1103 O O O O O) O ?_))))))
  refine H7f 1103 0 1066 25 1 O O O (cs':=[OW 1066 1 (E1) ([]:List (List Int)),I64 y.Height,E1 order,.mp 1104,E3 ([]:List Gx),I64 0]) O (JLm (.ptr 1103 0) O (G6 (d6 (Js fun d7=>Jr fun d8=>(JLh (.dptr [LS 1 (E1) y.Stacks,I64 y.Height]) (Gz Hx O O O) O (JLh (LS 1 (E1) y.Stacks) (Gm Gp O O O) O (JLl Gc O O O fun b5=>(JLm (I64 0) O (G6 (d8 (Gf ?_)))))))))))
  obtain⟨d9,b6,b7,x,h⟩:=J4 h
  refine H9 (fun k (c:(List (List Int))×Int×(List Int)×(List Gx)×Int)=>each d9 b6 (List.drop k y.Stacks) k c=some r) (fun k c=>[(1,E1 order),(2,.dptr [LS 1 (E1) y.Stacks,I64 y.Height]),(6,.ptr 1103 0),(26,LS 1 (E1) y.Stacks),(27,E7 y.Stacks.length),(28,E7 k)]) (fun k c=>[(1104,TP 103 Ef I64 (Hk.empty:Hk Int Int)),(1066,.spare 25 1 c.1.length c.1.length),(1103,.box 105 (Ea c))]) (fun k=>y.Stacks.length - k) 0 ([],y.Height,order,[],0) h ⟨(.sm O O),⟨fmQ O,⟨_,rfl,.same⟩,fbQ O (.sm O O),ø⟩,rfl⟩ ?_
  clear h
  intro k c q e4 e0
  refine Jr fun b8=>(JLh (BL (decide ((k:Int) < (y.Stacks.length:Int)))) (Hy O O O) O (G6 (b8 (Js fun b9=>Gh O (fun hb=>?_) (fun hb=>?_)))))
  ·
   have s:=Jn hb
   obtain⟨l,e2,c0,c1,h⟩:=Hr q s
   replace h:=Yi b7 h
   refine Gi (b9 (Js fun c2=>Gf (Jr fun c3=>(JLh (.dptr [E1 l]) (Gy (f:=(E1)) (xs:=y.Stacks) (y:=l) O O O Gc c0 O) O (JLh (E1 l) (Gm H3 O O O) O (JLm (E1 l) O (G6 (c3 ?_))))))))
   refine R9 (l':=[(1,E1 order),(2,.dptr [LS 1 (E1) y.Stacks,I64 y.Height]),(6,.ptr 1103 0),(8,E1 l),(26,LS 1 (E1) y.Stacks),(27,E7 y.Stacks.length),(28,E7 k)]) (L':=[(1104,TP 103 Ef I64 (Hk.empty:Hk Int Int)),(1066,.spare 25 1 c.1.length c.1.length),(1103,.box 105 (Ea c))]) ⟨(.sm O O),⟨fmQ O,⟨_,rfl,.same⟩,fbQ O (.sm O O),ø⟩,rfl⟩ ?_
   obtain⟨j,c4,h⟩:=Gd h
   obtain⟨c5,h⟩:=Hu h
   refine Ju [8,11] [0,0,0,0,0,0,0,0,0,1,1,0] [1,0,0,0,0,0,0,0,0,1,1,0] [[(1104,TP 103 Ef I64 (Hk.empty:Hk Int Int)),(1066,.spare 25 1 c.1.length c.1.length),(1103,.box 105 (Ea c))],((1066,.spare 25 1 (c.1++[j]).length (c.1++[j]).length)::[(1104,TP 103 Ef I64 (Hk.empty:Hk Int Int)),(1066,.spare 25 1 c.1.length c.1.length),(1103,.box 105 (Ea c))]),((1103,.box 105 [OW 1066 1 (E1) (c.1++[j]),I64 c.2.1,E1 c.2.2.1,.mp 1104,E3 c.2.2.2.1,I64 c.2.2.2.2])::((1066,.spare 25 1 (c.1++[j]).length (c.1++[j]).length)::[(1104,TP 103 Ef I64 (Hk.empty:Hk Int Int)),(1066,.spare 25 1 c.1.length c.1.length),(1103,.box 105 (Ea c))]))] Jm (by kernel_rfl) rfl rfl ?_
   refine Gb (u:=.ptr 1103 0) O O ⟨Ga (G2 O O) O,Ga (G2 O O) O,ø⟩ (Gb (u:=.ptr 1103 0) O O ⟨Ga (G2 O O) O,ø⟩ (Gb (u:=.ptr 1103 0) O O ⟨Ga (G91 O O) O,ø⟩ (Gb (u:=.ptr 1103 0) O O ⟨Ga (Ho G2b O O) O,ø⟩ (Gb (u:=OW 1066 1 (E1) c.1) O O ⟨Ga (Hq Gp O O O O) O,ø⟩ (Gb (u:=E1 l) O O ⟨Ga (G2 O O) O,ø⟩ (Gb (u:=E1 j) O O ⟨Ga (Gu O (G90 l j c4) Hfe ⟨O,O,ø⟩) O,ø⟩ (Gb (u:=LS 1 (E1) [j]) O O ⟨Ga (H8 (xs:=[E1 j]) O ⟨O,O,ø⟩ Gc Yp O O O O) O,ø⟩ (D_w (u:=OW 1066 1 (E1) (c.1++[j])) O O O O (Ga (R4 (f:=(E1)) (xs:=c.1) (ys:=[j]) O O O O Gc G44 c5 (fun _=>O) (.inl O) O) O) (Gb (u:=.ptr 1103 0) O O ⟨Ga (G91 O O) O,ø⟩ (Gb (u:=.ptr 1103 0) O O ⟨Ga (Ho G2b O O) O,ø⟩ (H3c (u:=.junk) O O O O (Ga (Hp (u:=OW 1066 1 (E1) (c.1++[j])) (ds:=[OW 1066 1 (E1) (c.1++[j]),I64 c.2.1,E1 c.2.2.1,.mp 1104,E3 c.2.2.2.1,I64 c.2.2.2.2]) Gaa O O O O O O O O) O) (Ro ?_))))))))))))
   refine c2 (G1 (JLh (I64 ((k+1:Nat):Int)) (Hv (Hi s b5) O O O) O (JLm (I64 ((k+1:Nat):Int)) O (G6 (e0 _ _ (k+1) ((c.1++[j]),c.2.1,c.2.2.1,c.2.2.2.1,c.2.2.2.2) (app1 c1 h) (by omega) ⟨(.sm O O),⟨fmQ O,⟨_,rfl,.same⟩,fbQ O (.sm O O),ø⟩,rfl⟩)))))
  ·
   have h:=app1 x (Hs q (Hb hb))
   refine Hc (d7 (Js fun c6=>Jr fun c7=>(JLm (E1 order) O (JLl G7 O O O fun c8=>(JLm (I64 0) O (G6 (c7 (Gf ?_))))))))
   obtain⟨c9,z,a0,t,h⟩:=J4 h
   refine H9 (fun e (i:(Hk Int Int))=>each c9 z (List.drop e order) e i=some r) (fun e i=>[(2,.dptr [LS 1 (E1) y.Stacks,I64 y.Height]),(6,.ptr 1103 0),(44,E1 order),(45,E7 order.length),(46,E7 e)]) (fun e i=>[(1104,TP 103 Ef I64 i),(1066,.spare 25 1 c.1.length c.1.length),(1103,.box 105 (Ea c))]) (fun e=>order.length - e) 0 (Hk.empty:Hk Int Int) h ⟨(.sm O O),⟨fmQ O,⟨_,rfl,.same⟩,fbQ O (.sm O O),ø⟩,rfl⟩ ?_
   clear h
   intro e i o e3 d0
   refine Jr fun a1=>(JLh (BL (decide ((e:Int) < (order.length:Int)))) (Hy O O O) O (G6 (a1 (Js fun a2=>Gh O (fun hb=>?_) (fun hb=>?_)))))
   ·
    have p:=Jn hb
    obtain⟨d,e1,a3,a4,h⟩:=Hr o p
    replace h:=Yi a0 h
    refine Gi (a2 (Js fun a5=>Gf (Jr fun a6=>(JLm (E7 e) O (JLh (.dptr [I64 d]) (Gy (f:=I64) (xs:=order) (y:=d) O O O G7 a3 O) O (JLh (I64 d) (Gm Gj O O O) O (JLm (E7 e) O (JLm (I64 d) O (G6 (a6 (Jr fun a7=>(JLh (.agg [LS 1 (E1) y.Stacks,I64 y.Height]) (Gv Hj O O O) O (JLm (I64 d) O ?_)))))))))))))
    obtain⟨g,a8,h⟩:=Gd h
    refine JLh (.tup [I64 g.1,I64 g.2.1,BL g.2.2]) (Gu O (Gd7 y d g a8) H67 ⟨O,O,O,O,ø⟩) O (JLm (.tup [I64 g.1,I64 g.2.1,BL g.2.2]) O (JLh (I64 g.1) (Gr O O O) O (JLh (I64 g.2.1) (Gr O O O) O (JLh (BL g.2.2) (Gr O O O) O (JLm (I64 g.1) O (JLm (I64 g.2.1) O (JLm (BL g.2.2) O (G6 (a7 (Js fun a9=>Jr fun b0=>(JLm (.ptr 1103 0) O (JLh (.ptr 1103 0) (G91 O O) O (JLh (.ptr 1103 3) (Ho G2a O O) O (JLh (.mp 1104) (Hq G3a O O O O) O (JLm (I64 d) O ?_)))))))))))))))
    obtain⟨n,b1,h⟩:=Gd h
    refine JLh (.tup [I64 n,BL (Hk.has i d)]) (((Ex b1) ▸ H85 (av:=I64) (m:=i) (a:=d) 0 E0 (fun _=>O) O (.own O) O Ja2 G29 H41 O)) O (JLm (.tup [I64 n,BL (Hk.has i d)]) O (JLh (I64 n) (Gr O O O) O (JLh (BL (Hk.has i d)) (Gr O O O) O (JLm (I64 n) O (JLm (BL (Hk.has i d)) O (G6 (b0 (Jr fun b2=>(JLm (BL (Hk.has i d)) O (JLm (BL (Hk.has i d)) O (JLo (BL g.2.2) [] O .scf ø (fun hc=>G2 O O) O (JLo (BL (!g.2.2)) [69] O .scf ⟨Ua,ø⟩ (fun hc=>Zc (b:=g.2.2) O O) O (JLh (BL ((Hk.has i d)||(!g.2.2))) (Zj O O O O) O (G6 (b2 (JCc O h (fun h hb=>?_) (fun h hb=>?_)))))))))))))))))
    ·
     refine Jr fun b3=>(JLm (.sc (.pointer none)) O (JLm (BL false) O (G6 (b3 (H1 (⟨[.sc (.pointer none),BL false],[],ø,O,⟨⟨_,O,.conv (.same O)⟩,⟨_,O,.conv (.same O)⟩,ø⟩,O,congrArg (fun r:Bool=>(.tup [.sc (.pointer none),BL r]:AV)) (Ex h)⟩))))))
    ·
     refine Gi (a9 (G1 (JLm (.ptr 1103 0) O (JLh (.ptr 1103 0) (G91 O O) O (JLh (.ptr 1103 3) (Ho G2a O O) O (JLh (.mp 1104) (Hq G3a O O O O) O (JLm (I64 d) O (JLm (E7 e) O (J9 (u:=.junk) (H10 (m:=i) (a:=d) (v:=(e:Int)) (fun _=>O) O O O O O O Ja2 G29) (G6 (a5 (G1 (JLh (I64 ((e+1:Nat):Int)) (Hv (Hi p c8) O O O) O (JLm (I64 ((e+1:Nat):Int)) O (G6 (d0 _ _ (e+1) (Hk.put i d (e:Int)) (app1 a4 h) (by omega) ⟨(.sm O O),⟨fmQ O,⟨_,rfl,.same⟩,fbQ O (.sm O O),ø⟩,rfl⟩))))))))))))))))
   ·
    have h:=app1 t (Hs o (Hb hb))
    refine Hc (c6 (Jr fun b4=>(JLm (.ptr 1103 0) O (JLm (.ptr 1103 0) O (JLm (BL true) O (G6 (b4 (R9 (l':=[(4,.ptr 1103 0),(5,BL true)]) (L':=[(1104,TP 103 Ef I64 i),(1103,.box 105 [LS 1 (E1) c.1,I64 c.2.1,E1 c.2.2.1,.mp 1104,E3 c.2.2.2.1,I64 c.2.2.2.2])]) ⟨(.sm O O),⟨⟨_,O,.map⟩,⟨_,O,.boxL O ⟨.list O,.same O,.same O,.same O,.same O,.same O,ø⟩⟩,ø⟩,O⟩ (H1 ?_)))))))))
    cases h

def Z2 (j:Hn) (box:Int):Option Int:=
 bnd (some (Hk.get j.ranks box 0)) fun a=>
 bif (Hk.has j.ranks box) then
 (some a)
 else
 (some (j.order.length:Int))
theorem H1b (j:Hn) (box:Int) (r:Int) (h:Z2 j box=some r):Pure E8 82 [.dptr (Hn.cs j),I64 box] (·=I64 r):=by
 unfold Z2 at h
 refine Hd [.tmp 4] Try.func82 O O (Jr fun c=>(JLm (I64 0) O (G6 (c (Js fun d=>Jr fun e=>(JLm (E6 j) O (JLh (E6 j) (H3f O O) O (JLh (.dptr ((Hn.cs j).drop 3)) (Gz G2a O O O) O (JLh (DM Ef I64 j.ranks) (Gm G3a O O O) O (JLm (I64 box) O ?_))))))))))
 obtain⟨b,f,h⟩:=Gd h
 refine JLh (.tup [I64 b,BL (Hk.has j.ranks box)]) (((Ex f) ▸ H85 (av:=I64) (m:=j.ranks) (a:=box) 0 E0 (fun _=>O) O .data O Ja2 G29 H41 O)) O (JLm (.tup [I64 b,BL (Hk.has j.ranks box)]) O (JLh (I64 b) (Gr O O O) O (JLh (BL (Hk.has j.ranks box)) (Gr O O O) O (JLm (I64 b) O (JLm (BL (Hk.has j.ranks box)) O (G6 (e (Jr fun g=>(JLm (BL (Hk.has j.ranks box)) O (G6 (g (JCc O h (fun h hb=>?_) (fun h hb=>?_)))))))))))))
 ·
  refine Jr fun i=>(JLm (I64 b) O (JLm (I64 b) O (G6 (i (H1 (fin1 I64 h))))))
 ·
  refine Gi (d (Jr fun k=>(JLm (E6 j) O (JLh (E6 j) (H3f O O) O (JLh (.dptr ((Hn.cs j).drop 2)) (Gz H23 O O O) O (JLh (E1 j.order) (Gm H3 O O O) O (JLl G7 O O O fun l=>(JLm (E7 j.order.length) O (G6 (k (H1 (fin1 I64 h))))))))))))

def Za (j:Hn):Option Int:=
 each (fun k m (e:Int) g=>
  each (fun h l (a:Int×Int) f=>
   jp (fun b=>
    bnd (Z2 j h) fun c=>
    bif decide (a.2 < c) then
    (chk (a.1+1) fun i=>
     b (i,a.2))
    else
    (b (a.1,c))) fun(d:Int×Int)=>
   f (d.1,d.2))
  (fun(a:Int×Int)=>
   g a.1) k 0 (e,(j.order.length:Int)))
 (fun(e:Int)=>
  some e) j.stacks 0 0
theorem H3a (j:Hn) (r:Int) (h:Za j=some r):Pure E8 58 [.dptr (Hn.cs j)] (·=I64 r):=by
 unfold Za at h
 refine Hd [.tmp 2] Try.func58 O O (Jr fun b2=>(JLm (I64 0) O (G6 (b2 (Jr fun b3=>(JLm (I64 0) O (G6 (b3 (Js fun b4=>Jr fun b6=>(JLm (E6 j) O (JLh (E6 j) (H3f O O) O (JLh (E6 j) (Gz G2b O O O) O (JLh (LS 1 (E1) j.stacks) (Gm Gp O O O) O (JLl Gc O O O fun t=>(JLm (I64 0) O (G6 (b6 (Gf ?_))))))))))))))))))
 obtain⟨b5,b7,b8,u,h⟩:=J4 h
 refine H9 (fun c (k:Int)=>each b5 b7 (List.drop c j.stacks) c k=some r) (fun c k=>[(0,E6 j),(3,I64 k),(13,LS 1 (E1) j.stacks),(14,E7 j.stacks.length),(15,E7 c)]) (fun c k=>[]) (fun c=>j.stacks.length - c) 0 0 h ⟨(.sm O O),ø,rfl⟩ ?_
 clear h
 intro c k q K5 e5
 refine Jr fun b9=>(JLh (BL (decide ((c:Int) < (j.stacks.length:Int)))) (Hy O O O) O (G6 (b9 (Js fun c0=>Gh O (fun hb=>?_) (fun hb=>?_)))))
 ·
  have s:=Jn hb
  obtain⟨d,d1,c1,c2,h⟩:=Hr q s
  replace h:=Yi b8 h
  refine Gi (c0 (Js fun c3=>Gf (Jr fun c4=>(JLh (.dptr [E1 d]) (Gy (f:=(E1)) (xs:=j.stacks) (y:=d) O O O Gc c1 O) O (JLh (E1 d) (Gm H3 O O O) O (JLm (E1 d) O (G6 (c4 (Jr fun v=>(JLm (E6 j) O (JLh (E6 j) (H3f O O) O (JLh (.dptr ((Hn.cs j).drop 2)) (Gz H23 O O O) O (JLh (E1 j.order) (Gm H3 O O O) O (JLl G7 O O O fun c9=>(JLm (E7 j.order.length) O (G6 (v (Jr fun w=>(JLm (E1 d) O (JLl G7 O O O fun x=>(JLm (I64 0) O (G6 (w (Gf ?_))))))))))))))))))))))))
  obtain⟨c5,z,a0,o,h⟩:=J4 h
  refine H9 (fun a (b:Int×Int)=>each c5 z (List.drop a d) a b=some r) (fun a b=>[(0,E6 j),(3,I64 b.1),(6,I64 b.2),(13,LS 1 (E1) j.stacks),(14,E7 j.stacks.length),(15,E7 c),(24,E1 d),(25,E7 d.length),(26,E7 a)]) (fun a b=>[]) (fun a=>d.length - a) 0 (k,(j.order.length:Int)) h ⟨(.sm O O),ø,rfl⟩ ?_
  clear h
  intro a b l d2 c6
  refine Jr fun a1=>(JLh (BL (decide ((a:Int) < (d.length:Int)))) (Hy O O O) O (G6 (a1 (Js fun a2=>Gh O (fun hb=>?_) (fun hb=>?_)))))
  ·
   have m:=Jn hb
   obtain⟨i,d0,a3,a4,h⟩:=Hr l m
   replace h:=Yi a0 h
   refine Gi (a2 ?_)
   obtain⟨a5,p,h⟩:=G08 h
   refine Yw (fun e:Int×Int=>a5 e=some r) (fun e=>[(0,E6 j),(3,I64 e.1),(6,I64 e.2),(13,LS 1 (E1) j.stacks),(14,E7 j.stacks.length),(15,E7 c),(24,E1 d),(25,E7 d.length),(26,E7 a)]) (fun e=>[]) (fun Kj33 ej33=>?_) ?_
   ·
    refine Gf (Jr fun a6=>(JLh (.dptr [I64 i]) (Gy (f:=I64) (xs:=d) (y:=i) O O O G7 a3 O) O (JLh (I64 i) (Gm Gj O O O) O (JLm (I64 i) O (G6 (a6 (Jr fun a7=>(JLm (E6 j) O (JLm (I64 i) O ?_)))))))))
    obtain⟨g,a8,h⟩:=Gd h
    refine JLh (I64 g) (Gu O (H1b j i g a8) Jf5 ⟨O,O,O,O,ø⟩) O (JLm (I64 g) O (G6 (a7 (Jr fun a9=>(JLm (I64 g) O (JLm (I64 b.2) O (JLh (BL (decide (b.2 < g))) (Z3 O O O) O (G6 (a9 (JCc O h (fun h hb=>?_) (fun h hb=>?_)))))))))))
    ·
     refine G1 (JLm (I64 b.1) O ?_)
     obtain⟨n,b0,h⟩:=Jb h
     refine JLh (I64 n) (Hv b0 O O O) O (JLm (I64 n) O (G6 (ej33 _ _ (n,b.2) h ⟨(.sm O O),ø,rfl⟩)))
    ·
     refine G1 (JLm (I64 g) O (JLm (I64 g) O (G6 (ej33 _ _ (b.1,g) h ⟨(.sm O O),ø,rfl⟩))))
   ·intro e h
    replace h:=app1 p h
    refine G1 (JLh (I64 ((a+1:Nat):Int)) (Hv (Hi m x) O O O) O (JLm (I64 ((a+1:Nat):Int)) O (G6 (c6 _ _ (a+1) (e.1,e.2) (app1 a4 h) (by omega) ⟨(.sm O O),ø,rfl⟩))))
  ·
   have h:=app1 o (Hs l (Hb hb))
   refine Hc (c3 (G1 (JLh (I64 ((c+1:Nat):Int)) (Hv (Hi s t) O O O) O (JLm (I64 ((c+1:Nat):Int)) O (G6 (e5 _ _ (c+1) b.1 (app1 c2 h) (by omega) ⟨(.sm O O),ø,rfl⟩))))))
 ·
  have h:=app1 u (Hs q (Hb hb))
  refine Hc (b4 (Jr fun b1=>(JLm (I64 k) O (JLm (I64 k) O (G6 (b1 (H1 (fin1 I64 h))))))))

def Qq (y:Gn) (order:List Int):Option (Int×Int):=
 bif (Qp y order).isSome then
 (bnd (Qp y order) fun a=>
  bif (!a.2) then
  (some (0,2))
  else
  (bnd (Za a.1) fun c=>
   some (c,0)))
 else
 (bnd (Yb y order) fun b=>
  bif (!b) then
  (some (0,2))
  else
  (none))
theorem Zb (y:Gn) (order:List Int) (r:Int×Int) (h:Qq y order=some r):Pure E8 26 [.agg [LS 1 (E1) y.Stacks,I64 y.Height],E1 order] (·=.tup [I64 r.1,I64 r.2]):=by
 unfold Qq at h
 refine Hd [.tmp 4,.tmp 5] Try.func26 O O (Jr fun l=>(JLh (.ptr 1039 0) (Qf (cs:=[LS 1 (E1) y.Stacks,I64 y.Height]) 1039 O O O O O) O (JLm (I64 0) O (JLm (I64 0) O (G6 (l (H5 [(1,E1 order),(2,.dptr [LS 1 (E1) y.Stacks,I64 y.Height])] [] 1039 rfl rfl rfl ø rfl (by exact⟨.conv (.same rfl),.ptr,ø⟩) (Jr fun f=>(JLh (.agg [LS 1 (E1) y.Stacks,I64 y.Height]) (Gv Hj O O O) O (JLm (E1 order) O ((Bool.eq_false_or_eq_true (Qp y order).isSome).elim (fun d=>?_) (fun d=>?_))))))))))))
 ·
  replace h:=H7 d h
  obtain⟨a,m,h⟩:=Gd h
  refine JLh (.tup [.ptr 1103 0,BL a.2]) (Hb2 (args:=[.agg [LS 1 (E1) y.Stacks,I64 y.Height],E1 order]) (L0:=[]) (Lr:=[(1103,.box 105 [LS 1 (E1) a.1.stacks,I64 a.1.height,E1 a.1.order,.mp 1104,E3 a.1.steps,I64 a.1.next]),(1104,TP 103 Ef I64 a.1.ranks)]) O (H7e y order a m) J03 ⟨.inl O,O,.inl O,O,ø⟩ ø O O O) O (JLm (.tup [.ptr 1103 0,BL a.2]) O (JLh (.ptr 1103 0) (Gr O O O) O (JLh (BL a.2) (Gr O O O) O (JLm (.ptr 1103 0) O (JLm (BL a.2) O (G6 (f (Js fun n=>Jr fun o=>(JLm (BL a.2) O (JLh (BL (!a.2)) (Zc (b:=a.2) O O) O (G6 (o (JCc O h (fun h hb=>?_) (fun h hb=>?_))))))))))))))
  ·
   refine Jr fun p=>(JLm (I64 0) O (JLm (I64 2) O (G6 (p (H1 (⟨[I64 0,I64 2],[],ø,O,⟨⟨_,O,.conv (.same O)⟩,⟨_,O,.conv (.same O)⟩,ø⟩,O,congrArg (fun r:Int×Int=>(.tup [I64 r.1,I64 r.2]:AV)) (Ex h)⟩))))))
  ·
   refine Gi (n (Jr fun q=>(JLm (.ptr 1103 0) O ?_)))
   obtain⟨e,s,h⟩:=Gd h
   refine JLh (I64 e) (Je6 (args:=[.dptr (Hn.cs a.1)]) O (H3a a.1 e s) Jfd ⟨.ptrL O (dnQ 3 O O ⟨.mp O,.data O O,.data O O,ø⟩),ø⟩ O) O (JLm (I64 e) O (JLm (I64 0) O (G6 (q (H1 (⟨[I64 e,I64 0],[],ø,O,⟨⟨_,O,.conv (.same O)⟩,⟨_,O,.conv (.same O)⟩,ø⟩,O,congrArg (fun r:Int×Int=>(.tup [I64 r.1,I64 r.2]:AV)) (Ex h)⟩))))))
 ·
  replace h:=Ht d h
  obtain⟨c,g,h⟩:=Gd h
  refine JLh (.tup [.sc (.pointer none),BL c]) (Gu O (H3b y order c g) J03 ⟨O,O,O,O,ø⟩) O (JLm (.tup [.sc (.pointer none),BL c]) O (JLh (.sc (.pointer none)) (Gr O O O) O (JLh (BL c) (Gr O O O) O (JLm (.sc (.pointer none)) O (JLm (BL c) O (G6 (f (Js fun i=>Jr fun j=>(JLm (BL c) O (JLh (BL (!c)) (Zc (b:=c) O O) O (G6 (j (JCc O h (fun h hb=>?_) (fun h hb=>?_))))))))))))))
  ·
   refine Jr fun k=>(JLm (I64 0) O (JLm (I64 2) O (G6 (k (H1 (⟨[I64 0,I64 2],[],ø,O,⟨⟨_,O,.conv (.same O)⟩,⟨_,O,.conv (.same O)⟩,ø⟩,O,congrArg (fun r:Int×Int=>(.tup [I64 r.1,I64 r.2]:AV)) (Ex h)⟩))))))
  ·
   refine Gi (i (Jr fun t=>(JLm (.sc (.pointer none)) O ?_)))
   cases h

def Jt (a:List G5) (b:List G5):Option Bool:=
 bif decide ((a.length:Int)≠(b.length:Int)) then
 (some false)
 else
 (each (fun d e (f:Unit) c=>
   R1 b (e:Int) fun g=>
   bif (!decide (d=g)) then
   (some false)
   else
   (c ()))
  (fun(f:Unit)=>
   some true) a 0 ())
theorem Qx (a:List G5) (b:List G5) (r:Bool) (h:Jt a b=some r):Pure E8 20 [E2 a,E2 b] (·=BL r):=by
 unfold Jt at h
 refine Hd [.tmp 4] Try.func20 O O (Jr fun a0=>(JLm (BL false) O (G6 (a0 (Js fun a1=>Jr fun a2=>(JLm (E2 a) O (JLl Jh O O O fun a9=>(JLm (E2 b) O (JLl Jh O O O fun b0=>(JLh (BL (decide ((a.length:Int)≠(b.length:Int)))) (Zh O O O) O (G6 (a2 (JCc O h (fun h hb=>?_) (fun h hb=>?_))))))))))))))
 ·
  refine Jr fun a3=>(JLm (BL false) O (G6 (a3 (H1 (fin1 BL h)))))
 ·
  refine Gi (a1 (Js fun a4=>Jr fun a5=>(JLm (I64 0) O (G6 (a5 (Gf ?_))))))
  obtain⟨a6,l,m,k,h⟩:=J4 h
  refine H9 (fun c (g:Unit)=>each a6 l (List.drop c a) c g=some r) (fun c g=>[(0,E2 a),(1,E2 b),(5,E7 c)]) (fun c g=>[]) (fun c=>a.length - c) 0 () h ⟨(.sm O O),ø,O⟩ ?_
  clear h
  intro c g i b1 a7
  refine Js fun n=>Jr fun o=>(JLm (E7 c) O (JLm (E2 a) O (JLl Jh O O O fun p=>(JLh (BL (decide ((c:Int) < (a.length:Int)))) (Hy O O O) O (G6 (o (Gh O (fun hb=>?_) (fun hb=>?_))))))))
  ·
   have j:=Jn hb
   obtain⟨d,a8,q,s,h⟩:=Hr i j
   replace h:=Yi m h
   refine Gi (n (Js fun t=>Gf (Js fun u=>?_)))
   obtain⟨b2,e,v,w,h⟩:=Qw h
   refine JC_d0 Jm (by kernel_rfl) (Dq (E2 a) (G2 O O) O (Dq (E7 c) (G2 O O) O (Dq (.dptr [I64 d.From,I64 d.To]) (Gy (f:=G5.av) (xs:=a) (y:=d) O O O Jh q O) O (Dq (.agg [I64 d.From,I64 d.To]) (Gv G4c O O O) O (Dq (E2 b) (G2 O O) O (Dq (E7 c) (G2 O O) O (Dq (.dptr [I64 e.From,I64 e.To]) (Gy (f:=G5.av) (xs:=b) (y:=e) O O O Jh w v) O (Dq (.agg [I64 e.From,I64 e.To]) (Gv G4c O O O) O (Dq (BL (!decide (d=e))) (R20 (vs:=[.int .i64 d.From,.int .i64 d.To]) (us:=[.int .i64 e.From,.int .i64 e.To]) 4 O (R94 d e) Ja8 Q77 O O O) O (Dnil (u (JCc O h (fun h hb=>?_) (fun h hb=>?_)))))))))))))
   ·
    refine Jr fun x=>(JLm (BL false) O (G6 (x (H1 (fin1 BL h)))))
   ·
    refine Gi (t (G1 (JLm (E7 c) O (JLh (I64 ((c+1:Nat):Int)) (Hv (Hi j p) O O O) O (JLm (I64 ((c+1:Nat):Int)) O (G6 (a7 _ _ (c+1) () (app1 s h) (by omega) ⟨(.sm O O),ø,rfl⟩)))))))
  ·
   have h:=app1 k (Hs i (Hb hb))
   refine Hc (a4 (Jr fun z=>(JLm (BL true) O (G6 (z (H1 (fin1 BL h)))))))

def Rn (y:Gn) (order:List Int):Option (Bool×Int):=
 bnd (Qq y order) fun a=>
 some (((decide (a.2=0))&&(decide (a.1=0))),a.2)
theorem Gbb (y:Gn) (order:List Int) (r:Bool×Int) (h:Rn y order=some r):Pure E8 22 [.agg [LS 1 (E1) y.Stacks,I64 y.Height],E1 order] (·=.tup [BL r.1,I64 r.2]):=by
 unfold Rn at h
 refine Hd [.tmp 4,.tmp 5] Try.func22 O O (Jr fun b=>(JLh (.ptr 1032 0) (Qf (cs:=[LS 1 (E1) y.Stacks,I64 y.Height]) 1032 O O O O O) O (JLm (BL false) O (JLm (I64 0) O (G6 (b (H5 [(1,E1 order),(2,.dptr [LS 1 (E1) y.Stacks,I64 y.Height])] [] 1032 rfl rfl rfl ø rfl (by exact⟨.conv (.same rfl),.ptr,ø⟩) (Jr fun c=>(JLh (.agg [LS 1 (E1) y.Stacks,I64 y.Height]) (Gv Hj O O O) O (JLm (E1 order) O ?_))))))))))
 obtain⟨a,d,h⟩:=Gd h
 refine JLh (.tup [I64 a.1,I64 a.2]) (Gu O (Zb y order a d) Gad ⟨O,O,O,O,ø⟩) O (JLm (.tup [I64 a.1,I64 a.2]) O (JLh (I64 a.1) (Gr O O O) O (JLh (I64 a.2) (Gr O O O) O (JLm (I64 a.1) O (JLm (I64 a.2) O (G6 (c (Jr fun e=>(JLm (I64 a.2) O (JLh (BL (decide (a.2=0))) (Yd O O O) O (JLm (BL (decide (a.2=0))) O (JLo (I64 a.1) [] O .sct ø (fun hc=>G2 O O) O (JLo (BL (decide (a.1=0))) [17] O .sct ⟨Ua,ø⟩ (fun hc=>Yd O O O) O (JLh (BL ((decide (a.2=0))&&(decide (a.1=0)))) (Ye O O O O) O (JLm (I64 a.2) O (JLm (BL ((decide (a.2=0))&&(decide (a.1=0)))) O (JLm (I64 a.2) O (G6 (e (H1 ?_))))))))))))))))))))
 exact⟨[BL ((decide (a.2=0))&&(decide (a.1=0))),I64 a.2],[],ø,O,⟨⟨_,O,.conv (.same O)⟩,⟨_,O,.conv (.same O)⟩,ø⟩,O,congrArg (fun r:Bool×Int=>(.tup [BL r.1,I64 r.2]:AV)) (Ex h)⟩

def Qa (order:List Int) (box:Int):Option Int:=
 bnd (Rh order box) fun a=>
 bif decide (0≤a) then
 (some a)
 else
 (some (order.length:Int))
theorem Rz (order:List Int) (box:Int) (r:Int) (h:Qa order box=some r):Pure E8 40 [E1 order,I64 box] (·=I64 r):=by
 unfold Qa at h
 refine Hd [.tmp 4] Try.func40 O O (Jr fun b=>(JLm (I64 0) O (G6 (b (Js fun c=>Jr fun d=>(JLm (E1 order) O (JLm (I64 box) O ?_)))))))
 obtain⟨a,e,h⟩:=Gd h
 refine JLh (I64 a) (Gu O (G8f order box a e) J01 ⟨O,O,O,O,ø⟩) O (JLm (I64 a) O (G6 (d (Jr fun f=>(JLm (I64 a) O (JLh (BL (decide (0≤a))) (G54 O O O) O (G6 (f (JCc O h (fun h hb=>?_) (fun h hb=>?_))))))))))
 ·
  refine Jr fun g=>(JLm (I64 a) O (JLm (I64 a) O (G6 (g (H1 (fin1 I64 h))))))
 ·
  refine Gi (c (Jr fun i=>(JLm (E1 order) O (JLl G7 O O O fun j=>(JLm (E7 order.length) O (G6 (i (H1 (fin1 I64 h)))))))))

def Rf (y:Gn) (order:List Int):Option (List Int):=
 each (fun j l (e:(List Int)) g=>
  each (fun b k (a:Int×(List Int)) f=>
   bnd (Qa order b) fun d=>
   jp (fun c=>
    bif decide (a.1 < d) then
    (need (decide ((a.2.length+[b].length)*8≤140737488355328∧a.2.length+[b].length≤maxLen)) <|
     c (a.2++[b]))
    else
    (c a.2)) fun(h:(List Int))=>
   f ((min a.1 d),h))
  (fun(a:Int×(List Int))=>
   g a.2) j 0 ((order.length:Int),e))
 (fun(e:(List Int))=>
  bnd (J0a e) fun i=>
  some i) y.Stacks 0 []
theorem H14 (y:Gn) (order:List Int) (r:(List Int)) (h:Rf y order=some r):Pure E8 50 [.agg [LS 1 (E1) y.Stacks,I64 y.Height],E1 order] (·=E1 r):=by
 unfold Rf at h
 refine Hd [.tmp 4] Try.func50 O O (Jr fun b4=>(JLh (.ptr 1060 0) (Qf (cs:=[LS 1 (E1) y.Stacks,I64 y.Height]) 1060 O O O O O) O (JLh (E1 ([]:List Int)) (Jk 1 O O) O (G6 (b4 (H5 [(1,E1 order),(2,.dptr [LS 1 (E1) y.Stacks,I64 y.Height])] [] 1060 rfl rfl rfl ø rfl (by exact⟨.conv (.same rfl),.ptr,ø⟩) (Jr fun b6=>(JLh (.vec 1062 (([]:List Int).length) 1 (([]:List Int).length)) (H3d 1062 3 1 O O O) O (G6 (b6 (Js fun b7=>Jr fun b8=>(JLh (.dptr [LS 1 (E1) y.Stacks,I64 y.Height]) (Gz Hx O O O) O (JLh (LS 1 (E1) y.Stacks) (Gm Gp O O O) O (JLl Gc O O O fun s=>(JLm (I64 0) O (G6 (b8 (Gf ?_))))))))))))))))))
 obtain⟨b5,b9,c0,t,h⟩:=J4 h
 refine H9 (fun g (d:(List Int))=>each b5 b9 (List.drop g y.Stacks) g d=some r) (fun g d=>[(1,E1 order),(5,.vec 1062 d.length 1 d.length),(13,LS 1 (E1) y.Stacks),(14,E7 y.Stacks.length),(15,E7 g)]) (fun g d=>[(1062,.vec 3 1 d.length (d.map I64))]) (fun g=>y.Stacks.length - g) 0 [] h ⟨(.sm O O),⟨⟨_,rfl,.vec⟩,ø⟩,rfl⟩ ?_
 clear h
 intro g d o K5 e5
 refine Jr fun c1=>(JLh (BL (decide ((g:Int) < (y.Stacks.length:Int)))) (Hy O O O) O (G6 (c1 (Js fun c2=>Gh O (fun hb=>?_) (fun hb=>?_)))))
 ·
  have p:=Jn hb
  obtain⟨j,d3,c3,c4,h⟩:=Hr o p
  replace h:=Yi c0 h
  refine Gi (c2 (Js fun c5=>Gf (Jr fun c6=>(JLh (.dptr [E1 j]) (Gy (f:=(E1)) (xs:=y.Stacks) (y:=j) O O O Gc c3 O) O (JLh (E1 j) (Gm H3 O O O) O (JLm (E1 j) O (G6 (c6 (Jr fun u=>(JLm (E1 order) O (JLl G7 O O O fun d1=>(JLm (E7 order.length) O (G6 (u (Jr fun v=>(JLm (E1 j) O (JLl G7 O O O fun w=>(JLm (I64 0) O (G6 (v (Gf ?_)))))))))))))))))))))
  obtain⟨c7,x,z,m,h⟩:=J4 h
  refine H9 (fun c (a:Int×(List Int))=>each c7 x (List.drop c j) c a=some r) (fun c a=>[(1,E1 order),(5,.vec 1062 a.2.length 1 a.2.length),(8,I64 a.1),(13,LS 1 (E1) y.Stacks),(14,E7 y.Stacks.length),(15,E7 g),(21,E1 j),(22,E7 j.length),(23,E7 c)]) (fun c a=>[(1062,.vec 3 1 a.2.length (a.2.map I64))]) (fun c=>j.length - c) 0 ((order.length:Int),d) h ⟨(.sm O O),⟨⟨_,rfl,.vec⟩,ø⟩,rfl⟩ ?_
  clear h
  intro c a k d4 c8
  refine Jr fun a0=>(JLh (BL (decide ((c:Int) < (j.length:Int)))) (Hy O O O) O (G6 (a0 (Js fun a1=>Gh O (fun hb=>?_) (fun hb=>?_)))))
  ·
   have l:=Jn hb
   obtain⟨b,d2,a2,a3,h⟩:=Hr k l
   replace h:=Yi z h
   refine Gi (a1 (Js fun a4=>Gf (Jr fun a5=>(JLh (.dptr [I64 b]) (Gy (f:=I64) (xs:=j) (y:=b) O O O G7 a2 O) O (JLh (I64 b) (Gm Gj O O O) O (JLm (I64 b) O (G6 (a5 (Jr fun a6=>(JLm (E1 order) O (JLm (I64 b) O ?_)))))))))))
   obtain⟨e,a7,h⟩:=Gd h
   refine JLh (I64 e) (Gu O (Rz order b e a7) G45 ⟨O,O,O,O,ø⟩) O (JLm (I64 e) O (G6 (a6 ?_)))
   obtain⟨a8,n,h⟩:=G08 h
   refine Yw (fun i:(List Int)=>a8 i=some r) (fun i=>[(1,E1 order),(5,.vec 1062 i.length 1 i.length),(8,I64 a.1),(11,I64 e),(13,LS 1 (E1) y.Stacks),(14,E7 y.Stacks.length),(15,E7 g),(21,E1 j),(22,E7 j.length),(23,E7 c)]) (fun i=>[(1062,.vec 3 1 i.length (i.map I64))]) (fun Kj67 ej67=>?_) ?_
   ·
    refine Jr fun a9=>(JLm (I64 e) O (JLm (I64 a.1) O (JLh (BL (decide (a.1 < e))) (Z3 O O O) O (G6 (a9 (JCc O h (fun h hb=>?_) (fun h hb=>?_)))))))
    ·
     refine G1 (JLm (.vec 1062 a.2.length 1 a.2.length) O (JLm (I64 b) O (JLh (E1 [b]) (H8 (xs:=[I64 b]) O ⟨O,O,ø⟩ G7 J8 O O O O) O ?_)))
     obtain⟨b0,h⟩:=Hu h
     refine JLh (.vec 1062 ((a.2++[b]).length) 1 ((a.2++[b]).length)) (G7f (f:=I64) (xs:=a.2) (ys:=[b]) (ver:=a.2.length) (ver1:=(a.2++[b]).length) rfl rfl rfl rfl G7 Q3 b0 (fun _=>rfl) (.inl rfl) (by simp)) O (JLm (.vec 1062 ((a.2++[b]).length) 1 ((a.2++[b]).length)) O (G6 (ej67 _ _ (a.2++[b]) h ⟨(.sm O O),⟨⟨_,rfl,.vec⟩,ø⟩,rfl⟩)))
    ·
     refine Gi (ej67 _ _ a.2 h ⟨(.sm O O),⟨⟨_,rfl,.vec⟩,ø⟩,rfl⟩)
   ·intro i h
    replace h:=app1 n h
    refine G1 (JLm (I64 a.1) O (JLm (I64 e) O (JLh (I64 (min a.1 e)) (Q6f O O O) O (JLm (I64 (min a.1 e)) O (G6 (a4 (G1 (JLh (I64 ((c+1:Nat):Int)) (Hv (Hi l w) O O O) O (JLm (I64 ((c+1:Nat):Int)) O (G6 (c8 _ _ (c+1) ((min a.1 e),i) (app1 a3 h) (by omega) ⟨(.sm O O),⟨⟨_,rfl,.vec⟩,ø⟩,rfl⟩)))))))))))
  ·
   have h:=app1 m (Hs k (Hb hb))
   refine Hc (c5 (G1 (JLh (I64 ((g+1:Nat):Int)) (Hv (Hi p s) O O O) O (JLm (I64 ((g+1:Nat):Int)) O (G6 (e5 _ _ (g+1) a.2 (app1 c4 h) (by omega) ⟨(.sm O O),⟨⟨_,rfl,.vec⟩,ø⟩,rfl⟩))))))
 ·
  have h:=app1 t (Hs o (Hb hb))
  refine Hc (b7 (Jr fun b1=>(JLm (.vec 1062 d.length 1 d.length) O ?_)))
  obtain⟨q,b2,h⟩:=Gd h
  refine JLh (.tup []) (Q6b (F:=77) (xs:=d) (r:=q) O Hd8 H8c J00 O O O b2 O) O (G6 (b1 (Jr fun b3=>(JLm (.vec 1062 d.length 1 d.length) O (JLm (.vec 1062 d.length 1 d.length) O (G6 (b3 (H0e [(4,E1 q)] [] 1062 rfl rfl ø rfl (by exact⟨.vec,ø⟩) (H1 (fin1 (fun r:(List Int)=>(E1 r:AV)) h))))))))))

def Rs (y:Gn) (order:List Int):Option ((List Int)×Int):=
 bnd (Qq y order) fun a=>
 bif decide (a.2≠0) then
 (some ([],a.2))
 else
 (bnd (Rf y order) fun b=>
  some (b,0))
theorem G96 (y:Gn) (order:List Int) (r:(List Int)×Int) (h:Rs y order=some r):Pure E8 23 [.agg [LS 1 (E1) y.Stacks,I64 y.Height],E1 order] (·=.tup [E1 r.1,I64 r.2]):=by
 unfold Rs at h
 refine Hd [.tmp 4,.tmp 5] Try.func23 O O (Jr fun c=>(JLh (.ptr 1033 0) (Qf (cs:=[LS 1 (E1) y.Stacks,I64 y.Height]) 1033 O O O O O) O (JLh (E1 ([]:List Int)) (Jk 1 O O) O (JLm (I64 0) O (G6 (c (H5 [(1,E1 order),(2,.dptr [LS 1 (E1) y.Stacks,I64 y.Height])] [] 1033 rfl rfl rfl ø rfl (by exact⟨.conv (.same rfl),.ptr,ø⟩) (Js fun d=>Jr fun e=>(JLh (.agg [LS 1 (E1) y.Stacks,I64 y.Height]) (Gv Hj O O O) O (JLm (E1 order) O ?_))))))))))
 obtain⟨a,f,h⟩:=Gd h
 refine JLh (.tup [I64 a.1,I64 a.2]) (Gu O (Zb y order a f) Gad ⟨O,O,O,O,ø⟩) O (JLm (.tup [I64 a.1,I64 a.2]) O (JLh (I64 a.1) (Gr O O O) O (JLh (I64 a.2) (Gr O O O) O (JLm (I64 a.1) O (JLm (I64 a.2) O (G6 (e (Jr fun g=>(JLm (I64 a.2) O (JLh (BL (decide (a.2≠0))) (Zh O O O) O (G6 (g (JCc O h (fun h hb=>?_) (fun h hb=>?_))))))))))))))
 ·
  refine Jr fun i=>(JLm (I64 a.2) O (JLh (E1 ([]:List Int)) (Jk 1 O O) O (JLm (I64 a.2) O (G6 (i (H1 (⟨[E1 ([]:List Int),I64 a.2],[],ø,O,⟨⟨_,O,.conv (.same O)⟩,⟨_,O,.conv (.same O)⟩,ø⟩,O,congrArg (fun r:(List Int)×Int=>(.tup [E1 r.1,I64 r.2]:AV)) (Ex h)⟩)))))))
 ·
  refine Gi (d (Jr fun j=>(JLh (.agg [LS 1 (E1) y.Stacks,I64 y.Height]) (Gv Hj O O O) O (JLm (E1 order) O ?_))))
  obtain⟨b,k,h⟩:=Gd h
  refine JLh (E1 b) (Gu O (H14 y order b k) H68 ⟨O,O,O,O,ø⟩) O (JLm (E1 b) O (JLm (I64 0) O (G6 (j (H1 (⟨[E1 b,I64 0],[],ø,O,⟨⟨_,O,.conv (.same O)⟩,⟨_,O,.conv (.same O)⟩,ø⟩,O,congrArg (fun r:(List Int)×Int=>(.tup [E1 r.1,I64 r.2]:AV)) (Ex h)⟩))))))

def R0 (y:Gn) (order:List Int) (from_:Int) (rank:Int):Option Int:=
 each (fun e f (a:Int×Int) g=>
  jp (fun c=>
   bif ((decide ((f:Int)=from_))||(decide ((e.length:Int)=y.Height))) then
   (c (a.1,a.2))
   else
   (chk ((order.length:Int)+1) fun h=>
    each (fun i l (b:Int) d=>
     bnd (Qa order i) fun j=>
     d (min b j))
    (fun(b:Int)=>
     bif ((decide (rank≤b))&&((decide (a.1 < 0))||(decide (b < a.2)))) then
     (c ((f:Int),b))
     else
     (c (a.1,a.2))) e 0 h)) fun(k:Int×Int)=>
  g (k.1,k.2))
 (fun(a:Int×Int)=>
  some a.1) y.Stacks 0 ((-1),0)
theorem Ha9 (y:Gn) (order:List Int) (from_:Int) (rank:Int) (r:Int) (h:R0 y order from_ rank=some r):Pure E8 56 [.agg [LS 1 (E1) y.Stacks,I64 y.Height],E1 order,I64 from_,I64 rank] (·=I64 r):=by
 unfold R0 at h
 refine Hd [.tmp 8] Try.func56 O O (Jr fun b4=>(JLh (.ptr 1064 0) (Qf (cs:=[LS 1 (E1) y.Stacks,I64 y.Height]) 1064 O O O O O) O (JLm (I64 0) O (G6 (b4 (fzQ [(1,E1 order),(2,I64 from_),(3,I64 rank),(4,.dptr [LS 1 (E1) y.Stacks,I64 y.Height])] [] 1064 rfl rfl rfl ø rfl (Jr fun b6=>(JLm (I64 (-1)) O (JLm (I64 0) O (G6 (b6 (Js fun b7=>Jr fun b8=>(JLh (.dptr [LS 1 (E1) y.Stacks,I64 y.Height]) (Gz Hx O O O) O (JLh (LS 1 (E1) y.Stacks) (Gm Gp O O O) O (JLl Gc O O O fun q=>(JLm (I64 0) O (G6 (b8 (Gf ?_)))))))))))))))))))
 obtain⟨b5,b9,c0,s,h⟩:=J4 h
 refine H9 (fun b (c:Int×Int)=>each b5 b9 (List.drop b y.Stacks) b c=some r) (fun b c=>[(1,E1 order),(2,I64 from_),(3,I64 rank),(4,.dptr [LS 1 (E1) y.Stacks,I64 y.Height]),(9,I64 c.1),(10,I64 c.2),(17,LS 1 (E1) y.Stacks),(18,E7 y.Stacks.length),(19,E7 b)]) (fun b c=>[]) (fun b=>y.Stacks.length - b) 0 ((-1),0) h ⟨(.sm O O),ø,rfl⟩ ?_
 clear h
 intro b c o K5 e5
 refine Jr fun c1=>(JLh (BL (decide ((b:Int) < (y.Stacks.length:Int)))) (Hy O O O) O (G6 (c1 (Js fun c2=>Gh O (fun hb=>?_) (fun hb=>?_)))))
 ·
  have p:=Jn hb
  obtain⟨e,d3,c3,c4,h⟩:=Hr o p
  replace h:=Yi c0 h
  refine Gi (c2 ?_)
  obtain⟨c5,t,h⟩:=G08 h
  refine Yw (fun i:Int×Int=>c5 i=some r) (fun i=>[(1,E1 order),(2,I64 from_),(3,I64 rank),(4,.dptr [LS 1 (E1) y.Stacks,I64 y.Height]),(9,I64 i.1),(10,I64 i.2),(17,LS 1 (E1) y.Stacks),(18,E7 y.Stacks.length),(19,E7 b)]) (fun i=>[]) (fun Kj8 ej8=>?_) ?_
  ·
   refine Gf (Jr fun c6=>(JLm (E7 b) O (JLh (.dptr [E1 e]) (Gy (f:=(E1)) (xs:=y.Stacks) (y:=e) O O O Gc c3 O) O (JLh (E1 e) (Gm H3 O O O) O (JLm (E7 b) O (JLm (E1 e) O (G6 (c6 (Js fun v=>?_)))))))))
   refine Jr fun w=>(JLm (E7 b) O (JLm (I64 from_) O (JLh (BL (decide ((b:Int)=from_))) (Yd O O O) O (JLm (BL (decide ((b:Int)=from_))) O (JLo (E1 e) [] O .scf ø (fun hc=>G2 O O) O (JLo (E7 e.length) [28] O .scf ⟨Ua,ø⟩ (fun hc=>Qj (f:=I64) (xs:=e) G7 O O) O (JLo (.dptr [I64 y.Height]) [] O .scf ø (fun hc=>Gz Yg O O O) O (JLo (I64 y.Height) [30] O .scf ⟨Ua,ø⟩ (fun hc=>Gm Gj O O O) O (JLo (BL (decide ((e.length:Int)=y.Height))) [29,31] O .scf ⟨Ua,Ua,ø⟩ (fun hc=>Yd O O O) O (JLh (BL ((decide ((b:Int)=from_))||(decide ((e.length:Int)=y.Height)))) (Zj O O O O) O (G6 (w (JCc O h (fun h hb=>?_) (fun h hb=>?_))))))))))))))
   ·
    refine Hc (ej8 _ _ (c.1,c.2) h ⟨(.sm O O),ø,rfl⟩)
   ·
    refine Gi (v (Jr fun x=>(JLm (E1 order) O (JLl G7 O O O fun d1=>?_))))
    obtain⟨k,z,h⟩:=Jb h
    refine JLh (I64 k) (Hv z O O O) O (JLm (I64 k) O (G6 (x (Js fun a0=>Jr fun a1=>(JLm (E1 e) O (JLl G7 O O O fun a2=>(JLm (I64 0) O (G6 (a1 (Gf ?_))))))))))
    obtain⟨c7,a3,a4,n,h⟩:=J4 h
    refine H9 (fun d (a:Int)=>each c7 a3 (List.drop d e) d a=some r) (fun d a=>[(1,E1 order),(2,I64 from_),(3,I64 rank),(4,.dptr [LS 1 (E1) y.Stacks,I64 y.Height]),(9,I64 c.1),(10,I64 c.2),(11,E7 b),(13,I64 a),(17,LS 1 (E1) y.Stacks),(18,E7 y.Stacks.length),(19,E7 b),(37,E1 e),(38,E7 e.length),(39,E7 d)]) (fun d a=>[]) (fun d=>e.length - d) 0 k h ⟨(.sm O O),ø,rfl⟩ ?_
    clear h
    intro d a l d4 c8
    refine Jr fun a5=>(JLh (BL (decide ((d:Int) < (e.length:Int)))) (Hy O O O) O (G6 (a5 (Js fun a6=>Gh O (fun hb=>?_) (fun hb=>?_)))))
    ·
     have m:=Jn hb
     obtain⟨g,d2,a7,a8,h⟩:=Hr l m
     replace h:=Yi a4 h
     refine Gi (a6 (Js fun a9=>Gf (Jr fun b0=>(JLh (.dptr [I64 g]) (Gy (f:=I64) (xs:=e) (y:=g) O O O G7 a7 O) O (JLh (I64 g) (Gm Gj O O O) O (JLm (I64 g) O (G6 (b0 (G1 (JLm (I64 a) O (JLm (E1 order) O (JLm (I64 g) O ?_))))))))))))
     obtain⟨j,b1,h⟩:=Gd h
     refine JLh (I64 j) (Gu O (Rz order g j b1) G45 ⟨O,O,O,O,ø⟩) O (JLh (I64 (min a j)) (Q6f O O O) O (JLm (I64 (min a j)) O (G6 (a9 (G1 (JLh (I64 ((d+1:Nat):Int)) (Hv (Hi m a2) O O O) O (JLm (I64 ((d+1:Nat):Int)) O (G6 (c8 _ _ (d+1) (min a j) (app1 a8 h) (by omega) ⟨(.sm O O),ø,rfl⟩)))))))))
    ·
     have h:=app1 n (Hs l (Hb hb))
     refine Hc (a0 (Jr fun b2=>(JLm (I64 a) O (JLm (I64 rank) O (JLh (BL (decide (rank≤a))) (G54 O O O) O (JLm (BL (decide (rank≤a))) O (JLo (I64 c.1) [] O .sct ø (fun hc=>G2 O O) O (JLo (BL (decide (c.1 < 0))) [53] O .sct ⟨Ua,ø⟩ (fun hc=>Hy O O O) O (JLo (BL (decide (c.1 < 0))) [54] O .sct ⟨Ua,ø⟩ (fun hc=>G2 O O) O (JLo (I64 a) [] O .optf ø (fun hc=>G2 O O) O (JLo (I64 c.2) [] O .optf ø (fun hc=>G2 O O) O (JLo (BL (decide (a < c.2))) [56,57] O .optf ⟨Ua,Ua,ø⟩ (fun hc=>Hy O O O) O (Ge (u:=BL ((decide (c.1 < 0))||(decide (a < c.2)))) [(55,BL (decide (c.1 < 0))),(58,_)] O O O .sct ⟨.all id,.part,ø⟩ (fun hc=>Zj O O O O) ?_)))))))))))))
     refine JLh (BL ((decide (rank≤a))&&((decide (c.1 < 0))||(decide (a < c.2))))) (Ye O O O O) O (G6 (b2 (JCc O h (fun h hb=>?_) (fun h hb=>?_))))
     ·
      refine G1 (JLm (E7 b) O (JLm (I64 a) O (JLm (E7 b) O (JLm (I64 a) O (G6 (ej8 _ _ ((b:Int),a) h ⟨(.sm O O),ø,rfl⟩))))))
     ·
      refine Gi (ej8 _ _ (c.1,c.2) h ⟨(.sm O O),ø,rfl⟩)
  ·intro i h
   replace h:=app1 t h
   refine G1 (JLh (I64 ((b+1:Nat):Int)) (Hv (Hi p q) O O O) O (JLm (I64 ((b+1:Nat):Int)) O (G6 (e5 _ _ (b+1) (i.1,i.2) (app1 c4 h) (by omega) ⟨(.sm O O),ø,rfl⟩))))
 ·
  have h:=app1 s (Hs o (Hb hb))
  refine Hc (b7 (Jr fun b3=>(JLm (I64 c.1) O (JLm (I64 c.1) O (G6 (b3 (H1 (fin1 I64 h))))))))
end
end Go.Proofs.Ytokjlondbjdlfaa
