/- Walks of functions. -/
import Derived.Test.YtokjlondbjdlfaaSortLay
import Derived.Test.YtokjlondbjdlfaaIterD
import Derived.Test.YtokjlondbjdlfaaIterD
import Derived.Test.YtokjlondbjdlfaaIterD
import Derived.Test.YtokjlondbjdlfaaIterD
import Derived.Test.YtokjlondbjdlfaaIterD
import Derived.Test.YtokjlondbjdlfaaIterD
set_option maxRecDepth 100000
set_option maxHeartbeats 1000000
set_option linter.unusedVariables false
set_option linter.unusedSimpArgs false
namespace Go.Proofs.Ytokjlondbjdlfaa
open Go.RowKit
noncomputable section
abbrev E8:=Try.prog
structure Gm where
 Stacks:List (List Int)
 Height:Int
 deriving DecidableEq,Inhabited
def Gm.cs (x:Gm):List AV:=[LS 1 (E1) x.Stacks,I64 x.Height]
structure Gz where
 Box:Int
 From:Int
 To:Int
 deriving DecidableEq,Inhabited
def Gz.cs (x:Gz):List AV:=[I64 x.Box,I64 x.From,I64 x.To]
def Gz.av (x:Gz):AV:=.agg x.cs
abbrev E3:=LS 3 Gz.av
structure Hu where
 stacks:List (List Int)
 height:Int
 order:List Int
 ranks:Hs Int Int
 steps:List Gz
 next:Int
 deriving Inhabited
def Hu.cs (x:Hu):List AV:=[LS 1 (E1) x.stacks,I64 x.height,E1 x.order,DM Ef I64 x.ranks,E3 x.steps,I64 x.next]
abbrev E6 (x:Hu):AV:=.dptr (Hu.cs x)
structure G3 where
 From:Int
 To:Int
 deriving DecidableEq,Inhabited
def G3.cs (x:G3):List AV:=[I64 x.From,I64 x.To]
def G3.av (x:G3):AV:=.agg x.cs
abbrev E2:=LS 2 G3.av
namespace XAF
theorem Red (a b:G3):Hc4 E8 4 39 [.int .i64 a.From,.int .i64 a.To] [.int .i64 b.From,.int .i64 b.To]=some (decide (a=b)):=by
 refine(show _=some ((a.From==b.From)&&((a.To==b.To)&&true)) by kernel_rfl).trans (congrArg some ?_)
 rw [Bool.eq_iff_iff]
 simp only [Ki,beq_iff_eq,Kj,Bool.and_true]
 constructor
 ·intro h; obtain⟨_,_⟩:=a; obtain⟨_,_⟩:=b; simp_all
 ·intro h; subst h; simp
theorem H8:Gcc E8 24 2=true:=by kernel_rfl
theorem G2a:Gcc E8 39 2=true:=by kernel_rfl
theorem Je0:G17 E8 39=true:=by kernel_rfl
theorem G89:Hr E8 26=true:=by kernel_rfl
theorem G5f:Hr E8 40=true:=by kernel_rfl
theorem H87:Hr E8 44=true:=by kernel_rfl
theorem H86:Hr E8 50=true:=by kernel_rfl
theorem H85:Hr E8 55=true:=by kernel_rfl
theorem J2d:Hr E8 57=true:=by kernel_rfl
theorem Q3d:Hr E8 58=true:=by kernel_rfl
theorem J2b:Hr E8 72=true:=by kernel_rfl
theorem J2a:Hr E8 77=true:=by kernel_rfl
theorem J28:Hr E8 81=true:=by kernel_rfl
theorem Q35:Hr E8 82=true:=by kernel_rfl
theorem G5e:Qt E8 25 1 24=true:=by kernel_rfl
theorem Qz:Qt E8 3 1 8=true:=by kernel_rfl
theorem Qb9:E8.eqGuardType E8.depth 39=false:=by kernel_rfl
theorem G38:Rx E8 105 0 0=true:=by kernel_rfl
theorem H39:Rx E8 105 2 2=true:=by kernel_rfl
theorem G37:Rx E8 105 3 3=true:=by kernel_rfl
theorem Hp:Rx E8 24 0 0=true:=by kernel_rfl
theorem Rv:Rx E8 24 1 1=true:=by kernel_rfl
theorem G36:Yq E8 103 3 3=true:=by kernel_rfl
theorem Jp:E8.follows .mixedOrders=true:=by kernel_rfl
theorem H78:placesOf E8 105=some [(0,1),(1,1),(2,1),(3,1),(4,1),(5,1)]:=by kernel_rfl
theorem G4e:Qs E8 103=true:=by kernel_rfl
theorem Gs:Qs E8 22=true:=by kernel_rfl
theorem H5:Qs E8 25=true:=by kernel_rfl
theorem Gn:Qs E8 3=true:=by kernel_rfl
theorem Gc2:Y6 E8 22 1=true:=by kernel_rfl
theorem Gf:sliceB E8 22 25 1=true:=by kernel_rfl
theorem G7:sliceB E8 25 3 1=true:=by kernel_rfl
theorem Hx:sliceB E8 26 39 2=true:=by kernel_rfl
theorem Hf6:(E8.info? 105).bind (fun i=>i.zero.map Value.cells)=some (List.toArray [.slice none 0 0,E0,.slice none 0 0,.map none,.slice none 0 0,E0]):=by kernel_rfl
theorem Zq:Qk E8 25 1=true:=by kernel_rfl
theorem Jg:Qk E8 3 1=true:=by kernel_rfl
theorem H5a:(E8.info? 3).bind (·.zero)=some E0:=by kernel_rfl
theorem Jda:G76 E8 3 Ef:=G76.of_int (by kernel_rfl)
end XAF
open XAF

def Zo (y:Gm):Option Bool:=
 bif ((((decide (y.Height < 1))||(decide (6 < y.Height)))||(decide ((y.Stacks.length:Int) < 1)))||(decide (30 < (y.Stacks.length:Int)))) then
 (some false)
 else
 (each (fun e k (f:(Hs Int Int)) g=>
   bif decide (y.Height < (e.length:Int)) then
   (some false)
   else
   (each (fun a j (b:(Hs Int Int)) d=>
     bnd (some (Hs.get b a 0)) fun h=>
     chk (h+1) fun c=>
     bnd (bif (!((decide (a < 1))||(decide (999999 < a)))) then some (Hs.get (Hs.put b a c) a 0) else some 0) fun i=>
     bif (((decide (a < 1))||(decide (999999 < a)))||(decide (1 < i))) then
     (some false)
     else
     (d (Hs.put b a c)))
    (fun(b:(Hs Int Int))=>
     g b) e 0 f))
  (fun(f:(Hs Int Int))=>
   some true) y.Stacks 0 (Hs.empty:Hs Int Int))
theorem G3f (y:Gm) (r:Bool) (h:Zo y=some r):Pure E8 44 [.agg [LS 1 (E1) y.Stacks,I64 y.Height]] (·=BL r):=by
 unfold Zo at h
 refine He [.tmp 2] Try.func44 O O (Jr fun c1=>(JLh (.ptr 1061 0) (Qr (cs:=[LS 1 (E1) y.Stacks,I64 y.Height]) 1061 O O O O O) O (JLm (BL false) O (G6 (c1 (H2 [(1,.dptr [LS 1 (E1) y.Stacks,I64 y.Height])] [] 1061 rfl rfl rfl ø rfl (by exact⟨.ptr,ø⟩) (Js fun c2=>?_)))))))
 refine Jr fun c3=>(JLh (.dptr [I64 y.Height]) (Gy Rv O O O) O (JLh (I64 y.Height) (Gp Gn O O O) O (JLh (BL (decide (y.Height < 1))) (J1 O O O) O (JLm (BL (decide (y.Height < 1))) O (JLo (.dptr [I64 y.Height]) [] O .scf ø (fun hc=>Gy Rv O O O) O (JLo (I64 y.Height) [12] O .scf ⟨Ua,ø⟩ (fun hc=>Gp Gn O O O) O (JLo (BL (decide (6 < y.Height))) [13] O .scf ⟨Ua,ø⟩ (fun hc=>Yp O O O) O (JLh (BL ((decide (y.Height < 1))||(decide (6 < y.Height)))) (Yn O O O O) O (JLm (BL ((decide (y.Height < 1))||(decide (6 < y.Height)))) O (JLo (.dptr [LS 1 (E1) y.Stacks,I64 y.Height]) [] O .scf ø (fun hc=>Gy Hp O O O) O (JLo (LS 1 (E1) y.Stacks) [17] O .scf ⟨Ua,ø⟩ (fun hc=>Gp Gs O O O) O (JLo (E7 y.Stacks.length) [18] O .scf ⟨Ua,ø⟩ (fun hc=>Jx (f:=(E1)) (xs:=y.Stacks) Gf O O) O (JLo (BL (decide ((y.Stacks.length:Int) < 1))) [19] O .scf ⟨Ua,ø⟩ (fun hc=>J1 O O O) O ?_)))))))))))))
 refine JLh (BL (((decide (y.Height < 1))||(decide (6 < y.Height)))||(decide ((y.Stacks.length:Int) < 1)))) (Yn O O O O) O (JLm (BL (((decide (y.Height < 1))||(decide (6 < y.Height)))||(decide ((y.Stacks.length:Int) < 1)))) O (JLo (.dptr [LS 1 (E1) y.Stacks,I64 y.Height]) [] O .scf ø (fun hc=>Gy Hp O O O) O (JLo (LS 1 (E1) y.Stacks) [23] O .scf ⟨Ua,ø⟩ (fun hc=>Gp Gs O O O) O (JLo (E7 y.Stacks.length) [24] O .scf ⟨Ua,ø⟩ (fun hc=>Jx (f:=(E1)) (xs:=y.Stacks) Gf O O) O (JLo (BL (decide (30 < (y.Stacks.length:Int)))) [25] O .scf ⟨Ua,ø⟩ (fun hc=>Yp O O O) O (JLh (BL ((((decide (y.Height < 1))||(decide (6 < y.Height)))||(decide ((y.Stacks.length:Int) < 1)))||(decide (30 < (y.Stacks.length:Int))))) (Yn O O O O) O (G6 (c3 ?_))))))))
 refine JCc O h ?_ ?_<;>intro h hb
 ·
  refine Jr fun c4=>(JLm (BL false) O (G6 (c4 (H0 (fin1 BL h)))))
 ·
  refine Gi (c2 (Jr fun c5=>(JLh (.mp 1062) (Ha3 1062 Ef I64 O O) O (JLm (.mp 1062) O (G6 (c5 (Js fun c6=>Jr fun c7=>(JLh (.dptr [LS 1 (E1) y.Stacks,I64 y.Height]) (Gy Hp O O O) O (JLh (LS 1 (E1) y.Stacks) (Gp Gs O O O) O (JLl Gf O O O fun s=>(JLm (I64 0) O (G6 (c7 (Gg ?_))))))))))))))
  obtain⟨b8,c8,c9,t,h⟩:=J6 h
  refine H9 (fun e (j:(Hs Int Int))=>each b8 c8 (List.drop e y.Stacks) e j=some r) (fun e j=>[(1,.dptr [LS 1 (E1) y.Stacks,I64 y.Height]),(3,.mp 1062),(30,LS 1 (E1) y.Stacks),(31,E7 y.Stacks.length),(32,E7 e)]) (fun e j=>[(1062,TP 103 Ef I64 j)]) (fun e=>y.Stacks.length - e) 0 (Hs.empty:Hs Int Int) h ⟨(.sm O O),⟨fmQ O,ø⟩,rfl⟩ ?_
  clear h
  intro e j p K8 e8
  refine Jr fun d0=>(JLh (BL (decide ((e:Int) < (y.Stacks.length:Int)))) (J1 O O O) O (G6 (d0 (Js fun w=>Gh O (fun hb=>?_) (fun hb=>?_)))))
  ·
   have q:=Jj hb
   obtain⟨g,e0,d1,d2,h⟩:=Hv p q
   replace h:=Yr c9 h
   refine Gi (w (Js fun x=>Gg (Jr fun z=>(JLh (.dptr [E1 g]) (H1 (f:=(E1)) (xs:=y.Stacks) (y:=g) O O O Gf d1 O) O (JLh (E1 g) (Gp H5 O O O) O (JLm (E1 g) O (G6 (z (Js fun a0=>Jr fun a1=>(JLm (E1 g) O (JLl G7 O O O fun d8=>(JLh (.dptr [I64 y.Height]) (Gy Rv O O O) O (JLh (I64 y.Height) (Gp Gn O O O) O (JLh (BL (decide (y.Height < (g.length:Int)))) (Yp O O O) O (G6 (a1 (JCc O h (fun h hb=>?_) (fun h hb=>?_))))))))))))))))))
   ·
    refine Jr fun a2=>(JLm (BL false) O (G6 (a2 (H0 (fin1 BL h)))))
   ·
    refine Gi (a0 (Jr fun a3=>(JLm (E1 g) O (JLl G7 O O O fun a4=>(JLm (I64 0) O (G6 (a3 (Gg ?_))))))))
    obtain⟨d3,a5,a6,o,h⟩:=J6 h
    refine H9 (fun c (d:(Hs Int Int))=>each d3 a5 (List.drop c g) c d=some r) (fun c d=>[(1,.dptr [LS 1 (E1) y.Stacks,I64 y.Height]),(3,.mp 1062),(30,LS 1 (E1) y.Stacks),(31,E7 y.Stacks.length),(32,E7 e),(41,E1 g),(42,E7 g.length),(43,E7 c)]) (fun c d=>[(1062,TP 103 Ef I64 d)]) (fun c=>g.length - c) 0 j h ⟨(.sm O O),⟨fmQ O,ø⟩,rfl⟩ ?_
    clear h
    intro c d k e1 d4
    refine Jr fun a7=>(JLh (BL (decide ((c:Int) < (g.length:Int)))) (J1 O O O) O (G6 (a7 (Js fun a8=>Gh O (fun hb=>?_) (fun hb=>?_)))))
    ·
     have l:=Jj hb
     obtain⟨b,d9,a9,b0,h⟩:=Hv k l
     replace h:=Yr a6 h
     refine Gi (a8 (Js fun b1=>Gg (Jr fun b2=>(JLh (.dptr [I64 b]) (H1 (f:=I64) (xs:=g) (y:=b) O O O G7 a9 O) O (JLh (I64 b) (Gp Gn O O O) O (JLm (I64 b) O (G6 (b2 (Jr fun b3=>(JLm (.mp 1062) O (JLm (I64 b) O ?_)))))))))))
     obtain⟨d5,b4,h⟩:=Gd h
     refine JLh (I64 d5) (((Ex b4) ▸ J75 (av:=I64) (m:=d) (a:=b) 0 E0 (fun _=>O) O (.own O) O Jda G36 H5a O)) O ?_
     obtain⟨i,b5,h⟩:=Jb h
     refine JLh (I64 i) (J0 b5 O O O) O (J9 (u:=.junk) (H28 (m:=d) (a:=b) (v:=i) (fun _=>O) O O O O O O Jda G36) (G6 (b3 (Jr fun b6=>(JLm (I64 b) O (JLh (BL (decide (b < 1))) (J1 O O O) O (JLm (BL (decide (b < 1))) O (JLo (I64 b) [] O .scf ø (fun hc=>G2 O O) O (JLo (BL (decide (999999 < b))) [54] O .scf ⟨Ua,ø⟩ (fun hc=>Yp O O O) O (JLh (BL ((decide (b < 1))||(decide (999999 < b)))) (Yn O O O O) O (JLm (BL ((decide (b < 1))||(decide (999999 < b)))) O (JLo (.mp 1062) [] O .scf ø (fun hc=>G2 O O) O (JLo (I64 b) [] O .scf ø (fun hc=>G2 O O) O ?_)))))))))))))
     obtain⟨n,b7,h⟩:=Gd h
     refine JLo (I64 n) [58,59] O .scf ⟨Ua,Ua,ø⟩ (fun hc=>((Ex (H3 hc b7)) ▸ J75 (av:=I64) (m:=(Hs.put d b i)) (a:=b) 0 E0 (fun _=>O) O (.own O) O Jda G36 H5a O)) O (JLo (BL (decide (1 < n))) [60] O .scf ⟨Ua,ø⟩ (fun hc=>Yp O O O) O (JLh (BL (((decide (b < 1))||(decide (999999 < b)))||(decide (1 < n)))) (Yn O O O O) O (G6 (b6 (JCc O h (fun h hb=>?_) (fun h hb=>?_))))))
     ·
      refine Jr fun b9=>(JLm (BL false) O (G6 (b9 (H0 (fin1 BL h)))))
     ·
      refine Gi (b1 (G1 (JLh (I64 ((c+1:Nat):Int)) (J0 (Hk l a4) O O O) O (JLm (I64 ((c+1:Nat):Int)) O (G6 (d4 _ _ (c+1) (Hs.put d b i) (app1 b0 h) (by omega) ⟨(.sm O O),⟨fmQ O,ø⟩,rfl⟩))))))
    ·
     have h:=app1 o (Hw k (Hb hb))
     refine Hd (x (G1 (JLh (I64 ((e+1:Nat):Int)) (J0 (Hk q s) O O O) O (JLm (I64 ((e+1:Nat):Int)) O (G6 (e8 _ _ (e+1) d (app1 d2 h) (by omega) ⟨(.sm O O),⟨fmQ O,ø⟩,rfl⟩))))))
  ·
   have h:=app1 t (Hw p (Hb hb))
   refine Hd (c6 (Jr fun c0=>(JLm (BL true) O (G6 (c0 (H0 (fin1 BL h)))))))

def Y4 (s:List Int):Option (List Int):=
 R4e s fun a=>
 bif a then
 (some [])
 else
 (need (decide ((([]:List Int).length+s.length)*8≤140737488355328∧([]:List Int).length+s.length≤maxLen)) <|
  some (([]:List Int)++s))
theorem Gaa (s:List Int) (r:(List Int)) (h:Y4 s=some r):Pure E8 81 [E1 s] (·=E1 r):=by
 unfold Y4 at h
 refine He [.tmp 2] Try.func81 O O (Jr fun a=>(JLh (E1 ([]:List Int)) (Jo 1 O O) O (G6 (a (Js fun b=>Jr fun c=>(JLm (E1 s) O (G83 O O O (R76 G7 O O) ?_)))))))
 rintro u_ L_ ⟨j,d,rfl,rfl⟩
 replace h:=R01 h j d
 refine G6 (c (JCc O h (fun h hb=>?_) (fun h hb=>?_)))
 ·
  refine Jr fun e=>(JLh (E1 ([]:List Int)) (Jo 1 O O) O (G6 (e (H0 (fin1 (fun r:(List Int)=>(E1 r:AV)) h)))))
 ·
  refine Gi (b (Jr fun g=>(JLh (OW 820000005 1 I64 ([]:List Int)) (Gd4 820000005 3 1 O O G7) O (JLm (E1 s) O ?_))))
  obtain⟨i,h⟩:=J2 h
  refine JLh (OW 820000005 1 I64 (([]:List Int)++s)) (G02 (f:=I64) (xs:=([]:List Int)) (ys:=s) O O O O G7 Qz i (fun _=>O) (.inl O)) O (JLm (OW 820000005 1 I64 (([]:List Int)++s)) O (G6 (g (H0 (fin1l (fun r:(List Int)=>(E1 r:AV)) h)))))

def Y3 (s:List Int) (v:Int):Option Int:=
 each (fun b c (d:Unit) a=>
  bif decide (v=b) then
  (some (c:Int))
  else
  (a ()))
 (fun(d:Unit)=>
  some (-1)) s 0 ()
theorem Ga9 (s:List Int) (v:Int) (r:Int) (h:Y3 s v=some r):Pure E8 72 [E1 s,I64 v] (·=I64 r):=by
 unfold Y3 at h
 refine He [.tmp 4] Try.func72 O O (Jr fun w=>(JLm (I64 0) O (G6 (w (Js fun x=>Jr fun z=>(JLm (E1 s) O (JLl G7 O O O fun a0=>(JLm (I64 0) O (G6 (z (Gg ?_)))))))))))
 obtain⟨a1,i,j,g,h⟩:=J6 h
 refine H9 (fun a (b:Unit)=>each a1 i (List.drop a s) a b=some r) (fun a b=>[(0,E1 s),(1,I64 v),(7,E7 s.length),(8,E7 a)]) (fun a b=>[]) (fun a=>s.length - a) 0 () h ⟨(.sm O O),ø,rfl⟩ ?_
 clear h
 intro a b d a4 a2
 refine Jr fun k=>(JLh (BL (decide ((a:Int) < (s.length:Int)))) (J1 O O O) O (G6 (k (Js fun l=>Gh O (fun hb=>?_) (fun hb=>?_)))))
 ·
  have e:=Jj hb
  obtain⟨c,a3,m,n,h⟩:=Hv d e
  replace h:=Yr j h
  refine Gi (l (Js fun o=>Gg (Jr fun p=>(JLm (E7 a) O (JLm (E7 a) O (G6 (p (Jr fun q=>(JLm (I64 v) O (JLm (E1 s) O (JLm (E7 a) O (JLh (.dptr [I64 c]) (H1 (f:=I64) (xs:=s) (y:=c) O O O G7 m O) O (JLh (I64 c) (Gp Gn O O O) O (JLh (BL (decide (v=c))) (Qy O O O) O (G6 (q (JCc O h (fun h hb=>?_) (fun h hb=>?_))))))))))))))))))
  ·
   refine Jr fun t=>(JLm (E7 a) O (JLm (E7 a) O (G6 (t (H0 (fin1 I64 h))))))
  ·
   refine Gi (o (G1 (JLh (I64 ((a+1:Nat):Int)) (J0 (Hk e a0) O O O) O (JLm (I64 ((a+1:Nat):Int)) O (G6 (a2 _ _ (a+1) () (app1 n h) (by omega) ⟨(.sm O O),ø,rfl⟩))))))
 ·
  have h:=app1 g (Hw d (Hb hb))
  refine Hd (x (Jr fun u=>(JLm (I64 (-1)) O (G6 (u (H0 (fin1 I64 h)))))))

def G0d (y:Gm) (box:Int):Option (Int×Int×Bool):=
 each (fun c d (e:Unit) b=>
  bnd (Y3 c box) fun a=>
  bif decide (0≤a) then
  (some ((d:Int),a,true))
  else
  (b ()))
 (fun(e:Unit)=>
  some (0,0,false)) y.Stacks 0 ()
theorem Gf0 (y:Gm) (box:Int) (r:Int×Int×Bool) (h:G0d y box=some r):Pure E8 55 [.agg [LS 1 (E1) y.Stacks,I64 y.Height],I64 box] (·=.tup [I64 r.1,I64 r.2.1,BL r.2.2]):=by
 unfold G0d at h
 refine He [.tmp 4,.tmp 5,.tmp 6] Try.func55 O O (Jr fun z=>(JLh (.ptr 1071 0) (Qr (cs:=[LS 1 (E1) y.Stacks,I64 y.Height]) 1071 O O O O O) O (JLm (I64 0) O (JLm (I64 0) O (JLm (BL false) O (G6 (z (H2 [(1,I64 box),(2,.dptr [LS 1 (E1) y.Stacks,I64 y.Height])] [] 1071 rfl rfl rfl ø rfl (by exact⟨.conv (.same rfl),.ptr,ø⟩) (Js fun a0=>Jr fun a1=>(JLh (.dptr [LS 1 (E1) y.Stacks,I64 y.Height]) (Gy Hp O O O) O (JLh (LS 1 (E1) y.Stacks) (Gp Gs O O O) O (JLl Gf O O O fun j=>(JLm (I64 0) O (G6 (a1 (Gg ?_))))))))))))))))
 obtain⟨a2,k,l,i,h⟩:=J6 h
 refine H9 (fun a (d:Unit)=>each a2 k (List.drop a y.Stacks) a d=some r) (fun a d=>[(1,I64 box),(11,LS 1 (E1) y.Stacks),(12,E7 y.Stacks.length),(13,E7 a)]) (fun a d=>[]) (fun a=>y.Stacks.length - a) 0 () h ⟨(.sm O O),ø,rfl⟩ ?_
 clear h
 intro a d e a5 a3
 refine Jr fun m=>(JLh (BL (decide ((a:Int) < (y.Stacks.length:Int)))) (J1 O O O) O (G6 (m (Js fun n=>Gh O (fun hb=>?_) (fun hb=>?_)))))
 ·
  have g:=Jj hb
  obtain⟨c,a4,o,p,h⟩:=Hv e g
  replace h:=Yr l h
  refine Gi (n (Js fun q=>Gg (Jr fun s=>(JLm (E7 a) O (JLh (.dptr [E1 c]) (H1 (f:=(E1)) (xs:=y.Stacks) (y:=c) O O O Gf o O) O (JLh (E1 c) (Gp H5 O O O) O (JLm (E7 a) O (JLm (E1 c) O (G6 (s (Jr fun t=>(JLm (E1 c) O (JLm (I64 box) O ?_)))))))))))))
  obtain⟨b,u,h⟩:=Gd h
  refine JLh (I64 b) (Gt O (Ga9 c box b u) J2b ⟨O,O,O,O,ø⟩) O (JLm (I64 b) O (G6 (t (Jr fun v=>(JLm (I64 b) O (JLh (BL (decide (0≤b))) (G59 O O O) O (G6 (v (JCc O h (fun h hb=>?_) (fun h hb=>?_))))))))))
  ·
   refine Jr fun w=>(JLm (E7 a) O (JLm (I64 b) O (JLm (E7 a) O (JLm (I64 b) O (JLm (BL true) O (G6 (w (H0 (⟨[E7 a,I64 b,BL true],[],ø,O,⟨⟨_,O,.conv (.same O)⟩,⟨_,O,.conv (.same O)⟩,⟨_,O,.conv (.same O)⟩,ø⟩,O,congrArg (fun r:Int×Int×Bool=>(.tup [I64 r.1,I64 r.2.1,BL r.2.2]:AV)) (Ex h)⟩)))))))))
  ·
   refine Gi (q (G1 (JLh (I64 ((a+1:Nat):Int)) (J0 (Hk g j) O O O) O (JLm (I64 ((a+1:Nat):Int)) O (G6 (a3 _ _ (a+1) () (app1 p h) (by omega) ⟨(.sm O O),ø,rfl⟩))))))
 ·
  have h:=app1 i (Hw e (Hb hb))
  refine Hd (a0 (Jr fun x=>(JLm (I64 0) O (JLm (I64 0) O (JLm (BL false) O (G6 (x (H0 (⟨[I64 0,I64 0,BL false],[],ø,O,⟨⟨_,O,.conv (.same O)⟩,⟨_,O,.conv (.same O)⟩,⟨_,O,.conv (.same O)⟩,ø⟩,O,congrArg (fun r:Int×Int×Bool=>(.tup [I64 r.1,I64 r.2.1,BL r.2.2]:AV)) (Ex h)⟩)))))))))

def R1 (y:Gm) (order:List Int):Option (Hu×Bool):=
 bnd (Zo y) fun j=>
 bif (!j) then
 (none)
 else
 (each (fun i l (a:(List (List Int))×Int×(List Int)×(List Gz)×Int) f=>
   bnd (Y4 i) fun d=>
   need (decide ((a.1.length+[d].length)*24≤140737488355328∧a.1.length+[d].length≤maxLen)) <|
   f ((a.1++[d]),a.2.1,a.2.2.1,a.2.2.2.1,a.2.2.2.2))
  (fun(a:(List (List Int))×Int×(List Int)×(List Gz)×Int)=>
   each (fun c g (b:(Hs Int Int)) e=>
    bnd (G0d y c) fun h=>
    bnd (some (Hs.get b c 0)) fun k=>
    bif ((Hs.has b c)||(!h.2.2)) then
    (none)
    else
    (e (Hs.put b c (g:Int))))
   (fun(b:(Hs Int Int))=>
    some ((Hu.mk a.1 a.2.1 a.2.2.1 b a.2.2.2.1 a.2.2.2.2),true)) order 0 (Hs.empty:Hs Int Int)) y.Stacks 0 ([],y.Height,order,[],0))
abbrev E9 (a:(List (List Int))×Int×(List Int)×(List Gz)×Int):List AV:=[OW 1074 1 (E1) a.1,I64 a.2.1,E1 a.2.2.1,.mp 1112,E3 a.2.2.2.1,I64 a.2.2.2.2]
theorem H9e (y:Gm) (order:List Int) (r:Hu×Bool) (h:R1 y order=some r):Q8 E8 57 [.agg [LS 1 (E1) y.Stacks,I64 y.Height],E1 order] [] (fun av L'=>av=.tup [.ptr 1111 0,BL r.2]∧L'=[(1111,.box 105 [LS 1 (E1) r.1.stacks,I64 r.1.height,E1 r.1.order,.mp 1112,E3 r.1.steps,I64 r.1.next]),(1112,TP 103 Ef I64 r.1.ranks)]):=by
 unfold R1 at h
 refine G24 [] [.tmp 4,.tmp 5] Try.func57 O O (Hbe O) (Jr fun d1=>(JLh (.ptr 1073 0) (Qr (cs:=[LS 1 (E1) y.Stacks,I64 y.Height]) 1073 O O O O O) O (JLm (.sc (.pointer none)) O (JLm (BL false) O (G6 (d1 (H2 [(1,E1 order),(2,.dptr [LS 1 (E1) y.Stacks,I64 y.Height])] [] 1073 rfl rfl rfl ø rfl (by exact⟨.conv (.same rfl),.ptr,ø⟩) (Js fun d2=>Jr fun d3=>(JLh (.agg [LS 1 (E1) y.Stacks,I64 y.Height]) (Gr H8 O O O) O ?_)))))))))
 obtain⟨w,d4,h⟩:=Gd h
 refine JLh (BL w) (Gt O (G3f y w d4) H87 ⟨O,O,ø⟩) O (JLh (BL (!w)) (Yx (b:=w) O O) O (G6 (d3 (JCc O h (fun h hb=>?_) (fun h hb=>?_)))))
 ·
  refine Jr fun d5=>(JLm (.sc (.pointer none)) O (JLm (BL false) O (G6 (d5 (H0 ?_)))))
  cases h
 ·
  refine Gi (d2 ?_)
  refine Jr fun d6=>(JLh (.dptr [I64 y.Height]) (Gy Rv O O O) O (JLh (I64 y.Height) (Gp Gn O O O) O (JLm (E1 order) O (JLh (.mp 1112) (Ha3 1112 Ef I64 O O) O (JLh (.agg [.sc (.slice none 0 0),I64 y.Height,E1 order,.mp 1112,E3 ([]:List Gz),I64 0]) (Jn (cs:=[.sc (.slice none 0 0),I64 y.Height,E1 order,.mp 1112,E3 ([]:List Gz),I64 0]) [(0,1),(1,1),(2,1),(3,1),(4,1),(5,1)] [.sc (.slice none 0 0),I64 0,E1 ([]:List Int),.sc (.map none),E3 ([]:List Gz),I64 0] [.slice none 0 0,E0,.slice none 0 0,.map none,.slice none 0 0,E0] H78 Hf6 ⟨.inl O,.inl O,.inr ⟨_,O,O⟩,.inl O,.inr ⟨_,O,O⟩,.inl O,ø⟩ O O) O (JLh (.ptr 1111 0) (Qr (cs:=[.sc (.slice none 0 0),I64 y.Height,E1 order,.mp 1112,E3 ([]:List Gz),I64 0]) 1111 O O O O O) O ?_))))))
  refine H9f 1111 0 1074 25 1 O O O (cs':=[OW 1074 1 (E1) ([]:List (List Int)),I64 y.Height,E1 order,.mp 1112,E3 ([]:List Gz),I64 0]) O (JLm (.ptr 1111 0) O (G6 (d6 (Js fun d7=>Jr fun d8=>(JLh (.dptr [LS 1 (E1) y.Stacks,I64 y.Height]) (Gy Hp O O O) O (JLh (LS 1 (E1) y.Stacks) (Gp Gs O O O) O (JLl Gf O O O fun b5=>(JLm (I64 0) O (G6 (d8 (Gg ?_)))))))))))
  obtain⟨d9,b6,b7,x,h⟩:=J6 h
  refine H9 (fun k (c:(List (List Int))×Int×(List Int)×(List Gz)×Int)=>each d9 b6 (List.drop k y.Stacks) k c=some r) (fun k c=>[(1,E1 order),(2,.dptr [LS 1 (E1) y.Stacks,I64 y.Height]),(6,.ptr 1111 0),(26,LS 1 (E1) y.Stacks),(27,E7 y.Stacks.length),(28,E7 k)]) (fun k c=>[(1112,TP 103 Ef I64 (Hs.empty:Hs Int Int)),(1074,.spare 25 1 c.1.length c.1.length),(1111,.box 105 (E9 c))]) (fun k=>y.Stacks.length - k) 0 ([],y.Height,order,[],0) h ⟨(.sm O O),⟨fmQ O,⟨_,rfl,.same⟩,fbQ O (.sm O O),ø⟩,rfl⟩ ?_
  clear h
  intro k c q e4 e0
  refine Jr fun b8=>(JLh (BL (decide ((k:Int) < (y.Stacks.length:Int)))) (J1 O O O) O (G6 (b8 (Js fun b9=>Gh O (fun hb=>?_) (fun hb=>?_)))))
  ·
   have s:=Jj hb
   obtain⟨l,e2,c0,c1,h⟩:=Hv q s
   replace h:=Yr b7 h
   refine Gi (b9 (Js fun c2=>Gg (Jr fun c3=>(JLh (.dptr [E1 l]) (H1 (f:=(E1)) (xs:=y.Stacks) (y:=l) O O O Gf c0 O) O (JLh (E1 l) (Gp H5 O O O) O (JLm (E1 l) O (G6 (c3 ?_))))))))
   refine Rq (l':=[(1,E1 order),(2,.dptr [LS 1 (E1) y.Stacks,I64 y.Height]),(6,.ptr 1111 0),(8,E1 l),(26,LS 1 (E1) y.Stacks),(27,E7 y.Stacks.length),(28,E7 k)]) (L':=[(1112,TP 103 Ef I64 (Hs.empty:Hs Int Int)),(1074,.spare 25 1 c.1.length c.1.length),(1111,.box 105 (E9 c))]) ⟨(.sm O O),⟨fmQ O,⟨_,rfl,.same⟩,fbQ O (.sm O O),ø⟩,rfl⟩ ?_
   obtain⟨j,c4,h⟩:=Gd h
   obtain⟨c5,h⟩:=J2 h
   refine Jw [8,11] [0,0,0,0,0,0,0,0,0,1,1,0] [1,0,0,0,0,0,0,0,0,1,1,0] [[(1112,TP 103 Ef I64 (Hs.empty:Hs Int Int)),(1074,.spare 25 1 c.1.length c.1.length),(1111,.box 105 (E9 c))],((1074,.spare 25 1 (c.1++[j]).length (c.1++[j]).length)::[(1112,TP 103 Ef I64 (Hs.empty:Hs Int Int)),(1074,.spare 25 1 c.1.length c.1.length),(1111,.box 105 (E9 c))]),((1111,.box 105 [OW 1074 1 (E1) (c.1++[j]),I64 c.2.1,E1 c.2.2.1,.mp 1112,E3 c.2.2.2.1,I64 c.2.2.2.2])::((1074,.spare 25 1 (c.1++[j]).length (c.1++[j]).length)::[(1112,TP 103 Ef I64 (Hs.empty:Hs Int Int)),(1074,.spare 25 1 c.1.length c.1.length),(1111,.box 105 (E9 c))]))] Jp (by kernel_rfl) rfl rfl ?_
   refine Ge (u:=.ptr 1111 0) O O ⟨Gc (G2 O O) O,Gc (G2 O O) O,ø⟩ (Ge (u:=.ptr 1111 0) O O ⟨Gc (G2 O O) O,ø⟩ (Ge (u:=.ptr 1111 0) O O ⟨Gc (Gab O O) O,ø⟩ (Ge (u:=.ptr 1111 0) O O ⟨Gc (Hy G38 O O) O,ø⟩ (Ge (u:=OW 1074 1 (E1) c.1) O O ⟨Gc (Hz Gs O O O O) O,ø⟩ (Ge (u:=E1 l) O O ⟨Gc (G2 O O) O,ø⟩ (Ge (u:=E1 j) O O ⟨Gc (Gt O (Gaa l j c4) J28 ⟨O,O,ø⟩) O,ø⟩ (Ge (u:=LS 1 (E1) [j]) O O ⟨Gc (Ha (xs:=[E1 j]) O ⟨O,O,ø⟩ Gf Zq O O O O) O,ø⟩ (D_w (u:=OW 1074 1 (E1) (c.1++[j])) O O O O (Gc (Ru (f:=(E1)) (xs:=c.1) (ys:=[j]) O O O O Gf G5e c5 (fun _=>O) (.inl O) O) O) (Ge (u:=.ptr 1111 0) O O ⟨Gc (Gab O O) O,ø⟩ (Ge (u:=.ptr 1111 0) O O ⟨Gc (Hy G38 O O) O,ø⟩ (H54 (u:=.junk) O O O O (Gc (Ho (u:=OW 1074 1 (E1) (c.1++[j])) (ds:=[OW 1074 1 (E1) (c.1++[j]),I64 c.2.1,E1 c.2.2.1,.mp 1112,E3 c.2.2.2.1,I64 c.2.2.2.2]) Gc2 O O O O O O O O) O) (Ya ?_))))))))))))
   refine c2 (G1 (JLh (I64 ((k+1:Nat):Int)) (J0 (Hk s b5) O O O) O (JLm (I64 ((k+1:Nat):Int)) O (G6 (e0 _ _ (k+1) ((c.1++[j]),c.2.1,c.2.2.1,c.2.2.2.1,c.2.2.2.2) (app1 c1 h) (by omega) ⟨(.sm O O),⟨fmQ O,⟨_,rfl,.same⟩,fbQ O (.sm O O),ø⟩,rfl⟩)))))
  ·
   have h:=app1 x (Hw q (Hb hb))
   refine Hd (d7 (Js fun c6=>Jr fun c7=>(JLm (E1 order) O (JLl G7 O O O fun c8=>(JLm (I64 0) O (G6 (c7 (Gg ?_))))))))
   obtain⟨c9,z,a0,t,h⟩:=J6 h
   refine H9 (fun e (g:(Hs Int Int))=>each c9 z (List.drop e order) e g=some r) (fun e g=>[(2,.dptr [LS 1 (E1) y.Stacks,I64 y.Height]),(6,.ptr 1111 0),(44,E1 order),(45,E7 order.length),(46,E7 e)]) (fun e g=>[(1112,TP 103 Ef I64 g),(1074,.spare 25 1 c.1.length c.1.length),(1111,.box 105 (E9 c))]) (fun e=>order.length - e) 0 (Hs.empty:Hs Int Int) h ⟨(.sm O O),⟨fmQ O,⟨_,rfl,.same⟩,fbQ O (.sm O O),ø⟩,rfl⟩ ?_
   clear h
   intro e g o e3 d0
   refine Jr fun a1=>(JLh (BL (decide ((e:Int) < (order.length:Int)))) (J1 O O O) O (G6 (a1 (Js fun a2=>Gh O (fun hb=>?_) (fun hb=>?_)))))
   ·
    have p:=Jj hb
    obtain⟨d,e1,a3,a4,h⟩:=Hv o p
    replace h:=Yr a0 h
    refine Gi (a2 (Js fun a5=>Gg (Jr fun a6=>(JLm (E7 e) O (JLh (.dptr [I64 d]) (H1 (f:=I64) (xs:=order) (y:=d) O O O G7 a3 O) O (JLh (I64 d) (Gp Gn O O O) O (JLm (E7 e) O (JLm (I64 d) O (G6 (a6 (Jr fun a7=>(JLh (.agg [LS 1 (E1) y.Stacks,I64 y.Height]) (Gr H8 O O O) O (JLm (I64 d) O ?_)))))))))))))
    obtain⟨i,a8,h⟩:=Gd h
    refine JLh (.tup [I64 i.1,I64 i.2.1,BL i.2.2]) (Gt O (Gf0 y d i a8) H85 ⟨O,O,O,O,ø⟩) O (JLm (.tup [I64 i.1,I64 i.2.1,BL i.2.2]) O (JLh (I64 i.1) (Gk O O O) O (JLh (I64 i.2.1) (Gk O O O) O (JLh (BL i.2.2) (Gk O O O) O (JLm (I64 i.1) O (JLm (I64 i.2.1) O (JLm (BL i.2.2) O (G6 (a7 (Js fun a9=>Jr fun b0=>(JLm (.ptr 1111 0) O (JLh (.ptr 1111 0) (Gab O O) O (JLh (.ptr 1111 3) (Hy G37 O O) O (JLh (.mp 1112) (Hz G4e O O O O) O (JLm (I64 d) O ?_)))))))))))))))
    obtain⟨n,b1,h⟩:=Gd h
    refine JLh (.tup [I64 n,BL (Hs.has g d)]) (((Ex b1) ▸ Ha4 (av:=I64) (m:=g) (a:=d) 0 E0 (fun _=>O) O (.own O) O Jda G36 H5a O)) O (JLm (.tup [I64 n,BL (Hs.has g d)]) O (JLh (I64 n) (Gk O O O) O (JLh (BL (Hs.has g d)) (Gk O O O) O (JLm (I64 n) O (JLm (BL (Hs.has g d)) O (G6 (b0 (Jr fun b2=>(JLm (BL (Hs.has g d)) O (JLm (BL (Hs.has g d)) O (JLo (BL i.2.2) [] O .scf ø (fun hc=>G2 O O) O (JLo (BL (!i.2.2)) [69] O .scf ⟨Ua,ø⟩ (fun hc=>Yx (b:=i.2.2) O O) O (JLh (BL ((Hs.has g d)||(!i.2.2))) (Yn O O O O) O (G6 (b2 (JCc O h (fun h hb=>?_) (fun h hb=>?_)))))))))))))))))
    ·
     refine Jr fun b3=>(JLm (.sc (.pointer none)) O (JLm (BL false) O (G6 (b3 (H0 ?_)))))
     cases h
    ·
     refine Gi (a9 (G1 (JLm (.ptr 1111 0) O (JLh (.ptr 1111 0) (Gab O O) O (JLh (.ptr 1111 3) (Hy G37 O O) O (JLh (.mp 1112) (Hz G4e O O O O) O (JLm (I64 d) O (JLm (E7 e) O (J9 (u:=.junk) (H28 (m:=g) (a:=d) (v:=(e:Int)) (fun _=>O) O O O O O O Jda G36) (G6 (a5 (G1 (JLh (I64 ((e+1:Nat):Int)) (J0 (Hk p c8) O O O) O (JLm (I64 ((e+1:Nat):Int)) O (G6 (d0 _ _ (e+1) (Hs.put g d (e:Int)) (app1 a4 h) (by omega) ⟨(.sm O O),⟨fmQ O,⟨_,rfl,.same⟩,fbQ O (.sm O O),ø⟩,rfl⟩))))))))))))))))
   ·
    have h:=app1 t (Hw o (Hb hb))
    refine Hd (c6 (Jr fun b4=>(JLm (.ptr 1111 0) O (JLm (.ptr 1111 0) O (JLm (BL true) O (G6 (b4 (Rq (l':=[(4,.ptr 1111 0),(5,BL true)]) (L':=[(1112,TP 103 Ef I64 g),(1111,.box 105 [LS 1 (E1) c.1,I64 c.2.1,E1 c.2.2.1,.mp 1112,E3 c.2.2.2.1,I64 c.2.2.2.2])]) ⟨(.sm O O),⟨⟨_,O,.map⟩,⟨_,O,.boxL O ⟨.list O,.same O,.same O,.same O,.same O,.same O,ø⟩⟩,ø⟩,O⟩ (H0 ?_)))))))))
    obtain rfl:=Ex h
    exact⟨[.ptr 1111 0,BL true],[(1111,.box 105 [LS 1 (E1) c.1,I64 c.2.1,E1 c.2.2.1,.mp 1112,E3 c.2.2.2.1,I64 c.2.2.2.2]),(1112,TP 103 Ef I64 g)],⟨fbQ O (.sm O O),fmQ O,ø⟩,rfl,⟨⟨_,rfl,.conv (.same rfl)⟩,⟨_,rfl,.conv (.same rfl)⟩,ø⟩,rfl,rfl⟩

def Yy (y:Gm) (order:List Int):Option Bool:=
 bnd (Zo y) fun j=>
 bif (!j) then
 (some false)
 else
 (each (fun i l (a:(List (List Int))×Int×(List Int)×(List Gz)×Int) f=>
   bnd (Y4 i) fun d=>
   need (decide ((a.1.length+[d].length)*24≤140737488355328∧a.1.length+[d].length≤maxLen)) <|
   f ((a.1++[d]),a.2.1,a.2.2.1,a.2.2.2.1,a.2.2.2.2))
  (fun(a:(List (List Int))×Int×(List Int)×(List Gz)×Int)=>
   each (fun b g (c:(Hs Int Int)) e=>
    bnd (G0d y b) fun h=>
    bnd (some (Hs.get c b 0)) fun k=>
    bif ((Hs.has c b)||(!h.2.2)) then
    (some false)
    else
    (e (Hs.put c b (g:Int))))
   (fun(c:(Hs Int Int))=>
    none) order 0 (Hs.empty:Hs Int Int)) y.Stacks 0 ([],y.Height,order,[],0))
abbrev Ea (a:(List (List Int))×Int×(List Int)×(List Gz)×Int):List AV:=[OW 1074 1 (E1) a.1,I64 a.2.1,E1 a.2.2.1,.mp 1112,E3 a.2.2.2.1,I64 a.2.2.2.2]
theorem H52 (y:Gm) (order:List Int) (r:Bool) (h:Yy y order=some r):Pure E8 57 [.agg [LS 1 (E1) y.Stacks,I64 y.Height],E1 order] (·=.tup [.sc (.pointer none),BL r]):=by
 unfold Yy at h
 refine He [.tmp 4,.tmp 5] Try.func57 O O (Jr fun d1=>(JLh (.ptr 1073 0) (Qr (cs:=[LS 1 (E1) y.Stacks,I64 y.Height]) 1073 O O O O O) O (JLm (.sc (.pointer none)) O (JLm (BL false) O (G6 (d1 (H2 [(1,E1 order),(2,.dptr [LS 1 (E1) y.Stacks,I64 y.Height])] [] 1073 rfl rfl rfl ø rfl (by exact⟨.conv (.same rfl),.ptr,ø⟩) (Js fun d2=>Jr fun d3=>(JLh (.agg [LS 1 (E1) y.Stacks,I64 y.Height]) (Gr H8 O O O) O ?_)))))))))
 obtain⟨w,d4,h⟩:=Gd h
 refine JLh (BL w) (Gt O (G3f y w d4) H87 ⟨O,O,ø⟩) O (JLh (BL (!w)) (Yx (b:=w) O O) O (G6 (d3 (JCc O h (fun h hb=>?_) (fun h hb=>?_)))))
 ·
  refine Jr fun d5=>(JLm (.sc (.pointer none)) O (JLm (BL false) O (G6 (d5 (H0 (⟨[.sc (.pointer none),BL false],[],ø,O,⟨⟨_,O,.conv (.same O)⟩,⟨_,O,.conv (.same O)⟩,ø⟩,O,congrArg (fun r:Bool=>(.tup [.sc (.pointer none),BL r]:AV)) (Ex h)⟩))))))
 ·
  refine Gi (d2 ?_)
  refine Jr fun d6=>(JLh (.dptr [I64 y.Height]) (Gy Rv O O O) O (JLh (I64 y.Height) (Gp Gn O O O) O (JLm (E1 order) O (JLh (.mp 1112) (Ha3 1112 Ef I64 O O) O (JLh (.agg [.sc (.slice none 0 0),I64 y.Height,E1 order,.mp 1112,E3 ([]:List Gz),I64 0]) (Jn (cs:=[.sc (.slice none 0 0),I64 y.Height,E1 order,.mp 1112,E3 ([]:List Gz),I64 0]) [(0,1),(1,1),(2,1),(3,1),(4,1),(5,1)] [.sc (.slice none 0 0),I64 0,E1 ([]:List Int),.sc (.map none),E3 ([]:List Gz),I64 0] [.slice none 0 0,E0,.slice none 0 0,.map none,.slice none 0 0,E0] H78 Hf6 ⟨.inl O,.inl O,.inr ⟨_,O,O⟩,.inl O,.inr ⟨_,O,O⟩,.inl O,ø⟩ O O) O (JLh (.ptr 1111 0) (Qr (cs:=[.sc (.slice none 0 0),I64 y.Height,E1 order,.mp 1112,E3 ([]:List Gz),I64 0]) 1111 O O O O O) O ?_))))))
  refine H9f 1111 0 1074 25 1 O O O (cs':=[OW 1074 1 (E1) ([]:List (List Int)),I64 y.Height,E1 order,.mp 1112,E3 ([]:List Gz),I64 0]) O (JLm (.ptr 1111 0) O (G6 (d6 (Js fun d7=>Jr fun d8=>(JLh (.dptr [LS 1 (E1) y.Stacks,I64 y.Height]) (Gy Hp O O O) O (JLh (LS 1 (E1) y.Stacks) (Gp Gs O O O) O (JLl Gf O O O fun b5=>(JLm (I64 0) O (G6 (d8 (Gg ?_)))))))))))
  obtain⟨d9,b6,b7,x,h⟩:=J6 h
  refine H9 (fun k (c:(List (List Int))×Int×(List Int)×(List Gz)×Int)=>each d9 b6 (List.drop k y.Stacks) k c=some r) (fun k c=>[(1,E1 order),(2,.dptr [LS 1 (E1) y.Stacks,I64 y.Height]),(6,.ptr 1111 0),(26,LS 1 (E1) y.Stacks),(27,E7 y.Stacks.length),(28,E7 k)]) (fun k c=>[(1112,TP 103 Ef I64 (Hs.empty:Hs Int Int)),(1074,.spare 25 1 c.1.length c.1.length),(1111,.box 105 (Ea c))]) (fun k=>y.Stacks.length - k) 0 ([],y.Height,order,[],0) h ⟨(.sm O O),⟨fmQ O,⟨_,rfl,.same⟩,fbQ O (.sm O O),ø⟩,rfl⟩ ?_
  clear h
  intro k c q e4 e0
  refine Jr fun b8=>(JLh (BL (decide ((k:Int) < (y.Stacks.length:Int)))) (J1 O O O) O (G6 (b8 (Js fun b9=>Gh O (fun hb=>?_) (fun hb=>?_)))))
  ·
   have s:=Jj hb
   obtain⟨l,e2,c0,c1,h⟩:=Hv q s
   replace h:=Yr b7 h
   refine Gi (b9 (Js fun c2=>Gg (Jr fun c3=>(JLh (.dptr [E1 l]) (H1 (f:=(E1)) (xs:=y.Stacks) (y:=l) O O O Gf c0 O) O (JLh (E1 l) (Gp H5 O O O) O (JLm (E1 l) O (G6 (c3 ?_))))))))
   refine Rq (l':=[(1,E1 order),(2,.dptr [LS 1 (E1) y.Stacks,I64 y.Height]),(6,.ptr 1111 0),(8,E1 l),(26,LS 1 (E1) y.Stacks),(27,E7 y.Stacks.length),(28,E7 k)]) (L':=[(1112,TP 103 Ef I64 (Hs.empty:Hs Int Int)),(1074,.spare 25 1 c.1.length c.1.length),(1111,.box 105 (Ea c))]) ⟨(.sm O O),⟨fmQ O,⟨_,rfl,.same⟩,fbQ O (.sm O O),ø⟩,rfl⟩ ?_
   obtain⟨j,c4,h⟩:=Gd h
   obtain⟨c5,h⟩:=J2 h
   refine Jw [8,11] [0,0,0,0,0,0,0,0,0,1,1,0] [1,0,0,0,0,0,0,0,0,1,1,0] [[(1112,TP 103 Ef I64 (Hs.empty:Hs Int Int)),(1074,.spare 25 1 c.1.length c.1.length),(1111,.box 105 (Ea c))],((1074,.spare 25 1 (c.1++[j]).length (c.1++[j]).length)::[(1112,TP 103 Ef I64 (Hs.empty:Hs Int Int)),(1074,.spare 25 1 c.1.length c.1.length),(1111,.box 105 (Ea c))]),((1111,.box 105 [OW 1074 1 (E1) (c.1++[j]),I64 c.2.1,E1 c.2.2.1,.mp 1112,E3 c.2.2.2.1,I64 c.2.2.2.2])::((1074,.spare 25 1 (c.1++[j]).length (c.1++[j]).length)::[(1112,TP 103 Ef I64 (Hs.empty:Hs Int Int)),(1074,.spare 25 1 c.1.length c.1.length),(1111,.box 105 (Ea c))]))] Jp (by kernel_rfl) rfl rfl ?_
   refine Ge (u:=.ptr 1111 0) O O ⟨Gc (G2 O O) O,Gc (G2 O O) O,ø⟩ (Ge (u:=.ptr 1111 0) O O ⟨Gc (G2 O O) O,ø⟩ (Ge (u:=.ptr 1111 0) O O ⟨Gc (Gab O O) O,ø⟩ (Ge (u:=.ptr 1111 0) O O ⟨Gc (Hy G38 O O) O,ø⟩ (Ge (u:=OW 1074 1 (E1) c.1) O O ⟨Gc (Hz Gs O O O O) O,ø⟩ (Ge (u:=E1 l) O O ⟨Gc (G2 O O) O,ø⟩ (Ge (u:=E1 j) O O ⟨Gc (Gt O (Gaa l j c4) J28 ⟨O,O,ø⟩) O,ø⟩ (Ge (u:=LS 1 (E1) [j]) O O ⟨Gc (Ha (xs:=[E1 j]) O ⟨O,O,ø⟩ Gf Zq O O O O) O,ø⟩ (D_w (u:=OW 1074 1 (E1) (c.1++[j])) O O O O (Gc (Ru (f:=(E1)) (xs:=c.1) (ys:=[j]) O O O O Gf G5e c5 (fun _=>O) (.inl O) O) O) (Ge (u:=.ptr 1111 0) O O ⟨Gc (Gab O O) O,ø⟩ (Ge (u:=.ptr 1111 0) O O ⟨Gc (Hy G38 O O) O,ø⟩ (H54 (u:=.junk) O O O O (Gc (Ho (u:=OW 1074 1 (E1) (c.1++[j])) (ds:=[OW 1074 1 (E1) (c.1++[j]),I64 c.2.1,E1 c.2.2.1,.mp 1112,E3 c.2.2.2.1,I64 c.2.2.2.2]) Gc2 O O O O O O O O) O) (Ya ?_))))))))))))
   refine c2 (G1 (JLh (I64 ((k+1:Nat):Int)) (J0 (Hk s b5) O O O) O (JLm (I64 ((k+1:Nat):Int)) O (G6 (e0 _ _ (k+1) ((c.1++[j]),c.2.1,c.2.2.1,c.2.2.2.1,c.2.2.2.2) (app1 c1 h) (by omega) ⟨(.sm O O),⟨fmQ O,⟨_,rfl,.same⟩,fbQ O (.sm O O),ø⟩,rfl⟩)))))
  ·
   have h:=app1 x (Hw q (Hb hb))
   refine Hd (d7 (Js fun c6=>Jr fun c7=>(JLm (E1 order) O (JLl G7 O O O fun c8=>(JLm (I64 0) O (G6 (c7 (Gg ?_))))))))
   obtain⟨c9,z,a0,t,h⟩:=J6 h
   refine H9 (fun e (i:(Hs Int Int))=>each c9 z (List.drop e order) e i=some r) (fun e i=>[(2,.dptr [LS 1 (E1) y.Stacks,I64 y.Height]),(6,.ptr 1111 0),(44,E1 order),(45,E7 order.length),(46,E7 e)]) (fun e i=>[(1112,TP 103 Ef I64 i),(1074,.spare 25 1 c.1.length c.1.length),(1111,.box 105 (Ea c))]) (fun e=>order.length - e) 0 (Hs.empty:Hs Int Int) h ⟨(.sm O O),⟨fmQ O,⟨_,rfl,.same⟩,fbQ O (.sm O O),ø⟩,rfl⟩ ?_
   clear h
   intro e i o e3 d0
   refine Jr fun a1=>(JLh (BL (decide ((e:Int) < (order.length:Int)))) (J1 O O O) O (G6 (a1 (Js fun a2=>Gh O (fun hb=>?_) (fun hb=>?_)))))
   ·
    have p:=Jj hb
    obtain⟨d,e1,a3,a4,h⟩:=Hv o p
    replace h:=Yr a0 h
    refine Gi (a2 (Js fun a5=>Gg (Jr fun a6=>(JLm (E7 e) O (JLh (.dptr [I64 d]) (H1 (f:=I64) (xs:=order) (y:=d) O O O G7 a3 O) O (JLh (I64 d) (Gp Gn O O O) O (JLm (E7 e) O (JLm (I64 d) O (G6 (a6 (Jr fun a7=>(JLh (.agg [LS 1 (E1) y.Stacks,I64 y.Height]) (Gr H8 O O O) O (JLm (I64 d) O ?_)))))))))))))
    obtain⟨g,a8,h⟩:=Gd h
    refine JLh (.tup [I64 g.1,I64 g.2.1,BL g.2.2]) (Gt O (Gf0 y d g a8) H85 ⟨O,O,O,O,ø⟩) O (JLm (.tup [I64 g.1,I64 g.2.1,BL g.2.2]) O (JLh (I64 g.1) (Gk O O O) O (JLh (I64 g.2.1) (Gk O O O) O (JLh (BL g.2.2) (Gk O O O) O (JLm (I64 g.1) O (JLm (I64 g.2.1) O (JLm (BL g.2.2) O (G6 (a7 (Js fun a9=>Jr fun b0=>(JLm (.ptr 1111 0) O (JLh (.ptr 1111 0) (Gab O O) O (JLh (.ptr 1111 3) (Hy G37 O O) O (JLh (.mp 1112) (Hz G4e O O O O) O (JLm (I64 d) O ?_)))))))))))))))
    obtain⟨n,b1,h⟩:=Gd h
    refine JLh (.tup [I64 n,BL (Hs.has i d)]) (((Ex b1) ▸ Ha4 (av:=I64) (m:=i) (a:=d) 0 E0 (fun _=>O) O (.own O) O Jda G36 H5a O)) O (JLm (.tup [I64 n,BL (Hs.has i d)]) O (JLh (I64 n) (Gk O O O) O (JLh (BL (Hs.has i d)) (Gk O O O) O (JLm (I64 n) O (JLm (BL (Hs.has i d)) O (G6 (b0 (Jr fun b2=>(JLm (BL (Hs.has i d)) O (JLm (BL (Hs.has i d)) O (JLo (BL g.2.2) [] O .scf ø (fun hc=>G2 O O) O (JLo (BL (!g.2.2)) [69] O .scf ⟨Ua,ø⟩ (fun hc=>Yx (b:=g.2.2) O O) O (JLh (BL ((Hs.has i d)||(!g.2.2))) (Yn O O O O) O (G6 (b2 (JCc O h (fun h hb=>?_) (fun h hb=>?_)))))))))))))))))
    ·
     refine Jr fun b3=>(JLm (.sc (.pointer none)) O (JLm (BL false) O (G6 (b3 (H0 (⟨[.sc (.pointer none),BL false],[],ø,O,⟨⟨_,O,.conv (.same O)⟩,⟨_,O,.conv (.same O)⟩,ø⟩,O,congrArg (fun r:Bool=>(.tup [.sc (.pointer none),BL r]:AV)) (Ex h)⟩))))))
    ·
     refine Gi (a9 (G1 (JLm (.ptr 1111 0) O (JLh (.ptr 1111 0) (Gab O O) O (JLh (.ptr 1111 3) (Hy G37 O O) O (JLh (.mp 1112) (Hz G4e O O O O) O (JLm (I64 d) O (JLm (E7 e) O (J9 (u:=.junk) (H28 (m:=i) (a:=d) (v:=(e:Int)) (fun _=>O) O O O O O O Jda G36) (G6 (a5 (G1 (JLh (I64 ((e+1:Nat):Int)) (J0 (Hk p c8) O O O) O (JLm (I64 ((e+1:Nat):Int)) O (G6 (d0 _ _ (e+1) (Hs.put i d (e:Int)) (app1 a4 h) (by omega) ⟨(.sm O O),⟨fmQ O,⟨_,rfl,.same⟩,fbQ O (.sm O O),ø⟩,rfl⟩))))))))))))))))
   ·
    have h:=app1 t (Hw o (Hb hb))
    refine Hd (c6 (Jr fun b4=>(JLm (.ptr 1111 0) O (JLm (.ptr 1111 0) O (JLm (BL true) O (G6 (b4 (Rq (l':=[(4,.ptr 1111 0),(5,BL true)]) (L':=[(1112,TP 103 Ef I64 i),(1111,.box 105 [LS 1 (E1) c.1,I64 c.2.1,E1 c.2.2.1,.mp 1112,E3 c.2.2.2.1,I64 c.2.2.2.2])]) ⟨(.sm O O),⟨⟨_,O,.map⟩,⟨_,O,.boxL O ⟨.list O,.same O,.same O,.same O,.same O,.same O,ø⟩⟩,ø⟩,O⟩ (H0 ?_)))))))))
    cases h

def Zj (j:Hu) (box:Int):Option Int:=
 bnd (some (Hs.get j.ranks box 0)) fun a=>
 bif (Hs.has j.ranks box) then
 (some a)
 else
 (some (j.order.length:Int))
theorem H32 (j:Hu) (box:Int) (r:Int) (h:Zj j box=some r):Pure E8 82 [.dptr (Hu.cs j),I64 box] (·=I64 r):=by
 unfold Zj at h
 refine He [.tmp 4] Try.func82 O O (Jr fun c=>(JLm (I64 0) O (G6 (c (Js fun d=>Jr fun e=>(JLm (E6 j) O (JLh (E6 j) (H57 O O) O (JLh (.dptr ((Hu.cs j).drop 3)) (Gy G37 O O O) O (JLh (DM Ef I64 j.ranks) (Gp G4e O O O) O (JLm (I64 box) O ?_))))))))))
 obtain⟨b,f,h⟩:=Gd h
 refine JLh (.tup [I64 b,BL (Hs.has j.ranks box)]) (((Ex f) ▸ Ha4 (av:=I64) (m:=j.ranks) (a:=box) 0 E0 (fun _=>O) O .data O Jda G36 H5a O)) O (JLm (.tup [I64 b,BL (Hs.has j.ranks box)]) O (JLh (I64 b) (Gk O O O) O (JLh (BL (Hs.has j.ranks box)) (Gk O O O) O (JLm (I64 b) O (JLm (BL (Hs.has j.ranks box)) O (G6 (e (Jr fun g=>(JLm (BL (Hs.has j.ranks box)) O (G6 (g (JCc O h (fun h hb=>?_) (fun h hb=>?_)))))))))))))
 ·
  refine Jr fun i=>(JLm (I64 b) O (JLm (I64 b) O (G6 (i (H0 (fin1 I64 h))))))
 ·
  refine Gi (d (Jr fun k=>(JLm (E6 j) O (JLh (E6 j) (H57 O O) O (JLh (.dptr ((Hu.cs j).drop 2)) (Gy H39 O O O) O (JLh (E1 j.order) (Gp H5 O O O) O (JLl G7 O O O fun l=>(JLm (E7 j.order.length) O (G6 (k (H0 (fin1 I64 h))))))))))))

def Zw (j:Hu):Option Int:=
 each (fun k m (e:Int) g=>
  each (fun h l (a:Int×Int) f=>
   jp (fun b=>
    bnd (Zj j h) fun c=>
    bif decide (a.2 < c) then
    (chk (a.1+1) fun i=>
     b (i,a.2))
    else
    (b (a.1,c))) fun(d:Int×Int)=>
   f (d.1,d.2))
  (fun(a:Int×Int)=>
   g a.1) k 0 (e,(j.order.length:Int)))
 (fun(e:Int)=>
  some e) j.stacks 0 0
theorem H51 (j:Hu) (r:Int) (h:Zw j=some r):Pure E8 58 [.dptr (Hu.cs j)] (·=I64 r):=by
 unfold Zw at h
 refine He [.tmp 2] Try.func58 O O (Jr fun b2=>(JLm (I64 0) O (G6 (b2 (Jr fun b3=>(JLm (I64 0) O (G6 (b3 (Js fun b4=>Jr fun b6=>(JLm (E6 j) O (JLh (E6 j) (H57 O O) O (JLh (E6 j) (Gy G38 O O O) O (JLh (LS 1 (E1) j.stacks) (Gp Gs O O O) O (JLl Gf O O O fun t=>(JLm (I64 0) O (G6 (b6 (Gg ?_))))))))))))))))))
 obtain⟨b5,b7,b8,u,h⟩:=J6 h
 refine H9 (fun c (k:Int)=>each b5 b7 (List.drop c j.stacks) c k=some r) (fun c k=>[(0,E6 j),(3,I64 k),(13,LS 1 (E1) j.stacks),(14,E7 j.stacks.length),(15,E7 c)]) (fun c k=>[]) (fun c=>j.stacks.length - c) 0 0 h ⟨(.sm O O),ø,rfl⟩ ?_
 clear h
 intro c k q K5 e5
 refine Jr fun b9=>(JLh (BL (decide ((c:Int) < (j.stacks.length:Int)))) (J1 O O O) O (G6 (b9 (Js fun c0=>Gh O (fun hb=>?_) (fun hb=>?_)))))
 ·
  have s:=Jj hb
  obtain⟨d,d1,c1,c2,h⟩:=Hv q s
  replace h:=Yr b8 h
  refine Gi (c0 (Js fun c3=>Gg (Jr fun c4=>(JLh (.dptr [E1 d]) (H1 (f:=(E1)) (xs:=j.stacks) (y:=d) O O O Gf c1 O) O (JLh (E1 d) (Gp H5 O O O) O (JLm (E1 d) O (G6 (c4 (Jr fun v=>(JLm (E6 j) O (JLh (E6 j) (H57 O O) O (JLh (.dptr ((Hu.cs j).drop 2)) (Gy H39 O O O) O (JLh (E1 j.order) (Gp H5 O O O) O (JLl G7 O O O fun c9=>(JLm (E7 j.order.length) O (G6 (v (Jr fun w=>(JLm (E1 d) O (JLl G7 O O O fun x=>(JLm (I64 0) O (G6 (w (Gg ?_))))))))))))))))))))))))
  obtain⟨c5,z,a0,o,h⟩:=J6 h
  refine H9 (fun a (b:Int×Int)=>each c5 z (List.drop a d) a b=some r) (fun a b=>[(0,E6 j),(3,I64 b.1),(6,I64 b.2),(13,LS 1 (E1) j.stacks),(14,E7 j.stacks.length),(15,E7 c),(24,E1 d),(25,E7 d.length),(26,E7 a)]) (fun a b=>[]) (fun a=>d.length - a) 0 (k,(j.order.length:Int)) h ⟨(.sm O O),ø,rfl⟩ ?_
  clear h
  intro a b l d2 c6
  refine Jr fun a1=>(JLh (BL (decide ((a:Int) < (d.length:Int)))) (J1 O O O) O (G6 (a1 (Js fun a2=>Gh O (fun hb=>?_) (fun hb=>?_)))))
  ·
   have m:=Jj hb
   obtain⟨i,d0,a3,a4,h⟩:=Hv l m
   replace h:=Yr a0 h
   refine Gi (a2 ?_)
   obtain⟨a5,p,h⟩:=G13 h
   refine Z5 (fun e:Int×Int=>a5 e=some r) (fun e=>[(0,E6 j),(3,I64 e.1),(6,I64 e.2),(13,LS 1 (E1) j.stacks),(14,E7 j.stacks.length),(15,E7 c),(24,E1 d),(25,E7 d.length),(26,E7 a)]) (fun e=>[]) (fun Kj33 ej33=>?_) ?_
   ·
    refine Gg (Jr fun a6=>(JLh (.dptr [I64 i]) (H1 (f:=I64) (xs:=d) (y:=i) O O O G7 a3 O) O (JLh (I64 i) (Gp Gn O O O) O (JLm (I64 i) O (G6 (a6 (Jr fun a7=>(JLm (E6 j) O (JLm (I64 i) O ?_)))))))))
    obtain⟨g,a8,h⟩:=Gd h
    refine JLh (I64 g) (Gt O (H32 j i g a8) Q35 ⟨O,O,O,O,ø⟩) O (JLm (I64 g) O (G6 (a7 (Jr fun a9=>(JLm (I64 g) O (JLm (I64 b.2) O (JLh (BL (decide (b.2 < g))) (Yp O O O) O (G6 (a9 (JCc O h (fun h hb=>?_) (fun h hb=>?_)))))))))))
    ·
     refine G1 (JLm (I64 b.1) O ?_)
     obtain⟨n,b0,h⟩:=Jb h
     refine JLh (I64 n) (J0 b0 O O O) O (JLm (I64 n) O (G6 (ej33 _ _ (n,b.2) h ⟨(.sm O O),ø,rfl⟩)))
    ·
     refine G1 (JLm (I64 g) O (JLm (I64 g) O (G6 (ej33 _ _ (b.1,g) h ⟨(.sm O O),ø,rfl⟩))))
   ·intro e h
    replace h:=app1 p h
    refine G1 (JLh (I64 ((a+1:Nat):Int)) (J0 (Hk m x) O O O) O (JLm (I64 ((a+1:Nat):Int)) O (G6 (c6 _ _ (a+1) (e.1,e.2) (app1 a4 h) (by omega) ⟨(.sm O O),ø,rfl⟩))))
  ·
   have h:=app1 o (Hw l (Hb hb))
   refine Hd (c3 (G1 (JLh (I64 ((c+1:Nat):Int)) (J0 (Hk s t) O O O) O (JLm (I64 ((c+1:Nat):Int)) O (G6 (e5 _ _ (c+1) b.1 (app1 c2 h) (by omega) ⟨(.sm O O),ø,rfl⟩))))))
 ·
  have h:=app1 u (Hw q (Hb hb))
  refine Hd (b4 (Jr fun b1=>(JLm (I64 k) O (JLm (I64 k) O (G6 (b1 (H0 (fin1 I64 h))))))))

def Qq (y:Gm) (order:List Int):Option (Int×Int):=
 bif (R1 y order).isSome then
 (bnd (R1 y order) fun a=>
  bif (!a.2) then
  (some (0,2))
  else
  (bnd (Zw a.1) fun c=>
   some (c,0)))
 else
 (bnd (Yy y order) fun b=>
  bif (!b) then
  (some (0,2))
  else
  (none))
theorem Yz (y:Gm) (order:List Int) (r:Int×Int) (h:Qq y order=some r):Pure E8 26 [.agg [LS 1 (E1) y.Stacks,I64 y.Height],E1 order] (·=.tup [I64 r.1,I64 r.2]):=by
 unfold Qq at h
 refine He [.tmp 4,.tmp 5] Try.func26 O O (Jr fun l=>(JLh (.ptr 1046 0) (Qr (cs:=[LS 1 (E1) y.Stacks,I64 y.Height]) 1046 O O O O O) O (JLm (I64 0) O (JLm (I64 0) O (G6 (l (H2 [(1,E1 order),(2,.dptr [LS 1 (E1) y.Stacks,I64 y.Height])] [] 1046 rfl rfl rfl ø rfl (by exact⟨.conv (.same rfl),.ptr,ø⟩) (Jr fun f=>(JLh (.agg [LS 1 (E1) y.Stacks,I64 y.Height]) (Gr H8 O O O) O (JLm (E1 order) O ((Bool.eq_false_or_eq_true (R1 y order).isSome).elim (fun d=>?_) (fun d=>?_))))))))))))
 ·
  replace h:=H3 d h
  obtain⟨a,m,h⟩:=Gd h
  refine JLh (.tup [.ptr 1111 0,BL a.2]) (Hd4 (args:=[.agg [LS 1 (E1) y.Stacks,I64 y.Height],E1 order]) (L0:=[]) (Lr:=[(1111,.box 105 [LS 1 (E1) a.1.stacks,I64 a.1.height,E1 a.1.order,.mp 1112,E3 a.1.steps,I64 a.1.next]),(1112,TP 103 Ef I64 a.1.ranks)]) O (H9e y order a m) J2d ⟨.inl O,O,.inl O,O,ø⟩ ø O O O) O (JLm (.tup [.ptr 1111 0,BL a.2]) O (JLh (.ptr 1111 0) (Gk O O O) O (JLh (BL a.2) (Gk O O O) O (JLm (.ptr 1111 0) O (JLm (BL a.2) O (G6 (f (Js fun n=>Jr fun o=>(JLm (BL a.2) O (JLh (BL (!a.2)) (Yx (b:=a.2) O O) O (G6 (o (JCc O h (fun h hb=>?_) (fun h hb=>?_))))))))))))))
  ·
   refine Jr fun p=>(JLm (I64 0) O (JLm (I64 2) O (G6 (p (H0 (⟨[I64 0,I64 2],[],ø,O,⟨⟨_,O,.conv (.same O)⟩,⟨_,O,.conv (.same O)⟩,ø⟩,O,congrArg (fun r:Int×Int=>(.tup [I64 r.1,I64 r.2]:AV)) (Ex h)⟩))))))
  ·
   refine Gi (n (Jr fun q=>(JLm (.ptr 1111 0) O ?_)))
   obtain⟨e,s,h⟩:=Gd h
   refine JLh (I64 e) (Q25 (args:=[.dptr (Hu.cs a.1)]) O (H51 a.1 e s) Q3d ⟨.ptrL O (dnQ 3 O O ⟨.mp O,.data O O,.data O O,ø⟩),ø⟩ O) O (JLm (I64 e) O (JLm (I64 0) O (G6 (q (H0 (⟨[I64 e,I64 0],[],ø,O,⟨⟨_,O,.conv (.same O)⟩,⟨_,O,.conv (.same O)⟩,ø⟩,O,congrArg (fun r:Int×Int=>(.tup [I64 r.1,I64 r.2]:AV)) (Ex h)⟩))))))
 ·
  replace h:=Hq d h
  obtain⟨c,g,h⟩:=Gd h
  refine JLh (.tup [.sc (.pointer none),BL c]) (Gt O (H52 y order c g) J2d ⟨O,O,O,O,ø⟩) O (JLm (.tup [.sc (.pointer none),BL c]) O (JLh (.sc (.pointer none)) (Gk O O O) O (JLh (BL c) (Gk O O O) O (JLm (.sc (.pointer none)) O (JLm (BL c) O (G6 (f (Js fun i=>Jr fun j=>(JLm (BL c) O (JLh (BL (!c)) (Yx (b:=c) O O) O (G6 (j (JCc O h (fun h hb=>?_) (fun h hb=>?_))))))))))))))
  ·
   refine Jr fun k=>(JLm (I64 0) O (JLm (I64 2) O (G6 (k (H0 (⟨[I64 0,I64 2],[],ø,O,⟨⟨_,O,.conv (.same O)⟩,⟨_,O,.conv (.same O)⟩,ø⟩,O,congrArg (fun r:Int×Int=>(.tup [I64 r.1,I64 r.2]:AV)) (Ex h)⟩))))))
  ·
   refine Gi (i (Jr fun t=>(JLm (.sc (.pointer none)) O ?_)))
   cases h

def Jk (a:List G3) (b:List G3):Option Bool:=
 bif decide ((a.length:Int)≠(b.length:Int)) then
 (some false)
 else
 (each (fun d e (f:Unit) c=>
   R5 b (e:Int) fun g=>
   bif (!decide (d=g)) then
   (some false)
   else
   (c ()))
  (fun(f:Unit)=>
   some true) a 0 ())
theorem Qp (a:List G3) (b:List G3) (r:Bool) (h:Jk a b=some r):Pure E8 20 [E2 a,E2 b] (·=BL r):=by
 unfold Jk at h
 refine He [.tmp 4] Try.func20 O O (Jr fun a0=>(JLm (BL false) O (G6 (a0 (Js fun a1=>Jr fun a2=>(JLm (E2 a) O (JLl Hx O O O fun a9=>(JLm (E2 b) O (JLl Hx O O O fun b0=>(JLh (BL (decide ((a.length:Int)≠(b.length:Int)))) (Yi O O O) O (G6 (a2 (JCc O h (fun h hb=>?_) (fun h hb=>?_))))))))))))))
 ·
  refine Jr fun a3=>(JLm (BL false) O (G6 (a3 (H0 (fin1 BL h)))))
 ·
  refine Gi (a1 (Js fun a4=>Jr fun a5=>(JLm (I64 0) O (G6 (a5 (Gg ?_))))))
  obtain⟨a6,l,m,k,h⟩:=J6 h
  refine H9 (fun c (g:Unit)=>each a6 l (List.drop c a) c g=some r) (fun c g=>[(0,E2 a),(1,E2 b),(5,E7 c)]) (fun c g=>[]) (fun c=>a.length - c) 0 () h ⟨(.sm O O),ø,O⟩ ?_
  clear h
  intro c g i b1 a7
  refine Js fun n=>Jr fun o=>(JLm (E7 c) O (JLm (E2 a) O (JLl Hx O O O fun p=>(JLh (BL (decide ((c:Int) < (a.length:Int)))) (J1 O O O) O (G6 (o (Gh O (fun hb=>?_) (fun hb=>?_))))))))
  ·
   have j:=Jj hb
   obtain⟨d,a8,q,s,h⟩:=Hv i j
   replace h:=Yr m h
   refine Gi (n (Js fun t=>Gg (Js fun u=>?_)))
   obtain⟨b2,e,v,w,h⟩:=R7 h
   refine JC_d0 Jp (by kernel_rfl) (Dq (E2 a) (G2 O O) O (Dq (E7 c) (G2 O O) O (Dq (.dptr [I64 d.From,I64 d.To]) (H1 (f:=G3.av) (xs:=a) (y:=d) O O O Hx q O) O (Dq (.agg [I64 d.From,I64 d.To]) (Gr G2a O O O) O (Dq (E2 b) (G2 O O) O (Dq (E7 c) (G2 O O) O (Dq (.dptr [I64 e.From,I64 e.To]) (H1 (f:=G3.av) (xs:=b) (y:=e) O O O Hx w v) O (Dq (.agg [I64 e.From,I64 e.To]) (Gr G2a O O O) O (Dq (BL (!decide (d=e))) (R71 (vs:=[.int .i64 d.From,.int .i64 d.To]) (us:=[.int .i64 e.From,.int .i64 e.To]) 4 O (Red d e) Je0 Qb9 O O O) O (Dnil (u (JCc O h (fun h hb=>?_) (fun h hb=>?_)))))))))))))
   ·
    refine Jr fun x=>(JLm (BL false) O (G6 (x (H0 (fin1 BL h)))))
   ·
    refine Gi (t (G1 (JLm (E7 c) O (JLh (I64 ((c+1:Nat):Int)) (J0 (Hk j p) O O O) O (JLm (I64 ((c+1:Nat):Int)) O (G6 (a7 _ _ (c+1) () (app1 s h) (by omega) ⟨(.sm O O),ø,rfl⟩)))))))
  ·
   have h:=app1 k (Hw i (Hb hb))
   refine Hd (a4 (Jr fun z=>(JLm (BL true) O (G6 (z (H0 (fin1 BL h)))))))

def Qb (order:List Int) (box:Int):Option Int:=
 bnd (Y3 order box) fun a=>
 bif decide (0≤a) then
 (some a)
 else
 (some (order.length:Int))
theorem Yg (order:List Int) (box:Int) (r:Int) (h:Qb order box=some r):Pure E8 40 [E1 order,I64 box] (·=I64 r):=by
 unfold Qb at h
 refine He [.tmp 4] Try.func40 O O (Jr fun b=>(JLm (I64 0) O (G6 (b (Js fun c=>Jr fun d=>(JLm (E1 order) O (JLm (I64 box) O ?_)))))))
 obtain⟨a,e,h⟩:=Gd h
 refine JLh (I64 a) (Gt O (Ga9 order box a e) J2b ⟨O,O,O,O,ø⟩) O (JLm (I64 a) O (G6 (d (Jr fun f=>(JLm (I64 a) O (JLh (BL (decide (0≤a))) (G59 O O O) O (G6 (f (JCc O h (fun h hb=>?_) (fun h hb=>?_))))))))))
 ·
  refine Jr fun g=>(JLm (I64 a) O (JLm (I64 a) O (G6 (g (H0 (fin1 I64 h))))))
 ·
  refine Gi (c (Jr fun i=>(JLm (E1 order) O (JLl G7 O O O fun j=>(JLm (E7 order.length) O (G6 (i (H0 (fin1 I64 h)))))))))

def Ry (y:Gm) (order:List Int):Option (List Int):=
 each (fun j l (e:(List Int)) g=>
  each (fun b k (a:Int×(List Int)) f=>
   bnd (Qb order b) fun d=>
   jp (fun c=>
    bif decide (a.1 < d) then
    (need (decide ((a.2.length+[b].length)*8≤140737488355328∧a.2.length+[b].length≤maxLen)) <|
     c (a.2++[b]))
    else
    (c a.2)) fun(h:(List Int))=>
   f ((min a.1 d),h))
  (fun(a:Int×(List Int))=>
   g a.2) j 0 ((order.length:Int),e))
 (fun(e:(List Int))=>
  bnd (J36 e) fun i=>
  some i) y.Stacks 0 []
theorem H2c (y:Gm) (order:List Int) (r:(List Int)) (h:Ry y order=some r):Pure E8 50 [.agg [LS 1 (E1) y.Stacks,I64 y.Height],E1 order] (·=E1 r):=by
 unfold Ry at h
 refine He [.tmp 4] Try.func50 O O (Jr fun b4=>(JLh (.ptr 1068 0) (Qr (cs:=[LS 1 (E1) y.Stacks,I64 y.Height]) 1068 O O O O O) O (JLh (E1 ([]:List Int)) (Jo 1 O O) O (G6 (b4 (H2 [(1,E1 order),(2,.dptr [LS 1 (E1) y.Stacks,I64 y.Height])] [] 1068 rfl rfl rfl ø rfl (by exact⟨.conv (.same rfl),.ptr,ø⟩) (Jr fun b6=>(JLh (.vec 1070 (([]:List Int).length) 1 (([]:List Int).length)) (H55 1070 3 1 O O O) O (G6 (b6 (Js fun b7=>Jr fun b8=>(JLh (.dptr [LS 1 (E1) y.Stacks,I64 y.Height]) (Gy Hp O O O) O (JLh (LS 1 (E1) y.Stacks) (Gp Gs O O O) O (JLl Gf O O O fun s=>(JLm (I64 0) O (G6 (b8 (Gg ?_))))))))))))))))))
 obtain⟨b5,b9,c0,t,h⟩:=J6 h
 refine H9 (fun g (d:(List Int))=>each b5 b9 (List.drop g y.Stacks) g d=some r) (fun g d=>[(1,E1 order),(5,.vec 1070 d.length 1 d.length),(13,LS 1 (E1) y.Stacks),(14,E7 y.Stacks.length),(15,E7 g)]) (fun g d=>[(1070,.vec 3 1 d.length (d.map I64))]) (fun g=>y.Stacks.length - g) 0 [] h ⟨(.sm O O),⟨⟨_,rfl,.vec⟩,ø⟩,rfl⟩ ?_
 clear h
 intro g d o K5 e5
 refine Jr fun c1=>(JLh (BL (decide ((g:Int) < (y.Stacks.length:Int)))) (J1 O O O) O (G6 (c1 (Js fun c2=>Gh O (fun hb=>?_) (fun hb=>?_)))))
 ·
  have p:=Jj hb
  obtain⟨j,d3,c3,c4,h⟩:=Hv o p
  replace h:=Yr c0 h
  refine Gi (c2 (Js fun c5=>Gg (Jr fun c6=>(JLh (.dptr [E1 j]) (H1 (f:=(E1)) (xs:=y.Stacks) (y:=j) O O O Gf c3 O) O (JLh (E1 j) (Gp H5 O O O) O (JLm (E1 j) O (G6 (c6 (Jr fun u=>(JLm (E1 order) O (JLl G7 O O O fun d1=>(JLm (E7 order.length) O (G6 (u (Jr fun v=>(JLm (E1 j) O (JLl G7 O O O fun w=>(JLm (I64 0) O (G6 (v (Gg ?_)))))))))))))))))))))
  obtain⟨c7,x,z,m,h⟩:=J6 h
  refine H9 (fun c (a:Int×(List Int))=>each c7 x (List.drop c j) c a=some r) (fun c a=>[(1,E1 order),(5,.vec 1070 a.2.length 1 a.2.length),(8,I64 a.1),(13,LS 1 (E1) y.Stacks),(14,E7 y.Stacks.length),(15,E7 g),(21,E1 j),(22,E7 j.length),(23,E7 c)]) (fun c a=>[(1070,.vec 3 1 a.2.length (a.2.map I64))]) (fun c=>j.length - c) 0 ((order.length:Int),d) h ⟨(.sm O O),⟨⟨_,rfl,.vec⟩,ø⟩,rfl⟩ ?_
  clear h
  intro c a k d4 c8
  refine Jr fun a0=>(JLh (BL (decide ((c:Int) < (j.length:Int)))) (J1 O O O) O (G6 (a0 (Js fun a1=>Gh O (fun hb=>?_) (fun hb=>?_)))))
  ·
   have l:=Jj hb
   obtain⟨b,d2,a2,a3,h⟩:=Hv k l
   replace h:=Yr z h
   refine Gi (a1 (Js fun a4=>Gg (Jr fun a5=>(JLh (.dptr [I64 b]) (H1 (f:=I64) (xs:=j) (y:=b) O O O G7 a2 O) O (JLh (I64 b) (Gp Gn O O O) O (JLm (I64 b) O (G6 (a5 (Jr fun a6=>(JLm (E1 order) O (JLm (I64 b) O ?_)))))))))))
   obtain⟨e,a7,h⟩:=Gd h
   refine JLh (I64 e) (Gt O (Yg order b e a7) G5f ⟨O,O,O,O,ø⟩) O (JLm (I64 e) O (G6 (a6 ?_)))
   obtain⟨a8,n,h⟩:=G13 h
   refine Z5 (fun i:(List Int)=>a8 i=some r) (fun i=>[(1,E1 order),(5,.vec 1070 i.length 1 i.length),(8,I64 a.1),(11,I64 e),(13,LS 1 (E1) y.Stacks),(14,E7 y.Stacks.length),(15,E7 g),(21,E1 j),(22,E7 j.length),(23,E7 c)]) (fun i=>[(1070,.vec 3 1 i.length (i.map I64))]) (fun Kj67 ej67=>?_) ?_
   ·
    refine Jr fun a9=>(JLm (I64 e) O (JLm (I64 a.1) O (JLh (BL (decide (a.1 < e))) (Yp O O O) O (G6 (a9 (JCc O h (fun h hb=>?_) (fun h hb=>?_)))))))
    ·
     refine G1 (JLm (.vec 1070 a.2.length 1 a.2.length) O (JLm (I64 b) O (JLh (E1 [b]) (Ha (xs:=[I64 b]) O ⟨O,O,ø⟩ G7 Jg O O O O) O ?_)))
     obtain⟨b0,h⟩:=J2 h
     refine JLh (.vec 1070 ((a.2++[b]).length) 1 ((a.2++[b]).length)) (G97 (f:=I64) (xs:=a.2) (ys:=[b]) (ver:=a.2.length) (ver1:=(a.2++[b]).length) rfl rfl rfl rfl G7 Qz b0 (fun _=>rfl) (.inl rfl) (by simp)) O (JLm (.vec 1070 ((a.2++[b]).length) 1 ((a.2++[b]).length)) O (G6 (ej67 _ _ (a.2++[b]) h ⟨(.sm O O),⟨⟨_,rfl,.vec⟩,ø⟩,rfl⟩)))
    ·
     refine Gi (ej67 _ _ a.2 h ⟨(.sm O O),⟨⟨_,rfl,.vec⟩,ø⟩,rfl⟩)
   ·intro i h
    replace h:=app1 n h
    refine G1 (JLm (I64 a.1) O (JLm (I64 e) O (JLh (I64 (min a.1 e)) (Qb4 O O O) O (JLm (I64 (min a.1 e)) O (G6 (a4 (G1 (JLh (I64 ((c+1:Nat):Int)) (J0 (Hk l w) O O O) O (JLm (I64 ((c+1:Nat):Int)) O (G6 (c8 _ _ (c+1) ((min a.1 e),i) (app1 a3 h) (by omega) ⟨(.sm O O),⟨⟨_,rfl,.vec⟩,ø⟩,rfl⟩)))))))))))
  ·
   have h:=app1 m (Hw k (Hb hb))
   refine Hd (c5 (G1 (JLh (I64 ((g+1:Nat):Int)) (J0 (Hk p s) O O O) O (JLm (I64 ((g+1:Nat):Int)) O (G6 (e5 _ _ (g+1) a.2 (app1 c4 h) (by omega) ⟨(.sm O O),⟨⟨_,rfl,.vec⟩,ø⟩,rfl⟩))))))
 ·
  have h:=app1 t (Hw o (Hb hb))
  refine Hd (b7 (Jr fun b1=>(JLm (.vec 1070 d.length 1 d.length) O ?_)))
  obtain⟨q,b2,h⟩:=Gd h
  refine JLh (.tup []) (Qb0 (F:=77) (xs:=d) (r:=q) O Hf9 Hac J2a O O O b2 O) O (G6 (b1 (Jr fun b3=>(JLm (.vec 1070 d.length 1 d.length) O (JLm (.vec 1070 d.length 1 d.length) O (G6 (b3 (H26 [(4,E1 q)] [] 1070 rfl rfl ø rfl (by exact⟨.vec,ø⟩) (H0 (fin1 (fun r:(List Int)=>(E1 r:AV)) h))))))))))

def Rz (y:Gm) (order:List Int):Option ((List Int)×Int):=
 bnd (Qq y order) fun a=>
 bif decide (a.2≠0) then
 (some ([],a.2))
 else
 (bnd (Ry y order) fun b=>
  some (b,0))
theorem G5c (y:Gm) (order:List Int) (r:(List Int)×Int) (h:Rz y order=some r):Pure E8 23 [.agg [LS 1 (E1) y.Stacks,I64 y.Height],E1 order] (·=.tup [E1 r.1,I64 r.2]):=by
 unfold Rz at h
 refine He [.tmp 4,.tmp 5] Try.func23 O O (Jr fun c=>(JLh (.ptr 1040 0) (Qr (cs:=[LS 1 (E1) y.Stacks,I64 y.Height]) 1040 O O O O O) O (JLh (E1 ([]:List Int)) (Jo 1 O O) O (JLm (I64 0) O (G6 (c (H2 [(1,E1 order),(2,.dptr [LS 1 (E1) y.Stacks,I64 y.Height])] [] 1040 rfl rfl rfl ø rfl (by exact⟨.conv (.same rfl),.ptr,ø⟩) (Js fun d=>Jr fun e=>(JLh (.agg [LS 1 (E1) y.Stacks,I64 y.Height]) (Gr H8 O O O) O (JLm (E1 order) O ?_))))))))))
 obtain⟨a,f,h⟩:=Gd h
 refine JLh (.tup [I64 a.1,I64 a.2]) (Gt O (Yz y order a f) G89 ⟨O,O,O,O,ø⟩) O (JLm (.tup [I64 a.1,I64 a.2]) O (JLh (I64 a.1) (Gk O O O) O (JLh (I64 a.2) (Gk O O O) O (JLm (I64 a.1) O (JLm (I64 a.2) O (G6 (e (Jr fun g=>(JLm (I64 a.2) O (JLh (BL (decide (a.2≠0))) (Yi O O O) O (G6 (g (JCc O h (fun h hb=>?_) (fun h hb=>?_))))))))))))))
 ·
  refine Jr fun i=>(JLm (I64 a.2) O (JLh (E1 ([]:List Int)) (Jo 1 O O) O (JLm (I64 a.2) O (G6 (i (H0 (⟨[E1 ([]:List Int),I64 a.2],[],ø,O,⟨⟨_,O,.conv (.same O)⟩,⟨_,O,.conv (.same O)⟩,ø⟩,O,congrArg (fun r:(List Int)×Int=>(.tup [E1 r.1,I64 r.2]:AV)) (Ex h)⟩)))))))
 ·
  refine Gi (d (Jr fun j=>(JLh (.agg [LS 1 (E1) y.Stacks,I64 y.Height]) (Gr H8 O O O) O (JLm (E1 order) O ?_))))
  obtain⟨b,k,h⟩:=Gd h
  refine JLh (E1 b) (Gt O (H2c y order b k) H86 ⟨O,O,O,O,ø⟩) O (JLm (E1 b) O (JLm (I64 0) O (G6 (j (H0 (⟨[E1 b,I64 0],[],ø,O,⟨⟨_,O,.conv (.same O)⟩,⟨_,O,.conv (.same O)⟩,ø⟩,O,congrArg (fun r:(List Int)×Int=>(.tup [E1 r.1,I64 r.2]:AV)) (Ex h)⟩))))))

def Rb (y:Gm) (order:List Int) (from_:Int) (rank:Int):Option Int:=
 each (fun e f (a:Int×Int) g=>
  jp (fun c=>
   bif ((decide ((f:Int)=from_))||(decide ((e.length:Int)=y.Height))) then
   (c (a.1,a.2))
   else
   (chk ((order.length:Int)+1) fun h=>
    each (fun i l (b:Int) d=>
     bnd (Qb order i) fun j=>
     d (min b j))
    (fun(b:Int)=>
     bif ((decide (rank≤b))&&((decide (a.1 < 0))||(decide (b < a.2)))) then
     (c ((f:Int),b))
     else
     (c (a.1,a.2))) e 0 h)) fun(k:Int×Int)=>
  g (k.1,k.2))
 (fun(a:Int×Int)=>
  some a.1) y.Stacks 0 ((-1),0)
theorem Hca (y:Gm) (order:List Int) (from_:Int) (rank:Int) (r:Int) (h:Rb y order from_ rank=some r):Pure E8 56 [.agg [LS 1 (E1) y.Stacks,I64 y.Height],E1 order,I64 from_,I64 rank] (·=I64 r):=by
 unfold Rb at h
 refine He [.tmp 8] Try.func56 O O (Jr fun b4=>(JLh (.ptr 1072 0) (Qr (cs:=[LS 1 (E1) y.Stacks,I64 y.Height]) 1072 O O O O O) O (JLm (I64 0) O (G6 (b4 (fzQ [(1,E1 order),(2,I64 from_),(3,I64 rank),(4,.dptr [LS 1 (E1) y.Stacks,I64 y.Height])] [] 1072 rfl rfl rfl ø rfl (Jr fun b6=>(JLm (I64 (-1)) O (JLm (I64 0) O (G6 (b6 (Js fun b7=>Jr fun b8=>(JLh (.dptr [LS 1 (E1) y.Stacks,I64 y.Height]) (Gy Hp O O O) O (JLh (LS 1 (E1) y.Stacks) (Gp Gs O O O) O (JLl Gf O O O fun q=>(JLm (I64 0) O (G6 (b8 (Gg ?_)))))))))))))))))))
 obtain⟨b5,b9,c0,s,h⟩:=J6 h
 refine H9 (fun b (c:Int×Int)=>each b5 b9 (List.drop b y.Stacks) b c=some r) (fun b c=>[(1,E1 order),(2,I64 from_),(3,I64 rank),(4,.dptr [LS 1 (E1) y.Stacks,I64 y.Height]),(9,I64 c.1),(10,I64 c.2),(17,LS 1 (E1) y.Stacks),(18,E7 y.Stacks.length),(19,E7 b)]) (fun b c=>[]) (fun b=>y.Stacks.length - b) 0 ((-1),0) h ⟨(.sm O O),ø,rfl⟩ ?_
 clear h
 intro b c o K5 e5
 refine Jr fun c1=>(JLh (BL (decide ((b:Int) < (y.Stacks.length:Int)))) (J1 O O O) O (G6 (c1 (Js fun c2=>Gh O (fun hb=>?_) (fun hb=>?_)))))
 ·
  have p:=Jj hb
  obtain⟨e,d3,c3,c4,h⟩:=Hv o p
  replace h:=Yr c0 h
  refine Gi (c2 ?_)
  obtain⟨c5,t,h⟩:=G13 h
  refine Z5 (fun i:Int×Int=>c5 i=some r) (fun i=>[(1,E1 order),(2,I64 from_),(3,I64 rank),(4,.dptr [LS 1 (E1) y.Stacks,I64 y.Height]),(9,I64 i.1),(10,I64 i.2),(17,LS 1 (E1) y.Stacks),(18,E7 y.Stacks.length),(19,E7 b)]) (fun i=>[]) (fun Kj8 ej8=>?_) ?_
  ·
   refine Gg (Jr fun c6=>(JLm (E7 b) O (JLh (.dptr [E1 e]) (H1 (f:=(E1)) (xs:=y.Stacks) (y:=e) O O O Gf c3 O) O (JLh (E1 e) (Gp H5 O O O) O (JLm (E7 b) O (JLm (E1 e) O (G6 (c6 (Js fun v=>?_)))))))))
   refine Jr fun w=>(JLm (E7 b) O (JLm (I64 from_) O (JLh (BL (decide ((b:Int)=from_))) (Qy O O O) O (JLm (BL (decide ((b:Int)=from_))) O (JLo (E1 e) [] O .scf ø (fun hc=>G2 O O) O (JLo (E7 e.length) [28] O .scf ⟨Ua,ø⟩ (fun hc=>Jx (f:=I64) (xs:=e) G7 O O) O (JLo (.dptr [I64 y.Height]) [] O .scf ø (fun hc=>Gy Rv O O O) O (JLo (I64 y.Height) [30] O .scf ⟨Ua,ø⟩ (fun hc=>Gp Gn O O O) O (JLo (BL (decide ((e.length:Int)=y.Height))) [29,31] O .scf ⟨Ua,Ua,ø⟩ (fun hc=>Qy O O O) O (JLh (BL ((decide ((b:Int)=from_))||(decide ((e.length:Int)=y.Height)))) (Yn O O O O) O (G6 (w (JCc O h (fun h hb=>?_) (fun h hb=>?_))))))))))))))
   ·
    refine Hd (ej8 _ _ (c.1,c.2) h ⟨(.sm O O),ø,rfl⟩)
   ·
    refine Gi (v (Jr fun x=>(JLm (E1 order) O (JLl G7 O O O fun d1=>?_))))
    obtain⟨k,z,h⟩:=Jb h
    refine JLh (I64 k) (J0 z O O O) O (JLm (I64 k) O (G6 (x (Js fun a0=>Jr fun a1=>(JLm (E1 e) O (JLl G7 O O O fun a2=>(JLm (I64 0) O (G6 (a1 (Gg ?_))))))))))
    obtain⟨c7,a3,a4,n,h⟩:=J6 h
    refine H9 (fun d (a:Int)=>each c7 a3 (List.drop d e) d a=some r) (fun d a=>[(1,E1 order),(2,I64 from_),(3,I64 rank),(4,.dptr [LS 1 (E1) y.Stacks,I64 y.Height]),(9,I64 c.1),(10,I64 c.2),(11,E7 b),(13,I64 a),(17,LS 1 (E1) y.Stacks),(18,E7 y.Stacks.length),(19,E7 b),(37,E1 e),(38,E7 e.length),(39,E7 d)]) (fun d a=>[]) (fun d=>e.length - d) 0 k h ⟨(.sm O O),ø,rfl⟩ ?_
    clear h
    intro d a l d4 c8
    refine Jr fun a5=>(JLh (BL (decide ((d:Int) < (e.length:Int)))) (J1 O O O) O (G6 (a5 (Js fun a6=>Gh O (fun hb=>?_) (fun hb=>?_)))))
    ·
     have m:=Jj hb
     obtain⟨g,d2,a7,a8,h⟩:=Hv l m
     replace h:=Yr a4 h
     refine Gi (a6 (Js fun a9=>Gg (Jr fun b0=>(JLh (.dptr [I64 g]) (H1 (f:=I64) (xs:=e) (y:=g) O O O G7 a7 O) O (JLh (I64 g) (Gp Gn O O O) O (JLm (I64 g) O (G6 (b0 (G1 (JLm (I64 a) O (JLm (E1 order) O (JLm (I64 g) O ?_))))))))))))
     obtain⟨j,b1,h⟩:=Gd h
     refine JLh (I64 j) (Gt O (Yg order g j b1) G5f ⟨O,O,O,O,ø⟩) O (JLh (I64 (min a j)) (Qb4 O O O) O (JLm (I64 (min a j)) O (G6 (a9 (G1 (JLh (I64 ((d+1:Nat):Int)) (J0 (Hk m a2) O O O) O (JLm (I64 ((d+1:Nat):Int)) O (G6 (c8 _ _ (d+1) (min a j) (app1 a8 h) (by omega) ⟨(.sm O O),ø,rfl⟩)))))))))
    ·
     have h:=app1 n (Hw l (Hb hb))
     refine Hd (a0 (Jr fun b2=>(JLm (I64 a) O (JLm (I64 rank) O (JLh (BL (decide (rank≤a))) (G59 O O O) O (JLm (BL (decide (rank≤a))) O (JLo (I64 c.1) [] O .sct ø (fun hc=>G2 O O) O (JLo (BL (decide (c.1 < 0))) [53] O .sct ⟨Ua,ø⟩ (fun hc=>J1 O O O) O (JLo (BL (decide (c.1 < 0))) [54] O .sct ⟨Ua,ø⟩ (fun hc=>G2 O O) O (JLo (I64 a) [] O .optf ø (fun hc=>G2 O O) O (JLo (I64 c.2) [] O .optf ø (fun hc=>G2 O O) O (JLo (BL (decide (a < c.2))) [56,57] O .optf ⟨Ua,Ua,ø⟩ (fun hc=>J1 O O O) O (Ga (u:=BL ((decide (c.1 < 0))||(decide (a < c.2)))) [(55,BL (decide (c.1 < 0))),(58,_)] O O O .sct ⟨.all id,.part,ø⟩ (fun hc=>Yn O O O O) ?_)))))))))))))
     refine JLh (BL ((decide (rank≤a))&&((decide (c.1 < 0))||(decide (a < c.2))))) (R9 O O O O) O (G6 (b2 (JCc O h (fun h hb=>?_) (fun h hb=>?_))))
     ·
      refine G1 (JLm (E7 b) O (JLm (I64 a) O (JLm (E7 b) O (JLm (I64 a) O (G6 (ej8 _ _ ((b:Int),a) h ⟨(.sm O O),ø,rfl⟩))))))
     ·
      refine Gi (ej8 _ _ (c.1,c.2) h ⟨(.sm O O),ø,rfl⟩)
  ·intro i h
   replace h:=app1 t h
   refine G1 (JLh (I64 ((b+1:Nat):Int)) (J0 (Hk p q) O O O) O (JLm (I64 ((b+1:Nat):Int)) O (G6 (e5 _ _ (b+1) (i.1,i.2) (app1 c4 h) (by omega) ⟨(.sm O O),ø,rfl⟩))))
 ·
  have h:=app1 s (Hw o (Hb hb))
  refine Hd (b7 (Jr fun b3=>(JLm (I64 c.1) O (JLm (I64 c.1) O (G6 (b3 (H0 (fin1 I64 h))))))))
end
end Go.Proofs.Ytokjlondbjdlfaa
