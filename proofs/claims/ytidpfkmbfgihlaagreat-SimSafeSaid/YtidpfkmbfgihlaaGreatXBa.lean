/- Walks of functions. -/
import Derived.Test.YtidpfkmbfgihlaaGreatSpecU
set_option maxRecDepth 100000
set_option maxHeartbeats 1000000
set_option linter.unusedVariables false
set_option linter.unusedSimpArgs false
namespace Go.Proofs.YtidpfkmbfgihlaaGreat
open Go.RowKit
noncomputable section
structure Gv where
 G2:Int
 Kilos:Int
 Small:Bool
 High:Bool
 deriving DecidableEq,Inhabited
def Gv.cs (x:Gv):List AV:=[U8 x.G2,U8 x.Kilos,BL x.Small,BL x.High]
def Gv.av (x:Gv):AV:=.agg x.cs
abbrev Em (x:Gv):AV:=.dptr (Gv.cs x)
abbrev Eb:=LS 4 Gv.av
structure H8 where
 Bay:Int
 Row:Int
 Tiers:Int
 Deck:Bool
 deriving DecidableEq,Inhabited
def H8.cs (x:H8):List AV:=[U8 x.Bay,U8 x.Row,U8 x.Tiers,BL x.Deck]
def H8.av (x:H8):AV:=.agg x.cs
abbrev Ec:=LS 4 H8.av
structure Hd where
 Kind:Int
 Box:Int
 G2:Int
 Tier:Int
 Half:Int
 G8:Int
 deriving DecidableEq,Inhabited
def Hd.cs (x:Hd):List AV:=[U8 x.Kind,U8 x.Box,U8 x.G2,U8 x.Tier,U8 x.Half,U8 x.G8]
def Hd.av (x:Hd):AV:=.agg x.cs
namespace XBF
open XAF
open XCF
open XSF
open XKF
open XTF
open XUF
theorem Re5:Gf6 Eo 132 4=true:=by kernel_rfl
theorem Q77:Gf6 Eo 135 4=true:=by kernel_rfl
theorem G8e:H7 Eo 10=true:=by kernel_rfl
theorem R70:H7 Eo 105=true:=by kernel_rfl
theorem Gd3:H7 Eo 11=true:=by kernel_rfl
theorem J73:H7 Eo 12=true:=by kernel_rfl
theorem Q06:H7 Eo 122=true:=by kernel_rfl
theorem R65:H7 Eo 123=true:=by kernel_rfl
theorem R64:H7 Eo 124=true:=by kernel_rfl
theorem Hde:H7 Eo 14=true:=by kernel_rfl
theorem R5b:H7 Eo 153=true:=by kernel_rfl
theorem H0d:H7 Eo 18=true:=by kernel_rfl
theorem G8d:H7 Eo 23=true:=by kernel_rfl
theorem Q72:H7 Eo 29=true:=by kernel_rfl
theorem Q71:H7 Eo 30=true:=by kernel_rfl
theorem Q70:H7 Eo 33=true:=by kernel_rfl
theorem Rd6:H7 Eo 50=true:=by kernel_rfl
theorem Rd2:H7 Eo 56=true:=by kernel_rfl
theorem Rc9:H7 Eo 69=true:=by kernel_rfl
theorem Q67:H7 Eo 70=true:=by kernel_rfl
theorem J6b:Z8 Eo 60 9 64=true:=by kernel_rfl
theorem Q5d:Jk Eo 132 0 0=true:=by kernel_rfl
theorem Q5c:Jk Eo 132 1 1=true:=by kernel_rfl
theorem Q5b:Jk Eo 132 2 2=true:=by kernel_rfl
theorem Q5a:Jk Eo 132 3 3=true:=by kernel_rfl
theorem J19:Jk Eo 135 0 0=true:=by kernel_rfl
theorem J18:Jk Eo 135 1 1=true:=by kernel_rfl
theorem J17:Jk Eo 135 2 2=true:=by kernel_rfl
theorem J16:Jk Eo 135 3 3=true:=by kernel_rfl
theorem Qd8:Jk Eo 66 0 0=true:=by kernel_rfl
theorem J5c:Jk Eo 66 1 1=true:=by kernel_rfl
theorem Qd7:Jk Eo 66 2 2=true:=by kernel_rfl
theorem Qd6:Jk Eo 66 3 3=true:=by kernel_rfl
theorem J5b:Jk Eo 66 4 4=true:=by kernel_rfl
theorem Qd5:Jk Eo 66 5 5=true:=by kernel_rfl
theorem Zh:Jb1 Eo 3 .i64=true:=by kernel_rfl
theorem G08:Jb1 Eo 5 .u8=true:=by kernel_rfl
theorem Ha9:placesOf Eo 107=some [(0,1),(1,1)]:=by kernel_rfl
theorem Qn:placesOf Eo 45=some [(0,1),(1,1),(2,3),(5,1)]:=by kernel_rfl
theorem G67:placesOf Eo 58=some [(0,1),(1,1),(2,1),(3,1),(4,1),(5,1),(6,1),(7,1),(8,1),(9,1),(10,1),(11,1)]:=by kernel_rfl
theorem R56:Yx Eo 132 4=true:=by kernel_rfl
theorem Jff:Yx Eo 135 4=true:=by kernel_rfl
theorem J6a:Yx Eo 26 1=true:=by kernel_rfl
theorem Q54:Yx Eo 27 1=true:=by kernel_rfl
theorem H69:Yx Eo 45 6=true:=by kernel_rfl
theorem J37:Yx Eo 5 1=true:=by kernel_rfl
theorem H97:sliceB Eo 22 132 4=true:=by kernel_rfl
theorem G61:sliceB Eo 24 135 4=true:=by kernel_rfl
theorem J12:(Eo.info? 107).bind (fun i=>i.zero.map Value.cells)=some (List.toArray [E0,.slice none 0 0]):=by kernel_rfl
theorem R52:(Eo.info? 136).bind (fun i=>i.zero.map Value.cells)=some (List.toArray [.slice none 0 0]):=by kernel_rfl
theorem R7:(Eo.info? 45).bind (fun i=>i.zero.map Value.cells)=some (List.toArray [.int .u8 0,E0,E0,E0,.int .u8 0,E0]):=by kernel_rfl
theorem Gd0:(Eo.info? 58).bind (fun i=>i.zero.map Value.cells)=some (List.toArray [E0,E0,.bool false,E0,E0,E0,E0,E0,.slice none 0 0,E0,E0,E0]):=by kernel_rfl
theorem R24:Y4 Eo 132 4=true:=by kernel_rfl
theorem J98:Y4 Eo 135 4=true:=by kernel_rfl
theorem Gda:Y4 Eo 36 13=true:=by kernel_rfl
theorem Gd9:Y4 Eo 45 6=true:=by kernel_rfl
end XBF
open XAF
open XCF
open XSF
open XKF
open XTF
open XUF
open XBF

def H59 (s:Gk) (size:Int):Option Unit:=
 some ()
theorem Qb8 (s:Gk) (size:Int) (r:Unit) (h:H59 s size=some r):Pure Eo 124 [.agg (Gk.cs s),U8 size] (·=.fn 153 [.dptr (Gk.cs s),.dptr [U8 size]]):=by
 unfold H59 at h
 refine H0 [.tmp 4] Tryz.func124 O O (Jr fun a=>(JLh (.ptr 1172 0) (Jm (cs:=(Gk.cs s)) 1172 O O O O O) O (JLh (.ptr 1173 0) (Jm (cs:=[U8 size]) 1173 O O O O O) O (JLm (.sc .nilFunc) O (G5 (a (Gm [(2,Ef s),(3,.ptr 1173 0)] [(1173,.box 5 [U8 size])] 1172 rfl rfl rfl ⟨⟨_,rfl,.boxEq rfl rfl⟩,G⟩ rfl (by exact⟨.ptr,.conv (.same rfl),G⟩) (Gm [(2,Ef s),(3,.dptr [U8 size])] [] 1173 rfl rfl rfl G rfl (by exact⟨.conv (.same rfl),.ptr,G⟩) ?_))))))))
 refine Jr fun b=>(JLh (.fn 153 [.dptr (Gk.cs s),.dptr [U8 size]]) (Jz (cs:=[.dptr (Gk.cs s),.dptr [U8 size]]) O O) O (JLm (.fn 153 [.dptr (Gk.cs s),.dptr [U8 size]]) O (G5 (b (Gq (⟨[.fn 153 [.dptr (Gk.cs s),.dptr [U8 size]]],[],G,O,⟨⟨_,O,.conv (.same O)⟩,G⟩,O,congrArg (fun _:Unit=>(.fn 153 [.dptr (Gk.cs s),.dptr [U8 size]]:AV)) (M5 h)⟩))))))

def H87 (s:Gk) (size:Int):Option (List Slot):=
 bnd (H59 s size) fun e=>
 bnd (Gf7 s size) fun c=>
 each (fun b f (a:(List Slot)) d=>
  need (decide ((a.length+[b].length)*24≤140737488355328∧a.length+[b].length≤maxLen)) <|
  d (a++[b]))
 (fun(a:(List Slot))=>
  some a) c 0 []
theorem Jbc (s:Gk) (size:Int) (r:(List Slot)) (h:H87 s size=some r):Pure Eo 70 [.agg (Gk.cs s),U8 size] (·=E9 r):=by
 unfold H87 at h
 refine H0 [.tmp 4] Tryz.func70 O O (Jr fun i=>(JLh (.ptr 1120 0) (Jm (cs:=(Gk.cs s)) 1120 O O O O O) O (JLh (E9 ([]:List Slot)) (Hm 3 O O) O (G5 (i (Gm [(1,U8 size),(2,Ef s)] [] 1120 rfl rfl rfl G rfl (by exact⟨.conv (.same rfl),.ptr,G⟩) (Jr fun j=>(JLh (.ptr 1121 0) (G5f 1121 [.sc (.slice none 0 0)] [.slice none 0 0] R52 ⟨.inl O,G⟩ O O) O (H8c 1121 0 1123 43 3 O O O (cs':=[OW 1123 3 Slot.av ([]:List Slot)]) O (G5 (j (Js fun k=>?_))))))))))))
 refine Jr fun l=>(JLh (.agg (Gk.cs s)) (Gj Hr O O O) O (JLm (U8 size) O ?_))
 obtain⟨x,m,h⟩:=Ga h
 refine JLh (.fn 153 [.dptr (Gk.cs s),.dptr [U8 size]]) (Gt O (Qb8 s size x m) R64 ⟨O,O,O,O,G⟩) O (G5 (l (Gx ?_)))
 obtain⟨c,hy_8,h⟩:=Ga h
 obtain⟨z,n,o,e,h⟩:=Jy h
 refine Jc5 (ps:=[10]) [(5,.ptr 1121 0),(9,.fn 153 [.dptr (Gk.cs s),.dptr [U8 size]])] (c.map (fun y:Slot=>[.agg [I64 y.G2,I64 y.Tier,U8 y.Half]])) (fun d (b:(List Slot))=>each z n (List.drop d c) d b=some r) (fun b=>[(1123,.spare 43 3 b.length b.length),(1121,.box 136 [OW 1123 3 Slot.av b])]) [] rfl rfl rfl R5b (Je8.down s size c hy_8) h ⟨(.sm O O),⟨⟨_,rfl,.same⟩,fbQ O ⟨.same rfl,trivial⟩,trivial⟩,rfl⟩ rfl (fun us_ hus_=>by obtain⟨_,_,rfl⟩:=Mm.1 hus_; rfl) (fun p_ hp_=>Nat.blt_eq.mp (by revert p_; decide)) (fun _=>(.sm O O)) (fun _=>rfl) ?_ ?_
 ·
  intro d us_ b hu_ p lr_ K8 e8
  obtain⟨q,rfl⟩:=Y2d hu_
  obtain⟨a,a1,t,v,h⟩:=Ja p q
  replace h:=G1d o h
  obtain⟨_,rfl⟩:=M3 t
  generalize c[d]=a at h ⊢
  change JC _ _ _ _ [(10,.agg [I64 a.G2,I64 a.Tier,U8 a.Half]),(5,.ptr 1121 0),(9,.fn 153 [.dptr (Gk.cs s),.dptr [U8 size]])] [(1123,.spare 43 3 b.length b.length),(1121,.box 136 [OW 1123 3 Slot.av b])]
  refine G1 (JLh (.ptr 1122 0) (Hq 1122 3 Z7 O O) O (Hp (u:=.junk) (Hc (u:=.agg [I64 a.G2,I64 a.Tier,U8 a.Half]) (ds:=[I64 a.G2,I64 a.Tier,U8 a.Half]) Zv O O O O O O O O) (G5 (Qb3 [(5,.ptr 1121 0),(6,.dptr [I64 a.G2,I64 a.Tier,U8 a.Half])] [(1123,.spare 43 3 b.length b.length),(1121,.box 136 [OW 1123 3 Slot.av b])] 1122 rfl rfl rfl ⟨⟨_,rfl,.same⟩,⟨_,rfl,.boxEq rfl rfl⟩,G⟩ rfl (by exact⟨.conv (.same rfl),.ptr,G⟩) (Qb2 (Gx (G1 (JLh (OW 1123 3 Slot.av b) (Hx Gc0 O O O O) O (JLh (.agg [I64 a.G2,I64 a.Tier,U8 a.Half]) (Gj Hu O O O) O (JLh (E9 [a]) (H9 (xs:=[.agg [I64 a.G2,I64 a.Tier,U8 a.Half]]) O ⟨O,O,G⟩ Rr Z7 O O O O) O ?_))))))))))
  obtain⟨w,h⟩:=J8 h
  refine JLh (OW 1123 3 Slot.av (b++[a])) (Qk (f:=Slot.av) (xs:=b) (ys:=[a]) O O O O Rr J6c w (fun _=>O) (.inl O) O) O (Hp (u:=.junk) (Hc (u:=OW 1123 3 Slot.av (b++[a])) (ds:=[OW 1123 3 Slot.av (b++[a])]) Jfe O O O O O O O O) (G5 (e8 _ _ (b++[a]) (app1 v h) ⟨G,⟨⟨_,O,.same⟩,⟨_,O,.boxL O ⟨.same O,G⟩⟩,G⟩,O⟩)))
 ·
  intro b h
  rw [Mj] at h
  replace h:=app1 e (Jb h (Nat.lt_irrefl _))
  refine k (Jr fun g=>(JLh (OW 1123 3 Slot.av b) (Hx Gc0 O O O O) O (JLm (OW 1123 3 Slot.av b) O (G5 (g (Qc (l':=[(4,E9 b)]) (L':=[(1121,.box 136 [E9 b])]) ⟨⟨.list O,G⟩,⟨⟨_,O,.boxL O ⟨.list O,G⟩⟩,G⟩,O⟩ (Gm [(4,E9 b)] [] 1121 rfl rfl rfl G rfl (by exact⟨.conv (.same rfl),G⟩) (Gq (fin1 (fun r:(List Slot)=>(E9 r:AV)) h)))))))))

def R8 (s:Gk) (l:List Gv) (most:Int):Option ((List Box)×(List Stowed)):=
 bnd (J21 (min (l.length:Int) most) l.length) fun u=>
 each (fun i v (e:(List Box)×(List Stowed)) n=>
  jp (fun g=>
   chk (5*((v+1:Nat):Int)) fun b=>
   chk (i.Kilos) fun o=>
   chk (100*o) fun p=>
   chk (1000+p) fun f=>
   jp (fun h=>
    bif i.Small then
    (h (20,false))
    else
    (h (40,i.High))) fun(a:Int×Bool)=>
   need (decide ((e.1.length+[(Box.mk b ByteArray.empty a.1 a.2 f 0 1 0 false)].length)*64≤140737488355328∧e.1.length+[(Box.mk b ByteArray.empty a.1 a.2 f 0 1 0 false)].length≤maxLen)) <|
   bnd (H87 s a.1) fun q=>
   each (fun d w (c:(List Stowed)) m=>
    need (decide ((([]:List Stowed).length+c.length)*32≤140737488355328∧([]:List Stowed).length+c.length≤maxLen)) <|
    need (decide (((([]:List Stowed)++c).length+[(Stowed.mk b d)].length)*32≤140737488355328∧(([]:List Stowed)++c).length+[(Stowed.mk b d)].length≤maxLen)) <|
    chk (i.G2) fun r=>
    bnd (Gdc r (s.Columns.length:Int)) fun j=>
    bnd (bif decide (d.G2=j) then Yo s (e.1++[(Box.mk b ByteArray.empty a.1 a.2 f 0 1 0 false)]) ((([]:List Stowed)++c)++[(Stowed.mk b d)]) else some default) fun t=>
    bif ((decide (d.G2=j))&&t) then
    (g ((e.1++[(Box.mk b ByteArray.empty a.1 a.2 f 0 1 0 false)]),((([]:List Stowed)++c)++[(Stowed.mk b d)])))
    else
    (m c))
   (fun(c:(List Stowed))=>
    g ((e.1++[(Box.mk b ByteArray.empty a.1 a.2 f 0 1 0 false)]),c)) q 0 e.2) fun(k:(List Box)×(List Stowed))=>
  n (k.1,k.2))
 (fun(e:(List Box)×(List Stowed))=>
  some (e.1,e.2)) (l.take u) 0 ([],[])
theorem H93 (s:Gk) (l:List Gv) (most:Int) (r:(List Box)×(List Stowed)) (h:R8 s l most=some r):Pure Eo 30 [.agg (Gk.cs s),Eb l,I64 most] (·=.tup [E8 r.1,E2 r.2]):=by
 unfold R8 at h
 refine H0 [.tmp 6,.tmp 7] Tryz.func30 O O (Jr fun d6=>(JLh (.ptr 1062 0) (Jm (cs:=(Gk.cs s)) 1062 O O O O O) O (JLh (E8 ([]:List Box)) (Hm 9 O O) O (JLh (E2 ([]:List Stowed)) (Hm 4 O O) O (G5 (d6 (Gm [(1,Eb l),(2,I64 most),(3,Ef s)] [] 1062 rfl rfl rfl G rfl (by exact⟨.conv (.same rfl),.conv (.same rfl),.ptr,G⟩) (Jr fun d7=>(JLh (OW 1063 9 Box.av ([]:List Box)) (G5e 1063 60 9 O O O) O (G5 (d7 ?_)))))))))))
 refine Jr fun d8=>(JLh (E2 ([]:List Stowed)) (Hm 4 O O) O (G5 (d8 (Js fun d9=>Jr fun e0=>(JLm (Eb l) O (JLm (Eb l) O (JLl G61 O O O fun f4=>(JLm (I64 most) O (JLh (I64 (min (l.length:Int) most)) (R1d O O O) O ?_)))))))))
 obtain⟨k,e1,h⟩:=Ga h
 refine JLh (Eb (l.take k)) (H1a (f:=Gv.av) (xs:=l) O O O G61 (Gdd e1)) O (JLl G61 O O O fun q=>(JLm (I64 0) O (G5 (e0 (Gx ?_)))))
 obtain⟨b7,e2,e3,a4,h⟩:=Jy h
 refine Jc (fun j (e:(List Box)×(List Stowed))=>each b7 e2 (List.drop j (l.take k)) j e=some r) (fun j e=>[(3,Ef s),(8,OW 1063 9 Box.av e.1),(9,E2 e.2),(21,Eb (l.take k)),(22,I64 ((l.take k).length:Int)),(23,En j)]) (fun j e=>[(1063,.spare 60 9 e.1.length e.1.length)]) (fun j=>(l.take k).length - j) 0 ([],[]) h ⟨(.sm O O),⟨⟨_,rfl,.same⟩,G⟩,rfl⟩ ?_
 clear h
 intro j e a3 K7 e7
 refine Jr fun e4=>(JLh (BL (decide ((j:Int) < ((l.take k).length:Int)))) (Qg O O O) O (G5 (e4 (Js fun e5=>Gn O (fun hb=>?_) (fun hb=>?_)))))
 ·
  have t:=Qr hb
  obtain⟨i,f8,e6,e8,h⟩:=Ja a3 t
  replace h:=G1d e3 h
  refine Gr (e5 ?_)
  obtain⟨a5,a0,h⟩:=Yy h
  refine Ri (fun o:(List Box)×(List Stowed)=>a5 o=some r) (fun o=>[(3,Ef s),(8,OW 1063 9 Box.av o.1),(9,E2 o.2),(21,Eb (l.take k)),(22,I64 ((l.take k).length:Int)),(23,En j)]) (fun o=>[(1063,.spare 60 9 o.1.length o.1.length)]) (fun Kj10 ej10=>?_) ?_
  ·
   refine Gx (Jr fun a6=>(JLm (En j) O (JLh (Em i) (Hg (f:=Gv.av) (xs:=(l.take k)) (y:=i) O O O G61 e6 O) O (JLh (.agg (Gv.cs i)) (Gj Q77 O O O) O (JLh (.ptr 1064 0) (Hq 1064 4 J98 O O) O (JLm (En j) O (Hp (u:=.junk) (Hc (u:=.agg (Gv.cs i)) (ds:=[U8 i.G2,U8 i.Kilos,BL i.Small,BL i.High]) Jff O O O O O O O O) (G5 (a6 ?_)))))))))
   refine fzQ [(3,Ef s),(8,OW 1063 9 Box.av e.1),(9,E2 e.2),(10,En j),(11,Em i),(21,Eb (l.take k)),(22,I64 ((l.take k).length:Int)),(23,En j)] [(1063,.spare 60 9 e.1.length e.1.length)] 1064 rfl rfl rfl ⟨⟨_,rfl,.same⟩,G⟩ rfl (Jr fun a7=>(JLm (En j) O (JLh (I64 ((j+1:Nat):Int)) (Jg (J7 t q) O O O) O ?_)))
   obtain⟨b,a8,h⟩:=Je h
   refine JLh (I64 b) (Jcb a8 O O O) O (JLh (.dptr [BL i.High]) (G9 J16 O O O) O (JLh (BL i.High) (Gh Q1 O O O) O (JLh (.dptr [U8 i.Kilos,BL i.Small,BL i.High]) (G9 J18 O O O) O (JLh (U8 i.Kilos) (Gh Ho O O O) O ?_))))
   obtain⟨e9,a9,h⟩:=Je h
   refine JLh (I64 e9) (G70 Zh G08 a9 O O) O ?_
   obtain⟨f0,b0,h⟩:=Je h
   refine JLh (I64 f0) (Jcb b0 O O O) O ?_
   obtain⟨d,b1,h⟩:=Je h
   refine JLh (I64 d) (Jg b1 O O O) O (JLh (.agg [I64 b,ST Ky,U8 40,BL i.High,I64 d,I64 0,I64 1,U8 0,BL false]) (Hb (cs:=[I64 b,ST Ky,U8 40,BL i.High,I64 d,I64 0,I64 1,U8 0,BL false]) [(0,1),(1,1),(2,1),(3,1),(4,1),(5,1),(6,1),(7,1),(8,1)] [I64 0,ST Ky,U8 0,BL false,I64 0,I64 0,I64 0,U8 0,BL false] [E0,.string ByteArray.empty,.int .u8 0,.bool false,E0,E0,E0,.int .u8 0,.bool false] G66 G63 (zzQ O) O O) O (JLh (.ptr 1065 0) (Hq 1065 9 Qt O O) O (Hp (u:=.junk) (Hc (u:=.agg [I64 b,ST Ky,U8 40,BL i.High,I64 d,I64 0,I64 1,U8 0,BL false]) (ds:=[I64 b,ST Ky,U8 40,BL i.High,I64 d,I64 0,I64 1,U8 0,BL false]) Rs O O O O O O O O) (G5 (a7 ?_)))))
   obtain⟨b2,a1,h⟩:=Yy h
   refine Ri (fun a:Int×Bool=>b2 a=some r) (fun a=>[(3,Ef s),(8,OW 1063 9 Box.av e.1),(9,E2 e.2),(11,Em i),(12,.ptr 1065 0),(21,Eb (l.take k)),(22,I64 ((l.take k).length:Int)),(23,En j)]) (fun a=>[(1063,.spare 60 9 e.1.length e.1.length),(1065,.box 60 [I64 b,ST Ky,U8 a.1,BL a.2,I64 d,I64 0,I64 1,U8 0,BL false])]) (fun Kj17 ej17=>?_) ?_
   ·
    refine Jr fun b3=>(JLh (.dptr [BL i.Small,BL i.High]) (G9 J17 O O O) O (JLh (BL i.Small) (Gh Q1 O O O) O (G5 (b3 (JCc O h (fun h hb=>?_) (fun h hb=>?_))))))
    ·
     refine G1 (JLh (.ptr 1065 2) (Hi Y0 O O) O (Hp (u:=.junk) (Hc (u:=U8 20) (ds:=[I64 b,ST Ky,U8 20,BL i.High,I64 d,I64 0,I64 1,U8 0,BL false]) J37 O O O O O O O O) (JLh (.ptr 1065 3) (Hi H1d O O) O (Hp (u:=.junk) (Hc (u:=BL false) (ds:=[I64 b,ST Ky,U8 20,BL false,I64 d,I64 0,I64 1,U8 0,BL false]) H60 O O O O O O O O) (G5 (ej17 _ _ (20,false) h ⟨(.sm O O),⟨⟨_,rfl,.same⟩,fbQ O (.sm O O),G⟩,rfl⟩))))))
    ·
     refine Gr (ej17 _ _ (40,i.High) h ⟨(.sm O O),⟨⟨_,rfl,.same⟩,fbQ O (.sm O O),G⟩,rfl⟩)
   ·intro a h
    replace h:=app1 a1 h
    refine Jr fun b4=>(JLm (OW 1063 9 Box.av e.1) O (JLh (.agg [I64 b,ST Ky,U8 a.1,BL a.2,I64 d,I64 0,I64 1,U8 0,BL false]) (Ga9 Ym O O O O) O (JLh (E8 [(Box.mk b ByteArray.empty a.1 a.2 d 0 1 0 false)]) (H9 (xs:=[.agg [I64 b,ST Ky,U8 a.1,BL a.2,I64 d,I64 0,I64 1,U8 0,BL false]]) O ⟨O,O,G⟩ Yb Qt O O O O) O ?_)))
    obtain⟨b5,h⟩:=J8 h
    refine JLh (OW 1063 9 Box.av (e.1++[(Box.mk b ByteArray.empty a.1 a.2 d 0 1 0 false)])) (Qk (f:=Box.av) (xs:=e.1) (ys:=[(Box.mk b ByteArray.empty a.1 a.2 d 0 1 0 false)]) O O O O Yb J6b b5 (fun _=>O) (.inl O) O) O (JLm (OW 1063 9 Box.av (e.1++[(Box.mk b ByteArray.empty a.1 a.2 d 0 1 0 false)])) O (G5 (b4 ?_)))
    refine fzQ [(3,Ef s),(8,OW 1063 9 Box.av (e.1++[(Box.mk b ByteArray.empty a.1 a.2 d 0 1 0 false)])),(9,E2 e.2),(11,Em i),(12,.dptr [I64 b,ST Ky,U8 a.1,BL a.2,I64 d,I64 0,I64 1,U8 0,BL false]),(21,Eb (l.take k)),(22,I64 ((l.take k).length:Int)),(23,En j)] [(1063,.spare 60 9 (e.1++[(Box.mk b ByteArray.empty a.1 a.2 d 0 1 0 false)]).length (e.1++[(Box.mk b ByteArray.empty a.1 a.2 d 0 1 0 false)]).length)] 1065 rfl rfl rfl ⟨⟨_,rfl,.same⟩,G⟩ rfl ?_
    refine Jr fun b6=>(JLh (.agg (Gk.cs s)) (Gj Hr O O O) O (JLh (.dptr [U8 a.1,BL a.2,I64 d,I64 0,I64 1,U8 0,BL false]) (G9 Y0 O O O) O (JLh (U8 a.1) (Gh Ho O O O) O ?_)))
    obtain⟨n,b8,h⟩:=Ga h
    refine JLh (E9 n) (Gt O (Jbc s a.1 n b8) Q67 ⟨O,O,O,O,G⟩) O (JLl Rr O O O fun b9=>(JLm (I64 0) O (G5 (b6 (Gx ?_)))))
    obtain⟨f1,c0,c1,a2,h⟩:=Jy h
    refine Jc (fun m (g:(List Stowed))=>each f1 c0 (List.drop m n) m g=some r) (fun m g=>[(3,Ef s),(8,OW 1063 9 Box.av (e.1++[(Box.mk b ByteArray.empty a.1 a.2 d 0 1 0 false)])),(9,E2 g),(11,Em i),(12,.dptr [I64 b,ST Ky,U8 a.1,BL a.2,I64 d,I64 0,I64 1,U8 0,BL false]),(21,Eb (l.take k)),(22,I64 ((l.take k).length:Int)),(23,En j),(50,E9 n),(51,En n.length),(52,En m)]) (fun m g=>[(1063,.spare 60 9 (e.1++[(Box.mk b ByteArray.empty a.1 a.2 d 0 1 0 false)]).length (e.1++[(Box.mk b ByteArray.empty a.1 a.2 d 0 1 0 false)]).length)]) (fun m=>n.length - m) 0 e.2 h ⟨(.sm O O),⟨⟨_,rfl,.same⟩,G⟩,rfl⟩ ?_
    clear h
    intro m g v f9 f2
    refine Jr fun c2=>(JLh (BL (decide ((m:Int) < (n.length:Int)))) (Qg O O O) O (G5 (c2 (Js fun c3=>Gn O (fun hb=>?_) (fun hb=>?_)))))
    ·
     have w:=Qr hb
     obtain⟨c,f7,c4,c5,h⟩:=Ja v w
     replace h:=G1d c1 h
     refine Gr (c3 (Js fun c6=>Gx (Jr fun c7=>(JLh (Ej c) (Hg (f:=Slot.av) (xs:=n) (y:=c) O O O Rr c4 O) O (JLh (.agg (Slot.cs c)) (Gj Hu O O O) O (JLh (.ptr 1066 0) (Hq 1066 3 Z7 O O) O (Hp (u:=.junk) (Hc (u:=.agg (Slot.cs c)) (ds:=[I64 c.G2,I64 c.Tier,U8 c.Half]) Zv O O O O O O O O) (G5 (c7 ?_)))))))))
     refine fzQ [(3,Ef s),(8,OW 1063 9 Box.av (e.1++[(Box.mk b ByteArray.empty a.1 a.2 d 0 1 0 false)])),(9,E2 g),(11,Em i),(12,.dptr [I64 b,ST Ky,U8 a.1,BL a.2,I64 d,I64 0,I64 1,U8 0,BL false]),(14,Ej c),(21,Eb (l.take k)),(22,I64 ((l.take k).length:Int)),(23,En j),(50,E9 n),(51,En n.length),(52,En m)] [(1063,.spare 60 9 (e.1++[(Box.mk b ByteArray.empty a.1 a.2 d 0 1 0 false)]).length (e.1++[(Box.mk b ByteArray.empty a.1 a.2 d 0 1 0 false)]).length)] 1066 rfl rfl rfl ⟨⟨_,rfl,.same⟩,G⟩ rfl (Js fun c8=>?_)
     refine Qc (l':=[(3,Ef s),(8,OW 1063 9 Box.av (e.1++[(Box.mk b ByteArray.empty a.1 a.2 d 0 1 0 false)])),(9,E2 g),(11,Em i),(12,.dptr [I64 b,ST Ky,U8 a.1,BL a.2,I64 d,I64 0,I64 1,U8 0,BL false]),(14,Ej c),(21,Eb (l.take k)),(22,I64 ((l.take k).length:Int)),(23,En j),(50,E9 n),(51,En n.length),(52,En m)]) (L':=[(1063,.spare 60 9 (e.1++[(Box.mk b ByteArray.empty a.1 a.2 d 0 1 0 false)]).length (e.1++[(Box.mk b ByteArray.empty a.1 a.2 d 0 1 0 false)]).length)]) ⟨(.sm O O),⟨⟨_,rfl,.same⟩,G⟩,rfl⟩ ?_
     obtain⟨c9,h⟩:=J8 h
     obtain⟨d0,h⟩:=J8 h
     refine J5 [0,2,8] [0,0,0,0,0,0,0,0,0,3] [0,1,0,2,2,2,2,2,0,3] [[(1063,.spare 60 9 (e.1++[(Box.mk b ByteArray.empty a.1 a.2 d 0 1 0 false)]).length (e.1++[(Box.mk b ByteArray.empty a.1 a.2 d 0 1 0 false)]).length)],((1067,.spare 55 4 ([]:List Stowed).length ([]:List Stowed).length)::[(1063,.spare 60 9 (e.1++[(Box.mk b ByteArray.empty a.1 a.2 d 0 1 0 false)]).length (e.1++[(Box.mk b ByteArray.empty a.1 a.2 d 0 1 0 false)]).length)]),((1067,.spare 55 4 (([]:List Stowed)++g).length (([]:List Stowed)++g).length)::((1067,.spare 55 4 ([]:List Stowed).length ([]:List Stowed).length)::[(1063,.spare 60 9 (e.1++[(Box.mk b ByteArray.empty a.1 a.2 d 0 1 0 false)]).length (e.1++[(Box.mk b ByteArray.empty a.1 a.2 d 0 1 0 false)]).length)])),((1067,.spare 55 4 ((([]:List Stowed)++g)++[(Stowed.mk b c)]).length ((([]:List Stowed)++g)++[(Stowed.mk b c)]).length)::((1067,.spare 55 4 (([]:List Stowed)++g).length (([]:List Stowed)++g).length)::((1067,.spare 55 4 ([]:List Stowed).length ([]:List Stowed).length)::[(1063,.spare 60 9 (e.1++[(Box.mk b ByteArray.empty a.1 a.2 d 0 1 0 false)]).length (e.1++[(Box.mk b ByteArray.empty a.1 a.2 d 0 1 0 false)]).length)])))] J0 (by kernel_rfl) rfl rfl ?_
     refine D_w (u:=OW 1067 4 Stowed.av ([]:List Stowed)) O O O O (Ge (Hcd 1067 55 4 O O H4) O) (Gd (u:=E2 g) O O ⟨Ge (G6 O O) O,Ge (G6 O O) O,G⟩ (D_w (u:=OW 1067 4 Stowed.av (([]:List Stowed)++g)) O O O O (Ge (H66 (f:=Stowed.av) (xs:=([]:List Stowed)) (ys:=g) O O O O H4 G29 c9 (fun _=>O) (.inl O)) O) (Gd (u:=.dptr [I64 b,ST Ky,U8 a.1,BL a.2,I64 d,I64 0,I64 1,U8 0,BL false]) O O ⟨Ge (G9 Rf O O O) O,Ge (G9 Rf O O O) O,Ge (G9 Rf O O O) O,G⟩ (Gd (u:=I64 b) O O ⟨Ge (Gh Gc O O O) O,Ge (Gh Gc O O O) O,Ge (Gh Gc O O O) O,G⟩ (Gd (u:=.agg (Slot.cs c)) O O ⟨Ge (Gj Hu O O O) O,Ge (Gj Hu O O O) O,Ge (Gj Hu O O O) O,G⟩ (Gd (u:=.agg [I64 b,I64 c.G2,I64 c.Tier,U8 c.Half]) O O ⟨Ge (Hb (cs:=[I64 b,I64 c.G2,I64 c.Tier,U8 c.Half]) [(0,1),(1,3)] [I64 0,I64 0,I64 0,U8 0] [E0,E0,E0,.int .u8 0] Rt Z4 (zzQ O) O O) O,Ge (Hb (cs:=[I64 b,I64 c.G2,I64 c.Tier,U8 c.Half]) [(0,1),(1,3)] [I64 0,I64 0,I64 0,U8 0] [E0,E0,E0,.int .u8 0] Rt Z4 (zzQ O) O O) O,Ge (Hb (cs:=[I64 b,I64 c.G2,I64 c.Tier,U8 c.Half]) [(0,1),(1,3)] [I64 0,I64 0,I64 0,U8 0] [E0,E0,E0,.int .u8 0] Rt Z4 (zzQ O) O O) O,G⟩ (Gd (u:=E2 [(Stowed.mk b c)]) O O ⟨Ge (H9 (xs:=[.agg [I64 b,I64 c.G2,I64 c.Tier,U8 c.Half]]) O ⟨O,O,G⟩ H4 Jx O O O O) O,Ge (H9 (xs:=[.agg [I64 b,I64 c.G2,I64 c.Tier,U8 c.Half]]) O ⟨O,O,G⟩ H4 Jx O O O O) O,Ge (H9 (xs:=[.agg [I64 b,I64 c.G2,I64 c.Tier,U8 c.Half]]) O ⟨O,O,G⟩ H4 Jx O O O O) O,G⟩ (D_w (u:=OW 1067 4 Stowed.av ((([]:List Stowed)++g)++[(Stowed.mk b c)])) O O O O (Ge (Qk (f:=Stowed.av) (xs:=(([]:List Stowed)++g)) (ys:=[(Stowed.mk b c)]) O O O O H4 G29 d0 (fun _=>O) (.inl O) O) O) (Gd (u:=OW 1067 4 Stowed.av ((([]:List Stowed)++g)++[(Stowed.mk b c)])) O O ⟨Ge (G7 O O) O,G⟩ (Qw ?_))))))))))
     refine c8 (Js fun d1=>?_)
     refine Qc (l':=[(3,Ef s),(8,OW 1063 9 Box.av (e.1++[(Box.mk b ByteArray.empty a.1 a.2 d 0 1 0 false)])),(9,E2 g),(11,Em i),(12,.dptr [I64 b,ST Ky,U8 a.1,BL a.2,I64 d,I64 0,I64 1,U8 0,BL false]),(14,Ej c),(15,OW 1067 4 Stowed.av ((([]:List Stowed)++g)++[(Stowed.mk b c)])),(21,Eb (l.take k)),(22,I64 ((l.take k).length:Int)),(23,En j),(50,E9 n),(51,En n.length),(52,En m)]) (L':=[(1063,.spare 60 9 (e.1++[(Box.mk b ByteArray.empty a.1 a.2 d 0 1 0 false)]).length (e.1++[(Box.mk b ByteArray.empty a.1 a.2 d 0 1 0 false)]).length),(1067,.spare 55 4 ((([]:List Stowed)++g)++[(Stowed.mk b c)]).length ((([]:List Stowed)++g)++[(Stowed.mk b c)]).length)]) ⟨(.sm O O),⟨⟨_,rfl,.same⟩,⟨_,rfl,.same⟩,G⟩,rfl⟩ ?_
     obtain⟨f3,d2,h⟩:=Je h
     obtain⟨p,x,h⟩:=Ga h
     obtain⟨z,d3,h⟩:=Ga h
     refine JC_d0 J0 (by kernel_rfl) (Dq (Ej c) (G9 Jd O O O) O (Dq (I64 c.G2) (Gh Gc O O O) O (Dq (Em i) (G9 J19 O O O) O (Dq (U8 i.G2) (Gh Ho O O O) O (Dq (I64 f3) (G70 Zh G08 d2 O O) O (Dq (Ef s) (G9 Hv O O O) O (Dq (E3 s.Columns) (Gh J9 O O O) O (Dq (En s.Columns.length) (G20 (f:=G2.av) (xs:=s.Columns) Ht O O) O (Dq (I64 p) (H08 (Jq x).1 (Jq x).2 O O O) O (Dq (BL (decide (c.G2=p))) (Q0 O O O) O (Dq (BL (decide (c.G2=p))) (G6 O O) O (Do (.agg (Gk.cs s)) [] O .sct G (fun hc=>Gj Hr O O O) O (Do (OW 1063 9 Box.av (e.1++[(Box.mk b ByteArray.empty a.1 a.2 d 0 1 0 false)])) [] O .sct G (fun hc=>G6 O O) O ?_)))))))))))))
     refine Do (OW 1067 4 Stowed.av ((([]:List Stowed)++g)++[(Stowed.mk b c)])) [] O .sct G (fun hc=>G6 O O) O (Do (BL z) [76,77,78] O .sct ⟨Ua,Ua,Ua,G⟩ (fun hc=>Gt (args:=[.agg (Gk.cs s),E8 (e.1++[(Box.mk b ByteArray.empty a.1 a.2 d 0 1 0 false)]),E2 ((([]:List Stowed)++g)++[(Stowed.mk b c)])]) O (G0a s (e.1++[(Box.mk b ByteArray.empty a.1 a.2 d 0 1 0 false)]) ((([]:List Stowed)++g)++[(Stowed.mk b c)]) z (H3 hc d3)) G8c ⟨O,O,O,O,O,O,G⟩) O (Dq (BL ((decide (c.G2=p))&&z)) (Ro O O O O) O (Dnil (d1 (JCc O h (fun h hb=>?_) (fun h hb=>?_))))))
     ·
      refine Jr fun d4=>(JLm (OW 1067 4 Stowed.av ((([]:List Stowed)++g)++[(Stowed.mk b c)])) O (JLm (OW 1067 4 Stowed.av ((([]:List Stowed)++g)++[(Stowed.mk b c)])) O (G5 (d4 (Jf (ej10 _ _ ((e.1++[(Box.mk b ByteArray.empty a.1 a.2 d 0 1 0 false)]),((([]:List Stowed)++g)++[(Stowed.mk b c)])) h ⟨⟨.same O,.same O,.list O,.same O,.same O,.same O,G⟩,⟨⟨_,O,.same⟩,G⟩,O⟩))))))
     ·
      refine Gr (c6 (G1 (JLh (I64 ((m+1:Nat):Int)) (Jg (J7 w b9) O O O) O (JLm (I64 ((m+1:Nat):Int)) O (G5 (f2 _ _ (m+1) g (app1 c5 h) (by omega) ⟨(.sm O O),⟨⟨_,rfl,.same⟩,G⟩,rfl⟩))))))
    ·
     have h:=app1 a2 (Jb v (Hs hb))
     refine Jf (ej10 _ _ ((e.1++[(Box.mk b ByteArray.empty a.1 a.2 d 0 1 0 false)]),g) h ⟨(.sm O O),⟨⟨_,rfl,.same⟩,G⟩,rfl⟩)
  ·intro o h
   replace h:=app1 a0 h
   refine G1 (JLh (I64 ((j+1:Nat):Int)) (Jg (J7 t q) O O O) O (JLm (I64 ((j+1:Nat):Int)) O (G5 (e7 _ _ (j+1) (o.1,o.2) (app1 e8 h) (by omega) ⟨(.sm O O),⟨⟨_,rfl,.same⟩,G⟩,rfl⟩))))
 ·
  have h:=app1 a4 (Jb a3 (Hs hb))
  refine Jf (d9 (Jr fun d5=>(JLm (OW 1063 9 Box.av e.1) O (JLm (E2 e.2) O (JLm (OW 1063 9 Box.av e.1) O (JLm (E2 e.2) O (G5 (d5 (Gq (⟨[E8 e.1,E2 e.2],[],G,O,⟨⟨_,O,.conv (.list O)⟩,⟨_,O,.conv (.same O)⟩,G⟩,O,congrArg (fun r:(List Box)×(List Stowed)=>(.tup [E8 r.1,E2 r.2]:AV)) (M5 h)⟩))))))))))


def H26 (c:G2) (a:Int) (b:Int) (d:Bool):Option Bool:=
 some (((decide (c.Bay=a))&&(decide (c.Row=b)))&&(c.Deck==d))
theorem Q3b (c:G2) (a:Int) (b:Int) (d:Bool) (r:Bool) (h:H26 c a b d=some r):Pure Eo 123 [.agg (G2.cs c),.dptr [I64 a],.dptr [I64 b],.dptr [BL d]] (·=BL r):=by
 unfold H26 at h
 refine H0 [.tmp 5] Tryz.func123 O O (Jr fun e=>(JLh (.ptr 1171 0) (Jm (cs:=(G2.cs c)) 1171 O O O O O) O (JLm (BL false) O (G5 (e (fzQ [(1,.dptr [I64 a]),(2,.dptr [I64 b]),(3,.dptr [BL d]),(4,Ei c)] [] 1171 rfl rfl rfl G rfl ?_))))))
 refine Jr fun f=>(JLh (Ei c) (G9 G7a O O O) O (JLh (I64 c.Bay) (Gh Gc O O O) O (JLh (I64 a) (Gh Gc O O O) O (JLh (BL (decide (c.Bay=a))) (Q0 O O O) O (JLm (BL (decide (c.Bay=a))) O (JLo (.dptr ((G2.cs c).drop 1)) [] O .sct G (fun hc=>G9 G79 O O O) O (JLo (I64 c.Row) [11] O .sct ⟨Ua,G⟩ (fun hc=>Gh Gc O O O) O (JLo (I64 b) [] O .sct G (fun hc=>Gh Gc O O O) O (JLo (BL (decide (c.Row=b))) [12,13] O .sct ⟨Ua,Ua,G⟩ (fun hc=>Q0 O O O) O (JLh (BL ((decide (c.Bay=a))&&(decide (c.Row=b)))) (Ro O O O O) O (JLm (BL ((decide (c.Bay=a))&&(decide (c.Row=b)))) O (JLo (.dptr ((G2.cs c).drop 2)) [] O .sct G (fun hc=>G9 Yw O O O) O (JLo (BL c.Deck) [17] O .sct ⟨Ua,G⟩ (fun hc=>Gh Q1 O O O) O ?_)))))))))))))
 refine JLo (BL d) [] O .sct G (fun hc=>Gh Q1 O O O) O (JLo (BL (c.Deck==d)) [18,19] O .sct ⟨Ua,Ua,G⟩ (fun hc=>Jcd H63 O O O) O (JLh (BL (((decide (c.Bay=a))&&(decide (c.Row=b)))&&(c.Deck==d))) (Ro O O O O) O (JLm (BL (((decide (c.Bay=a))&&(decide (c.Row=b)))&&(c.Deck==d))) O (G5 (f (Gq (fin1 BL h)))))))

def Rb (l:List G2) (wanted:G2→Option Bool):Option (List Int):=
 each (fun e b (a:(List Int)) d=>
  jp (fun c=>
   bnd (wanted e) fun f=>
   bif f then
   (need (decide ((a.length+[(b:Int)].length)*8≤140737488355328∧a.length+[(b:Int)].length≤maxLen)) <|
    c (a++[(b:Int)]))
   else
   (c a)) fun(g:(List Int))=>
  d g)
 (fun(a:(List Int))=>
  some a) l 0 []
theorem Gbb (l:List G2) (wanted:G2→Option Bool) (wanted_f:FuncId) (wanted_c:List AV) (wanted_B:H7 Eo wanted_f=true) (wanted_d:Qz (fun _=>false) wanted_c=true) (wanted_w:∀ a0 q,wanted a0=some q→Pure Eo wanted_f ([.agg (G2.cs a0)]++wanted_c) (·=BL q)) (r:(List Int)) (h:Rb l wanted=some r):Pure Eo 122 [E3 l,.fn wanted_f wanted_c] (·=E1 r):=by
 unfold Rb at h
 refine H0 [.tmp 4] Tryz.func122 O O (Jr fun a2=>(JLh (E1 ([]:List Int)) (Hm 1 O O) O (G5 (a2 (Jr fun a3=>(JLh (OW 1169 1 I64 ([]:List Int)) (G5e 1169 3 1 O O O) O (G5 (a3 (Js fun a4=>Jr fun a5=>(JLm (E3 l) O (JLl Ht O O O fun a6=>(JLm (I64 0) O (G5 (a5 (Gx ?_)))))))))))))))
 obtain⟨a7,k,m,i,h⟩:=Jy h
 refine Jc (fun a (b:(List Int))=>each a7 k (List.drop a l) a b=some r) (fun a b=>[(1,.fn wanted_f wanted_c),(5,OW 1169 1 I64 b),(8,E3 l),(9,En l.length),(10,En a)]) (fun a b=>[(1169,.spare 3 1 b.length b.length)]) (fun a=>l.length - a) 0 [] h ⟨⟨.same (Jt _ _ wanted_d),.same O,.same O,.same O,.same O,G⟩,⟨⟨_,O,.same⟩,G⟩,O⟩ ?_
 clear h
 intro a b e b1 a8
 refine Jr fun n=>(JLh (BL (decide ((a:Int) < (l.length:Int)))) (Qg O O O) O (G5 (n (Js fun o=>Gn O (fun hb=>?_) (fun hb=>?_)))))
 ·
  have g:=Qr hb
  obtain⟨c,b0,p,s,h⟩:=Ja e g
  replace h:=G1d m h
  refine Gr (o ?_)
  obtain⟨t,j,h⟩:=Yy h
  refine Ri (fun d:(List Int)=>t d=some r) (fun d=>[(1,.fn wanted_f wanted_c),(5,OW 1169 1 I64 d),(8,E3 l),(9,En l.length),(10,En a)]) (fun d=>[(1169,.spare 3 1 d.length d.length)]) (fun Kj24 ej24=>?_) ?_
  ·
   refine Gx (Jr fun v=>(JLm (En a) O (JLh (Ei c) (Hg (f:=G2.av) (xs:=l) (y:=c) O O O Ht p O) O (JLh (.agg (G2.cs c)) (Gj G7c O O O) O (JLh (.ptr 1170 0) (Hq 1170 12 G35 O O) O (JLm (En a) O (Hp (u:=.junk) (Hc (u:=.agg (G2.cs c)) (ds:=(G2.cs c)) Hd2 O O O O O O O O) (G5 (v ?_)))))))))
   refine Gm [(1,.fn wanted_f wanted_c),(5,OW 1169 1 I64 b),(6,En a),(7,Ei c),(8,E3 l),(9,En l.length),(10,En a)] [(1169,.spare 3 1 b.length b.length)] 1170 rfl rfl rfl ⟨⟨_,rfl,.same⟩,G⟩ rfl (by exact⟨.conv (.same (Jt _ _ wanted_d)),.conv (.same rfl),.conv (.same rfl),.ptr,.conv (.same rfl),.conv (.same rfl),.conv (.same rfl),G⟩) (Jr fun w=>(JLm (.fn wanted_f wanted_c) O (JLh (.agg (G2.cs c)) (Gj G7c O O O) O ?_)))
   obtain⟨a9,x,h⟩:=Ga h
   refine JLh (BL a9) (G48 (args:=[.agg (G2.cs c)]) (caps:=wanted_c) O O (wanted_w c _ x) wanted_B ⟨O,O,G⟩ wanted_d) O (G5 (w (JCc O h (fun h hb=>?_) (fun h hb=>?_))))
   ·
    refine G1 (JLm (OW 1169 1 I64 b) O (JLm (En a) O (JLh (E1 [(a:Int)]) (H9 (xs:=[En a]) O ⟨O,O,G⟩ Gz R6 O O O O) O ?_)))
    obtain⟨z,h⟩:=J8 h
    refine JLh (OW 1169 1 I64 (b++[(a:Int)])) (Qk (f:=I64) (xs:=b) (ys:=[(a:Int)]) O O O O Gz Zx z (fun _=>O) (.inl O) O) O (JLm (OW 1169 1 I64 (b++[(a:Int)])) O (G5 (ej24 _ _ (b++[(a:Int)]) h ⟨⟨.same (Jt _ _ wanted_d),.same O,.same O,.same O,.same O,G⟩,⟨⟨_,O,.same⟩,G⟩,O⟩)))
   ·
    refine Gr (ej24 _ _ b h ⟨⟨.same (Jt _ _ wanted_d),.same O,.same O,.same O,.same O,G⟩,⟨⟨_,O,.same⟩,G⟩,O⟩)
  ·intro d h
   replace h:=app1 j h
   refine G1 (JLh (I64 ((a+1:Nat):Int)) (Jg (J7 g a6) O O O) O (JLm (I64 ((a+1:Nat):Int)) O (G5 (a8 _ _ (a+1) d (app1 s h) (by omega) ⟨⟨.same (Jt _ _ wanted_d),.same rfl,.same rfl,.same rfl,.same rfl,G⟩,⟨⟨_,rfl,.same⟩,G⟩,rfl⟩))))
 ·
  have h:=app1 i (Jb e (Hs hb))
  refine Jf (a4 (Jr fun a1=>(JLm (OW 1169 1 I64 b) O (JLm (OW 1169 1 I64 b) O (G5 (a1 (Gq (fin1l (fun r:(List Int)=>(E1 r:AV)) h))))))))

def H3d (s:Gk) (bay:Int) (row:Int) (deck:Bool):Option (Int×Bool):=
 bnd (Rb s.Columns (fun z0=>H26 z0 bay row deck)) fun a=>
 bif decide ((a.length:Int)=0) then
 (some (0,false))
 else
 (Z3 a 0 fun b=>
  some (b,true))
theorem Qe6 (s:Gk) (bay:Int) (row:Int) (deck:Bool) (r:Int×Bool) (h:H3d s bay row deck=some r):Pure Eo 69 [.agg (Gk.cs s),I64 bay,I64 row,BL deck] (·=.tup [I64 r.1,BL r.2]):=by
 unfold H3d at h
 refine H0 [.tmp 8,.tmp 9] Tryz.func69 O O (Jr fun c=>(JLh (.ptr 1116 0) (Jm (cs:=(Gk.cs s)) 1116 O O O O O) O (JLh (.ptr 1117 0) (Jm (cs:=[I64 bay]) 1117 O O O O O) O (JLh (.ptr 1118 0) (Jm (cs:=[I64 row]) 1118 O O O O O) O (JLh (.ptr 1119 0) (Jm (cs:=[BL deck]) 1119 O O O O O) O (JLm (I64 0) O (JLm (BL false) O (G5 (c ?_)))))))))
 refine fzQ [(4,Ef s),(5,.ptr 1117 0),(6,.ptr 1118 0),(7,.ptr 1119 0)] [(1117,.box 3 [I64 bay]),(1118,.box 3 [I64 row]),(1119,.box 4 [BL deck])] 1116 rfl rfl rfl ⟨⟨_,rfl,.boxEq rfl rfl⟩,⟨_,rfl,.boxEq rfl rfl⟩,⟨_,rfl,.boxEq rfl rfl⟩,G⟩ rfl (fzQ [(4,Ef s),(5,.dptr [I64 bay]),(6,.ptr 1118 0),(7,.ptr 1119 0)] [(1118,.box 3 [I64 row]),(1119,.box 4 [BL deck])] 1117 rfl rfl rfl ⟨⟨_,rfl,.boxEq rfl rfl⟩,⟨_,rfl,.boxEq rfl rfl⟩,G⟩ rfl ?_)
 refine fzQ [(4,Ef s),(5,.dptr [I64 bay]),(6,.dptr [I64 row]),(7,.ptr 1119 0)] [(1119,.box 4 [BL deck])] 1118 rfl rfl rfl ⟨⟨_,rfl,.boxEq rfl rfl⟩,G⟩ rfl (fzQ [(4,Ef s),(5,.dptr [I64 bay]),(6,.dptr [I64 row]),(7,.dptr [BL deck])] [] 1119 rfl rfl rfl G rfl (Jr fun d=>(JLh (Ef s) (G9 Hv O O O) O (JLh (E3 s.Columns) (Gh J9 O O O) O (JLh (.fn 123 [.dptr [I64 bay],.dptr [I64 row],.dptr [BL deck]]) (Jz (cs:=[.dptr [I64 bay],.dptr [I64 row],.dptr [BL deck]]) O O) O ?_)))))
 obtain⟨a,e,h⟩:=Ga h
 refine JLh (E1 a) (Gt O (Gbb s.Columns (fun z0=>H26 z0 bay row deck) 123 [.dptr [I64 bay],.dptr [I64 row],.dptr [BL deck]] R65 O (fun z0 q hq=>Q3b z0 bay row deck q hq) a e) Q06 ⟨O,O,O,O,G⟩) O (JLm (E1 a) O (G5 (d (Js fun g=>Jr fun i=>(JLm (E1 a) O (JLl Gz O O O fun n=>(JLh (BL (decide ((a.length:Int)=0))) (Q0 O O O) O (G5 (i (JCc O h (fun h hb=>?_) (fun h hb=>?_)))))))))))
 ·
  refine Jr fun j=>(JLm (I64 0) O (JLm (BL false) O (G5 (j (Gq (⟨[I64 0,BL false],[],G,O,⟨⟨_,O,.conv (.same O)⟩,⟨_,O,.conv (.same O)⟩,G⟩,O,congrArg (fun r:Int×Bool=>(.tup [I64 r.1,BL r.2]:AV)) (M5 h)⟩))))))
 ·
  refine Gr (g (Jr fun k=>(JLm (E1 a) O ?_)))
  obtain⟨o,b,l,m,h⟩:=Yc h
  refine JLh (.dptr [I64 b]) (Hg (f:=I64) (xs:=a) (y:=b) O O O Gz m l) O (JLh (I64 b) (Gh Gc O O O) O (JLm (I64 b) O (JLm (BL true) O (G5 (k (Gq (⟨[I64 b,BL true],[],G,O,⟨⟨_,O,.conv (.same O)⟩,⟨_,O,.conv (.same O)⟩,G⟩,O,congrArg (fun r:Int×Bool=>(.tup [I64 r.1,BL r.2]:AV)) (M5 h)⟩)))))))

def Zj (l:List H8) (covers:Int):Option Gk:=
 bnd (J21 (min (l.length:Int) 12) l.length) fun m5=>
 each (fun c a9 (a:(List G2)×(List G8)×Int×Int×Int×Int×(List Row)×(List Frame)×(List Gp)×Int×Int×Int×Int) r=>
  jp (fun m=>
   chk (c.Bay) fun t=>
   bnd (Gdc t 5) fun e=>
   chk (c.Row) fun u=>
   bnd (Gdc u 5) fun f=>
   chk (c.Tiers) fun v=>
   bnd (Gdc v 4) fun w=>
   chk (2+w) fun h=>
   chk (13000*e) fun x=>
   chk (x - 26000) fun i=>
   chk (2500*f) fun y=>
   chk (y - 5000) fun j=>
   jp (fun n=>
    bif c.Deck then
    (n 20000)
    else
    (n 2000)) fun(k:Int)=>
   bnd (H3d (Gk.mk a.1 a.2.1 (Light.mk a.2.2.1 a.2.2.2.1 a.2.2.2.2.1 a.2.2.2.2.2.1) a.2.2.2.2.2.2.1 a.2.2.2.2.2.2.2.1 a.2.2.2.2.2.2.2.2.1 (G4.mk a.2.2.2.2.2.2.2.2.2.1 a.2.2.2.2.2.2.2.2.2.2.1 a.2.2.2.2.2.2.2.2.2.2.2.1 a.2.2.2.2.2.2.2.2.2.2.2.2)) e f c.Deck) fun z=>
   bif (!z.2) then
   (need (decide ((a.1.length+[(G2.mk e f c.Deck h 0 500000000 500000000 0 [] i j k)].length)*112≤140737488355328∧a.1.length+[(G2.mk e f c.Deck h 0 500000000 500000000 0 [] i j k)].length≤maxLen)) <|
    m (a.1++[(G2.mk e f c.Deck h 0 500000000 500000000 0 [] i j k)]))
   else
   (m a.1)) fun(a0:(List G2))=>
  r (a0,a.2.1,a.2.2.1,a.2.2.2.1,a.2.2.2.2.1,a.2.2.2.2.2.1,a.2.2.2.2.2.2.1,a.2.2.2.2.2.2.2.1,a.2.2.2.2.2.2.2.2.1,a.2.2.2.2.2.2.2.2.2.1,a.2.2.2.2.2.2.2.2.2.2.1,a.2.2.2.2.2.2.2.2.2.2.2.1,a.2.2.2.2.2.2.2.2.2.2.2.2))
 (fun(a:(List G2)×(List G8)×Int×Int×Int×Int×(List Row)×(List Frame)×(List Gp)×Int×Int×Int×Int)=>
  jp (fun o=>
   bif decide ((a.1.length:Int)=0) then
   (o ([(G2.mk 0 0 false 3 0 500000000 500000000 0 [] 0 0 2000)]))
   else
   (o a.1)) fun(a1:(List G2))=>
  need (decide (5≤9223372036854775807)) <|
  upto (fun d (b:(List G2)×(List G8)×Int×Int×Int×Int×(List Row)×(List Frame)×(List Gp)×Int×Int×Int×Int) s=>
   jp (fun p=>
    jp (fun q=>
     chk (2*(d:Int)) fun a2=>
     bnd (J21 a2 4294967295) fun a3=>
     bif decide ((R98 .u32 (Jd9 .u32 covers a3) 1)=1) then
     (need (decide ((b.2.1.length+[(G8.mk (d:Int) [0,1])].length)*32≤140737488355328∧b.2.1.length+[(G8.mk (d:Int) [0,1])].length≤maxLen)) <|
      q (b.2.1++[(G8.mk (d:Int) [0,1])]))
     else
     (q b.2.1)) fun(g:(List G8))=>
    chk (2*(d:Int)) fun a4=>
    chk (a4+1) fun a5=>
    bnd (J21 a5 4294967295) fun a6=>
    bif decide ((R98 .u32 (Jd9 .u32 covers a6) 1)=1) then
    (need (decide ((g.length+[(G8.mk (d:Int) [2,3,4])].length)*32≤140737488355328∧g.length+[(G8.mk (d:Int) [2,3,4])].length≤maxLen)) <|
     p (g++[(G8.mk (d:Int) [2,3,4])]))
    else
    (p g)) fun(a7:(List G8))=>
   s (b.1,a7,b.2.2.1,b.2.2.2.1,b.2.2.2.2.1,b.2.2.2.2.2.1,b.2.2.2.2.2.2.1,b.2.2.2.2.2.2.2.1,b.2.2.2.2.2.2.2.2.1,b.2.2.2.2.2.2.2.2.2.1,b.2.2.2.2.2.2.2.2.2.2.1,b.2.2.2.2.2.2.2.2.2.2.2.1,b.2.2.2.2.2.2.2.2.2.2.2.2))
  (fun(b:(List G2)×(List G8)×Int×Int×Int×Int×(List Row)×(List Frame)×(List Gp)×Int×Int×Int×Int)=>
   some (Gk.mk b.1 b.2.1 (Light.mk b.2.2.1 b.2.2.2.1 b.2.2.2.2.1 b.2.2.2.2.2.1) b.2.2.2.2.2.2.1 b.2.2.2.2.2.2.2.1 b.2.2.2.2.2.2.2.2.1 (G4.mk b.2.2.2.2.2.2.2.2.2.1 b.2.2.2.2.2.2.2.2.2.2.1 b.2.2.2.2.2.2.2.2.2.2.2.1 b.2.2.2.2.2.2.2.2.2.2.2.2))) (5:Int).toNat 0 (a1,a.2.1,a.2.2.1,a.2.2.2.1,a.2.2.2.2.1,a.2.2.2.2.2.1,a.2.2.2.2.2.2.1,a.2.2.2.2.2.2.2.1,a.2.2.2.2.2.2.2.2.1,a.2.2.2.2.2.2.2.2.2.1,a.2.2.2.2.2.2.2.2.2.2.1,a.2.2.2.2.2.2.2.2.2.2.2.1,a.2.2.2.2.2.2.2.2.2.2.2.2)) (l.take m5) 0 ([],[],0,0,0,0,[],[],[],0,0,0,0)
abbrev Kb:List AV:=[E3 ([]:List G2),E7 ([]:List G8),I64 0,I64 0,I64 0,I64 0,E4 ([]:List Row),E5 ([]:List Frame),E6 ([]:List Gp),I64 0,I64 0,I64 0,I64 0]
abbrev Kc (a:(List G2)×(List G8)×Int×Int×Int×Int×(List Row)×(List Frame)×(List Gp)×Int×Int×Int×Int):List AV:=[OW 1060 12 G2.av a.1,OW 1061 2 G8.av a.2.1,I64 a.2.2.1,I64 a.2.2.2.1,I64 a.2.2.2.2.1,I64 a.2.2.2.2.2.1,E4 a.2.2.2.2.2.2.1,E5 a.2.2.2.2.2.2.2.1,E6 a.2.2.2.2.2.2.2.2.1,I64 a.2.2.2.2.2.2.2.2.2.1,I64 a.2.2.2.2.2.2.2.2.2.2.1,I64 a.2.2.2.2.2.2.2.2.2.2.2.1,I64 a.2.2.2.2.2.2.2.2.2.2.2.2]
abbrev Kd (a:(List G2)×(List G8)×Int×Int×Int×Int×(List Row)×(List Frame)×(List Gp)×Int×Int×Int×Int):List AV:=[E3 a.1,OW 1061 2 G8.av a.2.1,I64 a.2.2.1,I64 a.2.2.2.1,I64 a.2.2.2.2.1,I64 a.2.2.2.2.2.1,E4 a.2.2.2.2.2.2.1,E5 a.2.2.2.2.2.2.2.1,E6 a.2.2.2.2.2.2.2.2.1,I64 a.2.2.2.2.2.2.2.2.2.1,I64 a.2.2.2.2.2.2.2.2.2.2.1,I64 a.2.2.2.2.2.2.2.2.2.2.2.1,I64 a.2.2.2.2.2.2.2.2.2.2.2.2]
theorem Gc6 (l:List H8) (covers:Int) (r:Gk) (h:Zj l covers=some r):Pure Eo 29 [Ec l,.sc (.int .u32 covers)] (·=.agg (Gk.cs r)):=by
 unfold Zj at h
 refine H0 [.cell 4 36] Tryz.func29 O O (Jr fun h5=>(JLh (.ptr 1056 0) (G5f 1056 Kb [.slice none 0 0,.slice none 0 0,E0,E0,E0,E0,.slice none 0 0,.slice none 0 0,.slice none 0 0,E0,E0,E0,E0] G64 ⟨.inr ⟨_,O,O⟩,.inr ⟨_,O,O⟩,.inl O,.inl O,.inl O,.inl O,.inr ⟨_,O,O⟩,.inr ⟨_,O,O⟩,.inr ⟨_,O,O⟩,.inl O,.inl O,.inl O,.inl O,G⟩ O O) O (G5 (h5 ?_))))
 refine Jr fun h6=>(JLh (.ptr 1057 0) (G5f 1057 [.sc (.slice none 0 0),.sc (.slice none 0 0),I64 0,I64 0,I64 0,I64 0,E4 ([]:List Row),E5 ([]:List Frame),E6 ([]:List Gp),I64 0,I64 0,I64 0,I64 0] [.slice none 0 0,.slice none 0 0,E0,E0,E0,E0,.slice none 0 0,.slice none 0 0,.slice none 0 0,E0,E0,E0,E0] G64 ⟨.inl O,.inl O,.inl O,.inl O,.inl O,.inl O,.inr ⟨_,O,O⟩,.inr ⟨_,O,O⟩,.inr ⟨_,O,O⟩,.inl O,.inl O,.inl O,.inl O,G⟩ O O) O (H8c 1057 0 1060 58 12 O O O (cs':=[OW 1060 12 G2.av ([]:List G2),.sc (.slice none 0 0),I64 0,I64 0,I64 0,I64 0,E4 ([]:List Row),E5 ([]:List Frame),E6 ([]:List Gp),I64 0,I64 0,I64 0,I64 0]) O ?_))
 refine H8c 1057 1 1061 107 2 O O O (cs':=[OW 1060 12 G2.av ([]:List G2),OW 1061 2 G8.av ([]:List G8),I64 0,I64 0,I64 0,I64 0,E4 ([]:List Row),E5 ([]:List Frame),E6 ([]:List Gp),I64 0,I64 0,I64 0,I64 0]) O (G5 (h6 (Js fun h7=>Jr fun h8=>(JLm (Ec l) O (JLm (Ec l) O (JLl H97 O O O fun i2=>(JLh (I64 (min (l.length:Int) 12)) (R1d O O O) O ?_)))))))
 obtain⟨w,h9,h⟩:=Ga h
 refine JLh (Ec (l.take w)) (H1a (f:=H8.av) (xs:=l) O O O H97 (Gdd h9)) O (JLl H97 O O O fun g1=>(JLm (I64 0) O (G5 (h8 (Gx ?_)))))
 obtain⟨g2,b5,b6,a8,h⟩:=Jy h
 refine Jc (fun k (a:(List G2)×(List G8)×Int×Int×Int×Int×(List Row)×(List Frame)×(List Gp)×Int×Int×Int×Int)=>each g2 b5 (List.drop k (l.take w)) k a=some r) (fun k a=>[(1,.sc (.int .u32 covers)),(4,.ptr 1056 0),(5,.ptr 1057 0),(16,Ec (l.take w)),(17,I64 ((l.take w).length:Int)),(18,En k)]) (fun k a=>[(1060,.spare 58 12 a.1.length a.1.length),(1061,.spare 107 2 a.2.1.length a.2.1.length),(1056,.box 36 Kb),(1057,.box 36 (Kc a))]) (fun k=>(l.take w).length - k) 0 ([],[],0,0,0,0,[],[],[],0,0,0,0) h ⟨(.sm O O),⟨⟨_,rfl,.same⟩,⟨_,rfl,.same⟩,fbQ O (.sm O O),fbQ O (.sm O O),G⟩,rfl⟩ ?_
 clear h
 intro k a a1 i3 g3
 refine Jr fun b7=>(JLh (BL (decide ((k:Int) < ((l.take w).length:Int)))) (Qg O O O) O (G5 (b7 (Js fun b8=>Gn O (fun hb=>?_) (fun hb=>?_)))))
 ·
  have a2:=Qr hb
  obtain⟨d,i0,b9,c0,h⟩:=Ja a1 a2
  replace h:=G1d b6 h
  refine Gr (b8 ?_)
  obtain⟨c1,a9,h⟩:=Yy h
  refine Ri (fun t:(List G2)=>c1 t=some r) (fun t=>[(1,.sc (.int .u32 covers)),(4,.ptr 1056 0),(5,.ptr 1057 0),(16,Ec (l.take w)),(17,I64 ((l.take w).length:Int)),(18,En k)]) (fun t=>[(1060,.spare 58 12 t.length t.length),(1061,.spare 107 2 a.2.1.length a.2.1.length),(1056,.box 36 Kb),(1057,.box 36 [OW 1060 12 G2.av t,OW 1061 2 G8.av a.2.1,I64 a.2.2.1,I64 a.2.2.2.1,I64 a.2.2.2.2.1,I64 a.2.2.2.2.2.1,E4 a.2.2.2.2.2.2.1,E5 a.2.2.2.2.2.2.2.1,E6 a.2.2.2.2.2.2.2.2.1,I64 a.2.2.2.2.2.2.2.2.2.1,I64 a.2.2.2.2.2.2.2.2.2.2.1,I64 a.2.2.2.2.2.2.2.2.2.2.2.1,I64 a.2.2.2.2.2.2.2.2.2.2.2.2])]) (fun Kj109 ej109=>?_) ?_
  ·
   refine Gx (Jr fun c2=>(JLh (.dptr (H8.cs d)) (Hg (f:=H8.av) (xs:=(l.take w)) (y:=d) O O O H97 b9 O) O (JLh (.agg (H8.cs d)) (Gj Re5 O O O) O (JLh (.ptr 1058 0) (Hq 1058 4 R24 O O) O (Hp (u:=.junk) (Hc (u:=.agg (H8.cs d)) (ds:=[U8 d.Bay,U8 d.Row,U8 d.Tiers,BL d.Deck]) R56 O O O O O O O O) (G5 (c2 ?_)))))))
   refine fzQ [(1,.sc (.int .u32 covers)),(4,.ptr 1056 0),(5,.ptr 1057 0),(7,.dptr (H8.cs d)),(16,Ec (l.take w)),(17,I64 ((l.take w).length:Int)),(18,En k)] [(1060,.spare 58 12 a.1.length a.1.length),(1061,.spare 107 2 a.2.1.length a.2.1.length),(1056,.box 36 Kb),(1057,.box 36 (Kc a))] 1058 rfl rfl rfl ⟨⟨_,rfl,.same⟩,⟨_,rfl,.same⟩,⟨_,rfl,.boxEq rfl rfl⟩,⟨_,rfl,.boxEq rfl rfl⟩,G⟩ rfl ?_
   refine Jr fun c3=>(JLh (.dptr (H8.cs d)) (G9 Q5d O O O) O (JLh (U8 d.Bay) (Gh Ho O O O) O ?_))
   obtain⟨g4,c4,h⟩:=Je h
   refine JLh (I64 g4) (G70 Zh G08 c4 O O) O ?_
   obtain⟨g,a3,h⟩:=Ga h
   refine JLh (I64 g) (H08 (Jq a3).1 (Jq a3).2 O O O) O (JLh (.dptr ((H8.cs d).drop 1)) (G9 Q5c O O O) O (JLh (U8 d.Row) (Gh Ho O O O) O ?_))
   obtain⟨g5,c5,h⟩:=Je h
   refine JLh (I64 g5) (G70 Zh G08 c5 O O) O ?_
   obtain⟨i,a4,h⟩:=Ga h
   refine JLh (I64 i) (H08 (Jq a4).1 (Jq a4).2 O O O) O (JLh (.dptr [BL d.Deck]) (G9 Q5a O O O) O (JLh (BL d.Deck) (Gh Q1 O O O) O (JLh (.dptr [U8 d.Tiers,BL d.Deck]) (G9 Q5b O O O) O (JLh (U8 d.Tiers) (Gh Ho O O O) O ?_))))
   obtain⟨g6,c6,h⟩:=Je h
   refine JLh (I64 g6) (G70 Zh G08 c6 O O) O ?_
   obtain⟨g7,a5,h⟩:=Ga h
   refine JLh (I64 g7) (H08 (Jq a5).1 (Jq a5).2 O O O) O ?_
   obtain⟨j,c7,h⟩:=Je h
   refine JLh (I64 j) (Jg c7 O O O) O (JLh (.agg [I64 g,I64 i,BL d.Deck,I64 j,I64 0,I64 500000000,I64 500000000,I64 0,E1 ([]:List Int),I64 0,I64 0,I64 0]) (Hb (cs:=[I64 g,I64 i,BL d.Deck,I64 j,I64 0,I64 500000000,I64 500000000,I64 0,E1 ([]:List Int),I64 0,I64 0,I64 0]) [(0,1),(1,1),(2,1),(3,1),(4,1),(5,1),(6,1),(7,1),(8,1),(9,1),(10,1),(11,1)] [I64 0,I64 0,BL false,I64 0,I64 0,I64 0,I64 0,I64 0,E1 ([]:List Int),I64 0,I64 0,I64 0] [E0,E0,.bool false,E0,E0,E0,E0,E0,.slice none 0 0,E0,E0,E0] G67 Gd0 ⟨.inl O,.inl O,.inl O,.inl O,.inl O,.inl O,.inl O,.inl O,.inr ⟨_,O,O⟩,.inl O,.inl O,.inl O,G⟩ O O) O (JLh (.ptr 1059 0) (Hq 1059 12 G35 O O) O (Hp (u:=.junk) (Hc (u:=.agg [I64 g,I64 i,BL d.Deck,I64 j,I64 0,I64 500000000,I64 500000000,I64 0,E1 ([]:List Int),I64 0,I64 0,I64 0]) (ds:=[I64 g,I64 i,BL d.Deck,I64 j,I64 0,I64 500000000,I64 500000000,I64 0,E1 ([]:List Int),I64 0,I64 0,I64 0]) Hd2 O O O O O O O O) (G5 (c3 ?_)))))
   refine Jr fun c8=>(JLh (.ptr 1059 0) (Hi G7a O O) O (JLh (I64 g) (Hx Gc O O O O) O ?_))
   obtain⟨g8,c9,h⟩:=Je h
   refine JLh (I64 g8) (Jcb c9 O O O) O ?_
   obtain⟨m,d0,h⟩:=Je h
   refine JLh (I64 m) (H4d d0 O O O) O (JLh (.ptr 1059 1) (Hi G79 O O) O (JLh (I64 i) (Hx Gc O O O O) O ?_))
   obtain⟨g9,d1,h⟩:=Je h
   refine JLh (I64 g9) (Jcb d1 O O O) O ?_
   obtain⟨n,d2,h⟩:=Je h
   refine JLh (I64 n) (H4d d2 O O O) O (JLh (.ptr 1059 9) (Hi J5d O O) O (Hp (u:=.junk) (Hc (u:=I64 m) (ds:=[I64 g,I64 i,BL d.Deck,I64 j,I64 0,I64 500000000,I64 500000000,I64 0,E1 ([]:List Int),I64 m,I64 0,I64 0]) G32 O O O O O O O O) (JLh (.ptr 1059 10) (Hi J14 O O) O (Hp (u:=.junk) (Hc (u:=I64 n) (ds:=[I64 g,I64 i,BL d.Deck,I64 j,I64 0,I64 500000000,I64 500000000,I64 0,E1 ([]:List Int),I64 m,I64 n,I64 0]) G32 O O O O O O O O) (JLh (.ptr 1059 11) (Hi H6a O O) O (Hp (u:=.junk) (Hc (u:=I64 2000) (ds:=[I64 g,I64 i,BL d.Deck,I64 j,I64 0,I64 500000000,I64 500000000,I64 0,E1 ([]:List Int),I64 m,I64 n,I64 2000]) G32 O O O O O O O O) (G5 (c8 ?_))))))))
   obtain⟨d3,b0,h⟩:=Yy h
   refine Ri (fun o:Int=>d3 o=some r) (fun o=>[(1,.sc (.int .u32 covers)),(4,.ptr 1056 0),(5,.ptr 1057 0),(8,.ptr 1059 0),(16,Ec (l.take w)),(17,I64 ((l.take w).length:Int)),(18,En k)]) (fun o=>[(1060,.spare 58 12 a.1.length a.1.length),(1061,.spare 107 2 a.2.1.length a.2.1.length),(1056,.box 36 Kb),(1057,.box 36 (Kc a)),(1059,.box 58 [I64 g,I64 i,BL d.Deck,I64 j,I64 0,I64 500000000,I64 500000000,I64 0,E1 ([]:List Int),I64 m,I64 n,I64 o])]) (fun Kj124 ej124=>?_) ?_
   ·
    refine Jr fun d4=>(JLh (.ptr 1059 2) (Hi Yw O O) O (JLh (BL d.Deck) (Hx Q1 O O O O) O (G5 (d4 (JCc O h (fun h hb=>?_) (fun h hb=>?_))))))
    ·
     refine G1 (JLh (.ptr 1059 11) (Hi H6a O O) O (Hp (u:=.junk) (Hc (u:=I64 20000) (ds:=[I64 g,I64 i,BL d.Deck,I64 j,I64 0,I64 500000000,I64 500000000,I64 0,E1 ([]:List Int),I64 m,I64 n,I64 20000]) G32 O O O O O O O O) (G5 (ej124 _ _ 20000 h ⟨(.sm O O),⟨⟨_,rfl,.same⟩,⟨_,rfl,.same⟩,fbQ O (.sm O O),fbQ O (.sm O O),fbQ O (.sm O O),G⟩,rfl⟩))))
    ·
     refine Gr (ej124 _ _ 2000 h ⟨(.sm O O),⟨⟨_,rfl,.same⟩,⟨_,rfl,.same⟩,fbQ O (.sm O O),fbQ O (.sm O O),fbQ O (.sm O O),G⟩,rfl⟩)
   ·intro o h
    replace h:=app1 b0 h
    refine Jr fun d5=>(JLh (.agg (Kc a)) (Ga9 Hr O O O O) O (JLh (.ptr 1059 0) (Hi G7a O O) O (JLh (I64 g) (Hx Gc O O O O) O (JLh (.ptr 1059 1) (Hi G79 O O) O (JLh (I64 i) (Hx Gc O O O O) O (JLh (.ptr 1059 2) (Hi Yw O O) O (JLh (BL d.Deck) (Hx Q1 O O O O) O ?_)))))))
    obtain⟨q,d6,h⟩:=Ga h
    refine JLh (.tup [I64 q.1,BL q.2]) (Gt O (Qe6 (Gk.mk a.1 a.2.1 (Light.mk a.2.2.1 a.2.2.2.1 a.2.2.2.2.1 a.2.2.2.2.2.1) a.2.2.2.2.2.2.1 a.2.2.2.2.2.2.2.1 a.2.2.2.2.2.2.2.2.1 (G4.mk a.2.2.2.2.2.2.2.2.2.1 a.2.2.2.2.2.2.2.2.2.2.1 a.2.2.2.2.2.2.2.2.2.2.2.1 a.2.2.2.2.2.2.2.2.2.2.2.2)) g i d.Deck q d6) Rc9 ⟨O,O,O,O,O,O,O,O,G⟩) O (JLm (.tup [I64 q.1,BL q.2]) O (JLh (I64 q.1) (H1 O O O) O (JLh (BL q.2) (H1 O O O) O (JLm (I64 q.1) O (JLm (BL q.2) O (G5 (d5 ?_)))))))
    refine fzQ [(1,.sc (.int .u32 covers)),(4,.ptr 1056 0),(5,.ptr 1057 0),(8,.dptr [I64 g,I64 i,BL d.Deck,I64 j,I64 0,I64 500000000,I64 500000000,I64 0,E1 ([]:List Int),I64 m,I64 n,I64 o]),(10,BL q.2),(16,Ec (l.take w)),(17,I64 ((l.take w).length:Int)),(18,En k)] [(1060,.spare 58 12 a.1.length a.1.length),(1061,.spare 107 2 a.2.1.length a.2.1.length),(1056,.box 36 Kb),(1057,.box 36 (Kc a))] 1059 rfl rfl rfl ⟨⟨_,rfl,.same⟩,⟨_,rfl,.same⟩,⟨_,rfl,.boxEq rfl rfl⟩,⟨_,rfl,.boxEq rfl rfl⟩,G⟩ rfl ?_
    refine Jr fun d7=>(JLm (BL q.2) O (JLh (BL (!q.2)) (Qx (b:=q.2) O O) O (G5 (d7 (JCc O h (fun h hb=>?_) (fun h hb=>?_))))))
    ·
     refine G1 (JLh (.ptr 1057 0) (Hi Hv O O) O (JLh (OW 1060 12 G2.av a.1) (Hx J9 O O O O) O (JLh (.agg [I64 g,I64 i,BL d.Deck,I64 j,I64 0,I64 500000000,I64 500000000,I64 0,E1 ([]:List Int),I64 m,I64 n,I64 o]) (Gj G7c O O O) O (JLh (E3 ([(G2.mk g i d.Deck j 0 500000000 500000000 0 [] m n o)])) (H9 (xs:=[.agg [I64 g,I64 i,BL d.Deck,I64 j,I64 0,I64 500000000,I64 500000000,I64 0,E1 ([]:List Int),I64 m,I64 n,I64 o]]) O ⟨O,O,G⟩ Ht G35 O O O O) O ?_))))
     obtain⟨d8,h⟩:=J8 h
     refine JLh (OW 1060 12 G2.av (a.1++[(G2.mk g i d.Deck j 0 500000000 500000000 0 [] m n o)])) (Qk (f:=G2.av) (xs:=a.1) (ys:=[(G2.mk g i d.Deck j 0 500000000 500000000 0 [] m n o)]) O O O O Ht Hd6 d8 (fun _=>O) (.inl O) O) O (JLh (.ptr 1057 0) (Hi Hv O O) O (Hp (u:=.junk) (Hc (u:=OW 1060 12 G2.av (a.1++[(G2.mk g i d.Deck j 0 500000000 500000000 0 [] m n o)])) (ds:=[OW 1060 12 G2.av (a.1++[(G2.mk g i d.Deck j 0 500000000 500000000 0 [] m n o)]),OW 1061 2 G8.av a.2.1,I64 a.2.2.1,I64 a.2.2.2.1,I64 a.2.2.2.2.1,I64 a.2.2.2.2.2.1,E4 a.2.2.2.2.2.2.1,E5 a.2.2.2.2.2.2.2.1,E6 a.2.2.2.2.2.2.2.2.1,I64 a.2.2.2.2.2.2.2.2.2.1,I64 a.2.2.2.2.2.2.2.2.2.2.1,I64 a.2.2.2.2.2.2.2.2.2.2.2.1,I64 a.2.2.2.2.2.2.2.2.2.2.2.2]) J6a O O O O O O O O) (G5 ?_)))
     exact ej109 _ _ (a.1++[(G2.mk g i d.Deck j 0 500000000 500000000 0 [] m n o)]) h ⟨(.sm O O),⟨⟨_,rfl,.same⟩,⟨_,rfl,.same⟩,fbQ O (.sm O O),fbQ O (.sm O O),G⟩,rfl⟩
    ·
     refine Gr (ej109 _ _ a.1 h ⟨(.sm O O),⟨⟨_,rfl,.same⟩,⟨_,rfl,.same⟩,fbQ O (.sm O O),fbQ O (.sm O O),G⟩,rfl⟩)
  ·intro t h
   replace h:=app1 a9 h
   refine G1 (JLh (I64 ((k+1:Nat):Int)) (Jg (J7 a2 g1) O O O) O (JLm (I64 ((k+1:Nat):Int)) O (G5 (g3 _ _ (k+1) (t,a.2.1,a.2.2.1,a.2.2.2.1,a.2.2.2.2.1,a.2.2.2.2.2.1,a.2.2.2.2.2.2.1,a.2.2.2.2.2.2.2.1,a.2.2.2.2.2.2.2.2.1,a.2.2.2.2.2.2.2.2.2.1,a.2.2.2.2.2.2.2.2.2.2.1,a.2.2.2.2.2.2.2.2.2.2.2.1,a.2.2.2.2.2.2.2.2.2.2.2.2) (app1 c0 h) (by omega) ⟨(.sm O O),⟨⟨_,rfl,.same⟩,⟨_,rfl,.same⟩,fbQ O (.sm O O),fbQ O (.sm O O),G⟩,rfl⟩))))
 ·
  have h:=app1 a8 (Jb a1 (Hs hb))
  refine Jf (h7 ?_)
  obtain⟨d9,b1,h⟩:=Yy h
  refine Ri (fun x:(List G2)=>d9 x=some r) (fun x=>[(1,.sc (.int .u32 covers)),(4,.ptr 1056 0),(5,.ptr 1057 0)]) (fun x=>[(1061,.spare 107 2 a.2.1.length a.2.1.length),(1056,.box 36 Kb),(1057,.box 36 [E3 x,OW 1061 2 G8.av a.2.1,I64 a.2.2.1,I64 a.2.2.2.1,I64 a.2.2.2.2.1,I64 a.2.2.2.2.2.1,E4 a.2.2.2.2.2.2.1,E5 a.2.2.2.2.2.2.2.1,E6 a.2.2.2.2.2.2.2.2.1,I64 a.2.2.2.2.2.2.2.2.2.1,I64 a.2.2.2.2.2.2.2.2.2.2.1,I64 a.2.2.2.2.2.2.2.2.2.2.2.1,I64 a.2.2.2.2.2.2.2.2.2.2.2.2])]) (fun Kj130 ej130=>?_) ?_
  ·
   refine Jr fun e0=>(JLh (.ptr 1057 0) (Hi Hv O O) O (JLh (OW 1060 12 G2.av a.1) (Hx J9 O O O O) O (JLl Ht O O O fun i4=>(JLh (BL (decide ((a.1.length:Int)=0))) (Q0 O O O) O (G5 (e0 (JCc O h (fun h hb=>?_) (fun h hb=>?_))))))))
   ·
    refine G1 ?_
    refine JLh (.agg [I64 0,I64 0,BL false,I64 3,I64 0,I64 500000000,I64 500000000,I64 0,E1 ([]:List Int),I64 0,I64 0,I64 2000]) (Hb (cs:=[I64 0,I64 0,BL false,I64 3,I64 0,I64 500000000,I64 500000000,I64 0,E1 ([]:List Int),I64 0,I64 0,I64 2000]) [(0,1),(1,1),(2,1),(3,1),(4,1),(5,1),(6,1),(7,1),(8,1),(9,1),(10,1),(11,1)] [I64 0,I64 0,BL false,I64 0,I64 0,I64 0,I64 0,I64 0,E1 ([]:List Int),I64 0,I64 0,I64 0] [E0,E0,.bool false,E0,E0,E0,E0,E0,.slice none 0 0,E0,E0,E0] G67 Gd0 ⟨.inl O,.inl O,.inl O,.inl O,.inl O,.inl O,.inl O,.inl O,.inr ⟨_,O,O⟩,.inl O,.inl O,.inl O,G⟩ O O) O (JLh (E3 ([(G2.mk 0 0 false 3 0 500000000 500000000 0 [] 0 0 2000)])) (H9 (xs:=[.agg [I64 0,I64 0,BL false,I64 3,I64 0,I64 500000000,I64 500000000,I64 0,E1 ([]:List Int),I64 0,I64 0,I64 2000]]) O ⟨O,O,G⟩ Ht G35 O O O O) O (JLh (.ptr 1057 0) (Hi Hv O O) O (Hp (u:=.junk) (Hc (u:=E3 ([(G2.mk 0 0 false 3 0 500000000 500000000 0 [] 0 0 2000)])) (ds:=[E3 ([(G2.mk 0 0 false 3 0 500000000 500000000 0 [] 0 0 2000)]),OW 1061 2 G8.av a.2.1,I64 a.2.2.1,I64 a.2.2.2.1,I64 a.2.2.2.2.1,I64 a.2.2.2.2.2.1,E4 a.2.2.2.2.2.2.1,E5 a.2.2.2.2.2.2.2.1,E6 a.2.2.2.2.2.2.2.2.1,I64 a.2.2.2.2.2.2.2.2.2.1,I64 a.2.2.2.2.2.2.2.2.2.2.1,I64 a.2.2.2.2.2.2.2.2.2.2.2.1,I64 a.2.2.2.2.2.2.2.2.2.2.2.2]) J6a O O O O O O O O) (G5 ?_))))
    exact ej130 _ _ ([(G2.mk 0 0 false 3 0 500000000 500000000 0 [] 0 0 2000)]) h ⟨(.sm O O),⟨⟨_,rfl,.same⟩,fbQ O (.sm O O),fbQ O (.sm O O),G⟩,rfl⟩
   ·
    refine Gr (ej130 _ _ a.1 h ⟨(.sm O O),⟨⟨_,rfl,.same⟩,fbQ O (.sm O O),fbQ O ⟨.list rfl,.same rfl,.same rfl,.same rfl,.same rfl,.same rfl,.same rfl,.same rfl,.same rfl,.same rfl,.same rfl,.same rfl,.same rfl,G⟩,G⟩,rfl⟩)
  ·intro x h
   replace h:=app1 b1 h
   refine Js fun e1=>Jr fun e2=>(JLm (I64 0) O (G5 (e2 (Gx ?_))))
   obtain⟨e3,h⟩:=J8 h
   obtain⟨h0,e4,e5,b2,h⟩:=R21 h
   refine Jc (fun e (c:(List G2)×(List G8)×Int×Int×Int×Int×(List Row)×(List Frame)×(List Gp)×Int×Int×Int×Int)=>upto h0 e4 ((5:Int).toNat - e) e c=some r) (fun e c=>[(1,.sc (.int .u32 covers)),(4,.ptr 1056 0),(5,.ptr 1057 0),(11,En e)]) (fun e c=>[(1061,.spare 107 2 c.2.1.length c.2.1.length),(1056,.box 36 Kb),(1057,.box 36 (Kd c))]) (fun e=>(5:Int).toNat - e) 0 (x,a.2.1,a.2.2.1,a.2.2.2.1,a.2.2.2.2.1,a.2.2.2.2.2.1,a.2.2.2.2.2.2.1,a.2.2.2.2.2.2.2.1,a.2.2.2.2.2.2.2.2.1,a.2.2.2.2.2.2.2.2.2.1,a.2.2.2.2.2.2.2.2.2.2.1,a.2.2.2.2.2.2.2.2.2.2.2.1,a.2.2.2.2.2.2.2.2.2.2.2.2) h ⟨(.sm O O),⟨⟨_,rfl,.same⟩,fbQ O (.sm O O),fbQ O (.sm O O),G⟩,rfl⟩ ?_
   clear h
   intro e c a6 i5 h1
   refine Js fun e6=>Jr fun e7=>(JLm (En e) O (JLh (BL (decide ((e:Int) < 5))) (Qg O O O) O (G5 (e7 (Gn O (fun hb=>?_) (fun hb=>?_))))))
   ·
    have a7:=Q91 hb
    obtain⟨i1,e8,h⟩:=Q4c a6 a7
    replace h:=Qa7 e5 h
    refine Gr (e6 ?_)
    obtain⟨e9,b3,h⟩:=Yy h
    refine Ri (fun v:(List G8)=>e9 v=some r) (fun v=>[(1,.sc (.int .u32 covers)),(4,.ptr 1056 0),(5,.ptr 1057 0),(11,En e)]) (fun v=>[(1061,.spare 107 2 v.length v.length),(1056,.box 36 Kb),(1057,.box 36 [E3 c.1,OW 1061 2 G8.av v,I64 c.2.2.1,I64 c.2.2.2.1,I64 c.2.2.2.2.1,I64 c.2.2.2.2.2.1,E4 c.2.2.2.2.2.2.1,E5 c.2.2.2.2.2.2.2.1,E6 c.2.2.2.2.2.2.2.2.1,I64 c.2.2.2.2.2.2.2.2.2.1,I64 c.2.2.2.2.2.2.2.2.2.2.1,I64 c.2.2.2.2.2.2.2.2.2.2.2.1,I64 c.2.2.2.2.2.2.2.2.2.2.2.2])]) (fun Kj203 ej203=>?_) ?_
    ·
     refine Gx ?_
     obtain⟨f0,b4,h⟩:=Yy h
     refine Ri (fun p:(List G8)=>f0 p=some r) (fun p=>[(1,.sc (.int .u32 covers)),(4,.ptr 1056 0),(5,.ptr 1057 0),(11,En e)]) (fun p=>[(1061,.spare 107 2 p.length p.length),(1056,.box 36 Kb),(1057,.box 36 [E3 c.1,OW 1061 2 G8.av p,I64 c.2.2.1,I64 c.2.2.2.1,I64 c.2.2.2.2.1,I64 c.2.2.2.2.2.1,E4 c.2.2.2.2.2.2.1,E5 c.2.2.2.2.2.2.2.1,E6 c.2.2.2.2.2.2.2.2.1,I64 c.2.2.2.2.2.2.2.2.2.1,I64 c.2.2.2.2.2.2.2.2.2.2.1,I64 c.2.2.2.2.2.2.2.2.2.2.2.1,I64 c.2.2.2.2.2.2.2.2.2.2.2.2])]) (fun Kj204 ej204=>?_) ?_
     ·
      refine Jr fun f1=>(JLm (.sc (.int .u32 covers)) O (JLm (En e) O ?_))
      obtain⟨h2,f2,h⟩:=Je h
      refine JLh (I64 h2) (Jcb f2 O O O) O ?_
      obtain⟨z,f3,h⟩:=Ga h
      refine JLh (.sc (.int .u32 (Jd9 .u32 covers z))) (Y15 (s:=z) (Gdd f3).1 O O O) O (JLh (.sc (.int .u32 (R98 .u32 (Jd9 .u32 covers z) 1))) (Yce O O O) O (JLh (BL (decide ((R98 .u32 (Jd9 .u32 covers z) 1)=1))) (Q0 O O O) O (G5 (f1 (JCc O h (fun h hb=>?_) (fun h hb=>?_))))))
      ·
       refine G1 (JLh (.ptr 1057 1) (Hi Jp O O) O (JLh (OW 1061 2 G8.av c.2.1) (Hx Qa O O O O) O (JLm (En e) O (JLh (E1 [0,1]) (H9 (xs:=[I64 0,I64 1]) O ⟨O,O,O,O,G⟩ Gz R6 O O O O) O (JLh (.agg [En e,E1 [0,1]]) (Hb (cs:=[En e,E1 [0,1]]) [(0,1),(1,1)] [I64 0,E1 ([]:List Int)] [E0,.slice none 0 0] Ha9 J12 ⟨.inl O,.inr ⟨_,O,O⟩,G⟩ O O) O (JLh (E7 ([(G8.mk (e:Int) [0,1])])) (H9 (xs:=[.agg [En e,E1 [0,1]]]) O ⟨O,O,G⟩ Jj Ged O O O O) O ?_))))))
       obtain⟨f4,h⟩:=J8 h
       refine JLh (OW 1061 2 G8.av (c.2.1++[(G8.mk (e:Int) [0,1])])) (Qk (f:=G8.av) (xs:=c.2.1) (ys:=[(G8.mk (e:Int) [0,1])]) O O O O Jj H98 f4 (fun _=>O) (.inl O) O) O (JLh (.ptr 1057 1) (Hi Jp O O) O (Hp (u:=.junk) (Hc (u:=OW 1061 2 G8.av (c.2.1++[(G8.mk (e:Int) [0,1])])) (ds:=[E3 c.1,OW 1061 2 G8.av (c.2.1++[(G8.mk (e:Int) [0,1])]),I64 c.2.2.1,I64 c.2.2.2.1,I64 c.2.2.2.2.1,I64 c.2.2.2.2.2.1,E4 c.2.2.2.2.2.2.1,E5 c.2.2.2.2.2.2.2.1,E6 c.2.2.2.2.2.2.2.2.1,I64 c.2.2.2.2.2.2.2.2.2.1,I64 c.2.2.2.2.2.2.2.2.2.2.1,I64 c.2.2.2.2.2.2.2.2.2.2.2.1,I64 c.2.2.2.2.2.2.2.2.2.2.2.2]) Q54 O O O O O O O O) (G5 ?_)))
       exact ej204 _ _ (c.2.1++[(G8.mk (e:Int) [0,1])]) h ⟨(.sm O O),⟨⟨_,rfl,.same⟩,fbQ O (.sm O O),fbQ O (.sm O O),G⟩,rfl⟩
      ·
       refine Gr (ej204 _ _ c.2.1 h ⟨(.sm O O),⟨⟨_,rfl,.same⟩,fbQ O (.sm O O),fbQ O (.sm O O),G⟩,rfl⟩)
     ·intro p h
      replace h:=app1 b4 h
      refine Jr fun f5=>(JLm (.sc (.int .u32 covers)) O (JLm (En e) O ?_))
      obtain⟨h3,f6,h⟩:=Je h
      refine JLh (I64 h3) (Jcb f6 O O O) O ?_
      obtain⟨h4,f7,h⟩:=Je h
      refine JLh (I64 h4) (Jg f7 O O O) O ?_
      obtain⟨a0,f8,h⟩:=Ga h
      refine JLh (.sc (.int .u32 (Jd9 .u32 covers a0))) (Y15 (s:=a0) (Gdd f8).1 O O O) O (JLh (.sc (.int .u32 (R98 .u32 (Jd9 .u32 covers a0) 1))) (Yce O O O) O (JLh (BL (decide ((R98 .u32 (Jd9 .u32 covers a0) 1)=1))) (Q0 O O O) O (G5 (f5 (JCc O h (fun h hb=>?_) (fun h hb=>?_))))))
      ·
       refine G1 (JLh (.ptr 1057 1) (Hi Jp O O) O (JLh (OW 1061 2 G8.av p) (Hx Qa O O O O) O (JLm (En e) O (JLh (E1 [2,3,4]) (H9 (xs:=[I64 2,I64 3,I64 4]) O ⟨O,O,O,O,O,O,G⟩ Gz R6 O O O O) O (JLh (.agg [En e,E1 [2,3,4]]) (Hb (cs:=[En e,E1 [2,3,4]]) [(0,1),(1,1)] [I64 0,E1 ([]:List Int)] [E0,.slice none 0 0] Ha9 J12 ⟨.inl O,.inr ⟨_,O,O⟩,G⟩ O O) O (JLh (E7 ([(G8.mk (e:Int) [2,3,4])])) (H9 (xs:=[.agg [En e,E1 [2,3,4]]]) O ⟨O,O,G⟩ Jj Ged O O O O) O ?_))))))
       obtain⟨f9,h⟩:=J8 h
       refine JLh (OW 1061 2 G8.av (p++[(G8.mk (e:Int) [2,3,4])])) (Qk (f:=G8.av) (xs:=p) (ys:=[(G8.mk (e:Int) [2,3,4])]) O O O O Jj H98 f9 (fun _=>O) (.inl O) O) O (JLh (.ptr 1057 1) (Hi Jp O O) O (Hp (u:=.junk) (Hc (u:=OW 1061 2 G8.av (p++[(G8.mk (e:Int) [2,3,4])])) (ds:=[E3 c.1,OW 1061 2 G8.av (p++[(G8.mk (e:Int) [2,3,4])]),I64 c.2.2.1,I64 c.2.2.2.1,I64 c.2.2.2.2.1,I64 c.2.2.2.2.2.1,E4 c.2.2.2.2.2.2.1,E5 c.2.2.2.2.2.2.2.1,E6 c.2.2.2.2.2.2.2.2.1,I64 c.2.2.2.2.2.2.2.2.2.1,I64 c.2.2.2.2.2.2.2.2.2.2.1,I64 c.2.2.2.2.2.2.2.2.2.2.2.1,I64 c.2.2.2.2.2.2.2.2.2.2.2.2]) Q54 O O O O O O O O) (G5 ?_)))
       exact ej203 _ _ (p++[(G8.mk (e:Int) [2,3,4])]) h ⟨(.sm O O),⟨⟨_,rfl,.same⟩,fbQ O (.sm O O),fbQ O (.sm O O),G⟩,rfl⟩
      ·
       refine Gr (ej203 _ _ p h ⟨(.sm O O),⟨⟨_,rfl,.same⟩,fbQ O (.sm O O),fbQ O (.sm O O),G⟩,rfl⟩)
    ·intro v h
     replace h:=app1 b3 h
     refine G1 (JLm (En e) O (JLh (I64 ((e+1:Nat):Int)) (Jg (J7 a7 (Jcf e3)) O O O) O (JLm (I64 ((e+1:Nat):Int)) O (G5 (h1 _ _ (e+1) (c.1,v,c.2.2.1,c.2.2.2.1,c.2.2.2.2.1,c.2.2.2.2.2.1,c.2.2.2.2.2.2.1,c.2.2.2.2.2.2.2.1,c.2.2.2.2.2.2.2.2.1,c.2.2.2.2.2.2.2.2.2.1,c.2.2.2.2.2.2.2.2.2.2.1,c.2.2.2.2.2.2.2.2.2.2.2.1,c.2.2.2.2.2.2.2.2.2.2.2.2) (app1 e8 h) (by omega) ⟨(.sm O O),⟨⟨_,rfl,.same⟩,fbQ O (.sm O O),fbQ O (.sm O O),G⟩,rfl⟩)))))
   ·
    have h:=app1 b2 (Q4d a6 (He8 hb))
    refine Jf (e1 ?_)
    refine Jr fun g0=>(JLh (.agg (Kd c)) (Ga9 Hr O O O O) O (Hp (u:=.junk) (Hc (u:=.agg (Kd c)) (ds:=(Kd c)) Zw O O O O O O O O) (G5 (g0 ?_))))
    refine Gq (⟨[.agg [E3 c.1,E7 c.2.1,I64 c.2.2.1,I64 c.2.2.2.1,I64 c.2.2.2.2.1,I64 c.2.2.2.2.2.1,E4 c.2.2.2.2.2.2.1,E5 c.2.2.2.2.2.2.2.1,E6 c.2.2.2.2.2.2.2.2.1,I64 c.2.2.2.2.2.2.2.2.2.1,I64 c.2.2.2.2.2.2.2.2.2.2.1,I64 c.2.2.2.2.2.2.2.2.2.2.2.1,I64 c.2.2.2.2.2.2.2.2.2.2.2.2]],[],G,O,⟨⟨_,⟨_,_,_,_,O,O,O,.inl ⟨Hr,O⟩⟩,.agg ⟨.same O,.list O,.same O,.same O,.same O,.same O,.same O,.same O,.same O,.same O,.same O,.same O,.same O,G⟩⟩,G⟩,O,congrArg (fun r:Gk=>(.agg (Gk.cs r):AV)) (M5 h)⟩)

def Z9 (x:Stowed) (a:Box):Option Bool:=
 some (decide (x.Box=a.ID))
theorem Gb7 (x:Stowed) (a:Box) (r:Bool) (h:Z9 x a=some r):Pure Eo 33 [.agg (Stowed.cs x),Eh a] (·=BL r):=by
 unfold Z9 at h
 refine H0 [.tmp 3] Tryz.func33 O O (Jr fun b=>(JLh (.ptr 1072 0) (Jm (cs:=[I64 x.Box,I64 x.Slot.G2,I64 x.Slot.Tier,U8 x.Slot.Half]) 1072 O O O O O) O (JLm (BL false) O (G5 (b (Gm [(1,Eh a),(2,Eg x)] [] 1072 rfl rfl rfl G rfl (by exact⟨.conv (.same rfl),.ptr,G⟩) (Jr fun c=>(JLh (Eg x) (G9 Jn O O O) O (JLh (I64 x.Box) (Gh Gc O O O) O (JLh (Eh a) (G9 Rf O O O) O (JLh (I64 a.ID) (Gh Gc O O O) O (JLh (BL (decide (x.Box=a.ID))) (Q0 O O O) O (JLm (BL (decide (x.Box=a.ID))) O (G5 (c (Gq (fin1 BL h)))))))))))))))))

def Qs (places:List H8) (covers:Int) (drops:List Gv):Option (Gk×(List Box)×(List Stowed)×Gb):=
 bnd (Zj places covers) fun i=>
 bnd (R8 i drops 8) fun f=>
 each (fun c r (a:(List Stowed)) k=>
  jp (fun g=>
   bnd (Qb a) fun d=>
   need (decide ((d.length+[c].length)*32≤140737488355328∧d.length+[c].length≤maxLen)) <|
   bnd (Gdc c.Box 10) fun j=>
   bnd (bif decide (j=0) then Yo i f.1 (d++[c]) else some default) fun m=>
   bif ((decide (j=0))&&m) then
   (g (d++[c]))
   else
   (g a)) fun(n:(List Stowed))=>
  k n)
 (fun(a:(List Stowed))=>
  each (fun e s (b:(List Int)) l=>
   jp (fun h=>
    bnd (Hy a (fun z0=>Z9 z0 e)) fun o=>
    bif (!o) then
    (need (decide ((b.length+[e.ID].length)*8≤140737488355328∧b.length+[e.ID].length≤maxLen)) <|
     h (b++[e.ID]))
    else
    (h b)) fun(p:(List Int))=>
   l p)
  (fun(b:(List Int))=>
   bnd (Ge8 i f.1 a b) fun q=>
   some (i,f.1,a,q.1)) f.1 0 []) f.2 0 []
abbrev Ke:List AV:=[E3 ([]:List G2),E7 ([]:List G8),I64 0,I64 0,I64 0,I64 0,E4 ([]:List Row),E5 ([]:List Frame),E6 ([]:List Gp),I64 0,I64 0,I64 0,I64 0]
theorem Ge4 (places:List H8) (covers:Int) (drops:List Gv) (r:Gk×(List Box)×(List Stowed)×Gb) (h:Qs places covers drops=some r):Jh Eo 7 [Ec places,.sc (.int .u32 covers),Eb drops] [] (fun av L'=>av=.tup [.agg (Gk.cs r.1),E8 r.2.1,E2 r.2.2.1,.ptr 1196 0]∧L'=[(1196,.box 97 [E3 r.2.2.2.ship.Columns,E7 r.2.2.2.ship.Covers,I64 r.2.2.2.ship.Light.Kilos,I64 r.2.2.2.ship.Light.X,I64 r.2.2.2.ship.Light.Y,I64 r.2.2.2.ship.Light.Z,E4 r.2.2.2.ship.Rows,E5 r.2.2.2.ship.Frames,E6 r.2.2.2.ship.Tanks,I64 r.2.2.2.ship.G4.Tolerance,I64 r.2.2.2.ship.G4.Trim,I64 r.2.2.2.ship.G4.List_,I64 r.2.2.2.ship.G4.Stability,.mp 1197,.mp 1198,.mp 1199,I64 r.2.2.2.lifts]),(1197,TP 93 Slot.kv Box.av r.2.2.2.on),(1198,TP 94 Kq Box.av r.2.2.2.quay),(1199,TP 95 Kq I64 r.2.2.2.open_)]):=by
 unfold Qs at h
 refine Q9 [] [.cell 6 36,.tmp 7,.tmp 8,.tmp 9] Tryz.func7 O O (G56 O) (Jr fun d7=>(JLh (.ptr 1015 0) (G5f 1015 Ke [.slice none 0 0,.slice none 0 0,E0,E0,E0,E0,.slice none 0 0,.slice none 0 0,.slice none 0 0,E0,E0,E0,E0] G64 ⟨.inr ⟨_,O,O⟩,.inr ⟨_,O,O⟩,.inl O,.inl O,.inl O,.inl O,.inr ⟨_,O,O⟩,.inr ⟨_,O,O⟩,.inr ⟨_,O,O⟩,.inl O,.inl O,.inl O,.inl O,G⟩ O O) O (JLh (E8 ([]:List Box)) (Hm 9 O O) O (JLh (E2 ([]:List Stowed)) (Hm 4 O O) O (JLm (.sc (.pointer none)) O (G5 (d7 ?_)))))))
 refine Jr fun d8=>(JLm (Ec places) O (JLm (.sc (.int .u32 covers)) O ?_))
 obtain⟨k,d9,h⟩:=Ga h
 refine JLh (.agg (Gk.cs k)) (Gt O (Gc6 places covers k d9) Q72 ⟨O,O,O,O,G⟩) O (JLh (.ptr 1017 0) (Hq 1017 13 Gda O O) O (Hp (u:=.junk) (Hc (u:=.agg (Gk.cs k)) (ds:=(Gk.cs k)) Zw O O O O O O O O) (G5 (d8 ?_))))
 refine Gm [(2,Eb drops),(6,.ptr 1015 0),(10,Ef k)] [(1015,.box 36 Ke)] 1017 rfl rfl rfl ⟨⟨_,rfl,.boxEq rfl rfl⟩,G⟩ rfl (by exact⟨.conv (.same rfl),.conv (.same rfl),.ptr,G⟩) (Jr fun e0=>(JLh (.agg (Gk.cs k)) (Gj Hr O O O) O (JLm (Eb drops) O ?_)))
 obtain⟨c,e1,h⟩:=Ga h
 refine JLh (.tup [E8 c.1,E2 c.2]) (Gt O (H93 k drops 8 c e1) Q71 ⟨O,O,O,O,O,O,G⟩) O (JLm (.tup [E8 c.1,E2 c.2]) O (JLh (E8 c.1) (H1 O O O) O (JLh (E2 c.2) (H1 O O O) O (JLm (E8 c.1) O (JLm (E2 c.2) O (G5 (e0 (Jr fun e2=>(JLh (E2 ([]:List Stowed)) (Hm 4 O O) O (G5 (e2 (Js fun e3=>Jr fun e4=>(JLm (E2 c.2) O (JLl H4 O O O fun a5=>(JLm (I64 0) O (G5 (e4 (Gx ?_))))))))))))))))))
 obtain⟨e5,a6,a7,a1,h⟩:=Jy h
 refine Jc (fun l (e:(List Stowed))=>each e5 a6 (List.drop l c.2) l e=some r) (fun l e=>[(6,.ptr 1015 0),(10,Ef k),(11,E8 c.1),(13,E2 e),(31,E2 c.2),(32,En c.2.length),(33,En l)]) (fun l e=>[(1015,.box 36 Ke)]) (fun l=>c.2.length - l) 0 [] h ⟨(.sm O O),⟨fbQ O (.sm O O),G⟩,rfl⟩ ?_
 clear h
 intro l e t f1 e6
 refine Jr fun a8=>(JLh (BL (decide ((l:Int) < (c.2.length:Int)))) (Qg O O O) O (G5 (a8 (Js fun a9=>Gn O (fun hb=>?_) (fun hb=>?_)))))
 ·
  have v:=Qr hb
  obtain⟨d,e9,b0,b1,h⟩:=Ja t v
  replace h:=G1d a7 h
  refine Gr (a9 ?_)
  obtain⟨b2,a2,h⟩:=Yy h
  refine Ri (fun o:(List Stowed)=>b2 o=some r) (fun o=>[(6,.ptr 1015 0),(10,Ef k),(11,E8 c.1),(13,E2 o),(31,E2 c.2),(32,En c.2.length),(33,En l)]) (fun o=>[(1015,.box 36 Ke)]) (fun Kj34 ej34=>?_) ?_
  ·
   refine Gx (Jr fun b3=>(JLh (Eg d) (Hg (f:=Stowed.av) (xs:=c.2) (y:=d) O O O H4 b0 O) O (JLh (.agg (Stowed.cs d)) (Gj R3 O O O) O (JLh (.ptr 1018 0) (Hq 1018 4 Jx O O) O (Hp (u:=.junk) (Hc (u:=.agg (Stowed.cs d)) (ds:=[I64 d.Box,I64 d.Slot.G2,I64 d.Slot.Tier,U8 d.Slot.Half]) G11 O O O O O O O O) (G5 (b3 ?_)))))))
   refine fzQ [(6,.ptr 1015 0),(10,Ef k),(11,E8 c.1),(13,E2 e),(15,Eg d),(31,E2 c.2),(32,En c.2.length),(33,En l)] [(1015,.box 36 Ke)] 1018 rfl rfl rfl ⟨⟨_,rfl,.boxEq rfl rfl⟩,G⟩ rfl (Js fun b4=>?_)
   refine Qc (l':=[(6,.ptr 1015 0),(10,Ef k),(11,E8 c.1),(13,E2 e),(15,Eg d),(31,E2 c.2),(32,En c.2.length),(33,En l)]) (L':=[(1015,.box 36 Ke)]) ⟨(.sm O O),⟨fbQ O (.sm O O),G⟩,rfl⟩ ?_
   obtain⟨g,b5,h⟩:=Ga h
   obtain⟨b6,h⟩:=J8 h
   refine J5 [1,4] [0,0,0,0,0,2] [0,0,1,1,0,2] [[(1015,.box 36 Ke)],((1029,.spare 55 4 g.length g.length)::[(1015,.box 36 Ke)]),((1029,.spare 55 4 (g++[d]).length (g++[d]).length)::((1029,.spare 55 4 g.length g.length)::[(1015,.box 36 Ke)]))] J0 (by kernel_rfl) rfl rfl ?_
   refine Gd (u:=E2 e) O O ⟨Ge (G6 O O) O,G⟩ (D_w (u:=OW 1029 4 Stowed.av g) O O O O (Ge (Ru (args:=[E2 e]) (L0:=[]) (Lr:=[(1029,.spare 55 4 g.length g.length)]) O ((Ye e g b5).toOwn 1029 O) J73 ⟨.inl O,O,G⟩ G O O O) O) (Gd (u:=.agg (Stowed.cs d)) O O ⟨Ge (Gj R3 O O O) O,Ge (Gj R3 O O O) O,G⟩ (Gd (u:=E2 [d]) O O ⟨Ge (H9 (xs:=[.agg (Stowed.cs d)]) O ⟨O,O,G⟩ H4 Jx O O O O) O,Ge (H9 (xs:=[.agg (Stowed.cs d)]) O ⟨O,O,G⟩ H4 Jx O O O O) O,G⟩ (D_w (u:=OW 1029 4 Stowed.av (g++[d])) O O O O (Ge (Qk (f:=Stowed.av) (xs:=g) (ys:=[d]) O O O O H4 G29 b6 (fun _=>O) (.inl O) O) O) (Gd (u:=OW 1029 4 Stowed.av (g++[d])) O O ⟨Ge (G7 O O) O,G⟩ (Qw ?_))))))
   refine b4 (Jr fun b7=>(JLh (Eg d) (G9 Jn O O O) O (JLh (I64 d.Box) (Gh Gc O O O) O ?_)))
   obtain⟨p,w,h⟩:=Ga h
   refine JLh (I64 p) (H08 (Jq w).1 (Jq w).2 O O O) O (JLh (BL (decide (p=0))) (Q0 O O O) O (JLm (BL (decide (p=0))) O (JLo (.agg (Gk.cs k)) [] O .sct G (fun hc=>Gj Hr O O O) O (JLo (E8 c.1) [] O .sct G (fun hc=>G6 O O) O (JLo (OW 1029 4 Stowed.av (g++[d])) [] O .sct G (fun hc=>G6 O O) O ?_)))))
   obtain⟨x,b8,h⟩:=Ga h
   refine JLo (BL x) [47,48,49] O .sct ⟨Ua,Ua,Ua,G⟩ (fun hc=>Gt (args:=[.agg (Gk.cs k),E8 c.1,E2 (g++[d])]) O (G0a k c.1 (g++[d]) x (H3 hc b8)) G8c ⟨O,O,O,O,O,O,G⟩) O (JLh (BL ((decide (p=0))&&x)) (Ro O O O O) O (G5 (b7 (JCc O h (fun h hb=>?_) (fun h hb=>?_)))))
   ·
    refine G1 (JLm (OW 1029 4 Stowed.av (g++[d])) O (JLm (OW 1029 4 Stowed.av (g++[d])) O (G5 (ej34 _ _ (g++[d]) h ⟨⟨.same rfl,.same rfl,.same rfl,.list rfl,.same rfl,.same rfl,.same rfl,G⟩,⟨fbQ O (.sm O O),G⟩,rfl⟩))))
   ·
    refine Gr (ej34 _ _ e h ⟨(.sm O O),⟨fbQ O (.sm O O),G⟩,rfl⟩)
  ·intro o h
   replace h:=app1 a2 h
   refine G1 (JLh (I64 ((l+1:Nat):Int)) (Jg (J7 v a5) O O O) O (JLm (I64 ((l+1:Nat):Int)) O (G5 (e6 _ _ (l+1) o (app1 b1 h) (by omega) ⟨(.sm O O),⟨fbQ O (.sm O O),G⟩,rfl⟩))))
 ·
  have h:=app1 a1 (Jb t (Hs hb))
  refine Jf (e3 (Jr fun b9=>(JLh (OW 1019 1 I64 ([]:List Int)) (G5e 1019 3 1 O O O) O (G5 (b9 (Js fun c0=>Jr fun c1=>(JLm (E8 c.1) O (JLl Yb O O O fun c2=>(JLm (I64 0) O (G5 (c1 (Gx ?_))))))))))))
  obtain⟨e7,c3,c4,a3,h⟩:=Jy h
  refine Jc (fun m (i:(List Int))=>each e7 c3 (List.drop m c.1) m i=some r) (fun m i=>[(6,.ptr 1015 0),(10,Ef k),(11,E8 c.1),(13,E2 e),(17,OW 1019 1 I64 i),(54,E8 c.1),(55,En c.1.length),(56,En m)]) (fun m i=>[(1019,.spare 3 1 i.length i.length),(1015,.box 36 Ke)]) (fun m=>c.1.length - m) 0 [] h ⟨(.sm O O),⟨⟨_,rfl,.same⟩,fbQ O (.sm O O),G⟩,rfl⟩ ?_
  clear h
  intro m i z f2 e8
  refine Jr fun c5=>(JLh (BL (decide ((m:Int) < (c.1.length:Int)))) (Qg O O O) O (G5 (c5 (Js fun c6=>Gn O (fun hb=>?_) (fun hb=>?_)))))
  ·
   have a0:=Qr hb
   obtain⟨j,f0,c7,c8,h⟩:=Ja z a0
   replace h:=G1d c4 h
   refine Gr (c6 ?_)
   obtain⟨c9,a4,h⟩:=Yy h
   refine Ri (fun n:(List Int)=>c9 n=some r) (fun n=>[(6,.ptr 1015 0),(10,Ef k),(11,E8 c.1),(13,E2 e),(17,OW 1019 1 I64 n),(54,E8 c.1),(55,En c.1.length),(56,En m)]) (fun n=>[(1019,.spare 3 1 n.length n.length),(1015,.box 36 Ke)]) (fun Kj64 ej64=>?_) ?_
   ·
    refine Gx (Jr fun d0=>(JLh (Eh j) (Hg (f:=Box.av) (xs:=c.1) (y:=j) O O O Yb c7 O) O (JLh (.agg (Box.cs j)) (Gj Ym O O O) O (JLh (.ptr 1020 0) (Hq 1020 9 Qt O O) O (Hp (u:=.junk) (Hc (u:=.agg (Box.cs j)) (ds:=(Box.cs j)) Rs O O O O O O O O) (G5 (d0 ?_)))))))
    refine fzQ [(6,.ptr 1015 0),(10,Ef k),(11,E8 c.1),(13,E2 e),(17,OW 1019 1 I64 i),(19,Eh j),(54,E8 c.1),(55,En c.1.length),(56,En m)] [(1019,.spare 3 1 i.length i.length),(1015,.box 36 Ke)] 1020 rfl rfl rfl ⟨⟨_,rfl,.same⟩,⟨_,rfl,.boxEq rfl rfl⟩,G⟩ rfl (Jr fun d1=>(JLm (E2 e) O (JLh (.fn 33 [.dptr (Box.cs j)]) (Jz (cs:=[.dptr (Box.cs j)]) O O) O ?_)))
    obtain⟨s,d2,h⟩:=Ga h
    refine JLh (BL s) (Gt O (Qd e (fun z0=>Z9 z0 j) 33 [.dptr (Box.cs j)] Q70 O (fun z0 q hq=>Gb7 z0 j q hq) s d2) H0c ⟨O,O,O,O,G⟩) O (JLh (BL (!s)) (Qx (b:=s) O O) O (G5 (d1 (JCc O h (fun h hb=>?_) (fun h hb=>?_)))))
    ·
     refine G1 (JLm (OW 1019 1 I64 i) O (JLh (Eh j) (G9 Rf O O O) O (JLh (I64 j.ID) (Gh Gc O O O) O (JLh (E1 [j.ID]) (H9 (xs:=[I64 j.ID]) O ⟨O,O,G⟩ Gz R6 O O O O) O ?_))))
     obtain⟨d3,h⟩:=J8 h
     refine JLh (OW 1019 1 I64 (i++[j.ID])) (Qk (f:=I64) (xs:=i) (ys:=[j.ID]) O O O O Gz Zx d3 (fun _=>O) (.inl O) O) O (JLm (OW 1019 1 I64 (i++[j.ID])) O (G5 (ej64 _ _ (i++[j.ID]) h ⟨(.sm O O),⟨⟨_,rfl,.same⟩,fbQ O (.sm O O),G⟩,rfl⟩)))
    ·
     refine Gr (ej64 _ _ i h ⟨(.sm O O),⟨⟨_,rfl,.same⟩,fbQ O (.sm O O),G⟩,rfl⟩)
   ·intro n h
    replace h:=app1 a4 h
    refine G1 (JLh (I64 ((m+1:Nat):Int)) (Jg (J7 a0 c2) O O O) O (JLm (I64 ((m+1:Nat):Int)) O (G5 (e8 _ _ (m+1) n (app1 c8 h) (by omega) ⟨(.sm O O),⟨⟨_,rfl,.same⟩,fbQ O (.sm O O),G⟩,rfl⟩))))
  ·
   have h:=app1 a3 (Jb z (Hs hb))
   refine Jf (c0 (Jr fun d4=>(JLh (.agg (Gk.cs k)) (Gj Hr O O O) O (JLm (E8 c.1) O (JLm (E2 e) O (JLm (OW 1019 1 I64 i) O ?_))))))
   obtain⟨a,d5,h⟩:=Ga h
   refine JLh (.tup [.ptr 1196 0,I64 a.2]) (Ru (args:=[.agg (Gk.cs k),E8 c.1,E2 e,E1 i]) (L0:=[]) (Lr:=[(1196,.box 97 [E3 a.1.ship.Columns,E7 a.1.ship.Covers,I64 a.1.ship.Light.Kilos,I64 a.1.ship.Light.X,I64 a.1.ship.Light.Y,I64 a.1.ship.Light.Z,E4 a.1.ship.Rows,E5 a.1.ship.Frames,E6 a.1.ship.Tanks,I64 a.1.ship.G4.Tolerance,I64 a.1.ship.G4.Trim,I64 a.1.ship.G4.List_,I64 a.1.ship.G4.Stability,.mp 1197,.mp 1198,.mp 1199,I64 a.1.lifts]),(1197,TP 93 Slot.kv Box.av a.1.on),(1198,TP 94 Kq Box.av a.1.quay),(1199,TP 95 Kq I64 a.1.open_)]) O (Hb1 k c.1 e i a d5) Hde ⟨.inl O,O,.inl O,O,.inl O,O,.inr O,O,G⟩ G O O O) O (JLm (.tup [.ptr 1196 0,I64 a.2]) O (JLh (.ptr 1196 0) (H1 O O O) O (JLh (I64 a.2) (H1 O O O) O (JLm (.ptr 1196 0) O (JLm (I64 a.2) O (G5 (d4 ?_)))))))
   refine Jr fun d6=>(JLh (.agg (Gk.cs k)) (Gj Hr O O O) O (JLm (E8 c.1) O (JLm (E2 e) O (JLm (.ptr 1196 0) O (Hp (u:=.junk) (Hc (u:=.agg (Gk.cs k)) (ds:=(Gk.cs k)) Zw O O O O O O O O) (JLm (E8 c.1) O (JLm (E2 e) O (JLm (.ptr 1196 0) O (G5 (d6 (Gq ?_)))))))))))
   obtain rfl:=M5 h
   exact⟨[.agg (Gk.cs k),E8 c.1,E2 e,.ptr 1196 0],[(1196,.box 97 [E3 a.1.ship.Columns,E7 a.1.ship.Covers,I64 a.1.ship.Light.Kilos,I64 a.1.ship.Light.X,I64 a.1.ship.Light.Y,I64 a.1.ship.Light.Z,E4 a.1.ship.Rows,E5 a.1.ship.Frames,E6 a.1.ship.Tanks,I64 a.1.ship.G4.Tolerance,I64 a.1.ship.G4.Trim,I64 a.1.ship.G4.List_,I64 a.1.ship.G4.Stability,.mp 1197,.mp 1198,.mp 1199,I64 a.1.lifts]),(1197,TP 93 Slot.kv Box.av a.1.on),(1198,TP 94 Kq Box.av a.1.quay),(1199,TP 95 Kq I64 a.1.open_)],⟨fbQ O (.sm O O),fmQ O,fmQ O,fmQ O,G⟩,rfl,⟨⟨_,⟨_,_,_,_,rfl,rfl,rfl,.inl ⟨Hr,rfl⟩⟩,.conv (.same rfl)⟩,⟨_,rfl,.conv (.same rfl)⟩,⟨_,rfl,.conv (.same rfl)⟩,⟨_,rfl,.conv (.same rfl)⟩,G⟩,rfl,rfl⟩


def Zq (y:Stowed) (a:Stowed):Option Bool:=
 some (decide (y.Box=a.Box))
theorem H58 (y:Stowed) (a:Stowed) (r:Bool) (h:Zq y a=some r):Pure Eo 105 [.agg (Stowed.cs y),Eg a] (·=BL r):=by
 unfold Zq at h
 refine H0 [.tmp 3] Tryz.func105 O O (Jr fun b=>(JLh (.ptr 1157 0) (Jm (cs:=[I64 y.Box,I64 y.Slot.G2,I64 y.Slot.Tier,U8 y.Slot.Half]) 1157 O O O O O) O (JLm (BL false) O (G5 (b (Gm [(1,Eg a),(2,Eg y)] [] 1157 rfl rfl rfl G rfl (by exact⟨.conv (.same rfl),.ptr,G⟩) (Jr fun c=>(JLh (Eg y) (G9 Jn O O O) O (JLh (I64 y.Box) (Gh Gc O O O) O (JLh (Eg a) (G9 Jn O O O) O (JLh (I64 a.Box) (Gh Gc O O O) O (JLh (BL (decide (y.Box=a.Box))) (Q0 O O O) O (JLm (BL (decide (y.Box=a.Box))) O (G5 (c (Gq (fin1 BL h)))))))))))))))))

def Za (af:List Stowed) (bf:List Stowed):Option (List Int):=
 each (fun b g (a:(List Int)) d=>
  jp (fun c=>
   bnd (Hy bf (fun z0=>Zq z0 b)) fun e=>
   bif (!e) then
   (need (decide ((a.length+[b.Box].length)*8≤140737488355328∧a.length+[b.Box].length≤maxLen)) <|
    c (a++[b.Box]))
   else
   (c a)) fun(f:(List Int))=>
  d f)
 (fun(a:(List Int))=>
  some a) af 0 []
theorem H92 (af:List Stowed) (bf:List Stowed) (r:(List Int)) (h:Za af bf=some r):Pure Eo 50 [E2 af,E2 bf] (·=E1 r):=by
 unfold Za at h
 refine H0 [.tmp 4] Tryz.func50 O O (Jr fun a2=>(JLh (E1 ([]:List Int)) (Hm 1 O O) O (G5 (a2 (Jr fun a3=>(JLh (OW 1097 1 I64 ([]:List Int)) (G5e 1097 3 1 O O O) O (G5 (a3 (Js fun a4=>Jr fun a5=>(JLm (E2 af) O (JLl H4 O O O fun a6=>(JLm (I64 0) O (G5 (a5 (Gx ?_)))))))))))))))
 obtain⟨a7,m,n,k,h⟩:=Jy h
 refine Jc (fun d (c:(List Int))=>each a7 m (List.drop d af) d c=some r) (fun d c=>[(1,E2 bf),(5,OW 1097 1 I64 c),(8,E2 af),(9,En af.length),(10,En d)]) (fun d c=>[(1097,.spare 3 1 c.length c.length)]) (fun d=>af.length - d) 0 [] h ⟨(.sm O O),⟨⟨_,rfl,.same⟩,G⟩,rfl⟩ ?_
 clear h
 intro d c i b0 a8
 refine Jr fun o=>(JLh (BL (decide ((d:Int) < (af.length:Int)))) (Qg O O O) O (G5 (o (Js fun p=>Gn O (fun hb=>?_) (fun hb=>?_)))))
 ·
  have j:=Qr hb
  obtain⟨a,a9,s,t,h⟩:=Ja i j
  replace h:=G1d n h
  refine Gr (p ?_)
  obtain⟨v,l,h⟩:=Yy h
  refine Ri (fun e:(List Int)=>v e=some r) (fun e=>[(1,E2 bf),(5,OW 1097 1 I64 e),(8,E2 af),(9,En af.length),(10,En d)]) (fun e=>[(1097,.spare 3 1 e.length e.length)]) (fun Kj24 ej24=>?_) ?_
  ·
   refine Gx (Jr fun w=>(JLh (Eg a) (Hg (f:=Stowed.av) (xs:=af) (y:=a) O O O H4 s O) O (JLh (.agg (Stowed.cs a)) (Gj R3 O O O) O (JLh (.ptr 1098 0) (Hq 1098 4 Jx O O) O (Hp (u:=.junk) (Hc (u:=.agg (Stowed.cs a)) (ds:=[I64 a.Box,I64 a.Slot.G2,I64 a.Slot.Tier,U8 a.Slot.Half]) G11 O O O O O O O O) (G5 (w (fzQ [(1,E2 bf),(5,OW 1097 1 I64 c),(7,Eg a),(8,E2 af),(9,En af.length),(10,En d)] [(1097,.spare 3 1 c.length c.length)] 1098 rfl rfl rfl ⟨⟨_,rfl,.same⟩,G⟩ rfl ?_))))))))
   refine Jr fun x=>(JLm (E2 bf) O (JLh (.fn 105 [.dptr (Stowed.cs a)]) (Jz (cs:=[.dptr (Stowed.cs a)]) O O) O ?_))
   obtain⟨g,z,h⟩:=Ga h
   refine JLh (BL g) (Gt O (Qd bf (fun z0=>Zq z0 a) 105 [.dptr (Stowed.cs a)] R70 O (fun z0 q hq=>H58 z0 a q hq) g z) H0c ⟨O,O,O,O,G⟩) O (JLh (BL (!g)) (Qx (b:=g) O O) O (G5 (x (JCc O h (fun h hb=>?_) (fun h hb=>?_)))))
   ·
    refine G1 (JLm (OW 1097 1 I64 c) O (JLh (Eg a) (G9 Jn O O O) O (JLh (I64 a.Box) (Gh Gc O O O) O (JLh (E1 [a.Box]) (H9 (xs:=[I64 a.Box]) O ⟨O,O,G⟩ Gz R6 O O O O) O ?_))))
    obtain⟨a0,h⟩:=J8 h
    refine JLh (OW 1097 1 I64 (c++[a.Box])) (Qk (f:=I64) (xs:=c) (ys:=[a.Box]) O O O O Gz Zx a0 (fun _=>O) (.inl O) O) O (JLm (OW 1097 1 I64 (c++[a.Box])) O (G5 (ej24 _ _ (c++[a.Box]) h ⟨(.sm O O),⟨⟨_,rfl,.same⟩,G⟩,rfl⟩)))
   ·
    refine Gr (ej24 _ _ c h ⟨(.sm O O),⟨⟨_,rfl,.same⟩,G⟩,rfl⟩)
  ·intro e h
   replace h:=app1 l h
   refine G1 (JLh (I64 ((d+1:Nat):Int)) (Jg (J7 j a6) O O O) O (JLm (I64 ((d+1:Nat):Int)) O (G5 (a8 _ _ (d+1) e (app1 t h) (by omega) ⟨(.sm O O),⟨⟨_,rfl,.same⟩,G⟩,rfl⟩))))
 ·
  have h:=app1 k (Jb i (Hs hb))
  refine Jf (a4 (Jr fun a1=>(JLm (OW 1097 1 I64 c) O (JLm (OW 1097 1 I64 c) O (G5 (a1 (Gq (fin1l (fun r:(List Int)=>(E1 r:AV)) h))))))))
end
end Go.Proofs.YtidpfkmbfgihlaaGreat
