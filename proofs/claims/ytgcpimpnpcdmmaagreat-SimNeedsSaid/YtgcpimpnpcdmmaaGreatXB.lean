/- Walks of functions. -/
import Derived.Test.YtgcpimpnpcdmmaaGreatXM
set_option maxRecDepth 100000
set_option maxHeartbeats 1000000
set_option linter.unusedVariables false
set_option linter.unusedSimpArgs false
namespace Go.Proofs.YtgcpimpnpcdmmaaGreat
open Go.RowKit
noncomputable section
structure H6 where
 x:Move
 e:Int
 deriving DecidableEq,Inhabited
def H6.cs (x:H6):List AV:=[U8 x.x.Kind,I64 x.x.Box,I64 x.x.Slot.G3,I64 x.x.Slot.Tier,U8 x.x.Slot.Half,I64 x.x.G9,I64 x.e]
def H6.av (x:H6):AV:=.agg x.cs
namespace XBF
open XAF
open XCF
open XSF
open XKF
open XTF
open XUF
open XVF
open XMF
theorem Zd6 (a b:G1):Jc5 En 4 64 [.int .i64 a.Box,.int .i64 a.Slot.G3,.int .i64 a.Slot.Tier,.int .u8 a.Slot.Half] [.int .i64 b.Box,.int .i64 b.Slot.G3,.int .i64 b.Slot.Tier,.int .u8 b.Slot.Half]=some (decide (a=b)):=by
 refine(show _=some ((a.Box==b.Box)&&(((a.Slot.G3==b.Slot.G3)&&((a.Slot.Tier==b.Slot.Tier)&&((a.Slot.Half==b.Slot.Half)&&true)))&&true)) by kernel_rfl).trans (congrArg some ?_)
 rw [Bool.eq_iff_iff]
 simp only [Mk,beq_iff_eq,Mm,Bool.and_true]
 constructor
 ·intro h; obtain⟨_,⟨_,_,_⟩⟩:=a; obtain⟨_,⟨_,_,_⟩⟩:=b; simp_all
 ·intro h; subst h; simp
theorem Yb6:H3e En 82 7=true:=by kernel_rfl
theorem Rc2:G61 En 64=true:=by kernel_rfl
theorem H94:H1 En 10=true:=by kernel_rfl
theorem Jb8:H1 En 13=true:=by kernel_rfl
theorem J10:H1 En 16=true:=by kernel_rfl
theorem J0f:H1 En 18=true:=by kernel_rfl
theorem J0e:H1 En 19=true:=by kernel_rfl
theorem J0d:H1 En 20=true:=by kernel_rfl
theorem Qb9:H1 En 21=true:=by kernel_rfl
theorem Qb8:H1 En 22=true:=by kernel_rfl
theorem Y39:H1 En 26=true:=by kernel_rfl
theorem G36:H1 En 27=true:=by kernel_rfl
theorem Y30:H1 En 38=true:=by kernel_rfl
theorem Y2a:H1 En 52=true:=by kernel_rfl
theorem Yb5:En.eqGuardType En.depth 64=false:=by kernel_rfl
theorem R1c:Jw En 82 0 0=true:=by kernel_rfl
theorem J9d:Jw En 82 1 6=true:=by kernel_rfl
theorem G03:placesOf En 82=some [(0,6),(6,1)]:=by kernel_rfl
theorem Y11:Yg En 82 7=true:=by kernel_rfl
theorem J47:sliceB En 83 82 7=true:=by kernel_rfl
theorem G55:(En.info? 82).bind (fun i=>i.zero.map Value.cells)=some (List.toArray [.int .u8 0,E0,E0,E0,.int .u8 0,E0,E0]):=by kernel_rfl
theorem Q3d:R1 En 82 7=true:=by kernel_rfl
end XBF
open XAF
open XCF
open XSF
open XKF
open XTF
open XUF
open XVF
open XMF
open XBF

def Zu (y:G1) (a:G1):Option Bool:=
 some (decide (y.Box=a.Box))
theorem H7e (y:G1) (a:G1) (r:Bool) (h:Zu y a=some r):Pure En 38 [.agg (G1.cs y),Eh a] (·=BL r):=by
 unfold Zu at h
 refine Gz [.tmp 3] Tryz.func38 O O (Jr fun b=>(JLh (.ptr 1075 0) (Q6 (cs:=[I64 y.Box,I64 y.Slot.G3,I64 y.Slot.Tier,U8 y.Slot.Half]) 1075 O O O O O) O (JLm (BL false) O (G6 (b (Gr [(1,Eh a),(2,Eh y)] [] 1075 rfl rfl rfl ø rfl (by exact⟨.conv (.same rfl),.ptr,ø⟩) (Jr fun c=>(JLh (Eh y) (Ga Ja O O O) O (JLh (I64 y.Box) (Gg Gb O O O) O (JLh (Eh a) (Ga Ja O O O) O (JLh (I64 a.Box) (Gg Gb O O O) O (JLh (BL (decide (y.Box=a.Box))) (Qg O O O) O (JLm (BL (decide (y.Box=a.Box))) O (G6 (c (Gs (fin1 BL h)))))))))))))))))

def Qc (af:List G1) (bf:List G1):Option (List Int):=
 each (fun b g (a:(List Int)) d=>
  jp (fun c=>
   bnd (J7 bf (fun z0=>Zu z0 b)) fun e=>
   bif (!e) then
   (need (decide ((a.length+[b.Box].length)*8≤140737488355328∧a.length+[b.Box].length≤maxLen)) <|
    c (a++[b.Box]))
   else
   (c a)) fun(f:(List Int))=>
  d f)
 (fun(a:(List Int))=>
  some a) af 0 []
theorem Yp (af:List G1) (bf:List G1) (r:(List Int)) (h:Qc af bf=some r):Pure En 11 [E1 af,E1 bf] (·=E2 r):=by
 unfold Qc at h
 refine Gz [.tmp 4] Tryz.func11 O O (Jr fun a2=>(JLh (E2 ([]:List Int)) (Jd 1 O O) O (G6 (a2 (Jr fun a3=>(JLh (OW 1021 1 I64 ([]:List Int)) (H69 1021 3 1 O O O) O (G6 (a3 (Js fun a4=>Jr fun a5=>(JLm (E1 af) O (JLl H5 O O O fun a6=>(JLm (I64 0) O (G6 (a5 (Gq ?_)))))))))))))))
 obtain⟨a7,m,n,k,h⟩:=Je h
 refine Hm (fun d (c:(List Int))=>each a7 m (List.drop d af) d c=some r) (fun d c=>[(1,E1 bf),(5,OW 1021 1 I64 c),(8,E1 af),(9,Em af.length),(10,Em d)]) (fun d c=>[(1021,.spare 3 1 c.length c.length)]) (fun d=>af.length - d) 0 [] h ⟨(.sm O O),⟨⟨_,rfl,.same⟩,ø⟩,rfl⟩ ?_
 clear h
 intro d c i b0 a8
 refine Jr fun o=>(JLh (BL (decide ((d:Int) < (af.length:Int)))) (Jn O O O) O (G6 (o (Js fun p=>Gp O (fun hb=>?_) (fun hb=>?_)))))
 ·
  have j:=Jz hb
  obtain⟨a,a9,s,t,h⟩:=Hv i j
  replace h:=Zm n h
  refine Gk (p ?_)
  obtain⟨v,l,h⟩:=Rc h
  refine Qk (fun e:(List Int)=>v e=some r) (fun e=>[(1,E1 bf),(5,OW 1021 1 I64 e),(8,E1 af),(9,Em af.length),(10,Em d)]) (fun e=>[(1021,.spare 3 1 e.length e.length)]) (fun Kj24 ej24=>?_) ?_
  ·
   refine Gq (Jr fun w=>(JLh (Eh a) (Hb (f:=G1.av) (xs:=af) (y:=a) O O O H5 s O) O (JLh (.agg (G1.cs a)) (Gm Qh O O O) O (JLh (.ptr 1022 0) (Hj 1022 4 Q3 O O) O (Hq (u:=.junk) (H7 (u:=.agg (G1.cs a)) (ds:=[I64 a.Box,I64 a.Slot.G3,I64 a.Slot.Tier,U8 a.Slot.Half]) Ru O O O O O O O O) (G6 (w (fzQ [(1,E1 bf),(5,OW 1021 1 I64 c),(7,Eh a),(8,E1 af),(9,Em af.length),(10,Em d)] [(1021,.spare 3 1 c.length c.length)] 1022 rfl rfl rfl ⟨⟨_,rfl,.same⟩,ø⟩ rfl ?_))))))))
   refine Jr fun x=>(JLm (E1 bf) O (JLh (.fn 38 [.dptr (G1.cs a)]) (Q4 (cs:=[.dptr (G1.cs a)]) O O) O ?_))
   obtain⟨g,z,h⟩:=Gd h
   refine JLh (BL g) (Gu O (Zj bf (fun z0=>Zu z0 a) 38 [.dptr (G1.cs a)] Y30 O (fun z0 q hq=>H7e z0 a q hq) g z) Jb7 ⟨O,O,O,O,ø⟩) O (JLh (BL (!g)) (Yc (b:=g) O O) O (G6 (x (JCc O h (fun h hb=>?_) (fun h hb=>?_)))))
   ·
    refine G2 (JLm (OW 1021 1 I64 c) O (JLh (Eh a) (Ga Ja O O O) O (JLh (I64 a.Box) (Gg Gb O O O) O (JLh (E2 [a.Box]) (He (xs:=[I64 a.Box]) O ⟨O,O,ø⟩ H3 Y6 O O O O) O ?_))))
    obtain⟨a0,h⟩:=Jf h
    refine JLh (OW 1021 1 I64 (c++[a.Box])) (Yo (f:=I64) (xs:=c) (ys:=[a.Box]) O O O O H3 G94 a0 (fun _=>O) (.inl O) O) O (JLm (OW 1021 1 I64 (c++[a.Box])) O (G6 (ej24 _ _ (c++[a.Box]) h ⟨(.sm O O),⟨⟨_,rfl,.same⟩,ø⟩,rfl⟩)))
   ·
    refine Gk (ej24 _ _ c h ⟨(.sm O O),⟨⟨_,rfl,.same⟩,ø⟩,rfl⟩)
  ·intro e h
   replace h:=app1 l h
   refine G2 (JLh (I64 ((d+1:Nat):Int)) (J3 (Hp j a6) O O O) O (JLm (I64 ((d+1:Nat):Int)) O (G6 (a8 _ _ (d+1) e (app1 t h) (by omega) ⟨(.sm O O),⟨⟨_,rfl,.same⟩,ø⟩,rfl⟩))))
 ·
  have h:=app1 k (Hw i (Hf hb))
  refine Hr (a4 (Jr fun a1=>(JLm (OW 1021 1 I64 c) O (JLm (OW 1021 1 I64 c) O (G6 (a1 (Gs (fin1l (fun r:(List Int)=>(E2 r:AV)) h))))))))

def G0e (m:Ge) (l:List Move):Option (Int×Int×Ge):=
 each (fun d e (b:Ge) c=>
  bnd (G4f b d) fun a=>
  bif decide (a.1≠0) then
  (some ((e:Int),a.1,a.2))
  else
  (c a.2))
 (fun(b:Ge)=>
  some ((l.length:Int),0,b)) l 0 m
abbrev Kk (a:Ge):List AV:=[E3 a.ship.Columns,E7 a.ship.Covers,I64 a.ship.Light.Kilos,I64 a.ship.Light.X,I64 a.ship.Light.Y,I64 a.ship.Light.Z,E4 a.ship.Rows,E5 a.ship.Frames,E6 a.ship.Tanks,I64 a.ship.G8.Tolerance,I64 a.ship.G8.Trim,I64 a.ship.G8.List_,I64 a.ship.G8.Stability,.mp 7001,.mp 7002,.mp 7003,I64 a.lifts]
theorem H41 (m:Ge) (l:List Move) (r:Int×Int×Ge) (h:G0e m l=some r):Hx En 17 [.ptr 7000 0,E9 l] [(7000,.box 94 [E3 m.ship.Columns,E7 m.ship.Covers,I64 m.ship.Light.Kilos,I64 m.ship.Light.X,I64 m.ship.Light.Y,I64 m.ship.Light.Z,E4 m.ship.Rows,E5 m.ship.Frames,E6 m.ship.Tanks,I64 m.ship.G8.Tolerance,I64 m.ship.G8.Trim,I64 m.ship.G8.List_,I64 m.ship.G8.Stability,.mp 7001,.mp 7002,.mp 7003,I64 m.lifts]),(7001,TP 90 Slot.kv Box.av m.on),(7002,TP 91 Ks Box.av m.quay),(7003,TP 92 Ks I64 m.open_)] (fun av L'=>av=.tup [I64 r.1,I64 r.2.1]∧L'=[(7000,.box 94 [E3 r.2.2.ship.Columns,E7 r.2.2.ship.Covers,I64 r.2.2.ship.Light.Kilos,I64 r.2.2.ship.Light.X,I64 r.2.2.ship.Light.Y,I64 r.2.2.ship.Light.Z,E4 r.2.2.ship.Rows,E5 r.2.2.ship.Frames,E6 r.2.2.ship.Tanks,I64 r.2.2.ship.G8.Tolerance,I64 r.2.2.ship.G8.Trim,I64 r.2.2.ship.G8.List_,I64 r.2.2.ship.G8.Stability,.mp 7001,.mp 7002,.mp 7003,I64 r.2.2.lifts]),(7001,TP 90 Slot.kv Box.av r.2.2.on),(7002,TP 91 Ks Box.av r.2.2.quay),(7003,TP 92 Ks I64 r.2.2.open_)]):=by
 unfold G0e at h
 refine Ji [7000,7001,7002,7003] [.tmp 4,.tmp 5] Tryz.func17 O O (G0c O) (Jr fun a3=>(JLm (I64 0) O (JLm (I64 0) O (G6 (a3 (Js fun a4=>Jr fun a5=>(JLm (.ptr 7000 0) O (JLh (BL true) (G54 (args:=[.dptr (Ge.cs m)]) O (Rz m true O) G7c ⟨.ptrL O (dnQ 13 O O ⟨.mp O,.mp O,.mp O,.data O O,ø⟩),ø⟩ O) O (JLh (BL false) (Yc (b:=true) O O) O (G6 (a5 (G3b O (Gk (a4 (Js fun a6=>Jr fun a7=>(JLm (E9 l) O (JLl Jp O O O fun k=>(JLm (I64 0) O (G6 (a7 (Gq ?_)))))))))))))))))))))
 obtain⟨a8,n,o,j,h⟩:=Je h
 refine Hm (fun d (c:Ge)=>each a8 n (List.drop d l) d c=some r) (fun d c=>[(0,.ptr 7000 0),(1,E9 l),(12,E9 l),(13,Em l.length),(14,Em d)]) (fun d c=>[(7000,.box 94 (Kk c)),(7001,TP 90 Slot.kv Box.av c.on),(7002,TP 91 Ks Box.av c.quay),(7003,TP 92 Ks I64 c.open_)]) (fun d=>l.length - d) 0 m h ⟨(.sm O O),⟨fbQ O (.sm O O),fmQ O,fmQ O,fmQ O,ø⟩,rfl⟩ ?_
 clear h
 intro d c g b2 a9
 refine Jr fun p=>(JLh (BL (decide ((d:Int) < (l.length:Int)))) (Jn O O O) O (G6 (p (Js fun q=>Gp O (fun hb=>?_) (fun hb=>?_)))))
 ·
  have i:=Jz hb
  obtain⟨e,b0,s,t,h⟩:=Hv g i
  replace h:=Zm o h
  refine Gk (q (Js fun v=>Gq (Jr fun w=>(JLm (Em d) O (JLh (Ef e) (Hb (f:=Move.av) (xs:=l) (y:=e) O O O Jp s O) O (JLh (.agg (Move.cs e)) (Gm G65 O O O) O (JLh (.ptr 1025 0) (Hj 1025 6 H57 O O) O (JLm (Em d) O (Hq (u:=.junk) (H7 (u:=.agg (Move.cs e)) (ds:=[U8 e.Kind,I64 e.Box,I64 e.Slot.G3,I64 e.Slot.Tier,U8 e.Slot.Half,I64 e.G9]) H8b O O O O O O O O) (G6 (w ?_)))))))))))
  refine fzQ [(0,.ptr 7000 0),(1,E9 l),(6,Em d),(7,Ef e),(12,E9 l),(13,Em l.length),(14,Em d)] [(7000,.box 94 (Kk c)),(7001,TP 90 Slot.kv Box.av c.on),(7002,TP 91 Ks Box.av c.quay),(7003,TP 92 Ks I64 c.open_)] 1025 rfl rfl rfl ⟨⟨_,rfl,.boxEq rfl rfl⟩,fmQ O,fmQ O,fmQ O,ø⟩ rfl ?_
  refine Jr fun x=>(JLm (.ptr 7000 0) O (JLh (.agg (Move.cs e)) (Gm G65 O O O) O ?_))
  obtain⟨a,z,h⟩:=Gd h
  refine JLh (I64 a.1) (Y1 (args:=[.ptr 7000 0,.agg (Move.cs e)]) (L0:=[(7000,.box 94 (Kk c)),(7001,TP 90 Slot.kv Box.av c.on),(7002,TP 91 Ks Box.av c.quay),(7003,TP 92 Ks I64 c.open_)]) (Lr:=[(7000,.box 94 [E3 a.2.ship.Columns,E7 a.2.ship.Covers,I64 a.2.ship.Light.Kilos,I64 a.2.ship.Light.X,I64 a.2.ship.Light.Y,I64 a.2.ship.Light.Z,E4 a.2.ship.Rows,E5 a.2.ship.Frames,E6 a.2.ship.Tanks,I64 a.2.ship.G8.Tolerance,I64 a.2.ship.G8.Trim,I64 a.2.ship.G8.List_,I64 a.2.ship.G8.Stability,.mp 7001,.mp 7002,.mp 7003,I64 a.2.lifts]),(7001,TP 90 Slot.kv Box.av a.2.on),(7002,TP 91 Ks Box.av a.2.quay),(7003,TP 92 Ks I64 a.2.open_)]) O (Had c e a z) Jb8 ⟨.inl O,O,.inl O,O,ø⟩ ⟨O,O,O,O,ø⟩ O O O) O (JLm (I64 a.1) O (G6 (x ?_)))
  refine Jr fun a0=>(JLm (I64 a.1) O (JLh (BL (decide (a.1≠0))) (G8e O O O) O (G6 (a0 (JCc O h (fun h hb=>?_) (fun h hb=>?_))))))
  ·
   refine Jr fun a1=>(JLm (Em d) O (JLm (I64 a.1) O (JLm (Em d) O (JLm (I64 a.1) O (G6 (a1 (Gs ?_)))))))
   obtain rfl:=M8 h
   exact⟨[Em d,I64 a.1],[(7000,.box 94 [E3 a.2.ship.Columns,E7 a.2.ship.Covers,I64 a.2.ship.Light.Kilos,I64 a.2.ship.Light.X,I64 a.2.ship.Light.Y,I64 a.2.ship.Light.Z,E4 a.2.ship.Rows,E5 a.2.ship.Frames,E6 a.2.ship.Tanks,I64 a.2.ship.G8.Tolerance,I64 a.2.ship.G8.Trim,I64 a.2.ship.G8.List_,I64 a.2.ship.G8.Stability,.mp 7001,.mp 7002,.mp 7003,I64 a.2.lifts]),(7001,TP 90 Slot.kv Box.av a.2.on),(7002,TP 91 Ks Box.av a.2.quay),(7003,TP 92 Ks I64 a.2.open_)],⟨fbQ O (.sm O O),fmQ O,fmQ O,fmQ O,ø⟩,rfl,⟨⟨_,rfl,.conv (.same rfl)⟩,⟨_,rfl,.conv (.same rfl)⟩,ø⟩,rfl,rfl⟩
  ·
   refine Gk (v (G2 (JLh (I64 ((d+1:Nat):Int)) (J3 (Hp i k) O O O) O (JLm (I64 ((d+1:Nat):Int)) O (G6 (a9 _ _ (d+1) a.2 (app1 t h) (by omega) ⟨(.sm O O),⟨fbQ O (.sm O O),fmQ O,fmQ O,fmQ O,ø⟩,rfl⟩))))))
 ·
  have h:=app1 j (Hw g (Hf hb))
  refine Hr (a6 (Jr fun a2=>(JLm (E9 l) O (JLl Jp O O O fun b1=>(JLm (Em l.length) O (JLm (I64 0) O (G6 (a2 (Gs ?_)))))))))
  obtain rfl:=M8 h
  exact⟨[Em l.length,I64 0],[(7000,.box 94 (Kk c)),(7001,TP 90 Slot.kv Box.av c.on),(7002,TP 91 Ks Box.av c.quay),(7003,TP 92 Ks I64 c.open_)],⟨fbQ O (.sm O O),fmQ O,fmQ O,fmQ O,ø⟩,rfl,⟨⟨_,rfl,.conv (.same rfl)⟩,⟨_,rfl,.conv (.same rfl)⟩,ø⟩,rfl,rfl⟩

def G5c :Option Gj:=
 some (Gj.mk ([(G3.mk 0 0 false 2 0 0 0 0 [] 0 0 0),(G3.mk 0 1 false 2 0 0 0 0 [] 0 0 0),(G3.mk 0 0 true 3 0 0 0 0 [] 0 0 0),(G3.mk 0 1 true 3 0 0 0 0 [] 0 0 0),(G3.mk 1 1 true 4 0 0 0 0 [] 0 0 0)]) ([(G9.mk 0 [0,1])]) (Light.mk 0 0 0 0) [] [] [] (G8.mk 0 0 0 0))
abbrev Km:List AV:=[E3 ([]:List G3),E7 ([]:List G9),I64 0,I64 0,I64 0,I64 0,E4 ([]:List Row),E5 ([]:List Frame),E6 ([]:List H0),I64 0,I64 0,I64 0,I64 0]
theorem Ha9  (r:Gj) (h:G5c =some r):Pure En 52 [] (·=.agg (Gj.cs r)):=by
 unfold G5c at h
 refine Gz [.cell 0 36] Tryz.func52 O O (Jr fun a=>(JLh (.ptr 1094 0) (G10 1094 Km [.slice none 0 0,.slice none 0 0,E0,E0,E0,E0,.slice none 0 0,.slice none 0 0,.slice none 0 0,E0,E0,E0,E0] Ge9 ⟨.inr ⟨_,O,O⟩,.inr ⟨_,O,O⟩,.inl O,.inl O,.inl O,.inl O,.inr ⟨_,O,O⟩,.inr ⟨_,O,O⟩,.inr ⟨_,O,O⟩,.inl O,.inl O,.inl O,.inl O,ø⟩ O O) O (G6 (a ?_))))
 refine Jr fun b=>(JLh (.agg [I64 0,I64 0,BL false,I64 2,I64 0,I64 0,I64 0,I64 0,E2 ([]:List Int),I64 0,I64 0,I64 0]) (Hi (cs:=[I64 0,I64 0,BL false,I64 2,I64 0,I64 0,I64 0,I64 0,E2 ([]:List Int),I64 0,I64 0,I64 0]) [(0,1),(1,1),(2,1),(3,1),(4,1),(5,1),(6,1),(7,1),(8,1),(9,1),(10,1),(11,1)] [I64 0,I64 0,BL false,I64 0,I64 0,I64 0,I64 0,I64 0,E2 ([]:List Int),I64 0,I64 0,I64 0] [E0,E0,.bool false,E0,E0,E0,E0,E0,.slice none 0 0,E0,E0,E0] G7b Ge7 ⟨.inl O,.inl O,.inl O,.inl O,.inl O,.inl O,.inl O,.inl O,.inr ⟨_,O,O⟩,.inl O,.inl O,.inl O,ø⟩ O O) O (JLh (.agg [I64 0,I64 1,BL false,I64 2,I64 0,I64 0,I64 0,I64 0,E2 ([]:List Int),I64 0,I64 0,I64 0]) (Hi (cs:=[I64 0,I64 1,BL false,I64 2,I64 0,I64 0,I64 0,I64 0,E2 ([]:List Int),I64 0,I64 0,I64 0]) [(0,1),(1,1),(2,1),(3,1),(4,1),(5,1),(6,1),(7,1),(8,1),(9,1),(10,1),(11,1)] [I64 0,I64 0,BL false,I64 0,I64 0,I64 0,I64 0,I64 0,E2 ([]:List Int),I64 0,I64 0,I64 0] [E0,E0,.bool false,E0,E0,E0,E0,E0,.slice none 0 0,E0,E0,E0] G7b Ge7 ⟨.inl O,.inl O,.inl O,.inl O,.inl O,.inl O,.inl O,.inl O,.inr ⟨_,O,O⟩,.inl O,.inl O,.inl O,ø⟩ O O) O (JLh (.agg [I64 0,I64 0,BL true,I64 3,I64 0,I64 0,I64 0,I64 0,E2 ([]:List Int),I64 0,I64 0,I64 0]) (Hi (cs:=[I64 0,I64 0,BL true,I64 3,I64 0,I64 0,I64 0,I64 0,E2 ([]:List Int),I64 0,I64 0,I64 0]) [(0,1),(1,1),(2,1),(3,1),(4,1),(5,1),(6,1),(7,1),(8,1),(9,1),(10,1),(11,1)] [I64 0,I64 0,BL false,I64 0,I64 0,I64 0,I64 0,I64 0,E2 ([]:List Int),I64 0,I64 0,I64 0] [E0,E0,.bool false,E0,E0,E0,E0,E0,.slice none 0 0,E0,E0,E0] G7b Ge7 ⟨.inl O,.inl O,.inl O,.inl O,.inl O,.inl O,.inl O,.inl O,.inr ⟨_,O,O⟩,.inl O,.inl O,.inl O,ø⟩ O O) O (JLh (.agg [I64 0,I64 1,BL true,I64 3,I64 0,I64 0,I64 0,I64 0,E2 ([]:List Int),I64 0,I64 0,I64 0]) (Hi (cs:=[I64 0,I64 1,BL true,I64 3,I64 0,I64 0,I64 0,I64 0,E2 ([]:List Int),I64 0,I64 0,I64 0]) [(0,1),(1,1),(2,1),(3,1),(4,1),(5,1),(6,1),(7,1),(8,1),(9,1),(10,1),(11,1)] [I64 0,I64 0,BL false,I64 0,I64 0,I64 0,I64 0,I64 0,E2 ([]:List Int),I64 0,I64 0,I64 0] [E0,E0,.bool false,E0,E0,E0,E0,E0,.slice none 0 0,E0,E0,E0] G7b Ge7 ⟨.inl O,.inl O,.inl O,.inl O,.inl O,.inl O,.inl O,.inl O,.inr ⟨_,O,O⟩,.inl O,.inl O,.inl O,ø⟩ O O) O (JLh (.agg [I64 1,I64 1,BL true,I64 4,I64 0,I64 0,I64 0,I64 0,E2 ([]:List Int),I64 0,I64 0,I64 0]) (Hi (cs:=[I64 1,I64 1,BL true,I64 4,I64 0,I64 0,I64 0,I64 0,E2 ([]:List Int),I64 0,I64 0,I64 0]) [(0,1),(1,1),(2,1),(3,1),(4,1),(5,1),(6,1),(7,1),(8,1),(9,1),(10,1),(11,1)] [I64 0,I64 0,BL false,I64 0,I64 0,I64 0,I64 0,I64 0,E2 ([]:List Int),I64 0,I64 0,I64 0] [E0,E0,.bool false,E0,E0,E0,E0,E0,.slice none 0 0,E0,E0,E0] G7b Ge7 ⟨.inl O,.inl O,.inl O,.inl O,.inl O,.inl O,.inl O,.inl O,.inr ⟨_,O,O⟩,.inl O,.inl O,.inl O,ø⟩ O O) O (JLh (E3 ([(G3.mk 0 0 false 2 0 0 0 0 [] 0 0 0),(G3.mk 0 1 false 2 0 0 0 0 [] 0 0 0),(G3.mk 0 0 true 3 0 0 0 0 [] 0 0 0),(G3.mk 0 1 true 3 0 0 0 0 [] 0 0 0),(G3.mk 1 1 true 4 0 0 0 0 [] 0 0 0)])) (He (xs:=[.agg [I64 0,I64 0,BL false,I64 2,I64 0,I64 0,I64 0,I64 0,E2 ([]:List Int),I64 0,I64 0,I64 0],.agg [I64 0,I64 1,BL false,I64 2,I64 0,I64 0,I64 0,I64 0,E2 ([]:List Int),I64 0,I64 0,I64 0],.agg [I64 0,I64 0,BL true,I64 3,I64 0,I64 0,I64 0,I64 0,E2 ([]:List Int),I64 0,I64 0,I64 0],.agg [I64 0,I64 1,BL true,I64 3,I64 0,I64 0,I64 0,I64 0,E2 ([]:List Int),I64 0,I64 0,I64 0],.agg [I64 1,I64 1,BL true,I64 4,I64 0,I64 0,I64 0,I64 0,E2 ([]:List Int),I64 0,I64 0,I64 0]]) O ⟨O,O,O,O,O,O,O,O,O,O,ø⟩ Hz G42 O O O O) O (JLh (E2 [0,1]) (He (xs:=[I64 0,I64 1]) O ⟨O,O,O,O,ø⟩ H3 Y6 O O O O) O (JLh (.agg [I64 0,E2 [0,1]]) (Hi (cs:=[I64 0,E2 [0,1]]) [(0,1),(1,1)] [I64 0,E2 ([]:List Int)] [E0,.slice none 0 0] Hd9 J46 ⟨.inl O,.inr ⟨_,O,O⟩,ø⟩ O O) O (JLh (E7 ([(G9.mk 0 [0,1])])) (He (xs:=[.agg [I64 0,E2 [0,1]]]) O ⟨O,O,ø⟩ Qr H07 O O O O) O (JLh (.agg [E3 ([(G3.mk 0 0 false 2 0 0 0 0 [] 0 0 0),(G3.mk 0 1 false 2 0 0 0 0 [] 0 0 0),(G3.mk 0 0 true 3 0 0 0 0 [] 0 0 0),(G3.mk 0 1 true 3 0 0 0 0 [] 0 0 0),(G3.mk 1 1 true 4 0 0 0 0 [] 0 0 0)]),E7 ([(G9.mk 0 [0,1])]),I64 0,I64 0,I64 0,I64 0,E4 ([]:List Row),E5 ([]:List Frame),E6 ([]:List H0),I64 0,I64 0,I64 0,I64 0]) (Hi (cs:=[E3 ([(G3.mk 0 0 false 2 0 0 0 0 [] 0 0 0),(G3.mk 0 1 false 2 0 0 0 0 [] 0 0 0),(G3.mk 0 0 true 3 0 0 0 0 [] 0 0 0),(G3.mk 0 1 true 3 0 0 0 0 [] 0 0 0),(G3.mk 1 1 true 4 0 0 0 0 [] 0 0 0)]),E7 ([(G9.mk 0 [0,1])]),I64 0,I64 0,I64 0,I64 0,E4 ([]:List Row),E5 ([]:List Frame),E6 ([]:List H0),I64 0,I64 0,I64 0,I64 0]) [(0,1),(1,1),(2,4),(6,1),(7,1),(8,1),(9,4)] Km [.slice none 0 0,.slice none 0 0,E0,E0,E0,E0,.slice none 0 0,.slice none 0 0,.slice none 0 0,E0,E0,E0,E0] Jd8 Ge9 ⟨.inr ⟨_,O,O⟩,.inr ⟨_,O,O⟩,.inl O,.inl O,.inl O,.inl O,.inr ⟨_,O,O⟩,.inr ⟨_,O,O⟩,.inr ⟨_,O,O⟩,.inl O,.inl O,.inl O,.inl O,ø⟩ O O) O (Hq (u:=.junk) (H7 (u:=.agg [E3 ([(G3.mk 0 0 false 2 0 0 0 0 [] 0 0 0),(G3.mk 0 1 false 2 0 0 0 0 [] 0 0 0),(G3.mk 0 0 true 3 0 0 0 0 [] 0 0 0),(G3.mk 0 1 true 3 0 0 0 0 [] 0 0 0),(G3.mk 1 1 true 4 0 0 0 0 [] 0 0 0)]),E7 ([(G9.mk 0 [0,1])]),I64 0,I64 0,I64 0,I64 0,E4 ([]:List Row),E5 ([]:List Frame),E6 ([]:List H0),I64 0,I64 0,I64 0,I64 0]) (ds:=[E3 ([(G3.mk 0 0 false 2 0 0 0 0 [] 0 0 0),(G3.mk 0 1 false 2 0 0 0 0 [] 0 0 0),(G3.mk 0 0 true 3 0 0 0 0 [] 0 0 0),(G3.mk 0 1 true 3 0 0 0 0 [] 0 0 0),(G3.mk 1 1 true 4 0 0 0 0 [] 0 0 0)]),E7 ([(G9.mk 0 [0,1])]),I64 0,I64 0,I64 0,I64 0,E4 ([]:List Row),E5 ([]:List Frame),E6 ([]:List H0),I64 0,I64 0,I64 0,I64 0]) G57 O O O O O O O O) (G6 (b ?_)))))))))))))
 refine Gs (⟨[.agg [E3 ([(G3.mk 0 0 false 2 0 0 0 0 [] 0 0 0),(G3.mk 0 1 false 2 0 0 0 0 [] 0 0 0),(G3.mk 0 0 true 3 0 0 0 0 [] 0 0 0),(G3.mk 0 1 true 3 0 0 0 0 [] 0 0 0),(G3.mk 1 1 true 4 0 0 0 0 [] 0 0 0)]),E7 ([(G9.mk 0 [0,1])]),I64 0,I64 0,I64 0,I64 0,E4 ([]:List Row),E5 ([]:List Frame),E6 ([]:List H0),I64 0,I64 0,I64 0,I64 0]],[],ø,O,⟨⟨_,⟨_,_,_,_,O,O,O,.inl ⟨J8,O⟩⟩,.conv (.same O)⟩,ø⟩,O,congrArg (fun r:Gj=>(.agg (Gj.cs r):AV)) (M8 h)⟩)

def Q2 (column:Int) (tier:Int):Option Slot:=
 some (Slot.mk column tier 0)
theorem Q7 (column:Int) (tier:Int) (r:Slot) (h:Q2 column tier=some r):Pure En 27 [I64 column,I64 tier] (·=.agg [I64 r.G3,I64 r.Tier,U8 r.Half]):=by
 unfold Q2 at h
 refine Gz [.cell 4 57] Tryz.func27 O O (Jr fun a=>(JLh (.ptr 1036 0) (G10 1036 [I64 0,I64 0,U8 0] [E0,E0,.int .u8 0] Ge8 (zzQ O) O O) O (G6 (a (Jr fun b=>(JLm (I64 column) O (JLm (I64 tier) O (JLh (.agg [I64 column,I64 tier,U8 0]) (Hi (cs:=[I64 column,I64 tier,U8 0]) [(0,1),(1,1),(2,1)] [I64 0,I64 0,U8 0] [E0,E0,.int .u8 0] H0b Ge8 (zzQ O) O O) O (Hq (u:=.junk) (H7 (u:=.agg [I64 column,I64 tier,U8 0]) (ds:=[I64 column,I64 tier,U8 0]) Yq O O O O O O O O) (G6 (b (Gs ?_))))))))))))
 exact⟨[.agg [I64 column,I64 tier,U8 0]],[],ø,O,⟨⟨_,⟨_,_,_,_,O,O,O,.inl ⟨J4,O⟩⟩,.conv (.same O)⟩,ø⟩,O,congrArg (fun r:Slot=>(.agg [I64 r.G3,I64 r.Tier,U8 r.Half]:AV)) (M8 h)⟩

def G5b :Option (Gj×(List Box)×(List G1)):=
 bnd (G5c) fun a=>
 bnd (Q2 0 0) fun b=>
 bnd (Q2 3 0) fun c=>
 some (a,[(Box.mk 1 ByteArray.empty 40 false 0 0 0 0 false),(Box.mk 2 ByteArray.empty 40 false 0 0 0 0 false),(Box.mk 3 ByteArray.empty 40 false 0 0 0 0 false)],[(G1.mk 1 b),(G1.mk 2 c)])
theorem Ha8  (r:Gj×(List Box)×(List G1)) (h:G5b =some r):Pure En 26 [] (·=.tup [.agg (Gj.cs r.1),E8 r.2.1,E1 r.2.2]):=by
 unfold G5b at h
 refine Gz [.cell 0 36,.tmp 1,.tmp 2] Tryz.func26 O O (Jr fun d=>(JLh (.ptr 1035 0) (G10 1035 [E3 ([]:List G3),E7 ([]:List G9),I64 0,I64 0,I64 0,I64 0,E4 ([]:List Row),E5 ([]:List Frame),E6 ([]:List H0),I64 0,I64 0,I64 0,I64 0] [.slice none 0 0,.slice none 0 0,E0,E0,E0,E0,.slice none 0 0,.slice none 0 0,.slice none 0 0,E0,E0,E0,E0] Ge9 ⟨.inr ⟨_,O,O⟩,.inr ⟨_,O,O⟩,.inl O,.inl O,.inl O,.inl O,.inr ⟨_,O,O⟩,.inr ⟨_,O,O⟩,.inr ⟨_,O,O⟩,.inl O,.inl O,.inl O,.inl O,ø⟩ O O) O (JLh (E8 ([]:List Box)) (Jd 9 O O) O (JLh (E1 ([]:List G1)) (Jd 4 O O) O (G6 (d (Jr fun e=>?_)))))))
 obtain⟨c,f,h⟩:=Gd h
 refine JLh (.agg (Gj.cs c)) (Gu O (Ha9  c f) Y2a ø) O (JLh (.agg [I64 1,ST M0,U8 40,BL false,I64 0,I64 0,I64 0,U8 0,BL false]) (Hi (cs:=[I64 1,ST M0,U8 40,BL false,I64 0,I64 0,I64 0,U8 0,BL false]) [(0,1),(1,1),(2,1),(3,1),(4,1),(5,1),(6,1),(7,1),(8,1)] [I64 0,ST M0,U8 0,BL false,I64 0,I64 0,I64 0,U8 0,BL false] [E0,.string ByteArray.empty,.int .u8 0,.bool false,E0,E0,E0,.int .u8 0,.bool false] G90 G75 (zzQ O) O O) O (JLh (.agg [I64 2,ST M0,U8 40,BL false,I64 0,I64 0,I64 0,U8 0,BL false]) (Hi (cs:=[I64 2,ST M0,U8 40,BL false,I64 0,I64 0,I64 0,U8 0,BL false]) [(0,1),(1,1),(2,1),(3,1),(4,1),(5,1),(6,1),(7,1),(8,1)] [I64 0,ST M0,U8 0,BL false,I64 0,I64 0,I64 0,U8 0,BL false] [E0,.string ByteArray.empty,.int .u8 0,.bool false,E0,E0,E0,.int .u8 0,.bool false] G90 G75 (zzQ O) O O) O (JLh (.agg [I64 3,ST M0,U8 40,BL false,I64 0,I64 0,I64 0,U8 0,BL false]) (Hi (cs:=[I64 3,ST M0,U8 40,BL false,I64 0,I64 0,I64 0,U8 0,BL false]) [(0,1),(1,1),(2,1),(3,1),(4,1),(5,1),(6,1),(7,1),(8,1)] [I64 0,ST M0,U8 0,BL false,I64 0,I64 0,I64 0,U8 0,BL false] [E0,.string ByteArray.empty,.int .u8 0,.bool false,E0,E0,E0,.int .u8 0,.bool false] G90 G75 (zzQ O) O O) O (JLh (E8 [(Box.mk 1 ByteArray.empty 40 false 0 0 0 0 false),(Box.mk 2 ByteArray.empty 40 false 0 0 0 0 false),(Box.mk 3 ByteArray.empty 40 false 0 0 0 0 false)]) (He (xs:=[.agg [I64 1,ST M0,U8 40,BL false,I64 0,I64 0,I64 0,U8 0,BL false],.agg [I64 2,ST M0,U8 40,BL false,I64 0,I64 0,I64 0,U8 0,BL false],.agg [I64 3,ST M0,U8 40,BL false,I64 0,I64 0,I64 0,U8 0,BL false]]) O ⟨O,O,O,O,O,O,ø⟩ Y7 R0 O O O O) O ?_))))
 obtain⟨a,g,h⟩:=Gd h
 refine JLh (.agg [I64 a.G3,I64 a.Tier,U8 a.Half]) (Gu O (Q7 0 0 a g) G36 ⟨O,O,O,O,ø⟩) O (JLh (.agg [I64 1,I64 a.G3,I64 a.Tier,U8 a.Half]) (Hi (cs:=[I64 1,I64 a.G3,I64 a.Tier,U8 a.Half]) [(0,1),(1,3)] [I64 0,I64 0,I64 0,U8 0] [E0,E0,E0,.int .u8 0] G44 Ga5 (zzQ O) O O) O ?_)
 obtain⟨b,i,h⟩:=Gd h
 refine JLh (.agg [I64 b.G3,I64 b.Tier,U8 b.Half]) (Gu O (Q7 3 0 b i) G36 ⟨O,O,O,O,ø⟩) O (JLh (.agg [I64 2,I64 b.G3,I64 b.Tier,U8 b.Half]) (Hi (cs:=[I64 2,I64 b.G3,I64 b.Tier,U8 b.Half]) [(0,1),(1,3)] [I64 0,I64 0,I64 0,U8 0] [E0,E0,E0,.int .u8 0] G44 Ga5 (zzQ O) O O) O (JLh (E1 [(G1.mk 1 a),(G1.mk 2 b)]) (He (xs:=[.agg [I64 1,I64 a.G3,I64 a.Tier,U8 a.Half],.agg [I64 2,I64 b.G3,I64 b.Tier,U8 b.Half]]) O ⟨O,O,O,O,ø⟩ H5 Q3 O O O O) O (Hq (u:=.junk) (H7 (u:=.agg (Gj.cs c)) (ds:=(Gj.cs c)) G57 O O O O O O O O) (JLm (E8 [(Box.mk 1 ByteArray.empty 40 false 0 0 0 0 false),(Box.mk 2 ByteArray.empty 40 false 0 0 0 0 false),(Box.mk 3 ByteArray.empty 40 false 0 0 0 0 false)]) O (JLm (E1 [(G1.mk 1 a),(G1.mk 2 b)]) O (G6 (e ?_)))))))
 refine Gs (⟨[.agg (Gj.cs c),E8 [(Box.mk 1 ByteArray.empty 40 false 0 0 0 0 false),(Box.mk 2 ByteArray.empty 40 false 0 0 0 0 false),(Box.mk 3 ByteArray.empty 40 false 0 0 0 0 false)],E1 [(G1.mk 1 a),(G1.mk 2 b)]],[],ø,O,⟨⟨_,⟨_,_,_,_,O,O,O,.inl ⟨J8,O⟩⟩,.conv (.same O)⟩,⟨_,O,.conv (.same O)⟩,⟨_,O,.conv (.same O)⟩,ø⟩,O,congrArg (fun r:Gj×(List Box)×(List G1)=>(.tup [.agg (Gj.cs r.1),E8 r.2.1,E1 r.2.2]:AV)) (M8 h)⟩)

def Y2 (a:List Int) (b:List Int):Option Bool:=
 bif decide ((a.length:Int)≠(b.length:Int)) then
 (some false)
 else
 (each (fun d e (f:Unit) c=>
   Qm b (e:Int) fun g=>
   bif decide (d≠g) then
   (some false)
   else
   (c ()))
  (fun(f:Unit)=>
   some true) a 0 ())
theorem Gcd (a:List Int) (b:List Int) (r:Bool) (h:Y2 a b=some r):Pure En 21 [E2 a,E2 b] (·=BL r):=by
 unfold Y2 at h
 refine Gz [.tmp 4] Tryz.func21 O O (Jr fun a0=>(JLm (BL false) O (G6 (a0 (Js fun a1=>Jr fun a2=>(JLm (E2 a) O (JLl H3 O O O fun a9=>(JLm (E2 b) O (JLl H3 O O O fun b0=>(JLh (BL (decide ((a.length:Int)≠(b.length:Int)))) (G8e O O O) O (G6 (a2 (JCc O h (fun h hb=>?_) (fun h hb=>?_))))))))))))))
 ·
  refine Jr fun a3=>(JLm (BL false) O (G6 (a3 (Gs (fin1 BL h)))))
 ·
  refine Gk (a1 (Js fun a4=>Jr fun a5=>(JLm (I64 0) O (G6 (a5 (Gq ?_))))))
  obtain⟨a6,l,m,k,h⟩:=Je h
  refine Hm (fun c (d:Unit)=>each a6 l (List.drop c a) c d=some r) (fun c d=>[(0,E2 a),(1,E2 b),(5,Em c)]) (fun c d=>[]) (fun c=>a.length - c) 0 () h ⟨(.sm O O),ø,O⟩ ?_
  clear h
  intro c d i b1 a7
  refine Js fun n=>Jr fun o=>(JLm (Em c) O (JLm (E2 a) O (JLl H3 O O O fun p=>(JLh (BL (decide ((c:Int) < (a.length:Int)))) (Jn O O O) O (G6 (o (Gp O (fun hb=>?_) (fun hb=>?_))))))))
  ·
   have j:=Jz hb
   obtain⟨e,a8,q,s,h⟩:=Hv i j
   replace h:=Zm m h
   refine Gk (n (Js fun t=>Gq (Js fun u=>?_)))
   obtain⟨b2,g,v,w,h⟩:=Rw h
   refine JC_d0 J1 (by kernel_rfl) (Dq (E2 a) (G5 O O) O (Dq (Em c) (G5 O O) O (Dq (.dptr [I64 e]) (Hb (f:=I64) (xs:=a) (y:=e) O O O H3 q O) O (Dq (I64 e) (Gg Gb O O O) O (Dq (E2 b) (G5 O O) O (Dq (Em c) (G5 O O) O (Dq (.dptr [I64 g]) (Hb (f:=I64) (xs:=b) (y:=g) O O O H3 w v) O (Dq (I64 g) (Gg Gb O O O) O (Dq (BL (decide (e≠g))) (G8e O O O) O (Dnil (u (JCc O h (fun h hb=>?_) (fun h hb=>?_)))))))))))))
   ·
    refine Jr fun x=>(JLm (BL false) O (G6 (x (Gs (fin1 BL h)))))
   ·
    refine Gk (t (G2 (JLm (Em c) O (JLh (I64 ((c+1:Nat):Int)) (J3 (Hp j p) O O O) O (JLm (I64 ((c+1:Nat):Int)) O (G6 (a7 _ _ (c+1) () (app1 s h) (by omega) ⟨(.sm O O),ø,rfl⟩)))))))
  ·
   have h:=app1 k (Hw i (Hf hb))
   refine Hr (a4 (Jr fun z=>(JLm (BL true) O (G6 (z (Gs (fin1 BL h)))))))

def Jh (a:List G1) (b:List G1):Option Bool:=
 bif decide ((a.length:Int)≠(b.length:Int)) then
 (some false)
 else
 (each (fun d e (f:Unit) c=>
   Qm b (e:Int) fun g=>
   bif (!decide (d=g)) then
   (some false)
   else
   (c ()))
  (fun(f:Unit)=>
   some true) a 0 ())
theorem Z5 (a:List G1) (b:List G1) (r:Bool) (h:Jh a b=some r):Pure En 18 [E1 a,E1 b] (·=BL r):=by
 unfold Jh at h
 refine Gz [.tmp 4] Tryz.func18 O O (Jr fun a0=>(JLm (BL false) O (G6 (a0 (Js fun a1=>Jr fun a2=>(JLm (E1 a) O (JLl H5 O O O fun a9=>(JLm (E1 b) O (JLl H5 O O O fun b0=>(JLh (BL (decide ((a.length:Int)≠(b.length:Int)))) (G8e O O O) O (G6 (a2 (JCc O h (fun h hb=>?_) (fun h hb=>?_))))))))))))))
 ·
  refine Jr fun a3=>(JLm (BL false) O (G6 (a3 (Gs (fin1 BL h)))))
 ·
  refine Gk (a1 (Js fun a4=>Jr fun a5=>(JLm (I64 0) O (G6 (a5 (Gq ?_))))))
  obtain⟨a6,l,m,k,h⟩:=Je h
  refine Hm (fun c (g:Unit)=>each a6 l (List.drop c a) c g=some r) (fun c g=>[(0,E1 a),(1,E1 b),(5,Em c)]) (fun c g=>[]) (fun c=>a.length - c) 0 () h ⟨(.sm O O),ø,O⟩ ?_
  clear h
  intro c g i b1 a7
  refine Js fun n=>Jr fun o=>(JLm (Em c) O (JLm (E1 a) O (JLl H5 O O O fun p=>(JLh (BL (decide ((c:Int) < (a.length:Int)))) (Jn O O O) O (G6 (o (Gp O (fun hb=>?_) (fun hb=>?_))))))))
  ·
   have j:=Jz hb
   obtain⟨d,a8,q,s,h⟩:=Hv i j
   replace h:=Zm m h
   refine Gk (n (Js fun t=>Gq (Js fun u=>?_)))
   obtain⟨b2,e,v,w,h⟩:=Rw h
   refine JC_d0 J1 (by kernel_rfl) (Dq (E1 a) (G5 O O) O (Dq (Em c) (G5 O O) O (Dq (Eh d) (Hb (f:=G1.av) (xs:=a) (y:=d) O O O H5 q O) O (Dq (.agg (G1.cs d)) (Gm Qh O O O) O (Dq (E1 b) (G5 O O) O (Dq (Em c) (G5 O O) O (Dq (Eh e) (Hb (f:=G1.av) (xs:=b) (y:=e) O O O H5 w v) O (Dq (.agg (G1.cs e)) (Gm Qh O O O) O (Dq (BL (!decide (d=e))) (Yac (vs:=[.int .i64 d.Box,.int .i64 d.Slot.G3,.int .i64 d.Slot.Tier,.int .u8 d.Slot.Half]) (us:=[.int .i64 e.Box,.int .i64 e.Slot.G3,.int .i64 e.Slot.Tier,.int .u8 e.Slot.Half]) 4 O (Zd6 d e) Rc2 Yb5 O O O) O (Dnil (u (JCc O h (fun h hb=>?_) (fun h hb=>?_)))))))))))))
   ·
    refine Jr fun x=>(JLm (BL false) O (G6 (x (Gs (fin1 BL h)))))
   ·
    refine Gk (t (G2 (JLm (Em c) O (JLh (I64 ((c+1:Nat):Int)) (J3 (Hp j p) O O O) O (JLm (I64 ((c+1:Nat):Int)) O (G6 (a7 _ _ (c+1) () (app1 s h) (by omega) ⟨(.sm O O),ø,rfl⟩)))))))
  ·
   have h:=app1 k (Hw i (Hf hb))
   refine Hr (a4 (Jr fun z=>(JLm (BL true) O (G6 (z (Gs (fin1 BL h)))))))

def Ym :Option Bool:=
 bnd (G5b) fun h=>
 bnd (G4d h.1 h.2.1 h.2.2 [3]) fun j=>
 bif ((decide (j.2≠0))||false) then
 (some false)
 else
 (bnd (Q2 0 0) fun k=>
  bnd (Q2 3 0) fun l=>
  bnd (Q2 0 0) fun m=>
  bnd (Q2 0 1) fun n=>
  bnd (Q2 0 0) fun o=>
  bnd (Q2 3 0) fun p=>
  bnd (Q2 3 0) fun q=>
  each (fun f w (b:Ge) i=>
   bnd (G4f b f.x) fun g=>
   bif decide (g.1≠f.e) then
   (some false)
   else
   (i g.2))
  (fun(b:Ge)=>
   bnd (Zt b) fun a=>
   bnd (bif decide (a=4) then Zg b else some default) fun r=>
   bnd (bif decide (a=4) then Y2 r [1] else some default) fun c=>
   bnd (bif ((decide (a=4))&&c) then Ya b else some default) fun d=>
   bnd (bif (((decide (a=4))&&c)&&(decide ((d.length:Int)=0))) then Ye b else some default) fun s=>
   bnd (bif (((decide (a=4))&&c)&&(decide ((d.length:Int)=0))) then Q2 3 0 else some default) fun t=>
   bnd (bif (((decide (a=4))&&c)&&(decide ((d.length:Int)=0))) then Q2 0 0 else some default) fun u=>
   bnd (bif (((decide (a=4))&&c)&&(decide ((d.length:Int)=0))) then Jh s [(G1.mk 2 t),(G1.mk 3 u)] else some default) fun v=>
   some ((((decide (a=4))&&c)&&(decide ((d.length:Int)=0)))&&v)) [(H6.mk (Move.mk 2 1 k 0) 315),(H6.mk (Move.mk 1 0 (Slot.mk 0 0 0) 0) 312),(H6.mk (Move.mk 2 2 l 0) 0),(H6.mk (Move.mk 1 0 (Slot.mk 0 0 0) 0) 0),(H6.mk (Move.mk 2 1 m 0) 0),(H6.mk (Move.mk 3 3 n 0) 318),(H6.mk (Move.mk 3 3 o 0) 0),(H6.mk (Move.mk 3 2 p 0) 315),(H6.mk (Move.mk 4 0 (Slot.mk 0 0 0) 0) 0),(H6.mk (Move.mk 3 2 q 0) 0)] 0 j.1)
abbrev Kn (a:Ge):List AV:=[E3 a.ship.Columns,E7 a.ship.Covers,I64 a.ship.Light.Kilos,I64 a.ship.Light.X,I64 a.ship.Light.Y,I64 a.ship.Light.Z,E4 a.ship.Rows,E5 a.ship.Frames,E6 a.ship.Tanks,I64 a.ship.G8.Tolerance,I64 a.ship.G8.Trim,I64 a.ship.G8.List_,I64 a.ship.G8.Stability,.mp 7001,.mp 7002,.mp 7003,I64 a.lifts]
abbrev Ko:List AV:=[U8 0,I64 0,I64 0,I64 0,U8 0,I64 0,I64 0]
abbrev Kp:List AV:=[U8 1,I64 0,I64 0,I64 0,U8 0,I64 0,I64 312]
abbrev Kq:List AV:=[U8 4,I64 0,I64 0,I64 0,U8 0,I64 0,I64 0]
abbrev Kr:List AV:=[U8 1,I64 0,I64 0,I64 0,U8 0,I64 0,I64 0]
theorem G5a  (r:Bool) (h:Ym =some r):Pure En 6 [] (·=BL r):=by
 unfold Ym at h
 refine Gz [.tmp 0] Tryz.func6 O O (Jr fun d5=>(JLm (BL false) O (G6 (d5 (Jr fun d6=>?_)))))
 obtain⟨o,d7,h⟩:=Gd h
 refine JLh (.tup [.agg (Gj.cs o.1),E8 o.2.1,E1 o.2.2]) (Gu O (Ha8  o d7) Y39 ø) O (JLm (.tup [.agg (Gj.cs o.1),E8 o.2.1,E1 o.2.2]) O (JLh (.agg (Gj.cs o.1)) (Gv O O O) O (JLh (E8 o.2.1) (Gv O O O) O (JLh (E1 o.2.2) (Gv O O O) O (JLh (.ptr 1009 0) (Hj 1009 13 H59 O O) O (Hq (u:=.junk) (H7 (u:=.agg (Gj.cs o.1)) (ds:=(Gj.cs o.1)) G57 O O O O O O O O) (JLm (E8 o.2.1) O (JLm (E1 o.2.2) O (G6 (d6 ?_))))))))))
 refine Gr [(1,Ee o.1),(2,E8 o.2.1),(3,E1 o.2.2)] [] 1009 rfl rfl rfl ø rfl (by exact⟨.ptr,.conv (.same rfl),.conv (.same rfl),ø⟩) (Jr fun d8=>(JLh (.agg (Gj.cs o.1)) (Gm J8 O O O) O (JLm (E8 o.2.1) O (JLm (E1 o.2.2) O (JLh (E2 [3]) (He (xs:=[I64 3]) O ⟨O,O,ø⟩ H3 Y6 O O O O) O ?_)))))
 obtain⟨n,d9,h⟩:=Gd h
 refine JLh (.tup [.ptr 7000 0,I64 n.2]) (Y1 (args:=[.agg (Gj.cs o.1),E8 o.2.1,E1 o.2.2,E2 [3]]) (L0:=[]) (Lr:=[(7000,.box 94 [E3 n.1.ship.Columns,E7 n.1.ship.Covers,I64 n.1.ship.Light.Kilos,I64 n.1.ship.Light.X,I64 n.1.ship.Light.Y,I64 n.1.ship.Light.Z,E4 n.1.ship.Rows,E5 n.1.ship.Frames,E6 n.1.ship.Tanks,I64 n.1.ship.G8.Tolerance,I64 n.1.ship.G8.Trim,I64 n.1.ship.G8.List_,I64 n.1.ship.G8.Stability,.mp 7001,.mp 7002,.mp 7003,I64 n.1.lifts]),(7001,TP 90 Slot.kv Box.av n.1.on),(7002,TP 91 Ks Box.av n.1.quay),(7003,TP 92 Ks I64 n.1.open_)]) O (Gdf o.1 o.2.1 o.2.2 [3] n d9) H94 ⟨.inl O,O,.inl O,O,.inl O,O,.inl O,O,ø⟩ ø O O O) O (JLm (.tup [.ptr 7000 0,I64 n.2]) O (JLh (.ptr 7000 0) (Gv O O O) O (JLh (I64 n.2) (Gv O O O) O (JLm (.ptr 7000 0) O (JLm (I64 n.2) O (G6 (d8 ?_)))))))
 refine Js fun e0=>Jr fun e1=>(JLm (I64 n.2) O (JLh (BL (decide (n.2≠0))) (G8e O O O) O (JLm (BL (decide (n.2≠0))) O (JLo (.ptr 7000 0) [] O .scf ø (fun hc=>G5 O O) O (JLo (BL false) [24] O .scf ⟨Ua,ø⟩ (fun hc=>Z3d R2b O O) O (JLh (BL ((decide (n.2≠0))||false)) (G82 O O O O) O (G6 (e1 (JCc O h (fun h hb=>?_) (fun h hb=>?_))))))))))
 ·
  refine Jr fun e2=>(JLm (BL false) O (G6 (e2 (Gs (fin1 BL h)))))
 ·
  refine Gk (e0 (Js fun e3=>Jr fun a6=>?_))
  obtain⟨c,a7,h⟩:=Gd h
  refine JLh (.agg (Slot.cs c)) (Gu O (Q7 0 0 c a7) G36 ⟨O,O,O,O,ø⟩) O (JLh (.agg [U8 2,I64 1,I64 c.G3,I64 c.Tier,U8 c.Half,I64 0]) (Hi (cs:=[U8 2,I64 1,I64 c.G3,I64 c.Tier,U8 c.Half,I64 0]) [(0,1),(1,1),(2,3),(5,1)] [U8 0,I64 0,I64 0,I64 0,U8 0,I64 0] [.int .u8 0,E0,E0,E0,.int .u8 0,E0] Z3 G17 (zzQ O) O O) O (JLh (.agg [U8 2,I64 1,I64 c.G3,I64 c.Tier,U8 c.Half,I64 0,I64 315]) (Hi (cs:=[U8 2,I64 1,I64 c.G3,I64 c.Tier,U8 c.Half,I64 0,I64 315]) [(0,6),(6,1)] Ko [.int .u8 0,E0,E0,E0,.int .u8 0,E0,E0] G03 G55 (zzQ O) O O) O (JLh (.agg [U8 1,I64 0,I64 0,I64 0,U8 0,I64 0]) (Hi (cs:=[U8 1,I64 0,I64 0,I64 0,U8 0,I64 0]) [(0,1),(1,1),(2,3),(5,1)] [U8 0,I64 0,I64 0,I64 0,U8 0,I64 0] [.int .u8 0,E0,E0,E0,.int .u8 0,E0] Z3 G17 (zzQ O) O O) O (JLh (.agg Kp) (Hi (cs:=Kp) [(0,6),(6,1)] Ko [.int .u8 0,E0,E0,E0,.int .u8 0,E0,E0] G03 G55 (zzQ O) O O) O ?_))))
  obtain⟨d,a8,h⟩:=Gd h
  refine JLh (.agg (Slot.cs d)) (Gu O (Q7 3 0 d a8) G36 ⟨O,O,O,O,ø⟩) O (JLh (.agg [U8 2,I64 2,I64 d.G3,I64 d.Tier,U8 d.Half,I64 0]) (Hi (cs:=[U8 2,I64 2,I64 d.G3,I64 d.Tier,U8 d.Half,I64 0]) [(0,1),(1,1),(2,3),(5,1)] [U8 0,I64 0,I64 0,I64 0,U8 0,I64 0] [.int .u8 0,E0,E0,E0,.int .u8 0,E0] Z3 G17 (zzQ O) O O) O (JLh (.agg [U8 2,I64 2,I64 d.G3,I64 d.Tier,U8 d.Half,I64 0,I64 0]) (Hi (cs:=[U8 2,I64 2,I64 d.G3,I64 d.Tier,U8 d.Half,I64 0,I64 0]) [(0,6),(6,1)] Ko [.int .u8 0,E0,E0,E0,.int .u8 0,E0,E0] G03 G55 (zzQ O) O O) O (JLh (.agg [U8 1,I64 0,I64 0,I64 0,U8 0,I64 0]) (Hi (cs:=[U8 1,I64 0,I64 0,I64 0,U8 0,I64 0]) [(0,1),(1,1),(2,3),(5,1)] [U8 0,I64 0,I64 0,I64 0,U8 0,I64 0] [.int .u8 0,E0,E0,E0,.int .u8 0,E0] Z3 G17 (zzQ O) O O) O (JLh (.agg Kr) (Hi (cs:=Kr) [(0,6),(6,1)] Ko [.int .u8 0,E0,E0,E0,.int .u8 0,E0,E0] G03 G55 (zzQ O) O O) O ?_))))
  obtain⟨i,a9,h⟩:=Gd h
  refine JLh (.agg (Slot.cs i)) (Gu O (Q7 0 0 i a9) G36 ⟨O,O,O,O,ø⟩) O (JLh (.agg [U8 2,I64 1,I64 i.G3,I64 i.Tier,U8 i.Half,I64 0]) (Hi (cs:=[U8 2,I64 1,I64 i.G3,I64 i.Tier,U8 i.Half,I64 0]) [(0,1),(1,1),(2,3),(5,1)] [U8 0,I64 0,I64 0,I64 0,U8 0,I64 0] [.int .u8 0,E0,E0,E0,.int .u8 0,E0] Z3 G17 (zzQ O) O O) O (JLh (.agg [U8 2,I64 1,I64 i.G3,I64 i.Tier,U8 i.Half,I64 0,I64 0]) (Hi (cs:=[U8 2,I64 1,I64 i.G3,I64 i.Tier,U8 i.Half,I64 0,I64 0]) [(0,6),(6,1)] Ko [.int .u8 0,E0,E0,E0,.int .u8 0,E0,E0] G03 G55 (zzQ O) O O) O ?_))
  obtain⟨j,b0,h⟩:=Gd h
  refine JLh (.agg (Slot.cs j)) (Gu O (Q7 0 1 j b0) G36 ⟨O,O,O,O,ø⟩) O (JLh (.agg [U8 3,I64 3,I64 j.G3,I64 j.Tier,U8 j.Half,I64 0]) (Hi (cs:=[U8 3,I64 3,I64 j.G3,I64 j.Tier,U8 j.Half,I64 0]) [(0,1),(1,1),(2,3),(5,1)] [U8 0,I64 0,I64 0,I64 0,U8 0,I64 0] [.int .u8 0,E0,E0,E0,.int .u8 0,E0] Z3 G17 (zzQ O) O O) O (JLh (.agg [U8 3,I64 3,I64 j.G3,I64 j.Tier,U8 j.Half,I64 0,I64 318]) (Hi (cs:=[U8 3,I64 3,I64 j.G3,I64 j.Tier,U8 j.Half,I64 0,I64 318]) [(0,6),(6,1)] Ko [.int .u8 0,E0,E0,E0,.int .u8 0,E0,E0] G03 G55 (zzQ O) O O) O ?_))
  obtain⟨k,b1,h⟩:=Gd h
  refine JLh (.agg (Slot.cs k)) (Gu O (Q7 0 0 k b1) G36 ⟨O,O,O,O,ø⟩) O (JLh (.agg [U8 3,I64 3,I64 k.G3,I64 k.Tier,U8 k.Half,I64 0]) (Hi (cs:=[U8 3,I64 3,I64 k.G3,I64 k.Tier,U8 k.Half,I64 0]) [(0,1),(1,1),(2,3),(5,1)] [U8 0,I64 0,I64 0,I64 0,U8 0,I64 0] [.int .u8 0,E0,E0,E0,.int .u8 0,E0] Z3 G17 (zzQ O) O O) O (JLh (.agg [U8 3,I64 3,I64 k.G3,I64 k.Tier,U8 k.Half,I64 0,I64 0]) (Hi (cs:=[U8 3,I64 3,I64 k.G3,I64 k.Tier,U8 k.Half,I64 0,I64 0]) [(0,6),(6,1)] Ko [.int .u8 0,E0,E0,E0,.int .u8 0,E0,E0] G03 G55 (zzQ O) O O) O ?_))
  obtain⟨l,b2,h⟩:=Gd h
  refine JLh (.agg (Slot.cs l)) (Gu O (Q7 3 0 l b2) G36 ⟨O,O,O,O,ø⟩) O (JLh (.agg [U8 3,I64 2,I64 l.G3,I64 l.Tier,U8 l.Half,I64 0]) (Hi (cs:=[U8 3,I64 2,I64 l.G3,I64 l.Tier,U8 l.Half,I64 0]) [(0,1),(1,1),(2,3),(5,1)] [U8 0,I64 0,I64 0,I64 0,U8 0,I64 0] [.int .u8 0,E0,E0,E0,.int .u8 0,E0] Z3 G17 (zzQ O) O O) O (JLh (.agg [U8 3,I64 2,I64 l.G3,I64 l.Tier,U8 l.Half,I64 0,I64 315]) (Hi (cs:=[U8 3,I64 2,I64 l.G3,I64 l.Tier,U8 l.Half,I64 0,I64 315]) [(0,6),(6,1)] Ko [.int .u8 0,E0,E0,E0,.int .u8 0,E0,E0] G03 G55 (zzQ O) O O) O (JLh (.agg [U8 4,I64 0,I64 0,I64 0,U8 0,I64 0]) (Hi (cs:=[U8 4,I64 0,I64 0,I64 0,U8 0,I64 0]) [(0,1),(1,1),(2,3),(5,1)] [U8 0,I64 0,I64 0,I64 0,U8 0,I64 0] [.int .u8 0,E0,E0,E0,.int .u8 0,E0] Z3 G17 (zzQ O) O O) O (JLh (.agg Kq) (Hi (cs:=Kq) [(0,6),(6,1)] Ko [.int .u8 0,E0,E0,E0,.int .u8 0,E0,E0] G03 G55 (zzQ O) O O) O ?_))))
  obtain⟨m,b3,h⟩:=Gd h
  refine JLh (.agg (Slot.cs m)) (Gu O (Q7 3 0 m b3) G36 ⟨O,O,O,O,ø⟩) O (JLh (.agg [U8 3,I64 2,I64 m.G3,I64 m.Tier,U8 m.Half,I64 0]) (Hi (cs:=[U8 3,I64 2,I64 m.G3,I64 m.Tier,U8 m.Half,I64 0]) [(0,1),(1,1),(2,3),(5,1)] [U8 0,I64 0,I64 0,I64 0,U8 0,I64 0] [.int .u8 0,E0,E0,E0,.int .u8 0,E0] Z3 G17 (zzQ O) O O) O (JLh (.agg [U8 3,I64 2,I64 m.G3,I64 m.Tier,U8 m.Half,I64 0,I64 0]) (Hi (cs:=[U8 3,I64 2,I64 m.G3,I64 m.Tier,U8 m.Half,I64 0,I64 0]) [(0,6),(6,1)] Ko [.int .u8 0,E0,E0,E0,.int .u8 0,E0,E0] G03 G55 (zzQ O) O O) O (JLh (LS 7 H6.av [(H6.mk (Move.mk 2 1 c 0) 315),(H6.mk (Move.mk 1 0 (Slot.mk 0 0 0) 0) 312),(H6.mk (Move.mk 2 2 d 0) 0),(H6.mk (Move.mk 1 0 (Slot.mk 0 0 0) 0) 0),(H6.mk (Move.mk 2 1 i 0) 0),(H6.mk (Move.mk 3 3 j 0) 318),(H6.mk (Move.mk 3 3 k 0) 0),(H6.mk (Move.mk 3 2 l 0) 315),(H6.mk (Move.mk 4 0 (Slot.mk 0 0 0) 0) 0),(H6.mk (Move.mk 3 2 m 0) 0)]) (He (xs:=[.agg [U8 2,I64 1,I64 c.G3,I64 c.Tier,U8 c.Half,I64 0,I64 315],.agg Kp,.agg [U8 2,I64 2,I64 d.G3,I64 d.Tier,U8 d.Half,I64 0,I64 0],.agg Kr,.agg [U8 2,I64 1,I64 i.G3,I64 i.Tier,U8 i.Half,I64 0,I64 0],.agg [U8 3,I64 3,I64 j.G3,I64 j.Tier,U8 j.Half,I64 0,I64 318],.agg [U8 3,I64 3,I64 k.G3,I64 k.Tier,U8 k.Half,I64 0,I64 0],.agg [U8 3,I64 2,I64 l.G3,I64 l.Tier,U8 l.Half,I64 0,I64 315],.agg Kq,.agg [U8 3,I64 2,I64 m.G3,I64 m.Tier,U8 m.Half,I64 0,I64 0]]) O ⟨O,O,O,O,O,O,O,O,O,O,O,O,O,O,O,O,O,O,O,O,ø⟩ J47 Q3d O O O O) O (JLl J47 O O O fun b4=>(JLm (I64 0) O (G6 (a6 ?_)))))))
  refine Gq ?_
  obtain⟨e4,b5,b6,a5,h⟩:=Je h
  refine Hm (fun p (b:Ge)=>each e4 b5 (List.drop p [(H6.mk (Move.mk 2 1 c 0) 315),(H6.mk (Move.mk 1 0 (Slot.mk 0 0 0) 0) 312),(H6.mk (Move.mk 2 2 d 0) 0),(H6.mk (Move.mk 1 0 (Slot.mk 0 0 0) 0) 0),(H6.mk (Move.mk 2 1 i 0) 0),(H6.mk (Move.mk 3 3 j 0) 318),(H6.mk (Move.mk 3 3 k 0) 0),(H6.mk (Move.mk 3 2 l 0) 315),(H6.mk (Move.mk 4 0 (Slot.mk 0 0 0) 0) 0),(H6.mk (Move.mk 3 2 m 0) 0)]) p b=some r) (fun p b=>[(4,.ptr 7000 0),(54,LS 7 H6.av [(H6.mk (Move.mk 2 1 c 0) 315),(H6.mk (Move.mk 1 0 (Slot.mk 0 0 0) 0) 312),(H6.mk (Move.mk 2 2 d 0) 0),(H6.mk (Move.mk 1 0 (Slot.mk 0 0 0) 0) 0),(H6.mk (Move.mk 2 1 i 0) 0),(H6.mk (Move.mk 3 3 j 0) 318),(H6.mk (Move.mk 3 3 k 0) 0),(H6.mk (Move.mk 3 2 l 0) 315),(H6.mk (Move.mk 4 0 (Slot.mk 0 0 0) 0) 0),(H6.mk (Move.mk 3 2 m 0) 0)]),(55,I64 ([(H6.mk (Move.mk 2 1 c 0) 315),(H6.mk (Move.mk 1 0 (Slot.mk 0 0 0) 0) 312),(H6.mk (Move.mk 2 2 d 0) 0),(H6.mk (Move.mk 1 0 (Slot.mk 0 0 0) 0) 0),(H6.mk (Move.mk 2 1 i 0) 0),(H6.mk (Move.mk 3 3 j 0) 318),(H6.mk (Move.mk 3 3 k 0) 0),(H6.mk (Move.mk 3 2 l 0) 315),(H6.mk (Move.mk 4 0 (Slot.mk 0 0 0) 0) 0),(H6.mk (Move.mk 3 2 m 0) 0)].length:Int)),(56,Em p)]) (fun p b=>[(7000,.box 94 (Kn b)),(7001,TP 90 Slot.kv Box.av b.on),(7002,TP 91 Ks Box.av b.quay),(7003,TP 92 Ks I64 b.open_)]) (fun p=>[(H6.mk (Move.mk 2 1 c 0) 315),(H6.mk (Move.mk 1 0 (Slot.mk 0 0 0) 0) 312),(H6.mk (Move.mk 2 2 d 0) 0),(H6.mk (Move.mk 1 0 (Slot.mk 0 0 0) 0) 0),(H6.mk (Move.mk 2 1 i 0) 0),(H6.mk (Move.mk 3 3 j 0) 318),(H6.mk (Move.mk 3 3 k 0) 0),(H6.mk (Move.mk 3 2 l 0) 315),(H6.mk (Move.mk 4 0 (Slot.mk 0 0 0) 0) 0),(H6.mk (Move.mk 3 2 m 0) 0)].length - p) 0 n.1 h ⟨(.sm O O),⟨fbQ O (.sm O O),fmQ O,fmQ O,fmQ O,ø⟩,rfl⟩ ?_
  clear h
  intro p b a3 e7 e5
  refine Jr fun b7=>(JLh (BL (decide ((p:Int) < ([(H6.mk (Move.mk 2 1 c 0) 315),(H6.mk (Move.mk 1 0 (Slot.mk 0 0 0) 0) 312),(H6.mk (Move.mk 2 2 d 0) 0),(H6.mk (Move.mk 1 0 (Slot.mk 0 0 0) 0) 0),(H6.mk (Move.mk 2 1 i 0) 0),(H6.mk (Move.mk 3 3 j 0) 318),(H6.mk (Move.mk 3 3 k 0) 0),(H6.mk (Move.mk 3 2 l 0) 315),(H6.mk (Move.mk 4 0 (Slot.mk 0 0 0) 0) 0),(H6.mk (Move.mk 3 2 m 0) 0)].length:Int)))) (Jn O O O) O (G6 (b7 (Js fun b8=>Gp O (fun hb=>?_) (fun hb=>?_)))))
  ·
   have a4:=Jz hb
   obtain⟨q,e6,b9,c0,h⟩:=Hv a3 a4
   replace h:=Zm b6 h
   refine Gk (b8 (Js fun c1=>Gq ?_))
   refine Jr fun c2=>(JLh (.dptr (H6.cs q)) (Hb (f:=H6.av) (xs:=[(H6.mk (Move.mk 2 1 c 0) 315),(H6.mk (Move.mk 1 0 (Slot.mk 0 0 0) 0) 312),(H6.mk (Move.mk 2 2 d 0) 0),(H6.mk (Move.mk 1 0 (Slot.mk 0 0 0) 0) 0),(H6.mk (Move.mk 2 1 i 0) 0),(H6.mk (Move.mk 3 3 j 0) 318),(H6.mk (Move.mk 3 3 k 0) 0),(H6.mk (Move.mk 3 2 l 0) 315),(H6.mk (Move.mk 4 0 (Slot.mk 0 0 0) 0) 0),(H6.mk (Move.mk 3 2 m 0) 0)]) (y:=q) O O O J47 b9 O) O (JLh (.agg (H6.cs q)) (Gm Yb6 O O O) O (JLh (.ptr 1010 0) (Hj 1010 7 Q3d O O) O (Hq (u:=.junk) (H7 (u:=.agg (H6.cs q)) (ds:=(H6.cs q)) Y11 O O O O O O O O) (G6 (c2 ?_))))))
   refine fzQ [(4,.ptr 7000 0),(7,.dptr (H6.cs q)),(54,LS 7 H6.av [(H6.mk (Move.mk 2 1 c 0) 315),(H6.mk (Move.mk 1 0 (Slot.mk 0 0 0) 0) 312),(H6.mk (Move.mk 2 2 d 0) 0),(H6.mk (Move.mk 1 0 (Slot.mk 0 0 0) 0) 0),(H6.mk (Move.mk 2 1 i 0) 0),(H6.mk (Move.mk 3 3 j 0) 318),(H6.mk (Move.mk 3 3 k 0) 0),(H6.mk (Move.mk 3 2 l 0) 315),(H6.mk (Move.mk 4 0 (Slot.mk 0 0 0) 0) 0),(H6.mk (Move.mk 3 2 m 0) 0)]),(55,I64 ([(H6.mk (Move.mk 2 1 c 0) 315),(H6.mk (Move.mk 1 0 (Slot.mk 0 0 0) 0) 312),(H6.mk (Move.mk 2 2 d 0) 0),(H6.mk (Move.mk 1 0 (Slot.mk 0 0 0) 0) 0),(H6.mk (Move.mk 2 1 i 0) 0),(H6.mk (Move.mk 3 3 j 0) 318),(H6.mk (Move.mk 3 3 k 0) 0),(H6.mk (Move.mk 3 2 l 0) 315),(H6.mk (Move.mk 4 0 (Slot.mk 0 0 0) 0) 0),(H6.mk (Move.mk 3 2 m 0) 0)].length:Int)),(56,Em p)] [(7000,.box 94 (Kn b)),(7001,TP 90 Slot.kv Box.av b.on),(7002,TP 91 Ks Box.av b.quay),(7003,TP 92 Ks I64 b.open_)] 1010 rfl rfl rfl ⟨⟨_,rfl,.boxEq rfl rfl⟩,fmQ O,fmQ O,fmQ O,ø⟩ rfl ?_
   refine Js fun c3=>?_
   refine Qn (l':=[(4,.ptr 7000 0),(7,.dptr (H6.cs q)),(54,LS 7 H6.av [(H6.mk (Move.mk 2 1 c 0) 315),(H6.mk (Move.mk 1 0 (Slot.mk 0 0 0) 0) 312),(H6.mk (Move.mk 2 2 d 0) 0),(H6.mk (Move.mk 1 0 (Slot.mk 0 0 0) 0) 0),(H6.mk (Move.mk 2 1 i 0) 0),(H6.mk (Move.mk 3 3 j 0) 318),(H6.mk (Move.mk 3 3 k 0) 0),(H6.mk (Move.mk 3 2 l 0) 315),(H6.mk (Move.mk 4 0 (Slot.mk 0 0 0) 0) 0),(H6.mk (Move.mk 3 2 m 0) 0)]),(55,I64 ([(H6.mk (Move.mk 2 1 c 0) 315),(H6.mk (Move.mk 1 0 (Slot.mk 0 0 0) 0) 312),(H6.mk (Move.mk 2 2 d 0) 0),(H6.mk (Move.mk 1 0 (Slot.mk 0 0 0) 0) 0),(H6.mk (Move.mk 2 1 i 0) 0),(H6.mk (Move.mk 3 3 j 0) 318),(H6.mk (Move.mk 3 3 k 0) 0),(H6.mk (Move.mk 3 2 l 0) 315),(H6.mk (Move.mk 4 0 (Slot.mk 0 0 0) 0) 0),(H6.mk (Move.mk 3 2 m 0) 0)].length:Int)),(56,Em p)]) (L':=[(7000,.box 94 (Kn b)),(7001,TP 90 Slot.kv Box.av b.on),(7002,TP 91 Ks Box.av b.quay),(7003,TP 92 Ks I64 b.open_)]) ⟨(.sm O O),⟨fbQ O (.sm O O),fmQ O,fmQ O,fmQ O,ø⟩,rfl⟩ ?_
   obtain⟨a,c4,h⟩:=Gd h
   refine Jm [3] [0,0,0,0,0,0,1] [0,0,0,0,1,1,1] [[(7000,.box 94 (Kn b)),(7001,TP 90 Slot.kv Box.av b.on),(7002,TP 91 Ks Box.av b.quay),(7003,TP 92 Ks I64 b.open_)],[(7000,.box 94 [E3 a.2.ship.Columns,E7 a.2.ship.Covers,I64 a.2.ship.Light.Kilos,I64 a.2.ship.Light.X,I64 a.2.ship.Light.Y,I64 a.2.ship.Light.Z,E4 a.2.ship.Rows,E5 a.2.ship.Frames,E6 a.2.ship.Tanks,I64 a.2.ship.G8.Tolerance,I64 a.2.ship.G8.Trim,I64 a.2.ship.G8.List_,I64 a.2.ship.G8.Stability,.mp 7001,.mp 7002,.mp 7003,I64 a.2.lifts]),(7001,TP 90 Slot.kv Box.av a.2.on),(7002,TP 91 Ks Box.av a.2.quay),(7003,TP 92 Ks I64 a.2.open_)]] J1 (by kernel_rfl) rfl rfl ?_
   refine Gc (u:=.ptr 7000 0) O O ⟨Gf (G5 O O) O,ø⟩ (Gc (u:=.dptr (H6.cs q)) O O ⟨Gf (Ga R1c O O O) O,ø⟩ (Gc (u:=.agg (Move.cs q.x)) O O ⟨Gf (Gm G65 O O O) O,ø⟩ (D_w (u:=I64 a.1) O O O O (Gf (Y1 (args:=[.ptr 7000 0,.agg (Move.cs q.x)]) (L0:=[(7000,.box 94 (Kn b)),(7001,TP 90 Slot.kv Box.av b.on),(7002,TP 91 Ks Box.av b.quay),(7003,TP 92 Ks I64 b.open_)]) (Lr:=[(7000,.box 94 [E3 a.2.ship.Columns,E7 a.2.ship.Covers,I64 a.2.ship.Light.Kilos,I64 a.2.ship.Light.X,I64 a.2.ship.Light.Y,I64 a.2.ship.Light.Z,E4 a.2.ship.Rows,E5 a.2.ship.Frames,E6 a.2.ship.Tanks,I64 a.2.ship.G8.Tolerance,I64 a.2.ship.G8.Trim,I64 a.2.ship.G8.List_,I64 a.2.ship.G8.Stability,.mp 7001,.mp 7002,.mp 7003,I64 a.2.lifts]),(7001,TP 90 Slot.kv Box.av a.2.on),(7002,TP 91 Ks Box.av a.2.quay),(7003,TP 92 Ks I64 a.2.open_)]) O (Had b q.x a c4) Jb8 ⟨.inl O,O,.inl O,O,ø⟩ ⟨O,O,O,O,ø⟩ O O O) O) (Gc (u:=.dptr [I64 q.e]) O O ⟨Gf (Ga J9d O O O) O,Gf (Ga J9d O O O) O,ø⟩ (Gc (u:=I64 q.e) O O ⟨Gf (Gg J0a O O O) O,Gf (Gg J0a O O O) O,ø⟩ (Gc (u:=BL (decide (a.1≠q.e))) O O ⟨Gf (G8e O O O) O,ø⟩ (R4 ?_)))))))
   refine c3 (JCc O h (fun h hb=>?_) (fun h hb=>?_))
   ·
    refine Jr fun c5=>(JLm (BL false) O (G6 (c5 (Gs (fin1 BL h)))))
   ·
    refine Gk (c1 (G2 (JLh (I64 ((p+1:Nat):Int)) (J3 (Hp a4 b4) O O O) O (JLm (I64 ((p+1:Nat):Int)) O (G6 (e5 _ _ (p+1) a.2 (app1 c0 h) (by omega) ⟨(.sm O O),⟨fbQ O (.sm O O),fmQ O,fmQ O,fmQ O,ø⟩,rfl⟩))))))
  ·
   have h:=app1 a5 (Hw a3 (Hf hb))
   refine Hr (e3 (Jr fun c6=>(JLm (.ptr 7000 0) O ?_)))
   obtain⟨v,c7,h⟩:=Gd h
   refine JLh (I64 v) (G54 (args:=[.dptr (Ge.cs b)]) O (Ga2 b v c7) J10 ⟨.ptrL O (dnQ 13 O O ⟨.mp O,.mp O,.mp O,.data O O,ø⟩),ø⟩ O) O (JLh (BL (decide (v=4))) (Qg O O O) O (JLm (BL (decide (v=4))) O (JLo (.ptr 7000 0) [] O .sct ø (fun hc=>G5 O O) O ?_)))
   obtain⟨a0,c8,h⟩:=Gd h
   refine JLo (E2 a0) [72] O .sct ⟨Ua,ø⟩ (fun hc=>G0a (args:=[.dptr (Ge.cs b)]) (g:=I64) (r:=a0) O (Hae b a0 (H2 hc c8)) Qb8 ⟨.ptrL O (dnQ 13 O O ⟨.mp O,.mp O,.mp O,.data O O,ø⟩),ø⟩ (fun _=>O)) O (JLo (E2 [1]) [] O .sct ø (fun hc=>He (xs:=[I64 1]) O ⟨O,O,ø⟩ H3 Y6 O O O O) O ?_)
   obtain⟨z,c9,h⟩:=Gd h
   refine JLo (BL z) [73,74] O .sct ⟨Ua,Ua,ø⟩ (fun hc=>Gu (args:=[E2 a0,E2 [1]]) O (Gcd a0 [1] z (H2 hc c9)) Qb9 ⟨O,O,O,O,ø⟩) O (JLh (BL ((decide (v=4))&&z)) (Ri O O O O) O (JLm (BL ((decide (v=4))&&z)) O (JLo (.ptr 7000 0) [] O .sct ø (fun hc=>G5 O O) O ?_)))
   obtain⟨w,d0,h⟩:=Gd h
   refine JLo (E2 w) [78] O .sct ⟨Ua,ø⟩ (fun hc=>G0a (args:=[.dptr (Ge.cs b)]) (g:=I64) (r:=w) O (Gc7 b w (H2 hc d0)) J0d ⟨.ptrL O (dnQ 13 O O ⟨.mp O,.mp O,.mp O,.data O O,ø⟩),ø⟩ (fun _=>O)) O (JLo (Em w.length) [79] O .sct ⟨Ua,ø⟩ (fun hc=>Gf6 (f:=I64) (xs:=w) H3 O O) O (JLo (BL (decide ((w.length:Int)=0))) [80] O .sct ⟨Ua,ø⟩ (fun hc=>Qg O O O) O (JLh (BL (((decide (v=4))&&z)&&(decide ((w.length:Int)=0)))) (Ri O O O O) O (JLm (BL (((decide (v=4))&&z)&&(decide ((w.length:Int)=0)))) O (JLo (.ptr 7000 0) [] O .sct ø (fun hc=>G5 O O) O ?_)))))
   obtain⟨a1,d1,h⟩:=Gd h
   refine JLo (E1 a1) [84] O .sct ⟨Ua,ø⟩ (fun hc=>G0a (args:=[.dptr (Ge.cs b)]) (g:=G1.av) (r:=a1) O (G9f.down b a1 (H2 hc d1)) J0e ⟨.ptrL O (dnQ 13 O O ⟨.mp O,.mp O,.mp O,.data O O,ø⟩),ø⟩ (fun _=>O)) O ?_
   obtain⟨s,d2,h⟩:=Gd h
   refine JLo (.agg (Slot.cs s)) [] O .sct ø (fun hc=>Gu (args:=[I64 3,I64 0]) O (Q7 3 0 s (H2 hc d2)) G36 ⟨O,O,O,O,ø⟩) O (JLo (.agg [I64 2,I64 s.G3,I64 s.Tier,U8 s.Half]) [86] O .sct ⟨Ua,ø⟩ (fun hc=>Hi (cs:=[I64 2,I64 s.G3,I64 s.Tier,U8 s.Half]) [(0,1),(1,3)] [I64 0,I64 0,I64 0,U8 0] [E0,E0,E0,.int .u8 0] G44 Ga5 (zzQ O) O O) O ?_)
   obtain⟨t,d3,h⟩:=Gd h
   refine JLo (.agg (Slot.cs t)) [] O .sct ø (fun hc=>Gu (args:=[I64 0,I64 0]) O (Q7 0 0 t (H2 hc d3)) G36 ⟨O,O,O,O,ø⟩) O (JLo (.agg [I64 3,I64 t.G3,I64 t.Tier,U8 t.Half]) [88] O .sct ⟨Ua,ø⟩ (fun hc=>Hi (cs:=[I64 3,I64 t.G3,I64 t.Tier,U8 t.Half]) [(0,1),(1,3)] [I64 0,I64 0,I64 0,U8 0] [E0,E0,E0,.int .u8 0] G44 Ga5 (zzQ O) O O) O (JLo (E1 [(G1.mk 2 s),(G1.mk 3 t)]) [87,89] O .sct ⟨Ua,Ua,ø⟩ (fun hc=>He (xs:=[.agg [I64 2,I64 s.G3,I64 s.Tier,U8 s.Half],.agg [I64 3,I64 t.G3,I64 t.Tier,U8 t.Half]]) O ⟨O,O,O,O,ø⟩ H5 Q3 O O O O) O ?_))
   obtain⟨a2,d4,h⟩:=Gd h
   refine JLo (BL a2) [85,90] O .sct ⟨Ua,Ua,ø⟩ (fun hc=>Gu (args:=[E1 a1,E1 [(G1.mk 2 s),(G1.mk 3 t)]]) O (Z5 a1 [(G1.mk 2 s),(G1.mk 3 t)] a2 (H2 hc d4)) J0f ⟨O,O,O,O,ø⟩) O (JLh (BL ((((decide (v=4))&&z)&&(decide ((w.length:Int)=0)))&&a2)) (Ri O O O O) O (JLm (BL ((((decide (v=4))&&z)&&(decide ((w.length:Int)=0)))&&a2)) O (G6 (c6 (Gs (fin1 BL h))))))
end
end Go.Proofs.YtgcpimpnpcdmmaaGreat
