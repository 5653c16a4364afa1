/- Walks of functions. -/
import Derived.Test.YtgcpimpnpcdmmaaGreatXM
set_option maxRecDepth 100000
set_option maxHeartbeats 1000000
set_option linter.unusedVariables false
set_option linter.unusedSimpArgs false
namespace Go.Proofs.YtgcpimpnpcdmmaaGreat
open Go.RowKit
noncomputable section
structure H2 where
 x:Move
 e:Int
 deriving DecidableEq,Inhabited
def H2.cs (x:H2):List AV:=[U8 x.x.Kind,I64 x.x.Box,I64 x.x.Slot.G3,I64 x.x.Slot.Tier,U8 x.x.Slot.Half,I64 x.x.G9,I64 x.e]
def H2.av (x:H2):AV:=.agg x.cs
namespace XBF
open XAF
open XCF
open XSF
open XKF
open XTF
open XUF
open XVF
open XMF
theorem Za6 (a b:G1):J98 En 4 64 [.int .i64 a.Box,.int .i64 a.Slot.G3,.int .i64 a.Slot.Tier,.int .u8 a.Slot.Half] [.int .i64 b.Box,.int .i64 b.Slot.G3,.int .i64 b.Slot.Tier,.int .u8 b.Slot.Half]=some (decide (a=b)):=by
 refine(show _=some ((a.Box==b.Box)&&(((a.Slot.G3==b.Slot.G3)&&((a.Slot.Tier==b.Slot.Tier)&&((a.Slot.Half==b.Slot.Half)&&true)))&&true)) by kernel_rfl).trans (congrArg some ?_)
 rw [Bool.eq_iff_iff]
 simp only [Mj,beq_iff_eq,Mk,Bool.and_true]
 constructor
 ·intro h; obtain⟨_,⟨_,_,_⟩⟩:=a; obtain⟨_,⟨_,_,_⟩⟩:=b; simp_all
 ·intro h; subst h; simp
theorem Y81:H25 En 82 7=true:=by kernel_rfl
theorem R96:G42 En 64=true:=by kernel_rfl
theorem Q91:Gz En 10=true:=by kernel_rfl
theorem Q8f:Gz En 13=true:=by kernel_rfl
theorem Q8d:Gz En 16=true:=by kernel_rfl
theorem Q8c:Gz En 18=true:=by kernel_rfl
theorem Q8b:Gz En 19=true:=by kernel_rfl
theorem Q8a:Gz En 20=true:=by kernel_rfl
theorem Q89:Gz En 21=true:=by kernel_rfl
theorem Q88:Gz En 22=true:=by kernel_rfl
theorem Y05:Gz En 26=true:=by kernel_rfl
theorem G1f:Gz En 27=true:=by kernel_rfl
theorem Rfc:Gz En 38=true:=by kernel_rfl
theorem Rf7:Gz En 52=true:=by kernel_rfl
theorem Y7c:En.eqGuardType En.depth 64=false:=by kernel_rfl
theorem Qf5:Jp En 82 0 0=true:=by kernel_rfl
theorem J73:Jp En 82 1 6=true:=by kernel_rfl
theorem Zj:placesOf En 82=some [(0,6),(6,1)]:=by kernel_rfl
theorem Rde:Y2 En 82 7=true:=by kernel_rfl
theorem J1f:sliceB En 83 82 7=true:=by kernel_rfl
theorem G3b:(En.info? 82).bind (fun i=>i.zero.map Value.cells)=some (List.toArray [.int .u8 0,E0,E0,E0,.int .u8 0,E0,E0]):=by kernel_rfl
theorem Q0d:Qz En 82 7=true:=by kernel_rfl
end XBF
open XAF
open XCF
open XSF
open XKF
open XTF
open XUF
open XVF
open XMF
open XBF

def Zc (y:G1) (a:G1):Option Bool:=
 some (decide (y.Box=a.Box))
theorem H61 (y:G1) (a:G1) (r:Bool) (h:Zc y a=some r):Pure En 38 [.agg (G1.cs y),Eh a] (·=BL r):=by
 unfold Zc at h
 refine Gx [.tmp 3] Tryz.func38 O O (Jr fun b=>(JLh (.ptr 1067 0) (Q2 (cs:=[I64 y.Box,I64 y.Slot.G3,I64 y.Slot.Tier,U8 y.Slot.Half]) 1067 O O O O O) O (JLm (BL false) O (G5 (b (Gp [(1,Eh a),(2,Eh y)] [] 1067 rfl rfl rfl ø rfl (by exact⟨.conv (.same rfl),.ptr,ø⟩) (Jr fun c=>(JLh (Eh y) (Ga J7 O O O) O (JLh (I64 y.Box) (Gg Gb O O O) O (JLh (Eh a) (Ga J7 O O O) O (JLh (I64 a.Box) (Gg Gb O O O) O (JLh (BL (decide (y.Box=a.Box))) (Qm O O O) O (JLm (BL (decide (y.Box=a.Box))) O (G5 (c (Gs (fin1 BL h)))))))))))))))))

def Ro (af:List G1) (bf:List G1):Option (List Int):=
 each (fun b g (a:(List Int)) d=>
  jp (fun c=>
   bnd (J9 bf (fun z0=>Zc z0 b)) fun e=>
   bif (!e) then
   (need (decide ((a.length+[b.Box].length)*8≤140737488355328∧a.length+[b.Box].length≤maxLen)) <|
    c (a++[b.Box]))
   else
   (c a)) fun(f:(List Int))=>
  d f)
 (fun(a:(List Int))=>
  some a) af 0 []
theorem Gb4 (af:List G1) (bf:List G1) (r:(List Int)) (h:Ro af bf=some r):Pure En 11 [E1 af,E1 bf] (·=E2 r):=by
 unfold Ro at h
 refine Gx [.tmp 4] Tryz.func11 O O (Jr fun a2=>(JLh (E2 ([]:List Int)) (Ji 1 O O) O (G5 (a2 (Jr fun a3=>(JLh (OW 1015 1 I64 ([]:List Int)) (H4b 1015 3 1 O O O) O (G5 (a3 (Js fun a4=>Jr fun a5=>(JLm (E1 af) O (JLl H1 O O O fun a6=>(JLm (I64 0) O (G5 (a5 (Gq ?_)))))))))))))))
 obtain⟨a7,m,n,k,h⟩:=Jd h
 refine Hn (fun d (c:(List Int))=>each a7 m (List.drop d af) d c=some r) (fun d c=>[(1,E1 bf),(5,OW 1015 1 I64 c),(8,E1 af),(9,Em af.length),(10,Em d)]) (fun d c=>[(1015,.spare 3 1 c.length c.length)]) (fun d=>af.length - d) 0 [] h ⟨(.sm O O),⟨⟨_,rfl,.same⟩,ø⟩,rfl⟩ ?_
 clear h
 intro d c i b0 a8
 refine Jr fun o=>(JLh (BL (decide ((d:Int) < (af.length:Int)))) (Jq O O O) O (G5 (o (Js fun p=>Gr O (fun hb=>?_) (fun hb=>?_)))))
 ·
  have j:=Q5 hb
  obtain⟨a,a9,s,t,h⟩:=Hu i j
  replace h:=Zg n h
  refine Gn (p ?_)
  obtain⟨v,l,h⟩:=Rv h
  refine Qr (fun e:(List Int)=>v e=some r) (fun e=>[(1,E1 bf),(5,OW 1015 1 I64 e),(8,E1 af),(9,Em af.length),(10,Em d)]) (fun e=>[(1015,.spare 3 1 e.length e.length)]) (fun Kj24 ej24=>?_) ?_
  ·
   refine Gq (Jr fun w=>(JLh (Eh a) (Hg (f:=G1.av) (xs:=af) (y:=a) O O O H1 s O) O (JLh (.agg (G1.cs a)) (Gk Qd O O O) O (JLh (.ptr 1016 0) (Hm 1016 4 Jx O O) O (Ho (u:=.junk) (H7 (u:=.agg (G1.cs a)) (ds:=[I64 a.Box,I64 a.Slot.G3,I64 a.Slot.Tier,U8 a.Slot.Half]) Rh O O O O O O O O) (G5 (w (fzQ [(1,E1 bf),(5,OW 1015 1 I64 c),(7,Eh a),(8,E1 af),(9,Em af.length),(10,Em d)] [(1015,.spare 3 1 c.length c.length)] 1016 rfl rfl rfl ⟨⟨_,rfl,.same⟩,ø⟩ rfl ?_))))))))
   refine Jr fun x=>(JLm (E1 bf) O (JLh (.fn 38 [.dptr (G1.cs a)]) (Q4 (cs:=[.dptr (G1.cs a)]) O O) O ?_))
   obtain⟨g,z,h⟩:=Ge h
   refine JLh (BL g) (Gw O (G25 bf (fun z0=>Zc z0 a) 38 [.dptr (G1.cs a)] Rfc O (fun z0 q hq=>H61 z0 a q hq) g z) Q8e ⟨O,O,O,O,ø⟩) O (JLh (BL (!g)) (Yc (b:=g) O O) O (G5 (x (JCc O h (fun h hb=>?_) (fun h hb=>?_)))))
   ·
    refine G2 (JLm (OW 1015 1 I64 c) O (JLh (Eh a) (Ga J7 O O O) O (JLh (I64 a.Box) (Gg Gb O O O) O (JLh (E2 [a.Box]) (Hd (xs:=[I64 a.Box]) O ⟨O,O,ø⟩ H0 Y8 O O O O) O ?_))))
    obtain⟨a0,h⟩:=Jf h
    refine JLh (OW 1015 1 I64 (c++[a.Box])) (Y7 (f:=I64) (xs:=c) (ys:=[a.Box]) O O O O H0 G75 a0 (fun _=>O) (.inl O) O) O (JLm (OW 1015 1 I64 (c++[a.Box])) O (G5 (ej24 _ _ (c++[a.Box]) h ⟨(.sm O O),⟨⟨_,rfl,.same⟩,ø⟩,rfl⟩)))
   ·
    refine Gn (ej24 _ _ c h ⟨(.sm O O),⟨⟨_,rfl,.same⟩,ø⟩,rfl⟩)
  ·intro e h
   replace h:=app1 l h
   refine G2 (JLh (I64 ((d+1:Nat):Int)) (Jb (Hp j a6) O O O) O (JLm (I64 ((d+1:Nat):Int)) O (G5 (a8 _ _ (d+1) e (app1 t h) (by omega) ⟨(.sm O O),⟨⟨_,rfl,.same⟩,ø⟩,rfl⟩))))
 ·
  have h:=app1 k (Hv i (Hj hb))
  refine Hq (a4 (Jr fun a1=>(JLm (OW 1015 1 I64 c) O (JLm (OW 1015 1 I64 c) O (G5 (a1 (Gs (fin1l (fun r:(List Int)=>(E2 r:AV)) h))))))))

def G9d (m:Gc) (l:List Move):Option (Int×Int×Gc):=
 each (fun d e (b:Gc) c=>
  bnd (G60 b d) fun a=>
  bif decide (a.1≠0) then
  (some ((e:Int),a.1,a.2))
  else
  (c a.2))
 (fun(b:Gc)=>
  some ((l.length:Int),0,b)) l 0 m
abbrev Kk (a:Gc):List AV:=[E3 a.ship.Columns,E8 a.ship.Covers,I64 a.ship.Light.Kilos,I64 a.ship.Light.X,I64 a.ship.Light.Y,I64 a.ship.Light.Z,E4 a.ship.Rows,E5 a.ship.Frames,E6 a.ship.Tanks,I64 a.ship.G8.Tolerance,I64 a.ship.G8.Trim,I64 a.ship.G8.List_,I64 a.ship.G8.Stability,.mp 1203,.mp 1204,.mp 1205,I64 a.lifts]
theorem Q07 (m:Gc) (l:List Move) (r:Int×Int×Gc) (h:G9d m l=some r):J3 En 17 [.ptr 1202 0,Ea l] [(1202,.box 94 [E3 m.ship.Columns,E8 m.ship.Covers,I64 m.ship.Light.Kilos,I64 m.ship.Light.X,I64 m.ship.Light.Y,I64 m.ship.Light.Z,E4 m.ship.Rows,E5 m.ship.Frames,E6 m.ship.Tanks,I64 m.ship.G8.Tolerance,I64 m.ship.G8.Trim,I64 m.ship.G8.List_,I64 m.ship.G8.Stability,.mp 1203,.mp 1204,.mp 1205,I64 m.lifts]),(1203,TP 90 Slot.kv Box.av m.on),(1204,TP 91 Ks Box.av m.quay),(1205,TP 92 Ks I64 m.open_)] (fun av L'=>av=.tup [I64 r.1,I64 r.2.1]∧L'=[(1202,.box 94 [E3 r.2.2.ship.Columns,E8 r.2.2.ship.Covers,I64 r.2.2.ship.Light.Kilos,I64 r.2.2.ship.Light.X,I64 r.2.2.ship.Light.Y,I64 r.2.2.ship.Light.Z,E4 r.2.2.ship.Rows,E5 r.2.2.ship.Frames,E6 r.2.2.ship.Tanks,I64 r.2.2.ship.G8.Tolerance,I64 r.2.2.ship.G8.Trim,I64 r.2.2.ship.G8.List_,I64 r.2.2.ship.G8.Stability,.mp 1203,.mp 1204,.mp 1205,I64 r.2.2.lifts]),(1203,TP 90 Slot.kv Box.av r.2.2.on),(1204,TP 91 Ks Box.av r.2.2.quay),(1205,TP 92 Ks I64 r.2.2.open_)]):=by
 unfold G9d at h
 refine Jj [1202,1203,1204,1205] [.tmp 4,.tmp 5] Tryz.func17 O O (G0d O) (Jr fun a3=>(JLm (I64 0) O (JLm (I64 0) O (G5 (a3 (Js fun a4=>Jr fun a5=>(JLm (.ptr 1202 0) O (JLh (BL true) (Ga0 (args:=[.dptr (Gc.cs m)]) O (Rm m true O) G5d ⟨.ptrL O (dnQ 13 O O ⟨.mp O,.mp O,.mp O,.data O O,ø⟩),ø⟩ O) O (JLh (BL false) (Yc (b:=true) O O) O (G5 (a5 (G24 O (Gn (a4 (Js fun a6=>Jr fun a7=>(JLm (Ea l) O (JLl G15 O O O fun k=>(JLm (I64 0) O (G5 (a7 (Gq ?_)))))))))))))))))))))
 obtain⟨a8,n,o,j,h⟩:=Jd h
 refine Hn (fun d (c:Gc)=>each a8 n (List.drop d l) d c=some r) (fun d c=>[(0,.ptr 1202 0),(1,Ea l),(12,Ea l),(13,Em l.length),(14,Em d)]) (fun d c=>[(1202,.box 94 (Kk c)),(1203,TP 90 Slot.kv Box.av c.on),(1204,TP 91 Ks Box.av c.quay),(1205,TP 92 Ks I64 c.open_)]) (fun d=>l.length - d) 0 m h ⟨(.sm O O),⟨fbQ O (.sm O O),fmQ O,fmQ O,fmQ O,ø⟩,rfl⟩ ?_
 clear h
 intro d c g b2 a9
 refine Jr fun p=>(JLh (BL (decide ((d:Int) < (l.length:Int)))) (Jq O O O) O (G5 (p (Js fun q=>Gr O (fun hb=>?_) (fun hb=>?_)))))
 ·
  have i:=Q5 hb
  obtain⟨e,b0,s,t,h⟩:=Hu g i
  replace h:=Zg o h
  refine Gn (q (Js fun v=>Gq (Jr fun w=>(JLm (Em d) O (JLh (Ef e) (Hg (f:=Move.av) (xs:=l) (y:=e) O O O G15 s O) O (JLh (.agg (Move.cs e)) (Gk H19 O O O) O (JLh (.ptr 1018 0) (Hm 1018 6 H9c O O) O (JLm (Em d) O (Ho (u:=.junk) (H7 (u:=.agg (Move.cs e)) (ds:=[U8 e.Kind,I64 e.Box,I64 e.Slot.G3,I64 e.Slot.Tier,U8 e.Slot.Half,I64 e.G9]) Q5f O O O O O O O O) (G5 (w ?_)))))))))))
  refine fzQ [(0,.ptr 1202 0),(1,Ea l),(6,Em d),(7,Ef e),(12,Ea l),(13,Em l.length),(14,Em d)] [(1202,.box 94 (Kk c)),(1203,TP 90 Slot.kv Box.av c.on),(1204,TP 91 Ks Box.av c.quay),(1205,TP 92 Ks I64 c.open_)] 1018 rfl rfl rfl ⟨⟨_,rfl,.boxEq rfl rfl⟩,fmQ O,fmQ O,fmQ O,ø⟩ rfl ?_
  refine Jr fun x=>(JLm (.ptr 1202 0) O (JLh (.agg (Move.cs e)) (Gk H19 O O O) O ?_))
  obtain⟨a,z,h⟩:=Ge h
  refine JLh (I64 a.1) (Z7 (args:=[.ptr 1202 0,.agg (Move.cs e)]) (L0:=[(1202,.box 94 (Kk c)),(1203,TP 90 Slot.kv Box.av c.on),(1204,TP 91 Ks Box.av c.quay),(1205,TP 92 Ks I64 c.open_)]) (Lr:=[(1202,.box 94 [E3 a.2.ship.Columns,E8 a.2.ship.Covers,I64 a.2.ship.Light.Kilos,I64 a.2.ship.Light.X,I64 a.2.ship.Light.Y,I64 a.2.ship.Light.Z,E4 a.2.ship.Rows,E5 a.2.ship.Frames,E6 a.2.ship.Tanks,I64 a.2.ship.G8.Tolerance,I64 a.2.ship.G8.Trim,I64 a.2.ship.G8.List_,I64 a.2.ship.G8.Stability,.mp 1203,.mp 1204,.mp 1205,I64 a.2.lifts]),(1203,TP 90 Slot.kv Box.av a.2.on),(1204,TP 91 Ks Box.av a.2.quay),(1205,TP 92 Ks I64 a.2.open_)]) O (J44 c e a z) Q8f ⟨.inl O,O,.inl O,O,ø⟩ ⟨O,O,O,O,ø⟩ O O O) O (JLm (I64 a.1) O (G5 (x ?_)))
  refine Jr fun a0=>(JLm (I64 a.1) O (JLh (BL (decide (a.1≠0))) (H0a O O O) O (G5 (a0 (JCc O h (fun h hb=>?_) (fun h hb=>?_))))))
  ·
   refine Jr fun a1=>(JLm (Em d) O (JLm (I64 a.1) O (JLm (Em d) O (JLm (I64 a.1) O (G5 (a1 (Gs ?_)))))))
   obtain rfl:=M7 h
   exact⟨[Em d,I64 a.1],[(1202,.box 94 [E3 a.2.ship.Columns,E8 a.2.ship.Covers,I64 a.2.ship.Light.Kilos,I64 a.2.ship.Light.X,I64 a.2.ship.Light.Y,I64 a.2.ship.Light.Z,E4 a.2.ship.Rows,E5 a.2.ship.Frames,E6 a.2.ship.Tanks,I64 a.2.ship.G8.Tolerance,I64 a.2.ship.G8.Trim,I64 a.2.ship.G8.List_,I64 a.2.ship.G8.Stability,.mp 1203,.mp 1204,.mp 1205,I64 a.2.lifts]),(1203,TP 90 Slot.kv Box.av a.2.on),(1204,TP 91 Ks Box.av a.2.quay),(1205,TP 92 Ks I64 a.2.open_)],⟨fbQ O (.sm O O),fmQ O,fmQ O,fmQ O,ø⟩,rfl,⟨⟨_,rfl,.conv (.same rfl)⟩,⟨_,rfl,.conv (.same rfl)⟩,ø⟩,rfl,rfl⟩
  ·
   refine Gn (v (G2 (JLh (I64 ((d+1:Nat):Int)) (Jb (Hp i k) O O O) O (JLm (I64 ((d+1:Nat):Int)) O (G5 (a9 _ _ (d+1) a.2 (app1 t h) (by omega) ⟨(.sm O O),⟨fbQ O (.sm O O),fmQ O,fmQ O,fmQ O,ø⟩,rfl⟩))))))
 ·
  have h:=app1 j (Hv g (Hj hb))
  refine Hq (a6 (Jr fun a2=>(JLm (Ea l) O (JLl G15 O O O fun b1=>(JLm (Em l.length) O (JLm (I64 0) O (G5 (a2 (Gs ?_)))))))))
  obtain rfl:=M7 h
  exact⟨[Em l.length,I64 0],[(1202,.box 94 (Kk c)),(1203,TP 90 Slot.kv Box.av c.on),(1204,TP 91 Ks Box.av c.quay),(1205,TP 92 Ks I64 c.open_)],⟨fbQ O (.sm O O),fmQ O,fmQ O,fmQ O,ø⟩,rfl,⟨⟨_,rfl,.conv (.same rfl)⟩,⟨_,rfl,.conv (.same rfl)⟩,ø⟩,rfl,rfl⟩

def G3e :Option Gh:=
 some (Gh.mk ([(G3.mk 0 0 false 2 0 0 0 0 [] 0 0 0),(G3.mk 0 1 false 2 0 0 0 0 [] 0 0 0),(G3.mk 0 0 true 3 0 0 0 0 [] 0 0 0),(G3.mk 0 1 true 3 0 0 0 0 [] 0 0 0),(G3.mk 1 1 true 4 0 0 0 0 [] 0 0 0)]) ([(G9.mk 0 [0,1])]) (Light.mk 0 0 0 0) [] [] [] (G8.mk 0 0 0 0))
abbrev Km:List AV:=[E3 ([]:List G3),E8 ([]:List G9),I64 0,I64 0,I64 0,I64 0,E4 ([]:List Row),E5 ([]:List Frame),E6 ([]:List H4),I64 0,I64 0,I64 0,I64 0]
theorem H88  (r:Gh) (h:G3e =some r):Pure En 52 [] (·=.agg (Gh.cs r)):=by
 unfold G3e at h
 refine Gx [.cell 0 36] Tryz.func52 O O (Jr fun a=>(JLh (.ptr 1085 0) (Zw 1085 Km [.slice none 0 0,.slice none 0 0,E0,E0,E0,E0,.slice none 0 0,.slice none 0 0,.slice none 0 0,E0,E0,E0,E0] Gd2 ⟨.inr ⟨_,O,O⟩,.inr ⟨_,O,O⟩,.inl O,.inl O,.inl O,.inl O,.inr ⟨_,O,O⟩,.inr ⟨_,O,O⟩,.inr ⟨_,O,O⟩,.inl O,.inl O,.inl O,.inl O,ø⟩ O O) O (G5 (a ?_))))
 refine Jr fun b=>(JLh (.agg [I64 0,I64 0,BL false,I64 2,I64 0,I64 0,I64 0,I64 0,E2 ([]:List Int),I64 0,I64 0,I64 0]) (He (cs:=[I64 0,I64 0,BL false,I64 2,I64 0,I64 0,I64 0,I64 0,E2 ([]:List Int),I64 0,I64 0,I64 0]) [(0,1),(1,1),(2,1),(3,1),(4,1),(5,1),(6,1),(7,1),(8,1),(9,1),(10,1),(11,1)] [I64 0,I64 0,BL false,I64 0,I64 0,I64 0,I64 0,I64 0,E2 ([]:List Int),I64 0,I64 0,I64 0] [E0,E0,.bool false,E0,E0,E0,E0,E0,.slice none 0 0,E0,E0,E0] G5c Gd0 ⟨.inl O,.inl O,.inl O,.inl O,.inl O,.inl O,.inl O,.inl O,.inr ⟨_,O,O⟩,.inl O,.inl O,.inl O,ø⟩ O O) O (JLh (.agg [I64 0,I64 1,BL false,I64 2,I64 0,I64 0,I64 0,I64 0,E2 ([]:List Int),I64 0,I64 0,I64 0]) (He (cs:=[I64 0,I64 1,BL false,I64 2,I64 0,I64 0,I64 0,I64 0,E2 ([]:List Int),I64 0,I64 0,I64 0]) [(0,1),(1,1),(2,1),(3,1),(4,1),(5,1),(6,1),(7,1),(8,1),(9,1),(10,1),(11,1)] [I64 0,I64 0,BL false,I64 0,I64 0,I64 0,I64 0,I64 0,E2 ([]:List Int),I64 0,I64 0,I64 0] [E0,E0,.bool false,E0,E0,E0,E0,E0,.slice none 0 0,E0,E0,E0] G5c Gd0 ⟨.inl O,.inl O,.inl O,.inl O,.inl O,.inl O,.inl O,.inl O,.inr ⟨_,O,O⟩,.inl O,.inl O,.inl O,ø⟩ O O) O (JLh (.agg [I64 0,I64 0,BL true,I64 3,I64 0,I64 0,I64 0,I64 0,E2 ([]:List Int),I64 0,I64 0,I64 0]) (He (cs:=[I64 0,I64 0,BL true,I64 3,I64 0,I64 0,I64 0,I64 0,E2 ([]:List Int),I64 0,I64 0,I64 0]) [(0,1),(1,1),(2,1),(3,1),(4,1),(5,1),(6,1),(7,1),(8,1),(9,1),(10,1),(11,1)] [I64 0,I64 0,BL false,I64 0,I64 0,I64 0,I64 0,I64 0,E2 ([]:List Int),I64 0,I64 0,I64 0] [E0,E0,.bool false,E0,E0,E0,E0,E0,.slice none 0 0,E0,E0,E0] G5c Gd0 ⟨.inl O,.inl O,.inl O,.inl O,.inl O,.inl O,.inl O,.inl O,.inr ⟨_,O,O⟩,.inl O,.inl O,.inl O,ø⟩ O O) O (JLh (.agg [I64 0,I64 1,BL true,I64 3,I64 0,I64 0,I64 0,I64 0,E2 ([]:List Int),I64 0,I64 0,I64 0]) (He (cs:=[I64 0,I64 1,BL true,I64 3,I64 0,I64 0,I64 0,I64 0,E2 ([]:List Int),I64 0,I64 0,I64 0]) [(0,1),(1,1),(2,1),(3,1),(4,1),(5,1),(6,1),(7,1),(8,1),(9,1),(10,1),(11,1)] [I64 0,I64 0,BL false,I64 0,I64 0,I64 0,I64 0,I64 0,E2 ([]:List Int),I64 0,I64 0,I64 0] [E0,E0,.bool false,E0,E0,E0,E0,E0,.slice none 0 0,E0,E0,E0] G5c Gd0 ⟨.inl O,.inl O,.inl O,.inl O,.inl O,.inl O,.inl O,.inl O,.inr ⟨_,O,O⟩,.inl O,.inl O,.inl O,ø⟩ O O) O (JLh (.agg [I64 1,I64 1,BL true,I64 4,I64 0,I64 0,I64 0,I64 0,E2 ([]:List Int),I64 0,I64 0,I64 0]) (He (cs:=[I64 1,I64 1,BL true,I64 4,I64 0,I64 0,I64 0,I64 0,E2 ([]:List Int),I64 0,I64 0,I64 0]) [(0,1),(1,1),(2,1),(3,1),(4,1),(5,1),(6,1),(7,1),(8,1),(9,1),(10,1),(11,1)] [I64 0,I64 0,BL false,I64 0,I64 0,I64 0,I64 0,I64 0,E2 ([]:List Int),I64 0,I64 0,I64 0] [E0,E0,.bool false,E0,E0,E0,E0,E0,.slice none 0 0,E0,E0,E0] G5c Gd0 ⟨.inl O,.inl O,.inl O,.inl O,.inl O,.inl O,.inl O,.inl O,.inr ⟨_,O,O⟩,.inl O,.inl O,.inl O,ø⟩ O O) O (JLh (E3 ([(G3.mk 0 0 false 2 0 0 0 0 [] 0 0 0),(G3.mk 0 1 false 2 0 0 0 0 [] 0 0 0),(G3.mk 0 0 true 3 0 0 0 0 [] 0 0 0),(G3.mk 0 1 true 3 0 0 0 0 [] 0 0 0),(G3.mk 1 1 true 4 0 0 0 0 [] 0 0 0)])) (Hd (xs:=[.agg [I64 0,I64 0,BL false,I64 2,I64 0,I64 0,I64 0,I64 0,E2 ([]:List Int),I64 0,I64 0,I64 0],.agg [I64 0,I64 1,BL false,I64 2,I64 0,I64 0,I64 0,I64 0,E2 ([]:List Int),I64 0,I64 0,I64 0],.agg [I64 0,I64 0,BL true,I64 3,I64 0,I64 0,I64 0,I64 0,E2 ([]:List Int),I64 0,I64 0,I64 0],.agg [I64 0,I64 1,BL true,I64 3,I64 0,I64 0,I64 0,I64 0,E2 ([]:List Int),I64 0,I64 0,I64 0],.agg [I64 1,I64 1,BL true,I64 4,I64 0,I64 0,I64 0,I64 0,E2 ([]:List Int),I64 0,I64 0,I64 0]]) O ⟨O,O,O,O,O,O,O,O,O,O,ø⟩ Hx G29 O O O O) O (JLh (E2 [0,1]) (Hd (xs:=[I64 0,I64 1]) O ⟨O,O,O,O,ø⟩ H0 Y8 O O O O) O (JLh (.agg [I64 0,E2 [0,1]]) (He (cs:=[I64 0,E2 [0,1]]) [(0,1),(1,1)] [I64 0,E2 ([]:List Int)] [E0,.slice none 0 0] Hb7 J1e ⟨.inl O,.inr ⟨_,O,O⟩,ø⟩ O O) O (JLh (E8 ([(G9.mk 0 [0,1])])) (Hd (xs:=[.agg [I64 0,E2 [0,1]]]) O ⟨O,O,ø⟩ Qi Gef O O O O) O (JLh (.agg [E3 ([(G3.mk 0 0 false 2 0 0 0 0 [] 0 0 0),(G3.mk 0 1 false 2 0 0 0 0 [] 0 0 0),(G3.mk 0 0 true 3 0 0 0 0 [] 0 0 0),(G3.mk 0 1 true 3 0 0 0 0 [] 0 0 0),(G3.mk 1 1 true 4 0 0 0 0 [] 0 0 0)]),E8 ([(G9.mk 0 [0,1])]),I64 0,I64 0,I64 0,I64 0,E4 ([]:List Row),E5 ([]:List Frame),E6 ([]:List H4),I64 0,I64 0,I64 0,I64 0]) (He (cs:=[E3 ([(G3.mk 0 0 false 2 0 0 0 0 [] 0 0 0),(G3.mk 0 1 false 2 0 0 0 0 [] 0 0 0),(G3.mk 0 0 true 3 0 0 0 0 [] 0 0 0),(G3.mk 0 1 true 3 0 0 0 0 [] 0 0 0),(G3.mk 1 1 true 4 0 0 0 0 [] 0 0 0)]),E8 ([(G9.mk 0 [0,1])]),I64 0,I64 0,I64 0,I64 0,E4 ([]:List Row),E5 ([]:List Frame),E6 ([]:List H4),I64 0,I64 0,I64 0,I64 0]) [(0,1),(1,1),(2,4),(6,1),(7,1),(8,1),(9,4)] Km [.slice none 0 0,.slice none 0 0,E0,E0,E0,E0,.slice none 0 0,.slice none 0 0,.slice none 0 0,E0,E0,E0,E0] Jab Gd2 ⟨.inr ⟨_,O,O⟩,.inr ⟨_,O,O⟩,.inl O,.inl O,.inl O,.inl O,.inr ⟨_,O,O⟩,.inr ⟨_,O,O⟩,.inr ⟨_,O,O⟩,.inl O,.inl O,.inl O,.inl O,ø⟩ O O) O (Ho (u:=.junk) (H7 (u:=.agg [E3 ([(G3.mk 0 0 false 2 0 0 0 0 [] 0 0 0),(G3.mk 0 1 false 2 0 0 0 0 [] 0 0 0),(G3.mk 0 0 true 3 0 0 0 0 [] 0 0 0),(G3.mk 0 1 true 3 0 0 0 0 [] 0 0 0),(G3.mk 1 1 true 4 0 0 0 0 [] 0 0 0)]),E8 ([(G9.mk 0 [0,1])]),I64 0,I64 0,I64 0,I64 0,E4 ([]:List Row),E5 ([]:List Frame),E6 ([]:List H4),I64 0,I64 0,I64 0,I64 0]) (ds:=[E3 ([(G3.mk 0 0 false 2 0 0 0 0 [] 0 0 0),(G3.mk 0 1 false 2 0 0 0 0 [] 0 0 0),(G3.mk 0 0 true 3 0 0 0 0 [] 0 0 0),(G3.mk 0 1 true 3 0 0 0 0 [] 0 0 0),(G3.mk 1 1 true 4 0 0 0 0 [] 0 0 0)]),E8 ([(G9.mk 0 [0,1])]),I64 0,I64 0,I64 0,I64 0,E4 ([]:List Row),E5 ([]:List Frame),E6 ([]:List H4),I64 0,I64 0,I64 0,I64 0]) G88 O O O O O O O O) (G5 (b ?_)))))))))))))
 refine Gs (⟨[.agg [E3 ([(G3.mk 0 0 false 2 0 0 0 0 [] 0 0 0),(G3.mk 0 1 false 2 0 0 0 0 [] 0 0 0),(G3.mk 0 0 true 3 0 0 0 0 [] 0 0 0),(G3.mk 0 1 true 3 0 0 0 0 [] 0 0 0),(G3.mk 1 1 true 4 0 0 0 0 [] 0 0 0)]),E8 ([(G9.mk 0 [0,1])]),I64 0,I64 0,I64 0,I64 0,E4 ([]:List Row),E5 ([]:List Frame),E6 ([]:List H4),I64 0,I64 0,I64 0,I64 0]],[],ø,O,⟨⟨_,⟨_,_,_,_,O,O,O,.inl ⟨Jh,O⟩⟩,.conv (.same O)⟩,ø⟩,O,congrArg (fun r:Gh=>(.agg (Gh.cs r):AV)) (M7 h)⟩)

def Jw (column:Int) (tier:Int):Option Slot:=
 some (Slot.mk column tier 0)
theorem Jz (column:Int) (tier:Int) (r:Slot) (h:Jw column tier=some r):Pure En 27 [I64 column,I64 tier] (·=.agg [I64 r.G3,I64 r.Tier,U8 r.Half]):=by
 unfold Jw at h
 refine Gx [.cell 4 57] Tryz.func27 O O (Jr fun a=>(JLh (.ptr 1028 0) (Zw 1028 [I64 0,I64 0,U8 0] [E0,E0,.int .u8 0] Gd1 (zzQ O) O O) O (G5 (a (Jr fun b=>(JLm (I64 column) O (JLm (I64 tier) O (JLh (.agg [I64 column,I64 tier,U8 0]) (He (cs:=[I64 column,I64 tier,U8 0]) [(0,1),(1,1),(2,1)] [I64 0,I64 0,U8 0] [E0,E0,.int .u8 0] Gf2 Gd1 (zzQ O) O O) O (Ho (u:=.junk) (H7 (u:=.agg [I64 column,I64 tier,U8 0]) (ds:=[I64 column,I64 tier,U8 0]) Y9 O O O O O O O O) (G5 (b (Gs ?_))))))))))))
 exact⟨[.agg [I64 column,I64 tier,U8 0]],[],ø,O,⟨⟨_,⟨_,_,_,_,O,O,O,.inl ⟨J0,O⟩⟩,.conv (.same O)⟩,ø⟩,O,congrArg (fun r:Slot=>(.agg [I64 r.G3,I64 r.Tier,U8 r.Half]:AV)) (M7 h)⟩

def G3d :Option (Gh×(List Box)×(List G1)):=
 bnd (G3e) fun a=>
 bnd (Jw 0 0) fun b=>
 bnd (Jw 3 0) fun c=>
 some (a,[(Box.mk 1 ByteArray.empty 40 false 0 0 0 0 false),(Box.mk 2 ByteArray.empty 40 false 0 0 0 0 false),(Box.mk 3 ByteArray.empty 40 false 0 0 0 0 false)],[(G1.mk 1 b),(G1.mk 2 c)])
theorem H87  (r:Gh×(List Box)×(List G1)) (h:G3d =some r):Pure En 26 [] (·=.tup [.agg (Gh.cs r.1),E7 r.2.1,E1 r.2.2]):=by
 unfold G3d at h
 refine Gx [.cell 0 36,.tmp 1,.tmp 2] Tryz.func26 O O (Jr fun d=>(JLh (.ptr 1027 0) (Zw 1027 [E3 ([]:List G3),E8 ([]:List G9),I64 0,I64 0,I64 0,I64 0,E4 ([]:List Row),E5 ([]:List Frame),E6 ([]:List H4),I64 0,I64 0,I64 0,I64 0] [.slice none 0 0,.slice none 0 0,E0,E0,E0,E0,.slice none 0 0,.slice none 0 0,.slice none 0 0,E0,E0,E0,E0] Gd2 ⟨.inr ⟨_,O,O⟩,.inr ⟨_,O,O⟩,.inl O,.inl O,.inl O,.inl O,.inr ⟨_,O,O⟩,.inr ⟨_,O,O⟩,.inr ⟨_,O,O⟩,.inl O,.inl O,.inl O,.inl O,ø⟩ O O) O (JLh (E7 ([]:List Box)) (Ji 9 O O) O (JLh (E1 ([]:List G1)) (Ji 4 O O) O (G5 (d (Jr fun e=>?_)))))))
 obtain⟨c,f,h⟩:=Ge h
 refine JLh (.agg (Gh.cs c)) (Gw O (H88  c f) Rf7 ø) O (JLh (.agg [I64 1,ST M0,U8 40,BL false,I64 0,I64 0,I64 0,U8 0,BL false]) (He (cs:=[I64 1,ST M0,U8 40,BL false,I64 0,I64 0,I64 0,U8 0,BL false]) [(0,1),(1,1),(2,1),(3,1),(4,1),(5,1),(6,1),(7,1),(8,1)] [I64 0,ST M0,U8 0,BL false,I64 0,I64 0,I64 0,U8 0,BL false] [E0,.string ByteArray.empty,.int .u8 0,.bool false,E0,E0,E0,.int .u8 0,.bool false] G71 G56 (zzQ O) O O) O (JLh (.agg [I64 2,ST M0,U8 40,BL false,I64 0,I64 0,I64 0,U8 0,BL false]) (He (cs:=[I64 2,ST M0,U8 40,BL false,I64 0,I64 0,I64 0,U8 0,BL false]) [(0,1),(1,1),(2,1),(3,1),(4,1),(5,1),(6,1),(7,1),(8,1)] [I64 0,ST M0,U8 0,BL false,I64 0,I64 0,I64 0,U8 0,BL false] [E0,.string ByteArray.empty,.int .u8 0,.bool false,E0,E0,E0,.int .u8 0,.bool false] G71 G56 (zzQ O) O O) O (JLh (.agg [I64 3,ST M0,U8 40,BL false,I64 0,I64 0,I64 0,U8 0,BL false]) (He (cs:=[I64 3,ST M0,U8 40,BL false,I64 0,I64 0,I64 0,U8 0,BL false]) [(0,1),(1,1),(2,1),(3,1),(4,1),(5,1),(6,1),(7,1),(8,1)] [I64 0,ST M0,U8 0,BL false,I64 0,I64 0,I64 0,U8 0,BL false] [E0,.string ByteArray.empty,.int .u8 0,.bool false,E0,E0,E0,.int .u8 0,.bool false] G71 G56 (zzQ O) O O) O (JLh (E7 [(Box.mk 1 ByteArray.empty 40 false 0 0 0 0 false),(Box.mk 2 ByteArray.empty 40 false 0 0 0 0 false),(Box.mk 3 ByteArray.empty 40 false 0 0 0 0 false)]) (Hd (xs:=[.agg [I64 1,ST M0,U8 40,BL false,I64 0,I64 0,I64 0,U8 0,BL false],.agg [I64 2,ST M0,U8 40,BL false,I64 0,I64 0,I64 0,U8 0,BL false],.agg [I64 3,ST M0,U8 40,BL false,I64 0,I64 0,I64 0,U8 0,BL false]]) O ⟨O,O,O,O,O,O,ø⟩ Ru Qw O O O O) O ?_))))
 obtain⟨a,g,h⟩:=Ge h
 refine JLh (.agg [I64 a.G3,I64 a.Tier,U8 a.Half]) (Gw O (Jz 0 0 a g) G1f ⟨O,O,O,O,ø⟩) O (JLh (.agg [I64 1,I64 a.G3,I64 a.Tier,U8 a.Half]) (He (cs:=[I64 1,I64 a.G3,I64 a.Tier,U8 a.Half]) [(0,1),(1,3)] [I64 0,I64 0,I64 0,U8 0] [E0,E0,E0,.int .u8 0] G2b G86 (zzQ O) O O) O ?_)
 obtain⟨b,i,h⟩:=Ge h
 refine JLh (.agg [I64 b.G3,I64 b.Tier,U8 b.Half]) (Gw O (Jz 3 0 b i) G1f ⟨O,O,O,O,ø⟩) O (JLh (.agg [I64 2,I64 b.G3,I64 b.Tier,U8 b.Half]) (He (cs:=[I64 2,I64 b.G3,I64 b.Tier,U8 b.Half]) [(0,1),(1,3)] [I64 0,I64 0,I64 0,U8 0] [E0,E0,E0,.int .u8 0] G2b G86 (zzQ O) O O) O (JLh (E1 [(G1.mk 1 a),(G1.mk 2 b)]) (Hd (xs:=[.agg [I64 1,I64 a.G3,I64 a.Tier,U8 a.Half],.agg [I64 2,I64 b.G3,I64 b.Tier,U8 b.Half]]) O ⟨O,O,O,O,ø⟩ H1 Jx O O O O) O (Ho (u:=.junk) (H7 (u:=.agg (Gh.cs c)) (ds:=(Gh.cs c)) G88 O O O O O O O O) (JLm (E7 [(Box.mk 1 ByteArray.empty 40 false 0 0 0 0 false),(Box.mk 2 ByteArray.empty 40 false 0 0 0 0 false),(Box.mk 3 ByteArray.empty 40 false 0 0 0 0 false)]) O (JLm (E1 [(G1.mk 1 a),(G1.mk 2 b)]) O (G5 (e ?_)))))))
 refine Gs (⟨[.agg (Gh.cs c),E7 [(Box.mk 1 ByteArray.empty 40 false 0 0 0 0 false),(Box.mk 2 ByteArray.empty 40 false 0 0 0 0 false),(Box.mk 3 ByteArray.empty 40 false 0 0 0 0 false)],E1 [(G1.mk 1 a),(G1.mk 2 b)]],[],ø,O,⟨⟨_,⟨_,_,_,_,O,O,O,.inl ⟨Jh,O⟩⟩,.conv (.same O)⟩,⟨_,O,.conv (.same O)⟩,⟨_,O,.conv (.same O)⟩,ø⟩,O,congrArg (fun r:Gh×(List Box)×(List G1)=>(.tup [.agg (Gh.cs r.1),E7 r.2.1,E1 r.2.2]:AV)) (M7 h)⟩)

def Qj (a:List Int) (b:List Int):Option Bool:=
 bif decide ((a.length:Int)≠(b.length:Int)) then
 (some false)
 else
 (each (fun d e (f:Unit) c=>
   Qy b (e:Int) fun g=>
   bif decide (d≠g) then
   (some false)
   else
   (c ()))
  (fun(f:Unit)=>
   some true) a 0 ())
theorem Gb5 (a:List Int) (b:List Int) (r:Bool) (h:Qj a b=some r):Pure En 21 [E2 a,E2 b] (·=BL r):=by
 unfold Qj at h
 refine Gx [.tmp 4] Tryz.func21 O O (Jr fun a0=>(JLm (BL false) O (G5 (a0 (Js fun a1=>Jr fun a2=>(JLm (E2 a) O (JLl H0 O O O fun a9=>(JLm (E2 b) O (JLl H0 O O O fun b0=>(JLh (BL (decide ((a.length:Int)≠(b.length:Int)))) (H0a O O O) O (G5 (a2 (JCc O h (fun h hb=>?_) (fun h hb=>?_))))))))))))))
 ·
  refine Jr fun a3=>(JLm (BL false) O (G5 (a3 (Gs (fin1 BL h)))))
 ·
  refine Gn (a1 (Js fun a4=>Jr fun a5=>(JLm (I64 0) O (G5 (a5 (Gq ?_))))))
  obtain⟨a6,l,m,k,h⟩:=Jd h
  refine Hn (fun c (d:Unit)=>each a6 l (List.drop c a) c d=some r) (fun c d=>[(0,E2 a),(1,E2 b),(5,Em c)]) (fun c d=>[]) (fun c=>a.length - c) 0 () h ⟨(.sm O O),ø,O⟩ ?_
  clear h
  intro c d i b1 a7
  refine Js fun n=>Jr fun o=>(JLm (Em c) O (JLm (E2 a) O (JLl H0 O O O fun p=>(JLh (BL (decide ((c:Int) < (a.length:Int)))) (Jq O O O) O (G5 (o (Gr O (fun hb=>?_) (fun hb=>?_))))))))
  ·
   have j:=Q5 hb
   obtain⟨e,a8,q,s,h⟩:=Hu i j
   replace h:=Zg m h
   refine Gn (n (Js fun t=>Gq (Js fun u=>?_)))
   obtain⟨b2,g,v,w,h⟩:=Zs h
   refine JC_d0 Ja (by kernel_rfl) (Dq (E2 a) (G6 O O) O (Dq (Em c) (G6 O O) O (Dq (.dptr [I64 e]) (Hg (f:=I64) (xs:=a) (y:=e) O O O H0 q O) O (Dq (I64 e) (Gg Gb O O O) O (Dq (E2 b) (G6 O O) O (Dq (Em c) (G6 O O) O (Dq (.dptr [I64 g]) (Hg (f:=I64) (xs:=b) (y:=g) O O O H0 w v) O (Dq (I64 g) (Gg Gb O O O) O (Dq (BL (decide (e≠g))) (H0a O O O) O (Dnil (u (JCc O h (fun h hb=>?_) (fun h hb=>?_)))))))))))))
   ·
    refine Jr fun x=>(JLm (BL false) O (G5 (x (Gs (fin1 BL h)))))
   ·
    refine Gn (t (G2 (JLm (Em c) O (JLh (I64 ((c+1:Nat):Int)) (Jb (Hp j p) O O O) O (JLm (I64 ((c+1:Nat):Int)) O (G5 (a7 _ _ (c+1) () (app1 s h) (by omega) ⟨(.sm O O),ø,rfl⟩)))))))
  ·
   have h:=app1 k (Hv i (Hj hb))
   refine Hq (a4 (Jr fun z=>(JLm (BL true) O (G5 (z (Gs (fin1 BL h)))))))

def Q8 (a:List G1) (b:List G1):Option Bool:=
 bif decide ((a.length:Int)≠(b.length:Int)) then
 (some false)
 else
 (each (fun d e (f:Unit) c=>
   Qy b (e:Int) fun g=>
   bif (!decide (d=g)) then
   (some false)
   else
   (c ()))
  (fun(f:Unit)=>
   some true) a 0 ())
theorem G65 (a:List G1) (b:List G1) (r:Bool) (h:Q8 a b=some r):Pure En 18 [E1 a,E1 b] (·=BL r):=by
 unfold Q8 at h
 refine Gx [.tmp 4] Tryz.func18 O O (Jr fun a0=>(JLm (BL false) O (G5 (a0 (Js fun a1=>Jr fun a2=>(JLm (E1 a) O (JLl H1 O O O fun a9=>(JLm (E1 b) O (JLl H1 O O O fun b0=>(JLh (BL (decide ((a.length:Int)≠(b.length:Int)))) (H0a O O O) O (G5 (a2 (JCc O h (fun h hb=>?_) (fun h hb=>?_))))))))))))))
 ·
  refine Jr fun a3=>(JLm (BL false) O (G5 (a3 (Gs (fin1 BL h)))))
 ·
  refine Gn (a1 (Js fun a4=>Jr fun a5=>(JLm (I64 0) O (G5 (a5 (Gq ?_))))))
  obtain⟨a6,l,m,k,h⟩:=Jd h
  refine Hn (fun c (g:Unit)=>each a6 l (List.drop c a) c g=some r) (fun c g=>[(0,E1 a),(1,E1 b),(5,Em c)]) (fun c g=>[]) (fun c=>a.length - c) 0 () h ⟨(.sm O O),ø,O⟩ ?_
  clear h
  intro c g i b1 a7
  refine Js fun n=>Jr fun o=>(JLm (Em c) O (JLm (E1 a) O (JLl H1 O O O fun p=>(JLh (BL (decide ((c:Int) < (a.length:Int)))) (Jq O O O) O (G5 (o (Gr O (fun hb=>?_) (fun hb=>?_))))))))
  ·
   have j:=Q5 hb
   obtain⟨d,a8,q,s,h⟩:=Hu i j
   replace h:=Zg m h
   refine Gn (n (Js fun t=>Gq (Js fun u=>?_)))
   obtain⟨b2,e,v,w,h⟩:=Zs h
   refine JC_d0 Ja (by kernel_rfl) (Dq (E1 a) (G6 O O) O (Dq (Em c) (G6 O O) O (Dq (Eh d) (Hg (f:=G1.av) (xs:=a) (y:=d) O O O H1 q O) O (Dq (.agg (G1.cs d)) (Gk Qd O O O) O (Dq (E1 b) (G6 O O) O (Dq (Em c) (G6 O O) O (Dq (Eh e) (Hg (f:=G1.av) (xs:=b) (y:=e) O O O H1 w v) O (Dq (.agg (G1.cs e)) (Gk Qd O O O) O (Dq (BL (!decide (d=e))) (Y73 (vs:=[.int .i64 d.Box,.int .i64 d.Slot.G3,.int .i64 d.Slot.Tier,.int .u8 d.Slot.Half]) (us:=[.int .i64 e.Box,.int .i64 e.Slot.G3,.int .i64 e.Slot.Tier,.int .u8 e.Slot.Half]) 4 O (Za6 d e) R96 Y7c O O O) O (Dnil (u (JCc O h (fun h hb=>?_) (fun h hb=>?_)))))))))))))
   ·
    refine Jr fun x=>(JLm (BL false) O (G5 (x (Gs (fin1 BL h)))))
   ·
    refine Gn (t (G2 (JLm (Em c) O (JLh (I64 ((c+1:Nat):Int)) (Jb (Hp j p) O O O) O (JLm (I64 ((c+1:Nat):Int)) O (G5 (a7 _ _ (c+1) () (app1 s h) (by omega) ⟨(.sm O O),ø,rfl⟩)))))))
  ·
   have h:=app1 k (Hv i (Hj hb))
   refine Hq (a4 (Jr fun z=>(JLm (BL true) O (G5 (z (Gs (fin1 BL h)))))))

def G13 :Option Bool:=
 bnd (G3d) fun h=>
 bnd (Geb h.1 h.2.1 h.2.2 [3]) fun j=>
 bif ((decide (j.2≠0))||false) then
 (some false)
 else
 (bnd (Jw 0 0) fun k=>
  bnd (Jw 3 0) fun l=>
  bnd (Jw 0 0) fun m=>
  bnd (Jw 0 1) fun n=>
  bnd (Jw 0 0) fun o=>
  bnd (Jw 3 0) fun p=>
  bnd (Jw 3 0) fun q=>
  each (fun f w (b:Gc) i=>
   bnd (G60 b f.x) fun g=>
   bif decide (g.1≠f.e) then
   (some false)
   else
   (i g.2))
  (fun(b:Gc)=>
   bnd (G69 b) fun a=>
   bnd (bif decide (a=4) then Yx b else some default) fun r=>
   bnd (bif decide (a=4) then Qj r [1] else some default) fun c=>
   bnd (bif ((decide (a=4))&&c) then Zu b else some default) fun d=>
   bnd (bif (((decide (a=4))&&c)&&(decide ((d.length:Int)=0))) then G06 b else some default) fun s=>
   bnd (bif (((decide (a=4))&&c)&&(decide ((d.length:Int)=0))) then Jw 3 0 else some default) fun t=>
   bnd (bif (((decide (a=4))&&c)&&(decide ((d.length:Int)=0))) then Jw 0 0 else some default) fun u=>
   bnd (bif (((decide (a=4))&&c)&&(decide ((d.length:Int)=0))) then Q8 s [(G1.mk 2 t),(G1.mk 3 u)] else some default) fun v=>
   some ((((decide (a=4))&&c)&&(decide ((d.length:Int)=0)))&&v)) [(H2.mk (Move.mk 2 1 k 0) 315),(H2.mk (Move.mk 1 0 (Slot.mk 0 0 0) 0) 312),(H2.mk (Move.mk 2 2 l 0) 0),(H2.mk (Move.mk 1 0 (Slot.mk 0 0 0) 0) 0),(H2.mk (Move.mk 2 1 m 0) 0),(H2.mk (Move.mk 3 3 n 0) 318),(H2.mk (Move.mk 3 3 o 0) 0),(H2.mk (Move.mk 3 2 p 0) 315),(H2.mk (Move.mk 4 0 (Slot.mk 0 0 0) 0) 0),(H2.mk (Move.mk 3 2 q 0) 0)] 0 j.1)
abbrev Kn (a:Gc):List AV:=[E3 a.ship.Columns,E8 a.ship.Covers,I64 a.ship.Light.Kilos,I64 a.ship.Light.X,I64 a.ship.Light.Y,I64 a.ship.Light.Z,E4 a.ship.Rows,E5 a.ship.Frames,E6 a.ship.Tanks,I64 a.ship.G8.Tolerance,I64 a.ship.G8.Trim,I64 a.ship.G8.List_,I64 a.ship.G8.Stability,.mp 1203,.mp 1204,.mp 1205,I64 a.lifts]
abbrev Ko:List AV:=[U8 0,I64 0,I64 0,I64 0,U8 0,I64 0,I64 0]
abbrev Kp:List AV:=[U8 1,I64 0,I64 0,I64 0,U8 0,I64 0,I64 312]
abbrev Kq:List AV:=[U8 4,I64 0,I64 0,I64 0,U8 0,I64 0,I64 0]
abbrev Kr:List AV:=[U8 1,I64 0,I64 0,I64 0,U8 0,I64 0,I64 0]
theorem Hbe  (r:Bool) (h:G13 =some r):Pure En 6 [] (·=BL r):=by
 unfold G13 at h
 refine Gx [.tmp 0] Tryz.func6 O O (Jr fun d5=>(JLm (BL false) O (G5 (d5 (Jr fun d6=>?_)))))
 obtain⟨o,d7,h⟩:=Ge h
 refine JLh (.tup [.agg (Gh.cs o.1),E7 o.2.1,E1 o.2.2]) (Gw O (H87  o d7) Y05 ø) O (JLm (.tup [.agg (Gh.cs o.1),E7 o.2.1,E1 o.2.2]) O (JLh (.agg (Gh.cs o.1)) (H3 O O O) O (JLh (E7 o.2.1) (H3 O O O) O (JLh (E1 o.2.2) (H3 O O O) O (JLh (.ptr 1003 0) (Hm 1003 13 J1d O O) O (Ho (u:=.junk) (H7 (u:=.agg (Gh.cs o.1)) (ds:=(Gh.cs o.1)) G88 O O O O O O O O) (JLm (E7 o.2.1) O (JLm (E1 o.2.2) O (G5 (d6 ?_))))))))))
 refine Gp [(1,Ee o.1),(2,E7 o.2.1),(3,E1 o.2.2)] [] 1003 rfl rfl rfl ø rfl (by exact⟨.ptr,.conv (.same rfl),.conv (.same rfl),ø⟩) (Jr fun d8=>(JLh (.agg (Gh.cs o.1)) (Gk Jh O O O) O (JLm (E7 o.2.1) O (JLm (E1 o.2.2) O (JLh (E2 [3]) (Hd (xs:=[I64 3]) O ⟨O,O,ø⟩ H0 Y8 O O O O) O ?_)))))
 obtain⟨n,d9,h⟩:=Ge h
 refine JLh (.tup [.ptr 1202 0,I64 n.2]) (Z7 (args:=[.agg (Gh.cs o.1),E7 o.2.1,E1 o.2.2,E2 [3]]) (L0:=[]) (Lr:=[(1202,.box 94 [E3 n.1.ship.Columns,E8 n.1.ship.Covers,I64 n.1.ship.Light.Kilos,I64 n.1.ship.Light.X,I64 n.1.ship.Light.Y,I64 n.1.ship.Light.Z,E4 n.1.ship.Rows,E5 n.1.ship.Frames,E6 n.1.ship.Tanks,I64 n.1.ship.G8.Tolerance,I64 n.1.ship.G8.Trim,I64 n.1.ship.G8.List_,I64 n.1.ship.G8.Stability,.mp 1203,.mp 1204,.mp 1205,I64 n.1.lifts]),(1203,TP 90 Slot.kv Box.av n.1.on),(1204,TP 91 Ks Box.av n.1.quay),(1205,TP 92 Ks I64 n.1.open_)]) O (J7d o.1 o.2.1 o.2.2 [3] n d9) Q91 ⟨.inl O,O,.inl O,O,.inl O,O,.inl O,O,ø⟩ ø O O O) O (JLm (.tup [.ptr 1202 0,I64 n.2]) O (JLh (.ptr 1202 0) (H3 O O O) O (JLh (I64 n.2) (H3 O O O) O (JLm (.ptr 1202 0) O (JLm (I64 n.2) O (G5 (d8 ?_)))))))
 refine Js fun e0=>Jr fun e1=>(JLm (I64 n.2) O (JLh (BL (decide (n.2≠0))) (H0a O O O) O (JLm (BL (decide (n.2≠0))) O (JLo (.ptr 1202 0) [] O .scf ø (fun hc=>G6 O O) O (JLo (BL false) [24] O .scf ⟨Ua,ø⟩ (fun hc=>Z0e R02 O O) O (JLh (BL ((decide (n.2≠0))||false)) (G7e O O O O) O (G5 (e1 (JCc O h (fun h hb=>?_) (fun h hb=>?_))))))))))
 ·
  refine Jr fun e2=>(JLm (BL false) O (G5 (e2 (Gs (fin1 BL h)))))
 ·
  refine Gn (e0 (Js fun e3=>Jr fun a6=>?_))
  obtain⟨c,a7,h⟩:=Ge h
  refine JLh (.agg (Slot.cs c)) (Gw O (Jz 0 0 c a7) G1f ⟨O,O,O,O,ø⟩) O (JLh (.agg [U8 2,I64 1,I64 c.G3,I64 c.Tier,U8 c.Half,I64 0]) (He (cs:=[U8 2,I64 1,I64 c.G3,I64 c.Tier,U8 c.Half,I64 0]) [(0,1),(1,1),(2,3),(5,1)] [U8 0,I64 0,I64 0,I64 0,U8 0,I64 0] [.int .u8 0,E0,E0,E0,.int .u8 0,E0] Ym G03 (zzQ O) O O) O (JLh (.agg [U8 2,I64 1,I64 c.G3,I64 c.Tier,U8 c.Half,I64 0,I64 315]) (He (cs:=[U8 2,I64 1,I64 c.G3,I64 c.Tier,U8 c.Half,I64 0,I64 315]) [(0,6),(6,1)] Ko [.int .u8 0,E0,E0,E0,.int .u8 0,E0,E0] Zj G3b (zzQ O) O O) O (JLh (.agg [U8 1,I64 0,I64 0,I64 0,U8 0,I64 0]) (He (cs:=[U8 1,I64 0,I64 0,I64 0,U8 0,I64 0]) [(0,1),(1,1),(2,3),(5,1)] [U8 0,I64 0,I64 0,I64 0,U8 0,I64 0] [.int .u8 0,E0,E0,E0,.int .u8 0,E0] Ym G03 (zzQ O) O O) O (JLh (.agg Kp) (He (cs:=Kp) [(0,6),(6,1)] Ko [.int .u8 0,E0,E0,E0,.int .u8 0,E0,E0] Zj G3b (zzQ O) O O) O ?_))))
  obtain⟨d,a8,h⟩:=Ge h
  refine JLh (.agg (Slot.cs d)) (Gw O (Jz 3 0 d a8) G1f ⟨O,O,O,O,ø⟩) O (JLh (.agg [U8 2,I64 2,I64 d.G3,I64 d.Tier,U8 d.Half,I64 0]) (He (cs:=[U8 2,I64 2,I64 d.G3,I64 d.Tier,U8 d.Half,I64 0]) [(0,1),(1,1),(2,3),(5,1)] [U8 0,I64 0,I64 0,I64 0,U8 0,I64 0] [.int .u8 0,E0,E0,E0,.int .u8 0,E0] Ym G03 (zzQ O) O O) O (JLh (.agg [U8 2,I64 2,I64 d.G3,I64 d.Tier,U8 d.Half,I64 0,I64 0]) (He (cs:=[U8 2,I64 2,I64 d.G3,I64 d.Tier,U8 d.Half,I64 0,I64 0]) [(0,6),(6,1)] Ko [.int .u8 0,E0,E0,E0,.int .u8 0,E0,E0] Zj G3b (zzQ O) O O) O (JLh (.agg [U8 1,I64 0,I64 0,I64 0,U8 0,I64 0]) (He (cs:=[U8 1,I64 0,I64 0,I64 0,U8 0,I64 0]) [(0,1),(1,1),(2,3),(5,1)] [U8 0,I64 0,I64 0,I64 0,U8 0,I64 0] [.int .u8 0,E0,E0,E0,.int .u8 0,E0] Ym G03 (zzQ O) O O) O (JLh (.agg Kr) (He (cs:=Kr) [(0,6),(6,1)] Ko [.int .u8 0,E0,E0,E0,.int .u8 0,E0,E0] Zj G3b (zzQ O) O O) O ?_))))
  obtain⟨i,a9,h⟩:=Ge h
  refine JLh (.agg (Slot.cs i)) (Gw O (Jz 0 0 i a9) G1f ⟨O,O,O,O,ø⟩) O (JLh (.agg [U8 2,I64 1,I64 i.G3,I64 i.Tier,U8 i.Half,I64 0]) (He (cs:=[U8 2,I64 1,I64 i.G3,I64 i.Tier,U8 i.Half,I64 0]) [(0,1),(1,1),(2,3),(5,1)] [U8 0,I64 0,I64 0,I64 0,U8 0,I64 0] [.int .u8 0,E0,E0,E0,.int .u8 0,E0] Ym G03 (zzQ O) O O) O (JLh (.agg [U8 2,I64 1,I64 i.G3,I64 i.Tier,U8 i.Half,I64 0,I64 0]) (He (cs:=[U8 2,I64 1,I64 i.G3,I64 i.Tier,U8 i.Half,I64 0,I64 0]) [(0,6),(6,1)] Ko [.int .u8 0,E0,E0,E0,.int .u8 0,E0,E0] Zj G3b (zzQ O) O O) O ?_))
  obtain⟨j,b0,h⟩:=Ge h
  refine JLh (.agg (Slot.cs j)) (Gw O (Jz 0 1 j b0) G1f ⟨O,O,O,O,ø⟩) O (JLh (.agg [U8 3,I64 3,I64 j.G3,I64 j.Tier,U8 j.Half,I64 0]) (He (cs:=[U8 3,I64 3,I64 j.G3,I64 j.Tier,U8 j.Half,I64 0]) [(0,1),(1,1),(2,3),(5,1)] [U8 0,I64 0,I64 0,I64 0,U8 0,I64 0] [.int .u8 0,E0,E0,E0,.int .u8 0,E0] Ym G03 (zzQ O) O O) O (JLh (.agg [U8 3,I64 3,I64 j.G3,I64 j.Tier,U8 j.Half,I64 0,I64 318]) (He (cs:=[U8 3,I64 3,I64 j.G3,I64 j.Tier,U8 j.Half,I64 0,I64 318]) [(0,6),(6,1)] Ko [.int .u8 0,E0,E0,E0,.int .u8 0,E0,E0] Zj G3b (zzQ O) O O) O ?_))
  obtain⟨k,b1,h⟩:=Ge h
  refine JLh (.agg (Slot.cs k)) (Gw O (Jz 0 0 k b1) G1f ⟨O,O,O,O,ø⟩) O (JLh (.agg [U8 3,I64 3,I64 k.G3,I64 k.Tier,U8 k.Half,I64 0]) (He (cs:=[U8 3,I64 3,I64 k.G3,I64 k.Tier,U8 k.Half,I64 0]) [(0,1),(1,1),(2,3),(5,1)] [U8 0,I64 0,I64 0,I64 0,U8 0,I64 0] [.int .u8 0,E0,E0,E0,.int .u8 0,E0] Ym G03 (zzQ O) O O) O (JLh (.agg [U8 3,I64 3,I64 k.G3,I64 k.Tier,U8 k.Half,I64 0,I64 0]) (He (cs:=[U8 3,I64 3,I64 k.G3,I64 k.Tier,U8 k.Half,I64 0,I64 0]) [(0,6),(6,1)] Ko [.int .u8 0,E0,E0,E0,.int .u8 0,E0,E0] Zj G3b (zzQ O) O O) O ?_))
  obtain⟨l,b2,h⟩:=Ge h
  refine JLh (.agg (Slot.cs l)) (Gw O (Jz 3 0 l b2) G1f ⟨O,O,O,O,ø⟩) O (JLh (.agg [U8 3,I64 2,I64 l.G3,I64 l.Tier,U8 l.Half,I64 0]) (He (cs:=[U8 3,I64 2,I64 l.G3,I64 l.Tier,U8 l.Half,I64 0]) [(0,1),(1,1),(2,3),(5,1)] [U8 0,I64 0,I64 0,I64 0,U8 0,I64 0] [.int .u8 0,E0,E0,E0,.int .u8 0,E0] Ym G03 (zzQ O) O O) O (JLh (.agg [U8 3,I64 2,I64 l.G3,I64 l.Tier,U8 l.Half,I64 0,I64 315]) (He (cs:=[U8 3,I64 2,I64 l.G3,I64 l.Tier,U8 l.Half,I64 0,I64 315]) [(0,6),(6,1)] Ko [.int .u8 0,E0,E0,E0,.int .u8 0,E0,E0] Zj G3b (zzQ O) O O) O (JLh (.agg [U8 4,I64 0,I64 0,I64 0,U8 0,I64 0]) (He (cs:=[U8 4,I64 0,I64 0,I64 0,U8 0,I64 0]) [(0,1),(1,1),(2,3),(5,1)] [U8 0,I64 0,I64 0,I64 0,U8 0,I64 0] [.int .u8 0,E0,E0,E0,.int .u8 0,E0] Ym G03 (zzQ O) O O) O (JLh (.agg Kq) (He (cs:=Kq) [(0,6),(6,1)] Ko [.int .u8 0,E0,E0,E0,.int .u8 0,E0,E0] Zj G3b (zzQ O) O O) O ?_))))
  obtain⟨m,b3,h⟩:=Ge h
  refine JLh (.agg (Slot.cs m)) (Gw O (Jz 3 0 m b3) G1f ⟨O,O,O,O,ø⟩) O (JLh (.agg [U8 3,I64 2,I64 m.G3,I64 m.Tier,U8 m.Half,I64 0]) (He (cs:=[U8 3,I64 2,I64 m.G3,I64 m.Tier,U8 m.Half,I64 0]) [(0,1),(1,1),(2,3),(5,1)] [U8 0,I64 0,I64 0,I64 0,U8 0,I64 0] [.int .u8 0,E0,E0,E0,.int .u8 0,E0] Ym G03 (zzQ O) O O) O (JLh (.agg [U8 3,I64 2,I64 m.G3,I64 m.Tier,U8 m.Half,I64 0,I64 0]) (He (cs:=[U8 3,I64 2,I64 m.G3,I64 m.Tier,U8 m.Half,I64 0,I64 0]) [(0,6),(6,1)] Ko [.int .u8 0,E0,E0,E0,.int .u8 0,E0,E0] Zj G3b (zzQ O) O O) O (JLh (LS 7 H2.av [(H2.mk (Move.mk 2 1 c 0) 315),(H2.mk (Move.mk 1 0 (Slot.mk 0 0 0) 0) 312),(H2.mk (Move.mk 2 2 d 0) 0),(H2.mk (Move.mk 1 0 (Slot.mk 0 0 0) 0) 0),(H2.mk (Move.mk 2 1 i 0) 0),(H2.mk (Move.mk 3 3 j 0) 318),(H2.mk (Move.mk 3 3 k 0) 0),(H2.mk (Move.mk 3 2 l 0) 315),(H2.mk (Move.mk 4 0 (Slot.mk 0 0 0) 0) 0),(H2.mk (Move.mk 3 2 m 0) 0)]) (Hd (xs:=[.agg [U8 2,I64 1,I64 c.G3,I64 c.Tier,U8 c.Half,I64 0,I64 315],.agg Kp,.agg [U8 2,I64 2,I64 d.G3,I64 d.Tier,U8 d.Half,I64 0,I64 0],.agg Kr,.agg [U8 2,I64 1,I64 i.G3,I64 i.Tier,U8 i.Half,I64 0,I64 0],.agg [U8 3,I64 3,I64 j.G3,I64 j.Tier,U8 j.Half,I64 0,I64 318],.agg [U8 3,I64 3,I64 k.G3,I64 k.Tier,U8 k.Half,I64 0,I64 0],.agg [U8 3,I64 2,I64 l.G3,I64 l.Tier,U8 l.Half,I64 0,I64 315],.agg Kq,.agg [U8 3,I64 2,I64 m.G3,I64 m.Tier,U8 m.Half,I64 0,I64 0]]) O ⟨O,O,O,O,O,O,O,O,O,O,O,O,O,O,O,O,O,O,O,O,ø⟩ J1f Q0d O O O O) O (JLl J1f O O O fun b4=>(JLm (I64 0) O (G5 (a6 ?_)))))))
  refine Gq ?_
  obtain⟨e4,b5,b6,a5,h⟩:=Jd h
  refine Hn (fun p (b:Gc)=>each e4 b5 (List.drop p [(H2.mk (Move.mk 2 1 c 0) 315),(H2.mk (Move.mk 1 0 (Slot.mk 0 0 0) 0) 312),(H2.mk (Move.mk 2 2 d 0) 0),(H2.mk (Move.mk 1 0 (Slot.mk 0 0 0) 0) 0),(H2.mk (Move.mk 2 1 i 0) 0),(H2.mk (Move.mk 3 3 j 0) 318),(H2.mk (Move.mk 3 3 k 0) 0),(H2.mk (Move.mk 3 2 l 0) 315),(H2.mk (Move.mk 4 0 (Slot.mk 0 0 0) 0) 0),(H2.mk (Move.mk 3 2 m 0) 0)]) p b=some r) (fun p b=>[(4,.ptr 1202 0),(54,LS 7 H2.av [(H2.mk (Move.mk 2 1 c 0) 315),(H2.mk (Move.mk 1 0 (Slot.mk 0 0 0) 0) 312),(H2.mk (Move.mk 2 2 d 0) 0),(H2.mk (Move.mk 1 0 (Slot.mk 0 0 0) 0) 0),(H2.mk (Move.mk 2 1 i 0) 0),(H2.mk (Move.mk 3 3 j 0) 318),(H2.mk (Move.mk 3 3 k 0) 0),(H2.mk (Move.mk 3 2 l 0) 315),(H2.mk (Move.mk 4 0 (Slot.mk 0 0 0) 0) 0),(H2.mk (Move.mk 3 2 m 0) 0)]),(55,I64 ([(H2.mk (Move.mk 2 1 c 0) 315),(H2.mk (Move.mk 1 0 (Slot.mk 0 0 0) 0) 312),(H2.mk (Move.mk 2 2 d 0) 0),(H2.mk (Move.mk 1 0 (Slot.mk 0 0 0) 0) 0),(H2.mk (Move.mk 2 1 i 0) 0),(H2.mk (Move.mk 3 3 j 0) 318),(H2.mk (Move.mk 3 3 k 0) 0),(H2.mk (Move.mk 3 2 l 0) 315),(H2.mk (Move.mk 4 0 (Slot.mk 0 0 0) 0) 0),(H2.mk (Move.mk 3 2 m 0) 0)].length:Int)),(56,Em p)]) (fun p b=>[(1202,.box 94 (Kn b)),(1203,TP 90 Slot.kv Box.av b.on),(1204,TP 91 Ks Box.av b.quay),(1205,TP 92 Ks I64 b.open_)]) (fun p=>[(H2.mk (Move.mk 2 1 c 0) 315),(H2.mk (Move.mk 1 0 (Slot.mk 0 0 0) 0) 312),(H2.mk (Move.mk 2 2 d 0) 0),(H2.mk (Move.mk 1 0 (Slot.mk 0 0 0) 0) 0),(H2.mk (Move.mk 2 1 i 0) 0),(H2.mk (Move.mk 3 3 j 0) 318),(H2.mk (Move.mk 3 3 k 0) 0),(H2.mk (Move.mk 3 2 l 0) 315),(H2.mk (Move.mk 4 0 (Slot.mk 0 0 0) 0) 0),(H2.mk (Move.mk 3 2 m 0) 0)].length - p) 0 n.1 h ⟨(.sm O O),⟨fbQ O (.sm O O),fmQ O,fmQ O,fmQ O,ø⟩,rfl⟩ ?_
  clear h
  intro p b a3 e7 e5
  refine Jr fun b7=>(JLh (BL (decide ((p:Int) < ([(H2.mk (Move.mk 2 1 c 0) 315),(H2.mk (Move.mk 1 0 (Slot.mk 0 0 0) 0) 312),(H2.mk (Move.mk 2 2 d 0) 0),(H2.mk (Move.mk 1 0 (Slot.mk 0 0 0) 0) 0),(H2.mk (Move.mk 2 1 i 0) 0),(H2.mk (Move.mk 3 3 j 0) 318),(H2.mk (Move.mk 3 3 k 0) 0),(H2.mk (Move.mk 3 2 l 0) 315),(H2.mk (Move.mk 4 0 (Slot.mk 0 0 0) 0) 0),(H2.mk (Move.mk 3 2 m 0) 0)].length:Int)))) (Jq O O O) O (G5 (b7 (Js fun b8=>Gr O (fun hb=>?_) (fun hb=>?_)))))
  ·
   have a4:=Q5 hb
   obtain⟨q,e6,b9,c0,h⟩:=Hu a3 a4
   replace h:=Zg b6 h
   refine Gn (b8 (Js fun c1=>Gq ?_))
   refine Jr fun c2=>(JLh (.dptr (H2.cs q)) (Hg (f:=H2.av) (xs:=[(H2.mk (Move.mk 2 1 c 0) 315),(H2.mk (Move.mk 1 0 (Slot.mk 0 0 0) 0) 312),(H2.mk (Move.mk 2 2 d 0) 0),(H2.mk (Move.mk 1 0 (Slot.mk 0 0 0) 0) 0),(H2.mk (Move.mk 2 1 i 0) 0),(H2.mk (Move.mk 3 3 j 0) 318),(H2.mk (Move.mk 3 3 k 0) 0),(H2.mk (Move.mk 3 2 l 0) 315),(H2.mk (Move.mk 4 0 (Slot.mk 0 0 0) 0) 0),(H2.mk (Move.mk 3 2 m 0) 0)]) (y:=q) O O O J1f b9 O) O (JLh (.agg (H2.cs q)) (Gk Y81 O O O) O (JLh (.ptr 1004 0) (Hm 1004 7 Q0d O O) O (Ho (u:=.junk) (H7 (u:=.agg (H2.cs q)) (ds:=(H2.cs q)) Rde O O O O O O O O) (G5 (c2 ?_))))))
   refine fzQ [(4,.ptr 1202 0),(7,.dptr (H2.cs q)),(54,LS 7 H2.av [(H2.mk (Move.mk 2 1 c 0) 315),(H2.mk (Move.mk 1 0 (Slot.mk 0 0 0) 0) 312),(H2.mk (Move.mk 2 2 d 0) 0),(H2.mk (Move.mk 1 0 (Slot.mk 0 0 0) 0) 0),(H2.mk (Move.mk 2 1 i 0) 0),(H2.mk (Move.mk 3 3 j 0) 318),(H2.mk (Move.mk 3 3 k 0) 0),(H2.mk (Move.mk 3 2 l 0) 315),(H2.mk (Move.mk 4 0 (Slot.mk 0 0 0) 0) 0),(H2.mk (Move.mk 3 2 m 0) 0)]),(55,I64 ([(H2.mk (Move.mk 2 1 c 0) 315),(H2.mk (Move.mk 1 0 (Slot.mk 0 0 0) 0) 312),(H2.mk (Move.mk 2 2 d 0) 0),(H2.mk (Move.mk 1 0 (Slot.mk 0 0 0) 0) 0),(H2.mk (Move.mk 2 1 i 0) 0),(H2.mk (Move.mk 3 3 j 0) 318),(H2.mk (Move.mk 3 3 k 0) 0),(H2.mk (Move.mk 3 2 l 0) 315),(H2.mk (Move.mk 4 0 (Slot.mk 0 0 0) 0) 0),(H2.mk (Move.mk 3 2 m 0) 0)].length:Int)),(56,Em p)] [(1202,.box 94 (Kn b)),(1203,TP 90 Slot.kv Box.av b.on),(1204,TP 91 Ks Box.av b.quay),(1205,TP 92 Ks I64 b.open_)] 1004 rfl rfl rfl ⟨⟨_,rfl,.boxEq rfl rfl⟩,fmQ O,fmQ O,fmQ O,ø⟩ rfl ?_
   refine Js fun c3=>?_
   refine Qs (l':=[(4,.ptr 1202 0),(7,.dptr (H2.cs q)),(54,LS 7 H2.av [(H2.mk (Move.mk 2 1 c 0) 315),(H2.mk (Move.mk 1 0 (Slot.mk 0 0 0) 0) 312),(H2.mk (Move.mk 2 2 d 0) 0),(H2.mk (Move.mk 1 0 (Slot.mk 0 0 0) 0) 0),(H2.mk (Move.mk 2 1 i 0) 0),(H2.mk (Move.mk 3 3 j 0) 318),(H2.mk (Move.mk 3 3 k 0) 0),(H2.mk (Move.mk 3 2 l 0) 315),(H2.mk (Move.mk 4 0 (Slot.mk 0 0 0) 0) 0),(H2.mk (Move.mk 3 2 m 0) 0)]),(55,I64 ([(H2.mk (Move.mk 2 1 c 0) 315),(H2.mk (Move.mk 1 0 (Slot.mk 0 0 0) 0) 312),(H2.mk (Move.mk 2 2 d 0) 0),(H2.mk (Move.mk 1 0 (Slot.mk 0 0 0) 0) 0),(H2.mk (Move.mk 2 1 i 0) 0),(H2.mk (Move.mk 3 3 j 0) 318),(H2.mk (Move.mk 3 3 k 0) 0),(H2.mk (Move.mk 3 2 l 0) 315),(H2.mk (Move.mk 4 0 (Slot.mk 0 0 0) 0) 0),(H2.mk (Move.mk 3 2 m 0) 0)].length:Int)),(56,Em p)]) (L':=[(1202,.box 94 (Kn b)),(1203,TP 90 Slot.kv Box.av b.on),(1204,TP 91 Ks Box.av b.quay),(1205,TP 92 Ks I64 b.open_)]) ⟨(.sm O O),⟨fbQ O (.sm O O),fmQ O,fmQ O,fmQ O,ø⟩,rfl⟩ ?_
   obtain⟨a,c4,h⟩:=Ge h
   refine Ju [3] [0,0,0,0,0,0,1] [0,0,0,0,1,1,1] [[(1202,.box 94 (Kn b)),(1203,TP 90 Slot.kv Box.av b.on),(1204,TP 91 Ks Box.av b.quay),(1205,TP 92 Ks I64 b.open_)],[(1202,.box 94 [E3 a.2.ship.Columns,E8 a.2.ship.Covers,I64 a.2.ship.Light.Kilos,I64 a.2.ship.Light.X,I64 a.2.ship.Light.Y,I64 a.2.ship.Light.Z,E4 a.2.ship.Rows,E5 a.2.ship.Frames,E6 a.2.ship.Tanks,I64 a.2.ship.G8.Tolerance,I64 a.2.ship.G8.Trim,I64 a.2.ship.G8.List_,I64 a.2.ship.G8.Stability,.mp 1203,.mp 1204,.mp 1205,I64 a.2.lifts]),(1203,TP 90 Slot.kv Box.av a.2.on),(1204,TP 91 Ks Box.av a.2.quay),(1205,TP 92 Ks I64 a.2.open_)]] Ja (by kernel_rfl) rfl rfl ?_
   refine Gf (u:=.ptr 1202 0) O O ⟨Gi (G6 O O) O,ø⟩ (Gf (u:=.dptr (H2.cs q)) O O ⟨Gi (Ga Qf5 O O O) O,ø⟩ (Gf (u:=.agg (Move.cs q.x)) O O ⟨Gi (Gk H19 O O O) O,ø⟩ (D_w (u:=I64 a.1) O O O O (Gi (Z7 (args:=[.ptr 1202 0,.agg (Move.cs q.x)]) (L0:=[(1202,.box 94 (Kn b)),(1203,TP 90 Slot.kv Box.av b.on),(1204,TP 91 Ks Box.av b.quay),(1205,TP 92 Ks I64 b.open_)]) (Lr:=[(1202,.box 94 [E3 a.2.ship.Columns,E8 a.2.ship.Covers,I64 a.2.ship.Light.Kilos,I64 a.2.ship.Light.X,I64 a.2.ship.Light.Y,I64 a.2.ship.Light.Z,E4 a.2.ship.Rows,E5 a.2.ship.Frames,E6 a.2.ship.Tanks,I64 a.2.ship.G8.Tolerance,I64 a.2.ship.G8.Trim,I64 a.2.ship.G8.List_,I64 a.2.ship.G8.Stability,.mp 1203,.mp 1204,.mp 1205,I64 a.2.lifts]),(1203,TP 90 Slot.kv Box.av a.2.on),(1204,TP 91 Ks Box.av a.2.quay),(1205,TP 92 Ks I64 a.2.open_)]) O (J44 b q.x a c4) Q8f ⟨.inl O,O,.inl O,O,ø⟩ ⟨O,O,O,O,ø⟩ O O O) O) (Gf (u:=.dptr [I64 q.e]) O O ⟨Gi (Ga J73 O O O) O,Gi (Ga J73 O O O) O,ø⟩ (Gf (u:=I64 q.e) O O ⟨Gi (Gg He7 O O O) O,Gi (Gg He7 O O O) O,ø⟩ (Gf (u:=BL (decide (a.1≠q.e))) O O ⟨Gi (H0a O O O) O,ø⟩ (Rz ?_)))))))
   refine c3 (JCc O h (fun h hb=>?_) (fun h hb=>?_))
   ·
    refine Jr fun c5=>(JLm (BL false) O (G5 (c5 (Gs (fin1 BL h)))))
   ·
    refine Gn (c1 (G2 (JLh (I64 ((p+1:Nat):Int)) (Jb (Hp a4 b4) O O O) O (JLm (I64 ((p+1:Nat):Int)) O (G5 (e5 _ _ (p+1) a.2 (app1 c0 h) (by omega) ⟨(.sm O O),⟨fbQ O (.sm O O),fmQ O,fmQ O,fmQ O,ø⟩,rfl⟩))))))
  ·
   have h:=app1 a5 (Hv a3 (Hj hb))
   refine Hq (e3 (Jr fun c6=>(JLm (.ptr 1202 0) O ?_)))
   obtain⟨v,c7,h⟩:=Ge h
   refine JLh (I64 v) (Ga0 (args:=[.dptr (Gc.cs b)]) O (Hab b v c7) Q8d ⟨.ptrL O (dnQ 13 O O ⟨.mp O,.mp O,.mp O,.data O O,ø⟩),ø⟩ O) O (JLh (BL (decide (v=4))) (Qm O O O) O (JLm (BL (decide (v=4))) O (JLo (.ptr 1202 0) [] O .sct ø (fun hc=>G6 O O) O ?_)))
   obtain⟨a0,c8,h⟩:=Ge h
   refine JLo (E2 a0) [72] O .sct ⟨Ua,ø⟩ (fun hc=>Gb3 (args:=[.dptr (Gc.cs b)]) (g:=I64) (r:=a0) O (H8c b a0 (H5 hc c8)) Q88 ⟨.ptrL O (dnQ 13 O O ⟨.mp O,.mp O,.mp O,.data O O,ø⟩),ø⟩ (fun _=>O)) O (JLo (E2 [1]) [] O .sct ø (fun hc=>Hd (xs:=[I64 1]) O ⟨O,O,ø⟩ H0 Y8 O O O O) O ?_)
   obtain⟨z,c9,h⟩:=Ge h
   refine JLo (BL z) [73,74] O .sct ⟨Ua,Ua,ø⟩ (fun hc=>Gw (args:=[E2 a0,E2 [1]]) O (Gb5 a0 [1] z (H5 hc c9)) Q89 ⟨O,O,O,O,ø⟩) O (JLh (BL ((decide (v=4))&&z)) (Y3 O O O O) O (JLm (BL ((decide (v=4))&&z)) O (JLo (.ptr 1202 0) [] O .sct ø (fun hc=>G6 O O) O ?_)))
   obtain⟨w,d0,h⟩:=Ge h
   refine JLo (E2 w) [78] O .sct ⟨Ua,ø⟩ (fun hc=>Gb3 (args:=[.dptr (Gc.cs b)]) (g:=I64) (r:=w) O (Hda b w (H5 hc d0)) Q8a ⟨.ptrL O (dnQ 13 O O ⟨.mp O,.mp O,.mp O,.data O O,ø⟩),ø⟩ (fun _=>O)) O (JLo (Em w.length) [79] O .sct ⟨Ua,ø⟩ (fun hc=>H55 (f:=I64) (xs:=w) H0 O O) O (JLo (BL (decide ((w.length:Int)=0))) [80] O .sct ⟨Ua,ø⟩ (fun hc=>Qm O O O) O (JLh (BL (((decide (v=4))&&z)&&(decide ((w.length:Int)=0)))) (Y3 O O O O) O (JLm (BL (((decide (v=4))&&z)&&(decide ((w.length:Int)=0)))) O (JLo (.ptr 1202 0) [] O .sct ø (fun hc=>G6 O O) O ?_)))))
   obtain⟨a1,d1,h⟩:=Ge h
   refine JLo (E1 a1) [84] O .sct ⟨Ua,ø⟩ (fun hc=>Gb3 (args:=[.dptr (Gc.cs b)]) (g:=G1.av) (r:=a1) O (Haa.down b a1 (H5 hc d1)) Q8b ⟨.ptrL O (dnQ 13 O O ⟨.mp O,.mp O,.mp O,.data O O,ø⟩),ø⟩ (fun _=>O)) O ?_
   obtain⟨s,d2,h⟩:=Ge h
   refine JLo (.agg (Slot.cs s)) [] O .sct ø (fun hc=>Gw (args:=[I64 3,I64 0]) O (Jz 3 0 s (H5 hc d2)) G1f ⟨O,O,O,O,ø⟩) O (JLo (.agg [I64 2,I64 s.G3,I64 s.Tier,U8 s.Half]) [86] O .sct ⟨Ua,ø⟩ (fun hc=>He (cs:=[I64 2,I64 s.G3,I64 s.Tier,U8 s.Half]) [(0,1),(1,3)] [I64 0,I64 0,I64 0,U8 0] [E0,E0,E0,.int .u8 0] G2b G86 (zzQ O) O O) O ?_)
   obtain⟨t,d3,h⟩:=Ge h
   refine JLo (.agg (Slot.cs t)) [] O .sct ø (fun hc=>Gw (args:=[I64 0,I64 0]) O (Jz 0 0 t (H5 hc d3)) G1f ⟨O,O,O,O,ø⟩) O (JLo (.agg [I64 3,I64 t.G3,I64 t.Tier,U8 t.Half]) [88] O .sct ⟨Ua,ø⟩ (fun hc=>He (cs:=[I64 3,I64 t.G3,I64 t.Tier,U8 t.Half]) [(0,1),(1,3)] [I64 0,I64 0,I64 0,U8 0] [E0,E0,E0,.int .u8 0] G2b G86 (zzQ O) O O) O (JLo (E1 [(G1.mk 2 s),(G1.mk 3 t)]) [87,89] O .sct ⟨Ua,Ua,ø⟩ (fun hc=>Hd (xs:=[.agg [I64 2,I64 s.G3,I64 s.Tier,U8 s.Half],.agg [I64 3,I64 t.G3,I64 t.Tier,U8 t.Half]]) O ⟨O,O,O,O,ø⟩ H1 Jx O O O O) O ?_))
   obtain⟨a2,d4,h⟩:=Ge h
   refine JLo (BL a2) [85,90] O .sct ⟨Ua,Ua,ø⟩ (fun hc=>Gw (args:=[E1 a1,E1 [(G1.mk 2 s),(G1.mk 3 t)]]) O (G65 a1 [(G1.mk 2 s),(G1.mk 3 t)] a2 (H5 hc d4)) Q8c ⟨O,O,O,O,ø⟩) O (JLh (BL ((((decide (v=4))&&z)&&(decide ((w.length:Int)=0)))&&a2)) (Y3 O O O O) O (JLm (BL ((((decide (v=4))&&z)&&(decide ((w.length:Int)=0)))&&a2)) O (G5 (c6 (Gs (fin1 BL h))))))
end
end Go.Proofs.YtgcpimpnpcdmmaaGreat
