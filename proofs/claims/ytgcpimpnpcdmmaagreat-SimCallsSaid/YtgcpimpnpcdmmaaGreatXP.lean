/- Walks of functions. -/
import Derived.Test.YtgcpimpnpcdmmaaGreatXB
set_option maxRecDepth 100000
set_option maxHeartbeats 1000000
set_option linter.unusedVariables false
set_option linter.unusedSimpArgs false
namespace Go.Proofs.YtgcpimpnpcdmmaaGreat
open Go.RowKit
noncomputable section

namespace XPF
open XAF
open XCF
open XSF
open XKF
open XTF
open XUF
open XVF
open XMF
open XBF
theorem Q90:Gz En 11=true:=by kernel_rfl
theorem Y07:Gz En 17=true:=by kernel_rfl
theorem Y06:Gz En 23=true:=by kernel_rfl
theorem Y80:Gz En 6=true:=by kernel_rfl
theorem Y7f:Gz En 7=true:=by kernel_rfl
theorem Y7e:Gz En 8=true:=by kernel_rfl
end XPF
open XAF
open XCF
open XSF
open XKF
open XTF
open XUF
open XVF
open XMF
open XBF
open XPF

def Zd (F:Nat) (places:List Hi) (covers:Int) (items:List Hc):Option Bool:=
 bnd (G13) fun r=>
 bif (!r) then
 (some false)
 else
 (bnd (Yt F places covers items) fun h=>
  each (fun e s (f:(List G1)) j=>
   bnd (Gaf F h.1 h.2.1 f e) fun b=>
   bnd (Ro e f) fun q=>
   bnd (Geb h.1 h.2.1 f q) fun i=>
   chk (b.2+i.2) fun k=>
   bif decide (k≠0) then
   (some false)
   else
   (bnd (G9d i.1 b.1) fun a=>
    bnd (bif (!((decide (a.2.1≠0))||(decide (a.1≠(b.1.length:Int))))) then G06 a.2.2 else some default) fun l=>
    bnd (bif (!((decide (a.2.1≠0))||(decide (a.1≠(b.1.length:Int))))) then Q8 l e else some default) fun c=>
    bnd (bif (!(((decide (a.2.1≠0))||(decide (a.1≠(b.1.length:Int))))||(!c))) then Zu a.2.2 else some default) fun d=>
    bnd (bif (!((((decide (a.2.1≠0))||(decide (a.1≠(b.1.length:Int))))||(!c))||(decide ((d.length:Int)≠0)))) then Yx a.2.2 else some default) fun m=>
    bnd (bif (!((((decide (a.2.1≠0))||(decide (a.1≠(b.1.length:Int))))||(!c))||(decide ((d.length:Int)≠0)))) then Ro f e else some default) fun n=>
    bnd (bif (!((((decide (a.2.1≠0))||(decide (a.1≠(b.1.length:Int))))||(!c))||(decide ((d.length:Int)≠0)))) then Qj m n else some default) fun g=>
    bnd (bif (!(((((decide (a.2.1≠0))||(decide (a.1≠(b.1.length:Int))))||(!c))||(decide ((d.length:Int)≠0)))||(!g))) then G69 a.2.2 else some default) fun o=>
    bnd (bif (!(((((decide (a.2.1≠0))||(decide (a.1≠(b.1.length:Int))))||(!c))||(decide ((d.length:Int)≠0)))||(!g))) then Gca b.1 else some default) fun p=>
    bif ((((((decide (a.2.1≠0))||(decide (a.1≠(b.1.length:Int))))||(!c))||(decide ((d.length:Int)≠0)))||(!g))||(decide (o≠p))) then
    (some false)
    else
    (j e)))
  (fun(f:(List G1))=>
   some (decide ((h.2.2.States.length:Int)=4))) h.2.2.States 0 [])
theorem H62 (F:Nat) (places:List Hi) (covers:Int) (items:List Hc) (r:Bool) (h:Zd F places covers items=some r):Pure En 4 [Ed places,.sc (.int .u32 covers),Ec items] (·=BL r):=by
 unfold Zd at h
 refine Gx [.tmp 6] Tryz.func4 O O (Jr fun d5=>(JLm (BL false) O (G5 (d5 (Js fun d6=>Jr fun d7=>?_)))))
 obtain⟨r4,d8,h⟩:=Ge h
 refine JLh (BL r4) (Gw O (Hbe  r4 d8) Y80 ø) O (JLh (BL (!r4)) (Yc (b:=r4) O O) O (G5 (d7 (JCc O h (fun h hb=>?_) (fun h hb=>?_)))))
 ·
  refine Jr fun d9=>(JLm (BL false) O (G5 (d9 (Gs (fin1 BL h)))))
 ·
  refine Gn (d6 (Jr fun e0=>(JLm (Ed places) O (JLm (.sc (.int .u32 covers)) O (JLm (Ec items) O ?_)))))
  obtain⟨d,e1,h⟩:=Ge h
  refine JLh (.tup [.agg (Gh.cs d.1),E7 d.2.1,.agg [LS 1 (E1) d.2.2.States,LS 1 (E2) d.2.2.Water]]) (Gw O (H96 F places covers items d e1) Y7f ⟨O,O,O,O,O,O,ø⟩) O (JLm (.tup [.agg (Gh.cs d.1),E7 d.2.1,.agg [LS 1 (E1) d.2.2.States,LS 1 (E2) d.2.2.Water]]) O (JLh (.agg (Gh.cs d.1)) (H3 O O O) O (JLh (E7 d.2.1) (H3 O O O) O (JLh (.agg [LS 1 (E1) d.2.2.States,LS 1 (E2) d.2.2.Water]) (H3 O O O) O (JLh (.ptr 1001 0) (Hm 1001 13 J1d O O) O (JLh (.ptr 1002 0) (Hm 1002 2 J1c O O) O (Ho (u:=.junk) (H7 (u:=.agg (Gh.cs d.1)) (ds:=(Gh.cs d.1)) G88 O O O O O O O O) (JLm (E7 d.2.1) O (Ho (u:=.junk) (H7 (u:=.agg [LS 1 (E1) d.2.2.States,LS 1 (E2) d.2.2.Water]) (ds:=[LS 1 (E1) d.2.2.States,LS 1 (E2) d.2.2.Water]) G87 O O O O O O O O) (G5 (e0 ?_)))))))))))
  refine Gp [(7,Ee d.1),(8,E7 d.2.1),(9,.ptr 1002 0)] [(1002,.box 41 [LS 1 (E1) d.2.2.States,LS 1 (E2) d.2.2.Water])] 1001 rfl rfl rfl ⟨⟨_,rfl,.boxEq rfl rfl⟩,ø⟩ rfl (by exact⟨.ptr,.conv (.same rfl),.conv (.same rfl),ø⟩) (Gp [(7,Ee d.1),(8,E7 d.2.1),(9,.dptr [LS 1 (E1) d.2.2.States,LS 1 (E2) d.2.2.Water])] [] 1002 rfl rfl rfl ø rfl (by exact⟨.conv (.same rfl),.conv (.same rfl),.ptr,ø⟩) (Jr fun e2=>(JLh (E1 ([]:List G1)) (Ji 4 O O) O (G5 (e2 (Js fun e3=>?_))))))
  refine Jr fun c1=>(JLh (.dptr [LS 1 (E1) d.2.2.States,LS 1 (E2) d.2.2.Water]) (Ga H2e O O O) O (JLh (LS 1 (E1) d.2.2.States) (Gg Ga3 O O O) O (JLl Re O O O fun c2=>(JLm (I64 0) O (G5 (c1 (Gq ?_)))))))
  obtain⟨e4,c3,c4,a1,h⟩:=Jd h
  refine Hn (fun m (j:(List G1))=>each e4 c3 (List.drop m d.2.2.States) m j=some r) (fun m j=>[(7,Ee d.1),(8,E7 d.2.1),(9,.dptr [LS 1 (E1) d.2.2.States,LS 1 (E2) d.2.2.Water]),(10,E1 j),(30,LS 1 (E1) d.2.2.States),(31,Em d.2.2.States.length),(32,Em m)]) (fun m j=>[]) (fun m=>d.2.2.States.length - m) 0 [] h ⟨(.sm O O),ø,rfl⟩ ?_
  clear h
  intro m j w e8 e5
  refine Jr fun c5=>(JLh (BL (decide ((m:Int) < (d.2.2.States.length:Int)))) (Jq O O O) O (G5 (c5 (Js fun c6=>Gr O (fun hb=>?_) (fun hb=>?_)))))
  ·
   have x:=Q5 hb
   obtain⟨i,e7,c7,c8,h⟩:=Hu w x
   replace h:=Zg c4 h
   refine Gn (c6 (Js fun c9=>Gq (Jr fun d0=>(JLh (.dptr [E1 i]) (Hg (f:=(E1)) (xs:=d.2.2.States) (y:=i) O O O Re c7 O) O (JLh (E1 i) (Gg Gf1 O O O) O (JLm (E1 i) O (G5 (d0 (Jr fun d1=>(JLh (.agg (Gh.cs d.1)) (Gk Jh O O O) O (JLm (E7 d.2.1) O (JLm (E1 j) O (JLm (E1 i) O ?_)))))))))))))
   obtain⟨e,d2,h⟩:=Ge h
   refine JLh (.tup [Ea e.1,I64 e.2]) (Gw O (Qdf F d.1 d.2.1 j i e d2) Y7e ⟨O,O,O,O,O,O,O,O,ø⟩) O (JLm (.tup [Ea e.1,I64 e.2]) O (JLh (Ea e.1) (H3 O O O) O (JLh (I64 e.2) (H3 O O O) O (JLm (Ea e.1) O (JLm (I64 e.2) O (G5 (d1 (Js fun d3=>?_))))))))
   obtain⟨v,d4,h⟩:=Ge h
   obtain⟨a,a2,h⟩:=Ge h
   refine Ju [6] [0,0,0,0,0,0,0,1,1,1,1,1] [0,0,0,0,0,0,0,1,1,1,1,1] [[],[(1202,.box 94 [E3 a.1.ship.Columns,E8 a.1.ship.Covers,I64 a.1.ship.Light.Kilos,I64 a.1.ship.Light.X,I64 a.1.ship.Light.Y,I64 a.1.ship.Light.Z,E4 a.1.ship.Rows,E5 a.1.ship.Frames,E6 a.1.ship.Tanks,I64 a.1.ship.G8.Tolerance,I64 a.1.ship.G8.Trim,I64 a.1.ship.G8.List_,I64 a.1.ship.G8.Stability,.mp 1203,.mp 1204,.mp 1205,I64 a.1.lifts]),(1203,TP 90 Slot.kv Box.av a.1.on),(1204,TP 91 Ks Box.av a.1.quay),(1205,TP 92 Ks I64 a.1.open_)]] Ja (by kernel_rfl) rfl rfl ?_
   refine Gf (u:=.agg (Gh.cs d.1)) O O ⟨Gi (Gk Jh O O O) O,ø⟩ (Gf (u:=E7 d.2.1) O O ⟨Gi (G6 O O) O,ø⟩ (Gf (u:=E1 j) O O ⟨Gi (G6 O O) O,ø⟩ (Gf (u:=E1 i) O O ⟨Gi (G6 O O) O,ø⟩ (Gf (u:=E1 j) O O ⟨Gi (G6 O O) O,ø⟩ (Gf (u:=E2 v) O O ⟨Gi (Gw O (Gb4 i j v d4) Q90 ⟨O,O,O,O,ø⟩) O,ø⟩ (D_w (u:=.tup [.ptr 1202 0,I64 a.2]) O O O O (Gi (Z7 (args:=[.agg (Gh.cs d.1),E7 d.2.1,E1 j,E2 v]) (L0:=[]) (Lr:=[(1202,.box 94 [E3 a.1.ship.Columns,E8 a.1.ship.Covers,I64 a.1.ship.Light.Kilos,I64 a.1.ship.Light.X,I64 a.1.ship.Light.Y,I64 a.1.ship.Light.Z,E4 a.1.ship.Rows,E5 a.1.ship.Frames,E6 a.1.ship.Tanks,I64 a.1.ship.G8.Tolerance,I64 a.1.ship.G8.Trim,I64 a.1.ship.G8.List_,I64 a.1.ship.G8.Stability,.mp 1203,.mp 1204,.mp 1205,I64 a.1.lifts]),(1203,TP 90 Slot.kv Box.av a.1.on),(1204,TP 91 Ks Box.av a.1.quay),(1205,TP 92 Ks I64 a.1.open_)]) O (J7d d.1 d.2.1 j v a a2) Q91 ⟨.inl O,O,.inl O,O,.inl O,O,.inl O,O,ø⟩ ø O O O) O) (Gf (u:=.tup [.ptr 1202 0,I64 a.2]) O O ⟨Gi (G6 O O) O,ø⟩ (Gf (u:=.ptr 1202 0) O O ⟨Gi (H3 O O O) O,ø⟩ (Gf (u:=I64 a.2) O O ⟨Gi (H3 O O O) O,ø⟩ (Gf (u:=.ptr 1202 0) O O ⟨Gi (G7 O O) O,ø⟩ (Gf (u:=I64 a.2) O O ⟨Gi (G7 O O) O,ø⟩ (Rz ?_))))))))))))
   refine d3 (Js fun a3=>Jr fun a4=>(JLm (I64 e.2) O (JLm (I64 a.2) O ?_)))
   obtain⟨z,a5,h⟩:=J6 h
   refine JLh (I64 z) (Jb a5 O O O) O (JLh (BL (decide (z≠0))) (H0a O O O) O (G5 (a4 (JCc O h (fun h hb=>?_) (fun h hb=>?_)))))
   ·
    refine Jr fun a6=>(JLm (BL false) O (G5 (a6 (Gs (fin1 BL h)))))
   ·
    refine Gn (a3 (Jr fun a7=>(JLm (.ptr 1202 0) O (JLm (Ea e.1) O ?_))))
    obtain⟨c,a8,h⟩:=Ge h
    refine JLh (.tup [I64 c.1,I64 c.2.1]) (Z7 (args:=[.ptr 1202 0,Ea e.1]) (L0:=[(1202,.box 94 [E3 a.1.ship.Columns,E8 a.1.ship.Covers,I64 a.1.ship.Light.Kilos,I64 a.1.ship.Light.X,I64 a.1.ship.Light.Y,I64 a.1.ship.Light.Z,E4 a.1.ship.Rows,E5 a.1.ship.Frames,E6 a.1.ship.Tanks,I64 a.1.ship.G8.Tolerance,I64 a.1.ship.G8.Trim,I64 a.1.ship.G8.List_,I64 a.1.ship.G8.Stability,.mp 1203,.mp 1204,.mp 1205,I64 a.1.lifts]),(1203,TP 90 Slot.kv Box.av a.1.on),(1204,TP 91 Ks Box.av a.1.quay),(1205,TP 92 Ks I64 a.1.open_)]) (Lr:=[(1202,.box 94 [E3 c.2.2.ship.Columns,E8 c.2.2.ship.Covers,I64 c.2.2.ship.Light.Kilos,I64 c.2.2.ship.Light.X,I64 c.2.2.ship.Light.Y,I64 c.2.2.ship.Light.Z,E4 c.2.2.ship.Rows,E5 c.2.2.ship.Frames,E6 c.2.2.ship.Tanks,I64 c.2.2.ship.G8.Tolerance,I64 c.2.2.ship.G8.Trim,I64 c.2.2.ship.G8.List_,I64 c.2.2.ship.G8.Stability,.mp 1203,.mp 1204,.mp 1205,I64 c.2.2.lifts]),(1203,TP 90 Slot.kv Box.av c.2.2.on),(1204,TP 91 Ks Box.av c.2.2.quay),(1205,TP 92 Ks I64 c.2.2.open_)]) O (Q07 a.1 e.1 c a8) Y07 ⟨.inl O,O,.inl O,O,ø⟩ ⟨O,O,O,O,ø⟩ O O O) O (JLm (.tup [I64 c.1,I64 c.2.1]) O (JLh (I64 c.1) (H3 O O O) O (JLh (I64 c.2.1) (H3 O O O) O (JLm (I64 c.1) O (JLm (I64 c.2.1) O (G5 (a7 ?_)))))))
    refine Js fun a9=>Jr fun b0=>(JLm (I64 c.2.1) O (JLh (BL (decide (c.2.1≠0))) (H0a O O O) O (JLm (BL (decide (c.2.1≠0))) O (JLo (I64 c.1) [] O .scf ø (fun hc=>G6 O O) O (JLo (Ea e.1) [] O .scf ø (fun hc=>G6 O O) O (JLo (Em e.1.length) [68] O .scf ⟨Ua,ø⟩ (fun hc=>H55 (f:=Move.av) (xs:=e.1) G15 O O) O (JLo (BL (decide (c.1≠(e.1.length:Int)))) [67,69] O .scf ⟨Ua,Ua,ø⟩ (fun hc=>H0a O O O) O (JLh (BL ((decide (c.2.1≠0))||(decide (c.1≠(e.1.length:Int))))) (G7e O O O O) O (JLm (BL ((decide (c.2.1≠0))||(decide (c.1≠(e.1.length:Int))))) O (JLo (.ptr 1202 0) [] O .scf ø (fun hc=>G6 O O) O ?_))))))))))
    obtain⟨o,b1,h⟩:=Ge h
    refine JLo (E1 o) [73] O .scf ⟨Ua,ø⟩ (fun hc=>Gb3 (args:=[.dptr (Gc.cs c.2.2)]) (g:=G1.av) (r:=o) O (Haa.down c.2.2 o (H5 hc b1)) Q8b ⟨.ptrL O (dnQ 13 O O ⟨.mp O,.mp O,.mp O,.data O O,ø⟩),ø⟩ (fun _=>O)) O (JLo (E1 i) [] O .scf ø (fun hc=>G6 O O) O ?_)
    obtain⟨k,b2,h⟩:=Ge h
    refine JLo (BL k) [74,75] O .scf ⟨Ua,Ua,ø⟩ (fun hc=>Gw (args:=[E1 o,E1 i]) O (G65 o i k (H5 hc b2)) Q8c ⟨O,O,O,O,ø⟩) O (JLo (BL (!k)) [76] O .scf ⟨Ua,ø⟩ (fun hc=>Yc (b:=k) O O) O (JLh (BL (((decide (c.2.1≠0))||(decide (c.1≠(e.1.length:Int))))||(!k))) (G7e O O O O) O (JLm (BL (((decide (c.2.1≠0))||(decide (c.1≠(e.1.length:Int))))||(!k))) O (JLo (.ptr 1202 0) [] O .scf ø (fun hc=>G6 O O) O ?_))))
    obtain⟨l,b3,h⟩:=Ge h
    refine JLo (E2 l) [80] O .scf ⟨Ua,ø⟩ (fun hc=>Gb3 (args:=[.dptr (Gc.cs c.2.2)]) (g:=I64) (r:=l) O (Hda c.2.2 l (H5 hc b3)) Q8a ⟨.ptrL O (dnQ 13 O O ⟨.mp O,.mp O,.mp O,.data O O,ø⟩),ø⟩ (fun _=>O)) O (JLo (Em l.length) [81] O .scf ⟨Ua,ø⟩ (fun hc=>H55 (f:=I64) (xs:=l) H0 O O) O (JLo (BL (decide ((l.length:Int)≠0))) [82] O .scf ⟨Ua,ø⟩ (fun hc=>H0a O O O) O (JLh (BL ((((decide (c.2.1≠0))||(decide (c.1≠(e.1.length:Int))))||(!k))||(decide ((l.length:Int)≠0)))) (G7e O O O O) O (JLm (BL ((((decide (c.2.1≠0))||(decide (c.1≠(e.1.length:Int))))||(!k))||(decide ((l.length:Int)≠0)))) O (JLo (.ptr 1202 0) [] O .scf ø (fun hc=>G6 O O) O ?_)))))
    obtain⟨p,b4,h⟩:=Ge h
    refine JLo (E2 p) [86] O .scf ⟨Ua,ø⟩ (fun hc=>Gb3 (args:=[.dptr (Gc.cs c.2.2)]) (g:=I64) (r:=p) O (H8c c.2.2 p (H5 hc b4)) Q88 ⟨.ptrL O (dnQ 13 O O ⟨.mp O,.mp O,.mp O,.data O O,ø⟩),ø⟩ (fun _=>O)) O (JLo (E1 j) [] O .scf ø (fun hc=>G6 O O) O (JLo (E1 i) [] O .scf ø (fun hc=>G6 O O) O ?_))
    obtain⟨q,b5,h⟩:=Ge h
    refine JLo (E2 q) [88,89] O .scf ⟨Ua,Ua,ø⟩ (fun hc=>Gw (args:=[E1 j,E1 i]) O (Gb4 j i q (H5 hc b5)) Q90 ⟨O,O,O,O,ø⟩) O ?_
    obtain⟨n,b6,h⟩:=Ge h
    refine JLo (BL n) [87,90] O .scf ⟨Ua,Ua,ø⟩ (fun hc=>Gw (args:=[E2 p,E2 q]) O (Gb5 p q n (H5 hc b6)) Q89 ⟨O,O,O,O,ø⟩) O (JLo (BL (!n)) [91] O .scf ⟨Ua,ø⟩ (fun hc=>Yc (b:=n) O O) O (JLh (BL (((((decide (c.2.1≠0))||(decide (c.1≠(e.1.length:Int))))||(!k))||(decide ((l.length:Int)≠0)))||(!n))) (G7e O O O O) O (JLm (BL (((((decide (c.2.1≠0))||(decide (c.1≠(e.1.length:Int))))||(!k))||(decide ((l.length:Int)≠0)))||(!n))) O (JLo (.ptr 1202 0) [] O .scf ø (fun hc=>G6 O O) O ?_))))
    obtain⟨s,b7,h⟩:=Ge h
    refine JLo (I64 s) [95] O .scf ⟨Ua,ø⟩ (fun hc=>Ga0 (args:=[.dptr (Gc.cs c.2.2)]) O (Hab c.2.2 s (H5 hc b7)) Q8d ⟨.ptrL O (dnQ 13 O O ⟨.mp O,.mp O,.mp O,.data O O,ø⟩),ø⟩ O) O (JLo (Ea e.1) [] O .scf ø (fun hc=>G6 O O) O ?_)
    obtain⟨t,b8,h⟩:=Ge h
    refine JLo (I64 t) [97] O .scf ⟨Ua,ø⟩ (fun hc=>Gw (args:=[Ea e.1]) O (Q53 e.1 t (H5 hc b8)) Y06 ⟨O,O,ø⟩) O (JLo (BL (decide (s≠t))) [96,98] O .scf ⟨Ua,Ua,ø⟩ (fun hc=>H0a O O O) O (JLh (BL ((((((decide (c.2.1≠0))||(decide (c.1≠(e.1.length:Int))))||(!k))||(decide ((l.length:Int)≠0)))||(!n))||(decide (s≠t)))) (G7e O O O O) O (G5 (b0 (JCc O h (fun h hb=>?_) (fun h hb=>?_))))))
    ·
     refine Jr fun b9=>(JLm (BL false) O (G5 (b9 (Gs (fin1 BL h)))))
    ·
     refine Gn (a9 (G2 (JLm (E1 i) O (JLm (E1 i) O (G5 (c9 (G2 (JLh (I64 ((m+1:Nat):Int)) (Jb (Hp x c2) O O O) O (JLm (I64 ((m+1:Nat):Int)) O (G5 (e5 _ _ (m+1) i (app1 c8 h) (by omega) ⟨(.sm O O),ø,rfl⟩)))))))))))
  ·
   have h:=app1 a1 (Hv w (Hj hb))
   refine Hq (e3 (Jr fun c0=>(JLh (.dptr [LS 1 (E1) d.2.2.States,LS 1 (E2) d.2.2.Water]) (Ga H2e O O O) O (JLh (LS 1 (E1) d.2.2.States) (Gg Ga3 O O O) O (JLl Re O O O fun e6=>(JLh (BL (decide ((d.2.2.States.length:Int)=4))) (Qm O O O) O (JLm (BL (decide ((d.2.2.States.length:Int)=4))) O (G5 (c0 (Gs (fin1 BL h)))))))))))
end
end Go.Proofs.YtgcpimpnpcdmmaaGreat
