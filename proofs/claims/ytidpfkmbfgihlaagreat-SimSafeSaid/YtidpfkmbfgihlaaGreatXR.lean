/- Walks of functions. -/
import Derived.Test.YtidpfkmbfgihlaaGreatXRa
set_option maxRecDepth 100000
set_option maxHeartbeats 1000000
set_option linter.unusedVariables false
set_option linter.unusedSimpArgs false
namespace Go.Proofs.YtidpfkmbfgihlaaGreat
open Go.RowKit
noncomputable section
open XAF
open XCF
open XSF
open XKF
open XTF
open XUF
open XBF
open XPF
open XJF
open XQF
open XRF

def Z0 (F:Nat) (places:List H8) (covers:Int) (drops:List Gv) (steps:List Hd):Option Bool:=
 bnd (Yn) fun r4=>
 bif (!r4) then
 (some false)
 else
 (bnd (Qs places covers drops) fun f=>
  bnd (bif (!false) then Ys f.1 f.2.1 f.2.2.2 else some default) fun a6=>
  bif (false||(!a6)) then
  (some false)
  else
  (bnd (J21 (min (steps.length:Int) 30) steps.length) fun a7=>
   each (fun s a9 (g:Gb) r=>
    bnd (R0 g) fun c=>
    bnd (Ry g) fun d=>
    bnd (Qp g) fun n=>
    bnd (Rz g) fun t=>
    bnd (Yt s f.1 f.2.1 g) fun b=>
    bnd (G1f g b) fun a=>
    bnd (Ys f.1 f.2.1 a.2) fun u=>
    bif (!u) then
    (some false)
    else
    (bnd (bif decide (a.1≠0) then R0 a.2 else some default) fun v=>
     bnd (bif decide (a.1≠0) then Q3 v c else some default) fun i=>
     bnd (bif ((decide (a.1≠0))&&!(!i)) then Ry a.2 else some default) fun w=>
     bnd (bif ((decide (a.1≠0))&&!(!i)) then Qu w d else some default) fun j=>
     bnd (bif ((decide (a.1≠0))&&!((!i)||(!j))) then Qp a.2 else some default) fun x=>
     bnd (bif ((decide (a.1≠0))&&!((!i)||(!j))) then Qu x n else some default) fun o=>
     bnd (bif ((decide (a.1≠0))&&!(((!i)||(!j))||(!o))) then Rz a.2 else some default) fun y=>
     bif ((decide (a.1≠0))&&((((!i)||(!j))||(!o))||(decide (y≠t)))) then
     (some false)
     else
     (jp (fun e=>
       bif decide (b.Kind=2) then
       (bnd (R5 c (Stowed.mk b.Box b.Slot)) fun z=>
        bif z then
        (bnd (G98 f.1 f.2.1 c d b.Box) fun p=>
         e (p.1,d,p.2))
        else
        (e (c,d,6)))
       else
       (bif decide (b.Kind=3) then
        (bnd (J3 n b.Box) fun a0=>
         bif a0 then
         (bnd (G99 F f.1 f.2.1 c d (Stowed.mk b.Box b.Slot)) fun q=>
          e (q.1,d,q.2))
         else
         (e (c,d,6)))
        else
        (bif decide (b.Kind=1) then
         (bnd (G3f F f.1 f.2.1 c d b.G8) fun k=>
          bnd (J3 d b.G8) fun a1=>
          bif a1 then
          (e (c,k.1,4))
          else
          (e (c,k.1,k.2)))
         else
         (bif decide (b.Kind=4) then
          (bnd (G1e F f.1 f.2.1 c d b.G8) fun l=>
           bnd (J3 d b.G8) fun a2=>
           bif (!a2) then
           (e (c,l.1,4))
           else
           (e (c,l.1,l.2)))
          else
          (e (c,d,2)))))) fun(h:(List Stowed)×(List Int)×Int)=>
      bnd (bif ((!(!((decide (a.1=0))==(decide (h.2.2=0)))))&&(decide (a.1=0))) then R0 a.2 else some default) fun a3=>
      bnd (bif ((!(!((decide (a.1=0))==(decide (h.2.2=0)))))&&(decide (a.1=0))) then Q3 a3 h.1 else some default) fun m=>
      bnd (bif (((!(!((decide (a.1=0))==(decide (h.2.2=0)))))&&(decide (a.1=0)))&&!(!m)) then Ry a.2 else some default) fun a4=>
      bnd (bif (((!(!((decide (a.1=0))==(decide (h.2.2=0)))))&&(decide (a.1=0)))&&!(!m)) then Qu a4 h.2.1 else some default) fun a5=>
      bif ((!((decide (a.1=0))==(decide (h.2.2=0))))||((decide (a.1=0))&&((!m)||(!a5)))) then
      (some false)
      else
      (r a.2))))
   (fun(g:Gb)=>
    some true) (steps.take a7) 0 f.2.2.2))
abbrev Kp (a:Gb):List AV:=[E3 a.ship.Columns,E7 a.ship.Covers,I64 a.ship.Light.Kilos,I64 a.ship.Light.X,I64 a.ship.Light.Y,I64 a.ship.Light.Z,E4 a.ship.Rows,E5 a.ship.Frames,E6 a.ship.Tanks,I64 a.ship.G4.Tolerance,I64 a.ship.G4.Trim,I64 a.ship.G4.List_,I64 a.ship.G4.Stability,.mp 1197,.mp 1198,.mp 1199,I64 a.lifts]
theorem H83 (F:Nat) (places:List H8) (covers:Int) (drops:List Gv) (steps:List Hd) (r:Bool) (h:Z0 F places covers drops steps=some r):Pure Eo 5 [Ec places,.sc (.int .u32 covers),Eb drops,LS 6 Hd.av steps] (·=BL r):=by
 unfold Z0 at h
 refine H0 [.tmp 8] Tryz.func5 O O ?_
 refine Jr fun i6=>?_
 refine JLm (BL false) O ?_
 refine G5 (i6 ?_)
 refine Js fun i7=>?_
 refine Jr fun i8=>?_
 obtain⟨r4,i9,h⟩:=Ga h
 refine JLg (BL r4) (Gt O (G4a  r4 i9) Jd2 G) ?_
 refine JLg (BL (!r4)) (Qx (b:=r4) O O) ?_
 refine G5 (i8 ?_)
 refine JCc O h ?_ ?_<;>intro h hb
 ·
  refine Jr fun j0=>?_
  refine JLm (BL false) O ?_
  refine G5 (j0 ?_)
  refine Gq ?_
  exact fin1 BL h
 ·
  refine Gr ?_
  refine i7 ?_
  refine Jr fun j1=>?_
  refine JLm (Ec places) O ?_
  refine JLm (.sc (.int .u32 covers)) O ?_
  refine JLm (Eb drops) O ?_
  obtain⟨d,j2,h⟩:=Ga h
  refine JLg (.tup [.agg (Gk.cs d.1),E8 d.2.1,E2 d.2.2.1,.ptr 1196 0]) (Ru (args:=[Ec places,.sc (.int .u32 covers),Eb drops]) (L0:=[]) (Lr:=[(1196,.box 97 [E3 d.2.2.2.ship.Columns,E7 d.2.2.2.ship.Covers,I64 d.2.2.2.ship.Light.Kilos,I64 d.2.2.2.ship.Light.X,I64 d.2.2.2.ship.Light.Y,I64 d.2.2.2.ship.Light.Z,E4 d.2.2.2.ship.Rows,E5 d.2.2.2.ship.Frames,E6 d.2.2.2.ship.Tanks,I64 d.2.2.2.ship.G4.Tolerance,I64 d.2.2.2.ship.G4.Trim,I64 d.2.2.2.ship.G4.List_,I64 d.2.2.2.ship.G4.Stability,.mp 1197,.mp 1198,.mp 1199,I64 d.2.2.2.lifts]),(1197,TP 93 Slot.kv Box.av d.2.2.2.on),(1198,TP 94 Kq Box.av d.2.2.2.quay),(1199,TP 95 Kq I64 d.2.2.2.open_)]) O (Ge4 places covers drops d j2) Jd1 ⟨.inl O,O,.inl O,O,.inl O,O,G⟩ G O O O) ?_
  refine JLm (.tup [.agg (Gk.cs d.1),E8 d.2.1,E2 d.2.2.1,.ptr 1196 0]) O ?_
  refine JLg (.agg (Gk.cs d.1)) (H1 O O O) ?_
  refine JLg (E8 d.2.1) (H1 O O O) ?_
  refine JLg (E2 d.2.2.1) (H1 O O O) ?_
  refine JLg (.ptr 1196 0) (H1 O O O) ?_
  refine JLg (.ptr 1010 0) (Hq 1010 13 Gda O O) ?_
  refine Hp (u:=.junk) (Hc (u:=.agg (Gk.cs d.1)) (ds:=(Gk.cs d.1)) Zw O O O O O O O O) ?_
  refine JLm (E8 d.2.1) O ?_
  refine JLm (E2 d.2.2.1) O ?_
  refine JLm (.ptr 1196 0) O ?_
  refine G5 (j1 ?_)
  refine fzQ [(3,LS 6 Hd.av steps),(9,Ef d.1),(10,E8 d.2.1),(12,.ptr 1196 0)] [(1196,.box 97 [E3 d.2.2.2.ship.Columns,E7 d.2.2.2.ship.Covers,I64 d.2.2.2.ship.Light.Kilos,I64 d.2.2.2.ship.Light.X,I64 d.2.2.2.ship.Light.Y,I64 d.2.2.2.ship.Light.Z,E4 d.2.2.2.ship.Rows,E5 d.2.2.2.ship.Frames,E6 d.2.2.2.ship.Tanks,I64 d.2.2.2.ship.G4.Tolerance,I64 d.2.2.2.ship.G4.Trim,I64 d.2.2.2.ship.G4.List_,I64 d.2.2.2.ship.G4.Stability,.mp 1197,.mp 1198,.mp 1199,I64 d.2.2.2.lifts]),(1197,TP 93 Slot.kv Box.av d.2.2.2.on),(1198,TP 94 Kq Box.av d.2.2.2.quay),(1199,TP 95 Kq I64 d.2.2.2.open_)] 1010 rfl rfl rfl ⟨⟨_,rfl,.boxEq rfl rfl⟩,fmQ O,fmQ O,fmQ O,G⟩ rfl ?_
  refine Js fun j3=>?_
  refine Jr fun j4=>?_
  refine JLm (.ptr 1196 0) O ?_
  refine JLg (BL false) (Jcc H61 O O) ?_
  refine JLm (BL false) O ?_
  refine JLo (.agg (Gk.cs d.1)) [] O .scf G (fun hc=>Gj Hr O O O) O ?_
  refine JLo (E8 d.2.1) [] O .scf G (fun hc=>G6 O O) O ?_
  refine JLo (.ptr 1196 0) [] O .scf G (fun hc=>G6 O O) O ?_
  obtain⟨b0,h8,h⟩:=Ga h
  refine JLo (BL b0) [38,39,40] O .scf ⟨Ua,Ua,Ua,G⟩ (fun hc=>Zc (args:=[.agg (Gk.cs d.1),E8 d.2.1,Ee d.2.2.2]) O (Ge2 d.1 d.2.1 d.2.2.2 b0 (H3 hc h8)) Q73 ⟨.data O O,.data O O,.ptrL O (dnQ 13 O O ⟨.mp O,.mp O,.mp O,.data O O,G⟩),G⟩ O) O ?_
  refine JLo (BL (!b0)) [41] O .scf ⟨Ua,G⟩ (fun hc=>Qx (b:=b0) O O) O ?_
  refine JLg (BL (false||(!b0))) (G2f O O O O) ?_
  refine G5 (j4 ?_)
  refine JCc O h ?_ ?_<;>intro h hb
  ·
   refine Jr fun h9=>?_
   refine JLm (BL false) O ?_
   refine G5 (h9 ?_)
   refine Gq ?_
   exact fin1 BL h
  ·
   refine Gr ?_
   refine j3 ?_
   refine Js fun i0=>?_
   refine Jr fun i1=>?_
   refine JLm (LS 6 Hd.av steps) O ?_
   refine JLm (LS 6 Hd.av steps) O ?_
   refine JLl G60 O O O fun j6=>?_
   refine JLg (I64 (min (steps.length:Int) 30)) (R1d O O O) ?_
   obtain⟨w,i2,h⟩:=Ga h
   refine JLg (LS 6 Hd.av (steps.take w)) (H1a (f:=Hd.av) (xs:=steps) O O O G60 (Gdd i2)) ?_
   refine JLl G60 O O O fun i3=>?_
   refine JLm (I64 0) O ?_
   refine G5 (i1 ?_)
   refine Gx ?_
   obtain⟨i4,b9,c0,b3,h⟩:=Jy h
   refine Jc (fun l (e:Gb)=>each i4 b9 (List.drop l (steps.take w)) l e=some r) (fun l e=>[(9,Ef d.1),(10,E8 d.2.1),(12,.ptr 1196 0),(48,LS 6 Hd.av (steps.take w)),(49,I64 ((steps.take w).length:Int)),(50,En l)]) (fun l e=>[(1196,.box 97 (Kp e)),(1197,TP 93 Slot.kv Box.av e.on),(1198,TP 94 Kq Box.av e.quay),(1199,TP 95 Kq I64 e.open_)]) (fun l=>(steps.take w).length - l) 0 d.2.2.2 h ⟨(.sm O O),⟨fbQ O (.sm O O),fmQ O,fmQ O,fmQ O,G⟩,rfl⟩ ?_
   clear h
   intro l e b1 j7 i5
   refine Jr fun c1=>?_
   refine JLg (BL (decide ((l:Int) < ((steps.take w).length:Int)))) (Qg O O O) ?_
   refine G5 (c1 ?_)
   refine Js fun c2=>?_
   refine Gn O (fun hb=>?_) (fun hb=>?_)
   ·
    have b2:=Qr hb
    obtain⟨m,j5,c3,c4,h⟩:=Ja b1 b2
    replace h:=G1d c0 h
    refine Gr ?_
    refine c2 ?_
    refine Js fun c5=>?_
    refine Gx ?_
    refine Jr fun c6=>?_
    refine JLg (.dptr (Hd.cs m)) (Hg (f:=Hd.av) (xs:=(steps.take w)) (y:=m) O O O G60 c3 O) ?_
    refine JLg (.agg (Hd.cs m)) (Gj J38 O O O) ?_
    refine JLg (.ptr 1011 0) (Hq 1011 6 Jfb O O) ?_
    refine Hp (u:=.junk) (Hc (u:=.agg (Hd.cs m)) (ds:=[U8 m.Kind,U8 m.Box,U8 m.G2,U8 m.Tier,U8 m.Half,U8 m.G8]) Q53 O O O O O O O O) ?_
    refine G5 (c6 ?_)
    refine fzQ [(9,Ef d.1),(10,E8 d.2.1),(12,.ptr 1196 0),(14,.dptr (Hd.cs m)),(48,LS 6 Hd.av (steps.take w)),(49,I64 ((steps.take w).length:Int)),(50,En l)] [(1196,.box 97 (Kp e)),(1197,TP 93 Slot.kv Box.av e.on),(1198,TP 94 Kq Box.av e.quay),(1199,TP 95 Kq I64 e.open_)] 1011 rfl rfl rfl ⟨⟨_,rfl,.boxEq rfl rfl⟩,fmQ O,fmQ O,fmQ O,G⟩ rfl ?_
    refine Jr fun c7=>?_
    refine JLm (.ptr 1196 0) O ?_
    obtain⟨i,c8,h⟩:=Ga h
    refine JLg (E2 i) (Y9 (args:=[.dptr (Gb.cs e)]) (g:=Stowed.av) (r:=i) O (G0f.down e i c8) G8e ⟨.ptrL O (dnQ 13 O O ⟨.mp O,.mp O,.mp O,.data O O,G⟩),G⟩ (fun _=>O)) ?_
    refine JLm (.ptr 1196 0) O ?_
    obtain⟨j,c9,h⟩:=Ga h
    refine JLg (E1 j) (Y9 (args:=[.dptr (Gb.cs e)]) (g:=I64) (r:=j) O (G5b e j c9) H0d ⟨.ptrL O (dnQ 13 O O ⟨.mp O,.mp O,.mp O,.data O O,G⟩),G⟩ (fun _=>O)) ?_
    refine JLm (.ptr 1196 0) O ?_
    obtain⟨v,d0,h⟩:=Ga h
    refine JLg (E1 v) (Y9 (args:=[.dptr (Gb.cs e)]) (g:=I64) (r:=v) O (G6b e v d0) Gd3 ⟨.ptrL O (dnQ 13 O O ⟨.mp O,.mp O,.mp O,.data O O,G⟩),G⟩ (fun _=>O)) ?_
    refine JLm (.ptr 1196 0) O ?_
    obtain⟨a0,d1,h⟩:=Ga h
    refine JLg (I64 a0) (Zc (args:=[.dptr (Gb.cs e)]) O (G44 e a0 d1) H6e ⟨.ptrL O (dnQ 13 O O ⟨.mp O,.mp O,.mp O,.data O O,G⟩),G⟩ O) ?_
    refine JLm (E2 i) O ?_
    refine JLm (E1 j) O ?_
    refine JLm (E1 v) O ?_
    refine JLm (I64 a0) O ?_
    refine G5 (c7 ?_)
    refine Jr fun d2=>?_
    refine JLg (.agg (Hd.cs m)) (Gj J38 O O O) ?_
    refine JLg (.agg (Gk.cs d.1)) (Gj Hr O O O) ?_
    refine JLm (E8 d.2.1) O ?_
    refine JLm (.ptr 1196 0) O ?_
    obtain⟨a,d3,h⟩:=Ga h
    refine JLg (.agg (Move.cs a)) (Zc (args:=[.agg (Hd.cs m),.agg (Gk.cs d.1),E8 d.2.1,Ee e]) O (Ge3 m d.1 d.2.1 e a d3) Q74 ⟨.data O O,.data O O,.data O O,.ptrL O (dnQ 13 O O ⟨.mp O,.mp O,.mp O,.data O O,G⟩),G⟩ O) ?_
    refine JLg (.ptr 1012 0) (Hq 1012 6 Gd9 O O) ?_
    refine Hp (u:=.junk) (Hc (u:=.agg (Move.cs a)) (ds:=[U8 a.Kind,I64 a.Box,I64 a.Slot.G2,I64 a.Slot.Tier,U8 a.Slot.Half,I64 a.G8]) H69 O O O O O O O O) ?_
    refine G5 (d2 ?_)
    refine fzQ [(9,Ef d.1),(10,E8 d.2.1),(12,.ptr 1196 0),(15,E2 i),(16,E1 j),(17,E1 v),(18,I64 a0),(19,Ed a),(48,LS 6 Hd.av (steps.take w)),(49,I64 ((steps.take w).length:Int)),(50,En l)] [(1196,.box 97 (Kp e)),(1197,TP 93 Slot.kv Box.av e.on),(1198,TP 94 Kq Box.av e.quay),(1199,TP 95 Kq I64 e.open_)] 1012 rfl rfl rfl ⟨⟨_,rfl,.boxEq rfl rfl⟩,fmQ O,fmQ O,fmQ O,G⟩ rfl ?_
    refine Jr fun d4=>?_
    refine JLm (.ptr 1196 0) O ?_
    refine JLg (.agg (Move.cs a)) (Gj G33 O O O) ?_
    obtain⟨c,d5,h⟩:=Ga h
    refine JLg (I64 c.1) (Ru (args:=[.ptr 1196 0,.agg (Move.cs a)]) (L0:=[(1196,.box 97 (Kp e)),(1197,TP 93 Slot.kv Box.av e.on),(1198,TP 94 Kq Box.av e.quay),(1199,TP 95 Kq I64 e.open_)]) (Lr:=[(1196,.box 97 [E3 c.2.ship.Columns,E7 c.2.ship.Covers,I64 c.2.ship.Light.Kilos,I64 c.2.ship.Light.X,I64 c.2.ship.Light.Y,I64 c.2.ship.Light.Z,E4 c.2.ship.Rows,E5 c.2.ship.Frames,E6 c.2.ship.Tanks,I64 c.2.ship.G4.Tolerance,I64 c.2.ship.G4.Trim,I64 c.2.ship.G4.List_,I64 c.2.ship.G4.Stability,.mp 1197,.mp 1198,.mp 1199,I64 c.2.lifts]),(1197,TP 93 Slot.kv Box.av c.2.on),(1198,TP 94 Kq Box.av c.2.quay),(1199,TP 95 Kq I64 c.2.open_)]) O (Ga3 e a c d5) Hb6 ⟨.inl O,O,.inl O,O,G⟩ ⟨O,O,O,O,G⟩ O O O) ?_
    refine JLm (I64 c.1) O ?_
    refine G5 (d4 ?_)
    refine Js fun d6=>?_
    refine Jr fun d7=>?_
    refine JLg (.agg (Gk.cs d.1)) (Gj Hr O O O) ?_
    refine JLm (E8 d.2.1) O ?_
    refine JLm (.ptr 1196 0) O ?_
    obtain⟨a8,d8,h⟩:=Ga h
    refine JLg (BL a8) (Zc (args:=[.agg (Gk.cs d.1),E8 d.2.1,Ee c.2]) O (Ge2 d.1 d.2.1 c.2 a8 d8) Q73 ⟨.data O O,.data O O,.ptrL O (dnQ 13 O O ⟨.mp O,.mp O,.mp O,.data O O,G⟩),G⟩ O) ?_
    refine JLg (BL (!a8)) (Qx (b:=a8) O O) ?_
    refine G5 (d7 ?_)
    refine JCc O h ?_ ?_<;>intro h hb
    ·
     refine Jr fun d9=>?_
     refine JLm (BL false) O ?_
     refine G5 (d9 ?_)
     refine Gq ?_
     exact fin1 BL h
    ·
     refine Gr ?_
     refine d6 ?_
     refine Js fun e0=>?_
     refine Jr fun e1=>?_
     refine JLm (I64 c.1) O ?_
     refine JLg (BL (decide (c.1≠0))) (Gec O O O) ?_
     refine JLm (BL (decide (c.1≠0))) O ?_
     refine JLo (.ptr 1196 0) [] O .sct G (fun hc=>G6 O O) O ?_
     obtain⟨a2,e2,h⟩:=Ga h
     refine JLo (E2 a2) [78] O .sct ⟨Ua,G⟩ (fun hc=>Y9 (args:=[.dptr (Gb.cs c.2)]) (g:=Stowed.av) (r:=a2) O (G0f.down c.2 a2 (H3 hc e2)) G8e ⟨.ptrL O (dnQ 13 O O ⟨.mp O,.mp O,.mp O,.data O O,G⟩),G⟩ (fun _=>O)) O ?_
     refine JLo (E2 i) [] O .sct G (fun hc=>G6 O O) O ?_
     obtain⟨n,e3,h⟩:=Ga h
     refine JLo (BL n) [79,80] O .sct ⟨Ua,Ua,G⟩ (fun hc=>Gt (args:=[E2 a2,E2 i]) O (Rx a2 i n (H3 hc e3)) Hb5 ⟨O,O,O,O,G⟩) O ?_
     refine JLo (BL (!n)) [81] O .sct ⟨Ua,G⟩ (fun hc=>Qx (b:=n) O O) O ?_
     refine JLo (BL (!n)) [82] O .sct ⟨Ua,G⟩ (fun hc=>G6 O O) O ?_
     refine JLo (.ptr 1196 0) [] O .optf G (fun hc=>G6 O O) O ?_
     obtain⟨a3,e4,h⟩:=Ga h
     refine JLo (E1 a3) [84] O .optf ⟨Ua,G⟩ (fun hc=>Y9 (args:=[.dptr (Gb.cs c.2)]) (g:=I64) (r:=a3) O (G5b c.2 a3 (H3 hc e4)) H0d ⟨.ptrL O (dnQ 13 O O ⟨.mp O,.mp O,.mp O,.data O O,G⟩),G⟩ (fun _=>O)) O ?_
     refine JLo (E1 j) [] O .optf G (fun hc=>G6 O O) O ?_
     obtain⟨o,e5,h⟩:=Ga h
     refine JLo (BL o) [85,86] O .optf ⟨Ua,Ua,G⟩ (fun hc=>Gt (args:=[E1 a3,E1 j]) O (Zr a3 j o (H3 hc e5)) Hdd ⟨O,O,O,O,G⟩) O ?_
     refine JLo (BL (!o)) [87] O .optf ⟨Ua,G⟩ (fun hc=>Qx (b:=o) O O) O ?_
     refine Gf (u:=BL ((!n)||(!o))) [(83,BL (!n)),(88,_)] O O O .sct ⟨.all id,.part,G⟩ (fun hc=>G2f O O O O) ?_
     refine JLo (BL ((!n)||(!o))) [89] O .sct ⟨Ua,G⟩ (fun hc=>G6 O O) O ?_
     refine JLo (.ptr 1196 0) [] O .optf G (fun hc=>G6 O O) O ?_
     obtain⟨a4,e6,h⟩:=Ga h
     refine JLo (E1 a4) [91] O .optf ⟨Ua,G⟩ (fun hc=>Y9 (args:=[.dptr (Gb.cs c.2)]) (g:=I64) (r:=a4) O (G6b c.2 a4 (H3 hc e6)) Gd3 ⟨.ptrL O (dnQ 13 O O ⟨.mp O,.mp O,.mp O,.data O O,G⟩),G⟩ (fun _=>O)) O ?_
     refine JLo (E1 v) [] O .optf G (fun hc=>G6 O O) O ?_
     obtain⟨x,e7,h⟩:=Ga h
     refine JLo (BL x) [92,93] O .optf ⟨Ua,Ua,G⟩ (fun hc=>Gt (args:=[E1 a4,E1 v]) O (Zr a4 v x (H3 hc e7)) Hdd ⟨O,O,O,O,G⟩) O ?_
     refine JLo (BL (!x)) [94] O .optf ⟨Ua,G⟩ (fun hc=>Qx (b:=x) O O) O ?_
     refine Gf (u:=BL (((!n)||(!o))||(!x))) [(90,BL ((!n)||(!o))),(95,_)] O O O .sct ⟨.all id,.part,G⟩ (fun hc=>G2f O O O O) ?_
     refine JLo (BL (((!n)||(!o))||(!x))) [96] O .sct ⟨Ua,G⟩ (fun hc=>G6 O O) O ?_
     refine JLo (.ptr 1196 0) [] O .optf G (fun hc=>G6 O O) O ?_
     obtain⟨a5,e8,h⟩:=Ga h
     refine JLo (I64 a5) [98] O .optf ⟨Ua,G⟩ (fun hc=>Zc (args:=[.dptr (Gb.cs c.2)]) O (G44 c.2 a5 (H3 hc e8)) H6e ⟨.ptrL O (dnQ 13 O O ⟨.mp O,.mp O,.mp O,.data O O,G⟩),G⟩ O) O ?_
     refine JLo (I64 a0) [] O .optf G (fun hc=>G6 O O) O ?_
     refine JLo (BL (decide (a5≠a0))) [99,100] O .optf ⟨Ua,Ua,G⟩ (fun hc=>Gec O O O) O ?_
     refine Gf (u:=BL ((((!n)||(!o))||(!x))||(decide (a5≠a0)))) [(97,BL (((!n)||(!o))||(!x))),(101,_)] O O O .sct ⟨.all id,.part,G⟩ (fun hc=>G2f O O O O) ?_
     refine JLg (BL ((decide (c.1≠0))&&((((!n)||(!o))||(!x))||(decide (a5≠a0))))) (Ro O O O O) ?_
     refine G5 (e1 ?_)
     refine JCc O h ?_ ?_<;>intro h hb
     ·
      refine Jr fun e9=>?_
      refine JLm (BL false) O ?_
      refine G5 (e9 ?_)
      refine Gq ?_
      exact fin1 BL h
     ·
      refine Gr ?_
      refine e0 ?_
      refine Jr fun f0=>?_
      refine JLm (E2 i) O ?_
      refine JLm (E1 j) O ?_
      refine JLm (E2 i) O ?_
      refine JLm (E1 j) O ?_
      refine JLm (I64 0) O ?_
      refine G5 (f0 ?_)
      obtain⟨f1,b4,h⟩:=Yy h
      refine Ri (fun k:(List Stowed)×(List Int)×Int=>f1 k=some r) (fun k=>[(9,Ef d.1),(10,E8 d.2.1),(12,.ptr 1196 0),(20,I64 c.1),(21,E2 k.1),(22,E1 k.2.1),(23,I64 k.2.2),(48,LS 6 Hd.av (steps.take w)),(49,I64 ((steps.take w).length:Int)),(50,En l)]) (fun k=>[(1196,.box 97 [E3 c.2.ship.Columns,E7 c.2.ship.Covers,I64 c.2.ship.Light.Kilos,I64 c.2.ship.Light.X,I64 c.2.ship.Light.Y,I64 c.2.ship.Light.Z,E4 c.2.ship.Rows,E5 c.2.ship.Frames,E6 c.2.ship.Tanks,I64 c.2.ship.G4.Tolerance,I64 c.2.ship.G4.Trim,I64 c.2.ship.G4.List_,I64 c.2.ship.G4.Stability,.mp 1197,.mp 1198,.mp 1199,I64 c.2.lifts]),(1197,TP 93 Slot.kv Box.av c.2.on),(1198,TP 94 Kq Box.av c.2.quay),(1199,TP 95 Kq I64 c.2.open_)]) (fun Kj388 ej388=>?_) ?_
      ·
       refine Jr fun f2=>?_
       refine JLg (Ed a) (G9 G7b O O O) ?_
       refine JLg (U8 a.Kind) (Gh Ho O O O) ?_
       refine G5 (f2 ?_)
       refine Gx ?_
       refine Jr fun f3=>?_
       refine JLg (BL (decide (a.Kind=2))) (Q0 O O O) ?_
       refine JLm (BL (decide (a.Kind=2))) O ?_
       refine G5 (f3 ?_)
       refine JCc O h ?_ ?_<;>intro h hb
       ·
        refine Jr fun f4=>?_
        refine JLm (E2 i) O ?_
        refine JLg (.dptr ((Move.cs a).drop 1)) (G9 Yi O O O) ?_
        refine JLg (I64 a.Box) (Gh Gc O O O) ?_
        refine JLg (.dptr ((Move.cs a).drop 2)) (G9 Jw O O O) ?_
        refine JLg (.agg (Slot.cs a.Slot)) (Gj Hu O O O) ?_
        refine JLg (.agg [I64 a.Box,I64 a.Slot.G2,I64 a.Slot.Tier,U8 a.Slot.Half]) (Hb (cs:=[I64 a.Box,I64 a.Slot.G2,I64 a.Slot.Tier,U8 a.Slot.Half]) [(0,1),(1,3)] [I64 0,I64 0,I64 0,U8 0] [E0,E0,E0,.int .u8 0] Rt Z4 (zzQ O) O O) ?_
        obtain⟨b5,f5,h⟩:=Ga h
        refine JLg (BL b5) (Gt O (H37 i (Stowed.mk a.Box a.Slot) b5 f5) Re1 ⟨O,O,O,O,G⟩) ?_
        refine G5 (f4 ?_)
        refine JCc O h ?_ ?_<;>intro h hb
        ·
         refine G1 ?_
         refine JLg (.agg (Gk.cs d.1)) (Gj Hr O O O) ?_
         refine JLm (E8 d.2.1) O ?_
         refine JLm (E2 i) O ?_
         refine JLm (E1 j) O ?_
         refine JLg (.dptr ((Move.cs a).drop 1)) (G9 Yi O O O) ?_
         refine JLg (I64 a.Box) (Gh Gc O O O) ?_
         obtain⟨s,f6,h⟩:=Ga h
         refine JLg (.tup [E2 s.1,I64 s.2]) (Gt O (Qe1 d.1 d.2.1 i j a.Box s f6) Re0 ⟨O,O,O,O,O,O,O,O,O,O,G⟩) ?_
         refine JLm (.tup [E2 s.1,I64 s.2]) O ?_
         refine JLg (E2 s.1) (H1 O O O) ?_
         refine JLg (I64 s.2) (H1 O O O) ?_
         refine JLm (E2 s.1) O ?_
         refine JLm (I64 s.2) O ?_
         refine G5 ?_
         exact ej388 _ _ (s.1,j,s.2) h ⟨(.sm O O),⟨fbQ O (.sm O O),fmQ O,fmQ O,fmQ O,G⟩,rfl⟩
        ·
         refine G1 ?_
         refine JLm (I64 6) O ?_
         refine G5 ?_
         exact ej388 _ _ (i,j,6) h ⟨(.sm O O),⟨fbQ O (.sm O O),fmQ O,fmQ O,fmQ O,G⟩,rfl⟩
       ·
        refine Jr fun f7=>?_
        refine JLg (BL (decide (a.Kind=3))) (Q0 O O O) ?_
        refine JLm (BL (decide (a.Kind=3))) O ?_
        refine G5 (f7 ?_)
        refine JCc O h ?_ ?_<;>intro h hb
        ·
         refine Jr fun f8=>?_
         refine JLm (E1 v) O ?_
         refine JLg (.dptr ((Move.cs a).drop 1)) (G9 Yi O O O) ?_
         refine JLg (I64 a.Box) (Gh Gc O O O) ?_
         obtain⟨b6,f9,h⟩:=Ga h
         refine JLg (BL b6) (Gt O (Qv v a.Box b6 f9) G8d ⟨O,O,O,O,G⟩) ?_
         refine G5 (f8 ?_)
         refine JCc O h ?_ ?_<;>intro h hb
         ·
          refine G1 ?_
          refine JLg (.agg (Gk.cs d.1)) (Gj Hr O O O) ?_
          refine JLm (E8 d.2.1) O ?_
          refine JLm (E2 i) O ?_
          refine JLm (E1 j) O ?_
          refine JLg (.dptr ((Move.cs a).drop 1)) (G9 Yi O O O) ?_
          refine JLg (I64 a.Box) (Gh Gc O O O) ?_
          refine JLg (.dptr ((Move.cs a).drop 2)) (G9 Jw O O O) ?_
          refine JLg (.agg (Slot.cs a.Slot)) (Gj Hu O O O) ?_
          refine JLg (.agg [I64 a.Box,I64 a.Slot.G2,I64 a.Slot.Tier,U8 a.Slot.Half]) (Hb (cs:=[I64 a.Box,I64 a.Slot.G2,I64 a.Slot.Tier,U8 a.Slot.Half]) [(0,1),(1,3)] [I64 0,I64 0,I64 0,U8 0] [E0,E0,E0,.int .u8 0] Rt Z4 (zzQ O) O O) ?_
          obtain⟨t,g0,h⟩:=Ga h
          refine JLg (.tup [E2 t.1,I64 t.2]) (Gt O (R45 F d.1 d.2.1 i j (Stowed.mk a.Box a.Slot) t g0) Rdf ⟨O,O,O,O,O,O,O,O,O,O,G⟩) ?_
          refine JLm (.tup [E2 t.1,I64 t.2]) O ?_
          refine JLg (E2 t.1) (H1 O O O) ?_
          refine JLg (I64 t.2) (H1 O O O) ?_
          refine JLm (E2 t.1) O ?_
          refine JLm (I64 t.2) O ?_
          refine G5 ?_
          exact ej388 _ _ (t.1,j,t.2) h ⟨(.sm O O),⟨fbQ O (.sm O O),fmQ O,fmQ O,fmQ O,G⟩,rfl⟩
         ·
          refine G1 ?_
          refine JLm (I64 6) O ?_
          refine G5 ?_
          exact ej388 _ _ (i,j,6) h ⟨(.sm O O),⟨fbQ O (.sm O O),fmQ O,fmQ O,fmQ O,G⟩,rfl⟩
        ·
         refine Jr fun g1=>?_
         refine JLg (BL (decide (a.Kind=1))) (Q0 O O O) ?_
         refine JLm (BL (decide (a.Kind=1))) O ?_
         refine G5 (g1 ?_)
         refine JCc O h ?_ ?_<;>intro h hb
         ·
          refine Jr fun g2=>?_
          refine JLg (.agg (Gk.cs d.1)) (Gj Hr O O O) ?_
          refine JLm (E8 d.2.1) O ?_
          refine JLm (E2 i) O ?_
          refine JLm (E1 j) O ?_
          refine JLg (.dptr [I64 a.G8]) (G9 Y1 O O O) ?_
          refine JLg (I64 a.G8) (Gh Gc O O O) ?_
          obtain⟨p,g3,h⟩:=Ga h
          refine JLg (.tup [E1 p.1,I64 p.2]) (Gt O (Qe2 F d.1 d.2.1 i j a.G8 p g3) Rde ⟨O,O,O,O,O,O,O,O,O,O,G⟩) ?_
          refine JLm (.tup [E1 p.1,I64 p.2]) O ?_
          refine JLg (E1 p.1) (H1 O O O) ?_
          refine JLg (I64 p.2) (H1 O O O) ?_
          refine JLm (E1 p.1) O ?_
          refine JLm (I64 p.2) O ?_
          refine G5 (g2 ?_)
          refine Jr fun g4=>?_
          refine JLm (E1 j) O ?_
          refine JLg (.dptr [I64 a.G8]) (G9 Y1 O O O) ?_
          refine JLg (I64 a.G8) (Gh Gc O O O) ?_
          obtain⟨b7,g5,h⟩:=Ga h
          refine JLg (BL b7) (Gt O (Qv j a.G8 b7 g5) G8d ⟨O,O,O,O,G⟩) ?_
          refine G5 (g4 ?_)
          refine JCc O h ?_ ?_<;>intro h hb
          ·
           refine G1 ?_
           refine JLm (I64 4) O ?_
           refine G5 ?_
           exact ej388 _ _ (i,p.1,4) h ⟨(.sm O O),⟨fbQ O (.sm O O),fmQ O,fmQ O,fmQ O,G⟩,rfl⟩
          ·
           refine Gr ?_
           exact ej388 _ _ (i,p.1,p.2) h ⟨(.sm O O),⟨fbQ O (.sm O O),fmQ O,fmQ O,fmQ O,G⟩,rfl⟩
         ·
          refine Jr fun g6=>?_
          refine JLg (BL (decide (a.Kind=4))) (Q0 O O O) ?_
          refine JLm (BL (decide (a.Kind=4))) O ?_
          refine G5 (g6 ?_)
          refine JCc O h ?_ ?_<;>intro h hb
          ·
           refine Jr fun g7=>?_
           refine JLg (.agg (Gk.cs d.1)) (Gj Hr O O O) ?_
           refine JLm (E8 d.2.1) O ?_
           refine JLm (E2 i) O ?_
           refine JLm (E1 j) O ?_
           refine JLg (.dptr [I64 a.G8]) (G9 Y1 O O O) ?_
           refine JLg (I64 a.G8) (Gh Gc O O O) ?_
           obtain⟨q,g8,h⟩:=Ga h
           refine JLg (.tup [E1 q.1,I64 q.2]) (Gt O (Qb6 F d.1 d.2.1 i j a.G8 q g8) Rdd ⟨O,O,O,O,O,O,O,O,O,O,G⟩) ?_
           refine JLm (.tup [E1 q.1,I64 q.2]) O ?_
           refine JLg (E1 q.1) (H1 O O O) ?_
           refine JLg (I64 q.2) (H1 O O O) ?_
           refine JLm (E1 q.1) O ?_
           refine JLm (I64 q.2) O ?_
           refine G5 (g7 ?_)
           refine Jr fun g9=>?_
           refine JLm (E1 j) O ?_
           refine JLg (.dptr [I64 a.G8]) (G9 Y1 O O O) ?_
           refine JLg (I64 a.G8) (Gh Gc O O O) ?_
           obtain⟨a9,h0,h⟩:=Ga h
           refine JLg (BL a9) (Gt O (Qv j a.G8 a9 h0) G8d ⟨O,O,O,O,G⟩) ?_
           refine JLg (BL (!a9)) (Qx (b:=a9) O O) ?_
           refine G5 (g9 ?_)
           refine JCc O h ?_ ?_<;>intro h hb
           ·
            refine G1 ?_
            refine JLm (I64 4) O ?_
            refine G5 ?_
            exact ej388 _ _ (i,q.1,4) h ⟨(.sm O O),⟨fbQ O (.sm O O),fmQ O,fmQ O,fmQ O,G⟩,rfl⟩
           ·
            refine Gr ?_
            exact ej388 _ _ (i,q.1,q.2) h ⟨(.sm O O),⟨fbQ O (.sm O O),fmQ O,fmQ O,fmQ O,G⟩,rfl⟩
          ·
           refine G1 ?_
           refine JLm (I64 2) O ?_
           refine G5 ?_
           exact ej388 _ _ (i,j,2) h ⟨(.sm O O),⟨fbQ O (.sm O O),fmQ O,fmQ O,fmQ O,G⟩,rfl⟩
      ·intro k h
       replace h:=app1 b4 h
       refine Jr fun h1=>?_
       refine JLm (I64 c.1) O ?_
       refine JLg (BL (decide (c.1=0))) (Q0 O O O) ?_
       refine JLm (I64 k.2.2) O ?_
       refine JLg (BL (decide (k.2.2=0))) (Q0 O O O) ?_
       refine JLg (BL (!((decide (c.1=0))==(decide (k.2.2=0))))) (Ra9 H63 O O O) ?_
       refine JLm (BL (!((decide (c.1=0))==(decide (k.2.2=0))))) O ?_
       refine JLo (I64 c.1) [] O .scf G (fun hc=>G6 O O) O ?_
       refine JLo (BL (decide (c.1=0))) [185] O .scf ⟨Ua,G⟩ (fun hc=>Q0 O O O) O ?_
       refine JLo (BL (decide (c.1=0))) [186] O .scf ⟨Ua,G⟩ (fun hc=>G6 O O) O ?_
       refine JLo (.ptr 1196 0) [] O .optt G (fun hc=>G6 O O) O ?_
       obtain⟨a6,h2,h⟩:=Ga h
       refine JLo (E2 a6) [188] O .optt ⟨Ua,G⟩ (fun hc=>Y9 (args:=[.dptr (Gb.cs c.2)]) (g:=Stowed.av) (r:=a6) O (G0f.down c.2 a6 (H3 hc h2)) G8e ⟨.ptrL O (dnQ 13 O O ⟨.mp O,.mp O,.mp O,.data O O,G⟩),G⟩ (fun _=>O)) O ?_
       refine JLo (E2 k.1) [] O .optt G (fun hc=>G6 O O) O ?_
       obtain⟨z,h3,h⟩:=Ga h
       refine JLo (BL z) [189,190] O .optt ⟨Ua,Ua,G⟩ (fun hc=>Gt (args:=[E2 a6,E2 k.1]) O (Rx a6 k.1 z (H3 hc h3)) Hb5 ⟨O,O,O,O,G⟩) O ?_
       refine JLo (BL (!z)) [191] O .optt ⟨Ua,G⟩ (fun hc=>Qx (b:=z) O O) O ?_
       refine JLo (BL (!z)) [192] O .optt ⟨Ua,G⟩ (fun hc=>G6 O O) O ?_
       refine JLo (.ptr 1196 0) [] O .optf G (fun hc=>G6 O O) O ?_
       obtain⟨a7,h4,h⟩:=Ga h
       refine JLo (E1 a7) [194] O .optf ⟨Ua,G⟩ (fun hc=>Y9 (args:=[.dptr (Gb.cs c.2)]) (g:=I64) (r:=a7) O (G5b c.2 a7 (H3 hc h4)) H0d ⟨.ptrL O (dnQ 13 O O ⟨.mp O,.mp O,.mp O,.data O O,G⟩),G⟩ (fun _=>O)) O ?_
       refine JLo (E1 k.2.1) [] O .optf G (fun hc=>G6 O O) O ?_
       obtain⟨a1,h5,h⟩:=Ga h
       refine JLo (BL a1) [195,196] O .optf ⟨Ua,Ua,G⟩ (fun hc=>Gt (args:=[E1 a7,E1 k.2.1]) O (Zr a7 k.2.1 a1 (H3 hc h5)) Hdd ⟨O,O,O,O,G⟩) O ?_
       refine JLo (BL (!a1)) [197] O .optf ⟨Ua,G⟩ (fun hc=>Qx (b:=a1) O O) O ?_
       refine Gf (u:=BL ((!z)||(!a1))) [(193,BL (!z)),(198,_)] O O O .optt ⟨.all id,.part,G⟩ (fun hc=>G2f O O O O) ?_
       refine Gf (u:=BL ((decide (c.1=0))&&((!z)||(!a1)))) [(187,BL (decide (c.1=0))),(199,_)] O O O .scf ⟨.all id,.part,G⟩ (fun hc=>Ro O O O O) ?_
       refine JLg (BL ((!((decide (c.1=0))==(decide (k.2.2=0))))||((decide (c.1=0))&&((!z)||(!a1))))) (G2f O O O O) ?_
       refine G5 (h1 ?_)
       refine JCc O h ?_ ?_<;>intro h hb
       ·
        refine Jr fun h6=>?_
        refine JLm (BL false) O ?_
        refine G5 (h6 ?_)
        refine Gq ?_
        exact fin1 BL h
       ·
        refine Gr ?_
        refine c5 ?_
        refine G1 ?_
        refine JLg (I64 ((l+1:Nat):Int)) (Jg (J7 b2 i3) O O O) ?_
        refine JLm (I64 ((l+1:Nat):Int)) O ?_
        refine G5 ?_
        exact i5 _ _ (l+1) c.2 (app1 c4 h) (by omega) ⟨(.sm O O),⟨fbQ O (.sm O O),fmQ O,fmQ O,fmQ O,G⟩,rfl⟩
   ·
    have h:=app1 b3 (Jb b1 (Hs hb))
    refine Jf ?_
    refine i0 ?_
    refine Jr fun h7=>?_
    refine JLm (BL true) O ?_
    refine G5 (h7 ?_)
    refine Gq ?_
    exact fin1 BL h
end
end Go.Proofs.YtidpfkmbfgihlaaGreat
