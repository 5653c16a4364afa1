/- Walks of functions. -/
import Derived.Test.YtgcpimpnpcdmmaaGreatXP
set_option maxRecDepth 100000
set_option maxHeartbeats 1000000
set_option linter.unusedVariables false
set_option linter.unusedSimpArgs false
namespace Go.Proofs.YtgcpimpnpcdmmaaGreat
open Go.RowKit
noncomputable section

namespace XQF
open XAF
open XCF
open XSF
open XKF
open XTF
open XUF
open XVF
open XMF
open XBF
open XPF
theorem Y2f:H0 En 15=true:=by kernel_rfl
end XQF
open XAF
open XCF
open XSF
open XKF
open XTF
open XUF
open XVF
open XMF
open XBF
open XPF
open XQF

def Ra (x:G1) (a:Int):Option Bool:=
 some (decide (x.Box=a))
theorem H36 (x:G1) (a:Int) (r:Bool) (h:Ra x a=some r):Pure En 15 [.agg (G1.cs x),.dptr [I64 a]] (·=BL r):=by
 unfold Ra at h
 refine Gx [.tmp 3] Tryz.func15 O O (Jr fun b=>(JLh (.ptr 1022 0) (Q4 (cs:=[I64 x.Box,I64 x.Slot.G3,I64 x.Slot.Tier,U8 x.Slot.Half]) 1022 O O O O O) O (JLm (BL false) O (G5 (b (Gn [(1,.dptr [I64 a]),(2,Eh x)] [] 1022 rfl rfl rfl ø rfl (by exact⟨.conv (.same rfl),.ptr,ø⟩) (Jr fun c=>(JLh (Eh x) (Ga J6 O O O) O (JLh (I64 x.Box) (Gg Gb O O O) O (JLh (I64 a) (Gg Gb O O O) O (JLh (BL (decide (x.Box=a))) (Qk O O O) O (JLm (BL (decide (x.Box=a))) O (G5 (c (Gs (fin1 BL h))))))))))))))))

def Zg (F:Nat) (places:List Hd) (covers:Int) (items:List H9) (call:Int):Option Bool:=
 bnd (Zf) fun r4=>
 bif (!r4) then
 (some false)
 else
 (bnd (Ru F places covers items) fun a=>
  chk (call) fun y=>
  bnd (J1e y (a.2.2.States.length:Int)) fun b=>
  jp (fun h=>
   bif decide (0 < b) then
   (chk (b - 1) fun z=>
    Qw a.2.2.States z fun a0=>
    h a0)
   else
   (h [])) fun(d:(List G1))=>
  Qw a.2.2.States b fun a1=>
  bnd (G75 F a.1 a.2.1 d a1) fun n=>
  Qw a.2.2.States b fun a2=>
  bnd (Yo F a.1 a.2.1 d a2) fun i=>
  Qw a.2.2.States b fun a3=>
  bnd (Qy a3 d) fun a4=>
  bnd (Ga7 a.1 a.2.1 d a4) fun o=>
  chk (n.2+i.2) fun a5=>
  chk (a5+o.2) fun a6=>
  bif decide (a6≠0) then
  (some false)
  else
  (each (fun f b0 (j:Gc) p=>
    bnd (bif decide (f.Box≠0) then Je i.1 f.Box else some default) fun q=>
    bif ((decide (f.Box≠0))&&(!q)) then
    (some false)
    else
    (bnd (G1e j f) fun k=>
     bif decide (k.1≠0) then
     (some false)
     else
     (p k.2)))
   (fun(j:Gc)=>
    each (fun r a8 (e:Int) l=>
     Qw a.2.2.States b fun s=>
     each (fun t a9 (c:Int) m=>
      jp (fun g=>
       bnd (Hw t (fun z0=>Ra z0 r)) fun u=>
       bif u then
       (chk (c+1) fun v=>
        g v)
       else
       (g c)) fun(w:Int)=>
      m w)
     (fun(c:Int)=>
      l c) [d,s] 0 e)
    (fun(e:Int)=>
     bnd (G32 j) fun x=>
     some (decide (x=e))) i.1 0 0) n.1 0 o.1))
abbrev Kr (a:Gc):List AV:=[E3 a.ship.Columns,E8 a.ship.Covers,I64 a.ship.Light.Kilos,I64 a.ship.Light.X,I64 a.ship.Light.Y,I64 a.ship.Light.Z,E4 a.ship.Rows,E5 a.ship.Frames,E6 a.ship.Tanks,I64 a.ship.G8.Tolerance,I64 a.ship.G8.Trim,I64 a.ship.G8.List_,I64 a.ship.G8.Stability,.mp 1208,.mp 1209,.mp 1210,I64 a.lifts]
theorem H67 (F:Nat) (places:List Hd) (covers:Int) (items:List H9) (call:Int) (r:Bool) (h:Zg F places covers items call=some r):Pure En 3 [Ed places,.sc (.int .u32 covers),Ec items,U8 call] (·=BL r):=by
 unfold Zg at h
 refine Gx [.tmp 8] Tryz.func3 O O (Jr fun j7=>(JLm (BL false) O (G5 (j7 (Js fun j8=>Jr fun j9=>?_)))))
 obtain⟨r4,k0,h⟩:=Ge h
 refine JLh (BL r4) (Gu O (Gd7  r4 k0) R20 ø) O (JLh (BL (!r4)) (Y8 (b:=r4) O O) O (G5 (j9 (JCc O h (fun h hb=>?_) (fun h hb=>?_)))))
 ·
  refine Jr fun k1=>(JLm (BL false) O (G5 (k1 (Gs (fin1 BL h)))))
 ·
  refine Gm (j8 (Jr fun k2=>(JLm (Ed places) O (JLm (.sc (.int .u32 covers)) O (JLm (Ec items) O ?_)))))
  obtain⟨a,k3,h⟩:=Ge h
  refine JLh (.tup [.agg (Gi.cs a.1),E7 a.2.1,.agg [LS 1 (E1) a.2.2.States,LS 1 (E2) a.2.2.Water]]) (Gu O (Gc4 F places covers items a k3) R1f ⟨O,O,O,O,O,O,ø⟩) O (JLm (.tup [.agg (Gi.cs a.1),E7 a.2.1,.agg [LS 1 (E1) a.2.2.States,LS 1 (E2) a.2.2.Water]]) O (JLh (.agg (Gi.cs a.1)) (Gz O O O) O (JLh (E7 a.2.1) (Gz O O O) O (JLh (.agg [LS 1 (E1) a.2.2.States,LS 1 (E2) a.2.2.Water]) (Gz O O O) O (JLh (.ptr 1001 0) (Hk 1001 13 Haf O O) O (JLh (.ptr 1002 0) (Hk 1002 2 Hae O O) O (Ho (u:=.junk) (H7 (u:=.agg (Gi.cs a.1)) (ds:=(Gi.cs a.1)) G6d O O O O O O O O) (JLm (E7 a.2.1) O (Ho (u:=.junk) (H7 (u:=.agg [LS 1 (E1) a.2.2.States,LS 1 (E2) a.2.2.Water]) (ds:=[LS 1 (E1) a.2.2.States,LS 1 (E2) a.2.2.Water]) G6c O O O O O O O O) (G5 (k2 ?_)))))))))))
  refine fzQ [(3,U8 call),(9,Ee a.1),(10,E7 a.2.1),(11,.ptr 1002 0)] [(1002,.box 41 [LS 1 (E1) a.2.2.States,LS 1 (E2) a.2.2.Water])] 1001 rfl rfl rfl ⟨⟨_,rfl,.boxEq rfl rfl⟩,ø⟩ rfl (fzQ [(3,U8 call),(9,Ee a.1),(10,E7 a.2.1),(11,.dptr [LS 1 (E1) a.2.2.States,LS 1 (E2) a.2.2.Water])] [] 1002 rfl rfl rfl ø rfl (Jr fun k4=>(JLh (E1 ([]:List G1)) (Jh 4 O O) O (G5 (k4 (Jr fun k5=>(JLm (U8 call) O ?_)))))))
  obtain⟨k6,g0,h⟩:=J0 h
  refine JLh (I64 k6) (Gcd G39 G38 g0 O O) O (JLh (.dptr [LS 1 (E1) a.2.2.States,LS 1 (E2) a.2.2.Water]) (Ga Zc O O O) O (JLh (LS 1 (E1) a.2.2.States) (Gg Ys O O O) O (JLl Jz O O O fun l3=>?_)))
  obtain⟨p,b1,h⟩:=Ge h
  refine JLh (I64 p) (Jff (Yg b1).1 (Yg b1).2 O O O) O (JLm (I64 p) O (G5 (k5 ?_)))
  obtain⟨g1,b9,h⟩:=Rm h
  refine Qi (fun e:(List G1)=>g1 e=some r) (fun e=>[(9,Ee a.1),(10,E7 a.2.1),(11,.dptr [LS 1 (E1) a.2.2.States,LS 1 (E2) a.2.2.Water]),(12,E1 e),(13,I64 p)]) (fun e=>[]) (fun Kj12 ej12=>?_) ?_
  ·
   refine Jr fun g2=>(JLm (I64 p) O (JLh (BL (decide (0 < p))) (H01 O O O) O (G5 (g2 (JCc O h (fun h hb=>?_) (fun h hb=>?_))))))
   ·
    refine G2 (JLh (.dptr [LS 1 (E1) a.2.2.States,LS 1 (E2) a.2.2.Water]) (Ga Zc O O O) O (JLh (LS 1 (E1) a.2.2.States) (Gg Ys O O O) O (JLm (I64 p) O ?_)))
    obtain⟨k7,g3,h⟩:=J0 h
    refine JLh (I64 k7) (G84 g3 O O O) O ?_
    obtain⟨l8,a1,g4,g5,h⟩:=Yc h
    refine JLh (.dptr [E1 a1]) (Hb (f:=(E1)) (xs:=a.2.2.States) (y:=a1) O O O Jz g5 g4) O (JLh (E1 a1) (Gg Ze O O O) O (JLm (E1 a1) O (G5 (ej12 _ _ a1 h ⟨(.sm O O),ø,rfl⟩))))
   ·
    refine Gm (ej12 _ _ [] h ⟨(.sm O O),ø,rfl⟩)
  ·intro e h
   replace h:=app1 b9 h
   refine Js fun g6=>?_
   obtain⟨l9,a2,g7,g8,h⟩:=Yc h
   obtain⟨l,g9,h⟩:=Ge h
   refine JC_d0 J9 (by kernel_rfl) (Dq (.agg (Gi.cs a.1)) (Gk Jd O O O) O (Dq (E7 a.2.1) (G6 O O) O (Dq (E1 e) (G6 O O) O (Dq (.dptr [LS 1 (E1) a.2.2.States,LS 1 (E2) a.2.2.Water]) (Ga Zc O O O) O (Dq (LS 1 (E1) a.2.2.States) (Gg Ys O O O) O (Dq (I64 p) (G6 O O) O (Dq (.dptr [E1 a2]) (Hb (f:=(E1)) (xs:=a.2.2.States) (y:=a2) O O O Jz g8 g7) O (Dq (E1 a2) (Gg Ze O O O) O (Dq (.tup [Ea l.1,I64 l.2]) (Gu (args:=[.agg (Gi.cs a.1),E7 a.2.1,E1 e,E1 a2]) O (J57 F a.1 a.2.1 e a2 l g9) R1e ⟨O,O,O,O,O,O,O,O,ø⟩) O (Dq (.tup [Ea l.1,I64 l.2]) (G6 O O) O (Dq (Ea l.1) (Gz O O O) O (Dq (I64 l.2) (Gz O O O) O (Dq (Ea l.1) (G7 O O) O ?_)))))))))))))
   refine Dq (I64 l.2) (G7 O O) O (Dnil (g6 (Js fun h0=>?_)))
   obtain⟨m0,a3,h1,h2,h⟩:=Yc h
   obtain⟨i,h3,h⟩:=Ge h
   refine JC_d0 J9 (by kernel_rfl) (Dq (.agg (Gi.cs a.1)) (Gk Jd O O O) O (Dq (E7 a.2.1) (G6 O O) O (Dq (E1 e) (G6 O O) O (Dq (.dptr [LS 1 (E1) a.2.2.States,LS 1 (E2) a.2.2.Water]) (Ga Zc O O O) O (Dq (LS 1 (E1) a.2.2.States) (Gg Ys O O O) O (Dq (I64 p) (G6 O O) O (Dq (.dptr [E1 a3]) (Hb (f:=(E1)) (xs:=a.2.2.States) (y:=a3) O O O Jz h2 h1) O (Dq (E1 a3) (Gg Ze O O O) O (Dq (.tup [E2 i.1,I64 i.2]) (Gu (args:=[.agg (Gi.cs a.1),E7 a.2.1,E1 e,E1 a3]) O (J25 F a.1 a.2.1 e a3 i h3) R1d ⟨O,O,O,O,O,O,O,O,ø⟩) O (Dq (.tup [E2 i.1,I64 i.2]) (G6 O O) O (Dq (E2 i.1) (Gz O O O) O (Dq (I64 i.2) (Gz O O O) O (Dq (E2 i.1) (G7 O O) O ?_)))))))))))))
   refine Dq (I64 i.2) (G7 O O) O (Dnil (h0 (Js fun h4=>?_)))
   obtain⟨m1,a5,h5,h6,h⟩:=Yc h
   obtain⟨a6,h7,h⟩:=Ge h
   obtain⟨c,h8,h⟩:=Ge h
   refine Jq [10] [0,0,0,0,0,0,0,0,0,0,0,1,1,1,1,1] [0,0,0,0,0,0,0,0,0,0,0,1,1,1,1,1] [[],[(1207,.box 94 [E3 c.1.ship.Columns,E8 c.1.ship.Covers,I64 c.1.ship.Light.Kilos,I64 c.1.ship.Light.X,I64 c.1.ship.Light.Y,I64 c.1.ship.Light.Z,E4 c.1.ship.Rows,E5 c.1.ship.Frames,E6 c.1.ship.Tanks,I64 c.1.ship.G8.Tolerance,I64 c.1.ship.G8.Trim,I64 c.1.ship.G8.List_,I64 c.1.ship.G8.Stability,.mp 1208,.mp 1209,.mp 1210,I64 c.1.lifts]),(1208,TP 90 Slot.kv Box.av c.1.on),(1209,TP 91 Ks Box.av c.1.quay),(1210,TP 92 Ks I64 c.1.open_)]] J9 (by kernel_rfl) rfl rfl ?_
   refine Gd (u:=.agg (Gi.cs a.1)) O O ⟨Gh (Gk Jd O O O) O,ø⟩ (Gd (u:=E7 a.2.1) O O ⟨Gh (G6 O O) O,ø⟩ (Gd (u:=E1 e) O O ⟨Gh (G6 O O) O,ø⟩ (Gd (u:=.dptr [LS 1 (E1) a.2.2.States,LS 1 (E2) a.2.2.Water]) O O ⟨Gh (Ga Zc O O O) O,ø⟩ (Gd (u:=LS 1 (E1) a.2.2.States) O O ⟨Gh (Gg Ys O O O) O,ø⟩ (Gd (u:=I64 p) O O ⟨Gh (G6 O O) O,ø⟩ (Gd (u:=.dptr [E1 a5]) O O ⟨Gh (Hb (f:=(E1)) (xs:=a.2.2.States) (y:=a5) O O O Jz h6 h5) O,ø⟩ (Gd (u:=E1 a5) O O ⟨Gh (Gg Ze O O O) O,ø⟩ (Gd (u:=E1 e) O O ⟨Gh (G6 O O) O,ø⟩ (Gd (u:=E2 a6) O O ⟨Gh (Gu O (G31 a5 e a6 h7) Ja6 ⟨O,O,O,O,ø⟩) O,ø⟩ (D_w (u:=.tup [.ptr 1207 0,I64 c.2]) O O O O (Gh (Yv (args:=[.agg (Gi.cs a.1),E7 a.2.1,E1 e,E2 a6]) (L0:=[]) (Lr:=[(1207,.box 94 [E3 c.1.ship.Columns,E8 c.1.ship.Covers,I64 c.1.ship.Light.Kilos,I64 c.1.ship.Light.X,I64 c.1.ship.Light.Y,I64 c.1.ship.Light.Z,E4 c.1.ship.Rows,E5 c.1.ship.Frames,E6 c.1.ship.Tanks,I64 c.1.ship.G8.Tolerance,I64 c.1.ship.G8.Trim,I64 c.1.ship.G8.List_,I64 c.1.ship.G8.Stability,.mp 1208,.mp 1209,.mp 1210,I64 c.1.lifts]),(1208,TP 90 Slot.kv Box.av c.1.on),(1209,TP 91 Ks Box.av c.1.quay),(1210,TP 92 Ks I64 c.1.open_)]) O (Hd5 a.1 a.2.1 e a6 c h8) Ja7 ⟨.inl O,O,.inl O,O,.inl O,O,.inl O,O,ø⟩ ø O O O) O) (Gd (u:=.tup [.ptr 1207 0,I64 c.2]) O O ⟨Gh (G6 O O) O,ø⟩ (Gd (u:=.ptr 1207 0) O O ⟨Gh (Gz O O O) O,ø⟩ (Gd (u:=I64 c.2) O O ⟨Gh (Gz O O O) O,ø⟩ ?_)))))))))))))
   refine Gd (u:=.ptr 1207 0) O O ⟨Gh (G7 O O) O,ø⟩ (Gd (u:=I64 c.2) O O ⟨Gh (G7 O O) O,ø⟩ (Rj (h4 (Js fun h9=>Jr fun i0=>(JLm (I64 l.2) O (JLm (I64 i.2) O ?_))))))
   obtain⟨k8,i1,h⟩:=J0 h
   refine JLh (I64 k8) (Ja i1 O O O) O (JLm (I64 c.2) O ?_)
   obtain⟨f9,i2,h⟩:=J0 h
   refine JLh (I64 f9) (Ja i2 O O O) O (JLh (BL (decide (f9≠0))) (Gca O O O) O (G5 (i0 (JCc O h (fun h hb=>?_) (fun h hb=>?_)))))
   ·
    refine Jr fun i3=>(JLm (BL false) O (G5 (i3 (Gs (fin1 BL h)))))
   ·
    refine Gm (h9 (Js fun i4=>Jr fun i5=>(JLm (Ea l.1) O (JLl Zo O O O fun i6=>(JLm (I64 0) O (G5 (i5 (Gq ?_))))))))
    obtain⟨k9,i7,i8,c0,h⟩:=Jc h
    refine Hn (fun t (d:Gc)=>each k9 i7 (List.drop t l.1) t d=some r) (fun t d=>[(11,.dptr [LS 1 (E1) a.2.2.States,LS 1 (E2) a.2.2.Water]),(12,E1 e),(13,I64 p),(16,E2 i.1),(18,.ptr 1207 0),(95,Ea l.1),(96,Em l.1.length),(97,Em t)]) (fun t d=>[(1207,.box 94 (Kr d)),(1208,TP 90 Slot.kv Box.av d.on),(1209,TP 91 Ks Box.av d.quay),(1210,TP 92 Ks I64 d.open_)]) (fun t=>l.1.length - t) 0 c.1 h ⟨(.sm O O),⟨fbQ O (.sm O O),fmQ O,fmQ O,fmQ O,ø⟩,rfl⟩ ?_
    clear h
    intro t d b2 m2 l0
    refine Jr fun i9=>(JLh (BL (decide ((t:Int) < (l.1.length:Int)))) (Jo O O O) O (G5 (i9 (Js fun j0=>Gr O (fun hb=>?_) (fun hb=>?_)))))
    ·
     have b3:=Q1 hb
     obtain⟨j,l4,j1,j2,h⟩:=Ht b2 b3
     replace h:=Zn i8 h
     refine Gm (j0 (Js fun c1=>Gq (Jr fun c2=>(JLh (Ef j) (Hb (f:=Move.av) (xs:=l.1) (y:=j) O O O Zo j1 O) O (JLh (.agg (Move.cs j)) (Gk Gb4 O O O) O (JLh (.ptr 1003 0) (Hk 1003 6 H4d O O) O (Ho (u:=.junk) (H7 (u:=.agg (Move.cs j)) (ds:=[U8 j.Kind,I64 j.Box,I64 j.Slot.G3,I64 j.Slot.Tier,U8 j.Slot.Half,I64 j.G9]) J99 O O O O O O O O) (G5 (c2 ?_)))))))))
     refine fzQ [(11,.dptr [LS 1 (E1) a.2.2.States,LS 1 (E2) a.2.2.Water]),(12,E1 e),(13,I64 p),(16,E2 i.1),(18,.ptr 1207 0),(21,Ef j),(95,Ea l.1),(96,Em l.1.length),(97,Em t)] [(1207,.box 94 (Kr d)),(1208,TP 90 Slot.kv Box.av d.on),(1209,TP 91 Ks Box.av d.quay),(1210,TP 92 Ks I64 d.open_)] 1003 rfl rfl rfl ⟨⟨_,rfl,.boxEq rfl rfl⟩,fmQ O,fmQ O,fmQ O,ø⟩ rfl ?_
     refine Js fun c3=>Jr fun c4=>(JLh (.dptr ((Move.cs j).drop 1)) (Ga G49 O O O) O (JLh (I64 j.Box) (Gg Gb O O O) O (JLh (BL (decide (j.Box≠0))) (Gca O O O) O (JLm (BL (decide (j.Box≠0))) O (JLo (E2 i.1) [] O .sct ø (fun hc=>G6 O O) O (JLo (.dptr ((Move.cs j).drop 1)) [] O .sct ø (fun hc=>Ga G49 O O O) O (JLo (I64 j.Box) [106] O .sct ⟨Ua,ø⟩ (fun hc=>Gg Gb O O O) O ?_)))))))
     obtain⟨z,c5,h⟩:=Ge h
     refine JLo (BL z) [105,107] O .sct ⟨Ua,Ua,ø⟩ (fun hc=>Gu (args:=[E2 i.1,I64 j.Box]) O (G0b i.1 j.Box z (H4 hc c5)) Hfd ⟨O,O,O,O,ø⟩) O (JLo (BL (!z)) [108] O .sct ⟨Ua,ø⟩ (fun hc=>Y8 (b:=z) O O) O (JLh (BL ((decide (j.Box≠0))&&(!z))) (Y4 O O O O) O (G5 (c4 (JCc O h (fun h hb=>?_) (fun h hb=>?_))))))
     ·
      refine Jr fun c6=>(JLm (BL false) O (G5 (c6 (Gs (fin1 BL h)))))
     ·
      refine Gm (c3 (Jr fun c7=>(JLm (.ptr 1207 0) O (JLh (.agg (Move.cs j)) (Gk Gb4 O O O) O ?_))))
      obtain⟨g,c8,h⟩:=Ge h
      refine JLh (I64 g.1) (Yv (args:=[.ptr 1207 0,.agg (Move.cs j)]) (L0:=[(1207,.box 94 (Kr d)),(1208,TP 90 Slot.kv Box.av d.on),(1209,TP 91 Ks Box.av d.quay),(1210,TP 92 Ks I64 d.open_)]) (Lr:=[(1207,.box 94 [E3 g.2.ship.Columns,E8 g.2.ship.Covers,I64 g.2.ship.Light.Kilos,I64 g.2.ship.Light.X,I64 g.2.ship.Light.Y,I64 g.2.ship.Light.Z,E4 g.2.ship.Rows,E5 g.2.ship.Frames,E6 g.2.ship.Tanks,I64 g.2.ship.G8.Tolerance,I64 g.2.ship.G8.Trim,I64 g.2.ship.G8.List_,I64 g.2.ship.G8.Stability,.mp 1208,.mp 1209,.mp 1210,I64 g.2.lifts]),(1208,TP 90 Slot.kv Box.av g.2.on),(1209,TP 91 Ks Box.av g.2.quay),(1210,TP 92 Ks I64 g.2.open_)]) O (H9c d j g c8) Ja5 ⟨.inl O,O,.inl O,O,ø⟩ ⟨O,O,O,O,ø⟩ O O O) O (JLh (BL (decide (g.1≠0))) (Gca O O O) O (G5 (c7 ?_)))
      refine JCc O h ?_ ?_<;>intro h hb
      ·
       refine Jr fun c9=>(JLm (BL false) O (G5 (c9 (Gs (fin1 BL h)))))
      ·
       refine Gm (c1 (G2 (JLh (I64 ((t+1:Nat):Int)) (Ja (Hp b3 i6) O O O) O (JLm (I64 ((t+1:Nat):Int)) O (G5 (l0 _ _ (t+1) g.2 (app1 j2 h) (by omega) ⟨(.sm O O),⟨fbQ O (.sm O O),fmQ O,fmQ O,fmQ O,ø⟩,rfl⟩))))))
    ·
     have h:=app1 c0 (Hu b2 (Hh hb))
     refine Hr (i4 (Jr fun d0=>(JLm (I64 0) O (G5 (d0 (Js fun d1=>Jr fun d2=>(JLm (E2 i.1) O (JLl H1 O O O fun d3=>(JLm (I64 0) O (G5 (d2 (Gq ?_))))))))))))
     obtain⟨j3,d4,d5,b4,h⟩:=Jc h
     refine Hn (fun k (s:Int)=>each j3 d4 (List.drop k i.1) k s=some r) (fun k s=>[(11,.dptr [LS 1 (E1) a.2.2.States,LS 1 (E2) a.2.2.Water]),(12,E1 e),(13,I64 p),(18,.ptr 1207 0),(22,I64 s),(116,E2 i.1),(117,Em i.1.length),(118,Em k)]) (fun k s=>[(1207,.box 94 (Kr d)),(1208,TP 90 Slot.kv Box.av d.on),(1209,TP 91 Ks Box.av d.quay),(1210,TP 92 Ks I64 d.open_)]) (fun k=>i.1.length - k) 0 0 h ⟨(.sm O O),⟨fbQ O (.sm O O),fmQ O,fmQ O,fmQ O,ø⟩,rfl⟩ ?_
     clear h
     intro k s a7 l5 j4
     refine Jr fun d6=>(JLh (BL (decide ((k:Int) < (i.1.length:Int)))) (Jo O O O) O (G5 (d6 (Js fun d7=>Gr O (fun hb=>?_) (fun hb=>?_)))))
     ·
      have a8:=Q1 hb
      obtain⟨m,l1,d8,d9,h⟩:=Ht a7 a8
      replace h:=Zn d5 h
      refine Gm (d7 (Js fun e0=>Gq (Jr fun e1=>(JLh (.dptr [I64 m]) (Hb (f:=I64) (xs:=i.1) (y:=m) O O O H1 d8 O) O (JLh (I64 m) (Gg Gb O O O) O (JLh (.ptr 1004 0) (Hk 1004 1 Y0 O O) O (Ho (u:=.junk) (H7 (u:=I64 m) (ds:=[I64 m]) G53 O O O O O O O O) (G5 (e1 ?_)))))))))
      refine fzQ [(11,.dptr [LS 1 (E1) a.2.2.States,LS 1 (E2) a.2.2.Water]),(12,E1 e),(13,I64 p),(18,.ptr 1207 0),(22,I64 s),(24,.dptr [I64 m]),(116,E2 i.1),(117,Em i.1.length),(118,Em k)] [(1207,.box 94 (Kr d)),(1208,TP 90 Slot.kv Box.av d.on),(1209,TP 91 Ks Box.av d.quay),(1210,TP 92 Ks I64 d.open_)] 1004 rfl rfl rfl ⟨⟨_,rfl,.boxEq rfl rfl⟩,fmQ O,fmQ O,fmQ O,ø⟩ rfl ?_
      refine Jr fun e2=>(JLm (E1 e) O (JLh (.dptr [LS 1 (E1) a.2.2.States,LS 1 (E2) a.2.2.Water]) (Ga Zc O O O) O (JLh (LS 1 (E1) a.2.2.States) (Gg Ys O O O) O (JLm (I64 p) O ?_))))
      obtain⟨l6,n,e3,e4,h⟩:=Yc h
      refine JLh (.dptr [E1 n]) (Hb (f:=(E1)) (xs:=a.2.2.States) (y:=n) O O O Jz e4 e3) O (JLh (E1 n) (Gg Ze O O O) O (JLh (LS 1 (E1) [e,n]) (He (xs:=[E1 e,E1 n]) O ⟨O,O,O,O,ø⟩ Jz Had O O O O) O (JLl Jz O O O fun e5=>(JLm (I64 0) O (G5 (e2 (Gq ?_)))))))
      obtain⟨j5,e6,e7,b5,h⟩:=Jc h
      refine Hn (fun o (v:Int)=>each j5 e6 (List.drop o [e,n]) o v=some r) (fun o v=>[(11,.dptr [LS 1 (E1) a.2.2.States,LS 1 (E2) a.2.2.Water]),(12,E1 e),(13,I64 p),(18,.ptr 1207 0),(22,I64 v),(24,.dptr [I64 m]),(116,E2 i.1),(117,Em i.1.length),(118,Em k),(128,LS 1 (E1) [e,n]),(129,I64 ([e,n].length:Int)),(130,Em o)]) (fun o v=>[(1207,.box 94 (Kr d)),(1208,TP 90 Slot.kv Box.av d.on),(1209,TP 91 Ks Box.av d.quay),(1210,TP 92 Ks I64 d.open_)]) (fun o=>[e,n].length - o) 0 s h ⟨(.sm O O),⟨fbQ O (.sm O O),fmQ O,fmQ O,fmQ O,ø⟩,rfl⟩ ?_
      clear h
      intro o v a9 l7 j6
      refine Jr fun e8=>(JLh (BL (decide ((o:Int) < ([e,n].length:Int)))) (Jo O O O) O (G5 (e8 (Js fun e9=>Gr O (fun hb=>?_) (fun hb=>?_)))))
      ·
       have b0:=Q1 hb
       obtain⟨w,l2,f0,f1,h⟩:=Ht a9 b0
       replace h:=Zn e7 h
       refine Gm (e9 ?_)
       obtain⟨f2,b6,h⟩:=Rm h
       refine Qi (fun x:Int=>f2 x=some r) (fun x=>[(11,.dptr [LS 1 (E1) a.2.2.States,LS 1 (E2) a.2.2.Water]),(12,E1 e),(13,I64 p),(18,.ptr 1207 0),(22,I64 x),(24,.dptr [I64 m]),(116,E2 i.1),(117,Em i.1.length),(118,Em k),(128,LS 1 (E1) [e,n]),(129,I64 ([e,n].length:Int)),(130,Em o)]) (fun x=>[(1207,.box 94 (Kr d)),(1208,TP 90 Slot.kv Box.av d.on),(1209,TP 91 Ks Box.av d.quay),(1210,TP 92 Ks I64 d.open_)]) (fun Kj139 ej139=>?_) ?_
       ·
        refine Gq (Jr fun f3=>(JLh (.dptr [E1 w]) (Hb (f:=(E1)) (xs:=[e,n]) (y:=w) O O O Jz f0 O) O (JLh (E1 w) (Gg Ze O O O) O (JLm (E1 w) O (G5 (f3 (Jr fun f4=>(JLm (E1 w) O (JLh (.fn 15 [.dptr [I64 m]]) (Q2 (cs:=[.dptr [I64 m]]) O O) O ?_)))))))))
        obtain⟨b7,f5,h⟩:=Ge h
        refine JLh (BL b7) (Gu O (Z8 w (fun z0=>Ra z0 m) 15 [.dptr [I64 m]] Y2f O (fun z0 q hq=>H36 z0 m q hq) b7 f5) Ja4 ⟨O,O,O,O,ø⟩) O (G5 (f4 (JCc O h (fun h hb=>?_) (fun h hb=>?_))))
        ·
         refine G2 (JLm (I64 v) O ?_)
         obtain⟨a4,f6,h⟩:=J0 h
         refine JLh (I64 a4) (Ja f6 O O O) O (JLm (I64 a4) O (G5 (ej139 _ _ a4 h ⟨(.sm O O),⟨fbQ O (.sm O O),fmQ O,fmQ O,fmQ O,ø⟩,rfl⟩)))
        ·
         refine Gm (ej139 _ _ v h ⟨(.sm O O),⟨fbQ O (.sm O O),fmQ O,fmQ O,fmQ O,ø⟩,rfl⟩)
       ·intro x h
        replace h:=app1 b6 h
        refine G2 (JLh (I64 ((o+1:Nat):Int)) (Ja (Hp b0 e5) O O O) O (JLm (I64 ((o+1:Nat):Int)) O (G5 (j6 _ _ (o+1) x (app1 f1 h) (by omega) ⟨(.sm O O),⟨fbQ O (.sm O O),fmQ O,fmQ O,fmQ O,ø⟩,rfl⟩))))
      ·
       have h:=app1 b5 (Hu a9 (Hh hb))
       refine Hr (e0 (G2 (JLh (I64 ((k+1:Nat):Int)) (Ja (Hp a8 d3) O O O) O (JLm (I64 ((k+1:Nat):Int)) O (G5 (j4 _ _ (k+1) v (app1 d9 h) (by omega) ⟨(.sm O O),⟨fbQ O (.sm O O),fmQ O,fmQ O,fmQ O,ø⟩,rfl⟩))))))
     ·
      have h:=app1 b4 (Hu a7 (Hh hb))
      refine Hr (d1 (Jr fun f7=>(JLm (.ptr 1207 0) O ?_)))
      obtain⟨a0,f8,h⟩:=Ge h
      refine JLh (I64 a0) (G69 (args:=[.dptr (Gc.cs d)]) O (H17 d a0 f8) Ja3 ⟨.ptrL O (dnQ 13 O O ⟨.mp O,.mp O,.mp O,.data O O,ø⟩),ø⟩ O) O (JLm (I64 s) O (JLh (BL (decide (a0=s))) (Qk O O O) O (JLm (BL (decide (a0=s))) O (G5 (f7 (Gs (fin1 BL h)))))))
end
end Go.Proofs.YtgcpimpnpcdmmaaGreat
