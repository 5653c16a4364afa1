/- Walks of functions. -/
import Derived.Test.YtmfhaflabpnaoaaGreatXRb
set_option maxRecDepth 100000
set_option maxHeartbeats 1000000
set_option linter.unusedVariables false
set_option linter.unusedSimpArgs false
namespace Go.Proofs.YtmfhaflabpnaoaaGreat
open Go.RowKit
noncomputable section
open XAF
open XLF
open XCF
open XSF
open XKF
open XTF
open XUF
open XBF
open XRF

def Qh (F:Nat) (m:Gq) (x:Move):Option (Gq×Int):=
 bif ((decide (x.Kind=1))||(decide (x.Kind=4))) then
 (bnd (Z7 F m x) fun d=>
  some (d.1,d.2))
 else
 (bif (((decide (x.Kind≠2))&&(decide (x.Kind≠3)))||(decide (x.Ga≠0))) then
  (some (m,310))
  else
  (bif decide (x.Kind=2) then
   (bnd (Qi m.State x.Box) fun b=>
    bnd (bif (!(decide (b < 0))) then Qr m.State b some else some default) fun e=>
    bif ((decide (b < 0))||(!decide (e.Slot=x.Slot))) then
    (some (m,313))
    else
    (bnd (Zk F m.G6 m.Boxes m.State m.Open x.Box) fun c=>
     bif decide (c.2=90) then
     (some (m,314))
     else
     (bif decide (c.2=91) then
      (some (m,315))
      else
      (bnd (Zj m.Ashore x.Box) fun f=>
       chk (m.Lifts+1) fun g=>
       some ((Gq.mk m.G6 m.Boxes c.1 f m.Open g),0)))))
   else
   (bnd (Yx m.Ashore x.Box) fun h=>
    bif (!h) then
    (some (m,313))
    else
    (bnd (G00 F m.G6 m.Boxes m.State m.Open (G3.mk x.Box x.Slot)) fun a=>
     bif decide (a.2=97) then
     (some (m,316))
     else
     (bif decide (a.2=91) then
      (some (m,315))
      else
      (bif decide (a.2=92) then
       (some (m,317))
       else
       (bif decide (a.2=93) then
        (some (m,318))
        else
        (bif decide (a.2=94) then
         (some (m,319))
         else
         (bnd (Rt m.Ashore x.Box) fun i=>
          chk (m.Lifts+1) fun j=>
          some ((Gq.mk m.G6 m.Boxes a.1 i m.Open j),0))))))))))
abbrev Kj:List AV:=[E3 ([]:List G1),E7 ([]:List Ga),I64 0,I64 0,I64 0,I64 0,E4 ([]:List Row),E5 ([]:List Frame),E6 ([]:List Gr),I64 0,I64 0,I64 0,I64 0,E8 ([]:List Box),E2 ([]:List G3),E1 ([]:List Int),E1 ([]:List Int),I64 0]
theorem Ge3 (F:Nat) (m:Gq) (x:Move) (r:Gq×Int) (h:Qh F m x=some r):Pure Ek 9 [.agg (Gq.cs m),.agg (Move.cs x)] (·=.tup [.agg (Gq.cs r.1),I64 r.2]):=by
 unfold Qh at h
 refine H3 [.cell 4 45,.tmp 5] Tryz.func9 O O ?_
 refine Jr fun d3=>?_
 refine JLg (.ptr 1016 0) (Ju (cs:=(Gq.cs m)) 1016 O O O O O) ?_
 refine JLg (.ptr 1017 0) (Ju (cs:=[U8 x.Kind,I64 x.Box,I64 x.Slot.G1,I64 x.Slot.Tier,U8 x.Slot.Half,I64 x.Ga]) 1017 O O O O O) ?_
 refine JLg (.ptr 1018 0) (G8f 1018 Kj [.slice none 0 0,.slice none 0 0,E0,E0,E0,E0,.slice none 0 0,.slice none 0 0,.slice none 0 0,E0,E0,E0,E0,.slice none 0 0,.slice none 0 0,.slice none 0 0,.slice none 0 0,E0] Ge5 ⟨.inr ⟨_,O,O⟩,.inr ⟨_,O,O⟩,.inl O,.inl O,.inl O,.inl O,.inr ⟨_,O,O⟩,.inr ⟨_,O,O⟩,.inr ⟨_,O,O⟩,.inl O,.inl O,.inl O,.inl O,.inr ⟨_,O,O⟩,.inr ⟨_,O,O⟩,.inr ⟨_,O,O⟩,.inr ⟨_,O,O⟩,.inl O,G⟩ O O) ?_
 refine JLm (I64 0) O ?_
 refine G8 (d3 ?_)
 refine Gu [(2,.ptr 1016 0),(3,Ec x),(4,.ptr 1018 0)] [(1016,.box 45 (Gq.cs m)),(1018,.box 45 Kj)] 1017 rfl rfl rfl ⟨⟨_,rfl,.boxEq rfl rfl⟩,⟨_,rfl,.boxEq rfl rfl⟩,G⟩ rfl (by exact⟨.conv (.same rfl),.ptr,.conv (.same rfl),G⟩) ?_
 refine Js fun d4=>?_
 refine Jr fun d5=>?_
 refine JLg (Ec x) (Gb Zu O O O) ?_
 refine JLg (U8 x.Kind) (Ge Hm O O O) ?_
 refine JLg (BL (decide (x.Kind=1))) (Jk O O O) ?_
 refine JLm (BL (decide (x.Kind=1))) O ?_
 refine JLo (Ec x) [] O .scf G (fun hc=>Gb Zu O O O) O ?_
 refine JLo (U8 x.Kind) [15] O .scf ⟨Ua,G⟩ (fun hc=>Ge Hm O O O) O ?_
 refine JLo (BL (decide (x.Kind=4))) [16] O .scf ⟨Ua,G⟩ (fun hc=>Jk O O O) O ?_
 refine JLg (BL ((decide (x.Kind=1))||(decide (x.Kind=4)))) (Ya O O O O) ?_
 refine G8 (d5 ?_)
 refine JCc O h ?_ ?_<;>intro h hb
 ·
  refine Jr fun d6=>?_
  refine JLg (.agg (Gq.cs m)) (Ra Ja O O O O) ?_
  refine JLg (.agg (Move.cs x)) (Gt G23 O O O) ?_
  obtain⟨l,d7,h⟩:=Gj h
  refine JLg (.tup [.agg (Gq.cs l.1),I64 l.2]) (Gw O (H6b F m x l d7) R54 ⟨O,O,O,O,G⟩) ?_
  refine JLg (.agg (Gq.cs l.1)) (H4 O O O) ?_
  refine JLg (I64 l.2) (H4 O O O) ?_
  refine J9 (u:=.junk) (He (u:=.agg (Gq.cs l.1)) (ds:=(Gq.cs l.1)) Qf O O O O O O O O) ?_
  refine JLm (I64 l.2) O ?_
  refine G8 (d6 ?_)
  refine Gu [(4,.ptr 1018 0),(5,I64 l.2)] [(1018,.box 45 (Gq.cs l.1))] 1016 rfl rfl rfl ⟨⟨_,rfl,.boxEq rfl rfl⟩,G⟩ rfl (by exact⟨.conv (.same rfl),.conv (.same rfl),G⟩) ?_
  refine Gs ?_
  exact⟨[.agg (Gq.cs l.1),I64 l.2],[],G,O,⟨⟨_,⟨_,_,_,_,O,O,O,.inl ⟨Ja,O⟩⟩,.conv (.same O)⟩,⟨_,O,.conv (.same O)⟩,G⟩,O,congrArg (fun r:Gq×Int=>(.tup [.agg (Gq.cs r.1),I64 r.2]:AV)) (M2 h)⟩
 ·
  refine Gn ?_
  refine d4 ?_
  refine Js fun d8=>?_
  refine Jr fun d9=>?_
  refine JLg (Ec x) (Gb Zu O O O) ?_
  refine JLg (U8 x.Kind) (Ge Hm O O O) ?_
  refine JLg (BL (decide (x.Kind≠2))) (G2c O O O) ?_
  refine JLm (BL (decide (x.Kind≠2))) O ?_
  refine JLo (Ec x) [] O .sct G (fun hc=>Gb Zu O O O) O ?_
  refine JLo (U8 x.Kind) [28] O .sct ⟨Ua,G⟩ (fun hc=>Ge Hm O O O) O ?_
  refine JLo (BL (decide (x.Kind≠3))) [29] O .sct ⟨Ua,G⟩ (fun hc=>G2c O O O) O ?_
  refine JLg (BL ((decide (x.Kind≠2))&&(decide (x.Kind≠3)))) (Jv O O O O) ?_
  refine JLm (BL ((decide (x.Kind≠2))&&(decide (x.Kind≠3)))) O ?_
  refine JLo (.dptr [I64 x.Ga]) [] O .scf G (fun hc=>Gb Rc O O O) O ?_
  refine JLo (I64 x.Ga) [33] O .scf ⟨Ua,G⟩ (fun hc=>Ge Gd O O O) O ?_
  refine JLo (BL (decide (x.Ga≠0))) [34] O .scf ⟨Ua,G⟩ (fun hc=>G2c O O O) O ?_
  refine JLg (BL (((decide (x.Kind≠2))&&(decide (x.Kind≠3)))||(decide (x.Ga≠0)))) (Ya O O O O) ?_
  refine G8 (d9 ?_)
  refine JCc O h ?_ ?_<;>intro h hb
  ·
   refine Jr fun e0=>?_
   refine JLg (.agg (Gq.cs m)) (Ra Ja O O O O) ?_
   refine J9 (u:=.junk) (He (u:=.agg (Gq.cs m)) (ds:=(Gq.cs m)) Qf O O O O O O O O) ?_
   refine JLm (I64 310) O ?_
   refine G8 (e0 ?_)
   refine Gu [(4,.ptr 1018 0),(5,I64 310)] [(1018,.box 45 (Gq.cs m))] 1016 rfl rfl rfl ⟨⟨_,rfl,.boxEq rfl rfl⟩,G⟩ rfl (by exact⟨.conv (.same rfl),.conv (.same rfl),G⟩) ?_
   refine Gs ?_
   exact⟨[.agg (Gq.cs m),I64 310],[],G,O,⟨⟨_,⟨_,_,_,_,O,O,O,.inl ⟨Ja,O⟩⟩,.conv (.same O)⟩,⟨_,O,.conv (.same O)⟩,G⟩,O,congrArg (fun r:Gq×Int=>(.tup [.agg (Gq.cs r.1),I64 r.2]:AV)) (M2 h)⟩
  ·
   refine Gn ?_
   refine d8 ?_
   refine Js fun e1=>?_
   refine Jr fun q=>?_
   refine JLg (Ec x) (Gb Zu O O O) ?_
   refine JLg (U8 x.Kind) (Ge Hm O O O) ?_
   refine JLg (BL (decide (x.Kind=2))) (Jk O O O) ?_
   refine G8 (q ?_)
   refine JCc O h ?_ ?_<;>intro h hb
   ·
    refine Jr fun s=>?_
    refine JLg (.ptr 1016 14) (Ht G1f O O) ?_
    refine JLg (E2 m.State) (J8 G91 O O O O) ?_
    refine JLg (.dptr ((Move.cs x).drop 1)) (Gb Y4 O O O) ?_
    refine JLg (I64 x.Box) (Ge Gd O O O) ?_
    obtain⟨i,t,h⟩:=Gj h
    refine JLg (I64 i) (Gw O (Zo m.State x.Box i t) H35 ⟨O,O,O,O,G⟩) ?_
    refine JLm (I64 i) O ?_
    refine G8 (s ?_)
    refine Js fun v=>?_
    refine Js fun w=>?_
    refine Qw (l':=[(2,.ptr 1016 0),(3,Ec x),(4,.ptr 1018 0),(6,I64 i)]) (L':=[(1016,.box 45 (Gq.cs m)),(1018,.box 45 Kj)]) ⟨(.sm O O),⟨fbQ O (.sm O O),fbQ O (.sm O O),G⟩,rfl⟩ ?_
    obtain⟨g,z,h⟩:=Gj h
    refine JC_d0 Ho (by kernel_rfl) ?_
    refine Dq (I64 i) (G7 O O) O ?_
    refine Dq (BL (decide (i < 0))) (Jq O O O) O ?_
    refine Dq (BL (decide (i < 0))) (G7 O O) O ?_
    refine Do (.ptr 1016 14) [] O .scf G (fun hc=>Ht G1f O O) O ?_
    refine Do (E2 m.State) [49] O .scf ⟨Ua,G⟩ (fun hc=>J8 G91 O O O O) O ?_
    refine Do (I64 i) [] O .scf G (fun hc=>G7 O O) O ?_
    refine Do (Ef g) [50,51] O .scf ⟨Ua,Ua,G⟩ (fun hc=>(match R1 (H1 hc z) with | ⟨_,hm_,hy_⟩=>H0 (f:=G3.av) (xs:=m.State) (y:=g) O O O H6 hy_ hm_)) O ?_
    refine Do (.dptr ((G3.cs g).drop 1)) [52] O .scf ⟨Ua,G⟩ (fun hc=>Gb J1 O O O) O ?_
    refine Do (.agg ((G3.cs g).drop 1)) [53] O .scf ⟨Ua,G⟩ (fun hc=>Gt Hx O O O) O ?_
    refine Do (.dptr ((Move.cs x).drop 2)) [] O .scf G (fun hc=>Gb Qd O O O) O ?_
    refine Do (.agg (Slot.cs x.Slot)) [55] O .scf ⟨Ua,G⟩ (fun hc=>Gt Hx O O O) O ?_
    refine Do (BL (!decide (g.Slot=x.Slot))) [54,56] O .scf ⟨Ua,Ua,G⟩ (fun hc=>Qd0 (vs:=[.int .i64 g.Slot.G1,.int .i64 g.Slot.Tier,.int .u8 g.Slot.Half]) (us:=[.int .i64 x.Slot.G1,.int .i64 x.Slot.Tier,.int .u8 x.Slot.Half]) 4 O (Qd3 g.Slot x.Slot) H52 Hec O O O) O ?_
    refine Dq (BL ((decide (i < 0))||(!decide (g.Slot=x.Slot)))) (Ya O O O O) O ?_
    refine Dnil ?_
    refine w ?_
    refine JCc O h ?_ ?_<;>intro h hb
    ·
     refine Jr fun a0=>?_
     refine JLg (.agg (Gq.cs m)) (Ra Ja O O O O) ?_
     refine J9 (u:=.junk) (He (u:=.agg (Gq.cs m)) (ds:=(Gq.cs m)) Qf O O O O O O O O) ?_
     refine JLm (I64 313) O ?_
     refine G8 (a0 ?_)
     refine Gu [(4,.ptr 1018 0),(5,I64 313)] [(1018,.box 45 (Gq.cs m))] 1016 rfl rfl rfl ⟨⟨_,rfl,.boxEq rfl rfl⟩,G⟩ rfl (by exact⟨.conv (.same rfl),.conv (.same rfl),G⟩) ?_
     refine Gs ?_
     exact⟨[.agg (Gq.cs m),I64 313],[],G,O,⟨⟨_,⟨_,_,_,_,O,O,O,.inl ⟨Ja,O⟩⟩,.conv (.same O)⟩,⟨_,O,.conv (.same O)⟩,G⟩,O,congrArg (fun r:Gq×Int=>(.tup [.agg (Gq.cs r.1),I64 r.2]:AV)) (M2 h)⟩
    ·
     refine Gn ?_
     refine v ?_
     refine Jr fun a1=>?_
     refine JLg (.ptr 1016 0) (Ht Gf6 O O) ?_
     refine JLg (.agg (G6.cs m.G6)) (Ra Jm O O O O) ?_
     refine JLg (.ptr 1016 13) (Ht H64 O O) ?_
     refine JLg (E8 m.Boxes) (J8 H97 O O O O) ?_
     refine JLg (.ptr 1016 14) (Ht G1f O O) ?_
     refine JLg (E2 m.State) (J8 G91 O O O O) ?_
     refine JLg (.ptr 1016 16) (Ht G1e O O) ?_
     refine JLg (E1 m.Open) (J8 Hq O O O O) ?_
     refine JLg (.dptr ((Move.cs x).drop 1)) (Gb Y4 O O O) ?_
     refine JLg (I64 x.Box) (Ge Gd O O O) ?_
     obtain⟨c,a2,h⟩:=Gj h
     refine JLg (.tup [E2 c.1,I64 c.2]) (Gw O (H85 F m.G6 m.Boxes m.State m.Open x.Box c a2) R53 ⟨O,O,O,O,O,O,O,O,O,O,G⟩) ?_
     refine JLm (.tup [E2 c.1,I64 c.2]) O ?_
     refine JLg (E2 c.1) (H4 O O O) ?_
     refine JLg (I64 c.2) (H4 O O O) ?_
     refine JLm (E2 c.1) O ?_
     refine JLm (I64 c.2) O ?_
     refine G8 (a1 ?_)
     refine Js fun a3=>?_
     refine Jr fun a4=>?_
     refine JLm (I64 c.2) O ?_
     refine JLg (BL (decide (c.2=90))) (Jk O O O) ?_
     refine G8 (a4 ?_)
     refine JCc O h ?_ ?_<;>intro h hb
     ·
      refine Jr fun a5=>?_
      refine JLg (.agg (Gq.cs m)) (Ra Ja O O O O) ?_
      refine J9 (u:=.junk) (He (u:=.agg (Gq.cs m)) (ds:=(Gq.cs m)) Qf O O O O O O O O) ?_
      refine JLm (I64 314) O ?_
      refine G8 (a5 ?_)
      refine Gu [(4,.ptr 1018 0),(5,I64 314)] [(1018,.box 45 (Gq.cs m))] 1016 rfl rfl rfl ⟨⟨_,rfl,.boxEq rfl rfl⟩,G⟩ rfl (by exact⟨.conv (.same rfl),.conv (.same rfl),G⟩) ?_
      refine Gs ?_
      exact⟨[.agg (Gq.cs m),I64 314],[],G,O,⟨⟨_,⟨_,_,_,_,O,O,O,.inl ⟨Ja,O⟩⟩,.conv (.same O)⟩,⟨_,O,.conv (.same O)⟩,G⟩,O,congrArg (fun r:Gq×Int=>(.tup [.agg (Gq.cs r.1),I64 r.2]:AV)) (M2 h)⟩
     ·
      refine Gn ?_
      refine a3 ?_
      refine Js fun a6=>?_
      refine Jr fun a7=>?_
      refine JLm (I64 c.2) O ?_
      refine JLg (BL (decide (c.2=91))) (Jk O O O) ?_
      refine G8 (a7 ?_)
      refine JCc O h ?_ ?_<;>intro h hb
      ·
       refine Jr fun a8=>?_
       refine JLg (.agg (Gq.cs m)) (Ra Ja O O O O) ?_
       refine J9 (u:=.junk) (He (u:=.agg (Gq.cs m)) (ds:=(Gq.cs m)) Qf O O O O O O O O) ?_
       refine JLm (I64 315) O ?_
       refine G8 (a8 ?_)
       refine Gu [(4,.ptr 1018 0),(5,I64 315)] [(1018,.box 45 (Gq.cs m))] 1016 rfl rfl rfl ⟨⟨_,rfl,.boxEq rfl rfl⟩,G⟩ rfl (by exact⟨.conv (.same rfl),.conv (.same rfl),G⟩) ?_
       refine Gs ?_
       exact⟨[.agg (Gq.cs m),I64 315],[],G,O,⟨⟨_,⟨_,_,_,_,O,O,O,.inl ⟨Ja,O⟩⟩,.conv (.same O)⟩,⟨_,O,.conv (.same O)⟩,G⟩,O,congrArg (fun r:Gq×Int=>(.tup [.agg (Gq.cs r.1),I64 r.2]:AV)) (M2 h)⟩
      ·
       refine Gn ?_
       refine a6 ?_
       refine Js fun a9=>?_
       refine Qw (l':=[(2,.ptr 1016 0),(3,Ec x),(4,.ptr 1018 0),(7,E2 c.1)]) (L':=[(1016,.box 45 (Gq.cs m)),(1018,.box 45 Kj)]) ⟨(.sm O O),⟨fbQ O (.sm O O),fbQ O (.sm O O),G⟩,rfl⟩ ?_
       obtain⟨d,b0,h⟩:=Gj h
       obtain⟨j,n,h⟩:=Zw h
       refine J4 [10,12,14] [0,0,0,0,0,0,0,0,0,0,0,1,0,2,0] [0,0,0,0,0,0,0,0,2,0,0,1,0,2,0] [[(1016,.box 45 (Gq.cs m)),(1018,.box 45 Kj)],((1016,.box 45 [E3 m.G6.Columns,E7 m.G6.Covers,I64 m.G6.Light.Kilos,I64 m.G6.Light.X,I64 m.G6.Light.Y,I64 m.G6.Light.Z,E4 m.G6.Rows,E5 m.G6.Frames,E6 m.G6.Tanks,I64 m.G6.G5.Tolerance,I64 m.G6.G5.Trim,I64 m.G6.G5.List_,I64 m.G6.G5.Stability,E8 m.Boxes,E2 c.1,E1 m.Ashore,E1 m.Open,I64 m.Lifts])::[(1016,.box 45 (Gq.cs m)),(1018,.box 45 Kj)]),((1016,.box 45 [E3 m.G6.Columns,E7 m.G6.Covers,I64 m.G6.Light.Kilos,I64 m.G6.Light.X,I64 m.G6.Light.Y,I64 m.G6.Light.Z,E4 m.G6.Rows,E5 m.G6.Frames,E6 m.G6.Tanks,I64 m.G6.G5.Tolerance,I64 m.G6.G5.Trim,I64 m.G6.G5.List_,I64 m.G6.G5.Stability,E8 m.Boxes,E2 c.1,E1 d,E1 m.Open,I64 m.Lifts])::((1016,.box 45 [E3 m.G6.Columns,E7 m.G6.Covers,I64 m.G6.Light.Kilos,I64 m.G6.Light.X,I64 m.G6.Light.Y,I64 m.G6.Light.Z,E4 m.G6.Rows,E5 m.G6.Frames,E6 m.G6.Tanks,I64 m.G6.G5.Tolerance,I64 m.G6.G5.Trim,I64 m.G6.G5.List_,I64 m.G6.G5.Stability,E8 m.Boxes,E2 c.1,E1 m.Ashore,E1 m.Open,I64 m.Lifts])::[(1016,.box 45 (Gq.cs m)),(1018,.box 45 Kj)])),((1016,.box 45 [E3 m.G6.Columns,E7 m.G6.Covers,I64 m.G6.Light.Kilos,I64 m.G6.Light.X,I64 m.G6.Light.Y,I64 m.G6.Light.Z,E4 m.G6.Rows,E5 m.G6.Frames,E6 m.G6.Tanks,I64 m.G6.G5.Tolerance,I64 m.G6.G5.Trim,I64 m.G6.G5.List_,I64 m.G6.G5.Stability,E8 m.Boxes,E2 c.1,E1 d,E1 m.Open,I64 j])::((1016,.box 45 [E3 m.G6.Columns,E7 m.G6.Covers,I64 m.G6.Light.Kilos,I64 m.G6.Light.X,I64 m.G6.Light.Y,I64 m.G6.Light.Z,E4 m.G6.Rows,E5 m.G6.Frames,E6 m.G6.Tanks,I64 m.G6.G5.Tolerance,I64 m.G6.G5.Trim,I64 m.G6.G5.List_,I64 m.G6.G5.Stability,E8 m.Boxes,E2 c.1,E1 d,E1 m.Open,I64 m.Lifts])::((1016,.box 45 [E3 m.G6.Columns,E7 m.G6.Covers,I64 m.G6.Light.Kilos,I64 m.G6.Light.X,I64 m.G6.Light.Y,I64 m.G6.Light.Z,E4 m.G6.Rows,E5 m.G6.Frames,E6 m.G6.Tanks,I64 m.G6.G5.Tolerance,I64 m.G6.G5.Trim,I64 m.G6.G5.List_,I64 m.G6.G5.Stability,E8 m.Boxes,E2 c.1,E1 m.Ashore,E1 m.Open,I64 m.Lifts])::[(1016,.box 45 (Gq.cs m)),(1018,.box 45 Kj)])))] Ho (by kernel_rfl) rfl rfl ?_
       refine Gc (u:=E2 c.1) O O ⟨Gi (G7 O O) O,G⟩ ?_
       refine Gc (u:=.ptr 1016 15) O O ⟨Gi (Ht G71 O O) O,G⟩ ?_
       refine Gc (u:=E1 m.Ashore) O O ⟨Gi (J8 Hq O O O O) O,G⟩ ?_
       refine Gc (u:=.dptr ((Move.cs x).drop 1)) O O ⟨Gi (Gb Y4 O O O) O,G⟩ ?_
       refine Gc (u:=I64 x.Box) O O ⟨Gi (Ge Gd O O O) O,G⟩ ?_
       refine Gc (u:=E1 d) O O ⟨Gi (Gw O (H83 m.Ashore x.Box d b0) R52 ⟨O,O,O,O,G⟩) O,G⟩ ?_
       refine Gc (u:=.ptr 1016 17) O O ⟨Gi (Ht Ga6 O O) O,G⟩ ?_
       refine Gc (u:=I64 m.Lifts) O O ⟨Gi (J8 Gd O O O O) O,G⟩ ?_
       refine Gc (u:=I64 j) O O ⟨Gi (Jo n O O O) O,Gi (Jo n O O O) O,Gi (Jo n O O O) O,G⟩ ?_
       refine Gc (u:=.ptr 1016 14) O O ⟨Gi (Ht G1f O O) O,G⟩ ?_
       refine Gf2 (u:=.junk) O O O O (Gi (He (u:=E2 c.1) (ds:=[E3 m.G6.Columns,E7 m.G6.Covers,I64 m.G6.Light.Kilos,I64 m.G6.Light.X,I64 m.G6.Light.Y,I64 m.G6.Light.Z,E4 m.G6.Rows,E5 m.G6.Frames,E6 m.G6.Tanks,I64 m.G6.G5.Tolerance,I64 m.G6.G5.Trim,I64 m.G6.G5.List_,I64 m.G6.G5.Stability,E8 m.Boxes,E2 c.1,E1 m.Ashore,E1 m.Open,I64 m.Lifts]) Je1 O O O O O O O O) O) ?_
       refine Gc (u:=.ptr 1016 15) O O ⟨Gi (Ht G71 O O) O,G⟩ ?_
       refine Gf2 (u:=.junk) O O O O (Gi (He (u:=E1 d) (ds:=[E3 m.G6.Columns,E7 m.G6.Covers,I64 m.G6.Light.Kilos,I64 m.G6.Light.X,I64 m.G6.Light.Y,I64 m.G6.Light.Z,E4 m.G6.Rows,E5 m.G6.Frames,E6 m.G6.Tanks,I64 m.G6.G5.Tolerance,I64 m.G6.G5.Trim,I64 m.G6.G5.List_,I64 m.G6.G5.Stability,E8 m.Boxes,E2 c.1,E1 d,E1 m.Open,I64 m.Lifts]) G7c O O O O O O O O) O) ?_
       refine Gc (u:=.ptr 1016 17) O O ⟨Gi (Ht Ga6 O O) O,G⟩ ?_
       refine Gf2 (u:=.junk) O O O O (Gi (He (u:=I64 j) (ds:=[E3 m.G6.Columns,E7 m.G6.Covers,I64 m.G6.Light.Kilos,I64 m.G6.Light.X,I64 m.G6.Light.Y,I64 m.G6.Light.Z,E4 m.G6.Rows,E5 m.G6.Frames,E6 m.G6.Tanks,I64 m.G6.G5.Tolerance,I64 m.G6.G5.Trim,I64 m.G6.G5.List_,I64 m.G6.G5.Stability,E8 m.Boxes,E2 c.1,E1 d,E1 m.Open,I64 j]) H2b O O O O O O O O) O) ?_
       refine Qp ?_
       refine a9 ?_
       refine Gu [(2,.dptr [E3 m.G6.Columns,E7 m.G6.Covers,I64 m.G6.Light.Kilos,I64 m.G6.Light.X,I64 m.G6.Light.Y,I64 m.G6.Light.Z,E4 m.G6.Rows,E5 m.G6.Frames,E6 m.G6.Tanks,I64 m.G6.G5.Tolerance,I64 m.G6.G5.Trim,I64 m.G6.G5.List_,I64 m.G6.G5.Stability,E8 m.Boxes,E2 c.1,E1 d,E1 m.Open,I64 j]),(4,.ptr 1018 0)] [(1018,.box 45 Kj)] 1016 rfl rfl rfl ⟨⟨_,rfl,.boxEq rfl rfl⟩,G⟩ rfl (by exact⟨.ptr,.conv (.same rfl),G⟩) ?_
       refine Jr fun b1=>?_
       refine JLg (.agg [E3 m.G6.Columns,E7 m.G6.Covers,I64 m.G6.Light.Kilos,I64 m.G6.Light.X,I64 m.G6.Light.Y,I64 m.G6.Light.Z,E4 m.G6.Rows,E5 m.G6.Frames,E6 m.G6.Tanks,I64 m.G6.G5.Tolerance,I64 m.G6.G5.Trim,I64 m.G6.G5.List_,I64 m.G6.G5.Stability,E8 m.Boxes,E2 c.1,E1 d,E1 m.Open,I64 j]) (Gt Ja O O O) ?_
       refine J9 (u:=.junk) (He (u:=.agg [E3 m.G6.Columns,E7 m.G6.Covers,I64 m.G6.Light.Kilos,I64 m.G6.Light.X,I64 m.G6.Light.Y,I64 m.G6.Light.Z,E4 m.G6.Rows,E5 m.G6.Frames,E6 m.G6.Tanks,I64 m.G6.G5.Tolerance,I64 m.G6.G5.Trim,I64 m.G6.G5.List_,I64 m.G6.G5.Stability,E8 m.Boxes,E2 c.1,E1 d,E1 m.Open,I64 j]) (ds:=[E3 m.G6.Columns,E7 m.G6.Covers,I64 m.G6.Light.Kilos,I64 m.G6.Light.X,I64 m.G6.Light.Y,I64 m.G6.Light.Z,E4 m.G6.Rows,E5 m.G6.Frames,E6 m.G6.Tanks,I64 m.G6.G5.Tolerance,I64 m.G6.G5.Trim,I64 m.G6.G5.List_,I64 m.G6.G5.Stability,E8 m.Boxes,E2 c.1,E1 d,E1 m.Open,I64 j]) Qf O O O O O O O O) ?_
       refine JLm (I64 0) O ?_
       refine G8 (b1 ?_)
       refine Gs ?_
       exact⟨[.agg [E3 m.G6.Columns,E7 m.G6.Covers,I64 m.G6.Light.Kilos,I64 m.G6.Light.X,I64 m.G6.Light.Y,I64 m.G6.Light.Z,E4 m.G6.Rows,E5 m.G6.Frames,E6 m.G6.Tanks,I64 m.G6.G5.Tolerance,I64 m.G6.G5.Trim,I64 m.G6.G5.List_,I64 m.G6.G5.Stability,E8 m.Boxes,E2 c.1,E1 d,E1 m.Open,I64 j],I64 0],[],G,O,⟨⟨_,⟨_,_,_,_,O,O,O,.inl ⟨Ja,O⟩⟩,.conv (.same O)⟩,⟨_,O,.conv (.same O)⟩,G⟩,O,congrArg (fun r:Gq×Int=>(.tup [.agg (Gq.cs r.1),I64 r.2]:AV)) (M2 h)⟩
   ·
    refine Gn ?_
    refine e1 ?_
    refine Js fun b2=>?_
    refine Jr fun b3=>?_
    refine JLg (.ptr 1016 15) (Ht G71 O O) ?_
    refine JLg (E1 m.Ashore) (J8 Hq O O O O) ?_
    refine JLg (.dptr ((Move.cs x).drop 1)) (Gb Y4 O O O) ?_
    refine JLg (I64 x.Box) (Ge Gd O O O) ?_
    obtain⟨p,b4,h⟩:=Gj h
    refine JLg (BL p) (Gw O (Gd7 m.Ashore x.Box p b4) Jfe ⟨O,O,O,O,G⟩) ?_
    refine JLg (BL (!p)) (R2 (b:=p) O O) ?_
    refine G8 (b3 ?_)
    refine JCc O h ?_ ?_<;>intro h hb
    ·
     refine Jr fun b5=>?_
     refine JLg (.agg (Gq.cs m)) (Ra Ja O O O O) ?_
     refine J9 (u:=.junk) (He (u:=.agg (Gq.cs m)) (ds:=(Gq.cs m)) Qf O O O O O O O O) ?_
     refine JLm (I64 313) O ?_
     refine G8 (b5 ?_)
     refine Gu [(4,.ptr 1018 0),(5,I64 313)] [(1018,.box 45 (Gq.cs m))] 1016 rfl rfl rfl ⟨⟨_,rfl,.boxEq rfl rfl⟩,G⟩ rfl (by exact⟨.conv (.same rfl),.conv (.same rfl),G⟩) ?_
     refine Gs ?_
     exact⟨[.agg (Gq.cs m),I64 313],[],G,O,⟨⟨_,⟨_,_,_,_,O,O,O,.inl ⟨Ja,O⟩⟩,.conv (.same O)⟩,⟨_,O,.conv (.same O)⟩,G⟩,O,congrArg (fun r:Gq×Int=>(.tup [.agg (Gq.cs r.1),I64 r.2]:AV)) (M2 h)⟩
    ·
     refine Gn ?_
     refine b2 ?_
     refine Jr fun b6=>?_
     refine JLg (.ptr 1016 0) (Ht Gf6 O O) ?_
     refine JLg (.agg (G6.cs m.G6)) (Ra Jm O O O O) ?_
     refine JLg (.ptr 1016 13) (Ht H64 O O) ?_
     refine JLg (E8 m.Boxes) (J8 H97 O O O O) ?_
     refine JLg (.ptr 1016 14) (Ht G1f O O) ?_
     refine JLg (E2 m.State) (J8 G91 O O O O) ?_
     refine JLg (.ptr 1016 16) (Ht G1e O O) ?_
     refine JLg (E1 m.Open) (J8 Hq O O O O) ?_
     refine JLg (.dptr ((Move.cs x).drop 1)) (Gb Y4 O O O) ?_
     refine JLg (I64 x.Box) (Ge Gd O O O) ?_
     refine JLg (.dptr ((Move.cs x).drop 2)) (Gb Qd O O O) ?_
     refine JLg (.agg (Slot.cs x.Slot)) (Gt Hx O O O) ?_
     refine JLg (.agg [I64 x.Box,I64 x.Slot.G1,I64 x.Slot.Tier,U8 x.Slot.Half]) (Hj (cs:=[I64 x.Box,I64 x.Slot.G1,I64 x.Slot.Tier,U8 x.Slot.Half]) [(0,1),(1,3)] [I64 0,I64 0,I64 0,U8 0] [E0,E0,E0,.int .u8 0] G5a Gbd (zzQ O) O O) ?_
     obtain⟨a,b7,h⟩:=Gj h
     refine JLg (.tup [E2 a.1,I64 a.2]) (Gw O (Hb1 F m.G6 m.Boxes m.State m.Open (G3.mk x.Box x.Slot) a b7) R51 ⟨O,O,O,O,O,O,O,O,O,O,G⟩) ?_
     refine JLm (.tup [E2 a.1,I64 a.2]) O ?_
     refine JLg (E2 a.1) (H4 O O O) ?_
     refine JLg (I64 a.2) (H4 O O O) ?_
     refine JLm (E2 a.1) O ?_
     refine JLm (I64 a.2) O ?_
     refine G8 (b6 ?_)
     refine Js fun b8=>?_
     refine Jr fun b9=>?_
     refine JLm (I64 a.2) O ?_
     refine G8 (b9 ?_)
     refine Gx ?_
     refine Jr fun c0=>?_
     refine JLg (BL (decide (a.2=97))) (Jk O O O) ?_
     refine JLm (BL (decide (a.2=97))) O ?_
     refine G8 (c0 ?_)
     refine JCc O h ?_ ?_<;>intro h hb
     ·
      refine Jr fun c1=>?_
      refine JLg (.agg (Gq.cs m)) (Ra Ja O O O O) ?_
      refine J9 (u:=.junk) (He (u:=.agg (Gq.cs m)) (ds:=(Gq.cs m)) Qf O O O O O O O O) ?_
      refine JLm (I64 316) O ?_
      refine G8 (c1 ?_)
      refine Gu [(4,.ptr 1018 0),(5,I64 316)] [(1018,.box 45 (Gq.cs m))] 1016 rfl rfl rfl ⟨⟨_,rfl,.boxEq rfl rfl⟩,G⟩ rfl (by exact⟨.conv (.same rfl),.conv (.same rfl),G⟩) ?_
      refine Gs ?_
      exact⟨[.agg (Gq.cs m),I64 316],[],G,O,⟨⟨_,⟨_,_,_,_,O,O,O,.inl ⟨Ja,O⟩⟩,.conv (.same O)⟩,⟨_,O,.conv (.same O)⟩,G⟩,O,congrArg (fun r:Gq×Int=>(.tup [.agg (Gq.cs r.1),I64 r.2]:AV)) (M2 h)⟩
     ·
      refine Jr fun c2=>?_
      refine JLg (BL (decide (a.2=91))) (Jk O O O) ?_
      refine JLm (BL (decide (a.2=91))) O ?_
      refine G8 (c2 ?_)
      refine JCc O h ?_ ?_<;>intro h hb
      ·
       refine Jr fun c3=>?_
       refine JLg (.agg (Gq.cs m)) (Ra Ja O O O O) ?_
       refine J9 (u:=.junk) (He (u:=.agg (Gq.cs m)) (ds:=(Gq.cs m)) Qf O O O O O O O O) ?_
       refine JLm (I64 315) O ?_
       refine G8 (c3 ?_)
       refine Gu [(4,.ptr 1018 0),(5,I64 315)] [(1018,.box 45 (Gq.cs m))] 1016 rfl rfl rfl ⟨⟨_,rfl,.boxEq rfl rfl⟩,G⟩ rfl (by exact⟨.conv (.same rfl),.conv (.same rfl),G⟩) ?_
       refine Gs ?_
       exact⟨[.agg (Gq.cs m),I64 315],[],G,O,⟨⟨_,⟨_,_,_,_,O,O,O,.inl ⟨Ja,O⟩⟩,.conv (.same O)⟩,⟨_,O,.conv (.same O)⟩,G⟩,O,congrArg (fun r:Gq×Int=>(.tup [.agg (Gq.cs r.1),I64 r.2]:AV)) (M2 h)⟩
      ·
       refine Jr fun c4=>?_
       refine JLg (BL (decide (a.2=92))) (Jk O O O) ?_
       refine JLm (BL (decide (a.2=92))) O ?_
       refine G8 (c4 ?_)
       refine JCc O h ?_ ?_<;>intro h hb
       ·
        refine Jr fun c5=>?_
        refine JLg (.agg (Gq.cs m)) (Ra Ja O O O O) ?_
        refine J9 (u:=.junk) (He (u:=.agg (Gq.cs m)) (ds:=(Gq.cs m)) Qf O O O O O O O O) ?_
        refine JLm (I64 317) O ?_
        refine G8 (c5 ?_)
        refine Gu [(4,.ptr 1018 0),(5,I64 317)] [(1018,.box 45 (Gq.cs m))] 1016 rfl rfl rfl ⟨⟨_,rfl,.boxEq rfl rfl⟩,G⟩ rfl (by exact⟨.conv (.same rfl),.conv (.same rfl),G⟩) ?_
        refine Gs ?_
        exact⟨[.agg (Gq.cs m),I64 317],[],G,O,⟨⟨_,⟨_,_,_,_,O,O,O,.inl ⟨Ja,O⟩⟩,.conv (.same O)⟩,⟨_,O,.conv (.same O)⟩,G⟩,O,congrArg (fun r:Gq×Int=>(.tup [.agg (Gq.cs r.1),I64 r.2]:AV)) (M2 h)⟩
       ·
        refine Jr fun c6=>?_
        refine JLg (BL (decide (a.2=93))) (Jk O O O) ?_
        refine JLm (BL (decide (a.2=93))) O ?_
        refine G8 (c6 ?_)
        refine JCc O h ?_ ?_<;>intro h hb
        ·
         refine Jr fun c7=>?_
         refine JLg (.agg (Gq.cs m)) (Ra Ja O O O O) ?_
         refine J9 (u:=.junk) (He (u:=.agg (Gq.cs m)) (ds:=(Gq.cs m)) Qf O O O O O O O O) ?_
         refine JLm (I64 318) O ?_
         refine G8 (c7 ?_)
         refine Gu [(4,.ptr 1018 0),(5,I64 318)] [(1018,.box 45 (Gq.cs m))] 1016 rfl rfl rfl ⟨⟨_,rfl,.boxEq rfl rfl⟩,G⟩ rfl (by exact⟨.conv (.same rfl),.conv (.same rfl),G⟩) ?_
         refine Gs ?_
         exact⟨[.agg (Gq.cs m),I64 318],[],G,O,⟨⟨_,⟨_,_,_,_,O,O,O,.inl ⟨Ja,O⟩⟩,.conv (.same O)⟩,⟨_,O,.conv (.same O)⟩,G⟩,O,congrArg (fun r:Gq×Int=>(.tup [.agg (Gq.cs r.1),I64 r.2]:AV)) (M2 h)⟩
        ·
         refine Jr fun c8=>?_
         refine JLg (BL (decide (a.2=94))) (Jk O O O) ?_
         refine JLm (BL (decide (a.2=94))) O ?_
         refine G8 (c8 ?_)
         refine JCc O h ?_ ?_<;>intro h hb
         ·
          refine Jr fun c9=>?_
          refine JLg (.agg (Gq.cs m)) (Ra Ja O O O O) ?_
          refine J9 (u:=.junk) (He (u:=.agg (Gq.cs m)) (ds:=(Gq.cs m)) Qf O O O O O O O O) ?_
          refine JLm (I64 319) O ?_
          refine G8 (c9 ?_)
          refine Gu [(4,.ptr 1018 0),(5,I64 319)] [(1018,.box 45 (Gq.cs m))] 1016 rfl rfl rfl ⟨⟨_,rfl,.boxEq rfl rfl⟩,G⟩ rfl (by exact⟨.conv (.same rfl),.conv (.same rfl),G⟩) ?_
          refine Gs ?_
          exact⟨[.agg (Gq.cs m),I64 319],[],G,O,⟨⟨_,⟨_,_,_,_,O,O,O,.inl ⟨Ja,O⟩⟩,.conv (.same O)⟩,⟨_,O,.conv (.same O)⟩,G⟩,O,congrArg (fun r:Gq×Int=>(.tup [.agg (Gq.cs r.1),I64 r.2]:AV)) (M2 h)⟩
         ·
          refine Gn ?_
          refine b8 ?_
          refine Js fun d0=>?_
          refine Qw (l':=[(2,.ptr 1016 0),(3,Ec x),(4,.ptr 1018 0),(9,E2 a.1)]) (L':=[(1016,.box 45 (Gq.cs m)),(1018,.box 45 Kj)]) ⟨(.sm O O),⟨fbQ O (.sm O O),fbQ O (.sm O O),G⟩,rfl⟩ ?_
          obtain⟨e,d1,h⟩:=Gj h
          obtain⟨k,o,h⟩:=Zw h
          refine J4 [10,12,14] [0,0,0,0,0,0,0,0,0,0,0,1,0,2,0] [0,0,0,0,0,0,0,0,2,0,0,1,0,2,0] [[(1016,.box 45 (Gq.cs m)),(1018,.box 45 Kj)],((1016,.box 45 [E3 m.G6.Columns,E7 m.G6.Covers,I64 m.G6.Light.Kilos,I64 m.G6.Light.X,I64 m.G6.Light.Y,I64 m.G6.Light.Z,E4 m.G6.Rows,E5 m.G6.Frames,E6 m.G6.Tanks,I64 m.G6.G5.Tolerance,I64 m.G6.G5.Trim,I64 m.G6.G5.List_,I64 m.G6.G5.Stability,E8 m.Boxes,E2 a.1,E1 m.Ashore,E1 m.Open,I64 m.Lifts])::[(1016,.box 45 (Gq.cs m)),(1018,.box 45 Kj)]),((1016,.box 45 [E3 m.G6.Columns,E7 m.G6.Covers,I64 m.G6.Light.Kilos,I64 m.G6.Light.X,I64 m.G6.Light.Y,I64 m.G6.Light.Z,E4 m.G6.Rows,E5 m.G6.Frames,E6 m.G6.Tanks,I64 m.G6.G5.Tolerance,I64 m.G6.G5.Trim,I64 m.G6.G5.List_,I64 m.G6.G5.Stability,E8 m.Boxes,E2 a.1,E1 e,E1 m.Open,I64 m.Lifts])::((1016,.box 45 [E3 m.G6.Columns,E7 m.G6.Covers,I64 m.G6.Light.Kilos,I64 m.G6.Light.X,I64 m.G6.Light.Y,I64 m.G6.Light.Z,E4 m.G6.Rows,E5 m.G6.Frames,E6 m.G6.Tanks,I64 m.G6.G5.Tolerance,I64 m.G6.G5.Trim,I64 m.G6.G5.List_,I64 m.G6.G5.Stability,E8 m.Boxes,E2 a.1,E1 m.Ashore,E1 m.Open,I64 m.Lifts])::[(1016,.box 45 (Gq.cs m)),(1018,.box 45 Kj)])),((1016,.box 45 [E3 m.G6.Columns,E7 m.G6.Covers,I64 m.G6.Light.Kilos,I64 m.G6.Light.X,I64 m.G6.Light.Y,I64 m.G6.Light.Z,E4 m.G6.Rows,E5 m.G6.Frames,E6 m.G6.Tanks,I64 m.G6.G5.Tolerance,I64 m.G6.G5.Trim,I64 m.G6.G5.List_,I64 m.G6.G5.Stability,E8 m.Boxes,E2 a.1,E1 e,E1 m.Open,I64 k])::((1016,.box 45 [E3 m.G6.Columns,E7 m.G6.Covers,I64 m.G6.Light.Kilos,I64 m.G6.Light.X,I64 m.G6.Light.Y,I64 m.G6.Light.Z,E4 m.G6.Rows,E5 m.G6.Frames,E6 m.G6.Tanks,I64 m.G6.G5.Tolerance,I64 m.G6.G5.Trim,I64 m.G6.G5.List_,I64 m.G6.G5.Stability,E8 m.Boxes,E2 a.1,E1 e,E1 m.Open,I64 m.Lifts])::((1016,.box 45 [E3 m.G6.Columns,E7 m.G6.Covers,I64 m.G6.Light.Kilos,I64 m.G6.Light.X,I64 m.G6.Light.Y,I64 m.G6.Light.Z,E4 m.G6.Rows,E5 m.G6.Frames,E6 m.G6.Tanks,I64 m.G6.G5.Tolerance,I64 m.G6.G5.Trim,I64 m.G6.G5.List_,I64 m.G6.G5.Stability,E8 m.Boxes,E2 a.1,E1 m.Ashore,E1 m.Open,I64 m.Lifts])::[(1016,.box 45 (Gq.cs m)),(1018,.box 45 Kj)])))] Ho (by kernel_rfl) rfl rfl ?_
          refine Gc (u:=E2 a.1) O O ⟨Gi (G7 O O) O,G⟩ ?_
          refine Gc (u:=.ptr 1016 15) O O ⟨Gi (Ht G71 O O) O,G⟩ ?_
          refine Gc (u:=E1 m.Ashore) O O ⟨Gi (J8 Hq O O O O) O,G⟩ ?_
          refine Gc (u:=.dptr ((Move.cs x).drop 1)) O O ⟨Gi (Gb Y4 O O O) O,G⟩ ?_
          refine Gc (u:=I64 x.Box) O O ⟨Gi (Ge Gd O O O) O,G⟩ ?_
          refine Gc (u:=E1 e) O O ⟨Gi (Gw O (G82 m.Ashore x.Box e d1) Jfd ⟨O,O,O,O,G⟩) O,G⟩ ?_
          refine Gc (u:=.ptr 1016 17) O O ⟨Gi (Ht Ga6 O O) O,G⟩ ?_
          refine Gc (u:=I64 m.Lifts) O O ⟨Gi (J8 Gd O O O O) O,G⟩ ?_
          refine Gc (u:=I64 k) O O ⟨Gi (Jo o O O O) O,Gi (Jo o O O O) O,Gi (Jo o O O O) O,G⟩ ?_
          refine Gc (u:=.ptr 1016 14) O O ⟨Gi (Ht G1f O O) O,G⟩ ?_
          refine Gf2 (u:=.junk) O O O O (Gi (He (u:=E2 a.1) (ds:=[E3 m.G6.Columns,E7 m.G6.Covers,I64 m.G6.Light.Kilos,I64 m.G6.Light.X,I64 m.G6.Light.Y,I64 m.G6.Light.Z,E4 m.G6.Rows,E5 m.G6.Frames,E6 m.G6.Tanks,I64 m.G6.G5.Tolerance,I64 m.G6.G5.Trim,I64 m.G6.G5.List_,I64 m.G6.G5.Stability,E8 m.Boxes,E2 a.1,E1 m.Ashore,E1 m.Open,I64 m.Lifts]) Je1 O O O O O O O O) O) ?_
          refine Gc (u:=.ptr 1016 15) O O ⟨Gi (Ht G71 O O) O,G⟩ ?_
          refine Gf2 (u:=.junk) O O O O (Gi (He (u:=E1 e) (ds:=[E3 m.G6.Columns,E7 m.G6.Covers,I64 m.G6.Light.Kilos,I64 m.G6.Light.X,I64 m.G6.Light.Y,I64 m.G6.Light.Z,E4 m.G6.Rows,E5 m.G6.Frames,E6 m.G6.Tanks,I64 m.G6.G5.Tolerance,I64 m.G6.G5.Trim,I64 m.G6.G5.List_,I64 m.G6.G5.Stability,E8 m.Boxes,E2 a.1,E1 e,E1 m.Open,I64 m.Lifts]) G7c O O O O O O O O) O) ?_
          refine Gc (u:=.ptr 1016 17) O O ⟨Gi (Ht Ga6 O O) O,G⟩ ?_
          refine Gf2 (u:=.junk) O O O O (Gi (He (u:=I64 k) (ds:=[E3 m.G6.Columns,E7 m.G6.Covers,I64 m.G6.Light.Kilos,I64 m.G6.Light.X,I64 m.G6.Light.Y,I64 m.G6.Light.Z,E4 m.G6.Rows,E5 m.G6.Frames,E6 m.G6.Tanks,I64 m.G6.G5.Tolerance,I64 m.G6.G5.Trim,I64 m.G6.G5.List_,I64 m.G6.G5.Stability,E8 m.Boxes,E2 a.1,E1 e,E1 m.Open,I64 k]) H2b O O O O O O O O) O) ?_
          refine Qp ?_
          refine d0 ?_
          refine Gu [(2,.dptr [E3 m.G6.Columns,E7 m.G6.Covers,I64 m.G6.Light.Kilos,I64 m.G6.Light.X,I64 m.G6.Light.Y,I64 m.G6.Light.Z,E4 m.G6.Rows,E5 m.G6.Frames,E6 m.G6.Tanks,I64 m.G6.G5.Tolerance,I64 m.G6.G5.Trim,I64 m.G6.G5.List_,I64 m.G6.G5.Stability,E8 m.Boxes,E2 a.1,E1 e,E1 m.Open,I64 k]),(4,.ptr 1018 0)] [(1018,.box 45 Kj)] 1016 rfl rfl rfl ⟨⟨_,rfl,.boxEq rfl rfl⟩,G⟩ rfl (by exact⟨.ptr,.conv (.same rfl),G⟩) ?_
          refine Jr fun d2=>?_
          refine JLg (.agg [E3 m.G6.Columns,E7 m.G6.Covers,I64 m.G6.Light.Kilos,I64 m.G6.Light.X,I64 m.G6.Light.Y,I64 m.G6.Light.Z,E4 m.G6.Rows,E5 m.G6.Frames,E6 m.G6.Tanks,I64 m.G6.G5.Tolerance,I64 m.G6.G5.Trim,I64 m.G6.G5.List_,I64 m.G6.G5.Stability,E8 m.Boxes,E2 a.1,E1 e,E1 m.Open,I64 k]) (Gt Ja O O O) ?_
          refine J9 (u:=.junk) (He (u:=.agg [E3 m.G6.Columns,E7 m.G6.Covers,I64 m.G6.Light.Kilos,I64 m.G6.Light.X,I64 m.G6.Light.Y,I64 m.G6.Light.Z,E4 m.G6.Rows,E5 m.G6.Frames,E6 m.G6.Tanks,I64 m.G6.G5.Tolerance,I64 m.G6.G5.Trim,I64 m.G6.G5.List_,I64 m.G6.G5.Stability,E8 m.Boxes,E2 a.1,E1 e,E1 m.Open,I64 k]) (ds:=[E3 m.G6.Columns,E7 m.G6.Covers,I64 m.G6.Light.Kilos,I64 m.G6.Light.X,I64 m.G6.Light.Y,I64 m.G6.Light.Z,E4 m.G6.Rows,E5 m.G6.Frames,E6 m.G6.Tanks,I64 m.G6.G5.Tolerance,I64 m.G6.G5.Trim,I64 m.G6.G5.List_,I64 m.G6.G5.Stability,E8 m.Boxes,E2 a.1,E1 e,E1 m.Open,I64 k]) Qf O O O O O O O O) ?_
          refine JLm (I64 0) O ?_
          refine G8 (d2 ?_)
          refine Gs ?_
          exact⟨[.agg [E3 m.G6.Columns,E7 m.G6.Covers,I64 m.G6.Light.Kilos,I64 m.G6.Light.X,I64 m.G6.Light.Y,I64 m.G6.Light.Z,E4 m.G6.Rows,E5 m.G6.Frames,E6 m.G6.Tanks,I64 m.G6.G5.Tolerance,I64 m.G6.G5.Trim,I64 m.G6.G5.List_,I64 m.G6.G5.Stability,E8 m.Boxes,E2 a.1,E1 e,E1 m.Open,I64 k],I64 0],[],G,O,⟨⟨_,⟨_,_,_,_,O,O,O,.inl ⟨Ja,O⟩⟩,.conv (.same O)⟩,⟨_,O,.conv (.same O)⟩,G⟩,O,congrArg (fun r:Gq×Int=>(.tup [.agg (Gq.cs r.1),I64 r.2]:AV)) (M2 h)⟩
end
end Go.Proofs.YtmfhaflabpnaoaaGreat
