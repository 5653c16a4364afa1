/- Walks of functions. -/
import Derived.Test.YtibhpogonkdiaaaGreatXVa
set_option linter.unnecessarySimpa false
set_option maxRecDepth 100000
set_option maxHeartbeats 1000000
set_option linter.unusedVariables false
set_option linter.unusedSimpArgs false
namespace Go.Proofs.YtibhpogonkdiaaaGreat
open Go.RowKit
noncomputable section
open XAF
open XCF
open XFF
open XSF
open XLF
open XVF

def Rf (l:List H2) (covers:Int):Option Ge:=
 bnd (Gc7 (min (l.length:Int) 3) l.length) fun g=>
 bnd (R7 (l.take g) covers) fun b=>
 each (fun h d (c:(List G5)) e=>
  Jz c (d:Int) fun f=>
  Jz c (d:Int) fun a=>
  e (c.set (d:Int).toNat (G5.mk a.Bay a.Row a.Deck (min f.Tiers 3) a.Height a.Kilos20 a.Kilos40 a.Lash a.Plugs a.X a.Y a.Z)))
 (fun(c:(List G5))=>
  some (Ge.mk c b.Covers b.Light b.Rows b.Frames b.Tanks b.Gg)) b.Columns 0 b.Columns
abbrev Kg:List AV:=[Ea ([]:List G5),Eb ([]:List Gt),I64 0,I64 0,I64 0,I64 0,E7 ([]:List Row),E8 ([]:List Frame),E9 ([]:List Hw),I64 0,I64 0,I64 0,I64 0]
theorem G6c (l:List H2) (covers:Int) (r:Ge) (h:Rf l covers=some r):Pure Em 7 [Ee l,.sc (.int .u32 covers)] (·=.agg (Ge.cs r)):=by
 unfold Rf at h
 refine H7 [.cell 4 34] Tryz.func7 O O (Jr fun a6=>(JLh (.ptr 1014 0) (Y7 1014 Kg [.slice none 0 0,.slice none 0 0,E0,E0,E0,E0,.slice none 0 0,.slice none 0 0,.slice none 0 0,E0,E0,E0,E0] G95 ⟨.inr ⟨_,O,O⟩,.inr ⟨_,O,O⟩,.inl O,.inl O,.inl O,.inl O,.inr ⟨_,O,O⟩,.inr ⟨_,O,O⟩,.inr ⟨_,O,O⟩,.inl O,.inl O,.inl O,.inl O,ø⟩ O O) O (G6 (a6 (Jr fun a7=>(JLm (Ee l) O (JLm (Ee l) O (JLl G68 O O O fun b6=>(JLh (I64 (min (l.length:Int) 3)) (J37 O O O) O ?_)))))))))
 obtain⟨t,a8,h⟩:=Gh h
 refine JLh (Ee (l.take t)) (Z0 (f:=H2.av) (xs:=l) O O O G68 (Yf a8)) O (JLm (.sc (.int .u32 covers)) O ?_)
 obtain⟨a,a9,h⟩:=Gh h
 refine H43 O O O (Q87 (args:=[Ee (l.take t),.sc (.int .u32 covers)]) (L0:=[]) (u:=fun p=>.agg [.vec 1059 p 12 a.Columns.length,Eb a.Covers,I64 a.Light.Kilos,I64 a.Light.X,I64 a.Light.Y,I64 a.Light.Z,E7 a.Rows,E8 a.Frames,E9 a.Tanks,I64 a.Gg.Tolerance,I64 a.Gg.Trim,I64 a.Gg.List_,I64 a.Gg.Stability]) (Lr:=fun p=>[(1059,.vec 41 12 p (a.Columns.map G5.av))]) O (H12 (l.take t) covers a a9) Qbe ⟨.inl O,O,.inl O,O,ø⟩ ø O (fun _=>O)) ?_
 rintro u_ L_ ⟨g,rfl,rfl⟩
 refine JLh (.ptr 1015 0) (Hd 1015 13 Gb1 O O) O (Hb (u:=.junk) (Gz (u:=.agg [.vec 1059 g 12 a.Columns.length,Eb a.Covers,I64 a.Light.Kilos,I64 a.Light.X,I64 a.Light.Y,I64 a.Light.Z,E7 a.Rows,E8 a.Frames,E9 a.Tanks,I64 a.Gg.Tolerance,I64 a.Gg.Trim,I64 a.Gg.List_,I64 a.Gg.Stability]) (ds:=[.vec 1059 g 12 a.Columns.length,Eb a.Covers,I64 a.Light.Kilos,I64 a.Light.X,I64 a.Light.Y,I64 a.Light.Z,E7 a.Rows,E8 a.Frames,E9 a.Tanks,I64 a.Gg.Tolerance,I64 a.Gg.Trim,I64 a.Gg.List_,I64 a.Gg.Stability]) G37 O O O O O O O O) (G6 (a7 (Js fun b0=>?_))))
 refine Jr fun b1=>(JLh (.ptr 1015 0) (J7 Hk O O) O (JLh (.vec 1059 g 12 a.Columns.length) (Ji J2 O O O O) O (Q7c (f:=G5.av) (xs:=a.Columns) Hj O O O (fun v=>?_) O O O)))
 refine JLm (I64 0) O (G6 (b1 (Gk ?_)))
 obtain⟨b2,w,x,o,h⟩:=J3 h
 refine Hi (fun c (d:(List G5))=>each b2 w (List.drop c a.Columns) c d=some r) (fun c d=>[(4,.ptr 1014 0),(5,.ptr 1015 0),(16,Ek a.Columns.length),(17,Ek c)]) (fun c d=>[(1059,.vec 41 12 g (d.map G5.av)),(1014,.box 34 Kg),(1015,.box 34 [.vec 1059 g 12 a.Columns.length,Eb a.Covers,I64 a.Light.Kilos,I64 a.Light.X,I64 a.Light.Y,I64 a.Light.Z,E7 a.Rows,E8 a.Frames,E9 a.Tanks,I64 a.Gg.Tolerance,I64 a.Gg.Trim,I64 a.Gg.List_,I64 a.Gg.Stability])]) (fun c=>a.Columns.length - c) 0 a.Columns h ⟨(.sm O O),⟨⟨_,rfl,.vec⟩,fbQ O (.sm O O),fbQ O (.sm O O),ø⟩,rfl⟩ ?_
 clear h
 intro c d j b7 b3
 refine Jr fun a0=>(JLh (BL (decide ((c:Int) < (a.Columns.length:Int)))) (Jc O O O) O (G6 (a0 (Js fun a1=>Gn O (fun hb=>?_) (fun hb=>?_)))))
 ·
  have k:=Jk hb
  obtain⟨b8,b4,b5,a2,h⟩:=Hr j k
  replace h:=Ry x h
  refine Gp (a1 (Js fun a3=>Gk (Jr fun a4=>(JLm (Ek c) O (JLm (Ek c) O (G6 (a4 ?_)))))))
  refine Y6 (l':=[(4,.ptr 1014 0),(5,.ptr 1015 0),(6,Ek c),(16,Ek a.Columns.length),(17,Ek c)]) (L':=[(1059,.vec 41 12 g (d.map G5.av)),(1014,.box 34 Kg),(1015,.box 34 [.vec 1059 g 12 a.Columns.length,Eb a.Covers,I64 a.Light.Kilos,I64 a.Light.X,I64 a.Light.Y,I64 a.Light.Z,E7 a.Rows,E8 a.Frames,E9 a.Tanks,I64 a.Gg.Tolerance,I64 a.Gg.Trim,I64 a.Gg.List_,I64 a.Gg.Stability])]) ⟨(.sm O O),⟨⟨_,rfl,.vec⟩,fbQ O (.sm O O),fbQ O (.sm O O),ø⟩,rfl⟩ ?_
  obtain⟨i,q,m,h⟩:=Gd7 h
  obtain⟨b,s,n,h⟩:=Gd7 h
  refine Qw [12] (.replicate 13 0) (.replicate 13 0) [[(1059,.vec 41 12 g (d.map G5.av)),(1014,.box 34 Kg),(1015,.box 34 [.vec 1059 g 12 a.Columns.length,Eb a.Covers,I64 a.Light.Kilos,I64 a.Light.X,I64 a.Light.Y,I64 a.Light.Z,E7 a.Rows,E8 a.Frames,E9 a.Tanks,I64 a.Gg.Tolerance,I64 a.Gg.Trim,I64 a.Gg.List_,I64 a.Gg.Stability])],((1059,.vec 41 12 g ((d.set (c:Int).toNat (G5.mk b.Bay b.Row b.Deck (min i.Tiers 3) b.Height b.Kilos20 b.Kilos40 b.Lash b.Plugs b.X b.Y b.Z)).map G5.av))::[(1059,.vec 41 12 g (d.map G5.av)),(1014,.box 34 Kg),(1015,.box 34 [.vec 1059 g 12 a.Columns.length,Eb a.Covers,I64 a.Light.Kilos,I64 a.Light.X,I64 a.Light.Y,I64 a.Light.Z,E7 a.Rows,E8 a.Frames,E9 a.Tanks,I64 a.Gg.Tolerance,I64 a.Gg.Trim,I64 a.Gg.List_,I64 a.Gg.Stability])])] Q0 (by kernel_rfl) rfl rfl ?_
  refine Gq (u:=.ptr 1015 0) O O ⟨Gm (J7 Hk O O) O,ø⟩ (Gq (u:=.vec 1059 g 12 a.Columns.length) O O ⟨Gm (Ji J2 O O O O) O,ø⟩ (Gq (u:=Ek c) O O ⟨Gm (G4 O O) O,ø⟩ (Gq (u:=.ptr 1015 0) O O ⟨Gm (J7 Hk O O) O,ø⟩ (Gq (u:=.vec 1059 g 12 a.Columns.length) O O ⟨Gm (Ji J2 O O O O) O,ø⟩ (Gq (u:=Ek c) O O ⟨Gm (G4 O O) O,ø⟩ (Gq (u:=.vptr 1059 g ((c:Int).toNat) 0) O O ⟨Gm (H86 (f:=G5.av) (xs:=d) (y:=i) O O O O Hj m q) O,ø⟩ (Gq (u:=.vptr 1059 g ((c:Int).toNat) 3) O O ⟨Gm (Q81 Y0 O O O) O,ø⟩ (Gq (u:=I64 i.Tiers) O O ⟨Gm (Ja8 (f:=G5.av) (xs:=d) (y:=i) G9 O O O m O O) O,ø⟩ (Gq (u:=I64 (min i.Tiers 3)) O O ⟨Gm (J37 O O O) O,ø⟩ (Gq (u:=.vptr 1059 g ((c:Int).toNat) 0) O O ⟨Gm (H86 (f:=G5.av) (xs:=d) (y:=b) O O O O Hj n s) O,ø⟩ (Gq (u:=.vptr 1059 g ((c:Int).toNat) 3) O O ⟨Gm (Q81 Y0 O O O) O,ø⟩ (H8e (u:=.junk) O O O O (Gm (R55 (f:=G5.av) (xs:=d) (e:=b) (z:=(G5.mk b.Bay b.Row b.Deck (min i.Tiers 3) b.Height b.Kilos20 b.Kilos40 b.Lash b.Plugs b.X b.Y b.Z)) (u:=I64 (min i.Tiers 3)) Zf O O O O n O O O O O) O) (Z7 ?_)))))))))))))
  refine a3 (G2 (JLh (I64 ((c+1:Nat):Int)) (Hv (Ha k v) O O O) O (JLm (I64 ((c+1:Nat):Int)) O (G6 (b3 _ _ (c+1) (d.set (c:Int).toNat (G5.mk b.Bay b.Row b.Deck (min i.Tiers 3) b.Height b.Kilos20 b.Kilos40 b.Lash b.Plugs b.X b.Y b.Z)) (app1 a2 h) (by omega) ⟨(.sm O O),⟨⟨_,rfl,.vec⟩,fbQ O (.sm O O),fbQ O (.sm O O),ø⟩,rfl⟩)))))
 ·
  have h:=app1 o (Hs j (H9 hb))
  refine Ho (b0 ?_)
  refine Jr fun a5=>(JLh (.agg [.vec 1059 g 12 a.Columns.length,Eb a.Covers,I64 a.Light.Kilos,I64 a.Light.X,I64 a.Light.Y,I64 a.Light.Z,E7 a.Rows,E8 a.Frames,E9 a.Tanks,I64 a.Gg.Tolerance,I64 a.Gg.Trim,I64 a.Gg.List_,I64 a.Gg.Stability]) (G0f Hm O O O O) O (Hb (u:=.junk) (Gz (u:=.agg [.vec 1059 g 12 a.Columns.length,Eb a.Covers,I64 a.Light.Kilos,I64 a.Light.X,I64 a.Light.Y,I64 a.Light.Z,E7 a.Rows,E8 a.Frames,E9 a.Tanks,I64 a.Gg.Tolerance,I64 a.Gg.Trim,I64 a.Gg.List_,I64 a.Gg.Stability]) (ds:=[.vec 1059 g 12 a.Columns.length,Eb a.Covers,I64 a.Light.Kilos,I64 a.Light.X,I64 a.Light.Y,I64 a.Light.Z,E7 a.Rows,E8 a.Frames,E9 a.Tanks,I64 a.Gg.Tolerance,I64 a.Gg.Trim,I64 a.Gg.List_,I64 a.Gg.Stability]) G37 O O O O O O O O) (G6 (a5 ?_))))
  refine R51 1014 0 (g+1) O O O (Nat.lt_succ_self _) (cs':=[Ea d,Eb a.Covers,I64 a.Light.Kilos,I64 a.Light.X,I64 a.Light.Y,I64 a.Light.Z,E7 a.Rows,E8 a.Frames,E9 a.Tanks,I64 a.Gg.Tolerance,I64 a.Gg.Trim,I64 a.Gg.List_,I64 a.Gg.Stability]) O (Gy (⟨[.agg [Ea d,Eb a.Covers,I64 a.Light.Kilos,I64 a.Light.X,I64 a.Light.Y,I64 a.Light.Z,E7 a.Rows,E8 a.Frames,E9 a.Tanks,I64 a.Gg.Tolerance,I64 a.Gg.Trim,I64 a.Gg.List_,I64 a.Gg.Stability]],[],ø,O,⟨⟨_,⟨_,_,_,_,O,O,O,.inl ⟨Hm,O⟩⟩,.conv (.same O)⟩,ø⟩,O,congrArg (fun r:Ge=>(.agg (Ge.cs r):AV)) (M0 h)⟩))
end
end Go.Proofs.YtibhpogonkdiaaaGreat
