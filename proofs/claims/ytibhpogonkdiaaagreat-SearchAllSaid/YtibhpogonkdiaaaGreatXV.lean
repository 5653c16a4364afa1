/- Walks of functions. -/
import Derived.Test.YtibhpogonkdiaaaGreatXVa
set_option linter.unnecessarySimpa false
set_option maxRecDepth 100000
set_option maxHeartbeats 1000000
set_option linter.unusedVariables false
set_option linter.unusedSimpArgs false
namespace Go.Proofs.YtibhpogonkdiaaaGreat
open Go.RowKit
noncomputable section
open XAF
open XCF
open XFF
open XSF
open XLF
open XVF

def Y0 (l:List H4) (covers:Int):Option Gf:=
 bnd (H36 (min (l.length:Int) 3) l.length) fun g=>
 bnd (Qv (l.take g) covers) fun b=>
 each (fun h d (c:(List G6)) e=>
  Ju c (d:Int) fun f=>
  Ju c (d:Int) fun a=>
  e (c.set (d:Int).toNat (G6.mk a.Bay a.Row a.Deck (min f.Tiers 3) a.Height a.Kilos20 a.Kilos40 a.Lash a.Plugs a.X a.Y a.Z)))
 (fun(c:(List G6))=>
  some (Gf.mk c b.Covers b.Light b.Rows b.Frames b.Tanks b.Gm)) b.Columns 0 b.Columns
abbrev Kg:List AV:=[E7 ([]:List G6),Eb ([]:List Gx),I64 0,I64 0,I64 0,I64 0,E8 ([]:List Row),E9 ([]:List Frame),Ea ([]:List Ja),I64 0,I64 0,I64 0,I64 0]
theorem H0f (l:List H4) (covers:Int) (r:Gf) (h:Y0 l covers=some r):Pure Em 7 [Ee l,.sc (.int .u32 covers)] (·=.agg (Gf.cs r)):=by
 unfold Y0 at h
 refine H5 [.cell 4 34] Tryz.func7 O O (Jr fun a6=>(JLh (.ptr 1005 0) (Ru 1005 Kg [.slice none 0 0,.slice none 0 0,E0,E0,E0,E0,.slice none 0 0,.slice none 0 0,.slice none 0 0,E0,E0,E0,E0] Gc6 ⟨.inr ⟨_,O,O⟩,.inr ⟨_,O,O⟩,.inl O,.inl O,.inl O,.inl O,.inr ⟨_,O,O⟩,.inr ⟨_,O,O⟩,.inr ⟨_,O,O⟩,.inl O,.inl O,.inl O,.inl O,ø⟩ O O) O (G4 (a6 (Jr fun a7=>(JLm (Ee l) O (JLm (Ee l) O (JLl G59 O O O fun b6=>(JLh (I64 (min (l.length:Int) 3)) (Je0 O O O) O ?_)))))))))
 obtain⟨t,a8,h⟩:=Gg h
 refine JLh (Ee (l.take t)) (H35 (f:=H4.av) (xs:=l) O O O G59 (G85 a8)) O (JLm (.sc (.int .u32 covers)) O ?_)
 obtain⟨a,a9,h⟩:=Gg h
 refine H32 O O O (Q65 (args:=[Ee (l.take t),.sc (.int .u32 covers)]) (L0:=[]) (u:=fun p=>.agg [.vec 1050 p 12 a.Columns.length,Eb a.Covers,I64 a.Light.Kilos,I64 a.Light.X,I64 a.Light.Y,I64 a.Light.Z,E8 a.Rows,E9 a.Frames,Ea a.Tanks,I64 a.Gm.Tolerance,I64 a.Gm.Trim,I64 a.Gm.List_,I64 a.Gm.Stability]) (Lr:=fun p=>[(1050,.vec 41 12 p (a.Columns.map G6.av))]) O (Gff (l.take t) covers a a9) Q9d ⟨.inl O,O,.inl O,O,ø⟩ ø O (fun _=>O)) ?_
 rintro u_ L_ ⟨g,rfl,rfl⟩
 refine JLh (.ptr 1006 0) (Hg 1006 13 Hfd O O) O (Hd (u:=.junk) (Gy (u:=.agg [.vec 1050 g 12 a.Columns.length,Eb a.Covers,I64 a.Light.Kilos,I64 a.Light.X,I64 a.Light.Y,I64 a.Light.Z,E8 a.Rows,E9 a.Frames,Ea a.Tanks,I64 a.Gm.Tolerance,I64 a.Gm.Trim,I64 a.Gm.List_,I64 a.Gm.Stability]) (ds:=[.vec 1050 g 12 a.Columns.length,Eb a.Covers,I64 a.Light.Kilos,I64 a.Light.X,I64 a.Light.Y,I64 a.Light.Z,E8 a.Rows,E9 a.Frames,Ea a.Tanks,I64 a.Gm.Tolerance,I64 a.Gm.Trim,I64 a.Gm.List_,I64 a.Gm.Stability]) Gc7 O O O O O O O O) (G4 (a7 (Js fun b0=>?_))))
 refine Jr fun b1=>(JLh (.ptr 1006 0) (J5 Ho O O) O (JLh (.vec 1050 g 12 a.Columns.length) (Jg J2 O O O O) O (Q5b (f:=G6.av) (xs:=a.Columns) Hr O O O (fun v=>?_) O O O)))
 refine JLm (I64 0) O (G4 (b1 (Gi ?_)))
 obtain⟨b2,w,x,o,h⟩:=Hu h
 refine Hf (fun c (d:(List G6))=>each b2 w (List.drop c a.Columns) c d=some r) (fun c d=>[(4,.ptr 1005 0),(5,.ptr 1006 0),(16,Ek a.Columns.length),(17,Ek c)]) (fun c d=>[(1050,.vec 41 12 g (d.map G6.av)),(1005,.box 34 Kg),(1006,.box 34 [.vec 1050 g 12 a.Columns.length,Eb a.Covers,I64 a.Light.Kilos,I64 a.Light.X,I64 a.Light.Y,I64 a.Light.Z,E8 a.Rows,E9 a.Frames,Ea a.Tanks,I64 a.Gm.Tolerance,I64 a.Gm.Trim,I64 a.Gm.List_,I64 a.Gm.Stability])]) (fun c=>a.Columns.length - c) 0 a.Columns h ⟨(.sm O O),⟨⟨_,rfl,.vec⟩,fbQ O (.sm O O),fbQ O (.sm O O),ø⟩,rfl⟩ ?_
 clear h
 intro c d j b7 b3
 refine Jr fun a0=>(JLh (BL (decide ((c:Int) < (a.Columns.length:Int)))) (J8 O O O) O (G4 (a0 (Js fun a1=>Gj O (fun hb=>?_) (fun hb=>?_)))))
 ·
  have k:=Jh hb
  obtain⟨b8,b4,b5,a2,h⟩:=Hk j k
  replace h:=Rh x h
  refine Gn (a1 (Js fun a3=>Gi (Jr fun a4=>(JLm (Ek c) O (JLm (Ek c) O (G4 (a4 ?_)))))))
  refine Rt (l':=[(4,.ptr 1005 0),(5,.ptr 1006 0),(6,Ek c),(16,Ek a.Columns.length),(17,Ek c)]) (L':=[(1050,.vec 41 12 g (d.map G6.av)),(1005,.box 34 Kg),(1006,.box 34 [.vec 1050 g 12 a.Columns.length,Eb a.Covers,I64 a.Light.Kilos,I64 a.Light.X,I64 a.Light.Y,I64 a.Light.Z,E8 a.Rows,E9 a.Frames,Ea a.Tanks,I64 a.Gm.Tolerance,I64 a.Gm.Trim,I64 a.Gm.List_,I64 a.Gm.Stability])]) ⟨(.sm O O),⟨⟨_,rfl,.vec⟩,fbQ O (.sm O O),fbQ O (.sm O O),ø⟩,rfl⟩ ?_
  obtain⟨i,q,m,h⟩:=Gc1 h
  obtain⟨b,s,n,h⟩:=Gc1 h
  refine Qy [12] (.replicate 13 0) (.replicate 13 0) [[(1050,.vec 41 12 g (d.map G6.av)),(1005,.box 34 Kg),(1006,.box 34 [.vec 1050 g 12 a.Columns.length,Eb a.Covers,I64 a.Light.Kilos,I64 a.Light.X,I64 a.Light.Y,I64 a.Light.Z,E8 a.Rows,E9 a.Frames,Ea a.Tanks,I64 a.Gm.Tolerance,I64 a.Gm.Trim,I64 a.Gm.List_,I64 a.Gm.Stability])],((1050,.vec 41 12 g ((d.set (c:Int).toNat (G6.mk b.Bay b.Row b.Deck (min i.Tiers 3) b.Height b.Kilos20 b.Kilos40 b.Lash b.Plugs b.X b.Y b.Z)).map G6.av))::[(1050,.vec 41 12 g (d.map G6.av)),(1005,.box 34 Kg),(1006,.box 34 [.vec 1050 g 12 a.Columns.length,Eb a.Covers,I64 a.Light.Kilos,I64 a.Light.X,I64 a.Light.Y,I64 a.Light.Z,E8 a.Rows,E9 a.Frames,Ea a.Tanks,I64 a.Gm.Tolerance,I64 a.Gm.Trim,I64 a.Gm.List_,I64 a.Gm.Stability])])] Q7 (by kernel_rfl) rfl rfl ?_
  refine Gq (u:=.ptr 1006 0) O O ⟨Gr (J5 Ho O O) O,ø⟩ (Gq (u:=.vec 1050 g 12 a.Columns.length) O O ⟨Gr (Jg J2 O O O O) O,ø⟩ (Gq (u:=Ek c) O O ⟨Gr (G5 O O) O,ø⟩ (Gq (u:=.ptr 1006 0) O O ⟨Gr (J5 Ho O O) O,ø⟩ (Gq (u:=.vec 1050 g 12 a.Columns.length) O O ⟨Gr (Jg J2 O O O O) O,ø⟩ (Gq (u:=Ek c) O O ⟨Gr (G5 O O) O,ø⟩ (Gq (u:=.vptr 1050 g ((c:Int).toNat) 0) O O ⟨Gr (H72 (f:=G6.av) (xs:=d) (y:=i) O O O O Hr m q) O,ø⟩ (Gq (u:=.vptr 1050 g ((c:Int).toNat) 3) O O ⟨Gr (Q60 Rj O O O) O,ø⟩ (Gq (u:=I64 i.Tiers) O O ⟨Gr (J8f (f:=G6.av) (xs:=d) (y:=i) G9 O O O m O O) O,ø⟩ (Gq (u:=I64 (min i.Tiers 3)) O O ⟨Gr (Je0 O O O) O,ø⟩ (Gq (u:=.vptr 1050 g ((c:Int).toNat) 0) O O ⟨Gr (H72 (f:=G6.av) (xs:=d) (y:=b) O O O O Hr n s) O,ø⟩ (Gq (u:=.vptr 1050 g ((c:Int).toNat) 3) O O ⟨Gr (Q60 Rj O O O) O,ø⟩ (J2d (u:=.junk) O O O O (Gr (R28 (f:=G6.av) (xs:=d) (e:=b) (z:=(G6.mk b.Bay b.Row b.Deck (min i.Tiers 3) b.Height b.Kilos20 b.Kilos40 b.Lash b.Plugs b.X b.Y b.Z)) (u:=I64 (min i.Tiers 3)) Yy O O O O n O O O O O) O) (Zs ?_)))))))))))))
  refine a3 (G2 (JLh (I64 ((c+1:Nat):Int)) (Ht (H7 k v) O O O) O (JLm (I64 ((c+1:Nat):Int)) O (G4 (b3 _ _ (c+1) (d.set (c:Int).toNat (G6.mk b.Bay b.Row b.Deck (min i.Tiers 3) b.Height b.Kilos20 b.Kilos40 b.Lash b.Plugs b.X b.Y b.Z)) (app1 a2 h) (by omega) ⟨(.sm O O),⟨⟨_,rfl,.vec⟩,fbQ O (.sm O O),fbQ O (.sm O O),ø⟩,rfl⟩)))))
 ·
  have h:=app1 o (Hm j (H6 hb))
  refine Hj (b0 ?_)
  refine Jr fun a5=>(JLh (.agg [.vec 1050 g 12 a.Columns.length,Eb a.Covers,I64 a.Light.Kilos,I64 a.Light.X,I64 a.Light.Y,I64 a.Light.Z,E8 a.Rows,E9 a.Frames,Ea a.Tanks,I64 a.Gm.Tolerance,I64 a.Gm.Trim,I64 a.Gm.List_,I64 a.Gm.Stability]) (G01 J6 O O O O) O (Hd (u:=.junk) (Gy (u:=.agg [.vec 1050 g 12 a.Columns.length,Eb a.Covers,I64 a.Light.Kilos,I64 a.Light.X,I64 a.Light.Y,I64 a.Light.Z,E8 a.Rows,E9 a.Frames,Ea a.Tanks,I64 a.Gm.Tolerance,I64 a.Gm.Trim,I64 a.Gm.List_,I64 a.Gm.Stability]) (ds:=[.vec 1050 g 12 a.Columns.length,Eb a.Covers,I64 a.Light.Kilos,I64 a.Light.X,I64 a.Light.Y,I64 a.Light.Z,E8 a.Rows,E9 a.Frames,Ea a.Tanks,I64 a.Gm.Tolerance,I64 a.Gm.Trim,I64 a.Gm.List_,I64 a.Gm.Stability]) Gc7 O O O O O O O O) (G4 (a5 ?_))))
  refine R24 1005 0 (g+1) O O O (Nat.lt_succ_self _) (cs':=[E7 d,Eb a.Covers,I64 a.Light.Kilos,I64 a.Light.X,I64 a.Light.Y,I64 a.Light.Z,E8 a.Rows,E9 a.Frames,Ea a.Tanks,I64 a.Gm.Tolerance,I64 a.Gm.Trim,I64 a.Gm.List_,I64 a.Gm.Stability]) O (Gw (⟨[.agg [E7 d,Eb a.Covers,I64 a.Light.Kilos,I64 a.Light.X,I64 a.Light.Y,I64 a.Light.Z,E8 a.Rows,E9 a.Frames,Ea a.Tanks,I64 a.Gm.Tolerance,I64 a.Gm.Trim,I64 a.Gm.List_,I64 a.Gm.Stability]],[],ø,O,⟨⟨_,⟨_,_,_,_,O,O,O,.inl ⟨J6,O⟩⟩,.conv (.same O)⟩,ø⟩,O,congrArg (fun r:Gf=>(.agg (Gf.cs r):AV)) (Kz h)⟩))
end
end Go.Proofs.YtibhpogonkdiaaaGreat
