/- Walks of functions. -/
import Derived.Test.YtibhpogonkdiaaaGreatXLa
set_option linter.unnecessarySimpa false
set_option maxRecDepth 100000
set_option maxHeartbeats 1000000
set_option linter.unusedVariables false
set_option linter.unusedSimpArgs false
namespace Go.Proofs.YtibhpogonkdiaaaGreat
open Go.RowKit
noncomputable section
open XAF
open XCF
open XFF
open XSF
open XLF

def J1 (F:Nat) (s:Ge) (boxes:List Box) (calls:Int):Option (G4f×Int×Int):=
 bnd (Jo s boxes calls) fun w=>
 bif (!w) then
 (some ((G4f.mk [] []),0,5))
 else
 (need (decide (calls≤9223372036854775807)) <|
  upto (fun n (b:(List (List (List G1)))) p=>
   bnd (Rj boxes (n:Int)) fun t=>
   bnd (Q2 F s boxes t) fun f=>
   need (decide ((b.length+[f].length)*24≤140737488355328∧b.length+[f].length≤maxLen)) <|
   Jz (b++[f]) (n:Int) fun u=>
   bif decide ((u.length:Int)=0) then
   (some ((G4f.mk [] []),0,4))
   else
   (p (b++[f])))
  (fun(b:(List (List (List G1))))=>
   Jz b 0 fun v=>
   each (fun x o (c:Int×(Gu Gs Gc)) q=>
    jp (fun g=>
     bnd (Qc F 0 (o:Int) c.2 calls b (fun z0 z1=>Jd F z0 z1 s boxes)) fun h=>
     bnd (Qc F 0 c.1 h.2 calls b (fun z0 z1=>Jd F z0 z1 s boxes)) fun d=>
     bif decide (h.1.restows < d.1.restows) then
     (g ((o:Int),d.2))
     else
     (g (c.1,d.2))) fun(i:Int×(Gu Gs Gc))=>
    q (i.1,i.2))
   (fun(c:Int×(Gu Gs Gc))=>
    bnd (Qc F 0 c.1 c.2 calls b (fun z0 z1=>Jd F z0 z1 s boxes)) fun j=>
    need (decide (calls≤9223372036854775807)) <|
    upto (fun k (a:Int×(List (List G1))×(List (List Int))×(Gu Gs Gc)) m=>
     Jz b (k:Int) fun r=>
     Jz r a.1 fun e=>
     need (decide ((a.2.1.length+[e].length)*24≤140737488355328∧a.2.1.length+[e].length≤maxLen)) <|
     bnd (Qc F (k:Int) a.1 a.2.2.2 calls b (fun z0 z1=>Jd F z0 z1 s boxes)) fun l=>
     m (l.1.next,(a.2.1++[e]),a.2.2.1,l.2))
    (fun(a:Int×(List (List G1))×(List (List Int))×(Gu Gs Gc))=>
     some ((G4f.mk a.2.1 a.2.2.1),j.1.restows,0)) calls.toNat 0 (c.1,[],[],j.2)) v 0 (0,(Gu.empty:Gu Gs Gc))) calls.toNat 0 [])
abbrev K0:List AV:=[LS 1 (E4) ([]:List (List G1)),LS 1 (E5) ([]:List (List Int))]
abbrev Ka (a:Int×(List (List G1))×(List (List Int))×(Gu Gs Gc)):List AV:=[OW 1029 1 (E4) a.2.1,LS 1 (E5) a.2.2.1]
abbrev Kb (r:G4f×Int×Int):List AV:=[.agg [LS 1 (E4) r.1.States,LS 1 (E5) r.1.Water],I64 r.2.1,I64 r.2.2]
theorem Q1 (F:Nat) (s:Ge) (boxes:List Box) (calls:Int) (r:G4f×Int×Int) (h:J1 F s boxes calls=some r):Pure Em 9 [.agg (Ge.cs s),E6 boxes,I64 calls] (·=.tup [.agg [LS 1 (E4) r.1.States,LS 1 (E5) r.1.Water],I64 r.2.1,I64 r.2.2]):=by
 unfold J1 at h
 refine H7 [.cell 6 48,.tmp 7,.tmp 8] Tryz.func9 O O (Jr fun g9=>(JLh (.ptr 1018 0) (Jx (cs:=(Ge.cs s)) 1018 O O O O O) O (JLh (.ptr 1019 0) (Jx (cs:=[E6 boxes]) 1019 O O O O O) O (JLh (.ptr 1020 0) (Jx (cs:=[I64 calls]) 1020 O O O O O) O (JLh (.ptr 1021 0) (Y7 1021 K0 [.slice none 0 0,.slice none 0 0] G1c ⟨.inr ⟨_,O,O⟩,.inr ⟨_,O,O⟩,ø⟩ O O) O (JLm (I64 0) O (JLm (I64 0) O (G6 (g9 ?_)))))))))
 refine fzQ [(3,Ef s),(4,.ptr 1019 0),(5,.ptr 1020 0),(6,.ptr 1021 0)] [(1019,.box 38 [E6 boxes]),(1020,.box 3 [I64 calls]),(1021,.box 48 K0)] 1018 rfl rfl rfl ⟨⟨_,rfl,.boxEq rfl rfl⟩,⟨_,rfl,.boxEq rfl rfl⟩,⟨_,rfl,.boxEq rfl rfl⟩,ø⟩ rfl (fzQ [(3,Ef s),(4,.dptr [E6 boxes]),(5,.ptr 1020 0),(6,.ptr 1021 0)] [(1020,.box 3 [I64 calls]),(1021,.box 48 K0)] 1019 rfl rfl rfl ⟨⟨_,rfl,.boxEq rfl rfl⟩,⟨_,rfl,.boxEq rfl rfl⟩,ø⟩ rfl ?_)
 refine fzQ [(3,Ef s),(4,.dptr [E6 boxes]),(5,.dptr [I64 calls]),(6,.ptr 1021 0)] [(1021,.box 48 K0)] 1020 rfl rfl rfl ⟨⟨_,rfl,.boxEq rfl rfl⟩,ø⟩ rfl (Js fun h0=>Jr fun h1=>(JLh (.agg (Ge.cs s)) (Gi Hm O O O) O (JLh (E6 boxes) (Gf G72 O O O) O (JLh (I64 calls) (Gf G9 O O O) O ?_))))
 obtain⟨r4,h2,h⟩:=Gh h
 refine JLh (BL r4) (H0 O (Ga1 s boxes calls r4 h2) Ha4 ⟨O,O,O,O,O,O,ø⟩) O (JLh (BL (!r4)) (G11 (b:=r4) O O) O (G6 (h1 (JCc O h (fun h hb=>?_) (fun h hb=>?_)))))
 ·
  refine Jr fun h3=>(JLh (.agg K0) (J6 (cs:=K0) [(0,1),(1,1)] K0 [.slice none 0 0,.slice none 0 0] Gcc G1c ⟨.inr ⟨_,O,O⟩,.inr ⟨_,O,O⟩,ø⟩ O O) O (Hb (u:=.junk) (Gz (u:=.agg K0) (ds:=K0) R5 O O O O O O O O) (JLm (I64 0) O (JLm (I64 5) O (G6 (h3 (Gy ?_)))))))
  exact⟨[.agg K0,I64 0,I64 5],[],ø,O,⟨⟨_,⟨_,_,_,_,O,O,O,.inl ⟨G2e,O⟩⟩,.conv (.same O)⟩,⟨_,O,.conv (.same O)⟩,⟨_,O,.conv (.same O)⟩,ø⟩,O,congrArg (fun r:G4f×Int×Int=>(.tup (Kb r):AV)) (M0 h)⟩
 ·
  refine Gp (h0 (Jr fun h4=>(JLh (.ptr 1022 0) (Y7 1022 [.sc (.slice none 0 0)] [.slice none 0 0] Q8e ⟨.inl O,ø⟩ O O) O (Ga2 1022 0 1028 42 1 O O O (cs':=[OW 1028 1 (LS 1 (E4)) ([]:List (List (List G1)))]) O (G6 (h4 (Js fun h5=>Jr fun h6=>(JLh (I64 calls) (Gf G9 O O O) O (JLm (I64 0) O (G6 (h6 (Gk ?_))))))))))))
  obtain⟨d8,h⟩:=J0 h
  obtain⟨h7,d9,e0,a8,h⟩:=Ga5 h
  refine Hi (fun j (a:(List (List (List G1))))=>upto h7 d9 (calls.toNat - j) j a=some r) (fun j a=>[(3,Ef s),(4,.dptr [E6 boxes]),(5,.dptr [I64 calls]),(6,.ptr 1021 0),(9,.ptr 1022 0),(25,I64 calls),(26,Ek j)]) (fun j a=>[(1028,.spare 42 1 a.length a.length),(1021,.box 48 K0),(1022,.box 81 [OW 1028 1 (LS 1 (E4)) a])]) (fun j=>calls.toNat - j) 0 [] h ⟨(.sm O O),⟨⟨_,rfl,.same⟩,fbQ O (.sm O O),fbQ O ⟨.same rfl,ø⟩,ø⟩,rfl⟩ ?_
  clear h
  intro j a a0 i9 h8
  refine Jr fun e1=>(JLh (BL (decide ((j:Int) < calls))) (Jc O O O) O (G6 (e1 (Js fun e2=>Gn O (fun hb=>?_) (fun hb=>?_)))))
  ·
   have a1:=G55 hb
   obtain⟨i2,e3,h⟩:=G50 a0 a1
   replace h:=J03 e0 h
   refine Gp (e2 (Js fun e4=>Gk (Jr fun e5=>(JLm (Ek j) O (JLm (Ek j) O (G6 (e5 (Js fun e6=>Y6 (l':=[(3,Ef s),(4,.dptr [E6 boxes]),(5,.dptr [I64 calls]),(6,.ptr 1021 0),(9,.ptr 1022 0),(10,Ek j),(25,I64 calls),(26,Ek j)]) (L':=[(1028,.spare 42 1 a.length a.length),(1021,.box 48 K0),(1022,.box 81 [OW 1028 1 (LS 1 (E4)) a])]) ⟨(.sm O O),⟨⟨_,rfl,.same⟩,fbQ O (.sm O O),fbQ O ⟨.same rfl,ø⟩,ø⟩,rfl⟩ ?_))))))))
   obtain⟨a2,e7,h⟩:=Gh h
   obtain⟨k,e8,h⟩:=Gh h
   obtain⟨e9,h⟩:=J0 h
   refine Qw [8,9] [0,0,0,0,0,0,0,0,0,0] [0,0,0,0,0,0,0,0,0,0] [[(1028,.spare 42 1 a.length a.length),(1021,.box 48 K0),(1022,.box 81 [OW 1028 1 (LS 1 (E4)) a])],((1028,.spare 42 1 (a++[k]).length (a++[k]).length)::[(1028,.spare 42 1 a.length a.length),(1021,.box 48 K0),(1022,.box 81 [OW 1028 1 (LS 1 (E4)) a])]),((1022,.box 81 [OW 1028 1 (LS 1 (E4)) (a++[k])])::((1028,.spare 42 1 (a++[k]).length (a++[k]).length)::[(1028,.spare 42 1 a.length a.length),(1021,.box 48 K0),(1022,.box 81 [OW 1028 1 (LS 1 (E4)) a])]))] Q0 (by kernel_rfl) rfl rfl ?_
   refine Gq (u:=OW 1028 1 (LS 1 (E4)) a) O O ⟨Gm (Ji G1f O O O O) O,ø⟩ (Gq (u:=.agg (Ge.cs s)) O O ⟨Gm (Gi Hm O O O) O,ø⟩ (Gq (u:=E6 boxes) O O ⟨Gm (Gf G72 O O O) O,ø⟩ (Gq (u:=E6 boxes) O O ⟨Gm (Gf G72 O O O) O,ø⟩ (Gq (u:=Ek j) O O ⟨Gm (G4 O O) O,ø⟩ (Gq (u:=E5 a2) O O ⟨Gm (H0 O (H4b boxes (j:Int) a2 e7) J6b ⟨O,O,O,O,ø⟩) O,ø⟩ (Gq (u:=LS 1 (E4) k) O O ⟨Gm (H0 O (H04 F s boxes a2 k e8) J6c ⟨O,O,O,O,O,O,ø⟩) O,ø⟩ (Gq (u:=LS 1 (LS 1 (E4)) [k]) O O ⟨Gm (H8 (xs:=[LS 1 (E4) k]) O ⟨O,O,ø⟩ G19 J10 O O O O) O,ø⟩ (D_w (u:=OW 1028 1 (LS 1 (E4)) (a++[k])) O O O O (Gm (Qz (f:=(LS 1 (E4))) (xs:=a) (ys:=[k]) O O O O G19 Q9b e9 (fun _=>O) (.inl O) O) O) (H8e (u:=.junk) O O O O (Gm (Gz (u:=OW 1028 1 (LS 1 (E4)) (a++[k])) (ds:=[OW 1028 1 (LS 1 (E4)) (a++[k])]) Q97 O O O O O O O O) O) (Z7 ?_))))))))))
   refine e6 (Jr fun f0=>(JLh (OW 1028 1 (LS 1 (E4)) (a++[k])) (Ji G1f O O O O) O (JLm (Ek j) O ?_)))
   obtain⟨j0,w,f1,f2,h⟩:=Qm h
   refine JLh (.dptr [LS 1 (E4) w]) (H3 (f:=(LS 1 (E4))) (xs:=(a++[k])) (y:=w) O O O G19 f2 f1) O (JLh (LS 1 (E4) w) (Gf Jy O O O) O (JLl Hz O O O fun i3=>(JLh (BL (decide ((w.length:Int)=0))) (Q4 O O O) O (G6 (f0 (JCc O h (fun h hb=>?_) (fun h hb=>?_)))))))
   ·
    refine Jr fun f3=>(JLh (.agg K0) (J6 (cs:=K0) [(0,1),(1,1)] K0 [.slice none 0 0,.slice none 0 0] Gcc G1c ⟨.inr ⟨_,O,O⟩,.inr ⟨_,O,O⟩,ø⟩ O O) O (Hb (u:=.junk) (Gz (u:=.agg K0) (ds:=K0) R5 O O O O O O O O) (JLm (I64 0) O (JLm (I64 4) O (G6 (f3 ?_))))))
    refine Y6 (l':=[(6,.ptr 1021 0),(7,I64 0),(8,I64 4)]) (L':=[(1021,.box 48 K0),(1022,.box 81 [LS 1 (LS 1 (E4)) (a++[k])])]) ⟨(.sm O O),⟨⟨_,O,.boxL O (.sm O O)⟩,⟨_,O,.boxL O ⟨.list O,ø⟩⟩,ø⟩,O⟩ (Gj [(6,.ptr 1021 0),(7,I64 0),(8,I64 4)] [(1021,.box 48 K0)] 1022 rfl rfl rfl ⟨⟨_,rfl,.boxEq rfl rfl⟩,ø⟩ rfl (by exact⟨.conv (.same rfl),.conv (.same rfl),.conv (.same rfl),ø⟩) (Gy ?_))
    exact⟨[.agg K0,I64 0,I64 4],[],ø,O,⟨⟨_,⟨_,_,_,_,O,O,O,.inl ⟨G2e,O⟩⟩,.conv (.same O)⟩,⟨_,O,.conv (.same O)⟩,⟨_,O,.conv (.same O)⟩,ø⟩,O,congrArg (fun r:G4f×Int×Int=>(.tup (Kb r):AV)) (M0 h)⟩
   ·
    refine Gp (e4 (G2 (JLh (I64 ((j+1:Nat):Int)) (Hv (Ha a1 (Zs d8)) O O O) O (JLm (I64 ((j+1:Nat):Int)) O (G6 (h8 _ _ (j+1) (a++[k]) (app1 e3 h) (by omega) ⟨(.sm O O),⟨⟨_,rfl,.same⟩,fbQ O (.sm O O),fbQ O ⟨.same rfl,ø⟩,ø⟩,rfl⟩))))))
  ·
   have h:=app1 a8 (G51 a0 (Yn hb))
   refine Ho (h5 (Jr fun f4=>(JLh (.fn 26 [.dptr (Ge.cs s),.dptr [E6 boxes]]) (Yh (cs:=[.dptr (Ge.cs s),.dptr [E6 boxes]]) O O) O (JLh (.ptr 1023 0) (Hd 1023 1 Q33 O O) O (Hb (u:=.junk) (Gz (u:=.fn 26 [.dptr (Ge.cs s),.dptr [E6 boxes]]) (ds:=[.fn 26 [.dptr (Ge.cs s),.dptr [E6 boxes]]]) Q96 O O O O O O O O) (G6 (f4 ?_)))))))
   refine Y6 (l':=[(5,.dptr [I64 calls]),(6,.ptr 1021 0),(9,.ptr 1022 0),(11,.ptr 1023 0)]) (L':=[(1021,.box 48 K0),(1022,.box 81 [LS 1 (LS 1 (E4)) a]),(1023,.box 87 [.fn 26 [.dptr (Ge.cs s),.dptr [E6 boxes]]])]) ⟨(.sm O O),⟨fbQ O (.sm O O),fbQ O ⟨.list rfl,ø⟩,fbQ O ⟨.same rfl,ø⟩,ø⟩,rfl⟩ ?_
   refine fzQ [(5,.dptr [I64 calls]),(6,.ptr 1021 0),(9,.dptr [LS 1 (LS 1 (E4)) a]),(11,.ptr 1023 0)] [(1021,.box 48 K0),(1023,.box 87 [.fn 26 [.dptr (Ge.cs s),.dptr [E6 boxes]]])] 1022 rfl rfl rfl ⟨⟨_,rfl,.boxEq rfl rfl⟩,⟨_,rfl,.boxEq rfl rfl⟩,ø⟩ rfl (fzQ [(5,.dptr [I64 calls]),(6,.ptr 1021 0),(9,.dptr [LS 1 (LS 1 (E4)) a]),(11,.dptr [.fn 26 [.dptr (Ge.cs s),.dptr [E6 boxes]]])] [(1021,.box 48 K0)] 1023 rfl rfl rfl ⟨⟨_,rfl,.boxEq rfl rfl⟩,ø⟩ rfl ?_)
   refine Jr fun f5=>(JLh (.mp 1027) (G3f 1027 Gs.kv Gc.av O O) O (JLh (.ptr 1024 0) (Hd 1024 1 Q32 O O) O (Hb (u:=.junk) (Gz (u:=.mp 1027) (ds:=[.mp 1027]) Q95 O O O O O O O O) (G6 (f5 (Jr fun f6=>(JLh (.ptr 1025 0) (Hd 1025 1 Q31 O O) O (G6 (f6 ?_)))))))))
   refine Jr fun f7=>(JLh (.fn 30 [.ptr 1024 0,.dptr [I64 calls],.dptr [LS 1 (LS 1 (E4)) a],.dptr [.fn 26 [.dptr (Ge.cs s),.dptr [E6 boxes]]],.ptr 1025 0]) (Yh (cs:=[.ptr 1024 0,.dptr [I64 calls],.dptr [LS 1 (LS 1 (E4)) a],.dptr [.fn 26 [.dptr (Ge.cs s),.dptr [E6 boxes]]],.ptr 1025 0]) O O) O (Hb (u:=.junk) (Gz (u:=.fn 30 [.ptr 1024 0,.dptr [I64 calls],.dptr [LS 1 (LS 1 (E4)) a],.dptr [.fn 26 [.dptr (Ge.cs s),.dptr [E6 boxes]]],.ptr 1025 0]) (ds:=[.fn 30 [.ptr 1024 0,.dptr [I64 calls],.dptr [LS 1 (LS 1 (E4)) a],.dptr [.fn 26 [.dptr (Ge.cs s),.dptr [E6 boxes]]],.ptr 1025 0]]) Q94 O O O O O O O O) (G6 (f7 (Jr fun f8=>(JLm (I64 0) O (G6 (f8 (Js fun f9=>?_)))))))))
   refine Jr fun g0=>(JLh (LS 1 (LS 1 (E4)) a) (Gf G1f O O O) O ?_)
   obtain⟨j1,t,g1,g2,h⟩:=Qm h
   refine JLh (.dptr [LS 1 (E4) t]) (H3 (f:=(LS 1 (E4))) (xs:=a) (y:=t) O O O G19 g2 g1) O (JLh (LS 1 (E4) t) (Gf Jy O O O) O (JLl Hz O O O fun g3=>(JLm (I64 0) O (G6 (g0 (Gk ?_))))))
   obtain⟨h9,g4,g5,a9,h⟩:=J3 h
   refine Hi (fun e (g:Int×(Gu Gs Gc))=>each h9 g4 (List.drop e t) e g=some r) (fun e g=>[(5,.dptr [I64 calls]),(6,.ptr 1021 0),(9,.dptr [LS 1 (LS 1 (E4)) a]),(13,.ptr 1025 0),(14,I64 g.1),(52,Ek t.length),(53,Ek e)]) (fun e g=>[(1027,MP 88 Gs.kv Gc.av g.2),(1021,.box 48 K0),(1024,.box 88 [.mp 1027]),(1025,.box 89 [.fn 30 [.ptr 1024 0,.dptr [I64 calls],.dptr [LS 1 (LS 1 (E4)) a],.dptr [.fn 26 [.dptr (Ge.cs s),.dptr [E6 boxes]]],.ptr 1025 0]])]) (fun e=>t.length - e) 0 (0,(Gu.empty:Gu Gs Gc)) h ⟨(.sm O O),⟨fmQ O,fbQ O (.sm O O),fbQ O ⟨.same rfl,ø⟩,fbQ O ⟨.same rfl,ø⟩,ø⟩,rfl⟩ ?_
   clear h
   intro e g a3 j2 i0
   refine Jr fun b0=>(JLh (BL (decide ((e:Int) < (t.length:Int)))) (Jc O O O) O (G6 (b0 (Js fun b1=>Gn O (fun hb=>?_) (fun hb=>?_)))))
   ·
    have a4:=Jk hb
    obtain⟨j3,i4,i5,g6,h⟩:=Hr a3 a4
    replace h:=Ry g5 h
    refine Gp (b1 ?_)
    obtain⟨b2,a5,h⟩:=R1 h
    refine Qa (fun o:Int×(Gu Gs Gc)=>b2 o=some r) (fun o=>[(5,.dptr [I64 calls]),(6,.ptr 1021 0),(9,.dptr [LS 1 (LS 1 (E4)) a]),(13,.ptr 1025 0),(14,I64 o.1),(52,Ek t.length),(53,Ek e)]) (fun o=>[(1027,MP 88 Gs.kv Gc.av o.2),(1021,.box 48 K0),(1024,.box 88 [.mp 1027]),(1025,.box 89 [.fn 30 [.ptr 1024 0,.dptr [I64 calls],.dptr [LS 1 (LS 1 (E4)) a],.dptr [.fn 26 [.dptr (Ge.cs s),.dptr [E6 boxes]]],.ptr 1025 0]])]) (fun Kj102 ej102=>?_) ?_
    ·
     refine Gk (Jr fun b3=>(JLm (Ek e) O (JLm (Ek e) O (G6 (b3 (Js fun b4=>?_))))))
     refine Y6 (l':=[(5,.dptr [I64 calls]),(6,.ptr 1021 0),(9,.dptr [LS 1 (LS 1 (E4)) a]),(13,.ptr 1025 0),(14,I64 g.1),(15,Ek e),(52,Ek t.length),(53,Ek e)]) (L':=[(1027,MP 88 Gs.kv Gc.av g.2),(1021,.box 48 K0),(1024,.box 88 [.mp 1027]),(1025,.box 89 [.fn 30 [.ptr 1024 0,.dptr [I64 calls],.dptr [LS 1 (LS 1 (E4)) a],.dptr [.fn 26 [.dptr (Ge.cs s),.dptr [E6 boxes]]],.ptr 1025 0]])]) ⟨(.sm O O),⟨fmQ O,fbQ O (.sm O O),fbQ O ⟨.same rfl,ø⟩,fbQ O ⟨.same rfl,ø⟩,ø⟩,rfl⟩ ?_
     obtain⟨m,b5,h⟩:=Gh h
     obtain⟨n,b6,h⟩:=Gh h
     refine Qw [2,6] [0,0,0,1,0,0,0,2,2] [0,0,0,2,1,1,0,2,2] [[(1027,MP 88 Gs.kv Gc.av g.2),(1021,.box 48 K0),(1024,.box 88 [.mp 1027]),(1025,.box 89 [.fn 30 [.ptr 1024 0,.dptr [I64 calls],.dptr [LS 1 (LS 1 (E4)) a],.dptr [.fn 26 [.dptr (Ge.cs s),.dptr [E6 boxes]]],.ptr 1025 0]])],((1027,MP 88 Gs.kv Gc.av m.2)::[(1027,MP 88 Gs.kv Gc.av g.2),(1021,.box 48 K0),(1024,.box 88 [.mp 1027]),(1025,.box 89 [.fn 30 [.ptr 1024 0,.dptr [I64 calls],.dptr [LS 1 (LS 1 (E4)) a],.dptr [.fn 26 [.dptr (Ge.cs s),.dptr [E6 boxes]]],.ptr 1025 0]])]),((1027,MP 88 Gs.kv Gc.av n.2)::((1027,MP 88 Gs.kv Gc.av m.2)::[(1027,MP 88 Gs.kv Gc.av g.2),(1021,.box 48 K0),(1024,.box 88 [.mp 1027]),(1025,.box 89 [.fn 30 [.ptr 1024 0,.dptr [I64 calls],.dptr [LS 1 (LS 1 (E4)) a],.dptr [.fn 26 [.dptr (Ge.cs s),.dptr [E6 boxes]]],.ptr 1025 0]])]))] Q0 (by kernel_rfl) rfl rfl ?_
     refine Gq (u:=.fn 30 [.ptr 1024 0,.dptr [I64 calls],.dptr [LS 1 (LS 1 (E4)) a],.dptr [.fn 26 [.dptr (Ge.cs s),.dptr [E6 boxes]]],.ptr 1025 0]) O O ⟨Gm (Ji G41 O O O O) O,ø⟩ (Gq (u:=Ek e) O O ⟨Gm (G4 O O) O,ø⟩ (D_w (u:=.agg [I64 m.1.restows,I64 m.1.next]) O O O O (Zk.locEq (Gm (G8e (args:=[I64 0,Ek e]) (caps:=[.ptr 1024 0,.dptr [I64 calls],.dptr [LS 1 (LS 1 (E4)) a],.dptr [.fn 26 [.dptr (Ge.cs s),.dptr [E6 boxes]]],.ptr 1025 0]) (L0:=[(1024,.box 88 [.mp 1027]),(1027,MP 88 Gs.kv Gc.av g.2),(1025,.box 89 [.fn 30 [.ptr 1024 0,.dptr [I64 calls],.dptr [LS 1 (LS 1 (E4)) a],.dptr [.fn 26 [.dptr (Ge.cs s),.dptr [E6 boxes]]],.ptr 1025 0]])]) (Lr:=[(1024,.box 88 [.mp 1027]),(1027,MP 88 Gs.kv Gc.av m.2),(1025,.box 89 [.fn 30 [.ptr 1024 0,.dptr [I64 calls],.dptr [LS 1 (LS 1 (E4)) a],.dptr [.fn 26 [.dptr (Ge.cs s),.dptr [E6 boxes]]],.ptr 1025 0]])]) O O (G21 F 0 (e:Int) g.2 calls a (fun z0 z1=>Jd F z0 z1 s boxes) 26 [.dptr (Ge.cs s),.dptr [E6 boxes]] H33 O (fun z0 z1 q hq=>G22 F z0 z1 s boxes q hq) m b5) Ge1 ⟨.inl O,O,.inl O,O,ø⟩ O ⟨O,O,O,ø⟩ O O O) O) (G6f.of [1027,1021,1024,1025] O O ⟨O,O,O,O,ø⟩)) (Gq (u:=I64 m.1.restows) O O ⟨Gm (H28 Gde O O O) O,Gm (H28 Gde O O O) O,ø⟩ (Gq (u:=.fn 30 [.ptr 1024 0,.dptr [I64 calls],.dptr [LS 1 (LS 1 (E4)) a],.dptr [.fn 26 [.dptr (Ge.cs s),.dptr [E6 boxes]]],.ptr 1025 0]) O O ⟨Gm (Ji G41 O O O O) O,Gm (Ji G41 O O O O) O,ø⟩ (Gq (u:=I64 g.1) O O ⟨Gm (G4 O O) O,Gm (G4 O O) O,ø⟩ (D_w (u:=.agg [I64 n.1.restows,I64 n.1.next]) O O O O (Zk.locEq (Gm (G8e (args:=[I64 0,I64 g.1]) (caps:=[.ptr 1024 0,.dptr [I64 calls],.dptr [LS 1 (LS 1 (E4)) a],.dptr [.fn 26 [.dptr (Ge.cs s),.dptr [E6 boxes]]],.ptr 1025 0]) (L0:=[(1024,.box 88 [.mp 1027]),(1027,MP 88 Gs.kv Gc.av m.2),(1025,.box 89 [.fn 30 [.ptr 1024 0,.dptr [I64 calls],.dptr [LS 1 (LS 1 (E4)) a],.dptr [.fn 26 [.dptr (Ge.cs s),.dptr [E6 boxes]]],.ptr 1025 0]])]) (Lr:=[(1024,.box 88 [.mp 1027]),(1027,MP 88 Gs.kv Gc.av n.2),(1025,.box 89 [.fn 30 [.ptr 1024 0,.dptr [I64 calls],.dptr [LS 1 (LS 1 (E4)) a],.dptr [.fn 26 [.dptr (Ge.cs s),.dptr [E6 boxes]]],.ptr 1025 0]])]) O O (G21 F 0 g.1 m.2 calls a (fun z0 z1=>Jd F z0 z1 s boxes) 26 [.dptr (Ge.cs s),.dptr [E6 boxes]] H33 O (fun z0 z1 q hq=>G22 F z0 z1 s boxes q hq) n b6) Ge1 ⟨.inl O,O,.inl O,O,ø⟩ O ⟨O,O,O,ø⟩ O O O) O) (G6f.of [1027,1021,1024,1025] O O ⟨O,O,O,O,ø⟩)) (Gq (u:=I64 n.1.restows) O O ⟨Gm (H28 Gde O O O) O,ø⟩ (Gq (u:=BL (decide (m.1.restows < n.1.restows))) O O ⟨Gm (Jc O O O) O,ø⟩ (Z7 ?_)))))))))
     refine b4 (JCc O h (fun h hb=>?_) (fun h hb=>?_))
     ·
      refine G2 (JLm (Ek e) O (JLm (Ek e) O (G6 (ej102 _ _ ((e:Int),n.2) h ⟨(.sm O O),⟨fmQ O,fbQ O (.sm O O),fbQ O ⟨.same rfl,ø⟩,fbQ O ⟨.same rfl,ø⟩,ø⟩,rfl⟩))))
     ·
      refine Gp (ej102 _ _ (g.1,n.2) h ⟨(.sm O O),⟨fmQ O,fbQ O (.sm O O),fbQ O ⟨.same rfl,ø⟩,fbQ O ⟨.same rfl,ø⟩,ø⟩,rfl⟩)
    ·intro o h
     replace h:=app1 a5 h
     refine G2 (JLh (I64 ((e+1:Nat):Int)) (Hv (Ha a4 g3) O O O) O (JLm (I64 ((e+1:Nat):Int)) O (G6 (i0 _ _ (e+1) (o.1,o.2) (app1 g6 h) (by omega) ⟨(.sm O O),⟨fmQ O,fbQ O (.sm O O),fbQ O ⟨.same rfl,ø⟩,fbQ O ⟨.same rfl,ø⟩,ø⟩,rfl⟩))))
   ·
    have h:=app1 a9 (Hs a3 (H9 hb))
    refine Ho (f9 (Jr fun b7=>(JLh (.fn 30 [.ptr 1024 0,.dptr [I64 calls],.dptr [LS 1 (LS 1 (E4)) a],.dptr [.fn 26 [.dptr (Ge.cs s),.dptr [E6 boxes]]],.ptr 1025 0]) (Ji G41 O O O O) O (JLm (I64 g.1) O ?_))))
    obtain⟨l,b8,h⟩:=Gh h
    refine JLh (.agg [I64 l.1.restows,I64 l.1.next]) (G8e (args:=[I64 0,I64 g.1]) (caps:=[.ptr 1024 0,.dptr [I64 calls],.dptr [LS 1 (LS 1 (E4)) a],.dptr [.fn 26 [.dptr (Ge.cs s),.dptr [E6 boxes]]],.ptr 1025 0]) (L0:=[(1024,.box 88 [.mp 1027]),(1027,MP 88 Gs.kv Gc.av g.2),(1025,.box 89 [.fn 30 [.ptr 1024 0,.dptr [I64 calls],.dptr [LS 1 (LS 1 (E4)) a],.dptr [.fn 26 [.dptr (Ge.cs s),.dptr [E6 boxes]]],.ptr 1025 0]])]) (Lr:=[(1024,.box 88 [.mp 1027]),(1027,MP 88 Gs.kv Gc.av l.2),(1025,.box 89 [.fn 30 [.ptr 1024 0,.dptr [I64 calls],.dptr [LS 1 (LS 1 (E4)) a],.dptr [.fn 26 [.dptr (Ge.cs s),.dptr [E6 boxes]]],.ptr 1025 0]])]) O O (G21 F 0 g.1 g.2 calls a (fun z0 z1=>Jd F z0 z1 s boxes) 26 [.dptr (Ge.cs s),.dptr [E6 boxes]] H33 O (fun z0 z1 q hq=>G22 F z0 z1 s boxes q hq) l b8) Ge1 ⟨.inl O,O,.inl O,O,ø⟩ O ⟨O,O,O,ø⟩ O O O) O (JLh (I64 l.1.restows) (H28 Gde O O O) O (JLm (I64 l.1.restows) O (G6 (b7 ?_))))
    refine Jr fun b9=>(JLh (.ptr 1026 0) (Y7 1026 [.sc (.slice none 0 0),LS 1 (E5) ([]:List (List Int))] [.slice none 0 0,.slice none 0 0] G1c ⟨.inl O,.inr ⟨_,O,O⟩,ø⟩ O O) O (Ga2 1026 0 1029 59 1 O O O (cs':=[OW 1029 1 (E4) ([]:List (List G1)),LS 1 (E5) ([]:List (List Int))]) O (G6 (b9 (Js fun c0=>Jr fun c1=>(JLh (I64 calls) (Gf G9 O O O) O (JLm (I64 0) O (G6 (c1 (Gk ?_))))))))))
    obtain⟨c2,h⟩:=J0 h
    obtain⟨g7,c3,c4,a6,h⟩:=Ga5 h
    refine Hi (fun d (c:Int×(List (List G1))×(List (List Int))×(Gu Gs Gc))=>upto g7 c3 (calls.toNat - d) d c=some r) (fun d c=>[(6,.ptr 1021 0),(9,.dptr [LS 1 (LS 1 (E4)) a]),(13,.ptr 1025 0),(14,I64 c.1),(16,I64 l.1.restows),(17,.ptr 1026 0),(71,I64 calls),(72,Ek d)]) (fun d c=>[(1027,MP 88 Gs.kv Gc.av c.2.2.2),(1029,.spare 59 1 c.2.1.length c.2.1.length),(1021,.box 48 K0),(1024,.box 88 [.mp 1027]),(1025,.box 89 [.fn 30 [.ptr 1024 0,.dptr [I64 calls],.dptr [LS 1 (LS 1 (E4)) a],.dptr [.fn 26 [.dptr (Ge.cs s),.dptr [E6 boxes]]],.ptr 1025 0]]),(1026,.box 48 (Ka c))]) (fun d=>calls.toNat - d) 0 (g.1,[],[],l.2) h ⟨(.sm O O),⟨fmQ O,⟨_,rfl,.same⟩,fbQ O (.sm O O),fbQ O ⟨.same rfl,ø⟩,fbQ O ⟨.same rfl,ø⟩,fbQ O (.sm O O),ø⟩,rfl⟩ ?_
    clear h
    intro d c x i6 g8
    refine Jr fun c5=>(JLh (BL (decide ((d:Int) < calls))) (Jc O O O) O (G6 (c5 (Js fun c6=>Gn O (fun hb=>?_) (fun hb=>?_)))))
    ·
     have z:=G55 hb
     obtain⟨i1,c7,h⟩:=G50 x z
     replace h:=J03 c4 h
     refine Gp (c6 (Js fun c8=>Gk (Jr fun c9=>(JLm (Ek d) O (JLm (Ek d) O (G6 (c9 (Js fun d0=>?_))))))))
     refine Y6 (l':=[(6,.ptr 1021 0),(9,.dptr [LS 1 (LS 1 (E4)) a]),(13,.ptr 1025 0),(14,I64 c.1),(16,I64 l.1.restows),(17,.ptr 1026 0),(18,Ek d),(71,I64 calls),(72,Ek d)]) (L':=[(1027,MP 88 Gs.kv Gc.av c.2.2.2),(1029,.spare 59 1 c.2.1.length c.2.1.length),(1021,.box 48 K0),(1024,.box 88 [.mp 1027]),(1025,.box 89 [.fn 30 [.ptr 1024 0,.dptr [I64 calls],.dptr [LS 1 (LS 1 (E4)) a],.dptr [.fn 26 [.dptr (Ge.cs s),.dptr [E6 boxes]]],.ptr 1025 0]]),(1026,.box 48 (Ka c))]) ⟨(.sm O O),⟨fmQ O,⟨_,rfl,.same⟩,fbQ O (.sm O O),fbQ O ⟨.same rfl,ø⟩,fbQ O ⟨.same rfl,ø⟩,fbQ O (.sm O O),ø⟩,rfl⟩ ?_
     obtain⟨i7,v,d1,d2,h⟩:=Qm h
     obtain⟨i8,i,d3,d4,h⟩:=Qm h
     obtain⟨d5,h⟩:=J0 h
     refine Qw [10,12] [0,0,0,0,0,0,0,0,0,0,0,1,0] [0,0,0,0,0,0,0,0,0,0,0,1,0] [[(1027,MP 88 Gs.kv Gc.av c.2.2.2),(1029,.spare 59 1 c.2.1.length c.2.1.length),(1021,.box 48 K0),(1024,.box 88 [.mp 1027]),(1025,.box 89 [.fn 30 [.ptr 1024 0,.dptr [I64 calls],.dptr [LS 1 (LS 1 (E4)) a],.dptr [.fn 26 [.dptr (Ge.cs s),.dptr [E6 boxes]]],.ptr 1025 0]]),(1026,.box 48 (Ka c))],((1029,.spare 59 1 (c.2.1++[i]).length (c.2.1++[i]).length)::[(1027,MP 88 Gs.kv Gc.av c.2.2.2),(1029,.spare 59 1 c.2.1.length c.2.1.length),(1021,.box 48 K0),(1024,.box 88 [.mp 1027]),(1025,.box 89 [.fn 30 [.ptr 1024 0,.dptr [I64 calls],.dptr [LS 1 (LS 1 (E4)) a],.dptr [.fn 26 [.dptr (Ge.cs s),.dptr [E6 boxes]]],.ptr 1025 0]]),(1026,.box 48 (Ka c))]),((1026,.box 48 [OW 1029 1 (E4) (c.2.1++[i]),LS 1 (E5) c.2.2.1])::((1029,.spare 59 1 (c.2.1++[i]).length (c.2.1++[i]).length)::[(1027,MP 88 Gs.kv Gc.av c.2.2.2),(1029,.spare 59 1 c.2.1.length c.2.1.length),(1021,.box 48 K0),(1024,.box 88 [.mp 1027]),(1025,.box 89 [.fn 30 [.ptr 1024 0,.dptr [I64 calls],.dptr [LS 1 (LS 1 (E4)) a],.dptr [.fn 26 [.dptr (Ge.cs s),.dptr [E6 boxes]]],.ptr 1025 0]]),(1026,.box 48 (Ka c))]))] Q0 (by kernel_rfl) rfl rfl ?_
     refine Gq (u:=.ptr 1026 0) O O ⟨Gm (J7 Yi O O) O,ø⟩ (Gq (u:=OW 1029 1 (E4) c.2.1) O O ⟨Gm (Ji Jy O O O O) O,ø⟩ (Gq (u:=LS 1 (LS 1 (E4)) a) O O ⟨Gm (Gf G1f O O O) O,ø⟩ (Gq (u:=Ek d) O O ⟨Gm (G4 O O) O,ø⟩ (Gq (u:=.dptr [LS 1 (E4) v]) O O ⟨Gm (H3 (f:=(LS 1 (E4))) (xs:=a) (y:=v) O O O G19 d2 d1) O,ø⟩ (Gq (u:=LS 1 (E4) v) O O ⟨Gm (Gf Jy O O O) O,ø⟩ (Gq (u:=I64 c.1) O O ⟨Gm (G4 O O) O,ø⟩ (Gq (u:=.dptr [E4 i]) O O ⟨Gm (H3 (f:=(E4)) (xs:=v) (y:=i) O O O Hz d4 d3) O,ø⟩ (Gq (u:=E4 i) O O ⟨Gm (Gf Y1 O O O) O,ø⟩ (Gq (u:=LS 1 (E4) [i]) O O ⟨Gm (H8 (xs:=[E4 i]) O ⟨O,O,ø⟩ Hz Gb0 O O O O) O,ø⟩ (D_w (u:=OW 1029 1 (E4) (c.2.1++[i])) O O O O (Gm (Qz (f:=(E4)) (xs:=c.2.1) (ys:=[i]) O O O O Hz H31 d5 (fun _=>O) (.inl O) O) O) (Gq (u:=.ptr 1026 0) O O ⟨Gm (J7 Yi O O) O,ø⟩ (H8e (u:=.junk) O O O O (Gm (Gz (u:=OW 1029 1 (E4) (c.2.1++[i])) (ds:=[OW 1029 1 (E4) (c.2.1++[i]),LS 1 (E5) c.2.2.1]) H2e O O O O O O O O) O) (Z7 ?_)))))))))))))
     refine d0 (G2 (JLh (.fn 30 [.ptr 1024 0,.dptr [I64 calls],.dptr [LS 1 (LS 1 (E4)) a],.dptr [.fn 26 [.dptr (Ge.cs s),.dptr [E6 boxes]]],.ptr 1025 0]) (Ji G41 O O O O) O (JLm (Ek d) O (JLm (I64 c.1) O ?_))))
     obtain⟨p,d6,h⟩:=Gh h
     refine JLh (.agg [I64 p.1.restows,I64 p.1.next]) (G8e (args:=[Ek d,I64 c.1]) (caps:=[.ptr 1024 0,.dptr [I64 calls],.dptr [LS 1 (LS 1 (E4)) a],.dptr [.fn 26 [.dptr (Ge.cs s),.dptr [E6 boxes]]],.ptr 1025 0]) (L0:=[(1024,.box 88 [.mp 1027]),(1027,MP 88 Gs.kv Gc.av c.2.2.2),(1025,.box 89 [.fn 30 [.ptr 1024 0,.dptr [I64 calls],.dptr [LS 1 (LS 1 (E4)) a],.dptr [.fn 26 [.dptr (Ge.cs s),.dptr [E6 boxes]]],.ptr 1025 0]])]) (Lr:=[(1024,.box 88 [.mp 1027]),(1027,MP 88 Gs.kv Gc.av p.2),(1025,.box 89 [.fn 30 [.ptr 1024 0,.dptr [I64 calls],.dptr [LS 1 (LS 1 (E4)) a],.dptr [.fn 26 [.dptr (Ge.cs s),.dptr [E6 boxes]]],.ptr 1025 0]])]) O O (G21 F (d:Int) c.1 c.2.2.2 calls a (fun z0 z1=>Jd F z0 z1 s boxes) 26 [.dptr (Ge.cs s),.dptr [E6 boxes]] H33 O (fun z0 z1 q hq=>G22 F z0 z1 s boxes q hq) p d6) Ge1 ⟨.inl O,O,.inl O,O,ø⟩ O ⟨O,O,O,ø⟩ O O O) O (JLh (I64 p.1.next) (H28 Q9a O O O) O (JLm (I64 p.1.next) O (G6 (c8 ?_))))
     refine G2 (JLh (I64 ((d+1:Nat):Int)) (Hv (Ha z (Zs c2)) O O O) O (JLm (I64 ((d+1:Nat):Int)) O (G6 (g8 _ _ (d+1) (p.1.next,(c.2.1++[i]),c.2.2.1,p.2) (app1 c7 h) (by omega) ⟨(.sm O O),⟨fmQ O,⟨_,rfl,.same⟩,fbQ O (.sm O O),fbQ O ⟨.same rfl,ø⟩,fbQ O ⟨.same rfl,ø⟩,fbQ O (.sm O O),ø⟩,rfl⟩))))
    ·
     have h:=app1 a6 (G51 x (Yn hb))
     refine Ho (c0 (Jr fun d7=>(JLh (.agg (Ka c)) (G0f G2e O O O O) O (JLm (I64 l.1.restows) O (Hb (u:=.junk) (Gz (u:=.agg (Ka c)) (ds:=(Ka c)) R5 O O O O O O O O) (JLm (I64 l.1.restows) O (JLm (I64 0) O (G6 (d7 (Gy ?_))))))))))
     exact⟨[.agg [LS 1 (E4) c.2.1,LS 1 (E5) c.2.2.1],I64 l.1.restows,I64 0],[],ø,O,⟨⟨_,⟨_,_,_,_,O,O,O,.inl ⟨G2e,O⟩⟩,.agg ⟨.list O,.same O,ø⟩⟩,⟨_,O,.conv (.same O)⟩,⟨_,O,.conv (.same O)⟩,ø⟩,O,congrArg (fun r:G4f×Int×Int=>(.tup (Kb r):AV)) (M0 h)⟩
end
end Go.Proofs.YtibhpogonkdiaaaGreat
