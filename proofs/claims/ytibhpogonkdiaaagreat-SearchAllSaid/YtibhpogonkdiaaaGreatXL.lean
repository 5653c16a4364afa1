/- Walks of functions. -/
import Derived.Test.YtibhpogonkdiaaaGreatXLa
set_option linter.unnecessarySimpa false
set_option maxRecDepth 100000
set_option maxHeartbeats 1000000
set_option linter.unusedVariables false
set_option linter.unusedSimpArgs false
namespace Go.Proofs.YtibhpogonkdiaaaGreat
open Go.RowKit
noncomputable section
open XAF
open XCF
open XFF
open XSF
open XLF

def Qf (F:Nat) (s:Gf) (boxes:List Box) (calls:Int):Option (G60×Int×Int):=
 bnd (G0b s boxes calls) fun w=>
 bif (!w) then
 (some ((G60.mk [] []),0,5))
 else
 (need (decide (calls≤9223372036854775807)) <|
  upto (fun n (b:(List (List (List G1)))) p=>
   bnd (Rk boxes (n:Int)) fun t=>
   bnd (Q9 F s boxes t) fun f=>
   need (decide ((b.length+[f].length)*24≤140737488355328∧b.length+[f].length≤maxLen)) <|
   Ju (b++[f]) (n:Int) fun u=>
   bif decide ((u.length:Int)=0) then
   (some ((G60.mk [] []),0,4))
   else
   (p (b++[f])))
  (fun(b:(List (List (List G1))))=>
   Ju b 0 fun v=>
   each (fun x o (c:Int×(Gu Gs Gd)) q=>
    jp (fun g=>
     bnd (Qe F 0 (o:Int) c.2 calls b (fun z0 z1=>Jp F z0 z1 s boxes)) fun h=>
     bnd (Qe F 0 c.1 h.2 calls b (fun z0 z1=>Jp F z0 z1 s boxes)) fun d=>
     bif decide (h.1.restows < d.1.restows) then
     (g ((o:Int),d.2))
     else
     (g (c.1,d.2))) fun(i:Int×(Gu Gs Gd))=>
    q (i.1,i.2))
   (fun(c:Int×(Gu Gs Gd))=>
    bnd (Qe F 0 c.1 c.2 calls b (fun z0 z1=>Jp F z0 z1 s boxes)) fun j=>
    need (decide (calls≤9223372036854775807)) <|
    upto (fun k (a:Int×(List (List G1))×(List (List Int))×(Gu Gs Gd)) m=>
     Ju b (k:Int) fun r=>
     Ju r a.1 fun e=>
     need (decide ((a.2.1.length+[e].length)*24≤140737488355328∧a.2.1.length+[e].length≤maxLen)) <|
     bnd (Qe F (k:Int) a.1 a.2.2.2 calls b (fun z0 z1=>Jp F z0 z1 s boxes)) fun l=>
     m (l.1.next,(a.2.1++[e]),a.2.2.1,l.2))
    (fun(a:Int×(List (List G1))×(List (List Int))×(Gu Gs Gd))=>
     some ((G60.mk a.2.1 a.2.2.1),j.1.restows,0)) calls.toNat 0 (c.1,[],[],j.2)) v 0 (0,(Gu.empty:Gu Gs Gd))) calls.toNat 0 [])
abbrev K0:List AV:=[LS 1 (E4) ([]:List (List G1)),LS 1 (E5) ([]:List (List Int))]
abbrev Ka (a:Int×(List (List G1))×(List (List Int))×(Gu Gs Gd)):List AV:=[OW 1020 1 (E4) a.2.1,LS 1 (E5) a.2.2.1]
abbrev Kb (r:G60×Int×Int):List AV:=[.agg [LS 1 (E4) r.1.States,LS 1 (E5) r.1.Water],I64 r.2.1,I64 r.2.2]
theorem G8c (F:Nat) (s:Gf) (boxes:List Box) (calls:Int) (r:G60×Int×Int) (h:Qf F s boxes calls=some r):Pure Em 9 [.agg (Gf.cs s),E6 boxes,I64 calls] (·=.tup [.agg [LS 1 (E4) r.1.States,LS 1 (E5) r.1.Water],I64 r.2.1,I64 r.2.2]):=by
 unfold Qf at h
 refine H5 [.cell 6 48,.tmp 7,.tmp 8] Tryz.func9 O O (Jr fun g9=>(JLh (.ptr 1009 0) (Jt (cs:=(Gf.cs s)) 1009 O O O O O) O (JLh (.ptr 1010 0) (Jt (cs:=[E6 boxes]) 1010 O O O O O) O (JLh (.ptr 1011 0) (Jt (cs:=[I64 calls]) 1011 O O O O O) O (JLh (.ptr 1012 0) (Ru 1012 K0 [.slice none 0 0,.slice none 0 0] G0f ⟨.inr ⟨_,O,O⟩,.inr ⟨_,O,O⟩,ø⟩ O O) O (JLm (I64 0) O (JLm (I64 0) O (G4 (g9 ?_)))))))))
 refine fzQ [(3,Ef s),(4,.ptr 1010 0),(5,.ptr 1011 0),(6,.ptr 1012 0)] [(1010,.box 38 [E6 boxes]),(1011,.box 3 [I64 calls]),(1012,.box 48 K0)] 1009 rfl rfl rfl ⟨⟨_,rfl,.boxEq rfl rfl⟩,⟨_,rfl,.boxEq rfl rfl⟩,⟨_,rfl,.boxEq rfl rfl⟩,ø⟩ rfl (fzQ [(3,Ef s),(4,.dptr [E6 boxes]),(5,.ptr 1011 0),(6,.ptr 1012 0)] [(1011,.box 3 [I64 calls]),(1012,.box 48 K0)] 1010 rfl rfl rfl ⟨⟨_,rfl,.boxEq rfl rfl⟩,⟨_,rfl,.boxEq rfl rfl⟩,ø⟩ rfl ?_)
 refine fzQ [(3,Ef s),(4,.dptr [E6 boxes]),(5,.dptr [I64 calls]),(6,.ptr 1012 0)] [(1012,.box 48 K0)] 1011 rfl rfl rfl ⟨⟨_,rfl,.boxEq rfl rfl⟩,ø⟩ rfl (Js fun h0=>Jr fun h1=>(JLh (.agg (Gf.cs s)) (Gk J6 O O O) O (JLh (E6 boxes) (Ge G62 O O O) O (JLh (I64 calls) (Ge G9 O O O) O ?_))))
 obtain⟨r4,h2,h⟩:=Gg h
 refine JLh (BL r4) (H2 O (G8b s boxes calls r4 h2) H91 ⟨O,O,O,O,O,O,ø⟩) O (JLh (BL (!r4)) (G03 (b:=r4) O O) O (G4 (h1 (JCc O h (fun h hb=>?_) (fun h hb=>?_)))))
 ·
  refine Jr fun h3=>(JLh (.agg K0) (J9 (cs:=K0) [(0,1),(1,1)] K0 [.slice none 0 0,.slice none 0 0] Gb8 G0f ⟨.inr ⟨_,O,O⟩,.inr ⟨_,O,O⟩,ø⟩ O O) O (Hd (u:=.junk) (Gy (u:=.agg K0) (ds:=K0) Yz O O O O O O O O) (JLm (I64 0) O (JLm (I64 5) O (G4 (h3 (Gw ?_)))))))
  exact⟨[.agg K0,I64 0,I64 5],[],ø,O,⟨⟨_,⟨_,_,_,_,O,O,O,.inl ⟨G20,O⟩⟩,.conv (.same O)⟩,⟨_,O,.conv (.same O)⟩,⟨_,O,.conv (.same O)⟩,ø⟩,O,congrArg (fun r:G60×Int×Int=>(.tup (Kb r):AV)) (Kz h)⟩
 ·
  refine Gn (h0 (Jr fun h4=>(JLh (.ptr 1013 0) (Ru 1013 [.sc (.slice none 0 0)] [.slice none 0 0] Q6d ⟨.inl O,ø⟩ O O) O (G8d 1013 0 1019 42 1 O O O (cs':=[OW 1019 1 (LS 1 (E4)) ([]:List (List (List G1)))]) O (G4 (h4 (Js fun h5=>Jr fun h6=>(JLh (I64 calls) (Ge G9 O O O) O (JLm (I64 0) O (G4 (h6 (Gi ?_))))))))))))
  obtain⟨d8,h⟩:=Hw h
  obtain⟨h7,d9,e0,a8,h⟩:=G90 h
  refine Hf (fun j (a:(List (List (List G1))))=>upto h7 d9 (calls.toNat - j) j a=some r) (fun j a=>[(3,Ef s),(4,.dptr [E6 boxes]),(5,.dptr [I64 calls]),(6,.ptr 1012 0),(9,.ptr 1013 0),(25,I64 calls),(26,Ek j)]) (fun j a=>[(1019,.spare 42 1 a.length a.length),(1012,.box 48 K0),(1013,.box 81 [OW 1019 1 (LS 1 (E4)) a])]) (fun j=>calls.toNat - j) 0 [] h ⟨(.sm O O),⟨⟨_,rfl,.same⟩,fbQ O (.sm O O),fbQ O ⟨.same rfl,ø⟩,ø⟩,rfl⟩ ?_
  clear h
  intro j a a0 i9 h8
  refine Jr fun e1=>(JLh (BL (decide ((j:Int) < calls))) (J8 O O O) O (G4 (e1 (Js fun e2=>Gj O (fun hb=>?_) (fun hb=>?_)))))
  ·
   have a1:=G46 hb
   obtain⟨i2,e3,h⟩:=G41 a0 a1
   replace h:=Hef e0 h
   refine Gn (e2 (Js fun e4=>Gi (Jr fun e5=>(JLm (Ek j) O (JLm (Ek j) O (G4 (e5 (Js fun e6=>Rt (l':=[(3,Ef s),(4,.dptr [E6 boxes]),(5,.dptr [I64 calls]),(6,.ptr 1012 0),(9,.ptr 1013 0),(10,Ek j),(25,I64 calls),(26,Ek j)]) (L':=[(1019,.spare 42 1 a.length a.length),(1012,.box 48 K0),(1013,.box 81 [OW 1019 1 (LS 1 (E4)) a])]) ⟨(.sm O O),⟨⟨_,rfl,.same⟩,fbQ O (.sm O O),fbQ O ⟨.same rfl,ø⟩,ø⟩,rfl⟩ ?_))))))))
   obtain⟨a2,e7,h⟩:=Gg h
   obtain⟨k,e8,h⟩:=Gg h
   obtain⟨e9,h⟩:=Hw h
   refine Qy [8,9] [0,0,0,0,0,0,0,0,0,0] [0,0,0,0,0,0,0,0,0,0] [[(1019,.spare 42 1 a.length a.length),(1012,.box 48 K0),(1013,.box 81 [OW 1019 1 (LS 1 (E4)) a])],((1019,.spare 42 1 (a++[k]).length (a++[k]).length)::[(1019,.spare 42 1 a.length a.length),(1012,.box 48 K0),(1013,.box 81 [OW 1019 1 (LS 1 (E4)) a])]),((1013,.box 81 [OW 1019 1 (LS 1 (E4)) (a++[k])])::((1019,.spare 42 1 (a++[k]).length (a++[k]).length)::[(1019,.spare 42 1 a.length a.length),(1012,.box 48 K0),(1013,.box 81 [OW 1019 1 (LS 1 (E4)) a])]))] Q7 (by kernel_rfl) rfl rfl ?_
   refine Gq (u:=OW 1019 1 (LS 1 (E4)) a) O O ⟨Gr (Jg G12 O O O O) O,ø⟩ (Gq (u:=.agg (Gf.cs s)) O O ⟨Gr (Gk J6 O O O) O,ø⟩ (Gq (u:=E6 boxes) O O ⟨Gr (Ge G62 O O O) O,ø⟩ (Gq (u:=E6 boxes) O O ⟨Gr (Ge G62 O O O) O,ø⟩ (Gq (u:=Ek j) O O ⟨Gr (G5 O O) O,ø⟩ (Gq (u:=E5 a2) O O ⟨Gr (H2 O (H3b boxes (j:Int) a2 e7) J54 ⟨O,O,O,O,ø⟩) O,ø⟩ (Gq (u:=LS 1 (E4) k) O O ⟨Gr (H2 O (Gef F s boxes a2 k e8) J55 ⟨O,O,O,O,O,O,ø⟩) O,ø⟩ (Gq (u:=LS 1 (LS 1 (E4)) [k]) O O ⟨Gr (He (xs:=[LS 1 (E4) k]) O ⟨O,O,ø⟩ G0d Hfc O O O O) O,ø⟩ (D_w (u:=OW 1019 1 (LS 1 (E4)) (a++[k])) O O O O (Gr (Qt (f:=(LS 1 (E4))) (xs:=a) (ys:=[k]) O O O O G0d Q7a e9 (fun _=>O) (.inl O) O) O) (J2d (u:=.junk) O O O O (Gr (Gy (u:=OW 1019 1 (LS 1 (E4)) (a++[k])) (ds:=[OW 1019 1 (LS 1 (E4)) (a++[k])]) Q76 O O O O O O O O) O) (Zs ?_))))))))))
   refine e6 (Jr fun f0=>(JLh (OW 1019 1 (LS 1 (E4)) (a++[k])) (Jg G12 O O O O) O (JLm (Ek j) O ?_)))
   obtain⟨j0,w,f1,f2,h⟩:=Qc h
   refine JLh (.dptr [LS 1 (E4) w]) (H0 (f:=(LS 1 (E4))) (xs:=(a++[k])) (y:=w) O O O G0d f2 f1) O (JLh (LS 1 (E4) w) (Ge Jv O O O) O (JLl Hv O O O fun i3=>(JLh (BL (decide ((w.length:Int)=0))) (Qn O O O) O (G4 (f0 (JCc O h (fun h hb=>?_) (fun h hb=>?_)))))))
   ·
    refine Jr fun f3=>(JLh (.agg K0) (J9 (cs:=K0) [(0,1),(1,1)] K0 [.slice none 0 0,.slice none 0 0] Gb8 G0f ⟨.inr ⟨_,O,O⟩,.inr ⟨_,O,O⟩,ø⟩ O O) O (Hd (u:=.junk) (Gy (u:=.agg K0) (ds:=K0) Yz O O O O O O O O) (JLm (I64 0) O (JLm (I64 4) O (G4 (f3 ?_))))))
    refine Rt (l':=[(6,.ptr 1012 0),(7,I64 0),(8,I64 4)]) (L':=[(1012,.box 48 K0),(1013,.box 81 [LS 1 (LS 1 (E4)) (a++[k])])]) ⟨(.sm O O),⟨⟨_,O,.boxL O (.sm O O)⟩,⟨_,O,.boxL O ⟨.list O,ø⟩⟩,ø⟩,O⟩ (Gh [(6,.ptr 1012 0),(7,I64 0),(8,I64 4)] [(1012,.box 48 K0)] 1013 rfl rfl rfl ⟨⟨_,rfl,.boxEq rfl rfl⟩,ø⟩ rfl (by exact⟨.conv (.same rfl),.conv (.same rfl),.conv (.same rfl),ø⟩) (Gw ?_))
    exact⟨[.agg K0,I64 0,I64 4],[],ø,O,⟨⟨_,⟨_,_,_,_,O,O,O,.inl ⟨G20,O⟩⟩,.conv (.same O)⟩,⟨_,O,.conv (.same O)⟩,⟨_,O,.conv (.same O)⟩,ø⟩,O,congrArg (fun r:G60×Int×Int=>(.tup (Kb r):AV)) (Kz h)⟩
   ·
    refine Gn (e4 (G2 (JLh (I64 ((j+1:Nat):Int)) (Ht (H7 a1 (Z8 d8)) O O O) O (JLm (I64 ((j+1:Nat):Int)) O (G4 (h8 _ _ (j+1) (a++[k]) (app1 e3 h) (by omega) ⟨(.sm O O),⟨⟨_,rfl,.same⟩,fbQ O (.sm O O),fbQ O ⟨.same rfl,ø⟩,ø⟩,rfl⟩))))))
  ·
   have h:=app1 a8 (G42 a0 (Y8 hb))
   refine Hj (h5 (Jr fun f4=>(JLh (.fn 26 [.dptr (Gf.cs s),.dptr [E6 boxes]]) (Y4 (cs:=[.dptr (Gf.cs s),.dptr [E6 boxes]]) O O) O (JLh (.ptr 1014 0) (Hg 1014 1 Q17 O O) O (Hd (u:=.junk) (Gy (u:=.fn 26 [.dptr (Gf.cs s),.dptr [E6 boxes]]) (ds:=[.fn 26 [.dptr (Gf.cs s),.dptr [E6 boxes]]]) Q75 O O O O O O O O) (G4 (f4 ?_)))))))
   refine Rt (l':=[(5,.dptr [I64 calls]),(6,.ptr 1012 0),(9,.ptr 1013 0),(11,.ptr 1014 0)]) (L':=[(1012,.box 48 K0),(1013,.box 81 [LS 1 (LS 1 (E4)) a]),(1014,.box 87 [.fn 26 [.dptr (Gf.cs s),.dptr [E6 boxes]]])]) ⟨(.sm O O),⟨fbQ O (.sm O O),fbQ O ⟨.list rfl,ø⟩,fbQ O ⟨.same rfl,ø⟩,ø⟩,rfl⟩ ?_
   refine fzQ [(5,.dptr [I64 calls]),(6,.ptr 1012 0),(9,.dptr [LS 1 (LS 1 (E4)) a]),(11,.ptr 1014 0)] [(1012,.box 48 K0),(1014,.box 87 [.fn 26 [.dptr (Gf.cs s),.dptr [E6 boxes]]])] 1013 rfl rfl rfl ⟨⟨_,rfl,.boxEq rfl rfl⟩,⟨_,rfl,.boxEq rfl rfl⟩,ø⟩ rfl (fzQ [(5,.dptr [I64 calls]),(6,.ptr 1012 0),(9,.dptr [LS 1 (LS 1 (E4)) a]),(11,.dptr [.fn 26 [.dptr (Gf.cs s),.dptr [E6 boxes]]])] [(1012,.box 48 K0)] 1014 rfl rfl rfl ⟨⟨_,rfl,.boxEq rfl rfl⟩,ø⟩ rfl ?_)
   refine Jr fun f5=>(JLh (.mp 1018) (G32 1018 Gs.kv Gd.av O O) O (JLh (.ptr 1015 0) (Hg 1015 1 Q16 O O) O (Hd (u:=.junk) (Gy (u:=.mp 1018) (ds:=[.mp 1018]) Q74 O O O O O O O O) (G4 (f5 (Jr fun f6=>(JLh (.ptr 1016 0) (Hg 1016 1 Q15 O O) O (G4 (f6 ?_)))))))))
   refine Jr fun f7=>(JLh (.fn 30 [.ptr 1015 0,.dptr [I64 calls],.dptr [LS 1 (LS 1 (E4)) a],.dptr [.fn 26 [.dptr (Gf.cs s),.dptr [E6 boxes]]],.ptr 1016 0]) (Y4 (cs:=[.ptr 1015 0,.dptr [I64 calls],.dptr [LS 1 (LS 1 (E4)) a],.dptr [.fn 26 [.dptr (Gf.cs s),.dptr [E6 boxes]]],.ptr 1016 0]) O O) O (Hd (u:=.junk) (Gy (u:=.fn 30 [.ptr 1015 0,.dptr [I64 calls],.dptr [LS 1 (LS 1 (E4)) a],.dptr [.fn 26 [.dptr (Gf.cs s),.dptr [E6 boxes]]],.ptr 1016 0]) (ds:=[.fn 30 [.ptr 1015 0,.dptr [I64 calls],.dptr [LS 1 (LS 1 (E4)) a],.dptr [.fn 26 [.dptr (Gf.cs s),.dptr [E6 boxes]]],.ptr 1016 0]]) Q73 O O O O O O O O) (G4 (f7 (Jr fun f8=>(JLm (I64 0) O (G4 (f8 (Js fun f9=>?_)))))))))
   refine Jr fun g0=>(JLh (LS 1 (LS 1 (E4)) a) (Ge G12 O O O) O ?_)
   obtain⟨j1,t,g1,g2,h⟩:=Qc h
   refine JLh (.dptr [LS 1 (E4) t]) (H0 (f:=(LS 1 (E4))) (xs:=a) (y:=t) O O O G0d g2 g1) O (JLh (LS 1 (E4) t) (Ge Jv O O O) O (JLl Hv O O O fun g3=>(JLm (I64 0) O (G4 (g0 (Gi ?_))))))
   obtain⟨h9,g4,g5,a9,h⟩:=Hu h
   refine Hf (fun e (g:Int×(Gu Gs Gd))=>each h9 g4 (List.drop e t) e g=some r) (fun e g=>[(5,.dptr [I64 calls]),(6,.ptr 1012 0),(9,.dptr [LS 1 (LS 1 (E4)) a]),(13,.ptr 1016 0),(14,I64 g.1),(52,Ek t.length),(53,Ek e)]) (fun e g=>[(1018,MP 88 Gs.kv Gd.av g.2),(1012,.box 48 K0),(1015,.box 88 [.mp 1018]),(1016,.box 89 [.fn 30 [.ptr 1015 0,.dptr [I64 calls],.dptr [LS 1 (LS 1 (E4)) a],.dptr [.fn 26 [.dptr (Gf.cs s),.dptr [E6 boxes]]],.ptr 1016 0]])]) (fun e=>t.length - e) 0 (0,(Gu.empty:Gu Gs Gd)) h ⟨(.sm O O),⟨fmQ O,fbQ O (.sm O O),fbQ O ⟨.same rfl,ø⟩,fbQ O ⟨.same rfl,ø⟩,ø⟩,rfl⟩ ?_
   clear h
   intro e g a3 j2 i0
   refine Jr fun b0=>(JLh (BL (decide ((e:Int) < (t.length:Int)))) (J8 O O O) O (G4 (b0 (Js fun b1=>Gj O (fun hb=>?_) (fun hb=>?_)))))
   ·
    have a4:=Jh hb
    obtain⟨j3,i4,i5,g6,h⟩:=Hk a3 a4
    replace h:=Rh g5 h
    refine Gn (b1 ?_)
    obtain⟨b2,a5,h⟩:=Qr h
    refine Q0 (fun o:Int×(Gu Gs Gd)=>b2 o=some r) (fun o=>[(5,.dptr [I64 calls]),(6,.ptr 1012 0),(9,.dptr [LS 1 (LS 1 (E4)) a]),(13,.ptr 1016 0),(14,I64 o.1),(52,Ek t.length),(53,Ek e)]) (fun o=>[(1018,MP 88 Gs.kv Gd.av o.2),(1012,.box 48 K0),(1015,.box 88 [.mp 1018]),(1016,.box 89 [.fn 30 [.ptr 1015 0,.dptr [I64 calls],.dptr [LS 1 (LS 1 (E4)) a],.dptr [.fn 26 [.dptr (Gf.cs s),.dptr [E6 boxes]]],.ptr 1016 0]])]) (fun Kj102 ej102=>?_) ?_
    ·
     refine Gi (Jr fun b3=>(JLm (Ek e) O (JLm (Ek e) O (G4 (b3 (Js fun b4=>?_))))))
     refine Rt (l':=[(5,.dptr [I64 calls]),(6,.ptr 1012 0),(9,.dptr [LS 1 (LS 1 (E4)) a]),(13,.ptr 1016 0),(14,I64 g.1),(15,Ek e),(52,Ek t.length),(53,Ek e)]) (L':=[(1018,MP 88 Gs.kv Gd.av g.2),(1012,.box 48 K0),(1015,.box 88 [.mp 1018]),(1016,.box 89 [.fn 30 [.ptr 1015 0,.dptr [I64 calls],.dptr [LS 1 (LS 1 (E4)) a],.dptr [.fn 26 [.dptr (Gf.cs s),.dptr [E6 boxes]]],.ptr 1016 0]])]) ⟨(.sm O O),⟨fmQ O,fbQ O (.sm O O),fbQ O ⟨.same rfl,ø⟩,fbQ O ⟨.same rfl,ø⟩,ø⟩,rfl⟩ ?_
     obtain⟨m,b5,h⟩:=Gg h
     obtain⟨n,b6,h⟩:=Gg h
     refine Qy [2,6] [0,0,0,1,0,0,0,2,2] [0,0,0,2,1,1,0,2,2] [[(1018,MP 88 Gs.kv Gd.av g.2),(1012,.box 48 K0),(1015,.box 88 [.mp 1018]),(1016,.box 89 [.fn 30 [.ptr 1015 0,.dptr [I64 calls],.dptr [LS 1 (LS 1 (E4)) a],.dptr [.fn 26 [.dptr (Gf.cs s),.dptr [E6 boxes]]],.ptr 1016 0]])],((1018,MP 88 Gs.kv Gd.av m.2)::[(1018,MP 88 Gs.kv Gd.av g.2),(1012,.box 48 K0),(1015,.box 88 [.mp 1018]),(1016,.box 89 [.fn 30 [.ptr 1015 0,.dptr [I64 calls],.dptr [LS 1 (LS 1 (E4)) a],.dptr [.fn 26 [.dptr (Gf.cs s),.dptr [E6 boxes]]],.ptr 1016 0]])]),((1018,MP 88 Gs.kv Gd.av n.2)::((1018,MP 88 Gs.kv Gd.av m.2)::[(1018,MP 88 Gs.kv Gd.av g.2),(1012,.box 48 K0),(1015,.box 88 [.mp 1018]),(1016,.box 89 [.fn 30 [.ptr 1015 0,.dptr [I64 calls],.dptr [LS 1 (LS 1 (E4)) a],.dptr [.fn 26 [.dptr (Gf.cs s),.dptr [E6 boxes]]],.ptr 1016 0]])]))] Q7 (by kernel_rfl) rfl rfl ?_
     refine Gq (u:=.fn 30 [.ptr 1015 0,.dptr [I64 calls],.dptr [LS 1 (LS 1 (E4)) a],.dptr [.fn 26 [.dptr (Gf.cs s),.dptr [E6 boxes]]],.ptr 1016 0]) O O ⟨Gr (Jg G34 O O O O) O,ø⟩ (Gq (u:=Ek e) O O ⟨Gr (G5 O O) O,ø⟩ (D_w (u:=.agg [I64 m.1.restows,I64 m.1.next]) O O O O (Z2.locEq (Gr (G7c (args:=[I64 0,Ek e]) (caps:=[.ptr 1015 0,.dptr [I64 calls],.dptr [LS 1 (LS 1 (E4)) a],.dptr [.fn 26 [.dptr (Gf.cs s),.dptr [E6 boxes]]],.ptr 1016 0]) (L0:=[(1015,.box 88 [.mp 1018]),(1018,MP 88 Gs.kv Gd.av g.2),(1016,.box 89 [.fn 30 [.ptr 1015 0,.dptr [I64 calls],.dptr [LS 1 (LS 1 (E4)) a],.dptr [.fn 26 [.dptr (Gf.cs s),.dptr [E6 boxes]]],.ptr 1016 0]])]) (Lr:=[(1015,.box 88 [.mp 1018]),(1018,MP 88 Gs.kv Gd.av m.2),(1016,.box 89 [.fn 30 [.ptr 1015 0,.dptr [I64 calls],.dptr [LS 1 (LS 1 (E4)) a],.dptr [.fn 26 [.dptr (Gf.cs s),.dptr [E6 boxes]]],.ptr 1016 0]])]) O O (G15 F 0 (e:Int) g.2 calls a (fun z0 z1=>Jp F z0 z1 s boxes) 26 [.dptr (Gf.cs s),.dptr [E6 boxes]] H20 O (fun z0 z1 q hq=>G16 F z0 z1 s boxes q hq) m b5) Gcc ⟨.inl O,O,.inl O,O,ø⟩ O ⟨O,O,O,ø⟩ O O O) O) (G5f.of [1018,1012,1015,1016] O O ⟨O,O,O,O,ø⟩)) (Gq (u:=I64 m.1.restows) O O ⟨Gr (H16 Gc9 O O O) O,Gr (H16 Gc9 O O O) O,ø⟩ (Gq (u:=.fn 30 [.ptr 1015 0,.dptr [I64 calls],.dptr [LS 1 (LS 1 (E4)) a],.dptr [.fn 26 [.dptr (Gf.cs s),.dptr [E6 boxes]]],.ptr 1016 0]) O O ⟨Gr (Jg G34 O O O O) O,Gr (Jg G34 O O O O) O,ø⟩ (Gq (u:=I64 g.1) O O ⟨Gr (G5 O O) O,Gr (G5 O O) O,ø⟩ (D_w (u:=.agg [I64 n.1.restows,I64 n.1.next]) O O O O (Z2.locEq (Gr (G7c (args:=[I64 0,I64 g.1]) (caps:=[.ptr 1015 0,.dptr [I64 calls],.dptr [LS 1 (LS 1 (E4)) a],.dptr [.fn 26 [.dptr (Gf.cs s),.dptr [E6 boxes]]],.ptr 1016 0]) (L0:=[(1015,.box 88 [.mp 1018]),(1018,MP 88 Gs.kv Gd.av m.2),(1016,.box 89 [.fn 30 [.ptr 1015 0,.dptr [I64 calls],.dptr [LS 1 (LS 1 (E4)) a],.dptr [.fn 26 [.dptr (Gf.cs s),.dptr [E6 boxes]]],.ptr 1016 0]])]) (Lr:=[(1015,.box 88 [.mp 1018]),(1018,MP 88 Gs.kv Gd.av n.2),(1016,.box 89 [.fn 30 [.ptr 1015 0,.dptr [I64 calls],.dptr [LS 1 (LS 1 (E4)) a],.dptr [.fn 26 [.dptr (Gf.cs s),.dptr [E6 boxes]]],.ptr 1016 0]])]) O O (G15 F 0 g.1 m.2 calls a (fun z0 z1=>Jp F z0 z1 s boxes) 26 [.dptr (Gf.cs s),.dptr [E6 boxes]] H20 O (fun z0 z1 q hq=>G16 F z0 z1 s boxes q hq) n b6) Gcc ⟨.inl O,O,.inl O,O,ø⟩ O ⟨O,O,O,ø⟩ O O O) O) (G5f.of [1018,1012,1015,1016] O O ⟨O,O,O,O,ø⟩)) (Gq (u:=I64 n.1.restows) O O ⟨Gr (H16 Gc9 O O O) O,ø⟩ (Gq (u:=BL (decide (m.1.restows < n.1.restows))) O O ⟨Gr (J8 O O O) O,ø⟩ (Zs ?_)))))))))
     refine b4 (JCc O h (fun h hb=>?_) (fun h hb=>?_))
     ·
      refine G2 (JLm (Ek e) O (JLm (Ek e) O (G4 (ej102 _ _ ((e:Int),n.2) h ⟨(.sm O O),⟨fmQ O,fbQ O (.sm O O),fbQ O ⟨.same rfl,ø⟩,fbQ O ⟨.same rfl,ø⟩,ø⟩,rfl⟩))))
     ·
      refine Gn (ej102 _ _ (g.1,n.2) h ⟨(.sm O O),⟨fmQ O,fbQ O (.sm O O),fbQ O ⟨.same rfl,ø⟩,fbQ O ⟨.same rfl,ø⟩,ø⟩,rfl⟩)
    ·intro o h
     replace h:=app1 a5 h
     refine G2 (JLh (I64 ((e+1:Nat):Int)) (Ht (H7 a4 g3) O O O) O (JLm (I64 ((e+1:Nat):Int)) O (G4 (i0 _ _ (e+1) (o.1,o.2) (app1 g6 h) (by omega) ⟨(.sm O O),⟨fmQ O,fbQ O (.sm O O),fbQ O ⟨.same rfl,ø⟩,fbQ O ⟨.same rfl,ø⟩,ø⟩,rfl⟩))))
   ·
    have h:=app1 a9 (Hm a3 (H6 hb))
    refine Hj (f9 (Jr fun b7=>(JLh (.fn 30 [.ptr 1015 0,.dptr [I64 calls],.dptr [LS 1 (LS 1 (E4)) a],.dptr [.fn 26 [.dptr (Gf.cs s),.dptr [E6 boxes]]],.ptr 1016 0]) (Jg G34 O O O O) O (JLm (I64 g.1) O ?_))))
    obtain⟨l,b8,h⟩:=Gg h
    refine JLh (.agg [I64 l.1.restows,I64 l.1.next]) (G7c (args:=[I64 0,I64 g.1]) (caps:=[.ptr 1015 0,.dptr [I64 calls],.dptr [LS 1 (LS 1 (E4)) a],.dptr [.fn 26 [.dptr (Gf.cs s),.dptr [E6 boxes]]],.ptr 1016 0]) (L0:=[(1015,.box 88 [.mp 1018]),(1018,MP 88 Gs.kv Gd.av g.2),(1016,.box 89 [.fn 30 [.ptr 1015 0,.dptr [I64 calls],.dptr [LS 1 (LS 1 (E4)) a],.dptr [.fn 26 [.dptr (Gf.cs s),.dptr [E6 boxes]]],.ptr 1016 0]])]) (Lr:=[(1015,.box 88 [.mp 1018]),(1018,MP 88 Gs.kv Gd.av l.2),(1016,.box 89 [.fn 30 [.ptr 1015 0,.dptr [I64 calls],.dptr [LS 1 (LS 1 (E4)) a],.dptr [.fn 26 [.dptr (Gf.cs s),.dptr [E6 boxes]]],.ptr 1016 0]])]) O O (G15 F 0 g.1 g.2 calls a (fun z0 z1=>Jp F z0 z1 s boxes) 26 [.dptr (Gf.cs s),.dptr [E6 boxes]] H20 O (fun z0 z1 q hq=>G16 F z0 z1 s boxes q hq) l b8) Gcc ⟨.inl O,O,.inl O,O,ø⟩ O ⟨O,O,O,ø⟩ O O O) O (JLh (I64 l.1.restows) (H16 Gc9 O O O) O (JLm (I64 l.1.restows) O (G4 (b7 ?_))))
    refine Jr fun b9=>(JLh (.ptr 1017 0) (Ru 1017 [.sc (.slice none 0 0),LS 1 (E5) ([]:List (List Int))] [.slice none 0 0,.slice none 0 0] G0f ⟨.inl O,.inr ⟨_,O,O⟩,ø⟩ O O) O (G8d 1017 0 1020 59 1 O O O (cs':=[OW 1020 1 (E4) ([]:List (List G1)),LS 1 (E5) ([]:List (List Int))]) O (G4 (b9 (Js fun c0=>Jr fun c1=>(JLh (I64 calls) (Ge G9 O O O) O (JLm (I64 0) O (G4 (c1 (Gi ?_))))))))))
    obtain⟨c2,h⟩:=Hw h
    obtain⟨g7,c3,c4,a6,h⟩:=G90 h
    refine Hf (fun d (c:Int×(List (List G1))×(List (List Int))×(Gu Gs Gd))=>upto g7 c3 (calls.toNat - d) d c=some r) (fun d c=>[(6,.ptr 1012 0),(9,.dptr [LS 1 (LS 1 (E4)) a]),(13,.ptr 1016 0),(14,I64 c.1),(16,I64 l.1.restows),(17,.ptr 1017 0),(71,I64 calls),(72,Ek d)]) (fun d c=>[(1018,MP 88 Gs.kv Gd.av c.2.2.2),(1020,.spare 59 1 c.2.1.length c.2.1.length),(1012,.box 48 K0),(1015,.box 88 [.mp 1018]),(1016,.box 89 [.fn 30 [.ptr 1015 0,.dptr [I64 calls],.dptr [LS 1 (LS 1 (E4)) a],.dptr [.fn 26 [.dptr (Gf.cs s),.dptr [E6 boxes]]],.ptr 1016 0]]),(1017,.box 48 (Ka c))]) (fun d=>calls.toNat - d) 0 (g.1,[],[],l.2) h ⟨(.sm O O),⟨fmQ O,⟨_,rfl,.same⟩,fbQ O (.sm O O),fbQ O ⟨.same rfl,ø⟩,fbQ O ⟨.same rfl,ø⟩,fbQ O (.sm O O),ø⟩,rfl⟩ ?_
    clear h
    intro d c x i6 g8
    refine Jr fun c5=>(JLh (BL (decide ((d:Int) < calls))) (J8 O O O) O (G4 (c5 (Js fun c6=>Gj O (fun hb=>?_) (fun hb=>?_)))))
    ·
     have z:=G46 hb
     obtain⟨i1,c7,h⟩:=G41 x z
     replace h:=Hef c4 h
     refine Gn (c6 (Js fun c8=>Gi (Jr fun c9=>(JLm (Ek d) O (JLm (Ek d) O (G4 (c9 (Js fun d0=>?_))))))))
     refine Rt (l':=[(6,.ptr 1012 0),(9,.dptr [LS 1 (LS 1 (E4)) a]),(13,.ptr 1016 0),(14,I64 c.1),(16,I64 l.1.restows),(17,.ptr 1017 0),(18,Ek d),(71,I64 calls),(72,Ek d)]) (L':=[(1018,MP 88 Gs.kv Gd.av c.2.2.2),(1020,.spare 59 1 c.2.1.length c.2.1.length),(1012,.box 48 K0),(1015,.box 88 [.mp 1018]),(1016,.box 89 [.fn 30 [.ptr 1015 0,.dptr [I64 calls],.dptr [LS 1 (LS 1 (E4)) a],.dptr [.fn 26 [.dptr (Gf.cs s),.dptr [E6 boxes]]],.ptr 1016 0]]),(1017,.box 48 (Ka c))]) ⟨(.sm O O),⟨fmQ O,⟨_,rfl,.same⟩,fbQ O (.sm O O),fbQ O ⟨.same rfl,ø⟩,fbQ O ⟨.same rfl,ø⟩,fbQ O (.sm O O),ø⟩,rfl⟩ ?_
     obtain⟨i7,v,d1,d2,h⟩:=Qc h
     obtain⟨i8,i,d3,d4,h⟩:=Qc h
     obtain⟨d5,h⟩:=Hw h
     refine Qy [10,12] [0,0,0,0,0,0,0,0,0,0,0,1,0] [0,0,0,0,0,0,0,0,0,0,0,1,0] [[(1018,MP 88 Gs.kv Gd.av c.2.2.2),(1020,.spare 59 1 c.2.1.length c.2.1.length),(1012,.box 48 K0),(1015,.box 88 [.mp 1018]),(1016,.box 89 [.fn 30 [.ptr 1015 0,.dptr [I64 calls],.dptr [LS 1 (LS 1 (E4)) a],.dptr [.fn 26 [.dptr (Gf.cs s),.dptr [E6 boxes]]],.ptr 1016 0]]),(1017,.box 48 (Ka c))],((1020,.spare 59 1 (c.2.1++[i]).length (c.2.1++[i]).length)::[(1018,MP 88 Gs.kv Gd.av c.2.2.2),(1020,.spare 59 1 c.2.1.length c.2.1.length),(1012,.box 48 K0),(1015,.box 88 [.mp 1018]),(1016,.box 89 [.fn 30 [.ptr 1015 0,.dptr [I64 calls],.dptr [LS 1 (LS 1 (E4)) a],.dptr [.fn 26 [.dptr (Gf.cs s),.dptr [E6 boxes]]],.ptr 1016 0]]),(1017,.box 48 (Ka c))]),((1017,.box 48 [OW 1020 1 (E4) (c.2.1++[i]),LS 1 (E5) c.2.2.1])::((1020,.spare 59 1 (c.2.1++[i]).length (c.2.1++[i]).length)::[(1018,MP 88 Gs.kv Gd.av c.2.2.2),(1020,.spare 59 1 c.2.1.length c.2.1.length),(1012,.box 48 K0),(1015,.box 88 [.mp 1018]),(1016,.box 89 [.fn 30 [.ptr 1015 0,.dptr [I64 calls],.dptr [LS 1 (LS 1 (E4)) a],.dptr [.fn 26 [.dptr (Gf.cs s),.dptr [E6 boxes]]],.ptr 1016 0]]),(1017,.box 48 (Ka c))]))] Q7 (by kernel_rfl) rfl rfl ?_
     refine Gq (u:=.ptr 1017 0) O O ⟨Gr (J5 Yt O O) O,ø⟩ (Gq (u:=OW 1020 1 (E4) c.2.1) O O ⟨Gr (Jg Jv O O O O) O,ø⟩ (Gq (u:=LS 1 (LS 1 (E4)) a) O O ⟨Gr (Ge G12 O O O) O,ø⟩ (Gq (u:=Ek d) O O ⟨Gr (G5 O O) O,ø⟩ (Gq (u:=.dptr [LS 1 (E4) v]) O O ⟨Gr (H0 (f:=(LS 1 (E4))) (xs:=a) (y:=v) O O O G0d d2 d1) O,ø⟩ (Gq (u:=LS 1 (E4) v) O O ⟨Gr (Ge Jv O O O) O,ø⟩ (Gq (u:=I64 c.1) O O ⟨Gr (G5 O O) O,ø⟩ (Gq (u:=.dptr [E4 i]) O O ⟨Gr (H0 (f:=(E4)) (xs:=v) (y:=i) O O O Hv d4 d3) O,ø⟩ (Gq (u:=E4 i) O O ⟨Gr (Ge Rn O O O) O,ø⟩ (Gq (u:=LS 1 (E4) [i]) O O ⟨Gr (He (xs:=[E4 i]) O ⟨O,O,ø⟩ Hv G9c O O O O) O,ø⟩ (D_w (u:=OW 1020 1 (E4) (c.2.1++[i])) O O O O (Gr (Qt (f:=(E4)) (xs:=c.2.1) (ys:=[i]) O O O O Hv H1f d5 (fun _=>O) (.inl O) O) O) (Gq (u:=.ptr 1017 0) O O ⟨Gr (J5 Yt O O) O,ø⟩ (J2d (u:=.junk) O O O O (Gr (Gy (u:=OW 1020 1 (E4) (c.2.1++[i])) (ds:=[OW 1020 1 (E4) (c.2.1++[i]),LS 1 (E5) c.2.2.1]) H1c O O O O O O O O) O) (Zs ?_)))))))))))))
     refine d0 (G2 (JLh (.fn 30 [.ptr 1015 0,.dptr [I64 calls],.dptr [LS 1 (LS 1 (E4)) a],.dptr [.fn 26 [.dptr (Gf.cs s),.dptr [E6 boxes]]],.ptr 1016 0]) (Jg G34 O O O O) O (JLm (Ek d) O (JLm (I64 c.1) O ?_))))
     obtain⟨p,d6,h⟩:=Gg h
     refine JLh (.agg [I64 p.1.restows,I64 p.1.next]) (G7c (args:=[Ek d,I64 c.1]) (caps:=[.ptr 1015 0,.dptr [I64 calls],.dptr [LS 1 (LS 1 (E4)) a],.dptr [.fn 26 [.dptr (Gf.cs s),.dptr [E6 boxes]]],.ptr 1016 0]) (L0:=[(1015,.box 88 [.mp 1018]),(1018,MP 88 Gs.kv Gd.av c.2.2.2),(1016,.box 89 [.fn 30 [.ptr 1015 0,.dptr [I64 calls],.dptr [LS 1 (LS 1 (E4)) a],.dptr [.fn 26 [.dptr (Gf.cs s),.dptr [E6 boxes]]],.ptr 1016 0]])]) (Lr:=[(1015,.box 88 [.mp 1018]),(1018,MP 88 Gs.kv Gd.av p.2),(1016,.box 89 [.fn 30 [.ptr 1015 0,.dptr [I64 calls],.dptr [LS 1 (LS 1 (E4)) a],.dptr [.fn 26 [.dptr (Gf.cs s),.dptr [E6 boxes]]],.ptr 1016 0]])]) O O (G15 F (d:Int) c.1 c.2.2.2 calls a (fun z0 z1=>Jp F z0 z1 s boxes) 26 [.dptr (Gf.cs s),.dptr [E6 boxes]] H20 O (fun z0 z1 q hq=>G16 F z0 z1 s boxes q hq) p d6) Gcc ⟨.inl O,O,.inl O,O,ø⟩ O ⟨O,O,O,ø⟩ O O O) O (JLh (I64 p.1.next) (H16 Q79 O O O) O (JLm (I64 p.1.next) O (G4 (c8 ?_))))
     refine G2 (JLh (I64 ((d+1:Nat):Int)) (Ht (H7 z (Z8 c2)) O O O) O (JLm (I64 ((d+1:Nat):Int)) O (G4 (g8 _ _ (d+1) (p.1.next,(c.2.1++[i]),c.2.2.1,p.2) (app1 c7 h) (by omega) ⟨(.sm O O),⟨fmQ O,⟨_,rfl,.same⟩,fbQ O (.sm O O),fbQ O ⟨.same rfl,ø⟩,fbQ O ⟨.same rfl,ø⟩,fbQ O (.sm O O),ø⟩,rfl⟩))))
    ·
     have h:=app1 a6 (G42 x (Y8 hb))
     refine Hj (c0 (Jr fun d7=>(JLh (.agg (Ka c)) (G01 G20 O O O O) O (JLm (I64 l.1.restows) O (Hd (u:=.junk) (Gy (u:=.agg (Ka c)) (ds:=(Ka c)) Yz O O O O O O O O) (JLm (I64 l.1.restows) O (JLm (I64 0) O (G4 (d7 (Gw ?_))))))))))
     exact⟨[.agg [LS 1 (E4) c.2.1,LS 1 (E5) c.2.2.1],I64 l.1.restows,I64 0],[],ø,O,⟨⟨_,⟨_,_,_,_,O,O,O,.inl ⟨G20,O⟩⟩,.agg ⟨.list O,.same O,ø⟩⟩,⟨_,O,.conv (.same O)⟩,⟨_,O,.conv (.same O)⟩,ø⟩,O,congrArg (fun r:G60×Int×Int=>(.tup (Kb r):AV)) (Kz h)⟩
end
end Go.Proofs.YtibhpogonkdiaaaGreat
