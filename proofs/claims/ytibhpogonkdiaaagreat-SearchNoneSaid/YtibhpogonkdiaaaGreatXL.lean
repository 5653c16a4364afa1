/- Walks of functions. -/
import Derived.Test.YtibhpogonkdiaaaGreatXLa
set_option linter.unnecessarySimpa false
set_option maxRecDepth 100000
set_option maxHeartbeats 1000000
set_option linter.unusedVariables false
set_option linter.unusedSimpArgs false
namespace Go.Proofs.YtibhpogonkdiaaaGreat
open Go.RowKit
noncomputable section
open XAF
open XCF
open XFF
open XSF
open XLF

def Hp (F:Nat) (s:Gb) (boxes:List Box) (calls:Int):Option (G5b×Int×Int):=
 bnd (Jo s boxes calls) fun w=>
 bif (!w) then
 (some ((G5b.mk [] []),0,5))
 else
 (need (decide (calls≤9223372036854775807)) <|
  upto (fun n (b:(List (List (List G1)))) p=>
   bnd (Ry boxes (n:Int)) fun t=>
   bnd (Q7 F s boxes t) fun f=>
   need (decide ((b.length+[f].length)*24≤140737488355328∧b.length+[f].length≤maxLen)) <|
   Q4 (b++[f]) (n:Int) fun u=>
   bif decide ((u.length:Int)=0) then
   (some ((G5b.mk [] []),0,4))
   else
   (p (b++[f])))
  (fun(b:(List (List (List G1))))=>
   Q4 b 0 fun v=>
   each (fun x o (c:Int×(Gt Gx Ge)) q=>
    jp (fun g=>
     bnd (Qi F 0 (o:Int) c.2 calls b (fun z0 z1=>J2 F z0 z1 s boxes)) fun h=>
     bnd (Qi F 0 c.1 h.2 calls b (fun z0 z1=>J2 F z0 z1 s boxes)) fun d=>
     bif decide (h.1.restows < d.1.restows) then
     (g ((o:Int),d.2))
     else
     (g (c.1,d.2))) fun(i:Int×(Gt Gx Ge))=>
    q (i.1,i.2))
   (fun(c:Int×(Gt Gx Ge))=>
    bnd (Qi F 0 c.1 c.2 calls b (fun z0 z1=>J2 F z0 z1 s boxes)) fun j=>
    need (decide (calls≤9223372036854775807)) <|
    upto (fun k (a:Int×(List (List G1))×(List (List Int))×(Gt Gx Ge)) m=>
     Q4 b (k:Int) fun r=>
     Q4 r a.1 fun e=>
     need (decide ((a.2.1.length+[e].length)*24≤140737488355328∧a.2.1.length+[e].length≤maxLen)) <|
     bnd (Qi F (k:Int) a.1 a.2.2.2 calls b (fun z0 z1=>J2 F z0 z1 s boxes)) fun l=>
     m (l.1.next,(a.2.1++[e]),a.2.2.1,l.2))
    (fun(a:Int×(List (List G1))×(List (List Int))×(Gt Gx Ge))=>
     some ((G5b.mk a.2.1 a.2.2.1),j.1.restows,0)) calls.toNat 0 (c.1,[],[],j.2)) v 0 (0,(Gt.empty:Gt Gx Ge))) calls.toNat 0 [])
abbrev Ka:List AV:=[LS 1 (E4) ([]:List (List G1)),LS 1 (E5) ([]:List (List Int))]
abbrev Kb (a:Int×(List (List G1))×(List (List Int))×(Gt Gx Ge)):List AV:=[OW 1037 1 (E4) a.2.1,LS 1 (E5) a.2.2.1]
abbrev Kc (r:G5b×Int×Int):List AV:=[.agg [LS 1 (E4) r.1.States,LS 1 (E5) r.1.Water],I64 r.2.1,I64 r.2.2]
theorem Jy (F:Nat) (s:Gb) (boxes:List Box) (calls:Int) (r:G5b×Int×Int) (h:Hp F s boxes calls=some r):Pure En 9 [.agg (Gb.cs s),E6 boxes,I64 calls] (·=.tup [.agg [LS 1 (E4) r.1.States,LS 1 (E5) r.1.Water],I64 r.2.1,I64 r.2.2]):=by
 unfold Hp at h
 refine Ha [.cell 6 48,.tmp 7,.tmp 8] Tryz.func9 O O (Jr fun g9=>(JLh (.ptr 1026 0) (Q5 (cs:=(Gb.cs s)) 1026 O O O O O) O (JLh (.ptr 1027 0) (Q5 (cs:=[E6 boxes]) 1027 O O O O O) O (JLh (.ptr 1028 0) (Q5 (cs:=[I64 calls]) 1028 O O O O O) O (JLh (.ptr 1029 0) (Yc 1029 Ka [.slice none 0 0,.slice none 0 0] G38 ⟨.inr ⟨_,O,O⟩,.inr ⟨_,O,O⟩,ø⟩ O O) O (JLm (I64 0) O (JLm (I64 0) O (G6 (g9 ?_)))))))))
 refine fzQ [(3,Ef s),(4,.ptr 1027 0),(5,.ptr 1028 0),(6,.ptr 1029 0)] [(1027,.box 38 [E6 boxes]),(1028,.box 3 [I64 calls]),(1029,.box 48 Ka)] 1026 rfl rfl rfl ⟨⟨_,rfl,.boxEq rfl rfl⟩,⟨_,rfl,.boxEq rfl rfl⟩,⟨_,rfl,.boxEq rfl rfl⟩,ø⟩ rfl (fzQ [(3,Ef s),(4,.dptr [E6 boxes]),(5,.ptr 1028 0),(6,.ptr 1029 0)] [(1028,.box 3 [I64 calls]),(1029,.box 48 Ka)] 1027 rfl rfl rfl ⟨⟨_,rfl,.boxEq rfl rfl⟩,⟨_,rfl,.boxEq rfl rfl⟩,ø⟩ rfl ?_)
 refine fzQ [(3,Ef s),(4,.dptr [E6 boxes]),(5,.dptr [I64 calls]),(6,.ptr 1029 0)] [(1029,.box 48 Ka)] 1028 rfl rfl rfl ⟨⟨_,rfl,.boxEq rfl rfl⟩,ø⟩ rfl (Js fun h0=>Jr fun h1=>(JLh (.agg (Gb.cs s)) (Gg Hn O O O) O (JLh (E6 boxes) (Gf G9b O O O) O (JLh (I64 calls) (Gf G9 O O O) O ?_))))
 obtain⟨r4,h2,h⟩:=Gh h
 refine JLh (BL r4) (H3 O (Gc8 s boxes calls r4 h2) Hd9 ⟨O,O,O,O,O,O,ø⟩) O (JLh (BL (!r4)) (G1f (b:=r4) O O) O (G6 (h1 (JCc O h (fun h hb=>?_) (fun h hb=>?_)))))
 ·
  refine Jr fun h3=>(JLh (.agg Ka) (Ja (cs:=Ka) [(0,1),(1,1)] Ka [.slice none 0 0,.slice none 0 0] Gf5 G38 ⟨.inr ⟨_,O,O⟩,.inr ⟨_,O,O⟩,ø⟩ O O) O (Hb (u:=.junk) (H0 (u:=.agg Ka) (ds:=Ka) Qv O O O O O O O O) (JLm (I64 0) O (JLm (I64 5) O (G6 (h3 (H2 ?_)))))))
  exact⟨[.agg Ka,I64 0,I64 5],[],ø,O,⟨⟨_,⟨_,_,_,_,O,O,O,.inl ⟨G4b,O⟩⟩,.conv (.same O)⟩,⟨_,O,.conv (.same O)⟩,⟨_,O,.conv (.same O)⟩,ø⟩,O,congrArg (fun r:G5b×Int×Int=>(.tup (Kc r):AV)) (Ky h)⟩
 ·
  refine Gp (h0 (Jr fun h4=>(JLh (.ptr 1030 0) (Yc 1030 [.sc (.slice none 0 0)] [.slice none 0 0] Qe6 ⟨.inl O,ø⟩ O O) O (G8c 1030 0 1036 42 1 O O O (cs':=[OW 1036 1 (LS 1 (E4)) ([]:List (List (List G1)))]) O (G6 (h4 (Js fun h5=>Jr fun h6=>(JLh (I64 calls) (Gf G9 O O O) O (JLm (I64 0) O (G6 (h6 (Gk ?_))))))))))))
  obtain⟨d8,h⟩:=J9 h
  obtain⟨h7,d9,e0,a8,h⟩:=Gcc h
  refine Hk (fun j (a:(List (List (List G1))))=>upto h7 d9 (calls.toNat - j) j a=some r) (fun j a=>[(3,Ef s),(4,.dptr [E6 boxes]),(5,.dptr [I64 calls]),(6,.ptr 1029 0),(9,.ptr 1030 0),(25,I64 calls),(26,Em j)]) (fun j a=>[(1036,.spare 42 1 a.length a.length),(1029,.box 48 Ka),(1030,.box 81 [OW 1036 1 (LS 1 (E4)) a])]) (fun j=>calls.toNat - j) 0 [] h ⟨(.sm O O),⟨⟨_,rfl,.same⟩,fbQ O (.sm O O),fbQ O ⟨.same rfl,ø⟩,ø⟩,rfl⟩ ?_
  clear h
  intro j a a0 i9 h8
  refine Jr fun e1=>(JLh (BL (decide ((j:Int) < calls))) (Jf O O O) O (G6 (e1 (Js fun e2=>Gn O (fun hb=>?_) (fun hb=>?_)))))
  ·
   have a1:=G76 hb
   obtain⟨i2,e3,h⟩:=G70 a0 a1
   replace h:=J3f e0 h
   refine Gp (e2 (Js fun e4=>Gk (Jr fun e5=>(JLm (Em j) O (JLm (Em j) O (G6 (e5 (Js fun e6=>Ye (l':=[(3,Ef s),(4,.dptr [E6 boxes]),(5,.dptr [I64 calls]),(6,.ptr 1029 0),(9,.ptr 1030 0),(10,Em j),(25,I64 calls),(26,Em j)]) (L':=[(1036,.spare 42 1 a.length a.length),(1029,.box 48 Ka),(1030,.box 81 [OW 1036 1 (LS 1 (E4)) a])]) ⟨(.sm O O),⟨⟨_,rfl,.same⟩,fbQ O (.sm O O),fbQ O ⟨.same rfl,ø⟩,ø⟩,rfl⟩ ?_))))))))
   obtain⟨a2,e7,h⟩:=Gh h
   obtain⟨k,e8,h⟩:=Gh h
   obtain⟨e9,h⟩:=J9 h
   refine R4 [8,9] [0,0,0,0,0,0,0,0,0,0] [0,0,0,0,0,0,0,0,0,0] [[(1036,.spare 42 1 a.length a.length),(1029,.box 48 Ka),(1030,.box 81 [OW 1036 1 (LS 1 (E4)) a])],((1036,.spare 42 1 (a++[k]).length (a++[k]).length)::[(1036,.spare 42 1 a.length a.length),(1029,.box 48 Ka),(1030,.box 81 [OW 1036 1 (LS 1 (E4)) a])]),((1030,.box 81 [OW 1036 1 (LS 1 (E4)) (a++[k])])::((1036,.spare 42 1 (a++[k]).length (a++[k]).length)::[(1036,.spare 42 1 a.length a.length),(1029,.box 48 Ka),(1030,.box 81 [OW 1036 1 (LS 1 (E4)) a])]))] Q3 (by kernel_rfl) rfl rfl ?_
   refine Gr (u:=OW 1036 1 (LS 1 (E4)) a) O O ⟨Gm (Jm G3c O O O O) O,ø⟩ (Gr (u:=.agg (Gb.cs s)) O O ⟨Gm (Gg Hn O O O) O,ø⟩ (Gr (u:=E6 boxes) O O ⟨Gm (Gf G9b O O O) O,ø⟩ (Gr (u:=E6 boxes) O O ⟨Gm (Gf G9b O O O) O,ø⟩ (Gr (u:=Em j) O O ⟨Gm (G5 O O) O,ø⟩ (Gr (u:=E5 a2) O O ⟨Gm (H3 O (H75 boxes (j:Int) a2 e7) Jaa ⟨O,O,O,O,ø⟩) O,ø⟩ (Gr (u:=LS 1 (E4) k) O O ⟨Gm (H3 O (H2f F s boxes a2 k e8) Jab ⟨O,O,O,O,O,O,ø⟩) O,ø⟩ (Gr (u:=LS 1 (LS 1 (E4)) [k]) O O ⟨Gm (H7 (xs:=[LS 1 (E4) k]) O ⟨O,O,ø⟩ G34 J4e O O O O) O,ø⟩ (D_w (u:=OW 1036 1 (LS 1 (E4)) (a++[k])) O O O O (Gm (R0 (f:=(LS 1 (E4))) (xs:=a) (ys:=[k]) O O O O G34 Qf3 e9 (fun _=>O) (.inl O) O) O) (Ha7 (u:=.junk) O O O O (Gm (H0 (u:=OW 1036 1 (LS 1 (E4)) (a++[k])) (ds:=[OW 1036 1 (LS 1 (E4)) (a++[k])]) Qee O O O O O O O O) O) (Zg ?_))))))))))
   refine e6 (Jr fun f0=>(JLh (OW 1036 1 (LS 1 (E4)) (a++[k])) (Jm G3c O O O O) O (JLm (Em j) O ?_)))
   obtain⟨j0,w,f1,f2,h⟩:=Qx h
   refine JLh (.dptr [LS 1 (E4) w]) (H4 (f:=(LS 1 (E4))) (xs:=(a++[k])) (y:=w) O O O G34 f2 f1) O (JLh (LS 1 (E4) w) (Gf Q1 O O O) O (JLl J8 O O O fun i3=>(JLh (BL (decide ((w.length:Int)=0))) (Q6 O O O) O (G6 (f0 (JCc O h (fun h hb=>?_) (fun h hb=>?_)))))))
   ·
    refine Jr fun f3=>(JLh (.agg Ka) (Ja (cs:=Ka) [(0,1),(1,1)] Ka [.slice none 0 0,.slice none 0 0] Gf5 G38 ⟨.inr ⟨_,O,O⟩,.inr ⟨_,O,O⟩,ø⟩ O O) O (Hb (u:=.junk) (H0 (u:=.agg Ka) (ds:=Ka) Qv O O O O O O O O) (JLm (I64 0) O (JLm (I64 4) O (G6 (f3 ?_))))))
    refine Ye (l':=[(6,.ptr 1029 0),(7,I64 0),(8,I64 4)]) (L':=[(1029,.box 48 Ka),(1030,.box 81 [LS 1 (LS 1 (E4)) (a++[k])])]) ⟨(.sm O O),⟨⟨_,O,.boxL O (.sm O O)⟩,⟨_,O,.boxL O ⟨.list O,ø⟩⟩,ø⟩,O⟩ (Gj [(6,.ptr 1029 0),(7,I64 0),(8,I64 4)] [(1029,.box 48 Ka)] 1030 rfl rfl rfl ⟨⟨_,rfl,.boxEq rfl rfl⟩,ø⟩ rfl (by exact⟨.conv (.same rfl),.conv (.same rfl),.conv (.same rfl),ø⟩) (H2 ?_))
    exact⟨[.agg Ka,I64 0,I64 4],[],ø,O,⟨⟨_,⟨_,_,_,_,O,O,O,.inl ⟨G4b,O⟩⟩,.conv (.same O)⟩,⟨_,O,.conv (.same O)⟩,⟨_,O,.conv (.same O)⟩,ø⟩,O,congrArg (fun r:G5b×Int×Int=>(.tup (Kc r):AV)) (Ky h)⟩
   ·
    refine Gp (e4 (G2 (JLh (I64 ((j+1:Nat):Int)) (Hz (He a1 (G0c d8)) O O O) O (JLm (I64 ((j+1:Nat):Int)) O (G6 (h8 _ _ (j+1) (a++[k]) (app1 e3 h) (by omega) ⟨(.sm O O),⟨⟨_,rfl,.same⟩,fbQ O (.sm O O),fbQ O ⟨.same rfl,ø⟩,ø⟩,rfl⟩))))))
  ·
   have h:=app1 a8 (G71 a0 (Z8 hb))
   refine Hr (h5 (Jr fun f4=>(JLh (.fn 26 [.dptr (Gb.cs s),.dptr [E6 boxes]]) (Z5 (cs:=[.dptr (Gb.cs s),.dptr [E6 boxes]]) O O) O (JLh (.ptr 1031 0) (Hc 1031 1 Q87 O O) O (Hb (u:=.junk) (H0 (u:=.fn 26 [.dptr (Gb.cs s),.dptr [E6 boxes]]) (ds:=[.fn 26 [.dptr (Gb.cs s),.dptr [E6 boxes]]]) Qed O O O O O O O O) (G6 (f4 ?_)))))))
   refine Ye (l':=[(5,.dptr [I64 calls]),(6,.ptr 1029 0),(9,.ptr 1030 0),(11,.ptr 1031 0)]) (L':=[(1029,.box 48 Ka),(1030,.box 81 [LS 1 (LS 1 (E4)) a]),(1031,.box 87 [.fn 26 [.dptr (Gb.cs s),.dptr [E6 boxes]]])]) ⟨(.sm O O),⟨fbQ O (.sm O O),fbQ O ⟨.list rfl,ø⟩,fbQ O ⟨.same rfl,ø⟩,ø⟩,rfl⟩ ?_
   refine fzQ [(5,.dptr [I64 calls]),(6,.ptr 1029 0),(9,.dptr [LS 1 (LS 1 (E4)) a]),(11,.ptr 1031 0)] [(1029,.box 48 Ka),(1031,.box 87 [.fn 26 [.dptr (Gb.cs s),.dptr [E6 boxes]]])] 1030 rfl rfl rfl ⟨⟨_,rfl,.boxEq rfl rfl⟩,⟨_,rfl,.boxEq rfl rfl⟩,ø⟩ rfl (fzQ [(5,.dptr [I64 calls]),(6,.ptr 1029 0),(9,.dptr [LS 1 (LS 1 (E4)) a]),(11,.dptr [.fn 26 [.dptr (Gb.cs s),.dptr [E6 boxes]]])] [(1029,.box 48 Ka)] 1031 rfl rfl rfl ⟨⟨_,rfl,.boxEq rfl rfl⟩,ø⟩ rfl ?_)
   refine Jr fun f5=>(JLh (.mp 1035) (G5f 1035 Gx.kv Ge.av O O) O (JLh (.ptr 1032 0) (Hc 1032 1 Q86 O O) O (Hb (u:=.junk) (H0 (u:=.mp 1035) (ds:=[.mp 1035]) Qec O O O O O O O O) (G6 (f5 (Jr fun f6=>(JLh (.ptr 1033 0) (Hc 1033 1 Q85 O O) O (G6 (f6 ?_)))))))))
   refine Jr fun f7=>(JLh (.fn 30 [.ptr 1032 0,.dptr [I64 calls],.dptr [LS 1 (LS 1 (E4)) a],.dptr [.fn 26 [.dptr (Gb.cs s),.dptr [E6 boxes]]],.ptr 1033 0]) (Z5 (cs:=[.ptr 1032 0,.dptr [I64 calls],.dptr [LS 1 (LS 1 (E4)) a],.dptr [.fn 26 [.dptr (Gb.cs s),.dptr [E6 boxes]]],.ptr 1033 0]) O O) O (Hb (u:=.junk) (H0 (u:=.fn 30 [.ptr 1032 0,.dptr [I64 calls],.dptr [LS 1 (LS 1 (E4)) a],.dptr [.fn 26 [.dptr (Gb.cs s),.dptr [E6 boxes]]],.ptr 1033 0]) (ds:=[.fn 30 [.ptr 1032 0,.dptr [I64 calls],.dptr [LS 1 (LS 1 (E4)) a],.dptr [.fn 26 [.dptr (Gb.cs s),.dptr [E6 boxes]]],.ptr 1033 0]]) Qeb O O O O O O O O) (G6 (f7 (Jr fun f8=>(JLm (I64 0) O (G6 (f8 (Js fun f9=>?_)))))))))
   refine Jr fun g0=>(JLh (LS 1 (LS 1 (E4)) a) (Gf G3c O O O) O ?_)
   obtain⟨j1,t,g1,g2,h⟩:=Qx h
   refine JLh (.dptr [LS 1 (E4) t]) (H4 (f:=(LS 1 (E4))) (xs:=a) (y:=t) O O O G34 g2 g1) O (JLh (LS 1 (E4) t) (Gf Q1 O O O) O (JLl J8 O O O fun g3=>(JLm (I64 0) O (G6 (g0 (Gk ?_))))))
   obtain⟨h9,g4,g5,a9,h⟩:=J5 h
   refine Hk (fun e (g:Int×(Gt Gx Ge))=>each h9 g4 (List.drop e t) e g=some r) (fun e g=>[(5,.dptr [I64 calls]),(6,.ptr 1029 0),(9,.dptr [LS 1 (LS 1 (E4)) a]),(13,.ptr 1033 0),(14,I64 g.1),(52,Em t.length),(53,Em e)]) (fun e g=>[(1035,MP 88 Gx.kv Ge.av g.2),(1029,.box 48 Ka),(1032,.box 88 [.mp 1035]),(1033,.box 89 [.fn 30 [.ptr 1032 0,.dptr [I64 calls],.dptr [LS 1 (LS 1 (E4)) a],.dptr [.fn 26 [.dptr (Gb.cs s),.dptr [E6 boxes]]],.ptr 1033 0]])]) (fun e=>t.length - e) 0 (0,(Gt.empty:Gt Gx Ge)) h ⟨(.sm O O),⟨fmQ O,fbQ O (.sm O O),fbQ O ⟨.same rfl,ø⟩,fbQ O ⟨.same rfl,ø⟩,ø⟩,rfl⟩ ?_
   clear h
   intro e g a3 j2 i0
   refine Jr fun b0=>(JLh (BL (decide ((e:Int) < (t.length:Int)))) (Jf O O O) O (G6 (b0 (Js fun b1=>Gn O (fun hb=>?_) (fun hb=>?_)))))
   ·
    have a4:=Jn hb
    obtain⟨j3,i4,i5,g6,h⟩:=Hs a3 a4
    replace h:=Rx g5 h
    refine Gp (b1 ?_)
    obtain⟨b2,a5,h⟩:=Rc h
    refine Qf (fun o:Int×(Gt Gx Ge)=>b2 o=some r) (fun o=>[(5,.dptr [I64 calls]),(6,.ptr 1029 0),(9,.dptr [LS 1 (LS 1 (E4)) a]),(13,.ptr 1033 0),(14,I64 o.1),(52,Em t.length),(53,Em e)]) (fun o=>[(1035,MP 88 Gx.kv Ge.av o.2),(1029,.box 48 Ka),(1032,.box 88 [.mp 1035]),(1033,.box 89 [.fn 30 [.ptr 1032 0,.dptr [I64 calls],.dptr [LS 1 (LS 1 (E4)) a],.dptr [.fn 26 [.dptr (Gb.cs s),.dptr [E6 boxes]]],.ptr 1033 0]])]) (fun Kj102 ej102=>?_) ?_
    ·
     refine Gk (Jr fun b3=>(JLm (Em e) O (JLm (Em e) O (G6 (b3 (Js fun b4=>?_))))))
     refine Ye (l':=[(5,.dptr [I64 calls]),(6,.ptr 1029 0),(9,.dptr [LS 1 (LS 1 (E4)) a]),(13,.ptr 1033 0),(14,I64 g.1),(15,Em e),(52,Em t.length),(53,Em e)]) (L':=[(1035,MP 88 Gx.kv Ge.av g.2),(1029,.box 48 Ka),(1032,.box 88 [.mp 1035]),(1033,.box 89 [.fn 30 [.ptr 1032 0,.dptr [I64 calls],.dptr [LS 1 (LS 1 (E4)) a],.dptr [.fn 26 [.dptr (Gb.cs s),.dptr [E6 boxes]]],.ptr 1033 0]])]) ⟨(.sm O O),⟨fmQ O,fbQ O (.sm O O),fbQ O ⟨.same rfl,ø⟩,fbQ O ⟨.same rfl,ø⟩,ø⟩,rfl⟩ ?_
     obtain⟨m,b5,h⟩:=Gh h
     obtain⟨n,b6,h⟩:=Gh h
     refine R4 [2,6] [0,0,0,1,0,0,0,2,2] [0,0,0,2,1,1,0,2,2] [[(1035,MP 88 Gx.kv Ge.av g.2),(1029,.box 48 Ka),(1032,.box 88 [.mp 1035]),(1033,.box 89 [.fn 30 [.ptr 1032 0,.dptr [I64 calls],.dptr [LS 1 (LS 1 (E4)) a],.dptr [.fn 26 [.dptr (Gb.cs s),.dptr [E6 boxes]]],.ptr 1033 0]])],((1035,MP 88 Gx.kv Ge.av m.2)::[(1035,MP 88 Gx.kv Ge.av g.2),(1029,.box 48 Ka),(1032,.box 88 [.mp 1035]),(1033,.box 89 [.fn 30 [.ptr 1032 0,.dptr [I64 calls],.dptr [LS 1 (LS 1 (E4)) a],.dptr [.fn 26 [.dptr (Gb.cs s),.dptr [E6 boxes]]],.ptr 1033 0]])]),((1035,MP 88 Gx.kv Ge.av n.2)::((1035,MP 88 Gx.kv Ge.av m.2)::[(1035,MP 88 Gx.kv Ge.av g.2),(1029,.box 48 Ka),(1032,.box 88 [.mp 1035]),(1033,.box 89 [.fn 30 [.ptr 1032 0,.dptr [I64 calls],.dptr [LS 1 (LS 1 (E4)) a],.dptr [.fn 26 [.dptr (Gb.cs s),.dptr [E6 boxes]]],.ptr 1033 0]])]))] Q3 (by kernel_rfl) rfl rfl ?_
     refine Gr (u:=.fn 30 [.ptr 1032 0,.dptr [I64 calls],.dptr [LS 1 (LS 1 (E4)) a],.dptr [.fn 26 [.dptr (Gb.cs s),.dptr [E6 boxes]]],.ptr 1033 0]) O O ⟨Gm (Jm G61 O O O O) O,ø⟩ (Gr (u:=Em e) O O ⟨Gm (G5 O O) O,ø⟩ (D_w (u:=.agg [I64 m.1.restows,I64 m.1.next]) O O O O (G04.locEq (Gm (Gb7 (args:=[I64 0,Em e]) (caps:=[.ptr 1032 0,.dptr [I64 calls],.dptr [LS 1 (LS 1 (E4)) a],.dptr [.fn 26 [.dptr (Gb.cs s),.dptr [E6 boxes]]],.ptr 1033 0]) (L0:=[(1032,.box 88 [.mp 1035]),(1035,MP 88 Gx.kv Ge.av g.2),(1033,.box 89 [.fn 30 [.ptr 1032 0,.dptr [I64 calls],.dptr [LS 1 (LS 1 (E4)) a],.dptr [.fn 26 [.dptr (Gb.cs s),.dptr [E6 boxes]]],.ptr 1033 0]])]) (Lr:=[(1032,.box 88 [.mp 1035]),(1035,MP 88 Gx.kv Ge.av m.2),(1033,.box 89 [.fn 30 [.ptr 1032 0,.dptr [I64 calls],.dptr [LS 1 (LS 1 (E4)) a],.dptr [.fn 26 [.dptr (Gb.cs s),.dptr [E6 boxes]]],.ptr 1033 0]])]) O O (G3d F 0 (e:Int) g.2 calls a (fun z0 z1=>J2 F z0 z1 s boxes) 26 [.dptr (Gb.cs s),.dptr [E6 boxes]] H5c O (fun z0 z1 q hq=>G3e F z0 z1 s boxes q hq) m b5) H0d ⟨.inl O,O,.inl O,O,ø⟩ O ⟨O,O,O,ø⟩ O O O) O) (G98.of [1035,1029,1032,1033] O O ⟨O,O,O,O,ø⟩)) (Gr (u:=I64 m.1.restows) O O ⟨Gm (H53 H09 O O O) O,Gm (H53 H09 O O O) O,ø⟩ (Gr (u:=.fn 30 [.ptr 1032 0,.dptr [I64 calls],.dptr [LS 1 (LS 1 (E4)) a],.dptr [.fn 26 [.dptr (Gb.cs s),.dptr [E6 boxes]]],.ptr 1033 0]) O O ⟨Gm (Jm G61 O O O O) O,Gm (Jm G61 O O O O) O,ø⟩ (Gr (u:=I64 g.1) O O ⟨Gm (G5 O O) O,Gm (G5 O O) O,ø⟩ (D_w (u:=.agg [I64 n.1.restows,I64 n.1.next]) O O O O (G04.locEq (Gm (Gb7 (args:=[I64 0,I64 g.1]) (caps:=[.ptr 1032 0,.dptr [I64 calls],.dptr [LS 1 (LS 1 (E4)) a],.dptr [.fn 26 [.dptr (Gb.cs s),.dptr [E6 boxes]]],.ptr 1033 0]) (L0:=[(1032,.box 88 [.mp 1035]),(1035,MP 88 Gx.kv Ge.av m.2),(1033,.box 89 [.fn 30 [.ptr 1032 0,.dptr [I64 calls],.dptr [LS 1 (LS 1 (E4)) a],.dptr [.fn 26 [.dptr (Gb.cs s),.dptr [E6 boxes]]],.ptr 1033 0]])]) (Lr:=[(1032,.box 88 [.mp 1035]),(1035,MP 88 Gx.kv Ge.av n.2),(1033,.box 89 [.fn 30 [.ptr 1032 0,.dptr [I64 calls],.dptr [LS 1 (LS 1 (E4)) a],.dptr [.fn 26 [.dptr (Gb.cs s),.dptr [E6 boxes]]],.ptr 1033 0]])]) O O (G3d F 0 g.1 m.2 calls a (fun z0 z1=>J2 F z0 z1 s boxes) 26 [.dptr (Gb.cs s),.dptr [E6 boxes]] H5c O (fun z0 z1 q hq=>G3e F z0 z1 s boxes q hq) n b6) H0d ⟨.inl O,O,.inl O,O,ø⟩ O ⟨O,O,O,ø⟩ O O O) O) (G98.of [1035,1029,1032,1033] O O ⟨O,O,O,O,ø⟩)) (Gr (u:=I64 n.1.restows) O O ⟨Gm (H53 H09 O O O) O,ø⟩ (Gr (u:=BL (decide (m.1.restows < n.1.restows))) O O ⟨Gm (Jf O O O) O,ø⟩ (Zg ?_)))))))))
     refine b4 (JCc O h (fun h hb=>?_) (fun h hb=>?_))
     ·
      refine G2 (JLm (Em e) O (JLm (Em e) O (G6 (ej102 _ _ ((e:Int),n.2) h ⟨(.sm O O),⟨fmQ O,fbQ O (.sm O O),fbQ O ⟨.same rfl,ø⟩,fbQ O ⟨.same rfl,ø⟩,ø⟩,rfl⟩))))
     ·
      refine Gp (ej102 _ _ (g.1,n.2) h ⟨(.sm O O),⟨fmQ O,fbQ O (.sm O O),fbQ O ⟨.same rfl,ø⟩,fbQ O ⟨.same rfl,ø⟩,ø⟩,rfl⟩)
    ·intro o h
     replace h:=app1 a5 h
     refine G2 (JLh (I64 ((e+1:Nat):Int)) (Hz (He a4 g3) O O O) O (JLm (I64 ((e+1:Nat):Int)) O (G6 (i0 _ _ (e+1) (o.1,o.2) (app1 g6 h) (by omega) ⟨(.sm O O),⟨fmQ O,fbQ O (.sm O O),fbQ O ⟨.same rfl,ø⟩,fbQ O ⟨.same rfl,ø⟩,ø⟩,rfl⟩))))
   ·
    have h:=app1 a9 (Ht a3 (H9 hb))
    refine Hr (f9 (Jr fun b7=>(JLh (.fn 30 [.ptr 1032 0,.dptr [I64 calls],.dptr [LS 1 (LS 1 (E4)) a],.dptr [.fn 26 [.dptr (Gb.cs s),.dptr [E6 boxes]]],.ptr 1033 0]) (Jm G61 O O O O) O (JLm (I64 g.1) O ?_))))
    obtain⟨l,b8,h⟩:=Gh h
    refine JLh (.agg [I64 l.1.restows,I64 l.1.next]) (Gb7 (args:=[I64 0,I64 g.1]) (caps:=[.ptr 1032 0,.dptr [I64 calls],.dptr [LS 1 (LS 1 (E4)) a],.dptr [.fn 26 [.dptr (Gb.cs s),.dptr [E6 boxes]]],.ptr 1033 0]) (L0:=[(1032,.box 88 [.mp 1035]),(1035,MP 88 Gx.kv Ge.av g.2),(1033,.box 89 [.fn 30 [.ptr 1032 0,.dptr [I64 calls],.dptr [LS 1 (LS 1 (E4)) a],.dptr [.fn 26 [.dptr (Gb.cs s),.dptr [E6 boxes]]],.ptr 1033 0]])]) (Lr:=[(1032,.box 88 [.mp 1035]),(1035,MP 88 Gx.kv Ge.av l.2),(1033,.box 89 [.fn 30 [.ptr 1032 0,.dptr [I64 calls],.dptr [LS 1 (LS 1 (E4)) a],.dptr [.fn 26 [.dptr (Gb.cs s),.dptr [E6 boxes]]],.ptr 1033 0]])]) O O (G3d F 0 g.1 g.2 calls a (fun z0 z1=>J2 F z0 z1 s boxes) 26 [.dptr (Gb.cs s),.dptr [E6 boxes]] H5c O (fun z0 z1 q hq=>G3e F z0 z1 s boxes q hq) l b8) H0d ⟨.inl O,O,.inl O,O,ø⟩ O ⟨O,O,O,ø⟩ O O O) O (JLh (I64 l.1.restows) (H53 H09 O O O) O (JLm (I64 l.1.restows) O (G6 (b7 ?_))))
    refine Jr fun b9=>(JLh (.ptr 1034 0) (Yc 1034 [.sc (.slice none 0 0),LS 1 (E5) ([]:List (List Int))] [.slice none 0 0,.slice none 0 0] G38 ⟨.inl O,.inr ⟨_,O,O⟩,ø⟩ O O) O (G8c 1034 0 1037 59 1 O O O (cs':=[OW 1037 1 (E4) ([]:List (List G1)),LS 1 (E5) ([]:List (List Int))]) O (G6 (b9 (Js fun c0=>Jr fun c1=>(JLh (I64 calls) (Gf G9 O O O) O (JLm (I64 0) O (G6 (c1 (Gk ?_))))))))))
    obtain⟨c2,h⟩:=J9 h
    obtain⟨g7,c3,c4,a6,h⟩:=Gcc h
    refine Hk (fun d (c:Int×(List (List G1))×(List (List Int))×(Gt Gx Ge))=>upto g7 c3 (calls.toNat - d) d c=some r) (fun d c=>[(6,.ptr 1029 0),(9,.dptr [LS 1 (LS 1 (E4)) a]),(13,.ptr 1033 0),(14,I64 c.1),(16,I64 l.1.restows),(17,.ptr 1034 0),(71,I64 calls),(72,Em d)]) (fun d c=>[(1035,MP 88 Gx.kv Ge.av c.2.2.2),(1037,.spare 59 1 c.2.1.length c.2.1.length),(1029,.box 48 Ka),(1032,.box 88 [.mp 1035]),(1033,.box 89 [.fn 30 [.ptr 1032 0,.dptr [I64 calls],.dptr [LS 1 (LS 1 (E4)) a],.dptr [.fn 26 [.dptr (Gb.cs s),.dptr [E6 boxes]]],.ptr 1033 0]]),(1034,.box 48 (Kb c))]) (fun d=>calls.toNat - d) 0 (g.1,[],[],l.2) h ⟨(.sm O O),⟨fmQ O,⟨_,rfl,.same⟩,fbQ O (.sm O O),fbQ O ⟨.same rfl,ø⟩,fbQ O ⟨.same rfl,ø⟩,fbQ O (.sm O O),ø⟩,rfl⟩ ?_
    clear h
    intro d c x i6 g8
    refine Jr fun c5=>(JLh (BL (decide ((d:Int) < calls))) (Jf O O O) O (G6 (c5 (Js fun c6=>Gn O (fun hb=>?_) (fun hb=>?_)))))
    ·
     have z:=G76 hb
     obtain⟨i1,c7,h⟩:=G70 x z
     replace h:=J3f c4 h
     refine Gp (c6 (Js fun c8=>Gk (Jr fun c9=>(JLm (Em d) O (JLm (Em d) O (G6 (c9 (Js fun d0=>?_))))))))
     refine Ye (l':=[(6,.ptr 1029 0),(9,.dptr [LS 1 (LS 1 (E4)) a]),(13,.ptr 1033 0),(14,I64 c.1),(16,I64 l.1.restows),(17,.ptr 1034 0),(18,Em d),(71,I64 calls),(72,Em d)]) (L':=[(1035,MP 88 Gx.kv Ge.av c.2.2.2),(1037,.spare 59 1 c.2.1.length c.2.1.length),(1029,.box 48 Ka),(1032,.box 88 [.mp 1035]),(1033,.box 89 [.fn 30 [.ptr 1032 0,.dptr [I64 calls],.dptr [LS 1 (LS 1 (E4)) a],.dptr [.fn 26 [.dptr (Gb.cs s),.dptr [E6 boxes]]],.ptr 1033 0]]),(1034,.box 48 (Kb c))]) ⟨(.sm O O),⟨fmQ O,⟨_,rfl,.same⟩,fbQ O (.sm O O),fbQ O ⟨.same rfl,ø⟩,fbQ O ⟨.same rfl,ø⟩,fbQ O (.sm O O),ø⟩,rfl⟩ ?_
     obtain⟨i7,v,d1,d2,h⟩:=Qx h
     obtain⟨i8,i,d3,d4,h⟩:=Qx h
     obtain⟨d5,h⟩:=J9 h
     refine R4 [10,12] [0,0,0,0,0,0,0,0,0,0,0,1,0] [0,0,0,0,0,0,0,0,0,0,0,1,0] [[(1035,MP 88 Gx.kv Ge.av c.2.2.2),(1037,.spare 59 1 c.2.1.length c.2.1.length),(1029,.box 48 Ka),(1032,.box 88 [.mp 1035]),(1033,.box 89 [.fn 30 [.ptr 1032 0,.dptr [I64 calls],.dptr [LS 1 (LS 1 (E4)) a],.dptr [.fn 26 [.dptr (Gb.cs s),.dptr [E6 boxes]]],.ptr 1033 0]]),(1034,.box 48 (Kb c))],((1037,.spare 59 1 (c.2.1++[i]).length (c.2.1++[i]).length)::[(1035,MP 88 Gx.kv Ge.av c.2.2.2),(1037,.spare 59 1 c.2.1.length c.2.1.length),(1029,.box 48 Ka),(1032,.box 88 [.mp 1035]),(1033,.box 89 [.fn 30 [.ptr 1032 0,.dptr [I64 calls],.dptr [LS 1 (LS 1 (E4)) a],.dptr [.fn 26 [.dptr (Gb.cs s),.dptr [E6 boxes]]],.ptr 1033 0]]),(1034,.box 48 (Kb c))]),((1034,.box 48 [OW 1037 1 (E4) (c.2.1++[i]),LS 1 (E5) c.2.2.1])::((1037,.spare 59 1 (c.2.1++[i]).length (c.2.1++[i]).length)::[(1035,MP 88 Gx.kv Ge.av c.2.2.2),(1037,.spare 59 1 c.2.1.length c.2.1.length),(1029,.box 48 Ka),(1032,.box 88 [.mp 1035]),(1033,.box 89 [.fn 30 [.ptr 1032 0,.dptr [I64 calls],.dptr [LS 1 (LS 1 (E4)) a],.dptr [.fn 26 [.dptr (Gb.cs s),.dptr [E6 boxes]]],.ptr 1033 0]]),(1034,.box 48 (Kb c))]))] Q3 (by kernel_rfl) rfl rfl ?_
     refine Gr (u:=.ptr 1034 0) O O ⟨Gm (J7 Yh O O) O,ø⟩ (Gr (u:=OW 1037 1 (E4) c.2.1) O O ⟨Gm (Jm Q1 O O O O) O,ø⟩ (Gr (u:=LS 1 (LS 1 (E4)) a) O O ⟨Gm (Gf G3c O O O) O,ø⟩ (Gr (u:=Em d) O O ⟨Gm (G5 O O) O,ø⟩ (Gr (u:=.dptr [LS 1 (E4) v]) O O ⟨Gm (H4 (f:=(LS 1 (E4))) (xs:=a) (y:=v) O O O G34 d2 d1) O,ø⟩ (Gr (u:=LS 1 (E4) v) O O ⟨Gm (Gf Q1 O O O) O,ø⟩ (Gr (u:=I64 c.1) O O ⟨Gm (G5 O O) O,ø⟩ (Gr (u:=.dptr [E4 i]) O O ⟨Gm (H4 (f:=(E4)) (xs:=v) (y:=i) O O O J8 d4 d3) O,ø⟩ (Gr (u:=E4 i) O O ⟨Gm (Gf Yk O O O) O,ø⟩ (Gr (u:=LS 1 (E4) [i]) O O ⟨Gm (H7 (xs:=[E4 i]) O ⟨O,O,ø⟩ J8 Gd5 O O O O) O,ø⟩ (D_w (u:=OW 1037 1 (E4) (c.2.1++[i])) O O O O (Gm (R0 (f:=(E4)) (xs:=c.2.1) (ys:=[i]) O O O O J8 H5b d5 (fun _=>O) (.inl O) O) O) (Gr (u:=.ptr 1034 0) O O ⟨Gm (J7 Yh O O) O,ø⟩ (Ha7 (u:=.junk) O O O O (Gm (H0 (u:=OW 1037 1 (E4) (c.2.1++[i])) (ds:=[OW 1037 1 (E4) (c.2.1++[i]),LS 1 (E5) c.2.2.1]) H59 O O O O O O O O) O) (Zg ?_)))))))))))))
     refine d0 (G2 (JLh (.fn 30 [.ptr 1032 0,.dptr [I64 calls],.dptr [LS 1 (LS 1 (E4)) a],.dptr [.fn 26 [.dptr (Gb.cs s),.dptr [E6 boxes]]],.ptr 1033 0]) (Jm G61 O O O O) O (JLm (Em d) O (JLm (I64 c.1) O ?_))))
     obtain⟨p,d6,h⟩:=Gh h
     refine JLh (.agg [I64 p.1.restows,I64 p.1.next]) (Gb7 (args:=[Em d,I64 c.1]) (caps:=[.ptr 1032 0,.dptr [I64 calls],.dptr [LS 1 (LS 1 (E4)) a],.dptr [.fn 26 [.dptr (Gb.cs s),.dptr [E6 boxes]]],.ptr 1033 0]) (L0:=[(1032,.box 88 [.mp 1035]),(1035,MP 88 Gx.kv Ge.av c.2.2.2),(1033,.box 89 [.fn 30 [.ptr 1032 0,.dptr [I64 calls],.dptr [LS 1 (LS 1 (E4)) a],.dptr [.fn 26 [.dptr (Gb.cs s),.dptr [E6 boxes]]],.ptr 1033 0]])]) (Lr:=[(1032,.box 88 [.mp 1035]),(1035,MP 88 Gx.kv Ge.av p.2),(1033,.box 89 [.fn 30 [.ptr 1032 0,.dptr [I64 calls],.dptr [LS 1 (LS 1 (E4)) a],.dptr [.fn 26 [.dptr (Gb.cs s),.dptr [E6 boxes]]],.ptr 1033 0]])]) O O (G3d F (d:Int) c.1 c.2.2.2 calls a (fun z0 z1=>J2 F z0 z1 s boxes) 26 [.dptr (Gb.cs s),.dptr [E6 boxes]] H5c O (fun z0 z1 q hq=>G3e F z0 z1 s boxes q hq) p d6) H0d ⟨.inl O,O,.inl O,O,ø⟩ O ⟨O,O,O,ø⟩ O O O) O (JLh (I64 p.1.next) (H53 Qf1 O O O) O (JLm (I64 p.1.next) O (G6 (c8 ?_))))
     refine G2 (JLh (I64 ((d+1:Nat):Int)) (Hz (He z (G0c c2)) O O O) O (JLm (I64 ((d+1:Nat):Int)) O (G6 (g8 _ _ (d+1) (p.1.next,(c.2.1++[i]),c.2.2.1,p.2) (app1 c7 h) (by omega) ⟨(.sm O O),⟨fmQ O,⟨_,rfl,.same⟩,fbQ O (.sm O O),fbQ O ⟨.same rfl,ø⟩,fbQ O ⟨.same rfl,ø⟩,fbQ O (.sm O O),ø⟩,rfl⟩))))
    ·
     have h:=app1 a6 (G71 x (Z8 hb))
     refine Hr (c0 (Jr fun d7=>(JLh (.agg (Kb c)) (G28 G4b O O O O) O (JLm (I64 l.1.restows) O (Hb (u:=.junk) (H0 (u:=.agg (Kb c)) (ds:=(Kb c)) Qv O O O O O O O O) (JLm (I64 l.1.restows) O (JLm (I64 0) O (G6 (d7 (H2 ?_))))))))))
     exact⟨[.agg [LS 1 (E4) c.2.1,LS 1 (E5) c.2.2.1],I64 l.1.restows,I64 0],[],ø,O,⟨⟨_,⟨_,_,_,_,O,O,O,.inl ⟨G4b,O⟩⟩,.agg ⟨.list O,.same O,ø⟩⟩,⟨_,O,.conv (.same O)⟩,⟨_,O,.conv (.same O)⟩,ø⟩,O,congrArg (fun r:G5b×Int×Int=>(.tup (Kc r):AV)) (Ky h)⟩
end
end Go.Proofs.YtibhpogonkdiaaaGreat
