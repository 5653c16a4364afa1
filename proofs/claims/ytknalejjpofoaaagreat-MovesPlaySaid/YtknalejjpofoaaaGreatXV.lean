/-
 Models of functions of the program,and that they return what the models say.
-/
import Derived.Test.YtknalejjpofoaaaGreatXVb
set_option maxRecDepth 100000
set_option maxHeartbeats 1000000
set_option linter.unusedVariables false
set_option linter.unusedSimpArgs false
namespace Go.Proofs.YtknalejjpofoaaaGreat
open Go.RowKit
noncomputable section
open XAF
open XCF
open XVF

def Zs (self_:Int→(H0 Int Unit)→(List Int)→(List (List Stowed))→Gw→Option ((H0 Int Unit)×(List Int))) (F:Nat) (id_:Int) (p1:H0 Int Unit) (p2:List Int) (p3:List (List Stowed)) (p4:Gw):Option ((H0 Int Unit)×(List Int)):=
 bnd (G10 p1 id_) fun r3=>
 bif (!r3.1) then
 (some (r3.2,p2))
 else
 (need (decide ((p2.length+[id_].length)*8≤140737488355328∧p2.length+[id_].length≤maxLen)) <|
  each (fun y7 i7 (s7:(H0 Int Unit)×(List Int)) nx7=>
   jp (fun kj10=>
    bnd (G6d y7 id_) fun r13=>
    bif (!r13.2) then
    (kj10 (s7.1,s7.2))
    else
    (jp (fun kj17=>
      Q9 p4.Columns r13.1.G4 fun y19=>
      bif (!y19.Deck) then
      (bnd (Qv p4 r13.1.G4) fun r21=>
       kj17 r21)
      else
      (kj17 (-1))) fun(j17:Int)=>
     each (fun y56 i56 (s56:(H0 Int Unit)×(List Int)) nx56=>
      jp (fun kj59=>
       bnd (Gae y56.Slot r13.1) fun r62=>
       bif r62 then
       (bnd (self_ y56.Gd s56.1 s56.2 p3 p4) fun r63=>
        kj59 (r63.1,r63.2))
       else
       (kj59 (s56.1,s56.2))) fun(j59:(H0 Int Unit)×(List Int))=>
      nx56 (j59.1,j59.2))
     (fun(s56:(H0 Int Unit)×(List Int))=>
      each (fun y65 i65 (s65:(H0 Int Unit)×(List Int)) nx65=>
       each (fun y107 i107 (s107:(H0 Int Unit)×(List Int)) nx107=>
        jp (fun kj110=>
         bnd (bif decide (0≤j17) then Q9 p4.Columns y107.Slot.G4 some else some default) fun y113=>
         bnd (bif ((decide (0≤j17))&&y113.Deck) then Qv p4 y107.Slot.G4 else some default) fun r114=>
         bif (((decide (0≤j17))&&y113.Deck)&&(decide (r114=j17))) then
         (bnd (self_ y107.Gd s107.1 s107.2 p3 p4) fun r115=>
          kj110 (r115.1,r115.2))
         else
         (kj110 (s107.1,s107.2))) fun(j110:(H0 Int Unit)×(List Int))=>
        nx107 (j110.1,j110.2))
       (fun(s107:(H0 Int Unit)×(List Int))=>
        nx65 (s107.1,s107.2)) y65 0 (s65.1,s65.2))
      (fun(s65:(H0 Int Unit)×(List Int))=>
       kj10 (s65.1,s65.2)) p3 0 (s56.1,s56.2)) y7 0 (s7.1,s7.2))) fun(j10:(H0 Int Unit)×(List Int))=>
   nx7 (j10.1,j10.2))
  (fun(s7:(H0 Int Unit)×(List Int))=>
   some (s7.1,s7.2)) p3 0 (r3.2,(p2++[id_])))
def Rb:Nat→Int→(H0 Int Unit)→(List Int)→(List (List Stowed))→Gw→Option ((H0 Int Unit)×(List Int))
 | 0,_,_,_,_,_=>none
 | F+1,id_,p1,p2,p3,p4=>Zs (Rb F) F id_ p1 p2 p3 p4
abbrev K0 (p3:List (List Stowed)) (p4:Gw):List AV:=[.ptr 1130 0,.ptr 1131 0,.dptr [LS 1 (E1) p3],Ef p4,.ptr 1132 0]
theorem J6a (self_:Int→(H0 Int Unit)→(List Int)→(List (List Stowed))→Gw→Option ((H0 Int Unit)×(List Int))) (self_w:∀ (id_:Int) (p1:H0 Int Unit) (p2:List Int) (p3:List (List Stowed)) (p4:Gw) (r:(H0 Int Unit)×(List Int)),self_ id_ p1 p2 p3 p4=some r→Jn Ep 97 [G0 id_,.ptr 1130 0,.ptr 1131 0,.dptr [LS 1 (E1) p3],Ef p4,.ptr 1132 0] [(1130,.box 178 [.mp 1136]),(1136,MP 178 (fun n:Int=>Value.int .i64 n) (fun _:Unit=>.agg []) p1),(1131,.box 50 [.vec 1137 p2.length 1 p2.length]),(1137,.vec 3 1 p2.length (p2.map G0)),(1132,.box 179 [.fn 97 [.ptr 1130 0,.ptr 1131 0,.dptr [LS 1 (E1) p3],Ef p4,.ptr 1132 0]])] (fun av L'=>av=.tup []∧L'=[(1130,.box 178 [.mp 1136]),(1136,MP 178 (fun n:Int=>Value.int .i64 n) (fun _:Unit=>.agg []) r.1),(1131,.box 50 [.vec 1137 r.2.length 1 r.2.length]),(1137,.vec 3 1 r.2.length (r.2.map G0)),(1132,.box 179 [.fn 97 [.ptr 1130 0,.ptr 1131 0,.dptr [LS 1 (E1) p3],Ef p4,.ptr 1132 0]])])) (F:Nat) (id_:Int) (p1:H0 Int Unit) (p2:List Int) (p3:List (List Stowed)) (p4:Gw) (r:(H0 Int Unit)×(List Int)) (h:Zs self_ F id_ p1 p2 p3 p4=some r):Jn Ep 97 [G0 id_,.ptr 1130 0,.ptr 1131 0,.dptr [LS 1 (E1) p3],Ef p4,.ptr 1132 0] [(1130,.box 178 [.mp 1136]),(1136,MP 178 (fun n:Int=>Value.int .i64 n) (fun _:Unit=>.agg []) p1),(1131,.box 50 [.vec 1137 p2.length 1 p2.length]),(1137,.vec 3 1 p2.length (p2.map G0)),(1132,.box 179 [.fn 97 [.ptr 1130 0,.ptr 1131 0,.dptr [LS 1 (E1) p3],Ef p4,.ptr 1132 0]])] (fun av L'=>av=.tup []∧L'=[(1130,.box 178 [.mp 1136]),(1136,MP 178 (fun n:Int=>Value.int .i64 n) (fun _:Unit=>.agg []) r.1),(1131,.box 50 [.vec 1137 r.2.length 1 r.2.length]),(1137,.vec 3 1 r.2.length (r.2.map G0)),(1132,.box 179 [.fn 97 [.ptr 1130 0,.ptr 1131 0,.dptr [LS 1 (E1) p3],Ef p4,.ptr 1132 0]])]):=by
 unfold Zs at h
 refine Jq [1130,1136,1131,1137,1132] [] Tryz.func97 O O (G2e O) (Js fun hK1=>Jr fun hK2=>(JLh (.mp 1136) (Qu Q45 O O O O) O (Yb (G0 id_) O ?_)))
 obtain⟨r3,hr3,h⟩:=Ge h
 refine JLh (BL r3.1) (Ry (args:=[.mp 1136,G0 id_]) (L0:=[(1136,MP 178 (fun n:Int=>Value.int .i64 n) (fun _:Unit=>.agg []) p1)]) (Lr:=[(1136,MP 178 (fun n:Int=>Value.int .i64 n) (fun _:Unit=>.agg []) r3.2)]) O (H01 p1 id_ r3 hr3) Qb0 ⟨.inl O,O,.inl O,O,ø⟩ ⟨O,ø⟩ O O O) O (JLh (BL (!r3.1)) (Rv (b:=r3.1) O O) O (G7 (hK2 (JCc O h (fun h hb=>?_) (fun h hb=>?_)))))
 ·
  refine Gs ?_
  obtain rfl:=Option.some.inj h
  exact⟨[],[(1130,.box 178 [.mp 1136]),(1136,MP 178 (fun n:Int=>Value.int .i64 n) (fun _:Unit=>.agg []) r3.2),(1131,.box 50 [.vec 1137 p2.length 1 p2.length]),(1137,.vec 3 1 p2.length (p2.map G0)),(1132,.box 179 [.fn 97 (K0 p3 p4)])],⟨⟨_,O,.boxL O ⟨.same O,ø⟩⟩,⟨_,O,.map⟩,⟨_,O,.boxL O ⟨.same O,ø⟩⟩,⟨_,O,.vec⟩,⟨_,O,.boxL O ⟨.same O,ø⟩⟩,ø⟩,O,ø,O,O⟩
 ·
  refine Gi (hK1 (Jr fun hK4=>(JLh (.vec 1137 p2.length 1 p2.length) (Qu Z3 O O O O) O (Yb (G0 id_) O (JLh (E2 [id_]) (H6 (xs:=[G0 id_]) O ⟨O,O,ø⟩ Gt Qn O O O O) O ?_)))))
  obtain⟨ha5,h⟩:=Jd h
  refine JLh (.vec 1137 ((p2++[id_]).length) 1 ((p2++[id_]).length)) (G70 (f:=G0) (xs:=p2) (ys:=[id_]) (ver:=p2.length) (ver1:=(p2++[id_]).length) rfl rfl rfl rfl Gt Yy ha5 (fun _=>rfl) (.inl rfl) (by simp)) O (Hw (u:=.junk) (Hd (u:=.vec 1137 ((p2++[id_]).length) 1 ((p2++[id_]).length)) (ds:=[.vec 1137 ((p2++[id_]).length) 1 ((p2++[id_]).length)]) Qaa O O O O O O O O) (G7 (hK4 (Jr fun hK6=>(JLh (LS 1 (E1) p3) (Gh Zy O O O) O (JLl Qd O O O fun hm27=>(Yb (G0 0) O (G7 (hK6 (Gj ?_))))))))))
  obtain⟨b7,kx7,hb7,hkx7,h⟩:=J2 h
  refine Hb (fun i7 (s7:(H0 Int Unit)×(List Int))=>each b7 kx7 (List.drop i7 p3) i7 s7=some r) (fun i7 s7=>[(0,G0 id_),(3,.dptr [LS 1 (E1) p3]),(4,Ef p4),(5,.ptr 1132 0),(26,LS 1 (E1) p3),(27,Eo p3.length),(28,Eo i7)]) (fun i7 s7=>[(1136,MP 178 (fun n:Int=>Value.int .i64 n) (fun _:Unit=>.agg []) s7.1),(1137,.vec 3 1 s7.2.length (s7.2.map G0)),(1130,.box 178 [.mp 1136]),(1131,.box 50 [.vec 1137 s7.2.length 1 s7.2.length]),(1132,.box 179 [.fn 97 (K0 p3 p4)])]) (fun i7=>p3.length - i7) 0 (r3.2,(p2++[id_])) h ⟨(.sm O O),⟨⟨_,rfl,.map⟩,⟨_,rfl,.vec⟩,⟨_,rfl,.boxL rfl ⟨.same rfl,ø⟩⟩,⟨_,rfl,.boxL rfl ⟨.same rfl,ø⟩⟩,⟨_,rfl,.boxL rfl ⟨.same rfl,ø⟩⟩,ø⟩,rfl⟩ ?_
  clear h
  intro i7 s7 hi7 K7 e7
  refine Jr fun hK8=>(JLh (BL (decide ((i7:Int) < (p3.length:Int)))) (J0 O O O) O (G7 (hK8 (Js fun hK9=>Gf O (fun hb=>?_) (fun hb=>?_)))))
  ·
   have hk7:=Jk hb
   obtain⟨y7,nx7,hy7,hn7,h⟩:=Hs hi7 hk7
   replace h:=Y4 hb7 h
   refine Gi (hK9 ?_)
   obtain⟨kj10,hkj10,h⟩:=Qo h
   refine Jx (fun j10:(H0 Int Unit)×(List Int)=>kj10 j10=some r) (fun j10=>[(0,G0 id_),(3,.dptr [LS 1 (E1) p3]),(4,Ef p4),(5,.ptr 1132 0),(26,LS 1 (E1) p3),(27,Eo p3.length),(28,Eo i7)]) (fun j10=>[(1136,MP 178 (fun n:Int=>Value.int .i64 n) (fun _:Unit=>.agg []) j10.1),(1137,.vec 3 1 j10.2.length (j10.2.map G0)),(1130,.box 178 [.mp 1136]),(1131,.box 50 [.vec 1137 j10.2.length 1 j10.2.length]),(1132,.box 179 [.fn 97 (K0 p3 p4)])]) (fun Kj10 ej10=>?_) ?_
   ·
    refine Gj (Jr fun hK11=>(JLh (.dptr [E1 y7]) (H3 (f:=(E1)) (xs:=p3) (y:=y7) O O O Qd hy7 O) O (JLh (E1 y7) (Gh Rw O O O) O (Yb (E1 y7) O (G7 (hK11 (Jr fun hK12=>(Yb (E1 y7) O (Yb (G0 id_) O ?_)))))))))
    obtain⟨r13,hr13,h⟩:=Ge h
    refine JLh (.tup [.agg (Slot.cs r13.1),BL r13.2]) (Gv O (H77 y7 id_ r13 hr13) J21 ⟨O,O,O,O,ø⟩) O (Yb (.tup [.agg (Slot.cs r13.1),BL r13.2]) O (JLh (.agg (Slot.cs r13.1)) (Hk O O O) O (JLh (BL r13.2) (Hk O O O) O (JLh (.ptr 1163 0) (Hx 1163 3 G17 O O) O (Hw (u:=.junk) (Hd (u:=.agg (Slot.cs r13.1)) (ds:=[G0 r13.1.G4,G0 r13.1.Tier,U8 r13.1.Half]) G44 O O O O O O O O) (Yb (BL r13.2) O (G7 (hK12 ?_))))))))
    refine Gq [(0,G0 id_),(3,.dptr [LS 1 (E1) p3]),(4,Ef p4),(5,.ptr 1132 0),(8,E1 y7),(9,Ek r13.1),(10,BL r13.2),(26,LS 1 (E1) p3),(27,Eo p3.length),(28,Eo i7)] [(1136,MP 178 (fun n:Int=>Value.int .i64 n) (fun _:Unit=>.agg []) s7.1),(1137,.vec 3 1 s7.2.length (s7.2.map G0)),(1130,.box 178 [.mp 1136]),(1131,.box 50 [.vec 1137 s7.2.length 1 s7.2.length]),(1132,.box 179 [.fn 97 (K0 p3 p4)])] 1163 rfl rfl rfl ⟨⟨_,rfl,.map⟩,⟨_,rfl,.vec⟩,⟨_,rfl,.boxEq rfl rfl⟩,⟨_,rfl,.boxEq rfl rfl⟩,⟨_,rfl,.boxEq rfl rfl⟩,ø⟩ rfl (by repeat' (first | exact .ptr | constructor)) (Js fun hK14=>?_)
    refine Jr fun hK15=>(Yb (BL r13.2) O (JLh (BL (!r13.2)) (Rv (b:=r13.2) O O) O (G7 (hK15 (JCc O h (fun h hb=>?_) (fun h hb=>?_))))))
    ·
     refine Hm (ej10 _ _ (s7.1,s7.2) h ⟨(.sm O O),⟨⟨_,rfl,.map⟩,⟨_,rfl,.vec⟩,⟨_,rfl,.boxL rfl ⟨.same rfl,ø⟩⟩,⟨_,rfl,.boxL rfl ⟨.same rfl,ø⟩⟩,⟨_,rfl,.boxL rfl ⟨.same rfl,ø⟩⟩,ø⟩,rfl⟩)
    ·
     refine Gi (hK14 (Jr fun hK16=>(Yb (G0 (-1)) O (G7 (hK16 ?_)))))
     obtain⟨kj17,hkj17,h⟩:=Qo h
     refine Jx (fun j17:Int=>kj17 j17=some r) (fun j17=>[(0,G0 id_),(3,.dptr [LS 1 (E1) p3]),(4,Ef p4),(5,.ptr 1132 0),(8,E1 y7),(9,Ek r13.1),(11,G0 j17),(26,LS 1 (E1) p3),(27,Eo p3.length),(28,Eo i7)]) (fun j17=>[(1136,MP 178 (fun n:Int=>Value.int .i64 n) (fun _:Unit=>.agg []) s7.1),(1137,.vec 3 1 s7.2.length (s7.2.map G0)),(1130,.box 178 [.mp 1136]),(1131,.box 50 [.vec 1137 s7.2.length 1 s7.2.length]),(1132,.box 179 [.fn 97 (K0 p3 p4)])]) (fun Kj17 ej17=>?_) ?_
     ·
      refine Jr fun hK18=>(JLh (Ef p4) (Ga J6 O O O) O (JLh (E4 p4.Columns) (Gh Jj O O O) O (JLh (Ek r13.1) (Ga J9 O O O) O (JLh (G0 r13.1.G4) (Gh Gb O O O) O ?_))))
      obtain⟨m20,y19,hm20,hy19,h⟩:=Y0 h
      refine JLh (Ei y19) (H3 (f:=G4.av) (xs:=p4.Columns) (y:=y19) O O O Je hy19 hm20) O (JLh (.dptr ((G4.cs y19).drop 2)) (Ga Ye O O O) O (JLh (BL y19.Deck) (Gh Qm O O O) O (JLh (BL (!y19.Deck)) (Rv (b:=y19.Deck) O O) O (G7 (hK18 (JCc O h (fun h hb=>?_) (fun h hb=>?_)))))))
      ·
       refine G3 (JLh (.agg (Gw.cs p4)) (Gg Ho O O O) O (JLh (Ek r13.1) (Ga J9 O O O) O (JLh (G0 r13.1.G4) (Gh Gb O O O) O ?_)))
       obtain⟨r21,hr21,h⟩:=Ge h
       refine JLh (G0 r21) (Gv O (G3a p4 r13.1.G4 r21 hr21) H29 ⟨O,O,O,O,ø⟩) O (Yb (G0 r21) O (G7 (ej17 _ _ r21 h ⟨(.sm O O),⟨⟨_,rfl,.map⟩,⟨_,rfl,.vec⟩,⟨_,rfl,.boxL rfl ⟨.same rfl,ø⟩⟩,⟨_,rfl,.boxL rfl ⟨.same rfl,ø⟩⟩,⟨_,rfl,.boxL rfl ⟨.same rfl,ø⟩⟩,ø⟩,rfl⟩)))
      ·
       refine Gi (ej17 _ _ (-1) h ⟨(.sm O O),⟨⟨_,rfl,.map⟩,⟨_,rfl,.vec⟩,⟨_,rfl,.boxL rfl ⟨.same rfl,ø⟩⟩,⟨_,rfl,.boxL rfl ⟨.same rfl,ø⟩⟩,⟨_,rfl,.boxL rfl ⟨.same rfl,ø⟩⟩,ø⟩,rfl⟩)
     ·intro j17 h
      replace h:=app1 hkj17 h
      refine Js fun hK22=>Jr fun hK23=>(Yb (E1 y7) O (JLl Gy O O O fun hm53=>(Yb (G0 0) O (G7 (hK23 (Gj ?_))))))
      obtain⟨b56,kx56,hb56,hkx56,h⟩:=J2 h
      refine Hb (fun i56 (s56:(H0 Int Unit)×(List Int))=>each b56 kx56 (List.drop i56 y7) i56 s56=some r) (fun i56 s56=>[(0,G0 id_),(3,.dptr [LS 1 (E1) p3]),(4,Ef p4),(5,.ptr 1132 0),(9,Ek r13.1),(11,G0 j17),(26,LS 1 (E1) p3),(27,Eo p3.length),(28,Eo i7),(52,E1 y7),(53,Eo y7.length),(54,Eo i56)]) (fun i56 s56=>[(1136,MP 178 (fun n:Int=>Value.int .i64 n) (fun _:Unit=>.agg []) s56.1),(1137,.vec 3 1 s56.2.length (s56.2.map G0)),(1130,.box 178 [.mp 1136]),(1131,.box 50 [.vec 1137 s56.2.length 1 s56.2.length]),(1132,.box 179 [.fn 97 (K0 p3 p4)])]) (fun i56=>y7.length - i56) 0 (s7.1,s7.2) h ⟨(.sm O O),⟨⟨_,rfl,.map⟩,⟨_,rfl,.vec⟩,⟨_,rfl,.boxL rfl ⟨.same rfl,ø⟩⟩,⟨_,rfl,.boxL rfl ⟨.same rfl,ø⟩⟩,⟨_,rfl,.boxL rfl ⟨.same rfl,ø⟩⟩,ø⟩,rfl⟩ ?_
      clear h
      intro i56 s56 hi56 K56 e56
      refine Jr fun hK57=>(JLh (BL (decide ((i56:Int) < (y7.length:Int)))) (J0 O O O) O (G7 (hK57 (Js fun hK58=>Gf O (fun hb=>?_) (fun hb=>?_)))))
      ·
       have hk56:=Jk hb
       obtain⟨y56,nx56,hy56,hn56,h⟩:=Hs hi56 hk56
       replace h:=Y4 hb56 h
       refine Gi (hK58 ?_)
       obtain⟨kj59,hkj59,h⟩:=Qo h
       refine Jx (fun j59:(H0 Int Unit)×(List Int)=>kj59 j59=some r) (fun j59=>[(0,G0 id_),(3,.dptr [LS 1 (E1) p3]),(4,Ef p4),(5,.ptr 1132 0),(9,Ek r13.1),(11,G0 j17),(26,LS 1 (E1) p3),(27,Eo p3.length),(28,Eo i7),(52,E1 y7),(53,Eo y7.length),(54,Eo i56)]) (fun j59=>[(1136,MP 178 (fun n:Int=>Value.int .i64 n) (fun _:Unit=>.agg []) j59.1),(1137,.vec 3 1 j59.2.length (j59.2.map G0)),(1130,.box 178 [.mp 1136]),(1131,.box 50 [.vec 1137 j59.2.length 1 j59.2.length]),(1132,.box 179 [.fn 97 (K0 p3 p4)])]) (fun Kj59 ej59=>?_) ?_
       ·
        refine Gj (Jr fun hK60=>(JLh (Eg y56) (H3 (f:=Stowed.av) (xs:=y7) (y:=y56) O O O Gy hy56 O) O (JLh (.agg (Stowed.cs y56)) (Gg Jg O O O) O (JLh (.ptr 1164 0) (Hx 1164 4 Jo O O) O (Hw (u:=.junk) (Hd (u:=.agg (Stowed.cs y56)) (ds:=[G0 y56.Gd,G0 y56.Slot.G4,G0 y56.Slot.Tier,U8 y56.Slot.Half]) Qh O O O O O O O O) (G7 (hK60 ?_)))))))
        refine Gq [(0,G0 id_),(3,.dptr [LS 1 (E1) p3]),(4,Ef p4),(5,.ptr 1132 0),(9,Ek r13.1),(11,G0 j17),(13,Eg y56),(26,LS 1 (E1) p3),(27,Eo p3.length),(28,Eo i7),(52,E1 y7),(53,Eo y7.length),(54,Eo i56)] [(1136,MP 178 (fun n:Int=>Value.int .i64 n) (fun _:Unit=>.agg []) s56.1),(1137,.vec 3 1 s56.2.length (s56.2.map G0)),(1130,.box 178 [.mp 1136]),(1131,.box 50 [.vec 1137 s56.2.length 1 s56.2.length]),(1132,.box 179 [.fn 97 (K0 p3 p4)])] 1164 rfl rfl rfl ⟨⟨_,rfl,.map⟩,⟨_,rfl,.vec⟩,⟨_,rfl,.boxEq rfl rfl⟩,⟨_,rfl,.boxEq rfl rfl⟩,⟨_,rfl,.boxEq rfl rfl⟩,ø⟩ rfl (by repeat' (first | exact .ptr | constructor)) ?_
        refine Jr fun hK61=>(JLh (.dptr ((Stowed.cs y56).drop 1)) (Ga Hr O O O) O (JLh (.agg ((Stowed.cs y56).drop 1)) (Gg Jh O O O) O (JLh (.agg (Slot.cs r13.1)) (Gg Jh O O O) O ?_)))
        obtain⟨r62,hr62,h⟩:=Ge h
        refine JLh (BL r62) (Gv O (J18 y56.Slot r13.1 r62 hr62) J93 ⟨O,O,O,O,ø⟩) O (G7 (hK61 (JCc O h (fun h hb=>?_) (fun h hb=>?_))))
        ·
         refine G3 (JLh (.fn 97 (K0 p3 p4)) (Qu H67 O O O O) O (JLh (Eg y56) (Ga J5 O O O) O (JLh (G0 y56.Gd) (Gh Gb O O O) O ?_)))
         obtain⟨r63,hr63,h⟩:=Ge h
         refine JLh (.tup []) (Gcd (args:=[G0 y56.Gd]) (caps:=(K0 p3 p4)) (L0:=[(1130,.box 178 [.mp 1136]),(1136,MP 178 (fun n:Int=>Value.int .i64 n) (fun _:Unit=>.agg []) s56.1),(1131,.box 50 [.vec 1137 s56.2.length 1 s56.2.length]),(1137,.vec 3 1 s56.2.length (s56.2.map G0)),(1132,.box 179 [.fn 97 (K0 p3 p4)])]) (Lr:=[(1130,.box 178 [.mp 1136]),(1136,MP 178 (fun n:Int=>Value.int .i64 n) (fun _:Unit=>.agg []) r63.1),(1131,.box 50 [.vec 1137 r63.2.length 1 r63.2.length]),(1137,.vec 3 1 r63.2.length (r63.2.map G0)),(1132,.box 179 [.fn 97 (K0 p3 p4)])]) O O (self_w y56.Gd s56.1 s56.2 p3 p4 r63 hr63) J22 ⟨.inl O,O,ø⟩ O ⟨O,O,O,O,O,ø⟩ O O O) O (G7 ?_)
         exact ej59 _ _ (r63.1,r63.2) h ⟨(.sm O O),⟨⟨_,rfl,.map⟩,⟨_,rfl,.vec⟩,⟨_,rfl,.boxL rfl ⟨.same rfl,ø⟩⟩,⟨_,rfl,.boxL rfl ⟨.same rfl,ø⟩⟩,⟨_,rfl,.boxL rfl ⟨.same rfl,ø⟩⟩,ø⟩,rfl⟩
        ·
         refine Gi (ej59 _ _ (s56.1,s56.2) h ⟨(.sm O O),⟨⟨_,rfl,.map⟩,⟨_,rfl,.vec⟩,⟨_,rfl,.boxL rfl ⟨.same rfl,ø⟩⟩,⟨_,rfl,.boxL rfl ⟨.same rfl,ø⟩⟩,⟨_,rfl,.boxL rfl ⟨.same rfl,ø⟩⟩,ø⟩,rfl⟩)
       ·intro j59 h
        replace h:=app1 hkj59 h
        refine G3 (JLh (G0 ((i56+1:Nat):Int)) (Hu (Hj hk56 hm53) O O O) O (Yb (G0 ((i56+1:Nat):Int)) O (G7 (e56 _ _ (i56+1) (j59.1,j59.2) (app1 hn56 h) (by omega) ⟨(.sm O O),⟨⟨_,rfl,.map⟩,⟨_,rfl,.vec⟩,⟨_,rfl,.boxL rfl ⟨.same rfl,ø⟩⟩,⟨_,rfl,.boxL rfl ⟨.same rfl,ø⟩⟩,⟨_,rfl,.boxL rfl ⟨.same rfl,ø⟩⟩,ø⟩,rfl⟩))))
      ·
       have h:=app1 hkx56 (Ht hi56 (Ha hb))
       refine Hm (hK22 (Jr fun hK64=>(JLh (LS 1 (E1) p3) (Gh Zy O O O) O (JLl Qd O O O fun hm68=>(Yb (G0 0) O (G7 (hK64 (Gj ?_))))))))
       obtain⟨b65,kx65,hb65,hkx65,h⟩:=J2 h
       refine Hb (fun i65 (s65:(H0 Int Unit)×(List Int))=>each b65 kx65 (List.drop i65 p3) i65 s65=some r) (fun i65 s65=>[(0,G0 id_),(3,.dptr [LS 1 (E1) p3]),(4,Ef p4),(5,.ptr 1132 0),(11,G0 j17),(26,LS 1 (E1) p3),(27,Eo p3.length),(28,Eo i7),(67,LS 1 (E1) p3),(68,Eo p3.length),(69,Eo i65)]) (fun i65 s65=>[(1136,MP 178 (fun n:Int=>Value.int .i64 n) (fun _:Unit=>.agg []) s65.1),(1137,.vec 3 1 s65.2.length (s65.2.map G0)),(1130,.box 178 [.mp 1136]),(1131,.box 50 [.vec 1137 s65.2.length 1 s65.2.length]),(1132,.box 179 [.fn 97 (K0 p3 p4)])]) (fun i65=>p3.length - i65) 0 (s56.1,s56.2) h ⟨(.sm O O),⟨⟨_,rfl,.map⟩,⟨_,rfl,.vec⟩,⟨_,rfl,.boxL rfl ⟨.same rfl,ø⟩⟩,⟨_,rfl,.boxL rfl ⟨.same rfl,ø⟩⟩,⟨_,rfl,.boxL rfl ⟨.same rfl,ø⟩⟩,ø⟩,rfl⟩ ?_
       clear h
       intro i65 s65 hi65 K65 e65
       refine Jr fun hK66=>(JLh (BL (decide ((i65:Int) < (p3.length:Int)))) (J0 O O O) O (G7 (hK66 (Js fun hK67=>Gf O (fun hb=>?_) (fun hb=>?_)))))
       ·
        have hk65:=Jk hb
        obtain⟨y65,nx65,hy65,hn65,h⟩:=Hs hi65 hk65
        replace h:=Y4 hb65 h
        refine Gi (hK67 (Js fun hK68=>Gj (Jr fun hK69=>(JLh (.dptr [E1 y65]) (H3 (f:=(E1)) (xs:=p3) (y:=y65) O O O Qd hy65 O) O (JLh (E1 y65) (Gh Rw O O O) O (Yb (E1 y65) O (G7 (hK69 (Jr fun hK70=>(Yb (E1 y65) O (JLl Gy O O O fun hm74=>(Yb (G0 0) O (G7 (hK70 (Gj ?_)))))))))))))))
        obtain⟨b107,kx107,hb107,hkx107,h⟩:=J2 h
        refine Hb (fun i107 (s107:(H0 Int Unit)×(List Int))=>each b107 kx107 (List.drop i107 y65) i107 s107=some r) (fun i107 s107=>[(0,G0 id_),(3,.dptr [LS 1 (E1) p3]),(4,Ef p4),(5,.ptr 1132 0),(11,G0 j17),(26,LS 1 (E1) p3),(27,Eo p3.length),(28,Eo i7),(67,LS 1 (E1) p3),(68,Eo p3.length),(69,Eo i65),(73,E1 y65),(74,Eo y65.length),(75,Eo i107)]) (fun i107 s107=>[(1136,MP 178 (fun n:Int=>Value.int .i64 n) (fun _:Unit=>.agg []) s107.1),(1137,.vec 3 1 s107.2.length (s107.2.map G0)),(1130,.box 178 [.mp 1136]),(1131,.box 50 [.vec 1137 s107.2.length 1 s107.2.length]),(1132,.box 179 [.fn 97 (K0 p3 p4)])]) (fun i107=>y65.length - i107) 0 (s65.1,s65.2) h ⟨(.sm O O),⟨⟨_,rfl,.map⟩,⟨_,rfl,.vec⟩,⟨_,rfl,.boxL rfl ⟨.same rfl,ø⟩⟩,⟨_,rfl,.boxL rfl ⟨.same rfl,ø⟩⟩,⟨_,rfl,.boxL rfl ⟨.same rfl,ø⟩⟩,ø⟩,rfl⟩ ?_
        clear h
        intro i107 s107 hi107 K107 e107
        refine Jr fun hK108=>(JLh (BL (decide ((i107:Int) < (y65.length:Int)))) (J0 O O O) O (G7 (hK108 (Js fun hK109=>Gf O (fun hb=>?_) (fun hb=>?_)))))
        ·
         have hk107:=Jk hb
         obtain⟨y107,nx107,hy107,hn107,h⟩:=Hs hi107 hk107
         replace h:=Y4 hb107 h
         refine Gi (hK109 ?_)
         obtain⟨kj110,hkj110,h⟩:=Qo h
         refine Jx (fun j110:(H0 Int Unit)×(List Int)=>kj110 j110=some r) (fun j110=>[(0,G0 id_),(3,.dptr [LS 1 (E1) p3]),(4,Ef p4),(5,.ptr 1132 0),(11,G0 j17),(26,LS 1 (E1) p3),(27,Eo p3.length),(28,Eo i7),(67,LS 1 (E1) p3),(68,Eo p3.length),(69,Eo i65),(73,E1 y65),(74,Eo y65.length),(75,Eo i107)]) (fun j110=>[(1136,MP 178 (fun n:Int=>Value.int .i64 n) (fun _:Unit=>.agg []) j110.1),(1137,.vec 3 1 j110.2.length (j110.2.map G0)),(1130,.box 178 [.mp 1136]),(1131,.box 50 [.vec 1137 j110.2.length 1 j110.2.length]),(1132,.box 179 [.fn 97 (K0 p3 p4)])]) (fun Kj110 ej110=>?_) ?_
         ·
          refine Gj (Jr fun hK111=>(JLh (Eg y107) (H3 (f:=Stowed.av) (xs:=y65) (y:=y107) O O O Gy hy107 O) O (JLh (.agg (Stowed.cs y107)) (Gg Jg O O O) O (JLh (.ptr 1165 0) (Hx 1165 4 Jo O O) O (Hw (u:=.junk) (Hd (u:=.agg (Stowed.cs y107)) (ds:=[G0 y107.Gd,G0 y107.Slot.G4,G0 y107.Slot.Tier,U8 y107.Slot.Half]) Qh O O O O O O O O) (G7 (hK111 ?_)))))))
          refine Gq [(0,G0 id_),(3,.dptr [LS 1 (E1) p3]),(4,Ef p4),(5,.ptr 1132 0),(11,G0 j17),(17,Eg y107),(26,LS 1 (E1) p3),(27,Eo p3.length),(28,Eo i7),(67,LS 1 (E1) p3),(68,Eo p3.length),(69,Eo i65),(73,E1 y65),(74,Eo y65.length),(75,Eo i107)] [(1136,MP 178 (fun n:Int=>Value.int .i64 n) (fun _:Unit=>.agg []) s107.1),(1137,.vec 3 1 s107.2.length (s107.2.map G0)),(1130,.box 178 [.mp 1136]),(1131,.box 50 [.vec 1137 s107.2.length 1 s107.2.length]),(1132,.box 179 [.fn 97 (K0 p3 p4)])] 1165 rfl rfl rfl ⟨⟨_,rfl,.map⟩,⟨_,rfl,.vec⟩,⟨_,rfl,.boxEq rfl rfl⟩,⟨_,rfl,.boxEq rfl rfl⟩,⟨_,rfl,.boxEq rfl rfl⟩,ø⟩ rfl (by repeat' (first | exact .ptr | constructor)) ?_
          refine Jr fun hK112=>(Yb (G0 j17) O (JLh (BL (decide (0≤j17))) (G2f O O O) O (Yb (BL (decide (0≤j17))) O (JLo (Ef p4) [] O .sct ø (fun hc=>Ga J6 O O O) O (JLo (E4 p4.Columns) [82] O .sct ⟨Ua,ø⟩ (fun hc=>Gh Jj O O O) O (JLo (.dptr ((Stowed.cs y107).drop 1)) [] O .sct ø (fun hc=>Ga Hr O O O) O (JLo (.dptr ((Stowed.cs y107).drop 1)) [84] O .sct ⟨Ua,ø⟩ (fun hc=>Ga J9 O O O) O (JLo (G0 y107.Slot.G4) [85] O .sct ⟨Ua,ø⟩ (fun hc=>Gh Gb O O O) O ?_))))))))
          obtain⟨y113,hy113,h⟩:=Ge h
          refine JLo (Ei y113) [83,86] O .sct ⟨Ua,Ua,ø⟩ (fun hc=>(match Yz (Gx hc hy113) with | ⟨_,hm_,hy_⟩=>H3 (f:=G4.av) (xs:=p4.Columns) (y:=y113) O O O Je hy_ hm_)) O (JLo (.dptr ((G4.cs y113).drop 2)) [87] O .sct ⟨Ua,ø⟩ (fun hc=>Ga Ye O O O) O (JLo (BL y113.Deck) [88] O .sct ⟨Ua,ø⟩ (fun hc=>Gh Qm O O O) O (JLh (BL ((decide (0≤j17))&&y113.Deck)) (Qr O O O O) O (Yb (BL ((decide (0≤j17))&&y113.Deck)) O (JLo (.agg (Gw.cs p4)) [] O .sct ø (fun hc=>Gg Ho O O O) O (JLo (.dptr ((Stowed.cs y107).drop 1)) [] O .sct ø (fun hc=>Ga Hr O O O) O (JLo (.dptr ((Stowed.cs y107).drop 1)) [93] O .sct ⟨Ua,ø⟩ (fun hc=>Ga J9 O O O) O (JLo (G0 y107.Slot.G4) [94] O .sct ⟨Ua,ø⟩ (fun hc=>Gh Gb O O O) O ?_))))))))
          obtain⟨r114,hr114,h⟩:=Ge h
          refine JLo (G0 r114) [92,95] O .sct ⟨Ua,Ua,ø⟩ (fun hc=>Gv (args:=[.agg (Gw.cs p4),G0 y107.Slot.G4]) O (G3a p4 y107.Slot.G4 r114 (Gx hc hr114)) H29 ⟨O,O,O,O,ø⟩) O (JLo (G0 j17) [] O .sct ø (fun hc=>G6 O O) O (JLo (BL (decide (r114=j17))) [96,97] O .sct ⟨Ua,Ua,ø⟩ (fun hc=>Jz O O O) O (JLh (BL (((decide (0≤j17))&&y113.Deck)&&(decide (r114=j17)))) (Qr O O O O) O (G7 (hK112 (JCc O h (fun h hb=>?_) (fun h hb=>?_)))))))
          ·
           refine G3 (JLh (.fn 97 (K0 p3 p4)) (Qu H67 O O O O) O (JLh (Eg y107) (Ga J5 O O O) O (JLh (G0 y107.Gd) (Gh Gb O O O) O ?_)))
           obtain⟨r115,hr115,h⟩:=Ge h
           refine JLh (.tup []) (Gcd (args:=[G0 y107.Gd]) (caps:=(K0 p3 p4)) (L0:=[(1130,.box 178 [.mp 1136]),(1136,MP 178 (fun n:Int=>Value.int .i64 n) (fun _:Unit=>.agg []) s107.1),(1131,.box 50 [.vec 1137 s107.2.length 1 s107.2.length]),(1137,.vec 3 1 s107.2.length (s107.2.map G0)),(1132,.box 179 [.fn 97 (K0 p3 p4)])]) (Lr:=[(1130,.box 178 [.mp 1136]),(1136,MP 178 (fun n:Int=>Value.int .i64 n) (fun _:Unit=>.agg []) r115.1),(1131,.box 50 [.vec 1137 r115.2.length 1 r115.2.length]),(1137,.vec 3 1 r115.2.length (r115.2.map G0)),(1132,.box 179 [.fn 97 (K0 p3 p4)])]) O O (self_w y107.Gd s107.1 s107.2 p3 p4 r115 hr115) J22 ⟨.inl O,O,ø⟩ O ⟨O,O,O,O,O,ø⟩ O O O) O (G7 ?_)
           exact ej110 _ _ (r115.1,r115.2) h ⟨(.sm O O),⟨⟨_,rfl,.map⟩,⟨_,rfl,.vec⟩,⟨_,rfl,.boxL rfl ⟨.same rfl,ø⟩⟩,⟨_,rfl,.boxL rfl ⟨.same rfl,ø⟩⟩,⟨_,rfl,.boxL rfl ⟨.same rfl,ø⟩⟩,ø⟩,rfl⟩
          ·
           refine Gi (ej110 _ _ (s107.1,s107.2) h ⟨(.sm O O),⟨⟨_,rfl,.map⟩,⟨_,rfl,.vec⟩,⟨_,rfl,.boxL rfl ⟨.same rfl,ø⟩⟩,⟨_,rfl,.boxL rfl ⟨.same rfl,ø⟩⟩,⟨_,rfl,.boxL rfl ⟨.same rfl,ø⟩⟩,ø⟩,rfl⟩)
         ·intro j110 h
          replace h:=app1 hkj110 h
          refine G3 (JLh (G0 ((i107+1:Nat):Int)) (Hu (Hj hk107 hm74) O O O) O (Yb (G0 ((i107+1:Nat):Int)) O (G7 (e107 _ _ (i107+1) (j110.1,j110.2) (app1 hn107 h) (by omega) ⟨(.sm O O),⟨⟨_,rfl,.map⟩,⟨_,rfl,.vec⟩,⟨_,rfl,.boxL rfl ⟨.same rfl,ø⟩⟩,⟨_,rfl,.boxL rfl ⟨.same rfl,ø⟩⟩,⟨_,rfl,.boxL rfl ⟨.same rfl,ø⟩⟩,ø⟩,rfl⟩))))
        ·
         have h:=app1 hkx107 (Ht hi107 (Ha hb))
         refine Hm (hK68 (G3 (JLh (G0 ((i65+1:Nat):Int)) (Hu (Hj hk65 hm68) O O O) O (Yb (G0 ((i65+1:Nat):Int)) O (G7 (e65 _ _ (i65+1) (s107.1,s107.2) (app1 hn65 h) (by omega) ⟨(.sm O O),⟨⟨_,rfl,.map⟩,⟨_,rfl,.vec⟩,⟨_,rfl,.boxL rfl ⟨.same rfl,ø⟩⟩,⟨_,rfl,.boxL rfl ⟨.same rfl,ø⟩⟩,⟨_,rfl,.boxL rfl ⟨.same rfl,ø⟩⟩,ø⟩,rfl⟩))))))
       ·
        have h:=app1 hkx65 (Ht hi65 (Ha hb))
        refine Hm (ej10 _ _ (s65.1,s65.2) h ⟨(.sm O O),⟨⟨_,rfl,.map⟩,⟨_,rfl,.vec⟩,⟨_,rfl,.boxL rfl ⟨.same rfl,ø⟩⟩,⟨_,rfl,.boxL rfl ⟨.same rfl,ø⟩⟩,⟨_,rfl,.boxL rfl ⟨.same rfl,ø⟩⟩,ø⟩,rfl⟩)
   ·intro j10 h
    replace h:=app1 hkj10 h
    refine G3 (JLh (G0 ((i7+1:Nat):Int)) (Hu (Hj hk7 hm27) O O O) O (Yb (G0 ((i7+1:Nat):Int)) O (G7 (e7 _ _ (i7+1) (j10.1,j10.2) (app1 hn7 h) (by omega) ⟨(.sm O O),⟨⟨_,rfl,.map⟩,⟨_,rfl,.vec⟩,⟨_,rfl,.boxL rfl ⟨.same rfl,ø⟩⟩,⟨_,rfl,.boxL rfl ⟨.same rfl,ø⟩⟩,⟨_,rfl,.boxL rfl ⟨.same rfl,ø⟩⟩,ø⟩,rfl⟩))))
  ·
   have h:=app1 hkx7 (Ht hi7 (Ha hb))
   refine Hm ?_
   obtain rfl:=Option.some.inj h
   exact⟨[],[(1130,.box 178 [.mp 1136]),(1136,MP 178 (fun n:Int=>Value.int .i64 n) (fun _:Unit=>.agg []) s7.1),(1131,.box 50 [.vec 1137 s7.2.length 1 s7.2.length]),(1137,.vec 3 1 s7.2.length (s7.2.map G0)),(1132,.box 179 [.fn 97 (K0 p3 p4)])],⟨⟨_,O,.boxL O ⟨.same O,ø⟩⟩,⟨_,O,.map⟩,⟨_,O,.boxL O ⟨.same O,ø⟩⟩,⟨_,O,.vec⟩,⟨_,O,.boxL O ⟨.same O,ø⟩⟩,ø⟩,O,ø,O,O⟩
theorem J65:∀ (F:Nat) (id_:Int) (p1:H0 Int Unit) (p2:List Int) (p3:List (List Stowed)) (p4:Gw) (r:(H0 Int Unit)×(List Int)) (h:Rb F id_ p1 p2 p3 p4=some r),Jn Ep 97 [G0 id_,.ptr 1130 0,.ptr 1131 0,.dptr [LS 1 (E1) p3],Ef p4,.ptr 1132 0] [(1130,.box 178 [.mp 1136]),(1136,MP 178 (fun n:Int=>Value.int .i64 n) (fun _:Unit=>.agg []) p1),(1131,.box 50 [.vec 1137 p2.length 1 p2.length]),(1137,.vec 3 1 p2.length (p2.map G0)),(1132,.box 179 [.fn 97 [.ptr 1130 0,.ptr 1131 0,.dptr [LS 1 (E1) p3],Ef p4,.ptr 1132 0]])] (fun av L'=>av=.tup []∧L'=[(1130,.box 178 [.mp 1136]),(1136,MP 178 (fun n:Int=>Value.int .i64 n) (fun _:Unit=>.agg []) r.1),(1131,.box 50 [.vec 1137 r.2.length 1 r.2.length]),(1137,.vec 3 1 r.2.length (r.2.map G0)),(1132,.box 179 [.fn 97 [.ptr 1130 0,.ptr 1131 0,.dptr [LS 1 (E1) p3],Ef p4,.ptr 1132 0]])]):=by
 intro F
 induction F with
 | zero=>intro id_ p1 p2 p3 p4 r h; cases h
 | succ F ih=>intro id_ p1 p2 p3 p4 r h; exact J6a (Rb F) ih F id_ p1 p2 p3 p4 r h

def Z8 (F:Nat) (s:Gw) (before:List Stowed) (after:List Stowed):Option (List Int):=
 each (fun y9 i9 (s9:(H0 Int Unit)×(List Int)) nx9=>
  each (fun y59 i59 (s59:(H0 Int Unit)×(List Int)) nx59=>
   jp (fun kj62=>
    bnd (G6d before y59.Gd) fun r65=>
    bnd (G6d after y59.Gd) fun r67=>
    bif ((!(r65.2==r67.2))||(!decide (r65.1=r67.1))) then
    (bnd (Rb F y59.Gd s59.1 s59.2 [before,after] s) fun r69=>
     kj62 (r69.1,r69.2))
    else
    (kj62 (s59.1,s59.2))) fun(j62:(H0 Int Unit)×(List Int))=>
   nx59 (j62.1,j62.2))
  (fun(s59:(H0 Int Unit)×(List Int))=>
   nx9 (s59.1,s59.2)) y9 0 (s9.1,s9.2))
 (fun(s9:(H0 Int Unit)×(List Int))=>
  bnd (H9d s9.2) fun r71=>
  some r71) [before,after] 0 ((H0.empty:H0 Int Unit),[])
abbrev Ka (before:List Stowed) (after:List Stowed) (s:Gw):List AV:=[.ptr 1130 0,.ptr 1131 0,.dptr [LS 1 (E1) [before,after]],Ef s,.ptr 1132 0]
theorem Jc3 (F:Nat) (s:Gw) (before:List Stowed) (after:List Stowed) (r:(List Int)) (h:Z8 F s before after=some r):Pure Ep 63 [.agg (Gw.cs s),E1 before,E1 after] (·=E2 r):=by
 unfold Z8 at h
 refine Gz [.tmp 6] Tryz.func63 O O (Jr fun hK1=>(JLh (.ptr 1128 0) (Jm (cs:=(Gw.cs s)) 1128 O O O O O) O (JLh (E2 ([]:List Int)) (Hf 1 O O) O (G7 (hK1 ?_)))))
 refine Gq [(1,E1 before),(2,E1 after),(3,Ef s)] [] 1128 rfl rfl rfl ø rfl (by exact⟨.conv (.same rfl),.conv (.same rfl),.ptr,ø⟩) ?_
 refine Jr fun hK2=>(Yb (E1 before) O (Yb (E1 after) O (JLh (LS 1 (E1) [before,after]) (H6 (xs:=[E1 before,E1 after]) O ⟨O,O,O,O,ø⟩ Qd Hc2 O O O O) O (JLh (.ptr 1129 0) (Hx 1129 1 Q6b O O) O (Hw (u:=.junk) (Hd (u:=LS 1 (E1) [before,after]) (ds:=[LS 1 (E1) [before,after]]) Jde O O O O O O O O) (G7 (hK2 ?_)))))))
 refine Gq [(1,E1 before),(2,E1 after),(3,Ef s),(7,.dptr [LS 1 (E1) [before,after]])] [] 1129 rfl rfl rfl ø rfl (by repeat' (first | exact .ptr | constructor)) (Jr fun hK3=>(JLh (.mp 1136) (Ge0 1136 (fun n:Int=>Value.int .i64 n) (fun _:Unit=>.agg []) O O) O (JLh (.ptr 1130 0) (Hx 1130 1 Q5e O O) O (Hw (u:=.junk) (Hd (u:=.mp 1136) (ds:=[.mp 1136]) Q74 O O O O O O O O) (G7 (hK3 ?_))))))
 refine Jr fun hK4=>(JLh (.ptr 1131 0) (G54 1131 [.sc (.slice none 0 0)] [.slice none 0 0] Qa5 ⟨.inl O,ø⟩ O O) O (Qe5 1131 0 1137 3 1 O O O (cs':=[.vec 1137 (([]:List Int).length) 1 (([]:List Int).length)]) O (G7 (hK4 (Jr fun hK5=>(JLh (.ptr 1132 0) (Hx 1132 1 Q5d O O) O (G7 (hK5 ?_))))))))
 refine Jr fun hK6=>(JLh (.fn 97 (Ka before after s)) (Z1 (cs:=(Ka before after s)) O O) O (Hw (u:=.junk) (Hd (u:=.fn 97 (Ka before after s)) (ds:=[.fn 97 (Ka before after s)]) Q73 O O O O O O O O) (G7 (hK6 ?_))))
 refine Js fun hK7=>Jr fun hK8=>(JLh (LS 1 (E1) [before,after]) (Gh Zy O O O) O (JLl Qd O O O fun hm25=>(Yb (G0 0) O (G7 (hK8 (Gj ?_))))))
 obtain⟨b9,kx9,hb9,hkx9,h⟩:=J2 h
 refine Hb (fun i9 (s9:(H0 Int Unit)×(List Int))=>each b9 kx9 (List.drop i9 [before,after]) i9 s9=some r) (fun i9 s9=>[(1,E1 before),(2,E1 after),(9,.ptr 1131 0),(10,.ptr 1132 0),(24,LS 1 (E1) [before,after]),(25,G0 ([before,after].length:Int)),(26,Eo i9)]) (fun i9 s9=>[(1136,MP 178 (fun n:Int=>Value.int .i64 n) (fun _:Unit=>.agg []) s9.1),(1137,.vec 3 1 s9.2.length (s9.2.map G0)),(1130,.box 178 [.mp 1136]),(1131,.box 50 [.vec 1137 s9.2.length 1 s9.2.length]),(1132,.box 179 [.fn 97 (Ka before after s)])]) (fun i9=>[before,after].length - i9) 0 ((H0.empty:H0 Int Unit),[]) h ⟨(.sm O O),⟨⟨_,rfl,.map⟩,⟨_,rfl,.vec⟩,⟨_,rfl,.boxL rfl ⟨.same rfl,ø⟩⟩,⟨_,rfl,.boxL rfl ⟨.same rfl,ø⟩⟩,⟨_,rfl,.boxL rfl ⟨.same rfl,ø⟩⟩,ø⟩,rfl⟩ ?_
 clear h
 intro i9 s9 hi9 K9 e9
 refine Jr fun hK10=>(JLh (BL (decide ((i9:Int) < ([before,after].length:Int)))) (J0 O O O) O (G7 (hK10 (Js fun hK11=>Gf O (fun hb=>?_) (fun hb=>?_)))))
 ·
  have hk9:=Jk hb
  obtain⟨y9,nx9,hy9,hn9,h⟩:=Hs hi9 hk9
  replace h:=Y4 hb9 h
  refine Gi (hK11 (Js fun hK12=>Gj (Jr fun hK13=>(JLh (.dptr [E1 y9]) (H3 (f:=(E1)) (xs:=[before,after]) (y:=y9) O O O Qd hy9 O) O (JLh (E1 y9) (Gh Rw O O O) O (Yb (E1 y9) O (G7 (hK13 (Jr fun hK14=>(Yb (E1 y9) O (JLl Gy O O O fun hm31=>(Yb (G0 0) O (G7 (hK14 (Gj ?_)))))))))))))))
  obtain⟨b59,kx59,hb59,hkx59,h⟩:=J2 h
  refine Hb (fun i59 (s59:(H0 Int Unit)×(List Int))=>each b59 kx59 (List.drop i59 y9) i59 s59=some r) (fun i59 s59=>[(1,E1 before),(2,E1 after),(9,.ptr 1131 0),(10,.ptr 1132 0),(24,LS 1 (E1) [before,after]),(25,G0 ([before,after].length:Int)),(26,Eo i9),(30,E1 y9),(31,Eo y9.length),(32,Eo i59)]) (fun i59 s59=>[(1136,MP 178 (fun n:Int=>Value.int .i64 n) (fun _:Unit=>.agg []) s59.1),(1137,.vec 3 1 s59.2.length (s59.2.map G0)),(1130,.box 178 [.mp 1136]),(1131,.box 50 [.vec 1137 s59.2.length 1 s59.2.length]),(1132,.box 179 [.fn 97 (Ka before after s)])]) (fun i59=>y9.length - i59) 0 (s9.1,s9.2) h ⟨(.sm O O),⟨⟨_,rfl,.map⟩,⟨_,rfl,.vec⟩,⟨_,rfl,.boxL rfl ⟨.same rfl,ø⟩⟩,⟨_,rfl,.boxL rfl ⟨.same rfl,ø⟩⟩,⟨_,rfl,.boxL rfl ⟨.same rfl,ø⟩⟩,ø⟩,rfl⟩ ?_
  clear h
  intro i59 s59 hi59 K59 e59
  refine Jr fun hK60=>(JLh (BL (decide ((i59:Int) < (y9.length:Int)))) (J0 O O O) O (G7 (hK60 (Js fun hK61=>Gf O (fun hb=>?_) (fun hb=>?_)))))
  ·
   have hk59:=Jk hb
   obtain⟨y59,nx59,hy59,hn59,h⟩:=Hs hi59 hk59
   replace h:=Y4 hb59 h
   refine Gi (hK61 ?_)
   obtain⟨kj62,hkj62,h⟩:=Qo h
   refine Jx (fun j62:(H0 Int Unit)×(List Int)=>kj62 j62=some r) (fun j62=>[(1,E1 before),(2,E1 after),(9,.ptr 1131 0),(10,.ptr 1132 0),(24,LS 1 (E1) [before,after]),(25,G0 ([before,after].length:Int)),(26,Eo i9),(30,E1 y9),(31,Eo y9.length),(32,Eo i59)]) (fun j62=>[(1136,MP 178 (fun n:Int=>Value.int .i64 n) (fun _:Unit=>.agg []) j62.1),(1137,.vec 3 1 j62.2.length (j62.2.map G0)),(1130,.box 178 [.mp 1136]),(1131,.box 50 [.vec 1137 j62.2.length 1 j62.2.length]),(1132,.box 179 [.fn 97 (Ka before after s)])]) (fun Kj62 ej62=>?_) ?_
   ·
    refine Gj (Jr fun hK63=>(JLh (Eg y59) (H3 (f:=Stowed.av) (xs:=y9) (y:=y59) O O O Gy hy59 O) O (JLh (.agg (Stowed.cs y59)) (Gg Jg O O O) O (JLh (.ptr 1133 0) (Hx 1133 4 Jo O O) O (Hw (u:=.junk) (Hd (u:=.agg (Stowed.cs y59)) (ds:=[G0 y59.Gd,G0 y59.Slot.G4,G0 y59.Slot.Tier,U8 y59.Slot.Half]) Qh O O O O O O O O) (G7 (hK63 ?_)))))))
    refine Gq [(1,E1 before),(2,E1 after),(9,.ptr 1131 0),(10,.ptr 1132 0),(14,Eg y59),(24,LS 1 (E1) [before,after]),(25,G0 ([before,after].length:Int)),(26,Eo i9),(30,E1 y9),(31,Eo y9.length),(32,Eo i59)] [(1136,MP 178 (fun n:Int=>Value.int .i64 n) (fun _:Unit=>.agg []) s59.1),(1137,.vec 3 1 s59.2.length (s59.2.map G0)),(1130,.box 178 [.mp 1136]),(1131,.box 50 [.vec 1137 s59.2.length 1 s59.2.length]),(1132,.box 179 [.fn 97 (Ka before after s)])] 1133 rfl rfl rfl ⟨⟨_,rfl,.map⟩,⟨_,rfl,.vec⟩,⟨_,rfl,.boxEq rfl rfl⟩,⟨_,rfl,.boxEq rfl rfl⟩,⟨_,rfl,.boxEq rfl rfl⟩,ø⟩ rfl (by repeat' (first | exact .ptr | constructor)) ?_
    refine Jr fun hK64=>(Yb (E1 before) O (JLh (Eg y59) (Ga J5 O O O) O (JLh (G0 y59.Gd) (Gh Gb O O O) O ?_)))
    obtain⟨r65,hr65,h⟩:=Ge h
    refine JLh (.tup [.agg (Slot.cs r65.1),BL r65.2]) (Gv O (H77 before y59.Gd r65 hr65) J21 ⟨O,O,O,O,ø⟩) O (Yb (.tup [.agg (Slot.cs r65.1),BL r65.2]) O (JLh (.agg (Slot.cs r65.1)) (Hk O O O) O (JLh (BL r65.2) (Hk O O O) O (JLh (.ptr 1134 0) (Hx 1134 3 G17 O O) O (Hw (u:=.junk) (Hd (u:=.agg (Slot.cs r65.1)) (ds:=[G0 r65.1.G4,G0 r65.1.Tier,U8 r65.1.Half]) G44 O O O O O O O O) (Yb (BL r65.2) O (G7 (hK64 ?_))))))))
    refine Gq [(1,E1 before),(2,E1 after),(9,.ptr 1131 0),(10,.ptr 1132 0),(14,Eg y59),(15,Ek r65.1),(16,BL r65.2),(24,LS 1 (E1) [before,after]),(25,G0 ([before,after].length:Int)),(26,Eo i9),(30,E1 y9),(31,Eo y9.length),(32,Eo i59)] [(1136,MP 178 (fun n:Int=>Value.int .i64 n) (fun _:Unit=>.agg []) s59.1),(1137,.vec 3 1 s59.2.length (s59.2.map G0)),(1130,.box 178 [.mp 1136]),(1131,.box 50 [.vec 1137 s59.2.length 1 s59.2.length]),(1132,.box 179 [.fn 97 (Ka before after s)])] 1134 rfl rfl rfl ⟨⟨_,rfl,.map⟩,⟨_,rfl,.vec⟩,⟨_,rfl,.boxEq rfl rfl⟩,⟨_,rfl,.boxEq rfl rfl⟩,⟨_,rfl,.boxEq rfl rfl⟩,ø⟩ rfl (by repeat' (first | exact .ptr | constructor)) ?_
    refine Jr fun hK66=>(Yb (E1 after) O (JLh (Eg y59) (Ga J5 O O O) O (JLh (G0 y59.Gd) (Gh Gb O O O) O ?_)))
    obtain⟨r67,hr67,h⟩:=Ge h
    refine JLh (.tup [.agg (Slot.cs r67.1),BL r67.2]) (Gv O (H77 after y59.Gd r67 hr67) J21 ⟨O,O,O,O,ø⟩) O (Yb (.tup [.agg (Slot.cs r67.1),BL r67.2]) O (JLh (.agg (Slot.cs r67.1)) (Hk O O O) O (JLh (BL r67.2) (Hk O O O) O (JLh (.ptr 1135 0) (Hx 1135 3 G17 O O) O (Hw (u:=.junk) (Hd (u:=.agg (Slot.cs r67.1)) (ds:=[G0 r67.1.G4,G0 r67.1.Tier,U8 r67.1.Half]) G44 O O O O O O O O) (Yb (BL r67.2) O (G7 (hK66 ?_))))))))
    refine Gq [(1,E1 before),(2,E1 after),(9,.ptr 1131 0),(10,.ptr 1132 0),(14,Eg y59),(15,Ek r65.1),(16,BL r65.2),(17,Ek r67.1),(18,BL r67.2),(24,LS 1 (E1) [before,after]),(25,G0 ([before,after].length:Int)),(26,Eo i9),(30,E1 y9),(31,Eo y9.length),(32,Eo i59)] [(1136,MP 178 (fun n:Int=>Value.int .i64 n) (fun _:Unit=>.agg []) s59.1),(1137,.vec 3 1 s59.2.length (s59.2.map G0)),(1130,.box 178 [.mp 1136]),(1131,.box 50 [.vec 1137 s59.2.length 1 s59.2.length]),(1132,.box 179 [.fn 97 (Ka before after s)])] 1135 rfl rfl rfl ⟨⟨_,rfl,.map⟩,⟨_,rfl,.vec⟩,⟨_,rfl,.boxEq rfl rfl⟩,⟨_,rfl,.boxEq rfl rfl⟩,⟨_,rfl,.boxEq rfl rfl⟩,ø⟩ rfl (by repeat' (first | exact .ptr | constructor)) ?_
    refine Jr fun hK68=>(Yb (BL r65.2) O (Yb (BL r67.2) O (JLh (BL (!(r65.2==r67.2))) (A_neBool H7a O O O) O (Yb (BL (!(r65.2==r67.2))) O (JLo (.agg (Slot.cs r65.1)) [] O .scf ø (fun hc=>Gg Jh O O O) O (JLo (.agg (Slot.cs r67.1)) [] O .scf ø (fun hc=>Gg Jh O O O) O (JLo (BL (!decide (r65.1=r67.1))) [54,55] O .scf ⟨Ua,Ua,ø⟩ (fun hc=>Q65 (vs:=[.int .i64 r65.1.G4,.int .i64 r65.1.Tier,.int .u8 r65.1.Half]) (us:=[.int .i64 r67.1.G4,.int .i64 r67.1.Tier,.int .u8 r67.1.Half]) 4 O (tq_54 r65.1 r67.1) J96 Q56 O O O) O (JLh (BL ((!(r65.2==r67.2))||(!decide (r65.1=r67.1)))) (G0b O O O O) O (G7 (hK68 (JCc O h (fun h hb=>?_) (fun h hb=>?_))))))))))))
    ·
     refine G3 (JLh (.fn 97 (Ka before after s)) (Qu H67 O O O O) O (JLh (Eg y59) (Ga J5 O O O) O (JLh (G0 y59.Gd) (Gh Gb O O O) O ?_)))
     obtain⟨r69,hr69,h⟩:=Ge h
     refine JLh (.tup []) (Gcd (args:=[G0 y59.Gd]) (caps:=(Ka before after s)) (L0:=[(1130,.box 178 [.mp 1136]),(1136,MP 178 (fun n:Int=>Value.int .i64 n) (fun _:Unit=>.agg []) s59.1),(1131,.box 50 [.vec 1137 s59.2.length 1 s59.2.length]),(1137,.vec 3 1 s59.2.length (s59.2.map G0)),(1132,.box 179 [.fn 97 (Ka before after s)])]) (Lr:=[(1130,.box 178 [.mp 1136]),(1136,MP 178 (fun n:Int=>Value.int .i64 n) (fun _:Unit=>.agg []) r69.1),(1131,.box 50 [.vec 1137 r69.2.length 1 r69.2.length]),(1137,.vec 3 1 r69.2.length (r69.2.map G0)),(1132,.box 179 [.fn 97 (Ka before after s)])]) O O (J65 F y59.Gd s59.1 s59.2 [before,after] s r69 hr69) J22 ⟨.inl O,O,ø⟩ O ⟨O,O,O,O,O,ø⟩ O O O) O (G7 ?_)
     exact ej62 _ _ (r69.1,r69.2) h ⟨(.sm O O),⟨⟨_,rfl,.map⟩,⟨_,rfl,.vec⟩,⟨_,rfl,.boxL rfl ⟨.same rfl,ø⟩⟩,⟨_,rfl,.boxL rfl ⟨.same rfl,ø⟩⟩,⟨_,rfl,.boxL rfl ⟨.same rfl,ø⟩⟩,ø⟩,rfl⟩
    ·
     refine Gi (ej62 _ _ (s59.1,s59.2) h ⟨(.sm O O),⟨⟨_,rfl,.map⟩,⟨_,rfl,.vec⟩,⟨_,rfl,.boxL rfl ⟨.same rfl,ø⟩⟩,⟨_,rfl,.boxL rfl ⟨.same rfl,ø⟩⟩,⟨_,rfl,.boxL rfl ⟨.same rfl,ø⟩⟩,ø⟩,rfl⟩)
   ·intro j62 h
    replace h:=app1 hkj62 h
    refine G3 (JLh (G0 ((i59+1:Nat):Int)) (Hu (Hj hk59 hm31) O O O) O (Yb (G0 ((i59+1:Nat):Int)) O (G7 (e59 _ _ (i59+1) (j62.1,j62.2) (app1 hn59 h) (by omega) ⟨(.sm O O),⟨⟨_,rfl,.map⟩,⟨_,rfl,.vec⟩,⟨_,rfl,.boxL rfl ⟨.same rfl,ø⟩⟩,⟨_,rfl,.boxL rfl ⟨.same rfl,ø⟩⟩,⟨_,rfl,.boxL rfl ⟨.same rfl,ø⟩⟩,ø⟩,rfl⟩))))
  ·
   have h:=app1 hkx59 (Ht hi59 (Ha hb))
   refine Hm (hK12 (G3 (JLh (G0 ((i9+1:Nat):Int)) (Hu (Hj hk9 hm25) O O O) O (Yb (G0 ((i9+1:Nat):Int)) O (G7 (e9 _ _ (i9+1) (s59.1,s59.2) (app1 hn9 h) (by omega) ⟨(.sm O O),⟨⟨_,rfl,.map⟩,⟨_,rfl,.vec⟩,⟨_,rfl,.boxL rfl ⟨.same rfl,ø⟩⟩,⟨_,rfl,.boxL rfl ⟨.same rfl,ø⟩⟩,⟨_,rfl,.boxL rfl ⟨.same rfl,ø⟩⟩,ø⟩,rfl⟩))))))
 ·
  have h:=app1 hkx9 (Ht hi9 (Ha hb))
  refine Hm (hK7 (Jr fun hK70=>(JLh (.vec 1137 s9.2.length 1 s9.2.length) (Qu Z3 O O O O) O ?_)))
  obtain⟨r71,hr71,h⟩:=Ge h
  refine JLh (.tup []) (A_sortI (F:=101) (xs:=s9.2) (r:=r71) O sortILaw_101 sortINone_101 Q94 O O O hr71 O) O (G7 (hK70 (Jr fun hK72=>(JLh (.vec 1137 s9.2.length 1 s9.2.length) (Qu Z3 O O O O) O (Yb (.vec 1137 s9.2.length 1 s9.2.length) O (G7 (hK72 (J3a [(6,E2 r71)] [] 1137 rfl rfl ø rfl (by exact⟨.vec,ø⟩) (Gs (fin1 (fun r:(List Int)=>(E2 r:AV)) h))))))))))

def Z9 (F:Nat) (s:Gw) (boxes:List Gd) (before:List Stowed) (after:List Stowed):Option ((List Int)×Int):=
 bnd (Re s boxes before) fun r4=>
 bnd (bif (!(!r4)) then Re s boxes after else some default) fun r5=>
 bif ((!r4)||(!r5)) then
 (some ([],2))
 else
 (bnd (Z8 F s before after) fun r8=>
  some (r8,0))
theorem Jc5 (F:Nat) (s:Gw) (boxes:List Gd) (before:List Stowed) (after:List Stowed) (r:(List Int)×Int) (h:Z9 F s boxes before after=some r):Pure Ep 34 [.agg (Gw.cs s),E3 boxes,E1 before,E1 after] (·=.tup [E2 r.1,G0 r.2]):=by
 unfold Z9 at h
 refine Gz [.tmp 8,.tmp 9] Tryz.func34 O O (Jr fun hK1=>(JLh (.ptr 1095 0) (Jm (cs:=(Gw.cs s)) 1095 O O O O O) O (JLh (E2 ([]:List Int)) (Hf 1 O O) O (Yb (G0 0) O (G7 (hK1 ?_))))))
 refine Gq [(1,E3 boxes),(2,E1 before),(3,E1 after),(4,Ef s)] [] 1095 rfl rfl rfl ø rfl (by repeat' (first | exact .ptr | constructor)) (Js fun hK2=>Jr fun hK3=>(JLh (.agg (Gw.cs s)) (Gg Ho O O O) O (Yb (E3 boxes) O (Yb (E1 before) O ?_))))
 obtain⟨r4,hr4,h⟩:=Ge h
 refine JLh (BL r4) (Gv O (G35 s boxes before r4 hr4) Gd6 ⟨O,O,O,O,O,O,ø⟩) O (JLh (BL (!r4)) (Rv (b:=r4) O O) O (Yb (BL (!r4)) O (JLo (.agg (Gw.cs s)) [] O .scf ø (fun hc=>Gg Ho O O O) O (JLo (E3 boxes) [] O .scf ø (fun hc=>G6 O O) O (JLo (E1 after) [] O .scf ø (fun hc=>G6 O O) O ?_)))))
 obtain⟨r5,hr5,h⟩:=Ge h
 refine JLo (BL r5) [16,17,18] O .scf ⟨Ua,Ua,Ua,ø⟩ (fun hc=>Gv (args:=[.agg (Gw.cs s),E3 boxes,E1 after]) O (G35 s boxes after r5 (Gx hc hr5)) Gd6 ⟨O,O,O,O,O,O,ø⟩) O (JLo (BL (!r5)) [19] O .scf ⟨Ua,ø⟩ (fun hc=>Rv (b:=r5) O O) O (JLh (BL ((!r4)||(!r5))) (G0b O O O O) O (G7 (hK3 (JCc O h (fun h hb=>?_) (fun h hb=>?_))))))
 ·
  refine Jr fun hK6=>(JLh (E2 ([]:List Int)) (Hf 1 O O) O (Yb (G0 2) O (G7 (hK6 (Gs (⟨[E2 ([]:List Int),G0 2],[],ø,O,⟨⟨_,O,.conv (.same O)⟩,⟨_,O,.conv (.same O)⟩,ø⟩,O,congrArg (fun r:(List Int)×Int=>(.tup [E2 r.1,G0 r.2]:AV)) (Option.some.inj h)⟩))))))
 ·
  refine Gi (hK2 (Jr fun hK7=>(JLh (.agg (Gw.cs s)) (Gg Ho O O O) O (Yb (E1 before) O (Yb (E1 after) O ?_)))))
  obtain⟨r8,hr8,h⟩:=Ge h
  refine JLh (E2 r8) (Gv O (Jc3 F s before after r8 hr8) Qbf ⟨O,O,O,O,O,O,ø⟩) O (Yb (E2 r8) O (Yb (G0 0) O (G7 (hK7 (Gs (⟨[E2 r8,G0 0],[],ø,O,⟨⟨_,O,.conv (.same O)⟩,⟨_,O,.conv (.same O)⟩,ø⟩,O,congrArg (fun r:(List Int)×Int=>(.tup [E2 r.1,G0 r.2]:AV)) (Option.some.inj h)⟩))))))
end
end Go.Proofs.YtknalejjpofoaaaGreat
