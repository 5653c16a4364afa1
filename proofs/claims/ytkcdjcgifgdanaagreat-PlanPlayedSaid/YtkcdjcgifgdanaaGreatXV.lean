/-
 Models of functions of the program,and that they return what the models say.
-/
import Derived.Test.YtkcdjcgifgdanaaGreatXVb
set_option linter.unnecessarySimpa false
set_option maxRecDepth 100000
set_option maxHeartbeats 1000000
set_option linter.unusedVariables false
set_option linter.unusedSimpArgs false
namespace Go.Proofs.YtkcdjcgifgdanaaGreat
open Go.RowKit
noncomputable section
open XAF
open XCF
open XVF

def Yx (self_:Int→(H5 Int Unit)→(List Int)→(List (List Stowed))→Gw→Option ((H5 Int Unit)×(List Int))) (F:Nat) (id_:Int) (p1:H5 Int Unit) (p2:List Int) (p3:List (List Stowed)) (p4:Gw):Option ((H5 Int Unit)×(List Int)):=
 bnd (Zi p1 id_) fun r3=>
 bif (!r3.1) then
 (some (r3.2,p2))
 else
 (need (decide ((p2.length+[id_].length)*8≤140737488355328∧p2.length+[id_].length≤maxLen)) <|
  each (fun y7 i7 (s7:(H5 Int Unit)×(List Int)) nx7=>
   jp (fun kj10=>
    bnd (Zw y7 id_) fun r13=>
    bif (!r13.2) then
    (kj10 (s7.1,s7.2))
    else
    (jp (fun kj17=>
      Rx p4.Columns r13.1.G4 fun y19=>
      bif (!y19.Deck) then
      (bnd (Ri p4 r13.1.G4) fun r21=>
       kj17 r21)
      else
      (kj17 (-1))) fun(j17:Int)=>
     each (fun y56 i56 (s56:(H5 Int Unit)×(List Int)) nx56=>
      jp (fun kj59=>
       bnd (G72 y56.Slot r13.1) fun r62=>
       bif r62 then
       (bnd (self_ y56.Gd s56.1 s56.2 p3 p4) fun r63=>
        kj59 (r63.1,r63.2))
       else
       (kj59 (s56.1,s56.2))) fun(j59:(H5 Int Unit)×(List Int))=>
      nx56 (j59.1,j59.2))
     (fun(s56:(H5 Int Unit)×(List Int))=>
      each (fun y65 i65 (s65:(H5 Int Unit)×(List Int)) nx65=>
       each (fun y107 i107 (s107:(H5 Int Unit)×(List Int)) nx107=>
        jp (fun kj110=>
         bnd (bif decide (0≤j17) then Rx p4.Columns y107.Slot.G4 some else some default) fun y113=>
         bnd (bif ((decide (0≤j17))&&y113.Deck) then Ri p4 y107.Slot.G4 else some default) fun r114=>
         bif (((decide (0≤j17))&&y113.Deck)&&(decide (r114=j17))) then
         (bnd (self_ y107.Gd s107.1 s107.2 p3 p4) fun r115=>
          kj110 (r115.1,r115.2))
         else
         (kj110 (s107.1,s107.2))) fun(j110:(H5 Int Unit)×(List Int))=>
        nx107 (j110.1,j110.2))
       (fun(s107:(H5 Int Unit)×(List Int))=>
        nx65 (s107.1,s107.2)) y65 0 (s65.1,s65.2))
      (fun(s65:(H5 Int Unit)×(List Int))=>
       kj10 (s65.1,s65.2)) p3 0 (s56.1,s56.2)) y7 0 (s7.1,s7.2))) fun(j10:(H5 Int Unit)×(List Int))=>
   nx7 (j10.1,j10.2))
  (fun(s7:(H5 Int Unit)×(List Int))=>
   some (s7.1,s7.2)) p3 0 (r3.2,(p2++[id_])))
def Qy:Nat→Int→(H5 Int Unit)→(List Int)→(List (List Stowed))→Gw→Option ((H5 Int Unit)×(List Int))
 | 0,_,_,_,_,_=>none
 | F+1,id_,p1,p2,p3,p4=>Yx (Qy F) F id_ p1 p2 p3 p4
theorem Hea (self_:Int→(H5 Int Unit)→(List Int)→(List (List Stowed))→Gw→Option ((H5 Int Unit)×(List Int))) (self_w:∀ (id_:Int) (p1:H5 Int Unit) (p2:List Int) (p3:List (List Stowed)) (p4:Gw) (r:(H5 Int Unit)×(List Int)),self_ id_ p1 p2 p3 p4=some r→Qc Ej 49 [G0 id_,.ptr 1067 0,.ptr 1068 0,.dptr [LS 1 (E0) p3],Ec p4,.ptr 1069 0] [(1067,.box 117 [.mp 1073]),(1073,MP 117 (fun n:Int=>Value.int .i64 n) (fun _:Unit=>.agg []) p1),(1068,.box 50 [.vec 1074 p2.length 1 p2.length]),(1074,.vec 3 1 p2.length (p2.map G0)),(1069,.box 118 [.fn 49 [.ptr 1067 0,.ptr 1068 0,.dptr [LS 1 (E0) p3],Ec p4,.ptr 1069 0]])] (fun av L'=>av=.tup []∧L'=[(1067,.box 117 [.mp 1073]),(1073,MP 117 (fun n:Int=>Value.int .i64 n) (fun _:Unit=>.agg []) r.1),(1068,.box 50 [.vec 1074 r.2.length 1 r.2.length]),(1074,.vec 3 1 r.2.length (r.2.map G0)),(1069,.box 118 [.fn 49 [.ptr 1067 0,.ptr 1068 0,.dptr [LS 1 (E0) p3],Ec p4,.ptr 1069 0]])])) (F:Nat) (id_:Int) (p1:H5 Int Unit) (p2:List Int) (p3:List (List Stowed)) (p4:Gw) (r:(H5 Int Unit)×(List Int)) (h:Yx self_ F id_ p1 p2 p3 p4=some r):Qc Ej 49 [G0 id_,.ptr 1067 0,.ptr 1068 0,.dptr [LS 1 (E0) p3],Ec p4,.ptr 1069 0] [(1067,.box 117 [.mp 1073]),(1073,MP 117 (fun n:Int=>Value.int .i64 n) (fun _:Unit=>.agg []) p1),(1068,.box 50 [.vec 1074 p2.length 1 p2.length]),(1074,.vec 3 1 p2.length (p2.map G0)),(1069,.box 118 [.fn 49 [.ptr 1067 0,.ptr 1068 0,.dptr [LS 1 (E0) p3],Ec p4,.ptr 1069 0]])] (fun av L'=>av=.tup []∧L'=[(1067,.box 117 [.mp 1073]),(1073,MP 117 (fun n:Int=>Value.int .i64 n) (fun _:Unit=>.agg []) r.1),(1068,.box 50 [.vec 1074 r.2.length 1 r.2.length]),(1074,.vec 3 1 r.2.length (r.2.map G0)),(1069,.box 118 [.fn 49 [.ptr 1067 0,.ptr 1068 0,.dptr [LS 1 (E0) p3],Ec p4,.ptr 1069 0]])]):=by
 unfold Yx at h
 refine Yy [1067,1073,1068,1074,1069] [] Tryz.func49 O O (H47 O) (Js fun hK1=>Jr fun hK2=>(JLh (.mp 1073) (Qj Jae O O O O) O (Ru (G0 id_) O ?_)))
 obtain⟨r3,hr3,h⟩:=Ge h
 refine JLh (BL r3.1) (G33 (args:=[.mp 1073,G0 id_]) (L0:=[(1073,MP 117 (fun n:Int=>Value.int .i64 n) (fun _:Unit=>.agg []) p1)]) (Lr:=[(1073,MP 117 (fun n:Int=>Value.int .i64 n) (fun _:Unit=>.agg []) r3.2)]) O (Gb3 p1 id_ r3 hr3) Q0c ⟨.inl O,O,.inl O,O,G⟩ ⟨O,G⟩ O O O) O (JLh (BL (!r3.1)) (Rj (b:=r3.1) O O) O (G7 (hK2 (JCc O h (fun h hb=>?_) (fun h hb=>?_)))))
 ·
  refine Gr ?_
  obtain rfl:=Option.some.inj h
  exact⟨[],[(1067,.box 117 [.mp 1073]),(1073,MP 117 (fun n:Int=>Value.int .i64 n) (fun _:Unit=>.agg []) r3.2),(1068,.box 50 [.vec 1074 p2.length 1 p2.length]),(1074,.vec 3 1 p2.length (p2.map G0)),(1069,.box 118 [.fn 49 [.ptr 1067 0,.ptr 1068 0,.dptr [LS 1 (E0) p3],Ec p4,.ptr 1069 0]])],⟨⟨_,O,.boxL O ⟨.same O,G⟩⟩,⟨_,O,.map⟩,⟨_,O,.boxL O ⟨.same O,G⟩⟩,⟨_,O,.vec⟩,⟨_,O,.boxL O ⟨.same O,G⟩⟩,G⟩,O,G,O,O⟩
 ·
  refine Gn (hK1 (Jr fun hK4=>(JLh (.vec 1074 p2.length 1 p2.length) (Qj Q1 O O O O) O (Ru (G0 id_) O (JLh (E1 [id_]) (H9 (xs:=[G0 id_]) O ⟨O,O,G⟩ Gv Y0 O O O O) O ?_)))))
  obtain⟨ha5,h⟩:=Jj h
  refine JLh (.vec 1074 ((p2++[id_]).length) 1 ((p2++[id_]).length)) (Ge9 (f:=G0) (xs:=p2) (ys:=[id_]) (ver:=p2.length) (ver1:=(p2++[id_]).length) rfl rfl rfl rfl Gv G43 ha5 (fun _=>rfl) (.inl rfl) (by simp)) O (Hs (u:=.junk) (Ha (u:=.vec 1074 ((p2++[id_]).length) 1 ((p2++[id_]).length)) (ds:=[.vec 1074 ((p2++[id_]).length) 1 ((p2++[id_]).length)]) Jee O O O O O O O O) (G7 (hK4 (Jr fun hK6=>(JLh (LS 1 (E0) p3) (Gf Y2 O O O) O (JLl J9 O O O fun hm27=>(Ru (G0 0) O (G7 (hK6 (Gq ?_))))))))))
  obtain⟨b7,kx7,hb7,hkx7,h⟩:=Hx h
  refine Hg (fun i7 (s7:(H5 Int Unit)×(List Int))=>each b7 kx7 (List.drop i7 p3) i7 s7=some r) (fun i7 s7=>[(0,G0 id_),(3,.dptr [LS 1 (E0) p3]),(4,Ec p4),(5,.ptr 1069 0),(26,LS 1 (E0) p3),(27,Ei p3.length),(28,Ei i7)]) (fun i7 s7=>[(1073,MP 117 (fun n:Int=>Value.int .i64 n) (fun _:Unit=>.agg []) s7.1),(1074,.vec 3 1 s7.2.length (s7.2.map G0)),(1067,.box 117 [.mp 1073]),(1068,.box 50 [.vec 1074 s7.2.length 1 s7.2.length]),(1069,.box 118 [.fn 49 [.ptr 1067 0,.ptr 1068 0,.dptr [LS 1 (E0) p3],Ec p4,.ptr 1069 0]])]) (fun i7=>p3.length - i7) 0 (r3.2,(p2++[id_])) h ⟨(by repeat' constructor),⟨⟨_,rfl,.map⟩,⟨_,rfl,.vec⟩,⟨_,rfl,.boxL rfl ⟨.same rfl,G⟩⟩,⟨_,rfl,.boxL rfl ⟨.same rfl,G⟩⟩,⟨_,rfl,.boxL rfl ⟨.same rfl,G⟩⟩,G⟩,rfl⟩ ?_
  clear h
  intro i7 s7 hi7 K7 e7
  refine Jr fun hK8=>(JLh (BL (decide ((i7:Int) < (p3.length:Int)))) (Hz O O O) O (G7 (hK8 (Js fun hK9=>Gk O (fun hb=>?_) (fun hb=>?_)))))
  ·
   have hk7:=Jb hb
   obtain⟨y7,nx7,hy7,hn7,h⟩:=Ho hi7 hk7
   replace h:=Rw hb7 h
   refine Gn (hK9 ?_)
   obtain⟨kj10,hkj10,h⟩:=Rg h
   refine Qg (fun j10:(H5 Int Unit)×(List Int)=>kj10 j10=some r) (fun j10=>[(0,G0 id_),(3,.dptr [LS 1 (E0) p3]),(4,Ec p4),(5,.ptr 1069 0),(26,LS 1 (E0) p3),(27,Ei p3.length),(28,Ei i7)]) (fun j10=>[(1073,MP 117 (fun n:Int=>Value.int .i64 n) (fun _:Unit=>.agg []) j10.1),(1074,.vec 3 1 j10.2.length (j10.2.map G0)),(1067,.box 117 [.mp 1073]),(1068,.box 50 [.vec 1074 j10.2.length 1 j10.2.length]),(1069,.box 118 [.fn 49 [.ptr 1067 0,.ptr 1068 0,.dptr [LS 1 (E0) p3],Ec p4,.ptr 1069 0]])]) (fun Kj10 ej10=>?_) ?_
   ·
    refine Gq (Jr fun hK11=>(JLh (.dptr [E0 y7]) (H4 (f:=(E0)) (xs:=p3) (y:=y7) O O O J9 hy7 O) O (JLh (E0 y7) (Gf Q2 O O O) O (Ru (E0 y7) O (G7 (hK11 (Jr fun hK12=>(Ru (E0 y7) O (Ru (G0 id_) O ?_)))))))))
    obtain⟨r13,hr13,h⟩:=Ge h
    refine JLh (.tup [.agg (Slot.cs r13.1),BL r13.2]) (Gt O (G08 y7 id_ r13 hr13) G69 ⟨O,O,O,O,G⟩) O (Ru (.tup [.agg (Slot.cs r13.1),BL r13.2]) O (JLh (.agg (Slot.cs r13.1)) (H6 O O O) O (JLh (BL r13.2) (H6 O O O) O (JLh (.ptr 1116 0) (Hn 1116 3 Rm O O) O (Hs (u:=.junk) (Ha (u:=.agg (Slot.cs r13.1)) (ds:=[G0 r13.1.G4,G0 r13.1.Tier,U8 r13.1.Half]) Ye O O O O O O O O) (Ru (BL r13.2) O (G7 (hK12 ?_))))))))
    refine Gp [(0,G0 id_),(3,.dptr [LS 1 (E0) p3]),(4,Ec p4),(5,.ptr 1069 0),(8,E0 y7),(9,Eg r13.1),(10,BL r13.2),(26,LS 1 (E0) p3),(27,Ei p3.length),(28,Ei i7)] [(1073,MP 117 (fun n:Int=>Value.int .i64 n) (fun _:Unit=>.agg []) s7.1),(1074,.vec 3 1 s7.2.length (s7.2.map G0)),(1067,.box 117 [.mp 1073]),(1068,.box 50 [.vec 1074 s7.2.length 1 s7.2.length]),(1069,.box 118 [.fn 49 [.ptr 1067 0,.ptr 1068 0,.dptr [LS 1 (E0) p3],Ec p4,.ptr 1069 0]])] 1116 rfl rfl rfl ⟨⟨_,rfl,.map⟩,⟨_,rfl,.vec⟩,⟨_,rfl,.boxEq rfl rfl⟩,⟨_,rfl,.boxEq rfl rfl⟩,⟨_,rfl,.boxEq rfl rfl⟩,G⟩ rfl (by repeat' (first | exact .ptr | constructor)) (Js fun hK14=>?_)
    refine Jr fun hK15=>(Ru (BL r13.2) O (JLh (BL (!r13.2)) (Rj (b:=r13.2) O O) O (G7 (hK15 (JCc O h (fun h hb=>?_) (fun h hb=>?_))))))
    ·
     refine Hr (ej10 _ _ (s7.1,s7.2) h ⟨(by repeat' constructor),⟨⟨_,rfl,.map⟩,⟨_,rfl,.vec⟩,⟨_,rfl,.boxL rfl ⟨.same rfl,G⟩⟩,⟨_,rfl,.boxL rfl ⟨.same rfl,G⟩⟩,⟨_,rfl,.boxL rfl ⟨.same rfl,G⟩⟩,G⟩,rfl⟩)
    ·
     refine Gn (hK14 (Jr fun hK16=>(Ru (G0 (-1)) O (G7 (hK16 ?_)))))
     obtain⟨kj17,hkj17,h⟩:=Rg h
     refine Qg (fun j17:Int=>kj17 j17=some r) (fun j17=>[(0,G0 id_),(3,.dptr [LS 1 (E0) p3]),(4,Ec p4),(5,.ptr 1069 0),(8,E0 y7),(9,Eg r13.1),(11,G0 j17),(26,LS 1 (E0) p3),(27,Ei p3.length),(28,Ei i7)]) (fun j17=>[(1073,MP 117 (fun n:Int=>Value.int .i64 n) (fun _:Unit=>.agg []) s7.1),(1074,.vec 3 1 s7.2.length (s7.2.map G0)),(1067,.box 117 [.mp 1073]),(1068,.box 50 [.vec 1074 s7.2.length 1 s7.2.length]),(1069,.box 118 [.fn 49 [.ptr 1067 0,.ptr 1068 0,.dptr [LS 1 (E0) p3],Ec p4,.ptr 1069 0]])]) (fun Kj17 ej17=>?_) ?_
     ·
      refine Jr fun hK18=>(JLh (Ec p4) (Ga J2 O O O) O (JLh (E3 p4.Columns) (Gf Ja O O O) O (JLh (Eg r13.1) (Ga Jf O O O) O (JLh (G0 r13.1.G4) (Gf Gc O O O) O ?_))))
      obtain⟨m20,y19,hm20,hy19,h⟩:=Yd h
      refine JLh (Ef y19) (H4 (f:=G4.av) (xs:=p4.Columns) (y:=y19) O O O J5 hy19 hm20) O (JLh (.dptr ((G4.cs y19).drop 2)) (Ga Rf O O O) O (JLh (BL y19.Deck) (Gf Q9 O O O) O (JLh (BL (!y19.Deck)) (Rj (b:=y19.Deck) O O) O (G7 (hK18 (JCc O h (fun h hb=>?_) (fun h hb=>?_)))))))
      ·
       refine G3 (JLh (.agg (Gw.cs p4)) (Gi Hq O O O) O (JLh (Eg r13.1) (Ga Jf O O O) O (JLh (G0 r13.1.G4) (Gf Gc O O O) O ?_)))
       obtain⟨r21,hr21,h⟩:=Ge h
       refine JLh (G0 r21) (Gt O (G4c p4 r13.1.G4 r21 hr21) H2b ⟨O,O,O,O,G⟩) O (Ru (G0 r21) O (G7 (ej17 _ _ r21 h ⟨(by repeat' constructor),⟨⟨_,rfl,.map⟩,⟨_,rfl,.vec⟩,⟨_,rfl,.boxL rfl ⟨.same rfl,G⟩⟩,⟨_,rfl,.boxL rfl ⟨.same rfl,G⟩⟩,⟨_,rfl,.boxL rfl ⟨.same rfl,G⟩⟩,G⟩,rfl⟩)))
      ·
       refine Gn (ej17 _ _ (-1) h ⟨(by repeat' constructor),⟨⟨_,rfl,.map⟩,⟨_,rfl,.vec⟩,⟨_,rfl,.boxL rfl ⟨.same rfl,G⟩⟩,⟨_,rfl,.boxL rfl ⟨.same rfl,G⟩⟩,⟨_,rfl,.boxL rfl ⟨.same rfl,G⟩⟩,G⟩,rfl⟩)
     ·intro j17 h
      replace h:=app1 hkj17 h
      refine Js fun hK22=>Jr fun hK23=>(Ru (E0 y7) O (JLl Gx O O O fun hm53=>(Ru (G0 0) O (G7 (hK23 (Gq ?_))))))
      obtain⟨b56,kx56,hb56,hkx56,h⟩:=Hx h
      refine Hg (fun i56 (s56:(H5 Int Unit)×(List Int))=>each b56 kx56 (List.drop i56 y7) i56 s56=some r) (fun i56 s56=>[(0,G0 id_),(3,.dptr [LS 1 (E0) p3]),(4,Ec p4),(5,.ptr 1069 0),(9,Eg r13.1),(11,G0 j17),(26,LS 1 (E0) p3),(27,Ei p3.length),(28,Ei i7),(52,E0 y7),(53,Ei y7.length),(54,Ei i56)]) (fun i56 s56=>[(1073,MP 117 (fun n:Int=>Value.int .i64 n) (fun _:Unit=>.agg []) s56.1),(1074,.vec 3 1 s56.2.length (s56.2.map G0)),(1067,.box 117 [.mp 1073]),(1068,.box 50 [.vec 1074 s56.2.length 1 s56.2.length]),(1069,.box 118 [.fn 49 [.ptr 1067 0,.ptr 1068 0,.dptr [LS 1 (E0) p3],Ec p4,.ptr 1069 0]])]) (fun i56=>y7.length - i56) 0 (s7.1,s7.2) h ⟨(by repeat' constructor),⟨⟨_,rfl,.map⟩,⟨_,rfl,.vec⟩,⟨_,rfl,.boxL rfl ⟨.same rfl,G⟩⟩,⟨_,rfl,.boxL rfl ⟨.same rfl,G⟩⟩,⟨_,rfl,.boxL rfl ⟨.same rfl,G⟩⟩,G⟩,rfl⟩ ?_
      clear h
      intro i56 s56 hi56 K56 e56
      refine Jr fun hK57=>(JLh (BL (decide ((i56:Int) < (y7.length:Int)))) (Hz O O O) O (G7 (hK57 (Js fun hK58=>Gk O (fun hb=>?_) (fun hb=>?_)))))
      ·
       have hk56:=Jb hb
       obtain⟨y56,nx56,hy56,hn56,h⟩:=Ho hi56 hk56
       replace h:=Rw hb56 h
       refine Gn (hK58 ?_)
       obtain⟨kj59,hkj59,h⟩:=Rg h
       refine Qg (fun j59:(H5 Int Unit)×(List Int)=>kj59 j59=some r) (fun j59=>[(0,G0 id_),(3,.dptr [LS 1 (E0) p3]),(4,Ec p4),(5,.ptr 1069 0),(9,Eg r13.1),(11,G0 j17),(26,LS 1 (E0) p3),(27,Ei p3.length),(28,Ei i7),(52,E0 y7),(53,Ei y7.length),(54,Ei i56)]) (fun j59=>[(1073,MP 117 (fun n:Int=>Value.int .i64 n) (fun _:Unit=>.agg []) j59.1),(1074,.vec 3 1 j59.2.length (j59.2.map G0)),(1067,.box 117 [.mp 1073]),(1068,.box 50 [.vec 1074 j59.2.length 1 j59.2.length]),(1069,.box 118 [.fn 49 [.ptr 1067 0,.ptr 1068 0,.dptr [LS 1 (E0) p3],Ec p4,.ptr 1069 0]])]) (fun Kj59 ej59=>?_) ?_
       ·
        refine Gq (Jr fun hK60=>(JLh (Ed y56) (H4 (f:=Stowed.av) (xs:=y7) (y:=y56) O O O Gx hy56 O) O (JLh (.agg (Stowed.cs y56)) (Gi Q0 O O O) O (JLh (.ptr 1117 0) (Hn 1117 4 Je O O) O (Hs (u:=.junk) (Ha (u:=.agg (Stowed.cs y56)) (ds:=[G0 y56.Gd,G0 y56.Slot.G4,G0 y56.Slot.Tier,U8 y56.Slot.Half]) Qv O O O O O O O O) (G7 (hK60 ?_)))))))
        refine Gp [(0,G0 id_),(3,.dptr [LS 1 (E0) p3]),(4,Ec p4),(5,.ptr 1069 0),(9,Eg r13.1),(11,G0 j17),(13,Ed y56),(26,LS 1 (E0) p3),(27,Ei p3.length),(28,Ei i7),(52,E0 y7),(53,Ei y7.length),(54,Ei i56)] [(1073,MP 117 (fun n:Int=>Value.int .i64 n) (fun _:Unit=>.agg []) s56.1),(1074,.vec 3 1 s56.2.length (s56.2.map G0)),(1067,.box 117 [.mp 1073]),(1068,.box 50 [.vec 1074 s56.2.length 1 s56.2.length]),(1069,.box 118 [.fn 49 [.ptr 1067 0,.ptr 1068 0,.dptr [LS 1 (E0) p3],Ec p4,.ptr 1069 0]])] 1117 rfl rfl rfl ⟨⟨_,rfl,.map⟩,⟨_,rfl,.vec⟩,⟨_,rfl,.boxEq rfl rfl⟩,⟨_,rfl,.boxEq rfl rfl⟩,⟨_,rfl,.boxEq rfl rfl⟩,G⟩ rfl (by repeat' (first | exact .ptr | constructor)) ?_
        refine Jr fun hK61=>(JLh (.dptr ((Stowed.cs y56).drop 1)) (Ga J1 O O O) O (JLh (.agg ((Stowed.cs y56).drop 1)) (Gi Jp O O O) O (JLh (.agg (Slot.cs r13.1)) (Gi Jp O O O) O ?_)))
        obtain⟨r62,hr62,h⟩:=Ge h
        refine JLh (BL r62) (Gt O (H9c y56.Slot r13.1 r62 hr62) J62 ⟨O,O,O,O,G⟩) O (G7 (hK61 (JCc O h (fun h hb=>?_) (fun h hb=>?_))))
        ·
         refine G3 (JLh (.fn 49 [.ptr 1067 0,.ptr 1068 0,.dptr [LS 1 (E0) p3],Ec p4,.ptr 1069 0]) (Qj G9c O O O O) O (JLh (Ed y56) (Ga Hv O O O) O (JLh (G0 y56.Gd) (Gf Gc O O O) O ?_)))
         obtain⟨r63,hr63,h⟩:=Ge h
         refine JLh (.tup []) (Hee (args:=[G0 y56.Gd]) (caps:=[.ptr 1067 0,.ptr 1068 0,.dptr [LS 1 (E0) p3],Ec p4,.ptr 1069 0]) (L0:=[(1067,.box 117 [.mp 1073]),(1073,MP 117 (fun n:Int=>Value.int .i64 n) (fun _:Unit=>.agg []) s56.1),(1068,.box 50 [.vec 1074 s56.2.length 1 s56.2.length]),(1074,.vec 3 1 s56.2.length (s56.2.map G0)),(1069,.box 118 [.fn 49 [.ptr 1067 0,.ptr 1068 0,.dptr [LS 1 (E0) p3],Ec p4,.ptr 1069 0]])]) (Lr:=[(1067,.box 117 [.mp 1073]),(1073,MP 117 (fun n:Int=>Value.int .i64 n) (fun _:Unit=>.agg []) r63.1),(1068,.box 50 [.vec 1074 r63.2.length 1 r63.2.length]),(1074,.vec 3 1 r63.2.length (r63.2.map G0)),(1069,.box 118 [.fn 49 [.ptr 1067 0,.ptr 1068 0,.dptr [LS 1 (E0) p3],Ec p4,.ptr 1069 0]])]) O O (self_w y56.Gd s56.1 s56.2 p3 p4 r63 hr63) H2c ⟨.inl O,O,G⟩ O ⟨O,O,O,O,O,G⟩ O O O) O (G7 ?_)
         exact ej59 _ _ (r63.1,r63.2) h ⟨(by repeat' constructor),⟨⟨_,rfl,.map⟩,⟨_,rfl,.vec⟩,⟨_,rfl,.boxL rfl ⟨.same rfl,G⟩⟩,⟨_,rfl,.boxL rfl ⟨.same rfl,G⟩⟩,⟨_,rfl,.boxL rfl ⟨.same rfl,G⟩⟩,G⟩,rfl⟩
        ·
         refine Gn (ej59 _ _ (s56.1,s56.2) h ⟨(by repeat' constructor),⟨⟨_,rfl,.map⟩,⟨_,rfl,.vec⟩,⟨_,rfl,.boxL rfl ⟨.same rfl,G⟩⟩,⟨_,rfl,.boxL rfl ⟨.same rfl,G⟩⟩,⟨_,rfl,.boxL rfl ⟨.same rfl,G⟩⟩,G⟩,rfl⟩)
       ·intro j59 h
        replace h:=app1 hkj59 h
        refine G3 (JLh (G0 ((i56+1:Nat):Int)) (Hu (He hk56 hm53) O O O) O (Ru (G0 ((i56+1:Nat):Int)) O (G7 (e56 _ _ (i56+1) (j59.1,j59.2) (app1 hn56 h) (by omega) ⟨(by repeat' constructor),⟨⟨_,rfl,.map⟩,⟨_,rfl,.vec⟩,⟨_,rfl,.boxL rfl ⟨.same rfl,G⟩⟩,⟨_,rfl,.boxL rfl ⟨.same rfl,G⟩⟩,⟨_,rfl,.boxL rfl ⟨.same rfl,G⟩⟩,G⟩,rfl⟩))))
      ·
       have h:=app1 hkx56 (Hp hi56 (H7 hb))
       refine Hr (hK22 (Jr fun hK64=>(JLh (LS 1 (E0) p3) (Gf Y2 O O O) O (JLl J9 O O O fun hm68=>(Ru (G0 0) O (G7 (hK64 (Gq ?_))))))))
       obtain⟨b65,kx65,hb65,hkx65,h⟩:=Hx h
       refine Hg (fun i65 (s65:(H5 Int Unit)×(List Int))=>each b65 kx65 (List.drop i65 p3) i65 s65=some r) (fun i65 s65=>[(0,G0 id_),(3,.dptr [LS 1 (E0) p3]),(4,Ec p4),(5,.ptr 1069 0),(11,G0 j17),(26,LS 1 (E0) p3),(27,Ei p3.length),(28,Ei i7),(67,LS 1 (E0) p3),(68,Ei p3.length),(69,Ei i65)]) (fun i65 s65=>[(1073,MP 117 (fun n:Int=>Value.int .i64 n) (fun _:Unit=>.agg []) s65.1),(1074,.vec 3 1 s65.2.length (s65.2.map G0)),(1067,.box 117 [.mp 1073]),(1068,.box 50 [.vec 1074 s65.2.length 1 s65.2.length]),(1069,.box 118 [.fn 49 [.ptr 1067 0,.ptr 1068 0,.dptr [LS 1 (E0) p3],Ec p4,.ptr 1069 0]])]) (fun i65=>p3.length - i65) 0 (s56.1,s56.2) h ⟨(by repeat' constructor),⟨⟨_,rfl,.map⟩,⟨_,rfl,.vec⟩,⟨_,rfl,.boxL rfl ⟨.same rfl,G⟩⟩,⟨_,rfl,.boxL rfl ⟨.same rfl,G⟩⟩,⟨_,rfl,.boxL rfl ⟨.same rfl,G⟩⟩,G⟩,rfl⟩ ?_
       clear h
       intro i65 s65 hi65 K65 e65
       refine Jr fun hK66=>(JLh (BL (decide ((i65:Int) < (p3.length:Int)))) (Hz O O O) O (G7 (hK66 (Js fun hK67=>Gk O (fun hb=>?_) (fun hb=>?_)))))
       ·
        have hk65:=Jb hb
        obtain⟨y65,nx65,hy65,hn65,h⟩:=Ho hi65 hk65
        replace h:=Rw hb65 h
        refine Gn (hK67 (Js fun hK68=>Gq (Jr fun hK69=>(JLh (.dptr [E0 y65]) (H4 (f:=(E0)) (xs:=p3) (y:=y65) O O O J9 hy65 O) O (JLh (E0 y65) (Gf Q2 O O O) O (Ru (E0 y65) O (G7 (hK69 (Jr fun hK70=>(Ru (E0 y65) O (JLl Gx O O O fun hm74=>(Ru (G0 0) O (G7 (hK70 (Gq ?_)))))))))))))))
        obtain⟨b107,kx107,hb107,hkx107,h⟩:=Hx h
        refine Hg (fun i107 (s107:(H5 Int Unit)×(List Int))=>each b107 kx107 (List.drop i107 y65) i107 s107=some r) (fun i107 s107=>[(0,G0 id_),(3,.dptr [LS 1 (E0) p3]),(4,Ec p4),(5,.ptr 1069 0),(11,G0 j17),(26,LS 1 (E0) p3),(27,Ei p3.length),(28,Ei i7),(67,LS 1 (E0) p3),(68,Ei p3.length),(69,Ei i65),(73,E0 y65),(74,Ei y65.length),(75,Ei i107)]) (fun i107 s107=>[(1073,MP 117 (fun n:Int=>Value.int .i64 n) (fun _:Unit=>.agg []) s107.1),(1074,.vec 3 1 s107.2.length (s107.2.map G0)),(1067,.box 117 [.mp 1073]),(1068,.box 50 [.vec 1074 s107.2.length 1 s107.2.length]),(1069,.box 118 [.fn 49 [.ptr 1067 0,.ptr 1068 0,.dptr [LS 1 (E0) p3],Ec p4,.ptr 1069 0]])]) (fun i107=>y65.length - i107) 0 (s65.1,s65.2) h ⟨(by repeat' constructor),⟨⟨_,rfl,.map⟩,⟨_,rfl,.vec⟩,⟨_,rfl,.boxL rfl ⟨.same rfl,G⟩⟩,⟨_,rfl,.boxL rfl ⟨.same rfl,G⟩⟩,⟨_,rfl,.boxL rfl ⟨.same rfl,G⟩⟩,G⟩,rfl⟩ ?_
        clear h
        intro i107 s107 hi107 K107 e107
        refine Jr fun hK108=>(JLh (BL (decide ((i107:Int) < (y65.length:Int)))) (Hz O O O) O (G7 (hK108 (Js fun hK109=>Gk O (fun hb=>?_) (fun hb=>?_)))))
        ·
         have hk107:=Jb hb
         obtain⟨y107,nx107,hy107,hn107,h⟩:=Ho hi107 hk107
         replace h:=Rw hb107 h
         refine Gn (hK109 ?_)
         obtain⟨kj110,hkj110,h⟩:=Rg h
         refine Qg (fun j110:(H5 Int Unit)×(List Int)=>kj110 j110=some r) (fun j110=>[(0,G0 id_),(3,.dptr [LS 1 (E0) p3]),(4,Ec p4),(5,.ptr 1069 0),(11,G0 j17),(26,LS 1 (E0) p3),(27,Ei p3.length),(28,Ei i7),(67,LS 1 (E0) p3),(68,Ei p3.length),(69,Ei i65),(73,E0 y65),(74,Ei y65.length),(75,Ei i107)]) (fun j110=>[(1073,MP 117 (fun n:Int=>Value.int .i64 n) (fun _:Unit=>.agg []) j110.1),(1074,.vec 3 1 j110.2.length (j110.2.map G0)),(1067,.box 117 [.mp 1073]),(1068,.box 50 [.vec 1074 j110.2.length 1 j110.2.length]),(1069,.box 118 [.fn 49 [.ptr 1067 0,.ptr 1068 0,.dptr [LS 1 (E0) p3],Ec p4,.ptr 1069 0]])]) (fun Kj110 ej110=>?_) ?_
         ·
          refine Gq (Jr fun hK111=>(JLh (Ed y107) (H4 (f:=Stowed.av) (xs:=y65) (y:=y107) O O O Gx hy107 O) O (JLh (.agg (Stowed.cs y107)) (Gi Q0 O O O) O (JLh (.ptr 1118 0) (Hn 1118 4 Je O O) O (Hs (u:=.junk) (Ha (u:=.agg (Stowed.cs y107)) (ds:=[G0 y107.Gd,G0 y107.Slot.G4,G0 y107.Slot.Tier,U8 y107.Slot.Half]) Qv O O O O O O O O) (G7 (hK111 ?_)))))))
          refine Gp [(0,G0 id_),(3,.dptr [LS 1 (E0) p3]),(4,Ec p4),(5,.ptr 1069 0),(11,G0 j17),(17,Ed y107),(26,LS 1 (E0) p3),(27,Ei p3.length),(28,Ei i7),(67,LS 1 (E0) p3),(68,Ei p3.length),(69,Ei i65),(73,E0 y65),(74,Ei y65.length),(75,Ei i107)] [(1073,MP 117 (fun n:Int=>Value.int .i64 n) (fun _:Unit=>.agg []) s107.1),(1074,.vec 3 1 s107.2.length (s107.2.map G0)),(1067,.box 117 [.mp 1073]),(1068,.box 50 [.vec 1074 s107.2.length 1 s107.2.length]),(1069,.box 118 [.fn 49 [.ptr 1067 0,.ptr 1068 0,.dptr [LS 1 (E0) p3],Ec p4,.ptr 1069 0]])] 1118 rfl rfl rfl ⟨⟨_,rfl,.map⟩,⟨_,rfl,.vec⟩,⟨_,rfl,.boxEq rfl rfl⟩,⟨_,rfl,.boxEq rfl rfl⟩,⟨_,rfl,.boxEq rfl rfl⟩,G⟩ rfl (by repeat' (first | exact .ptr | constructor)) ?_
          refine Jr fun hK112=>(Ru (G0 j17) O (JLh (BL (decide (0≤j17))) (G8a O O O) O (Ru (BL (decide (0≤j17))) O (JLo (Ec p4) [] O .sct G (fun hc=>Ga J2 O O O) O (JLo (E3 p4.Columns) [82] O .sct ⟨Ua,G⟩ (fun hc=>Gf Ja O O O) O (JLo (.dptr ((Stowed.cs y107).drop 1)) [] O .sct G (fun hc=>Ga J1 O O O) O (JLo (.dptr ((Stowed.cs y107).drop 1)) [84] O .sct ⟨Ua,G⟩ (fun hc=>Ga Jf O O O) O (JLo (G0 y107.Slot.G4) [85] O .sct ⟨Ua,G⟩ (fun hc=>Gf Gc O O O) O ?_))))))))
          obtain⟨y113,hy113,h⟩:=Ge h
          refine JLo (Ef y113) [83,86] O .sct ⟨Ua,Ua,G⟩ (fun hc=>(match Qq (H2 hc hy113) with | ⟨_,hm_,hy_⟩=>H4 (f:=G4.av) (xs:=p4.Columns) (y:=y113) O O O J5 hy_ hm_)) O (JLo (.dptr ((G4.cs y113).drop 2)) [87] O .sct ⟨Ua,G⟩ (fun hc=>Ga Rf O O O) O (JLo (BL y113.Deck) [88] O .sct ⟨Ua,G⟩ (fun hc=>Gf Q9 O O O) O (JLh (BL ((decide (0≤j17))&&y113.Deck)) (Qa O O O O) O (Ru (BL ((decide (0≤j17))&&y113.Deck)) O (JLo (.agg (Gw.cs p4)) [] O .sct G (fun hc=>Gi Hq O O O) O (JLo (.dptr ((Stowed.cs y107).drop 1)) [] O .sct G (fun hc=>Ga J1 O O O) O (JLo (.dptr ((Stowed.cs y107).drop 1)) [93] O .sct ⟨Ua,G⟩ (fun hc=>Ga Jf O O O) O (JLo (G0 y107.Slot.G4) [94] O .sct ⟨Ua,G⟩ (fun hc=>Gf Gc O O O) O ?_))))))))
          obtain⟨r114,hr114,h⟩:=Ge h
          refine JLo (G0 r114) [92,95] O .sct ⟨Ua,Ua,G⟩ (fun hc=>Gt (args:=[.agg (Gw.cs p4),G0 y107.Slot.G4]) O (G4c p4 y107.Slot.G4 r114 (H2 hc hr114)) H2b ⟨O,O,O,O,G⟩) O (JLo (G0 j17) [] O .sct G (fun hc=>G6 O O) O (JLo (BL (decide (r114=j17))) [96,97] O .sct ⟨Ua,Ua,G⟩ (fun hc=>Qh O O O) O (JLh (BL (((decide (0≤j17))&&y113.Deck)&&(decide (r114=j17)))) (Qa O O O O) O (G7 (hK112 (JCc O h (fun h hb=>?_) (fun h hb=>?_)))))))
          ·
           refine G3 (JLh (.fn 49 [.ptr 1067 0,.ptr 1068 0,.dptr [LS 1 (E0) p3],Ec p4,.ptr 1069 0]) (Qj G9c O O O O) O (JLh (Ed y107) (Ga Hv O O O) O (JLh (G0 y107.Gd) (Gf Gc O O O) O ?_)))
           obtain⟨r115,hr115,h⟩:=Ge h
           refine JLh (.tup []) (Hee (args:=[G0 y107.Gd]) (caps:=[.ptr 1067 0,.ptr 1068 0,.dptr [LS 1 (E0) p3],Ec p4,.ptr 1069 0]) (L0:=[(1067,.box 117 [.mp 1073]),(1073,MP 117 (fun n:Int=>Value.int .i64 n) (fun _:Unit=>.agg []) s107.1),(1068,.box 50 [.vec 1074 s107.2.length 1 s107.2.length]),(1074,.vec 3 1 s107.2.length (s107.2.map G0)),(1069,.box 118 [.fn 49 [.ptr 1067 0,.ptr 1068 0,.dptr [LS 1 (E0) p3],Ec p4,.ptr 1069 0]])]) (Lr:=[(1067,.box 117 [.mp 1073]),(1073,MP 117 (fun n:Int=>Value.int .i64 n) (fun _:Unit=>.agg []) r115.1),(1068,.box 50 [.vec 1074 r115.2.length 1 r115.2.length]),(1074,.vec 3 1 r115.2.length (r115.2.map G0)),(1069,.box 118 [.fn 49 [.ptr 1067 0,.ptr 1068 0,.dptr [LS 1 (E0) p3],Ec p4,.ptr 1069 0]])]) O O (self_w y107.Gd s107.1 s107.2 p3 p4 r115 hr115) H2c ⟨.inl O,O,G⟩ O ⟨O,O,O,O,O,G⟩ O O O) O (G7 ?_)
           exact ej110 _ _ (r115.1,r115.2) h ⟨(by repeat' constructor),⟨⟨_,rfl,.map⟩,⟨_,rfl,.vec⟩,⟨_,rfl,.boxL rfl ⟨.same rfl,G⟩⟩,⟨_,rfl,.boxL rfl ⟨.same rfl,G⟩⟩,⟨_,rfl,.boxL rfl ⟨.same rfl,G⟩⟩,G⟩,rfl⟩
          ·
           refine Gn (ej110 _ _ (s107.1,s107.2) h ⟨(by repeat' constructor),⟨⟨_,rfl,.map⟩,⟨_,rfl,.vec⟩,⟨_,rfl,.boxL rfl ⟨.same rfl,G⟩⟩,⟨_,rfl,.boxL rfl ⟨.same rfl,G⟩⟩,⟨_,rfl,.boxL rfl ⟨.same rfl,G⟩⟩,G⟩,rfl⟩)
         ·intro j110 h
          replace h:=app1 hkj110 h
          refine G3 (JLh (G0 ((i107+1:Nat):Int)) (Hu (He hk107 hm74) O O O) O (Ru (G0 ((i107+1:Nat):Int)) O (G7 (e107 _ _ (i107+1) (j110.1,j110.2) (app1 hn107 h) (by omega) ⟨(by repeat' constructor),⟨⟨_,rfl,.map⟩,⟨_,rfl,.vec⟩,⟨_,rfl,.boxL rfl ⟨.same rfl,G⟩⟩,⟨_,rfl,.boxL rfl ⟨.same rfl,G⟩⟩,⟨_,rfl,.boxL rfl ⟨.same rfl,G⟩⟩,G⟩,rfl⟩))))
        ·
         have h:=app1 hkx107 (Hp hi107 (H7 hb))
         refine Hr (hK68 (G3 (JLh (G0 ((i65+1:Nat):Int)) (Hu (He hk65 hm68) O O O) O (Ru (G0 ((i65+1:Nat):Int)) O (G7 (e65 _ _ (i65+1) (s107.1,s107.2) (app1 hn65 h) (by omega) ⟨(by repeat' constructor),⟨⟨_,rfl,.map⟩,⟨_,rfl,.vec⟩,⟨_,rfl,.boxL rfl ⟨.same rfl,G⟩⟩,⟨_,rfl,.boxL rfl ⟨.same rfl,G⟩⟩,⟨_,rfl,.boxL rfl ⟨.same rfl,G⟩⟩,G⟩,rfl⟩))))))
       ·
        have h:=app1 hkx65 (Hp hi65 (H7 hb))
        refine Hr (ej10 _ _ (s65.1,s65.2) h ⟨(by repeat' constructor),⟨⟨_,rfl,.map⟩,⟨_,rfl,.vec⟩,⟨_,rfl,.boxL rfl ⟨.same rfl,G⟩⟩,⟨_,rfl,.boxL rfl ⟨.same rfl,G⟩⟩,⟨_,rfl,.boxL rfl ⟨.same rfl,G⟩⟩,G⟩,rfl⟩)
   ·intro j10 h
    replace h:=app1 hkj10 h
    refine G3 (JLh (G0 ((i7+1:Nat):Int)) (Hu (He hk7 hm27) O O O) O (Ru (G0 ((i7+1:Nat):Int)) O (G7 (e7 _ _ (i7+1) (j10.1,j10.2) (app1 hn7 h) (by omega) ⟨(by repeat' constructor),⟨⟨_,rfl,.map⟩,⟨_,rfl,.vec⟩,⟨_,rfl,.boxL rfl ⟨.same rfl,G⟩⟩,⟨_,rfl,.boxL rfl ⟨.same rfl,G⟩⟩,⟨_,rfl,.boxL rfl ⟨.same rfl,G⟩⟩,G⟩,rfl⟩))))
  ·
   have h:=app1 hkx7 (Hp hi7 (H7 hb))
   refine Hr ?_
   obtain rfl:=Option.some.inj h
   exact⟨[],[(1067,.box 117 [.mp 1073]),(1073,MP 117 (fun n:Int=>Value.int .i64 n) (fun _:Unit=>.agg []) s7.1),(1068,.box 50 [.vec 1074 s7.2.length 1 s7.2.length]),(1074,.vec 3 1 s7.2.length (s7.2.map G0)),(1069,.box 118 [.fn 49 [.ptr 1067 0,.ptr 1068 0,.dptr [LS 1 (E0) p3],Ec p4,.ptr 1069 0]])],⟨⟨_,O,.boxL O ⟨.same O,G⟩⟩,⟨_,O,.map⟩,⟨_,O,.boxL O ⟨.same O,G⟩⟩,⟨_,O,.vec⟩,⟨_,O,.boxL O ⟨.same O,G⟩⟩,G⟩,O,G,O,O⟩
theorem H00:∀ (F:Nat) (id_:Int) (p1:H5 Int Unit) (p2:List Int) (p3:List (List Stowed)) (p4:Gw) (r:(H5 Int Unit)×(List Int)) (h:Qy F id_ p1 p2 p3 p4=some r),Qc Ej 49 [G0 id_,.ptr 1067 0,.ptr 1068 0,.dptr [LS 1 (E0) p3],Ec p4,.ptr 1069 0] [(1067,.box 117 [.mp 1073]),(1073,MP 117 (fun n:Int=>Value.int .i64 n) (fun _:Unit=>.agg []) p1),(1068,.box 50 [.vec 1074 p2.length 1 p2.length]),(1074,.vec 3 1 p2.length (p2.map G0)),(1069,.box 118 [.fn 49 [.ptr 1067 0,.ptr 1068 0,.dptr [LS 1 (E0) p3],Ec p4,.ptr 1069 0]])] (fun av L'=>av=.tup []∧L'=[(1067,.box 117 [.mp 1073]),(1073,MP 117 (fun n:Int=>Value.int .i64 n) (fun _:Unit=>.agg []) r.1),(1068,.box 50 [.vec 1074 r.2.length 1 r.2.length]),(1074,.vec 3 1 r.2.length (r.2.map G0)),(1069,.box 118 [.fn 49 [.ptr 1067 0,.ptr 1068 0,.dptr [LS 1 (E0) p3],Ec p4,.ptr 1069 0]])]):=by
 intro F
 induction F with
 | zero=>intro id_ p1 p2 p3 p4 r h; cases h
 | succ F ih=>intro id_ p1 p2 p3 p4 r h; exact Hea (Qy F) ih F id_ p1 p2 p3 p4 r h

def Q6 (F:Nat) (s:Gw) (before:List Stowed) (after:List Stowed):Option (List Int):=
 each (fun y9 i9 (s9:(H5 Int Unit)×(List Int)) nx9=>
  each (fun y59 i59 (s59:(H5 Int Unit)×(List Int)) nx59=>
   jp (fun kj62=>
    bnd (Zw before y59.Gd) fun r65=>
    bnd (Zw after y59.Gd) fun r67=>
    bif ((!(r65.2==r67.2))||(!decide (r65.1=r67.1))) then
    (bnd (Qy F y59.Gd s59.1 s59.2 [before,after] s) fun r69=>
     kj62 (r69.1,r69.2))
    else
    (kj62 (s59.1,s59.2))) fun(j62:(H5 Int Unit)×(List Int))=>
   nx59 (j62.1,j62.2))
  (fun(s59:(H5 Int Unit)×(List Int))=>
   nx9 (s59.1,s59.2)) y9 0 (s9.1,s9.2))
 (fun(s9:(H5 Int Unit)×(List Int))=>
  bnd (H31 s9.2) fun r71=>
  some r71) [before,after] 0 ((H5.empty:H5 Int Unit),[])
theorem J37 (F:Nat) (s:Gw) (before:List Stowed) (after:List Stowed) (r:(List Int)) (h:Q6 F s before after=some r):Pure Ej 23 [.agg (Gw.cs s),E0 before,E0 after] (·=E1 r):=by
 unfold Q6 at h
 refine H1 [.tmp 6] Tryz.func23 O O (Jr fun hK1=>(JLh (.ptr 1064 0) (Jm (cs:=(Gw.cs s)) 1064 O O O O O) O (JLh (E1 ([]:List Int)) (Ht 1 O O) O (G7 (hK1 ?_)))))
 refine Gp [(1,E0 before),(2,E0 after),(3,Ec s)] [] 1064 rfl rfl rfl G rfl (by exact⟨.conv (.same rfl),.conv (.same rfl),.ptr,G⟩) ?_
 refine Jr fun hK2=>(Ru (E0 before) O (Ru (E0 after) O (JLh (LS 1 (E0) [before,after]) (H9 (xs:=[E0 before,E0 after]) O ⟨O,O,O,O,G⟩ J9 G34 O O O O) O (JLh (.ptr 1066 0) (Hn 1066 1 J10 O O) O (Hs (u:=.junk) (Ha (u:=LS 1 (E0) [before,after]) (ds:=[LS 1 (E0) [before,after]]) Ha4 O O O O O O O O) (G7 (hK2 ?_)))))))
 refine Gp [(1,E0 before),(2,E0 after),(3,Ec s),(7,.dptr [LS 1 (E0) [before,after]])] [] 1066 rfl rfl rfl G rfl (by repeat' (first | exact .ptr | constructor)) (Jr fun hK3=>(JLh (.mp 1073) (G9a 1073 (fun n:Int=>Value.int .i64 n) (fun _:Unit=>.agg []) O O) O (JLh (.ptr 1067 0) (Hn 1067 1 Hc7 O O) O (Hs (u:=.junk) (Ha (u:=.mp 1073) (ds:=[.mp 1073]) J14 O O O O O O O O) (G7 (hK3 ?_))))))
 refine Jr fun hK4=>(JLh (.ptr 1068 0) (G16 1068 [.sc (.slice none 0 0)] [.slice none 0 0] J48 ⟨.inl O,G⟩ O O) O (Ja2 1068 0 1074 3 1 O O O (cs':=[.vec 1074 (([]:List Int).length) 1 (([]:List Int).length)]) O (G7 (hK4 (Jr fun hK5=>(JLh (.ptr 1069 0) (Hn 1069 1 Hc6 O O) O (G7 (hK5 ?_))))))))
 refine Jr fun hK6=>(JLh (.fn 49 [.ptr 1067 0,.ptr 1068 0,.dptr [LS 1 (E0) [before,after]],Ec s,.ptr 1069 0]) (Rk (cs:=[.ptr 1067 0,.ptr 1068 0,.dptr [LS 1 (E0) [before,after]],Ec s,.ptr 1069 0]) O O) O (Hs (u:=.junk) (Ha (u:=.fn 49 [.ptr 1067 0,.ptr 1068 0,.dptr [LS 1 (E0) [before,after]],Ec s,.ptr 1069 0]) (ds:=[.fn 49 [.ptr 1067 0,.ptr 1068 0,.dptr [LS 1 (E0) [before,after]],Ec s,.ptr 1069 0]]) J13 O O O O O O O O) (G7 (hK6 ?_))))
 refine Js fun hK7=>Jr fun hK8=>(JLh (LS 1 (E0) [before,after]) (Gf Y2 O O O) O (JLl J9 O O O fun hm25=>(Ru (G0 0) O (G7 (hK8 (Gq ?_))))))
 obtain⟨b9,kx9,hb9,hkx9,h⟩:=Hx h
 refine Hg (fun i9 (s9:(H5 Int Unit)×(List Int))=>each b9 kx9 (List.drop i9 [before,after]) i9 s9=some r) (fun i9 s9=>[(1,E0 before),(2,E0 after),(9,.ptr 1068 0),(10,.ptr 1069 0),(24,LS 1 (E0) [before,after]),(25,G0 ([before,after].length:Int)),(26,Ei i9)]) (fun i9 s9=>[(1073,MP 117 (fun n:Int=>Value.int .i64 n) (fun _:Unit=>.agg []) s9.1),(1074,.vec 3 1 s9.2.length (s9.2.map G0)),(1067,.box 117 [.mp 1073]),(1068,.box 50 [.vec 1074 s9.2.length 1 s9.2.length]),(1069,.box 118 [.fn 49 [.ptr 1067 0,.ptr 1068 0,.dptr [LS 1 (E0) [before,after]],Ec s,.ptr 1069 0]])]) (fun i9=>[before,after].length - i9) 0 ((H5.empty:H5 Int Unit),[]) h ⟨(by repeat' constructor),⟨⟨_,rfl,.map⟩,⟨_,rfl,.vec⟩,⟨_,rfl,.boxL rfl ⟨.same rfl,G⟩⟩,⟨_,rfl,.boxL rfl ⟨.same rfl,G⟩⟩,⟨_,rfl,.boxL rfl ⟨.same rfl,G⟩⟩,G⟩,rfl⟩ ?_
 clear h
 intro i9 s9 hi9 K9 e9
 refine Jr fun hK10=>(JLh (BL (decide ((i9:Int) < ([before,after].length:Int)))) (Hz O O O) O (G7 (hK10 (Js fun hK11=>Gk O (fun hb=>?_) (fun hb=>?_)))))
 ·
  have hk9:=Jb hb
  obtain⟨y9,nx9,hy9,hn9,h⟩:=Ho hi9 hk9
  replace h:=Rw hb9 h
  refine Gn (hK11 (Js fun hK12=>Gq (Jr fun hK13=>(JLh (.dptr [E0 y9]) (H4 (f:=(E0)) (xs:=[before,after]) (y:=y9) O O O J9 hy9 O) O (JLh (E0 y9) (Gf Q2 O O O) O (Ru (E0 y9) O (G7 (hK13 (Jr fun hK14=>(Ru (E0 y9) O (JLl Gx O O O fun hm31=>(Ru (G0 0) O (G7 (hK14 (Gq ?_)))))))))))))))
  obtain⟨b59,kx59,hb59,hkx59,h⟩:=Hx h
  refine Hg (fun i59 (s59:(H5 Int Unit)×(List Int))=>each b59 kx59 (List.drop i59 y9) i59 s59=some r) (fun i59 s59=>[(1,E0 before),(2,E0 after),(9,.ptr 1068 0),(10,.ptr 1069 0),(24,LS 1 (E0) [before,after]),(25,G0 ([before,after].length:Int)),(26,Ei i9),(30,E0 y9),(31,Ei y9.length),(32,Ei i59)]) (fun i59 s59=>[(1073,MP 117 (fun n:Int=>Value.int .i64 n) (fun _:Unit=>.agg []) s59.1),(1074,.vec 3 1 s59.2.length (s59.2.map G0)),(1067,.box 117 [.mp 1073]),(1068,.box 50 [.vec 1074 s59.2.length 1 s59.2.length]),(1069,.box 118 [.fn 49 [.ptr 1067 0,.ptr 1068 0,.dptr [LS 1 (E0) [before,after]],Ec s,.ptr 1069 0]])]) (fun i59=>y9.length - i59) 0 (s9.1,s9.2) h ⟨(by repeat' constructor),⟨⟨_,rfl,.map⟩,⟨_,rfl,.vec⟩,⟨_,rfl,.boxL rfl ⟨.same rfl,G⟩⟩,⟨_,rfl,.boxL rfl ⟨.same rfl,G⟩⟩,⟨_,rfl,.boxL rfl ⟨.same rfl,G⟩⟩,G⟩,rfl⟩ ?_
  clear h
  intro i59 s59 hi59 K59 e59
  refine Jr fun hK60=>(JLh (BL (decide ((i59:Int) < (y9.length:Int)))) (Hz O O O) O (G7 (hK60 (Js fun hK61=>Gk O (fun hb=>?_) (fun hb=>?_)))))
  ·
   have hk59:=Jb hb
   obtain⟨y59,nx59,hy59,hn59,h⟩:=Ho hi59 hk59
   replace h:=Rw hb59 h
   refine Gn (hK61 ?_)
   obtain⟨kj62,hkj62,h⟩:=Rg h
   refine Qg (fun j62:(H5 Int Unit)×(List Int)=>kj62 j62=some r) (fun j62=>[(1,E0 before),(2,E0 after),(9,.ptr 1068 0),(10,.ptr 1069 0),(24,LS 1 (E0) [before,after]),(25,G0 ([before,after].length:Int)),(26,Ei i9),(30,E0 y9),(31,Ei y9.length),(32,Ei i59)]) (fun j62=>[(1073,MP 117 (fun n:Int=>Value.int .i64 n) (fun _:Unit=>.agg []) j62.1),(1074,.vec 3 1 j62.2.length (j62.2.map G0)),(1067,.box 117 [.mp 1073]),(1068,.box 50 [.vec 1074 j62.2.length 1 j62.2.length]),(1069,.box 118 [.fn 49 [.ptr 1067 0,.ptr 1068 0,.dptr [LS 1 (E0) [before,after]],Ec s,.ptr 1069 0]])]) (fun Kj62 ej62=>?_) ?_
   ·
    refine Gq (Jr fun hK63=>(JLh (Ed y59) (H4 (f:=Stowed.av) (xs:=y9) (y:=y59) O O O Gx hy59 O) O (JLh (.agg (Stowed.cs y59)) (Gi Q0 O O O) O (JLh (.ptr 1070 0) (Hn 1070 4 Je O O) O (Hs (u:=.junk) (Ha (u:=.agg (Stowed.cs y59)) (ds:=[G0 y59.Gd,G0 y59.Slot.G4,G0 y59.Slot.Tier,U8 y59.Slot.Half]) Qv O O O O O O O O) (G7 (hK63 ?_)))))))
    refine Gp [(1,E0 before),(2,E0 after),(9,.ptr 1068 0),(10,.ptr 1069 0),(14,Ed y59),(24,LS 1 (E0) [before,after]),(25,G0 ([before,after].length:Int)),(26,Ei i9),(30,E0 y9),(31,Ei y9.length),(32,Ei i59)] [(1073,MP 117 (fun n:Int=>Value.int .i64 n) (fun _:Unit=>.agg []) s59.1),(1074,.vec 3 1 s59.2.length (s59.2.map G0)),(1067,.box 117 [.mp 1073]),(1068,.box 50 [.vec 1074 s59.2.length 1 s59.2.length]),(1069,.box 118 [.fn 49 [.ptr 1067 0,.ptr 1068 0,.dptr [LS 1 (E0) [before,after]],Ec s,.ptr 1069 0]])] 1070 rfl rfl rfl ⟨⟨_,rfl,.map⟩,⟨_,rfl,.vec⟩,⟨_,rfl,.boxEq rfl rfl⟩,⟨_,rfl,.boxEq rfl rfl⟩,⟨_,rfl,.boxEq rfl rfl⟩,G⟩ rfl (by repeat' (first | exact .ptr | constructor)) ?_
    refine Jr fun hK64=>(Ru (E0 before) O (JLh (Ed y59) (Ga Hv O O O) O (JLh (G0 y59.Gd) (Gf Gc O O O) O ?_)))
    obtain⟨r65,hr65,h⟩:=Ge h
    refine JLh (.tup [.agg (Slot.cs r65.1),BL r65.2]) (Gt O (G08 before y59.Gd r65 hr65) G69 ⟨O,O,O,O,G⟩) O (Ru (.tup [.agg (Slot.cs r65.1),BL r65.2]) O (JLh (.agg (Slot.cs r65.1)) (H6 O O O) O (JLh (BL r65.2) (H6 O O O) O (JLh (.ptr 1071 0) (Hn 1071 3 Rm O O) O (Hs (u:=.junk) (Ha (u:=.agg (Slot.cs r65.1)) (ds:=[G0 r65.1.G4,G0 r65.1.Tier,U8 r65.1.Half]) Ye O O O O O O O O) (Ru (BL r65.2) O (G7 (hK64 ?_))))))))
    refine Gp [(1,E0 before),(2,E0 after),(9,.ptr 1068 0),(10,.ptr 1069 0),(14,Ed y59),(15,Eg r65.1),(16,BL r65.2),(24,LS 1 (E0) [before,after]),(25,G0 ([before,after].length:Int)),(26,Ei i9),(30,E0 y9),(31,Ei y9.length),(32,Ei i59)] [(1073,MP 117 (fun n:Int=>Value.int .i64 n) (fun _:Unit=>.agg []) s59.1),(1074,.vec 3 1 s59.2.length (s59.2.map G0)),(1067,.box 117 [.mp 1073]),(1068,.box 50 [.vec 1074 s59.2.length 1 s59.2.length]),(1069,.box 118 [.fn 49 [.ptr 1067 0,.ptr 1068 0,.dptr [LS 1 (E0) [before,after]],Ec s,.ptr 1069 0]])] 1071 rfl rfl rfl ⟨⟨_,rfl,.map⟩,⟨_,rfl,.vec⟩,⟨_,rfl,.boxEq rfl rfl⟩,⟨_,rfl,.boxEq rfl rfl⟩,⟨_,rfl,.boxEq rfl rfl⟩,G⟩ rfl (by repeat' (first | exact .ptr | constructor)) ?_
    refine Jr fun hK66=>(Ru (E0 after) O (JLh (Ed y59) (Ga Hv O O O) O (JLh (G0 y59.Gd) (Gf Gc O O O) O ?_)))
    obtain⟨r67,hr67,h⟩:=Ge h
    refine JLh (.tup [.agg (Slot.cs r67.1),BL r67.2]) (Gt O (G08 after y59.Gd r67 hr67) G69 ⟨O,O,O,O,G⟩) O (Ru (.tup [.agg (Slot.cs r67.1),BL r67.2]) O (JLh (.agg (Slot.cs r67.1)) (H6 O O O) O (JLh (BL r67.2) (H6 O O O) O (JLh (.ptr 1072 0) (Hn 1072 3 Rm O O) O (Hs (u:=.junk) (Ha (u:=.agg (Slot.cs r67.1)) (ds:=[G0 r67.1.G4,G0 r67.1.Tier,U8 r67.1.Half]) Ye O O O O O O O O) (Ru (BL r67.2) O (G7 (hK66 ?_))))))))
    refine Gp [(1,E0 before),(2,E0 after),(9,.ptr 1068 0),(10,.ptr 1069 0),(14,Ed y59),(15,Eg r65.1),(16,BL r65.2),(17,Eg r67.1),(18,BL r67.2),(24,LS 1 (E0) [before,after]),(25,G0 ([before,after].length:Int)),(26,Ei i9),(30,E0 y9),(31,Ei y9.length),(32,Ei i59)] [(1073,MP 117 (fun n:Int=>Value.int .i64 n) (fun _:Unit=>.agg []) s59.1),(1074,.vec 3 1 s59.2.length (s59.2.map G0)),(1067,.box 117 [.mp 1073]),(1068,.box 50 [.vec 1074 s59.2.length 1 s59.2.length]),(1069,.box 118 [.fn 49 [.ptr 1067 0,.ptr 1068 0,.dptr [LS 1 (E0) [before,after]],Ec s,.ptr 1069 0]])] 1072 rfl rfl rfl ⟨⟨_,rfl,.map⟩,⟨_,rfl,.vec⟩,⟨_,rfl,.boxEq rfl rfl⟩,⟨_,rfl,.boxEq rfl rfl⟩,⟨_,rfl,.boxEq rfl rfl⟩,G⟩ rfl (by repeat' (first | exact .ptr | constructor)) ?_
    refine Jr fun hK68=>(Ru (BL r65.2) O (Ru (BL r67.2) O (JLh (BL (!(r65.2==r67.2))) (Ja8 G91 O O O) O (Ru (BL (!(r65.2==r67.2))) O (JLo (.agg (Slot.cs r65.1)) [] O .scf G (fun hc=>Gi Jp O O O) O (JLo (.agg (Slot.cs r67.1)) [] O .scf G (fun hc=>Gi Jp O O O) O (JLo (BL (!decide (r65.1=r67.1))) [54,55] O .scf ⟨Ua,Ua,G⟩ (fun hc=>Jcb (vs:=[.int .i64 r65.1.G4,.int .i64 r65.1.Tier,.int .u8 r65.1.Half]) (us:=[.int .i64 r67.1.G4,.int .i64 r67.1.Tier,.int .u8 r67.1.Half]) 4 O (tq_78 r65.1 r67.1) H54 Hf1 O O O) O (JLh (BL ((!(r65.2==r67.2))||(!decide (r65.1=r67.1)))) (G09 O O O O) O (G7 (hK68 (JCc O h (fun h hb=>?_) (fun h hb=>?_))))))))))))
    ·
     refine G3 (JLh (.fn 49 [.ptr 1067 0,.ptr 1068 0,.dptr [LS 1 (E0) [before,after]],Ec s,.ptr 1069 0]) (Qj G9c O O O O) O (JLh (Ed y59) (Ga Hv O O O) O (JLh (G0 y59.Gd) (Gf Gc O O O) O ?_)))
     obtain⟨r69,hr69,h⟩:=Ge h
     refine JLh (.tup []) (Hee (args:=[G0 y59.Gd]) (caps:=[.ptr 1067 0,.ptr 1068 0,.dptr [LS 1 (E0) [before,after]],Ec s,.ptr 1069 0]) (L0:=[(1067,.box 117 [.mp 1073]),(1073,MP 117 (fun n:Int=>Value.int .i64 n) (fun _:Unit=>.agg []) s59.1),(1068,.box 50 [.vec 1074 s59.2.length 1 s59.2.length]),(1074,.vec 3 1 s59.2.length (s59.2.map G0)),(1069,.box 118 [.fn 49 [.ptr 1067 0,.ptr 1068 0,.dptr [LS 1 (E0) [before,after]],Ec s,.ptr 1069 0]])]) (Lr:=[(1067,.box 117 [.mp 1073]),(1073,MP 117 (fun n:Int=>Value.int .i64 n) (fun _:Unit=>.agg []) r69.1),(1068,.box 50 [.vec 1074 r69.2.length 1 r69.2.length]),(1074,.vec 3 1 r69.2.length (r69.2.map G0)),(1069,.box 118 [.fn 49 [.ptr 1067 0,.ptr 1068 0,.dptr [LS 1 (E0) [before,after]],Ec s,.ptr 1069 0]])]) O O (H00 F y59.Gd s59.1 s59.2 [before,after] s r69 hr69) H2c ⟨.inl O,O,G⟩ O ⟨O,O,O,O,O,G⟩ O O O) O (G7 ?_)
     exact ej62 _ _ (r69.1,r69.2) h ⟨(by repeat' constructor),⟨⟨_,rfl,.map⟩,⟨_,rfl,.vec⟩,⟨_,rfl,.boxL rfl ⟨.same rfl,G⟩⟩,⟨_,rfl,.boxL rfl ⟨.same rfl,G⟩⟩,⟨_,rfl,.boxL rfl ⟨.same rfl,G⟩⟩,G⟩,rfl⟩
    ·
     refine Gn (ej62 _ _ (s59.1,s59.2) h ⟨(by repeat' constructor),⟨⟨_,rfl,.map⟩,⟨_,rfl,.vec⟩,⟨_,rfl,.boxL rfl ⟨.same rfl,G⟩⟩,⟨_,rfl,.boxL rfl ⟨.same rfl,G⟩⟩,⟨_,rfl,.boxL rfl ⟨.same rfl,G⟩⟩,G⟩,rfl⟩)
   ·intro j62 h
    replace h:=app1 hkj62 h
    refine G3 (JLh (G0 ((i59+1:Nat):Int)) (Hu (He hk59 hm31) O O O) O (Ru (G0 ((i59+1:Nat):Int)) O (G7 (e59 _ _ (i59+1) (j62.1,j62.2) (app1 hn59 h) (by omega) ⟨(by repeat' constructor),⟨⟨_,rfl,.map⟩,⟨_,rfl,.vec⟩,⟨_,rfl,.boxL rfl ⟨.same rfl,G⟩⟩,⟨_,rfl,.boxL rfl ⟨.same rfl,G⟩⟩,⟨_,rfl,.boxL rfl ⟨.same rfl,G⟩⟩,G⟩,rfl⟩))))
  ·
   have h:=app1 hkx59 (Hp hi59 (H7 hb))
   refine Hr (hK12 (G3 (JLh (G0 ((i9+1:Nat):Int)) (Hu (He hk9 hm25) O O O) O (Ru (G0 ((i9+1:Nat):Int)) O (G7 (e9 _ _ (i9+1) (s59.1,s59.2) (app1 hn9 h) (by omega) ⟨(by repeat' constructor),⟨⟨_,rfl,.map⟩,⟨_,rfl,.vec⟩,⟨_,rfl,.boxL rfl ⟨.same rfl,G⟩⟩,⟨_,rfl,.boxL rfl ⟨.same rfl,G⟩⟩,⟨_,rfl,.boxL rfl ⟨.same rfl,G⟩⟩,G⟩,rfl⟩))))))
 ·
  have h:=app1 hkx9 (Hp hi9 (H7 hb))
  refine Hr (hK7 (Jr fun hK70=>(JLh (.vec 1074 s9.2.length 1 s9.2.length) (Qj Q1 O O O O) O ?_)))
  obtain⟨r71,hr71,h⟩:=Ge h
  refine JLh (.tup []) (A_sortI (F:=53) (xs:=s9.2) (r:=r71) O J18 Hcb J61 O O O hr71 O) O (G7 (hK70 (Jr fun hK72=>(JLh (.vec 1074 s9.2.length 1 s9.2.length) (Qj Q1 O O O O) O (Ru (.vec 1074 s9.2.length 1 s9.2.length) O (G7 (hK72 (Q26 [(6,E1 r71)] [] 1074 rfl rfl G rfl (by exact⟨.vec,G⟩) (Gr (fin1 (fun r:(List Int)=>(E1 r:AV)) h))))))))))

def Qz (F:Nat) (s:Gw) (boxes:List Gd) (before:List Stowed) (after:List Stowed):Option ((List Int)×Int):=
 bnd (R2 s boxes before) fun r4=>
 bnd (bif (!(!r4)) then R2 s boxes after else some default) fun r5=>
 bif ((!r4)||(!r5)) then
 (some ([],2))
 else
 (bnd (Q6 F s before after) fun r8=>
  some (r8,0))
theorem Gbd (F:Nat) (s:Gw) (boxes:List Gd) (before:List Stowed) (after:List Stowed) (r:(List Int)×Int) (h:Qz F s boxes before after=some r):Pure Ej 8 [.agg (Gw.cs s),E2 boxes,E0 before,E0 after] (·=.tup [E1 r.1,G0 r.2]):=by
 unfold Qz at h
 refine H1 [.tmp 8,.tmp 9] Tryz.func8 O O (Jr fun hK1=>(JLh (.ptr 1027 0) (Jm (cs:=(Gw.cs s)) 1027 O O O O O) O (JLh (E1 ([]:List Int)) (Ht 1 O O) O (Ru (G0 0) O (G7 (hK1 ?_))))))
 refine Gp [(1,E2 boxes),(2,E0 before),(3,E0 after),(4,Ec s)] [] 1027 rfl rfl rfl G rfl (by repeat' (first | exact .ptr | constructor)) (Js fun hK2=>Jr fun hK3=>(JLh (.agg (Gw.cs s)) (Gi Hq O O O) O (Ru (E2 boxes) O (Ru (E0 before) O ?_))))
 obtain⟨r4,hr4,h⟩:=Ge h
 refine JLh (BL r4) (Gt O (G11 s boxes before r4 hr4) G90 ⟨O,O,O,O,O,O,G⟩) O (JLh (BL (!r4)) (Rj (b:=r4) O O) O (Ru (BL (!r4)) O (JLo (.agg (Gw.cs s)) [] O .scf G (fun hc=>Gi Hq O O O) O (JLo (E2 boxes) [] O .scf G (fun hc=>G6 O O) O (JLo (E0 after) [] O .scf G (fun hc=>G6 O O) O ?_)))))
 obtain⟨r5,hr5,h⟩:=Ge h
 refine JLo (BL r5) [16,17,18] O .scf ⟨Ua,Ua,Ua,G⟩ (fun hc=>Gt (args:=[.agg (Gw.cs s),E2 boxes,E0 after]) O (G11 s boxes after r5 (H2 hc hr5)) G90 ⟨O,O,O,O,O,O,G⟩) O (JLo (BL (!r5)) [19] O .scf ⟨Ua,G⟩ (fun hc=>Rj (b:=r5) O O) O (JLh (BL ((!r4)||(!r5))) (G09 O O O O) O (G7 (hK3 (JCc O h (fun h hb=>?_) (fun h hb=>?_))))))
 ·
  refine Jr fun hK6=>(JLh (E1 ([]:List Int)) (Ht 1 O O) O (Ru (G0 2) O (G7 (hK6 (Gr (⟨[E1 ([]:List Int),G0 2],[],G,O,⟨⟨_,O,.conv (.same O)⟩,⟨_,O,.conv (.same O)⟩,G⟩,O,congrArg (fun r:(List Int)×Int=>(.tup [E1 r.1,G0 r.2]:AV)) (Option.some.inj h)⟩))))))
 ·
  refine Gn (hK2 (Jr fun hK7=>(JLh (.agg (Gw.cs s)) (Gi Hq O O O) O (Ru (E0 before) O (Ru (E0 after) O ?_)))))
  obtain⟨r8,hr8,h⟩:=Ge h
  refine JLh (E1 r8) (Gt O (J37 F s before after r8 hr8) J6a ⟨O,O,O,O,O,O,G⟩) O (Ru (E1 r8) O (Ru (G0 0) O (G7 (hK7 (Gr (⟨[E1 r8,G0 0],[],G,O,⟨⟨_,O,.conv (.same O)⟩,⟨_,O,.conv (.same O)⟩,G⟩,O,congrArg (fun r:(List Int)×Int=>(.tup [E1 r.1,G0 r.2]:AV)) (Option.some.inj h)⟩))))))

def G88 (boxes:List Gd) (calls:Int):Option Bool:=
 bif (((decide (calls < 1))||(decide (20 < calls)))||(decide (2000 < (boxes.length:Int)))) then
 (some false)
 else
 (each (fun y28 i28 (s28:Int) nx28=>
   bif ((((((decide (y28.ID≤s28))||(decide (999999 < y28.ID)))||((decide (y28.Size≠40))&&((decide (y28.Size≠20))||y28.High)))||(decide (y28.Load < 0)))||(decide (y28.Discharge≤y28.Load)))||(decide (calls≤y28.Discharge))) then
   (some false)
   else
   (nx28 y28.ID))
  (fun(s28:Int)=>
   some true) boxes 0 0)
theorem Ja1 (boxes:List Gd) (calls:Int) (r:Bool) (h:G88 boxes calls=some r):Pure Ej 16 [E2 boxes,G0 calls] (·=BL r):=by
 unfold G88 at h
 refine H1 [.tmp 4] Tryz.func16 O O (Jr fun hK1=>(Ru (BL false) O (G7 (hK1 (Js fun hK2=>?_)))))
 refine Jr fun hK3=>(Ru (G0 calls) O (JLh (BL (decide (calls < 1))) (Hz O O O) O (Ru (BL (decide (calls < 1))) O (JLo (G0 calls) [] O .scf G (fun hc=>G6 O O) O (JLo (BL (decide (20 < calls))) [11] O .scf ⟨Ua,G⟩ (fun hc=>G76 O O O) O (JLh (BL ((decide (calls < 1))||(decide (20 < calls)))) (G09 O O O O) O (Ru (BL ((decide (calls < 1))||(decide (20 < calls)))) O (JLo (E2 boxes) [] O .scf G (fun hc=>G6 O O) O (JLo (Ei boxes.length) [15] O .scf ⟨Ua,G⟩ (fun hc=>Z4 (f:=Gd.av) (xs:=boxes) Jw O O) O (JLo (BL (decide (2000 < (boxes.length:Int)))) [16] O .scf ⟨Ua,G⟩ (fun hc=>G76 O O O) O (JLh (BL (((decide (calls < 1))||(decide (20 < calls)))||(decide (2000 < (boxes.length:Int))))) (G09 O O O O) O (G7 (hK3 (JCc O h (fun h hb=>?_) (fun h hb=>?_)))))))))))))))
 ·
  refine Jr fun hK4=>(Ru (BL false) O (G7 (hK4 (Gr (fin1 BL h)))))
 ·
  refine Gn (hK2 (Jr fun hK5=>(Ru (G0 0) O (G7 (hK5 (Js fun hK6=>Jr fun hK7=>(Ru (E2 boxes) O (JLl Jw O O O fun hm20=>(Ru (G0 0) O (G7 (hK7 (Gq ?_))))))))))))
  obtain⟨b28,kx28,hb28,hkx28,h⟩:=Hx h
  refine Hg (fun i28 (s28:Int)=>each b28 kx28 (List.drop i28 boxes) i28 s28=some r) (fun i28 s28=>[(1,G0 calls),(5,G0 s28),(19,E2 boxes),(20,Ei boxes.length),(21,Ei i28)]) (fun i28 s28=>[]) (fun i28=>boxes.length - i28) 0 0 h ⟨(by repeat' constructor),G,rfl⟩ ?_
  clear h
  intro i28 s28 hi28 K28 e28
  refine Jr fun hK29=>(JLh (BL (decide ((i28:Int) < (boxes.length:Int)))) (Hz O O O) O (G7 (hK29 (Js fun hK30=>Gk O (fun hb=>?_) (fun hb=>?_)))))
  ·
   have hk28:=Jb hb
   obtain⟨y28,nx28,hy28,hn28,h⟩:=Ho hi28 hk28
   replace h:=Rw hb28 h
   refine Gn (hK30 (Js fun hK31=>Gq (Jr fun hK32=>(JLh (Ee y28) (H4 (f:=Gd.av) (xs:=boxes) (y:=y28) O O O Jw hy28 O) O (JLh (.agg (Gd.cs y28)) (Gi Zc O O O) O (JLh (.ptr 1053 0) (Hn 1053 9 Rn O O) O (Hs (u:=.junk) (Ha (u:=.agg (Gd.cs y28)) (ds:=(Gd.cs y28)) Yv O O O O O O O O) (G7 (hK32 (Gp [(1,G0 calls),(5,G0 s28),(7,Ee y28),(19,E2 boxes),(20,Ei boxes.length),(21,Ei i28)] [] 1053 rfl rfl rfl G rfl (by repeat' (first | exact .ptr | constructor)) (Js fun hK33=>?_)))))))))))
   refine Jr fun hK34=>(JLh (Ee y28) (Ga Jq O O O) O (JLh (G0 y28.ID) (Gf Gc O O O) O (Ru (G0 s28) O (JLh (BL (decide (y28.ID≤s28))) (Ha1 O O O) O (Ru (BL (decide (y28.ID≤s28))) O (JLo (Ee y28) [] O .scf G (fun hc=>Ga Jq O O O) O (JLo (G0 y28.ID) [30] O .scf ⟨Ua,G⟩ (fun hc=>Gf Gc O O O) O (JLo (BL (decide (999999 < y28.ID))) [31] O .scf ⟨Ua,G⟩ (fun hc=>G76 O O O) O (JLh (BL ((decide (y28.ID≤s28))||(decide (999999 < y28.ID)))) (G09 O O O O) O (Ru (BL ((decide (y28.ID≤s28))||(decide (999999 < y28.ID)))) O (JLo (.dptr ((Gd.cs y28).drop 2)) [] O .scf G (fun hc=>Ga Z7 O O O) O (JLo (U8 y28.Size) [35] O .scf ⟨Ua,G⟩ (fun hc=>Gf J6 O O O) O (JLo (BL (decide (y28.Size≠40))) [36] O .scf ⟨Ua,G⟩ (fun hc=>G50 O O O) O ?_)))))))))))))
   refine JLo (BL (decide (y28.Size≠40))) [37] O .scf ⟨Ua,G⟩ (fun hc=>G6 O O) O (JLo (.dptr ((Gd.cs y28).drop 2)) [] O .optt G (fun hc=>Ga Z7 O O O) O (JLo (U8 y28.Size) [39] O .optt ⟨Ua,G⟩ (fun hc=>Gf J6 O O O) O (JLo (BL (decide (y28.Size≠20))) [40] O .optt ⟨Ua,G⟩ (fun hc=>G50 O O O) O (JLo (BL (decide (y28.Size≠20))) [41] O .optt ⟨Ua,G⟩ (fun hc=>G6 O O) O (JLo (.dptr ((Gd.cs y28).drop 3)) [] O .optf G (fun hc=>Ga H07 O O O) O (JLo (BL y28.High) [43] O .optf ⟨Ua,G⟩ (fun hc=>Gf Q9 O O O) O (Gb (u:=BL ((decide (y28.Size≠20))||y28.High)) [(42,BL (decide (y28.Size≠20))),(44,_)] O O O .optt ⟨.all id,.part,G⟩ (fun hc=>G09 O O O O) ?_)))))))
   refine Gb (u:=BL ((decide (y28.Size≠40))&&((decide (y28.Size≠20))||y28.High))) [(38,BL (decide (y28.Size≠40))),(45,_)] O O O .scf ⟨.all id,.part,G⟩ (fun hc=>Qa O O O O) ?_
   refine JLh (BL (((decide (y28.ID≤s28))||(decide (999999 < y28.ID)))||((decide (y28.Size≠40))&&((decide (y28.Size≠20))||y28.High)))) (G09 O O O O) O (Ru (BL (((decide (y28.ID≤s28))||(decide (999999 < y28.ID)))||((decide (y28.Size≠40))&&((decide (y28.Size≠20))||y28.High)))) O (JLo (.dptr ((Gd.cs y28).drop 5)) [] O .scf G (fun hc=>Ga G00 O O O) O (JLo (G0 y28.Load) [49] O .scf ⟨Ua,G⟩ (fun hc=>Gf Gc O O O) O (JLo (BL (decide (y28.Load < 0))) [50] O .scf ⟨Ua,G⟩ (fun hc=>Hz O O O) O (JLh (BL ((((decide (y28.ID≤s28))||(decide (999999 < y28.ID)))||((decide (y28.Size≠40))&&((decide (y28.Size≠20))||y28.High)))||(decide (y28.Load < 0)))) (G09 O O O O) O (Ru (BL ((((decide (y28.ID≤s28))||(decide (999999 < y28.ID)))||((decide (y28.Size≠40))&&((decide (y28.Size≠20))||y28.High)))||(decide (y28.Load < 0)))) O (JLo (.dptr ((Gd.cs y28).drop 5)) [] O .scf G (fun hc=>Ga G00 O O O) O (JLo (G0 y28.Load) [54] O .scf ⟨Ua,G⟩ (fun hc=>Gf Gc O O O) O (JLo (.dptr ((Gd.cs y28).drop 6)) [] O .scf G (fun hc=>Ga G27 O O O) O (JLo (G0 y28.Discharge) [56] O .scf ⟨Ua,G⟩ (fun hc=>Gf Gc O O O) O (JLo (BL (decide (y28.Discharge≤y28.Load))) [55,57] O .scf ⟨Ua,Ua,G⟩ (fun hc=>G8a O O O) O (JLh (BL (((((decide (y28.ID≤s28))||(decide (999999 < y28.ID)))||((decide (y28.Size≠40))&&((decide (y28.Size≠20))||y28.High)))||(decide (y28.Load < 0)))||(decide (y28.Discharge≤y28.Load)))) (G09 O O O O) O (Ru (BL (((((decide (y28.ID≤s28))||(decide (999999 < y28.ID)))||((decide (y28.Size≠40))&&((decide (y28.Size≠20))||y28.High)))||(decide (y28.Load < 0)))||(decide (y28.Discharge≤y28.Load)))) O ?_)))))))))))))
   refine JLo (.dptr ((Gd.cs y28).drop 6)) [] O .scf G (fun hc=>Ga G27 O O O) O (JLo (G0 y28.Discharge) [61] O .scf ⟨Ua,G⟩ (fun hc=>Gf Gc O O O) O (JLo (G0 calls) [] O .scf G (fun hc=>G6 O O) O (JLo (BL (decide (calls≤y28.Discharge))) [62,63] O .scf ⟨Ua,Ua,G⟩ (fun hc=>G8a O O O) O (JLh (BL ((((((decide (y28.ID≤s28))||(decide (999999 < y28.ID)))||((decide (y28.Size≠40))&&((decide (y28.Size≠20))||y28.High)))||(decide (y28.Load < 0)))||(decide (y28.Discharge≤y28.Load)))||(decide (calls≤y28.Discharge)))) (G09 O O O O) O (G7 (hK34 (JCc O h (fun h hb=>?_) (fun h hb=>?_))))))))
   ·
    refine Jr fun hK35=>(Ru (BL false) O (G7 (hK35 (Gr (fin1 BL h)))))
   ·
    refine Gn (hK33 (G3 (JLh (Ee y28) (Ga Jq O O O) O (JLh (G0 y28.ID) (Gf Gc O O O) O (Ru (G0 y28.ID) O (G7 (hK31 (G3 (JLh (G0 ((i28+1:Nat):Int)) (Hu (He hk28 hm20) O O O) O (Ru (G0 ((i28+1:Nat):Int)) O (G7 (e28 _ _ (i28+1) y28.ID (app1 hn28 h) (by omega) ⟨(by repeat' constructor),G,rfl⟩))))))))))))
  ·
   have h:=app1 hkx28 (Hp hi28 (H7 hb))
   refine Hr (hK6 (Jr fun hK36=>(Ru (BL true) O (G7 (hK36 (Gr (fin1 BL h)))))))

def G2d (boxes:List Gd) (call:Int):Option (List Int):=
 each (fun y19 i19 (s19:(List Int)) nx19=>
  jp (fun kj22=>
   bif ((decide (y19.Load≤call))&&(decide (call < y19.Discharge))) then
   (need (decide ((s19.length+[y19.ID].length)*8≤140737488355328∧s19.length+[y19.ID].length≤maxLen)) <|
    kj22 (s19++[y19.ID]))
   else
   (kj22 s19)) fun(j22:(List Int))=>
  nx19 j22)
 (fun(s19:(List Int))=>
  some s19) boxes 0 []
theorem H4d (boxes:List Gd) (call:Int) (r:(List Int)) (h:G2d boxes call=some r):Pure Ej 19 [E2 boxes,G0 call] (·=E1 r):=by
 unfold G2d at h
 refine H1 [.tmp 4] Tryz.func19 O O (Jr fun hK1=>(JLh (E1 ([]:List Int)) (Ht 1 O O) O (G7 (hK1 (Jr fun hK2=>(JLh (OW 1059 1 G0 ([]:List Int)) (G61 1059 3 1 O O O) O (G7 (hK2 (Js fun hK3=>Jr fun hK4=>(Ru (E2 boxes) O (JLl Jw O O O fun hm9=>(Ru (G0 0) O (G7 (hK4 (Gq ?_)))))))))))))))
 obtain⟨b19,kx19,hb19,hkx19,h⟩:=Hx h
 refine Hg (fun i19 (s19:(List Int))=>each b19 kx19 (List.drop i19 boxes) i19 s19=some r) (fun i19 s19=>[(1,G0 call),(5,OW 1059 1 G0 s19),(8,E2 boxes),(9,Ei boxes.length),(10,Ei i19)]) (fun i19 s19=>[(1059,.spare 3 1 s19.length s19.length)]) (fun i19=>boxes.length - i19) 0 [] h ⟨(by repeat' constructor),⟨⟨_,rfl,.same⟩,G⟩,rfl⟩ ?_
 clear h
 intro i19 s19 hi19 K19 e19
 refine Jr fun hK20=>(JLh (BL (decide ((i19:Int) < (boxes.length:Int)))) (Hz O O O) O (G7 (hK20 (Js fun hK21=>Gk O (fun hb=>?_) (fun hb=>?_)))))
 ·
  have hk19:=Jb hb
  obtain⟨y19,nx19,hy19,hn19,h⟩:=Ho hi19 hk19
  replace h:=Rw hb19 h
  refine Gn (hK21 ?_)
  obtain⟨kj22,hkj22,h⟩:=Rg h
  refine Qg (fun j22:(List Int)=>kj22 j22=some r) (fun j22=>[(1,G0 call),(5,OW 1059 1 G0 j22),(8,E2 boxes),(9,Ei boxes.length),(10,Ei i19)]) (fun j22=>[(1059,.spare 3 1 j22.length j22.length)]) (fun Kj22 ej22=>?_) ?_
  ·
   refine Gq (Jr fun hK23=>(JLh (Ee y19) (H4 (f:=Gd.av) (xs:=boxes) (y:=y19) O O O Jw hy19 O) O (JLh (.agg (Gd.cs y19)) (Gi Zc O O O) O (JLh (.ptr 1060 0) (Hn 1060 9 Rn O O) O (Hs (u:=.junk) (Ha (u:=.agg (Gd.cs y19)) (ds:=(Gd.cs y19)) Yv O O O O O O O O) (G7 (hK23 (Gp [(1,G0 call),(5,OW 1059 1 G0 s19),(7,Ee y19),(8,E2 boxes),(9,Ei boxes.length),(10,Ei i19)] [(1059,.spare 3 1 s19.length s19.length)] 1060 rfl rfl rfl ⟨⟨_,rfl,.same⟩,G⟩ rfl (by repeat' (first | exact .ptr | constructor)) ?_))))))))
   refine Jr fun hK24=>(JLh (.dptr ((Gd.cs y19).drop 5)) (Ga G00 O O O) O (JLh (G0 y19.Load) (Gf Gc O O O) O (Ru (G0 call) O (JLh (BL (decide (y19.Load≤call))) (Ha1 O O O) O (Ru (BL (decide (y19.Load≤call))) O (JLo (G0 call) [] O .sct G (fun hc=>G6 O O) O (JLo (.dptr ((Gd.cs y19).drop 6)) [] O .sct G (fun hc=>Ga G27 O O O) O (JLo (G0 y19.Discharge) [20] O .sct ⟨Ua,G⟩ (fun hc=>Gf Gc O O O) O (JLo (BL (decide (call < y19.Discharge))) [19,21] O .sct ⟨Ua,Ua,G⟩ (fun hc=>Hz O O O) O (JLh (BL ((decide (y19.Load≤call))&&(decide (call < y19.Discharge)))) (Qa O O O O) O (G7 (hK24 (JCc O h (fun h hb=>?_) (fun h hb=>?_))))))))))))))
   ·
    refine G3 (Ru (OW 1059 1 G0 s19) O (JLh (Ee y19) (Ga Jq O O O) O (JLh (G0 y19.ID) (Gf Gc O O O) O (JLh (E1 [y19.ID]) (H9 (xs:=[G0 y19.ID]) O ⟨O,O,G⟩ Gv Y0 O O O O) O ?_))))
    obtain⟨ha25,h⟩:=Jj h
    refine JLh (OW 1059 1 G0 (s19++[y19.ID])) (Rc (f:=G0) (xs:=s19) (ys:=[y19.ID]) O O O O Gv G43 ha25 (fun _=>O) (.inl O) O) O (Ru (OW 1059 1 G0 (s19++[y19.ID])) O (G7 (ej22 _ _ (s19++[y19.ID]) h ⟨(by repeat' constructor),⟨⟨_,rfl,.same⟩,G⟩,rfl⟩)))
   ·
    refine Gn (ej22 _ _ s19 h ⟨(by repeat' constructor),⟨⟨_,rfl,.same⟩,G⟩,rfl⟩)
  ·intro j22 h
   replace h:=app1 hkj22 h
   refine G3 (JLh (G0 ((i19+1:Nat):Int)) (Hu (He hk19 hm9) O O O) O (Ru (G0 ((i19+1:Nat):Int)) O (G7 (e19 _ _ (i19+1) j22 (app1 hn19 h) (by omega) ⟨(by repeat' constructor),⟨⟨_,rfl,.same⟩,G⟩,rfl⟩))))
 ·
  have h:=app1 hkx19 (Hp hi19 (H7 hb))
  refine Hr (hK3 (Jr fun hK26=>(Ru (OW 1059 1 G0 s19) O (Ru (OW 1059 1 G0 s19) O (G7 (hK26 (Gr (fin1l (fun r:(List Int)=>(E1 r:AV)) h))))))))

def Y8 (s1_:List Stowed) (s2_:List Int) (eq:Stowed→Int→Option Bool):Option Bool:=
 bif decide ((s1_.length:Int)≠(s2_.length:Int)) then
 (some false)
 else
 (each (fun y29 i29 (s29:Unit) nx29=>
   Rx s2_ (i29:Int) fun y35=>
   bnd (eq y29 y35) fun r38=>
   bif (!r38) then
   (some false)
   else
   (nx29 ()))
  (fun(s29:Unit)=>
   some true) s1_ 0 ())
theorem H10 (s1_:List Stowed) (s2_:List Int) (eq:Stowed→Int→Option Bool) (eq_f:FuncId) (eq_c:List AV) (eq_B:Hf Ej eq_f=true) (eq_d:Ya (fun _=>false) eq_c=true) (eq_w:∀ a0 a1 q,eq a0 a1=some q→Pure Ej eq_f ([.agg (Stowed.cs a0),G0 a1]++eq_c) (·=BL q)) (r:Bool) (h:Y8 s1_ s2_ eq=some r):Pure Ej 18 [E0 s1_,E1 s2_,.fn eq_f eq_c] (·=BL r):=by
 unfold Y8 at h
 refine H1 [.tmp 6] Tryz.func18 O O (Jr fun hK1=>(Ru (BL false) O (G7 (hK1 (Js fun hK2=>Jr fun hK3=>(Ru (E0 s1_) O (JLl Gx O O O fun hm11=>(Ru (E1 s2_) O (JLl Gv O O O fun hm13=>(JLh (BL (decide ((s1_.length:Int)≠(s2_.length:Int)))) (G50 O O O) O (G7 (hK3 (JCc O h (fun h hb=>?_) (fun h hb=>?_))))))))))))))
 ·
  refine Jr fun hK4=>(Ru (BL false) O (G7 (hK4 (Gr (fin1 BL h)))))
 ·
  refine Gn (hK2 (Js fun hK5=>Jr fun hK6=>(Ru (E0 s1_) O (JLl Gx O O O fun hm16=>(Ru (G0 0) O (G7 (hK6 (Gq ?_))))))))
  obtain⟨b29,kx29,hb29,hkx29,h⟩:=Hx h
  refine Hg (fun i29 (s29:Unit)=>each b29 kx29 (List.drop i29 s1_) i29 s29=some r) (fun i29 s29=>[(1,E1 s2_),(2,.fn eq_f eq_c),(15,E0 s1_),(16,Ei s1_.length),(17,Ei i29)]) (fun i29 s29=>[]) (fun i29=>s1_.length - i29) 0 () h ⟨⟨.same O,.same (Jc _ _ eq_d),.same O,.same O,.same O,G⟩,G,O⟩ ?_
  clear h
  intro i29 s29 hi29 K29 e29
  refine Jr fun hK30=>(JLh (BL (decide ((i29:Int) < (s1_.length:Int)))) (Hz O O O) O (G7 (hK30 (Js fun hK31=>Gk O (fun hb=>?_) (fun hb=>?_)))))
  ·
   have hk29:=Jb hb
   obtain⟨y29,nx29,hy29,hn29,h⟩:=Ho hi29 hk29
   replace h:=Rw hb29 h
   refine Gn (hK31 (Js fun hK32=>Gq (Jr fun hK33=>(Ru (Ei i29) O (JLh (Ed y29) (H4 (f:=Stowed.av) (xs:=s1_) (y:=y29) O O O Gx hy29 O) O (JLh (.agg (Stowed.cs y29)) (Gi Q0 O O O) O (JLh (.ptr 1058 0) (Hn 1058 4 Je O O) O (Ru (Ei i29) O (Hs (u:=.junk) (Ha (u:=.agg (Stowed.cs y29)) (ds:=[G0 y29.Gd,G0 y29.Slot.G4,G0 y29.Slot.Tier,U8 y29.Slot.Half]) Qv O O O O O O O O) (G7 (hK33 ?_)))))))))))
   refine Gp [(1,E1 s2_),(2,.fn eq_f eq_c),(7,Ei i29),(8,Ed y29),(15,E0 s1_),(16,Ei s1_.length),(17,Ei i29)] [] 1058 rfl rfl rfl G rfl (by exact⟨.conv (.same rfl),.conv (.same (Jc _ _ eq_d)),.conv (.same rfl),.ptr,.conv (.same rfl),.conv (.same rfl),.conv (.same rfl),G⟩) (Jr fun hK34=>(Ru (E1 s2_) O (Ru (Ei i29) O ?_)))
   obtain⟨m36,y35,hm36,hy35,h⟩:=Yd h
   refine JLh (.dptr [G0 y35]) (H4 (f:=G0) (xs:=s2_) (y:=y35) O O O Gv hy35 hm36) O (JLh (G0 y35) (Gf Gc O O O) O (Ru (G0 y35) O (G7 (hK34 (Jr fun hK37=>(Ru (.fn eq_f eq_c) O (JLh (.agg (Stowed.cs y29)) (Gi Q0 O O O) O (Ru (G0 y35) O ?_))))))))
   obtain⟨r38,hr38,h⟩:=Ge h
   refine JLh (BL r38) (G15 (args:=[.agg (Stowed.cs y29),G0 y35]) (caps:=eq_c) O O (eq_w y29 y35 _ hr38) eq_B ⟨O,O,O,O,G⟩ eq_d) O (JLh (BL (!r38)) (Rj (b:=r38) O O) O (G7 (hK37 (JCc O h (fun h hb=>?_) (fun h hb=>?_)))))
   ·
    refine Jr fun hK39=>(Ru (BL false) O (G7 (hK39 (Gr (fin1 BL h)))))
   ·
    refine Gn (hK32 (G3 (JLh (G0 ((i29+1:Nat):Int)) (Hu (He hk29 hm16) O O O) O (Ru (G0 ((i29+1:Nat):Int)) O (G7 (e29 _ _ (i29+1) () (app1 hn29 h) (by omega) ⟨⟨.same rfl,.same (Jc _ _ eq_d),.same rfl,.same rfl,.same rfl,G⟩,G,rfl⟩))))))
  ·
   have h:=app1 hkx29 (Hp hi29 (H7 hb))
   refine Hr (hK5 (Jr fun hK40=>(Ru (BL true) O (G7 (hK40 (Gr (fin1 BL h)))))))

def Zk (x:Stowed) (id_:Int):Option Bool:=
 some (decide (x.Gd=id_))
theorem J0c (x:Stowed) (id_:Int) (r:Bool) (h:Zk x id_=some r):Pure Ej 20 [.agg (Stowed.cs x),G0 id_] (·=BL r):=by
 unfold Zk at h
 refine H1 [.tmp 4] Tryz.func20 O O (Jr fun hK1=>(JLh (.ptr 1061 0) (Jm (cs:=[G0 x.Gd,G0 x.Slot.G4,G0 x.Slot.Tier,U8 x.Slot.Half]) 1061 O O O O O) O (Ru (BL false) O (G7 (hK1 (Gp [(1,G0 id_),(2,Ed x)] [] 1061 rfl rfl rfl G rfl (by exact⟨.conv (.same rfl),.ptr,G⟩) (Jr fun hK2=>(JLh (Ed x) (Ga Hv O O O) O (JLh (G0 x.Gd) (Gf Gc O O O) O (Ru (G0 id_) O (JLh (BL (decide (x.Gd=id_))) (Qh O O O) O (Ru (BL (decide (x.Gd=id_))) O (G7 (hK2 (Gr (fin1 BL h))))))))))))))))

def G21 (s:Gw) (boxes:List Gd) (calls:Int) (p:G2f):Option (Int×Int):=
 bnd (G1f s) fun r4=>
 bif (!r4) then
 (some (0,2))
 else
 (bnd (G88 boxes calls) fun r7=>
  bif (!r7) then
  (some (0,230))
  else
  (bif decide ((p.States.length:Int)≠calls) then
   (some (0,231))
   else
   (each (fun y45 i45 (s45:Unit) nx45=>
     bnd (R2 s boxes y45) fun r52=>
     bif (!r52) then
     (some ((i45:Int),232))
     else
     (bnd (G2d boxes (i45:Int)) fun r55=>
      bnd (Y8 y45 r55 (fun z0 z1=>Zk z0 z1)) fun r56=>
      bif (!r56) then
      (some ((i45:Int),233))
      else
      (nx45 ())))
    (fun(s45:Unit)=>
     some (0,0)) p.States 0 ())))
theorem Ge6 (s:Gw) (boxes:List Gd) (calls:Int) (p:G2f) (r:Int×Int) (h:G21 s boxes calls p=some r):Pure Ej 6 [.agg (Gw.cs s),E2 boxes,G0 calls,.agg [LS 1 (E0) p.States,LS 1 (E1) p.Water]] (·=.tup [G0 r.1,G0 r.2]):=by
 unfold G21 at h
 refine H1 [.tmp 8,.tmp 9] Tryz.func6 O O (Jr fun hK1=>(JLh (.ptr 1019 0) (Jm (cs:=(Gw.cs s)) 1019 O O O O O) O (JLh (.ptr 1020 0) (Jm (cs:=[LS 1 (E0) p.States,LS 1 (E1) p.Water]) 1020 O O O O O) O (Ru (G0 0) O (Ru (G0 0) O (G7 (hK1 ?_)))))))
 refine Gp [(1,E2 boxes),(2,G0 calls),(4,Ec s),(7,.ptr 1020 0)] [(1020,.box 41 [LS 1 (E0) p.States,LS 1 (E1) p.Water])] 1019 rfl rfl rfl ⟨⟨_,rfl,.boxEq rfl rfl⟩,G⟩ rfl (by repeat' (first | exact .ptr | constructor)) ?_
 refine Gp [(1,E2 boxes),(2,G0 calls),(4,Ec s),(7,.dptr [LS 1 (E0) p.States,LS 1 (E1) p.Water])] [] 1020 rfl rfl rfl G rfl (by repeat' (first | exact .ptr | constructor)) (Js fun hK2=>Gq (Jr fun hK3=>(JLh (.agg (Gw.cs s)) (Gi Hq O O O) O ?_)))
 obtain⟨r4,hr4,h⟩:=Ge h
 refine JLh (BL r4) (Gt O (H70.down s r4 hr4) J6c ⟨O,O,G⟩) O (JLh (BL (!r4)) (Rj (b:=r4) O O) O (Ru (BL (!r4)) O (G7 (hK3 (JCc O h (fun h hb=>?_) (fun h hb=>?_))))))
 ·
  refine Jr fun hK5=>(Ru (G0 0) O (Ru (G0 2) O (G7 (hK5 (Gr (⟨[G0 0,G0 2],[],G,O,⟨⟨_,O,.conv (.same O)⟩,⟨_,O,.conv (.same O)⟩,G⟩,O,congrArg (fun r:Int×Int=>(.tup [G0 r.1,G0 r.2]:AV)) (Option.some.inj h)⟩))))))
 ·
  refine Jr fun hK6=>(Ru (E2 boxes) O (Ru (G0 calls) O ?_))
  obtain⟨r7,hr7,h⟩:=Ge h
  refine JLh (BL r7) (Gt O (Ja1 boxes calls r7 hr7) Q1f ⟨O,O,O,O,G⟩) O (JLh (BL (!r7)) (Rj (b:=r7) O O) O (Ru (BL (!r7)) O (G7 (hK6 (JCc O h (fun h hb=>?_) (fun h hb=>?_))))))
  ·
   refine Jr fun hK8=>(Ru (G0 0) O (Ru (G0 230) O (G7 (hK8 (Gr (⟨[G0 0,G0 230],[],G,O,⟨⟨_,O,.conv (.same O)⟩,⟨_,O,.conv (.same O)⟩,G⟩,O,congrArg (fun r:Int×Int=>(.tup [G0 r.1,G0 r.2]:AV)) (Option.some.inj h)⟩))))))
  ·
   refine Jr fun hK9=>(JLh (.dptr [LS 1 (E0) p.States,LS 1 (E1) p.Water]) (Ga Z8 O O O) O (JLh (LS 1 (E0) p.States) (Gf Y2 O O O) O (JLl J9 O O O fun hm24=>(Ru (G0 calls) O (JLh (BL (decide ((p.States.length:Int)≠calls))) (G50 O O O) O (Ru (BL (decide ((p.States.length:Int)≠calls))) O (G7 (hK9 (JCc O h (fun h hb=>?_) (fun h hb=>?_))))))))))
   ·
    refine Jr fun hK10=>(Ru (G0 0) O (Ru (G0 231) O (G7 (hK10 (Gr (⟨[G0 0,G0 231],[],G,O,⟨⟨_,O,.conv (.same O)⟩,⟨_,O,.conv (.same O)⟩,G⟩,O,congrArg (fun r:Int×Int=>(.tup [G0 r.1,G0 r.2]:AV)) (Option.some.inj h)⟩))))))
   ·
    refine Gn (hK2 (Js fun hK11=>Jr fun hK12=>(JLh (.dptr [LS 1 (E0) p.States,LS 1 (E1) p.Water]) (Ga Z8 O O O) O (JLh (LS 1 (E0) p.States) (Gf Y2 O O O) O (JLl J9 O O O fun hm29=>(Ru (G0 0) O (G7 (hK12 (Gq ?_)))))))))
    obtain⟨b45,kx45,hb45,hkx45,h⟩:=Hx h
    refine Hg (fun i45 (s45:Unit)=>each b45 kx45 (List.drop i45 p.States) i45 s45=some r) (fun i45 s45=>[(1,E2 boxes),(4,Ec s),(28,LS 1 (E0) p.States),(29,Ei p.States.length),(30,Ei i45)]) (fun i45 s45=>[]) (fun i45=>p.States.length - i45) 0 () h ⟨(by repeat' constructor),G,rfl⟩ ?_
    clear h
    intro i45 s45 hi45 K45 e45
    refine Jr fun hK46=>(JLh (BL (decide ((i45:Int) < (p.States.length:Int)))) (Hz O O O) O (G7 (hK46 (Js fun hK47=>Gk O (fun hb=>?_) (fun hb=>?_)))))
    ·
     have hk45:=Jb hb
     obtain⟨y45,nx45,hy45,hn45,h⟩:=Ho hi45 hk45
     replace h:=Rw hb45 h
     refine Gn (hK47 (Js fun hK48=>Gq (Jr fun hK49=>(Ru (Ei i45) O (JLh (.dptr [E0 y45]) (H4 (f:=(E0)) (xs:=p.States) (y:=y45) O O O J9 hy45 O) O (JLh (E0 y45) (Gf Q2 O O O) O (Ru (Ei i45) O (Ru (E0 y45) O (G7 (hK49 (Js fun hK50=>Jr fun hK51=>(JLh (.agg (Gw.cs s)) (Gi Hq O O O) O (Ru (E2 boxes) O (Ru (E0 y45) O ?_))))))))))))))
     obtain⟨r52,hr52,h⟩:=Ge h
     refine JLh (BL r52) (Gt O (G11 s boxes y45 r52 hr52) G90 ⟨O,O,O,O,O,O,G⟩) O (JLh (BL (!r52)) (Rj (b:=r52) O O) O (G7 (hK51 (JCc O h (fun h hb=>?_) (fun h hb=>?_)))))
     ·
      refine Jr fun hK53=>(Ru (Ei i45) O (Ru (Ei i45) O (Ru (G0 232) O (G7 (hK53 (Gr (⟨[Ei i45,G0 232],[],G,O,⟨⟨_,O,.conv (.same O)⟩,⟨_,O,.conv (.same O)⟩,G⟩,O,congrArg (fun r:Int×Int=>(.tup [G0 r.1,G0 r.2]:AV)) (Option.some.inj h)⟩)))))))
     ·
      refine Gn (hK50 (Jr fun hK54=>(Ru (E0 y45) O (Ru (E2 boxes) O (Ru (Ei i45) O ?_)))))
      obtain⟨r55,hr55,h⟩:=Ge h
      refine JLh (E1 r55) (Gt O (H4d boxes (i45:Int) r55 hr55) J6b ⟨O,O,O,O,G⟩) O ?_
      obtain⟨r56,hr56,h⟩:=Ge h
      refine JLh (BL r56) (Gt O (H10 y45 r55 (fun z0 z1=>Zk z0 z1) 20 [] Q1d O (fun z0 z1 q hq=>J0c z0 z1 q hq) r56 hr56) Q1e ⟨O,O,O,O,O,O,G⟩) O (JLh (BL (!r56)) (Rj (b:=r56) O O) O (G7 (hK54 (JCc O h (fun h hb=>?_) (fun h hb=>?_)))))
      ·
       refine Jr fun hK57=>(Ru (Ei i45) O (Ru (Ei i45) O (Ru (G0 233) O (G7 (hK57 (Gr (⟨[Ei i45,G0 233],[],G,O,⟨⟨_,O,.conv (.same O)⟩,⟨_,O,.conv (.same O)⟩,G⟩,O,congrArg (fun r:Int×Int=>(.tup [G0 r.1,G0 r.2]:AV)) (Option.some.inj h)⟩)))))))
      ·
       refine Gn (hK48 (G3 (JLh (G0 ((i45+1:Nat):Int)) (Hu (He hk45 hm29) O O O) O (Ru (G0 ((i45+1:Nat):Int)) O (G7 (e45 _ _ (i45+1) () (app1 hn45 h) (by omega) ⟨(by repeat' constructor),G,rfl⟩))))))
    ·
     have h:=app1 hkx45 (Hp hi45 (H7 hb))
     refine Hr (hK11 (Jr fun hK58=>(Ru (G0 0) O (Ru (G0 0) O (G7 (hK58 (Gr (⟨[G0 0,G0 0],[],G,O,⟨⟨_,O,.conv (.same O)⟩,⟨_,O,.conv (.same O)⟩,G⟩,O,congrArg (fun r:Int×Int=>(.tup [G0 r.1,G0 r.2]:AV)) (Option.some.inj h)⟩))))))))

def Gc9 (p:G2f):Option Unit:=
 some ()
theorem J9f (p:G2f) (r:Unit) (h:Gc9 p=some r):Pure Ej 21 [.agg [LS 1 (E0) p.States,LS 1 (E1) p.Water]] (·=.fn 47 [.dptr [LS 1 (E0) p.States,LS 1 (E1) p.Water]]):=by
 unfold Gc9 at h
 refine H1 [.tmp 2] Tryz.func21 O O (Jr fun hK1=>(JLh (.ptr 1062 0) (Jm (cs:=[LS 1 (E0) p.States,LS 1 (E1) p.Water]) 1062 O O O O O) O (Ru (.sc .nilFunc) O (G7 (hK1 (Gp [(1,.dptr [LS 1 (E0) p.States,LS 1 (E1) p.Water])] [] 1062 rfl rfl rfl G rfl (by exact⟨.ptr,G⟩) (Jr fun hK2=>(JLh (.fn 47 [.dptr [LS 1 (E0) p.States,LS 1 (E1) p.Water]]) (Rk (cs:=[.dptr [LS 1 (E0) p.States,LS 1 (E1) p.Water]]) O O) O (Ru (.fn 47 [.dptr [LS 1 (E0) p.States,LS 1 (E1) p.Water]]) O (G7 (hK2 (Gr ?_))))))))))))
 exact⟨[.fn 47 [.dptr [LS 1 (E0) p.States,LS 1 (E1) p.Water]]],[],G,O,⟨⟨_,O,.conv (.same O)⟩,G⟩,O,congrArg (fun _:Unit=>(.fn 47 [.dptr [LS 1 (E0) p.States,LS 1 (E1) p.Water]]:AV)) (Option.some.inj h)⟩

def G14 (id_:Int) (p1:List Stowed) (p2:List Stowed):Option Bool:=
 bnd (Zw p1 id_) fun r3=>
 bnd (Zw p2 id_) fun r5=>
 some ((!r3.2)||(!r5.2))
theorem Hb9 (id_:Int) (p1:List Stowed) (p2:List Stowed) (r:Bool) (h:G14 id_ p1 p2=some r):Pure Ej 24 [G0 id_,.dptr [E0 p1],.dptr [E0 p2]] (·=BL r):=by
 unfold G14 at h
 refine H1 [.tmp 4] Tryz.func24 O O (Jr fun hK1=>(Ru (BL false) O (G7 (hK1 (Jr fun hK2=>(JLh (E0 p1) (Gf Q2 O O O) O (Ru (G0 id_) O ?_)))))))
 obtain⟨r3,hr3,h⟩:=Ge h
 refine JLh (.tup [.agg (Slot.cs r3.1),BL r3.2]) (Gt O (G08 p1 id_ r3 hr3) G69 ⟨O,O,O,O,G⟩) O (Ru (.tup [.agg (Slot.cs r3.1),BL r3.2]) O (JLh (.agg (Slot.cs r3.1)) (H6 O O O) O (JLh (BL r3.2) (H6 O O O) O (JLh (.ptr 1075 0) (Hn 1075 3 Rm O O) O (Hs (u:=.junk) (Ha (u:=.agg (Slot.cs r3.1)) (ds:=[G0 r3.1.G4,G0 r3.1.Tier,U8 r3.1.Half]) Ye O O O O O O O O) (Ru (BL r3.2) O (G7 (hK2 (Gp [(0,G0 id_),(2,.dptr [E0 p2]),(6,BL r3.2)] [] 1075 rfl rfl rfl G rfl (by exact⟨.conv (.same rfl),.conv (.same rfl),.conv (.same rfl),G⟩) (Jr fun hK4=>(JLh (E0 p2) (Gf Q2 O O O) O (Ru (G0 id_) O ?_))))))))))))
 obtain⟨r5,hr5,h⟩:=Ge h
 refine JLh (.tup [.agg (Slot.cs r5.1),BL r5.2]) (Gt O (G08 p2 id_ r5 hr5) G69 ⟨O,O,O,O,G⟩) O (Ru (.tup [.agg (Slot.cs r5.1),BL r5.2]) O (JLh (.agg (Slot.cs r5.1)) (H6 O O O) O (JLh (BL r5.2) (H6 O O O) O (JLh (.ptr 1076 0) (Hn 1076 3 Rm O O) O (Hs (u:=.junk) (Ha (u:=.agg (Slot.cs r5.1)) (ds:=[G0 r5.1.G4,G0 r5.1.Tier,U8 r5.1.Half]) Ye O O O O O O O O) (Ru (BL r5.2) O (G7 (hK4 (Gp [(6,BL r3.2),(8,BL r5.2)] [] 1076 rfl rfl rfl G rfl (by exact⟨.conv (.same rfl),.conv (.same rfl),G⟩) ?_)))))))))
 refine Jr fun hK6=>(Ru (BL r3.2) O (JLh (BL (!r3.2)) (Rj (b:=r3.2) O O) O (Ru (BL (!r3.2)) O (JLo (BL r5.2) [] O .scf G (fun hc=>G6 O O) O (JLo (BL (!r5.2)) [24] O .scf ⟨Ua,G⟩ (fun hc=>Rj (b:=r5.2) O O) O (JLh (BL ((!r3.2)||(!r5.2))) (G09 O O O O) O (Ru (BL ((!r3.2)||(!r5.2))) O (G7 (hK6 (Gr (fin1 BL h)))))))))))

def Z2 (s:List Int) (f:Int→Option Bool):Option Int:=
 each (fun y20 i20 (s20:Unit) nx20=>
  bnd (f y20) fun r26=>
  bif r26 then
  (some (i20:Int))
  else
  (nx20 ()))
 (fun(s20:Unit)=>
  some (-1)) s 0 ()
theorem H0f (s:List Int) (f:Int→Option Bool) (f_f:FuncId) (f_c:List AV) (f_B:Hf Ej f_f=true) (f_d:Ya (fun _=>false) f_c=true) (f_w:∀ a0 q,f a0=some q→Pure Ej f_f ([G0 a0]++f_c) (·=BL q)) (r:Int) (h:Z2 s f=some r):Pure Ej 48 [E1 s,.fn f_f f_c] (·=G0 r):=by
 unfold Z2 at h
 refine H1 [.tmp 4] Tryz.func48 O O (Jr fun hK1=>(Ru (G0 0) O (G7 (hK1 (Js fun hK2=>Jr fun hK3=>(Ru (E1 s) O (JLl Gv O O O fun hm7=>(Ru (G0 0) O (G7 (hK3 (Gq ?_)))))))))))
 obtain⟨b20,kx20,hb20,hkx20,h⟩:=Hx h
 refine Hg (fun i20 (s20:Unit)=>each b20 kx20 (List.drop i20 s) i20 s20=some r) (fun i20 s20=>[(0,E1 s),(1,.fn f_f f_c),(7,Ei s.length),(8,Ei i20)]) (fun i20 s20=>[]) (fun i20=>s.length - i20) 0 () h ⟨⟨.same O,.same (Jc _ _ f_d),.same O,.same O,G⟩,G,O⟩ ?_
 clear h
 intro i20 s20 hi20 K20 e20
 refine Jr fun hK21=>(JLh (BL (decide ((i20:Int) < (s.length:Int)))) (Hz O O O) O (G7 (hK21 (Js fun hK22=>Gk O (fun hb=>?_) (fun hb=>?_)))))
 ·
  have hk20:=Jb hb
  obtain⟨y20,nx20,hy20,hn20,h⟩:=Ho hi20 hk20
  replace h:=Rw hb20 h
  refine Gn (hK22 (Js fun hK23=>Gq (Jr fun hK24=>(Ru (Ei i20) O (Ru (Ei i20) O (G7 (hK24 (Jr fun hK25=>(Ru (.fn f_f f_c) O (Ru (E1 s) O (Ru (Ei i20) O (JLh (.dptr [G0 y20]) (H4 (f:=G0) (xs:=s) (y:=y20) O O O Gv hy20 O) O (JLh (G0 y20) (Gf Gc O O O) O ?_)))))))))))))
  obtain⟨r26,hr26,h⟩:=Ge h
  refine JLh (BL r26) (G15 (args:=[G0 y20]) (caps:=f_c) O O (f_w y20 _ hr26) f_B ⟨O,O,G⟩ f_d) O (G7 (hK25 (JCc O h (fun h hb=>?_) (fun h hb=>?_))))
  ·
   refine Jr fun hK27=>(Ru (Ei i20) O (Ru (Ei i20) O (G7 (hK27 (Gr (fin1 G0 h))))))
  ·
   refine Gn (hK23 (G3 (JLh (G0 ((i20+1:Nat):Int)) (Hu (He hk20 hm7) O O O) O (Ru (G0 ((i20+1:Nat):Int)) O (G7 (e20 _ _ (i20+1) () (app1 hn20 h) (by omega) ⟨⟨.same rfl,.same (Jc _ _ f_d),.same rfl,.same rfl,G⟩,G,rfl⟩))))))
 ·
  have h:=app1 hkx20 (Hp hi20 (H7 hb))
  refine Hr (hK2 (Jr fun hK28=>(Ru (G0 (-1)) O (G7 (hK28 (Gr (fin1 G0 h)))))))


theorem J38 (F:Nat) (s:Gw) (before:List Stowed) (after:List Stowed) (r:(List Int)) (h:Q6 F s before after=some r):Qc Ej 23 [.agg (Gw.cs s),E0 before,E0 after] [] (fun av L'=>∃ p:Nat,av=.vec 1074 p 1 r.length∧L'=[(1074,.vec 3 1 p (r.map G0))]):=by
 unfold Q6 at h
 refine Yy [] [.tmp 6] Tryz.func23 O O (H47 O) (Jr fun hK1=>(JLh (.ptr 1064 0) (Jm (cs:=(Gw.cs s)) 1064 O O O O O) O (JLh (.vec 1065 (([]:List Int).length) 1 (([]:List Int).length)) (Jca 1065 3 1 O O O) O (G7 (hK1 ?_)))))
 refine Gp [(1,E0 before),(2,E0 after),(3,Ec s)] [(1065,.vec 3 1 (([]:List Int).length) (([]:List Int).map G0))] 1064 rfl rfl rfl ⟨⟨_,rfl,.vec⟩,G⟩ rfl (by exact⟨.conv (.same rfl),.conv (.same rfl),.ptr,G⟩) ?_
 refine Jr fun hK2=>(Ru (E0 before) O (Ru (E0 after) O (JLh (LS 1 (E0) [before,after]) (H9 (xs:=[E0 before,E0 after]) O ⟨O,O,O,O,G⟩ J9 G34 O O O O) O (JLh (.ptr 1066 0) (Hn 1066 1 J10 O O) O (Hs (u:=.junk) (Ha (u:=LS 1 (E0) [before,after]) (ds:=[LS 1 (E0) [before,after]]) Ha4 O O O O O O O O) (G7 (hK2 ?_)))))))
 refine Gp [(1,E0 before),(2,E0 after),(3,Ec s),(7,.dptr [LS 1 (E0) [before,after]])] [(1065,.vec 3 1 (([]:List Int).length) (([]:List Int).map G0))] 1066 rfl rfl rfl ⟨⟨_,rfl,.vec⟩,G⟩ rfl (by repeat' (first | exact .ptr | constructor)) ?_
 refine Jr fun hK3=>(JLh (.mp 1073) (G9a 1073 (fun n:Int=>Value.int .i64 n) (fun _:Unit=>.agg []) O O) O (JLh (.ptr 1067 0) (Hn 1067 1 Hc7 O O) O (Hs (u:=.junk) (Ha (u:=.mp 1073) (ds:=[.mp 1073]) J14 O O O O O O O O) (G7 (hK3 (Jr fun hK4=>(JLh (.ptr 1068 0) (G16 1068 [.sc (.slice none 0 0)] [.slice none 0 0] J48 ⟨.inl O,G⟩ O O) O (Ja2 1068 0 1074 3 1 O O O (cs':=[.vec 1074 (([]:List Int).length) 1 (([]:List Int).length)]) O (G7 (hK4 (Jr fun hK5=>(JLh (.ptr 1069 0) (Hn 1069 1 Hc6 O O) O (G7 (hK5 ?_))))))))))))))
 refine Jr fun hK6=>(JLh (.fn 49 [.ptr 1067 0,.ptr 1068 0,.dptr [LS 1 (E0) [before,after]],Ec s,.ptr 1069 0]) (Rk (cs:=[.ptr 1067 0,.ptr 1068 0,.dptr [LS 1 (E0) [before,after]],Ec s,.ptr 1069 0]) O O) O (Hs (u:=.junk) (Ha (u:=.fn 49 [.ptr 1067 0,.ptr 1068 0,.dptr [LS 1 (E0) [before,after]],Ec s,.ptr 1069 0]) (ds:=[.fn 49 [.ptr 1067 0,.ptr 1068 0,.dptr [LS 1 (E0) [before,after]],Ec s,.ptr 1069 0]]) J13 O O O O O O O O) (G7 (hK6 ?_))))
 refine Js fun hK7=>Jr fun hK8=>(JLh (LS 1 (E0) [before,after]) (Gf Y2 O O O) O (JLl J9 O O O fun hm25=>(Ru (G0 0) O (G7 (hK8 (Gq ?_))))))
 obtain⟨b9,kx9,hb9,hkx9,h⟩:=Hx h
 refine Hg (fun i9 (s9:(H5 Int Unit)×(List Int))=>each b9 kx9 (List.drop i9 [before,after]) i9 s9=some r) (fun i9 s9=>[(1,E0 before),(2,E0 after),(9,.ptr 1068 0),(10,.ptr 1069 0),(24,LS 1 (E0) [before,after]),(25,G0 ([before,after].length:Int)),(26,Ei i9)]) (fun i9 s9=>[(1065,.vec 3 1 (([]:List Int).length) (([]:List Int).map G0)),(1073,MP 117 (fun n:Int=>Value.int .i64 n) (fun _:Unit=>.agg []) s9.1),(1074,.vec 3 1 s9.2.length (s9.2.map G0)),(1067,.box 117 [.mp 1073]),(1068,.box 50 [.vec 1074 s9.2.length 1 s9.2.length]),(1069,.box 118 [.fn 49 [.ptr 1067 0,.ptr 1068 0,.dptr [LS 1 (E0) [before,after]],Ec s,.ptr 1069 0]])]) (fun i9=>[before,after].length - i9) 0 ((H5.empty:H5 Int Unit),[]) h ⟨(by repeat' constructor),⟨⟨_,rfl,.vec⟩,⟨_,rfl,.map⟩,⟨_,rfl,.vec⟩,⟨_,rfl,.boxL rfl ⟨.same rfl,G⟩⟩,⟨_,rfl,.boxL rfl ⟨.same rfl,G⟩⟩,⟨_,rfl,.boxL rfl ⟨.same rfl,G⟩⟩,G⟩,rfl⟩ ?_
 clear h
 intro i9 s9 hi9 K9 e9
 refine Jr fun hK10=>(JLh (BL (decide ((i9:Int) < ([before,after].length:Int)))) (Hz O O O) O (G7 (hK10 (Js fun hK11=>Gk O (fun hb=>?_) (fun hb=>?_)))))
 ·
  have hk9:=Jb hb
  obtain⟨y9,nx9,hy9,hn9,h⟩:=Ho hi9 hk9
  replace h:=Rw hb9 h
  refine Gn (hK11 (Js fun hK12=>Gq (Jr fun hK13=>(JLh (.dptr [E0 y9]) (H4 (f:=(E0)) (xs:=[before,after]) (y:=y9) O O O J9 hy9 O) O (JLh (E0 y9) (Gf Q2 O O O) O (Ru (E0 y9) O (G7 (hK13 (Jr fun hK14=>(Ru (E0 y9) O (JLl Gx O O O fun hm31=>(Ru (G0 0) O (G7 (hK14 (Gq ?_)))))))))))))))
  obtain⟨b59,kx59,hb59,hkx59,h⟩:=Hx h
  refine Hg (fun i59 (s59:(H5 Int Unit)×(List Int))=>each b59 kx59 (List.drop i59 y9) i59 s59=some r) (fun i59 s59=>[(1,E0 before),(2,E0 after),(9,.ptr 1068 0),(10,.ptr 1069 0),(24,LS 1 (E0) [before,after]),(25,G0 ([before,after].length:Int)),(26,Ei i9),(30,E0 y9),(31,Ei y9.length),(32,Ei i59)]) (fun i59 s59=>[(1065,.vec 3 1 (([]:List Int).length) (([]:List Int).map G0)),(1073,MP 117 (fun n:Int=>Value.int .i64 n) (fun _:Unit=>.agg []) s59.1),(1074,.vec 3 1 s59.2.length (s59.2.map G0)),(1067,.box 117 [.mp 1073]),(1068,.box 50 [.vec 1074 s59.2.length 1 s59.2.length]),(1069,.box 118 [.fn 49 [.ptr 1067 0,.ptr 1068 0,.dptr [LS 1 (E0) [before,after]],Ec s,.ptr 1069 0]])]) (fun i59=>y9.length - i59) 0 (s9.1,s9.2) h ⟨(by repeat' constructor),⟨⟨_,rfl,.vec⟩,⟨_,rfl,.map⟩,⟨_,rfl,.vec⟩,⟨_,rfl,.boxL rfl ⟨.same rfl,G⟩⟩,⟨_,rfl,.boxL rfl ⟨.same rfl,G⟩⟩,⟨_,rfl,.boxL rfl ⟨.same rfl,G⟩⟩,G⟩,rfl⟩ ?_
  clear h
  intro i59 s59 hi59 K59 e59
  refine Jr fun hK60=>(JLh (BL (decide ((i59:Int) < (y9.length:Int)))) (Hz O O O) O (G7 (hK60 (Js fun hK61=>Gk O (fun hb=>?_) (fun hb=>?_)))))
  ·
   have hk59:=Jb hb
   obtain⟨y59,nx59,hy59,hn59,h⟩:=Ho hi59 hk59
   replace h:=Rw hb59 h
   refine Gn (hK61 ?_)
   obtain⟨kj62,hkj62,h⟩:=Rg h
   refine Qg (fun j62:(H5 Int Unit)×(List Int)=>kj62 j62=some r) (fun j62=>[(1,E0 before),(2,E0 after),(9,.ptr 1068 0),(10,.ptr 1069 0),(24,LS 1 (E0) [before,after]),(25,G0 ([before,after].length:Int)),(26,Ei i9),(30,E0 y9),(31,Ei y9.length),(32,Ei i59)]) (fun j62=>[(1065,.vec 3 1 (([]:List Int).length) (([]:List Int).map G0)),(1073,MP 117 (fun n:Int=>Value.int .i64 n) (fun _:Unit=>.agg []) j62.1),(1074,.vec 3 1 j62.2.length (j62.2.map G0)),(1067,.box 117 [.mp 1073]),(1068,.box 50 [.vec 1074 j62.2.length 1 j62.2.length]),(1069,.box 118 [.fn 49 [.ptr 1067 0,.ptr 1068 0,.dptr [LS 1 (E0) [before,after]],Ec s,.ptr 1069 0]])]) (fun Kj62 ej62=>?_) ?_
   ·
    refine Gq (Jr fun hK63=>(JLh (Ed y59) (H4 (f:=Stowed.av) (xs:=y9) (y:=y59) O O O Gx hy59 O) O (JLh (.agg (Stowed.cs y59)) (Gi Q0 O O O) O (JLh (.ptr 1070 0) (Hn 1070 4 Je O O) O (Hs (u:=.junk) (Ha (u:=.agg (Stowed.cs y59)) (ds:=[G0 y59.Gd,G0 y59.Slot.G4,G0 y59.Slot.Tier,U8 y59.Slot.Half]) Qv O O O O O O O O) (G7 (hK63 ?_)))))))
    refine Gp [(1,E0 before),(2,E0 after),(9,.ptr 1068 0),(10,.ptr 1069 0),(14,Ed y59),(24,LS 1 (E0) [before,after]),(25,G0 ([before,after].length:Int)),(26,Ei i9),(30,E0 y9),(31,Ei y9.length),(32,Ei i59)] [(1065,.vec 3 1 (([]:List Int).length) (([]:List Int).map G0)),(1073,MP 117 (fun n:Int=>Value.int .i64 n) (fun _:Unit=>.agg []) s59.1),(1074,.vec 3 1 s59.2.length (s59.2.map G0)),(1067,.box 117 [.mp 1073]),(1068,.box 50 [.vec 1074 s59.2.length 1 s59.2.length]),(1069,.box 118 [.fn 49 [.ptr 1067 0,.ptr 1068 0,.dptr [LS 1 (E0) [before,after]],Ec s,.ptr 1069 0]])] 1070 rfl rfl rfl ⟨⟨_,rfl,.vec⟩,⟨_,rfl,.map⟩,⟨_,rfl,.vec⟩,⟨_,rfl,.boxEq rfl rfl⟩,⟨_,rfl,.boxEq rfl rfl⟩,⟨_,rfl,.boxEq rfl rfl⟩,G⟩ rfl (by repeat' (first | exact .ptr | constructor)) ?_
    refine Jr fun hK64=>(Ru (E0 before) O (JLh (Ed y59) (Ga Hv O O O) O (JLh (G0 y59.Gd) (Gf Gc O O O) O ?_)))
    obtain⟨r65,hr65,h⟩:=Ge h
    refine JLh (.tup [.agg (Slot.cs r65.1),BL r65.2]) (Gt O (G08 before y59.Gd r65 hr65) G69 ⟨O,O,O,O,G⟩) O (Ru (.tup [.agg (Slot.cs r65.1),BL r65.2]) O (JLh (.agg (Slot.cs r65.1)) (H6 O O O) O (JLh (BL r65.2) (H6 O O O) O (JLh (.ptr 1071 0) (Hn 1071 3 Rm O O) O (Hs (u:=.junk) (Ha (u:=.agg (Slot.cs r65.1)) (ds:=[G0 r65.1.G4,G0 r65.1.Tier,U8 r65.1.Half]) Ye O O O O O O O O) (Ru (BL r65.2) O (G7 (hK64 ?_))))))))
    refine Gp [(1,E0 before),(2,E0 after),(9,.ptr 1068 0),(10,.ptr 1069 0),(14,Ed y59),(15,Eg r65.1),(16,BL r65.2),(24,LS 1 (E0) [before,after]),(25,G0 ([before,after].length:Int)),(26,Ei i9),(30,E0 y9),(31,Ei y9.length),(32,Ei i59)] [(1065,.vec 3 1 (([]:List Int).length) (([]:List Int).map G0)),(1073,MP 117 (fun n:Int=>Value.int .i64 n) (fun _:Unit=>.agg []) s59.1),(1074,.vec 3 1 s59.2.length (s59.2.map G0)),(1067,.box 117 [.mp 1073]),(1068,.box 50 [.vec 1074 s59.2.length 1 s59.2.length]),(1069,.box 118 [.fn 49 [.ptr 1067 0,.ptr 1068 0,.dptr [LS 1 (E0) [before,after]],Ec s,.ptr 1069 0]])] 1071 rfl rfl rfl ⟨⟨_,rfl,.vec⟩,⟨_,rfl,.map⟩,⟨_,rfl,.vec⟩,⟨_,rfl,.boxEq rfl rfl⟩,⟨_,rfl,.boxEq rfl rfl⟩,⟨_,rfl,.boxEq rfl rfl⟩,G⟩ rfl (by repeat' (first | exact .ptr | constructor)) ?_
    refine Jr fun hK66=>(Ru (E0 after) O (JLh (Ed y59) (Ga Hv O O O) O (JLh (G0 y59.Gd) (Gf Gc O O O) O ?_)))
    obtain⟨r67,hr67,h⟩:=Ge h
    refine JLh (.tup [.agg (Slot.cs r67.1),BL r67.2]) (Gt O (G08 after y59.Gd r67 hr67) G69 ⟨O,O,O,O,G⟩) O (Ru (.tup [.agg (Slot.cs r67.1),BL r67.2]) O (JLh (.agg (Slot.cs r67.1)) (H6 O O O) O (JLh (BL r67.2) (H6 O O O) O (JLh (.ptr 1072 0) (Hn 1072 3 Rm O O) O (Hs (u:=.junk) (Ha (u:=.agg (Slot.cs r67.1)) (ds:=[G0 r67.1.G4,G0 r67.1.Tier,U8 r67.1.Half]) Ye O O O O O O O O) (Ru (BL r67.2) O (G7 (hK66 ?_))))))))
    refine Gp [(1,E0 before),(2,E0 after),(9,.ptr 1068 0),(10,.ptr 1069 0),(14,Ed y59),(15,Eg r65.1),(16,BL r65.2),(17,Eg r67.1),(18,BL r67.2),(24,LS 1 (E0) [before,after]),(25,G0 ([before,after].length:Int)),(26,Ei i9),(30,E0 y9),(31,Ei y9.length),(32,Ei i59)] [(1065,.vec 3 1 (([]:List Int).length) (([]:List Int).map G0)),(1073,MP 117 (fun n:Int=>Value.int .i64 n) (fun _:Unit=>.agg []) s59.1),(1074,.vec 3 1 s59.2.length (s59.2.map G0)),(1067,.box 117 [.mp 1073]),(1068,.box 50 [.vec 1074 s59.2.length 1 s59.2.length]),(1069,.box 118 [.fn 49 [.ptr 1067 0,.ptr 1068 0,.dptr [LS 1 (E0) [before,after]],Ec s,.ptr 1069 0]])] 1072 rfl rfl rfl ⟨⟨_,rfl,.vec⟩,⟨_,rfl,.map⟩,⟨_,rfl,.vec⟩,⟨_,rfl,.boxEq rfl rfl⟩,⟨_,rfl,.boxEq rfl rfl⟩,⟨_,rfl,.boxEq rfl rfl⟩,G⟩ rfl (by repeat' (first | exact .ptr | constructor)) ?_
    refine Jr fun hK68=>(Ru (BL r65.2) O (Ru (BL r67.2) O (JLh (BL (!(r65.2==r67.2))) (Ja8 G91 O O O) O (Ru (BL (!(r65.2==r67.2))) O (JLo (.agg (Slot.cs r65.1)) [] O .scf G (fun hc=>Gi Jp O O O) O (JLo (.agg (Slot.cs r67.1)) [] O .scf G (fun hc=>Gi Jp O O O) O (JLo (BL (!decide (r65.1=r67.1))) [54,55] O .scf ⟨Ua,Ua,G⟩ (fun hc=>Jcb (vs:=[.int .i64 r65.1.G4,.int .i64 r65.1.Tier,.int .u8 r65.1.Half]) (us:=[.int .i64 r67.1.G4,.int .i64 r67.1.Tier,.int .u8 r67.1.Half]) 4 O (tq_78 r65.1 r67.1) H54 Hf1 O O O) O (JLh (BL ((!(r65.2==r67.2))||(!decide (r65.1=r67.1)))) (G09 O O O O) O (G7 (hK68 (JCc O h (fun h hb=>?_) (fun h hb=>?_))))))))))))
    ·
     refine G3 (JLh (.fn 49 [.ptr 1067 0,.ptr 1068 0,.dptr [LS 1 (E0) [before,after]],Ec s,.ptr 1069 0]) (Qj G9c O O O O) O (JLh (Ed y59) (Ga Hv O O O) O (JLh (G0 y59.Gd) (Gf Gc O O O) O ?_)))
     obtain⟨r69,hr69,h⟩:=Ge h
     refine JLh (.tup []) (Hee (args:=[G0 y59.Gd]) (caps:=[.ptr 1067 0,.ptr 1068 0,.dptr [LS 1 (E0) [before,after]],Ec s,.ptr 1069 0]) (L0:=[(1067,.box 117 [.mp 1073]),(1073,MP 117 (fun n:Int=>Value.int .i64 n) (fun _:Unit=>.agg []) s59.1),(1068,.box 50 [.vec 1074 s59.2.length 1 s59.2.length]),(1074,.vec 3 1 s59.2.length (s59.2.map G0)),(1069,.box 118 [.fn 49 [.ptr 1067 0,.ptr 1068 0,.dptr [LS 1 (E0) [before,after]],Ec s,.ptr 1069 0]])]) (Lr:=[(1067,.box 117 [.mp 1073]),(1073,MP 117 (fun n:Int=>Value.int .i64 n) (fun _:Unit=>.agg []) r69.1),(1068,.box 50 [.vec 1074 r69.2.length 1 r69.2.length]),(1074,.vec 3 1 r69.2.length (r69.2.map G0)),(1069,.box 118 [.fn 49 [.ptr 1067 0,.ptr 1068 0,.dptr [LS 1 (E0) [before,after]],Ec s,.ptr 1069 0]])]) O O (H00 F y59.Gd s59.1 s59.2 [before,after] s r69 hr69) H2c ⟨.inl O,O,G⟩ O ⟨O,O,O,O,O,G⟩ O O O) O (G7 ?_)
     exact ej62 _ _ (r69.1,r69.2) h ⟨(by repeat' constructor),⟨⟨_,rfl,.vec⟩,⟨_,rfl,.map⟩,⟨_,rfl,.vec⟩,⟨_,rfl,.boxL rfl ⟨.same rfl,G⟩⟩,⟨_,rfl,.boxL rfl ⟨.same rfl,G⟩⟩,⟨_,rfl,.boxL rfl ⟨.same rfl,G⟩⟩,G⟩,rfl⟩
    ·
     refine Gn (ej62 _ _ (s59.1,s59.2) h ⟨(by repeat' constructor),⟨⟨_,rfl,.vec⟩,⟨_,rfl,.map⟩,⟨_,rfl,.vec⟩,⟨_,rfl,.boxL rfl ⟨.same rfl,G⟩⟩,⟨_,rfl,.boxL rfl ⟨.same rfl,G⟩⟩,⟨_,rfl,.boxL rfl ⟨.same rfl,G⟩⟩,G⟩,rfl⟩)
   ·intro j62 h
    replace h:=app1 hkj62 h
    refine G3 (JLh (G0 ((i59+1:Nat):Int)) (Hu (He hk59 hm31) O O O) O (Ru (G0 ((i59+1:Nat):Int)) O (G7 (e59 _ _ (i59+1) (j62.1,j62.2) (app1 hn59 h) (by omega) ⟨(by repeat' constructor),⟨⟨_,rfl,.vec⟩,⟨_,rfl,.map⟩,⟨_,rfl,.vec⟩,⟨_,rfl,.boxL rfl ⟨.same rfl,G⟩⟩,⟨_,rfl,.boxL rfl ⟨.same rfl,G⟩⟩,⟨_,rfl,.boxL rfl ⟨.same rfl,G⟩⟩,G⟩,rfl⟩))))
  ·
   have h:=app1 hkx59 (Hp hi59 (H7 hb))
   refine Hr (hK12 (G3 (JLh (G0 ((i9+1:Nat):Int)) (Hu (He hk9 hm25) O O O) O (Ru (G0 ((i9+1:Nat):Int)) O (G7 (e9 _ _ (i9+1) (s59.1,s59.2) (app1 hn9 h) (by omega) ⟨(by repeat' constructor),⟨⟨_,rfl,.vec⟩,⟨_,rfl,.map⟩,⟨_,rfl,.vec⟩,⟨_,rfl,.boxL rfl ⟨.same rfl,G⟩⟩,⟨_,rfl,.boxL rfl ⟨.same rfl,G⟩⟩,⟨_,rfl,.boxL rfl ⟨.same rfl,G⟩⟩,G⟩,rfl⟩))))))
 ·
  have h:=app1 hkx9 (Hp hi9 (H7 hb))
  refine Hr (hK7 (Jr fun hK70=>(JLh (.vec 1074 s9.2.length 1 s9.2.length) (Qj Q1 O O O O) O ?_)))
  obtain⟨r71,hr71,h⟩:=Ge h
  refine JLh (.tup []) (A_sortI (F:=53) (xs:=s9.2) (r:=r71) O J18 Hcb J61 O O O hr71 O) O (G7 (hK70 (Jr fun hK72=>(JLh (.vec 1074 s9.2.length 1 s9.2.length) (Qj Q1 O O O O) O (Ru (.vec 1074 s9.2.length 1 s9.2.length) O (G7 (hK72 (H43 6 O O (fun hn_=>Gr ?_)))))))))
  obtain rfl:=Option.some.inj h
  exact⟨[.vec 1074 s9.2.length 1 s9.2.length],[(1074,.vec 3 1 s9.2.length (r71.map G0))],⟨⟨_,O,.vec⟩,G⟩,O,⟨⟨_,O,.conv (.same O)⟩,G⟩,s9.2.length,congrArg (fun n_:Nat=>(.vec 1074 s9.2.length 1 n_:AV)) (hn_.trans (List.length_map _)),O⟩

def Qr (F:Nat) (s:List Int) (del:Int→Option Bool):Option (List Int):=
 bnd (Z2 s del) fun r3=>
 bif decide (r3=(-1)) then
 (some s)
 else
 (G0d (r3+1) fun v9=>
  loop (fun nx48 (s48:Int×Int×(List Int))=>
   bif decide (s48.2.1 < (s48.2.2.length:Int)) then
   (jp (fun kj51=>
     Rx s48.2.2 s48.2.1 fun y53=>
     bnd (del y53) fun r55=>
     bif (!r55) then
     (Rx s48.2.2 s48.1 fun y57=>
      G0d (s48.1+1) fun v58=>
      kj51 (v58,(s48.2.2.set s48.1.toNat y53)))
     else
     (kj51 (s48.1,s48.2.2))) fun(j51:Int×(List Int))=>
    G0d (s48.2.1+1) fun v59=>
    nx48 (j51.1,v59,j51.2))
   else
   (bnd (H5a s48.1 s48.2.2.length) fun m61=>
    bnd (H5a s48.1 (blank s48.2.2 m61 (s48.2.2.length - m61) 0).length) fun m63=>
    some ((blank s48.2.2 m61 (s48.2.2.length - m61) 0).take m63))) F (r3,v9,s))
theorem G6b (F:Nat) (s:List Int) (s_q:Nat) (del:Int→Option Bool) (del_f:FuncId) (del_c:List AV) (del_B:Hf Ej del_f=true) (del_d:Ya (fun _=>false) del_c=true) (del_w:∀ a0 q,del a0=some q→Pure Ej del_f ([G0 a0]++del_c) (·=BL q)) (r:(List Int)) (h:Qr F s del=some r):Qc Ej 22 [.vec 1074 s_q 1 s.length,.fn del_f del_c] [(1074,.vec 3 1 s_q (s.map G0))] (fun av L'=>∃ p:Nat,av=.vec 1074 p 1 r.length∧L'=[(1074,.vec 3 1 p (r.map G0))]):=by
 unfold Qr at h
 refine Yy [1074] [.tmp 4] Tryz.func22 O O (H47 O) (Jr fun hK1=>(JLh (.vec 1063 (([]:List Int).length) 1 (([]:List Int).length)) (Jca 1063 3 1 O O O) O (G7 (hK1 (Jr fun hK2=>(Ru (.vec 1074 s_q 1 s.length) O (Ru (.fn del_f del_c) O ?_)))))))
 obtain⟨r3,hr3,h⟩:=Ge h
 refine JLh (G0 r3) (Q2c (args:=[E1 s,.fn del_f del_c]) O (H0f s del del_f del_c del_B del_d del_w r3 hr3) Q0d ⟨.vec O,.data O del_d,G⟩ O) O (Ru (G0 r3) O (G7 (hK2 (Js fun hK4=>Jr fun hK5=>(Ru (G0 r3) O (JLh (BL (decide (r3=(-1)))) (Qh O O O) O (G7 (hK5 (JCc O h (fun h hb=>?_) (fun h hb=>?_))))))))))
 ·
  refine Jr fun hK6=>(Ru (.vec 1074 s_q 1 s.length) O (Ru (.vec 1074 s_q 1 s.length) O (G7 (hK6 (H43 4 O O (fun hn_=>Gr ?_))))))
  obtain rfl:=Option.some.inj h
  exact⟨[.vec 1074 s_q 1 s.length],[(1074,.vec 3 1 s_q (s.map G0))],⟨⟨_,O,.vec⟩,G⟩,O,⟨⟨_,O,.conv (.same O)⟩,G⟩,s_q,congrArg (fun n_:Nat=>(.vec 1074 s_q 1 n_:AV)) (hn_.trans (List.length_map _)),O⟩
 ·
  refine Gn (hK4 (Js fun hK7=>Jr fun hK8=>(Ru (G0 r3) O ?_)))
  obtain⟨v9,hv9,h⟩:=J7 h
  refine JLh (G0 v9) (Hu hv9 O O O) O (Ru (G0 v9) O (G7 (hK8 (Gq ?_))))
  obtain⟨b48,hb48,h⟩:=Hd9 h
  refine Hg (fun i48 (s48:Int×Int×(List Int))=>loop b48 i48 s48=some r) (fun i48 s48=>[(0,.vec 1074 s_q 1 s.length),(1,.fn del_f del_c),(5,G0 s48.1),(6,G0 s48.2.1)]) (fun i48 s48=>[(1074,.vec 3 1 s_q (s48.2.2.map G0)),(1063,.vec 3 1 (([]:List Int).length) (([]:List Int).map G0))]) (fun i48=>i48) F (r3,v9,s) h ⟨⟨.same O,.same (Jc _ _ del_d),.same O,.same O,G⟩,⟨⟨_,O,.vec⟩,⟨_,O,.vec⟩,G⟩,O⟩ ?_
  clear h
  intro i48 s48 hi48 K48 e48
  obtain⟨m48,nx48,hm_48,hn48,h⟩:=H5c hi48
  replace h:=app2 hb48 h
  refine Js fun hK49=>Jr fun hK50=>(Ru (G0 s48.2.1) O (Ru (.vec 1074 s_q 1 s.length) O (JL_vlenM (f:=G0) (xs:=s48.2.2) Gv O O O (fun hm18=>?_) O O O)))
  refine JLh (BL (decide (s48.2.1 < (s48.2.2.length:Int)))) (Hz O O O) O (G7 (hK50 (JCc O h (fun h hb=>?_) (fun h hb=>?_))))
  ·
   refine Gn (hK49 ?_)
   obtain⟨kj51,hkj51,h⟩:=Rg h
   refine Qg (fun j51:Int×(List Int)=>kj51 j51=some r) (fun j51=>[(0,.vec 1074 s_q 1 s.length),(1,.fn del_f del_c),(5,G0 j51.1),(6,G0 s48.2.1)]) (fun j51=>[(1074,.vec 3 1 s_q (j51.2.map G0)),(1063,.vec 3 1 (([]:List Int).length) (([]:List Int).map G0))]) (fun Kj51 ej51=>?_) ?_
   ·
    refine Gq (Jr fun hK52=>(Ru (.vec 1074 s_q 1 s.length) O (Ru (G0 s48.2.1) O ?_)))
    obtain⟨y53,hmy53,hy53,h⟩:=Jbe h
    refine JLh (.vptr 1074 s_q s48.2.1.toNat 0) (A_vidxM (f:=G0) (xs:=s48.2.2) (y:=y53) O O O O Gv hy53 hmy53) O (JLh (G0 y53) (A_vloadM (f:=G0) (xs:=s48.2.2) (y:=y53) Gc O O O hy53 O O) O (Ru (G0 y53) O (G7 (hK52 (Jr fun hK54=>(Ru (.fn del_f del_c) O (Ru (G0 y53) O ?_)))))))
    obtain⟨r55,hr55,h⟩:=Ge h
    refine JLh (BL r55) (G15 (args:=[G0 y53]) (caps:=del_c) O O (del_w y53 _ hr55) del_B ⟨O,O,G⟩ del_d) O (JLh (BL (!r55)) (Rj (b:=r55) O O) O (G7 (hK54 (JCc O h (fun h hb=>?_) (fun h hb=>?_)))))
    ·
     refine Jr fun hK56=>(Ru (.vec 1074 s_q 1 s.length) O (Ru (G0 s48.1) O (Ru (G0 y53) O ?_)))
     obtain⟨y57,hmy57,hy57,h⟩:=Jbe h
     refine JLh (.vptr 1074 s_q s48.1.toNat 0) (A_vidxM (f:=G0) (xs:=s48.2.2) (y:=y57) O O O O Gv hy57 hmy57) O (Hs (u:=.junk) (A_vstoreM (f:=G0) (xs:=s48.2.2) (z:=y53) Gcb O O O O (List.getElem?_eq_some_iff.1 hy57).1 O O O O) (G7 (hK56 (G3 (Ru (G0 s48.1) O ?_)))))
     obtain⟨v58,hv58,h⟩:=J7 h
     refine JLh (G0 v58) (Hu hv58 O O O) O (Ru (G0 v58) O (G7 (ej51 _ _ (v58,(s48.2.2.set s48.1.toNat y53)) h ⟨⟨.same O,.same (Jc _ _ del_d),.same O,.same O,G⟩,⟨⟨_,O,.vec⟩,⟨_,O,.vec⟩,G⟩,O⟩)))
    ·
     refine Gn (ej51 _ _ (s48.1,s48.2.2) h ⟨⟨.same O,.same (Jc _ _ del_d),.same O,.same O,G⟩,⟨⟨_,O,.vec⟩,⟨_,O,.vec⟩,G⟩,O⟩)
   ·intro j51 h
    replace h:=app1 hkj51 h
    refine G3 (Ru (G0 s48.2.1) O ?_)
    obtain⟨v59,hv59,h⟩:=J7 h
    refine JLh (G0 v59) (Hu hv59 O O O) O (Ru (G0 v59) O (G7 (e48 _ _ m48 (j51.1,v59,j51.2) (app1 hn48 h) (by omega) ⟨⟨.same rfl,.same (Jc _ _ del_d),.same rfl,.same rfl,G⟩,⟨⟨_,rfl,.vec⟩,⟨_,rfl,.vec⟩,G⟩,rfl⟩)))
  ·
   refine Hr (hK7 (Jr fun hK60=>(Ru (.vec 1074 s_q 1 s.length) O (Ru (G0 s48.1) O ?_))))
   obtain⟨m61,hm61,h⟩:=Ge h
   refine JLh (.vsl 1074 s_q 1 m61 (s48.2.2.length - m61)) (G4d (f:=G0) (xs:=s48.2.2) O O O O Gv (G94 hm61)) O (Hs (u:=.tup []) (Jac (f:=G0) (xs:=s48.2.2) (off:=m61) (n:=(s48.2.2.length - m61)) 0 [.int .i64 0] O Gv (.inr O) O tf_zero_3 O O O ⟨.inl O,G⟩) (G7 (hK60 (Jr fun hK62=>(Ru (.vec 1074 s_q 1 s.length) O (Ru (G0 s48.1) O ?_))))))
   obtain⟨m63,hm63,h⟩:=Ge h
   refine JLh (.vec 1074 (s_q+1) 1 (((blank s48.2.2 m61 (s48.2.2.length - m61) 0).take m63).length)) (A_vtakeM (f:=G0) (xs:=(blank s48.2.2 m61 (s48.2.2.length - m61) 0)) O O O O Gv (G94 hm63)) O (Ru (.vec 1074 (s_q+1) 1 (((blank s48.2.2 m61 (s48.2.2.length - m61) 0).take m63).length)) O (G7 (hK62 (H43 4 O O (fun hn_=>Gr ?_)))))
   obtain rfl:=Option.some.inj h
   exact⟨[.vec 1074 (s_q+1) 1 (((blank s48.2.2 m61 (s48.2.2.length - m61) 0).take m63).length)],[(1074,.vec 3 1 (s_q+1) (((blank s48.2.2 m61 (s48.2.2.length - m61) 0).take m63).map G0))],⟨⟨_,O,.vec⟩,G⟩,O,⟨⟨_,O,.conv (.same O)⟩,G⟩,(s_q+1),congrArg (fun n_:Nat=>(.vec 1074 (s_q+1) 1 n_:AV)) (hn_.trans (List.length_map _)),O⟩

def Zj (F:Nat) (s:Gw) (boxes:List Gd) (calls:Int) (p:G2f):Option ((List (List Int))×Int):=
 bnd (G21 s boxes calls p) fun r4=>
 bif decide (r4.2≠0) then
 (some ([],r4.2))
 else
 (bnd (Gc9 p) fun r10=>
  bnd (G39 p) fun ys21=>
  each (fun y21 i21 (s21:(List (List Int))) nx21=>
   bnd (Q6 F s y21.1 y21.2) fun r23=>
   bnd (Qr F r23 (fun z0=>G14 z0 y21.1 y21.2)) fun r25=>
   need (decide ((s21.length+[r25].length)*24≤140737488355328∧s21.length+[r25].length≤maxLen)) <|
   nx21 (s21++[r25]))
  (fun(s21:(List (List Int)))=>
   some (s21,0)) ys21 0 [])
theorem G98 (F:Nat) (s:Gw) (boxes:List Gd) (calls:Int) (p:G2f) (r:(List (List Int))×Int) (h:Zj F s boxes calls p=some r):Pure Ej 7 [.agg (Gw.cs s),E2 boxes,G0 calls,.agg [LS 1 (E0) p.States,LS 1 (E1) p.Water]] (·=.tup [LS 1 (E1) r.1,G0 r.2]):=by
 unfold Zj at h
 refine H1 [.tmp 8,.tmp 9] Tryz.func7 O O (Jr fun hK1=>(JLh (.ptr 1021 0) (Jm (cs:=(Gw.cs s)) 1021 O O O O O) O (JLh (.ptr 1022 0) (Jm (cs:=[LS 1 (E0) p.States,LS 1 (E1) p.Water]) 1022 O O O O O) O (JLh (LS 1 (E1) ([]:List (List Int))) (Ht 1 O O) O (Ru (G0 0) O (G7 (hK1 ?_)))))))
 refine Gp [(1,E2 boxes),(2,G0 calls),(4,Ec s),(7,.ptr 1022 0)] [(1022,.box 41 [LS 1 (E0) p.States,LS 1 (E1) p.Water])] 1021 rfl rfl rfl ⟨⟨_,rfl,.boxEq rfl rfl⟩,G⟩ rfl (by repeat' (first | exact .ptr | constructor)) ?_
 refine Gp [(1,E2 boxes),(2,G0 calls),(4,Ec s),(7,.dptr [LS 1 (E0) p.States,LS 1 (E1) p.Water])] [] 1022 rfl rfl rfl G rfl (by repeat' (first | exact .ptr | constructor)) (Js fun hK2=>?_)
 refine Jr fun hK3=>(JLh (.agg (Gw.cs s)) (Gi Hq O O O) O (Ru (E2 boxes) O (Ru (G0 calls) O (JLh (.agg [LS 1 (E0) p.States,LS 1 (E1) p.Water]) (Gi Ys O O O) O ?_))))
 obtain⟨r4,hr4,h⟩:=Ge h
 refine JLh (.tup [G0 r4.1,G0 r4.2]) (Gt O (Ge6 s boxes calls p r4 hr4) Hf4 ⟨O,O,O,O,O,O,O,O,G⟩) O (Ru (.tup [G0 r4.1,G0 r4.2]) O (JLh (G0 r4.1) (H6 O O O) O (JLh (G0 r4.2) (H6 O O O) O (Ru (G0 r4.1) O (Ru (G0 r4.2) O (G7 (hK3 (Jr fun hK5=>(Ru (G0 r4.2) O (JLh (BL (decide (r4.2≠0))) (G50 O O O) O (G7 (hK5 (JCc O h (fun h hb=>?_) (fun h hb=>?_))))))))))))))
 ·
  refine Jr fun hK6=>(Ru (G0 r4.2) O (JLh (LS 1 (E1) ([]:List (List Int))) (Ht 1 O O) O (Ru (G0 r4.2) O (G7 (hK6 (Gr (⟨[LS 1 (E1) ([]:List (List Int)),G0 r4.2],[],G,O,⟨⟨_,O,.conv (.same O)⟩,⟨_,O,.conv (.same O)⟩,G⟩,O,congrArg (fun r:(List (List Int))×Int=>(.tup [LS 1 (E1) r.1,G0 r.2]:AV)) (Option.some.inj h)⟩)))))))
 ·
  refine Gn (hK2 (Jr fun hK7=>(JLh (.ptr 1023 0) (G16 1023 [.sc (.slice none 0 0)] [.slice none 0 0] Jeb ⟨.inl O,G⟩ O O) O (Ge8 1023 0 1026 50 1 O O O (cs':=[OW 1026 1 (E1) ([]:List (List Int))]) O (G7 (hK7 (Js fun hK8=>Jr fun hK9=>(JLh (.agg [LS 1 (E0) p.States,LS 1 (E1) p.Water]) (Gi Ys O O O) O ?_))))))))
  obtain⟨r10,hr10,h⟩:=Ge h
  refine JLh (.fn 47 [.dptr [LS 1 (E0) p.States,LS 1 (E1) p.Water]]) (Gt O (J9f p r10 hr10) Q1c ⟨O,O,G⟩) O (G7 (hK9 (Gq ?_)))
  obtain⟨ys21,hy_21,h⟩:=Ge h
  obtain⟨b21,kx21,hb21,hkx21,h⟩:=Hx h
  refine He7 (ps:=[28,29]) [(4,Ec s),(12,.ptr 1023 0),(27,.fn 47 [.dptr [LS 1 (E0) p.States,LS 1 (E1) p.Water]])] (ys21.map (fun y:(List Stowed)×(List Stowed)=>[E0 y.1,E0 y.2])) (fun i21 (s21:(List (List Int)))=>each b21 kx21 (List.drop i21 ys21) i21 s21=some r) (fun s21=>[(1026,.spare 50 1 s21.length s21.length),(1023,.box 39 [OW 1026 1 (E1) s21])]) [] rfl rfl rfl Q0e (J05.down p ys21 hy_21) h ⟨⟨.same rfl,.same rfl,.same rfl,trivial⟩,⟨⟨_,rfl,.same⟩,⟨_,rfl,.boxL rfl ⟨.same rfl,trivial⟩⟩,trivial⟩,rfl⟩ rfl (fun us_ hus_=>by obtain⟨_,_,rfl⟩:=List.mem_map.1 hus_; rfl) (fun p_ hp_=>Nat.blt_eq.mp (by revert p_; decide)) (fun _=>⟨.same rfl,.same rfl,.same rfl,trivial⟩) (fun _=>rfl) ?_ ?_
  ·
   intro i21 us_ s21 hu_ hi21 lr_ K21 e21
   obtain⟨hk21,rfl⟩:=mapf_at hu_
   obtain⟨y21,nx21,hy21,hn21,h⟩:=Ho hi21 hk21
   replace h:=Rw hb21 h
   obtain⟨_,rfl⟩:=List.getElem?_eq_some_iff.1 hy21
   generalize ys21[i21]=y21 at h ⊢
   change JC _ _ _ _ [(29,E0 y21.2),(28,E0 y21.1),(4,Ec s),(12,.ptr 1023 0),(27,.fn 47 [.dptr [LS 1 (E0) p.States,LS 1 (E1) p.Water]])] [(1026,.spare 50 1 s21.length s21.length),(1023,.box 39 [OW 1026 1 (E1) s21])]
   refine Jr fun hK22=>(JLh (.ptr 1024 0) (Hn 1024 1 G34 O O) O (Hs (u:=.junk) (Ha (u:=E0 y21.1) (ds:=[E0 y21.1]) J4a O O O O O O O O) (G7 (hK22 (Gp [(4,Ec s),(12,.ptr 1023 0),(13,.dptr [E0 y21.1]),(29,E0 y21.2)] [(1026,.spare 50 1 s21.length s21.length),(1023,.box 39 [OW 1026 1 (E1) s21])] 1024 rfl rfl rfl ⟨⟨_,rfl,.same⟩,⟨_,rfl,.boxEq rfl rfl⟩,G⟩ rfl (by repeat' (first | exact .ptr | constructor)) (G3 ?_))))))
   refine JLh (.ptr 1025 0) (Hn 1025 1 G34 O O) O (Hs (u:=.junk) (Ha (u:=E0 y21.2) (ds:=[E0 y21.2]) J4a O O O O O O O O) (G7 (J95 [(4,Ec s),(12,.ptr 1023 0),(13,.dptr [E0 y21.1]),(14,.dptr [E0 y21.2])] [(1026,.spare 50 1 s21.length s21.length),(1023,.box 39 [OW 1026 1 (E1) s21])] 1025 rfl rfl rfl ⟨⟨_,rfl,.same⟩,⟨_,rfl,.boxEq rfl rfl⟩,G⟩ rfl (by repeat' (first | exact .ptr | constructor)) (Mid_go (Gq ?_)))))
   refine Yj (l':=[(4,Ec s),(12,.ptr 1023 0),(13,.dptr [E0 y21.1]),(14,.dptr [E0 y21.2])]) (L':=[(1026,.spare 50 1 s21.length s21.length),(1023,.box 39 [OW 1026 1 (E1) s21])]) ⟨(by repeat' constructor),⟨⟨_,rfl,.same⟩,⟨_,rfl,.boxL rfl ⟨.same rfl,G⟩⟩,G⟩,rfl⟩ ?_
   obtain⟨r23,hr23,h⟩:=Ge h
   obtain⟨r25,hr25,h⟩:=Ge h
   obtain⟨ha26,h⟩:=Jj h
   refine Q7 [4,6,8,9] [0,0,0,0,0,0,0,2,0,0] [2,0,0,0,0,1,0,2,0,0] [[(1026,.spare 50 1 s21.length s21.length),(1023,.box 39 [OW 1026 1 (E1) s21])],((1074,.vec 3 1 0 (r23.map G0))::[(1026,.spare 50 1 s21.length s21.length),(1023,.box 39 [OW 1026 1 (E1) s21])]),((1074,.vec 3 1 (0+1) (([]:List Int).map G0))::((1074,.vec 3 1 0 (r23.map G0))::[(1026,.spare 50 1 s21.length s21.length),(1023,.box 39 [OW 1026 1 (E1) s21])])),((1026,.spare 50 1 (s21++[r25]).length (s21++[r25]).length)::((1074,.vec 3 1 (0+1) (([]:List Int).map G0))::((1074,.vec 3 1 0 (r23.map G0))::[(1026,.spare 50 1 s21.length s21.length),(1023,.box 39 [OW 1026 1 (E1) s21])]))),((1023,.box 39 [OW 1026 1 (E1) (s21++[r25])])::((1026,.spare 50 1 (s21++[r25]).length (s21++[r25]).length)::((1074,.vec 3 1 (0+1) (([]:List Int).map G0))::((1074,.vec 3 1 0 (r23.map G0))::[(1026,.spare 50 1 s21.length s21.length),(1023,.box 39 [OW 1026 1 (E1) s21])]))))] Qb (by kernel_rfl) rfl rfl ?_
   refine Gm (u:=OW 1026 1 (E1) s21) O O ⟨Gs (Qj Gc1 O O O O) O,Gs (Qj Gc1 O O O O) O,Gs (Qj Gc1 O O O O) O,G⟩ (Gm (u:=.agg (Gw.cs s)) O O ⟨Gs (Gi Hq O O O) O,G⟩ (Gm (u:=E0 y21.1) O O ⟨Gs (Gf Q2 O O O) O,G⟩ (Gm (u:=E0 y21.2) O O ⟨Gs (Gf Q2 O O O) O,G⟩ (D_w (u:=.vec 1074 0 1 r23.length) O O O O (Gs (G33 (args:=[.agg (Gw.cs s),E0 y21.1,E0 y21.2]) (L0:=[]) (Lr:=[(1074,.vec 3 1 0 (r23.map G0))]) O (Qc.fresh0 (J38 F s y21.1 y21.2 r23 hr23)) J6a ⟨.inl O,O,.inl O,O,.inl O,O,G⟩ G O O O) O) (Gm (u:=.fn 24 [.dptr [E0 y21.1],.dptr [E0 y21.2]]) O O ⟨Gs (Rk (cs:=[.dptr [E0 y21.1],.dptr [E0 y21.2]]) O O) O,Gs (Rk (cs:=[.dptr [E0 y21.1],.dptr [E0 y21.2]]) O O) O,G⟩ (D_w (u:=E1 r25) O O O O (G4e.locEq (Gs (G33 (args:=[.vec 1074 0 1 r23.length,.fn 24 [.dptr [E0 y21.1],.dptr [E0 y21.2]]]) (L0:=[(1074,.vec 3 1 0 (r23.map G0))]) (Lr:=[(1074,.vec 3 1 (0+1) (([]:List Int).map G0))]) O (Qc.lentData (G6b F r23 0 (fun z0=>G14 z0 y21.1 y21.2) 24 [.dptr [E0 y21.1],.dptr [E0 y21.2]] Q1a O (fun z0 q hq=>Hb9 z0 y21.1 y21.2 q hq) r25 hr25)) Q1b ⟨.inl O,O,.inl O,O,G⟩ ⟨O,G⟩ O O O) O) (Ge7.of [1026,1023,1074] O O ⟨O,O,O,G⟩)) (Gm (u:=LS 1 (E1) [r25]) O O ⟨Gs (H9 (xs:=[E1 r25]) O ⟨O,O,G⟩ Z6 Jd0 O O O O) O,G⟩ (D_w (u:=OW 1026 1 (E1) (s21++[r25])) O O O O (Gs (Rc (f:=(E1)) (xs:=s21) (ys:=[r25]) O O O O Z6 Jf1 ha26 (fun _=>O) (.inl O) O) O) (Jc9 (u:=.junk) O O O O (Gs (Ha (u:=OW 1026 1 (E1) (s21++[r25])) (ds:=[OW 1026 1 (E1) (s21++[r25])]) Jef O O O O O O O O) O) (Yq ?_))))))))))
   exact e21 _ _ (s21++[r25]) (app1 hn21 h) ⟨G,⟨⟨_,O,.same⟩,⟨_,O,.boxL O ⟨.same O,G⟩⟩,G⟩,O⟩
  ·
   intro s21 h
   rw [List.length_map] at h
   replace h:=app1 hkx21 (Hp h (Nat.lt_irrefl _))
   refine hK8 (Jr fun hK27=>(JLh (OW 1026 1 (E1) s21) (Qj Gc1 O O O O) O (Ru (OW 1026 1 (E1) s21) O (Ru (G0 0) O (G7 (hK27 (Yj (l':=[(8,LS 1 (E1) s21),(9,G0 0)]) (L':=[(1023,.box 39 [LS 1 (E1) s21])]) ⟨⟨.list O,.same O,G⟩,⟨⟨_,O,.boxL O ⟨.list O,G⟩⟩,G⟩,O⟩ (Gp [(8,LS 1 (E1) s21),(9,G0 0)] [] 1023 rfl rfl rfl G rfl (by exact⟨.conv (.same rfl),.conv (.same rfl),G⟩) (Gr (⟨[LS 1 (E1) s21,G0 0],[],G,O,⟨⟨_,O,.conv (.same O)⟩,⟨_,O,.conv (.same O)⟩,G⟩,O,congrArg (fun r:(List (List Int))×Int=>(.tup [LS 1 (E1) r.1,G0 r.2]:AV)) (Option.some.inj h)⟩))))))))))
end
end Go.Proofs.YtkcdjcgifgdanaaGreat
