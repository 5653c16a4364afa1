/-
 Models of functions of the program,and that they return what the models say.
-/
import Derived.Test.YtfkilljboodoaaaGreatXPa
set_option maxRecDepth 100000
set_option linter.unusedVariables false
set_option linter.unusedSimpArgs false
namespace Go.Proofs.YtfkilljboodoaaaGreat
open Go.RowKit
noncomputable section
open XAF
open XLF
open XPF

def G46 (self_:Int→(Hu Int Unit)→(List Int)→(List (List G6))→Hb→Option ((Hu Int Unit)×(List Int))) (F:Nat) (id_:Int) (p1:Hu Int Unit) (p2:List Int) (p3:List (List G6)) (p4:Hb):Option ((Hu Int Unit)×(List Int)):=
 bnd (G19 p1 id_) fun r3=>
 bif (!r3.1) then
 (some (r3.2,p2))
 else
 (need (decide ((p2.length+[id_].length)*8≤140737488355328∧p2.length+[id_].length≤maxLen)) <|
  each (fun y7 i7 (s7:(Hu Int Unit)×(List Int)) nx7=>
   jp (fun kj10=>
    bnd (G28 y7 id_) fun r13=>
    bif (!r13.2) then
    (kj10 (s7.1,s7.2))
    else
    (jp (fun kj17=>
      Q3 p4.Columns r13.1.G4 fun y19=>
      bif (!y19.Deck) then
      (bnd (G18 p4 r13.1.G4) fun r21=>
       kj17 r21)
      else
      (kj17 (-1))) fun(j17:Int)=>
     each (fun y56 i56 (s56:(Hu Int Unit)×(List Int)) nx56=>
      jp (fun kj59=>
       bnd (Gba y56.Slot r13.1) fun r62=>
       bif r62 then
       (bnd (self_ y56.Gv s56.1 s56.2 p3 p4) fun r63=>
        kj59 (r63.1,r63.2))
       else
       (kj59 (s56.1,s56.2))) fun(j59:(Hu Int Unit)×(List Int))=>
      nx56 (j59.1,j59.2))
     (fun(s56:(Hu Int Unit)×(List Int))=>
      each (fun y65 i65 (s65:(Hu Int Unit)×(List Int)) nx65=>
       each (fun y107 i107 (s107:(Hu Int Unit)×(List Int)) nx107=>
        jp (fun kj110=>
         bnd (bif decide (0≤j17) then Q3 p4.Columns y107.Slot.G4 some else some default) fun y113=>
         bnd (bif ((decide (0≤j17))&&y113.Deck) then G18 p4 y107.Slot.G4 else some default) fun r114=>
         bif (((decide (0≤j17))&&y113.Deck)&&(decide (r114=j17))) then
         (bnd (self_ y107.Gv s107.1 s107.2 p3 p4) fun r115=>
          kj110 (r115.1,r115.2))
         else
         (kj110 (s107.1,s107.2))) fun(j110:(Hu Int Unit)×(List Int))=>
        nx107 (j110.1,j110.2))
       (fun(s107:(Hu Int Unit)×(List Int))=>
        nx65 (s107.1,s107.2)) y65 0 (s65.1,s65.2))
      (fun(s65:(Hu Int Unit)×(List Int))=>
       kj10 (s65.1,s65.2)) p3 0 (s56.1,s56.2)) y7 0 (s7.1,s7.2))) fun(j10:(Hu Int Unit)×(List Int))=>
   nx7 (j10.1,j10.2))
  (fun(s7:(Hu Int Unit)×(List Int))=>
   some (s7.1,s7.2)) p3 0 (r3.2,(p2++[id_])))
def G02:Nat→Int→(Hu Int Unit)→(List Int)→(List (List G6))→Hb→Option ((Hu Int Unit)×(List Int))
 | 0,_,_,_,_,_=>none
 | F+1,id_,p1,p2,p3,p4=>G46 (G02 F) F id_ p1 p2 p3 p4
theorem Hf1 (self_:Int→(Hu Int Unit)→(List Int)→(List (List G6))→Hb→Option ((Hu Int Unit)×(List Int))) (self_w:∀ (id_:Int) (p1:Hu Int Unit) (p2:List Int) (p3:List (List G6)) (p4:Hb) (r:(Hu Int Unit)×(List Int)),self_ id_ p1 p2 p3 p4=some r→Ym Tryz.prog 168 [G0 id_,.ptr 1062 0,.ptr 1063 0,.dptr [LS 1 (E0) p3],Ee p4,.ptr 1064 0] [(1062,.box 256 [.mp 1068]),(1068,MP 256 (fun n:Int=>Value.int .i64 n) (fun _:Unit=>.agg []) p1),(1063,.box 51 [.vec 1069 p2.length 1 p2.length]),(1069,.vec 3 1 p2.length (p2.map G0)),(1064,.box 257 [.fn 168 [.ptr 1062 0,.ptr 1063 0,.dptr [LS 1 (E0) p3],Ee p4,.ptr 1064 0]])] (fun av L'=>av=.tup []∧L'=[(1062,.box 256 [.mp 1068]),(1068,MP 256 (fun n:Int=>Value.int .i64 n) (fun _:Unit=>.agg []) r.1),(1063,.box 51 [.vec 1069 r.2.length 1 r.2.length]),(1069,.vec 3 1 r.2.length (r.2.map G0)),(1064,.box 257 [.fn 168 [.ptr 1062 0,.ptr 1063 0,.dptr [LS 1 (E0) p3],Ee p4,.ptr 1064 0]])])) (F:Nat) (id_:Int) (p1:Hu Int Unit) (p2:List Int) (p3:List (List G6)) (p4:Hb) (r:(Hu Int Unit)×(List Int)) (h:G46 self_ F id_ p1 p2 p3 p4=some r):Ym Tryz.prog 168 [G0 id_,.ptr 1062 0,.ptr 1063 0,.dptr [LS 1 (E0) p3],Ee p4,.ptr 1064 0] [(1062,.box 256 [.mp 1068]),(1068,MP 256 (fun n:Int=>Value.int .i64 n) (fun _:Unit=>.agg []) p1),(1063,.box 51 [.vec 1069 p2.length 1 p2.length]),(1069,.vec 3 1 p2.length (p2.map G0)),(1064,.box 257 [.fn 168 [.ptr 1062 0,.ptr 1063 0,.dptr [LS 1 (E0) p3],Ee p4,.ptr 1064 0]])] (fun av L'=>av=.tup []∧L'=[(1062,.box 256 [.mp 1068]),(1068,MP 256 (fun n:Int=>Value.int .i64 n) (fun _:Unit=>.agg []) r.1),(1063,.box 51 [.vec 1069 r.2.length 1 r.2.length]),(1069,.vec 3 1 r.2.length (r.2.map G0)),(1064,.box 257 [.fn 168 [.ptr 1062 0,.ptr 1063 0,.dptr [LS 1 (E0) p3],Ee p4,.ptr 1064 0]])]):=by
 unfold G46 at h
 refine H00 [1062,1068,1063,1069,1064] [] Tryz.func168 O O (inAll O) (G7 (fun K1 hK1=>G7 fun K2 hK2=>G2 (JLh (.mp 1068) (Zf J9b O O O O) O (JLh (G0 id_) (G5 O O) O ?_))))
 obtain⟨r3,hr3,h⟩:=Gf h
 refine JLh (BL r3.1) (Hf4 (args:=[.mp 1068,G0 id_]) (L0:=[(1068,MP 256 (fun n:Int=>Value.int .i64 n) (fun _:Unit=>.agg []) p1)]) (Lr:=[(1068,MP 256 (fun n:Int=>Value.int .i64 n) (fun _:Unit=>.agg []) r3.2)]) O (Gbd p1 id_ r3 hr3) Jd3 ⟨.inl O,O,.inl O,O,G⟩ ⟨O,G⟩ O O O) O (JLh (BL (!r3.1)) (Qv (b:=r3.1) O O) O (G8 (hK2 _ _ (Gn O (fun hb=>?_) (fun hb=>?_)))))
 ·
  replace h:=Gz hb h
  refine Gu ?_
  obtain rfl:=Option.some.inj h
  exact⟨[],[(1062,.box 256 [.mp 1068]),(1068,MP 256 (fun n:Int=>Value.int .i64 n) (fun _:Unit=>.agg []) r3.2),(1063,.box 51 [.vec 1069 p2.length 1 p2.length]),(1069,.vec 3 1 p2.length (p2.map G0)),(1064,.box 257 [.fn 168 [.ptr 1062 0,.ptr 1063 0,.dptr [LS 1 (E0) p3],Ee p4,.ptr 1064 0]])],⟨⟨_,O,.boxL O ⟨.same O,G⟩⟩,⟨_,O,.map⟩,⟨_,O,.boxL O ⟨.same O,G⟩⟩,⟨_,O,.vec⟩,⟨_,O,.boxL O ⟨.same O,G⟩⟩,G⟩,O,G,O,O⟩
 ·
  replace h:=Hv hb h
  refine Gp (hK1 _ _ (G7 fun K4 hK4=>G2 (JLh (.vec 1069 p2.length 1 p2.length) (Zf Hg O O O O) O (JLh (G0 id_) (G5 O O) O (JLh (E1 [id_]) (Hm (xs:=[G0 id_]) O ⟨O,O,G⟩ H0 G13 O O O O) O ?_)))))
  obtain⟨ha5,h⟩:=J6 h
  refine JLh (.vec 1069 ((p2++[id_]).length) 1 ((p2++[id_]).length)) (J96 (f:=G0) (xs:=p2) (ys:=[id_]) (ver:=p2.length) (ver1:=(p2++[id_]).length) rfl rfl rfl rfl H0 G81 ha5 (fun _=>rfl) (.inl rfl) (by simp)) O (J4 (u:=.junk) (Ht (u:=.vec 1069 ((p2++[id_]).length) 1 ((p2++[id_]).length)) (ds:=[.vec 1069 ((p2++[id_]).length) 1 ((p2++[id_]).length)]) H46 O O O O O O O O) (G8 (hK4 _ _ (G7 fun K6 hK6=>G2 (JLh (LS 1 (E0) p3) (Gh G3c O O O) O (H3 (f:=(E0)) (xs:=p3) Rg O O (fun hm27=>?_) O O O))))))
  refine JLh (G0 0) (G5 O O) O (G8 (hK6 _ _ (Gk ?_)))
  obtain⟨b7,kx7,hb7,hkx7,h⟩:=Hw h
  refine Hc (fun i7 (s7:(Hu Int Unit)×(List Int))=>each b7 kx7 (List.drop i7 p3) i7 s7=some r) (fun i7 s7=>[(0,G0 id_),(3,.dptr [LS 1 (E0) p3]),(4,Ee p4),(5,.ptr 1064 0),(26,LS 1 (E0) p3),(27,En p3.length),(28,En i7)]) (fun i7 s7=>[(1068,MP 256 (fun n:Int=>Value.int .i64 n) (fun _:Unit=>.agg []) s7.1),(1069,.vec 3 1 s7.2.length (s7.2.map G0)),(1062,.box 256 [.mp 1068]),(1063,.box 51 [.vec 1069 s7.2.length 1 s7.2.length]),(1064,.box 257 [.fn 168 [.ptr 1062 0,.ptr 1063 0,.dptr [LS 1 (E0) p3],Ee p4,.ptr 1064 0]])]) (fun i7=>p3.length - i7) 0 (r3.2,(p2++[id_])) h ⟨(by repeat' constructor),⟨⟨_,rfl,.map⟩,⟨_,rfl,.vec⟩,⟨_,rfl,.boxL rfl ⟨.same rfl,G⟩⟩,⟨_,rfl,.boxL rfl ⟨.same rfl,G⟩⟩,⟨_,rfl,.boxL rfl ⟨.same rfl,G⟩⟩,G⟩,rfl⟩ ?_
  clear h
  intro i7 s7 hi7 K7 e7
  refine G7 fun K8 hK8=>G2 (JLh (BL (decide ((i7:Int) < (p3.length:Int)))) (J2 O O O) O (G8 (hK8 _ _ (G7 (fun K9 hK9=>Gn O (fun hb=>?_) (fun hb=>?_))))))
  ·
   have hk7:=Jc hb
   obtain⟨y7,nx7,hy7,hn7,h⟩:=Hn hi7 hk7
   replace h:=Yb hb7 h
   refine Gp (hK9 _ _ ?_)
   obtain⟨kj10,hkj10,h⟩:=G69 h
   refine G33 (fun j10:(Hu Int Unit)×(List Int)=>kj10 j10=some r) (fun j10=>[(0,G0 id_),(3,.dptr [LS 1 (E0) p3]),(4,Ee p4),(5,.ptr 1064 0),(26,LS 1 (E0) p3),(27,En p3.length),(28,En i7)]) (fun j10=>[(1068,MP 256 (fun n:Int=>Value.int .i64 n) (fun _:Unit=>.agg []) j10.1),(1069,.vec 3 1 j10.2.length (j10.2.map G0)),(1062,.box 256 [.mp 1068]),(1063,.box 51 [.vec 1069 j10.2.length 1 j10.2.length]),(1064,.box 257 [.fn 168 [.ptr 1062 0,.ptr 1063 0,.dptr [LS 1 (E0) p3],Ee p4,.ptr 1064 0]])]) (fun Kj10 ej10=>?_) ?_
   ·
    refine Gk (G7 fun K11 hK11=>G2 (JLh (.dptr [E0 y7]) (Gt (f:=(E0)) (xs:=p3) (y:=y7) O O O Rg hy7 O) O (JLh (E0 y7) (Gh Zp O O O) O (JLh (E0 y7) (G9 O O) O (G8 (hK11 _ _ (G7 fun K12 hK12=>G2 (JLh (E0 y7) (G5 O O) O (JLh (G0 id_) (G5 O O) O ?_)))))))))
    obtain⟨r13,hr13,h⟩:=Gf h
    refine JLh (.tup [.agg (Slot.cs r13.1),BL r13.2]) (Gq (args:=[E0 y7,G0 id_]) O (G2e y7 id_ r13 hr13) G7e ⟨O,O,O,O,G⟩) O (JLh (.tup [.agg (Slot.cs r13.1),BL r13.2]) (G5 O O) O (JLh (.agg (Slot.cs r13.1)) (J1 O O O) O (JLh (BL r13.2) (J1 O O O) O (JLh (.ptr 1111 0) (Jb 1111 3 Zo O O) O (J4 (u:=.junk) (Ht (u:=.agg (Slot.cs r13.1)) (ds:=[G0 r13.1.G4,G0 r13.1.Tier,U8 r13.1.Half]) G0d O O O O O O O O) (JLh (BL r13.2) (G9 O O) O (G8 (hK12 _ _ ?_))))))))
    refine Gx [(0,G0 id_),(3,.dptr [LS 1 (E0) p3]),(4,Ee p4),(5,.ptr 1064 0),(8,E0 y7),(9,Eg r13.1),(10,BL r13.2),(26,LS 1 (E0) p3),(27,En p3.length),(28,En i7)] [(1068,MP 256 (fun n:Int=>Value.int .i64 n) (fun _:Unit=>.agg []) s7.1),(1069,.vec 3 1 s7.2.length (s7.2.map G0)),(1062,.box 256 [.mp 1068]),(1063,.box 51 [.vec 1069 s7.2.length 1 s7.2.length]),(1064,.box 257 [.fn 168 [.ptr 1062 0,.ptr 1063 0,.dptr [LS 1 (E0) p3],Ee p4,.ptr 1064 0]])] 1111 rfl rfl rfl ⟨⟨_,rfl,.map⟩,⟨_,rfl,.vec⟩,⟨_,rfl,.boxEq rfl rfl⟩,⟨_,rfl,.boxEq rfl rfl⟩,⟨_,rfl,.boxEq rfl rfl⟩,G⟩ rfl (by repeat' (first | exact .ptr | constructor)) (G7 (fun K14 hK14=>?_))
    refine G7 fun K15 hK15=>G2 (JLh (BL r13.2) (G5 O O) O (JLh (BL (!r13.2)) (Qv (b:=r13.2) O O) O (G8 (hK15 _ _ (Gn O (fun hb=>?_) (fun hb=>?_))))))
    ·
     replace h:=Gz hb h
     refine Hk (ej10 _ _ (s7.1,s7.2) h ⟨(by repeat' constructor),⟨⟨_,rfl,.map⟩,⟨_,rfl,.vec⟩,⟨_,rfl,.boxL rfl ⟨.same rfl,G⟩⟩,⟨_,rfl,.boxL rfl ⟨.same rfl,G⟩⟩,⟨_,rfl,.boxL rfl ⟨.same rfl,G⟩⟩,G⟩,rfl⟩)
    ·
     replace h:=Hv hb h
     refine Gp (hK14 _ _ (G7 fun K16 hK16=>G2 (JLh (G0 (-1)) (G9 O O) O (G8 (hK16 _ _ ?_)))))
     obtain⟨kj17,hkj17,h⟩:=G69 h
     refine G33 (fun j17:Int=>kj17 j17=some r) (fun j17=>[(0,G0 id_),(3,.dptr [LS 1 (E0) p3]),(4,Ee p4),(5,.ptr 1064 0),(8,E0 y7),(9,Eg r13.1),(11,G0 j17),(26,LS 1 (E0) p3),(27,En p3.length),(28,En i7)]) (fun j17=>[(1068,MP 256 (fun n:Int=>Value.int .i64 n) (fun _:Unit=>.agg []) s7.1),(1069,.vec 3 1 s7.2.length (s7.2.map G0)),(1062,.box 256 [.mp 1068]),(1063,.box 51 [.vec 1069 s7.2.length 1 s7.2.length]),(1064,.box 257 [.fn 168 [.ptr 1062 0,.ptr 1063 0,.dptr [LS 1 (E0) p3],Ee p4,.ptr 1064 0]])]) (fun Kj17 ej17=>?_) ?_
     ·
      refine G7 fun K18 hK18=>G2 (JLh (Ee p4) (Gb Hi O O O) O (JLh (E3 p4.Columns) (Gh Hq O O O) O (JLh (Eg r13.1) (Gb J0 O O O) O (JLh (G0 r13.1.G4) (Gh Gd O O O) O ?_))))
      obtain⟨m20,y19,hm20,hy19,h⟩:=Y3 h
      refine JLh (Eh y19) (Gt (f:=G4.av) (xs:=p4.Columns) (y:=y19) O O O H7 hy19 hm20) O (JLh (.dptr ((G4.cs y19).drop 2)) (Gb Z2 O O O) O (JLh (BL y19.Deck) (Gh Rq O O O) O (JLh (BL (!y19.Deck)) (Qv (b:=y19.Deck) O O) O (G8 (hK18 _ _ (Gn O (fun hb=>?_) (fun hb=>?_)))))))
      ·
       replace h:=Gz hb h
       refine G2 (JLh (.agg (Hb.cs p4)) (Gj J8 O O O) O (JLh (Eg r13.1) (Gb J0 O O O) O (JLh (G0 r13.1.G4) (Gh Gd O O O) O ?_)))
       obtain⟨r21,hr21,h⟩:=Gf h
       refine JLh (G0 r21) (Gq (args:=[.agg (Hb.cs p4),G0 r13.1.G4]) O (H3b p4 r13.1.G4 r21 hr21) J20 ⟨O,O,O,O,G⟩) O (JLh (G0 r21) (G9 O O) O (G8 (ej17 _ _ r21 h ⟨(by repeat' constructor),⟨⟨_,rfl,.map⟩,⟨_,rfl,.vec⟩,⟨_,rfl,.boxL rfl ⟨.same rfl,G⟩⟩,⟨_,rfl,.boxL rfl ⟨.same rfl,G⟩⟩,⟨_,rfl,.boxL rfl ⟨.same rfl,G⟩⟩,G⟩,rfl⟩)))
      ·
       replace h:=Hv hb h
       refine Gp (ej17 _ _ (-1) h ⟨(by repeat' constructor),⟨⟨_,rfl,.map⟩,⟨_,rfl,.vec⟩,⟨_,rfl,.boxL rfl ⟨.same rfl,G⟩⟩,⟨_,rfl,.boxL rfl ⟨.same rfl,G⟩⟩,⟨_,rfl,.boxL rfl ⟨.same rfl,G⟩⟩,G⟩,rfl⟩)
     ·intro j17 h
      replace h:=app1 hkj17 h
      refine G7 (fun K22 hK22=>G7 fun K23 hK23=>G2 (JLh (E0 y7) (G5 O O) O (H3 (f:=G6.av) (xs:=y7) H2 O O (fun hm53=>?_) O O O)))
      refine JLh (G0 0) (G5 O O) O (G8 (hK23 _ _ (Gk ?_)))
      obtain⟨b56,kx56,hb56,hkx56,h⟩:=Hw h
      refine Hc (fun i56 (s56:(Hu Int Unit)×(List Int))=>each b56 kx56 (List.drop i56 y7) i56 s56=some r) (fun i56 s56=>[(0,G0 id_),(3,.dptr [LS 1 (E0) p3]),(4,Ee p4),(5,.ptr 1064 0),(9,Eg r13.1),(11,G0 j17),(26,LS 1 (E0) p3),(27,En p3.length),(28,En i7),(52,E0 y7),(53,En y7.length),(54,En i56)]) (fun i56 s56=>[(1068,MP 256 (fun n:Int=>Value.int .i64 n) (fun _:Unit=>.agg []) s56.1),(1069,.vec 3 1 s56.2.length (s56.2.map G0)),(1062,.box 256 [.mp 1068]),(1063,.box 51 [.vec 1069 s56.2.length 1 s56.2.length]),(1064,.box 257 [.fn 168 [.ptr 1062 0,.ptr 1063 0,.dptr [LS 1 (E0) p3],Ee p4,.ptr 1064 0]])]) (fun i56=>y7.length - i56) 0 (s7.1,s7.2) h ⟨(by repeat' constructor),⟨⟨_,rfl,.map⟩,⟨_,rfl,.vec⟩,⟨_,rfl,.boxL rfl ⟨.same rfl,G⟩⟩,⟨_,rfl,.boxL rfl ⟨.same rfl,G⟩⟩,⟨_,rfl,.boxL rfl ⟨.same rfl,G⟩⟩,G⟩,rfl⟩ ?_
      clear h
      intro i56 s56 hi56 K56 e56
      refine G7 fun K57 hK57=>G2 (JLh (BL (decide ((i56:Int) < (y7.length:Int)))) (J2 O O O) O (G8 (hK57 _ _ (G7 (fun K58 hK58=>Gn O (fun hb=>?_) (fun hb=>?_))))))
      ·
       have hk56:=Jc hb
       obtain⟨y56,nx56,hy56,hn56,h⟩:=Hn hi56 hk56
       replace h:=Yb hb56 h
       refine Gp (hK58 _ _ ?_)
       obtain⟨kj59,hkj59,h⟩:=G69 h
       refine G33 (fun j59:(Hu Int Unit)×(List Int)=>kj59 j59=some r) (fun j59=>[(0,G0 id_),(3,.dptr [LS 1 (E0) p3]),(4,Ee p4),(5,.ptr 1064 0),(9,Eg r13.1),(11,G0 j17),(26,LS 1 (E0) p3),(27,En p3.length),(28,En i7),(52,E0 y7),(53,En y7.length),(54,En i56)]) (fun j59=>[(1068,MP 256 (fun n:Int=>Value.int .i64 n) (fun _:Unit=>.agg []) j59.1),(1069,.vec 3 1 j59.2.length (j59.2.map G0)),(1062,.box 256 [.mp 1068]),(1063,.box 51 [.vec 1069 j59.2.length 1 j59.2.length]),(1064,.box 257 [.fn 168 [.ptr 1062 0,.ptr 1063 0,.dptr [LS 1 (E0) p3],Ee p4,.ptr 1064 0]])]) (fun Kj59 ej59=>?_) ?_
       ·
        refine Gk (G7 fun K60 hK60=>G2 (JLh (Ef y56) (Gt (f:=G6.av) (xs:=y7) (y:=y56) O O O H2 hy56 O) O (JLh (.agg (G6.cs y56)) (Gj Yo O O O) O (JLh (.ptr 1112 0) (Jb 1112 4 R9 O O) O (J4 (u:=.junk) (Ht (u:=.agg (G6.cs y56)) (ds:=[G0 y56.Gv,G0 y56.Slot.G4,G0 y56.Slot.Tier,U8 y56.Slot.Half]) G0c O O O O O O O O) (G8 (hK60 _ _ ?_)))))))
        refine Gx [(0,G0 id_),(3,.dptr [LS 1 (E0) p3]),(4,Ee p4),(5,.ptr 1064 0),(9,Eg r13.1),(11,G0 j17),(13,Ef y56),(26,LS 1 (E0) p3),(27,En p3.length),(28,En i7),(52,E0 y7),(53,En y7.length),(54,En i56)] [(1068,MP 256 (fun n:Int=>Value.int .i64 n) (fun _:Unit=>.agg []) s56.1),(1069,.vec 3 1 s56.2.length (s56.2.map G0)),(1062,.box 256 [.mp 1068]),(1063,.box 51 [.vec 1069 s56.2.length 1 s56.2.length]),(1064,.box 257 [.fn 168 [.ptr 1062 0,.ptr 1063 0,.dptr [LS 1 (E0) p3],Ee p4,.ptr 1064 0]])] 1112 rfl rfl rfl ⟨⟨_,rfl,.map⟩,⟨_,rfl,.vec⟩,⟨_,rfl,.boxEq rfl rfl⟩,⟨_,rfl,.boxEq rfl rfl⟩,⟨_,rfl,.boxEq rfl rfl⟩,G⟩ rfl (by repeat' (first | exact .ptr | constructor)) ?_
        refine G7 fun K61 hK61=>G2 (JLh (Eg y56.Slot) (Gb Hz O O O) O (JLh (.agg (Slot.cs y56.Slot)) (Gj Jh O O O) O (JLh (.agg (Slot.cs r13.1)) (Gj Jh O O O) O ?_)))
        obtain⟨r62,hr62,h⟩:=Gf h
        refine JLh (BL r62) (Gq (args:=[.agg (Slot.cs y56.Slot),.agg (Slot.cs r13.1)]) O (M_slot_Over_w y56.Slot r13.1 r62 hr62) Jd2 ⟨O,O,O,O,G⟩) O (G8 (hK61 _ _ (Gn O (fun hb=>?_) (fun hb=>?_))))
        ·
         replace h:=Gz hb h
         refine G2 (JLh (.fn 168 [.ptr 1062 0,.ptr 1063 0,.dptr [LS 1 (E0) p3],Ee p4,.ptr 1064 0]) (Zf Gae O O O O) O (JLh (Ef y56) (Gb Jq O O O) O (JLh (G0 y56.Gv) (Gh Gd O O O) O ?_)))
         obtain⟨r63,hr63,h⟩:=Gf h
         refine JLh (.tup []) (Hf3 (args:=[G0 y56.Gv]) (caps:=[.ptr 1062 0,.ptr 1063 0,.dptr [LS 1 (E0) p3],Ee p4,.ptr 1064 0]) (L0:=[(1062,.box 256 [.mp 1068]),(1068,MP 256 (fun n:Int=>Value.int .i64 n) (fun _:Unit=>.agg []) s56.1),(1063,.box 51 [.vec 1069 s56.2.length 1 s56.2.length]),(1069,.vec 3 1 s56.2.length (s56.2.map G0)),(1064,.box 257 [.fn 168 [.ptr 1062 0,.ptr 1063 0,.dptr [LS 1 (E0) p3],Ee p4,.ptr 1064 0]])]) (Lr:=[(1062,.box 256 [.mp 1068]),(1068,MP 256 (fun n:Int=>Value.int .i64 n) (fun _:Unit=>.agg []) r63.1),(1063,.box 51 [.vec 1069 r63.2.length 1 r63.2.length]),(1069,.vec 3 1 r63.2.length (r63.2.map G0)),(1064,.box 257 [.fn 168 [.ptr 1062 0,.ptr 1063 0,.dptr [LS 1 (E0) p3],Ee p4,.ptr 1064 0]])]) O O (self_w y56.Gv s56.1 s56.2 p3 p4 r63 hr63) H14 ⟨.inl O,O,G⟩ O ⟨O,O,O,O,O,G⟩ O O O) O (G8 ?_)
         exact ej59 _ _ (r63.1,r63.2) h ⟨(by repeat' constructor),⟨⟨_,rfl,.map⟩,⟨_,rfl,.vec⟩,⟨_,rfl,.boxL rfl ⟨.same rfl,G⟩⟩,⟨_,rfl,.boxL rfl ⟨.same rfl,G⟩⟩,⟨_,rfl,.boxL rfl ⟨.same rfl,G⟩⟩,G⟩,rfl⟩
        ·
         replace h:=Hv hb h
         refine Gp (ej59 _ _ (s56.1,s56.2) h ⟨(by repeat' constructor),⟨⟨_,rfl,.map⟩,⟨_,rfl,.vec⟩,⟨_,rfl,.boxL rfl ⟨.same rfl,G⟩⟩,⟨_,rfl,.boxL rfl ⟨.same rfl,G⟩⟩,⟨_,rfl,.boxL rfl ⟨.same rfl,G⟩⟩,G⟩,rfl⟩)
       ·intro j59 h
        replace h:=app1 hkj59 h
        refine G2 (JLh (G0 ((i56+1:Nat):Int)) (Hy (He hk56 hm53) O O O) O (JLh (G0 ((i56+1:Nat):Int)) (G5 O O) O (G8 (e56 _ _ (i56+1) (j59.1,j59.2) (app1 hn56 h) (by omega) ⟨(by repeat' constructor),⟨⟨_,rfl,.map⟩,⟨_,rfl,.vec⟩,⟨_,rfl,.boxL rfl ⟨.same rfl,G⟩⟩,⟨_,rfl,.boxL rfl ⟨.same rfl,G⟩⟩,⟨_,rfl,.boxL rfl ⟨.same rfl,G⟩⟩,G⟩,rfl⟩))))
      ·
       have h:=app1 hkx56 (Ho hi56 (H9 hb))
       refine Hk (hK22 _ _ (G7 fun K64 hK64=>G2 (JLh (LS 1 (E0) p3) (Gh G3c O O O) O (H3 (f:=(E0)) (xs:=p3) Rg O O (fun hm68=>?_) O O O))))
       refine JLh (G0 0) (G5 O O) O (G8 (hK64 _ _ (Gk ?_)))
       obtain⟨b65,kx65,hb65,hkx65,h⟩:=Hw h
       refine Hc (fun i65 (s65:(Hu Int Unit)×(List Int))=>each b65 kx65 (List.drop i65 p3) i65 s65=some r) (fun i65 s65=>[(0,G0 id_),(3,.dptr [LS 1 (E0) p3]),(4,Ee p4),(5,.ptr 1064 0),(11,G0 j17),(26,LS 1 (E0) p3),(27,En p3.length),(28,En i7),(67,LS 1 (E0) p3),(68,En p3.length),(69,En i65)]) (fun i65 s65=>[(1068,MP 256 (fun n:Int=>Value.int .i64 n) (fun _:Unit=>.agg []) s65.1),(1069,.vec 3 1 s65.2.length (s65.2.map G0)),(1062,.box 256 [.mp 1068]),(1063,.box 51 [.vec 1069 s65.2.length 1 s65.2.length]),(1064,.box 257 [.fn 168 [.ptr 1062 0,.ptr 1063 0,.dptr [LS 1 (E0) p3],Ee p4,.ptr 1064 0]])]) (fun i65=>p3.length - i65) 0 (s56.1,s56.2) h ⟨(by repeat' constructor),⟨⟨_,rfl,.map⟩,⟨_,rfl,.vec⟩,⟨_,rfl,.boxL rfl ⟨.same rfl,G⟩⟩,⟨_,rfl,.boxL rfl ⟨.same rfl,G⟩⟩,⟨_,rfl,.boxL rfl ⟨.same rfl,G⟩⟩,G⟩,rfl⟩ ?_
       clear h
       intro i65 s65 hi65 K65 e65
       refine G7 fun K66 hK66=>G2 (JLh (BL (decide ((i65:Int) < (p3.length:Int)))) (J2 O O O) O (G8 (hK66 _ _ (G7 (fun K67 hK67=>Gn O (fun hb=>?_) (fun hb=>?_))))))
       ·
        have hk65:=Jc hb
        obtain⟨y65,nx65,hy65,hn65,h⟩:=Hn hi65 hk65
        replace h:=Yb hb65 h
        refine Gp (hK67 _ _ (G7 (fun K68 hK68=>Gk (G7 fun K69 hK69=>G2 (JLh (.dptr [E0 y65]) (Gt (f:=(E0)) (xs:=p3) (y:=y65) O O O Rg hy65 O) O (JLh (E0 y65) (Gh Zp O O O) O (JLh (E0 y65) (G9 O O) O (G8 (hK69 _ _ (G7 fun K70 hK70=>G2 (JLh (E0 y65) (G5 O O) O (H3 (f:=G6.av) (xs:=y65) H2 O O (fun hm74=>?_) O O O))))))))))))
        refine JLh (G0 0) (G5 O O) O (G8 (hK70 _ _ (Gk ?_)))
        obtain⟨b107,kx107,hb107,hkx107,h⟩:=Hw h
        refine Hc (fun i107 (s107:(Hu Int Unit)×(List Int))=>each b107 kx107 (List.drop i107 y65) i107 s107=some r) (fun i107 s107=>[(0,G0 id_),(3,.dptr [LS 1 (E0) p3]),(4,Ee p4),(5,.ptr 1064 0),(11,G0 j17),(26,LS 1 (E0) p3),(27,En p3.length),(28,En i7),(67,LS 1 (E0) p3),(68,En p3.length),(69,En i65),(73,E0 y65),(74,En y65.length),(75,En i107)]) (fun i107 s107=>[(1068,MP 256 (fun n:Int=>Value.int .i64 n) (fun _:Unit=>.agg []) s107.1),(1069,.vec 3 1 s107.2.length (s107.2.map G0)),(1062,.box 256 [.mp 1068]),(1063,.box 51 [.vec 1069 s107.2.length 1 s107.2.length]),(1064,.box 257 [.fn 168 [.ptr 1062 0,.ptr 1063 0,.dptr [LS 1 (E0) p3],Ee p4,.ptr 1064 0]])]) (fun i107=>y65.length - i107) 0 (s65.1,s65.2) h ⟨(by repeat' constructor),⟨⟨_,rfl,.map⟩,⟨_,rfl,.vec⟩,⟨_,rfl,.boxL rfl ⟨.same rfl,G⟩⟩,⟨_,rfl,.boxL rfl ⟨.same rfl,G⟩⟩,⟨_,rfl,.boxL rfl ⟨.same rfl,G⟩⟩,G⟩,rfl⟩ ?_
        clear h
        intro i107 s107 hi107 K107 e107
        refine G7 fun K108 hK108=>G2 (JLh (BL (decide ((i107:Int) < (y65.length:Int)))) (J2 O O O) O (G8 (hK108 _ _ (G7 (fun K109 hK109=>Gn O (fun hb=>?_) (fun hb=>?_))))))
        ·
         have hk107:=Jc hb
         obtain⟨y107,nx107,hy107,hn107,h⟩:=Hn hi107 hk107
         replace h:=Yb hb107 h
         refine Gp (hK109 _ _ ?_)
         obtain⟨kj110,hkj110,h⟩:=G69 h
         refine G33 (fun j110:(Hu Int Unit)×(List Int)=>kj110 j110=some r) (fun j110=>[(0,G0 id_),(3,.dptr [LS 1 (E0) p3]),(4,Ee p4),(5,.ptr 1064 0),(11,G0 j17),(26,LS 1 (E0) p3),(27,En p3.length),(28,En i7),(67,LS 1 (E0) p3),(68,En p3.length),(69,En i65),(73,E0 y65),(74,En y65.length),(75,En i107)]) (fun j110=>[(1068,MP 256 (fun n:Int=>Value.int .i64 n) (fun _:Unit=>.agg []) j110.1),(1069,.vec 3 1 j110.2.length (j110.2.map G0)),(1062,.box 256 [.mp 1068]),(1063,.box 51 [.vec 1069 j110.2.length 1 j110.2.length]),(1064,.box 257 [.fn 168 [.ptr 1062 0,.ptr 1063 0,.dptr [LS 1 (E0) p3],Ee p4,.ptr 1064 0]])]) (fun Kj110 ej110=>?_) ?_
         ·
          refine Gk (G7 fun K111 hK111=>G2 (JLh (Ef y107) (Gt (f:=G6.av) (xs:=y65) (y:=y107) O O O H2 hy107 O) O (JLh (.agg (G6.cs y107)) (Gj Yo O O O) O (JLh (.ptr 1113 0) (Jb 1113 4 R9 O O) O (J4 (u:=.junk) (Ht (u:=.agg (G6.cs y107)) (ds:=[G0 y107.Gv,G0 y107.Slot.G4,G0 y107.Slot.Tier,U8 y107.Slot.Half]) G0c O O O O O O O O) (G8 (hK111 _ _ ?_)))))))
          refine Gx [(0,G0 id_),(3,.dptr [LS 1 (E0) p3]),(4,Ee p4),(5,.ptr 1064 0),(11,G0 j17),(17,Ef y107),(26,LS 1 (E0) p3),(27,En p3.length),(28,En i7),(67,LS 1 (E0) p3),(68,En p3.length),(69,En i65),(73,E0 y65),(74,En y65.length),(75,En i107)] [(1068,MP 256 (fun n:Int=>Value.int .i64 n) (fun _:Unit=>.agg []) s107.1),(1069,.vec 3 1 s107.2.length (s107.2.map G0)),(1062,.box 256 [.mp 1068]),(1063,.box 51 [.vec 1069 s107.2.length 1 s107.2.length]),(1064,.box 257 [.fn 168 [.ptr 1062 0,.ptr 1063 0,.dptr [LS 1 (E0) p3],Ee p4,.ptr 1064 0]])] 1113 rfl rfl rfl ⟨⟨_,rfl,.map⟩,⟨_,rfl,.vec⟩,⟨_,rfl,.boxEq rfl rfl⟩,⟨_,rfl,.boxEq rfl rfl⟩,⟨_,rfl,.boxEq rfl rfl⟩,G⟩ rfl (by repeat' (first | exact .ptr | constructor)) ?_
          refine G7 fun K112 hK112=>G2 (JLh (G0 j17) (G5 O O) O (JLh (BL (decide (0≤j17))) (G29 O O O) O (JLh (BL (decide (0≤j17))) (G5 O O) O (Ga (u:=Ee p4) [] O O O .sct G (fun hc=>Gb Hi O O O) ?_))))
          refine Ga (u:=E3 p4.Columns) [(82,Ee p4)] O O O .sct ⟨.all id,G⟩ (fun hc=>Gh Hq O O O) ?_
          refine Ga (u:=Eg y107.Slot) [] O O O .sct G (fun hc=>Gb Hz O O O) ?_
          refine Ga (u:=Eg y107.Slot) [(84,Eg y107.Slot)] O O O .sct ⟨.all id,G⟩ (fun hc=>Gb J0 O O O) ?_
          refine Ga (u:=G0 y107.Slot.G4) [(85,Eg y107.Slot)] O O O .sct ⟨.all id,G⟩ (fun hc=>Gh Gd O O O) ?_
          obtain⟨y113,hy113,h⟩:=Gf h
          refine Ga (u:=Eh y113) [(83,E3 p4.Columns),(86,G0 y107.Slot.G4)] O O O .sct ⟨.all id,.all id,G⟩ (fun hc=>(match Jf (Gz hc hy113) with | ⟨_,hm_,hy_⟩=>Gt (f:=G4.av) (xs:=p4.Columns) (y:=y113) O O O H7 hy_ hm_)) ?_
          refine Ga (u:=.dptr ((G4.cs y113).drop 2)) [(87,Eh y113)] O O O .sct ⟨.all id,G⟩ (fun hc=>Gb Z2 O O O) ?_
          refine Ga (u:=BL y113.Deck) [(88,.dptr ((G4.cs y113).drop 2))] O O O .sct ⟨.all id,G⟩ (fun hc=>Gh Rq O O O) ?_
          refine JLh (BL ((decide (0≤j17))&&y113.Deck)) (Hx O O O O) O (JLh (BL ((decide (0≤j17))&&y113.Deck)) (G5 O O) O (Ga (u:=.agg (Hb.cs p4)) [] O O O .sct G (fun hc=>Gj J8 O O O) ?_))
          refine Ga (u:=Eg y107.Slot) [] O O O .sct G (fun hc=>Gb Hz O O O) ?_
          refine Ga (u:=Eg y107.Slot) [(93,Eg y107.Slot)] O O O .sct ⟨.all id,G⟩ (fun hc=>Gb J0 O O O) ?_
          refine Ga (u:=G0 y107.Slot.G4) [(94,Eg y107.Slot)] O O O .sct ⟨.all id,G⟩ (fun hc=>Gh Gd O O O) ?_
          obtain⟨r114,hr114,h⟩:=Gf h
          refine Ga (u:=G0 r114) [(92,.agg (Hb.cs p4)),(95,G0 y107.Slot.G4)] O O O .sct ⟨.all id,.all id,G⟩ (fun hc=>Gq (args:=[.agg (Hb.cs p4),G0 y107.Slot.G4]) O (H3b p4 y107.Slot.G4 r114 (Gz hc hr114)) J20 ⟨O,O,O,O,G⟩) ?_
          refine Ga (u:=G0 j17) [] O O O .sct G (fun hc=>G5 O O) ?_
          refine Ga (u:=BL (decide (r114=j17))) [(96,G0 r114),(97,G0 j17)] O O O .sct ⟨.all id,.all id,G⟩ (fun hc=>Jx O O O) ?_
          refine JLh (BL (((decide (0≤j17))&&y113.Deck)&&(decide (r114=j17)))) (Hx O O O O) O (G8 (hK112 _ _ (Gn O (fun hb=>?_) (fun hb=>?_))))
          ·
           replace h:=Gz hb h
           refine G2 (JLh (.fn 168 [.ptr 1062 0,.ptr 1063 0,.dptr [LS 1 (E0) p3],Ee p4,.ptr 1064 0]) (Zf Gae O O O O) O (JLh (Ef y107) (Gb Jq O O O) O (JLh (G0 y107.Gv) (Gh Gd O O O) O ?_)))
           obtain⟨r115,hr115,h⟩:=Gf h
           refine JLh (.tup []) (Hf3 (args:=[G0 y107.Gv]) (caps:=[.ptr 1062 0,.ptr 1063 0,.dptr [LS 1 (E0) p3],Ee p4,.ptr 1064 0]) (L0:=[(1062,.box 256 [.mp 1068]),(1068,MP 256 (fun n:Int=>Value.int .i64 n) (fun _:Unit=>.agg []) s107.1),(1063,.box 51 [.vec 1069 s107.2.length 1 s107.2.length]),(1069,.vec 3 1 s107.2.length (s107.2.map G0)),(1064,.box 257 [.fn 168 [.ptr 1062 0,.ptr 1063 0,.dptr [LS 1 (E0) p3],Ee p4,.ptr 1064 0]])]) (Lr:=[(1062,.box 256 [.mp 1068]),(1068,MP 256 (fun n:Int=>Value.int .i64 n) (fun _:Unit=>.agg []) r115.1),(1063,.box 51 [.vec 1069 r115.2.length 1 r115.2.length]),(1069,.vec 3 1 r115.2.length (r115.2.map G0)),(1064,.box 257 [.fn 168 [.ptr 1062 0,.ptr 1063 0,.dptr [LS 1 (E0) p3],Ee p4,.ptr 1064 0]])]) O O (self_w y107.Gv s107.1 s107.2 p3 p4 r115 hr115) H14 ⟨.inl O,O,G⟩ O ⟨O,O,O,O,O,G⟩ O O O) O (G8 ?_)
           exact ej110 _ _ (r115.1,r115.2) h ⟨(by repeat' constructor),⟨⟨_,rfl,.map⟩,⟨_,rfl,.vec⟩,⟨_,rfl,.boxL rfl ⟨.same rfl,G⟩⟩,⟨_,rfl,.boxL rfl ⟨.same rfl,G⟩⟩,⟨_,rfl,.boxL rfl ⟨.same rfl,G⟩⟩,G⟩,rfl⟩
          ·
           replace h:=Hv hb h
           refine Gp (ej110 _ _ (s107.1,s107.2) h ⟨(by repeat' constructor),⟨⟨_,rfl,.map⟩,⟨_,rfl,.vec⟩,⟨_,rfl,.boxL rfl ⟨.same rfl,G⟩⟩,⟨_,rfl,.boxL rfl ⟨.same rfl,G⟩⟩,⟨_,rfl,.boxL rfl ⟨.same rfl,G⟩⟩,G⟩,rfl⟩)
         ·intro j110 h
          replace h:=app1 hkj110 h
          refine G2 (JLh (G0 ((i107+1:Nat):Int)) (Hy (He hk107 hm74) O O O) O (JLh (G0 ((i107+1:Nat):Int)) (G5 O O) O (G8 (e107 _ _ (i107+1) (j110.1,j110.2) (app1 hn107 h) (by omega) ⟨(by repeat' constructor),⟨⟨_,rfl,.map⟩,⟨_,rfl,.vec⟩,⟨_,rfl,.boxL rfl ⟨.same rfl,G⟩⟩,⟨_,rfl,.boxL rfl ⟨.same rfl,G⟩⟩,⟨_,rfl,.boxL rfl ⟨.same rfl,G⟩⟩,G⟩,rfl⟩))))
        ·
         have h:=app1 hkx107 (Ho hi107 (H9 hb))
         refine Hk (hK68 _ _ (G2 (JLh (G0 ((i65+1:Nat):Int)) (Hy (He hk65 hm68) O O O) O (JLh (G0 ((i65+1:Nat):Int)) (G5 O O) O (G8 (e65 _ _ (i65+1) (s107.1,s107.2) (app1 hn65 h) (by omega) ⟨(by repeat' constructor),⟨⟨_,rfl,.map⟩,⟨_,rfl,.vec⟩,⟨_,rfl,.boxL rfl ⟨.same rfl,G⟩⟩,⟨_,rfl,.boxL rfl ⟨.same rfl,G⟩⟩,⟨_,rfl,.boxL rfl ⟨.same rfl,G⟩⟩,G⟩,rfl⟩))))))
       ·
        have h:=app1 hkx65 (Ho hi65 (H9 hb))
        refine Hk (ej10 _ _ (s65.1,s65.2) h ⟨(by repeat' constructor),⟨⟨_,rfl,.map⟩,⟨_,rfl,.vec⟩,⟨_,rfl,.boxL rfl ⟨.same rfl,G⟩⟩,⟨_,rfl,.boxL rfl ⟨.same rfl,G⟩⟩,⟨_,rfl,.boxL rfl ⟨.same rfl,G⟩⟩,G⟩,rfl⟩)
   ·intro j10 h
    replace h:=app1 hkj10 h
    refine G2 (JLh (G0 ((i7+1:Nat):Int)) (Hy (He hk7 hm27) O O O) O (JLh (G0 ((i7+1:Nat):Int)) (G5 O O) O (G8 (e7 _ _ (i7+1) (j10.1,j10.2) (app1 hn7 h) (by omega) ⟨(by repeat' constructor),⟨⟨_,rfl,.map⟩,⟨_,rfl,.vec⟩,⟨_,rfl,.boxL rfl ⟨.same rfl,G⟩⟩,⟨_,rfl,.boxL rfl ⟨.same rfl,G⟩⟩,⟨_,rfl,.boxL rfl ⟨.same rfl,G⟩⟩,G⟩,rfl⟩))))
  ·
   have h:=app1 hkx7 (Ho hi7 (H9 hb))
   refine Hk ?_
   obtain rfl:=Option.some.inj h
   exact⟨[],[(1062,.box 256 [.mp 1068]),(1068,MP 256 (fun n:Int=>Value.int .i64 n) (fun _:Unit=>.agg []) s7.1),(1063,.box 51 [.vec 1069 s7.2.length 1 s7.2.length]),(1069,.vec 3 1 s7.2.length (s7.2.map G0)),(1064,.box 257 [.fn 168 [.ptr 1062 0,.ptr 1063 0,.dptr [LS 1 (E0) p3],Ee p4,.ptr 1064 0]])],⟨⟨_,O,.boxL O ⟨.same O,G⟩⟩,⟨_,O,.map⟩,⟨_,O,.boxL O ⟨.same O,G⟩⟩,⟨_,O,.vec⟩,⟨_,O,.boxL O ⟨.same O,G⟩⟩,G⟩,O,G,O,O⟩
theorem H1e:∀ (F:Nat) (id_:Int) (p1:Hu Int Unit) (p2:List Int) (p3:List (List G6)) (p4:Hb) (r:(Hu Int Unit)×(List Int)) (h:G02 F id_ p1 p2 p3 p4=some r),Ym Tryz.prog 168 [G0 id_,.ptr 1062 0,.ptr 1063 0,.dptr [LS 1 (E0) p3],Ee p4,.ptr 1064 0] [(1062,.box 256 [.mp 1068]),(1068,MP 256 (fun n:Int=>Value.int .i64 n) (fun _:Unit=>.agg []) p1),(1063,.box 51 [.vec 1069 p2.length 1 p2.length]),(1069,.vec 3 1 p2.length (p2.map G0)),(1064,.box 257 [.fn 168 [.ptr 1062 0,.ptr 1063 0,.dptr [LS 1 (E0) p3],Ee p4,.ptr 1064 0]])] (fun av L'=>av=.tup []∧L'=[(1062,.box 256 [.mp 1068]),(1068,MP 256 (fun n:Int=>Value.int .i64 n) (fun _:Unit=>.agg []) r.1),(1063,.box 51 [.vec 1069 r.2.length 1 r.2.length]),(1069,.vec 3 1 r.2.length (r.2.map G0)),(1064,.box 257 [.fn 168 [.ptr 1062 0,.ptr 1063 0,.dptr [LS 1 (E0) p3],Ee p4,.ptr 1064 0]])]):=by
 intro F
 induction F with
 | zero=>intro id_ p1 p2 p3 p4 r h; cases h
 | succ F ih=>intro id_ p1 p2 p3 p4 r h; exact Hf1 (G02 F) ih F id_ p1 p2 p3 p4 r h

def G10 (F:Nat) (s:Hb) (before:List G6) (after:List G6):Option (List Int):=
 each (fun y9 i9 (s9:(Hu Int Unit)×(List Int)) nx9=>
  each (fun y59 i59 (s59:(Hu Int Unit)×(List Int)) nx59=>
   jp (fun kj62=>
    bnd (G28 before y59.Gv) fun r65=>
    bnd (G28 after y59.Gv) fun r67=>
    bif ((!(r65.2==r67.2))||(!decide (r65.1=r67.1))) then
    (bnd (G02 F y59.Gv s59.1 s59.2 [before,after] s) fun r69=>
     kj62 (r69.1,r69.2))
    else
    (kj62 (s59.1,s59.2))) fun(j62:(Hu Int Unit)×(List Int))=>
   nx59 (j62.1,j62.2))
  (fun(s59:(Hu Int Unit)×(List Int))=>
   nx9 (s59.1,s59.2)) y9 0 (s9.1,s9.2))
 (fun(s9:(Hu Int Unit)×(List Int))=>
  bnd (Hf9 s9.2) fun r71=>
  some r71) [before,after] 0 ((Hu.empty:Hu Int Unit),[])
theorem J48 (F:Nat) (s:Hb) (before:List G6) (after:List G6) (r:(List Int)) (h:G10 F s before after=some r):Pure Tryz.prog 80 [.agg (Hb.cs s),E0 before,E0 after] (·=E1 r):=by
 unfold G10 at h
 refine H1 [.tmp 6] Tryz.func80 O O (G7 fun K1 hK1=>G2 (JLh (.ptr 1059 0) (Jy (u:=.agg (Hb.cs s)) (cs:=(Hb.cs s)) 1059 O O O O O) O (JLh (E1 ([]:List Int)) (R4 1 O O) O (G8 (hK1 _ _ ?_)))))
 refine Gx [(1,E0 before),(2,E0 after),(3,Ee s)] [] 1059 rfl rfl rfl G rfl (by exact⟨.conv (.same rfl),.conv (.same rfl),.ptr,G⟩) ?_
 refine G7 fun K2 hK2=>G2 (JLh (E0 before) (G5 O O) O (JLh (E0 after) (G5 O O) O (JLh (LS 1 (E0) [before,after]) (Hm (xs:=[E0 before,E0 after]) O ⟨O,O,O,O,G⟩ Rg Gb4 O O O O) O (JLh (.ptr 1061 0) (Jb 1061 1 J10 O O) O (J4 (u:=.junk) (Ht (u:=LS 1 (E0) [before,after]) (ds:=[LS 1 (E0) [before,after]]) J58 O O O O O O O O) (G8 (hK2 _ _ ?_)))))))
 refine Gx [(1,E0 before),(2,E0 after),(3,Ee s),(7,.dptr [LS 1 (E0) [before,after]])] [] 1061 rfl rfl rfl G rfl (by repeat' (first | exact .ptr | constructor)) (G7 fun K3 hK3=>G2 (JLh (.mp 1068) (Hce 1068 (fun n:Int=>Value.int .i64 n) (fun _:Unit=>.agg []) O O) O (JLh (.ptr 1062 0) (Jb 1062 1 Hd3 O O) O (J4 (u:=.junk) (Ht (u:=.mp 1068) (ds:=[.mp 1068]) J16 O O O O O O O O) (G8 (hK3 _ _ ?_))))))
 refine G7 fun K4 hK4=>G2 (JLh (.ptr 1063 0) (Zc 1063 [.sc (.slice none 0 0)] [.slice none 0 0] J56 ⟨.inl O,G⟩ O O) O (J92 1063 0 1069 3 1 O O O (cs':=[.vec 1069 (([]:List Int).length) 1 (([]:List Int).length)]) O (G8 (hK4 _ _ (G7 fun K5 hK5=>G2 (JLh (.ptr 1064 0) (Jb 1064 1 Hd2 O O) O (G8 (hK5 _ _ ?_))))))))
 refine G7 fun K6 hK6=>G2 (JLh (.fn 168 [.ptr 1062 0,.ptr 1063 0,.dptr [LS 1 (E0) [before,after]],Ee s,.ptr 1064 0]) (G30 (cs:=[.ptr 1062 0,.ptr 1063 0,.dptr [LS 1 (E0) [before,after]],Ee s,.ptr 1064 0]) O O) O (J4 (u:=.junk) (Ht (u:=.fn 168 [.ptr 1062 0,.ptr 1063 0,.dptr [LS 1 (E0) [before,after]],Ee s,.ptr 1064 0]) (ds:=[.fn 168 [.ptr 1062 0,.ptr 1063 0,.dptr [LS 1 (E0) [before,after]],Ee s,.ptr 1064 0]]) J15 O O O O O O O O) (G8 (hK6 _ _ ?_))))
 refine G7 (fun K7 hK7=>G7 fun K8 hK8=>G2 (JLh (LS 1 (E0) [before,after]) (Gh G3c O O O) O (H3 (f:=(E0)) (xs:=[before,after]) Rg O O (fun hm25=>?_) O O O)))
 refine JLh (G0 0) (G5 O O) O (G8 (hK8 _ _ (Gk ?_)))
 obtain⟨b9,kx9,hb9,hkx9,h⟩:=Hw h
 refine Hc (fun i9 (s9:(Hu Int Unit)×(List Int))=>each b9 kx9 (List.drop i9 [before,after]) i9 s9=some r) (fun i9 s9=>[(1,E0 before),(2,E0 after),(9,.ptr 1063 0),(10,.ptr 1064 0),(24,LS 1 (E0) [before,after]),(25,G0 ([before,after].length:Int)),(26,En i9)]) (fun i9 s9=>[(1068,MP 256 (fun n:Int=>Value.int .i64 n) (fun _:Unit=>.agg []) s9.1),(1069,.vec 3 1 s9.2.length (s9.2.map G0)),(1062,.box 256 [.mp 1068]),(1063,.box 51 [.vec 1069 s9.2.length 1 s9.2.length]),(1064,.box 257 [.fn 168 [.ptr 1062 0,.ptr 1063 0,.dptr [LS 1 (E0) [before,after]],Ee s,.ptr 1064 0]])]) (fun i9=>[before,after].length - i9) 0 ((Hu.empty:Hu Int Unit),[]) h ⟨(by repeat' constructor),⟨⟨_,rfl,.map⟩,⟨_,rfl,.vec⟩,⟨_,rfl,.boxL rfl ⟨.same rfl,G⟩⟩,⟨_,rfl,.boxL rfl ⟨.same rfl,G⟩⟩,⟨_,rfl,.boxL rfl ⟨.same rfl,G⟩⟩,G⟩,rfl⟩ ?_
 clear h
 intro i9 s9 hi9 K9 e9
 refine G7 fun K10 hK10=>G2 (JLh (BL (decide ((i9:Int) < ([before,after].length:Int)))) (J2 O O O) O (G8 (hK10 _ _ (G7 (fun K11 hK11=>Gn O (fun hb=>?_) (fun hb=>?_))))))
 ·
  have hk9:=Jc hb
  obtain⟨y9,nx9,hy9,hn9,h⟩:=Hn hi9 hk9
  replace h:=Yb hb9 h
  refine Gp (hK11 _ _ (G7 (fun K12 hK12=>Gk (G7 fun K13 hK13=>G2 (JLh (.dptr [E0 y9]) (Gt (f:=(E0)) (xs:=[before,after]) (y:=y9) O O O Rg hy9 O) O (JLh (E0 y9) (Gh Zp O O O) O (JLh (E0 y9) (G9 O O) O (G8 (hK13 _ _ (G7 fun K14 hK14=>G2 (JLh (E0 y9) (G5 O O) O (H3 (f:=G6.av) (xs:=y9) H2 O O (fun hm31=>?_) O O O))))))))))))
  refine JLh (G0 0) (G5 O O) O (G8 (hK14 _ _ (Gk ?_)))
  obtain⟨b59,kx59,hb59,hkx59,h⟩:=Hw h
  refine Hc (fun i59 (s59:(Hu Int Unit)×(List Int))=>each b59 kx59 (List.drop i59 y9) i59 s59=some r) (fun i59 s59=>[(1,E0 before),(2,E0 after),(9,.ptr 1063 0),(10,.ptr 1064 0),(24,LS 1 (E0) [before,after]),(25,G0 ([before,after].length:Int)),(26,En i9),(30,E0 y9),(31,En y9.length),(32,En i59)]) (fun i59 s59=>[(1068,MP 256 (fun n:Int=>Value.int .i64 n) (fun _:Unit=>.agg []) s59.1),(1069,.vec 3 1 s59.2.length (s59.2.map G0)),(1062,.box 256 [.mp 1068]),(1063,.box 51 [.vec 1069 s59.2.length 1 s59.2.length]),(1064,.box 257 [.fn 168 [.ptr 1062 0,.ptr 1063 0,.dptr [LS 1 (E0) [before,after]],Ee s,.ptr 1064 0]])]) (fun i59=>y9.length - i59) 0 (s9.1,s9.2) h ⟨(by repeat' constructor),⟨⟨_,rfl,.map⟩,⟨_,rfl,.vec⟩,⟨_,rfl,.boxL rfl ⟨.same rfl,G⟩⟩,⟨_,rfl,.boxL rfl ⟨.same rfl,G⟩⟩,⟨_,rfl,.boxL rfl ⟨.same rfl,G⟩⟩,G⟩,rfl⟩ ?_
  clear h
  intro i59 s59 hi59 K59 e59
  refine G7 fun K60 hK60=>G2 (JLh (BL (decide ((i59:Int) < (y9.length:Int)))) (J2 O O O) O (G8 (hK60 _ _ (G7 (fun K61 hK61=>Gn O (fun hb=>?_) (fun hb=>?_))))))
  ·
   have hk59:=Jc hb
   obtain⟨y59,nx59,hy59,hn59,h⟩:=Hn hi59 hk59
   replace h:=Yb hb59 h
   refine Gp (hK61 _ _ ?_)
   obtain⟨kj62,hkj62,h⟩:=G69 h
   refine G33 (fun j62:(Hu Int Unit)×(List Int)=>kj62 j62=some r) (fun j62=>[(1,E0 before),(2,E0 after),(9,.ptr 1063 0),(10,.ptr 1064 0),(24,LS 1 (E0) [before,after]),(25,G0 ([before,after].length:Int)),(26,En i9),(30,E0 y9),(31,En y9.length),(32,En i59)]) (fun j62=>[(1068,MP 256 (fun n:Int=>Value.int .i64 n) (fun _:Unit=>.agg []) j62.1),(1069,.vec 3 1 j62.2.length (j62.2.map G0)),(1062,.box 256 [.mp 1068]),(1063,.box 51 [.vec 1069 j62.2.length 1 j62.2.length]),(1064,.box 257 [.fn 168 [.ptr 1062 0,.ptr 1063 0,.dptr [LS 1 (E0) [before,after]],Ee s,.ptr 1064 0]])]) (fun Kj62 ej62=>?_) ?_
   ·
    refine Gk (G7 fun K63 hK63=>G2 (JLh (Ef y59) (Gt (f:=G6.av) (xs:=y9) (y:=y59) O O O H2 hy59 O) O (JLh (.agg (G6.cs y59)) (Gj Yo O O O) O (JLh (.ptr 1065 0) (Jb 1065 4 R9 O O) O (J4 (u:=.junk) (Ht (u:=.agg (G6.cs y59)) (ds:=[G0 y59.Gv,G0 y59.Slot.G4,G0 y59.Slot.Tier,U8 y59.Slot.Half]) G0c O O O O O O O O) (G8 (hK63 _ _ ?_)))))))
    refine Gx [(1,E0 before),(2,E0 after),(9,.ptr 1063 0),(10,.ptr 1064 0),(14,Ef y59),(24,LS 1 (E0) [before,after]),(25,G0 ([before,after].length:Int)),(26,En i9),(30,E0 y9),(31,En y9.length),(32,En i59)] [(1068,MP 256 (fun n:Int=>Value.int .i64 n) (fun _:Unit=>.agg []) s59.1),(1069,.vec 3 1 s59.2.length (s59.2.map G0)),(1062,.box 256 [.mp 1068]),(1063,.box 51 [.vec 1069 s59.2.length 1 s59.2.length]),(1064,.box 257 [.fn 168 [.ptr 1062 0,.ptr 1063 0,.dptr [LS 1 (E0) [before,after]],Ee s,.ptr 1064 0]])] 1065 rfl rfl rfl ⟨⟨_,rfl,.map⟩,⟨_,rfl,.vec⟩,⟨_,rfl,.boxEq rfl rfl⟩,⟨_,rfl,.boxEq rfl rfl⟩,⟨_,rfl,.boxEq rfl rfl⟩,G⟩ rfl (by repeat' (first | exact .ptr | constructor)) ?_
    refine G7 fun K64 hK64=>G2 (JLh (E0 before) (G5 O O) O (JLh (Ef y59) (Gb Jq O O O) O (JLh (G0 y59.Gv) (Gh Gd O O O) O ?_)))
    obtain⟨r65,hr65,h⟩:=Gf h
    refine JLh (.tup [.agg (Slot.cs r65.1),BL r65.2]) (Gq (args:=[E0 before,G0 y59.Gv]) O (G2e before y59.Gv r65 hr65) G7e ⟨O,O,O,O,G⟩) O (JLh (.tup [.agg (Slot.cs r65.1),BL r65.2]) (G5 O O) O (JLh (.agg (Slot.cs r65.1)) (J1 O O O) O (JLh (BL r65.2) (J1 O O O) O (JLh (.ptr 1066 0) (Jb 1066 3 Zo O O) O (J4 (u:=.junk) (Ht (u:=.agg (Slot.cs r65.1)) (ds:=[G0 r65.1.G4,G0 r65.1.Tier,U8 r65.1.Half]) G0d O O O O O O O O) (JLh (BL r65.2) (G9 O O) O (G8 (hK64 _ _ ?_))))))))
    refine Gx [(1,E0 before),(2,E0 after),(9,.ptr 1063 0),(10,.ptr 1064 0),(14,Ef y59),(15,Eg r65.1),(16,BL r65.2),(24,LS 1 (E0) [before,after]),(25,G0 ([before,after].length:Int)),(26,En i9),(30,E0 y9),(31,En y9.length),(32,En i59)] [(1068,MP 256 (fun n:Int=>Value.int .i64 n) (fun _:Unit=>.agg []) s59.1),(1069,.vec 3 1 s59.2.length (s59.2.map G0)),(1062,.box 256 [.mp 1068]),(1063,.box 51 [.vec 1069 s59.2.length 1 s59.2.length]),(1064,.box 257 [.fn 168 [.ptr 1062 0,.ptr 1063 0,.dptr [LS 1 (E0) [before,after]],Ee s,.ptr 1064 0]])] 1066 rfl rfl rfl ⟨⟨_,rfl,.map⟩,⟨_,rfl,.vec⟩,⟨_,rfl,.boxEq rfl rfl⟩,⟨_,rfl,.boxEq rfl rfl⟩,⟨_,rfl,.boxEq rfl rfl⟩,G⟩ rfl (by repeat' (first | exact .ptr | constructor)) ?_
    refine G7 fun K66 hK66=>G2 (JLh (E0 after) (G5 O O) O (JLh (Ef y59) (Gb Jq O O O) O (JLh (G0 y59.Gv) (Gh Gd O O O) O ?_)))
    obtain⟨r67,hr67,h⟩:=Gf h
    refine JLh (.tup [.agg (Slot.cs r67.1),BL r67.2]) (Gq (args:=[E0 after,G0 y59.Gv]) O (G2e after y59.Gv r67 hr67) G7e ⟨O,O,O,O,G⟩) O (JLh (.tup [.agg (Slot.cs r67.1),BL r67.2]) (G5 O O) O (JLh (.agg (Slot.cs r67.1)) (J1 O O O) O (JLh (BL r67.2) (J1 O O O) O (JLh (.ptr 1067 0) (Jb 1067 3 Zo O O) O (J4 (u:=.junk) (Ht (u:=.agg (Slot.cs r67.1)) (ds:=[G0 r67.1.G4,G0 r67.1.Tier,U8 r67.1.Half]) G0d O O O O O O O O) (JLh (BL r67.2) (G9 O O) O (G8 (hK66 _ _ ?_))))))))
    refine Gx [(1,E0 before),(2,E0 after),(9,.ptr 1063 0),(10,.ptr 1064 0),(14,Ef y59),(15,Eg r65.1),(16,BL r65.2),(17,Eg r67.1),(18,BL r67.2),(24,LS 1 (E0) [before,after]),(25,G0 ([before,after].length:Int)),(26,En i9),(30,E0 y9),(31,En y9.length),(32,En i59)] [(1068,MP 256 (fun n:Int=>Value.int .i64 n) (fun _:Unit=>.agg []) s59.1),(1069,.vec 3 1 s59.2.length (s59.2.map G0)),(1062,.box 256 [.mp 1068]),(1063,.box 51 [.vec 1069 s59.2.length 1 s59.2.length]),(1064,.box 257 [.fn 168 [.ptr 1062 0,.ptr 1063 0,.dptr [LS 1 (E0) [before,after]],Ee s,.ptr 1064 0]])] 1067 rfl rfl rfl ⟨⟨_,rfl,.map⟩,⟨_,rfl,.vec⟩,⟨_,rfl,.boxEq rfl rfl⟩,⟨_,rfl,.boxEq rfl rfl⟩,⟨_,rfl,.boxEq rfl rfl⟩,G⟩ rfl (by repeat' (first | exact .ptr | constructor)) ?_
    refine G7 fun K68 hK68=>G2 (JLh (BL r65.2) (G5 O O) O (JLh (BL r67.2) (G5 O O) O (JLh (BL (!(r65.2==r67.2))) (Je8 H9b O O O) O (JLh (BL (!(r65.2==r67.2))) (G5 O O) O (Ga (u:=.agg (Slot.cs r65.1)) [] O O O .scf G (fun hc=>Gj Jh O O O) ?_)))))
    refine Ga (u:=.agg (Slot.cs r67.1)) [] O O O .scf G (fun hc=>Gj Jh O O O) ?_
    refine Ga (u:=BL (!decide (r65.1=r67.1))) [(54,.agg (Slot.cs r65.1)),(55,.agg (Slot.cs r67.1))] O O O .scf ⟨.all id,.all id,G⟩ (fun hc=>Hf2 (vs:=[.int .i64 r65.1.G4,.int .i64 r65.1.Tier,.int .u8 r65.1.Half]) (us:=[.int .i64 r67.1.G4,.int .i64 r67.1.Tier,.int .u8 r67.1.Half]) 4 O (tq_119 r65.1 r67.1) Gcf H48 O O O) ?_
    refine JLh (BL ((!(r65.2==r67.2))||(!decide (r65.1=r67.1)))) (Rn O O O O) O (G8 (hK68 _ _ (Gn O (fun hb=>?_) (fun hb=>?_))))
    ·
     replace h:=Gz hb h
     refine G2 (JLh (.fn 168 [.ptr 1062 0,.ptr 1063 0,.dptr [LS 1 (E0) [before,after]],Ee s,.ptr 1064 0]) (Zf Gae O O O O) O (JLh (Ef y59) (Gb Jq O O O) O (JLh (G0 y59.Gv) (Gh Gd O O O) O ?_)))
     obtain⟨r69,hr69,h⟩:=Gf h
     refine JLh (.tup []) (Hf3 (args:=[G0 y59.Gv]) (caps:=[.ptr 1062 0,.ptr 1063 0,.dptr [LS 1 (E0) [before,after]],Ee s,.ptr 1064 0]) (L0:=[(1062,.box 256 [.mp 1068]),(1068,MP 256 (fun n:Int=>Value.int .i64 n) (fun _:Unit=>.agg []) s59.1),(1063,.box 51 [.vec 1069 s59.2.length 1 s59.2.length]),(1069,.vec 3 1 s59.2.length (s59.2.map G0)),(1064,.box 257 [.fn 168 [.ptr 1062 0,.ptr 1063 0,.dptr [LS 1 (E0) [before,after]],Ee s,.ptr 1064 0]])]) (Lr:=[(1062,.box 256 [.mp 1068]),(1068,MP 256 (fun n:Int=>Value.int .i64 n) (fun _:Unit=>.agg []) r69.1),(1063,.box 51 [.vec 1069 r69.2.length 1 r69.2.length]),(1069,.vec 3 1 r69.2.length (r69.2.map G0)),(1064,.box 257 [.fn 168 [.ptr 1062 0,.ptr 1063 0,.dptr [LS 1 (E0) [before,after]],Ee s,.ptr 1064 0]])]) O O (H1e F y59.Gv s59.1 s59.2 [before,after] s r69 hr69) H14 ⟨.inl O,O,G⟩ O ⟨O,O,O,O,O,G⟩ O O O) O (G8 ?_)
     exact ej62 _ _ (r69.1,r69.2) h ⟨(by repeat' constructor),⟨⟨_,rfl,.map⟩,⟨_,rfl,.vec⟩,⟨_,rfl,.boxL rfl ⟨.same rfl,G⟩⟩,⟨_,rfl,.boxL rfl ⟨.same rfl,G⟩⟩,⟨_,rfl,.boxL rfl ⟨.same rfl,G⟩⟩,G⟩,rfl⟩
    ·
     replace h:=Hv hb h
     refine Gp (ej62 _ _ (s59.1,s59.2) h ⟨(by repeat' constructor),⟨⟨_,rfl,.map⟩,⟨_,rfl,.vec⟩,⟨_,rfl,.boxL rfl ⟨.same rfl,G⟩⟩,⟨_,rfl,.boxL rfl ⟨.same rfl,G⟩⟩,⟨_,rfl,.boxL rfl ⟨.same rfl,G⟩⟩,G⟩,rfl⟩)
   ·intro j62 h
    replace h:=app1 hkj62 h
    refine G2 (JLh (G0 ((i59+1:Nat):Int)) (Hy (He hk59 hm31) O O O) O (JLh (G0 ((i59+1:Nat):Int)) (G5 O O) O (G8 (e59 _ _ (i59+1) (j62.1,j62.2) (app1 hn59 h) (by omega) ⟨(by repeat' constructor),⟨⟨_,rfl,.map⟩,⟨_,rfl,.vec⟩,⟨_,rfl,.boxL rfl ⟨.same rfl,G⟩⟩,⟨_,rfl,.boxL rfl ⟨.same rfl,G⟩⟩,⟨_,rfl,.boxL rfl ⟨.same rfl,G⟩⟩,G⟩,rfl⟩))))
  ·
   have h:=app1 hkx59 (Ho hi59 (H9 hb))
   refine Hk (hK12 _ _ (G2 (JLh (G0 ((i9+1:Nat):Int)) (Hy (He hk9 hm25) O O O) O (JLh (G0 ((i9+1:Nat):Int)) (G5 O O) O (G8 (e9 _ _ (i9+1) (s59.1,s59.2) (app1 hn9 h) (by omega) ⟨(by repeat' constructor),⟨⟨_,rfl,.map⟩,⟨_,rfl,.vec⟩,⟨_,rfl,.boxL rfl ⟨.same rfl,G⟩⟩,⟨_,rfl,.boxL rfl ⟨.same rfl,G⟩⟩,⟨_,rfl,.boxL rfl ⟨.same rfl,G⟩⟩,G⟩,rfl⟩))))))
 ·
  have h:=app1 hkx9 (Ho hi9 (H9 hb))
  refine Hk (hK7 _ _ (G7 fun K70 hK70=>G2 (JLh (.vec 1069 s9.2.length 1 s9.2.length) (Zf Hg O O O O) O ?_)))
  obtain⟨r71,hr71,h⟩:=Gf h
  refine JLh (.tup []) (A_sortI (F:=172) (xs:=s9.2) (r:=r71) O Hd8 Hb4 J1f O O O hr71 O) O (G8 (hK70 _ _ (G7 fun K72 hK72=>G2 (JLh (.vec 1069 s9.2.length 1 s9.2.length) (Zf Hg O O O O) O (JLh (.vec 1069 s9.2.length 1 s9.2.length) (G9 O O) O (G8 (hK72 _ _ (J93 [(6,E1 r71)] [] 1069 rfl rfl G rfl (by exact⟨.vec,G⟩) (Gu (⟨[E1 r71],[],G,O,⟨⟨_,O,.conv (.same O)⟩,G⟩,O,congrArg (fun r:(List Int)=>(E1 r:AV)) (Option.some.inj h)⟩))))))))))

def G2f (F:Nat) (s:Hb) (boxes:List Gv) (before:List G6) (after:List G6):Option ((List Int)×Int):=
 bnd (G0b s boxes before) fun r4=>
 bnd (bif (!(!r4)) then G0b s boxes after else some default) fun r5=>
 bif ((!r4)||(!r5)) then
 (some ([],2))
 else
 (bnd (G10 F s before after) fun r8=>
  some (r8,0))
theorem Gca (F:Nat) (s:Hb) (boxes:List Gv) (before:List G6) (after:List G6) (r:(List Int)×Int) (h:G2f F s boxes before after=some r):Pure Tryz.prog 31 [.agg (Hb.cs s),E2 boxes,E0 before,E0 after] (·=.tup [E1 r.1,G0 r.2]):=by
 unfold G2f at h
 refine H1 [.tmp 8,.tmp 9] Tryz.func31 O O (G7 fun K1 hK1=>G2 (JLh (.ptr 1027 0) (Jy (u:=.agg (Hb.cs s)) (cs:=(Hb.cs s)) 1027 O O O O O) O (JLh (E1 ([]:List Int)) (R4 1 O O) O (JLh (G0 0) (G9 O O) O (G8 (hK1 _ _ ?_))))))
 refine Gx [(1,E2 boxes),(2,E0 before),(3,E0 after),(4,Ee s)] [] 1027 rfl rfl rfl G rfl (by repeat' (first | exact .ptr | constructor)) (G7 (fun K2 hK2=>?_))
 refine G7 fun K3 hK3=>G2 (JLh (.agg (Hb.cs s)) (Gj J8 O O O) O (JLh (E2 boxes) (G5 O O) O (JLh (E0 before) (G5 O O) O ?_)))
 obtain⟨r4,hr4,h⟩:=Gf h
 refine JLh (BL r4) (Gq (args:=[.agg (Hb.cs s),E2 boxes,E0 before]) O (Gfb s boxes before r4 hr4) Hbb ⟨O,O,O,O,O,O,G⟩) O (JLh (BL (!r4)) (Qv (b:=r4) O O) O (JLh (BL (!r4)) (G5 O O) O (Ga (u:=.agg (Hb.cs s)) [] O O O .scf G (fun hc=>Gj J8 O O O) ?_)))
 refine Ga (u:=E2 boxes) [] O O O .scf G (fun hc=>G5 O O) ?_
 refine Ga (u:=E0 after) [] O O O .scf G (fun hc=>G5 O O) ?_
 obtain⟨r5,hr5,h⟩:=Gf h
 refine Ga (u:=BL r5) [(16,.agg (Hb.cs s)),(17,E2 boxes),(18,E0 after)] O O O .scf ⟨.all id,.all id,.all id,G⟩ (fun hc=>Gq (args:=[.agg (Hb.cs s),E2 boxes,E0 after]) O (Gfb s boxes after r5 (Gz hc hr5)) Hbb ⟨O,O,O,O,O,O,G⟩) ?_
 refine Ga (u:=BL (!r5)) [(19,BL r5)] O O O .scf ⟨.all id,G⟩ (fun hc=>Qv (b:=r5) O O) ?_
 refine JLh (BL ((!r4)||(!r5))) (Rn O O O O) O (G8 (hK3 _ _ (Gn O (fun hb=>?_) (fun hb=>?_))))
 ·
  replace h:=Gz hb h
  refine G7 fun K6 hK6=>G2 (JLh (E1 ([]:List Int)) (R4 1 O O) O (JLh (G0 2) (G9 O O) O (G8 (hK6 _ _ (Gu (⟨[E1 ([]:List Int),G0 2],[],G,O,⟨⟨_,O,.conv (.same O)⟩,⟨_,O,.conv (.same O)⟩,G⟩,O,congrArg (fun r:(List Int)×Int=>(.tup [E1 r.1,G0 r.2]:AV)) (Option.some.inj h)⟩))))))
 ·
  replace h:=Hv hb h
  refine Gp (hK2 _ _ (G7 fun K7 hK7=>G2 (JLh (.agg (Hb.cs s)) (Gj J8 O O O) O (JLh (E0 before) (G5 O O) O (JLh (E0 after) (G5 O O) O ?_)))))
  obtain⟨r8,hr8,h⟩:=Gf h
  refine JLh (E1 r8) (Gq (args:=[.agg (Hb.cs s),E0 before,E0 after]) O (J48 F s before after r8 hr8) J60 ⟨O,O,O,O,O,O,G⟩) O (JLh (E1 r8) (G9 O O) O (JLh (G0 0) (G9 O O) O (G8 (hK7 _ _ (Gu (⟨[E1 r8,G0 0],[],G,O,⟨⟨_,O,.conv (.same O)⟩,⟨_,O,.conv (.same O)⟩,G⟩,O,congrArg (fun r:(List Int)×Int=>(.tup [E1 r.1,G0 r.2]:AV)) (Option.some.inj h)⟩))))))

def H5e (boxes:List Gv) (calls:Int):Option Bool:=
 bif (((decide (calls < 1))||(decide (20 < calls)))||(decide (2000 < (boxes.length:Int)))) then
 (some false)
 else
 (each (fun y28 i28 (s28:Int) nx28=>
   bif ((((((decide (y28.ID≤s28))||(decide (999999 < y28.ID)))||((decide (y28.Size≠40))&&((decide (y28.Size≠20))||y28.High)))||(decide (y28.Load < 0)))||(decide (y28.Discharge≤y28.Load)))||(decide (calls≤y28.Discharge))) then
   (some false)
   else
   (nx28 y28.ID))
  (fun(s28:Int)=>
   some true) boxes 0 0)
theorem J8f (boxes:List Gv) (calls:Int) (r:Bool) (h:H5e boxes calls=some r):Pure Tryz.prog 17 [E2 boxes,G0 calls] (·=BL r):=by
 unfold H5e at h
 refine H1 [.tmp 4] Tryz.func17 O O (G7 fun K1 hK1=>G2 (JLh (BL false) (G9 O O) O (G8 (hK1 _ _ (G7 (fun K2 hK2=>G7 fun K3 hK3=>G2 (JLh (G0 calls) (G5 O O) O (JLh (BL (decide (calls < 1))) (J2 O O O) O (JLh (BL (decide (calls < 1))) (G5 O O) O (Ga (u:=G0 calls) [] O O O .scf G (fun hc=>G5 O O) ?_))))))))))
 refine Ga (u:=BL (decide (20 < calls))) [(11,G0 calls)] O O O .scf ⟨.all id,G⟩ (fun hc=>G31 O O O) ?_
 refine JLh (BL ((decide (calls < 1))||(decide (20 < calls)))) (Rn O O O O) O (JLh (BL ((decide (calls < 1))||(decide (20 < calls)))) (G5 O O) O (Ga (u:=E2 boxes) [] O O O .scf G (fun hc=>G5 O O) ?_))
 refine Ga (u:=En boxes.length) [(15,E2 boxes)] O O O .scf ⟨.all id,G⟩ (fun hc=>Qt (f:=Gv.av) (xs:=boxes) J5 O O) ?_
 refine Ga (u:=BL (decide (2000 < (boxes.length:Int)))) [(16,En boxes.length)] O O O .scf ⟨.all id,G⟩ (fun hc=>G31 O O O) ?_
 refine JLh (BL (((decide (calls < 1))||(decide (20 < calls)))||(decide (2000 < (boxes.length:Int))))) (Rn O O O O) O (G8 (hK3 _ _ (Gn O (fun hb=>?_) (fun hb=>?_))))
 ·
  replace h:=Gz hb h
  refine G7 fun K4 hK4=>G2 (JLh (BL false) (G9 O O) O (G8 (hK4 _ _ (Gu (⟨[BL false],[],G,O,⟨⟨_,O,.conv (.same O)⟩,G⟩,O,congrArg (fun r:Bool=>(BL r:AV)) (Option.some.inj h)⟩)))))
 ·
  replace h:=Hv hb h
  refine Gp (hK2 _ _ (G7 fun K5 hK5=>G2 (JLh (G0 0) (G9 O O) O (G8 (hK5 _ _ (G7 (fun K6 hK6=>G7 fun K7 hK7=>G2 (JLh (E2 boxes) (G5 O O) O (H3 (f:=Gv.av) (xs:=boxes) J5 O O (fun hm20=>?_) O O O)))))))))
  refine JLh (G0 0) (G5 O O) O (G8 (hK7 _ _ (Gk ?_)))
  obtain⟨b28,kx28,hb28,hkx28,h⟩:=Hw h
  refine Hc (fun i28 (s28:Int)=>each b28 kx28 (List.drop i28 boxes) i28 s28=some r) (fun i28 s28=>[(1,G0 calls),(5,G0 s28),(19,E2 boxes),(20,En boxes.length),(21,En i28)]) (fun i28 s28=>[]) (fun i28=>boxes.length - i28) 0 0 h ⟨(by repeat' constructor),G,rfl⟩ ?_
  clear h
  intro i28 s28 hi28 K28 e28
  refine G7 fun K29 hK29=>G2 (JLh (BL (decide ((i28:Int) < (boxes.length:Int)))) (J2 O O O) O (G8 (hK29 _ _ (G7 (fun K30 hK30=>Gn O (fun hb=>?_) (fun hb=>?_))))))
  ·
   have hk28:=Jc hb
   obtain⟨y28,nx28,hy28,hn28,h⟩:=Hn hi28 hk28
   replace h:=Yb hb28 h
   refine Gp (hK30 _ _ (G7 (fun K31 hK31=>Gk (G7 fun K32 hK32=>G2 (JLh (Ei y28) (Gt (f:=Gv.av) (xs:=boxes) (y:=y28) O O O J5 hy28 O) O (JLh (.agg (Gv.cs y28)) (Gj Z5 O O O) O (JLh (.ptr 1013 0) (Jb 1013 9 G1f O O) O (J4 (u:=.junk) (Ht (u:=.agg (Gv.cs y28)) (ds:=(Gv.cs y28)) Zt O O O O O O O O) (G8 (hK32 _ _ (Gx [(1,G0 calls),(5,G0 s28),(7,Ei y28),(19,E2 boxes),(20,En boxes.length),(21,En i28)] [] 1013 rfl rfl rfl G rfl (by repeat' (first | exact .ptr | constructor)) (G7 (fun K33 hK33=>?_)))))))))))))
   refine G7 fun K34 hK34=>G2 (JLh (Ei y28) (Gb G14 O O O) O (JLh (G0 y28.ID) (Gh Gd O O O) O (JLh (G0 s28) (G5 O O) O (JLh (BL (decide (y28.ID≤s28))) (H98 O O O) O (JLh (BL (decide (y28.ID≤s28))) (G5 O O) O (Ga (u:=Ei y28) [] O O O .scf G (fun hc=>Gb G14 O O O) ?_))))))
   refine Ga (u:=G0 y28.ID) [(30,Ei y28)] O O O .scf ⟨.all id,G⟩ (fun hc=>Gh Gd O O O) ?_
   refine Ga (u:=BL (decide (999999 < y28.ID))) [(31,G0 y28.ID)] O O O .scf ⟨.all id,G⟩ (fun hc=>G31 O O O) ?_
   refine JLh (BL ((decide (y28.ID≤s28))||(decide (999999 < y28.ID)))) (Rn O O O O) O (JLh (BL ((decide (y28.ID≤s28))||(decide (999999 < y28.ID)))) (G5 O O) O (Ga (u:=.dptr ((Gv.cs y28).drop 2)) [] O O O .scf G (fun hc=>Gb G8f O O O) ?_))
   refine Ga (u:=U8 y28.Size) [(35,.dptr ((Gv.cs y28).drop 2))] O O O .scf ⟨.all id,G⟩ (fun hc=>Gh Jn O O O) ?_
   refine Ga (u:=BL (decide (y28.Size≠40))) [(36,U8 y28.Size)] O O O .scf ⟨.all id,G⟩ (fun hc=>G5c O O O) ?_
   refine Ga (u:=BL (decide (y28.Size≠40))) [(37,BL (decide (y28.Size≠40)))] O O O .scf ⟨.all id,G⟩ (fun hc=>G5 O O) ?_
   refine Ga (u:=.dptr ((Gv.cs y28).drop 2)) [] O O O .optt G (fun hc=>Gb G8f O O O) ?_
   refine Ga (u:=U8 y28.Size) [(39,.dptr ((Gv.cs y28).drop 2))] O O O .optt ⟨.all id,G⟩ (fun hc=>Gh Jn O O O) ?_
   refine Ga (u:=BL (decide (y28.Size≠20))) [(40,U8 y28.Size)] O O O .optt ⟨.all id,G⟩ (fun hc=>G5c O O O) ?_
   refine Ga (u:=BL (decide (y28.Size≠20))) [(41,BL (decide (y28.Size≠20)))] O O O .optt ⟨.all id,G⟩ (fun hc=>G5 O O) ?_
   refine Ga (u:=.dptr ((Gv.cs y28).drop 3)) [] O O O .optf G (fun hc=>Gb Ge3 O O O) ?_
   refine Ga (u:=BL y28.High) [(43,.dptr ((Gv.cs y28).drop 3))] O O O .optf ⟨.all id,G⟩ (fun hc=>Gh Rq O O O) ?_
   refine Ga (u:=BL ((decide (y28.Size≠20))||y28.High)) [(42,BL (decide (y28.Size≠20))),(44,_)] O O O .optt ⟨.all id,.part,G⟩ (fun hc=>Rn O O O O) ?_
   refine Ga (u:=BL ((decide (y28.Size≠40))&&((decide (y28.Size≠20))||y28.High))) [(38,BL (decide (y28.Size≠40))),(45,_)] O O O .scf ⟨.all id,.part,G⟩ (fun hc=>Hx O O O O) ?_
   refine JLh (BL (((decide (y28.ID≤s28))||(decide (999999 < y28.ID)))||((decide (y28.Size≠40))&&((decide (y28.Size≠20))||y28.High)))) (Rn O O O O) O (JLh (BL (((decide (y28.ID≤s28))||(decide (999999 < y28.ID)))||((decide (y28.Size≠40))&&((decide (y28.Size≠20))||y28.High)))) (G5 O O) O (Ga (u:=.dptr ((Gv.cs y28).drop 5)) [] O O O .scf G (fun hc=>Gb Ge2 O O O) ?_))
   refine Ga (u:=G0 y28.Load) [(49,.dptr ((Gv.cs y28).drop 5))] O O O .scf ⟨.all id,G⟩ (fun hc=>Gh Gd O O O) ?_
   refine Ga (u:=BL (decide (y28.Load < 0))) [(50,G0 y28.Load)] O O O .scf ⟨.all id,G⟩ (fun hc=>J2 O O O) ?_
   refine JLh (BL ((((decide (y28.ID≤s28))||(decide (999999 < y28.ID)))||((decide (y28.Size≠40))&&((decide (y28.Size≠20))||y28.High)))||(decide (y28.Load < 0)))) (Rn O O O O) O (JLh (BL ((((decide (y28.ID≤s28))||(decide (999999 < y28.ID)))||((decide (y28.Size≠40))&&((decide (y28.Size≠20))||y28.High)))||(decide (y28.Load < 0)))) (G5 O O) O (Ga (u:=.dptr ((Gv.cs y28).drop 5)) [] O O O .scf G (fun hc=>Gb Ge2 O O O) ?_))
   refine Ga (u:=G0 y28.Load) [(54,.dptr ((Gv.cs y28).drop 5))] O O O .scf ⟨.all id,G⟩ (fun hc=>Gh Gd O O O) ?_
   refine Ga (u:=.dptr ((Gv.cs y28).drop 6)) [] O O O .scf G (fun hc=>Gb Ge1 O O O) ?_
   refine Ga (u:=G0 y28.Discharge) [(56,.dptr ((Gv.cs y28).drop 6))] O O O .scf ⟨.all id,G⟩ (fun hc=>Gh Gd O O O) ?_
   refine Ga (u:=BL (decide (y28.Discharge≤y28.Load))) [(55,G0 y28.Load),(57,G0 y28.Discharge)] O O O .scf ⟨.all id,.all id,G⟩ (fun hc=>G29 O O O) ?_
   refine JLh (BL (((((decide (y28.ID≤s28))||(decide (999999 < y28.ID)))||((decide (y28.Size≠40))&&((decide (y28.Size≠20))||y28.High)))||(decide (y28.Load < 0)))||(decide (y28.Discharge≤y28.Load)))) (Rn O O O O) O (JLh (BL (((((decide (y28.ID≤s28))||(decide (999999 < y28.ID)))||((decide (y28.Size≠40))&&((decide (y28.Size≠20))||y28.High)))||(decide (y28.Load < 0)))||(decide (y28.Discharge≤y28.Load)))) (G5 O O) O (Ga (u:=.dptr ((Gv.cs y28).drop 6)) [] O O O .scf G (fun hc=>Gb Ge1 O O O) ?_))
   refine Ga (u:=G0 y28.Discharge) [(61,.dptr ((Gv.cs y28).drop 6))] O O O .scf ⟨.all id,G⟩ (fun hc=>Gh Gd O O O) ?_
   refine Ga (u:=G0 calls) [] O O O .scf G (fun hc=>G5 O O) ?_
   refine Ga (u:=BL (decide (calls≤y28.Discharge))) [(62,G0 y28.Discharge),(63,G0 calls)] O O O .scf ⟨.all id,.all id,G⟩ (fun hc=>G29 O O O) ?_
   refine JLh (BL ((((((decide (y28.ID≤s28))||(decide (999999 < y28.ID)))||((decide (y28.Size≠40))&&((decide (y28.Size≠20))||y28.High)))||(decide (y28.Load < 0)))||(decide (y28.Discharge≤y28.Load)))||(decide (calls≤y28.Discharge)))) (Rn O O O O) O (G8 (hK34 _ _ (Gn O (fun hb=>?_) (fun hb=>?_))))
   ·
    replace h:=Gz hb h
    refine G7 fun K35 hK35=>G2 (JLh (BL false) (G9 O O) O (G8 (hK35 _ _ (Gu (⟨[BL false],[],G,O,⟨⟨_,O,.conv (.same O)⟩,G⟩,O,congrArg (fun r:Bool=>(BL r:AV)) (Option.some.inj h)⟩)))))
   ·
    replace h:=Hv hb h
    refine Gp (hK33 _ _ (G2 (JLh (Ei y28) (Gb G14 O O O) O (JLh (G0 y28.ID) (Gh Gd O O O) O (JLh (G0 y28.ID) (G9 O O) O (G8 (hK31 _ _ (G2 (JLh (G0 ((i28+1:Nat):Int)) (Hy (He hk28 hm20) O O O) O (JLh (G0 ((i28+1:Nat):Int)) (G5 O O) O (G8 (e28 _ _ (i28+1) y28.ID (app1 hn28 h) (by omega) ⟨(by repeat' constructor),G,rfl⟩))))))))))))
  ·
   have h:=app1 hkx28 (Ho hi28 (H9 hb))
   refine Hk (hK6 _ _ (G7 fun K36 hK36=>G2 (JLh (BL true) (G9 O O) O (G8 (hK36 _ _ (Gu (⟨[BL true],[],G,O,⟨⟨_,O,.conv (.same O)⟩,G⟩,O,congrArg (fun r:Bool=>(BL r:AV)) (Option.some.inj h)⟩)))))))

def Gb2 (boxes:List Gv) (call:Int):Option (List Int):=
 each (fun y19 i19 (s19:(List Int)) nx19=>
  jp (fun kj22=>
   bif ((decide (y19.Load≤call))&&(decide (call < y19.Discharge))) then
   (need (decide ((s19.length+[y19.ID].length)*8≤140737488355328∧s19.length+[y19.ID].length≤maxLen)) <|
    kj22 (s19++[y19.ID]))
   else
   (kj22 s19)) fun(j22:(List Int))=>
  nx19 j22)
 (fun(s19:(List Int))=>
  some s19) boxes 0 []
theorem H65 (boxes:List Gv) (call:Int) (r:(List Int)) (h:Gb2 boxes call=some r):Pure Tryz.prog 20 [E2 boxes,G0 call] (·=E1 r):=by
 unfold Gb2 at h
 refine H1 [.tmp 4] Tryz.func20 O O (G7 fun K1 hK1=>G2 (JLh (E1 ([]:List Int)) (R4 1 O O) O (G8 (hK1 _ _ (G7 fun K2 hK2=>G2 (JLh (OW 1014 1 G0 ([]:List Int)) (H3f 1014 3 1 O O O) O (G8 (hK2 _ _ (G7 (fun K3 hK3=>G7 fun K4 hK4=>G2 (JLh (E2 boxes) (G5 O O) O (H3 (f:=Gv.av) (xs:=boxes) J5 O O (fun hm9=>?_) O O O))))))))))))
 refine JLh (G0 0) (G5 O O) O (G8 (hK4 _ _ (Gk ?_)))
 obtain⟨b19,kx19,hb19,hkx19,h⟩:=Hw h
 refine Hc (fun i19 (s19:(List Int))=>each b19 kx19 (List.drop i19 boxes) i19 s19=some r) (fun i19 s19=>[(1,G0 call),(5,OW 1014 1 G0 s19),(8,E2 boxes),(9,En boxes.length),(10,En i19)]) (fun i19 s19=>[(1014,.spare 3 1 s19.length s19.length)]) (fun i19=>boxes.length - i19) 0 [] h ⟨(by repeat' constructor),⟨⟨_,rfl,.same⟩,G⟩,rfl⟩ ?_
 clear h
 intro i19 s19 hi19 K19 e19
 refine G7 fun K20 hK20=>G2 (JLh (BL (decide ((i19:Int) < (boxes.length:Int)))) (J2 O O O) O (G8 (hK20 _ _ (G7 (fun K21 hK21=>Gn O (fun hb=>?_) (fun hb=>?_))))))
 ·
  have hk19:=Jc hb
  obtain⟨y19,nx19,hy19,hn19,h⟩:=Hn hi19 hk19
  replace h:=Yb hb19 h
  refine Gp (hK21 _ _ ?_)
  obtain⟨kj22,hkj22,h⟩:=G69 h
  refine G33 (fun j22:(List Int)=>kj22 j22=some r) (fun j22=>[(1,G0 call),(5,OW 1014 1 G0 j22),(8,E2 boxes),(9,En boxes.length),(10,En i19)]) (fun j22=>[(1014,.spare 3 1 j22.length j22.length)]) (fun Kj22 ej22=>?_) ?_
  ·
   refine Gk (G7 fun K23 hK23=>G2 (JLh (Ei y19) (Gt (f:=Gv.av) (xs:=boxes) (y:=y19) O O O J5 hy19 O) O (JLh (.agg (Gv.cs y19)) (Gj Z5 O O O) O (JLh (.ptr 1015 0) (Jb 1015 9 G1f O O) O (J4 (u:=.junk) (Ht (u:=.agg (Gv.cs y19)) (ds:=(Gv.cs y19)) Zt O O O O O O O O) (G8 (hK23 _ _ (Gx [(1,G0 call),(5,OW 1014 1 G0 s19),(7,Ei y19),(8,E2 boxes),(9,En boxes.length),(10,En i19)] [(1014,.spare 3 1 s19.length s19.length)] 1015 rfl rfl rfl ⟨⟨_,rfl,.same⟩,G⟩ rfl (by repeat' (first | exact .ptr | constructor)) ?_))))))))
   refine G7 fun K24 hK24=>G2 (JLh (.dptr ((Gv.cs y19).drop 5)) (Gb Ge2 O O O) O (JLh (G0 y19.Load) (Gh Gd O O O) O (JLh (G0 call) (G5 O O) O (JLh (BL (decide (y19.Load≤call))) (H98 O O O) O (JLh (BL (decide (y19.Load≤call))) (G5 O O) O (Ga (u:=G0 call) [] O O O .sct G (fun hc=>G5 O O) ?_))))))
   refine Ga (u:=.dptr ((Gv.cs y19).drop 6)) [] O O O .sct G (fun hc=>Gb Ge1 O O O) ?_
   refine Ga (u:=G0 y19.Discharge) [(20,.dptr ((Gv.cs y19).drop 6))] O O O .sct ⟨.all id,G⟩ (fun hc=>Gh Gd O O O) ?_
   refine Ga (u:=BL (decide (call < y19.Discharge))) [(19,G0 call),(21,G0 y19.Discharge)] O O O .sct ⟨.all id,.all id,G⟩ (fun hc=>J2 O O O) ?_
   refine JLh (BL ((decide (y19.Load≤call))&&(decide (call < y19.Discharge)))) (Hx O O O O) O (G8 (hK24 _ _ (Gn O (fun hb=>?_) (fun hb=>?_))))
   ·
    replace h:=Gz hb h
    refine G2 (JLh (OW 1014 1 G0 s19) (G5 O O) O (JLh (Ei y19) (Gb G14 O O O) O (JLh (G0 y19.ID) (Gh Gd O O O) O (JLh (E1 [y19.ID]) (Hm (xs:=[G0 y19.ID]) O ⟨O,O,G⟩ H0 G13 O O O O) O ?_))))
    obtain⟨ha25,h⟩:=J6 h
    refine JLh (OW 1014 1 G0 (s19++[y19.ID])) (Yd (f:=G0) (xs:=s19) (ys:=[y19.ID]) O O O O H0 G81 ha25 (fun _=>O) (.inl O) O) O (JLh (OW 1014 1 G0 (s19++[y19.ID])) (G9 O O) O (G8 (ej22 _ _ (s19++[y19.ID]) h ⟨(by repeat' constructor),⟨⟨_,rfl,.same⟩,G⟩,rfl⟩)))
   ·
    replace h:=Hv hb h
    refine Gp (ej22 _ _ s19 h ⟨(by repeat' constructor),⟨⟨_,rfl,.same⟩,G⟩,rfl⟩)
  ·intro j22 h
   replace h:=app1 hkj22 h
   refine G2 (JLh (G0 ((i19+1:Nat):Int)) (Hy (He hk19 hm9) O O O) O (JLh (G0 ((i19+1:Nat):Int)) (G5 O O) O (G8 (e19 _ _ (i19+1) j22 (app1 hn19 h) (by omega) ⟨(by repeat' constructor),⟨⟨_,rfl,.same⟩,G⟩,rfl⟩))))
 ·
  have h:=app1 hkx19 (Ho hi19 (H9 hb))
  refine Hk (hK3 _ _ (G7 fun K26 hK26=>G2 (JLh (OW 1014 1 G0 s19) (G5 O O) O (JLh (OW 1014 1 G0 s19) (G9 O O) O (G8 (hK26 _ _ (Gu (⟨[E1 s19],[],G,O,⟨⟨_,O,.conv (.list O)⟩,G⟩,O,congrArg (fun r:(List Int)=>(E1 r:AV)) (Option.some.inj h)⟩))))))))

def G40 (s1_:List G6) (s2_:List Int) (eq:G6→Int→Option Bool):Option Bool:=
 bif decide ((s1_.length:Int)≠(s2_.length:Int)) then
 (some false)
 else
 (each (fun y29 i29 (s29:Unit) nx29=>
   Q3 s2_ (i29:Int) fun y35=>
   bnd (eq y29 y35) fun r38=>
   bif (!r38) then
   (some false)
   else
   (nx29 ()))
  (fun(s29:Unit)=>
   some true) s1_ 0 ())
theorem H2b (s1_:List G6) (s2_:List Int) (eq:G6→Int→Option Bool) (eq_f:FuncId) (eq_c:List AV) (eq_B:Hf Tryz.prog eq_f=true) (eq_d:Zm (fun _=>false) eq_c=true) (eq_w:∀ a0 a1 q,eq a0 a1=some q→Pure Tryz.prog eq_f ([.agg (G6.cs a0),G0 a1]++eq_c) (·=BL q)) (r:Bool) (h:G40 s1_ s2_ eq=some r):Pure Tryz.prog 73 [E0 s1_,E1 s2_,.fn eq_f eq_c] (·=BL r):=by
 unfold G40 at h
 refine H1 [.tmp 6] Tryz.func73 O O (G7 fun K1 hK1=>G2 (JLh (BL false) (G9 O O) O (G8 (hK1 _ _ (G7 (fun K2 hK2=>G7 fun K3 hK3=>G2 (JLh (E0 s1_) (G5 O O) O (H3 (f:=G6.av) (xs:=s1_) H2 O O (fun hm11=>?_) O O O))))))))
 refine JLh (E1 s2_) (G5 O O) O (H3 (f:=G0) (xs:=s2_) H0 O O (fun hm13=>?_) O O O)
 refine JLh (BL (decide ((s1_.length:Int)≠(s2_.length:Int)))) (G5c O O O) O (G8 (hK3 _ _ (Gn O (fun hb=>?_) (fun hb=>?_))))
 ·
  replace h:=Gz hb h
  refine G7 fun K4 hK4=>G2 (JLh (BL false) (G9 O O) O (G8 (hK4 _ _ (Gu (⟨[BL false],[],G,O,⟨⟨_,O,.conv (.same O)⟩,G⟩,O,congrArg (fun r:Bool=>(BL r:AV)) (Option.some.inj h)⟩)))))
 ·
  replace h:=Hv hb h
  refine Gp (hK2 _ _ (G7 (fun K5 hK5=>G7 fun K6 hK6=>G2 (JLh (E0 s1_) (G5 O O) O (H3 (f:=G6.av) (xs:=s1_) H2 O O (fun hm16=>?_) O O O)))))
  refine JLh (G0 0) (G5 O O) O (G8 (hK6 _ _ (Gk ?_)))
  obtain⟨b29,kx29,hb29,hkx29,h⟩:=Hw h
  refine Hc (fun i29 (s29:Unit)=>each b29 kx29 (List.drop i29 s1_) i29 s29=some r) (fun i29 s29=>[(1,E1 s2_),(2,.fn eq_f eq_c),(15,E0 s1_),(16,En s1_.length),(17,En i29)]) (fun i29 s29=>[]) (fun i29=>s1_.length - i29) 0 () h ⟨⟨.same O,.same (Qb _ _ eq_d),.same O,.same O,.same O,G⟩,G,O⟩ ?_
  clear h
  intro i29 s29 hi29 K29 e29
  refine G7 fun K30 hK30=>G2 (JLh (BL (decide ((i29:Int) < (s1_.length:Int)))) (J2 O O O) O (G8 (hK30 _ _ (G7 (fun K31 hK31=>Gn O (fun hb=>?_) (fun hb=>?_))))))
  ·
   have hk29:=Jc hb
   obtain⟨y29,nx29,hy29,hn29,h⟩:=Hn hi29 hk29
   replace h:=Yb hb29 h
   refine Gp (hK31 _ _ (G7 (fun K32 hK32=>Gk (G7 fun K33 hK33=>G2 (JLh (En i29) (G5 O O) O (JLh (Ef y29) (Gt (f:=G6.av) (xs:=s1_) (y:=y29) O O O H2 hy29 O) O (JLh (.agg (G6.cs y29)) (Gj Yo O O O) O (JLh (.ptr 1051 0) (Jb 1051 4 R9 O O) O (JLh (En i29) (G9 O O) O (J4 (u:=.junk) (Ht (u:=.agg (G6.cs y29)) (ds:=[G0 y29.Gv,G0 y29.Slot.G4,G0 y29.Slot.Tier,U8 y29.Slot.Half]) G0c O O O O O O O O) (G8 (hK33 _ _ ?_))))))))))))
   refine Gx [(1,E1 s2_),(2,.fn eq_f eq_c),(7,En i29),(8,Ef y29),(15,E0 s1_),(16,En s1_.length),(17,En i29)] [] 1051 rfl rfl rfl G rfl (by exact⟨.conv (.same rfl),.conv (.same (Qb _ _ eq_d)),.conv (.same rfl),.ptr,.conv (.same rfl),.conv (.same rfl),.conv (.same rfl),G⟩) (G7 fun K34 hK34=>G2 (JLh (E1 s2_) (G5 O O) O (JLh (En i29) (G5 O O) O ?_)))
   obtain⟨m36,y35,hm36,hy35,h⟩:=Y3 h
   refine JLh (.dptr [G0 y35]) (Gt (f:=G0) (xs:=s2_) (y:=y35) O O O H0 hy35 hm36) O (JLh (G0 y35) (Gh Gd O O O) O (JLh (G0 y35) (G9 O O) O (G8 (hK34 _ _ (G7 fun K37 hK37=>G2 (JLh (.fn eq_f eq_c) (G5 O O) O (JLh (.agg (G6.cs y29)) (Gj Yo O O O) O (JLh (G0 y35) (G5 O O) O ?_))))))))
   obtain⟨r38,hr38,h⟩:=Gf h
   refine JLh (BL r38) (G47 (args:=[.agg (G6.cs y29),G0 y35]) (caps:=eq_c) O O (eq_w y29 y35 _ hr38) eq_B ⟨O,O,O,O,G⟩ eq_d) O (JLh (BL (!r38)) (Qv (b:=r38) O O) O (G8 (hK37 _ _ (Gn O (fun hb=>?_) (fun hb=>?_)))))
   ·
    replace h:=Gz hb h
    refine G7 fun K39 hK39=>G2 (JLh (BL false) (G9 O O) O (G8 (hK39 _ _ (Gu (⟨[BL false],[],G,O,⟨⟨_,O,.conv (.same O)⟩,G⟩,O,congrArg (fun r:Bool=>(BL r:AV)) (Option.some.inj h)⟩)))))
   ·
    replace h:=Hv hb h
    refine Gp (hK32 _ _ (G2 (JLh (G0 ((i29+1:Nat):Int)) (Hy (He hk29 hm16) O O O) O (JLh (G0 ((i29+1:Nat):Int)) (G5 O O) O (G8 (e29 _ _ (i29+1) () (app1 hn29 h) (by omega) ⟨⟨.same rfl,.same (Qb _ _ eq_d),.same rfl,.same rfl,.same rfl,G⟩,G,rfl⟩))))))
  ·
   have h:=app1 hkx29 (Ho hi29 (H9 hb))
   refine Hk (hK5 _ _ (G7 fun K40 hK40=>G2 (JLh (BL true) (G9 O O) O (G8 (hK40 _ _ (Gu (⟨[BL true],[],G,O,⟨⟨_,O,.conv (.same O)⟩,G⟩,O,congrArg (fun r:Bool=>(BL r:AV)) (Option.some.inj h)⟩)))))))

def G9e (x:G6) (id_:Int):Option Bool:=
 some (decide (x.Gv=id_))
theorem J0d (x:G6) (id_:Int) (r:Bool) (h:G9e x id_=some r):Pure Tryz.prog 74 [.agg (G6.cs x),G0 id_] (·=BL r):=by
 unfold G9e at h
 refine H1 [.tmp 4] Tryz.func74 O O (G7 fun K1 hK1=>G2 (JLh (.ptr 1052 0) (Jy (u:=.agg (G6.cs x)) (cs:=[G0 x.Gv,G0 x.Slot.G4,G0 x.Slot.Tier,U8 x.Slot.Half]) 1052 O O O O O) O (JLh (BL false) (G9 O O) O (G8 (hK1 _ _ (Gx [(1,G0 id_),(2,Ef x)] [] 1052 rfl rfl rfl G rfl (by exact⟨.conv (.same rfl),.ptr,G⟩) (G7 fun K2 hK2=>G2 (JLh (Ef x) (Gb Jq O O O) O (JLh (G0 x.Gv) (Gh Gd O O O) O (JLh (G0 id_) (G5 O O) O (JLh (BL (decide (x.Gv=id_))) (Jx O O O) O (JLh (BL (decide (x.Gv=id_))) (G9 O O) O (G8 (hK2 _ _ (Gu (⟨[BL (decide (x.Gv=id_))],[],G,O,⟨⟨_,O,.conv (.same O)⟩,G⟩,O,congrArg (fun r:Bool=>(BL r:AV)) (Option.some.inj h)⟩))))))))))))))))

def Gdb (s:Hb) (boxes:List Gv) (calls:Int) (p:Gf1):Option (Int×Int):=
 bnd (G3e s) fun r4=>
 bif (!r4) then
 (some (0,2))
 else
 (bnd (H5e boxes calls) fun r7=>
  bif (!r7) then
  (some (0,230))
  else
  (bif decide ((p.States.length:Int)≠calls) then
   (some (0,231))
   else
   (each (fun y45 i45 (s45:Unit) nx45=>
     bnd (G0b s boxes y45) fun r52=>
     bif (!r52) then
     (some ((i45:Int),232))
     else
     (bnd (Gb2 boxes (i45:Int)) fun r55=>
      bnd (G40 y45 r55 (fun z0 z1=>G9e z0 z1)) fun r56=>
      bif (!r56) then
      (some ((i45:Int),233))
      else
      (nx45 ())))
    (fun(s45:Unit)=>
     some (0,0)) p.States 0 ())))
theorem H90 (s:Hb) (boxes:List Gv) (calls:Int) (p:Gf1) (r:Int×Int) (h:Gdb s boxes calls p=some r):Pure Tryz.prog 15 [.agg (Hb.cs s),E2 boxes,G0 calls,.agg [LS 1 (E0) p.States,LS 1 (E1) p.Water]] (·=.tup [G0 r.1,G0 r.2]):=by
 unfold Gdb at h
 refine H1 [.tmp 8,.tmp 9] Tryz.func15 O O ?_
 refine G7 fun K1 hK1=>G2 (JLh (.ptr 1011 0) (Jy (u:=.agg (Hb.cs s)) (cs:=(Hb.cs s)) 1011 O O O O O) O (JLh (.ptr 1012 0) (Jy (u:=.agg [LS 1 (E0) p.States,LS 1 (E1) p.Water]) (cs:=[LS 1 (E0) p.States,LS 1 (E1) p.Water]) 1012 O O O O O) O (JLh (G0 0) (G9 O O) O (JLh (G0 0) (G9 O O) O (G8 (hK1 _ _ ?_))))))
 refine Gx [(1,E2 boxes),(2,G0 calls),(4,Ee s),(7,.ptr 1012 0)] [(1012,.box 37 [LS 1 (E0) p.States,LS 1 (E1) p.Water])] 1011 rfl rfl rfl ⟨⟨_,rfl,.boxEq rfl rfl⟩,G⟩ rfl (by repeat' (first | exact .ptr | constructor)) ?_
 refine Gx [(1,E2 boxes),(2,G0 calls),(4,Ee s),(7,.dptr [LS 1 (E0) p.States,LS 1 (E1) p.Water])] [] 1012 rfl rfl rfl G rfl (by repeat' (first | exact .ptr | constructor)) (G7 (fun K2 hK2=>Gk (G7 fun K3 hK3=>G2 (JLh (.agg (Hb.cs s)) (Gj J8 O O O) O ?_))))
 obtain⟨r4,hr4,h⟩:=Gf h
 refine JLh (BL r4) (Gq (args:=[.agg (Hb.cs s)]) O (H8e.down s r4 hr4) J62 ⟨O,O,G⟩) O (JLh (BL (!r4)) (Qv (b:=r4) O O) O (JLh (BL (!r4)) (G9 O O) O (G8 (hK3 _ _ (Gn O (fun hb=>?_) (fun hb=>?_))))))
 ·
  replace h:=Gz hb h
  refine G7 fun K5 hK5=>G2 (JLh (G0 0) (G9 O O) O (JLh (G0 2) (G9 O O) O (G8 (hK5 _ _ (Gu (⟨[G0 0,G0 2],[],G,O,⟨⟨_,O,.conv (.same O)⟩,⟨_,O,.conv (.same O)⟩,G⟩,O,congrArg (fun r:Int×Int=>(.tup [G0 r.1,G0 r.2]:AV)) (Option.some.inj h)⟩))))))
 ·
  replace h:=Hv hb h
  refine G7 fun K6 hK6=>G2 (JLh (E2 boxes) (G5 O O) O (JLh (G0 calls) (G5 O O) O ?_))
  obtain⟨r7,hr7,h⟩:=Gf h
  refine JLh (BL r7) (Gq (args:=[E2 boxes,G0 calls]) O (J8f boxes calls r7 hr7) Q0e ⟨O,O,O,O,G⟩) O (JLh (BL (!r7)) (Qv (b:=r7) O O) O (JLh (BL (!r7)) (G9 O O) O (G8 (hK6 _ _ (Gn O (fun hb=>?_) (fun hb=>?_))))))
  ·
   replace h:=Gz hb h
   refine G7 fun K8 hK8=>G2 (JLh (G0 0) (G9 O O) O (JLh (G0 230) (G9 O O) O (G8 (hK8 _ _ (Gu (⟨[G0 0,G0 230],[],G,O,⟨⟨_,O,.conv (.same O)⟩,⟨_,O,.conv (.same O)⟩,G⟩,O,congrArg (fun r:Int×Int=>(.tup [G0 r.1,G0 r.2]:AV)) (Option.some.inj h)⟩))))))
  ·
   replace h:=Hv hb h
   refine G7 fun K9 hK9=>G2 (JLh (.dptr [LS 1 (E0) p.States,LS 1 (E1) p.Water]) (Gb H22 O O O) O (JLh (LS 1 (E0) p.States) (Gh G3c O O O) O (H3 (f:=(E0)) (xs:=p.States) Rg O O (fun hm24=>?_) O O O)))
   refine JLh (G0 calls) (G5 O O) O (JLh (BL (decide ((p.States.length:Int)≠calls))) (G5c O O O) O (JLh (BL (decide ((p.States.length:Int)≠calls))) (G9 O O) O (G8 (hK9 _ _ (Gn O (fun hb=>?_) (fun hb=>?_))))))
   ·
    replace h:=Gz hb h
    refine G7 fun K10 hK10=>G2 (JLh (G0 0) (G9 O O) O (JLh (G0 231) (G9 O O) O (G8 (hK10 _ _ (Gu (⟨[G0 0,G0 231],[],G,O,⟨⟨_,O,.conv (.same O)⟩,⟨_,O,.conv (.same O)⟩,G⟩,O,congrArg (fun r:Int×Int=>(.tup [G0 r.1,G0 r.2]:AV)) (Option.some.inj h)⟩))))))
   ·
    replace h:=Hv hb h
    refine Gp (hK2 _ _ (G7 (fun K11 hK11=>G7 fun K12 hK12=>G2 (JLh (.dptr [LS 1 (E0) p.States,LS 1 (E1) p.Water]) (Gb H22 O O O) O (JLh (LS 1 (E0) p.States) (Gh G3c O O O) O (H3 (f:=(E0)) (xs:=p.States) Rg O O (fun hm29=>?_) O O O))))))
    refine JLh (G0 0) (G5 O O) O (G8 (hK12 _ _ (Gk ?_)))
    obtain⟨b45,kx45,hb45,hkx45,h⟩:=Hw h
    refine Hc (fun i45 (s45:Unit)=>each b45 kx45 (List.drop i45 p.States) i45 s45=some r) (fun i45 s45=>[(1,E2 boxes),(4,Ee s),(28,LS 1 (E0) p.States),(29,En p.States.length),(30,En i45)]) (fun i45 s45=>[]) (fun i45=>p.States.length - i45) 0 () h ⟨(by repeat' constructor),G,rfl⟩ ?_
    clear h
    intro i45 s45 hi45 K45 e45
    refine G7 fun K46 hK46=>G2 (JLh (BL (decide ((i45:Int) < (p.States.length:Int)))) (J2 O O O) O (G8 (hK46 _ _ (G7 (fun K47 hK47=>Gn O (fun hb=>?_) (fun hb=>?_))))))
    ·
     have hk45:=Jc hb
     obtain⟨y45,nx45,hy45,hn45,h⟩:=Hn hi45 hk45
     replace h:=Yb hb45 h
     refine Gp (hK47 _ _ (G7 (fun K48 hK48=>Gk (G7 fun K49 hK49=>G2 (JLh (En i45) (G5 O O) O (JLh (.dptr [E0 y45]) (Gt (f:=(E0)) (xs:=p.States) (y:=y45) O O O Rg hy45 O) O (JLh (E0 y45) (Gh Zp O O O) O (JLh (En i45) (G9 O O) O (JLh (E0 y45) (G9 O O) O (G8 (hK49 _ _ (G7 (fun K50 hK50=>G7 fun K51 hK51=>G2 (JLh (.agg (Hb.cs s)) (Gj J8 O O O) O (JLh (E2 boxes) (G5 O O) O (JLh (E0 y45) (G5 O O) O ?_))))))))))))))))
     obtain⟨r52,hr52,h⟩:=Gf h
     refine JLh (BL r52) (Gq (args:=[.agg (Hb.cs s),E2 boxes,E0 y45]) O (Gfb s boxes y45 r52 hr52) Hbb ⟨O,O,O,O,O,O,G⟩) O (JLh (BL (!r52)) (Qv (b:=r52) O O) O (G8 (hK51 _ _ (Gn O (fun hb=>?_) (fun hb=>?_)))))
     ·
      replace h:=Gz hb h
      refine G7 fun K53 hK53=>G2 (JLh (En i45) (G5 O O) O (JLh (En i45) (G9 O O) O (JLh (G0 232) (G9 O O) O (G8 (hK53 _ _ (Gu (⟨[En i45,G0 232],[],G,O,⟨⟨_,O,.conv (.same O)⟩,⟨_,O,.conv (.same O)⟩,G⟩,O,congrArg (fun r:Int×Int=>(.tup [G0 r.1,G0 r.2]:AV)) (Option.some.inj h)⟩)))))))
     ·
      replace h:=Hv hb h
      refine Gp (hK50 _ _ (G7 fun K54 hK54=>G2 (JLh (E0 y45) (G5 O O) O (JLh (E2 boxes) (G5 O O) O (JLh (En i45) (G5 O O) O ?_)))))
      obtain⟨r55,hr55,h⟩:=Gf h
      refine JLh (E1 r55) (Gq (args:=[E2 boxes,En i45]) O (H65 boxes (i45:Int) r55 hr55) J67 ⟨O,O,O,O,G⟩) O ?_
      obtain⟨r56,hr56,h⟩:=Gf h
      refine JLh (BL r56) (Gq (args:=[E0 y45,E1 r55,.fn 74 []]) O (H2b y45 r55 (fun z0 z1=>G9e z0 z1) 74 [] Q02 O (fun z0 z1 q hq=>J0d z0 z1 q hq) r56 hr56) Q03 ⟨O,O,O,O,O,O,G⟩) O (JLh (BL (!r56)) (Qv (b:=r56) O O) O (G8 (hK54 _ _ (Gn O (fun hb=>?_) (fun hb=>?_)))))
      ·
       replace h:=Gz hb h
       refine G7 fun K57 hK57=>G2 (JLh (En i45) (G5 O O) O (JLh (En i45) (G9 O O) O (JLh (G0 233) (G9 O O) O (G8 (hK57 _ _ (Gu (⟨[En i45,G0 233],[],G,O,⟨⟨_,O,.conv (.same O)⟩,⟨_,O,.conv (.same O)⟩,G⟩,O,congrArg (fun r:Int×Int=>(.tup [G0 r.1,G0 r.2]:AV)) (Option.some.inj h)⟩)))))))
      ·
       replace h:=Hv hb h
       refine Gp (hK48 _ _ (G2 (JLh (G0 ((i45+1:Nat):Int)) (Hy (He hk45 hm29) O O O) O (JLh (G0 ((i45+1:Nat):Int)) (G5 O O) O (G8 (e45 _ _ (i45+1) () (app1 hn45 h) (by omega) ⟨(by repeat' constructor),G,rfl⟩))))))
    ·
     have h:=app1 hkx45 (Ho hi45 (H9 hb))
     refine Hk (hK11 _ _ (G7 fun K58 hK58=>G2 (JLh (G0 0) (G9 O O) O (JLh (G0 0) (G9 O O) O (G8 (hK58 _ _ (Gu (⟨[G0 0,G0 0],[],G,O,⟨⟨_,O,.conv (.same O)⟩,⟨_,O,.conv (.same O)⟩,G⟩,O,congrArg (fun r:Int×Int=>(.tup [G0 r.1,G0 r.2]:AV)) (Option.some.inj h)⟩))))))))

def H5c (p:Gf1):Option Unit:=
 some ()
theorem J8d (p:Gf1) (r:Unit) (h:H5c p=some r):Pure Tryz.prog 78 [.agg [LS 1 (E0) p.States,LS 1 (E1) p.Water]] (·=.fn 166 [.dptr [LS 1 (E0) p.States,LS 1 (E1) p.Water]]):=by
 unfold H5c at h
 refine H1 [.tmp 2] Tryz.func78 O O (G7 fun K1 hK1=>G2 (JLh (.ptr 1057 0) (Jy (u:=.agg [LS 1 (E0) p.States,LS 1 (E1) p.Water]) (cs:=[LS 1 (E0) p.States,LS 1 (E1) p.Water]) 1057 O O O O O) O (JLh (.sc .nilFunc) (G9 O O) O (G8 (hK1 _ _ (Gx [(1,.dptr [LS 1 (E0) p.States,LS 1 (E1) p.Water])] [] 1057 rfl rfl rfl G rfl (by exact⟨.ptr,G⟩) (G7 fun K2 hK2=>G2 (JLh (.fn 166 [.dptr [LS 1 (E0) p.States,LS 1 (E1) p.Water]]) (G30 (cs:=[.dptr [LS 1 (E0) p.States,LS 1 (E1) p.Water]]) O O) O (JLh (.fn 166 [.dptr [LS 1 (E0) p.States,LS 1 (E1) p.Water]]) (G9 O O) O (G8 (hK2 _ _ (Gu ?_))))))))))))
 exact⟨[.fn 166 [.dptr [LS 1 (E0) p.States,LS 1 (E1) p.Water]]],[],G,O,⟨⟨_,O,.conv (.same O)⟩,G⟩,O,congrArg (fun _:Unit=>(.fn 166 [.dptr [LS 1 (E0) p.States,LS 1 (E1) p.Water]]:AV)) (Option.some.inj h)⟩

def G62 (id_:Int) (p1:List G6) (p2:List G6):Option Bool:=
 bnd (G28 p1 id_) fun r3=>
 bnd (G28 p2 id_) fun r5=>
 some ((!r3.2)||(!r5.2))
theorem Hcc (id_:Int) (p1:List G6) (p2:List G6) (r:Bool) (h:G62 id_ p1 p2=some r):Pure Tryz.prog 81 [G0 id_,.dptr [E0 p1],.dptr [E0 p2]] (·=BL r):=by
 unfold G62 at h
 refine H1 [.tmp 4] Tryz.func81 O O (G7 fun K1 hK1=>G2 (JLh (BL false) (G9 O O) O (G8 (hK1 _ _ (G7 fun K2 hK2=>G2 (JLh (E0 p1) (Gh Zp O O O) O (JLh (G0 id_) (G5 O O) O ?_)))))))
 obtain⟨r3,hr3,h⟩:=Gf h
 refine JLh (.tup [.agg (Slot.cs r3.1),BL r3.2]) (Gq (args:=[E0 p1,G0 id_]) O (G2e p1 id_ r3 hr3) G7e ⟨O,O,O,O,G⟩) O (JLh (.tup [.agg (Slot.cs r3.1),BL r3.2]) (G5 O O) O (JLh (.agg (Slot.cs r3.1)) (J1 O O O) O (JLh (BL r3.2) (J1 O O O) O (JLh (.ptr 1070 0) (Jb 1070 3 Zo O O) O (J4 (u:=.junk) (Ht (u:=.agg (Slot.cs r3.1)) (ds:=[G0 r3.1.G4,G0 r3.1.Tier,U8 r3.1.Half]) G0d O O O O O O O O) (JLh (BL r3.2) (G9 O O) O (G8 (hK2 _ _ (Gx [(0,G0 id_),(2,.dptr [E0 p2]),(6,BL r3.2)] [] 1070 rfl rfl rfl G rfl (by exact⟨.conv (.same rfl),.conv (.same rfl),.conv (.same rfl),G⟩) (G7 fun K4 hK4=>G2 (JLh (E0 p2) (Gh Zp O O O) O (JLh (G0 id_) (G5 O O) O ?_))))))))))))
 obtain⟨r5,hr5,h⟩:=Gf h
 refine JLh (.tup [.agg (Slot.cs r5.1),BL r5.2]) (Gq (args:=[E0 p2,G0 id_]) O (G2e p2 id_ r5 hr5) G7e ⟨O,O,O,O,G⟩) O (JLh (.tup [.agg (Slot.cs r5.1),BL r5.2]) (G5 O O) O (JLh (.agg (Slot.cs r5.1)) (J1 O O O) O (JLh (BL r5.2) (J1 O O O) O (JLh (.ptr 1071 0) (Jb 1071 3 Zo O O) O (J4 (u:=.junk) (Ht (u:=.agg (Slot.cs r5.1)) (ds:=[G0 r5.1.G4,G0 r5.1.Tier,U8 r5.1.Half]) G0d O O O O O O O O) (JLh (BL r5.2) (G9 O O) O (G8 (hK4 _ _ (Gx [(6,BL r3.2),(8,BL r5.2)] [] 1071 rfl rfl rfl G rfl (by exact⟨.conv (.same rfl),.conv (.same rfl),G⟩) (G7 fun K6 hK6=>G2 (JLh (BL r3.2) (G5 O O) O (JLh (BL (!r3.2)) (Qv (b:=r3.2) O O) O (JLh (BL (!r3.2)) (G5 O O) O ?_)))))))))))))
 refine Ga (u:=BL r5.2) [] O O O .scf G (fun hc=>G5 O O) ?_
 refine Ga (u:=BL (!r5.2)) [(24,BL r5.2)] O O O .scf ⟨.all id,G⟩ (fun hc=>Qv (b:=r5.2) O O) ?_
 refine JLh (BL ((!r3.2)||(!r5.2))) (Rn O O O O) O (JLh (BL ((!r3.2)||(!r5.2))) (G9 O O) O (G8 (hK6 _ _ (Gu (⟨[BL ((!r3.2)||(!r5.2))],[],G,O,⟨⟨_,O,.conv (.same O)⟩,G⟩,O,congrArg (fun r:Bool=>(BL r:AV)) (Option.some.inj h)⟩)))))

def G3f (s:List Int) (f:Int→Option Bool):Option Int:=
 each (fun y20 i20 (s20:Unit) nx20=>
  bnd (f y20) fun r26=>
  bif r26 then
  (some (i20:Int))
  else
  (nx20 ()))
 (fun(s20:Unit)=>
  some (-1)) s 0 ()
theorem H2a (s:List Int) (f:Int→Option Bool) (f_f:FuncId) (f_c:List AV) (f_B:Hf Tryz.prog f_f=true) (f_d:Zm (fun _=>false) f_c=true) (f_w:∀ a0 q,f a0=some q→Pure Tryz.prog f_f ([G0 a0]++f_c) (·=BL q)) (r:Int) (h:G3f s f=some r):Pure Tryz.prog 167 [E1 s,.fn f_f f_c] (·=G0 r):=by
 unfold G3f at h
 refine H1 [.tmp 4] Tryz.func167 O O (G7 fun K1 hK1=>G2 (JLh (G0 0) (G9 O O) O (G8 (hK1 _ _ (G7 (fun K2 hK2=>G7 fun K3 hK3=>G2 (JLh (E1 s) (G5 O O) O (H3 (f:=G0) (xs:=s) H0 O O (fun hm7=>?_) O O O))))))))
 refine JLh (G0 0) (G5 O O) O (G8 (hK3 _ _ (Gk ?_)))
 obtain⟨b20,kx20,hb20,hkx20,h⟩:=Hw h
 refine Hc (fun i20 (s20:Unit)=>each b20 kx20 (List.drop i20 s) i20 s20=some r) (fun i20 s20=>[(0,E1 s),(1,.fn f_f f_c),(7,En s.length),(8,En i20)]) (fun i20 s20=>[]) (fun i20=>s.length - i20) 0 () h ⟨⟨.same O,.same (Qb _ _ f_d),.same O,.same O,G⟩,G,O⟩ ?_
 clear h
 intro i20 s20 hi20 K20 e20
 refine G7 fun K21 hK21=>G2 (JLh (BL (decide ((i20:Int) < (s.length:Int)))) (J2 O O O) O (G8 (hK21 _ _ (G7 (fun K22 hK22=>Gn O (fun hb=>?_) (fun hb=>?_))))))
 ·
  have hk20:=Jc hb
  obtain⟨y20,nx20,hy20,hn20,h⟩:=Hn hi20 hk20
  replace h:=Yb hb20 h
  refine Gp (hK22 _ _ (G7 (fun K23 hK23=>Gk (G7 fun K24 hK24=>G2 (JLh (En i20) (G5 O O) O (JLh (En i20) (G9 O O) O (G8 (hK24 _ _ (G7 fun K25 hK25=>G2 (JLh (.fn f_f f_c) (G5 O O) O (JLh (E1 s) (G5 O O) O (JLh (En i20) (G5 O O) O (JLh (.dptr [G0 y20]) (Gt (f:=G0) (xs:=s) (y:=y20) O O O H0 hy20 O) O (JLh (G0 y20) (Gh Gd O O O) O ?_))))))))))))))
  obtain⟨r26,hr26,h⟩:=Gf h
  refine JLh (BL r26) (G47 (args:=[G0 y20]) (caps:=f_c) O O (f_w y20 _ hr26) f_B ⟨O,O,G⟩ f_d) O (G8 (hK25 _ _ (Gn O (fun hb=>?_) (fun hb=>?_))))
  ·
   replace h:=Gz hb h
   refine G7 fun K27 hK27=>G2 (JLh (En i20) (G5 O O) O (JLh (En i20) (G9 O O) O (G8 (hK27 _ _ (Gu (⟨[En i20],[],G,O,⟨⟨_,O,.conv (.same O)⟩,G⟩,O,congrArg (fun r:Int=>(G0 r:AV)) (Option.some.inj h)⟩))))))
  ·
   replace h:=Hv hb h
   refine Gp (hK23 _ _ (G2 (JLh (G0 ((i20+1:Nat):Int)) (Hy (He hk20 hm7) O O O) O (JLh (G0 ((i20+1:Nat):Int)) (G5 O O) O (G8 (e20 _ _ (i20+1) () (app1 hn20 h) (by omega) ⟨⟨.same rfl,.same (Qb _ _ f_d),.same rfl,.same rfl,G⟩,G,rfl⟩))))))
 ·
  have h:=app1 hkx20 (Ho hi20 (H9 hb))
  refine Hk (hK2 _ _ (G7 fun K28 hK28=>G2 (JLh (G0 (-1)) (G9 O O) O (G8 (hK28 _ _ (Gu (⟨[G0 (-1)],[],G,O,⟨⟨_,O,.conv (.same O)⟩,G⟩,O,congrArg (fun r:Int=>(G0 r:AV)) (Option.some.inj h)⟩)))))))


theorem J49 (F:Nat) (s:Hb) (before:List G6) (after:List G6) (r:(List Int)) (h:G10 F s before after=some r):Ym Tryz.prog 80 [.agg (Hb.cs s),E0 before,E0 after] [] (fun av L'=>∃ p:Nat,av=.vec 1069 p 1 r.length∧L'=[(1069,.vec 3 1 p (r.map G0))]):=by
 unfold G10 at h
 refine H00 [] [.tmp 6] Tryz.func80 O O (inAll O) (G7 fun K1 hK1=>G2 (JLh (.ptr 1059 0) (Jy (u:=.agg (Hb.cs s)) (cs:=(Hb.cs s)) 1059 O O O O O) O (JLh (.vec 1060 (([]:List Int).length) 1 (([]:List Int).length)) (Q14 1060 3 1 O O O) O (G8 (hK1 _ _ ?_)))))
 refine Gx [(1,E0 before),(2,E0 after),(3,Ee s)] [(1060,.vec 3 1 (([]:List Int).length) (([]:List Int).map G0))] 1059 rfl rfl rfl ⟨⟨_,rfl,.vec⟩,G⟩ rfl (by exact⟨.conv (.same rfl),.conv (.same rfl),.ptr,G⟩) ?_
 refine G7 fun K2 hK2=>G2 (JLh (E0 before) (G5 O O) O (JLh (E0 after) (G5 O O) O (JLh (LS 1 (E0) [before,after]) (Hm (xs:=[E0 before,E0 after]) O ⟨O,O,O,O,G⟩ Rg Gb4 O O O O) O (JLh (.ptr 1061 0) (Jb 1061 1 J10 O O) O (J4 (u:=.junk) (Ht (u:=LS 1 (E0) [before,after]) (ds:=[LS 1 (E0) [before,after]]) J58 O O O O O O O O) (G8 (hK2 _ _ ?_)))))))
 refine Gx [(1,E0 before),(2,E0 after),(3,Ee s),(7,.dptr [LS 1 (E0) [before,after]])] [(1060,.vec 3 1 (([]:List Int).length) (([]:List Int).map G0))] 1061 rfl rfl rfl ⟨⟨_,rfl,.vec⟩,G⟩ rfl (by repeat' (first | exact .ptr | constructor)) ?_
 refine G7 fun K3 hK3=>G2 (JLh (.mp 1068) (Hce 1068 (fun n:Int=>Value.int .i64 n) (fun _:Unit=>.agg []) O O) O (JLh (.ptr 1062 0) (Jb 1062 1 Hd3 O O) O (J4 (u:=.junk) (Ht (u:=.mp 1068) (ds:=[.mp 1068]) J16 O O O O O O O O) (G8 (hK3 _ _ (G7 fun K4 hK4=>G2 (JLh (.ptr 1063 0) (Zc 1063 [.sc (.slice none 0 0)] [.slice none 0 0] J56 ⟨.inl O,G⟩ O O) O (J92 1063 0 1069 3 1 O O O (cs':=[.vec 1069 (([]:List Int).length) 1 (([]:List Int).length)]) O (G8 (hK4 _ _ (G7 fun K5 hK5=>G2 (JLh (.ptr 1064 0) (Jb 1064 1 Hd2 O O) O (G8 (hK5 _ _ ?_))))))))))))))
 refine G7 fun K6 hK6=>G2 (JLh (.fn 168 [.ptr 1062 0,.ptr 1063 0,.dptr [LS 1 (E0) [before,after]],Ee s,.ptr 1064 0]) (G30 (cs:=[.ptr 1062 0,.ptr 1063 0,.dptr [LS 1 (E0) [before,after]],Ee s,.ptr 1064 0]) O O) O (J4 (u:=.junk) (Ht (u:=.fn 168 [.ptr 1062 0,.ptr 1063 0,.dptr [LS 1 (E0) [before,after]],Ee s,.ptr 1064 0]) (ds:=[.fn 168 [.ptr 1062 0,.ptr 1063 0,.dptr [LS 1 (E0) [before,after]],Ee s,.ptr 1064 0]]) J15 O O O O O O O O) (G8 (hK6 _ _ ?_))))
 refine G7 (fun K7 hK7=>G7 fun K8 hK8=>G2 (JLh (LS 1 (E0) [before,after]) (Gh G3c O O O) O (H3 (f:=(E0)) (xs:=[before,after]) Rg O O (fun hm25=>?_) O O O)))
 refine JLh (G0 0) (G5 O O) O (G8 (hK8 _ _ (Gk ?_)))
 obtain⟨b9,kx9,hb9,hkx9,h⟩:=Hw h
 refine Hc (fun i9 (s9:(Hu Int Unit)×(List Int))=>each b9 kx9 (List.drop i9 [before,after]) i9 s9=some r) (fun i9 s9=>[(1,E0 before),(2,E0 after),(9,.ptr 1063 0),(10,.ptr 1064 0),(24,LS 1 (E0) [before,after]),(25,G0 ([before,after].length:Int)),(26,En i9)]) (fun i9 s9=>[(1060,.vec 3 1 (([]:List Int).length) (([]:List Int).map G0)),(1068,MP 256 (fun n:Int=>Value.int .i64 n) (fun _:Unit=>.agg []) s9.1),(1069,.vec 3 1 s9.2.length (s9.2.map G0)),(1062,.box 256 [.mp 1068]),(1063,.box 51 [.vec 1069 s9.2.length 1 s9.2.length]),(1064,.box 257 [.fn 168 [.ptr 1062 0,.ptr 1063 0,.dptr [LS 1 (E0) [before,after]],Ee s,.ptr 1064 0]])]) (fun i9=>[before,after].length - i9) 0 ((Hu.empty:Hu Int Unit),[]) h ⟨(by repeat' constructor),⟨⟨_,rfl,.vec⟩,⟨_,rfl,.map⟩,⟨_,rfl,.vec⟩,⟨_,rfl,.boxL rfl ⟨.same rfl,G⟩⟩,⟨_,rfl,.boxL rfl ⟨.same rfl,G⟩⟩,⟨_,rfl,.boxL rfl ⟨.same rfl,G⟩⟩,G⟩,rfl⟩ ?_
 clear h
 intro i9 s9 hi9 K9 e9
 refine G7 fun K10 hK10=>G2 (JLh (BL (decide ((i9:Int) < ([before,after].length:Int)))) (J2 O O O) O (G8 (hK10 _ _ (G7 (fun K11 hK11=>Gn O (fun hb=>?_) (fun hb=>?_))))))
 ·
  have hk9:=Jc hb
  obtain⟨y9,nx9,hy9,hn9,h⟩:=Hn hi9 hk9
  replace h:=Yb hb9 h
  refine Gp (hK11 _ _ (G7 (fun K12 hK12=>Gk (G7 fun K13 hK13=>G2 (JLh (.dptr [E0 y9]) (Gt (f:=(E0)) (xs:=[before,after]) (y:=y9) O O O Rg hy9 O) O (JLh (E0 y9) (Gh Zp O O O) O (JLh (E0 y9) (G9 O O) O (G8 (hK13 _ _ (G7 fun K14 hK14=>G2 (JLh (E0 y9) (G5 O O) O (H3 (f:=G6.av) (xs:=y9) H2 O O (fun hm31=>?_) O O O))))))))))))
  refine JLh (G0 0) (G5 O O) O (G8 (hK14 _ _ (Gk ?_)))
  obtain⟨b59,kx59,hb59,hkx59,h⟩:=Hw h
  refine Hc (fun i59 (s59:(Hu Int Unit)×(List Int))=>each b59 kx59 (List.drop i59 y9) i59 s59=some r) (fun i59 s59=>[(1,E0 before),(2,E0 after),(9,.ptr 1063 0),(10,.ptr 1064 0),(24,LS 1 (E0) [before,after]),(25,G0 ([before,after].length:Int)),(26,En i9),(30,E0 y9),(31,En y9.length),(32,En i59)]) (fun i59 s59=>[(1060,.vec 3 1 (([]:List Int).length) (([]:List Int).map G0)),(1068,MP 256 (fun n:Int=>Value.int .i64 n) (fun _:Unit=>.agg []) s59.1),(1069,.vec 3 1 s59.2.length (s59.2.map G0)),(1062,.box 256 [.mp 1068]),(1063,.box 51 [.vec 1069 s59.2.length 1 s59.2.length]),(1064,.box 257 [.fn 168 [.ptr 1062 0,.ptr 1063 0,.dptr [LS 1 (E0) [before,after]],Ee s,.ptr 1064 0]])]) (fun i59=>y9.length - i59) 0 (s9.1,s9.2) h ⟨(by repeat' constructor),⟨⟨_,rfl,.vec⟩,⟨_,rfl,.map⟩,⟨_,rfl,.vec⟩,⟨_,rfl,.boxL rfl ⟨.same rfl,G⟩⟩,⟨_,rfl,.boxL rfl ⟨.same rfl,G⟩⟩,⟨_,rfl,.boxL rfl ⟨.same rfl,G⟩⟩,G⟩,rfl⟩ ?_
  clear h
  intro i59 s59 hi59 K59 e59
  refine G7 fun K60 hK60=>G2 (JLh (BL (decide ((i59:Int) < (y9.length:Int)))) (J2 O O O) O (G8 (hK60 _ _ (G7 (fun K61 hK61=>Gn O (fun hb=>?_) (fun hb=>?_))))))
  ·
   have hk59:=Jc hb
   obtain⟨y59,nx59,hy59,hn59,h⟩:=Hn hi59 hk59
   replace h:=Yb hb59 h
   refine Gp (hK61 _ _ ?_)
   obtain⟨kj62,hkj62,h⟩:=G69 h
   refine G33 (fun j62:(Hu Int Unit)×(List Int)=>kj62 j62=some r) (fun j62=>[(1,E0 before),(2,E0 after),(9,.ptr 1063 0),(10,.ptr 1064 0),(24,LS 1 (E0) [before,after]),(25,G0 ([before,after].length:Int)),(26,En i9),(30,E0 y9),(31,En y9.length),(32,En i59)]) (fun j62=>[(1060,.vec 3 1 (([]:List Int).length) (([]:List Int).map G0)),(1068,MP 256 (fun n:Int=>Value.int .i64 n) (fun _:Unit=>.agg []) j62.1),(1069,.vec 3 1 j62.2.length (j62.2.map G0)),(1062,.box 256 [.mp 1068]),(1063,.box 51 [.vec 1069 j62.2.length 1 j62.2.length]),(1064,.box 257 [.fn 168 [.ptr 1062 0,.ptr 1063 0,.dptr [LS 1 (E0) [before,after]],Ee s,.ptr 1064 0]])]) (fun Kj62 ej62=>?_) ?_
   ·
    refine Gk (G7 fun K63 hK63=>G2 (JLh (Ef y59) (Gt (f:=G6.av) (xs:=y9) (y:=y59) O O O H2 hy59 O) O (JLh (.agg (G6.cs y59)) (Gj Yo O O O) O (JLh (.ptr 1065 0) (Jb 1065 4 R9 O O) O (J4 (u:=.junk) (Ht (u:=.agg (G6.cs y59)) (ds:=[G0 y59.Gv,G0 y59.Slot.G4,G0 y59.Slot.Tier,U8 y59.Slot.Half]) G0c O O O O O O O O) (G8 (hK63 _ _ ?_)))))))
    refine Gx [(1,E0 before),(2,E0 after),(9,.ptr 1063 0),(10,.ptr 1064 0),(14,Ef y59),(24,LS 1 (E0) [before,after]),(25,G0 ([before,after].length:Int)),(26,En i9),(30,E0 y9),(31,En y9.length),(32,En i59)] [(1060,.vec 3 1 (([]:List Int).length) (([]:List Int).map G0)),(1068,MP 256 (fun n:Int=>Value.int .i64 n) (fun _:Unit=>.agg []) s59.1),(1069,.vec 3 1 s59.2.length (s59.2.map G0)),(1062,.box 256 [.mp 1068]),(1063,.box 51 [.vec 1069 s59.2.length 1 s59.2.length]),(1064,.box 257 [.fn 168 [.ptr 1062 0,.ptr 1063 0,.dptr [LS 1 (E0) [before,after]],Ee s,.ptr 1064 0]])] 1065 rfl rfl rfl ⟨⟨_,rfl,.vec⟩,⟨_,rfl,.map⟩,⟨_,rfl,.vec⟩,⟨_,rfl,.boxEq rfl rfl⟩,⟨_,rfl,.boxEq rfl rfl⟩,⟨_,rfl,.boxEq rfl rfl⟩,G⟩ rfl (by repeat' (first | exact .ptr | constructor)) ?_
    refine G7 fun K64 hK64=>G2 (JLh (E0 before) (G5 O O) O (JLh (Ef y59) (Gb Jq O O O) O (JLh (G0 y59.Gv) (Gh Gd O O O) O ?_)))
    obtain⟨r65,hr65,h⟩:=Gf h
    refine JLh (.tup [.agg (Slot.cs r65.1),BL r65.2]) (Gq (args:=[E0 before,G0 y59.Gv]) O (G2e before y59.Gv r65 hr65) G7e ⟨O,O,O,O,G⟩) O (JLh (.tup [.agg (Slot.cs r65.1),BL r65.2]) (G5 O O) O (JLh (.agg (Slot.cs r65.1)) (J1 O O O) O (JLh (BL r65.2) (J1 O O O) O (JLh (.ptr 1066 0) (Jb 1066 3 Zo O O) O (J4 (u:=.junk) (Ht (u:=.agg (Slot.cs r65.1)) (ds:=[G0 r65.1.G4,G0 r65.1.Tier,U8 r65.1.Half]) G0d O O O O O O O O) (JLh (BL r65.2) (G9 O O) O (G8 (hK64 _ _ ?_))))))))
    refine Gx [(1,E0 before),(2,E0 after),(9,.ptr 1063 0),(10,.ptr 1064 0),(14,Ef y59),(15,Eg r65.1),(16,BL r65.2),(24,LS 1 (E0) [before,after]),(25,G0 ([before,after].length:Int)),(26,En i9),(30,E0 y9),(31,En y9.length),(32,En i59)] [(1060,.vec 3 1 (([]:List Int).length) (([]:List Int).map G0)),(1068,MP 256 (fun n:Int=>Value.int .i64 n) (fun _:Unit=>.agg []) s59.1),(1069,.vec 3 1 s59.2.length (s59.2.map G0)),(1062,.box 256 [.mp 1068]),(1063,.box 51 [.vec 1069 s59.2.length 1 s59.2.length]),(1064,.box 257 [.fn 168 [.ptr 1062 0,.ptr 1063 0,.dptr [LS 1 (E0) [before,after]],Ee s,.ptr 1064 0]])] 1066 rfl rfl rfl ⟨⟨_,rfl,.vec⟩,⟨_,rfl,.map⟩,⟨_,rfl,.vec⟩,⟨_,rfl,.boxEq rfl rfl⟩,⟨_,rfl,.boxEq rfl rfl⟩,⟨_,rfl,.boxEq rfl rfl⟩,G⟩ rfl (by repeat' (first | exact .ptr | constructor)) ?_
    refine G7 fun K66 hK66=>G2 (JLh (E0 after) (G5 O O) O (JLh (Ef y59) (Gb Jq O O O) O (JLh (G0 y59.Gv) (Gh Gd O O O) O ?_)))
    obtain⟨r67,hr67,h⟩:=Gf h
    refine JLh (.tup [.agg (Slot.cs r67.1),BL r67.2]) (Gq (args:=[E0 after,G0 y59.Gv]) O (G2e after y59.Gv r67 hr67) G7e ⟨O,O,O,O,G⟩) O (JLh (.tup [.agg (Slot.cs r67.1),BL r67.2]) (G5 O O) O (JLh (.agg (Slot.cs r67.1)) (J1 O O O) O (JLh (BL r67.2) (J1 O O O) O (JLh (.ptr 1067 0) (Jb 1067 3 Zo O O) O (J4 (u:=.junk) (Ht (u:=.agg (Slot.cs r67.1)) (ds:=[G0 r67.1.G4,G0 r67.1.Tier,U8 r67.1.Half]) G0d O O O O O O O O) (JLh (BL r67.2) (G9 O O) O (G8 (hK66 _ _ ?_))))))))
    refine Gx [(1,E0 before),(2,E0 after),(9,.ptr 1063 0),(10,.ptr 1064 0),(14,Ef y59),(15,Eg r65.1),(16,BL r65.2),(17,Eg r67.1),(18,BL r67.2),(24,LS 1 (E0) [before,after]),(25,G0 ([before,after].length:Int)),(26,En i9),(30,E0 y9),(31,En y9.length),(32,En i59)] [(1060,.vec 3 1 (([]:List Int).length) (([]:List Int).map G0)),(1068,MP 256 (fun n:Int=>Value.int .i64 n) (fun _:Unit=>.agg []) s59.1),(1069,.vec 3 1 s59.2.length (s59.2.map G0)),(1062,.box 256 [.mp 1068]),(1063,.box 51 [.vec 1069 s59.2.length 1 s59.2.length]),(1064,.box 257 [.fn 168 [.ptr 1062 0,.ptr 1063 0,.dptr [LS 1 (E0) [before,after]],Ee s,.ptr 1064 0]])] 1067 rfl rfl rfl ⟨⟨_,rfl,.vec⟩,⟨_,rfl,.map⟩,⟨_,rfl,.vec⟩,⟨_,rfl,.boxEq rfl rfl⟩,⟨_,rfl,.boxEq rfl rfl⟩,⟨_,rfl,.boxEq rfl rfl⟩,G⟩ rfl (by repeat' (first | exact .ptr | constructor)) ?_
    refine G7 fun K68 hK68=>G2 (JLh (BL r65.2) (G5 O O) O (JLh (BL r67.2) (G5 O O) O (JLh (BL (!(r65.2==r67.2))) (Je8 H9b O O O) O (JLh (BL (!(r65.2==r67.2))) (G5 O O) O (Ga (u:=.agg (Slot.cs r65.1)) [] O O O .scf G (fun hc=>Gj Jh O O O) ?_)))))
    refine Ga (u:=.agg (Slot.cs r67.1)) [] O O O .scf G (fun hc=>Gj Jh O O O) ?_
    refine Ga (u:=BL (!decide (r65.1=r67.1))) [(54,.agg (Slot.cs r65.1)),(55,.agg (Slot.cs r67.1))] O O O .scf ⟨.all id,.all id,G⟩ (fun hc=>Hf2 (vs:=[.int .i64 r65.1.G4,.int .i64 r65.1.Tier,.int .u8 r65.1.Half]) (us:=[.int .i64 r67.1.G4,.int .i64 r67.1.Tier,.int .u8 r67.1.Half]) 4 O (tq_119 r65.1 r67.1) Gcf H48 O O O) ?_
    refine JLh (BL ((!(r65.2==r67.2))||(!decide (r65.1=r67.1)))) (Rn O O O O) O (G8 (hK68 _ _ (Gn O (fun hb=>?_) (fun hb=>?_))))
    ·
     replace h:=Gz hb h
     refine G2 (JLh (.fn 168 [.ptr 1062 0,.ptr 1063 0,.dptr [LS 1 (E0) [before,after]],Ee s,.ptr 1064 0]) (Zf Gae O O O O) O (JLh (Ef y59) (Gb Jq O O O) O (JLh (G0 y59.Gv) (Gh Gd O O O) O ?_)))
     obtain⟨r69,hr69,h⟩:=Gf h
     refine JLh (.tup []) (Hf3 (args:=[G0 y59.Gv]) (caps:=[.ptr 1062 0,.ptr 1063 0,.dptr [LS 1 (E0) [before,after]],Ee s,.ptr 1064 0]) (L0:=[(1062,.box 256 [.mp 1068]),(1068,MP 256 (fun n:Int=>Value.int .i64 n) (fun _:Unit=>.agg []) s59.1),(1063,.box 51 [.vec 1069 s59.2.length 1 s59.2.length]),(1069,.vec 3 1 s59.2.length (s59.2.map G0)),(1064,.box 257 [.fn 168 [.ptr 1062 0,.ptr 1063 0,.dptr [LS 1 (E0) [before,after]],Ee s,.ptr 1064 0]])]) (Lr:=[(1062,.box 256 [.mp 1068]),(1068,MP 256 (fun n:Int=>Value.int .i64 n) (fun _:Unit=>.agg []) r69.1),(1063,.box 51 [.vec 1069 r69.2.length 1 r69.2.length]),(1069,.vec 3 1 r69.2.length (r69.2.map G0)),(1064,.box 257 [.fn 168 [.ptr 1062 0,.ptr 1063 0,.dptr [LS 1 (E0) [before,after]],Ee s,.ptr 1064 0]])]) O O (H1e F y59.Gv s59.1 s59.2 [before,after] s r69 hr69) H14 ⟨.inl O,O,G⟩ O ⟨O,O,O,O,O,G⟩ O O O) O (G8 ?_)
     exact ej62 _ _ (r69.1,r69.2) h ⟨(by repeat' constructor),⟨⟨_,rfl,.vec⟩,⟨_,rfl,.map⟩,⟨_,rfl,.vec⟩,⟨_,rfl,.boxL rfl ⟨.same rfl,G⟩⟩,⟨_,rfl,.boxL rfl ⟨.same rfl,G⟩⟩,⟨_,rfl,.boxL rfl ⟨.same rfl,G⟩⟩,G⟩,rfl⟩
    ·
     replace h:=Hv hb h
     refine Gp (ej62 _ _ (s59.1,s59.2) h ⟨(by repeat' constructor),⟨⟨_,rfl,.vec⟩,⟨_,rfl,.map⟩,⟨_,rfl,.vec⟩,⟨_,rfl,.boxL rfl ⟨.same rfl,G⟩⟩,⟨_,rfl,.boxL rfl ⟨.same rfl,G⟩⟩,⟨_,rfl,.boxL rfl ⟨.same rfl,G⟩⟩,G⟩,rfl⟩)
   ·intro j62 h
    replace h:=app1 hkj62 h
    refine G2 (JLh (G0 ((i59+1:Nat):Int)) (Hy (He hk59 hm31) O O O) O (JLh (G0 ((i59+1:Nat):Int)) (G5 O O) O (G8 (e59 _ _ (i59+1) (j62.1,j62.2) (app1 hn59 h) (by omega) ⟨(by repeat' constructor),⟨⟨_,rfl,.vec⟩,⟨_,rfl,.map⟩,⟨_,rfl,.vec⟩,⟨_,rfl,.boxL rfl ⟨.same rfl,G⟩⟩,⟨_,rfl,.boxL rfl ⟨.same rfl,G⟩⟩,⟨_,rfl,.boxL rfl ⟨.same rfl,G⟩⟩,G⟩,rfl⟩))))
  ·
   have h:=app1 hkx59 (Ho hi59 (H9 hb))
   refine Hk (hK12 _ _ (G2 (JLh (G0 ((i9+1:Nat):Int)) (Hy (He hk9 hm25) O O O) O (JLh (G0 ((i9+1:Nat):Int)) (G5 O O) O (G8 (e9 _ _ (i9+1) (s59.1,s59.2) (app1 hn9 h) (by omega) ⟨(by repeat' constructor),⟨⟨_,rfl,.vec⟩,⟨_,rfl,.map⟩,⟨_,rfl,.vec⟩,⟨_,rfl,.boxL rfl ⟨.same rfl,G⟩⟩,⟨_,rfl,.boxL rfl ⟨.same rfl,G⟩⟩,⟨_,rfl,.boxL rfl ⟨.same rfl,G⟩⟩,G⟩,rfl⟩))))))
 ·
  have h:=app1 hkx9 (Ho hi9 (H9 hb))
  refine Hk (hK7 _ _ (G7 fun K70 hK70=>G2 (JLh (.vec 1069 s9.2.length 1 s9.2.length) (Zf Hg O O O O) O ?_)))
  obtain⟨r71,hr71,h⟩:=Gf h
  refine JLh (.tup []) (A_sortI (F:=172) (xs:=s9.2) (r:=r71) O Hd8 Hb4 J1f O O O hr71 O) O (G8 (hK70 _ _ (G7 fun K72 hK72=>G2 (JLh (.vec 1069 s9.2.length 1 s9.2.length) (Zf Hg O O O O) O (JLh (.vec 1069 s9.2.length 1 s9.2.length) (G9 O O) O (G8 (hK72 _ _ (Jad 6 O O (fun hn_=>Gu ?_)))))))))
  obtain rfl:=Option.some.inj h
  exact⟨[.vec 1069 s9.2.length 1 s9.2.length],[(1069,.vec 3 1 s9.2.length (r71.map G0))],⟨⟨_,O,.vec⟩,G⟩,O,⟨⟨_,O,.conv (.same O)⟩,G⟩,s9.2.length,congrArg (fun n_:Nat=>(.vec 1069 s9.2.length 1 n_:AV)) (hn_.trans (List.length_map _)),O⟩

def G38 (F:Nat) (s:List Int) (del:Int→Option Bool):Option (List Int):=
 bnd (G3f s del) fun r3=>
 bif decide (r3=(-1)) then
 (some s)
 else
 (G32 (r3+1) fun v9=>
  loop (fun nx48 (s48:Int×Int×(List Int))=>
   bif decide (s48.2.1 < (s48.2.2.length:Int)) then
   (jp (fun kj51=>
     Q3 s48.2.2 s48.2.1 fun y53=>
     bnd (del y53) fun r55=>
     bif (!r55) then
     (Q3 s48.2.2 s48.1 fun y57=>
      G32 (s48.1+1) fun v58=>
      kj51 (v58,(s48.2.2.set s48.1.toNat y53)))
     else
     (kj51 (s48.1,s48.2.2))) fun(j51:Int×(List Int))=>
    G32 (s48.2.1+1) fun v59=>
    nx48 (j51.1,v59,j51.2))
   else
   (bnd (G24 s48.1 s48.2.2.length) fun m61=>
    bnd (G24 s48.1 (blank s48.2.2 m61 (s48.2.2.length - m61) 0).length) fun m63=>
    some ((blank s48.2.2 m61 (s48.2.2.length - m61) 0).take m63))) F (r3,v9,s))
theorem G80 (F:Nat) (s:List Int) (s_q:Nat) (del:Int→Option Bool) (del_f:FuncId) (del_c:List AV) (del_B:Hf Tryz.prog del_f=true) (del_d:Zm (fun _=>false) del_c=true) (del_w:∀ a0 q,del a0=some q→Pure Tryz.prog del_f ([G0 a0]++del_c) (·=BL q)) (r:(List Int)) (h:G38 F s del=some r):Ym Tryz.prog 79 [.vec 1069 s_q 1 s.length,.fn del_f del_c] [(1069,.vec 3 1 s_q (s.map G0))] (fun av L'=>∃ p:Nat,av=.vec 1069 p 1 r.length∧L'=[(1069,.vec 3 1 p (r.map G0))]):=by
 unfold G38 at h
 refine H00 [1069] [.tmp 4] Tryz.func79 O O (inAll O) (G7 fun K1 hK1=>G2 (JLh (.vec 1058 (([]:List Int).length) 1 (([]:List Int).length)) (Q14 1058 3 1 O O O) O (G8 (hK1 _ _ (G7 fun K2 hK2=>G2 (JLh (.vec 1069 s_q 1 s.length) (G5 O O) O (JLh (.fn del_f del_c) (G5 O O) O ?_)))))))
 obtain⟨r3,hr3,h⟩:=Gf h
 refine JLh (G0 r3) (Q1a (args:=[E1 s,.fn del_f del_c]) O (H2a s del del_f del_c del_B del_d del_w r3 hr3) Jd4 ⟨.vec O,.data O del_d,G⟩ O) O (JLh (G0 r3) (G9 O O) O (G8 (hK2 _ _ (G7 (fun K4 hK4=>G7 fun K5 hK5=>G2 (JLh (G0 r3) (G5 O O) O (JLh (BL (decide (r3=(-1)))) (Jx O O O) O (G8 (hK5 _ _ (Gn O (fun hb=>?_) (fun hb=>?_)))))))))))
 ·
  replace h:=Gz hb h
  refine G7 fun K6 hK6=>G2 (JLh (.vec 1069 s_q 1 s.length) (G5 O O) O (JLh (.vec 1069 s_q 1 s.length) (G9 O O) O (G8 (hK6 _ _ (Jad 4 O O (fun hn_=>Gu ?_))))))
  obtain rfl:=Option.some.inj h
  exact⟨[.vec 1069 s_q 1 s.length],[(1069,.vec 3 1 s_q (s.map G0))],⟨⟨_,O,.vec⟩,G⟩,O,⟨⟨_,O,.conv (.same O)⟩,G⟩,s_q,congrArg (fun n_:Nat=>(.vec 1069 s_q 1 n_:AV)) (hn_.trans (List.length_map _)),O⟩
 ·
  replace h:=Hv hb h
  refine Gp (hK4 _ _ (G7 (fun K7 hK7=>G7 fun K8 hK8=>G2 (JLh (G0 r3) (G5 O O) O ?_))))
  obtain⟨v9,hv9,h⟩:=Qw h
  refine JLh (G0 v9) (Hy hv9 O O O) O (JLh (G0 v9) (G9 O O) O (G8 (hK8 _ _ (Gk ?_))))
  obtain⟨b48,hb48,h⟩:=loop_in h
  refine Hc (fun i48 (s48:Int×Int×(List Int))=>loop b48 i48 s48=some r) (fun i48 s48=>[(0,.vec 1069 s_q 1 s.length),(1,.fn del_f del_c),(5,G0 s48.1),(6,G0 s48.2.1)]) (fun i48 s48=>[(1069,.vec 3 1 s_q (s48.2.2.map G0)),(1058,.vec 3 1 (([]:List Int).length) (([]:List Int).map G0))]) (fun i48=>i48) F (r3,v9,s) h ⟨⟨.same O,.same (Qb _ _ del_d),.same O,.same O,G⟩,⟨⟨_,O,.vec⟩,⟨_,O,.vec⟩,G⟩,O⟩ ?_
  clear h
  intro i48 s48 hi48 K48 e48
  obtain⟨m48,nx48,hm_48,hn48,h⟩:=J77 hi48
  replace h:=app2 hb48 h
  refine G7 (fun K49 hK49=>G7 fun K50 hK50=>G2 (JLh (G0 s48.2.1) (G5 O O) O (JLh (.vec 1069 s_q 1 s.length) (G5 O O) O (JL_vlenM (f:=G0) (xs:=s48.2.2) H0 O O O (fun hm18=>?_) O O O))))
  refine JLh (BL (decide (s48.2.1 < (s48.2.2.length:Int)))) (J2 O O O) O (G8 (hK50 _ _ (Gn O (fun hb=>?_) (fun hb=>?_))))
  ·
   replace h:=Gz hb h
   refine Gp (hK49 _ _ ?_)
   obtain⟨kj51,hkj51,h⟩:=G69 h
   refine G33 (fun j51:Int×(List Int)=>kj51 j51=some r) (fun j51=>[(0,.vec 1069 s_q 1 s.length),(1,.fn del_f del_c),(5,G0 j51.1),(6,G0 s48.2.1)]) (fun j51=>[(1069,.vec 3 1 s_q (j51.2.map G0)),(1058,.vec 3 1 (([]:List Int).length) (([]:List Int).map G0))]) (fun Kj51 ej51=>?_) ?_
   ·
    refine Gk (G7 fun K52 hK52=>G2 (JLh (.vec 1069 s_q 1 s.length) (G5 O O) O (JLh (G0 s48.2.1) (G5 O O) O ?_)))
    obtain⟨y53,hmy53,hy53,h⟩:=Ge0 h
    refine JLh (.vptr 1069 s_q s48.2.1.toNat 0) (Gdd (f:=G0) (xs:=s48.2.2) (y:=y53) O O O O H0 hy53 hmy53) O (JLh (G0 y53) (Gfd (f:=G0) (xs:=s48.2.2) (y:=y53) Gd O O O hy53 O O) O (JLh (G0 y53) (G9 O O) O (G8 (hK52 _ _ (G7 fun K54 hK54=>G2 (JLh (.fn del_f del_c) (G5 O O) O (JLh (G0 y53) (G5 O O) O ?_)))))))
    obtain⟨r55,hr55,h⟩:=Gf h
    refine JLh (BL r55) (G47 (args:=[G0 y53]) (caps:=del_c) O O (del_w y53 _ hr55) del_B ⟨O,O,G⟩ del_d) O (JLh (BL (!r55)) (Qv (b:=r55) O O) O (G8 (hK54 _ _ (Gn O (fun hb=>?_) (fun hb=>?_)))))
    ·
     replace h:=Gz hb h
     refine G7 fun K56 hK56=>G2 (JLh (.vec 1069 s_q 1 s.length) (G5 O O) O (JLh (G0 s48.1) (G5 O O) O (JLh (G0 y53) (G5 O O) O ?_)))
     obtain⟨y57,hmy57,hy57,h⟩:=Ge0 h
     refine JLh (.vptr 1069 s_q s48.1.toNat 0) (Gdd (f:=G0) (xs:=s48.2.2) (y:=y57) O O O O H0 hy57 hmy57) O (J4 (u:=.junk) (A_vstoreM (f:=G0) (xs:=s48.2.2) (z:=y53) tf_size_3 O O O O (List.getElem?_eq_some_iff.1 hy57).1 O O O O) (G8 (hK56 _ _ (G2 (JLh (G0 s48.1) (G5 O O) O ?_)))))
     obtain⟨v58,hv58,h⟩:=Qw h
     refine JLh (G0 v58) (Hy hv58 O O O) O (JLh (G0 v58) (G9 O O) O (G8 (ej51 _ _ (v58,(s48.2.2.set s48.1.toNat y53)) h ⟨⟨.same O,.same (Qb _ _ del_d),.same O,.same O,G⟩,⟨⟨_,O,.vec⟩,⟨_,O,.vec⟩,G⟩,O⟩)))
    ·
     replace h:=Hv hb h
     refine Gp (ej51 _ _ (s48.1,s48.2.2) h ⟨⟨.same O,.same (Qb _ _ del_d),.same O,.same O,G⟩,⟨⟨_,O,.vec⟩,⟨_,O,.vec⟩,G⟩,O⟩)
   ·intro j51 h
    replace h:=app1 hkj51 h
    refine G2 (JLh (G0 s48.2.1) (G5 O O) O ?_)
    obtain⟨v59,hv59,h⟩:=Qw h
    refine JLh (G0 v59) (Hy hv59 O O O) O (JLh (G0 v59) (G9 O O) O (G8 (e48 _ _ m48 (j51.1,v59,j51.2) (app1 hn48 h) (by omega) ⟨⟨.same rfl,.same (Qb _ _ del_d),.same rfl,.same rfl,G⟩,⟨⟨_,rfl,.vec⟩,⟨_,rfl,.vec⟩,G⟩,rfl⟩)))
  ·
   replace h:=Hv hb h
   refine Hk (hK7 _ _ (G7 fun K60 hK60=>G2 (JLh (.vec 1069 s_q 1 s.length) (G5 O O) O (JLh (G0 s48.1) (G5 O O) O ?_))))
   obtain⟨m61,hm61,h⟩:=Gf h
   refine JLh (.vsl 1069 s_q 1 m61 (s48.2.2.length - m61)) (A_vsubLoM (f:=G0) (xs:=s48.2.2) O O O O H0 (Rz hm61)) O (J4 (u:=.tup []) (A_clearM (f:=G0) (xs:=s48.2.2) (off:=m61) (n:=(s48.2.2.length - m61)) 0 [.int .i64 0] O H0 (.inr O) O tf_zero_3 O O O ⟨.inl O,G⟩) (G8 (hK60 _ _ (G7 fun K62 hK62=>G2 (JLh (.vec 1069 s_q 1 s.length) (G5 O O) O (JLh (G0 s48.1) (G5 O O) O ?_))))))
   obtain⟨m63,hm63,h⟩:=Gf h
   refine JLh (.vec 1069 (s_q+1) 1 (((blank s48.2.2 m61 (s48.2.2.length - m61) 0).take m63).length)) (A_vtakeM (f:=G0) (xs:=(blank s48.2.2 m61 (s48.2.2.length - m61) 0)) O O O O H0 (Rz hm63)) O (JLh (.vec 1069 (s_q+1) 1 (((blank s48.2.2 m61 (s48.2.2.length - m61) 0).take m63).length)) (G9 O O) O (G8 (hK62 _ _ (Jad 4 O O (fun hn_=>Gu ?_)))))
   obtain rfl:=Option.some.inj h
   exact⟨[.vec 1069 (s_q+1) 1 (((blank s48.2.2 m61 (s48.2.2.length - m61) 0).take m63).length)],[(1069,.vec 3 1 (s_q+1) (((blank s48.2.2 m61 (s48.2.2.length - m61) 0).take m63).map G0))],⟨⟨_,O,.vec⟩,G⟩,O,⟨⟨_,O,.conv (.same O)⟩,G⟩,(s_q+1),congrArg (fun n_:Nat=>(.vec 1069 (s_q+1) 1 n_:AV)) (hn_.trans (List.length_map _)),O⟩

def G9d (F:Nat) (s:Hb) (boxes:List Gv) (calls:Int) (p:Gf1):Option ((List (List Int))×Int):=
 bnd (Gdb s boxes calls p) fun r4=>
 bif decide (r4.2≠0) then
 (some ([],r4.2))
 else
 (bnd (H5c p) fun r10=>
  bnd (H8f p) fun ys21=>
  each (fun y21 i21 (s21:(List (List Int))) nx21=>
   bnd (G10 F s y21.1 y21.2) fun r23=>
   bnd (G38 F r23 (fun z0=>G62 z0 y21.1 y21.2)) fun r25=>
   need (decide ((s21.length+[r25].length)*24≤140737488355328∧s21.length+[r25].length≤maxLen)) <|
   nx21 (s21++[r25]))
  (fun(s21:(List (List Int)))=>
   some (s21,0)) ys21 0 [])
theorem H3c (F:Nat) (s:Hb) (boxes:List Gv) (calls:Int) (p:Gf1) (r:(List (List Int))×Int) (h:G9d F s boxes calls p=some r):Pure Tryz.prog 22 [.agg (Hb.cs s),E2 boxes,G0 calls,.agg [LS 1 (E0) p.States,LS 1 (E1) p.Water]] (·=.tup [LS 1 (E1) r.1,G0 r.2]):=by
 unfold G9d at h
 refine H1 [.tmp 8,.tmp 9] Tryz.func22 O O ?_
 refine G7 fun K1 hK1=>G2 (JLh (.ptr 1016 0) (Jy (u:=.agg (Hb.cs s)) (cs:=(Hb.cs s)) 1016 O O O O O) O (JLh (.ptr 1017 0) (Jy (u:=.agg [LS 1 (E0) p.States,LS 1 (E1) p.Water]) (cs:=[LS 1 (E0) p.States,LS 1 (E1) p.Water]) 1017 O O O O O) O (JLh (LS 1 (E1) ([]:List (List Int))) (R4 1 O O) O (JLh (G0 0) (G9 O O) O (G8 (hK1 _ _ ?_))))))
 refine Gx [(1,E2 boxes),(2,G0 calls),(4,Ee s),(7,.ptr 1017 0)] [(1017,.box 37 [LS 1 (E0) p.States,LS 1 (E1) p.Water])] 1016 rfl rfl rfl ⟨⟨_,rfl,.boxEq rfl rfl⟩,G⟩ rfl (by repeat' (first | exact .ptr | constructor)) ?_
 refine Gx [(1,E2 boxes),(2,G0 calls),(4,Ee s),(7,.dptr [LS 1 (E0) p.States,LS 1 (E1) p.Water])] [] 1017 rfl rfl rfl G rfl (by repeat' (first | exact .ptr | constructor)) (G7 (fun K2 hK2=>?_))
 refine G7 fun K3 hK3=>G2 (JLh (.agg (Hb.cs s)) (Gj J8 O O O) O (JLh (E2 boxes) (G5 O O) O (JLh (G0 calls) (G5 O O) O (JLh (.agg [LS 1 (E0) p.States,LS 1 (E1) p.Water]) (Gj Gde O O O) O ?_))))
 obtain⟨r4,hr4,h⟩:=Gf h
 refine JLh (.tup [G0 r4.1,G0 r4.2]) (Gq (args:=[.agg (Hb.cs s),E2 boxes,G0 calls,.agg [LS 1 (E0) p.States,LS 1 (E1) p.Water]]) O (H90 s boxes calls p r4 hr4) J68 ⟨O,O,O,O,O,O,O,O,G⟩) O (JLh (.tup [G0 r4.1,G0 r4.2]) (G5 O O) O (JLh (G0 r4.1) (J1 O O O) O (JLh (G0 r4.2) (J1 O O O) O (JLh (G0 r4.1) (G9 O O) O (JLh (G0 r4.2) (G9 O O) O (G8 (hK3 _ _ (G7 fun K5 hK5=>G2 (JLh (G0 r4.2) (G5 O O) O (JLh (BL (decide (r4.2≠0))) (G5c O O O) O (G8 (hK5 _ _ ?_))))))))))))
 refine Gn O (fun hb=>?_) (fun hb=>?_)
 ·
  replace h:=Gz hb h
  refine G7 fun K6 hK6=>G2 (JLh (G0 r4.2) (G5 O O) O (JLh (LS 1 (E1) ([]:List (List Int))) (R4 1 O O) O (JLh (G0 r4.2) (G9 O O) O (G8 (hK6 _ _ (Gu (⟨[LS 1 (E1) ([]:List (List Int)),G0 r4.2],[],G,O,⟨⟨_,O,.conv (.same O)⟩,⟨_,O,.conv (.same O)⟩,G⟩,O,congrArg (fun r:(List (List Int))×Int=>(.tup [LS 1 (E1) r.1,G0 r.2]:AV)) (Option.some.inj h)⟩)))))))
 ·
  replace h:=Hv hb h
  refine Gp (hK2 _ _ (G7 fun K7 hK7=>G2 (JLh (.ptr 1018 0) (Zc 1018 [.sc (.slice none 0 0)] [.slice none 0 0] Jed ⟨.inl O,G⟩ O O) O (Q12 1018 0 1021 51 1 O O O (cs':=[OW 1021 1 (E1) ([]:List (List Int))]) O (G8 (hK7 _ _ (G7 (fun K8 hK8=>G7 fun K9 hK9=>G2 (JLh (.agg [LS 1 (E0) p.States,LS 1 (E1) p.Water]) (Gj Gde O O O) O ?_)))))))))
  obtain⟨r10,hr10,h⟩:=Gf h
  refine JLh (.fn 166 [.dptr [LS 1 (E0) p.States,LS 1 (E1) p.Water]]) (Gq (args:=[.agg [LS 1 (E0) p.States,LS 1 (E1) p.Water]]) O (J8d p r10 hr10) Q00 ⟨O,O,G⟩) O (G8 (hK9 _ _ (Gk ?_)))
  obtain⟨ys21,hy_21,h⟩:=Gf h
  obtain⟨b21,kx21,hb21,hkx21,h⟩:=Hw h
  refine Jae (ps:=[28,29]) [(4,Ee s),(12,.ptr 1018 0),(27,.fn 166 [.dptr [LS 1 (E0) p.States,LS 1 (E1) p.Water]])] (ys21.map (fun y:(List G6)×(List G6)=>[E0 y.1,E0 y.2])) (fun i21 (s21:(List (List Int)))=>each b21 kx21 (List.drop i21 ys21) i21 s21=some r) (fun s21=>[(1021,.spare 51 1 s21.length s21.length),(1018,.box 35 [OW 1021 1 (E1) s21])]) [] rfl rfl rfl Jd5 (J0a.down p ys21 hy_21) h ⟨⟨.same rfl,.same rfl,.same rfl,trivial⟩,⟨⟨_,rfl,.same⟩,⟨_,rfl,.boxL rfl ⟨.same rfl,trivial⟩⟩,trivial⟩,rfl⟩ rfl (fun us_ hus_=>by obtain⟨_,_,rfl⟩:=List.mem_map.1 hus_; rfl) (fun p_ hp_=>Nat.blt_eq.mp (by revert p_; decide)) (fun _=>⟨.same rfl,.same rfl,.same rfl,trivial⟩) (fun _=>rfl) ?_ ?_
  ·
   intro i21 us_ s21 hu_ hi21 lr_ K21 e21
   obtain⟨hk21,rfl⟩:=mapf_at hu_
   obtain⟨y21,nx21,hy21,hn21,h⟩:=Hn hi21 hk21
   replace h:=Yb hb21 h
   obtain⟨_,rfl⟩:=List.getElem?_eq_some_iff.1 hy21
   generalize ys21[i21]=y21 at h ⊢
   change JC _ _ _ _ [(29,E0 y21.2),(28,E0 y21.1),(4,Ee s),(12,.ptr 1018 0),(27,.fn 166 [.dptr [LS 1 (E0) p.States,LS 1 (E1) p.Water]])] [(1021,.spare 51 1 s21.length s21.length),(1018,.box 35 [OW 1021 1 (E1) s21])]
   refine G7 fun K22 hK22=>G2 (JLh (.ptr 1019 0) (Jb 1019 1 Gb4 O O) O (J4 (u:=.junk) (Ht (u:=E0 y21.1) (ds:=[E0 y21.1]) J57 O O O O O O O O) (G8 (hK22 _ _ (Gx [(4,Ee s),(12,.ptr 1018 0),(13,.dptr [E0 y21.1]),(29,E0 y21.2)] [(1021,.spare 51 1 s21.length s21.length),(1018,.box 35 [OW 1021 1 (E1) s21])] 1019 rfl rfl rfl ⟨⟨_,rfl,.same⟩,⟨_,rfl,.boxEq rfl rfl⟩,G⟩ rfl (by repeat' (first | exact .ptr | constructor)) (G2 ?_))))))
   refine JLh (.ptr 1020 0) (Jb 1020 1 Gb4 O O) O (J4 (u:=.junk) (Ht (u:=E0 y21.2) (ds:=[E0 y21.2]) J57 O O O O O O O O) (G8 (Mid_freeze [(4,Ee s),(12,.ptr 1018 0),(13,.dptr [E0 y21.1]),(14,.dptr [E0 y21.2])] [(1021,.spare 51 1 s21.length s21.length),(1018,.box 35 [OW 1021 1 (E1) s21])] 1020 rfl rfl rfl ⟨⟨_,rfl,.same⟩,⟨_,rfl,.boxEq rfl rfl⟩,G⟩ rfl (by repeat' (first | exact .ptr | constructor)) (Mid_go (Gk ?_)))))
   refine Hab (l':=[(4,Ee s),(12,.ptr 1018 0),(13,.dptr [E0 y21.1]),(14,.dptr [E0 y21.2])]) (L':=[(1021,.spare 51 1 s21.length s21.length),(1018,.box 35 [OW 1021 1 (E1) s21])]) ⟨(by repeat' constructor),⟨⟨_,rfl,.same⟩,⟨_,rfl,.boxL rfl ⟨.same rfl,G⟩⟩,G⟩,rfl⟩ ?_
   obtain⟨r23,hr23,h⟩:=Gf h
   obtain⟨r25,hr25,h⟩:=Gf h
   obtain⟨ha26,h⟩:=J6 h
   refine Q6 [4,6,8,9] [0,0,0,0,0,0,0,2,0,0] [2,0,0,0,0,1,0,2,0,0] [[(1021,.spare 51 1 s21.length s21.length),(1018,.box 35 [OW 1021 1 (E1) s21])],((1069,.vec 3 1 0 (r23.map G0))::[(1021,.spare 51 1 s21.length s21.length),(1018,.box 35 [OW 1021 1 (E1) s21])]),((1069,.vec 3 1 (0+1) (([]:List Int).map G0))::((1069,.vec 3 1 0 (r23.map G0))::[(1021,.spare 51 1 s21.length s21.length),(1018,.box 35 [OW 1021 1 (E1) s21])])),((1021,.spare 51 1 (s21++[r25]).length (s21++[r25]).length)::((1069,.vec 3 1 (0+1) (([]:List Int).map G0))::((1069,.vec 3 1 0 (r23.map G0))::[(1021,.spare 51 1 s21.length s21.length),(1018,.box 35 [OW 1021 1 (E1) s21])]))),((1018,.box 35 [OW 1021 1 (E1) (s21++[r25])])::((1021,.spare 51 1 (s21++[r25]).length (s21++[r25]).length)::((1069,.vec 3 1 (0+1) (([]:List Int).map G0))::((1069,.vec 3 1 0 (r23.map G0))::[(1021,.spare 51 1 s21.length s21.length),(1018,.box 35 [OW 1021 1 (E1) s21])]))))] Jk (by kernel_rfl) rfl rfl ?_
   refine Gc (u:=OW 1021 1 (E1) s21) O O ⟨Gw (Zf Gce O O O O) O,Gw (Zf Gce O O O O) O,Gw (Zf Gce O O O O) O,G⟩ (Gc (u:=.agg (Hb.cs s)) O O ⟨Gw (Gj J8 O O O) O,G⟩ (Gc (u:=E0 y21.1) O O ⟨Gw (Gh Zp O O O) O,G⟩ (Gc (u:=E0 y21.2) O O ⟨Gw (Gh Zp O O O) O,G⟩ (D_w (u:=.vec 1069 0 1 r23.length) O O O O (Gw (Hf4 (args:=[.agg (Hb.cs s),E0 y21.1,E0 y21.2]) (L0:=[]) (Lr:=[(1069,.vec 3 1 0 (r23.map G0))]) O (Ym.fresh0 (J49 F s y21.1 y21.2 r23 hr23)) J60 ⟨.inl O,O,.inl O,O,.inl O,O,G⟩ G O O O) O) (Gc (u:=.fn 81 [.dptr [E0 y21.1],.dptr [E0 y21.2]]) O O ⟨Gw (G30 (cs:=[.dptr [E0 y21.1],.dptr [E0 y21.2]]) O O) O,Gw (G30 (cs:=[.dptr [E0 y21.1],.dptr [E0 y21.2]]) O O) O,G⟩ (D_w (u:=E1 r25) O O O O (G85.locEq (Gw (Hf4 (args:=[.vec 1069 0 1 r23.length,.fn 81 [.dptr [E0 y21.1],.dptr [E0 y21.2]]]) (L0:=[(1069,.vec 3 1 0 (r23.map G0))]) (Lr:=[(1069,.vec 3 1 (0+1) (([]:List Int).map G0))]) O (Ym.lentData (G80 F r23 0 (fun z0=>G62 z0 y21.1 y21.2) 81 [.dptr [E0 y21.1],.dptr [E0 y21.2]] Jfe O (fun z0 q hq=>Hcc z0 y21.1 y21.2 q hq) r25 hr25)) Jff ⟨.inl O,O,.inl O,O,G⟩ ⟨O,G⟩ O O O) O) (Gfc.of [1021,1018,1069] O O ⟨O,O,O,G⟩)) (Gc (u:=LS 1 (E1) [r25]) O O ⟨Gw (Hm (xs:=[E1 r25]) O ⟨O,O,G⟩ G3b Jb1 O O O O) O,G⟩ (D_w (u:=OW 1021 1 (E1) (s21++[r25])) O O O O (Gw (Yd (f:=(E1)) (xs:=s21) (ys:=[r25]) O O O O G3b Jf5 ha26 (fun _=>O) (.inl O) O) O) (D_w0 (u:=.junk) O O O O (Gw (Ht (u:=OW 1021 1 (E1) (s21++[r25])) (ds:=[OW 1021 1 (E1) (s21++[r25])]) Jef O O O O O O O O) O) (Yz ?_))))))))))
   exact e21 _ _ (s21++[r25]) (app1 hn21 h) ⟨G,⟨⟨_,O,.same⟩,⟨_,O,.boxL O ⟨.same O,G⟩⟩,G⟩,O⟩
  ·
   intro s21 h
   rw [List.length_map] at h
   replace h:=app1 hkx21 (Ho h (Nat.lt_irrefl _))
   refine hK8 _ _ (G7 fun K27 hK27=>G2 (JLh (OW 1021 1 (E1) s21) (Zf Gce O O O O) O (JLh (OW 1021 1 (E1) s21) (G9 O O) O (JLh (G0 0) (G9 O O) O (G8 (hK27 _ _ (Hab (l':=[(8,LS 1 (E1) s21),(9,G0 0)]) (L':=[(1018,.box 35 [LS 1 (E1) s21])]) ⟨⟨.list O,.same O,G⟩,⟨⟨_,O,.boxL O ⟨.list O,G⟩⟩,G⟩,O⟩ (Gx [(8,LS 1 (E1) s21),(9,G0 0)] [] 1018 rfl rfl rfl G rfl (by exact⟨.conv (.same rfl),.conv (.same rfl),G⟩) (Gu (⟨[LS 1 (E1) s21,G0 0],[],G,O,⟨⟨_,O,.conv (.same O)⟩,⟨_,O,.conv (.same O)⟩,G⟩,O,congrArg (fun r:(List (List Int))×Int=>(.tup [LS 1 (E1) r.1,G0 r.2]:AV)) (Option.some.inj h)⟩))))))))))

def H5d (F:Nat) (s:Hb) (boxes:List Gv) (calls:Int) (p:Gf1):Option (Int×Int):=
 bnd (G9d F s boxes calls p) fun r3=>
 each (fun y19 i19 (s19:Int) nx19=>
  G32 (s19+(y19.length:Int)) fun v24=>
  nx19 v24)
 (fun(s19:Int)=>
  some (s19,r3.2)) r3.1 0 0
theorem J8e (F:Nat) (s:Hb) (boxes:List Gv) (calls:Int) (p:Gf1) (r:Int×Int) (h:H5d F s boxes calls p=some r):Pure Tryz.prog 24 [.agg (Hb.cs s),E2 boxes,G0 calls,.agg [LS 1 (E0) p.States,LS 1 (E1) p.Water]] (·=.tup [G0 r.1,G0 r.2]):=by
 unfold H5d at h
 refine H1 [.tmp 8,.tmp 9] Tryz.func24 O O ?_
 refine G7 fun K1 hK1=>G2 (JLh (.ptr 1022 0) (Jy (u:=.agg (Hb.cs s)) (cs:=(Hb.cs s)) 1022 O O O O O) O (JLh (.ptr 1023 0) (Jy (u:=.agg [LS 1 (E0) p.States,LS 1 (E1) p.Water]) (cs:=[LS 1 (E0) p.States,LS 1 (E1) p.Water]) 1023 O O O O O) O (JLh (G0 0) (G9 O O) O (JLh (G0 0) (G9 O O) O (G8 (hK1 _ _ ?_))))))
 refine Gx [(1,E2 boxes),(2,G0 calls),(4,Ee s),(7,.ptr 1023 0)] [(1023,.box 37 [LS 1 (E0) p.States,LS 1 (E1) p.Water])] 1022 rfl rfl rfl ⟨⟨_,rfl,.boxEq rfl rfl⟩,G⟩ rfl (by repeat' (first | exact .ptr | constructor)) ?_
 refine Gx [(1,E2 boxes),(2,G0 calls),(4,Ee s),(7,.dptr [LS 1 (E0) p.States,LS 1 (E1) p.Water])] [] 1023 rfl rfl rfl G rfl (by repeat' (first | exact .ptr | constructor)) ?_
 refine G7 fun K2 hK2=>G2 (JLh (.agg (Hb.cs s)) (Gj J8 O O O) O (JLh (E2 boxes) (G5 O O) O (JLh (G0 calls) (G5 O O) O (JLh (.agg [LS 1 (E0) p.States,LS 1 (E1) p.Water]) (Gj Gde O O O) O ?_))))
 obtain⟨r3,hr3,h⟩:=Gf h
 refine JLh (.tup [LS 1 (E1) r3.1,G0 r3.2]) (Gq (args:=[.agg (Hb.cs s),E2 boxes,G0 calls,.agg [LS 1 (E0) p.States,LS 1 (E1) p.Water]]) O (H3c F s boxes calls p r3 hr3) J66 ⟨O,O,O,O,O,O,O,O,G⟩) O (JLh (.tup [LS 1 (E1) r3.1,G0 r3.2]) (G5 O O) O (JLh (LS 1 (E1) r3.1) (J1 O O O) O (JLh (G0 r3.2) (J1 O O O) O (JLh (LS 1 (E1) r3.1) (G9 O O) O (JLh (G0 r3.2) (G9 O O) O (G8 (hK2 _ _ (G7 fun K4 hK4=>G2 (JLh (G0 0) (G9 O O) O (G8 (hK4 _ _ (G7 (fun K5 hK5=>?_)))))))))))))
 refine G7 fun K6 hK6=>G2 (JLh (LS 1 (E1) r3.1) (G5 O O) O (H3 (f:=(E1)) (xs:=r3.1) G3b O O (fun hm24=>?_) O O O))
 refine JLh (G0 0) (G5 O O) O (G8 (hK6 _ _ (Gk ?_)))
 obtain⟨b19,kx19,hb19,hkx19,h⟩:=Hw h
 refine Hc (fun i19 (s19:Int)=>each b19 kx19 (List.drop i19 r3.1) i19 s19=some r) (fun i19 s19=>[(11,G0 r3.2),(12,G0 s19),(23,LS 1 (E1) r3.1),(24,En r3.1.length),(25,En i19)]) (fun i19 s19=>[]) (fun i19=>r3.1.length - i19) 0 0 h ⟨(by repeat' constructor),G,rfl⟩ ?_
 clear h
 intro i19 s19 hi19 K19 e19
 refine G7 fun K20 hK20=>G2 (JLh (BL (decide ((i19:Int) < (r3.1.length:Int)))) (J2 O O O) O (G8 (hK20 _ _ (G7 (fun K21 hK21=>Gn O (fun hb=>?_) (fun hb=>?_))))))
 ·
  have hk19:=Jc hb
  obtain⟨y19,nx19,hy19,hn19,h⟩:=Hn hi19 hk19
  replace h:=Yb hb19 h
  refine Gp (hK21 _ _ (G7 (fun K22 hK22=>Gk (G7 fun K23 hK23=>G2 (JLh (.dptr [E1 y19]) (Gt (f:=(E1)) (xs:=r3.1) (y:=y19) O O O G3b hy19 O) O (JLh (E1 y19) (Gh Hg O O O) O (JLh (E1 y19) (G9 O O) O (G8 (hK23 _ _ (G2 (JLh (G0 s19) (G5 O O) O (JLh (E1 y19) (G5 O O) O (H3 (f:=G0) (xs:=y19) H0 O O (fun hm31=>?_) O O O)))))))))))))
  obtain⟨v24,hv24,h⟩:=Qw h
  refine JLh (G0 v24) (Hy hv24 O O O) O (JLh (G0 v24) (G9 O O) O (G8 (hK22 _ _ (G2 (JLh (G0 ((i19+1:Nat):Int)) (Hy (He hk19 hm24) O O O) O (JLh (G0 ((i19+1:Nat):Int)) (G5 O O) O (G8 (e19 _ _ (i19+1) v24 (app1 hn19 h) (by omega) ⟨(by repeat' constructor),G,rfl⟩))))))))
 ·
  have h:=app1 hkx19 (Ho hi19 (H9 hb))
  refine Hk (hK5 _ _ (G7 fun K25 hK25=>G2 (JLh (G0 s19) (G5 O O) O (JLh (G0 r3.2) (G5 O O) O (JLh (G0 s19) (G9 O O) O (JLh (G0 r3.2) (G9 O O) O (G8 (hK25 _ _ (Gu (⟨[G0 s19,G0 r3.2],[],G,O,⟨⟨_,O,.conv (.same O)⟩,⟨_,O,.conv (.same O)⟩,G⟩,O,congrArg (fun r:Int×Int=>(.tup [G0 r.1,G0 r.2]:AV)) (Option.some.inj h)⟩))))))))))
end
end Go.Proofs.YtfkilljboodoaaaGreat
