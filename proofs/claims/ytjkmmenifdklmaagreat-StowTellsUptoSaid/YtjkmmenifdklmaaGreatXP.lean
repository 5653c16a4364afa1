/-
 Models of functions of the program,and that they return what the models say.
-/
import Derived.Test.YtjkmmenifdklmaaGreatXPb
set_option maxRecDepth 100000
set_option linter.unusedVariables false
set_option linter.unusedSimpArgs false
namespace Go.Proofs.YtjkmmenifdklmaaGreat
open Go.RowKit
noncomputable section
open XAF
open XLF
open XCF
open XGF
open XPF

def Za (F:Nat) (s:H4) (boxes:List Gh) (l:List Stowed) (ids:List Int):Option ((List Int)×Int):=
 bnd (Ru F s boxes l) fun r4=>
 bif (!r4) then
 (some ([],2))
 else
 (bnd (Gcd (l.length:Int)) fun m7=>
  need (decide (1*m7≤281474976710656∧m7≤maxLen∧m7*1≤16777216)) <|
  each (fun y81 i81 (s81:(List Bool)) nx81=>
   bnd (Y3 l y81) fun r87=>
   bif decide (r87 < 0) then
   (some ([],6))
   else
   (bnd (Y3 l y81) fun r89=>
    Qm s81 r89 fun y90=>
    nx81 (s81.set r89.toNat true)))
  (fun(s81:(List Bool))=>
   loop (fun nx93 (s93:Bool×(List Bool))=>
    bif s93.1 then
    (each (fun y98 i98 (s98:Bool×(List Bool)) nx98=>
      each (fun y177 i177 (s177:Bool×(List Bool)) nx177=>
       jp (fun kj180=>
        Qm s177.2 (i98:Int) fun y183=>
        bnd (bif (!(!y183)) then Qm s177.2 (i177:Int) some else some default) fun y184=>
        bif ((!y183)||y184) then
        (kj180 (s177.1,s177.2))
        else
        (bnd (Z9 s y98.Slot.G4) fun r186=>
         bnd (Y6 y177.Slot y98.Slot) fun r188=>
         bnd (bif ((!r188)&&(decide (0≤r186))) then Y5 s y177.Slot.G4 r186 else some default) fun r189=>
         bif (r188||((decide (0≤r186))&&r189)) then
         (Qm s177.2 (i177:Int) fun y190=>
          kj180 (true,(s177.2.set (i177:Int).toNat true)))
         else
         (kj180 (s177.1,s177.2)))) fun(j180:Bool×(List Bool))=>
       nx177 (j180.1,j180.2))
      (fun(s177:Bool×(List Bool))=>
       nx98 (s177.1,s177.2)) l 0 (s98.1,s98.2))
     (fun(s98:Bool×(List Bool))=>
      nx93 (s98.1,s98.2)) l 0 (false,s93.2))
    else
    (each (fun y209 i209 (s209:(List Int)) nx209=>
      jp (fun kj212=>
       Qm s93.2 (i209:Int) fun y214=>
       bif y214 then
       (need (decide ((s209.length+[y209.Gh].length)*8≤140737488355328∧s209.length+[y209.Gh].length≤maxLen)) <|
        kj212 (s209++[y209.Gh]))
       else
       (kj212 s209)) fun(j212:(List Int))=>
      nx209 j212)
     (fun(s209:(List Int))=>
      some (s209,0)) l 0 [])) F (true,s81)) ids 0 (List.replicate m7 (false:Bool)))
theorem H41 (F:Nat) (s:H4) (boxes:List Gh) (l:List Stowed) (ids:List Int) (r:(List Int)×Int) (h:Za F s boxes l ids=some r):Pure Eh 20 [.agg (H4.cs s),E2 boxes,E1 l,E0 ids] (·=.tup [E0 r.1,G0 r.2]):=by
 unfold Za at h
 refine Gy [.tmp 8,.tmp 9] Tryz.func20 O O (Jr fun hK1=>(JLh (.ptr 1036 0) (Ji (cs:=(H4.cs s)) 1036 O O O O O) O (JLh (E0 ([]:List Int)) (Hy 1 O O) O (Yy (G0 0) O (G7 (hK1 ?_))))))
 refine Gz [(1,E2 boxes),(2,E1 l),(3,E0 ids),(4,Ea s)] [] 1036 rfl rfl rfl G rfl (by repeat' (first | exact .ptr | constructor)) (Js fun hK2=>Jr fun hK3=>(JLh (.agg (H4.cs s)) (Gi Hu O O O) O (Yy (E2 boxes) O (Yy (E1 l) O ?_))))
 obtain⟨r4,hr4,h⟩:=Ge h
 refine JLh (BL r4) (Gn O (G82 F s boxes l r4 hr4) J99 ⟨O,O,O,O,O,O,G⟩) O (JLh (BL (!r4)) (R5 (b:=r4) O O) O (G7 (hK3 (JCc O h (fun h hb=>?_) (fun h hb=>?_)))))
 ·
  refine Jr fun hK5=>(JLh (E0 ([]:List Int)) (Hy 1 O O) O (Yy (G0 2) O (G7 (hK5 (Gr (⟨[E0 ([]:List Int),G0 2],[],G,O,⟨⟨_,O,.conv (.same O)⟩,⟨_,O,.conv (.same O)⟩,G⟩,O,congrArg (fun r:(List Int)×Int=>(.tup [E0 r.1,G0 r.2]:AV)) (Option.some.inj h)⟩))))))
 ·
  refine Gp (hK2 (Jr fun hK6=>(Yy (E1 l) O (JLl H0 O O O fun hm24=>?_))))
  obtain⟨m7,hm7,h⟩:=Ge h
  obtain⟨ha8,h⟩:=J2 h
  refine JLh (.vec 1038 0 1 ((List.replicate m7 (false:Bool)).length)) (A_vmakeM 1038 (f:=BL) (n:=m7) false [.bool false] O O O O G69 tf_elem_4 tf_zero_4 (G4e hm7) (G4e hm7) ha8 ⟨.inl O,G⟩ O) O (Yy (.vec 1038 0 1 ((List.replicate m7 (false:Bool)).length)) O (G7 (hK6 (Js fun hK9=>Jr fun hK10=>(Yy (G0 0) O (G7 (hK10 (Gs ?_))))))))
  obtain⟨b81,kx81,hb81,hkx81,h⟩:=J5 h
  refine Hc (fun i81 (s81:(List Bool))=>each b81 kx81 (List.drop i81 ids) i81 s81=some r) (fun i81 s81=>[(2,E1 l),(3,E0 ids),(4,Ea s),(10,.vec 1038 0 1 ((List.replicate m7 (false:Bool)).length)),(11,Eg i81)]) (fun i81 s81=>[(1038,.vec 4 1 0 (s81.map BL))]) (fun i81=>ids.length - i81) 0 (List.replicate m7 (false:Bool)) h ⟨(by repeat' constructor),⟨⟨_,rfl,.vec⟩,G⟩,rfl⟩ ?_
  clear h
  intro i81 s81 hi81 K81 e81
  refine Js fun hK82=>Jr fun hK83=>(Yy (Eg i81) O (Yy (E0 ids) O (JLl Gu O O O fun hm28=>(JLh (BL (decide ((i81:Int) < (ids.length:Int)))) (J4 O O O) O (G7 (hK83 (Gk O (fun hb=>?_) (fun hb=>?_))))))))
  ·
   have hk81:=Jj hb
   obtain⟨y81,nx81,hy81,hn81,h⟩:=Hq hi81 hk81
   replace h:=Z1 hb81 h
   refine Gp (hK82 (Js fun hK84=>Gs (Js fun hK85=>Jr fun hK86=>(Yy (E1 l) O (Yy (E0 ids) O (Yy (Eg i81) O (JLh (.dptr [G0 y81]) (Gv (f:=G0) (xs:=ids) (y:=y81) O O O Gu hy81 O) O (JLh (G0 y81) (Gg Gd O O O) O ?_))))))))
   obtain⟨r87,hr87,h⟩:=Ge h
   refine JLh (G0 r87) (Gn O (G53 l y81 r87 hr87) He0 ⟨O,O,O,O,G⟩) O (JLh (BL (decide (r87 < 0))) (J4 O O O) O (G7 (hK86 (JCc O h (fun h hb=>?_) (fun h hb=>?_)))))
   ·
    refine Jr fun hK88=>(JLh (E0 ([]:List Int)) (Hy 1 O O) O (Yy (G0 6) O (G7 (hK88 (Gr (⟨[E0 ([]:List Int),G0 6],[],G,O,⟨⟨_,O,.conv (.same O)⟩,⟨_,O,.conv (.same O)⟩,G⟩,O,congrArg (fun r:(List Int)×Int=>(.tup [E0 r.1,G0 r.2]:AV)) (Option.some.inj h)⟩))))))
   ·
    refine Gp (hK85 (G3 (Yy (.vec 1038 0 1 ((List.replicate m7 (false:Bool)).length)) O (Yy (E1 l) O (Yy (E0 ids) O (Yy (Eg i81) O (JLh (.dptr [G0 y81]) (Gv (f:=G0) (xs:=ids) (y:=y81) O O O Gu hy81 O) O (JLh (G0 y81) (Gg Gd O O O) O ?_))))))))
    obtain⟨r89,hr89,h⟩:=Ge h
    refine JLh (G0 r89) (Gn O (G53 l y81 r89 hr89) He0 ⟨O,O,O,O,G⟩) O ?_
    obtain⟨y90,hmy90,hy90,h⟩:=Hbd h
    refine JLh (.vptr 1038 0 r89.toNat 0) (J1c (f:=BL) (xs:=s81) (y:=y90) O O O O G69 hy90 hmy90) O (Jk (u:=.junk) (Je1 (f:=BL) (xs:=s81) (z:=true) Jda O O O O (List.getElem?_eq_some_iff.1 hy90).1 O O O O) (G7 (hK84 (G3 (Yy (Eg i81) O (JLh (G0 ((i81+1:Nat):Int)) (Hs (He hk81 hm28) O O O) O (Yy (G0 ((i81+1:Nat):Int)) O (G7 (e81 _ _ (i81+1) (s81.set r89.toNat true) (app1 hn81 h) (by omega) ⟨(by repeat' constructor),⟨⟨_,rfl,.vec⟩,G⟩,rfl⟩)))))))))
  ·
   have h:=app1 hkx81 (Hr hi81 (Ha hb))
   refine Hi (hK9 (Js fun hK91=>Jr fun hK92=>(Yy (BL true) O (G7 (hK92 (Gs ?_))))))
   obtain⟨b93,hb93,h⟩:=loop_in h
   refine Hc (fun i93 (s93:Bool×(List Bool))=>loop b93 i93 s93=some r) (fun i93 s93=>[(2,E1 l),(4,Ea s),(10,.vec 1038 0 1 ((List.replicate m7 (false:Bool)).length)),(12,BL s93.1)]) (fun i93 s93=>[(1038,.vec 4 1 0 (s93.2.map BL))]) (fun i93=>i93) F (true,s81) h ⟨(by repeat' constructor),⟨⟨_,rfl,.vec⟩,G⟩,rfl⟩ ?_
   clear h
   intro i93 s93 hi93 K93 e93
   obtain⟨m93,nx93,hm_93,hn93,h⟩:=Jac hi93
   replace h:=app2 hb93 h
   refine Js fun hK94=>Jr fun hK95=>(Yy (BL s93.1) O (G7 (hK95 (JCc O h (fun h hb=>?_) (fun h hb=>?_)))))
   ·
    refine Gp (hK94 (Gs (Jr fun hK96=>(Yy (BL false) O (G7 (hK96 (Jr fun hK97=>(Yy (G0 0) O (G7 (hK97 (Gs ?_)))))))))))
    obtain⟨b98,kx98,hb98,hkx98,h⟩:=J5 h
    refine Hc (fun i98 (s98:Bool×(List Bool))=>each b98 kx98 (List.drop i98 l) i98 s98=some r) (fun i98 s98=>[(2,E1 l),(4,Ea s),(10,.vec 1038 0 1 ((List.replicate m7 (false:Bool)).length)),(12,BL s98.1),(13,Eg i98)]) (fun i98 s98=>[(1038,.vec 4 1 0 (s98.2.map BL))]) (fun i98=>l.length - i98) 0 (false,s93.2) h ⟨(by repeat' constructor),⟨⟨_,rfl,.vec⟩,G⟩,rfl⟩ ?_
    clear h
    intro i98 s98 hi98 K98 e98
    refine Js fun hK99=>Jr fun hK100=>(Yy (Eg i98) O (Yy (E1 l) O (JLl H0 O O O fun hm50=>(JLh (BL (decide ((i98:Int) < (l.length:Int)))) (J4 O O O) O (G7 (hK100 (Gk O (fun hb=>?_) (fun hb=>?_))))))))
    ·
     have hk98:=Jj hb
     obtain⟨y98,nx98,hy98,hn98,h⟩:=Hq hi98 hk98
     replace h:=Z1 hb98 h
     refine Gp (hK99 (Js fun hK101=>Gs (Jr fun hK102=>(Yy (G0 0) O (G7 (hK102 (Gs ?_)))))))
     obtain⟨b177,kx177,hb177,hkx177,h⟩:=J5 h
     refine Hc (fun i177 (s177:Bool×(List Bool))=>each b177 kx177 (List.drop i177 l) i177 s177=some r) (fun i177 s177=>[(2,E1 l),(4,Ea s),(10,.vec 1038 0 1 ((List.replicate m7 (false:Bool)).length)),(12,BL s177.1),(13,Eg i98),(14,Eg i177)]) (fun i177 s177=>[(1038,.vec 4 1 0 (s177.2.map BL))]) (fun i177=>l.length - i177) 0 (s98.1,s98.2) h ⟨(by repeat' constructor),⟨⟨_,rfl,.vec⟩,G⟩,rfl⟩ ?_
     clear h
     intro i177 s177 hi177 K177 e177
     refine Js fun hK178=>Jr fun hK179=>(Yy (Eg i177) O (Yy (E1 l) O (JLl H0 O O O fun hm56=>(JLh (BL (decide ((i177:Int) < (l.length:Int)))) (J4 O O O) O (G7 (hK179 (Gk O (fun hb=>?_) (fun hb=>?_))))))))
     ·
      have hk177:=Jj hb
      obtain⟨y177,nx177,hy177,hn177,h⟩:=Hq hi177 hk177
      replace h:=Z1 hb177 h
      refine Gp (hK178 ?_)
      obtain⟨kj180,hkj180,h⟩:=Gbf h
      refine G73 (fun j180:Bool×(List Bool)=>kj180 j180=some r) (fun j180=>[(2,E1 l),(4,Ea s),(10,.vec 1038 0 1 ((List.replicate m7 (false:Bool)).length)),(12,BL j180.1),(13,Eg i98),(14,Eg i177)]) (fun j180=>[(1038,.vec 4 1 0 (j180.2.map BL))]) (fun Kj180 ej180=>?_) ?_
      ·
       refine Gs (Js fun hK181=>Jr fun hK182=>(Yy (.vec 1038 0 1 ((List.replicate m7 (false:Bool)).length)) O (Yy (Eg i98) O ?_)))
       obtain⟨y183,hmy183,hy183,h⟩:=Hbd h
       refine JLh (.vptr 1038 0 ((i98:Int).toNat) 0) (J1c (f:=BL) (xs:=s177.2) (y:=y183) O O O O G69 hy183 hmy183) O (JLh (BL y183) (Jcd (f:=BL) (xs:=s177.2) (y:=y183) Ra O O O hy183 O O) O (JLh (BL (!y183)) (R5 (b:=y183) O O) O (Yy (BL (!y183)) O (JLo (.vec 1038 0 1 ((List.replicate m7 (false:Bool)).length)) [] O .scf G (fun hc=>G5 O O) O (JLo (Eg i177) [] O .scf G (fun hc=>G5 O O) O ?_)))))
       obtain⟨y184,hy184,h⟩:=Ge h
       refine JLo (.vptr 1038 0 ((i177:Int).toNat) 0) [66,67] O .scf ⟨Ua,Ua,G⟩ (fun hc=>J1c (f:=BL) (xs:=s177.2) (y:=y184) O O O O G69 (Jaf (Gx hc hy184)) (Q5d (Gx hc hy184))) O (JLo (BL y184) [68] O .scf ⟨Ua,G⟩ (fun hc=>Jcd (f:=BL) (xs:=s177.2) (y:=y184) Ra O O O (Jaf (Gx hc hy184)) O O) O (JLh (BL ((!y183)||y184)) (Yi O O O O) O (G7 (hK182 (JCc O h (fun h hb=>?_) (fun h hb=>?_))))))
       ·
        refine Hi (ej180 _ _ (s177.1,s177.2) h ⟨(by repeat' constructor),⟨⟨_,rfl,.vec⟩,G⟩,rfl⟩)
       ·
        refine Gp (hK181 (Js fun hK185=>G44 (l':=[(2,E1 l),(4,Ea s),(10,.vec 1038 0 1 ((List.replicate m7 (false:Bool)).length)),(12,BL s177.1),(13,Eg i98),(14,Eg i177)]) (L':=[(1038,.vec 4 1 0 (s177.2.map BL))]) ⟨(by repeat' constructor),⟨⟨_,rfl,.vec⟩,G⟩,rfl⟩ ?_))
        obtain⟨r186,hr186,h⟩:=Ge h
        refine JC_d0 J8 (by kernel_rfl) (Dq (.agg (H4.cs s)) (Gi Hu O O O) O (Dq (E1 l) (G5 O O) O (Dq (Eg i98) (G5 O O) O (Dq (Eb y98) (Gv (f:=Stowed.av) (xs:=l) (y:=y98) O O O H0 hy98 O) O (Dq (.dptr ((Stowed.cs y98).drop 1)) (Ga Ht O O O) O (Dq (.dptr ((Stowed.cs y98).drop 1)) (Ga J6 O O O) O (Dq (G0 y98.Slot.G4) (Gg Gd O O O) O (Dq (G0 r186) (Gn (args:=[.agg (H4.cs s),G0 y98.Slot.G4]) O (H40 s y98.Slot.G4 r186 hr186) Q42 ⟨O,O,O,O,G⟩) O (Dq (G0 r186) (G8 O O) O (Dnil ?_))))))))))
        refine hK185 (Js fun hK187=>G44 (l':=[(2,E1 l),(4,Ea s),(10,.vec 1038 0 1 ((List.replicate m7 (false:Bool)).length)),(12,BL s177.1),(13,Eg i98),(14,Eg i177),(15,G0 r186)]) (L':=[(1038,.vec 4 1 0 (s177.2.map BL))]) ⟨(by repeat' constructor),⟨⟨_,rfl,.vec⟩,G⟩,rfl⟩ ?_)
        obtain⟨r188,hr188,h⟩:=Ge h
        obtain⟨r189,hr189,h⟩:=Ge h
        refine JC_d0 J8 (by kernel_rfl) (Dq (E1 l) (G5 O O) O (Dq (Eg i177) (G5 O O) O (Dq (Eb y177) (Gv (f:=Stowed.av) (xs:=l) (y:=y177) O O O H0 hy177 O) O (Dq (.dptr ((Stowed.cs y177).drop 1)) (Ga Ht O O O) O (Dq (.agg ((Stowed.cs y177).drop 1)) (Gi Q9 O O O) O (Dq (E1 l) (G5 O O) O (Dq (Eg i98) (G5 O O) O (Dq (Eb y98) (Gv (f:=Stowed.av) (xs:=l) (y:=y98) O O O H0 hy98 O) O (Dq (.dptr ((Stowed.cs y98).drop 1)) (Ga Ht O O O) O (Dq (.agg ((Stowed.cs y98).drop 1)) (Gi Q9 O O O) O (Dq (BL r188) (Gn (args:=[.agg ((Stowed.cs y177).drop 1),.agg ((Stowed.cs y98).drop 1)]) O (G97 y177.Slot y98.Slot r188 hr188) J90 ⟨O,O,O,O,G⟩) O (Dq (BL r188) (G5 O O) O (Do (G0 r186) [] O .scf G (fun hc=>G5 O O) O ?_)))))))))))))
        refine Do (BL (decide (0≤r186))) [91] O .scf ⟨Ua,G⟩ (fun hc=>G17 O O O) O (Do (BL (decide (0≤r186))) [92] O .scf ⟨Ua,G⟩ (fun hc=>G5 O O) O (Do (.agg (H4.cs s)) [] O .optt G (fun hc=>Gi Hu O O O) O (Do (E1 l) [] O .optt G (fun hc=>G5 O O) O (Do (Eg i177) [] O .optt G (fun hc=>G5 O O) O (Do (Eb y177) [95,96] O .optt ⟨Ua,Ua,G⟩ (fun hc=>Gv (f:=Stowed.av) (xs:=l) (y:=y177) O O O H0 hy177 O) O (Do (.dptr ((Stowed.cs y177).drop 1)) [97] O .optt ⟨Ua,G⟩ (fun hc=>Ga Ht O O O) O (Do (.dptr ((Stowed.cs y177).drop 1)) [98] O .optt ⟨Ua,G⟩ (fun hc=>Ga J6 O O O) O (Do (G0 y177.Slot.G4) [99] O .optt ⟨Ua,G⟩ (fun hc=>Gg Gd O O O) O (Do (G0 r186) [] O .optt G (fun hc=>G5 O O) O (Do (BL r189) [94,100,101] O .optt ⟨Ua,Ua,Ua,G⟩ (fun hc=>Gn (args:=[.agg (H4.cs s),G0 y177.Slot.G4,G0 r186]) O (H52 s y177.Slot.G4 r186 r189 (Gx hc hr189)) Q41 ⟨O,O,O,O,O,O,G⟩) O (Dg (.opt (!r188) (BL ((decide (0≤r186))&&r189))) (Gf [(93,BL (decide (0≤r186))),(102,_)] O O O .scf ⟨.all id,.part,G⟩ (fun hc=>Hx O O O O) O) O (Dq (BL (r188||((decide (0≤r186))&&r189))) (Yi O O O O) O (Dnil ?_)))))))))))))
        refine hK187 (JCc O h (fun h hb=>?_) (fun h hb=>?_))
        ·
         refine G3 (Yy (.vec 1038 0 1 ((List.replicate m7 (false:Bool)).length)) O (Yy (Eg i177) O ?_))
         obtain⟨y190,hmy190,hy190,h⟩:=Hbd h
         refine JLh (.vptr 1038 0 ((i177:Int).toNat) 0) (J1c (f:=BL) (xs:=s177.2) (y:=y190) O O O O G69 hy190 hmy190) O (Jk (u:=.junk) (Je1 (f:=BL) (xs:=s177.2) (z:=true) Jda O O O O (List.getElem?_eq_some_iff.1 hy190).1 O O O O) (Yy (BL true) O (G7 (ej180 _ _ (true,(s177.2.set (i177:Int).toNat true)) h ⟨(by repeat' constructor),⟨⟨_,rfl,.vec⟩,G⟩,rfl⟩))))
        ·
         refine Gp (ej180 _ _ (s177.1,s177.2) h ⟨(by repeat' constructor),⟨⟨_,rfl,.vec⟩,G⟩,rfl⟩)
      ·intro j180 h
       replace h:=app1 hkj180 h
       refine G3 (Yy (Eg i177) O (JLh (G0 ((i177+1:Nat):Int)) (Hs (He hk177 hm56) O O O) O (Yy (G0 ((i177+1:Nat):Int)) O (G7 (e177 _ _ (i177+1) (j180.1,j180.2) (app1 hn177 h) (by omega) ⟨(by repeat' constructor),⟨⟨_,rfl,.vec⟩,G⟩,rfl⟩)))))
     ·
      have h:=app1 hkx177 (Hr hi177 (Ha hb))
      refine Hi (hK101 (G3 (Yy (Eg i98) O (JLh (G0 ((i98+1:Nat):Int)) (Hs (He hk98 hm56) O O O) O (Yy (G0 ((i98+1:Nat):Int)) O (G7 (e98 _ _ (i98+1) (s177.1,s177.2) (app1 hn98 h) (by omega) ⟨(by repeat' constructor),⟨⟨_,rfl,.vec⟩,G⟩,rfl⟩)))))))
    ·
     have h:=app1 hkx98 (Hr hi98 (Ha hb))
     refine Hi (e93 _ _ m93 (s98.1,s98.2) (app1 hn93 h) (by omega) ⟨(by repeat' constructor),⟨⟨_,rfl,.vec⟩,G⟩,rfl⟩)
   ·
    refine Hi (hK91 (Jr fun hK191=>(JLh (OW 1037 1 G0 ([]:List Int)) (Gb0 1037 3 1 O O O) O (G7 (hK191 (Js fun hK192=>Jr fun hK193=>(Yy (G0 0) O (G7 (hK193 (Gs ?_))))))))))
    obtain⟨b209,kx209,hb209,hkx209,h⟩:=J5 h
    refine Hc (fun i209 (s209:(List Int))=>each b209 kx209 (List.drop i209 l) i209 s209=some r) (fun i209 s209=>[(2,E1 l),(10,.vec 1038 0 1 ((List.replicate m7 (false:Bool)).length)),(16,OW 1037 1 G0 s209),(17,Eg i209)]) (fun i209 s209=>[(1038,.vec 4 1 0 (s93.2.map BL)),(1037,.spare 3 1 s209.length s209.length)]) (fun i209=>l.length - i209) 0 [] h ⟨(by repeat' constructor),⟨⟨_,rfl,.vec⟩,⟨_,rfl,.same⟩,G⟩,rfl⟩ ?_
    clear h
    intro i209 s209 hi209 K209 e209
    refine Js fun hK210=>Jr fun hK211=>(Yy (Eg i209) O (Yy (E1 l) O (JLl H0 O O O fun hm110=>(JLh (BL (decide ((i209:Int) < (l.length:Int)))) (J4 O O O) O (G7 (hK211 (Gk O (fun hb=>?_) (fun hb=>?_))))))))
    ·
     have hk209:=Jj hb
     obtain⟨y209,nx209,hy209,hn209,h⟩:=Hq hi209 hk209
     replace h:=Z1 hb209 h
     refine Gp (hK210 ?_)
     obtain⟨kj212,hkj212,h⟩:=Gbf h
     refine G73 (fun j212:(List Int)=>kj212 j212=some r) (fun j212=>[(2,E1 l),(10,.vec 1038 0 1 ((List.replicate m7 (false:Bool)).length)),(16,OW 1037 1 G0 j212),(17,Eg i209)]) (fun j212=>[(1038,.vec 4 1 0 (s93.2.map BL)),(1037,.spare 3 1 j212.length j212.length)]) (fun Kj212 ej212=>?_) ?_
     ·
      refine Gs (Jr fun hK213=>(Yy (.vec 1038 0 1 ((List.replicate m7 (false:Bool)).length)) O (Yy (Eg i209) O ?_)))
      obtain⟨y214,hmy214,hy214,h⟩:=Hbd h
      refine JLh (.vptr 1038 0 ((i209:Int).toNat) 0) (J1c (f:=BL) (xs:=s93.2) (y:=y214) O O O O G69 hy214 hmy214) O (JLh (BL y214) (Jcd (f:=BL) (xs:=s93.2) (y:=y214) Ra O O O hy214 O O) O (G7 (hK213 (JCc O h (fun h hb=>?_) (fun h hb=>?_)))))
      ·
       refine G3 (Yy (OW 1037 1 G0 s209) O (Yy (E1 l) O (Yy (Eg i209) O (JLh (Eb y209) (Gv (f:=Stowed.av) (xs:=l) (y:=y209) O O O H0 hy209 O) O (JLh (Eb y209) (Ga Q5 O O O) O (JLh (G0 y209.Gh) (Gg Gd O O O) O (JLh (E0 [y209.Gh]) (Hn (xs:=[G0 y209.Gh]) O ⟨O,O,G⟩ Gu Y2 O O O O) O ?_)))))))
       obtain⟨ha215,h⟩:=J2 h
       refine JLh (OW 1037 1 G0 (s209++[y209.Gh])) (Rj (f:=G0) (xs:=s209) (ys:=[y209.Gh]) O O O O Gu G18 ha215 (fun _=>O) (.inl O) O) O (Yy (OW 1037 1 G0 (s209++[y209.Gh])) O (G7 (ej212 _ _ (s209++[y209.Gh]) h ⟨(by repeat' constructor),⟨⟨_,rfl,.vec⟩,⟨_,rfl,.same⟩,G⟩,rfl⟩)))
      ·
       refine Gp (ej212 _ _ s209 h ⟨(by repeat' constructor),⟨⟨_,rfl,.vec⟩,⟨_,rfl,.same⟩,G⟩,rfl⟩)
     ·intro j212 h
      replace h:=app1 hkj212 h
      refine G3 (Yy (Eg i209) O (JLh (G0 ((i209+1:Nat):Int)) (Hs (He hk209 hm110) O O O) O (Yy (G0 ((i209+1:Nat):Int)) O (G7 (e209 _ _ (i209+1) j212 (app1 hn209 h) (by omega) ⟨(by repeat' constructor),⟨⟨_,rfl,.vec⟩,⟨_,rfl,.same⟩,G⟩,rfl⟩)))))
    ·
     have h:=app1 hkx209 (Hr hi209 (Ha hb))
     refine Hi (hK192 (Jr fun hK216=>(Yy (OW 1037 1 G0 s209) O (Yy (OW 1037 1 G0 s209) O (Yy (G0 0) O (G7 (hK216 (Gr (⟨[E0 s209,G0 0],[],G,O,⟨⟨_,O,.conv (.list O)⟩,⟨_,O,.conv (.same O)⟩,G⟩,O,congrArg (fun r:(List Int)×Int=>(.tup [E0 r.1,G0 r.2]:AV)) (Option.some.inj h)⟩)))))))))

def Rm (F:Nat) (s:H4) (boxes:List Gh) (l:List Stowed) (ids:List Int) (n:Int) (half:Int):Option Bool:=
 bnd (G00 s boxes l ids) fun r4=>
 bif (!r4) then
 (bnd (Rv F) fun r6=>
  some r6)
 else
 (bnd (Yu s) fun r8=>
  bnd (Yd boxes) fun r9=>
  bnd (Ro l) fun r10=>
  bnd (Qe ids) fun r11=>
  bnd (G2a r9.1 n) fun r13=>
  bnd (Qr boxes n) fun r15=>
  bnd (bif (!((!decide (r13.1=r15.1))||(!(r13.2==r15.2)))) then G12 (H4.mk (r8.Columns.1.map Gw.pl) (r8.Covers.1.map H7.pl) r8.Light r8.Rows.1 r8.Frames.1 (r8.Tanks.1.map Hb.pl) r8.G2) r9.1 r10.1 else some default) fun r18=>
  bnd (bif (!((!decide (r13.1=r15.1))||(!(r13.2==r15.2)))) then Ru F s boxes l else some default) fun r19=>
  bnd (bif (!(((!decide (r13.1=r15.1))||(!(r13.2==r15.2)))||(!(r18==r19)))) then G30 r9.1 r10.1 n half else some default) fun r20=>
  bnd (bif (!(((!decide (r13.1=r15.1))||(!(r13.2==r15.2)))||(!(r18==r19)))) then Qd boxes l n half else some default) fun r21=>
  bif ((((!decide (r13.1=r15.1))||(!(r13.2==r15.2)))||(!(r18==r19)))||(decide (r20≠r21))) then
  (some false)
  else
  (bnd (G42 r10.1 n) fun r24=>
   bnd (Zb l n) fun r26=>
   bnd (G0f F (H4.mk (r8.Columns.1.map Gw.pl) (r8.Covers.1.map H7.pl) r8.Light r8.Rows.1 r8.Frames.1 (r8.Tanks.1.map Hb.pl) r8.G2) r9.1 r10.1 r11.1) fun r28=>
   bnd (Za F s boxes l ids) fun r30=>
   bnd (bif (!((decide (r24.2≠r26.2))||(decide (r28.2≠r30.2)))) then Jc r24.1 r26.1 else some default) fun r33=>
   bnd (bif (!(((decide (r24.2≠r26.2))||(decide (r28.2≠r30.2)))||(!r33))) then Jc r28.1 r30.1 else some default) fun r34=>
   bif ((((decide (r24.2≠r26.2))||(decide (r28.2≠r30.2)))||(!r33))||(!r34)) then
   (some false)
   else
   (bnd (Yw r8 s) fun r37=>
    bnd (bif r37 then Ye r9 boxes else some default) fun r38=>
    bnd (bif (r37&&r38) then Rr r10 l else some default) fun r39=>
    bnd (bif ((r37&&r38)&&r39) then J3 r11 ids else some default) fun r40=>
    bnd (bif (((r37&&r38)&&r39)&&r40) then Rv F else some default) fun r41=>
    some ((((r37&&r38)&&r39)&&r40)&&r41))))
theorem Gdf (F:Nat) (s:H4) (boxes:List Gh) (l:List Stowed) (ids:List Int) (n:Int) (half:Int) (r:Bool) (h:Rm F s boxes l ids n half=some r):Pure Eh 3 [.agg (H4.cs s),E2 boxes,E1 l,E0 ids,G0 n,U8 half] (·=BL r):=by
 unfold Rm at h
 refine Gy [.tmp 12] Tryz.func3 O O (Jr fun hK1=>(JLh (.ptr 1001 0) (Ji (cs:=(H4.cs s)) 1001 O O O O O) O (Yy (BL false) O (G7 (hK1 (Gz [(1,E2 boxes),(2,E1 l),(3,E0 ids),(4,G0 n),(5,U8 half),(6,Ea s)] [] 1001 rfl rfl rfl G rfl (by repeat' (first | exact .ptr | constructor)) ?_))))))
 refine Js fun hK2=>Jr fun hK3=>(JLh (.agg (H4.cs s)) (Gi Hu O O O) O (Yy (E2 boxes) O (Yy (E1 l) O (Yy (E0 ids) O ?_))))
 obtain⟨r4,hr4,h⟩:=Ge h
 refine JLh (BL r4) (Gn O (H76 s boxes l ids r4 hr4) tf_call_5 ⟨O,O,O,O,O,O,O,O,G⟩) O (JLh (BL (!r4)) (R5 (b:=r4) O O) O (G7 (hK3 (JCc O h (fun h hb=>?_) (fun h hb=>?_)))))
 ·
  refine Jr fun hK5=>?_
  obtain⟨r6,hr6,h⟩:=Ge h
  refine JLh (BL r6) (Gn O (G83 F r6 hr6) Jdc G) O (Yy (BL r6) O (G7 (hK5 (Gr (fin1 BL h)))))
 ·
  refine Gp (hK2 (Jr fun hK7=>(JLh (.agg (H4.cs s)) (Gi Hu O O O) O ?_)))
  obtain⟨r8,hr8,h⟩:=Ge h
  refine JLh (.agg (Rk.cs r8)) (Gn O (H23 s r8 hr8) tf_call_7 ⟨O,O,G⟩) O (Yy (E2 boxes) O ?_)
  obtain⟨r9,hr9,h⟩:=Ge h
  refine JLh (LT 9 Gh.av r9) (Gn O (H12 boxes r9 hr9) tf_call_8 ⟨O,O,G⟩) O (Yy (E1 l) O ?_)
  obtain⟨r10,hr10,h⟩:=Ge h
  refine JLh (LT 4 Stowed.av r10) (Gn O (Ge1 l r10 hr10) tf_call_9 ⟨O,O,G⟩) O (Yy (E0 ids) O ?_)
  obtain⟨r11,hr11,h⟩:=Ge h
  refine JLh (LT 1 G0 r11) (Gn O (Zi ids r11 hr11) H66 ⟨O,O,G⟩) O (JLh (.ptr 1002 0) (Qf 1002 13 J3c O O) O (Jk (u:=.junk) (Jb (u:=.agg (Rk.cs r8)) (ds:=(Rk.cs r8)) H60 O O O O O O O O) (Yy (LT 9 Gh.av r9) O (Yy (LT 4 Stowed.av r10) O (Yy (LT 1 G0 r11) O (G7 (hK7 ?_)))))))
  refine Gz [(1,E2 boxes),(2,E1 l),(3,E0 ids),(4,G0 n),(5,U8 half),(6,Ea s),(13,.dptr (Rk.cs r8)),(14,LT 9 Gh.av r9),(15,LT 4 Stowed.av r10),(16,LT 1 G0 r11)] [] 1002 rfl rfl rfl G rfl (by repeat' (first | exact .ptr | constructor)) (Jr fun hK12=>(JLh (E2 r9.1) (H1.cv (Cv.lst0 r9) (G5 O O)) O (Yy (G0 n) O ?_)))
  obtain⟨r13,hr13,h⟩:=Ge h
  refine JLh (.tup [.agg (Gh.cs r13.1),BL r13.2]) (Gn O (Gca r9.1 n r13 hr13) H65 ⟨O,O,O,O,G⟩) O (Yy (.tup [.agg (Gh.cs r13.1),BL r13.2]) O (JLh (.agg (Gh.cs r13.1)) (Hv O O O) O (JLh (BL r13.2) (Hv O O O) O (JLh (.ptr 1003 0) (Qf 1003 9 G24 O O) O (Jk (u:=.junk) (Jb (u:=.agg (Gh.cs r13.1)) (ds:=(Gh.cs r13.1)) G08 O O O O O O O O) (Yy (BL r13.2) O (G7 (hK12 ?_))))))))
  refine Gz [(1,E2 boxes),(2,E1 l),(3,E0 ids),(4,G0 n),(5,U8 half),(6,Ea s),(13,.dptr (Rk.cs r8)),(14,LT 9 Gh.av r9),(15,LT 4 Stowed.av r10),(16,LT 1 G0 r11),(17,Ed r13.1),(18,BL r13.2)] [] 1003 rfl rfl rfl G rfl (by repeat' (first | exact .ptr | constructor)) (Jr fun hK14=>(Yy (E2 boxes) O (Yy (G0 n) O ?_)))
  obtain⟨r15,hr15,h⟩:=Ge h
  refine JLh (.tup [.agg (Gh.cs r15.1),BL r15.2]) (Gn O (G37 boxes n r15 hr15) He6 ⟨O,O,O,O,G⟩) O (Yy (.tup [.agg (Gh.cs r15.1),BL r15.2]) O (JLh (.agg (Gh.cs r15.1)) (Hv O O O) O (JLh (BL r15.2) (Hv O O O) O (JLh (.ptr 1004 0) (Qf 1004 9 G24 O O) O (Jk (u:=.junk) (Jb (u:=.agg (Gh.cs r15.1)) (ds:=(Gh.cs r15.1)) G08 O O O O O O O O) (Yy (BL r15.2) O (G7 (hK14 ?_))))))))
  refine Gz [(1,E2 boxes),(2,E1 l),(3,E0 ids),(4,G0 n),(5,U8 half),(6,Ea s),(13,.dptr (Rk.cs r8)),(14,LT 9 Gh.av r9),(15,LT 4 Stowed.av r10),(16,LT 1 G0 r11),(17,Ed r13.1),(18,BL r13.2),(19,Ed r15.1),(20,BL r15.2)] [] 1004 rfl rfl rfl G rfl (by repeat' (first | exact .ptr | constructor)) (Js fun hK16=>Js fun hK17=>?_)
  obtain⟨r18,hr18,h⟩:=Ge h
  obtain⟨r19,hr19,h⟩:=Ge h
  obtain⟨r20,hr20,h⟩:=Ge h
  obtain⟨r21,hr21,h⟩:=Ge h
  refine JC_d0 J8 (by kernel_rfl) (Dq (.agg (Gh.cs r13.1)) (Gi G05 O O O) O (Dq (.agg (Gh.cs r15.1)) (Gi G05 O O O) O (Dq (BL (!decide (r13.1=r15.1))) (Jed (vs:=[.int .i64 r13.1.ID,.string r13.1.Number,.int .u8 r13.1.Size,.bool r13.1.High,.int .i64 r13.1.Kilos,.int .i64 r13.1.Load,.int .i64 r13.1.Discharge,.int .u8 r13.1.Class,.bool r13.1.Reefer]) (us:=[.int .i64 r15.1.ID,.string r15.1.Number,.int .u8 r15.1.Size,.bool r15.1.High,.int .i64 r15.1.Kilos,.int .i64 r15.1.Load,.int .i64 r15.1.Discharge,.int .u8 r15.1.Class,.bool r15.1.Reefer]) 4 O (tq_43 r13.1 r15.1) H92 J22 O O O) O (Dq (BL (!decide (r13.1=r15.1))) (G5 O O) O (Do (BL r13.2) [] O .scf G (fun hc=>G5 O O) O (Do (BL r15.2) [] O .scf G (fun hc=>G5 O O) O (Do (BL (!(r13.2==r15.2))) [60,61] O .scf ⟨Ua,Ua,G⟩ (fun hc=>Q25 Gfa O O O) O (Dq (BL ((!decide (r13.1=r15.1))||(!(r13.2==r15.2)))) (Yi O O O O) O (Dq (BL ((!decide (r13.1=r15.1))||(!(r13.2==r15.2)))) (G5 O O) O (Do (.agg [E4 (r8.Columns.1.map Gw.pl),E3 (r8.Covers.1.map H7.pl),G0 r8.Light.Kilos,G0 r8.Light.X,G0 r8.Light.Y,G0 r8.Light.Z,E6 r8.Rows.1,E5 r8.Frames.1,E7 (r8.Tanks.1.map Hb.pl),G0 r8.G2.Tolerance,G0 r8.G2.Trim,G0 r8.G2.List_,G0 r8.G2.Stability]) [] O .scf G (fun hc=>H1.cv (Cv.aggL (cs:=(Rk.cs r8)) ⟨Cv.lstM (f:=Gw.av) (g:=G4.av) Gw.pl Gw.cvl r8.Columns,Cv.lstM (f:=H7.av) (g:=Gc.av) H7.pl H7.cvl r8.Covers,.same,.same,.same,.same,Cv.lst0 r8.Rows,Cv.lst0 r8.Frames,Cv.lstM (f:=Hb.av) (g:=Gj.av) Hb.pl Hb.cvl r8.Tanks,.same,.same,.same,.same,G⟩) (Gi Hu O O O)) O (Do (E2 r9.1) [] O .scf G (fun hc=>H1.cv (Cv.lst0 r9) (G5 O O)) O (Do (E1 r10.1) [] O .scf G (fun hc=>H1.cv (Cv.lst0 r10) (G5 O O)) O (Do (BL r18) [65,66,67] O .scf ⟨Ua,Ua,Ua,G⟩ (fun hc=>Gn (args:=[.agg [E4 (r8.Columns.1.map Gw.pl),E3 (r8.Covers.1.map H7.pl),G0 r8.Light.Kilos,G0 r8.Light.X,G0 r8.Light.Y,G0 r8.Light.Z,E6 r8.Rows.1,E5 r8.Frames.1,E7 (r8.Tanks.1.map Hb.pl),G0 r8.G2.Tolerance,G0 r8.G2.Trim,G0 r8.G2.List_,G0 r8.G2.Stability],E2 r9.1,E1 r10.1]) O (H16 (H4.mk (r8.Columns.1.map Gw.pl) (r8.Covers.1.map H7.pl) r8.Light r8.Rows.1 r8.Frames.1 (r8.Tanks.1.map Hb.pl) r8.G2) r9.1 r10.1 r18 (Gx hc hr18)) He5 ⟨O,O,O,O,O,O,G⟩) O ?_)))))))))))))
  refine Do (.agg (H4.cs s)) [] O .scf G (fun hc=>Gi Hu O O O) O (Do (E2 boxes) [] O .scf G (fun hc=>G5 O O) O (Do (E1 l) [] O .scf G (fun hc=>G5 O O) O (Do (BL r19) [69,70,71] O .scf ⟨Ua,Ua,Ua,G⟩ (fun hc=>Gn (args:=[.agg (H4.cs s),E2 boxes,E1 l]) O (G82 F s boxes l r19 (Gx hc hr19)) J99 ⟨O,O,O,O,O,O,G⟩) O (Do (BL (!(r18==r19))) [68,72] O .scf ⟨Ua,Ua,G⟩ (fun hc=>Q25 Gfa O O O) O (Dq (BL (((!decide (r13.1=r15.1))||(!(r13.2==r15.2)))||(!(r18==r19)))) (Yi O O O O) O (Dq (BL (((!decide (r13.1=r15.1))||(!(r13.2==r15.2)))||(!(r18==r19)))) (G5 O O) O (Do (E2 r9.1) [] O .scf G (fun hc=>H1.cv (Cv.lst0 r9) (G5 O O)) O (Do (E1 r10.1) [] O .scf G (fun hc=>H1.cv (Cv.lst0 r10) (G5 O O)) O (Do (G0 n) [] O .scf G (fun hc=>G5 O O) O (Do (U8 half) [] O .scf G (fun hc=>G5 O O) O (Do (G0 r20) [76,77,78,79] O .scf ⟨Ua,Ua,Ua,Ua,G⟩ (fun hc=>Gn (args:=[E2 r9.1,E1 r10.1,G0 n,U8 half]) O (Ge5 r9.1 r10.1 n half r20 (Gx hc hr20)) He4 ⟨O,O,O,O,O,O,O,O,G⟩) O (Do (E2 boxes) [] O .scf G (fun hc=>G5 O O) O (Do (E1 l) [] O .scf G (fun hc=>G5 O O) O ?_)))))))))))))
  refine Do (G0 n) [] O .scf G (fun hc=>G5 O O) O (Do (U8 half) [] O .scf G (fun hc=>G5 O O) O (Do (G0 r21) [81,82,83,84] O .scf ⟨Ua,Ua,Ua,Ua,G⟩ (fun hc=>Gn (args:=[E2 boxes,E1 l,G0 n,U8 half]) O (G20 boxes l n half r21 (Gx hc hr21)) He3 ⟨O,O,O,O,O,O,O,O,G⟩) O (Do (BL (decide (r20≠r21))) [80,85] O .scf ⟨Ua,Ua,G⟩ (fun hc=>G3d O O O) O (Dq (BL ((((!decide (r13.1=r15.1))||(!(r13.2==r15.2)))||(!(r18==r19)))||(decide (r20≠r21)))) (Yi O O O O) O (Dnil (hK17 (JCc O h (fun h hb=>?_) (fun h hb=>?_))))))))
  ·
   refine Jr fun hK22=>(Yy (BL false) O (G7 (hK22 (Gr (fin1 BL h)))))
  ·
   refine Gp (hK16 (Jr fun hK23=>(JLh (E1 r10.1) (H1.cv (Cv.lst0 r10) (G5 O O)) O (Yy (G0 n) O ?_))))
   obtain⟨r24,hr24,h⟩:=Ge h
   refine JLh (.tup [E0 r24.1,G0 r24.2]) (Gn O (H17 r10.1 n r24 hr24) He2 ⟨O,O,O,O,G⟩) O (Yy (.tup [E0 r24.1,G0 r24.2]) O (JLh (E0 r24.1) (Hv O O O) O (JLh (G0 r24.2) (Hv O O O) O (Yy (E0 r24.1) O (Yy (G0 r24.2) O (G7 (hK23 (Jr fun hK25=>(Yy (E1 l) O (Yy (G0 n) O ?_))))))))))
   obtain⟨r26,hr26,h⟩:=Ge h
   refine JLh (.tup [E0 r26.1,G0 r26.2]) (Gn O (H42 l n r26 hr26) Q5a ⟨O,O,O,O,G⟩) O (Yy (.tup [E0 r26.1,G0 r26.2]) O (JLh (E0 r26.1) (Hv O O O) O (JLh (G0 r26.2) (Hv O O O) O (Yy (E0 r26.1) O (Yy (G0 r26.2) O (G7 (hK25 ?_)))))))
   refine Jr fun hK27=>(JLh (.agg [E4 (r8.Columns.1.map Gw.pl),E3 (r8.Covers.1.map H7.pl),G0 r8.Light.Kilos,G0 r8.Light.X,G0 r8.Light.Y,G0 r8.Light.Z,E6 r8.Rows.1,E5 r8.Frames.1,E7 (r8.Tanks.1.map Hb.pl),G0 r8.G2.Tolerance,G0 r8.G2.Trim,G0 r8.G2.List_,G0 r8.G2.Stability]) (H1.cv (Cv.aggL (cs:=(Rk.cs r8)) ⟨Cv.lstM (f:=Gw.av) (g:=G4.av) Gw.pl Gw.cvl r8.Columns,Cv.lstM (f:=H7.av) (g:=Gc.av) H7.pl H7.cvl r8.Covers,.same,.same,.same,.same,Cv.lst0 r8.Rows,Cv.lst0 r8.Frames,Cv.lstM (f:=Hb.av) (g:=Gj.av) Hb.pl Hb.cvl r8.Tanks,.same,.same,.same,.same,G⟩) (Gi Hu O O O)) O (JLh (E2 r9.1) (H1.cv (Cv.lst0 r9) (G5 O O)) O (JLh (E1 r10.1) (H1.cv (Cv.lst0 r10) (G5 O O)) O (JLh (E0 r11.1) (H1.cv (Cv.lst0 r11) (G5 O O)) O ?_))))
   obtain⟨r28,hr28,h⟩:=Ge h
   refine JLh (.tup [E0 r28.1,G0 r28.2]) (Gn O (Gab.down F (H4.mk (r8.Columns.1.map Gw.pl) (r8.Covers.1.map H7.pl) r8.Light r8.Rows.1 r8.Frames.1 (r8.Tanks.1.map Hb.pl) r8.G2) r9.1 r10.1 r11.1 r28 hr28) H64 ⟨O,O,O,O,O,O,O,O,G⟩) O (Yy (.tup [E0 r28.1,G0 r28.2]) O (JLh (E0 r28.1) (Hv O O O) O (JLh (G0 r28.2) (Hv O O O) O (Yy (E0 r28.1) O (Yy (G0 r28.2) O (G7 (hK27 (Jr fun hK29=>(JLh (.agg (H4.cs s)) (Gi Hu O O O) O (Yy (E2 boxes) O (Yy (E1 l) O (Yy (E0 ids) O ?_))))))))))))
   obtain⟨r30,hr30,h⟩:=Ge h
   refine JLh (.tup [E0 r30.1,G0 r30.2]) (Gn O (H41 F s boxes l ids r30 hr30) Q59 ⟨O,O,O,O,O,O,O,O,G⟩) O (Yy (.tup [E0 r30.1,G0 r30.2]) O (JLh (E0 r30.1) (Hv O O O) O (JLh (G0 r30.2) (Hv O O O) O (Yy (E0 r30.1) O (Yy (G0 r30.2) O (G7 (hK29 (Js fun hK31=>?_))))))))
   refine Jr fun hK32=>(Yy (G0 r24.2) O (Yy (G0 r26.2) O (JLh (BL (decide (r24.2≠r26.2))) (G3d O O O) O (Yy (BL (decide (r24.2≠r26.2))) O (JLo (G0 r28.2) [] O .scf G (fun hc=>G5 O O) O (JLo (G0 r30.2) [] O .scf G (fun hc=>G5 O O) O (JLo (BL (decide (r28.2≠r30.2))) [120,121] O .scf ⟨Ua,Ua,G⟩ (fun hc=>G3d O O O) O (JLh (BL ((decide (r24.2≠r26.2))||(decide (r28.2≠r30.2)))) (Yi O O O O) O (Yy (BL ((decide (r24.2≠r26.2))||(decide (r28.2≠r30.2)))) O (JLo (E0 r24.1) [] O .scf G (fun hc=>G5 O O) O (JLo (E0 r26.1) [] O .scf G (fun hc=>G5 O O) O ?_)))))))))))
   obtain⟨r33,hr33,h⟩:=Ge h
   refine JLo (BL r33) [125,126] O .scf ⟨Ua,Ua,G⟩ (fun hc=>Gn (args:=[E0 r24.1,E0 r26.1]) O (Q7 r24.1 r26.1 r33 (Gx hc hr33)) G5d ⟨O,O,O,O,G⟩) O (JLo (BL (!r33)) [127] O .scf ⟨Ua,G⟩ (fun hc=>R5 (b:=r33) O O) O (JLh (BL (((decide (r24.2≠r26.2))||(decide (r28.2≠r30.2)))||(!r33))) (Yi O O O O) O (Yy (BL (((decide (r24.2≠r26.2))||(decide (r28.2≠r30.2)))||(!r33))) O (JLo (E0 r28.1) [] O .scf G (fun hc=>G5 O O) O (JLo (E0 r30.1) [] O .scf G (fun hc=>G5 O O) O ?_)))))
   obtain⟨r34,hr34,h⟩:=Ge h
   refine JLo (BL r34) [131,132] O .scf ⟨Ua,Ua,G⟩ (fun hc=>Gn (args:=[E0 r28.1,E0 r30.1]) O (Q7 r28.1 r30.1 r34 (Gx hc hr34)) G5d ⟨O,O,O,O,G⟩) O (JLo (BL (!r34)) [133] O .scf ⟨Ua,G⟩ (fun hc=>R5 (b:=r34) O O) O (JLh (BL ((((decide (r24.2≠r26.2))||(decide (r28.2≠r30.2)))||(!r33))||(!r34))) (Yi O O O O) O (G7 (hK32 (JCc O h (fun h hb=>?_) (fun h hb=>?_))))))
   ·
    refine Jr fun hK35=>(Yy (BL false) O (G7 (hK35 (Gr (fin1 BL h)))))
   ·
    refine Gp (hK31 (Jr fun hK36=>(JLh (.agg (Rk.cs r8)) (Gi Hu O O O) O (JLh (.agg (H4.cs s)) (Gi Hu O O O) O ?_))))
    obtain⟨r37,hr37,h⟩:=Ge h
    refine JLh (BL r37) (Gn O (H26 r8 s r37 hr37) Q58 ⟨O,O,O,O,G⟩) O (Yy (BL r37) O (JLo (LT 9 Gh.av r9) [] O .sct G (fun hc=>G5 O O) O (JLo (E2 boxes) [] O .sct G (fun hc=>G5 O O) O ?_)))
    obtain⟨r38,hr38,h⟩:=Ge h
    refine JLo (BL r38) [140,141] O .sct ⟨Ua,Ua,G⟩ (fun hc=>Gn (args:=[LT 9 Gh.av r9,E2 boxes]) O (H15 r9 boxes r38 (Gx hc hr38)) Q57 ⟨O,O,O,O,G⟩) O (JLh (BL (r37&&r38)) (Hx O O O O) O (Yy (BL (r37&&r38)) O (JLo (LT 4 Stowed.av r10) [] O .sct G (fun hc=>G5 O O) O (JLo (E1 l) [] O .sct G (fun hc=>G5 O O) O ?_))))
    obtain⟨r39,hr39,h⟩:=Ge h
    refine JLo (BL r39) [145,146] O .sct ⟨Ua,Ua,G⟩ (fun hc=>Gn (args:=[LT 4 Stowed.av r10,E1 l]) O (Ge3 r10 l r39 (Gx hc hr39)) Q56 ⟨O,O,O,O,G⟩) O (JLh (BL ((r37&&r38)&&r39)) (Hx O O O O) O (Yy (BL ((r37&&r38)&&r39)) O (JLo (LT 1 G0 r11) [] O .sct G (fun hc=>G5 O O) O (JLo (E0 ids) [] O .sct G (fun hc=>G5 O O) O ?_))))
    obtain⟨r40,hr40,h⟩:=Ge h
    refine JLo (BL r40) [150,151] O .sct ⟨Ua,Ua,G⟩ (fun hc=>Gn (args:=[LT 1 G0 r11,E0 ids]) O (Zj r11 ids r40 (Gx hc hr40)) H63 ⟨O,O,O,O,G⟩) O (JLh (BL (((r37&&r38)&&r39)&&r40)) (Hx O O O O) O (Yy (BL (((r37&&r38)&&r39)&&r40)) O ?_))
    obtain⟨r41,hr41,h⟩:=Ge h
    refine JLo (BL r41) [] O .sct G (fun hc=>Gn (args:=[]) O (G83 F r41 (Gx hc hr41)) Jdc G) O (JLh (BL ((((r37&&r38)&&r39)&&r40)&&r41)) (Hx O O O O) O (Yy (BL ((((r37&&r38)&&r39)&&r40)&&r41)) O (G7 (hK36 (Gr (fin1 BL h))))))
end
end Go.Proofs.YtjkmmenifdklmaaGreat
