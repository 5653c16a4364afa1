/-
 Models of functions of the program,and that they return what the models say.
-/
import Derived.Test.YthcpolfodgjekaaGreatXPb
set_option maxRecDepth 100000
set_option maxHeartbeats 1000000
set_option linter.unusedVariables false
set_option linter.unusedSimpArgs false
namespace Go.Proofs.YthcpolfodgjekaaGreat
open Go.RowKit
noncomputable section
open XAF
open XLF
open XCF
open XGF
open XHF
open XPF

def Qv (F:Nat) (s:H2) (boxes:List Gg) (l:List Stowed) (ids:List Int):Option ((List Int)×Int):=
 bnd (Q9 F s boxes l) fun r4=>
 bif (!r4) then
 (some ([],2))
 else
 (bnd (Gf1 (l.length:Int)) fun m7=>
  need (decide (1*m7≤281474976710656∧m7≤maxLen∧m7*1≤16777216)) <|
  each (fun y81 i81 (s81:(List Bool)) nx81=>
   bnd (Yq l y81) fun r87=>
   bif decide (r87 < 0) then
   (some ([],6))
   else
   (bnd (Yq l y81) fun r89=>
    Qr s81 r89 fun y90=>
    nx81 (s81.set r89.toNat true)))
  (fun(s81:(List Bool))=>
   loop (fun nx93 (s93:Bool×(List Bool))=>
    bif s93.1 then
    (each (fun y98 i98 (s98:Bool×(List Bool)) nx98=>
      each (fun y177 i177 (s177:Bool×(List Bool)) nx177=>
       jp (fun kj180=>
        Qr s177.2 (i98:Int) fun y183=>
        bnd (bif (!(!y183)) then Qr s177.2 (i177:Int) some else some default) fun y184=>
        bif ((!y183)||y184) then
        (kj180 (s177.1,s177.2))
        else
        (bnd (Zq s y98.Slot.G4) fun r186=>
         bnd (G01 y177.Slot y98.Slot) fun r188=>
         bnd (bif ((!r188)&&(decide (0≤r186))) then Yu s y177.Slot.G4 r186 else some default) fun r189=>
         bif (r188||((decide (0≤r186))&&r189)) then
         (Qr s177.2 (i177:Int) fun y190=>
          kj180 (true,(s177.2.set (i177:Int).toNat true)))
         else
         (kj180 (s177.1,s177.2)))) fun(j180:Bool×(List Bool))=>
       nx177 (j180.1,j180.2))
      (fun(s177:Bool×(List Bool))=>
       nx98 (s177.1,s177.2)) l 0 (s98.1,s98.2))
     (fun(s98:Bool×(List Bool))=>
      nx93 (s98.1,s98.2)) l 0 (false,s93.2))
    else
    (each (fun y209 i209 (s209:(List Int)) nx209=>
      jp (fun kj212=>
       Qr s93.2 (i209:Int) fun y214=>
       bif y214 then
       (need (decide ((s209.length+[y209.Gg].length)*8≤140737488355328∧s209.length+[y209.Gg].length≤maxLen)) <|
        kj212 (s209++[y209.Gg]))
       else
       (kj212 s209)) fun(j212:(List Int))=>
      nx209 j212)
     (fun(s209:(List Int))=>
      some (s209,0)) l 0 [])) F (true,s81)) ids 0 (List.replicate m7 (false:Bool)))
theorem Ga6 (F:Nat) (s:H2) (boxes:List Gg) (l:List Stowed) (ids:List Int) (r:(List Int)×Int) (h:Qv F s boxes l ids=some r):Pure Ej 42 [.agg (H2.cs s),E3 boxes,E2 l,E1 ids] (·=.tup [E1 r.1,G0 r.2]):=by
 unfold Qv at h
 refine Gx [.tmp 8,.tmp 9] Tryz.func42 O O (Jr fun hK1=>(JLh (.ptr 1075 0) (Ja (cs:=(H2.cs s)) 1075 O O O O O) O (JLh (E1 ([]:List Int)) (Hb 1 O O) O (G57 (G0 0) O (G8 (hK1 ?_))))))
 refine Gu [(1,E3 boxes),(2,E2 l),(3,E1 ids),(4,Eb s)] [] 1075 rfl rfl rfl G rfl (by repeat' (first | exact .ptr | constructor)) (Js fun hK2=>Jr fun hK3=>(JLh (.agg (H2.cs s)) (Gj Hh O O O) O (G57 (E3 boxes) O (G57 (E2 l) O ?_))))
 obtain⟨r4,hr4,h⟩:=Ge h
 refine JLh (BL r4) (Gk O (G11 F s boxes l r4 hr4) H8d ⟨O,O,O,O,O,O,G⟩) O (JLh (BL (!r4)) (Qh (b:=r4) O O) O (G8 (hK3 (JCc O h (fun h hb=>?_) (fun h hb=>?_)))))
 ·
  refine Jr fun hK5=>(JLh (E1 ([]:List Int)) (Hb 1 O O) O (G57 (G0 2) O (G8 (hK5 (Gr (⟨[E1 ([]:List Int),G0 2],[],G,O,⟨⟨_,O,.conv (.same O)⟩,⟨_,O,.conv (.same O)⟩,G⟩,O,congrArg (fun r:(List Int)×Int=>(.tup [E1 r.1,G0 r.2]:AV)) (Option.some.inj h)⟩))))))
 ·
  refine Gn (hK2 (Jr fun hK6=>(G57 (E2 l) O (JLl H0 O O O fun hm24=>?_))))
  obtain⟨m7,hm7,h⟩:=Ge h
  obtain⟨ha8,h⟩:=Hv h
  refine JLh (.vec 1077 0 1 ((List.replicate m7 (false:Bool)).length)) (A_vmakeM 1077 (f:=BL) (n:=m7) false [.bool false] O O O O G90 tf_elem_4 tf_zero_4 (G71 hm7) (G71 hm7) ha8 ⟨.inl O,G⟩ O) O (G57 (.vec 1077 0 1 ((List.replicate m7 (false:Bool)).length)) O (G8 (hK6 (Js fun hK9=>Jr fun hK10=>(G57 (G0 0) O (G8 (hK10 (Gp ?_))))))))
  obtain⟨b81,kx81,hb81,hkx81,h⟩:=Hx h
  refine He (fun i81 (s81:(List Bool))=>each b81 kx81 (List.drop i81 ids) i81 s81=some r) (fun i81 s81=>[(2,E2 l),(3,E1 ids),(4,Eb s),(10,.vec 1077 0 1 ((List.replicate m7 (false:Bool)).length)),(11,Ei i81)]) (fun i81 s81=>[(1077,.vec 4 1 0 (s81.map BL))]) (fun i81=>ids.length - i81) 0 (List.replicate m7 (false:Bool)) h ⟨(.sm O O),⟨⟨_,rfl,.vec⟩,G⟩,rfl⟩ ?_
  clear h
  intro i81 s81 hi81 K81 e81
  refine Js fun hK82=>Jr fun hK83=>(G57 (Ei i81) O (G57 (E1 ids) O (JLl Gq O O O fun hm28=>(JLh (BL (decide ((i81:Int) < (ids.length:Int)))) (J1 O O O) O (G8 (hK83 (Gm O (fun hb=>?_) (fun hb=>?_))))))))
  ·
   have hk81:=Jc hb
   obtain⟨y81,nx81,hy81,hn81,h⟩:=Hm hi81 hk81
   replace h:=Rn hb81 h
   refine Gn (hK82 (Js fun hK84=>Gp (Js fun hK85=>Jr fun hK86=>(G57 (E2 l) O (G57 (E1 ids) O (G57 (Ei i81) O (JLh (.dptr [G0 y81]) (Gw (f:=G0) (xs:=ids) (y:=y81) O O O Gq hy81 O) O (JLh (G0 y81) (Gf Gc O O O) O ?_))))))))
   obtain⟨r87,hr87,h⟩:=Ge h
   refine JLh (G0 r87) (Gk O (G77 l y81 r87 hr87) J1d ⟨O,O,O,O,G⟩) O (JLh (BL (decide (r87 < 0))) (J1 O O O) O (G8 (hK86 (JCc O h (fun h hb=>?_) (fun h hb=>?_)))))
   ·
    refine Jr fun hK88=>(JLh (E1 ([]:List Int)) (Hb 1 O O) O (G57 (G0 6) O (G8 (hK88 (Gr (⟨[E1 ([]:List Int),G0 6],[],G,O,⟨⟨_,O,.conv (.same O)⟩,⟨_,O,.conv (.same O)⟩,G⟩,O,congrArg (fun r:(List Int)×Int=>(.tup [E1 r.1,G0 r.2]:AV)) (Option.some.inj h)⟩))))))
   ·
    refine Gn (hK85 (G3 (G57 (.vec 1077 0 1 ((List.replicate m7 (false:Bool)).length)) O (G57 (E2 l) O (G57 (E1 ids) O (G57 (Ei i81) O (JLh (.dptr [G0 y81]) (Gw (f:=G0) (xs:=ids) (y:=y81) O O O Gq hy81 O) O (JLh (G0 y81) (Gf Gc O O O) O ?_))))))))
    obtain⟨r89,hr89,h⟩:=Ge h
    refine JLh (G0 r89) (Gk O (G77 l y81 r89 hr89) J1d ⟨O,O,O,O,G⟩) O ?_
    obtain⟨y90,hmy90,hy90,h⟩:=Hf2 h
    refine JLh (.vptr 1077 0 r89.toNat 0) (J59 (f:=BL) (xs:=s81) (y:=y90) O O O O G90 hy90 hmy90) O (Jf (u:=.junk) (Q39 (f:=BL) (xs:=s81) (z:=true) Q31 O O O O (List.getElem?_eq_some_iff.1 hy90).1 O O O O) (G8 (hK84 (G3 (G57 (Ei i81) O (JLh (G0 ((i81+1:Nat):Int)) (Hu (Hc hk81 hm28) O O O) O (G57 (G0 ((i81+1:Nat):Int)) O (G8 (e81 _ _ (i81+1) (s81.set r89.toNat true) (app1 hn81 h) (by omega) ⟨(.sm O O),⟨⟨_,rfl,.vec⟩,G⟩,rfl⟩)))))))))
  ·
   have h:=app1 hkx81 (Hn hi81 (H6 hb))
   refine Hk (hK9 (Js fun hK91=>Jr fun hK92=>(G57 (BL true) O (G8 (hK92 (Gp ?_))))))
   obtain⟨b93,hb93,h⟩:=loop_in h
   refine He (fun i93 (s93:Bool×(List Bool))=>loop b93 i93 s93=some r) (fun i93 s93=>[(2,E2 l),(4,Eb s),(10,.vec 1077 0 1 ((List.replicate m7 (false:Bool)).length)),(12,BL s93.1)]) (fun i93 s93=>[(1077,.vec 4 1 0 (s93.2.map BL))]) (fun i93=>i93) F (true,s81) h ⟨(.sm O O),⟨⟨_,rfl,.vec⟩,G⟩,rfl⟩ ?_
   clear h
   intro i93 s93 hi93 K93 e93
   obtain⟨m93,nx93,hm_93,hn93,h⟩:=Jf4 hi93
   replace h:=app2 hb93 h
   refine Js fun hK94=>Jr fun hK95=>(G57 (BL s93.1) O (G8 (hK95 (JCc O h (fun h hb=>?_) (fun h hb=>?_)))))
   ·
    refine Gn (hK94 (Gp (Jr fun hK96=>(G57 (BL false) O (G8 (hK96 (Jr fun hK97=>(G57 (G0 0) O (G8 (hK97 (Gp ?_)))))))))))
    obtain⟨b98,kx98,hb98,hkx98,h⟩:=Hx h
    refine He (fun i98 (s98:Bool×(List Bool))=>each b98 kx98 (List.drop i98 l) i98 s98=some r) (fun i98 s98=>[(2,E2 l),(4,Eb s),(10,.vec 1077 0 1 ((List.replicate m7 (false:Bool)).length)),(12,BL s98.1),(13,Ei i98)]) (fun i98 s98=>[(1077,.vec 4 1 0 (s98.2.map BL))]) (fun i98=>l.length - i98) 0 (false,s93.2) h ⟨(.sm O O),⟨⟨_,rfl,.vec⟩,G⟩,rfl⟩ ?_
    clear h
    intro i98 s98 hi98 K98 e98
    refine Js fun hK99=>Jr fun hK100=>(G57 (Ei i98) O (G57 (E2 l) O (JLl H0 O O O fun hm50=>(JLh (BL (decide ((i98:Int) < (l.length:Int)))) (J1 O O O) O (G8 (hK100 (Gm O (fun hb=>?_) (fun hb=>?_))))))))
    ·
     have hk98:=Jc hb
     obtain⟨y98,nx98,hy98,hn98,h⟩:=Hm hi98 hk98
     replace h:=Rn hb98 h
     refine Gn (hK99 (Js fun hK101=>Gp (Jr fun hK102=>(G57 (G0 0) O (G8 (hK102 (Gp ?_)))))))
     obtain⟨b177,kx177,hb177,hkx177,h⟩:=Hx h
     refine He (fun i177 (s177:Bool×(List Bool))=>each b177 kx177 (List.drop i177 l) i177 s177=some r) (fun i177 s177=>[(2,E2 l),(4,Eb s),(10,.vec 1077 0 1 ((List.replicate m7 (false:Bool)).length)),(12,BL s177.1),(13,Ei i98),(14,Ei i177)]) (fun i177 s177=>[(1077,.vec 4 1 0 (s177.2.map BL))]) (fun i177=>l.length - i177) 0 (s98.1,s98.2) h ⟨(.sm O O),⟨⟨_,rfl,.vec⟩,G⟩,rfl⟩ ?_
     clear h
     intro i177 s177 hi177 K177 e177
     refine Js fun hK178=>Jr fun hK179=>(G57 (Ei i177) O (G57 (E2 l) O (JLl H0 O O O fun hm56=>(JLh (BL (decide ((i177:Int) < (l.length:Int)))) (J1 O O O) O (G8 (hK179 (Gm O (fun hb=>?_) (fun hb=>?_))))))))
     ·
      have hk177:=Jc hb
      obtain⟨y177,nx177,hy177,hn177,h⟩:=Hm hi177 hk177
      replace h:=Rn hb177 h
      refine Gn (hK178 ?_)
      obtain⟨kj180,hkj180,h⟩:=G37 h
      refine Zy (fun j180:Bool×(List Bool)=>kj180 j180=some r) (fun j180=>[(2,E2 l),(4,Eb s),(10,.vec 1077 0 1 ((List.replicate m7 (false:Bool)).length)),(12,BL j180.1),(13,Ei i98),(14,Ei i177)]) (fun j180=>[(1077,.vec 4 1 0 (j180.2.map BL))]) (fun Kj180 ej180=>?_) ?_
      ·
       refine Gp (Js fun hK181=>Jr fun hK182=>(G57 (.vec 1077 0 1 ((List.replicate m7 (false:Bool)).length)) O (G57 (Ei i98) O ?_)))
       obtain⟨y183,hmy183,hy183,h⟩:=Hf2 h
       refine JLh (.vptr 1077 0 ((i98:Int).toNat) 0) (J59 (f:=BL) (xs:=s177.2) (y:=y183) O O O O G90 hy183 hmy183) O (JLh (BL y183) (Q23 (f:=BL) (xs:=s177.2) (y:=y183) Ra O O O hy183 O O) O (JLh (BL (!y183)) (Qh (b:=y183) O O) O (G57 (BL (!y183)) O (JLo (.vec 1077 0 1 ((List.replicate m7 (false:Bool)).length)) [] O .scf G (fun hc=>G5 O O) O (JLo (Ei i177) [] O .scf G (fun hc=>G5 O O) O ?_)))))
       obtain⟨y184,hy184,h⟩:=Ge h
       refine JLo (.vptr 1077 0 ((i177:Int).toNat) 0) [66,67] O .scf ⟨Ua,Ua,G⟩ (fun hc=>J59 (f:=BL) (xs:=s177.2) (y:=y184) O O O O G90 (Jf7 (Gy hc hy184)) (Qb8 (Gy hc hy184))) O (JLo (BL y184) [68] O .scf ⟨Ua,G⟩ (fun hc=>Q23 (f:=BL) (xs:=s177.2) (y:=y184) Ra O O O (Jf7 (Gy hc hy184)) O O) O (JLh (BL ((!y183)||y184)) (Yc O O O O) O (G8 (hK182 (JCc O h (fun h hb=>?_) (fun h hb=>?_))))))
       ·
        refine Hk (ej180 _ _ (s177.1,s177.2) h ⟨(.sm O O),⟨⟨_,rfl,.vec⟩,G⟩,rfl⟩)
       ·
        refine Gn (hK181 (Js fun hK185=>G2a (l':=[(2,E2 l),(4,Eb s),(10,.vec 1077 0 1 ((List.replicate m7 (false:Bool)).length)),(12,BL s177.1),(13,Ei i98),(14,Ei i177)]) (L':=[(1077,.vec 4 1 0 (s177.2.map BL))]) ⟨(.sm O O),⟨⟨_,rfl,.vec⟩,G⟩,rfl⟩ ?_))
        obtain⟨r186,hr186,h⟩:=Ge h
        refine JC_d0 Jg (by kernel_rfl) (Dq (.agg (H2.cs s)) (Gj Hh O O O) O (Dq (E2 l) (G5 O O) O (Dq (Ei i98) (G5 O O) O (Dq (Ec y98) (Gw (f:=Stowed.av) (xs:=l) (y:=y98) O O O H0 hy98 O) O (Dq (.dptr ((Stowed.cs y98).drop 1)) (Ga J6 O O O) O (Dq (.dptr ((Stowed.cs y98).drop 1)) (Ga Jb O O O) O (Dq (G0 y98.Slot.G4) (Gf Gc O O O) O (Dq (G0 r186) (Gk (args:=[.agg (H2.cs s),G0 y98.Slot.G4]) O (H6c s y98.Slot.G4 r186 hr186) Q91 ⟨O,O,O,O,G⟩) O (Dq (G0 r186) (G7 O O) O (Dnil ?_))))))))))
        refine hK185 (Js fun hK187=>G2a (l':=[(2,E2 l),(4,Eb s),(10,.vec 1077 0 1 ((List.replicate m7 (false:Bool)).length)),(12,BL s177.1),(13,Ei i98),(14,Ei i177),(15,G0 r186)]) (L':=[(1077,.vec 4 1 0 (s177.2.map BL))]) ⟨(.sm O O),⟨⟨_,rfl,.vec⟩,G⟩,rfl⟩ ?_)
        obtain⟨r188,hr188,h⟩:=Ge h
        obtain⟨r189,hr189,h⟩:=Ge h
        refine JC_d0 Jg (by kernel_rfl) (Dq (E2 l) (G5 O O) O (Dq (Ei i177) (G5 O O) O (Dq (Ec y177) (Gw (f:=Stowed.av) (xs:=l) (y:=y177) O O O H0 hy177 O) O (Dq (.dptr ((Stowed.cs y177).drop 1)) (Ga J6 O O O) O (Dq (.agg ((Stowed.cs y177).drop 1)) (Gj Q0 O O O) O (Dq (E2 l) (G5 O O) O (Dq (Ei i98) (G5 O O) O (Dq (Ec y98) (Gw (f:=Stowed.av) (xs:=l) (y:=y98) O O O H0 hy98 O) O (Dq (.dptr ((Stowed.cs y98).drop 1)) (Ga J6 O O O) O (Dq (.agg ((Stowed.cs y98).drop 1)) (Gj Q0 O O O) O (Dq (BL r188) (Gk (args:=[.agg ((Stowed.cs y177).drop 1),.agg ((Stowed.cs y98).drop 1)]) O (H7a y177.Slot y98.Slot r188 hr188) Q90 ⟨O,O,O,O,G⟩) O (Dq (BL r188) (G5 O O) O (Do (G0 r186) [] O .scf G (fun hc=>G5 O O) O ?_)))))))))))))
        refine Do (BL (decide (0≤r186))) [91] O .scf ⟨Ua,G⟩ (fun hc=>G31 O O O) O (Do (BL (decide (0≤r186))) [92] O .scf ⟨Ua,G⟩ (fun hc=>G5 O O) O (Do (.agg (H2.cs s)) [] O .optt G (fun hc=>Gj Hh O O O) O (Do (E2 l) [] O .optt G (fun hc=>G5 O O) O (Do (Ei i177) [] O .optt G (fun hc=>G5 O O) O (Do (Ec y177) [95,96] O .optt ⟨Ua,Ua,G⟩ (fun hc=>Gw (f:=Stowed.av) (xs:=l) (y:=y177) O O O H0 hy177 O) O (Do (.dptr ((Stowed.cs y177).drop 1)) [97] O .optt ⟨Ua,G⟩ (fun hc=>Ga J6 O O O) O (Do (.dptr ((Stowed.cs y177).drop 1)) [98] O .optt ⟨Ua,G⟩ (fun hc=>Ga Jb O O O) O (Do (G0 y177.Slot.G4) [99] O .optt ⟨Ua,G⟩ (fun hc=>Gf Gc O O O) O (Do (G0 r186) [] O .optt G (fun hc=>G5 O O) O (Do (BL r189) [94,100,101] O .optt ⟨Ua,Ua,Ua,G⟩ (fun hc=>Gk (args:=[.agg (H2.cs s),G0 y177.Slot.G4,G0 r186]) O (H78 s y177.Slot.G4 r186 r189 (Gy hc hr189)) Q8f ⟨O,O,O,O,O,O,G⟩) O (Dg (.opt (!r188) (BL ((decide (0≤r186))&&r189))) (Gi [(93,BL (decide (0≤r186))),(102,_)] O O O .scf ⟨.all id,.part,G⟩ (fun hc=>J5 O O O O) O) O (Dq (BL (r188||((decide (0≤r186))&&r189))) (Yc O O O O) O (Dnil ?_)))))))))))))
        refine hK187 (JCc O h (fun h hb=>?_) (fun h hb=>?_))
        ·
         refine G3 (G57 (.vec 1077 0 1 ((List.replicate m7 (false:Bool)).length)) O (G57 (Ei i177) O ?_))
         obtain⟨y190,hmy190,hy190,h⟩:=Hf2 h
         refine JLh (.vptr 1077 0 ((i177:Int).toNat) 0) (J59 (f:=BL) (xs:=s177.2) (y:=y190) O O O O G90 hy190 hmy190) O (Jf (u:=.junk) (Q39 (f:=BL) (xs:=s177.2) (z:=true) Q31 O O O O (List.getElem?_eq_some_iff.1 hy190).1 O O O O) (G57 (BL true) O (G8 (ej180 _ _ (true,(s177.2.set (i177:Int).toNat true)) h ⟨(.sm O O),⟨⟨_,rfl,.vec⟩,G⟩,rfl⟩))))
        ·
         refine Gn (ej180 _ _ (s177.1,s177.2) h ⟨(.sm O O),⟨⟨_,rfl,.vec⟩,G⟩,rfl⟩)
      ·intro j180 h
       replace h:=app1 hkj180 h
       refine G3 (G57 (Ei i177) O (JLh (G0 ((i177+1:Nat):Int)) (Hu (Hc hk177 hm56) O O O) O (G57 (G0 ((i177+1:Nat):Int)) O (G8 (e177 _ _ (i177+1) (j180.1,j180.2) (app1 hn177 h) (by omega) ⟨(.sm O O),⟨⟨_,rfl,.vec⟩,G⟩,rfl⟩)))))
     ·
      have h:=app1 hkx177 (Hn hi177 (H6 hb))
      refine Hk (hK101 (G3 (G57 (Ei i98) O (JLh (G0 ((i98+1:Nat):Int)) (Hu (Hc hk98 hm56) O O O) O (G57 (G0 ((i98+1:Nat):Int)) O (G8 (e98 _ _ (i98+1) (s177.1,s177.2) (app1 hn98 h) (by omega) ⟨(.sm O O),⟨⟨_,rfl,.vec⟩,G⟩,rfl⟩)))))))
    ·
     have h:=app1 hkx98 (Hn hi98 (H6 hb))
     refine Hk (e93 _ _ m93 (s98.1,s98.2) (app1 hn93 h) (by omega) ⟨(.sm O O),⟨⟨_,rfl,.vec⟩,G⟩,rfl⟩)
   ·
    refine Hk (hK91 (Jr fun hK191=>(JLh (OW 1076 1 G0 ([]:List Int)) (G39 1076 3 1 O O O) O (G8 (hK191 (Js fun hK192=>Jr fun hK193=>(G57 (G0 0) O (G8 (hK193 (Gp ?_))))))))))
    obtain⟨b209,kx209,hb209,hkx209,h⟩:=Hx h
    refine He (fun i209 (s209:(List Int))=>each b209 kx209 (List.drop i209 l) i209 s209=some r) (fun i209 s209=>[(2,E2 l),(10,.vec 1077 0 1 ((List.replicate m7 (false:Bool)).length)),(16,OW 1076 1 G0 s209),(17,Ei i209)]) (fun i209 s209=>[(1077,.vec 4 1 0 (s93.2.map BL)),(1076,.spare 3 1 s209.length s209.length)]) (fun i209=>l.length - i209) 0 [] h ⟨(.sm O O),⟨⟨_,rfl,.vec⟩,⟨_,rfl,.same⟩,G⟩,rfl⟩ ?_
    clear h
    intro i209 s209 hi209 K209 e209
    refine Js fun hK210=>Jr fun hK211=>(G57 (Ei i209) O (G57 (E2 l) O (JLl H0 O O O fun hm110=>(JLh (BL (decide ((i209:Int) < (l.length:Int)))) (J1 O O O) O (G8 (hK211 (Gm O (fun hb=>?_) (fun hb=>?_))))))))
    ·
     have hk209:=Jc hb
     obtain⟨y209,nx209,hy209,hn209,h⟩:=Hm hi209 hk209
     replace h:=Rn hb209 h
     refine Gn (hK210 ?_)
     obtain⟨kj212,hkj212,h⟩:=G37 h
     refine Zy (fun j212:(List Int)=>kj212 j212=some r) (fun j212=>[(2,E2 l),(10,.vec 1077 0 1 ((List.replicate m7 (false:Bool)).length)),(16,OW 1076 1 G0 j212),(17,Ei i209)]) (fun j212=>[(1077,.vec 4 1 0 (s93.2.map BL)),(1076,.spare 3 1 j212.length j212.length)]) (fun Kj212 ej212=>?_) ?_
     ·
      refine Gp (Jr fun hK213=>(G57 (.vec 1077 0 1 ((List.replicate m7 (false:Bool)).length)) O (G57 (Ei i209) O ?_)))
      obtain⟨y214,hmy214,hy214,h⟩:=Hf2 h
      refine JLh (.vptr 1077 0 ((i209:Int).toNat) 0) (J59 (f:=BL) (xs:=s93.2) (y:=y214) O O O O G90 hy214 hmy214) O (JLh (BL y214) (Q23 (f:=BL) (xs:=s93.2) (y:=y214) Ra O O O hy214 O O) O (G8 (hK213 (JCc O h (fun h hb=>?_) (fun h hb=>?_)))))
      ·
       refine G3 (G57 (OW 1076 1 G0 s209) O (G57 (E2 l) O (G57 (Ei i209) O (JLh (Ec y209) (Gw (f:=Stowed.av) (xs:=l) (y:=y209) O O O H0 hy209 O) O (JLh (Ec y209) (Ga Hw O O O) O (JLh (G0 y209.Gg) (Gf Gc O O O) O (JLh (E1 [y209.Gg]) (Hd (xs:=[G0 y209.Gg]) O ⟨O,O,G⟩ Gq Q1 O O O O) O ?_)))))))
       obtain⟨ha215,h⟩:=Hv h
       refine JLh (OW 1076 1 G0 (s209++[y209.Gg])) (Qo (f:=G0) (xs:=s209) (ys:=[y209.Gg]) O O O O Gq Y2 ha215 (fun _=>O) (.inl O) O) O (G57 (OW 1076 1 G0 (s209++[y209.Gg])) O (G8 (ej212 _ _ (s209++[y209.Gg]) h ⟨(.sm O O),⟨⟨_,rfl,.vec⟩,⟨_,rfl,.same⟩,G⟩,rfl⟩)))
      ·
       refine Gn (ej212 _ _ s209 h ⟨(.sm O O),⟨⟨_,rfl,.vec⟩,⟨_,rfl,.same⟩,G⟩,rfl⟩)
     ·intro j212 h
      replace h:=app1 hkj212 h
      refine G3 (G57 (Ei i209) O (JLh (G0 ((i209+1:Nat):Int)) (Hu (Hc hk209 hm110) O O O) O (G57 (G0 ((i209+1:Nat):Int)) O (G8 (e209 _ _ (i209+1) j212 (app1 hn209 h) (by omega) ⟨(.sm O O),⟨⟨_,rfl,.vec⟩,⟨_,rfl,.same⟩,G⟩,rfl⟩)))))
    ·
     have h:=app1 hkx209 (Hn hi209 (H6 hb))
     refine Hk (hK192 (Jr fun hK216=>(G57 (OW 1076 1 G0 s209) O (G57 (OW 1076 1 G0 s209) O (G57 (G0 0) O (G8 (hK216 (Gr (⟨[E1 s209,G0 0],[],G,O,⟨⟨_,O,.conv (.list O)⟩,⟨_,O,.conv (.same O)⟩,G⟩,O,congrArg (fun r:(List Int)×Int=>(.tup [E1 r.1,G0 r.2]:AV)) (Option.some.inj h)⟩)))))))))

def G17 (F:Nat) (s:H2) (boxes:List Gg) (l:List Stowed) (id_:Int) (other:Int):Option Bool:=
 bnd (Jm boxes id_) fun r4=>
 bnd (Jm boxes other) fun r5=>
 bif decide (r4≤r5) then
 (some false)
 else
 (bnd (Qv F s boxes l [other]) fun r8=>
  each (fun y24 i24 (s24:Unit) nx24=>
   bif decide (y24=id_) then
   (some true)
   else
   (nx24 ()))
  (fun(s24:Unit)=>
   some false) r8.1 0 ())
theorem Ha0 (F:Nat) (s:H2) (boxes:List Gg) (l:List Stowed) (id_:Int) (other:Int) (r:Bool) (h:G17 F s boxes l id_ other=some r):Pure Ej 79 [.agg (H2.cs s),E3 boxes,E2 l,G0 id_,G0 other] (·=BL r):=by
 unfold G17 at h
 refine Gx [.tmp 10] Tryz.func79 O O (Jr fun hK1=>(JLh (.ptr 1122 0) (Ja (cs:=(H2.cs s)) 1122 O O O O O) O (G57 (BL false) O (G8 (hK1 (Gu [(1,E3 boxes),(2,E2 l),(3,G0 id_),(4,G0 other),(5,Eb s)] [] 1122 rfl rfl rfl G rfl (by repeat' (first | exact .ptr | constructor)) ?_))))))
 refine Js fun hK2=>Jr fun hK3=>(G57 (E3 boxes) O (G57 (G0 id_) O ?_))
 obtain⟨r4,hr4,h⟩:=Ge h
 refine JLh (G0 r4) (Gk O (Qu boxes id_ r4 hr4) Gdb ⟨O,O,O,O,G⟩) O (G57 (E3 boxes) O (G57 (G0 other) O ?_))
 obtain⟨r5,hr5,h⟩:=Ge h
 refine JLh (G0 r5) (Gk O (Qu boxes other r5 hr5) Gdb ⟨O,O,O,O,G⟩) O (JLh (BL (decide (r4≤r5))) (He6 O O O) O (G8 (hK3 (JCc O h (fun h hb=>?_) (fun h hb=>?_)))))
 ·
  refine Jr fun hK6=>(G57 (BL false) O (G8 (hK6 (Gr (fin1 BL h)))))
 ·
  refine Gn (hK2 (Jr fun hK7=>(JLh (.agg (H2.cs s)) (Gj Hh O O O) O (G57 (E3 boxes) O (G57 (E2 l) O (G57 (G0 other) O (JLh (E1 [other]) (Hd (xs:=[G0 other]) O ⟨O,O,G⟩ Gq Q1 O O O O) O ?_)))))))
  obtain⟨r8,hr8,h⟩:=Ge h
  refine JLh (.tup [E1 r8.1,G0 r8.2]) (Gk O (Ga6 F s boxes l [other] r8 hr8) Jda ⟨O,O,O,O,O,O,O,O,G⟩) O (G57 (.tup [E1 r8.1,G0 r8.2]) O (JLh (E1 r8.1) (H9 O O O) O (JLh (G0 r8.2) (H9 O O O) O (G57 (E1 r8.1) O (G57 (G0 r8.2) O (G8 (hK7 (Js fun hK9=>Jr fun hK10=>(G57 (G0 0) O (G8 (hK10 (Gp ?_))))))))))))
  obtain⟨b24,kx24,hb24,hkx24,h⟩:=Hx h
  refine He (fun i24 (s24:Unit)=>each b24 kx24 (List.drop i24 r8.1) i24 s24=some r) (fun i24 s24=>[(3,G0 id_),(11,E1 r8.1),(13,Ei i24)]) (fun i24 s24=>[]) (fun i24=>r8.1.length - i24) 0 () h ⟨(.sm O O),G,O⟩ ?_
  clear h
  intro i24 s24 hi24 K24 e24
  refine Js fun hK25=>Jr fun hK26=>(G57 (Ei i24) O (G57 (E1 r8.1) O (JLl Gq O O O fun hm32=>(JLh (BL (decide ((i24:Int) < (r8.1.length:Int)))) (J1 O O O) O (G8 (hK26 (Gm O (fun hb=>?_) (fun hb=>?_))))))))
  ·
   have hk24:=Jc hb
   obtain⟨y24,nx24,hy24,hn24,h⟩:=Hm hi24 hk24
   replace h:=Rn hb24 h
   refine Gn (hK25 (Js fun hK27=>Gp (Jr fun hK28=>(G57 (E1 r8.1) O (G57 (Ei i24) O (JLh (.dptr [G0 y24]) (Gw (f:=G0) (xs:=r8.1) (y:=y24) O O O Gq hy24 O) O (JLh (G0 y24) (Gf Gc O O O) O (G57 (G0 id_) O (JLh (BL (decide (y24=id_))) (Jx O O O) O (G8 (hK28 (JCc O h (fun h hb=>?_) (fun h hb=>?_)))))))))))))
   ·
    refine Jr fun hK29=>(G57 (BL true) O (G8 (hK29 (Gr (fin1 BL h)))))
   ·
    refine Gn (hK27 (G3 (G57 (Ei i24) O (JLh (G0 ((i24+1:Nat):Int)) (Hu (Hc hk24 hm32) O O O) O (G57 (G0 ((i24+1:Nat):Int)) O (G8 (e24 _ _ (i24+1) () (app1 hn24 h) (by omega) ⟨(.sm O O),G,rfl⟩)))))))
  ·
   have h:=app1 hkx24 (Hn hi24 (H6 hb))
   refine Hk (hK9 (Jr fun hK30=>(G57 (BL false) O (G8 (hK30 (Gr (fin1 BL h)))))))

def Rr (F:Nat) (s:H2) (boxes:List Gg) (l:List Stowed) (id_:Int):Option (List Int):=
 each (fun y24 i24 (s24:(List Int)) nx24=>
  jp (fun kj27=>
   bnd (G17 F s boxes l id_ y24.Gg) fun r29=>
   bif r29 then
   (need (decide ((s24.length+[y24.Gg].length)*8≤140737488355328∧s24.length+[y24.Gg].length≤maxLen)) <|
    kj27 (s24++[y24.Gg]))
   else
   (kj27 s24)) fun(j27:(List Int))=>
  nx24 j27)
 (fun(s24:(List Int))=>
  some s24) l 0 []
theorem G85 (F:Nat) (s:H2) (boxes:List Gg) (l:List Stowed) (id_:Int) (r:(List Int)) (h:Rr F s boxes l id_=some r):Pure Ej 37 [.agg (H2.cs s),E3 boxes,E2 l,G0 id_] (·=E1 r):=by
 unfold Rr at h
 refine Gx [.tmp 8] Tryz.func37 O O (Jr fun hK1=>(JLh (.ptr 1064 0) (Ja (cs:=(H2.cs s)) 1064 O O O O O) O (JLh (E1 ([]:List Int)) (Hb 1 O O) O (G8 (hK1 ?_)))))
 refine Gu [(1,E3 boxes),(2,E2 l),(3,G0 id_),(4,Eb s)] [] 1064 rfl rfl rfl G rfl (by repeat' (first | exact .ptr | constructor)) (Jr fun hK2=>(JLh (OW 1065 1 G0 ([]:List Int)) (G39 1065 3 1 O O O) O (G8 (hK2 (Js fun hK3=>Jr fun hK4=>(G57 (G0 0) O (G8 (hK4 (Gp ?_)))))))))
 obtain⟨b24,kx24,hb24,hkx24,h⟩:=Hx h
 refine He (fun i24 (s24:(List Int))=>each b24 kx24 (List.drop i24 l) i24 s24=some r) (fun i24 s24=>[(1,E3 boxes),(2,E2 l),(3,G0 id_),(4,Eb s),(9,OW 1065 1 G0 s24),(10,Ei i24)]) (fun i24 s24=>[(1065,.spare 3 1 s24.length s24.length)]) (fun i24=>l.length - i24) 0 [] h ⟨(.sm O O),⟨⟨_,rfl,.same⟩,G⟩,rfl⟩ ?_
 clear h
 intro i24 s24 hi24 K24 e24
 refine Js fun hK25=>Jr fun hK26=>(G57 (Ei i24) O (G57 (E2 l) O (JLl H0 O O O fun hm13=>(JLh (BL (decide ((i24:Int) < (l.length:Int)))) (J1 O O O) O (G8 (hK26 (Gm O (fun hb=>?_) (fun hb=>?_))))))))
 ·
  have hk24:=Jc hb
  obtain⟨y24,nx24,hy24,hn24,h⟩:=Hm hi24 hk24
  replace h:=Rn hb24 h
  refine Gn (hK25 ?_)
  obtain⟨kj27,hkj27,h⟩:=G37 h
  refine Zy (fun j27:(List Int)=>kj27 j27=some r) (fun j27=>[(1,E3 boxes),(2,E2 l),(3,G0 id_),(4,Eb s),(9,OW 1065 1 G0 j27),(10,Ei i24)]) (fun j27=>[(1065,.spare 3 1 j27.length j27.length)]) (fun Kj27 ej27=>?_) ?_
  ·
   refine Gp (Js fun hK28=>G2a (l':=[(1,E3 boxes),(2,E2 l),(3,G0 id_),(4,Eb s),(9,OW 1065 1 G0 s24),(10,Ei i24)]) (L':=[(1065,.spare 3 1 s24.length s24.length)]) ⟨(.sm O O),⟨⟨_,rfl,.same⟩,G⟩,rfl⟩ ?_)
   obtain⟨r29,hr29,h⟩:=Ge h
   refine JC_d0 Jg (by kernel_rfl) (Dq (.agg (H2.cs s)) (Gj Hh O O O) O (Dq (E3 boxes) (G5 O O) O (Dq (E2 l) (G5 O O) O (Dq (G0 id_) (G5 O O) O (Dq (E2 l) (G5 O O) O (Dq (Ei i24) (G5 O O) O (Dq (Ec y24) (Gw (f:=Stowed.av) (xs:=l) (y:=y24) O O O H0 hy24 O) O (Dq (Ec y24) (Ga Hw O O O) O (Dq (G0 y24.Gg) (Gf Gc O O O) O (Dq (BL r29) (Gk (args:=[.agg (H2.cs s),E3 boxes,E2 l,G0 id_,G0 y24.Gg]) O (Ha0 F s boxes l id_ y24.Gg r29 hr29) Q94 ⟨O,O,O,O,O,O,O,O,O,O,G⟩) O (Dnil ?_)))))))))))
   refine hK28 (JCc O h (fun h hb=>?_) (fun h hb=>?_))
   ·
    refine G3 (G57 (OW 1065 1 G0 s24) O (G57 (E2 l) O (G57 (Ei i24) O (JLh (Ec y24) (Gw (f:=Stowed.av) (xs:=l) (y:=y24) O O O H0 hy24 O) O (JLh (Ec y24) (Ga Hw O O O) O (JLh (G0 y24.Gg) (Gf Gc O O O) O (JLh (E1 [y24.Gg]) (Hd (xs:=[G0 y24.Gg]) O ⟨O,O,G⟩ Gq Q1 O O O O) O ?_)))))))
    obtain⟨ha30,h⟩:=Hv h
    refine JLh (OW 1065 1 G0 (s24++[y24.Gg])) (Qo (f:=G0) (xs:=s24) (ys:=[y24.Gg]) O O O O Gq Y2 ha30 (fun _=>O) (.inl O) O) O (G57 (OW 1065 1 G0 (s24++[y24.Gg])) O (G8 (ej27 _ _ (s24++[y24.Gg]) h ⟨(.sm O O),⟨⟨_,rfl,.same⟩,G⟩,rfl⟩)))
   ·
    refine Gn (ej27 _ _ s24 h ⟨(.sm O O),⟨⟨_,rfl,.same⟩,G⟩,rfl⟩)
  ·intro j27 h
   replace h:=app1 hkj27 h
   refine G3 (G57 (Ei i24) O (JLh (G0 ((i24+1:Nat):Int)) (Hu (Hc hk24 hm13) O O O) O (G57 (G0 ((i24+1:Nat):Int)) O (G8 (e24 _ _ (i24+1) j27 (app1 hn24 h) (by omega) ⟨(.sm O O),⟨⟨_,rfl,.same⟩,G⟩,rfl⟩)))))
 ·
  have h:=app1 hkx24 (Hn hi24 (H6 hb))
  refine Hk (hK3 (Jr fun hK31=>(G57 (OW 1065 1 G0 s24) O (G57 (OW 1065 1 G0 s24) O (G8 (hK31 (Gr (fin1l (fun r:(List Int)=>(E1 r:AV)) h))))))))

def Qx (F:Nat) (s:H2) (boxes:List Gg) (l:List Stowed) (id_:Int):Option ((List Int)×Int):=
 bnd (Q9 F s boxes l) fun r4=>
 bif (!r4) then
 (some ([],2))
 else
 (bnd (Yq l id_) fun r8=>
  bif decide (r8 < 0) then
  (some ([],6))
  else
  (bnd (Rr F s boxes l id_) fun r11=>
   some (r11,0)))
theorem H37 (F:Nat) (s:H2) (boxes:List Gg) (l:List Stowed) (id_:Int) (r:(List Int)×Int) (h:Qx F s boxes l id_=some r):Pure Ej 11 [.agg (H2.cs s),E3 boxes,E2 l,G0 id_] (·=.tup [E1 r.1,G0 r.2]):=by
 unfold Qx at h
 refine Gx [.tmp 8,.tmp 9] Tryz.func11 O O (Jr fun hK1=>(JLh (.ptr 1012 0) (Ja (cs:=(H2.cs s)) 1012 O O O O O) O (JLh (E1 ([]:List Int)) (Hb 1 O O) O (G57 (G0 0) O (G8 (hK1 ?_))))))
 refine Gu [(1,E3 boxes),(2,E2 l),(3,G0 id_),(4,Eb s)] [] 1012 rfl rfl rfl G rfl (by repeat' (first | exact .ptr | constructor)) (Js fun hK2=>Jr fun hK3=>(JLh (.agg (H2.cs s)) (Gj Hh O O O) O (G57 (E3 boxes) O (G57 (E2 l) O ?_))))
 obtain⟨r4,hr4,h⟩:=Ge h
 refine JLh (BL r4) (Gk O (G11 F s boxes l r4 hr4) H8d ⟨O,O,O,O,O,O,G⟩) O (JLh (BL (!r4)) (Qh (b:=r4) O O) O (G8 (hK3 (JCc O h (fun h hb=>?_) (fun h hb=>?_)))))
 ·
  refine Jr fun hK5=>(JLh (E1 ([]:List Int)) (Hb 1 O O) O (G57 (G0 2) O (G8 (hK5 (Gr (⟨[E1 ([]:List Int),G0 2],[],G,O,⟨⟨_,O,.conv (.same O)⟩,⟨_,O,.conv (.same O)⟩,G⟩,O,congrArg (fun r:(List Int)×Int=>(.tup [E1 r.1,G0 r.2]:AV)) (Option.some.inj h)⟩))))))
 ·
  refine Gn (hK2 (Js fun hK6=>Jr fun hK7=>(G57 (E2 l) O (G57 (G0 id_) O ?_))))
  obtain⟨r8,hr8,h⟩:=Ge h
  refine JLh (G0 r8) (Gk O (G77 l id_ r8 hr8) J1d ⟨O,O,O,O,G⟩) O (JLh (BL (decide (r8 < 0))) (J1 O O O) O (G8 (hK7 (JCc O h (fun h hb=>?_) (fun h hb=>?_)))))
  ·
   refine Jr fun hK9=>(JLh (E1 ([]:List Int)) (Hb 1 O O) O (G57 (G0 6) O (G8 (hK9 (Gr (⟨[E1 ([]:List Int),G0 6],[],G,O,⟨⟨_,O,.conv (.same O)⟩,⟨_,O,.conv (.same O)⟩,G⟩,O,congrArg (fun r:(List Int)×Int=>(.tup [E1 r.1,G0 r.2]:AV)) (Option.some.inj h)⟩))))))
  ·
   refine Gn (hK6 (Jr fun hK10=>(JLh (.agg (H2.cs s)) (Gj Hh O O O) O (G57 (E3 boxes) O (G57 (E2 l) O (G57 (G0 id_) O ?_))))))
   obtain⟨r11,hr11,h⟩:=Ge h
   refine JLh (E1 r11) (Gk O (G85 F s boxes l id_ r11 hr11) Jdc ⟨O,O,O,O,O,O,O,O,G⟩) O (G57 (E1 r11) O (G57 (G0 0) O (G8 (hK10 (Gr (⟨[E1 r11,G0 0],[],G,O,⟨⟨_,O,.conv (.same O)⟩,⟨_,O,.conv (.same O)⟩,G⟩,O,congrArg (fun r:(List Int)×Int=>(.tup [E1 r.1,G0 r.2]:AV)) (Option.some.inj h)⟩))))))

def Rc (F:Nat) (s:H2) (boxes:List Gg) (l:List Stowed):Option ((List Int)×Int):=
 bnd (Q9 F s boxes l) fun r4=>
 bif (!r4) then
 (some ([],2))
 else
 (each (fun y28 i28 (s28:(List Int)) nx28=>
   jp (fun kj31=>
    bnd (Rr F s boxes l y28.Gg) fun r33=>
    bif decide (0 < (r33.length:Int)) then
    (need (decide ((s28.length+[y28.Gg].length)*8≤140737488355328∧s28.length+[y28.Gg].length≤maxLen)) <|
     kj31 (s28++[y28.Gg]))
    else
    (kj31 s28)) fun(j31:(List Int))=>
   nx28 j31)
  (fun(s28:(List Int))=>
   some (s28,0)) l 0 [])
theorem H0e (F:Nat) (s:H2) (boxes:List Gg) (l:List Stowed) (r:(List Int)×Int) (h:Rc F s boxes l=some r):Pure Ej 13 [.agg (H2.cs s),E3 boxes,E2 l] (·=.tup [E1 r.1,G0 r.2]):=by
 unfold Rc at h
 refine Gx [.tmp 6,.tmp 7] Tryz.func13 O O (Jr fun hK1=>(JLh (.ptr 1018 0) (Ja (cs:=(H2.cs s)) 1018 O O O O O) O (JLh (E1 ([]:List Int)) (Hb 1 O O) O (G57 (G0 0) O (G8 (hK1 ?_))))))
 refine Gu [(1,E3 boxes),(2,E2 l),(3,Eb s)] [] 1018 rfl rfl rfl G rfl (by exact⟨.conv (.same rfl),.conv (.same rfl),.ptr,G⟩) (Js fun hK2=>Jr fun hK3=>(JLh (.agg (H2.cs s)) (Gj Hh O O O) O (G57 (E3 boxes) O (G57 (E2 l) O ?_))))
 obtain⟨r4,hr4,h⟩:=Ge h
 refine JLh (BL r4) (Gk O (G11 F s boxes l r4 hr4) H8d ⟨O,O,O,O,O,O,G⟩) O (JLh (BL (!r4)) (Qh (b:=r4) O O) O (G8 (hK3 (JCc O h (fun h hb=>?_) (fun h hb=>?_)))))
 ·
  refine Jr fun hK5=>(JLh (E1 ([]:List Int)) (Hb 1 O O) O (G57 (G0 2) O (G8 (hK5 (Gr (⟨[E1 ([]:List Int),G0 2],[],G,O,⟨⟨_,O,.conv (.same O)⟩,⟨_,O,.conv (.same O)⟩,G⟩,O,congrArg (fun r:(List Int)×Int=>(.tup [E1 r.1,G0 r.2]:AV)) (Option.some.inj h)⟩))))))
 ·
  refine Gn (hK2 (Jr fun hK6=>(JLh (OW 1019 1 G0 ([]:List Int)) (G39 1019 3 1 O O O) O (G8 (hK6 (Js fun hK7=>Jr fun hK8=>(G57 (G0 0) O (G8 (hK8 (Gp ?_))))))))))
  obtain⟨b28,kx28,hb28,hkx28,h⟩:=Hx h
  refine He (fun i28 (s28:(List Int))=>each b28 kx28 (List.drop i28 l) i28 s28=some r) (fun i28 s28=>[(1,E3 boxes),(2,E2 l),(3,Eb s),(8,OW 1019 1 G0 s28),(9,Ei i28)]) (fun i28 s28=>[(1019,.spare 3 1 s28.length s28.length)]) (fun i28=>l.length - i28) 0 [] h ⟨(.sm O O),⟨⟨_,rfl,.same⟩,G⟩,rfl⟩ ?_
  clear h
  intro i28 s28 hi28 K28 e28
  refine Js fun hK29=>Jr fun hK30=>(G57 (Ei i28) O (G57 (E2 l) O (JLl H0 O O O fun hm17=>(JLh (BL (decide ((i28:Int) < (l.length:Int)))) (J1 O O O) O (G8 (hK30 (Gm O (fun hb=>?_) (fun hb=>?_))))))))
  ·
   have hk28:=Jc hb
   obtain⟨y28,nx28,hy28,hn28,h⟩:=Hm hi28 hk28
   replace h:=Rn hb28 h
   refine Gn (hK29 ?_)
   obtain⟨kj31,hkj31,h⟩:=G37 h
   refine Zy (fun j31:(List Int)=>kj31 j31=some r) (fun j31=>[(1,E3 boxes),(2,E2 l),(3,Eb s),(8,OW 1019 1 G0 j31),(9,Ei i28)]) (fun j31=>[(1019,.spare 3 1 j31.length j31.length)]) (fun Kj31 ej31=>?_) ?_
   ·
    refine Gp (Js fun hK32=>G2a (l':=[(1,E3 boxes),(2,E2 l),(3,Eb s),(8,OW 1019 1 G0 s28),(9,Ei i28)]) (L':=[(1019,.spare 3 1 s28.length s28.length)]) ⟨(.sm O O),⟨⟨_,rfl,.same⟩,G⟩,rfl⟩ ?_)
    obtain⟨r33,hr33,h⟩:=Ge h
    refine JC_d0 Jg (by kernel_rfl) (Dq (.agg (H2.cs s)) (Gj Hh O O O) O (Dq (E3 boxes) (G5 O O) O (Dq (E2 l) (G5 O O) O (Dq (E2 l) (G5 O O) O (Dq (Ei i28) (G5 O O) O (Dq (Ec y28) (Gw (f:=Stowed.av) (xs:=l) (y:=y28) O O O H0 hy28 O) O (Dq (Ec y28) (Ga Hw O O O) O (Dq (G0 y28.Gg) (Gf Gc O O O) O (Dq (E1 r33) (Gk (args:=[.agg (H2.cs s),E3 boxes,E2 l,G0 y28.Gg]) O (G85 F s boxes l y28.Gg r33 hr33) Jdc ⟨O,O,O,O,O,O,O,O,G⟩) O (Dq (Ei r33.length) (Qw (f:=G0) (xs:=r33) Gq O O) O (Dq (BL (decide (0 < (r33.length:Int)))) (G3d O O O) O (Dnil ?_))))))))))))
    refine hK32 (JCc O h (fun h hb=>?_) (fun h hb=>?_))
    ·
     refine G3 (G57 (OW 1019 1 G0 s28) O (G57 (E2 l) O (G57 (Ei i28) O (JLh (Ec y28) (Gw (f:=Stowed.av) (xs:=l) (y:=y28) O O O H0 hy28 O) O (JLh (Ec y28) (Ga Hw O O O) O (JLh (G0 y28.Gg) (Gf Gc O O O) O (JLh (E1 [y28.Gg]) (Hd (xs:=[G0 y28.Gg]) O ⟨O,O,G⟩ Gq Q1 O O O O) O ?_)))))))
     obtain⟨ha34,h⟩:=Hv h
     refine JLh (OW 1019 1 G0 (s28++[y28.Gg])) (Qo (f:=G0) (xs:=s28) (ys:=[y28.Gg]) O O O O Gq Y2 ha34 (fun _=>O) (.inl O) O) O (G57 (OW 1019 1 G0 (s28++[y28.Gg])) O (G8 (ej31 _ _ (s28++[y28.Gg]) h ⟨(.sm O O),⟨⟨_,rfl,.same⟩,G⟩,rfl⟩)))
    ·
     refine Gn (ej31 _ _ s28 h ⟨(.sm O O),⟨⟨_,rfl,.same⟩,G⟩,rfl⟩)
   ·intro j31 h
    replace h:=app1 hkj31 h
    refine G3 (G57 (Ei i28) O (JLh (G0 ((i28+1:Nat):Int)) (Hu (Hc hk28 hm17) O O O) O (G57 (G0 ((i28+1:Nat):Int)) O (G8 (e28 _ _ (i28+1) j31 (app1 hn28 h) (by omega) ⟨(.sm O O),⟨⟨_,rfl,.same⟩,G⟩,rfl⟩)))))
  ·
   have h:=app1 hkx28 (Hn hi28 (H6 hb))
   refine Hk (hK7 (Jr fun hK35=>(G57 (OW 1019 1 G0 s28) O (G57 (OW 1019 1 G0 s28) O (G57 (G0 0) O (G8 (hK35 (Gr (⟨[E1 s28,G0 0],[],G,O,⟨⟨_,O,.conv (.list O)⟩,⟨_,O,.conv (.same O)⟩,G⟩,O,congrArg (fun r:(List Int)×Int=>(.tup [E1 r.1,G0 r.2]:AV)) (Option.some.inj h)⟩)))))))))

def Qm (F:Nat) (s:H2) (boxes:List Gg) (l:List Stowed):Option (Int×(List Int)×(List Int)×Int):=
 bnd (Q9 F s boxes l) fun r4=>
 bif (!r4) then
 (some (0,[],[],2))
 else
 (bif decide ((l.length:Int)=0) then
  (some (0,[],[],6))
  else
  (Qr l 0 fun y10=>
   bnd (Jm boxes y10.Gg) fun r12=>
   each (fun y30 i30 (s30:Int) nx30=>
    jp (fun kj33=>
     bnd (Jm boxes y30.Gg) fun r35=>
     bif decide (r35 < s30) then
     (kj33 r35)
     else
     (kj33 s30)) fun(j33:Int)=>
    nx30 j33)
   (fun(s30:Int)=>
    each (fun y59 i59 (s59:(List Int)) nx59=>
     jp (fun kj62=>
      bnd (Jm boxes y59.Gg) fun r64=>
      bif decide (r64=s30) then
      (need (decide ((s59.length+[y59.Gg].length)*8≤140737488355328∧s59.length+[y59.Gg].length≤maxLen)) <|
       kj62 (s59++[y59.Gg]))
      else
      (kj62 s59)) fun(j62:(List Int))=>
     nx59 j62)
    (fun(s59:(List Int))=>
     bnd (Qv F s boxes l s59) fun r67=>
     each (fun y89 i89 (s89:(List Int)) nx89=>
      jp (fun kj92=>
       bnd (Jm boxes y89) fun r94=>
       bif decide (s30 < r94) then
       (need (decide ((s89.length+[y89].length)*8≤140737488355328∧s89.length+[y89].length≤maxLen)) <|
        kj92 (s89++[y89]))
       else
       (kj92 s89)) fun(j92:(List Int))=>
      nx89 j92)
     (fun(s89:(List Int))=>
      some (s30,s59,s89,0)) r67.1 0 []) l 0 []) l 0 r12))
theorem H36 (F:Nat) (s:H2) (boxes:List Gg) (l:List Stowed) (r:Int×(List Int)×(List Int)×Int) (h:Qm F s boxes l=some r):Pure Ej 15 [.agg (H2.cs s),E3 boxes,E2 l] (·=.tup [G0 r.1,E1 r.2.1,E1 r.2.2.1,G0 r.2.2.2]):=by
 unfold Qm at h
 refine Gx [.tmp 6,.tmp 7,.tmp 8,.tmp 9] Tryz.func15 O O (Jr fun hK1=>(JLh (.ptr 1025 0) (Ja (cs:=(H2.cs s)) 1025 O O O O O) O (G57 (G0 0) O (JLh (E1 ([]:List Int)) (Hb 1 O O) O (JLh (E1 ([]:List Int)) (Hb 1 O O) O (G57 (G0 0) O (G8 (hK1 ?_))))))))
 refine Gu [(1,E3 boxes),(2,E2 l),(3,Eb s)] [] 1025 rfl rfl rfl G rfl (by exact⟨.conv (.same rfl),.conv (.same rfl),.ptr,G⟩) (Js fun hK2=>Jr fun hK3=>(JLh (.agg (H2.cs s)) (Gj Hh O O O) O (G57 (E3 boxes) O (G57 (E2 l) O ?_))))
 obtain⟨r4,hr4,h⟩:=Ge h
 refine JLh (BL r4) (Gk O (G11 F s boxes l r4 hr4) H8d ⟨O,O,O,O,O,O,G⟩) O (JLh (BL (!r4)) (Qh (b:=r4) O O) O (G8 (hK3 (JCc O h (fun h hb=>?_) (fun h hb=>?_)))))
 ·
  refine Jr fun hK5=>(G57 (G0 0) O (JLh (E1 ([]:List Int)) (Hb 1 O O) O (JLh (E1 ([]:List Int)) (Hb 1 O O) O (G57 (G0 2) O (G8 (hK5 (Gr (⟨[G0 0,E1 ([]:List Int),E1 ([]:List Int),G0 2],[],G,O,⟨⟨_,O,.conv (.same O)⟩,⟨_,O,.conv (.same O)⟩,⟨_,O,.conv (.same O)⟩,⟨_,O,.conv (.same O)⟩,G⟩,O,congrArg (fun r:Int×(List Int)×(List Int)×Int=>(.tup [G0 r.1,E1 r.2.1,E1 r.2.2.1,G0 r.2.2.2]:AV)) (Option.some.inj h)⟩))))))))
 ·
  refine Gn (hK2 (Js fun hK6=>Jr fun hK7=>(G57 (E2 l) O (JLl H0 O O O fun hm25=>(JLh (BL (decide ((l.length:Int)=0))) (Jx O O O) O (G8 (hK7 (JCc O h (fun h hb=>?_) (fun h hb=>?_)))))))))
  ·
   refine Jr fun hK8=>(G57 (G0 0) O (JLh (E1 ([]:List Int)) (Hb 1 O O) O (JLh (E1 ([]:List Int)) (Hb 1 O O) O (G57 (G0 6) O (G8 (hK8 (Gr (⟨[G0 0,E1 ([]:List Int),E1 ([]:List Int),G0 6],[],G,O,⟨⟨_,O,.conv (.same O)⟩,⟨_,O,.conv (.same O)⟩,⟨_,O,.conv (.same O)⟩,⟨_,O,.conv (.same O)⟩,G⟩,O,congrArg (fun r:Int×(List Int)×(List Int)×Int=>(.tup [G0 r.1,E1 r.2.1,E1 r.2.2.1,G0 r.2.2.2]:AV)) (Option.some.inj h)⟩))))))))
  ·
   refine Gn (hK6 (Jr fun hK9=>(G57 (E3 boxes) O (G57 (E2 l) O ?_))))
   obtain⟨m11,y10,hm11,hy10,h⟩:=R2 h
   refine JLh (Ec y10) (Gw (f:=Stowed.av) (xs:=l) (y:=y10) O O O H0 hy10 hm11) O (JLh (Ec y10) (Ga Hw O O O) O (JLh (G0 y10.Gg) (Gf Gc O O O) O ?_))
   obtain⟨r12,hr12,h⟩:=Ge h
   refine JLh (G0 r12) (Gk O (Qu boxes y10.Gg r12 hr12) Gdb ⟨O,O,O,O,G⟩) O (G57 (G0 r12) O (G8 (hK9 (Js fun hK13=>Jr fun hK14=>(G57 (G0 0) O (G8 (hK14 (Gp ?_))))))))
   obtain⟨b30,kx30,hb30,hkx30,h⟩:=Hx h
   refine He (fun i30 (s30:Int)=>each b30 kx30 (List.drop i30 l) i30 s30=some r) (fun i30 s30=>[(1,E3 boxes),(2,E2 l),(3,Eb s),(10,G0 s30),(11,Ei i30)]) (fun i30 s30=>[]) (fun i30=>l.length - i30) 0 r12 h ⟨(.sm O O),G,rfl⟩ ?_
   clear h
   intro i30 s30 hi30 K30 e30
   refine Js fun hK31=>Jr fun hK32=>(G57 (Ei i30) O (G57 (E2 l) O (JLl H0 O O O fun hm35=>(JLh (BL (decide ((i30:Int) < (l.length:Int)))) (J1 O O O) O (G8 (hK32 (Gm O (fun hb=>?_) (fun hb=>?_))))))))
   ·
    have hk30:=Jc hb
    obtain⟨y30,nx30,hy30,hn30,h⟩:=Hm hi30 hk30
    replace h:=Rn hb30 h
    refine Gn (hK31 ?_)
    obtain⟨kj33,hkj33,h⟩:=G37 h
    refine Zy (fun j33:Int=>kj33 j33=some r) (fun j33=>[(1,E3 boxes),(2,E2 l),(3,Eb s),(10,G0 j33),(11,Ei i30)]) (fun j33=>[]) (fun Kj33 ej33=>?_) ?_
    ·
     refine Gp (Jr fun hK34=>(G57 (E3 boxes) O (G57 (E2 l) O (G57 (Ei i30) O (JLh (Ec y30) (Gw (f:=Stowed.av) (xs:=l) (y:=y30) O O O H0 hy30 O) O (JLh (Ec y30) (Ga Hw O O O) O (JLh (G0 y30.Gg) (Gf Gc O O O) O ?_)))))))
     obtain⟨r35,hr35,h⟩:=Ge h
     refine JLh (G0 r35) (Gk O (Qu boxes y30.Gg r35 hr35) Gdb ⟨O,O,O,O,G⟩) O (G57 (G0 r35) O (G8 (hK34 (Jr fun hK36=>(G57 (G0 r35) O (G57 (G0 s30) O (JLh (BL (decide (r35 < s30))) (J1 O O O) O (G8 (hK36 (JCc O h (fun h hb=>?_) (fun h hb=>?_)))))))))))
     ·
      refine G3 (G57 (G0 r35) O (G57 (G0 r35) O (G8 (ej33 _ _ r35 h ⟨(.sm O O),G,rfl⟩))))
     ·
      refine Gn (ej33 _ _ s30 h ⟨(.sm O O),G,rfl⟩)
    ·intro j33 h
     replace h:=app1 hkj33 h
     refine G3 (G57 (Ei i30) O (JLh (G0 ((i30+1:Nat):Int)) (Hu (Hc hk30 hm35) O O O) O (G57 (G0 ((i30+1:Nat):Int)) O (G8 (e30 _ _ (i30+1) j33 (app1 hn30 h) (by omega) ⟨(.sm O O),G,rfl⟩)))))
   ·
    have h:=app1 hkx30 (Hn hi30 (H6 hb))
    refine Hk (hK13 (Jr fun hK37=>(JLh (OW 1026 1 G0 ([]:List Int)) (G39 1026 3 1 O O O) O (JLh (OW 1027 1 G0 ([]:List Int)) (G39 1027 3 1 O O O) O (G8 (hK37 (Js fun hK38=>Jr fun hK39=>(G57 (G0 0) O (G8 (hK39 (Gp ?_)))))))))))
    obtain⟨b59,kx59,hb59,hkx59,h⟩:=Hx h
    refine He (fun i59 (s59:(List Int))=>each b59 kx59 (List.drop i59 l) i59 s59=some r) (fun i59 s59=>[(1,E3 boxes),(2,E2 l),(3,Eb s),(10,G0 s30),(13,OW 1026 1 G0 s59),(14,OW 1027 1 G0 ([]:List Int)),(15,Ei i59)]) (fun i59 s59=>[(1026,.spare 3 1 s59.length s59.length),(1027,.spare 3 1 ([]:List Int).length ([]:List Int).length)]) (fun i59=>l.length - i59) 0 [] h ⟨(.sm O O),⟨⟨_,rfl,.same⟩,⟨_,rfl,.same⟩,G⟩,rfl⟩ ?_
    clear h
    intro i59 s59 hi59 K59 e59
    refine Js fun hK60=>Jr fun hK61=>(G57 (Ei i59) O (G57 (E2 l) O (JLl H0 O O O fun hm52=>(JLh (BL (decide ((i59:Int) < (l.length:Int)))) (J1 O O O) O (G8 (hK61 (Gm O (fun hb=>?_) (fun hb=>?_))))))))
    ·
     have hk59:=Jc hb
     obtain⟨y59,nx59,hy59,hn59,h⟩:=Hm hi59 hk59
     replace h:=Rn hb59 h
     refine Gn (hK60 ?_)
     obtain⟨kj62,hkj62,h⟩:=G37 h
     refine Zy (fun j62:(List Int)=>kj62 j62=some r) (fun j62=>[(1,E3 boxes),(2,E2 l),(3,Eb s),(10,G0 s30),(13,OW 1026 1 G0 j62),(14,OW 1027 1 G0 ([]:List Int)),(15,Ei i59)]) (fun j62=>[(1026,.spare 3 1 j62.length j62.length),(1027,.spare 3 1 ([]:List Int).length ([]:List Int).length)]) (fun Kj62 ej62=>?_) ?_
     ·
      refine Gp (Jr fun hK63=>(G57 (E3 boxes) O (G57 (E2 l) O (G57 (Ei i59) O (JLh (Ec y59) (Gw (f:=Stowed.av) (xs:=l) (y:=y59) O O O H0 hy59 O) O (JLh (Ec y59) (Ga Hw O O O) O (JLh (G0 y59.Gg) (Gf Gc O O O) O ?_)))))))
      obtain⟨r64,hr64,h⟩:=Ge h
      refine JLh (G0 r64) (Gk O (Qu boxes y59.Gg r64 hr64) Gdb ⟨O,O,O,O,G⟩) O (G57 (G0 s30) O (JLh (BL (decide (r64=s30))) (Jx O O O) O (G8 (hK63 (JCc O h (fun h hb=>?_) (fun h hb=>?_))))))
      ·
       refine G3 (G57 (OW 1026 1 G0 s59) O (G57 (E2 l) O (G57 (Ei i59) O (JLh (Ec y59) (Gw (f:=Stowed.av) (xs:=l) (y:=y59) O O O H0 hy59 O) O (JLh (Ec y59) (Ga Hw O O O) O (JLh (G0 y59.Gg) (Gf Gc O O O) O (JLh (E1 [y59.Gg]) (Hd (xs:=[G0 y59.Gg]) O ⟨O,O,G⟩ Gq Q1 O O O O) O ?_)))))))
       obtain⟨ha65,h⟩:=Hv h
       refine JLh (OW 1026 1 G0 (s59++[y59.Gg])) (Qo (f:=G0) (xs:=s59) (ys:=[y59.Gg]) O O O O Gq Y2 ha65 (fun _=>O) (.inl O) O) O (G57 (OW 1026 1 G0 (s59++[y59.Gg])) O (G8 (ej62 _ _ (s59++[y59.Gg]) h ⟨(.sm O O),⟨⟨_,rfl,.same⟩,⟨_,rfl,.same⟩,G⟩,rfl⟩)))
      ·
       refine Gn (ej62 _ _ s59 h ⟨(.sm O O),⟨⟨_,rfl,.same⟩,⟨_,rfl,.same⟩,G⟩,rfl⟩)
     ·intro j62 h
      replace h:=app1 hkj62 h
      refine G3 (G57 (Ei i59) O (JLh (G0 ((i59+1:Nat):Int)) (Hu (Hc hk59 hm52) O O O) O (G57 (G0 ((i59+1:Nat):Int)) O (G8 (e59 _ _ (i59+1) j62 (app1 hn59 h) (by omega) ⟨(.sm O O),⟨⟨_,rfl,.same⟩,⟨_,rfl,.same⟩,G⟩,rfl⟩)))))
    ·
     have h:=app1 hkx59 (Hn hi59 (H6 hb))
     refine Hk (hK38 (Jr fun hK66=>(JLh (.agg (H2.cs s)) (Gj Hh O O O) O (G57 (E3 boxes) O (G57 (E2 l) O (G57 (OW 1026 1 G0 s59) O ?_))))))
     obtain⟨r67,hr67,h⟩:=Ge h
     refine JLh (.tup [E1 r67.1,G0 r67.2]) (Gk O (Ga6 F s boxes l s59 r67 hr67) Jda ⟨O,O,O,O,O,O,O,O,G⟩) O (G57 (.tup [E1 r67.1,G0 r67.2]) O (JLh (E1 r67.1) (H9 O O O) O (JLh (G0 r67.2) (H9 O O O) O (G57 (E1 r67.1) O (G57 (G0 r67.2) O (G8 (hK66 (Js fun hK68=>Jr fun hK69=>(G57 (G0 0) O (G8 (hK69 (Gp ?_))))))))))))
     obtain⟨b89,kx89,hb89,hkx89,h⟩:=Hx h
     refine He (fun i89 (s89:(List Int))=>each b89 kx89 (List.drop i89 r67.1) i89 s89=some r) (fun i89 s89=>[(1,E3 boxes),(10,G0 s30),(13,OW 1026 1 G0 s59),(14,OW 1027 1 G0 s89),(16,E1 r67.1),(18,Ei i89)]) (fun i89 s89=>[(1026,.spare 3 1 s59.length s59.length),(1027,.spare 3 1 s89.length s89.length)]) (fun i89=>r67.1.length - i89) 0 [] h ⟨(.sm O O),⟨⟨_,rfl,.same⟩,⟨_,rfl,.same⟩,G⟩,rfl⟩ ?_
     clear h
     intro i89 s89 hi89 K89 e89
     refine Js fun hK90=>Jr fun hK91=>(G57 (Ei i89) O (G57 (E1 r67.1) O (JLl Gq O O O fun hm83=>(JLh (BL (decide ((i89:Int) < (r67.1.length:Int)))) (J1 O O O) O (G8 (hK91 (Gm O (fun hb=>?_) (fun hb=>?_))))))))
     ·
      have hk89:=Jc hb
      obtain⟨y89,nx89,hy89,hn89,h⟩:=Hm hi89 hk89
      replace h:=Rn hb89 h
      refine Gn (hK90 ?_)
      obtain⟨kj92,hkj92,h⟩:=G37 h
      refine Zy (fun j92:(List Int)=>kj92 j92=some r) (fun j92=>[(1,E3 boxes),(10,G0 s30),(13,OW 1026 1 G0 s59),(14,OW 1027 1 G0 j92),(16,E1 r67.1),(18,Ei i89)]) (fun j92=>[(1026,.spare 3 1 s59.length s59.length),(1027,.spare 3 1 j92.length j92.length)]) (fun Kj92 ej92=>?_) ?_
      ·
       refine Gp (Jr fun hK93=>(G57 (E3 boxes) O (G57 (E1 r67.1) O (G57 (Ei i89) O (JLh (.dptr [G0 y89]) (Gw (f:=G0) (xs:=r67.1) (y:=y89) O O O Gq hy89 O) O (JLh (G0 y89) (Gf Gc O O O) O ?_))))))
       obtain⟨r94,hr94,h⟩:=Ge h
       refine JLh (G0 r94) (Gk O (Qu boxes y89 r94 hr94) Gdb ⟨O,O,O,O,G⟩) O (G57 (G0 s30) O (JLh (BL (decide (s30 < r94))) (G3d O O O) O (G8 (hK93 (JCc O h (fun h hb=>?_) (fun h hb=>?_))))))
       ·
        refine G3 (G57 (OW 1027 1 G0 s89) O (G57 (E1 r67.1) O (G57 (Ei i89) O (JLh (.dptr [G0 y89]) (Gw (f:=G0) (xs:=r67.1) (y:=y89) O O O Gq hy89 O) O (JLh (G0 y89) (Gf Gc O O O) O (JLh (E1 [y89]) (Hd (xs:=[G0 y89]) O ⟨O,O,G⟩ Gq Q1 O O O O) O ?_))))))
        obtain⟨ha95,h⟩:=Hv h
        refine JLh (OW 1027 1 G0 (s89++[y89])) (Qo (f:=G0) (xs:=s89) (ys:=[y89]) O O O O Gq Y2 ha95 (fun _=>O) (.inl O) O) O (G57 (OW 1027 1 G0 (s89++[y89])) O (G8 (ej92 _ _ (s89++[y89]) h ⟨(.sm O O),⟨⟨_,rfl,.same⟩,⟨_,rfl,.same⟩,G⟩,rfl⟩)))
       ·
        refine Gn (ej92 _ _ s89 h ⟨(.sm O O),⟨⟨_,rfl,.same⟩,⟨_,rfl,.same⟩,G⟩,rfl⟩)
      ·intro j92 h
       replace h:=app1 hkj92 h
       refine G3 (G57 (Ei i89) O (JLh (G0 ((i89+1:Nat):Int)) (Hu (Hc hk89 hm83) O O O) O (G57 (G0 ((i89+1:Nat):Int)) O (G8 (e89 _ _ (i89+1) j92 (app1 hn89 h) (by omega) ⟨(.sm O O),⟨⟨_,rfl,.same⟩,⟨_,rfl,.same⟩,G⟩,rfl⟩)))))
     ·
      have h:=app1 hkx89 (Hn hi89 (H6 hb))
      refine Hk (hK68 (Jr fun hK96=>(G57 (G0 s30) O (G57 (OW 1026 1 G0 s59) O (G57 (OW 1027 1 G0 s89) O (G57 (G0 s30) O (G57 (OW 1026 1 G0 s59) O (G57 (OW 1027 1 G0 s89) O (G57 (G0 0) O (G8 (hK96 (Gr (⟨[G0 s30,E1 s59,E1 s89,G0 0],[],G,O,⟨⟨_,O,.conv (.same O)⟩,⟨_,O,.conv (.list O)⟩,⟨_,O,.conv (.list O)⟩,⟨_,O,.conv (.same O)⟩,G⟩,O,congrArg (fun r:Int×(List Int)×(List Int)×Int=>(.tup [G0 r.1,E1 r.2.1,E1 r.2.2.1,G0 r.2.2.2]:AV)) (Option.some.inj h)⟩)))))))))))))

def Rz (F:Nat) (s:H2) (boxes:List Gg) (l:List Stowed) (id_:Int):Option Bool:=
 bnd (G18 s boxes l) fun r4=>
 bif (!r4) then
 (bnd (Yi F) fun r6=>
  some r6)
 else
 (bnd (Ze s) fun r8=>
  bnd (Z0 boxes) fun r9=>
  bnd (Y8 l) fun r10=>
  bnd (Yb F (H2.mk (r8.Columns.1.map Gz.pl) (r8.Covers.1.map H8.pl) r8.Light r8.Rows.1 r8.Frames.1 (r8.Tanks.1.map Hg.pl) r8.G2) r9.1 r10.1 id_) fun r12=>
  bnd (Qx F s boxes l id_) fun r14=>
  bnd (Yh F (H2.mk (r8.Columns.1.map Gz.pl) (r8.Covers.1.map H8.pl) r8.Light r8.Rows.1 r8.Frames.1 (r8.Tanks.1.map Hg.pl) r8.G2) r9.1 r10.1) fun r16=>
  bnd (Rc F s boxes l) fun r18=>
  bnd (Z4 F (H2.mk (r8.Columns.1.map Gz.pl) (r8.Covers.1.map H8.pl) r8.Light r8.Rows.1 r8.Frames.1 (r8.Tanks.1.map Hg.pl) r8.G2) r9.1 r10.1) fun r20=>
  bnd (Qm F s boxes l) fun r22=>
  bnd (bif (!((((decide (r12.2≠r14.2))||(decide (r16.2≠r18.2)))||(decide (r20.2.2.2≠r22.2.2.2)))||(decide (r20.1≠r22.1)))) then J0 r12.1 r14.1 else some default) fun r25=>
  bnd (bif (!(((((decide (r12.2≠r14.2))||(decide (r16.2≠r18.2)))||(decide (r20.2.2.2≠r22.2.2.2)))||(decide (r20.1≠r22.1)))||(!r25))) then J0 r16.1 r18.1 else some default) fun r26=>
  bnd (bif (!((((((decide (r12.2≠r14.2))||(decide (r16.2≠r18.2)))||(decide (r20.2.2.2≠r22.2.2.2)))||(decide (r20.1≠r22.1)))||(!r25))||(!r26))) then J0 r20.2.1 r22.2.1 else some default) fun r27=>
  bnd (bif (!(((((((decide (r12.2≠r14.2))||(decide (r16.2≠r18.2)))||(decide (r20.2.2.2≠r22.2.2.2)))||(decide (r20.1≠r22.1)))||(!r25))||(!r26))||(!r27))) then J0 r20.2.2.1 r22.2.2.1 else some default) fun r28=>
  bif ((((((((decide (r12.2≠r14.2))||(decide (r16.2≠r18.2)))||(decide (r20.2.2.2≠r22.2.2.2)))||(decide (r20.1≠r22.1)))||(!r25))||(!r26))||(!r27))||(!r28)) then
  (some false)
  else
  (bnd (Zg r8 s) fun r31=>
   bnd (bif r31 then Z1 r9 boxes else some default) fun r32=>
   bnd (bif (r31&&r32) then Ya r10 l else some default) fun r33=>
   bnd (bif ((r31&&r32)&&r33) then Yi F else some default) fun r34=>
   some (((r31&&r32)&&r33)&&r34)))
theorem Gf5 (F:Nat) (s:H2) (boxes:List Gg) (l:List Stowed) (id_:Int) (r:Bool) (h:Rz F s boxes l id_=some r):Pure Ej 3 [.agg (H2.cs s),E3 boxes,E2 l,G0 id_] (·=BL r):=by
 unfold Rz at h
 refine Gx [.tmp 8] Tryz.func3 O O (Jr fun hK1=>(JLh (.ptr 1001 0) (Ja (cs:=(H2.cs s)) 1001 O O O O O) O (G57 (BL false) O (G8 (hK1 (Gu [(1,E3 boxes),(2,E2 l),(3,G0 id_),(4,Eb s)] [] 1001 rfl rfl rfl G rfl (by repeat' (first | exact .ptr | constructor)) (Js fun hK2=>?_)))))))
 refine Jr fun hK3=>(JLh (.agg (H2.cs s)) (Gj Hh O O O) O (G57 (E3 boxes) O (G57 (E2 l) O ?_)))
 obtain⟨r4,hr4,h⟩:=Ge h
 refine JLh (BL r4) (Gk O (Ha1 s boxes l r4 hr4) tf_call_5 ⟨O,O,O,O,O,O,G⟩) O (JLh (BL (!r4)) (Qh (b:=r4) O O) O (G8 (hK3 (JCc O h (fun h hb=>?_) (fun h hb=>?_)))))
 ·
  refine Jr fun hK5=>?_
  obtain⟨r6,hr6,h⟩:=Ge h
  refine JLh (BL r6) (Gk O (Ga7 F r6 hr6) Q35 G) O (G57 (BL r6) O (G8 (hK5 (Gr (fin1 BL h)))))
 ·
  refine Gn (hK2 (Jr fun hK7=>(JLh (.agg (H2.cs s)) (Gj Hh O O O) O ?_)))
  obtain⟨r8,hr8,h⟩:=Ge h
  refine JLh (.agg (Yd.cs r8)) (Gk O (H4d s r8 hr8) tf_call_7 ⟨O,O,G⟩) O (G57 (E3 boxes) O ?_)
  obtain⟨r9,hr9,h⟩:=Ge h
  refine JLh (LT 9 Gg.av r9) (Gk O (H3d boxes r9 hr9) tf_call_8 ⟨O,O,G⟩) O (G57 (E2 l) O ?_)
  obtain⟨r10,hr10,h⟩:=Ge h
  refine JLh (LT 4 Stowed.av r10) (Gk O (H04 l r10 hr10) tf_call_9 ⟨O,O,G⟩) O (JLh (.ptr 1002 0) (Ju 1002 13 J82 O O) O (Jf (u:=.junk) (J2 (u:=.agg (Yd.cs r8)) (ds:=(Yd.cs r8)) H88 O O O O O O O O) (G57 (LT 9 Gg.av r9) O (G57 (LT 4 Stowed.av r10) O (G8 (hK7 ?_))))))
  refine Gu [(1,E3 boxes),(2,E2 l),(3,G0 id_),(4,Eb s),(9,.dptr (Yd.cs r8)),(10,LT 9 Gg.av r9),(11,LT 4 Stowed.av r10)] [] 1002 rfl rfl rfl G rfl (by repeat' (first | exact .ptr | constructor)) ?_
  refine Jr fun hK11=>(JLh (.agg [E4 (r8.Columns.1.map Gz.pl),E5 (r8.Covers.1.map H8.pl),G0 r8.Light.Kilos,G0 r8.Light.X,G0 r8.Light.Y,G0 r8.Light.Z,E7 r8.Rows.1,E6 r8.Frames.1,E8 (r8.Tanks.1.map Hg.pl),G0 r8.G2.Tolerance,G0 r8.G2.Trim,G0 r8.G2.List_,G0 r8.G2.Stability]) (H4.cv (Cv.aggL (cs:=(Yd.cs r8)) ⟨Cv.lstM (f:=Gz.av) (g:=G4.av) Gz.pl Gz.cvl r8.Columns,Cv.lstM (f:=H8.av) (g:=G9.av) H8.pl H8.cvl r8.Covers,.same,.same,.same,.same,Cv.lst0 r8.Rows,Cv.lst0 r8.Frames,Cv.lstM (f:=Hg.av) (g:=Gh.av) Hg.pl Hg.cvl r8.Tanks,.same,.same,.same,.same,G⟩) (Gj Hh O O O)) O (JLh (E3 r9.1) (H4.cv (Cv.lst0 r9) (G5 O O)) O (JLh (E2 r10.1) (H4.cv (Cv.lst0 r10) (G5 O O)) O (G57 (G0 id_) O ?_))))
  obtain⟨r12,hr12,h⟩:=Ge h
  refine JLh (.tup [E1 r12.1,G0 r12.2]) (Gk O (G7d F (H2.mk (r8.Columns.1.map Gz.pl) (r8.Covers.1.map H8.pl) r8.Light r8.Rows.1 r8.Frames.1 (r8.Tanks.1.map Hg.pl) r8.G2) r9.1 r10.1 id_ r12 hr12) H8e ⟨O,O,O,O,O,O,O,O,G⟩) O (G57 (.tup [E1 r12.1,G0 r12.2]) O (JLh (E1 r12.1) (H9 O O O) O (JLh (G0 r12.2) (H9 O O O) O (G57 (E1 r12.1) O (G57 (G0 r12.2) O (G8 (hK11 (Jr fun hK13=>(JLh (.agg (H2.cs s)) (Gj Hh O O O) O (G57 (E3 boxes) O (G57 (E2 l) O (G57 (G0 id_) O ?_))))))))))))
  obtain⟨r14,hr14,h⟩:=Ge h
  refine JLh (.tup [E1 r14.1,G0 r14.2]) (Gk O (H37 F s boxes l id_ r14 hr14) Qb5 ⟨O,O,O,O,O,O,O,O,G⟩) O (G57 (.tup [E1 r14.1,G0 r14.2]) O (JLh (E1 r14.1) (H9 O O O) O (JLh (G0 r14.2) (H9 O O O) O (G57 (E1 r14.1) O (G57 (G0 r14.2) O (G8 (hK13 ?_)))))))
  refine Jr fun hK15=>(JLh (.agg [E4 (r8.Columns.1.map Gz.pl),E5 (r8.Covers.1.map H8.pl),G0 r8.Light.Kilos,G0 r8.Light.X,G0 r8.Light.Y,G0 r8.Light.Z,E7 r8.Rows.1,E6 r8.Frames.1,E8 (r8.Tanks.1.map Hg.pl),G0 r8.G2.Tolerance,G0 r8.G2.Trim,G0 r8.G2.List_,G0 r8.G2.Stability]) (H4.cv (Cv.aggL (cs:=(Yd.cs r8)) ⟨Cv.lstM (f:=Gz.av) (g:=G4.av) Gz.pl Gz.cvl r8.Columns,Cv.lstM (f:=H8.av) (g:=G9.av) H8.pl H8.cvl r8.Covers,.same,.same,.same,.same,Cv.lst0 r8.Rows,Cv.lst0 r8.Frames,Cv.lstM (f:=Hg.av) (g:=Gh.av) Hg.pl Hg.cvl r8.Tanks,.same,.same,.same,.same,G⟩) (Gj Hh O O O)) O (JLh (E3 r9.1) (H4.cv (Cv.lst0 r9) (G5 O O)) O (JLh (E2 r10.1) (H4.cv (Cv.lst0 r10) (G5 O O)) O ?_)))
  obtain⟨r16,hr16,h⟩:=Ge h
  refine JLh (.tup [E1 r16.1,G0 r16.2]) (Gk O (H34.down F (H2.mk (r8.Columns.1.map Gz.pl) (r8.Covers.1.map H8.pl) r8.Light r8.Rows.1 r8.Frames.1 (r8.Tanks.1.map Hg.pl) r8.G2) r9.1 r10.1 r16 hr16) Je2 ⟨O,O,O,O,O,O,G⟩) O (G57 (.tup [E1 r16.1,G0 r16.2]) O (JLh (E1 r16.1) (H9 O O O) O (JLh (G0 r16.2) (H9 O O O) O (G57 (E1 r16.1) O (G57 (G0 r16.2) O (G8 (hK15 (Jr fun hK17=>(JLh (.agg (H2.cs s)) (Gj Hh O O O) O (G57 (E3 boxes) O (G57 (E2 l) O ?_)))))))))))
  obtain⟨r18,hr18,h⟩:=Ge h
  refine JLh (.tup [E1 r18.1,G0 r18.2]) (Gk O (H0e F s boxes l r18 hr18) Qb4 ⟨O,O,O,O,O,O,G⟩) O (G57 (.tup [E1 r18.1,G0 r18.2]) O (JLh (E1 r18.1) (H9 O O O) O (JLh (G0 r18.2) (H9 O O O) O (G57 (E1 r18.1) O (G57 (G0 r18.2) O (G8 (hK17 ?_)))))))
  refine Jr fun hK19=>(JLh (.agg [E4 (r8.Columns.1.map Gz.pl),E5 (r8.Covers.1.map H8.pl),G0 r8.Light.Kilos,G0 r8.Light.X,G0 r8.Light.Y,G0 r8.Light.Z,E7 r8.Rows.1,E6 r8.Frames.1,E8 (r8.Tanks.1.map Hg.pl),G0 r8.G2.Tolerance,G0 r8.G2.Trim,G0 r8.G2.List_,G0 r8.G2.Stability]) (H4.cv (Cv.aggL (cs:=(Yd.cs r8)) ⟨Cv.lstM (f:=Gz.av) (g:=G4.av) Gz.pl Gz.cvl r8.Columns,Cv.lstM (f:=H8.av) (g:=G9.av) H8.pl H8.cvl r8.Covers,.same,.same,.same,.same,Cv.lst0 r8.Rows,Cv.lst0 r8.Frames,Cv.lstM (f:=Hg.av) (g:=Gh.av) Hg.pl Hg.cvl r8.Tanks,.same,.same,.same,.same,G⟩) (Gj Hh O O O)) O (JLh (E3 r9.1) (H4.cv (Cv.lst0 r9) (G5 O O)) O (JLh (E2 r10.1) (H4.cv (Cv.lst0 r10) (G5 O O)) O ?_)))
  obtain⟨r20,hr20,h⟩:=Ge h
  refine JLh (.tup [G0 r20.1,E1 r20.2.1,E1 r20.2.2.1,G0 r20.2.2.2]) (Gk O (H5f F (H2.mk (r8.Columns.1.map Gz.pl) (r8.Covers.1.map H8.pl) r8.Light r8.Rows.1 r8.Frames.1 (r8.Tanks.1.map Hg.pl) r8.G2) r9.1 r10.1 r20 hr20) Je1 ⟨O,O,O,O,O,O,G⟩) O (G57 (.tup [G0 r20.1,E1 r20.2.1,E1 r20.2.2.1,G0 r20.2.2.2]) O (JLh (G0 r20.1) (H9 O O O) O (JLh (E1 r20.2.1) (H9 O O O) O (JLh (E1 r20.2.2.1) (H9 O O O) O (JLh (G0 r20.2.2.2) (H9 O O O) O (G57 (G0 r20.1) O (G57 (E1 r20.2.1) O (G57 (E1 r20.2.2.1) O (G57 (G0 r20.2.2.2) O (G8 (hK19 ?_)))))))))))
  refine Jr fun hK21=>(JLh (.agg (H2.cs s)) (Gj Hh O O O) O (G57 (E3 boxes) O (G57 (E2 l) O ?_)))
  obtain⟨r22,hr22,h⟩:=Ge h
  refine JLh (.tup [G0 r22.1,E1 r22.2.1,E1 r22.2.2.1,G0 r22.2.2.2]) (Gk O (H36 F s boxes l r22 hr22) Qb3 ⟨O,O,O,O,O,O,G⟩) O (G57 (.tup [G0 r22.1,E1 r22.2.1,E1 r22.2.2.1,G0 r22.2.2.2]) O (JLh (G0 r22.1) (H9 O O O) O (JLh (E1 r22.2.1) (H9 O O O) O (JLh (E1 r22.2.2.1) (H9 O O O) O (JLh (G0 r22.2.2.2) (H9 O O O) O (G57 (G0 r22.1) O (G57 (E1 r22.2.1) O (G57 (E1 r22.2.2.1) O (G57 (G0 r22.2.2.2) O (G8 (hK21 (Js fun hK23=>?_))))))))))))
  refine Jr fun hK24=>(G57 (G0 r12.2) O (G57 (G0 r14.2) O (JLh (BL (decide (r12.2≠r14.2))) (G30 O O O) O (G57 (BL (decide (r12.2≠r14.2))) O (JLo (G0 r16.2) [] O .scf G (fun hc=>G5 O O) O (JLo (G0 r18.2) [] O .scf G (fun hc=>G5 O O) O (JLo (BL (decide (r16.2≠r18.2))) [92,93] O .scf ⟨Ua,Ua,G⟩ (fun hc=>G30 O O O) O (JLh (BL ((decide (r12.2≠r14.2))||(decide (r16.2≠r18.2)))) (Yc O O O O) O (G57 (BL ((decide (r12.2≠r14.2))||(decide (r16.2≠r18.2)))) O (JLo (G0 r20.2.2.2) [] O .scf G (fun hc=>G5 O O) O (JLo (G0 r22.2.2.2) [] O .scf G (fun hc=>G5 O O) O (JLo (BL (decide (r20.2.2.2≠r22.2.2.2))) [97,98] O .scf ⟨Ua,Ua,G⟩ (fun hc=>G30 O O O) O (JLh (BL (((decide (r12.2≠r14.2))||(decide (r16.2≠r18.2)))||(decide (r20.2.2.2≠r22.2.2.2)))) (Yc O O O O) O ?_)))))))))))))
  refine G57 (BL (((decide (r12.2≠r14.2))||(decide (r16.2≠r18.2)))||(decide (r20.2.2.2≠r22.2.2.2)))) O (JLo (G0 r20.1) [] O .scf G (fun hc=>G5 O O) O (JLo (G0 r22.1) [] O .scf G (fun hc=>G5 O O) O (JLo (BL (decide (r20.1≠r22.1))) [102,103] O .scf ⟨Ua,Ua,G⟩ (fun hc=>G30 O O O) O (JLh (BL ((((decide (r12.2≠r14.2))||(decide (r16.2≠r18.2)))||(decide (r20.2.2.2≠r22.2.2.2)))||(decide (r20.1≠r22.1)))) (Yc O O O O) O (G57 (BL ((((decide (r12.2≠r14.2))||(decide (r16.2≠r18.2)))||(decide (r20.2.2.2≠r22.2.2.2)))||(decide (r20.1≠r22.1)))) O (JLo (E1 r12.1) [] O .scf G (fun hc=>G5 O O) O (JLo (E1 r14.1) [] O .scf G (fun hc=>G5 O O) O ?_)))))))
  obtain⟨r25,hr25,h⟩:=Ge h
  refine JLo (BL r25) [107,108] O .scf ⟨Ua,Ua,G⟩ (fun hc=>Gk (args:=[E1 r12.1,E1 r14.1]) O (J9 r12.1 r14.1 r25 (Gy hc hr25)) G07 ⟨O,O,O,O,G⟩) O (JLo (BL (!r25)) [109] O .scf ⟨Ua,G⟩ (fun hc=>Qh (b:=r25) O O) O (JLh (BL (((((decide (r12.2≠r14.2))||(decide (r16.2≠r18.2)))||(decide (r20.2.2.2≠r22.2.2.2)))||(decide (r20.1≠r22.1)))||(!r25))) (Yc O O O O) O (G57 (BL (((((decide (r12.2≠r14.2))||(decide (r16.2≠r18.2)))||(decide (r20.2.2.2≠r22.2.2.2)))||(decide (r20.1≠r22.1)))||(!r25))) O (JLo (E1 r16.1) [] O .scf G (fun hc=>G5 O O) O (JLo (E1 r18.1) [] O .scf G (fun hc=>G5 O O) O ?_)))))
  obtain⟨r26,hr26,h⟩:=Ge h
  refine JLo (BL r26) [113,114] O .scf ⟨Ua,Ua,G⟩ (fun hc=>Gk (args:=[E1 r16.1,E1 r18.1]) O (J9 r16.1 r18.1 r26 (Gy hc hr26)) G07 ⟨O,O,O,O,G⟩) O (JLo (BL (!r26)) [115] O .scf ⟨Ua,G⟩ (fun hc=>Qh (b:=r26) O O) O (JLh (BL ((((((decide (r12.2≠r14.2))||(decide (r16.2≠r18.2)))||(decide (r20.2.2.2≠r22.2.2.2)))||(decide (r20.1≠r22.1)))||(!r25))||(!r26))) (Yc O O O O) O (G57 (BL ((((((decide (r12.2≠r14.2))||(decide (r16.2≠r18.2)))||(decide (r20.2.2.2≠r22.2.2.2)))||(decide (r20.1≠r22.1)))||(!r25))||(!r26))) O (JLo (E1 r20.2.1) [] O .scf G (fun hc=>G5 O O) O (JLo (E1 r22.2.1) [] O .scf G (fun hc=>G5 O O) O ?_)))))
  obtain⟨r27,hr27,h⟩:=Ge h
  refine JLo (BL r27) [119,120] O .scf ⟨Ua,Ua,G⟩ (fun hc=>Gk (args:=[E1 r20.2.1,E1 r22.2.1]) O (J9 r20.2.1 r22.2.1 r27 (Gy hc hr27)) G07 ⟨O,O,O,O,G⟩) O (JLo (BL (!r27)) [121] O .scf ⟨Ua,G⟩ (fun hc=>Qh (b:=r27) O O) O (JLh (BL (((((((decide (r12.2≠r14.2))||(decide (r16.2≠r18.2)))||(decide (r20.2.2.2≠r22.2.2.2)))||(decide (r20.1≠r22.1)))||(!r25))||(!r26))||(!r27))) (Yc O O O O) O (G57 (BL (((((((decide (r12.2≠r14.2))||(decide (r16.2≠r18.2)))||(decide (r20.2.2.2≠r22.2.2.2)))||(decide (r20.1≠r22.1)))||(!r25))||(!r26))||(!r27))) O (JLo (E1 r20.2.2.1) [] O .scf G (fun hc=>G5 O O) O (JLo (E1 r22.2.2.1) [] O .scf G (fun hc=>G5 O O) O ?_)))))
  obtain⟨r28,hr28,h⟩:=Ge h
  refine JLo (BL r28) [125,126] O .scf ⟨Ua,Ua,G⟩ (fun hc=>Gk (args:=[E1 r20.2.2.1,E1 r22.2.2.1]) O (J9 r20.2.2.1 r22.2.2.1 r28 (Gy hc hr28)) G07 ⟨O,O,O,O,G⟩) O (JLo (BL (!r28)) [127] O .scf ⟨Ua,G⟩ (fun hc=>Qh (b:=r28) O O) O (JLh (BL ((((((((decide (r12.2≠r14.2))||(decide (r16.2≠r18.2)))||(decide (r20.2.2.2≠r22.2.2.2)))||(decide (r20.1≠r22.1)))||(!r25))||(!r26))||(!r27))||(!r28))) (Yc O O O O) O (G8 (hK24 (JCc O h (fun h hb=>?_) (fun h hb=>?_))))))
  ·
   refine Jr fun hK29=>(G57 (BL false) O (G8 (hK29 (Gr (fin1 BL h)))))
  ·
   refine Gn (hK23 (Jr fun hK30=>(JLh (.agg (Yd.cs r8)) (Gj Hh O O O) O (JLh (.agg (H2.cs s)) (Gj Hh O O O) O ?_))))
   obtain⟨r31,hr31,h⟩:=Ge h
   refine JLh (BL r31) (Gk O (H50 r8 s r31 hr31) Qb2 ⟨O,O,O,O,G⟩) O (G57 (BL r31) O (JLo (LT 9 Gg.av r9) [] O .sct G (fun hc=>G5 O O) O (JLo (E3 boxes) [] O .sct G (fun hc=>G5 O O) O ?_)))
   obtain⟨r32,hr32,h⟩:=Ge h
   refine JLo (BL r32) [134,135] O .sct ⟨Ua,Ua,G⟩ (fun hc=>Gk (args:=[LT 9 Gg.av r9,E3 boxes]) O (H40 r9 boxes r32 (Gy hc hr32)) Qb1 ⟨O,O,O,O,G⟩) O (JLh (BL (r31&&r32)) (J5 O O O O) O (G57 (BL (r31&&r32)) O (JLo (LT 4 Stowed.av r10) [] O .sct G (fun hc=>G5 O O) O (JLo (E2 l) [] O .sct G (fun hc=>G5 O O) O ?_))))
   obtain⟨r33,hr33,h⟩:=Ge h
   refine JLo (BL r33) [139,140] O .sct ⟨Ua,Ua,G⟩ (fun hc=>Gk (args:=[LT 4 Stowed.av r10,E2 l]) O (H06 r10 l r33 (Gy hc hr33)) Qb0 ⟨O,O,O,O,G⟩) O (JLh (BL ((r31&&r32)&&r33)) (J5 O O O O) O (G57 (BL ((r31&&r32)&&r33)) O ?_))
   obtain⟨r34,hr34,h⟩:=Ge h
   refine JLo (BL r34) [] O .sct G (fun hc=>Gk (args:=[]) O (Ga7 F r34 (Gy hc hr34)) Q35 G) O (JLh (BL (((r31&&r32)&&r33)&&r34)) (J5 O O O O) O (G57 (BL (((r31&&r32)&&r33)&&r34)) O (G8 (hK30 (Gr (fin1 BL h))))))
end
end Go.Proofs.YthcpolfodgjekaaGreat
