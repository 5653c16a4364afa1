/-
 Models of functions of the program,and that they return what the models say.
-/
import Derived.Test.YthcpolfodgjekaaGreatXPb
set_option maxRecDepth 100000
set_option maxHeartbeats 1000000
set_option linter.unusedVariables false
set_option linter.unusedSimpArgs false
namespace Go.Proofs.YthcpolfodgjekaaGreat
open Go.RowKit
noncomputable section
open XAF
open XLF
open XCF
open XGF
open XHF
open XPF

def Rz (F:Nat) (s:H0) (boxes:List Box) (l:List Stowed) (ids:List Int):Option ((List Int)×Int):=
 bnd (Q7 F s boxes l) fun r4=>
 bif (!r4) then
 (some ([],2))
 else
 (bnd (Gd7 (l.length:Int)) fun m7=>
  need (decide (1*m7≤281474976710656∧m7≤maxLen∧m7*1≤16777216)) <|
  each (fun y81 i81 (s81:(List Bool)) nx81=>
   bnd (Ra l y81) fun r87=>
   bif decide (r87 < 0) then
   (some ([],6))
   else
   (bnd (Ra l y81) fun r89=>
    Qm s81 r89 fun y90=>
    nx81 (s81.set r89.toNat true)))
  (fun(s81:(List Bool))=>
   loop (fun nx93 (s93:Bool×(List Bool))=>
    bif s93.1 then
    (each (fun y98 i98 (s98:Bool×(List Bool)) nx98=>
      each (fun y177 i177 (s177:Bool×(List Bool)) nx177=>
       jp (fun kj180=>
        Qm s177.2 (i98:Int) fun y183=>
        bnd (bif (!(!y183)) then Qm s177.2 (i177:Int) some else some default) fun y184=>
        bif ((!y183)||y184) then
        (kj180 (s177.1,s177.2))
        else
        (bnd (G0b s y98.Slot.G3) fun r186=>
         bnd (G1b y177.Slot y98.Slot) fun r188=>
         bnd (bif ((!r188)&&(decide (0≤r186))) then R9 s y177.Slot.G3 r186 else some default) fun r189=>
         bif (r188||((decide (0≤r186))&&r189)) then
         (Qm s177.2 (i177:Int) fun y190=>
          kj180 (true,(s177.2.set (i177:Int).toNat true)))
         else
         (kj180 (s177.1,s177.2)))) fun(j180:Bool×(List Bool))=>
       nx177 (j180.1,j180.2))
      (fun(s177:Bool×(List Bool))=>
       nx98 (s177.1,s177.2)) l 0 (s98.1,s98.2))
     (fun(s98:Bool×(List Bool))=>
      nx93 (s98.1,s98.2)) l 0 (false,s93.2))
    else
    (each (fun y209 i209 (s209:(List Int)) nx209=>
      jp (fun kj212=>
       Qm s93.2 (i209:Int) fun y214=>
       bif y214 then
       (need (decide ((s209.length+[y209.Box].length)*8≤140737488355328∧s209.length+[y209.Box].length≤maxLen)) <|
        kj212 (s209++[y209.Box]))
       else
       (kj212 s209)) fun(j212:(List Int))=>
      nx209 j212)
     (fun(s209:(List Int))=>
      some (s209,0)) l 0 [])) F (true,s81)) ids 0 (List.replicate m7 (false:Bool)))
theorem Gc4 (F:Nat) (s:H0) (boxes:List Box) (l:List Stowed) (ids:List Int) (r:(List Int)×Int) (h:Rz F s boxes l ids=some r):Pure Ej 42 [.agg (H0.cs s),E3 boxes,E2 l,E1 ids] (·=.tup [E1 r.1,I64 r.2]):=by
 unfold Rz at h
 refine Gy [.tmp 8,.tmp 9] Tryz.func42 O O (Jr fun hK1=>(JLh (.ptr 1081 0) (J7 (cs:=(H0.cs s)) 1081 O O O O O) O (JLh (E1 ([]:List Int)) (H2 1 O O) O (JLm (I64 0) O (G7 (hK1 ?_))))))
 refine Gr [(1,E3 boxes),(2,E2 l),(3,E1 ids),(4,Eb s)] [] 1081 rfl rfl rfl G rfl (by repeat' (first | exact .ptr | constructor)) (Js fun hK2=>Jr fun hK3=>(JLh (.agg (H0.cs s)) (Gg H7 O O O) O (JLm (E3 boxes) O (JLm (E2 l) O ?_))))
 obtain⟨r4,hr4,h⟩:=Gd h
 refine JLh (BL r4) (Gi O (Y7 F s boxes l r4 hr4) H04 ⟨O,O,O,O,O,O,G⟩) O (JLh (BL (!r4)) (Q3 (b:=r4) O O) O (G7 (hK3 (JCc O h (fun h hb=>?_) (fun h hb=>?_)))))
 ·
  refine Jr fun hK5=>(JLh (E1 ([]:List Int)) (H2 1 O O) O (JLm (I64 2) O (G7 (hK5 (Gq (⟨[E1 ([]:List Int),I64 2],[],G,O,⟨⟨_,O,.conv (.same O)⟩,⟨_,O,.conv (.same O)⟩,G⟩,O,congrArg (fun r:(List Int)×Int=>(.tup [E1 r.1,I64 r.2]:AV)) (Kj h)⟩))))))
 ·
  refine Gm (hK2 (Jr fun hK6=>(JLm (E2 l) O (JLl Gx O O O fun hm24=>?_))))
  obtain⟨m7,hm7,h⟩:=Gd h
  obtain⟨ha8,h⟩:=Hp h
  refine JLh (.vec 1083 0 1 ((List.replicate m7 (false:Bool)).length)) (R47 1083 (f:=BL) (n:=m7) false [.bool false] O O O O Gab Rdb Rd7 (G56 hm7) (G56 hm7) ha8 ⟨.inl O,G⟩ O) O (JLm (.vec 1083 0 1 ((List.replicate m7 (false:Bool)).length)) O (G7 (hK6 (Js fun hK9=>Jr fun hK10=>(JLm (I64 0) O (G7 (hK10 (Gp ?_))))))))
  obtain⟨b81,kx81,hb81,hkx81,h⟩:=Hv h
  refine Hc (fun i81 (s81:(List Bool))=>each b81 kx81 (List.drop i81 ids) i81 s81=some r) (fun i81 s81=>[(2,E2 l),(3,E1 ids),(4,Eb s),(10,.vec 1083 0 1 ((List.replicate m7 (false:Bool)).length)),(11,Ei i81)]) (fun i81 s81=>[(1083,.vec 4 1 0 (s81.map BL))]) (fun i81=>ids.length - i81) 0 (List.replicate m7 (false:Bool)) h ⟨(.sm O O),⟨⟨_,rfl,.vec⟩,G⟩,rfl⟩ ?_
  clear h
  intro i81 s81 hi81 K81 e81
  refine Js fun hK82=>Jr fun hK83=>(JLm (Ei i81) O (JLm (E1 ids) O (JLl Gn O O O fun hm28=>(JLh (BL (decide ((i81:Int) < (ids.length:Int)))) (Hy O O O) O (G7 (hK83 (Gj O (fun hb=>?_) (fun hb=>?_))))))))
  ·
   have hk81:=J8 hb
   obtain⟨y81,nx81,hy81,hn81,h⟩:=Hj hi81 hk81
   replace h:=R8 hb81 h
   refine Gm (hK82 (Js fun hK84=>Gp (Js fun hK85=>Jr fun hK86=>(JLm (E2 l) O (JLm (E1 ids) O (JLm (Ei i81) O (JLh (.dptr [I64 y81]) (Gv (f:=I64) (xs:=ids) (y:=y81) O O O Gn hy81 O) O (JLh (I64 y81) (Ge Gb O O O) O ?_))))))))
   obtain⟨r87,hr87,h⟩:=Gd h
   refine JLh (I64 r87) (Gi O (G1a l y81 r87 hr87) H55 ⟨O,O,O,O,G⟩) O (JLh (BL (decide (r87 < 0))) (Hy O O O) O (G7 (hK86 (JCc O h (fun h hb=>?_) (fun h hb=>?_)))))
   ·
    refine Jr fun hK88=>(JLh (E1 ([]:List Int)) (H2 1 O O) O (JLm (I64 6) O (G7 (hK88 (Gq (⟨[E1 ([]:List Int),I64 6],[],G,O,⟨⟨_,O,.conv (.same O)⟩,⟨_,O,.conv (.same O)⟩,G⟩,O,congrArg (fun r:(List Int)×Int=>(.tup [E1 r.1,I64 r.2]:AV)) (Kj h)⟩))))))
   ·
    refine Gm (hK85 (G2 (JLm (.vec 1083 0 1 ((List.replicate m7 (false:Bool)).length)) O (JLm (E2 l) O (JLm (E1 ids) O (JLm (Ei i81) O (JLh (.dptr [I64 y81]) (Gv (f:=I64) (xs:=ids) (y:=y81) O O O Gn hy81 O) O (JLh (I64 y81) (Ge Gb O O O) O ?_))))))))
    obtain⟨r89,hr89,h⟩:=Gd h
    refine JLh (I64 r89) (Gi O (G1a l y81 r89 hr89) H55 ⟨O,O,O,O,G⟩) O ?_
    obtain⟨y90,hmy90,hy90,h⟩:=Gd8 h
    refine JLh (.vptr 1083 0 r89.toNat 0) (H1c (f:=BL) (xs:=s81) (y:=y90) O O O O Gab hy90 hmy90) O (Je (u:=.junk) (J24 (f:=BL) (xs:=s81) (z:=true) Q85 O O O O (Kh hy90).1 O O O O) (G7 (hK84 (G2 (JLm (Ei i81) O (JLh (I64 ((i81+1:Nat):Int)) (Ht (Hb hk81 hm28) O O O) O (JLm (I64 ((i81+1:Nat):Int)) O (G7 (e81 _ _ (i81+1) (s81.set r89.toNat true) (app1 hn81 h) (by omega) ⟨(.sm O O),⟨⟨_,rfl,.vec⟩,G⟩,rfl⟩)))))))))
  ·
   have h:=app1 hkx81 (Hk hi81 (H3 hb))
   refine Hi (hK9 (Js fun hK91=>Jr fun hK92=>(JLm (BL true) O (G7 (hK92 (Gp ?_))))))
   obtain⟨b93,hb93,h⟩:=Jef h
   refine Hc (fun i93 (s93:Bool×(List Bool))=>loop b93 i93 s93=some r) (fun i93 s93=>[(2,E2 l),(4,Eb s),(10,.vec 1083 0 1 ((List.replicate m7 (false:Bool)).length)),(12,BL s93.1)]) (fun i93 s93=>[(1083,.vec 4 1 0 (s93.2.map BL))]) (fun i93=>i93) F (true,s81) h ⟨(.sm O O),⟨⟨_,rfl,.vec⟩,G⟩,rfl⟩ ?_
   clear h
   intro i93 s93 hi93 K93 e93
   obtain⟨m93,nx93,hm_93,hn93,h⟩:=J77 hi93
   replace h:=Y5c hb93 h
   refine Js fun hK94=>Jr fun hK95=>(JLm (BL s93.1) O (G7 (hK95 (JCc O h (fun h hb=>?_) (fun h hb=>?_)))))
   ·
    refine Gm (hK94 (Gp (Jr fun hK96=>(JLm (BL false) O (G7 (hK96 (Jr fun hK97=>(JLm (I64 0) O (G7 (hK97 (Gp ?_)))))))))))
    obtain⟨b98,kx98,hb98,hkx98,h⟩:=Hv h
    refine Hc (fun i98 (s98:Bool×(List Bool))=>each b98 kx98 (List.drop i98 l) i98 s98=some r) (fun i98 s98=>[(2,E2 l),(4,Eb s),(10,.vec 1083 0 1 ((List.replicate m7 (false:Bool)).length)),(12,BL s98.1),(13,Ei i98)]) (fun i98 s98=>[(1083,.vec 4 1 0 (s98.2.map BL))]) (fun i98=>l.length - i98) 0 (false,s93.2) h ⟨(.sm O O),⟨⟨_,rfl,.vec⟩,G⟩,rfl⟩ ?_
    clear h
    intro i98 s98 hi98 K98 e98
    refine Js fun hK99=>Jr fun hK100=>(JLm (Ei i98) O (JLm (E2 l) O (JLl Gx O O O fun hm50=>(JLh (BL (decide ((i98:Int) < (l.length:Int)))) (Hy O O O) O (G7 (hK100 (Gj O (fun hb=>?_) (fun hb=>?_))))))))
    ·
     have hk98:=J8 hb
     obtain⟨y98,nx98,hy98,hn98,h⟩:=Hj hi98 hk98
     replace h:=R8 hb98 h
     refine Gm (hK99 (Js fun hK101=>Gp (Jr fun hK102=>(JLm (I64 0) O (G7 (hK102 (Gp ?_)))))))
     obtain⟨b177,kx177,hb177,hkx177,h⟩:=Hv h
     refine Hc (fun i177 (s177:Bool×(List Bool))=>each b177 kx177 (List.drop i177 l) i177 s177=some r) (fun i177 s177=>[(2,E2 l),(4,Eb s),(10,.vec 1083 0 1 ((List.replicate m7 (false:Bool)).length)),(12,BL s177.1),(13,Ei i98),(14,Ei i177)]) (fun i177 s177=>[(1083,.vec 4 1 0 (s177.2.map BL))]) (fun i177=>l.length - i177) 0 (s98.1,s98.2) h ⟨(.sm O O),⟨⟨_,rfl,.vec⟩,G⟩,rfl⟩ ?_
     clear h
     intro i177 s177 hi177 K177 e177
     refine Js fun hK178=>Jr fun hK179=>(JLm (Ei i177) O (JLm (E2 l) O (JLl Gx O O O fun hm56=>(JLh (BL (decide ((i177:Int) < (l.length:Int)))) (Hy O O O) O (G7 (hK179 (Gj O (fun hb=>?_) (fun hb=>?_))))))))
     ·
      have hk177:=J8 hb
      obtain⟨y177,nx177,hy177,hn177,h⟩:=Hj hi177 hk177
      replace h:=R8 hb177 h
      refine Gm (hK178 ?_)
      obtain⟨kj180,hkj180,h⟩:=G09 h
      refine Yt (fun j180:Bool×(List Bool)=>kj180 j180=some r) (fun j180=>[(2,E2 l),(4,Eb s),(10,.vec 1083 0 1 ((List.replicate m7 (false:Bool)).length)),(12,BL j180.1),(13,Ei i98),(14,Ei i177)]) (fun j180=>[(1083,.vec 4 1 0 (j180.2.map BL))]) (fun Kj180 ej180=>?_) ?_
      ·
       refine Gp (Js fun hK181=>Jr fun hK182=>(JLm (.vec 1083 0 1 ((List.replicate m7 (false:Bool)).length)) O (JLm (Ei i98) O ?_)))
       obtain⟨y183,hmy183,hy183,h⟩:=Gd8 h
       refine JLh (.vptr 1083 0 ((i98:Int).toNat) 0) (H1c (f:=BL) (xs:=s177.2) (y:=y183) O O O O Gab hy183 hmy183) O (JLh (BL y183) (Hac (f:=BL) (xs:=s177.2) (y:=y183) Qv O O O hy183 O O) O (JLh (BL (!y183)) (Q3 (b:=y183) O O) O (JLm (BL (!y183)) O (JLo (.vec 1083 0 1 ((List.replicate m7 (false:Bool)).length)) [] O .scf G (fun hc=>G4 O O) O (JLo (Ei i177) [] O .scf G (fun hc=>G4 O O) O ?_)))))
       obtain⟨y184,hy184,h⟩:=Gd h
       refine JLo (.vptr 1083 0 ((i177:Int).toNat) 0) [66,67] O .scf ⟨Ua,Ua,G⟩ (fun hc=>H1c (f:=BL) (xs:=s177.2) (y:=y184) O O O O Gab (Hc6 (Gw hc hy184)) (Q39 (Gw hc hy184))) O (JLo (BL y184) [68] O .scf ⟨Ua,G⟩ (fun hc=>Hac (f:=BL) (xs:=s177.2) (y:=y184) Qv O O O (Hc6 (Gw hc hy184)) O O) O (JLh (BL ((!y183)||y184)) (Rs O O O O) O (G7 (hK182 (JCc O h (fun h hb=>?_) (fun h hb=>?_))))))
       ·
        refine Hi (ej180 _ _ (s177.1,s177.2) h ⟨(.sm O O),⟨⟨_,rfl,.vec⟩,G⟩,rfl⟩)
       ·
        refine Gm (hK181 (Js fun hK185=>G29 (l':=[(2,E2 l),(4,Eb s),(10,.vec 1083 0 1 ((List.replicate m7 (false:Bool)).length)),(12,BL s177.1),(13,Ei i98),(14,Ei i177)]) (L':=[(1083,.vec 4 1 0 (s177.2.map BL))]) ⟨(.sm O O),⟨⟨_,rfl,.vec⟩,G⟩,rfl⟩ ?_))
        obtain⟨r186,hr186,h⟩:=Gd h
        refine JC_d0 Jb (by kernel_rfl) (Dq (.agg (H0.cs s)) (Gg H7 O O O) O (Dq (E2 l) (G4 O O) O (Dq (Ei i98) (G4 O O) O (Dq (Ec y98) (Gv (f:=Stowed.av) (xs:=l) (y:=y98) O O O Gx hy98 O) O (Dq (.dptr ((Stowed.cs y98).drop 1)) (Ga Hs O O O) O (Dq (.dptr ((Stowed.cs y98).drop 1)) (Ga J0 O O O) O (Dq (I64 y98.Slot.G3) (Ge Gb O O O) O (Dq (I64 r186) (Gi (args:=[.agg (H0.cs s),I64 y98.Slot.G3]) O (H9a s y98.Slot.G3 r186 hr186) R5f ⟨O,O,O,O,G⟩) O (Dq (I64 r186) (G6 O O) O (Dnil ?_))))))))))
        refine hK185 (Js fun hK187=>G29 (l':=[(2,E2 l),(4,Eb s),(10,.vec 1083 0 1 ((List.replicate m7 (false:Bool)).length)),(12,BL s177.1),(13,Ei i98),(14,Ei i177),(15,I64 r186)]) (L':=[(1083,.vec 4 1 0 (s177.2.map BL))]) ⟨(.sm O O),⟨⟨_,rfl,.vec⟩,G⟩,rfl⟩ ?_)
        obtain⟨r188,hr188,h⟩:=Gd h
        obtain⟨r189,hr189,h⟩:=Gd h
        refine JC_d0 Jb (by kernel_rfl) (Dq (E2 l) (G4 O O) O (Dq (Ei i177) (G4 O O) O (Dq (Ec y177) (Gv (f:=Stowed.av) (xs:=l) (y:=y177) O O O Gx hy177 O) O (Dq (.dptr ((Stowed.cs y177).drop 1)) (Ga Hs O O O) O (Dq (.agg ((Stowed.cs y177).drop 1)) (Gg Jh O O O) O (Dq (E2 l) (G4 O O) O (Dq (Ei i98) (G4 O O) O (Dq (Ec y98) (Gv (f:=Stowed.av) (xs:=l) (y:=y98) O O O Gx hy98 O) O (Dq (.dptr ((Stowed.cs y98).drop 1)) (Ga Hs O O O) O (Dq (.agg ((Stowed.cs y98).drop 1)) (Gg Jh O O O) O (Dq (BL r188) (Gi (args:=[.agg ((Stowed.cs y177).drop 1),.agg ((Stowed.cs y98).drop 1)]) O (Ha7 y177.Slot y98.Slot r188 hr188) R5e ⟨O,O,O,O,G⟩) O (Dq (BL r188) (G4 O O) O (Do (I64 r186) [] O .scf G (fun hc=>G4 O O) O ?_)))))))))))))
        refine Do (BL (decide (0≤r186))) [91] O .scf ⟨Ua,G⟩ (fun hc=>G13 O O O) O (Do (BL (decide (0≤r186))) [92] O .scf ⟨Ua,G⟩ (fun hc=>G4 O O) O (Do (.agg (H0.cs s)) [] O .optt G (fun hc=>Gg H7 O O O) O (Do (E2 l) [] O .optt G (fun hc=>G4 O O) O (Do (Ei i177) [] O .optt G (fun hc=>G4 O O) O (Do (Ec y177) [95,96] O .optt ⟨Ua,Ua,G⟩ (fun hc=>Gv (f:=Stowed.av) (xs:=l) (y:=y177) O O O Gx hy177 O) O (Do (.dptr ((Stowed.cs y177).drop 1)) [97] O .optt ⟨Ua,G⟩ (fun hc=>Ga Hs O O O) O (Do (.dptr ((Stowed.cs y177).drop 1)) [98] O .optt ⟨Ua,G⟩ (fun hc=>Ga J0 O O O) O (Do (I64 y177.Slot.G3) [99] O .optt ⟨Ua,G⟩ (fun hc=>Ge Gb O O O) O (Do (I64 r186) [] O .optt G (fun hc=>G4 O O) O (Do (BL r189) [94,100,101] O .optt ⟨Ua,Ua,Ua,G⟩ (fun hc=>Gi (args:=[.agg (H0.cs s),I64 y177.Slot.G3,I64 r186]) O (Gda s y177.Slot.G3 r186 r189 (Gw hc hr189)) Jff ⟨O,O,O,O,O,O,G⟩) O (Dg (.opt (!r188) (BL ((decide (0≤r186))&&r189))) (Gh [(93,BL (decide (0≤r186))),(102,_)] O O O .scf ⟨.all id,.part,G⟩ (fun hc=>J4 O O O O) O) O (Dq (BL (r188||((decide (0≤r186))&&r189))) (Rs O O O O) O (Dnil ?_)))))))))))))
        refine hK187 (JCc O h (fun h hb=>?_) (fun h hb=>?_))
        ·
         refine G2 (JLm (.vec 1083 0 1 ((List.replicate m7 (false:Bool)).length)) O (JLm (Ei i177) O ?_))
         obtain⟨y190,hmy190,hy190,h⟩:=Gd8 h
         refine JLh (.vptr 1083 0 ((i177:Int).toNat) 0) (H1c (f:=BL) (xs:=s177.2) (y:=y190) O O O O Gab hy190 hmy190) O (Je (u:=.junk) (J24 (f:=BL) (xs:=s177.2) (z:=true) Q85 O O O O (Kh hy190).1 O O O O) (JLm (BL true) O (G7 (ej180 _ _ (true,(s177.2.set (i177:Int).toNat true)) h ⟨(.sm O O),⟨⟨_,rfl,.vec⟩,G⟩,rfl⟩))))
        ·
         refine Gm (ej180 _ _ (s177.1,s177.2) h ⟨(.sm O O),⟨⟨_,rfl,.vec⟩,G⟩,rfl⟩)
      ·intro j180 h
       replace h:=app1 hkj180 h
       refine G2 (JLm (Ei i177) O (JLh (I64 ((i177+1:Nat):Int)) (Ht (Hb hk177 hm56) O O O) O (JLm (I64 ((i177+1:Nat):Int)) O (G7 (e177 _ _ (i177+1) (j180.1,j180.2) (app1 hn177 h) (by omega) ⟨(.sm O O),⟨⟨_,rfl,.vec⟩,G⟩,rfl⟩)))))
     ·
      have h:=app1 hkx177 (Hk hi177 (H3 hb))
      refine Hi (hK101 (G2 (JLm (Ei i98) O (JLh (I64 ((i98+1:Nat):Int)) (Ht (Hb hk98 hm56) O O O) O (JLm (I64 ((i98+1:Nat):Int)) O (G7 (e98 _ _ (i98+1) (s177.1,s177.2) (app1 hn98 h) (by omega) ⟨(.sm O O),⟨⟨_,rfl,.vec⟩,G⟩,rfl⟩)))))))
    ·
     have h:=app1 hkx98 (Hk hi98 (H3 hb))
     refine Hi (e93 _ _ m93 (s98.1,s98.2) (app1 hn93 h) (by omega) ⟨(.sm O O),⟨⟨_,rfl,.vec⟩,G⟩,rfl⟩)
   ·
    refine Hi (hK91 (Jr fun hK191=>(JLh (OW 1082 1 I64 ([]:List Int)) (G12 1082 3 1 O O O) O (G7 (hK191 (Js fun hK192=>Jr fun hK193=>(JLm (I64 0) O (G7 (hK193 (Gp ?_))))))))))
    obtain⟨b209,kx209,hb209,hkx209,h⟩:=Hv h
    refine Hc (fun i209 (s209:(List Int))=>each b209 kx209 (List.drop i209 l) i209 s209=some r) (fun i209 s209=>[(2,E2 l),(10,.vec 1083 0 1 ((List.replicate m7 (false:Bool)).length)),(16,OW 1082 1 I64 s209),(17,Ei i209)]) (fun i209 s209=>[(1083,.vec 4 1 0 (s93.2.map BL)),(1082,.spare 3 1 s209.length s209.length)]) (fun i209=>l.length - i209) 0 [] h ⟨(.sm O O),⟨⟨_,rfl,.vec⟩,⟨_,rfl,.same⟩,G⟩,rfl⟩ ?_
    clear h
    intro i209 s209 hi209 K209 e209
    refine Js fun hK210=>Jr fun hK211=>(JLm (Ei i209) O (JLm (E2 l) O (JLl Gx O O O fun hm110=>(JLh (BL (decide ((i209:Int) < (l.length:Int)))) (Hy O O O) O (G7 (hK211 (Gj O (fun hb=>?_) (fun hb=>?_))))))))
    ·
     have hk209:=J8 hb
     obtain⟨y209,nx209,hy209,hn209,h⟩:=Hj hi209 hk209
     replace h:=R8 hb209 h
     refine Gm (hK210 ?_)
     obtain⟨kj212,hkj212,h⟩:=G09 h
     refine Yt (fun j212:(List Int)=>kj212 j212=some r) (fun j212=>[(2,E2 l),(10,.vec 1083 0 1 ((List.replicate m7 (false:Bool)).length)),(16,OW 1082 1 I64 j212),(17,Ei i209)]) (fun j212=>[(1083,.vec 4 1 0 (s93.2.map BL)),(1082,.spare 3 1 j212.length j212.length)]) (fun Kj212 ej212=>?_) ?_
     ·
      refine Gp (Jr fun hK213=>(JLm (.vec 1083 0 1 ((List.replicate m7 (false:Bool)).length)) O (JLm (Ei i209) O ?_)))
      obtain⟨y214,hmy214,hy214,h⟩:=Gd8 h
      refine JLh (.vptr 1083 0 ((i209:Int).toNat) 0) (H1c (f:=BL) (xs:=s93.2) (y:=y214) O O O O Gab hy214 hmy214) O (JLh (BL y214) (Hac (f:=BL) (xs:=s93.2) (y:=y214) Qv O O O hy214 O O) O (G7 (hK213 (JCc O h (fun h hb=>?_) (fun h hb=>?_)))))
      ·
       refine G2 (JLm (OW 1082 1 I64 s209) O (JLm (E2 l) O (JLm (Ei i209) O (JLh (Ec y209) (Gv (f:=Stowed.av) (xs:=l) (y:=y209) O O O Gx hy209 O) O (JLh (Ec y209) (Ga Hu O O O) O (JLh (I64 y209.Box) (Ge Gb O O O) O (JLh (E1 [y209.Box]) (Ha (xs:=[I64 y209.Box]) O ⟨O,O,G⟩ Gn Jz O O O O) O ?_)))))))
       obtain⟨ha215,h⟩:=Hp h
       refine JLh (OW 1082 1 I64 (s209++[y209.Box])) (Q8 (f:=I64) (xs:=s209) (ys:=[y209.Box]) O O O O Gn Rt ha215 (fun _=>O) (.inl O) O) O (JLm (OW 1082 1 I64 (s209++[y209.Box])) O (G7 (ej212 _ _ (s209++[y209.Box]) h ⟨(.sm O O),⟨⟨_,rfl,.vec⟩,⟨_,rfl,.same⟩,G⟩,rfl⟩)))
      ·
       refine Gm (ej212 _ _ s209 h ⟨(.sm O O),⟨⟨_,rfl,.vec⟩,⟨_,rfl,.same⟩,G⟩,rfl⟩)
     ·intro j212 h
      replace h:=app1 hkj212 h
      refine G2 (JLm (Ei i209) O (JLh (I64 ((i209+1:Nat):Int)) (Ht (Hb hk209 hm110) O O O) O (JLm (I64 ((i209+1:Nat):Int)) O (G7 (e209 _ _ (i209+1) j212 (app1 hn209 h) (by omega) ⟨(.sm O O),⟨⟨_,rfl,.vec⟩,⟨_,rfl,.same⟩,G⟩,rfl⟩)))))
    ·
     have h:=app1 hkx209 (Hk hi209 (H3 hb))
     refine Hi (hK192 (Jr fun hK216=>(JLm (OW 1082 1 I64 s209) O (JLm (OW 1082 1 I64 s209) O (JLm (I64 0) O (G7 (hK216 (Gq (⟨[E1 s209,I64 0],[],G,O,⟨⟨_,O,.conv (.list O)⟩,⟨_,O,.conv (.same O)⟩,G⟩,O,congrArg (fun r:(List Int)×Int=>(.tup [E1 r.1,I64 r.2]:AV)) (Kj h)⟩)))))))))

def G2e (F:Nat) (s:H0) (boxes:List Box) (l:List Stowed) (id_:Int) (other:Int):Option Bool:=
 bnd (Jq boxes id_) fun r4=>
 bnd (Jq boxes other) fun r5=>
 bif decide (r4≤r5) then
 (some false)
 else
 (bnd (Rz F s boxes l [other]) fun r8=>
  each (fun y24 i24 (s24:Unit) nx24=>
   bif decide (y24=id_) then
   (some true)
   else
   (nx24 ()))
  (fun(s24:Unit)=>
   some false) r8.1 0 ())
theorem Hcc (F:Nat) (s:H0) (boxes:List Box) (l:List Stowed) (id_:Int) (other:Int) (r:Bool) (h:G2e F s boxes l id_ other=some r):Pure Ej 79 [.agg (H0.cs s),E3 boxes,E2 l,I64 id_,I64 other] (·=BL r):=by
 unfold G2e at h
 refine Gy [.tmp 10] Tryz.func79 O O (Jr fun hK1=>(JLh (.ptr 1133 0) (J7 (cs:=(H0.cs s)) 1133 O O O O O) O (JLm (BL false) O (G7 (hK1 (Gr [(1,E3 boxes),(2,E2 l),(3,I64 id_),(4,I64 other),(5,Eb s)] [] 1133 rfl rfl rfl G rfl (by repeat' (first | exact .ptr | constructor)) ?_))))))
 refine Js fun hK2=>Jr fun hK3=>(JLm (E3 boxes) O (JLm (I64 id_) O ?_))
 obtain⟨r4,hr4,h⟩:=Gd h
 refine JLh (I64 r4) (Gi O (Qz boxes id_ r4 hr4) H03 ⟨O,O,O,O,G⟩) O (JLm (E3 boxes) O (JLm (I64 other) O ?_))
 obtain⟨r5,hr5,h⟩:=Gd h
 refine JLh (I64 r5) (Gi O (Qz boxes other r5 hr5) H03 ⟨O,O,O,O,G⟩) O (JLh (BL (decide (r4≤r5))) (J10 O O O) O (G7 (hK3 (JCc O h (fun h hb=>?_) (fun h hb=>?_)))))
 ·
  refine Jr fun hK6=>(JLm (BL false) O (G7 (hK6 (Gq (fin1 BL h)))))
 ·
  refine Gm (hK2 (Jr fun hK7=>(JLh (.agg (H0.cs s)) (Gg H7 O O O) O (JLm (E3 boxes) O (JLm (E2 l) O (JLm (I64 other) O (JLh (E1 [other]) (Ha (xs:=[I64 other]) O ⟨O,O,G⟩ Gn Jz O O O O) O ?_)))))))
  obtain⟨r8,hr8,h⟩:=Gd h
  refine JLh (.tup [E1 r8.1,I64 r8.2]) (Gi O (Gc4 F s boxes l [other] r8 hr8) Q10 ⟨O,O,O,O,O,O,O,O,G⟩) O (JLm (.tup [E1 r8.1,I64 r8.2]) O (JLh (E1 r8.1) (H4 O O O) O (JLh (I64 r8.2) (H4 O O O) O (JLm (E1 r8.1) O (JLm (I64 r8.2) O (G7 (hK7 (Js fun hK9=>Jr fun hK10=>(JLm (I64 0) O (G7 (hK10 (Gp ?_))))))))))))
  obtain⟨b24,kx24,hb24,hkx24,h⟩:=Hv h
  refine Hc (fun i24 (s24:Unit)=>each b24 kx24 (List.drop i24 r8.1) i24 s24=some r) (fun i24 s24=>[(3,I64 id_),(11,E1 r8.1),(13,Ei i24)]) (fun i24 s24=>[]) (fun i24=>r8.1.length - i24) 0 () h ⟨(.sm O O),G,O⟩ ?_
  clear h
  intro i24 s24 hi24 K24 e24
  refine Js fun hK25=>Jr fun hK26=>(JLm (Ei i24) O (JLm (E1 r8.1) O (JLl Gn O O O fun hm32=>(JLh (BL (decide ((i24:Int) < (r8.1.length:Int)))) (Hy O O O) O (G7 (hK26 (Gj O (fun hb=>?_) (fun hb=>?_))))))))
  ·
   have hk24:=J8 hb
   obtain⟨y24,nx24,hy24,hn24,h⟩:=Hj hi24 hk24
   replace h:=R8 hb24 h
   refine Gm (hK25 (Js fun hK27=>Gp (Jr fun hK28=>(JLm (E1 r8.1) O (JLm (Ei i24) O (JLh (.dptr [I64 y24]) (Gv (f:=I64) (xs:=r8.1) (y:=y24) O O O Gn hy24 O) O (JLh (I64 y24) (Ge Gb O O O) O (JLm (I64 id_) O (JLh (BL (decide (y24=id_))) (Ju O O O) O (G7 (hK28 (JCc O h (fun h hb=>?_) (fun h hb=>?_)))))))))))))
   ·
    refine Jr fun hK29=>(JLm (BL true) O (G7 (hK29 (Gq (fin1 BL h)))))
   ·
    refine Gm (hK27 (G2 (JLm (Ei i24) O (JLh (I64 ((i24+1:Nat):Int)) (Ht (Hb hk24 hm32) O O O) O (JLm (I64 ((i24+1:Nat):Int)) O (G7 (e24 _ _ (i24+1) () (app1 hn24 h) (by omega) ⟨(.sm O O),G,rfl⟩)))))))
  ·
   have h:=app1 hkx24 (Hk hi24 (H3 hb))
   refine Hi (hK9 (Jr fun hK30=>(JLm (BL false) O (G7 (hK30 (Gq (fin1 BL h)))))))

def R3 (F:Nat) (s:H0) (boxes:List Box) (l:List Stowed) (id_:Int):Option (List Int):=
 each (fun y24 i24 (s24:(List Int)) nx24=>
  jp (fun kj27=>
   bnd (G2e F s boxes l id_ y24.Box) fun r29=>
   bif r29 then
   (need (decide ((s24.length+[y24.Box].length)*8≤140737488355328∧s24.length+[y24.Box].length≤maxLen)) <|
    kj27 (s24++[y24.Box]))
   else
   (kj27 s24)) fun(j27:(List Int))=>
  nx24 j27)
 (fun(s24:(List Int))=>
  some s24) l 0 []
theorem G4c (F:Nat) (s:H0) (boxes:List Box) (l:List Stowed) (id_:Int) (r:(List Int)) (h:R3 F s boxes l id_=some r):Pure Ej 37 [.agg (H0.cs s),E3 boxes,E2 l,I64 id_] (·=E1 r):=by
 unfold R3 at h
 refine Gy [.tmp 8] Tryz.func37 O O (Jr fun hK1=>(JLh (.ptr 1070 0) (J7 (cs:=(H0.cs s)) 1070 O O O O O) O (JLh (E1 ([]:List Int)) (H2 1 O O) O (G7 (hK1 ?_)))))
 refine Gr [(1,E3 boxes),(2,E2 l),(3,I64 id_),(4,Eb s)] [] 1070 rfl rfl rfl G rfl (by repeat' (first | exact .ptr | constructor)) (Jr fun hK2=>(JLh (OW 1071 1 I64 ([]:List Int)) (G12 1071 3 1 O O O) O (G7 (hK2 (Js fun hK3=>Jr fun hK4=>(JLm (I64 0) O (G7 (hK4 (Gp ?_)))))))))
 obtain⟨b24,kx24,hb24,hkx24,h⟩:=Hv h
 refine Hc (fun i24 (s24:(List Int))=>each b24 kx24 (List.drop i24 l) i24 s24=some r) (fun i24 s24=>[(1,E3 boxes),(2,E2 l),(3,I64 id_),(4,Eb s),(9,OW 1071 1 I64 s24),(10,Ei i24)]) (fun i24 s24=>[(1071,.spare 3 1 s24.length s24.length)]) (fun i24=>l.length - i24) 0 [] h ⟨(.sm O O),⟨⟨_,rfl,.same⟩,G⟩,rfl⟩ ?_
 clear h
 intro i24 s24 hi24 K24 e24
 refine Js fun hK25=>Jr fun hK26=>(JLm (Ei i24) O (JLm (E2 l) O (JLl Gx O O O fun hm13=>(JLh (BL (decide ((i24:Int) < (l.length:Int)))) (Hy O O O) O (G7 (hK26 (Gj O (fun hb=>?_) (fun hb=>?_))))))))
 ·
  have hk24:=J8 hb
  obtain⟨y24,nx24,hy24,hn24,h⟩:=Hj hi24 hk24
  replace h:=R8 hb24 h
  refine Gm (hK25 ?_)
  obtain⟨kj27,hkj27,h⟩:=G09 h
  refine Yt (fun j27:(List Int)=>kj27 j27=some r) (fun j27=>[(1,E3 boxes),(2,E2 l),(3,I64 id_),(4,Eb s),(9,OW 1071 1 I64 j27),(10,Ei i24)]) (fun j27=>[(1071,.spare 3 1 j27.length j27.length)]) (fun Kj27 ej27=>?_) ?_
  ·
   refine Gp (Js fun hK28=>G29 (l':=[(1,E3 boxes),(2,E2 l),(3,I64 id_),(4,Eb s),(9,OW 1071 1 I64 s24),(10,Ei i24)]) (L':=[(1071,.spare 3 1 s24.length s24.length)]) ⟨(.sm O O),⟨⟨_,rfl,.same⟩,G⟩,rfl⟩ ?_)
   obtain⟨r29,hr29,h⟩:=Gd h
   refine JC_d0 Jb (by kernel_rfl) (Dq (.agg (H0.cs s)) (Gg H7 O O O) O (Dq (E3 boxes) (G4 O O) O (Dq (E2 l) (G4 O O) O (Dq (I64 id_) (G4 O O) O (Dq (E2 l) (G4 O O) O (Dq (Ei i24) (G4 O O) O (Dq (Ec y24) (Gv (f:=Stowed.av) (xs:=l) (y:=y24) O O O Gx hy24 O) O (Dq (Ec y24) (Ga Hu O O O) O (Dq (I64 y24.Box) (Ge Gb O O O) O (Dq (BL r29) (Gi (args:=[.agg (H0.cs s),E3 boxes,E2 l,I64 id_,I64 y24.Box]) O (Hcc F s boxes l id_ y24.Box r29 hr29) R62 ⟨O,O,O,O,O,O,O,O,O,O,G⟩) O (Dnil ?_)))))))))))
   refine hK28 (JCc O h (fun h hb=>?_) (fun h hb=>?_))
   ·
    refine G2 (JLm (OW 1071 1 I64 s24) O (JLm (E2 l) O (JLm (Ei i24) O (JLh (Ec y24) (Gv (f:=Stowed.av) (xs:=l) (y:=y24) O O O Gx hy24 O) O (JLh (Ec y24) (Ga Hu O O O) O (JLh (I64 y24.Box) (Ge Gb O O O) O (JLh (E1 [y24.Box]) (Ha (xs:=[I64 y24.Box]) O ⟨O,O,G⟩ Gn Jz O O O O) O ?_)))))))
    obtain⟨ha30,h⟩:=Hp h
    refine JLh (OW 1071 1 I64 (s24++[y24.Box])) (Q8 (f:=I64) (xs:=s24) (ys:=[y24.Box]) O O O O Gn Rt ha30 (fun _=>O) (.inl O) O) O (JLm (OW 1071 1 I64 (s24++[y24.Box])) O (G7 (ej27 _ _ (s24++[y24.Box]) h ⟨(.sm O O),⟨⟨_,rfl,.same⟩,G⟩,rfl⟩)))
   ·
    refine Gm (ej27 _ _ s24 h ⟨(.sm O O),⟨⟨_,rfl,.same⟩,G⟩,rfl⟩)
  ·intro j27 h
   replace h:=app1 hkj27 h
   refine G2 (JLm (Ei i24) O (JLh (I64 ((i24+1:Nat):Int)) (Ht (Hb hk24 hm13) O O O) O (JLm (I64 ((i24+1:Nat):Int)) O (G7 (e24 _ _ (i24+1) j27 (app1 hn24 h) (by omega) ⟨(.sm O O),⟨⟨_,rfl,.same⟩,G⟩,rfl⟩)))))
 ·
  have h:=app1 hkx24 (Hk hi24 (H3 hb))
  refine Hi (hK3 (Jr fun hK31=>(JLm (OW 1071 1 I64 s24) O (JLm (OW 1071 1 I64 s24) O (G7 (hK31 (Gq (fin1l (fun r:(List Int)=>(E1 r:AV)) h))))))))

end
end Go.Proofs.YthcpolfodgjekaaGreat
