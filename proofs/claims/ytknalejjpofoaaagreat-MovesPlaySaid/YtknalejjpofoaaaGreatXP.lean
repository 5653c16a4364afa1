/-
 Models of functions of the program,and that they return what the models say.
-/
import Derived.Test.YtknalejjpofoaaaGreatXPa
set_option maxRecDepth 100000
set_option maxHeartbeats 1000000
set_option linter.unusedVariables false
set_option linter.unusedSimpArgs false
namespace Go.Proofs.YtknalejjpofoaaaGreat
open Go.RowKit
noncomputable section
open XAF
open XCF
open XVF
open XMF
open XPF

def Ja (F:Nat) (s:Gw) (boxes:List Gd) (l:List Stowed) (open_:List Int) (quay:List Int) (m:Move):Option ((List Stowed)×(List Int)×(List Int)×Bool):=
 bif decide (m.Kind=1) then
 (bnd (Gfb F s boxes l open_ m.G9) fun r8=>
  bnd (bif decide (r8.2=0) then Rc ((open_.length:Int)+1) some else some 0) fun v10=>
  some (l,r8.1,quay,((decide (r8.2=0))&&(decide ((r8.1.length:Int)=v10)))))
 else
 (bif decide (m.Kind=4) then
  (bnd (Gc3 F s boxes l open_ m.G9) fun r14=>
   bnd (bif decide (r14.2=0) then Rc ((open_.length:Int) - 1) some else some 0) fun v16=>
   some (l,r14.1,quay,((decide (r14.2=0))&&(decide ((r14.1.length:Int)=v16)))))
  else
  (bif decide (m.Kind=2) then
   (each (fun y31 i31 (s31:Bool) nx31=>
     nx31 (s31||(decide (y31=(Stowed.mk m.Gd m.Slot)))))
    (fun(s31:Bool)=>
     bnd (Gfa s boxes l open_ m.Gd) fun r37=>
     need (decide ((([]:List Int).length+quay.length)*8≤140737488355328∧([]:List Int).length+quay.length≤maxLen)) <|
     need (decide (((([]:List Int)++quay).length+[m.Gd].length)*8≤140737488355328∧(([]:List Int)++quay).length+[m.Gd].length≤maxLen)) <|
     some (r37.1,open_,((([]:List Int)++quay)++[m.Gd]),((decide (r37.2=0))&&s31))) l 0 false)
   else
   (bif decide (m.Kind=3) then
    (each (fun y59 i59 (s59:(List Int)) nx59=>
      jp (fun kj62=>
       bif decide (y59≠m.Gd) then
       (need (decide ((s59.length+[y59].length)*8≤140737488355328∧s59.length+[y59].length≤maxLen)) <|
        kj62 (s59++[y59]))
       else
       (kj62 s59)) fun(j62:(List Int))=>
      nx59 j62)
     (fun(s59:(List Int))=>
      bnd (Ga2 F s boxes l open_ (Stowed.mk m.Gd m.Slot)) fun r67=>
      bnd (bif decide (r67.2=0) then Rc ((quay.length:Int) - 1) some else some 0) fun v69=>
      some (r67.1,open_,s59,((decide (r67.2=0))&&(decide ((s59.length:Int)=v69))))) quay 0 [])
    else
    (some ([],[],[],false)))))
abbrev Kf (m:Move):List AV:=[G0 m.Gd,G0 m.Slot.G4,G0 m.Slot.Tier,U8 m.Slot.Half]
theorem H85 (F:Nat) (s:Gw) (boxes:List Gd) (l:List Stowed) (open_:List Int) (quay:List Int) (m:Move) (r:(List Stowed)×(List Int)×(List Int)×Bool) (h:Ja F s boxes l open_ quay m=some r):Pure Ep 7 [.agg (Gw.cs s),E3 boxes,E1 l,E2 open_,E2 quay,.agg (Move.cs m)] (·=.tup [E1 r.1,E2 r.2.1,E2 r.2.2.1,BL r.2.2.2]):=by
 unfold Ja at h
 refine Gz [.tmp 12,.tmp 13,.tmp 14,.tmp 15] Tryz.func7 O O (Jr fun hK1=>(JLh (.ptr 1025 0) (Jm (cs:=(Gw.cs s)) 1025 O O O O O) O (JLh (.ptr 1026 0) (Jm (cs:=[U8 m.Kind,G0 m.Gd,G0 m.Slot.G4,G0 m.Slot.Tier,U8 m.Slot.Half,G0 m.G9]) 1026 O O O O O) O (JLh (E1 ([]:List Stowed)) (Hf 4 O O) O (JLh (E2 ([]:List Int)) (Hf 1 O O) O (JLh (E2 ([]:List Int)) (Hf 1 O O) O (Yb (BL false) O (G7 (hK1 ?_)))))))))
 refine Gq [(1,E3 boxes),(2,E1 l),(3,E2 open_),(4,E2 quay),(6,Ef s),(11,.ptr 1026 0)] [(1026,.box 56 [U8 m.Kind,G0 m.Gd,G0 m.Slot.G4,G0 m.Slot.Tier,U8 m.Slot.Half,G0 m.G9])] 1025 rfl rfl rfl ⟨⟨_,rfl,.boxEq rfl rfl⟩,ø⟩ rfl (by repeat' (first | exact .ptr | constructor)) ?_
 refine Gq [(1,E3 boxes),(2,E1 l),(3,E2 open_),(4,E2 quay),(6,Ef s),(11,Ej m)] [] 1026 rfl rfl rfl ø rfl (by repeat' (first | exact .ptr | constructor)) (Jr fun hK2=>(Yb (G0 0) O (G7 (hK2 (Js fun hK3=>Jr fun hK4=>(JLh (Ej m) (Ga G01 O O O) O (JLh (U8 m.Kind) (Gh Hz O O O) O (G7 (hK4 (Gj (Jr fun hK5=>(JLh (BL (decide (m.Kind=1))) (Jz O O O) O (Yb (BL (decide (m.Kind=1))) O (G7 (hK5 (JCc O h (fun h hb=>?_) (fun h hb=>?_)))))))))))))))))
 ·
  refine Jr fun hK6=>(Yb (E2 open_) O (JLl Gt O O O fun hm30=>(Yb (Eo open_.length) O (G7 (hK6 (Jr fun hK7=>(JLh (.agg (Gw.cs s)) (Gg Ho O O O) O (Yb (E3 boxes) O (Yb (E1 l) O (Yb (E2 open_) O (JLh (.dptr [G0 m.G9]) (Ga G88 O O O) O (JLh (G0 m.G9) (Gh Gb O O O) O ?_))))))))))))
  obtain⟨r8,hr8,h⟩:=Ge h
  refine JLh (.tup [E2 r8.1,G0 r8.2]) (Gv O (M_stow_Open_w F s boxes l open_ m.G9 r8 hr8) Qde ⟨O,O,O,O,O,O,O,O,O,O,ø⟩) O (Yb (.tup [E2 r8.1,G0 r8.2]) O (JLh (E2 r8.1) (Hk O O O) O (JLh (G0 r8.2) (Hk O O O) O (Yb (E2 r8.1) O (Yb (G0 r8.2) O (G7 (hK7 (Jr fun hK9=>(Yb (E1 l) O (Yb (E2 r8.1) O (Yb (E2 quay) O (Yb (G0 r8.2) O (JLh (BL (decide (r8.2=0))) (Jz O O O) O (Yb (BL (decide (r8.2=0))) O (JLo (E2 r8.1) [] O .sct ø (fun hc=>G6 O O) O (JLo (Eo r8.1.length) [47] O .sct ⟨Ua,ø⟩ (fun hc=>Yv (f:=G0) (xs:=r8.1) Gt O O) O (JLo (Eo open_.length) [] O .sct ø (fun hc=>G6 O O) O ?_)))))))))))))))))
  obtain⟨v10,hv10,h⟩:=Ge h
  refine JLo (G0 v10) [49] O .sct ⟨Ua,ø⟩ (fun hc=>Hu (G8d (Gx hc hv10)) O O O) O (JLo (BL (decide ((r8.1.length:Int)=v10))) [48,50] O .sct ⟨Ua,Ua,ø⟩ (fun hc=>Jz O O O) O (JLh (BL ((decide (r8.2=0))&&(decide ((r8.1.length:Int)=v10)))) (Qr O O O O) O (Yb (E1 l) O (Yb (E2 r8.1) O (Yb (E2 quay) O (Yb (BL ((decide (r8.2=0))&&(decide ((r8.1.length:Int)=v10)))) O (G7 (hK9 (Gs (⟨[E1 l,E2 r8.1,E2 quay,BL ((decide (r8.2=0))&&(decide ((r8.1.length:Int)=v10)))],[],ø,O,⟨⟨_,O,.conv (.same O)⟩,⟨_,O,.conv (.same O)⟩,⟨_,O,.conv (.same O)⟩,⟨_,O,.conv (.same O)⟩,ø⟩,O,congrArg (fun r:(List Stowed)×(List Int)×(List Int)×Bool=>(.tup [E1 r.1,E2 r.2.1,E2 r.2.2.1,BL r.2.2.2]:AV)) (Option.some.inj h)⟩))))))))))
 ·
  refine Jr fun hK11=>(JLh (BL (decide (m.Kind=4))) (Jz O O O) O (Yb (BL (decide (m.Kind=4))) O (G7 (hK11 (JCc O h (fun h hb=>?_) (fun h hb=>?_))))))
  ·
   refine Jr fun hK12=>(Yb (E2 open_) O (JLl Gt O O O fun hm56=>(Yb (Eo open_.length) O (G7 (hK12 (Jr fun hK13=>(JLh (.agg (Gw.cs s)) (Gg Ho O O O) O (Yb (E3 boxes) O (Yb (E1 l) O (Yb (E2 open_) O (JLh (.dptr [G0 m.G9]) (Ga G88 O O O) O (JLh (G0 m.G9) (Gh Gb O O O) O ?_))))))))))))
   obtain⟨r14,hr14,h⟩:=Ge h
   refine JLh (.tup [E2 r14.1,G0 r14.2]) (Gv O (Q2d F s boxes l open_ m.G9 r14 hr14) Qdd ⟨O,O,O,O,O,O,O,O,O,O,ø⟩) O (Yb (.tup [E2 r14.1,G0 r14.2]) O (JLh (E2 r14.1) (Hk O O O) O (JLh (G0 r14.2) (Hk O O O) O (Yb (E2 r14.1) O (Yb (G0 r14.2) O (G7 (hK13 (Jr fun hK15=>(Yb (E1 l) O (Yb (E2 r14.1) O (Yb (E2 quay) O (Yb (G0 r14.2) O (JLh (BL (decide (r14.2=0))) (Jz O O O) O (Yb (BL (decide (r14.2=0))) O (JLo (E2 r14.1) [] O .sct ø (fun hc=>G6 O O) O (JLo (Eo r14.1.length) [73] O .sct ⟨Ua,ø⟩ (fun hc=>Yv (f:=G0) (xs:=r14.1) Gt O O) O (JLo (Eo open_.length) [] O .sct ø (fun hc=>G6 O O) O ?_)))))))))))))))))
   obtain⟨v16,hv16,h⟩:=Ge h
   refine JLo (G0 v16) [75] O .sct ⟨Ua,ø⟩ (fun hc=>Zn (G8d (Gx hc hv16)) O O O) O (JLo (BL (decide ((r14.1.length:Int)=v16))) [74,76] O .sct ⟨Ua,Ua,ø⟩ (fun hc=>Jz O O O) O (JLh (BL ((decide (r14.2=0))&&(decide ((r14.1.length:Int)=v16)))) (Qr O O O O) O (Yb (E1 l) O (Yb (E2 r14.1) O (Yb (E2 quay) O (Yb (BL ((decide (r14.2=0))&&(decide ((r14.1.length:Int)=v16)))) O (G7 (hK15 (Gs (⟨[E1 l,E2 r14.1,E2 quay,BL ((decide (r14.2=0))&&(decide ((r14.1.length:Int)=v16)))],[],ø,O,⟨⟨_,O,.conv (.same O)⟩,⟨_,O,.conv (.same O)⟩,⟨_,O,.conv (.same O)⟩,⟨_,O,.conv (.same O)⟩,ø⟩,O,congrArg (fun r:(List Stowed)×(List Int)×(List Int)×Bool=>(.tup [E1 r.1,E2 r.2.1,E2 r.2.2.1,BL r.2.2.2]:AV)) (Option.some.inj h)⟩))))))))))
  ·
   refine Jr fun hK17=>(JLh (BL (decide (m.Kind=2))) (Jz O O O) O (Yb (BL (decide (m.Kind=2))) O (G7 (hK17 (JCc O h (fun h hb=>?_) (fun h hb=>?_))))))
   ·
    refine Jr fun hK18=>(Yb (BL false) O (G7 (hK18 (Js fun hK19=>Jr fun hK20=>(Yb (E1 l) O (JLl Gy O O O fun hm82=>(Yb (G0 0) O (G7 (hK20 (Gj ?_))))))))))
    obtain⟨b31,kx31,hb31,hkx31,h⟩:=J2 h
    refine Hb (fun i31 (s31:Bool)=>each b31 kx31 (List.drop i31 l) i31 s31=some r) (fun i31 s31=>[(1,E3 boxes),(2,E1 l),(3,E2 open_),(4,E2 quay),(6,Ef s),(11,Ej m),(19,BL s31),(81,E1 l),(82,Eo l.length),(83,Eo i31)]) (fun i31 s31=>[]) (fun i31=>l.length - i31) 0 false h ⟨(.sm O O),ø,rfl⟩ ?_
    clear h
    intro i31 s31 hi31 K31 e31
    refine Jr fun hK32=>(JLh (BL (decide ((i31:Int) < (l.length:Int)))) (J0 O O O) O (G7 (hK32 (Js fun hK33=>Gf O (fun hb=>?_) (fun hb=>?_)))))
    ·
     have hk31:=Jk hb
     obtain⟨y31,nx31,hy31,hn31,h⟩:=Hs hi31 hk31
     replace h:=Y4 hb31 h
     refine Gi (hK33 (Js fun hK34=>Gj (Jr fun hK35=>(JLh (Eg y31) (H3 (f:=Stowed.av) (xs:=l) (y:=y31) O O O Gy hy31 O) O (JLh (.agg (Stowed.cs y31)) (Gg Jg O O O) O (JLh (.ptr 1027 0) (Hx 1027 4 Jo O O) O (Hw (u:=.junk) (Hd (u:=.agg (Stowed.cs y31)) (ds:=[G0 y31.Gd,G0 y31.Slot.G4,G0 y31.Slot.Tier,U8 y31.Slot.Half]) Qh O O O O O O O O) (G7 (hK35 ?_)))))))))
     refine Gq [(1,E3 boxes),(2,E1 l),(3,E2 open_),(4,E2 quay),(6,Ef s),(11,Ej m),(19,BL s31),(21,Eg y31),(81,E1 l),(82,Eo l.length),(83,Eo i31)] [] 1027 rfl rfl rfl ø rfl (by repeat' (first | exact .ptr | constructor)) (G3 ?_)
     refine Yb (BL s31) O (Yb (BL s31) O (JLo (.agg (Stowed.cs y31)) [] O .scf ø (fun hc=>Gg Jg O O O) O (JLo (.dptr ((Move.cs m).drop 1)) [] O .scf ø (fun hc=>Ga G26 O O O) O (JLo (G0 m.Gd) [90] O .scf ⟨Ua,ø⟩ (fun hc=>Gh Gb O O O) O (JLo (.dptr ((Move.cs m).drop 2)) [] O .scf ø (fun hc=>Ga G89 O O O) O (JLo (.agg (Slot.cs m.Slot)) [92] O .scf ⟨Ua,ø⟩ (fun hc=>Gg Jh O O O) O (JLo (.agg (Kf m)) [91,93] O .scf ⟨Ua,Ua,ø⟩ (fun hc=>J3 (cs:=(Kf m)) [(0,1),(1,3)] [G0 0,G0 0,G0 0,U8 0] [E0,E0,E0,.int .u8 0] Gb8 Gd2 ⟨.inl O,.inl O,.inl O,.inl O,ø⟩ O O) O (JLo (BL (decide (y31=(Stowed.mk m.Gd m.Slot)))) [89,94] O .scf ⟨Ua,Ua,ø⟩ (fun hc=>Jd8 (vs:=[.int .i64 y31.Gd,.int .i64 y31.Slot.G4,.int .i64 y31.Slot.Tier,.int .u8 y31.Slot.Half]) (us:=[.int .i64 m.Gd,.int .i64 m.Slot.G4,.int .i64 m.Slot.Tier,.int .u8 m.Slot.Half]) 4 O (tq_82 y31 (Stowed.mk m.Gd m.Slot)) J95 Q55 O O O) O (JLh (BL (s31||(decide (y31=(Stowed.mk m.Gd m.Slot))))) (G0b O O O O) O (Yb (BL (s31||(decide (y31=(Stowed.mk m.Gd m.Slot))))) O (G7 (hK34 ?_))))))))))))
     refine G3 (JLh (G0 ((i31+1:Nat):Int)) (Hu (Hj hk31 hm82) O O O) O (Yb (G0 ((i31+1:Nat):Int)) O (G7 (e31 _ _ (i31+1) (s31||(decide (y31=(Stowed.mk m.Gd m.Slot)))) (app1 hn31 h) (by omega) ⟨(.sm O O),ø,rfl⟩))))
    ·
     have h:=app1 hkx31 (Ht hi31 (Ha hb))
     refine Hm (hK19 (Jr fun hK36=>(JLh (.agg (Gw.cs s)) (Gg Ho O O O) O (Yb (E3 boxes) O (Yb (E1 l) O (Yb (E2 open_) O (JLh (.dptr ((Move.cs m).drop 1)) (Ga G26 O O O) O (JLh (G0 m.Gd) (Gh Gb O O O) O ?_))))))))
     obtain⟨r37,hr37,h⟩:=Ge h
     refine JLh (.tup [E1 r37.1,G0 r37.2]) (Gv O (M_stow_Take_w s boxes l open_ m.Gd r37 hr37) Qdc ⟨O,O,O,O,O,O,O,O,O,O,ø⟩) O (Yb (.tup [E1 r37.1,G0 r37.2]) O (JLh (E1 r37.1) (Hk O O O) O (JLh (G0 r37.2) (Hk O O O) O (Yb (E1 r37.1) O (Yb (G0 r37.2) O (G7 (hK36 (Js fun hK38=>?_))))))))
     obtain⟨ha39,h⟩:=Jd h
     obtain⟨ha40,h⟩:=Jd h
     refine Jy [2,4,8] [0,0,0,0,0,0,0,0,0,0,0,3,3,3,3,3,3,3] [3,3,0,1,0,2,2,2,0,3,3,3,3,3,3,3,3,3] [[],((1029,.spare 3 1 ([]:List Int).length ([]:List Int).length)::[]),((1029,.spare 3 1 (([]:List Int)++quay).length (([]:List Int)++quay).length)::((1029,.spare 3 1 ([]:List Int).length ([]:List Int).length)::[])),((1029,.spare 3 1 ((([]:List Int)++quay)++[m.Gd]).length ((([]:List Int)++quay)++[m.Gd]).length)::((1029,.spare 3 1 (([]:List Int)++quay).length (([]:List Int)++quay).length)::((1029,.spare 3 1 ([]:List Int).length ([]:List Int).length)::[])))] Q6 (by kernel_rfl) rfl rfl ?_
     refine Gp (u:=E1 r37.1) O O ⟨Gr (G6 O O) O,Gr (G6 O O) O,Gr (G6 O O) O,Gr (G6 O O) O,ø⟩ (Gp (u:=E2 open_) O O ⟨Gr (G6 O O) O,Gr (G6 O O) O,Gr (G6 O O) O,Gr (G6 O O) O,ø⟩ (D_w (u:=OW 1029 1 G0 ([]:List Int)) O O O O (Gr (Q3e 1029 3 1 O O Gt) O) (Gp (u:=E2 quay) O O ⟨Gr (G6 O O) O,Gr (G6 O O) O,ø⟩ (D_w (u:=OW 1029 1 G0 (([]:List Int)++quay)) O O O O (Gr (J8d (f:=G0) (xs:=([]:List Int)) (ys:=quay) O O O O Gt Yy ha39 (fun _=>O) (.inl O)) O) (Gp (u:=.dptr ((Move.cs m).drop 1)) O O ⟨Gr (Ga G26 O O O) O,Gr (Ga G26 O O O) O,Gr (Ga G26 O O O) O,ø⟩ (Gp (u:=G0 m.Gd) O O ⟨Gr (Gh Gb O O O) O,Gr (Gh Gb O O O) O,Gr (Gh Gb O O O) O,ø⟩ (Gp (u:=E2 [m.Gd]) O O ⟨Gr (H6 (xs:=[G0 m.Gd]) O ⟨O,O,ø⟩ Gt Qn O O O O) O,Gr (H6 (xs:=[G0 m.Gd]) O ⟨O,O,ø⟩ Gt Qn O O O O) O,Gr (H6 (xs:=[G0 m.Gd]) O ⟨O,O,ø⟩ Gt Qn O O O O) O,ø⟩ (D_w (u:=OW 1029 1 G0 ((([]:List Int)++quay)++[m.Gd])) O O O O (Gr (Qk (f:=G0) (xs:=(([]:List Int)++quay)) (ys:=[m.Gd]) O O O O Gt Yy ha40 (fun _=>O) (.inl O) O) O) (Gp (u:=G0 r37.2) O O ⟨Gr (G6 O O) O,Gr (G6 O O) O,Gr (G6 O O) O,Gr (G6 O O) O,ø⟩ (Gp (u:=BL (decide (r37.2=0))) O O ⟨Gr (Jz O O O) O,Gr (Jz O O O) O,Gr (Jz O O O) O,Gr (Jz O O O) O,ø⟩ (Gp (u:=BL (decide (r37.2=0))) O O ⟨Gr (G6 O O) O,ø⟩ (Gp (u:=.opt (decide (r37.2=0)) (BL s31)) O O ⟨Hy [] O O O .sct ø (fun hc=>G6 O O) O,ø⟩ (Gp (u:=BL ((decide (r37.2=0))&&s31)) O O ⟨Gr (Qr O O O O) O,ø⟩ ?_)))))))))))))
     refine Gp (u:=E1 r37.1) O O ⟨Gr (G8 O O) O,ø⟩ (Gp (u:=E2 open_) O O ⟨Gr (G8 O O) O,ø⟩ (Gp (u:=OW 1029 1 G0 ((([]:List Int)++quay)++[m.Gd])) O O ⟨Gr (G8 O O) O,ø⟩ (Gp (u:=BL ((decide (r37.2=0))&&s31)) O O ⟨Gr (G8 O O) O,ø⟩ (Yd (hK38 (Gs (⟨[E1 r37.1,E2 open_,E2 ((([]:List Int)++quay)++[m.Gd]),BL ((decide (r37.2=0))&&s31)],[],ø,O,⟨⟨_,O,.conv (.same O)⟩,⟨_,O,.conv (.same O)⟩,⟨_,O,.conv (.list O)⟩,⟨_,O,.conv (.same O)⟩,ø⟩,O,congrArg (fun r:(List Stowed)×(List Int)×(List Int)×Bool=>(.tup [E1 r.1,E2 r.2.1,E2 r.2.2.1,BL r.2.2.2]:AV)) (Option.some.inj h)⟩)))))))
   ·
    refine Jr fun hK41=>(JLh (BL (decide (m.Kind=3))) (Jz O O O) O (Yb (BL (decide (m.Kind=3))) O (G7 (hK41 (JCc O h (fun h hb=>?_) (fun h hb=>?_))))))
    ·
     refine Jr fun hK42=>(JLh (OW 1028 1 G0 ([]:List Int)) (G24 1028 3 1 O O O) O (G7 (hK42 (Js fun hK43=>Jr fun hK44=>(Yb (E2 quay) O (JLl Gt O O O fun hm125=>(Yb (G0 0) O (G7 (hK44 (Gj ?_))))))))))
     obtain⟨b59,kx59,hb59,hkx59,h⟩:=J2 h
     refine Hb (fun i59 (s59:(List Int))=>each b59 kx59 (List.drop i59 quay) i59 s59=some r) (fun i59 s59=>[(1,E3 boxes),(2,E1 l),(3,E2 open_),(4,E2 quay),(6,Ef s),(11,Ej m),(22,OW 1028 1 G0 s59),(124,E2 quay),(125,Eo quay.length),(126,Eo i59)]) (fun i59 s59=>[(1028,.spare 3 1 s59.length s59.length)]) (fun i59=>quay.length - i59) 0 [] h ⟨(.sm O O),⟨⟨_,rfl,.same⟩,ø⟩,rfl⟩ ?_
     clear h
     intro i59 s59 hi59 K59 e59
     refine Jr fun hK60=>(JLh (BL (decide ((i59:Int) < (quay.length:Int)))) (J0 O O O) O (G7 (hK60 (Js fun hK61=>Gf O (fun hb=>?_) (fun hb=>?_)))))
     ·
      have hk59:=Jk hb
      obtain⟨y59,nx59,hy59,hn59,h⟩:=Hs hi59 hk59
      replace h:=Y4 hb59 h
      refine Gi (hK61 ?_)
      obtain⟨kj62,hkj62,h⟩:=Qo h
      refine Jx (fun j62:(List Int)=>kj62 j62=some r) (fun j62=>[(1,E3 boxes),(2,E1 l),(3,E2 open_),(4,E2 quay),(6,Ef s),(11,Ej m),(22,OW 1028 1 G0 j62),(124,E2 quay),(125,Eo quay.length),(126,Eo i59)]) (fun j62=>[(1028,.spare 3 1 j62.length j62.length)]) (fun Kj62 ej62=>?_) ?_
      ·
       refine Gj (Jr fun hK63=>(JLh (.dptr [G0 y59]) (H3 (f:=G0) (xs:=quay) (y:=y59) O O O Gt hy59 O) O (JLh (G0 y59) (Gh Gb O O O) O (Yb (G0 y59) O (G7 (hK63 (Jr fun hK64=>(Yb (G0 y59) O (JLh (.dptr ((Move.cs m).drop 1)) (Ga G26 O O O) O (JLh (G0 m.Gd) (Gh Gb O O O) O (JLh (BL (decide (y59≠m.Gd))) (G71 O O O) O (G7 (hK64 (JCc O h (fun h hb=>?_) (fun h hb=>?_)))))))))))))))
       ·
        refine G3 (Yb (OW 1028 1 G0 s59) O (Yb (G0 y59) O (JLh (E2 [y59]) (H6 (xs:=[G0 y59]) O ⟨O,O,ø⟩ Gt Qn O O O O) O ?_)))
        obtain⟨ha65,h⟩:=Jd h
        refine JLh (OW 1028 1 G0 (s59++[y59])) (Qk (f:=G0) (xs:=s59) (ys:=[y59]) O O O O Gt Yy ha65 (fun _=>O) (.inl O) O) O (Yb (OW 1028 1 G0 (s59++[y59])) O (G7 (ej62 _ _ (s59++[y59]) h ⟨(.sm O O),⟨⟨_,rfl,.same⟩,ø⟩,rfl⟩)))
       ·
        refine Gi (ej62 _ _ s59 h ⟨(.sm O O),⟨⟨_,rfl,.same⟩,ø⟩,rfl⟩)
      ·intro j62 h
       replace h:=app1 hkj62 h
       refine G3 (JLh (G0 ((i59+1:Nat):Int)) (Hu (Hj hk59 hm125) O O O) O (Yb (G0 ((i59+1:Nat):Int)) O (G7 (e59 _ _ (i59+1) j62 (app1 hn59 h) (by omega) ⟨(.sm O O),⟨⟨_,rfl,.same⟩,ø⟩,rfl⟩))))
     ·
      have h:=app1 hkx59 (Ht hi59 (Ha hb))
      refine Hm (hK43 ?_)
      refine Jr fun hK66=>(JLh (.agg (Gw.cs s)) (Gg Ho O O O) O (Yb (E3 boxes) O (Yb (E1 l) O (Yb (E2 open_) O (JLh (.dptr ((Move.cs m).drop 1)) (Ga G26 O O O) O (JLh (G0 m.Gd) (Gh Gb O O O) O (JLh (.dptr ((Move.cs m).drop 2)) (Ga G89 O O O) O (JLh (.agg (Slot.cs m.Slot)) (Gg Jh O O O) O (JLh (.agg (Kf m)) (J3 (cs:=(Kf m)) [(0,1),(1,3)] [G0 0,G0 0,G0 0,U8 0] [E0,E0,E0,.int .u8 0] Gb8 Gd2 ⟨.inl O,.inl O,.inl O,.inl O,ø⟩ O O) O ?_)))))))))
      obtain⟨r67,hr67,h⟩:=Ge h
      refine JLh (.tup [E1 r67.1,G0 r67.2]) (Gv O (M_stow_Put_w F s boxes l open_ (Stowed.mk m.Gd m.Slot) r67 hr67) Qdb ⟨O,O,O,O,O,O,O,O,O,O,ø⟩) O (Yb (.tup [E1 r67.1,G0 r67.2]) O (JLh (E1 r67.1) (Hk O O O) O (JLh (G0 r67.2) (Hk O O O) O (Yb (E1 r67.1) O (Yb (G0 r67.2) O (G7 (hK66 ?_)))))))
      refine Jr fun hK68=>(Yb (E1 r67.1) O (Yb (E2 open_) O (Yb (OW 1028 1 G0 s59) O (Yb (G0 r67.2) O (JLh (BL (decide (r67.2=0))) (Jz O O O) O (Yb (BL (decide (r67.2=0))) O (JLo (OW 1028 1 G0 s59) [] O .sct ø (fun hc=>G6 O O) O (JLo (Eo s59.length) [158] O .sct ⟨Ua,ø⟩ (fun hc=>Yv (f:=G0) (xs:=s59) Gt O O) O (JLo (E2 quay) [] O .sct ø (fun hc=>G6 O O) O (JLo (Eo quay.length) [160] O .sct ⟨Ua,ø⟩ (fun hc=>Yv (f:=G0) (xs:=quay) Gt O O) O ?_))))))))))
      obtain⟨v69,hv69,h⟩:=Ge h
      refine JLo (G0 v69) [161] O .sct ⟨Ua,ø⟩ (fun hc=>Zn (G8d (Gx hc hv69)) O O O) O (JLo (BL (decide ((s59.length:Int)=v69))) [159,162] O .sct ⟨Ua,Ua,ø⟩ (fun hc=>Jz O O O) O (JLh (BL ((decide (r67.2=0))&&(decide ((s59.length:Int)=v69)))) (Qr O O O O) O (Yb (E1 r67.1) O (Yb (E2 open_) O (Yb (OW 1028 1 G0 s59) O (Yb (BL ((decide (r67.2=0))&&(decide ((s59.length:Int)=v69)))) O (G7 (hK68 (Gs ?_)))))))))
      exact⟨[E1 r67.1,E2 open_,E2 s59,BL ((decide (r67.2=0))&&(decide ((s59.length:Int)=v69)))],[],ø,O,⟨⟨_,O,.conv (.same O)⟩,⟨_,O,.conv (.same O)⟩,⟨_,O,.conv (.list O)⟩,⟨_,O,.conv (.same O)⟩,ø⟩,O,congrArg (fun r:(List Stowed)×(List Int)×(List Int)×Bool=>(.tup [E1 r.1,E2 r.2.1,E2 r.2.2.1,BL r.2.2.2]:AV)) (Option.some.inj h)⟩
    ·
     refine Gi (hK3 (Jr fun hK70=>(JLh (E1 ([]:List Stowed)) (Hf 4 O O) O (JLh (E2 ([]:List Int)) (Hf 1 O O) O (JLh (E2 ([]:List Int)) (Hf 1 O O) O (Yb (BL false) O (G7 (hK70 (Gs (⟨[E1 ([]:List Stowed),E2 ([]:List Int),E2 ([]:List Int),BL false],[],ø,O,⟨⟨_,O,.conv (.same O)⟩,⟨_,O,.conv (.same O)⟩,⟨_,O,.conv (.same O)⟩,⟨_,O,.conv (.same O)⟩,ø⟩,O,congrArg (fun r:(List Stowed)×(List Int)×(List Int)×Bool=>(.tup [E1 r.1,E2 r.2.1,E2 r.2.2.1,BL r.2.2.2]:AV)) (Option.some.inj h)⟩))))))))))

def R8 (a:List Stowed) (b:List Stowed):Option Bool:=
 bif decide ((a.length:Int)≠(b.length:Int)) then
 (some false)
 else
 (each (fun y24 i24 (s24:Unit) nx24=>
   Q9 b (i24:Int) fun y29=>
   bif (!decide (y24=y29)) then
   (some false)
   else
   (nx24 ()))
  (fun(s24:Unit)=>
   some true) a 0 ())
theorem H09 (a:List Stowed) (b:List Stowed) (r:Bool) (h:R8 a b=some r):Pure Ep 8 [E1 a,E1 b] (·=BL r):=by
 unfold R8 at h
 refine Gz [.tmp 4] Tryz.func8 O O (Jr fun hK1=>(Yb (BL false) O (G7 (hK1 (Js fun hK2=>Jr fun hK3=>(Yb (E1 a) O (JLl Gy O O O fun hm7=>(Yb (E1 b) O (JLl Gy O O O fun hm9=>(JLh (BL (decide ((a.length:Int)≠(b.length:Int)))) (G71 O O O) O (G7 (hK3 (JCc O h (fun h hb=>?_) (fun h hb=>?_))))))))))))))
 ·
  refine Jr fun hK4=>(Yb (BL false) O (G7 (hK4 (Gs (fin1 BL h)))))
 ·
  refine Gi (hK2 (Js fun hK5=>Jr fun hK6=>(Yb (G0 0) O (G7 (hK6 (Gj ?_))))))
  obtain⟨b24,kx24,hb24,hkx24,h⟩:=J2 h
  refine Hb (fun i24 (s24:Unit)=>each b24 kx24 (List.drop i24 a) i24 s24=some r) (fun i24 s24=>[(0,E1 a),(1,E1 b),(5,Eo i24)]) (fun i24 s24=>[]) (fun i24=>a.length - i24) 0 () h ⟨(.sm O O),ø,O⟩ ?_
  clear h
  intro i24 s24 hi24 K24 e24
  refine Js fun hK25=>Jr fun hK26=>(Yb (Eo i24) O (Yb (E1 a) O (JLl Gy O O O fun hm13=>(JLh (BL (decide ((i24:Int) < (a.length:Int)))) (J0 O O O) O (G7 (hK26 (Gf O (fun hb=>?_) (fun hb=>?_))))))))
  ·
   have hk24:=Jk hb
   obtain⟨y24,nx24,hy24,hn24,h⟩:=Hs hi24 hk24
   replace h:=Y4 hb24 h
   refine Gi (hK25 (Js fun hK27=>Gj (Js fun hK28=>?_)))
   obtain⟨m30,y29,hm30,hy29,h⟩:=Y0 h
   refine JC_d0 Q6 (by kernel_rfl) (Dq (E1 a) (G6 O O) O (Dq (Eo i24) (G6 O O) O (Dq (Eg y24) (H3 (f:=Stowed.av) (xs:=a) (y:=y24) O O O Gy hy24 O) O (Dq (.agg (Stowed.cs y24)) (Gg Jg O O O) O (Dq (E1 b) (G6 O O) O (Dq (Eo i24) (G6 O O) O (Dq (Eg y29) (H3 (f:=Stowed.av) (xs:=b) (y:=y29) O O O Gy hy29 hm30) O (Dq (.agg (Stowed.cs y29)) (Gg Jg O O O) O (Dq (BL (!decide (y24=y29))) (Q65 (vs:=[.int .i64 y24.Gd,.int .i64 y24.Slot.G4,.int .i64 y24.Slot.Tier,.int .u8 y24.Slot.Half]) (us:=[.int .i64 y29.Gd,.int .i64 y29.Slot.G4,.int .i64 y29.Slot.Tier,.int .u8 y29.Slot.Half]) 4 O (tq_82 y24 y29) J95 Q55 O O O) O (Dnil (hK28 (JCc O h (fun h hb=>?_) (fun h hb=>?_)))))))))))))
   ·
    refine Jr fun hK31=>(Yb (BL false) O (G7 (hK31 (Gs (fin1 BL h)))))
   ·
    refine Gi (hK27 (G3 (Yb (Eo i24) O (JLh (G0 ((i24+1:Nat):Int)) (Hu (Hj hk24 hm13) O O O) O (Yb (G0 ((i24+1:Nat):Int)) O (G7 (e24 _ _ (i24+1) () (app1 hn24 h) (by omega) ⟨(.sm O O),ø,rfl⟩)))))))
  ·
   have h:=app1 hkx24 (Ht hi24 (Ha hb))
   refine Hm (hK5 (Jr fun hK32=>(Yb (BL true) O (G7 (hK32 (Gs (fin1 BL h)))))))

def G2a :Option Gw:=
 some (Gw.mk ([(G4.mk 0 0 false 2 0 0 0 0 [] 0 0 0),(G4.mk 0 1 false 2 0 0 0 0 [] 0 0 0),(G4.mk 0 0 true 3 0 0 0 0 [] 0 0 0),(G4.mk 0 1 true 3 0 0 0 0 [] 0 0 0),(G4.mk 1 1 true 4 0 0 0 0 [] 0 0 0)]) ([(G9.mk 0 [0,1])]) (Light.mk 0 0 0 0) [] [] [] (G2.mk 0 0 0 0))
abbrev Kg:List AV:=[E4 ([]:List G4),E5 ([]:List G9),G0 0,G0 0,G0 0,G0 0,E7 ([]:List Row),E8 ([]:List Frame),E9 ([]:List Gk),G0 0,G0 0,G0 0,G0 0]
theorem H43  (r:Gw) (h:G2a =some r):Pure Ep 18 [] (·=.agg (Gw.cs r)):=by
 unfold G2a at h
 refine Gz [.cell 0 35] Tryz.func18 O O (Jr fun hK1=>(JLh (.ptr 1058 0) (G54 1058 Kg [.slice none 0 0,.slice none 0 0,E0,E0,E0,E0,.slice none 0 0,.slice none 0 0,.slice none 0 0,E0,E0,E0,E0] H90 ⟨.inr ⟨_,O,O⟩,.inr ⟨_,O,O⟩,.inl O,.inl O,.inl O,.inl O,.inr ⟨_,O,O⟩,.inr ⟨_,O,O⟩,.inr ⟨_,O,O⟩,.inl O,.inl O,.inl O,.inl O,ø⟩ O O) O (G7 (hK1 ?_))))
 refine Jr fun hK2=>(JLh (.agg [G0 0,G0 0,BL false,G0 2,G0 0,G0 0,G0 0,G0 0,E2 ([]:List Int),G0 0,G0 0,G0 0]) (J3 (cs:=[G0 0,G0 0,BL false,G0 2,G0 0,G0 0,G0 0,G0 0,E2 ([]:List Int),G0 0,G0 0,G0 0]) [(0,1),(1,1),(2,1),(3,1),(4,1),(5,1),(6,1),(7,1),(8,1),(9,1),(10,1),(11,1)] [G0 0,G0 0,BL false,G0 0,G0 0,G0 0,G0 0,G0 0,E2 ([]:List Int),G0 0,G0 0,G0 0] [E0,E0,.bool false,E0,E0,E0,E0,E0,.slice none 0 0,E0,E0,E0] G45 G9c ⟨.inl O,.inl O,.inl O,.inl O,.inl O,.inl O,.inl O,.inl O,.inr ⟨_,O,O⟩,.inl O,.inl O,.inl O,ø⟩ O O) O (JLh (.agg [G0 0,G0 1,BL false,G0 2,G0 0,G0 0,G0 0,G0 0,E2 ([]:List Int),G0 0,G0 0,G0 0]) (J3 (cs:=[G0 0,G0 1,BL false,G0 2,G0 0,G0 0,G0 0,G0 0,E2 ([]:List Int),G0 0,G0 0,G0 0]) [(0,1),(1,1),(2,1),(3,1),(4,1),(5,1),(6,1),(7,1),(8,1),(9,1),(10,1),(11,1)] [G0 0,G0 0,BL false,G0 0,G0 0,G0 0,G0 0,G0 0,E2 ([]:List Int),G0 0,G0 0,G0 0] [E0,E0,.bool false,E0,E0,E0,E0,E0,.slice none 0 0,E0,E0,E0] G45 G9c ⟨.inl O,.inl O,.inl O,.inl O,.inl O,.inl O,.inl O,.inl O,.inr ⟨_,O,O⟩,.inl O,.inl O,.inl O,ø⟩ O O) O (JLh (.agg [G0 0,G0 0,BL true,G0 3,G0 0,G0 0,G0 0,G0 0,E2 ([]:List Int),G0 0,G0 0,G0 0]) (J3 (cs:=[G0 0,G0 0,BL true,G0 3,G0 0,G0 0,G0 0,G0 0,E2 ([]:List Int),G0 0,G0 0,G0 0]) [(0,1),(1,1),(2,1),(3,1),(4,1),(5,1),(6,1),(7,1),(8,1),(9,1),(10,1),(11,1)] [G0 0,G0 0,BL false,G0 0,G0 0,G0 0,G0 0,G0 0,E2 ([]:List Int),G0 0,G0 0,G0 0] [E0,E0,.bool false,E0,E0,E0,E0,E0,.slice none 0 0,E0,E0,E0] G45 G9c ⟨.inl O,.inl O,.inl O,.inl O,.inl O,.inl O,.inl O,.inl O,.inr ⟨_,O,O⟩,.inl O,.inl O,.inl O,ø⟩ O O) O (JLh (.agg [G0 0,G0 1,BL true,G0 3,G0 0,G0 0,G0 0,G0 0,E2 ([]:List Int),G0 0,G0 0,G0 0]) (J3 (cs:=[G0 0,G0 1,BL true,G0 3,G0 0,G0 0,G0 0,G0 0,E2 ([]:List Int),G0 0,G0 0,G0 0]) [(0,1),(1,1),(2,1),(3,1),(4,1),(5,1),(6,1),(7,1),(8,1),(9,1),(10,1),(11,1)] [G0 0,G0 0,BL false,G0 0,G0 0,G0 0,G0 0,G0 0,E2 ([]:List Int),G0 0,G0 0,G0 0] [E0,E0,.bool false,E0,E0,E0,E0,E0,.slice none 0 0,E0,E0,E0] G45 G9c ⟨.inl O,.inl O,.inl O,.inl O,.inl O,.inl O,.inl O,.inl O,.inr ⟨_,O,O⟩,.inl O,.inl O,.inl O,ø⟩ O O) O (JLh (.agg [G0 1,G0 1,BL true,G0 4,G0 0,G0 0,G0 0,G0 0,E2 ([]:List Int),G0 0,G0 0,G0 0]) (J3 (cs:=[G0 1,G0 1,BL true,G0 4,G0 0,G0 0,G0 0,G0 0,E2 ([]:List Int),G0 0,G0 0,G0 0]) [(0,1),(1,1),(2,1),(3,1),(4,1),(5,1),(6,1),(7,1),(8,1),(9,1),(10,1),(11,1)] [G0 0,G0 0,BL false,G0 0,G0 0,G0 0,G0 0,G0 0,E2 ([]:List Int),G0 0,G0 0,G0 0] [E0,E0,.bool false,E0,E0,E0,E0,E0,.slice none 0 0,E0,E0,E0] G45 G9c ⟨.inl O,.inl O,.inl O,.inl O,.inl O,.inl O,.inl O,.inl O,.inr ⟨_,O,O⟩,.inl O,.inl O,.inl O,ø⟩ O O) O (JLh (E4 ([(G4.mk 0 0 false 2 0 0 0 0 [] 0 0 0),(G4.mk 0 1 false 2 0 0 0 0 [] 0 0 0),(G4.mk 0 0 true 3 0 0 0 0 [] 0 0 0),(G4.mk 0 1 true 3 0 0 0 0 [] 0 0 0),(G4.mk 1 1 true 4 0 0 0 0 [] 0 0 0)])) (H6 (xs:=[.agg [G0 0,G0 0,BL false,G0 2,G0 0,G0 0,G0 0,G0 0,E2 ([]:List Int),G0 0,G0 0,G0 0],.agg [G0 0,G0 1,BL false,G0 2,G0 0,G0 0,G0 0,G0 0,E2 ([]:List Int),G0 0,G0 0,G0 0],.agg [G0 0,G0 0,BL true,G0 3,G0 0,G0 0,G0 0,G0 0,E2 ([]:List Int),G0 0,G0 0,G0 0],.agg [G0 0,G0 1,BL true,G0 3,G0 0,G0 0,G0 0,G0 0,E2 ([]:List Int),G0 0,G0 0,G0 0],.agg [G0 1,G0 1,BL true,G0 4,G0 0,G0 0,G0 0,G0 0,E2 ([]:List Int),G0 0,G0 0,G0 0]]) O ⟨O,O,O,O,O,O,O,O,O,O,ø⟩ Je G3f O O O O) O (JLh (E2 [0,1]) (H6 (xs:=[G0 0,G0 1]) O ⟨O,O,O,O,ø⟩ Gt Qn O O O O) O (JLh (.agg [G0 0,E2 [0,1]]) (J3 (cs:=[G0 0,E2 [0,1]]) [(0,1),(1,1)] [G0 0,E2 ([]:List Int)] [E0,.slice none 0 0] H94 J1f ⟨.inl O,.inr ⟨_,O,O⟩,ø⟩ O O) O (JLh (E5 ([(G9.mk 0 [0,1])])) (H6 (xs:=[.agg [G0 0,E2 [0,1]]]) O ⟨O,O,ø⟩ Qs Gf0 O O O O) O (JLh (.agg [E4 ([(G4.mk 0 0 false 2 0 0 0 0 [] 0 0 0),(G4.mk 0 1 false 2 0 0 0 0 [] 0 0 0),(G4.mk 0 0 true 3 0 0 0 0 [] 0 0 0),(G4.mk 0 1 true 3 0 0 0 0 [] 0 0 0),(G4.mk 1 1 true 4 0 0 0 0 [] 0 0 0)]),E5 ([(G9.mk 0 [0,1])]),G0 0,G0 0,G0 0,G0 0,E7 ([]:List Row),E8 ([]:List Frame),E9 ([]:List Gk),G0 0,G0 0,G0 0,G0 0]) (J3 (cs:=[E4 ([(G4.mk 0 0 false 2 0 0 0 0 [] 0 0 0),(G4.mk 0 1 false 2 0 0 0 0 [] 0 0 0),(G4.mk 0 0 true 3 0 0 0 0 [] 0 0 0),(G4.mk 0 1 true 3 0 0 0 0 [] 0 0 0),(G4.mk 1 1 true 4 0 0 0 0 [] 0 0 0)]),E5 ([(G9.mk 0 [0,1])]),G0 0,G0 0,G0 0,G0 0,E7 ([]:List Row),E8 ([]:List Frame),E9 ([]:List Gk),G0 0,G0 0,G0 0,G0 0]) [(0,1),(1,1),(2,4),(6,1),(7,1),(8,1),(9,4)] Kg [.slice none 0 0,.slice none 0 0,E0,E0,E0,E0,.slice none 0 0,.slice none 0 0,.slice none 0 0,E0,E0,E0,E0] Q62 H90 ⟨.inr ⟨_,O,O⟩,.inr ⟨_,O,O⟩,.inl O,.inl O,.inl O,.inl O,.inr ⟨_,O,O⟩,.inr ⟨_,O,O⟩,.inr ⟨_,O,O⟩,.inl O,.inl O,.inl O,.inl O,ø⟩ O O) O (Hw (u:=.junk) (Hd (u:=.agg [E4 ([(G4.mk 0 0 false 2 0 0 0 0 [] 0 0 0),(G4.mk 0 1 false 2 0 0 0 0 [] 0 0 0),(G4.mk 0 0 true 3 0 0 0 0 [] 0 0 0),(G4.mk 0 1 true 3 0 0 0 0 [] 0 0 0),(G4.mk 1 1 true 4 0 0 0 0 [] 0 0 0)]),E5 ([(G9.mk 0 [0,1])]),G0 0,G0 0,G0 0,G0 0,E7 ([]:List Row),E8 ([]:List Frame),E9 ([]:List Gk),G0 0,G0 0,G0 0,G0 0]) (ds:=[E4 ([(G4.mk 0 0 false 2 0 0 0 0 [] 0 0 0),(G4.mk 0 1 false 2 0 0 0 0 [] 0 0 0),(G4.mk 0 0 true 3 0 0 0 0 [] 0 0 0),(G4.mk 0 1 true 3 0 0 0 0 [] 0 0 0),(G4.mk 1 1 true 4 0 0 0 0 [] 0 0 0)]),E5 ([(G9.mk 0 [0,1])]),G0 0,G0 0,G0 0,G0 0,E7 ([]:List Row),E8 ([]:List Frame),E9 ([]:List Gk),G0 0,G0 0,G0 0,G0 0]) H92 O O O O O O O O) (G7 (hK2 ?_)))))))))))))
 refine Gs (⟨[.agg [E4 ([(G4.mk 0 0 false 2 0 0 0 0 [] 0 0 0),(G4.mk 0 1 false 2 0 0 0 0 [] 0 0 0),(G4.mk 0 0 true 3 0 0 0 0 [] 0 0 0),(G4.mk 0 1 true 3 0 0 0 0 [] 0 0 0),(G4.mk 1 1 true 4 0 0 0 0 [] 0 0 0)]),E5 ([(G9.mk 0 [0,1])]),G0 0,G0 0,G0 0,G0 0,E7 ([]:List Row),E8 ([]:List Frame),E9 ([]:List Gk),G0 0,G0 0,G0 0,G0 0]],[],ø,O,⟨⟨_,⟨_,_,_,_,O,O,O,.inl ⟨Ho,O⟩⟩,.conv (.same O)⟩,ø⟩,O,congrArg (fun r:Gw=>(.agg (Gw.cs r):AV)) (Option.some.inj h)⟩)

def G32 (box:Int) (column:Int) (tier:Int):Option Stowed:=
 some (Stowed.mk box (Slot.mk column tier 0))
theorem Gd0 (box:Int) (column:Int) (tier:Int) (r:Stowed) (h:G32 box column tier=some r):Pure Ep 19 [G0 box,G0 column,G0 tier] (·=.agg (Stowed.cs r)):=by
 unfold G32 at h
 refine Gz [.cell 6 82] Tryz.func19 O O (Jr fun hK1=>(JLh (.ptr 1059 0) (G54 1059 [G0 0,G0 0,G0 0,U8 0] [E0,E0,E0,.int .u8 0] Gd2 ⟨.inl O,.inl O,.inl O,.inl O,ø⟩ O O) O (G7 (hK1 ?_))))
 refine Jr fun hK2=>(Yb (G0 box) O (Yb (G0 column) O (Yb (G0 tier) O (JLh (.agg [G0 column,G0 tier,U8 0]) (J3 (cs:=[G0 column,G0 tier,U8 0]) [(0,1),(1,1),(2,1)] [G0 0,G0 0,U8 0] [E0,E0,.int .u8 0] H11 H22 ⟨.inl O,.inl O,.inl O,ø⟩ O O) O (JLh (.agg [G0 box,G0 column,G0 tier,U8 0]) (J3 (cs:=[G0 box,G0 column,G0 tier,U8 0]) [(0,1),(1,3)] [G0 0,G0 0,G0 0,U8 0] [E0,E0,E0,.int .u8 0] Gb8 Gd2 ⟨.inl O,.inl O,.inl O,.inl O,ø⟩ O O) O (Hw (u:=.junk) (Hd (u:=.agg [G0 box,G0 column,G0 tier,U8 0]) (ds:=[G0 box,G0 column,G0 tier,U8 0]) Qh O O O O O O O O) (G7 (hK2 (Gs ?_)))))))))
 exact⟨[.agg [G0 box,G0 column,G0 tier,U8 0]],[],ø,O,⟨⟨_,⟨_,_,_,_,O,O,O,.inl ⟨Jg,O⟩⟩,.conv (.same O)⟩,ø⟩,O,congrArg (fun r:Stowed=>(.agg (Stowed.cs r):AV)) (Option.some.inj h)⟩

def G2b (a:List Move) (b:List Move):Option Bool:=
 bif decide ((a.length:Int)≠(b.length:Int)) then
 (some false)
 else
 (each (fun y24 i24 (s24:Unit) nx24=>
   Q9 b (i24:Int) fun y29=>
   bif (!decide (y24=y29)) then
   (some false)
   else
   (nx24 ()))
  (fun(s24:Unit)=>
   some true) a 0 ())
theorem H44 (a:List Move) (b:List Move) (r:Bool) (h:G2b a b=some r):Pure Ep 56 [E6 a,E6 b] (·=BL r):=by
 unfold G2b at h
 refine Gz [.tmp 4] Tryz.func56 O O (Jr fun hK1=>(Yb (BL false) O (G7 (hK1 (Js fun hK2=>Jr fun hK3=>(Yb (E6 a) O (JLl Qz O O O fun hm7=>(Yb (E6 b) O (JLl Qz O O O fun hm9=>(JLh (BL (decide ((a.length:Int)≠(b.length:Int)))) (G71 O O O) O (G7 (hK3 (JCc O h (fun h hb=>?_) (fun h hb=>?_))))))))))))))
 ·
  refine Jr fun hK4=>(Yb (BL false) O (G7 (hK4 (Gs (fin1 BL h)))))
 ·
  refine Gi (hK2 (Js fun hK5=>Jr fun hK6=>(Yb (G0 0) O (G7 (hK6 (Gj ?_))))))
  obtain⟨b24,kx24,hb24,hkx24,h⟩:=J2 h
  refine Hb (fun i24 (s24:Unit)=>each b24 kx24 (List.drop i24 a) i24 s24=some r) (fun i24 s24=>[(0,E6 a),(1,E6 b),(5,Eo i24)]) (fun i24 s24=>[]) (fun i24=>a.length - i24) 0 () h ⟨(.sm O O),ø,O⟩ ?_
  clear h
  intro i24 s24 hi24 K24 e24
  refine Js fun hK25=>Jr fun hK26=>(Yb (Eo i24) O (Yb (E6 a) O (JLl Qz O O O fun hm13=>(JLh (BL (decide ((i24:Int) < (a.length:Int)))) (J0 O O O) O (G7 (hK26 (Gf O (fun hb=>?_) (fun hb=>?_))))))))
  ·
   have hk24:=Jk hb
   obtain⟨y24,nx24,hy24,hn24,h⟩:=Hs hi24 hk24
   replace h:=Y4 hb24 h
   refine Gi (hK25 (Js fun hK27=>Gj (Js fun hK28=>?_)))
   obtain⟨m30,y29,hm30,hy29,h⟩:=Y0 h
   refine JC_d0 Q6 (by kernel_rfl) (Dq (E6 a) (G6 O O) O (Dq (Eo i24) (G6 O O) O (Dq (Ej y24) (H3 (f:=Move.av) (xs:=a) (y:=y24) O O O Qz hy24 O) O (Dq (.agg (Move.cs y24)) (Gg H1d O O O) O (Dq (E6 b) (G6 O O) O (Dq (Eo i24) (G6 O O) O (Dq (Ej y29) (H3 (f:=Move.av) (xs:=b) (y:=y29) O O O Qz hy29 hm30) O (Dq (.agg (Move.cs y29)) (Gg H1d O O O) O (Dq (BL (!decide (y24=y29))) (Q65 (vs:=[.int .u8 y24.Kind,.int .i64 y24.Gd,.int .i64 y24.Slot.G4,.int .i64 y24.Slot.Tier,.int .u8 y24.Slot.Half,.int .i64 y24.G9]) (us:=[.int .u8 y29.Kind,.int .i64 y29.Gd,.int .i64 y29.Slot.G4,.int .i64 y29.Slot.Tier,.int .u8 y29.Slot.Half,.int .i64 y29.G9]) 4 O (tq_56 y24 y29) Q95 tf_eqg_56 O O O) O (Dnil ?_))))))))))
   refine hK28 (JCc O h (fun h hb=>?_) (fun h hb=>?_))
   ·
    refine Jr fun hK31=>(Yb (BL false) O (G7 (hK31 (Gs (fin1 BL h)))))
   ·
    refine Gi (hK27 (G3 (Yb (Eo i24) O (JLh (G0 ((i24+1:Nat):Int)) (Hu (Hj hk24 hm13) O O O) O (Yb (G0 ((i24+1:Nat):Int)) O (G7 (e24 _ _ (i24+1) () (app1 hn24 h) (by omega) ⟨(.sm O O),ø,rfl⟩)))))))
  ·
   have h:=app1 hkx24 (Ht hi24 (Ha hb))
   refine Hm (hK5 (Jr fun hK32=>(Yb (BL true) O (G7 (hK32 (Gs (fin1 BL h)))))))

def G83 (a:List Move) (b:List Move):Option Bool:=
 bnd (G2b a b) fun r3=>
 some r3
theorem Hb9 (a:List Move) (b:List Move) (r:Bool) (h:G83 a b=some r):Pure Ep 21 [E6 a,E6 b] (·=BL r):=by
 unfold G83 at h
 refine Gz [.tmp 4] Tryz.func21 O O (Jr fun hK1=>(Yb (BL false) O (G7 (hK1 (Jr fun hK2=>(Yb (E6 a) O (Yb (E6 b) O ?_)))))))
 obtain⟨r3,hr3,h⟩:=Ge h
 refine JLh (BL r3) (Gv O (H44 a b r3 hr3) Qc2 ⟨O,O,O,O,ø⟩) O (Yb (BL r3) O (G7 (hK2 (Gs (fin1 BL h)))))

def Yh (F:Nat) :Option Bool:=
 bnd (G2a) fun r3=>
 bnd (G32 1 0 0) fun r6=>
 bnd (G32 2 3 0) fun r7=>
 bnd (G7e F r3 [(Gd.mk 1 ByteArray.empty 40 false 0 0 0 0 false),(Gd.mk 2 ByteArray.empty 40 false 0 0 0 0 false)] [r6,r7] [r7]) fun r9=>
 bnd (Gea F r3 r9.1) fun r11=>
 Rc (r9.2+r11.2) fun v13=>
 bnd (bif decide (v13=0) then G83 r9.1 [(Move.mk 2 2 r7.Slot 0),(Move.mk 1 0 (Slot.mk 0 0 0) 0),(Move.mk 2 1 r6.Slot 0),(Move.mk 4 0 (Slot.mk 0 0 0) 0),(Move.mk 3 2 r7.Slot 0)] else some default) fun r14=>
 bnd (bif ((decide (v13=0))&&r14) then H78 r9.1 else some default) fun r15=>
 bnd (bif ((((decide (v13=0))&&r14)&&(decide (r15=3)))&&(decide ((r11.1.length:Int)=2))) then Q9 r11.1 0 some else some default) fun y16=>
 bnd (bif (((((decide (v13=0))&&r14)&&(decide (r15=3)))&&(decide ((r11.1.length:Int)=2)))&&(decide (y16=(H8.mk 0 1 2 1)))) then Q9 r11.1 1 some else some default) fun y17=>
 some ((((((decide (v13=0))&&r14)&&(decide (r15=3)))&&(decide ((r11.1.length:Int)=2)))&&(decide (y16=(H8.mk 0 1 2 1))))&&(decide (y17=(H8.mk 0 2 1 1))))
theorem H70 (F:Nat)  (r:Bool) (h:Yh F =some r):Pure Ep 9 [] (·=BL r):=by
 unfold Yh at h
 refine Gz [.tmp 0] Tryz.func9 O O (Jr fun hK1=>(Yb (BL false) O (G7 (hK1 (Jr fun hK2=>?_)))))
 obtain⟨r3,hr3,h⟩:=Ge h
 refine JLh (.agg (Gw.cs r3)) (Gv O (H43  r3 hr3) Qda ø) O (JLh (.ptr 1030 0) (Hx 1030 13 J8f O O) O (Hw (u:=.junk) (Hd (u:=.agg (Gw.cs r3)) (ds:=(Gw.cs r3)) H92 O O O O O O O O) (G7 (hK2 (Gq [(1,Ef r3)] [] 1030 rfl rfl rfl ø rfl (by exact⟨.ptr,ø⟩) ?_)))))
 refine Jr fun hK4=>(JLh (.agg [G0 1,ST ByteArray.empty,U8 40,BL false,G0 0,G0 0,G0 0,U8 0,BL false]) (J3 (cs:=[G0 1,ST ByteArray.empty,U8 40,BL false,G0 0,G0 0,G0 0,U8 0,BL false]) [(0,1),(1,1),(2,1),(3,1),(4,1),(5,1),(6,1),(7,1),(8,1)] [G0 0,ST ByteArray.empty,U8 0,BL false,G0 0,G0 0,G0 0,U8 0,BL false] [E0,.string ByteArray.empty,.int .u8 0,.bool false,E0,E0,E0,.int .u8 0,.bool false] Gb9 Gd3 ⟨.inl O,.inl O,.inl O,.inl O,.inl O,.inl O,.inl O,.inl O,.inl O,ø⟩ O O) O (JLh (.agg [G0 2,ST ByteArray.empty,U8 40,BL false,G0 0,G0 0,G0 0,U8 0,BL false]) (J3 (cs:=[G0 2,ST ByteArray.empty,U8 40,BL false,G0 0,G0 0,G0 0,U8 0,BL false]) [(0,1),(1,1),(2,1),(3,1),(4,1),(5,1),(6,1),(7,1),(8,1)] [G0 0,ST ByteArray.empty,U8 0,BL false,G0 0,G0 0,G0 0,U8 0,BL false] [E0,.string ByteArray.empty,.int .u8 0,.bool false,E0,E0,E0,.int .u8 0,.bool false] Gb9 Gd3 ⟨.inl O,.inl O,.inl O,.inl O,.inl O,.inl O,.inl O,.inl O,.inl O,ø⟩ O O) O (JLh (E3 [(Gd.mk 1 ByteArray.empty 40 false 0 0 0 0 false),(Gd.mk 2 ByteArray.empty 40 false 0 0 0 0 false)]) (H6 (xs:=[.agg [G0 1,ST ByteArray.empty,U8 40,BL false,G0 0,G0 0,G0 0,U8 0,BL false],.agg [G0 2,ST ByteArray.empty,U8 40,BL false,G0 0,G0 0,G0 0,U8 0,BL false]]) O ⟨O,O,O,O,ø⟩ Q4 Rz O O O O) O (Yb (E3 [(Gd.mk 1 ByteArray.empty 40 false 0 0 0 0 false),(Gd.mk 2 ByteArray.empty 40 false 0 0 0 0 false)]) O (G7 (hK4 ?_))))))
 refine Jr fun hK5=>?_
 obtain⟨r6,hr6,h⟩:=Ge h
 refine JLh (.agg (Stowed.cs r6)) (Gv O (Gd0 1 0 0 r6 hr6) Jfe ⟨O,O,O,O,O,O,ø⟩) O ?_
 obtain⟨r7,hr7,h⟩:=Ge h
 refine JLh (.agg (Stowed.cs r7)) (Gv O (Gd0 2 3 0 r7 hr7) Jfe ⟨O,O,O,O,O,O,ø⟩) O (JLh (.ptr 1031 0) (Hx 1031 4 Jo O O) O (JLh (.ptr 1032 0) (Hx 1032 4 Jo O O) O (Hw (u:=.junk) (Hd (u:=.agg (Stowed.cs r6)) (ds:=[G0 r6.Gd,G0 r6.Slot.G4,G0 r6.Slot.Tier,U8 r6.Slot.Half]) Qh O O O O O O O O) (Hw (u:=.junk) (Hd (u:=.agg (Stowed.cs r7)) (ds:=[G0 r7.Gd,G0 r7.Slot.G4,G0 r7.Slot.Tier,U8 r7.Slot.Half]) Qh O O O O O O O O) (G7 (hK5 ?_))))))
 refine Gq [(1,Ef r3),(2,E3 [(Gd.mk 1 ByteArray.empty 40 false 0 0 0 0 false),(Gd.mk 2 ByteArray.empty 40 false 0 0 0 0 false)]),(3,Eg r6),(4,.ptr 1032 0)] [(1032,.box 82 [G0 r7.Gd,G0 r7.Slot.G4,G0 r7.Slot.Tier,U8 r7.Slot.Half])] 1031 rfl rfl rfl ⟨⟨_,rfl,.boxEq rfl rfl⟩,ø⟩ rfl (by repeat' (first | exact .ptr | constructor)) (Gq [(1,Ef r3),(2,E3 [(Gd.mk 1 ByteArray.empty 40 false 0 0 0 0 false),(Gd.mk 2 ByteArray.empty 40 false 0 0 0 0 false)]),(3,Eg r6),(4,Eg r7)] [] 1032 rfl rfl rfl ø rfl (by repeat' (first | exact .ptr | constructor)) ?_)
 refine Jr fun hK8=>(JLh (.agg (Gw.cs r3)) (Gg Ho O O O) O (Yb (E3 [(Gd.mk 1 ByteArray.empty 40 false 0 0 0 0 false),(Gd.mk 2 ByteArray.empty 40 false 0 0 0 0 false)]) O (JLh (.agg (Stowed.cs r6)) (Gg Jg O O O) O (JLh (.agg (Stowed.cs r7)) (Gg Jg O O O) O (JLh (E1 [r6,r7]) (H6 (xs:=[.agg (Stowed.cs r6),.agg (Stowed.cs r7)]) O ⟨O,O,O,O,ø⟩ Gy Jo O O O O) O (JLh (.agg (Stowed.cs r7)) (Gg Jg O O O) O (JLh (E1 [r7]) (H6 (xs:=[.agg (Stowed.cs r7)]) O ⟨O,O,ø⟩ Gy Jo O O O O) O ?_)))))))
 obtain⟨r9,hr9,h⟩:=Ge h
 refine JLh (.tup [E6 r9.1,G0 r9.2]) (Gv O (He4 F r3 [(Gd.mk 1 ByteArray.empty 40 false 0 0 0 0 false),(Gd.mk 2 ByteArray.empty 40 false 0 0 0 0 false)] [r6,r7] [r7] r9 hr9) Jff ⟨O,O,O,O,O,O,O,O,ø⟩) O (Yb (.tup [E6 r9.1,G0 r9.2]) O (JLh (E6 r9.1) (Hk O O O) O (JLh (G0 r9.2) (Hk O O O) O (Yb (E6 r9.1) O (Yb (G0 r9.2) O (G7 (hK8 (Jr fun hK10=>(JLh (.agg (Gw.cs r3)) (Gg Ho O O O) O (Yb (E6 r9.1) O ?_))))))))))
 obtain⟨r11,hr11,h⟩:=Ge h
 refine JLh (.tup [Ec r11.1,G0 r11.2]) (Gv O (Jbf.down F r3 r9.1 r11 hr11) Qd9 ⟨O,O,O,O,ø⟩) O (Yb (.tup [Ec r11.1,G0 r11.2]) O (JLh (Ec r11.1) (Hk O O O) O (JLh (G0 r11.2) (Hk O O O) O (Yb (Ec r11.1) O (Yb (G0 r11.2) O (G7 (hK10 (Jr fun hK12=>(Yb (G0 r9.2) O (Yb (G0 r11.2) O ?_))))))))))
 obtain⟨v13,hv13,h⟩:=Hv h
 refine JLh (G0 v13) (Hu hv13 O O O) O (JLh (BL (decide (v13=0))) (Jz O O O) O (Yb (BL (decide (v13=0))) O (JLo (E6 r9.1) [] O .sct ø (fun hc=>G6 O O) O (JLo (.dptr ((Stowed.cs r7).drop 1)) [] O .sct ø (fun hc=>Ga Hr O O O) O (JLo (.agg ((Stowed.cs r7).drop 1)) [38] O .sct ⟨Ua,ø⟩ (fun hc=>Gg Jh O O O) O (JLo (.agg [U8 2,G0 2,G0 r7.Slot.G4,G0 r7.Slot.Tier,U8 r7.Slot.Half,G0 0]) [39] O .sct ⟨Ua,ø⟩ (fun hc=>J3 (cs:=[U8 2,G0 2,G0 r7.Slot.G4,G0 r7.Slot.Tier,U8 r7.Slot.Half,G0 0]) [(0,1),(1,1),(2,3),(5,1)] [U8 0,G0 0,G0 0,G0 0,U8 0,G0 0] [.int .u8 0,E0,E0,E0,.int .u8 0,E0] G46 G9d ⟨.inl O,.inl O,.inl O,.inl O,.inl O,.inl O,ø⟩ O O) O (JLo (.agg [U8 1,G0 0,G0 0,G0 0,U8 0,G0 0]) [] O .sct ø (fun hc=>J3 (cs:=[U8 1,G0 0,G0 0,G0 0,U8 0,G0 0]) [(0,1),(1,1),(2,3),(5,1)] [U8 0,G0 0,G0 0,G0 0,U8 0,G0 0] [.int .u8 0,E0,E0,E0,.int .u8 0,E0] G46 G9d ⟨.inl O,.inl O,.inl O,.inl O,.inl O,.inl O,ø⟩ O O) O (JLo (.dptr ((Stowed.cs r6).drop 1)) [] O .sct ø (fun hc=>Ga Hr O O O) O (JLo (.agg ((Stowed.cs r6).drop 1)) [42] O .sct ⟨Ua,ø⟩ (fun hc=>Gg Jh O O O) O (JLo (.agg [U8 2,G0 1,G0 r6.Slot.G4,G0 r6.Slot.Tier,U8 r6.Slot.Half,G0 0]) [43] O .sct ⟨Ua,ø⟩ (fun hc=>J3 (cs:=[U8 2,G0 1,G0 r6.Slot.G4,G0 r6.Slot.Tier,U8 r6.Slot.Half,G0 0]) [(0,1),(1,1),(2,3),(5,1)] [U8 0,G0 0,G0 0,G0 0,U8 0,G0 0] [.int .u8 0,E0,E0,E0,.int .u8 0,E0] G46 G9d ⟨.inl O,.inl O,.inl O,.inl O,.inl O,.inl O,ø⟩ O O) O (JLo (.agg [U8 4,G0 0,G0 0,G0 0,U8 0,G0 0]) [] O .sct ø (fun hc=>J3 (cs:=[U8 4,G0 0,G0 0,G0 0,U8 0,G0 0]) [(0,1),(1,1),(2,3),(5,1)] [U8 0,G0 0,G0 0,G0 0,U8 0,G0 0] [.int .u8 0,E0,E0,E0,.int .u8 0,E0] G46 G9d ⟨.inl O,.inl O,.inl O,.inl O,.inl O,.inl O,ø⟩ O O) O (JLo (.dptr ((Stowed.cs r7).drop 1)) [] O .sct ø (fun hc=>Ga Hr O O O) O (JLo (.agg ((Stowed.cs r7).drop 1)) [46] O .sct ⟨Ua,ø⟩ (fun hc=>Gg Jh O O O) O ?_)))))))))))))
 refine JLo (.agg [U8 3,G0 2,G0 r7.Slot.G4,G0 r7.Slot.Tier,U8 r7.Slot.Half,G0 0]) [47] O .sct ⟨Ua,ø⟩ (fun hc=>J3 (cs:=[U8 3,G0 2,G0 r7.Slot.G4,G0 r7.Slot.Tier,U8 r7.Slot.Half,G0 0]) [(0,1),(1,1),(2,3),(5,1)] [U8 0,G0 0,G0 0,G0 0,U8 0,G0 0] [.int .u8 0,E0,E0,E0,.int .u8 0,E0] G46 G9d ⟨.inl O,.inl O,.inl O,.inl O,.inl O,.inl O,ø⟩ O O) O (JLo (E6 [(Move.mk 2 2 r7.Slot 0),(Move.mk 1 0 (Slot.mk 0 0 0) 0),(Move.mk 2 1 r6.Slot 0),(Move.mk 4 0 (Slot.mk 0 0 0) 0),(Move.mk 3 2 r7.Slot 0)]) [40,41,44,45,48] O .sct ⟨Ua,Ua,Ua,Ua,Ua,ø⟩ (fun hc=>H6 (xs:=[.agg [U8 2,G0 2,G0 r7.Slot.G4,G0 r7.Slot.Tier,U8 r7.Slot.Half,G0 0],.agg [U8 1,G0 0,G0 0,G0 0,U8 0,G0 0],.agg [U8 2,G0 1,G0 r6.Slot.G4,G0 r6.Slot.Tier,U8 r6.Slot.Half,G0 0],.agg [U8 4,G0 0,G0 0,G0 0,U8 0,G0 0],.agg [U8 3,G0 2,G0 r7.Slot.G4,G0 r7.Slot.Tier,U8 r7.Slot.Half,G0 0]]) O ⟨O,O,O,O,O,O,O,O,O,O,ø⟩ Qz Ga4 O O O O) O ?_)
 obtain⟨r14,hr14,h⟩:=Ge h
 refine JLo (BL r14) [37,49] O .sct ⟨Ua,Ua,ø⟩ (fun hc=>Gv (args:=[E6 r9.1,E6 [(Move.mk 2 2 r7.Slot 0),(Move.mk 1 0 (Slot.mk 0 0 0) 0),(Move.mk 2 1 r6.Slot 0),(Move.mk 4 0 (Slot.mk 0 0 0) 0),(Move.mk 3 2 r7.Slot 0)]]) O (Hb9 r9.1 [(Move.mk 2 2 r7.Slot 0),(Move.mk 1 0 (Slot.mk 0 0 0) 0),(Move.mk 2 1 r6.Slot 0),(Move.mk 4 0 (Slot.mk 0 0 0) 0),(Move.mk 3 2 r7.Slot 0)] r14 (Gx hc hr14)) Qd8 ⟨O,O,O,O,ø⟩) O (JLh (BL ((decide (v13=0))&&r14)) (Qr O O O O) O (Yb (BL ((decide (v13=0))&&r14)) O (JLo (E6 r9.1) [] O .sct ø (fun hc=>G6 O O) O ?_)))
 obtain⟨r15,hr15,h⟩:=Ge h
 refine JLo (G0 r15) [53] O .sct ⟨Ua,ø⟩ (fun hc=>Gv (args:=[E6 r9.1]) O (Jc9 r9.1 r15 (Gx hc hr15)) Qd7 ⟨O,O,ø⟩) O (JLo (BL (decide (r15=3))) [54] O .sct ⟨Ua,ø⟩ (fun hc=>Jz O O O) O (JLh (BL (((decide (v13=0))&&r14)&&(decide (r15=3)))) (Qr O O O O) O (Yb (BL (((decide (v13=0))&&r14)&&(decide (r15=3)))) O (JLo (Ec r11.1) [] O .sct ø (fun hc=>G6 O O) O (JLo (Eo r11.1.length) [58] O .sct ⟨Ua,ø⟩ (fun hc=>Yv (f:=H8.av) (xs:=r11.1) Yr O O) O (JLo (BL (decide ((r11.1.length:Int)=2))) [59] O .sct ⟨Ua,ø⟩ (fun hc=>Jz O O O) O (JLh (BL ((((decide (v13=0))&&r14)&&(decide (r15=3)))&&(decide ((r11.1.length:Int)=2)))) (Qr O O O O) O (Yb (BL ((((decide (v13=0))&&r14)&&(decide (r15=3)))&&(decide ((r11.1.length:Int)=2)))) O (JLo (Ec r11.1) [] O .sct ø (fun hc=>G6 O O) O ?_)))))))))
 obtain⟨y16,hy16,h⟩:=Ge h
 refine JLo (En y16) [63] O .sct ⟨Ua,ø⟩ (fun hc=>(match Yz (Gx hc hy16) with | ⟨_,hm_,hy_⟩=>H3 (f:=H8.av) (xs:=r11.1) (y:=y16) O O O Yr hy_ hm_)) O (JLo (.agg (H8.cs y16)) [64] O .sct ⟨Ua,ø⟩ (fun hc=>Gg Ga5 O O O) O (JLo (.agg [G0 0,G0 1,G0 2,G0 1]) [] O .sct ø (fun hc=>J3 (cs:=[G0 0,G0 1,G0 2,G0 1]) [(0,1),(1,1),(2,1),(3,1)] [G0 0,G0 0,G0 0,G0 0] [E0,E0,E0,E0] H93 J1e ⟨.inl O,.inl O,.inl O,.inl O,ø⟩ O O) O (JLo (BL (decide (y16=(H8.mk 0 1 2 1)))) [65,66] O .sct ⟨Ua,Ua,ø⟩ (fun hc=>Jd8 (vs:=[.int .i64 y16.Bay,.int .i64 y16.Phase,.int .i64 y16.Lifts,.int .i64 y16.Covers]) (us:=[E0,.int .i64 1,.int .i64 2,.int .i64 1]) 4 O (tq_94 y16 (H8.mk 0 1 2 1)) J94 Q54 O O O) O (JLh (BL (((((decide (v13=0))&&r14)&&(decide (r15=3)))&&(decide ((r11.1.length:Int)=2)))&&(decide (y16=(H8.mk 0 1 2 1))))) (Qr O O O O) O (Yb (BL (((((decide (v13=0))&&r14)&&(decide (r15=3)))&&(decide ((r11.1.length:Int)=2)))&&(decide (y16=(H8.mk 0 1 2 1))))) O (JLo (Ec r11.1) [] O .sct ø (fun hc=>G6 O O) O ?_))))))
 obtain⟨y17,hy17,h⟩:=Ge h
 refine JLo (En y17) [70] O .sct ⟨Ua,ø⟩ (fun hc=>(match Yz (Gx hc hy17) with | ⟨_,hm_,hy_⟩=>H3 (f:=H8.av) (xs:=r11.1) (y:=y17) O O O Yr hy_ hm_)) O (JLo (.agg (H8.cs y17)) [71] O .sct ⟨Ua,ø⟩ (fun hc=>Gg Ga5 O O O) O (JLo (.agg [G0 0,G0 2,G0 1,G0 1]) [] O .sct ø (fun hc=>J3 (cs:=[G0 0,G0 2,G0 1,G0 1]) [(0,1),(1,1),(2,1),(3,1)] [G0 0,G0 0,G0 0,G0 0] [E0,E0,E0,E0] H93 J1e ⟨.inl O,.inl O,.inl O,.inl O,ø⟩ O O) O (JLo (BL (decide (y17=(H8.mk 0 2 1 1)))) [72,73] O .sct ⟨Ua,Ua,ø⟩ (fun hc=>Jd8 (vs:=[.int .i64 y17.Bay,.int .i64 y17.Phase,.int .i64 y17.Lifts,.int .i64 y17.Covers]) (us:=[E0,.int .i64 2,.int .i64 1,.int .i64 1]) 4 O (tq_94 y17 (H8.mk 0 2 1 1)) J94 Q54 O O O) O (JLh (BL ((((((decide (v13=0))&&r14)&&(decide (r15=3)))&&(decide ((r11.1.length:Int)=2)))&&(decide (y16=(H8.mk 0 1 2 1))))&&(decide (y17=(H8.mk 0 2 1 1))))) (Qr O O O O) O (Yb (BL ((((((decide (v13=0))&&r14)&&(decide (r15=3)))&&(decide ((r11.1.length:Int)=2)))&&(decide (y16=(H8.mk 0 1 2 1))))&&(decide (y17=(H8.mk 0 2 1 1))))) O (G7 (hK12 ?_)))))))
 refine Gs (fin1 BL h)

def R7 (F:Nat) (l:List Hp) (covers:Int) (items:List Hi) (n:Int):Option Bool:=
 bnd (Yi l covers) fun r3=>
 Rc (n) fun v4=>
 bnd (Hb1 v4 5) fun v5=>
 Rc (2+v5) fun v6=>
 bnd (Y6 F r3 items v6 8) fun r8=>
 bnd (G6e F r3 r8.1 v6 r8.2) fun r10=>
 bif (((decide (r10.2≠0))||(decide ((r10.1.length:Int)≠v6)))||(decide ((r8.2.States.length:Int)≠v6))) then
 (some false)
 else
 (each (fun y17 i17 (s17:(List Stowed)) nx17=>
   each (fun y49 i49 (s49:(List Int)×(List Int)) nx49=>
    jp (fun kj52=>
     jp (fun kj54=>
      bif decide (y49.Load=(i17:Int)) then
      (need (decide ((s49.1.length+[y49.ID].length)*8≤140737488355328∧s49.1.length+[y49.ID].length≤maxLen)) <|
       kj54 (s49.1++[y49.ID]))
      else
      (kj54 s49.1)) fun(j54:(List Int))=>
     bif decide (y49.Discharge=(i17:Int)) then
     (need (decide ((s49.2.length+[y49.ID].length)*8≤140737488355328∧s49.2.length+[y49.ID].length≤maxLen)) <|
      kj52 (j54,(s49.2++[y49.ID])))
     else
     (kj52 (j54,s49.2))) fun(j52:(List Int)×(List Int))=>
    nx49 (j52.1,j52.2))
   (fun(s49:(List Int)×(List Int))=>
    each (fun y101 i101 (s101:(List Stowed)×(List Int)×(List Int)) nx101=>
     bnd (Ja F r3 r8.1 s101.1 s101.2.1 s101.2.2 y101) fun r108=>
     bif (!r108.2.2.2) then
     (some false)
     else
     (nx101 (r108.1,r108.2.1,r108.2.2.1)))
    (fun(s101:(List Stowed)×(List Int)×(List Int))=>
     Q9 r8.2.States (i17:Int) fun y113=>
     bnd (R8 s101.1 y113) fun r115=>
     bif (((!r115)||(decide ((s101.2.1.length:Int)≠0)))||(decide ((s101.2.2.length:Int)≠(s49.2.length:Int)))) then
     (some false)
     else
     (each (fun y118 i118 (s118:Unit) nx118=>
       each (fun y136 i136 (s136:Bool) nx136=>
        nx136 (s136||(decide (y136=y118))))
       (fun(s136:Bool)=>
        bif (!s136) then
        (some false)
        else
        (nx118 ())) s101.2.2 0 false)
      (fun(s118:Unit)=>
       nx17 s101.1) s49.2 0 ())) y17 0 (s17,[],s49.1)) r8.1 0 ([],[]))
  (fun(s17:(List Stowed))=>
   bnd (bif decide ((s17.length:Int)=0) then Yh F else some default) fun r144=>
   some ((decide ((s17.length:Int)=0))&&r144)) r10.1 0 [])
theorem H08 (F:Nat) (l:List Hp) (covers:Int) (items:List Hi) (n:Int) (r:Bool) (h:R7 F l covers items n=some r):Pure Ep 3 [Ee l,.sc (.int .u32 covers),Ed items,U8 n] (·=BL r):=by
 unfold R7 at h
 refine Gz [.tmp 8] Tryz.func3 O O (Jr fun hK1=>(Yb (BL false) O (G7 (hK1 (Jr fun hK2=>(Yb (Ee l) O (Yb (.sc (.int .u32 covers)) O ?_)))))))
 obtain⟨r3,hr3,h⟩:=Ge h
 refine JLh (.agg (Gw.cs r3)) (Gv O (H72 l covers r3 hr3) tf_call_4 ⟨O,O,O,O,ø⟩) O (Yb (U8 n) O ?_)
 obtain⟨v4,hv4,h⟩:=Hv h
 refine JLh (G0 v4) (G4e Zf G18 hv4 O O) O ?_
 obtain⟨v5,hv5,h⟩:=Ge h
 refine JLh (G0 v5) (J6d (Rn hv5).1 (Rn hv5).2 O O O) O ?_
 obtain⟨v6,hv6,h⟩:=Hv h
 refine JLh (G0 v6) (Hu hv6 O O O) O (JLh (.ptr 1001 0) (Hx 1001 13 J8f O O) O (Hw (u:=.junk) (Hd (u:=.agg (Gw.cs r3)) (ds:=(Gw.cs r3)) H92 O O O O O O O O) (Yb (G0 v6) O (G7 (hK2 (Gq [(2,Ed items),(9,Ef r3),(10,G0 v6)] [] 1001 rfl rfl rfl ø rfl (by exact⟨.conv (.same rfl),.ptr,.conv (.same rfl),ø⟩) (Jr fun hK7=>(JLh (.agg (Gw.cs r3)) (Gg Ho O O O) O (Yb (Ed items) O (Yb (G0 v6) O ?_))))))))))
 obtain⟨r8,hr8,h⟩:=Ge h
 refine JLh (.tup [E3 r8.1,.agg [LS 1 (E1) r8.2.States,LS 1 (E2) r8.2.Water]]) (Gv O (H4f F r3 items v6 8 r8 hr8) tf_call_5 ⟨O,O,O,O,O,O,O,O,ø⟩) O (Yb (.tup [E3 r8.1,.agg [LS 1 (E1) r8.2.States,LS 1 (E2) r8.2.Water]]) O (JLh (E3 r8.1) (Hk O O O) O (JLh (.agg [LS 1 (E1) r8.2.States,LS 1 (E2) r8.2.Water]) (Hk O O O) O (JLh (.ptr 1002 0) (Hx 1002 2 J8e O O) O (Yb (E3 r8.1) O (Hw (u:=.junk) (Hd (u:=.agg [LS 1 (E1) r8.2.States,LS 1 (E2) r8.2.Water]) (ds:=[LS 1 (E1) r8.2.States,LS 1 (E2) r8.2.Water]) Gd4 O O O O O O O O) (G7 (hK7 ?_))))))))
 refine Gq [(9,Ef r3),(10,G0 v6),(11,E3 r8.1),(12,.dptr [LS 1 (E1) r8.2.States,LS 1 (E2) r8.2.Water])] [] 1002 rfl rfl rfl ø rfl (by repeat' (first | exact .ptr | constructor)) (Jr fun hK9=>(JLh (.agg (Gw.cs r3)) (Gg Ho O O O) O (Yb (E3 r8.1) O (Yb (G0 v6) O (JLh (.agg [LS 1 (E1) r8.2.States,LS 1 (E2) r8.2.Water]) (Gg Ga6 O O O) O ?_)))))
 obtain⟨r10,hr10,h⟩:=Ge h
 refine JLh (.tup [LS 1 (E6) r10.1,G0 r10.2]) (Gv O (J89 F r3 r8.1 v6 r8.2 r10 hr10) tf_call_6 ⟨O,O,O,O,O,O,O,O,ø⟩) O (Yb (.tup [LS 1 (E6) r10.1,G0 r10.2]) O (JLh (LS 1 (E6) r10.1) (Hk O O O) O (JLh (G0 r10.2) (Hk O O O) O (Yb (LS 1 (E6) r10.1) O (Yb (G0 r10.2) O (G7 (hK9 (Js fun hK11=>?_))))))))
 refine Jr fun hK12=>(Yb (G0 r10.2) O (JLh (BL (decide (r10.2≠0))) (G71 O O O) O (Yb (BL (decide (r10.2≠0))) O (JLo (LS 1 (E6) r10.1) [] O .scf ø (fun hc=>G6 O O) O (JLo (Eo r10.1.length) [56] O .scf ⟨Ua,ø⟩ (fun hc=>Yv (f:=(E6)) (xs:=r10.1) Gf1 O O) O (JLo (G0 v6) [] O .scf ø (fun hc=>G6 O O) O (JLo (BL (decide ((r10.1.length:Int)≠v6))) [57,58] O .scf ⟨Ua,Ua,ø⟩ (fun hc=>G71 O O O) O (JLh (BL ((decide (r10.2≠0))||(decide ((r10.1.length:Int)≠v6)))) (G0b O O O O) O (Yb (BL ((decide (r10.2≠0))||(decide ((r10.1.length:Int)≠v6)))) O (JLo (.dptr [LS 1 (E1) r8.2.States,LS 1 (E2) r8.2.Water]) [] O .scf ø (fun hc=>Ga G28 O O O) O (JLo (LS 1 (E1) r8.2.States) [62] O .scf ⟨Ua,ø⟩ (fun hc=>Gh Zy O O O) O (JLo (Eo r8.2.States.length) [63] O .scf ⟨Ua,ø⟩ (fun hc=>Yv (f:=(E1)) (xs:=r8.2.States) Qd O O) O (JLo (G0 v6) [] O .scf ø (fun hc=>G6 O O) O ?_)))))))))))))
 refine JLo (BL (decide ((r8.2.States.length:Int)≠v6))) [64,65] O .scf ⟨Ua,Ua,ø⟩ (fun hc=>G71 O O O) O (JLh (BL (((decide (r10.2≠0))||(decide ((r10.1.length:Int)≠v6)))||(decide ((r8.2.States.length:Int)≠v6)))) (G0b O O O O) O (G7 (hK12 (JCc O h (fun h hb=>?_) (fun h hb=>?_)))))
 ·
  refine Jr fun hK13=>(Yb (BL false) O (G7 (hK13 (Gs (fin1 BL h)))))
 ·
  refine Gi (hK11 (Jr fun hK14=>(JLh (E1 ([]:List Stowed)) (Hf 4 O O) O (G7 (hK14 (Js fun hK15=>Jr fun hK16=>(Yb (LS 1 (E6) r10.1) O (JLl Gf1 O O O fun hm69=>(Yb (G0 0) O (G7 (hK16 (Gj ?_))))))))))))
  obtain⟨b17,kx17,hb17,hkx17,h⟩:=J2 h
  refine Hb (fun i17 (s17:(List Stowed))=>each b17 kx17 (List.drop i17 r10.1) i17 s17=some r) (fun i17 s17=>[(9,Ef r3),(11,E3 r8.1),(12,.dptr [LS 1 (E1) r8.2.States,LS 1 (E2) r8.2.Water]),(15,E1 s17),(68,LS 1 (E6) r10.1),(69,Eo r10.1.length),(70,Eo i17)]) (fun i17 s17=>[]) (fun i17=>r10.1.length - i17) 0 [] h ⟨(.sm O O),ø,rfl⟩ ?_
  clear h
  intro i17 s17 hi17 K17 e17
  refine Jr fun hK18=>(JLh (BL (decide ((i17:Int) < (r10.1.length:Int)))) (J0 O O O) O (G7 (hK18 (Js fun hK19=>Gf O (fun hb=>?_) (fun hb=>?_)))))
  ·
   have hk17:=Jk hb
   obtain⟨y17,nx17,hy17,hn17,h⟩:=Hs hi17 hk17
   replace h:=Y4 hb17 h
   refine Gi (hK19 (Js fun hK20=>Gj (Jr fun hK21=>(Yb (Eo i17) O (JLh (.dptr [E6 y17]) (H3 (f:=(E6)) (xs:=r10.1) (y:=y17) O O O Gf1 hy17 O) O (JLh (E6 y17) (Gh H10 O O O) O (Yb (Eo i17) O (Yb (E6 y17) O (G7 (hK21 (Jr fun hK22=>(JLh (E2 ([]:List Int)) (Hf 1 O O) O (JLh (OW 1003 1 G0 ([]:List Int)) (G24 1003 3 1 O O O) O (JLh (OW 1004 1 G0 ([]:List Int)) (G24 1004 3 1 O O O) O (G7 (hK22 (Js fun hK23=>Jr fun hK24=>(Yb (E3 r8.1) O (JLl Q4 O O O fun hm76=>(Yb (G0 0) O (G7 (hK24 (Gj ?_)))))))))))))))))))))))
   obtain⟨b49,kx49,hb49,hkx49,h⟩:=J2 h
   refine Hb (fun i49 (s49:(List Int)×(List Int))=>each b49 kx49 (List.drop i49 r8.1) i49 s49=some r) (fun i49 s49=>[(9,Ef r3),(11,E3 r8.1),(12,.dptr [LS 1 (E1) r8.2.States,LS 1 (E2) r8.2.Water]),(15,E1 s17),(16,Eo i17),(17,E6 y17),(18,E2 ([]:List Int)),(19,OW 1003 1 G0 s49.1),(20,OW 1004 1 G0 s49.2),(68,LS 1 (E6) r10.1),(69,Eo r10.1.length),(70,Eo i17),(75,E3 r8.1),(76,Eo r8.1.length),(77,Eo i49)]) (fun i49 s49=>[(1003,.spare 3 1 s49.1.length s49.1.length),(1004,.spare 3 1 s49.2.length s49.2.length)]) (fun i49=>r8.1.length - i49) 0 ([],[]) h ⟨(.sm O O),⟨⟨_,rfl,.same⟩,⟨_,rfl,.same⟩,ø⟩,rfl⟩ ?_
   clear h
   intro i49 s49 hi49 K49 e49
   refine Jr fun hK50=>(JLh (BL (decide ((i49:Int) < (r8.1.length:Int)))) (J0 O O O) O (G7 (hK50 (Js fun hK51=>Gf O (fun hb=>?_) (fun hb=>?_)))))
   ·
    have hk49:=Jk hb
    obtain⟨y49,nx49,hy49,hn49,h⟩:=Hs hi49 hk49
    replace h:=Y4 hb49 h
    refine Gi (hK51 ?_)
    obtain⟨kj52,hkj52,h⟩:=Qo h
    refine Jx (fun j52:(List Int)×(List Int)=>kj52 j52=some r) (fun j52=>[(9,Ef r3),(11,E3 r8.1),(12,.dptr [LS 1 (E1) r8.2.States,LS 1 (E2) r8.2.Water]),(15,E1 s17),(16,Eo i17),(17,E6 y17),(18,E2 ([]:List Int)),(19,OW 1003 1 G0 j52.1),(20,OW 1004 1 G0 j52.2),(68,LS 1 (E6) r10.1),(69,Eo r10.1.length),(70,Eo i17),(75,E3 r8.1),(76,Eo r8.1.length),(77,Eo i49)]) (fun j52=>[(1003,.spare 3 1 j52.1.length j52.1.length),(1004,.spare 3 1 j52.2.length j52.2.length)]) (fun Kj52 ej52=>?_) ?_
    ·
     refine Gj (Jr fun hK53=>(JLh (Eh y49) (H3 (f:=Gd.av) (xs:=r8.1) (y:=y49) O O O Q4 hy49 O) O (JLh (.agg (Gd.cs y49)) (Gg G08 O O O) O (JLh (.ptr 1005 0) (Hx 1005 9 Rz O O) O (Hw (u:=.junk) (Hd (u:=.agg (Gd.cs y49)) (ds:=(Gd.cs y49)) Zo O O O O O O O O) (G7 (hK53 ?_)))))))
     refine Gq [(9,Ef r3),(11,E3 r8.1),(12,.dptr [LS 1 (E1) r8.2.States,LS 1 (E2) r8.2.Water]),(15,E1 s17),(16,Eo i17),(17,E6 y17),(18,E2 ([]:List Int)),(19,OW 1003 1 G0 s49.1),(20,OW 1004 1 G0 s49.2),(22,Eh y49),(68,LS 1 (E6) r10.1),(69,Eo r10.1.length),(70,Eo i17),(75,E3 r8.1),(76,Eo r8.1.length),(77,Eo i49)] [(1003,.spare 3 1 s49.1.length s49.1.length),(1004,.spare 3 1 s49.2.length s49.2.length)] 1005 rfl rfl rfl ⟨⟨_,rfl,.same⟩,⟨_,rfl,.same⟩,ø⟩ rfl (by repeat' (first | exact .ptr | constructor)) ?_
     obtain⟨kj54,hkj54,h⟩:=Qo h
     refine Jx (fun j54:(List Int)=>kj54 j54=some r) (fun j54=>[(9,Ef r3),(11,E3 r8.1),(12,.dptr [LS 1 (E1) r8.2.States,LS 1 (E2) r8.2.Water]),(15,E1 s17),(16,Eo i17),(17,E6 y17),(18,E2 ([]:List Int)),(19,OW 1003 1 G0 j54),(20,OW 1004 1 G0 s49.2),(22,Eh y49),(68,LS 1 (E6) r10.1),(69,Eo r10.1.length),(70,Eo i17),(75,E3 r8.1),(76,Eo r8.1.length),(77,Eo i49)]) (fun j54=>[(1003,.spare 3 1 j54.length j54.length),(1004,.spare 3 1 s49.2.length s49.2.length)]) (fun Kj54 ej54=>?_) ?_
     ·
      refine Jr fun hK55=>(JLh (.dptr ((Gd.cs y49).drop 5)) (Ga G02 O O O) O (JLh (G0 y49.Load) (Gh Gb O O O) O (Yb (Eo i17) O (JLh (BL (decide (y49.Load=(i17:Int)))) (Jz O O O) O (G7 (hK55 (JCc O h (fun h hb=>?_) (fun h hb=>?_))))))))
      ·
       refine G3 (Yb (OW 1003 1 G0 s49.1) O (JLh (Eh y49) (Ga Qf O O O) O (JLh (G0 y49.ID) (Gh Gb O O O) O (JLh (E2 [y49.ID]) (H6 (xs:=[G0 y49.ID]) O ⟨O,O,ø⟩ Gt Qn O O O O) O ?_))))
       obtain⟨ha56,h⟩:=Jd h
       refine JLh (OW 1003 1 G0 (s49.1++[y49.ID])) (Qk (f:=G0) (xs:=s49.1) (ys:=[y49.ID]) O O O O Gt Yy ha56 (fun _=>O) (.inl O) O) O (Yb (OW 1003 1 G0 (s49.1++[y49.ID])) O (G7 (ej54 _ _ (s49.1++[y49.ID]) h ⟨(.sm O O),⟨⟨_,rfl,.same⟩,⟨_,rfl,.same⟩,ø⟩,rfl⟩)))
      ·
       refine Gi (ej54 _ _ s49.1 h ⟨(.sm O O),⟨⟨_,rfl,.same⟩,⟨_,rfl,.same⟩,ø⟩,rfl⟩)
     ·intro j54 h
      replace h:=app1 hkj54 h
      refine Jr fun hK57=>(JLh (.dptr ((Gd.cs y49).drop 6)) (Ga G27 O O O) O (JLh (G0 y49.Discharge) (Gh Gb O O O) O (Yb (Eo i17) O (JLh (BL (decide (y49.Discharge=(i17:Int)))) (Jz O O O) O (G7 (hK57 (JCc O h (fun h hb=>?_) (fun h hb=>?_))))))))
      ·
       refine G3 (Yb (OW 1004 1 G0 s49.2) O (JLh (Eh y49) (Ga Qf O O O) O (JLh (G0 y49.ID) (Gh Gb O O O) O (JLh (E2 [y49.ID]) (H6 (xs:=[G0 y49.ID]) O ⟨O,O,ø⟩ Gt Qn O O O O) O ?_))))
       obtain⟨ha58,h⟩:=Jd h
       refine JLh (OW 1004 1 G0 (s49.2++[y49.ID])) (Qk (f:=G0) (xs:=s49.2) (ys:=[y49.ID]) O O O O Gt Yy ha58 (fun _=>O) (.inl O) O) O (Yb (OW 1004 1 G0 (s49.2++[y49.ID])) O (G7 (ej52 _ _ (j54,(s49.2++[y49.ID])) h ⟨(.sm O O),⟨⟨_,rfl,.same⟩,⟨_,rfl,.same⟩,ø⟩,rfl⟩)))
      ·
       refine Gi (ej52 _ _ (j54,s49.2) h ⟨(.sm O O),⟨⟨_,rfl,.same⟩,⟨_,rfl,.same⟩,ø⟩,rfl⟩)
    ·intro j52 h
     replace h:=app1 hkj52 h
     refine G3 (JLh (G0 ((i49+1:Nat):Int)) (Hu (Hj hk49 hm76) O O O) O (Yb (G0 ((i49+1:Nat):Int)) O (G7 (e49 _ _ (i49+1) (j52.1,j52.2) (app1 hn49 h) (by omega) ⟨(.sm O O),⟨⟨_,rfl,.same⟩,⟨_,rfl,.same⟩,ø⟩,rfl⟩))))
   ·
    have h:=app1 hkx49 (Ht hi49 (Ha hb))
    refine Hm (hK23 (Js fun hK59=>Jr fun hK60=>(Yb (E6 y17) O (JLl Qz O O O fun hm101=>(Yb (G0 0) O (G7 (hK60 (Gj ?_))))))))
    obtain⟨b101,kx101,hb101,hkx101,h⟩:=J2 h
    refine Hb (fun i101 (s101:(List Stowed)×(List Int)×(List Int))=>each b101 kx101 (List.drop i101 y17) i101 s101=some r) (fun i101 s101=>[(9,Ef r3),(11,E3 r8.1),(12,.dptr [LS 1 (E1) r8.2.States,LS 1 (E2) r8.2.Water]),(15,E1 s101.1),(16,Eo i17),(18,E2 s101.2.1),(19,E2 s101.2.2),(20,OW 1004 1 G0 s49.2),(68,LS 1 (E6) r10.1),(69,Eo r10.1.length),(70,Eo i17),(100,E6 y17),(101,Eo y17.length),(102,Eo i101)]) (fun i101 s101=>[(1004,.spare 3 1 s49.2.length s49.2.length)]) (fun i101=>y17.length - i101) 0 (s17,[],s49.1) h ⟨⟨.same O,.same O,.same O,.same O,.same O,.same O,.list O,.same O,.same O,.same O,.same O,.same O,.same O,.same O,ø⟩,⟨⟨_,O,.same⟩,ø⟩,O⟩ ?_
    clear h
    intro i101 s101 hi101 K101 e101
    refine Jr fun hK102=>(JLh (BL (decide ((i101:Int) < (y17.length:Int)))) (J0 O O O) O (G7 (hK102 (Js fun hK103=>Gf O (fun hb=>?_) (fun hb=>?_)))))
    ·
     have hk101:=Jk hb
     obtain⟨y101,nx101,hy101,hn101,h⟩:=Hs hi101 hk101
     replace h:=Y4 hb101 h
     refine Gi (hK103 (Js fun hK104=>Gj (Jr fun hK105=>(JLh (Ej y101) (H3 (f:=Move.av) (xs:=y17) (y:=y101) O O O Qz hy101 O) O (JLh (.agg (Move.cs y101)) (Gg H1d O O O) O (JLh (.ptr 1006 0) (Hx 1006 6 Ga4 O O) O (Hw (u:=.junk) (Hd (u:=.agg (Move.cs y101)) (ds:=[U8 y101.Kind,G0 y101.Gd,G0 y101.Slot.G4,G0 y101.Slot.Tier,U8 y101.Slot.Half,G0 y101.G9]) J20 O O O O O O O O) (G7 (hK105 ?_)))))))))
     refine Gq [(9,Ef r3),(11,E3 r8.1),(12,.dptr [LS 1 (E1) r8.2.States,LS 1 (E2) r8.2.Water]),(15,E1 s101.1),(16,Eo i17),(18,E2 s101.2.1),(19,E2 s101.2.2),(20,OW 1004 1 G0 s49.2),(24,Ej y101),(68,LS 1 (E6) r10.1),(69,Eo r10.1.length),(70,Eo i17),(100,E6 y17),(101,Eo y17.length),(102,Eo i101)] [(1004,.spare 3 1 s49.2.length s49.2.length)] 1006 rfl rfl rfl ⟨⟨_,rfl,.same⟩,ø⟩ rfl (by repeat' (first | exact .ptr | constructor)) (Jr fun hK106=>(Yb (BL false) O (G7 (hK106 ?_))))
     refine Jr fun hK107=>(JLh (.agg (Gw.cs r3)) (Gg Ho O O O) O (Yb (E3 r8.1) O (Yb (E1 s101.1) O (Yb (E2 s101.2.1) O (Yb (E2 s101.2.2) O (JLh (.agg (Move.cs y101)) (Gg H1d O O O) O ?_))))))
     obtain⟨r108,hr108,h⟩:=Ge h
     refine JLh (.tup [E1 r108.1,E2 r108.2.1,E2 r108.2.2.1,BL r108.2.2.2]) (Gv O (H85 F r3 r8.1 s101.1 s101.2.1 s101.2.2 y101 r108 hr108) tf_call_7 ⟨O,O,O,O,O,O,O,O,O,O,O,O,ø⟩) O (Yb (.tup [E1 r108.1,E2 r108.2.1,E2 r108.2.2.1,BL r108.2.2.2]) O (JLh (E1 r108.1) (Hk O O O) O (JLh (E2 r108.2.1) (Hk O O O) O (JLh (E2 r108.2.2.1) (Hk O O O) O (JLh (BL r108.2.2.2) (Hk O O O) O (Yb (E1 r108.1) O (Yb (E2 r108.2.1) O (Yb (E2 r108.2.2.1) O (Yb (BL r108.2.2.2) O (G7 (hK107 (Jr fun hK109=>(Yb (BL r108.2.2.2) O (JLh (BL (!r108.2.2.2)) (Rv (b:=r108.2.2.2) O O) O (G7 (hK109 (JCc O h (fun h hb=>?_) (fun h hb=>?_))))))))))))))))))
     ·
      refine Jr fun hK110=>(Yb (BL false) O (G7 (hK110 (Gs (fin1 BL h)))))
     ·
      refine Gi (hK104 (G3 (JLh (G0 ((i101+1:Nat):Int)) (Hu (Hj hk101 hm101) O O O) O (Yb (G0 ((i101+1:Nat):Int)) O (G7 (e101 _ _ (i101+1) (r108.1,r108.2.1,r108.2.2.1) (app1 hn101 h) (by omega) ⟨(.sm O O),⟨⟨_,rfl,.same⟩,ø⟩,rfl⟩))))))
    ·
     have h:=app1 hkx101 (Ht hi101 (Ha hb))
     refine Hm (hK59 (Js fun hK111=>Jr fun hK112=>(Yb (E1 s101.1) O (JLh (.dptr [LS 1 (E1) r8.2.States,LS 1 (E2) r8.2.Water]) (Ga G28 O O O) O (JLh (LS 1 (E1) r8.2.States) (Gh Zy O O O) O (Yb (Eo i17) O ?_))))))
     obtain⟨m114,y113,hm114,hy113,h⟩:=Y0 h
     refine JLh (.dptr [E1 y113]) (H3 (f:=(E1)) (xs:=r8.2.States) (y:=y113) O O O Qd hy113 hm114) O (JLh (E1 y113) (Gh Rw O O O) O ?_)
     obtain⟨r115,hr115,h⟩:=Ge h
     refine JLh (BL r115) (Gv O (H09 s101.1 y113 r115 hr115) tf_call_8 ⟨O,O,O,O,ø⟩) O (JLh (BL (!r115)) (Rv (b:=r115) O O) O (Yb (BL (!r115)) O (JLo (E2 s101.2.1) [] O .scf ø (fun hc=>G6 O O) O (JLo (Eo s101.2.1.length) [130] O .scf ⟨Ua,ø⟩ (fun hc=>Yv (f:=G0) (xs:=s101.2.1) Gt O O) O (JLo (BL (decide ((s101.2.1.length:Int)≠0))) [131] O .scf ⟨Ua,ø⟩ (fun hc=>G71 O O O) O (JLh (BL ((!r115)||(decide ((s101.2.1.length:Int)≠0)))) (G0b O O O O) O (Yb (BL ((!r115)||(decide ((s101.2.1.length:Int)≠0)))) O (JLo (E2 s101.2.2) [] O .scf ø (fun hc=>G6 O O) O (JLo (Eo s101.2.2.length) [135] O .scf ⟨Ua,ø⟩ (fun hc=>Yv (f:=G0) (xs:=s101.2.2) Gt O O) O (JLo (OW 1004 1 G0 s49.2) [] O .scf ø (fun hc=>G6 O O) O (JLo (Eo s49.2.length) [137] O .scf ⟨Ua,ø⟩ (fun hc=>Yv (f:=G0) (xs:=s49.2) Gt O O) O (JLo (BL (decide ((s101.2.2.length:Int)≠(s49.2.length:Int)))) [136,138] O .scf ⟨Ua,Ua,ø⟩ (fun hc=>G71 O O O) O (JLh (BL (((!r115)||(decide ((s101.2.1.length:Int)≠0)))||(decide ((s101.2.2.length:Int)≠(s49.2.length:Int))))) (G0b O O O O) O (G7 (hK112 ?_)))))))))))))))
     refine JCc O h ?_ ?_<;>intro h hb
     ·
      refine Jr fun hK116=>(Yb (BL false) O (G7 (hK116 (Gs (fin1 BL h)))))
     ·
      refine Gi (hK111 (Jr fun hK117=>(Yb (OW 1004 1 G0 s49.2) O (JLl Gt O O O fun hm142=>(Yb (G0 0) O (G7 (hK117 (Gj ?_))))))))
      obtain⟨b118,kx118,hb118,hkx118,h⟩:=J2 h
      refine Hb (fun i118 (s118:Unit)=>each b118 kx118 (List.drop i118 s49.2) i118 s118=some r) (fun i118 s118=>[(9,Ef r3),(11,E3 r8.1),(12,.dptr [LS 1 (E1) r8.2.States,LS 1 (E2) r8.2.Water]),(15,E1 s101.1),(19,E2 s101.2.2),(68,LS 1 (E6) r10.1),(69,Eo r10.1.length),(70,Eo i17),(141,OW 1004 1 G0 s49.2),(142,Eo s49.2.length),(143,Eo i118)]) (fun i118 s118=>[(1004,.spare 3 1 s49.2.length s49.2.length)]) (fun i118=>s49.2.length - i118) 0 () h ⟨(.sm O O),⟨⟨_,rfl,.same⟩,ø⟩,rfl⟩ ?_
      clear h
      intro i118 s118 hi118 K118 e118
      refine Jr fun hK119=>(JLh (BL (decide ((i118:Int) < (s49.2.length:Int)))) (J0 O O O) O (G7 (hK119 (Js fun hK120=>Gf O (fun hb=>?_) (fun hb=>?_)))))
      ·
       have hk118:=Jk hb
       obtain⟨y118,nx118,hy118,hn118,h⟩:=Hs hi118 hk118
       replace h:=Y4 hb118 h
       refine Gi (hK120 (Js fun hK121=>Gj (Jr fun hK122=>(JLh (.dptr [G0 y118]) (H3 (f:=G0) (xs:=s49.2) (y:=y118) O O O Gt hy118 O) O (JLh (G0 y118) (Gh Gb O O O) O (Yb (G0 y118) O (G7 (hK122 (Jr fun hK123=>(Yb (BL false) O (G7 (hK123 (Js fun hK124=>Jr fun hK125=>(Yb (E2 s101.2.2) O (JLl Gt O O O fun hm148=>(Yb (G0 0) O (G7 (hK125 (Gj ?_)))))))))))))))))))
       obtain⟨b136,kx136,hb136,hkx136,h⟩:=J2 h
       refine Hb (fun i136 (s136:Bool)=>each b136 kx136 (List.drop i136 s101.2.2) i136 s136=some r) (fun i136 s136=>[(9,Ef r3),(11,E3 r8.1),(12,.dptr [LS 1 (E1) r8.2.States,LS 1 (E2) r8.2.Water]),(15,E1 s101.1),(19,E2 s101.2.2),(27,G0 y118),(28,BL s136),(68,LS 1 (E6) r10.1),(69,Eo r10.1.length),(70,Eo i17),(141,OW 1004 1 G0 s49.2),(142,Eo s49.2.length),(143,Eo i118),(147,E2 s101.2.2),(148,Eo s101.2.2.length),(149,Eo i136)]) (fun i136 s136=>[(1004,.spare 3 1 s49.2.length s49.2.length)]) (fun i136=>s101.2.2.length - i136) 0 false h ⟨(.sm O O),⟨⟨_,rfl,.same⟩,ø⟩,rfl⟩ ?_
       clear h
       intro i136 s136 hi136 K136 e136
       refine Jr fun hK137=>(JLh (BL (decide ((i136:Int) < (s101.2.2.length:Int)))) (J0 O O O) O (G7 (hK137 (Js fun hK138=>Gf O (fun hb=>?_) (fun hb=>?_)))))
       ·
        have hk136:=Jk hb
        obtain⟨y136,nx136,hy136,hn136,h⟩:=Hs hi136 hk136
        replace h:=Y4 hb136 h
        refine Gi (hK138 (Js fun hK139=>Gj (Jr fun hK140=>(JLh (.dptr [G0 y136]) (H3 (f:=G0) (xs:=s101.2.2) (y:=y136) O O O Gt hy136 O) O (JLh (G0 y136) (Gh Gb O O O) O (Yb (G0 y136) O (G7 (hK140 (G3 (Yb (BL s136) O (Yb (BL s136) O (JLo (G0 y136) [] O .scf ø (fun hc=>G6 O O) O (JLo (G0 y118) [] O .scf ø (fun hc=>G6 O O) O (JLo (BL (decide (y136=y118))) [155,156] O .scf ⟨Ua,Ua,ø⟩ (fun hc=>Jz O O O) O (JLh (BL (s136||(decide (y136=y118)))) (G0b O O O O) O (Yb (BL (s136||(decide (y136=y118)))) O (G7 (hK139 (G3 (JLh (G0 ((i136+1:Nat):Int)) (Hu (Hj hk136 hm148) O O O) O (Yb (G0 ((i136+1:Nat):Int)) O (G7 ?_))))))))))))))))))))))
        exact e136 _ _ (i136+1) (s136||(decide (y136=y118))) (app1 hn136 h) (by omega) ⟨(.sm O O),⟨⟨_,rfl,.same⟩,ø⟩,rfl⟩
       ·
        have h:=app1 hkx136 (Ht hi136 (Ha hb))
        refine Hm (hK124 (Jr fun hK141=>(Yb (BL s136) O (JLh (BL (!s136)) (Rv (b:=s136) O O) O (G7 (hK141 (JCc O h (fun h hb=>?_) (fun h hb=>?_))))))))
        ·
         refine Jr fun hK142=>(Yb (BL false) O (G7 (hK142 (Gs (fin1 BL h)))))
        ·
         refine Gi (hK121 (G3 (JLh (G0 ((i118+1:Nat):Int)) (Hu (Hj hk118 hm142) O O O) O (Yb (G0 ((i118+1:Nat):Int)) O (G7 (e118 _ _ (i118+1) () (app1 hn118 h) (by omega) ⟨(.sm O O),⟨⟨_,rfl,.same⟩,ø⟩,rfl⟩))))))
      ·
       have h:=app1 hkx118 (Ht hi118 (Ha hb))
       refine Hm (hK20 (G3 (JLh (G0 ((i17+1:Nat):Int)) (Hu (Hj hk17 hm69) O O O) O (Yb (G0 ((i17+1:Nat):Int)) O (G7 (e17 _ _ (i17+1) s101.1 (app1 hn17 h) (by omega) ⟨(.sm O O),ø,rfl⟩))))))
  ·
   have h:=app1 hkx17 (Ht hi17 (Ha hb))
   refine Hm (hK15 (Jr fun hK143=>(Yb (E1 s17) O (JLl Gy O O O fun hm165=>(JLh (BL (decide ((s17.length:Int)=0))) (Jz O O O) O (Yb (BL (decide ((s17.length:Int)=0))) O ?_))))))
   obtain⟨r144,hr144,h⟩:=Ge h
   refine JLo (BL r144) [] O .sct ø (fun hc=>Gv (args:=[]) O (H70 F r144 (Gx hc hr144)) tf_call_9 ø) O (JLh (BL ((decide ((s17.length:Int)=0))&&r144)) (Qr O O O O) O (Yb (BL ((decide ((s17.length:Int)=0))&&r144)) O (G7 (hK143 (Gs (fin1 BL h))))))
end
end Go.Proofs.YtknalejjpofoaaaGreat
