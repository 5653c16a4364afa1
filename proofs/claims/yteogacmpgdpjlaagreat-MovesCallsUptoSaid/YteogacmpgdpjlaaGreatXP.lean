/-
 Models of functions of the program,and that they return what the models say.
-/
import Derived.Test.YteogacmpgdpjlaaGreatXPb
set_option maxRecDepth 100000
namespace Go.Proofs.YteogacmpgdpjlaaGreat
open Go.RowKit
noncomputable section
open XAF
open XLF
open XSF
open XMF
open XPF

def Za (F:Nat) (s:H8) (boxes:List H2) (before:List G6) (after:List G6):Option ((List Move)×Int):=
 bnd (Zv F s boxes before after) fun r3=>
 bif decide (r3.2≠0) then
 (some ([],r3.2))
 else
 (need (decide (40≤9223372036854775807)) <|
  upto (fun i31 (s31:(List Move)) nx31=>
   bnd (Jz F s before r3.1 (i31:Int) true 2) fun r36=>
   need (decide ((s31.length+r36.length)*48≤140737488355328∧s31.length+r36.length≤maxLen)) <|
   bnd (Qh s before after r3.1 (i31:Int) 1) fun r39=>
   need (decide (((s31++r36).length+r39.length)*48≤140737488355328∧(s31++r36).length+r39.length≤maxLen)) <|
   bnd (Jz F s before r3.1 (i31:Int) false 2) fun r41=>
   need (decide ((((s31++r36)++r39).length+r41.length)*48≤140737488355328∧((s31++r36)++r39).length+r41.length≤maxLen)) <|
   nx31 (((s31++r36)++r39)++r41))
  (fun(s31:(List Move))=>
   need (decide (40≤9223372036854775807)) <|
   upto (fun i66 (s66:(List Move)) nx66=>
    bnd (Jz F s after r3.1 (i66:Int) false 3) fun r71=>
    need (decide ((s66.length+r71.length)*48≤140737488355328∧s66.length+r71.length≤maxLen)) <|
    bnd (Qh s before after r3.1 (i66:Int) 4) fun r74=>
    need (decide (((s66++r71).length+r74.length)*48≤140737488355328∧(s66++r71).length+r74.length≤maxLen)) <|
    bnd (Jz F s after r3.1 (i66:Int) true 3) fun r76=>
    need (decide ((((s66++r71)++r74).length+r76.length)*48≤140737488355328∧((s66++r71)++r74).length+r76.length≤maxLen)) <|
    nx66 (((s66++r71)++r74)++r76))
   (fun(s66:(List Move))=>
    some (s66,0)) (40:Int).toNat 0 s31) (40:Int).toNat 0 [])
theorem Hba (F:Nat) (s:H8) (boxes:List H2) (before:List G6) (after:List G6) (r:(List Move)×Int) (h:Za F s boxes before after=some r):Pure En 10 [.agg (H8.cs s),E3 boxes,E0 before,E0 after] (·=.tup [E2 r.1,G0 r.2]):=by
 unfold Za at h
 refine H0 [.tmp 8,.tmp 9] Tryz.func10 O O (Jr fun hK1=>(JLh (.ptr 1014 0) (Jq (cs:=(H8.cs s)) 1014 O O O O O) O (JLh (E2 ([]:List Move)) (Q2 6 O O) O (JLm (G0 0) O (G8 (hK1 ?_))))))
 refine Gx [(1,E3 boxes),(2,E0 before),(3,E0 after),(4,Ed s)] [] 1014 rfl rfl rfl G rfl (by repeat' (first | exact .ptr | constructor)) (Jr fun hK2=>(JLh (.agg (H8.cs s)) (Gi J1 O O O) O (JLm (E3 boxes) O (JLm (E0 before) O (JLm (E0 after) O ?_)))))
 obtain⟨r3,hr3,h⟩:=Gf h
 refine JLh (.tup [E1 r3.1,G0 r3.2]) (Gq O (H7d F s boxes before after r3 hr3) Qf0 ⟨O,O,O,O,O,O,O,O,G⟩) O (JLm (.tup [E1 r3.1,G0 r3.2]) O (JLh (E1 r3.1) (Jn O O O) O (JLh (G0 r3.2) (Jn O O O) O (JLm (E1 r3.1) O (JLm (G0 r3.2) O (G8 (hK2 (Js fun hK4=>Jr fun hK5=>(JLm (G0 r3.2) O (JLh (BL (decide (r3.2≠0))) (G56 O O O) O (G8 (hK5 (JCc O h (fun h hb=>?_) (fun h hb=>?_))))))))))))))
 ·
  refine Jr fun hK6=>(JLm (G0 r3.2) O (JLh (E2 ([]:List Move)) (Q2 6 O O) O (JLm (G0 r3.2) O (G8 (hK6 (Gt (⟨[E2 ([]:List Move),G0 r3.2],[],G,O,⟨⟨_,O,.conv (.same O)⟩,⟨_,O,.conv (.same O)⟩,G⟩,O,congrArg (fun r:(List Move)×Int=>(.tup [E2 r.1,G0 r.2]:AV)) (Option.some.inj h)⟩)))))))
 ·
  refine Gm (hK4 (Jr fun hK7=>(JLh (OW 1015 6 Move.av ([]:List Move)) (H02 1015 69 6 O O O) O (G8 (hK7 (Js fun hK8=>Jr fun hK9=>(JLm (G0 0) O (G8 (hK9 (Gk ?_))))))))))
  obtain⟨hx31,h⟩:=Hz h
  obtain⟨b31,kx31,hb31,hkx31,h⟩:=G44 h
  refine H6 (fun i31 (s31:(List Move))=>upto b31 kx31 ((40:Int).toNat - i31) i31 s31=some r) (fun i31 s31=>[(2,E0 before),(3,E0 after),(4,Ed s),(10,E1 r3.1),(12,OW 1015 6 Move.av s31),(13,Em i31)]) (fun i31 s31=>[(1015,.spare 69 6 s31.length s31.length)]) (fun i31=>(40:Int).toNat - i31) 0 [] h ⟨(by repeat' constructor),⟨⟨_,rfl,.same⟩,G⟩,rfl⟩ ?_
  clear h
  intro i31 s31 hi31 K31 e31
  refine Js fun hK32=>Jr fun hK33=>(JLm (Em i31) O (JLh (BL (decide ((i31:Int) < 40))) (Hy O O O) O (G8 (hK33 (Gj O (fun hb=>?_) (fun hb=>?_))))))
  ·
   have hk31:=G0b hb
   obtain⟨nx31,hn31,h⟩:=G07 hi31 hk31
   replace h:=H9f hb31 h
   refine Gm (hK32 (Js fun hK34=>Gk (Jr fun hK35=>(JLm (OW 1015 6 Move.av s31) O (JLh (.agg (H8.cs s)) (Gi J1 O O O) O (JLm (E0 before) O (JLm (E1 r3.1) O (JLm (Em i31) O ?_))))))))
   obtain⟨r36,hr36,h⟩:=Gf h
   refine JLh (E2 r36) (Gq O (G2b F s before r3.1 (i31:Int) true 2 r36 hr36) Hd4 ⟨O,O,O,O,O,O,O,O,O,O,O,O,G⟩) O ?_
   obtain⟨ha37,h⟩:=Hz h
   refine JLh (OW 1015 6 Move.av (s31++r36)) (G5c (f:=Move.av) (xs:=s31) (ys:=r36) O O O O Hr G22 ha37 (fun _=>O) (.inl O)) O (JLm (OW 1015 6 Move.av (s31++r36)) O (G8 (hK35 (Jr fun hK38=>(JLm (OW 1015 6 Move.av (s31++r36)) O (JLh (.agg (H8.cs s)) (Gi J1 O O O) O (JLm (E0 before) O (JLm (E0 after) O (JLm (E1 r3.1) O (JLm (Em i31) O ?_))))))))))
   obtain⟨r39,hr39,h⟩:=Gf h
   refine JLh (E2 r39) (Gq O (Gba s before after r3.1 (i31:Int) 1 r39 hr39) Q24 ⟨O,O,O,O,O,O,O,O,O,O,O,O,G⟩) O ?_
   obtain⟨ha40,h⟩:=Hz h
   refine JLh (OW 1015 6 Move.av ((s31++r36)++r39)) (G5c (f:=Move.av) (xs:=(s31++r36)) (ys:=r39) O O O O Hr G22 ha40 (fun _=>O) (.inl O)) O (JLm (OW 1015 6 Move.av ((s31++r36)++r39)) O (G8 (hK38 (G2 (JLm (OW 1015 6 Move.av ((s31++r36)++r39)) O (JLh (.agg (H8.cs s)) (Gi J1 O O O) O (JLm (E0 before) O (JLm (E1 r3.1) O (JLm (Em i31) O ?_)))))))))
   obtain⟨r41,hr41,h⟩:=Gf h
   refine JLh (E2 r41) (Gq O (G2b F s before r3.1 (i31:Int) false 2 r41 hr41) Hd4 ⟨O,O,O,O,O,O,O,O,O,O,O,O,G⟩) O ?_
   obtain⟨ha42,h⟩:=Hz h
   refine JLh (OW 1015 6 Move.av (((s31++r36)++r39)++r41)) (G5c (f:=Move.av) (xs:=((s31++r36)++r39)) (ys:=r41) O O O O Hr G22 ha42 (fun _=>O) (.inl O)) O (JLm (OW 1015 6 Move.av (((s31++r36)++r39)++r41)) O (G8 (hK34 (G2 (JLm (Em i31) O (JLh (G0 ((i31+1:Nat):Int)) (Hx (Hc hk31 (Yt hx31)) O O O) O (JLm (G0 ((i31+1:Nat):Int)) O (G8 (e31 _ _ (i31+1) (((s31++r36)++r39)++r41) (app1 hn31 h) (by omega) ⟨(by repeat' constructor),⟨⟨_,rfl,.same⟩,G⟩,rfl⟩)))))))))
  ·
   have h:=app1 hkx31 (G08 hi31 (Qr hb))
   refine Hd (hK8 (Js fun hK43=>Jr fun hK44=>(JLm (G0 0) O (G8 (hK44 (Gk ?_))))))
   obtain⟨hx66,h⟩:=Hz h
   obtain⟨b66,kx66,hb66,hkx66,h⟩:=G44 h
   refine H6 (fun i66 (s66:(List Move))=>upto b66 kx66 ((40:Int).toNat - i66) i66 s66=some r) (fun i66 s66=>[(2,E0 before),(3,E0 after),(4,Ed s),(10,E1 r3.1),(12,OW 1015 6 Move.av s66),(14,Em i66)]) (fun i66 s66=>[(1015,.spare 69 6 s66.length s66.length)]) (fun i66=>(40:Int).toNat - i66) 0 s31 h ⟨(by repeat' constructor),⟨⟨_,rfl,.same⟩,G⟩,rfl⟩ ?_
   clear h
   intro i66 s66 hi66 K66 e66
   refine Js fun hK67=>Jr fun hK68=>(JLm (Em i66) O (JLh (BL (decide ((i66:Int) < 40))) (Hy O O O) O (G8 (hK68 (Gj O (fun hb=>?_) (fun hb=>?_))))))
   ·
    have hk66:=G0b hb
    obtain⟨nx66,hn66,h⟩:=G07 hi66 hk66
    replace h:=H9f hb66 h
    refine Gm (hK67 (Js fun hK69=>Gk (Jr fun hK70=>(JLm (OW 1015 6 Move.av s66) O (JLh (.agg (H8.cs s)) (Gi J1 O O O) O (JLm (E0 after) O (JLm (E1 r3.1) O (JLm (Em i66) O ?_))))))))
    obtain⟨r71,hr71,h⟩:=Gf h
    refine JLh (E2 r71) (Gq O (G2b F s after r3.1 (i66:Int) false 3 r71 hr71) Hd4 ⟨O,O,O,O,O,O,O,O,O,O,O,O,G⟩) O ?_
    obtain⟨ha72,h⟩:=Hz h
    refine JLh (OW 1015 6 Move.av (s66++r71)) (G5c (f:=Move.av) (xs:=s66) (ys:=r71) O O O O Hr G22 ha72 (fun _=>O) (.inl O)) O (JLm (OW 1015 6 Move.av (s66++r71)) O (G8 (hK70 (Jr fun hK73=>(JLm (OW 1015 6 Move.av (s66++r71)) O (JLh (.agg (H8.cs s)) (Gi J1 O O O) O (JLm (E0 before) O (JLm (E0 after) O (JLm (E1 r3.1) O (JLm (Em i66) O ?_))))))))))
    obtain⟨r74,hr74,h⟩:=Gf h
    refine JLh (E2 r74) (Gq O (Gba s before after r3.1 (i66:Int) 4 r74 hr74) Q24 ⟨O,O,O,O,O,O,O,O,O,O,O,O,G⟩) O ?_
    obtain⟨ha75,h⟩:=Hz h
    refine JLh (OW 1015 6 Move.av ((s66++r71)++r74)) (G5c (f:=Move.av) (xs:=(s66++r71)) (ys:=r74) O O O O Hr G22 ha75 (fun _=>O) (.inl O)) O (JLm (OW 1015 6 Move.av ((s66++r71)++r74)) O (G8 (hK73 (G2 (JLm (OW 1015 6 Move.av ((s66++r71)++r74)) O (JLh (.agg (H8.cs s)) (Gi J1 O O O) O (JLm (E0 after) O (JLm (E1 r3.1) O (JLm (Em i66) O ?_)))))))))
    obtain⟨r76,hr76,h⟩:=Gf h
    refine JLh (E2 r76) (Gq O (G2b F s after r3.1 (i66:Int) true 3 r76 hr76) Hd4 ⟨O,O,O,O,O,O,O,O,O,O,O,O,G⟩) O ?_
    obtain⟨ha77,h⟩:=Hz h
    refine JLh (OW 1015 6 Move.av (((s66++r71)++r74)++r76)) (G5c (f:=Move.av) (xs:=((s66++r71)++r74)) (ys:=r76) O O O O Hr G22 ha77 (fun _=>O) (.inl O)) O (JLm (OW 1015 6 Move.av (((s66++r71)++r74)++r76)) O (G8 (hK69 (G2 (JLm (Em i66) O (JLh (G0 ((i66+1:Nat):Int)) (Hx (Hc hk66 (Yt hx66)) O O O) O (JLm (G0 ((i66+1:Nat):Int)) O (G8 (e66 _ _ (i66+1) (((s66++r71)++r74)++r76) (app1 hn66 h) (by omega) ⟨(by repeat' constructor),⟨⟨_,rfl,.same⟩,G⟩,rfl⟩)))))))))
   ·
    have h:=app1 hkx66 (G08 hi66 (Qr hb))
    refine Hd (hK43 (Jr fun hK78=>(JLm (OW 1015 6 Move.av s66) O (JLm (OW 1015 6 Move.av s66) O (JLm (G0 0) O (G8 (hK78 (Gt (⟨[E2 s66,G0 0],[],G,O,⟨⟨_,O,.conv (.list O)⟩,⟨_,O,.conv (.same O)⟩,G⟩,O,congrArg (fun r:(List Move)×Int=>(.tup [E2 r.1,G0 r.2]:AV)) (Option.some.inj h)⟩)))))))))

def G0d (s:H8) (m:Move):Option Bool:=
 bif ((decide (m.Kind=1))||(decide (m.Kind=4))) then
 (some ((decide (0≤m.Ge))&&(decide (m.Ge < (s.Covers.length:Int)))))
 else
 (some ((((decide (m.Kind=2))||(decide (m.Kind=3)))&&(decide (0≤m.Slot.G4)))&&(decide (m.Slot.G4 < (s.Columns.length:Int)))))
theorem Ha2 (s:H8) (m:Move) (r:Bool) (h:G0d s m=some r):Pure En 69 [.agg (H8.cs s),.agg (Move.cs m)] (·=BL r):=by
 unfold G0d at h
 refine H0 [.tmp 4] Tryz.func69 O O (Jr fun hK1=>(JLh (.ptr 1110 0) (Jq (cs:=(H8.cs s)) 1110 O O O O O) O (JLh (.ptr 1111 0) (Jq (cs:=[U8 m.Kind,G0 m.H2,G0 m.Slot.G4,G0 m.Slot.Tier,U8 m.Slot.Half,G0 m.Ge]) 1111 O O O O O) O (JLm (BL false) O (G8 (hK1 ?_))))))
 refine Gx [(2,Ed s),(3,.ptr 1111 0)] [(1111,.box 69 [U8 m.Kind,G0 m.H2,G0 m.Slot.G4,G0 m.Slot.Tier,U8 m.Slot.Half,G0 m.Ge])] 1110 rfl rfl rfl ⟨⟨_,rfl,.boxEq rfl rfl⟩,G⟩ rfl (by exact⟨.ptr,.conv (.same rfl),G⟩) ?_
 refine Gx [(2,Ed s),(3,Eg m)] [] 1111 rfl rfl rfl G rfl (by exact⟨.conv (.same rfl),.ptr,G⟩) (Js fun hK2=>?_)
 refine Jr fun hK3=>(JLh (Eg m) (Ga Ro O O O) O (JLh (U8 m.Kind) (Gh J5 O O O) O (JLh (BL (decide (m.Kind=1))) (Jk O O O) O (JLm (BL (decide (m.Kind=1))) O (JLo (Eg m) [] O .scf G (fun hc=>Ga Ro O O O) O (JLo (U8 m.Kind) [9] O .scf ⟨Ua,G⟩ (fun hc=>Gh J5 O O O) O (JLo (BL (decide (m.Kind=4))) [10] O .scf ⟨Ua,G⟩ (fun hc=>Jk O O O) O (JLh (BL ((decide (m.Kind=1))||(decide (m.Kind=4)))) (Y7 O O O O) O (G8 (hK3 (JCc O h (fun h hb=>?_) (fun h hb=>?_))))))))))))
 ·
  refine Jr fun hK4=>(JLh (.dptr [G0 m.Ge]) (Ga G90 O O O) O (JLh (G0 m.Ge) (Gh Gc O O O) O (JLh (BL (decide (0≤m.Ge))) (G06 O O O) O (JLm (BL (decide (0≤m.Ge))) O (JLo (.dptr [G0 m.Ge]) [] O .sct G (fun hc=>Ga G90 O O O) O (JLo (G0 m.Ge) [17] O .sct ⟨Ua,G⟩ (fun hc=>Gh Gc O O O) O (JLo (.dptr [E4 s.Covers,G0 s.Light.Kilos,G0 s.Light.X,G0 s.Light.Y,G0 s.Light.Z,E7 s.Rows,E6 s.Frames,E8 s.Tanks,G0 s.G3.Tolerance,G0 s.G3.Trim,G0 s.G3.List_,G0 s.G3.Stability]) [] O .sct G (fun hc=>Ga Jp O O O) O (JLo (E4 s.Covers) [19] O .sct ⟨Ua,G⟩ (fun hc=>Gh Q4 O O O) O (JLo (Em s.Covers.length) [20] O .sct ⟨Ua,G⟩ (fun hc=>Qx (f:=Ge.av) (xs:=s.Covers) Hu O O) O (JLo (BL (decide (m.Ge < (s.Covers.length:Int)))) [18,21] O .sct ⟨Ua,Ua,G⟩ (fun hc=>Hy O O O) O (JLh (BL ((decide (0≤m.Ge))&&(decide (m.Ge < (s.Covers.length:Int))))) (J3 O O O O) O (JLm (BL ((decide (0≤m.Ge))&&(decide (m.Ge < (s.Covers.length:Int))))) O (G8 (hK4 ?_))))))))))))))
  refine Gt (fin1 BL h)
 ·
  refine Gm (hK2 ?_)
  refine Jr fun hK5=>(JLh (Eg m) (Ga Ro O O O) O (JLh (U8 m.Kind) (Gh J5 O O O) O (JLh (BL (decide (m.Kind=2))) (Jk O O O) O (JLm (BL (decide (m.Kind=2))) O (JLo (Eg m) [] O .scf G (fun hc=>Ga Ro O O O) O (JLo (U8 m.Kind) [28] O .scf ⟨Ua,G⟩ (fun hc=>Gh J5 O O O) O (JLo (BL (decide (m.Kind=3))) [29] O .scf ⟨Ua,G⟩ (fun hc=>Jk O O O) O (JLh (BL ((decide (m.Kind=2))||(decide (m.Kind=3)))) (Y7 O O O O) O (JLm (BL ((decide (m.Kind=2))||(decide (m.Kind=3)))) O (JLo (.dptr ((Move.cs m).drop 2)) [] O .sct G (fun hc=>Ga G91 O O O) O (JLo (.dptr ((Move.cs m).drop 2)) [33] O .sct ⟨Ua,G⟩ (fun hc=>Ga Hk O O O) O (JLo (G0 m.Slot.G4) [34] O .sct ⟨Ua,G⟩ (fun hc=>Gh Gc O O O) O (JLo (BL (decide (0≤m.Slot.G4))) [35] O .sct ⟨Ua,G⟩ (fun hc=>G06 O O O) O ?_)))))))))))))
  refine JLh (BL (((decide (m.Kind=2))||(decide (m.Kind=3)))&&(decide (0≤m.Slot.G4)))) (J3 O O O O) O (JLm (BL (((decide (m.Kind=2))||(decide (m.Kind=3)))&&(decide (0≤m.Slot.G4)))) O (JLo (.dptr ((Move.cs m).drop 2)) [] O .sct G (fun hc=>Ga G91 O O O) O (JLo (.dptr ((Move.cs m).drop 2)) [39] O .sct ⟨Ua,G⟩ (fun hc=>Ga Hk O O O) O (JLo (G0 m.Slot.G4) [40] O .sct ⟨Ua,G⟩ (fun hc=>Gh Gc O O O) O (JLo (Ed s) [] O .sct G (fun hc=>Ga Hi O O O) O (JLo (E5 s.Columns) [42] O .sct ⟨Ua,G⟩ (fun hc=>Gh Ho O O O) O (JLo (Em s.Columns.length) [43] O .sct ⟨Ua,G⟩ (fun hc=>Qx (f:=G4.av) (xs:=s.Columns) H7 O O) O (JLo (BL (decide (m.Slot.G4 < (s.Columns.length:Int)))) [41,44] O .sct ⟨Ua,Ua,G⟩ (fun hc=>Hy O O O) O (JLh (BL ((((decide (m.Kind=2))||(decide (m.Kind=3)))&&(decide (0≤m.Slot.G4)))&&(decide (m.Slot.G4 < (s.Columns.length:Int))))) (J3 O O O O) O (JLm (BL ((((decide (m.Kind=2))||(decide (m.Kind=3)))&&(decide (0≤m.Slot.G4)))&&(decide (m.Slot.G4 < (s.Columns.length:Int))))) O (G8 (hK5 ?_))))))))))))
  refine Gt (fin1 BL h)

def Y3 (F:Nat) (s:H8) (l:List Move):Option ((List Hh)×Int):=
 bnd (Y4 F s) fun r4=>
 bif (!r4) then
 (some ([],2))
 else
 (each (fun y23 i23 (s23:Unit) nx23=>
   bnd (G0d s y23) fun r28=>
   bif (!r28) then
   (some ([],2))
   else
   (nx23 ()))
  (fun(s23:Unit)=>
   loop (fun nx33 (s33:(List Hh)×Int)=>
    bif decide (s33.2≤2) then
    (need (decide (40≤9223372036854775807)) <|
     upto (fun i38 (s38:(List Hh)) nx38=>
      jp (fun kj41=>
       each (fun y131 i131 (s131:Int×Int×Int×Int) nx131=>
        jp (fun kj134=>
         bif (!((decide (y131.Kind≤2))==(decide (s33.2=1)))) then
         (kj134 (s131.2.2.1,s131.2.2.2))
         else
         (jp (fun kj138=>
           bnd (bif ((decide (y131.Kind=1))||(decide (y131.Kind=4))) then Jc s.Covers y131.Ge some else some default) fun y140=>
           bif (((decide (y131.Kind=1))||(decide (y131.Kind=4)))&&(decide (y140.Bay=(i38:Int)))) then
           (Yn (s131.2.2.2+1) fun v141=>
            kj138 v141)
           else
           (kj138 s131.2.2.2)) fun(j138:Int)=>
          bnd (bif ((decide (y131.Kind=2))||(decide (y131.Kind=3))) then Jc s.Columns y131.Slot.G4 some else some default) fun y143=>
          bif (((decide (y131.Kind=2))||(decide (y131.Kind=3)))&&(decide (y143.Bay=(i38:Int)))) then
          (Yn (s131.2.2.1+1) fun v144=>
           kj134 (v144,j138))
          else
          (kj134 (s131.2.2.1,j138)))) fun(j134:Int×Int)=>
        nx131 (s131.1,s131.2.1,j134.1,j134.2))
       (fun(s131:Int×Int×Int×Int)=>
        Yn (s131.2.2.1+s131.2.2.2) fun v146=>
        bif decide (0 < v146) then
        (need (decide ((s38.length+[(Hh.mk s131.1 s131.2.1 s131.2.2.1 s131.2.2.2)].length)*32≤140737488355328∧s38.length+[(Hh.mk s131.1 s131.2.1 s131.2.2.1 s131.2.2.2)].length≤maxLen)) <|
         kj41 (s38++[(Hh.mk s131.1 s131.2.1 s131.2.2.1 s131.2.2.2)]))
        else
        (kj41 s38)) l 0 ((i38:Int),s33.2,0,0)) fun(j41:(List Hh))=>
      nx38 j41)
     (fun(s38:(List Hh))=>
      Yn (s33.2+1) fun v148=>
      nx33 (s38,v148)) (40:Int).toNat 0 s33.1)
    else
    (some (s33.1,0))) F ([],1)) l 0 ())
theorem Ha3 (F:Nat) (s:H8) (l:List Move) (r:(List Hh)×Int) (h:Y3 F s l=some r):Pure En 33 [.agg (H8.cs s),E2 l] (·=.tup [Ea r.1,G0 r.2]):=by
 unfold Y3 at h
 refine H0 [.tmp 4,.tmp 5] Tryz.func33 O O (Jr fun hK1=>(JLh (.ptr 1053 0) (Jq (cs:=(H8.cs s)) 1053 O O O O O) O (JLh (Ea ([]:List Hh)) (Q2 4 O O) O (JLm (G0 0) O (G8 (hK1 (Gx [(1,E2 l),(2,Ed s)] [] 1053 rfl rfl rfl G rfl (by exact⟨.conv (.same rfl),.ptr,G⟩) (Js fun hK2=>?_))))))))
 refine Jr fun hK3=>(JLh (.agg (H8.cs s)) (Gi J1 O O O) O ?_)
 obtain⟨r4,hr4,h⟩:=Gf h
 refine JLh (BL r4) (Gq O (Gca F s r4 hr4) Q14 ⟨O,O,G⟩) O (JLh (BL (!r4)) (R9 (b:=r4) O O) O (G8 (hK3 (JCc O h (fun h hb=>?_) (fun h hb=>?_)))))
 ·
  refine Jr fun hK5=>(JLh (Ea ([]:List Hh)) (Q2 4 O O) O (JLm (G0 2) O (G8 (hK5 (Gt (⟨[Ea ([]:List Hh),G0 2],[],G,O,⟨⟨_,O,.conv (.same O)⟩,⟨_,O,.conv (.same O)⟩,G⟩,O,congrArg (fun r:(List Hh)×Int=>(.tup [Ea r.1,G0 r.2]:AV)) (Option.some.inj h)⟩))))))
 ·
  refine Gm (hK2 (Js fun hK6=>Jr fun hK7=>(JLm (G0 0) O (G8 (hK7 (Gk ?_))))))
  obtain⟨b23,kx23,hb23,hkx23,h⟩:=J4 h
  refine H6 (fun i23 (s23:Unit)=>each b23 kx23 (List.drop i23 l) i23 s23=some r) (fun i23 s23=>[(1,E2 l),(2,Ed s),(6,Em i23)]) (fun i23 s23=>[]) (fun i23=>l.length - i23) 0 () h ⟨⟨.same O,.same O,.same O,G⟩,G,O⟩ ?_
  clear h
  intro i23 s23 hi23 K23 e23
  refine Js fun hK24=>Jr fun hK25=>(JLm (Em i23) O (JLm (E2 l) O (JLl Hr O O O fun hm18=>(JLh (BL (decide ((i23:Int) < (l.length:Int)))) (Hy O O O) O (G8 (hK25 (Gj O (fun hb=>?_) (fun hb=>?_))))))))
  ·
   have hk23:=Je hb
   obtain⟨y23,nx23,hy23,hn23,h⟩:=Hs hi23 hk23
   replace h:=Y8 hb23 h
   refine Gm (hK24 (Js fun hK26=>Gk (Js fun hK27=>?_)))
   obtain⟨r28,hr28,h⟩:=Gf h
   refine JC_d0 Jb (by kernel_rfl) (Dq (.agg (H8.cs s)) (Gi J1 O O O) O (Dq (E2 l) (G5 O O) O (Dq (Em i23) (G5 O O) O (Dq (Eg y23) (Gs (f:=Move.av) (xs:=l) (y:=y23) O O O Hr hy23 O) O (Dq (.agg (Move.cs y23)) (Gi Gb1 O O O) O (Dq (BL r28) (Gq (args:=[.agg (H8.cs s),.agg (Move.cs y23)]) O (Ha2 s y23 r28 hr28) Qe0 ⟨O,O,O,O,G⟩) O (Dq (BL (!r28)) (R9 (b:=r28) O O) O (Dnil ?_))))))))
   refine hK27 (JCc O h (fun h hb=>?_) (fun h hb=>?_))
   ·
    refine Jr fun hK29=>(JLh (Ea ([]:List Hh)) (Q2 4 O O) O (JLm (G0 2) O (G8 (hK29 (Gt (⟨[Ea ([]:List Hh),G0 2],[],G,O,⟨⟨_,O,.conv (.same O)⟩,⟨_,O,.conv (.same O)⟩,G⟩,O,congrArg (fun r:(List Hh)×Int=>(.tup [Ea r.1,G0 r.2]:AV)) (Option.some.inj h)⟩))))))
   ·
    refine Gm (hK26 (G2 (JLm (Em i23) O (JLh (G0 ((i23+1:Nat):Int)) (Hx (Hc hk23 hm18) O O O) O (JLm (G0 ((i23+1:Nat):Int)) O (G8 (e23 _ _ (i23+1) () (app1 hn23 h) (by omega) ⟨⟨.same rfl,.same rfl,.same rfl,G⟩,G,rfl⟩)))))))
  ·
   have h:=app1 hkx23 (Ht hi23 (H9 hb))
   refine Hd (hK6 (Jr fun hK30=>(JLh (OW 1054 4 Hh.av ([]:List Hh)) (H02 1054 72 4 O O O) O (G8 (hK30 (Js fun hK31=>Jr fun hK32=>(JLm (G0 1) O (G8 (hK32 (Gk ?_))))))))))
   obtain⟨b33,hb33,h⟩:=Gd6 h
   refine H6 (fun i33 (s33:(List Hh)×Int)=>loop b33 i33 s33=some r) (fun i33 s33=>[(1,E2 l),(2,Ed s),(7,OW 1054 4 Hh.av s33.1),(8,G0 s33.2)]) (fun i33 s33=>[(1054,.spare 72 4 s33.1.length s33.1.length)]) (fun i33=>i33) F ([],1) h ⟨(by repeat' constructor),⟨⟨_,rfl,.same⟩,G⟩,rfl⟩ ?_
   clear h
   intro i33 s33 hi33 K33 e33
   obtain⟨m33,nx33,hm_33,hn33,h⟩:=G85 hi33
   replace h:=Jed hb33 h
   refine Js fun hK34=>Jr fun hK35=>(JLm (G0 s33.2) O (JLh (BL (decide (s33.2≤2))) (H97 O O O) O (G8 (hK35 (JCc O h (fun h hb=>?_) (fun h hb=>?_))))))
   ·
    refine Gm (hK34 (Js fun hK36=>Gk (Jr fun hK37=>(JLm (G0 0) O (G8 (hK37 (Gk ?_)))))))
    obtain⟨hx38,h⟩:=Hz h
    obtain⟨b38,kx38,hb38,hkx38,h⟩:=G44 h
    refine H6 (fun i38 (s38:(List Hh))=>upto b38 kx38 ((40:Int).toNat - i38) i38 s38=some r) (fun i38 s38=>[(1,E2 l),(2,Ed s),(7,OW 1054 4 Hh.av s38),(8,G0 s33.2),(9,Em i38)]) (fun i38 s38=>[(1054,.spare 72 4 s38.length s38.length)]) (fun i38=>(40:Int).toNat - i38) 0 s33.1 h ⟨(by repeat' constructor),⟨⟨_,rfl,.same⟩,G⟩,rfl⟩ ?_
    clear h
    intro i38 s38 hi38 K38 e38
    refine Js fun hK39=>Jr fun hK40=>(JLm (Em i38) O (JLh (BL (decide ((i38:Int) < 40))) (Hy O O O) O (G8 (hK40 (Gj O (fun hb=>?_) (fun hb=>?_))))))
    ·
     have hk38:=G0b hb
     obtain⟨nx38,hn38,h⟩:=G07 hi38 hk38
     replace h:=H9f hb38 h
     refine Gm (hK39 ?_)
     obtain⟨kj41,hkj41,h⟩:=Zf h
     refine Rt (fun j41:(List Hh)=>kj41 j41=some r) (fun j41=>[(1,E2 l),(2,Ed s),(7,OW 1054 4 Hh.av j41),(8,G0 s33.2),(9,Em i38)]) (fun j41=>[(1054,.spare 72 4 j41.length j41.length)]) (fun Kj41 ej41=>?_) ?_
     ·
      refine Gk (Jr fun hK42=>(JLm (Em i38) O (JLm (G0 s33.2) O (JLh (.agg [Em i38,G0 s33.2,G0 0,G0 0]) (Ji (cs:=[Em i38,G0 s33.2,G0 0,G0 0]) [(0,1),(1,1),(2,1),(3,1)] [G0 0,G0 0,G0 0,G0 0] [.int .i64 0,.int .i64 0,.int .i64 0,.int .i64 0] H40 Hca ⟨.inl O,.inl O,.inl O,.inl O,G⟩ O O) O (JLh (.ptr 1055 0) (Ju 1055 4 H22 O O) O (Ja (u:=.junk) (J0 (u:=.agg [Em i38,G0 s33.2,G0 0,G0 0]) (ds:=[Em i38,G0 s33.2,G0 0,G0 0]) J50 O O O O O O O O) (G8 (hK42 (Js fun hK43=>Jr fun hK44=>(JLm (G0 0) O (G8 (hK44 (Gk ?_)))))))))))))
      obtain⟨b131,kx131,hb131,hkx131,h⟩:=J4 h
      refine H6 (fun i131 (s131:Int×Int×Int×Int)=>each b131 kx131 (List.drop i131 l) i131 s131=some r) (fun i131 s131=>[(1,E2 l),(2,Ed s),(7,OW 1054 4 Hh.av s38),(8,G0 s33.2),(9,Em i38),(10,.ptr 1055 0),(11,Em i131)]) (fun i131 s131=>[(1054,.spare 72 4 s38.length s38.length),(1055,.box 72 [G0 s131.1,G0 s131.2.1,G0 s131.2.2.1,G0 s131.2.2.2])]) (fun i131=>l.length - i131) 0 ((i38:Int),s33.2,0,0) h ⟨(by repeat' constructor),⟨⟨_,rfl,.same⟩,⟨_,rfl,.boxL rfl (by repeat' constructor)⟩,G⟩,rfl⟩ ?_
      clear h
      intro i131 s131 hi131 K131 e131
      refine Js fun hK132=>Jr fun hK133=>(JLm (Em i131) O (JLm (E2 l) O (JLl Hr O O O fun hm42=>(JLh (BL (decide ((i131:Int) < (l.length:Int)))) (Hy O O O) O (G8 (hK133 (Gj O (fun hb=>?_) (fun hb=>?_))))))))
      ·
       have hk131:=Je hb
       obtain⟨y131,nx131,hy131,hn131,h⟩:=Hs hi131 hk131
       replace h:=Y8 hb131 h
       refine Gm (hK132 ?_)
       obtain⟨kj134,hkj134,h⟩:=Zf h
       refine Rt (fun j134:Int×Int=>kj134 j134=some r) (fun j134=>[(1,E2 l),(2,Ed s),(7,OW 1054 4 Hh.av s38),(8,G0 s33.2),(9,Em i38),(10,.ptr 1055 0),(11,Em i131)]) (fun j134=>[(1054,.spare 72 4 s38.length s38.length),(1055,.box 72 [G0 s131.1,G0 s131.2.1,G0 j134.1,G0 j134.2])]) (fun Kj134 ej134=>?_) ?_
       ·
        refine Gk (Jr fun hK135=>(JLm (E2 l) O (JLm (Em i131) O (JLh (Eg y131) (Gs (f:=Move.av) (xs:=l) (y:=y131) O O O Hr hy131 O) O (JLh (Eg y131) (Ga Ro O O O) O (JLh (U8 y131.Kind) (Gh J5 O O O) O (JLm (U8 y131.Kind) O (G8 (hK135 (Js fun hK136=>Jr fun hK137=>(JLm (U8 y131.Kind) O (JLh (BL (decide (y131.Kind≤2))) (H97 O O O) O (JLm (G0 s33.2) O (JLh (BL (decide (s33.2=1))) (Jk O O O) O (JLh (BL (!((decide (y131.Kind≤2))==(decide (s33.2=1))))) (Q61 Ge1 O O O) O (G8 (hK137 (JCc O h (fun h hb=>?_) (fun h hb=>?_)))))))))))))))))))
        ·
         refine Hd (ej134 _ _ (s131.2.2.1,s131.2.2.2) h ⟨(by repeat' constructor),⟨⟨_,rfl,.same⟩,⟨_,rfl,.boxL rfl (by repeat' constructor)⟩,G⟩,rfl⟩)
        ·
         refine Gm (hK136 ?_)
         obtain⟨kj138,hkj138,h⟩:=Zf h
         refine Rt (fun j138:Int=>kj138 j138=some r) (fun j138=>[(1,E2 l),(2,Ed s),(7,OW 1054 4 Hh.av s38),(8,G0 s33.2),(9,Em i38),(10,.ptr 1055 0),(11,Em i131),(12,U8 y131.Kind)]) (fun j138=>[(1054,.spare 72 4 s38.length s38.length),(1055,.box 72 [G0 s131.1,G0 s131.2.1,G0 s131.2.2.1,G0 j138])]) (fun Kj138 ej138=>?_) ?_
         ·
          refine Js fun hK139=>G9c (l':=[(1,E2 l),(2,Ed s),(7,OW 1054 4 Hh.av s38),(8,G0 s33.2),(9,Em i38),(10,.ptr 1055 0),(11,Em i131),(12,U8 y131.Kind)]) (L':=[(1054,.spare 72 4 s38.length s38.length),(1055,.box 72 [G0 s131.1,G0 s131.2.1,G0 s131.2.2.1,G0 s131.2.2.2])]) ⟨(by repeat' constructor),⟨⟨_,rfl,.same⟩,⟨_,rfl,.boxL rfl (by repeat' constructor)⟩,G⟩,rfl⟩ ?_
          obtain⟨y140,hy140,h⟩:=Gf h
          refine JC_d0 Jb (by kernel_rfl) (Dq (U8 y131.Kind) (G5 O O) O (Dq (BL (decide (y131.Kind=1))) (Jk O O O) O (Dq (BL (decide (y131.Kind=1))) (G5 O O) O (Do (U8 y131.Kind) [] O .scf G (fun hc=>G5 O O) O (Do (BL (decide (y131.Kind=4))) [59] O .scf ⟨Ua,G⟩ (fun hc=>Jk O O O) O (Dq (BL ((decide (y131.Kind=1))||(decide (y131.Kind=4)))) (Y7 O O O O) O (Dq (BL ((decide (y131.Kind=1))||(decide (y131.Kind=4)))) (G5 O O) O (Do (.dptr [E4 s.Covers,G0 s.Light.Kilos,G0 s.Light.X,G0 s.Light.Y,G0 s.Light.Z,E7 s.Rows,E6 s.Frames,E8 s.Tanks,G0 s.G3.Tolerance,G0 s.G3.Trim,G0 s.G3.List_,G0 s.G3.Stability]) [] O .sct G (fun hc=>Ga Jp O O O) O (Do (E4 s.Covers) [63] O .sct ⟨Ua,G⟩ (fun hc=>Gh Q4 O O O) O (Do (E2 l) [] O .sct G (fun hc=>G5 O O) O (Do (Em i131) [] O .sct G (fun hc=>G5 O O) O (Do (Eg y131) [65,66] O .sct ⟨Ua,Ua,G⟩ (fun hc=>Gs (f:=Move.av) (xs:=l) (y:=y131) O O O Hr hy131 O) O (Do (.dptr [G0 y131.Ge]) [67] O .sct ⟨Ua,G⟩ (fun hc=>Ga G90 O O O) O ?_)))))))))))))
          refine Do (G0 y131.Ge) [68] O .sct ⟨Ua,G⟩ (fun hc=>Gh Gc O O O) O (Do (.dptr [G0 y140.Bay,E1 y140.Rows]) [64,69] O .sct ⟨Ua,Ua,G⟩ (fun hc=>(match Jm (Gv hc hy140) with | ⟨_,hm_,hy_⟩=>Gs (f:=Ge.av) (xs:=s.Covers) (y:=y140) O O O Hu hy_ hm_)) O (Do (.dptr [G0 y140.Bay,E1 y140.Rows]) [70] O .sct ⟨Ua,G⟩ (fun hc=>Ga Ya O O O) O (Do (G0 y140.Bay) [71] O .sct ⟨Ua,G⟩ (fun hc=>Gh Gc O O O) O (Do (Em i38) [] O .sct G (fun hc=>G5 O O) O (Do (BL (decide (y140.Bay=(i38:Int)))) [72,73] O .sct ⟨Ua,Ua,G⟩ (fun hc=>Jk O O O) O (Dq (BL (((decide (y131.Kind=1))||(decide (y131.Kind=4)))&&(decide (y140.Bay=(i38:Int))))) (J3 O O O O) O (Dnil (hK139 (JCc O h (fun h hb=>?_) (fun h hb=>?_))))))))))
          ·
           refine G2 (JLh (.ptr 1055 3) (Qp G8e O O) O (JLh (G0 s131.2.2.2) (Z7 Gc O O O O) O ?_))
           obtain⟨v141,hv141,h⟩:=Jh h
           refine JLh (G0 v141) (Hx hv141 O O O) O (JLh (.ptr 1055 3) (Qp G8e O O) O (Ja (u:=.junk) (J0 (u:=G0 v141) (ds:=[G0 s131.1,G0 s131.2.1,G0 s131.2.2.1,G0 v141]) G6f O O O O O O O O) (G8 (ej138 _ _ v141 h ⟨(by repeat' constructor),⟨⟨_,rfl,.same⟩,⟨_,rfl,.boxL rfl (by repeat' constructor)⟩,G⟩,rfl⟩))))
          ·
           refine Gm (ej138 _ _ s131.2.2.2 h ⟨(by repeat' constructor),⟨⟨_,rfl,.same⟩,⟨_,rfl,.boxL rfl (by repeat' constructor)⟩,G⟩,rfl⟩)
         ·intro j138 h
          replace h:=app1 hkj138 h
          refine Js fun hK142=>G9c (l':=[(1,E2 l),(2,Ed s),(7,OW 1054 4 Hh.av s38),(8,G0 s33.2),(9,Em i38),(10,.ptr 1055 0),(11,Em i131),(12,U8 y131.Kind)]) (L':=[(1054,.spare 72 4 s38.length s38.length),(1055,.box 72 [G0 s131.1,G0 s131.2.1,G0 s131.2.2.1,G0 j138])]) ⟨(by repeat' constructor),⟨⟨_,rfl,.same⟩,⟨_,rfl,.boxL rfl (by repeat' constructor)⟩,G⟩,rfl⟩ ?_
          obtain⟨y143,hy143,h⟩:=Gf h
          refine JC_d0 Jb (by kernel_rfl) (Dq (U8 y131.Kind) (G5 O O) O (Dq (BL (decide (y131.Kind=2))) (Jk O O O) O (Dq (BL (decide (y131.Kind=2))) (G5 O O) O (Do (U8 y131.Kind) [] O .scf G (fun hc=>G5 O O) O (Do (BL (decide (y131.Kind=3))) [83] O .scf ⟨Ua,G⟩ (fun hc=>Jk O O O) O (Dq (BL ((decide (y131.Kind=2))||(decide (y131.Kind=3)))) (Y7 O O O O) O (Dq (BL ((decide (y131.Kind=2))||(decide (y131.Kind=3)))) (G5 O O) O (Do (Ed s) [] O .sct G (fun hc=>Ga Hi O O O) O (Do (E5 s.Columns) [87] O .sct ⟨Ua,G⟩ (fun hc=>Gh Ho O O O) O (Do (E2 l) [] O .sct G (fun hc=>G5 O O) O (Do (Em i131) [] O .sct G (fun hc=>G5 O O) O (Do (Eg y131) [89,90] O .sct ⟨Ua,Ua,G⟩ (fun hc=>Gs (f:=Move.av) (xs:=l) (y:=y131) O O O Hr hy131 O) O (Do (.dptr ((Move.cs y131).drop 2)) [91] O .sct ⟨Ua,G⟩ (fun hc=>Ga G91 O O O) O ?_)))))))))))))
          refine Do (.dptr ((Move.cs y131).drop 2)) [92] O .sct ⟨Ua,G⟩ (fun hc=>Ga Hk O O O) O (Do (G0 y131.Slot.G4) [93] O .sct ⟨Ua,G⟩ (fun hc=>Gh Gc O O O) O (Do (Ef y143) [88,94] O .sct ⟨Ua,Ua,G⟩ (fun hc=>(match Jm (Gv hc hy143) with | ⟨_,hm_,hy_⟩=>Gs (f:=G4.av) (xs:=s.Columns) (y:=y143) O O O H7 hy_ hm_)) O (Do (Ef y143) [95] O .sct ⟨Ua,G⟩ (fun hc=>Ga Rr O O O) O (Do (G0 y143.Bay) [96] O .sct ⟨Ua,G⟩ (fun hc=>Gh Gc O O O) O (Do (Em i38) [] O .sct G (fun hc=>G5 O O) O (Do (BL (decide (y143.Bay=(i38:Int)))) [97,98] O .sct ⟨Ua,Ua,G⟩ (fun hc=>Jk O O O) O (Dq (BL (((decide (y131.Kind=2))||(decide (y131.Kind=3)))&&(decide (y143.Bay=(i38:Int))))) (J3 O O O O) O (Dnil ?_))))))))
          refine hK142 (JCc O h (fun h hb=>?_) (fun h hb=>?_))
          ·
           refine G2 (JLh (.ptr 1055 2) (Qp G8f O O) O (JLh (G0 s131.2.2.1) (Z7 Gc O O O O) O ?_))
           obtain⟨v144,hv144,h⟩:=Jh h
           refine JLh (G0 v144) (Hx hv144 O O O) O (JLh (.ptr 1055 2) (Qp G8f O O) O (Ja (u:=.junk) (J0 (u:=G0 v144) (ds:=[G0 s131.1,G0 s131.2.1,G0 v144,G0 j138]) G6f O O O O O O O O) (G8 (ej134 _ _ (v144,j138) h ⟨(by repeat' constructor),⟨⟨_,rfl,.same⟩,⟨_,rfl,.boxL rfl (by repeat' constructor)⟩,G⟩,rfl⟩))))
          ·
           refine Gm (ej134 _ _ (s131.2.2.1,j138) h ⟨(by repeat' constructor),⟨⟨_,rfl,.same⟩,⟨_,rfl,.boxL rfl (by repeat' constructor)⟩,G⟩,rfl⟩)
       ·intro j134 h
        replace h:=app1 hkj134 h
        refine G2 (JLm (Em i131) O (JLh (G0 ((i131+1:Nat):Int)) (Hx (Hc hk131 hm42) O O O) O (JLm (G0 ((i131+1:Nat):Int)) O (G8 (e131 _ _ (i131+1) (s131.1,s131.2.1,j134.1,j134.2) (app1 hn131 h) (by omega) ⟨(by repeat' constructor),⟨⟨_,rfl,.same⟩,⟨_,rfl,.boxL rfl (by repeat' constructor)⟩,G⟩,rfl⟩)))))
      ·
       have h:=app1 hkx131 (Ht hi131 (H9 hb))
       refine Hd (hK43 (Jr fun hK145=>(JLh (.ptr 1055 2) (Qp G8f O O) O (JLh (G0 s131.2.2.1) (Z7 Gc O O O O) O (JLh (.ptr 1055 3) (Qp G8e O O) O (JLh (G0 s131.2.2.2) (Z7 Gc O O O O) O ?_))))))
       obtain⟨v146,hv146,h⟩:=Jh h
       refine JLh (G0 v146) (Hx hv146 O O O) O (JLh (BL (decide (0 < v146))) (G4d O O O) O (G8 (hK145 (Gx [(1,E2 l),(2,Ed s),(7,OW 1054 4 Hh.av s38),(8,G0 s33.2),(9,Em i38),(10,.dptr [G0 s131.1,G0 s131.2.1,G0 s131.2.2.1,G0 s131.2.2.2]),(110,BL (decide (0 < v146)))] [(1054,.spare 72 4 s38.length s38.length)] 1055 rfl rfl rfl ⟨⟨_,rfl,.same⟩,G⟩ rfl (by repeat' (first | exact .ptr | constructor)) (JCc O h (fun h hb=>?_) (fun h hb=>?_))))))
       ·
        refine G2 (JLm (OW 1054 4 Hh.av s38) O (JLh (.agg [G0 s131.1,G0 s131.2.1,G0 s131.2.2.1,G0 s131.2.2.2]) (Gi H0a O O O) O (JLh (Ea [(Hh.mk s131.1 s131.2.1 s131.2.2.1 s131.2.2.2)]) (Hv (xs:=[.agg [G0 s131.1,G0 s131.2.1,G0 s131.2.2.1,G0 s131.2.2.2]]) O ⟨O,O,G⟩ G18 H22 O O O O) O ?_)))
        obtain⟨ha147,h⟩:=Hz h
        refine JLh (OW 1054 4 Hh.av (s38++[(Hh.mk s131.1 s131.2.1 s131.2.2.1 s131.2.2.2)])) (Y0 (f:=Hh.av) (xs:=s38) (ys:=[(Hh.mk s131.1 s131.2.1 s131.2.2.1 s131.2.2.2)]) O O O O G18 Q0d ha147 (fun _=>O) (.inl O) O) O (JLm (OW 1054 4 Hh.av (s38++[(Hh.mk s131.1 s131.2.1 s131.2.2.1 s131.2.2.2)])) O (G8 (ej41 _ _ (s38++[(Hh.mk s131.1 s131.2.1 s131.2.2.1 s131.2.2.2)]) h ⟨(by repeat' constructor),⟨⟨_,rfl,.same⟩,G⟩,rfl⟩)))
       ·
        refine Gm (ej41 _ _ s38 h ⟨(by repeat' constructor),⟨⟨_,rfl,.same⟩,G⟩,rfl⟩)
     ·intro j41 h
      replace h:=app1 hkj41 h
      refine G2 (JLm (Em i38) O (JLh (G0 ((i38+1:Nat):Int)) (Hx (Hc hk38 (Yt hx38)) O O O) O (JLm (G0 ((i38+1:Nat):Int)) O (G8 (e38 _ _ (i38+1) j41 (app1 hn38 h) (by omega) ⟨(by repeat' constructor),⟨⟨_,rfl,.same⟩,G⟩,rfl⟩)))))
    ·
     have h:=app1 hkx38 (G08 hi38 (Qr hb))
     refine Hd (hK36 (G2 (JLm (G0 s33.2) O ?_)))
     obtain⟨v148,hv148,h⟩:=Jh h
     refine JLh (G0 v148) (Hx hv148 O O O) O (JLm (G0 v148) O (G8 (e33 _ _ m33 (s38,v148) (app1 hn33 h) (by omega) ⟨(by repeat' constructor),⟨⟨_,rfl,.same⟩,G⟩,rfl⟩)))
   ·
    refine Hd (hK31 (Jr fun hK149=>(JLm (OW 1054 4 Hh.av s33.1) O (JLm (OW 1054 4 Hh.av s33.1) O (JLm (G0 0) O (G8 (hK149 (Gt (⟨[Ea s33.1,G0 0],[],G,O,⟨⟨_,O,.conv (.list O)⟩,⟨_,O,.conv (.same O)⟩,G⟩,O,congrArg (fun r:(List Hh)×Int=>(.tup [Ea r.1,G0 r.2]:AV)) (Option.some.inj h)⟩)))))))))

def Zi (a:List Hh) (b:List Hh):Option Bool:=
 bif decide ((a.length:Int)≠(b.length:Int)) then
 (some false)
 else
 (each (fun y24 i24 (s24:Unit) nx24=>
   Jc b (i24:Int) fun y29=>
   bif (!decide (y24=y29)) then
   (some false)
   else
   (nx24 ()))
  (fun(s24:Unit)=>
   some true) a 0 ())
theorem H6c (a:List Hh) (b:List Hh) (r:Bool) (h:Zi a b=some r):Pure En 34 [Ea a,Ea b] (·=BL r):=by
 unfold Zi at h
 refine H0 [.tmp 4] Tryz.func34 O O (Jr fun hK1=>(JLm (BL false) O (G8 (hK1 (Js fun hK2=>Jr fun hK3=>(JLm (Ea a) O (JLl G18 O O O fun hm7=>(JLm (Ea b) O (JLl G18 O O O fun hm9=>(JLh (BL (decide ((a.length:Int)≠(b.length:Int)))) (G56 O O O) O (G8 (hK3 (JCc O h (fun h hb=>?_) (fun h hb=>?_))))))))))))))
 ·
  refine Jr fun hK4=>(JLm (BL false) O (G8 (hK4 (Gt (fin1 BL h)))))
 ·
  refine Gm (hK2 (Js fun hK5=>Jr fun hK6=>(JLm (G0 0) O (G8 (hK6 (Gk ?_))))))
  obtain⟨b24,kx24,hb24,hkx24,h⟩:=J4 h
  refine H6 (fun i24 (s24:Unit)=>each b24 kx24 (List.drop i24 a) i24 s24=some r) (fun i24 s24=>[(0,Ea a),(1,Ea b),(5,Em i24)]) (fun i24 s24=>[]) (fun i24=>a.length - i24) 0 () h ⟨⟨.same O,.same O,.same O,G⟩,G,O⟩ ?_
  clear h
  intro i24 s24 hi24 K24 e24
  refine Js fun hK25=>Jr fun hK26=>(JLm (Em i24) O (JLm (Ea a) O (JLl G18 O O O fun hm13=>(JLh (BL (decide ((i24:Int) < (a.length:Int)))) (Hy O O O) O (G8 (hK26 (Gj O (fun hb=>?_) (fun hb=>?_))))))))
  ·
   have hk24:=Je hb
   obtain⟨y24,nx24,hy24,hn24,h⟩:=Hs hi24 hk24
   replace h:=Y8 hb24 h
   refine Gm (hK25 (Js fun hK27=>Gk (Js fun hK28=>?_)))
   obtain⟨m30,y29,hm30,hy29,h⟩:=R1 h
   refine JC_d0 Jb (by kernel_rfl) (Dq (Ea a) (G5 O O) O (Dq (Em i24) (G5 O O) O (Dq (Ek y24) (Gs (f:=Hh.av) (xs:=a) (y:=y24) O O O G18 hy24 O) O (Dq (.agg (Hh.cs y24)) (Gi H0a O O O) O (Dq (Ea b) (G5 O O) O (Dq (Em i24) (G5 O O) O (Dq (Ek y29) (Gs (f:=Hh.av) (xs:=b) (y:=y29) O O O G18 hy29 hm30) O (Dq (.agg (Hh.cs y29)) (Gi H0a O O O) O (Dq (BL (!decide (y24=y29))) (J3d (vs:=[.int .i64 y24.Bay,.int .i64 y24.Phase,.int .i64 y24.Lifts,.int .i64 y24.Covers]) (us:=[.int .i64 y29.Bay,.int .i64 y29.Phase,.int .i64 y29.Lifts,.int .i64 y29.Covers]) 4 O (tq_72 y24 y29) J09 Ja0 O O O) O (Dnil (hK28 (JCc O h (fun h hb=>?_) (fun h hb=>?_)))))))))))))
   ·
    refine Jr fun hK31=>(JLm (BL false) O (G8 (hK31 (Gt (fin1 BL h)))))
   ·
    refine Gm (hK27 (G2 (JLm (Em i24) O (JLh (G0 ((i24+1:Nat):Int)) (Hx (Hc hk24 hm13) O O O) O (JLm (G0 ((i24+1:Nat):Int)) O (G8 (e24 _ _ (i24+1) () (app1 hn24 h) (by omega) ⟨⟨.same rfl,.same rfl,.same rfl,G⟩,G,rfl⟩)))))))
  ·
   have h:=app1 hkx24 (Ht hi24 (H9 hb))
   refine Hd (hK5 (Jr fun hK32=>(JLm (BL true) O (G8 (hK32 (Gt (fin1 BL h)))))))

def G46 (l:List Move):Option Int:=
 each (fun y20 i20 (s20:Int) nx20=>
  jp (fun kj23=>
   bif ((decide (y20.Kind=2))||(decide (y20.Kind=3))) then
   (Yn (s20+1) fun v25=>
    kj23 v25)
   else
   (kj23 s20)) fun(j23:Int)=>
  nx20 j23)
 (fun(s20:Int)=>
  some s20) l 0 0
theorem Ha4 (l:List Move) (r:Int) (h:G46 l=some r):Pure En 35 [E2 l] (·=G0 r):=by
 unfold G46 at h
 refine H0 [.tmp 2] Tryz.func35 O O (Jr fun hK1=>(JLm (G0 0) O (G8 (hK1 (Jr fun hK2=>(JLm (G0 0) O (G8 (hK2 (Js fun hK3=>Jr fun hK4=>(JLm (G0 0) O (G8 (hK4 (Gk ?_)))))))))))))
 obtain⟨b20,kx20,hb20,hkx20,h⟩:=J4 h
 refine H6 (fun i20 (s20:Int)=>each b20 kx20 (List.drop i20 l) i20 s20=some r) (fun i20 s20=>[(0,E2 l),(3,G0 s20),(4,Em i20)]) (fun i20 s20=>[]) (fun i20=>l.length - i20) 0 0 h ⟨⟨.same O,.same O,.same O,G⟩,G,O⟩ ?_
 clear h
 intro i20 s20 hi20 K20 e20
 refine Js fun hK21=>Jr fun hK22=>(JLm (Em i20) O (JLm (E2 l) O (JLl Hr O O O fun hm7=>(JLh (BL (decide ((i20:Int) < (l.length:Int)))) (Hy O O O) O (G8 (hK22 (Gj O (fun hb=>?_) (fun hb=>?_))))))))
 ·
  have hk20:=Je hb
  obtain⟨y20,nx20,hy20,hn20,h⟩:=Hs hi20 hk20
  replace h:=Y8 hb20 h
  refine Gm (hK21 ?_)
  obtain⟨kj23,hkj23,h⟩:=Zf h
  refine Rt (fun j23:Int=>kj23 j23=some r) (fun j23=>[(0,E2 l),(3,G0 j23),(4,Em i20)]) (fun j23=>[]) (fun Kj23 ej23=>?_) ?_
  ·
   refine Gk ?_
   refine Jr fun hK24=>(JLm (E2 l) O (JLm (Em i20) O (JLh (Eg y20) (Gs (f:=Move.av) (xs:=l) (y:=y20) O O O Hr hy20 O) O (JLh (Eg y20) (Ga Ro O O O) O (JLh (U8 y20.Kind) (Gh J5 O O O) O (JLh (BL (decide (y20.Kind=2))) (Jk O O O) O (JLm (BL (decide (y20.Kind=2))) O (JLo (E2 l) [] O .scf G (fun hc=>G5 O O) O (JLo (Em i20) [] O .scf G (fun hc=>G5 O O) O (JLo (Eg y20) [18,19] O .scf ⟨Ua,Ua,G⟩ (fun hc=>Gs (f:=Move.av) (xs:=l) (y:=y20) O O O Hr hy20 O) O (JLo (Eg y20) [20] O .scf ⟨Ua,G⟩ (fun hc=>Ga Ro O O O) O (JLo (U8 y20.Kind) [21] O .scf ⟨Ua,G⟩ (fun hc=>Gh J5 O O O) O (JLo (BL (decide (y20.Kind=3))) [22] O .scf ⟨Ua,G⟩ (fun hc=>Jk O O O) O ?_)))))))))))))
   refine JLh (BL ((decide (y20.Kind=2))||(decide (y20.Kind=3)))) (Y7 O O O O) O (G8 (hK24 (JCc O h (fun h hb=>?_) (fun h hb=>?_))))
   ·
    refine G2 (JLm (G0 s20) O ?_)
    obtain⟨v25,hv25,h⟩:=Jh h
    refine JLh (G0 v25) (Hx hv25 O O O) O (JLm (G0 v25) O (G8 (ej23 _ _ v25 h ⟨⟨.same O,.same O,.same O,G⟩,G,O⟩)))
   ·
    refine Gm (ej23 _ _ s20 h ⟨⟨.same O,.same O,.same O,G⟩,G,O⟩)
  ·intro j23 h
   replace h:=app1 hkj23 h
   refine G2 (JLm (Em i20) O (JLh (G0 ((i20+1:Nat):Int)) (Hx (Hc hk20 hm7) O O O) O (JLm (G0 ((i20+1:Nat):Int)) O (G8 (e20 _ _ (i20+1) j23 (app1 hn20 h) (by omega) ⟨⟨.same rfl,.same rfl,.same rfl,G⟩,G,rfl⟩)))))
 ·
  have h:=app1 hkx20 (Ht hi20 (H9 hb))
  refine Hd (hK3 (Jr fun hK26=>(JLm (G0 s20) O (JLm (G0 s20) O (G8 (hK26 (Gt (fin1 G0 h))))))))

def G10 (F:Nat) (in_:Rb) (s:H8) (l:List Move):Option Bool:=
 bnd (Zm l) fun r3=>
 bnd (G2a (H8.mk (in_.Columns.1.map H1.pl) (in_.Covers.1.map Hf.pl) in_.Light in_.Rows.1 in_.Frames.1 (in_.Tanks.1.map Hq.pl) in_.G3) r3.1) fun r5=>
 bnd (Y3 F s l) fun r7=>
 bnd (Zi r5.1 r7.1) fun r9=>
 bnd (bif (r9&&(decide (r5.2=r7.2))) then G6c r3.1 else some default) fun r10=>
 bnd (bif (r9&&(decide (r5.2=r7.2))) then G46 l else some default) fun r11=>
 bnd (bif ((r9&&(decide (r5.2=r7.2)))&&(decide (r10=r11))) then Zp r3 l else some default) fun r12=>
 bnd (bif (((r9&&(decide (r5.2=r7.2)))&&(decide (r10=r11)))&&r12) then G02 in_ s else some default) fun r13=>
 some ((((r9&&(decide (r5.2=r7.2)))&&(decide (r10=r11)))&&r12)&&r13)
theorem Ha8 (F:Nat) (in_:Rb) (s:H8) (l:List Move) (r:Bool) (h:G10 F in_ s l=some r):Pure En 12 [.agg (Rb.cs in_),.agg (H8.cs s),E2 l] (·=BL r):=by
 unfold G10 at h
 refine H0 [.tmp 6] Tryz.func12 O O (Jr fun hK1=>(JLh (.ptr 1016 0) (Jq (cs:=(Rb.cs in_)) 1016 O O O O O) O (JLh (.ptr 1017 0) (Jq (cs:=(H8.cs s)) 1017 O O O O O) O (JLm (BL false) O (G8 (hK1 ?_))))))
 refine Gx [(2,E2 l),(3,.dptr (Rb.cs in_)),(4,.ptr 1017 0)] [(1017,.box 32 (H8.cs s))] 1016 rfl rfl rfl ⟨⟨_,rfl,.boxEq rfl rfl⟩,G⟩ rfl (by exact⟨.conv (.same rfl),.ptr,.conv (.same rfl),G⟩) ?_
 refine Gx [(2,E2 l),(3,.dptr (Rb.cs in_)),(4,Ed s)] [] 1017 rfl rfl rfl G rfl (by exact⟨.conv (.same rfl),.conv (.same rfl),.ptr,G⟩) (Jr fun hK2=>(JLm (E2 l) O ?_))
 obtain⟨r3,hr3,h⟩:=Gf h
 refine JLh (LT 6 Move.av r3) (Gq O (H6f l r3 hr3) Qef ⟨O,O,G⟩) O (JLm (LT 6 Move.av r3) O (G8 (hK2 ?_)))
 refine Jr fun hK4=>(JLh (.agg [E5 (in_.Columns.1.map H1.pl),E4 (in_.Covers.1.map Hf.pl),G0 in_.Light.Kilos,G0 in_.Light.X,G0 in_.Light.Y,G0 in_.Light.Z,E7 in_.Rows.1,E6 in_.Frames.1,E8 (in_.Tanks.1.map Hq.pl),G0 in_.G3.Tolerance,G0 in_.G3.Trim,G0 in_.G3.List_,G0 in_.G3.Stability]) (Ha.cv (Cv.aggL (cs:=(Rb.cs in_)) ⟨Cv.lstM (f:=H1.av) (g:=G4.av) H1.pl H1.cvl in_.Columns,Cv.lstM (f:=Hf.av) (g:=Ge.av) Hf.pl Hf.cvl in_.Covers,.same,.same,.same,.same,Cv.lst0 in_.Rows,Cv.lst0 in_.Frames,Cv.lstM (f:=Hq.av) (g:=Gp.av) Hq.pl Hq.cvl in_.Tanks,.same,.same,.same,.same,G⟩) (Gi J1 O O O)) O (JLh (E2 r3.1) (Ha.cv (Cv.lst0 r3) (G5 O O)) O ?_))
 obtain⟨r5,hr5,h⟩:=Gf h
 refine JLh (.tup [Ea r5.1,G0 r5.2]) (Gq O (Hec.down (H8.mk (in_.Columns.1.map H1.pl) (in_.Covers.1.map Hf.pl) in_.Light in_.Rows.1 in_.Frames.1 (in_.Tanks.1.map Hq.pl) in_.G3) r3.1 r5 hr5) Q28 ⟨O,O,O,O,G⟩) O (JLm (.tup [Ea r5.1,G0 r5.2]) O (JLh (Ea r5.1) (Jn O O O) O (JLh (G0 r5.2) (Jn O O O) O (JLm (Ea r5.1) O (JLm (G0 r5.2) O (G8 (hK4 (Jr fun hK6=>(JLh (.agg (H8.cs s)) (Gi J1 O O O) O (JLm (E2 l) O ?_))))))))))
 obtain⟨r7,hr7,h⟩:=Gf h
 refine JLh (.tup [Ea r7.1,G0 r7.2]) (Gq O (Ha3 F s l r7 hr7) Qee ⟨O,O,O,O,G⟩) O (JLm (.tup [Ea r7.1,G0 r7.2]) O (JLh (Ea r7.1) (Jn O O O) O (JLh (G0 r7.2) (Jn O O O) O (JLm (Ea r7.1) O (JLm (G0 r7.2) O (G8 (hK6 (Jr fun hK8=>(JLm (Ea r5.1) O (JLm (Ea r7.1) O ?_))))))))))
 obtain⟨r9,hr9,h⟩:=Gf h
 refine JLh (BL r9) (Gq O (H6c r5.1 r7.1 r9 hr9) Qed ⟨O,O,O,O,G⟩) O (JLm (BL r9) O (JLo (G0 r5.2) [] O .sct G (fun hc=>G5 O O) O (JLo (G0 r7.2) [] O .sct G (fun hc=>G5 O O) O (JLo (BL (decide (r5.2=r7.2))) [30,31] O .sct ⟨Ua,Ua,G⟩ (fun hc=>Jk O O O) O (JLh (BL (r9&&(decide (r5.2=r7.2)))) (J3 O O O O) O (JLm (BL (r9&&(decide (r5.2=r7.2)))) O (JLo (E2 r3.1) [] O .sct G (fun hc=>Ha.cv (Cv.lst0 r3) (G5 O O)) O ?_)))))))
 obtain⟨r10,hr10,h⟩:=Gf h
 refine JLo (G0 r10) [35] O .sct ⟨Ua,G⟩ (fun hc=>Gq (args:=[E2 r3.1]) O (Hf0 r3.1 r10 (Gv hc hr10)) Q27 ⟨O,O,G⟩) O (JLo (E2 l) [] O .sct G (fun hc=>G5 O O) O ?_)
 obtain⟨r11,hr11,h⟩:=Gf h
 refine JLo (G0 r11) [37] O .sct ⟨Ua,G⟩ (fun hc=>Gq (args:=[E2 l]) O (Ha4 l r11 (Gv hc hr11)) Qec ⟨O,O,G⟩) O (JLo (BL (decide (r10=r11))) [36,38] O .sct ⟨Ua,Ua,G⟩ (fun hc=>Jk O O O) O (JLh (BL ((r9&&(decide (r5.2=r7.2)))&&(decide (r10=r11)))) (J3 O O O O) O (JLm (BL ((r9&&(decide (r5.2=r7.2)))&&(decide (r10=r11)))) O (JLo (LT 6 Move.av r3) [] O .sct G (fun hc=>G5 O O) O (JLo (E2 l) [] O .sct G (fun hc=>G5 O O) O ?_)))))
 obtain⟨r12,hr12,h⟩:=Gf h
 refine JLo (BL r12) [42,43] O .sct ⟨Ua,Ua,G⟩ (fun hc=>Gq (args:=[LT 6 Move.av r3,E2 l]) O (H73 r3 l r12 (Gv hc hr12)) Qeb ⟨O,O,O,O,G⟩) O (JLh (BL (((r9&&(decide (r5.2=r7.2)))&&(decide (r10=r11)))&&r12)) (J3 O O O O) O (JLm (BL (((r9&&(decide (r5.2=r7.2)))&&(decide (r10=r11)))&&r12)) O (JLo (.agg (Rb.cs in_)) [] O .sct G (fun hc=>Gi J1 O O O) O (JLo (.agg (H8.cs s)) [] O .sct G (fun hc=>Gi J1 O O O) O ?_))))
 obtain⟨r13,hr13,h⟩:=Gf h
 refine JLo (BL r13) [47,48] O .sct ⟨Ua,Ua,G⟩ (fun hc=>Gq (args:=[.agg (Rb.cs in_),.agg (H8.cs s)]) O (H85 in_ s r13 (Gv hc hr13)) Qea ⟨O,O,O,O,G⟩) O (JLh (BL ((((r9&&(decide (r5.2=r7.2)))&&(decide (r10=r11)))&&r12)&&r13)) (J3 O O O O) O (JLm (BL ((((r9&&(decide (r5.2=r7.2)))&&(decide (r10=r11)))&&r12)&&r13)) O (G8 (hK8 (Gt (fin1 BL h))))))

def G04 (F:Nat) (s:H8) (boxes:List H2) (before:List G6) (after:List G6):Option Bool:=
 bnd (G31 s boxes) fun r4=>
 bif (((!r4)||(decide (14 < (before.length:Int))))||(decide (14 < (after.length:Int)))) then
 (bnd (G11 F) fun r6=>
  some r6)
 else
 (bnd (G00 s) fun r8=>
  bnd (Zo boxes) fun r9=>
  bnd (Ri before) fun r10=>
  bnd (Ri after) fun r11=>
  bnd (G7f F (H8.mk (r8.Columns.1.map H1.pl) (r8.Covers.1.map Hf.pl) r8.Light r8.Rows.1 r8.Frames.1 (r8.Tanks.1.map Hq.pl) r8.G3) r9.1 r10.1 r11.1) fun r13=>
  bnd (Za F s boxes before after) fun r15=>
  bnd (Yd r13.1 r15.1) fun r17=>
  bnd (bif (r17&&(decide (r13.2=r15.2))) then G10 F r8 s r15.1 else some default) fun r18=>
  bnd (bif ((r17&&(decide (r13.2=r15.2)))&&r18) then Zq r9 boxes else some default) fun r19=>
  bnd (bif (((r17&&(decide (r13.2=r15.2)))&&r18)&&r19) then Rk r10 before else some default) fun r20=>
  bnd (bif ((((r17&&(decide (r13.2=r15.2)))&&r18)&&r19)&&r20) then Rk r11 after else some default) fun r21=>
  bnd (bif (((((r17&&(decide (r13.2=r15.2)))&&r18)&&r19)&&r20)&&r21) then G11 F else some default) fun r22=>
  some ((((((r17&&(decide (r13.2=r15.2)))&&r18)&&r19)&&r20)&&r21)&&r22))
theorem H26 (F:Nat) (s:H8) (boxes:List H2) (before:List G6) (after:List G6) (r:Bool) (h:G04 F s boxes before after=some r):Pure En 3 [.agg (H8.cs s),E3 boxes,E0 before,E0 after] (·=BL r):=by
 unfold G04 at h
 refine H0 [.tmp 8] Tryz.func3 O O (Jr fun hK1=>(JLh (.ptr 1001 0) (Jq (cs:=(H8.cs s)) 1001 O O O O O) O (JLm (BL false) O (G8 (hK1 (Gx [(1,E3 boxes),(2,E0 before),(3,E0 after),(4,Ed s)] [] 1001 rfl rfl rfl G rfl (by repeat' (first | exact .ptr | constructor)) (Js fun hK2=>?_)))))))
 refine Jr fun hK3=>(JLh (.agg (H8.cs s)) (Gi J1 O O O) O (JLm (E3 boxes) O ?_))
 obtain⟨r4,hr4,h⟩:=Gf h
 refine JLh (BL r4) (Gq O (He9 s boxes r4 hr4) tf_call_4 ⟨O,O,O,O,G⟩) O (JLh (BL (!r4)) (R9 (b:=r4) O O) O (JLm (BL (!r4)) O (JLo (E0 before) [] O .scf G (fun hc=>G5 O O) O (JLo (Em before.length) [22] O .scf ⟨Ua,G⟩ (fun hc=>Qx (f:=G6.av) (xs:=before) Gz O O) O (JLo (BL (decide (14 < (before.length:Int)))) [23] O .scf ⟨Ua,G⟩ (fun hc=>G4d O O O) O (JLh (BL ((!r4)||(decide (14 < (before.length:Int))))) (Y7 O O O O) O (JLm (BL ((!r4)||(decide (14 < (before.length:Int))))) O (JLo (E0 after) [] O .scf G (fun hc=>G5 O O) O (JLo (Em after.length) [27] O .scf ⟨Ua,G⟩ (fun hc=>Qx (f:=G6.av) (xs:=after) Gz O O) O (JLo (BL (decide (14 < (after.length:Int)))) [28] O .scf ⟨Ua,G⟩ (fun hc=>G4d O O O) O (JLh (BL (((!r4)||(decide (14 < (before.length:Int))))||(decide (14 < (after.length:Int))))) (Y7 O O O O) O (G8 (hK3 ?_)))))))))))))
 refine JCc O h (fun h hb=>?_) (fun h hb=>?_)
 ·
  refine Jr fun hK5=>?_
  obtain⟨r6,hr6,h⟩:=Gf h
  refine JLh (BL r6) (Gq O (Gcb F r6 hr6) Q71 G) O (JLm (BL r6) O (G8 (hK5 (Gt (fin1 BL h)))))
 ·
  refine Gm (hK2 (Jr fun hK7=>(JLh (.agg (H8.cs s)) (Gi J1 O O O) O ?_)))
  obtain⟨r8,hr8,h⟩:=Gf h
  refine JLh (.agg (Rb.cs r8)) (Gq O (H82 s r8 hr8) tf_call_6 ⟨O,O,G⟩) O (JLm (E3 boxes) O ?_)
  obtain⟨r9,hr9,h⟩:=Gf h
  refine JLh (LT 9 H2.av r9) (Gq O (H71 boxes r9 hr9) tf_call_7 ⟨O,O,G⟩) O (JLm (E0 before) O ?_)
  obtain⟨r10,hr10,h⟩:=Gf h
  refine JLh (LT 4 G6.av r10) (Gq O (G87 before r10 hr10) Q70 ⟨O,O,G⟩) O (JLm (E0 after) O ?_)
  obtain⟨r11,hr11,h⟩:=Gf h
  refine JLh (LT 4 G6.av r11) (Gq O (G87 after r11 hr11) Q70 ⟨O,O,G⟩) O (JLh (.ptr 1002 0) (Ju 1002 13 Jbd O O) O (Ja (u:=.junk) (J0 (u:=.agg (Rb.cs r8)) (ds:=(Rb.cs r8)) Hd0 O O O O O O O O) (JLm (LT 9 H2.av r9) O (JLm (LT 4 G6.av r10) O (JLm (LT 4 G6.av r11) O (G8 (hK7 ?_)))))))
  refine Gx [(1,E3 boxes),(2,E0 before),(3,E0 after),(4,Ed s),(9,.dptr (Rb.cs r8)),(10,LT 9 H2.av r9),(11,LT 4 G6.av r10),(12,LT 4 G6.av r11)] [] 1002 rfl rfl rfl G rfl (by repeat' (first | exact .ptr | constructor)) ?_
  refine Jr fun hK12=>(JLh (.agg [E5 (r8.Columns.1.map H1.pl),E4 (r8.Covers.1.map Hf.pl),G0 r8.Light.Kilos,G0 r8.Light.X,G0 r8.Light.Y,G0 r8.Light.Z,E7 r8.Rows.1,E6 r8.Frames.1,E8 (r8.Tanks.1.map Hq.pl),G0 r8.G3.Tolerance,G0 r8.G3.Trim,G0 r8.G3.List_,G0 r8.G3.Stability]) (Ha.cv (Cv.aggL (cs:=(Rb.cs r8)) ⟨Cv.lstM (f:=H1.av) (g:=G4.av) H1.pl H1.cvl r8.Columns,Cv.lstM (f:=Hf.av) (g:=Ge.av) Hf.pl Hf.cvl r8.Covers,.same,.same,.same,.same,Cv.lst0 r8.Rows,Cv.lst0 r8.Frames,Cv.lstM (f:=Hq.av) (g:=Gp.av) Hq.pl Hq.cvl r8.Tanks,.same,.same,.same,.same,G⟩) (Gi J1 O O O)) O (JLh (E3 r9.1) (Ha.cv (Cv.lst0 r9) (G5 O O)) O (JLh (E0 r10.1) (Ha.cv (Cv.lst0 r10) (G5 O O)) O (JLh (E0 r11.1) (Ha.cv (Cv.lst0 r11) (G5 O O)) O ?_))))
  obtain⟨r13,hr13,h⟩:=Gf h
  refine JLh (.tup [E2 r13.1,G0 r13.2]) (Gq O (J23 F (H8.mk (r8.Columns.1.map H1.pl) (r8.Covers.1.map Hf.pl) r8.Light r8.Rows.1 r8.Frames.1 (r8.Tanks.1.map Hq.pl) r8.G3) r9.1 r10.1 r11.1 r13 hr13) Q6f ⟨O,O,O,O,O,O,O,O,G⟩) O (JLm (.tup [E2 r13.1,G0 r13.2]) O (JLh (E2 r13.1) (Jn O O O) O (JLh (G0 r13.2) (Jn O O O) O (JLm (E2 r13.1) O (JLm (G0 r13.2) O (G8 (hK12 ?_)))))))
  refine Jr fun hK14=>(JLh (.agg (H8.cs s)) (Gi J1 O O O) O (JLm (E3 boxes) O (JLm (E0 before) O (JLm (E0 after) O ?_))))
  obtain⟨r15,hr15,h⟩:=Gf h
  refine JLh (.tup [E2 r15.1,G0 r15.2]) (Gq O (Hba F s boxes before after r15 hr15) Qfc ⟨O,O,O,O,O,O,O,O,G⟩) O (JLm (.tup [E2 r15.1,G0 r15.2]) O (JLh (E2 r15.1) (Jn O O O) O (JLh (G0 r15.2) (Jn O O O) O (JLm (E2 r15.1) O (JLm (G0 r15.2) O (G8 (hK14 (Jr fun hK16=>(JLm (E2 r13.1) O (JLm (E2 r15.1) O ?_))))))))))
  obtain⟨r17,hr17,h⟩:=Gf h
  refine JLh (BL r17) (Gq O (Ga9 r13.1 r15.1 r17 hr17) Q2b ⟨O,O,O,O,G⟩) O (JLm (BL r17) O (JLo (G0 r13.2) [] O .sct G (fun hc=>G5 O O) O (JLo (G0 r15.2) [] O .sct G (fun hc=>G5 O O) O (JLo (BL (decide (r13.2=r15.2))) [60,61] O .sct ⟨Ua,Ua,G⟩ (fun hc=>Jk O O O) O (JLh (BL (r17&&(decide (r13.2=r15.2)))) (J3 O O O O) O (JLm (BL (r17&&(decide (r13.2=r15.2)))) O (JLo (.agg (Rb.cs r8)) [] O .sct G (fun hc=>Gi J1 O O O) O (JLo (.agg (H8.cs s)) [] O .sct G (fun hc=>Gi J1 O O O) O (JLo (E2 r15.1) [] O .sct G (fun hc=>G5 O O) O ?_)))))))))
  obtain⟨r18,hr18,h⟩:=Gf h
  refine JLo (BL r18) [65,66,67] O .sct ⟨Ua,Ua,Ua,G⟩ (fun hc=>Gq (args:=[.agg (Rb.cs r8),.agg (H8.cs s),E2 r15.1]) O (Ha8 F r8 s r15.1 r18 (Gv hc hr18)) Qfb ⟨O,O,O,O,O,O,G⟩) O (JLh (BL ((r17&&(decide (r13.2=r15.2)))&&r18)) (J3 O O O O) O (JLm (BL ((r17&&(decide (r13.2=r15.2)))&&r18)) O (JLo (LT 9 H2.av r9) [] O .sct G (fun hc=>G5 O O) O (JLo (E3 boxes) [] O .sct G (fun hc=>G5 O O) O ?_))))
  obtain⟨r19,hr19,h⟩:=Gf h
  refine JLo (BL r19) [71,72] O .sct ⟨Ua,Ua,G⟩ (fun hc=>Gq (args:=[LT 9 H2.av r9,E3 boxes]) O (H75 r9 boxes r19 (Gv hc hr19)) Qfa ⟨O,O,O,O,G⟩) O (JLh (BL (((r17&&(decide (r13.2=r15.2)))&&r18)&&r19)) (J3 O O O O) O (JLm (BL (((r17&&(decide (r13.2=r15.2)))&&r18)&&r19)) O (JLo (LT 4 G6.av r10) [] O .sct G (fun hc=>G5 O O) O (JLo (E0 before) [] O .sct G (fun hc=>G5 O O) O ?_))))
  obtain⟨r20,hr20,h⟩:=Gf h
  refine JLo (BL r20) [76,77] O .sct ⟨Ua,Ua,G⟩ (fun hc=>Gq (args:=[LT 4 G6.av r10,E0 before]) O (G88 r10 before r20 (Gv hc hr20)) Q2a ⟨O,O,O,O,G⟩) O (JLh (BL ((((r17&&(decide (r13.2=r15.2)))&&r18)&&r19)&&r20)) (J3 O O O O) O (JLm (BL ((((r17&&(decide (r13.2=r15.2)))&&r18)&&r19)&&r20)) O (JLo (LT 4 G6.av r11) [] O .sct G (fun hc=>G5 O O) O (JLo (E0 after) [] O .sct G (fun hc=>G5 O O) O ?_))))
  obtain⟨r21,hr21,h⟩:=Gf h
  refine JLo (BL r21) [81,82] O .sct ⟨Ua,Ua,G⟩ (fun hc=>Gq (args:=[LT 4 G6.av r11,E0 after]) O (G88 r11 after r21 (Gv hc hr21)) Q2a ⟨O,O,O,O,G⟩) O (JLh (BL (((((r17&&(decide (r13.2=r15.2)))&&r18)&&r19)&&r20)&&r21)) (J3 O O O O) O (JLm (BL (((((r17&&(decide (r13.2=r15.2)))&&r18)&&r19)&&r20)&&r21)) O ?_))
  obtain⟨r22,hr22,h⟩:=Gf h
  refine JLo (BL r22) [] O .sct G (fun hc=>Gq (args:=[]) O (Gcb F r22 (Gv hc hr22)) Q71 G) O (JLh (BL ((((((r17&&(decide (r13.2=r15.2)))&&r18)&&r19)&&r20)&&r21)&&r22)) (J3 O O O O) O (JLm (BL ((((((r17&&(decide (r13.2=r15.2)))&&r18)&&r19)&&r20)&&r21)&&r22)) O (G8 (hK16 (Gt (fin1 BL h))))))
end
end Go.Proofs.YteogacmpgdpjlaaGreat
