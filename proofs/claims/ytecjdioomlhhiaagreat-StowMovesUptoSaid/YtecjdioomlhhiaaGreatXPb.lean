/-
 Models of functions of the program,and that they return what the models say.
-/
import Derived.Test.YtecjdioomlhhiaaGreatXPa
set_option maxRecDepth 100000
set_option maxHeartbeats 1000000
set_option linter.unusedVariables false
set_option linter.unusedSimpArgs false
namespace Go.Proofs.YtecjdioomlhhiaaGreat
open Go.RowKit
noncomputable section
open XAF
open XLF
open XCF
open XGF
open XHF
open XPF

def Ry (s:H0) (boxes:List Box) (l:List Stowed) (c:Int):Option Bool:=
 Qq s.Columns c fun y4=>
 bif decide (y4.Height=0) then
 (some false)
 else
 (bnd (R7 boxes l c 1) fun r8=>
  Qq s.Columns c fun y9=>
  bnd (bif (!(decide (y9.Height < r8))) then R7 boxes l c 2 else some default) fun r11=>
  bnd (bif (!(decide (y9.Height < r8))) then Qq s.Columns c some else some default) fun y12=>
  some ((decide (y9.Height < r8))||(decide (y12.Height < r11))))
theorem Gc2 (s:H0) (boxes:List Box) (l:List Stowed) (c:Int) (r:Bool) (h:Ry s boxes l c=some r):Pure Ei 59 [.agg (H0.cs s),E3 boxes,E2 l,I64 c] (·=BL r):=by
 unfold Ry at h
 refine Gz [.tmp 8] Tryz.func59 O O (Jr fun hK1=>(JLh (.ptr 1077 0) (Je (cs:=(H0.cs s)) 1077 O O O O O) O (JLm (BL false) O (G7 (hK1 (Gx [(1,E3 boxes),(2,E2 l),(3,I64 c),(4,Eb s)] [] 1077 rfl rfl rfl G rfl (by repeat' (first | exact .ptr | constructor)) (Js fun hK2=>?_)))))))
 refine Jr fun hK3=>(JLh (Eb s) (Ga Hi O O O) O (JLh (E5 s.Columns) (Gf Ht O O O) O (JLm (I64 c) O ?_)))
 obtain⟨m5,y4,hm5,hy4,h⟩:=R1 h
 refine JLh (Ed y4) (Gw (f:=G3.av) (xs:=s.Columns) (y:=y4) O O O H4 hy4 hm5) O (JLh (.dptr ((G3.cs y4).drop 4)) (Ga G3a O O O) O (JLh (I64 y4.Height) (Gf Gd O O O) O (JLh (BL (decide (y4.Height=0))) (Jw O O O) O (G7 (hK3 (JCc O h (fun h hb=>?_) (fun h hb=>?_)))))))
 ·
  refine Jr fun hK6=>(JLm (BL false) O (G7 (hK6 (Gn (fin1 BL h)))))
 ·
  refine Gk (hK2 (Js fun hK7=>?_))
  obtain⟨r8,hr8,h⟩:=Gc h
  obtain⟨m10,y9,hm10,hy9,h⟩:=R1 h
  obtain⟨r11,hr11,h⟩:=Gc h
  obtain⟨y12,hy12,h⟩:=Gc h
  refine JC_d0 J6 (by kernel_rfl) (Dq (E3 boxes) (G4 O O) O (Dq (E2 l) (G4 O O) O (Dq (I64 c) (G4 O O) O (Dq (I64 r8) (Gm (args:=[E3 boxes,E2 l,I64 c,U8 1]) O (G9c boxes l c 1 r8 hr8) J7f ⟨O,O,O,O,O,O,O,O,G⟩) O (Dq (Eb s) (Ga Hi O O O) O (Dq (E5 s.Columns) (Gf Ht O O O) O (Dq (I64 c) (G4 O O) O (Dq (Ed y9) (Gw (f:=G3.av) (xs:=s.Columns) (y:=y9) O O O H4 hy9 hm10) O (Dq (.dptr ((G3.cs y9).drop 4)) (Ga G3a O O O) O (Dq (I64 y9.Height) (Gf Gd O O O) O (Dq (BL (decide (y9.Height < r8))) (G30 O O O) O (Dq (BL (decide (y9.Height < r8))) (G4 O O) O (Do (E3 boxes) [] O .scf G (fun hc=>G4 O O) O ?_)))))))))))))
  refine Do (E2 l) [] O .scf G (fun hc=>G4 O O) O (Do (I64 c) [] O .scf G (fun hc=>G4 O O) O (Do (I64 r11) [28,29,30] O .scf ⟨Ua,Ua,Ua,G⟩ (fun hc=>Gm (args:=[E3 boxes,E2 l,I64 c,U8 2]) O (G9c boxes l c 2 r11 (Gu hc hr11)) J7f ⟨O,O,O,O,O,O,O,O,G⟩) O (Do (Eb s) [] O .scf G (fun hc=>Ga Hi O O O) O (Do (E5 s.Columns) [32] O .scf ⟨Ua,G⟩ (fun hc=>Gf Ht O O O) O (Do (I64 c) [] O .scf G (fun hc=>G4 O O) O (Do (Ed y12) [33,34] O .scf ⟨Ua,Ua,G⟩ (fun hc=>(match Jx (Gu hc hy12) with | ⟨_,hm_,hy_⟩=>Gw (f:=G3.av) (xs:=s.Columns) (y:=y12) O O O H4 hy_ hm_)) O (Do (.dptr ((G3.cs y12).drop 4)) [35] O .scf ⟨Ua,G⟩ (fun hc=>Ga G3a O O O) O (Do (I64 y12.Height) [36] O .scf ⟨Ua,G⟩ (fun hc=>Gf Gd O O O) O (Do (BL (decide (y12.Height < r11))) [31,37] O .scf ⟨Ua,Ua,G⟩ (fun hc=>G30 O O O) O (Dq (BL ((decide (y9.Height < r8))||(decide (y12.Height < r11)))) (Y4 O O O O) O (Dq (BL ((decide (y9.Height < r8))||(decide (y12.Height < r11)))) (G6 O O) O (Dnil ?_))))))))))))
  refine hK7 (Gn (fin1 BL h))

def Yq (F:Nat) (s:H0) (boxes:List Box) (l:List Stowed):Option Bool:=
 bnd (G0a F s) fun r4=>
 bif (!r4) then
 (some false)
 else
 (each (fun y8 i8 (s8:Unit) nx8=>
   bnd (Rz boxes y8.Box) fun r13=>
   bnd (bif (!(!r13.2)) then chk (r13.1.Size) some else some 0) fun v16=>
   bnd (bif (!(!r13.2)) then Yr s y8.Slot v16 else some default) fun r17=>
   bnd (bif (!((!r13.2)||(!r17))) then Yo l else some default) fun r18=>
   bnd (bif (!((!r13.2)||(!r17))) then Z5 y8.Slot r18 else some default) fun r19=>
   bif (((!r13.2)||(!r17))||(!r19)) then
   (some false)
   else
   (need (decide ((i8:Int)≤9223372036854775807)) <|
    upto (fun i39 (s39:Unit) nx39=>
     Qq l (i39:Int) fun y44=>
     bnd (bif (!(decide (y8.Box≤y44.Box))) then Qq l (i39:Int) some else some default) fun y46=>
     bnd (bif (!(decide (y8.Box≤y44.Box))) then Z4 y46.Slot y8.Slot else some default) fun r47=>
     bif ((decide (y8.Box≤y44.Box))||r47) then
     (some false)
     else
     (nx39 ()))
    (fun(s39:Unit)=>
     nx8 ()) (i8:Int).toNat 0 ()))
  (fun(s8:Unit)=>
   each (fun y62 i62 (s62:Unit) nx62=>
    bnd (Ry s boxes l (i62:Int)) fun r67=>
    bif r67 then
    (some false)
    else
    (nx62 ()))
   (fun(s62:Unit)=>
    some true) s.Columns 0 ()) l 0 ())
theorem H7a (F:Nat) (s:H0) (boxes:List Box) (l:List Stowed) (r:Bool) (h:Yq F s boxes l=some r):Pure Ei 104 [.agg (H0.cs s),E3 boxes,E2 l] (·=BL r):=by
 unfold Yq at h
 refine Gz [.tmp 6] Tryz.func104 O O (Jr fun hK1=>(JLh (.ptr 1120 0) (Je (cs:=(H0.cs s)) 1120 O O O O O) O (JLm (BL false) O (G7 (hK1 (Gx [(1,E3 boxes),(2,E2 l),(3,Eb s)] [] 1120 rfl rfl rfl G rfl (by exact⟨.conv (.same rfl),.conv (.same rfl),.ptr,G⟩) (Js fun hK2=>?_)))))))
 refine Jr fun hK3=>(JLh (.agg (H0.cs s)) (Gh Hc O O O) O ?_)
 obtain⟨r4,hr4,h⟩:=Gc h
 refine JLh (BL r4) (Gm O (H7d F s r4 hr4) Qa8 ⟨O,O,G⟩) O (JLh (BL (!r4)) (Q7 (b:=r4) O O) O (G7 (hK3 (JCc O h (fun h hb=>?_) (fun h hb=>?_)))))
 ·
  refine Jr fun hK5=>(JLm (BL false) O (G7 (hK5 (Gn (fin1 BL h)))))
 ·
  refine Gk (hK2 (Js fun hK6=>Jr fun hK7=>(JLm (I64 0) O (G7 (hK7 (Gq ?_))))))
  obtain⟨b8,kx8,hb8,hkx8,h⟩:=J3 h
  refine Hd (fun i8 (s8:Unit)=>each b8 kx8 (List.drop i8 l) i8 s8=some r) (fun i8 s8=>[(1,E3 boxes),(2,E2 l),(3,Eb s),(7,Eh i8)]) (fun i8 s8=>[]) (fun i8=>l.length - i8) 0 () h ⟨(.sm O O),G,rfl⟩ ?_
  clear h
  intro i8 s8 hi8 K8 e8
  refine Js fun hK9=>Jr fun hK10=>(JLm (Eh i8) O (JLm (E2 l) O (JLl Gt O O O fun hm17=>(JLh (BL (decide ((i8:Int) < (l.length:Int)))) (Hz O O O) O (G7 (hK10 (Gi O (fun hb=>?_) (fun hb=>?_))))))))
  ·
   have hk8:=Jj hb
   obtain⟨y8,nx8,hy8,hn8,h⟩:=Hu hi8 hk8
   replace h:=Z9 hb8 h
   refine Gk (hK9 (Js fun hK11=>Gq (Jr fun hK12=>(JLm (E3 boxes) O (JLm (E2 l) O (JLm (Eh i8) O (JLh (Ec y8) (Gw (f:=Stowed.av) (xs:=l) (y:=y8) O O O Gt hy8 O) O (JLh (Ec y8) (Ga Jc O O O) O (JLh (I64 y8.Box) (Gf Gd O O O) O ?_)))))))))
   obtain⟨r13,hr13,h⟩:=Gc h
   refine JLh (.tup [.agg (Box.cs r13.1),BL r13.2]) (Gm O (G5f boxes y8.Box r13 hr13) J21 ⟨O,O,O,O,G⟩) O (JLm (.tup [.agg (Box.cs r13.1),BL r13.2]) O (JLh (.agg (Box.cs r13.1)) (Hk O O O) O (JLh (BL r13.2) (Hk O O O) O (JLh (.ptr 1121 0) (Qo 1121 9 G4e O O) O (Jo (u:=.junk) (Jh (u:=.agg (Box.cs r13.1)) (ds:=(Box.cs r13.1)) G29 O O O O O O O O) (JLm (BL r13.2) O (G7 (hK12 ?_))))))))
   refine Gx [(1,E3 boxes),(2,E2 l),(3,Eb s),(7,Eh i8),(8,Ee r13.1),(9,BL r13.2)] [] 1121 rfl rfl rfl G rfl (by repeat' (first | exact .ptr | constructor)) (Js fun hK14=>Js fun hK15=>?_)
   obtain⟨v16,hv16,h⟩:=Gc h
   obtain⟨r17,hr17,h⟩:=Gc h
   obtain⟨r18,hr18,h⟩:=Gc h
   obtain⟨r19,hr19,h⟩:=Gc h
   refine JC_d0 J6 (by kernel_rfl) (Dq (BL r13.2) (G4 O O) O (Dq (BL (!r13.2)) (Q7 (b:=r13.2) O O) O (Dq (BL (!r13.2)) (G4 O O) O (Do (.agg (H0.cs s)) [] O .scf G (fun hc=>Gh Hc O O O) O (Do (E2 l) [] O .scf G (fun hc=>G4 O O) O (Do (Eh i8) [] O .scf G (fun hc=>G4 O O) O (Do (Ec y8) [35,36] O .scf ⟨Ua,Ua,G⟩ (fun hc=>Gw (f:=Stowed.av) (xs:=l) (y:=y8) O O O Gt hy8 O) O (Do (.dptr ((Stowed.cs y8).drop 1)) [37] O .scf ⟨Ua,G⟩ (fun hc=>Ga Ho O O O) O (Do (.agg ((Stowed.cs y8).drop 1)) [38] O .scf ⟨Ua,G⟩ (fun hc=>Gh Q4 O O O) O (Do (.dptr ((Box.cs r13.1).drop 2)) [] O .scf G (fun hc=>Ga Z8 O O O) O (Do (U8 r13.1.Size) [40] O .scf ⟨Ua,G⟩ (fun hc=>Gf J9 O O O) O (Do (I64 v16) [41] O .scf ⟨Ua,G⟩ (fun hc=>Q95 J3c Q9f (Zo (Gu hc hv16)) O O) O (Do (BL r17) [34,39,42] O .scf ⟨Ua,Ua,Ua,G⟩ (fun hc=>Gm (args:=[.agg (H0.cs s),.agg ((Stowed.cs y8).drop 1),I64 v16]) O (Gab s y8.Slot v16 r17 (Gu hc hr17)) Jd6 ⟨O,O,O,O,O,O,G⟩) O ?_)))))))))))))
   refine Do (BL (!r17)) [43] O .scf ⟨Ua,G⟩ (fun hc=>Q7 (b:=r17) O O) O (Dq (BL ((!r13.2)||(!r17))) (Y4 O O O O) O (Dq (BL ((!r13.2)||(!r17))) (G4 O O) O (Do (E2 l) [] O .scf G (fun hc=>G4 O O) O (Do (Eh i8) [] O .scf G (fun hc=>G4 O O) O (Do (Ec y8) [47,48] O .scf ⟨Ua,Ua,G⟩ (fun hc=>Gw (f:=Stowed.av) (xs:=l) (y:=y8) O O O Gt hy8 O) O (Do (.dptr ((Stowed.cs y8).drop 1)) [49] O .scf ⟨Ua,G⟩ (fun hc=>Ga Ho O O O) O (Do (.agg ((Stowed.cs y8).drop 1)) [50] O .scf ⟨Ua,G⟩ (fun hc=>Gh Q4 O O O) O (Do (E2 l) [] O .scf G (fun hc=>G4 O O) O (Do (E9 r18) [52] O .scf ⟨Ua,G⟩ (fun hc=>Gm (args:=[E2 l]) O (Gaa l r18 (Gu hc hr18)) Jd3 ⟨O,O,G⟩) O (Do (BL r19) [51,53] O .scf ⟨Ua,Ua,G⟩ (fun hc=>Gm (args:=[.agg ((Stowed.cs y8).drop 1),E9 r18]) O (Gc5 y8.Slot r18 r19 (Gu hc hr19)) Jd4 ⟨O,O,O,O,G⟩) O (Do (BL (!r19)) [54] O .scf ⟨Ua,G⟩ (fun hc=>Q7 (b:=r19) O O) O (Dq (BL (((!r13.2)||(!r17))||(!r19))) (Y4 O O O O) O (Dnil ?_)))))))))))))
   refine hK15 (JCc O h (fun h hb=>?_) (fun h hb=>?_))
   ·
    refine Jr fun hK20=>(JLm (BL false) O (G7 (hK20 (Gn (fin1 BL h)))))
   ·
    refine Gk (hK14 (Jr fun hK21=>(JLm (I64 0) O (G7 (hK21 (Gq ?_))))))
    obtain⟨hx39,h⟩:=Hr h
    obtain⟨b39,kx39,hb39,hkx39,h⟩:=G4d h
    refine Hd (fun i39 (s39:Unit)=>upto b39 kx39 ((i8:Int).toNat - i39) i39 s39=some r) (fun i39 s39=>[(1,E3 boxes),(2,E2 l),(3,Eb s),(7,Eh i8),(10,Eh i39)]) (fun i39 s39=>[]) (fun i39=>(i8:Int).toNat - i39) 0 () h ⟨(.sm O O),G,rfl⟩ ?_
    clear h
    intro i39 s39 hi39 K39 e39
    refine Js fun hK40=>Jr fun hK41=>(JLm (Eh i39) O (JLm (Eh i8) O (JLh (BL (decide ((i39:Int) < (i8:Int)))) (Hz O O O) O (G7 (hK41 (Gi O (fun hb=>?_) (fun hb=>?_)))))))
    ·
     have hk39:=G21 hb
     obtain⟨nx39,hn39,h⟩:=G1e hi39 hk39
     replace h:=Hba hb39 h
     refine Gk (hK40 (Js fun hK42=>Gq (Js fun hK43=>?_)))
     obtain⟨m45,y44,hm45,hy44,h⟩:=R1 h
     obtain⟨y46,hy46,h⟩:=Gc h
     obtain⟨r47,hr47,h⟩:=Gc h
     refine JC_d0 J6 (by kernel_rfl) (Dq (E2 l) (G4 O O) O (Dq (Eh i39) (G4 O O) O (Dq (Ec y44) (Gw (f:=Stowed.av) (xs:=l) (y:=y44) O O O Gt hy44 hm45) O (Dq (Ec y44) (Ga Jc O O O) O (Dq (I64 y44.Box) (Gf Gd O O O) O (Dq (E2 l) (G4 O O) O (Dq (Eh i8) (G4 O O) O (Dq (Ec y8) (Gw (f:=Stowed.av) (xs:=l) (y:=y8) O O O Gt hy8 O) O (Dq (Ec y8) (Ga Jc O O O) O (Dq (I64 y8.Box) (Gf Gd O O O) O (Dq (BL (decide (y8.Box≤y44.Box))) (Zf O O O) O (Dq (BL (decide (y8.Box≤y44.Box))) (G4 O O) O (Do (E2 l) [] O .scf G (fun hc=>G4 O O) O ?_)))))))))))))
     refine Do (Eh i39) [] O .scf G (fun hc=>G4 O O) O (Do (Ec y46) [74,75] O .scf ⟨Ua,Ua,G⟩ (fun hc=>(match Jx (Gu hc hy46) with | ⟨_,hm_,hy_⟩=>Gw (f:=Stowed.av) (xs:=l) (y:=y46) O O O Gt hy_ hm_)) O (Do (.dptr ((Stowed.cs y46).drop 1)) [76] O .scf ⟨Ua,G⟩ (fun hc=>Ga Ho O O O) O (Do (.agg ((Stowed.cs y46).drop 1)) [77] O .scf ⟨Ua,G⟩ (fun hc=>Gh Q4 O O O) O (Do (E2 l) [] O .scf G (fun hc=>G4 O O) O (Do (Eh i8) [] O .scf G (fun hc=>G4 O O) O (Do (Ec y8) [79,80] O .scf ⟨Ua,Ua,G⟩ (fun hc=>Gw (f:=Stowed.av) (xs:=l) (y:=y8) O O O Gt hy8 O) O (Do (.dptr ((Stowed.cs y8).drop 1)) [81] O .scf ⟨Ua,G⟩ (fun hc=>Ga Ho O O O) O (Do (.agg ((Stowed.cs y8).drop 1)) [82] O .scf ⟨Ua,G⟩ (fun hc=>Gh Q4 O O O) O (Do (BL r47) [78,83] O .scf ⟨Ua,Ua,G⟩ (fun hc=>Gm (args:=[.agg ((Stowed.cs y46).drop 1),.agg ((Stowed.cs y8).drop 1)]) O (Gc4 y46.Slot y8.Slot r47 (Gu hc hr47)) Jd5 ⟨O,O,O,O,G⟩) O (Dq (BL ((decide (y8.Box≤y44.Box))||r47)) (Y4 O O O O) O (Dnil ?_)))))))))))
     refine hK43 (JCc O h (fun h hb=>?_) (fun h hb=>?_))
     ·
      refine Jr fun hK48=>(JLm (BL false) O (G7 (hK48 (Gn (fin1 BL h)))))
     ·
      refine Gk (hK42 (G2 (JLm (Eh i39) O (JLh (I64 ((i39+1:Nat):Int)) (Hs (Hf hk39 (Zj hx39)) O O O) O (JLm (I64 ((i39+1:Nat):Int)) O (G7 (e39 _ _ (i39+1) () (app1 hn39 h) (by omega) ⟨(.sm O O),G,rfl⟩)))))))
    ·
     have h:=app1 hkx39 (G1f hi39 (Qu hb))
     refine Hn (hK11 (G2 (JLm (Eh i8) O (JLh (I64 ((i8+1:Nat):Int)) (Hs (Hf hk8 hm17) O O O) O (JLm (I64 ((i8+1:Nat):Int)) O (G7 (e8 _ _ (i8+1) () (app1 hn8 h) (by omega) ⟨(.sm O O),G,rfl⟩)))))))
  ·
   have h:=app1 hkx8 (Hv hi8 (Ha hb))
   refine Hn (hK6 (Js fun hK49=>Jr fun hK50=>(JLm (I64 0) O (G7 (hK50 (Gq ?_))))))
   obtain⟨b62,kx62,hb62,hkx62,h⟩:=J3 h
   refine Hd (fun i62 (s62:Unit)=>each b62 kx62 (List.drop i62 s.Columns) i62 s62=some r) (fun i62 s62=>[(1,E3 boxes),(2,E2 l),(3,Eb s),(11,Eh i62)]) (fun i62 s62=>[]) (fun i62=>s.Columns.length - i62) 0 () h ⟨(.sm O O),G,rfl⟩ ?_
   clear h
   intro i62 s62 hi62 K62 e62
   refine Js fun hK63=>Jr fun hK64=>(JLm (Eh i62) O (JLh (Eb s) (Ga Hi O O O) O (JLh (E5 s.Columns) (Gf Ht O O O) O (JLl H4 O O O fun hm89=>(JLh (BL (decide ((i62:Int) < (s.Columns.length:Int)))) (Hz O O O) O (G7 (hK64 (Gi O (fun hb=>?_) (fun hb=>?_)))))))))
   ·
    have hk62:=Jj hb
    obtain⟨y62,nx62,hy62,hn62,h⟩:=Hu hi62 hk62
    replace h:=Z9 hb62 h
    refine Gk (hK63 (Js fun hK65=>Gq (Jr fun hK66=>(JLh (.agg (H0.cs s)) (Gh Hc O O O) O (JLm (E3 boxes) O (JLm (E2 l) O (JLm (Eh i62) O ?_)))))))
    obtain⟨r67,hr67,h⟩:=Gc h
    refine JLh (BL r67) (Gm O (Gc2 s boxes l (i62:Int) r67 hr67) Jd2 ⟨O,O,O,O,O,O,O,O,G⟩) O (G7 (hK66 (JCc O h (fun h hb=>?_) (fun h hb=>?_))))
    ·
     refine Jr fun hK68=>(JLm (BL false) O (G7 (hK68 (Gn (fin1 BL h)))))
    ·
     refine Gk (hK65 (G2 (JLm (Eh i62) O (JLh (I64 ((i62+1:Nat):Int)) (Hs (Hf hk62 hm89) O O O) O (JLm (I64 ((i62+1:Nat):Int)) O (G7 (e62 _ _ (i62+1) () (app1 hn62 h) (by omega) ⟨(.sm O O),G,rfl⟩)))))))
   ·
    have h:=app1 hkx62 (Hv hi62 (Ha hb))
    refine Hn (hK49 (Jr fun hK69=>(JLm (BL true) O (G7 (hK69 (Gn (fin1 BL h)))))))

def Jf (F:Nat) (s:H0) (boxes:List Box) (l:List Stowed) (open_:List Int):Option Bool:=
 each (fun y25 i25 (s25:Unit) nx25=>
  bnd (bif ((!((decide (y25 < 0))||(decide ((s.Covers.length:Int)≤y25))))&&(decide (0 < (i25:Int)))) then chk ((i25:Int) - 1) some else some 0) fun v30=>
  bnd (bif ((!((decide (y25 < 0))||(decide ((s.Covers.length:Int)≤y25))))&&(decide (0 < (i25:Int)))) then Qq open_ v30 some else some default) fun y31=>
  bif (((decide (y25 < 0))||(decide ((s.Covers.length:Int)≤y25)))||((decide (0 < (i25:Int)))&&(decide (y25≤y31)))) then
  (some false)
  else
  (nx25 ()))
 (fun(s25:Unit)=>
  bnd (Yq F s boxes l) fun r34=>
  some r34) open_ 0 ()
theorem G08 (F:Nat) (s:H0) (boxes:List Box) (l:List Stowed) (open_:List Int) (r:Bool) (h:Jf F s boxes l open_=some r):Pure Ei 50 [.agg (H0.cs s),E3 boxes,E2 l,E1 open_] (·=BL r):=by
 unfold Jf at h
 refine Gz [.tmp 8] Tryz.func50 O O (Jr fun hK1=>(JLh (.ptr 1068 0) (Je (cs:=(H0.cs s)) 1068 O O O O O) O (JLm (BL false) O (G7 (hK1 (Gx [(1,E3 boxes),(2,E2 l),(3,E1 open_),(4,Eb s)] [] 1068 rfl rfl rfl G rfl (by repeat' (first | exact .ptr | constructor)) (Js fun hK2=>?_)))))))
 refine Jr fun hK3=>(JLm (I64 0) O (G7 (hK3 (Gq ?_))))
 obtain⟨b25,kx25,hb25,hkx25,h⟩:=J3 h
 refine Hd (fun i25 (s25:Unit)=>each b25 kx25 (List.drop i25 open_) i25 s25=some r) (fun i25 s25=>[(1,E3 boxes),(2,E2 l),(3,E1 open_),(4,Eb s),(9,Eh i25)]) (fun i25 s25=>[]) (fun i25=>open_.length - i25) 0 () h ⟨(.sm O O),G,rfl⟩ ?_
 clear h
 intro i25 s25 hi25 K25 e25
 refine Js fun hK26=>Jr fun hK27=>(JLm (Eh i25) O (JLm (E1 open_) O (JLl Gs O O O fun hm12=>(JLh (BL (decide ((i25:Int) < (open_.length:Int)))) (Hz O O O) O (G7 (hK27 (Gi O (fun hb=>?_) (fun hb=>?_))))))))
 ·
  have hk25:=Jj hb
  obtain⟨y25,nx25,hy25,hn25,h⟩:=Hu hi25 hk25
  replace h:=Z9 hb25 h
  refine Gk (hK26 (Js fun hK28=>Gq (Js fun hK29=>?_)))
  obtain⟨v30,hv30,h⟩:=Gc h
  obtain⟨y31,hy31,h⟩:=Gc h
  refine JC_d0 J6 (by kernel_rfl) (Dq (E1 open_) (G4 O O) O (Dq (Eh i25) (G4 O O) O (Dq (.dptr [I64 y25]) (Gw (f:=I64) (xs:=open_) (y:=y25) O O O Gs hy25 O) O (Dq (I64 y25) (Gf Gd O O O) O (Dq (BL (decide (y25 < 0))) (Hz O O O) O (Dq (BL (decide (y25 < 0))) (G4 O O) O (Do (E1 open_) [] O .scf G (fun hc=>G4 O O) O (Do (Eh i25) [] O .scf G (fun hc=>G4 O O) O (Do (.dptr [I64 y25]) [22,23] O .scf ⟨Ua,Ua,G⟩ (fun hc=>Gw (f:=I64) (xs:=open_) (y:=y25) O O O Gs hy25 O) O (Do (I64 y25) [24] O .scf ⟨Ua,G⟩ (fun hc=>Gf Gd O O O) O (Do (.dptr [E4 s.Covers,I64 s.Light.Kilos,I64 s.Light.X,I64 s.Light.Y,I64 s.Light.Z,E7 s.Rows,E6 s.Frames,E8 s.Tanks,I64 s.G1.Tolerance,I64 s.G1.Trim,I64 s.G1.List_,I64 s.G1.Stability]) [] O .scf G (fun hc=>Ga J0 O O O) O (Do (E4 s.Covers) [26] O .scf ⟨Ua,G⟩ (fun hc=>Gf J8 O O O) O (Do (Eh s.Covers.length) [27] O .scf ⟨Ua,G⟩ (fun hc=>Qe (f:=G9.av) (xs:=s.Covers) He O O) O ?_)))))))))))))
  refine Do (BL (decide ((s.Covers.length:Int)≤y25))) [25,28] O .scf ⟨Ua,Ua,G⟩ (fun hc=>Zf O O O) O (Dq (BL ((decide (y25 < 0))||(decide ((s.Covers.length:Int)≤y25)))) (Y4 O O O O) O (Dq (BL ((decide (y25 < 0))||(decide ((s.Covers.length:Int)≤y25)))) (G4 O O) O (Do (Eh i25) [] O .scf G (fun hc=>G4 O O) O (Do (BL (decide (0 < (i25:Int)))) [32] O .scf ⟨Ua,G⟩ (fun hc=>G30 O O O) O (Do (BL (decide (0 < (i25:Int)))) [33] O .scf ⟨Ua,G⟩ (fun hc=>G4 O O) O (Do (E1 open_) [] O .optt G (fun hc=>G4 O O) O (Do (Eh i25) [] O .optt G (fun hc=>G4 O O) O (Do (I64 v30) [36] O .optt ⟨Ua,G⟩ (fun hc=>Gcc (Zo (Gu hc hv30)) O O O) O (Do (.dptr [I64 y31]) [35,37] O .optt ⟨Ua,Ua,G⟩ (fun hc=>(match Jx (Gu hc hy31) with | ⟨_,hm_,hy_⟩=>Gw (f:=I64) (xs:=open_) (y:=y31) O O O Gs hy_ hm_)) O (Do (I64 y31) [38] O .optt ⟨Ua,G⟩ (fun hc=>Gf Gd O O O) O (Do (E1 open_) [] O .optt G (fun hc=>G4 O O) O (Do (Eh i25) [] O .optt G (fun hc=>G4 O O) O (Do (.dptr [I64 y25]) [40,41] O .optt ⟨Ua,Ua,G⟩ (fun hc=>Gw (f:=I64) (xs:=open_) (y:=y25) O O O Gs hy25 O) O ?_)))))))))))))
  refine Do (I64 y25) [42] O .optt ⟨Ua,G⟩ (fun hc=>Gf Gd O O O) O (Do (BL (decide (y25≤y31))) [39,43] O .optt ⟨Ua,Ua,G⟩ (fun hc=>Zf O O O) O (Dg (.opt (!((decide (y25 < 0))||(decide ((s.Covers.length:Int)≤y25)))) (BL ((decide (0 < (i25:Int)))&&(decide (y25≤y31))))) (Ge [(34,BL (decide (0 < (i25:Int)))),(44,_)] O O O .scf ⟨.all id,.part,G⟩ (fun hc=>Hy O O O O) O) O (Dq (BL (((decide (y25 < 0))||(decide ((s.Covers.length:Int)≤y25)))||((decide (0 < (i25:Int)))&&(decide (y25≤y31))))) (Y4 O O O O) O (Dnil (hK29 (JCc O h (fun h hb=>?_) (fun h hb=>?_)))))))
  ·
   refine Jr fun hK32=>(JLm (BL false) O (G7 (hK32 (Gn (fin1 BL h)))))
  ·
   refine Gk (hK28 (G2 (JLm (Eh i25) O (JLh (I64 ((i25+1:Nat):Int)) (Hs (Hf hk25 hm12) O O O) O (JLm (I64 ((i25+1:Nat):Int)) O (G7 (e25 _ _ (i25+1) () (app1 hn25 h) (by omega) ⟨(.sm O O),G,rfl⟩)))))))
 ·
  have h:=app1 hkx25 (Hv hi25 (Ha hb))
  refine Hn (hK2 (Jr fun hK33=>(JLh (.agg (H0.cs s)) (Gh Hc O O O) O (JLm (E3 boxes) O (JLm (E2 l) O ?_)))))
  obtain⟨r34,hr34,h⟩:=Gc h
  refine JLh (BL r34) (Gm O (H7a F s boxes l r34 hr34) Qbb ⟨O,O,O,O,O,O,G⟩) O (JLm (BL r34) O (G7 (hK33 (Gn (fin1 BL h)))))

def R4 (l:List Stowed) (id_:Int):Option Int:=
 each (fun y17 i17 (s17:Unit) nx17=>
  bif decide (y17.Box=id_) then
  (some (i17:Int))
  else
  (nx17 ()))
 (fun(s17:Unit)=>
  some (-1)) l 0 ()
theorem G78 (l:List Stowed) (id_:Int) (r:Int) (h:R4 l id_=some r):Pure Ei 52 [E2 l,I64 id_] (·=I64 r):=by
 unfold R4 at h
 refine Gz [.tmp 4] Tryz.func52 O O (Jr fun hK1=>(JLm (I64 0) O (G7 (hK1 (Js fun hK2=>Jr fun hK3=>(JLm (I64 0) O (G7 (hK3 (Gq ?_)))))))))
 obtain⟨b17,kx17,hb17,hkx17,h⟩:=J3 h
 refine Hd (fun i17 (s17:Unit)=>each b17 kx17 (List.drop i17 l) i17 s17=some r) (fun i17 s17=>[(0,E2 l),(1,I64 id_),(5,Eh i17)]) (fun i17 s17=>[]) (fun i17=>l.length - i17) 0 () h ⟨(.sm O O),G,O⟩ ?_
 clear h
 intro i17 s17 hi17 K17 e17
 refine Js fun hK18=>Jr fun hK19=>(JLm (Eh i17) O (JLm (E2 l) O (JLl Gt O O O fun hm8=>(JLh (BL (decide ((i17:Int) < (l.length:Int)))) (Hz O O O) O (G7 (hK19 (Gi O (fun hb=>?_) (fun hb=>?_))))))))
 ·
  have hk17:=Jj hb
  obtain⟨y17,nx17,hy17,hn17,h⟩:=Hu hi17 hk17
  replace h:=Z9 hb17 h
  refine Gk (hK18 (Js fun hK20=>Gq (Jr fun hK21=>(JLm (E2 l) O (JLm (Eh i17) O (JLh (Ec y17) (Gw (f:=Stowed.av) (xs:=l) (y:=y17) O O O Gt hy17 O) O (JLh (Ec y17) (Ga Jc O O O) O (JLh (I64 y17.Box) (Gf Gd O O O) O (JLm (I64 id_) O (JLh (BL (decide (y17.Box=id_))) (Jw O O O) O (G7 (hK21 (JCc O h (fun h hb=>?_) (fun h hb=>?_))))))))))))))
  ·
   refine Jr fun hK22=>(JLm (Eh i17) O (JLm (Eh i17) O (G7 (hK22 (Gn (fin1 I64 h))))))
  ·
   refine Gk (hK20 (G2 (JLm (Eh i17) O (JLh (I64 ((i17+1:Nat):Int)) (Hs (Hf hk17 hm8) O O O) O (JLm (I64 ((i17+1:Nat):Int)) O (G7 (e17 _ _ (i17+1) () (app1 hn17 h) (by omega) ⟨(.sm O O),G,rfl⟩)))))))
 ·
  have h:=app1 hkx17 (Hv hi17 (Ha hb))
  refine Hn (hK2 (Jr fun hK23=>(JLm (I64 (-1)) O (G7 (hK23 (Gn (fin1 I64 h)))))))

def G12 (a:Slot) (b:Slot):Option Bool:=
 bnd (bif ((decide (a.G3=b.G3))&&(decide (b.Tier < a.Tier))) then R8 a.Half b.Half else some default) fun r3=>
 some (((decide (a.G3=b.G3))&&(decide (b.Tier < a.Tier)))&&r3)
theorem H94 (a:Slot) (b:Slot) (r:Bool) (h:G12 a b=some r):Pure Ei 111 [.agg [I64 a.G3,I64 a.Tier,U8 a.Half],.agg [I64 b.G3,I64 b.Tier,U8 b.Half]] (·=BL r):=by
 unfold G12 at h
 refine Gz [.tmp 4] Tryz.func111 O O (Jr fun hK1=>(JLh (.ptr 1126 0) (Je (cs:=[I64 a.G3,I64 a.Tier,U8 a.Half]) 1126 O O O O O) O (JLh (.ptr 1127 0) (Je (cs:=[I64 b.G3,I64 b.Tier,U8 b.Half]) 1127 O O O O O) O (JLm (BL false) O (G7 (hK1 (Gx [(2,.dptr [I64 a.G3,I64 a.Tier,U8 a.Half]),(3,.ptr 1127 0)] [(1127,.box 37 [I64 b.G3,I64 b.Tier,U8 b.Half])] 1126 rfl rfl rfl ⟨⟨_,rfl,.boxEq rfl rfl⟩,G⟩ rfl (by exact⟨.ptr,.conv (.same rfl),G⟩) (Gx [(2,.dptr [I64 a.G3,I64 a.Tier,U8 a.Half]),(3,.dptr [I64 b.G3,I64 b.Tier,U8 b.Half])] [] 1127 rfl rfl rfl G rfl (by exact⟨.conv (.same rfl),.ptr,G⟩) ?_))))))))
 refine Jr fun hK2=>(JLh (.dptr [I64 a.G3,I64 a.Tier,U8 a.Half]) (Ga J2 O O O) O (JLh (I64 a.G3) (Gf Gd O O O) O (JLh (.dptr [I64 b.G3,I64 b.Tier,U8 b.Half]) (Ga J2 O O O) O (JLh (I64 b.G3) (Gf Gd O O O) O (JLh (BL (decide (a.G3=b.G3))) (Jw O O O) O (JLm (BL (decide (a.G3=b.G3))) O (JLo (.dptr [I64 a.Tier,U8 a.Half]) [] O .sct G (fun hc=>Ga Qi O O O) O (JLo (I64 a.Tier) [11] O .sct ⟨Ua,G⟩ (fun hc=>Gf Gd O O O) O (JLo (.dptr [I64 b.Tier,U8 b.Half]) [] O .sct G (fun hc=>Ga Qi O O O) O (JLo (I64 b.Tier) [13] O .sct ⟨Ua,G⟩ (fun hc=>Gf Gd O O O) O (JLo (BL (decide (b.Tier < a.Tier))) [12,14] O .sct ⟨Ua,Ua,G⟩ (fun hc=>G30 O O O) O (JLh (BL ((decide (a.G3=b.G3))&&(decide (b.Tier < a.Tier)))) (Hy O O O O) O (JLm (BL ((decide (a.G3=b.G3))&&(decide (b.Tier < a.Tier)))) O ?_)))))))))))))
 refine JLo (.dptr [U8 a.Half]) [] O .sct G (fun hc=>Ga Ju O O O) O (JLo (U8 a.Half) [18] O .sct ⟨Ua,G⟩ (fun hc=>Gf J9 O O O) O (JLo (.dptr [U8 b.Half]) [] O .sct G (fun hc=>Ga Ju O O O) O (JLo (U8 b.Half) [20] O .sct ⟨Ua,G⟩ (fun hc=>Gf J9 O O O) O ?_)))
 obtain⟨r3,hr3,h⟩:=Gc h
 refine JLo (BL r3) [19,21] O .sct ⟨Ua,Ua,G⟩ (fun hc=>Gm (args:=[U8 a.Half,U8 b.Half]) O (G9d a.Half b.Half r3 (Gu hc hr3)) J80 ⟨O,O,O,O,G⟩) O (JLh (BL (((decide (a.G3=b.G3))&&(decide (b.Tier < a.Tier)))&&r3)) (Hy O O O O) O (JLm (BL (((decide (a.G3=b.G3))&&(decide (b.Tier < a.Tier)))&&r3)) O (G7 (hK2 (Gn (fin1 BL h))))))

def G09 (l:List Stowed) (id_:Int):Option ((List Int)×Int):=
 bnd (R4 l id_) fun r3=>
 bif decide (r3 < 0) then
 (some ([],6))
 else
 (each (fun y33 i33 (s33:(List Int)) nx33=>
   jp (fun kj36=>
    Qq l r3 fun y38=>
    bnd (G12 y33.Slot y38.Slot) fun r40=>
    bif r40 then
    (need (decide ((s33.length+[y33.Box].length)*8≤140737488355328∧s33.length+[y33.Box].length≤maxLen)) <|
     kj36 (s33++[y33.Box]))
    else
    (kj36 s33)) fun(j36:(List Int))=>
   nx33 j36)
  (fun(s33:(List Int))=>
   some (s33,0)) l 0 [])
theorem H7c (l:List Stowed) (id_:Int) (r:(List Int)×Int) (h:G09 l id_=some r):Pure Ei 63 [E2 l,I64 id_] (·=.tup [E1 r.1,I64 r.2]):=by
 unfold G09 at h
 refine Gz [.tmp 4,.tmp 5] Tryz.func63 O O (Jr fun hK1=>(JLh (E1 ([]:List Int)) (Hb 1 O O) O (JLm (I64 0) O (G7 (hK1 (Jr fun hK2=>(JLm (E2 l) O (JLm (I64 id_) O ?_))))))))
 obtain⟨r3,hr3,h⟩:=Gc h
 refine JLh (I64 r3) (Gm O (G78 l id_ r3 hr3) J20 ⟨O,O,O,O,G⟩) O (JLm (I64 r3) O (G7 (hK2 (Js fun hK4=>Jr fun hK5=>(JLm (I64 r3) O (JLh (BL (decide (r3 < 0))) (Hz O O O) O (G7 (hK5 (JCc O h (fun h hb=>?_) (fun h hb=>?_))))))))))
 ·
  refine Jr fun hK6=>(JLh (E1 ([]:List Int)) (Hb 1 O O) O (JLm (I64 6) O (G7 (hK6 (Gn (⟨[E1 ([]:List Int),I64 6],[],G,O,⟨⟨_,O,.conv (.same O)⟩,⟨_,O,.conv (.same O)⟩,G⟩,O,congrArg (fun r:(List Int)×Int=>(.tup [E1 r.1,I64 r.2]:AV)) (Option.some.inj h)⟩))))))
 ·
  refine Gk (hK4 (Jr fun hK7=>(JLh (OW 1081 1 I64 ([]:List Int)) (G6e 1081 3 1 O O O) O (G7 (hK7 (Js fun hK8=>Jr fun hK9=>(JLm (I64 0) O (G7 (hK9 (Gq ?_))))))))))
  obtain⟨b33,kx33,hb33,hkx33,h⟩:=J3 h
  refine Hd (fun i33 (s33:(List Int))=>each b33 kx33 (List.drop i33 l) i33 s33=some r) (fun i33 s33=>[(0,E2 l),(6,I64 r3),(7,OW 1081 1 I64 s33),(8,Eh i33)]) (fun i33 s33=>[(1081,.spare 3 1 s33.length s33.length)]) (fun i33=>l.length - i33) 0 [] h ⟨(.sm O O),⟨⟨_,rfl,.same⟩,G⟩,rfl⟩ ?_
  clear h
  intro i33 s33 hi33 K33 e33
  refine Js fun hK34=>Jr fun hK35=>(JLm (Eh i33) O (JLm (E2 l) O (JLl Gt O O O fun hm16=>(JLh (BL (decide ((i33:Int) < (l.length:Int)))) (Hz O O O) O (G7 (hK35 (Gi O (fun hb=>?_) (fun hb=>?_))))))))
  ·
   have hk33:=Jj hb
   obtain⟨y33,nx33,hy33,hn33,h⟩:=Hu hi33 hk33
   replace h:=Z9 hb33 h
   refine Gk (hK34 ?_)
   obtain⟨kj36,hkj36,h⟩:=G84 h
   refine G57 (fun j36:(List Int)=>kj36 j36=some r) (fun j36=>[(0,E2 l),(6,I64 r3),(7,OW 1081 1 I64 j36),(8,Eh i33)]) (fun j36=>[(1081,.spare 3 1 j36.length j36.length)]) (fun Kj36 ej36=>?_) ?_
   ·
    refine Gq (Js fun hK37=>G67 (l':=[(0,E2 l),(6,I64 r3),(7,OW 1081 1 I64 s33),(8,Eh i33)]) (L':=[(1081,.spare 3 1 s33.length s33.length)]) ⟨(.sm O O),⟨⟨_,rfl,.same⟩,G⟩,rfl⟩ ?_)
    obtain⟨m39,y38,hm39,hy38,h⟩:=R1 h
    obtain⟨r40,hr40,h⟩:=Gc h
    refine JC_d0 J6 (by kernel_rfl) (Dq (E2 l) (G4 O O) O (Dq (Eh i33) (G4 O O) O (Dq (Ec y33) (Gw (f:=Stowed.av) (xs:=l) (y:=y33) O O O Gt hy33 O) O (Dq (.dptr ((Stowed.cs y33).drop 1)) (Ga Ho O O O) O (Dq (.agg ((Stowed.cs y33).drop 1)) (Gh Q4 O O O) O (Dq (E2 l) (G4 O O) O (Dq (I64 r3) (G4 O O) O (Dq (Ec y38) (Gw (f:=Stowed.av) (xs:=l) (y:=y38) O O O Gt hy38 hm39) O (Dq (.dptr ((Stowed.cs y38).drop 1)) (Ga Ho O O O) O (Dq (.agg ((Stowed.cs y38).drop 1)) (Gh Q4 O O O) O (Dq (BL r40) (Gm (args:=[.agg ((Stowed.cs y33).drop 1),.agg ((Stowed.cs y38).drop 1)]) O (H94 y33.Slot y38.Slot r40 hr40) Qb8 ⟨O,O,O,O,G⟩) O (Dnil (hK37 ?_)))))))))))))
    refine JCc O h ?_ ?_<;>intro h hb
    ·
     refine G2 (JLm (OW 1081 1 I64 s33) O (JLm (E2 l) O (JLm (Eh i33) O (JLh (Ec y33) (Gw (f:=Stowed.av) (xs:=l) (y:=y33) O O O Gt hy33 O) O (JLh (Ec y33) (Ga Jc O O O) O (JLh (I64 y33.Box) (Gf Gd O O O) O (JLh (E1 [y33.Box]) (Hj (xs:=[I64 y33.Box]) O ⟨O,O,G⟩ Gs Rw O O O O) O ?_)))))))
     obtain⟨ha41,h⟩:=Hr h
     refine JLh (OW 1081 1 I64 (s33++[y33.Box])) (Qt (f:=I64) (xs:=s33) (ys:=[y33.Box]) O O O O Gs Zm ha41 (fun _=>O) (.inl O) O) O (JLm (OW 1081 1 I64 (s33++[y33.Box])) O (G7 (ej36 _ _ (s33++[y33.Box]) h ⟨(.sm O O),⟨⟨_,rfl,.same⟩,G⟩,rfl⟩)))
    ·
     refine Gk (ej36 _ _ s33 h ⟨(.sm O O),⟨⟨_,rfl,.same⟩,G⟩,rfl⟩)
   ·intro j36 h
    replace h:=app1 hkj36 h
    refine G2 (JLm (Eh i33) O (JLh (I64 ((i33+1:Nat):Int)) (Hs (Hf hk33 hm16) O O O) O (JLm (I64 ((i33+1:Nat):Int)) O (G7 (e33 _ _ (i33+1) j36 (app1 hn33 h) (by omega) ⟨(.sm O O),⟨⟨_,rfl,.same⟩,G⟩,rfl⟩)))))
  ·
   have h:=app1 hkx33 (Hv hi33 (Ha hb))
   refine Hn (hK8 (Jr fun hK42=>(JLm (OW 1081 1 I64 s33) O (JLm (OW 1081 1 I64 s33) O (JLm (I64 0) O (G7 (hK42 (Gn (⟨[E1 s33,I64 0],[],G,O,⟨⟨_,O,.conv (.list O)⟩,⟨_,O,.conv (.same O)⟩,G⟩,O,congrArg (fun r:(List Int)×Int=>(.tup [E1 r.1,I64 r.2]:AV)) (Option.some.inj h)⟩)))))))))

def Qk (s:H0) (column:Int):Option Int:=
 bif ((decide (column < 0))||(decide ((s.Columns.length:Int)≤column))) then
 (some (-1))
 else
 (each (fun y30 i30 (s30:Unit) nx30=>
   Qq s.Columns column fun y35=>
   bnd (bif decide (y30.Bay=y35.Bay) then Qq s.Columns column some else some default) fun y37=>
   bnd (bif decide (y30.Bay=y35.Bay) then Qf y30.Rows y37.Row else some default) fun r38=>
   bif ((decide (y30.Bay=y35.Bay))&&r38) then
   (some (i30:Int))
   else
   (nx30 ()))
  (fun(s30:Unit)=>
   some (-1)) s.Covers 0 ())
abbrev Kb (s:H0):List AV:=[E4 s.Covers,I64 s.Light.Kilos,I64 s.Light.X,I64 s.Light.Y,I64 s.Light.Z,E7 s.Rows,E6 s.Frames,E8 s.Tanks,I64 s.G1.Tolerance,I64 s.G1.Trim,I64 s.G1.List_,I64 s.G1.Stability]
theorem G42 (s:H0) (column:Int) (r:Int) (h:Qk s column=some r):Pure Ei 54 [.agg (H0.cs s),I64 column] (·=I64 r):=by
 unfold Qk at h
 refine Gz [.tmp 4] Tryz.func54 O O (Jr fun hK1=>(JLh (.ptr 1072 0) (Je (cs:=(H0.cs s)) 1072 O O O O O) O (JLm (I64 0) O (G7 (hK1 (Gx [(1,I64 column),(2,Eb s)] [] 1072 rfl rfl rfl G rfl (by exact⟨.conv (.same rfl),.ptr,G⟩) (Js fun hK2=>?_)))))))
 refine Jr fun hK3=>(JLm (I64 column) O (JLh (BL (decide (column < 0))) (Hz O O O) O (JLm (BL (decide (column < 0))) O (JLo (I64 column) [] O .scf G (fun hc=>G4 O O) O (JLo (Eb s) [] O .scf G (fun hc=>Ga Hi O O O) O (JLo (E5 s.Columns) [10] O .scf ⟨Ua,G⟩ (fun hc=>Gf Ht O O O) O (JLo (Eh s.Columns.length) [11] O .scf ⟨Ua,G⟩ (fun hc=>Qe (f:=G3.av) (xs:=s.Columns) H4 O O) O (JLo (BL (decide ((s.Columns.length:Int)≤column))) [9,12] O .scf ⟨Ua,Ua,G⟩ (fun hc=>Zf O O O) O (JLh (BL ((decide (column < 0))||(decide ((s.Columns.length:Int)≤column)))) (Y4 O O O O) O (G7 (hK3 ?_)))))))))))
 refine JCc O h ?_ ?_<;>intro h hb
 ·
  refine Jr fun hK4=>(JLm (I64 (-1)) O (G7 (hK4 (Gn (fin1 I64 h)))))
 ·
  refine Gk (hK2 (Js fun hK5=>Jr fun hK6=>(JLm (I64 0) O (G7 (hK6 (Gq ?_))))))
  obtain⟨b30,kx30,hb30,hkx30,h⟩:=J3 h
  refine Hd (fun i30 (s30:Unit)=>each b30 kx30 (List.drop i30 s.Covers) i30 s30=some r) (fun i30 s30=>[(1,I64 column),(2,Eb s),(5,Eh i30)]) (fun i30 s30=>[]) (fun i30=>s.Covers.length - i30) 0 () h ⟨(.sm O O),G,O⟩ ?_
  clear h
  intro i30 s30 hi30 K30 e30
  refine Js fun hK31=>Jr fun hK32=>(JLm (Eh i30) O (JLh (.dptr (Kb s)) (Ga J0 O O O) O (JLh (E4 s.Covers) (Gf J8 O O O) O (JLl He O O O fun hm18=>(JLh (BL (decide ((i30:Int) < (s.Covers.length:Int)))) (Hz O O O) O (G7 (hK32 (Gi O (fun hb=>?_) (fun hb=>?_)))))))))
  ·
   have hk30:=Jj hb
   obtain⟨y30,nx30,hy30,hn30,h⟩:=Hu hi30 hk30
   replace h:=Z9 hb30 h
   refine Gk (hK31 (Js fun hK33=>Gq (Js fun hK34=>?_)))
   obtain⟨m36,y35,hm36,hy35,h⟩:=R1 h
   obtain⟨y37,hy37,h⟩:=Gc h
   obtain⟨r38,hr38,h⟩:=Gc h
   refine JC_d0 J6 (by kernel_rfl) (Dq (.dptr (Kb s)) (Ga J0 O O O) O (Dq (E4 s.Covers) (Gf J8 O O O) O (Dq (Eh i30) (G4 O O) O (Dq (.dptr [I64 y30.Bay,E1 y30.Rows]) (Gw (f:=G9.av) (xs:=s.Covers) (y:=y30) O O O He hy30 O) O (Dq (.dptr [I64 y30.Bay,E1 y30.Rows]) (Ga G04 O O O) O (Dq (I64 y30.Bay) (Gf Gd O O O) O (Dq (Eb s) (Ga Hi O O O) O (Dq (E5 s.Columns) (Gf Ht O O O) O (Dq (I64 column) (G4 O O) O (Dq (Ed y35) (Gw (f:=G3.av) (xs:=s.Columns) (y:=y35) O O O H4 hy35 hm36) O (Dq (Ed y35) (Ga G19 O O O) O (Dq (I64 y35.Bay) (Gf Gd O O O) O (Dq (BL (decide (y30.Bay=y35.Bay))) (Jw O O O) O ?_)))))))))))))
   refine Dq (BL (decide (y30.Bay=y35.Bay))) (G4 O O) O (Do (.dptr (Kb s)) [] O .sct G (fun hc=>Ga J0 O O O) O (Do (E4 s.Covers) [36] O .sct ⟨Ua,G⟩ (fun hc=>Gf J8 O O O) O (Do (Eh i30) [] O .sct G (fun hc=>G4 O O) O (Do (.dptr [I64 y30.Bay,E1 y30.Rows]) [37,38] O .sct ⟨Ua,Ua,G⟩ (fun hc=>Gw (f:=G9.av) (xs:=s.Covers) (y:=y30) O O O He hy30 O) O (Do (.dptr [E1 y30.Rows]) [39] O .sct ⟨Ua,G⟩ (fun hc=>Ga Q5 O O O) O (Do (E1 y30.Rows) [40] O .sct ⟨Ua,G⟩ (fun hc=>Gf Hw O O O) O (Do (Eb s) [] O .sct G (fun hc=>Ga Hi O O O) O (Do (E5 s.Columns) [42] O .sct ⟨Ua,G⟩ (fun hc=>Gf Ht O O O) O (Do (I64 column) [] O .sct G (fun hc=>G4 O O) O (Do (Ed y37) [43,44] O .sct ⟨Ua,Ua,G⟩ (fun hc=>(match Jx (Gu hc hy37) with | ⟨_,hm_,hy_⟩=>Gw (f:=G3.av) (xs:=s.Columns) (y:=y37) O O O H4 hy_ hm_)) O (Do (.dptr ((G3.cs y37).drop 1)) [45] O .sct ⟨Ua,G⟩ (fun hc=>Ga G18 O O O) O (Do (I64 y37.Row) [46] O .sct ⟨Ua,G⟩ (fun hc=>Gf Gd O O O) O (Do (BL r38) [41,47] O .sct ⟨Ua,Ua,G⟩ (fun hc=>Gm (args:=[E1 y30.Rows,I64 y37.Row]) O (G9e y30.Rows y37.Row r38 (Gu hc hr38)) J81 ⟨O,O,O,O,G⟩) O ?_)))))))))))))
   refine Dq (BL ((decide (y30.Bay=y35.Bay))&&r38)) (Hy O O O O) O (Dnil (hK34 (JCc O h (fun h hb=>?_) (fun h hb=>?_))))
   ·
    refine Jr fun hK39=>(JLm (Eh i30) O (JLm (Eh i30) O (G7 (hK39 (Gn (fin1 I64 h))))))
   ·
    refine Gk (hK33 (G2 (JLm (Eh i30) O (JLh (I64 ((i30+1:Nat):Int)) (Hs (Hf hk30 hm18) O O O) O (JLm (I64 ((i30+1:Nat):Int)) O (G7 (e30 _ _ (i30+1) () (app1 hn30 h) (by omega) ⟨(.sm O O),G,rfl⟩)))))))
  ·
   have h:=app1 hkx30 (Hv hi30 (Ha hb))
   refine Hn (hK5 (Jr fun hK40=>(JLm (I64 (-1)) O (G7 (hK40 (Gn (fin1 I64 h)))))))

def Yp (s:H0) (column:Int):Option Int:=
 Qq s.Columns column fun y4=>
 bif y4.Deck then
 (some (-1))
 else
 (bnd (Qk s column) fun r8=>
  some r8)
theorem H79 (s:H0) (column:Int) (r:Int) (h:Yp s column=some r):Pure Ei 64 [.agg (H0.cs s),I64 column] (·=I64 r):=by
 unfold Yp at h
 refine Gz [.tmp 4] Tryz.func64 O O (Jr fun hK1=>(JLh (.ptr 1082 0) (Je (cs:=(H0.cs s)) 1082 O O O O O) O (JLm (I64 0) O (G7 (hK1 (Gx [(1,I64 column),(2,Eb s)] [] 1082 rfl rfl rfl G rfl (by exact⟨.conv (.same rfl),.ptr,G⟩) (Js fun hK2=>?_)))))))
 refine Jr fun hK3=>(JLh (Eb s) (Ga Hi O O O) O (JLh (E5 s.Columns) (Gf Ht O O O) O (JLm (I64 column) O ?_)))
 obtain⟨m5,y4,hm5,hy4,h⟩:=R1 h
 refine JLh (Ed y4) (Gw (f:=G3.av) (xs:=s.Columns) (y:=y4) O O O H4 hy4 hm5) O (JLh (.dptr ((G3.cs y4).drop 2)) (Ga Yj O O O) O (JLh (BL y4.Deck) (Gf Yc O O O) O (G7 (hK3 (JCc O h (fun h hb=>?_) (fun h hb=>?_))))))
 ·
  refine Jr fun hK6=>(JLm (I64 (-1)) O (G7 (hK6 (Gn (fin1 I64 h)))))
 ·
  refine Gk (hK2 (Jr fun hK7=>(JLh (.agg (H0.cs s)) (Gh Hc O O O) O (JLm (I64 column) O ?_))))
  obtain⟨r8,hr8,h⟩:=Gc h
  refine JLh (I64 r8) (Gm O (G42 s column r8 hr8) J1f ⟨O,O,O,O,G⟩) O (JLm (I64 r8) O (G7 (hK7 (Gn (fin1 I64 h)))))

def Jn (open_:List Int) (cover:Int):Option Bool:=
 each (fun y17 i17 (s17:Unit) nx17=>
  bif decide (y17=cover) then
  (some true)
  else
  (nx17 ()))
 (fun(s17:Unit)=>
  some false) open_ 0 ()
theorem Yu (open_:List Int) (cover:Int) (r:Bool) (h:Jn open_ cover=some r):Pure Ei 55 [E1 open_,I64 cover] (·=BL r):=by
 unfold Jn at h
 refine Gz [.tmp 4] Tryz.func55 O O (Jr fun hK1=>(JLm (BL false) O (G7 (hK1 (Js fun hK2=>Jr fun hK3=>(JLm (I64 0) O (G7 (hK3 (Gq ?_)))))))))
 obtain⟨b17,kx17,hb17,hkx17,h⟩:=J3 h
 refine Hd (fun i17 (s17:Unit)=>each b17 kx17 (List.drop i17 open_) i17 s17=some r) (fun i17 s17=>[(0,E1 open_),(1,I64 cover),(5,Eh i17)]) (fun i17 s17=>[]) (fun i17=>open_.length - i17) 0 () h ⟨(.sm O O),G,O⟩ ?_
 clear h
 intro i17 s17 hi17 K17 e17
 refine Js fun hK18=>Jr fun hK19=>(JLm (Eh i17) O (JLm (E1 open_) O (JLl Gs O O O fun hm8=>(JLh (BL (decide ((i17:Int) < (open_.length:Int)))) (Hz O O O) O (G7 (hK19 (Gi O (fun hb=>?_) (fun hb=>?_))))))))
 ·
  have hk17:=Jj hb
  obtain⟨y17,nx17,hy17,hn17,h⟩:=Hu hi17 hk17
  replace h:=Z9 hb17 h
  refine Gk (hK18 (Js fun hK20=>Gq (Jr fun hK21=>(JLm (E1 open_) O (JLm (Eh i17) O (JLh (.dptr [I64 y17]) (Gw (f:=I64) (xs:=open_) (y:=y17) O O O Gs hy17 O) O (JLh (I64 y17) (Gf Gd O O O) O (JLm (I64 cover) O (JLh (BL (decide (y17=cover))) (Jw O O O) O (G7 (hK21 (JCc O h (fun h hb=>?_) (fun h hb=>?_)))))))))))))
  ·
   refine Jr fun hK22=>(JLm (BL true) O (G7 (hK22 (Gn (fin1 BL h)))))
  ·
   refine Gk (hK20 (G2 (JLm (Eh i17) O (JLh (I64 ((i17+1:Nat):Int)) (Hs (Hf hk17 hm8) O O O) O (JLm (I64 ((i17+1:Nat):Int)) O (G7 (e17 _ _ (i17+1) () (app1 hn17 h) (by omega) ⟨(.sm O O),G,rfl⟩)))))))
 ·
  have h:=app1 hkx17 (Hv hi17 (Ha hb))
  refine Hn (hK2 (Jr fun hK23=>(JLm (BL false) O (G7 (hK23 (Gn (fin1 BL h)))))))

def Z3 (F:Nat) (s:H0) (boxes:List Box) (l:List Stowed) (open_:List Int) (id_:Int):Option Int:=
 bnd (Jf F s boxes l open_) fun r4=>
 bif (!r4) then
 (some 2)
 else
 (bnd (G09 l id_) fun r7=>
  bif decide (r7.2≠0) then
  (some r7.2)
  else
  (bif decide (0 < (r7.1.length:Int)) then
   (some 90)
   else
   (bnd (R4 l id_) fun r16=>
    Qq l r16 fun y17=>
    bnd (Yp s y17.Slot.G3) fun r19=>
    bnd (bif decide (0≤r19) then Jn open_ r19 else some default) fun r21=>
    bif ((decide (0≤r19))&&(!r21)) then
    (some 91)
    else
    (some 0))))
theorem Gc3 (F:Nat) (s:H0) (boxes:List Box) (l:List Stowed) (open_:List Int) (id_:Int) (r:Int) (h:Z3 F s boxes l open_ id_=some r):Pure Ei 15 [.agg (H0.cs s),E3 boxes,E2 l,E1 open_,I64 id_] (·=I64 r):=by
 unfold Z3 at h
 refine Gz [.tmp 10] Tryz.func15 O O (Jr fun hK1=>(JLh (.ptr 1025 0) (Je (cs:=(H0.cs s)) 1025 O O O O O) O (JLm (I64 0) O (G7 (hK1 (Gx [(1,E3 boxes),(2,E2 l),(3,E1 open_),(4,I64 id_),(5,Eb s)] [] 1025 rfl rfl rfl G rfl (by repeat' (first | exact .ptr | constructor)) ?_))))))
 refine Js fun hK2=>Jr fun hK3=>(JLh (.agg (H0.cs s)) (Gh Hc O O O) O (JLm (E3 boxes) O (JLm (E2 l) O (JLm (E1 open_) O ?_))))
 obtain⟨r4,hr4,h⟩:=Gc h
 refine JLh (BL r4) (Gm O (G08 F s boxes l open_ r4 hr4) Ha4 ⟨O,O,O,O,O,O,O,O,G⟩) O (JLh (BL (!r4)) (Q7 (b:=r4) O O) O (G7 (hK3 (JCc O h (fun h hb=>?_) (fun h hb=>?_)))))
 ·
  refine Jr fun hK5=>(JLm (I64 2) O (G7 (hK5 (Gn (fin1 I64 h)))))
 ·
  refine Gk (hK2 (Jr fun hK6=>(JLm (E2 l) O (JLm (I64 id_) O ?_))))
  obtain⟨r7,hr7,h⟩:=Gc h
  refine JLh (.tup [E1 r7.1,I64 r7.2]) (Gm O (H7c l id_ r7 hr7) R1c ⟨O,O,O,O,G⟩) O (JLm (.tup [E1 r7.1,I64 r7.2]) O (JLh (E1 r7.1) (Hk O O O) O (JLh (I64 r7.2) (Hk O O O) O (JLm (E1 r7.1) O (JLm (I64 r7.2) O (G7 (hK6 (Js fun hK8=>Jr fun hK9=>(JLm (I64 r7.2) O (JLh (BL (decide (r7.2≠0))) (G0e O O O) O (G7 (hK9 (JCc O h (fun h hb=>?_) (fun h hb=>?_))))))))))))))
  ·
   refine Jr fun hK10=>(JLm (I64 r7.2) O (JLm (I64 r7.2) O (G7 (hK10 (Gn (fin1 I64 h))))))
  ·
   refine Gk (hK8 (Js fun hK11=>Jr fun hK12=>(JLm (E1 r7.1) O (JLl Gs O O O fun hm30=>(JLh (BL (decide (0 < (r7.1.length:Int)))) (G30 O O O) O (G7 (hK12 (JCc O h (fun h hb=>?_) (fun h hb=>?_)))))))))
   ·
    refine Jr fun hK13=>(JLm (I64 90) O (G7 (hK13 (Gn (fin1 I64 h)))))
   ·
    refine Gk (hK11 (Js fun hK14=>Js fun hK15=>?_))
    obtain⟨r16,hr16,h⟩:=Gc h
    obtain⟨m18,y17,hm18,hy17,h⟩:=R1 h
    obtain⟨r19,hr19,h⟩:=Gc h
    refine JC_d0 J6 (by kernel_rfl) (Dq (.agg (H0.cs s)) (Gh Hc O O O) O (Dq (E2 l) (G4 O O) O (Dq (E2 l) (G4 O O) O (Dq (I64 id_) (G4 O O) O (Dq (I64 r16) (Gm (args:=[E2 l,I64 id_]) O (G78 l id_ r16 hr16) J20 ⟨O,O,O,O,G⟩) O (Dq (Ec y17) (Gw (f:=Stowed.av) (xs:=l) (y:=y17) O O O Gt hy17 hm18) O (Dq (.dptr ((Stowed.cs y17).drop 1)) (Ga Ho O O O) O (Dq (.dptr ((Stowed.cs y17).drop 1)) (Ga J2 O O O) O (Dq (I64 y17.Slot.G3) (Gf Gd O O O) O (Dq (I64 r19) (Gm (args:=[.agg (H0.cs s),I64 y17.Slot.G3]) O (H79 s y17.Slot.G3 r19 hr19) R1b ⟨O,O,O,O,G⟩) O (Dq (I64 r19) (G6 O O) O (Dnil ?_))))))))))))
    refine hK15 (Jr fun hK20=>(JLm (I64 r19) O (JLh (BL (decide (0≤r19))) (Zf O O O) O (JLm (BL (decide (0≤r19))) O (JLo (E1 open_) [] O .sct G (fun hc=>G4 O O) O (JLo (I64 r19) [] O .sct G (fun hc=>G4 O O) O ?_))))))
    obtain⟨r21,hr21,h⟩:=Gc h
    refine JLo (BL r21) [45,46] O .sct ⟨Ua,Ua,G⟩ (fun hc=>Gm (args:=[E1 open_,I64 r19]) O (Yu open_ r19 r21 (Gu hc hr21)) H2c ⟨O,O,O,O,G⟩) O (JLo (BL (!r21)) [47] O .sct ⟨Ua,G⟩ (fun hc=>Q7 (b:=r21) O O) O (JLh (BL ((decide (0≤r19))&&(!r21))) (Hy O O O O) O (G7 (hK20 (JCc O h (fun h hb=>?_) (fun h hb=>?_))))))
    ·
     refine Jr fun hK22=>(JLm (I64 91) O (G7 (hK22 (Gn (fin1 I64 h)))))
    ·
     refine Gk (hK14 (Jr fun hK23=>(JLm (I64 0) O (G7 (hK23 (Gn (fin1 I64 h)))))))

def Z2 (F:Nat) (s:H0) (boxes:List Box) (l:List Stowed) (open_:List Int) (id_:Int):Option ((List Stowed)×Int):=
 bnd (Z3 F s boxes l open_ id_) fun r4=>
 bif decide (r4≠0) then
 (some ([],r4))
 else
 (each (fun y27 i27 (s27:(List Stowed)) nx27=>
   jp (fun kj30=>
    bif decide (y27.Box≠id_) then
    (need (decide ((s27.length+[y27].length)*32≤140737488355328∧s27.length+[y27].length≤maxLen)) <|
     kj30 (s27++[y27]))
    else
    (kj30 s27)) fun(j30:(List Stowed))=>
   nx27 j30)
  (fun(s27:(List Stowed))=>
   some (s27,0)) l 0 [])
theorem H92 (F:Nat) (s:H0) (boxes:List Box) (l:List Stowed) (open_:List Int) (id_:Int) (r:(List Stowed)×Int) (h:Z2 F s boxes l open_ id_=some r):Pure Ei 11 [.agg (H0.cs s),E3 boxes,E2 l,E1 open_,I64 id_] (·=.tup [E2 r.1,I64 r.2]):=by
 unfold Z2 at h
 refine Gz [.tmp 10,.tmp 11] Tryz.func11 O O (Jr fun hK1=>(JLh (.ptr 1014 0) (Je (cs:=(H0.cs s)) 1014 O O O O O) O (JLh (E2 ([]:List Stowed)) (Hb 4 O O) O (JLm (I64 0) O (G7 (hK1 ?_))))))
 refine Gx [(1,E3 boxes),(2,E2 l),(3,E1 open_),(4,I64 id_),(5,Eb s)] [] 1014 rfl rfl rfl G rfl (by repeat' (first | exact .ptr | constructor)) (Js fun hK2=>?_)
 refine Jr fun hK3=>(JLh (.agg (H0.cs s)) (Gh Hc O O O) O (JLm (E3 boxes) O (JLm (E2 l) O (JLm (E1 open_) O (JLm (I64 id_) O ?_)))))
 obtain⟨r4,hr4,h⟩:=Gc h
 refine JLh (I64 r4) (Gm O (Gc3 F s boxes l open_ id_ r4 hr4) Je0 ⟨O,O,O,O,O,O,O,O,O,O,G⟩) O (JLm (I64 r4) O (G7 (hK3 (Jr fun hK5=>(JLm (I64 r4) O (JLh (BL (decide (r4≠0))) (G0e O O O) O (G7 (hK5 (JCc O h (fun h hb=>?_) (fun h hb=>?_))))))))))
 ·
  refine Jr fun hK6=>(JLm (I64 r4) O (JLh (E2 ([]:List Stowed)) (Hb 4 O O) O (JLm (I64 r4) O (G7 (hK6 (Gn (⟨[E2 ([]:List Stowed),I64 r4],[],G,O,⟨⟨_,O,.conv (.same O)⟩,⟨_,O,.conv (.same O)⟩,G⟩,O,congrArg (fun r:(List Stowed)×Int=>(.tup [E2 r.1,I64 r.2]:AV)) (Option.some.inj h)⟩)))))))
 ·
  refine Gk (hK2 (Jr fun hK7=>(JLh (OW 1015 4 Stowed.av ([]:List Stowed)) (G6e 1015 39 4 O O O) O (G7 (hK7 (Js fun hK8=>Jr fun hK9=>(JLm (I64 0) O (G7 (hK9 (Gq ?_))))))))))
  obtain⟨b27,kx27,hb27,hkx27,h⟩:=J3 h
  refine Hd (fun i27 (s27:(List Stowed))=>each b27 kx27 (List.drop i27 l) i27 s27=some r) (fun i27 s27=>[(2,E2 l),(4,I64 id_),(13,OW 1015 4 Stowed.av s27),(14,Eh i27)]) (fun i27 s27=>[(1015,.spare 39 4 s27.length s27.length)]) (fun i27=>l.length - i27) 0 [] h ⟨(.sm O O),⟨⟨_,rfl,.same⟩,G⟩,rfl⟩ ?_
  clear h
  intro i27 s27 hi27 K27 e27
  refine Js fun hK28=>Jr fun hK29=>(JLm (Eh i27) O (JLm (E2 l) O (JLl Gt O O O fun hm26=>(JLh (BL (decide ((i27:Int) < (l.length:Int)))) (Hz O O O) O (G7 (hK29 (Gi O (fun hb=>?_) (fun hb=>?_))))))))
  ·
   have hk27:=Jj hb
   obtain⟨y27,nx27,hy27,hn27,h⟩:=Hu hi27 hk27
   replace h:=Z9 hb27 h
   refine Gk (hK28 ?_)
   obtain⟨kj30,hkj30,h⟩:=G84 h
   refine G57 (fun j30:(List Stowed)=>kj30 j30=some r) (fun j30=>[(2,E2 l),(4,I64 id_),(13,OW 1015 4 Stowed.av j30),(14,Eh i27)]) (fun j30=>[(1015,.spare 39 4 j30.length j30.length)]) (fun Kj30 ej30=>?_) ?_
   ·
    refine Gq (Jr fun hK31=>(JLm (E2 l) O (JLm (Eh i27) O (JLh (Ec y27) (Gw (f:=Stowed.av) (xs:=l) (y:=y27) O O O Gt hy27 O) O (JLh (Ec y27) (Ga Jc O O O) O (JLh (I64 y27.Box) (Gf Gd O O O) O (JLm (I64 id_) O (JLh (BL (decide (y27.Box≠id_))) (G0e O O O) O (G7 (hK31 (JCc O h (fun h hb=>?_) (fun h hb=>?_))))))))))))
    ·
     refine G2 (JLm (OW 1015 4 Stowed.av s27) O (JLm (E2 l) O (JLm (Eh i27) O (JLh (Ec y27) (Gw (f:=Stowed.av) (xs:=l) (y:=y27) O O O Gt hy27 O) O (JLh (.agg (Stowed.cs y27)) (Gh R6 O O O) O (JLh (E2 [y27]) (Hj (xs:=[.agg (Stowed.cs y27)]) O ⟨O,O,G⟩ Gt G0f O O O O) O ?_))))))
     obtain⟨ha32,h⟩:=Hr h
     refine JLh (OW 1015 4 Stowed.av (s27++[y27])) (Qt (f:=Stowed.av) (xs:=s27) (ys:=[y27]) O O O O Gt G2a ha32 (fun _=>O) (.inl O) O) O (JLm (OW 1015 4 Stowed.av (s27++[y27])) O (G7 (ej30 _ _ (s27++[y27]) h ⟨(.sm O O),⟨⟨_,rfl,.same⟩,G⟩,rfl⟩)))
    ·
     refine Gk (ej30 _ _ s27 h ⟨(.sm O O),⟨⟨_,rfl,.same⟩,G⟩,rfl⟩)
   ·intro j30 h
    replace h:=app1 hkj30 h
    refine G2 (JLm (Eh i27) O (JLh (I64 ((i27+1:Nat):Int)) (Hs (Hf hk27 hm26) O O O) O (JLm (I64 ((i27+1:Nat):Int)) O (G7 (e27 _ _ (i27+1) j30 (app1 hn27 h) (by omega) ⟨(.sm O O),⟨⟨_,rfl,.same⟩,G⟩,rfl⟩)))))
  ·
   have h:=app1 hkx27 (Hv hi27 (Ha hb))
   refine Hn (hK8 (Jr fun hK33=>(JLm (OW 1015 4 Stowed.av s27) O (JLm (OW 1015 4 Stowed.av s27) O (JLm (I64 0) O (G7 (hK33 (Gn (⟨[E2 s27,I64 0],[],G,O,⟨⟨_,O,.conv (.list O)⟩,⟨_,O,.conv (.same O)⟩,G⟩,O,congrArg (fun r:(List Stowed)×Int=>(.tup [E2 r.1,I64 r.2]:AV)) (Option.some.inj h)⟩)))))))))

def Qj (F:Nat) (s:H0) (boxes:List Box) (l:List Stowed) (open_:List Int) (x:Stowed):Option ((List Stowed)×Int):=
 bnd (Jf F s boxes l open_) fun r4=>
 bif (!r4) then
 (some ([],2))
 else
 (bnd (Rz boxes x.Box) fun r7=>
  bif ((!r7.2)||((decide (r7.1.Size≠20))&&(decide (r7.1.Size≠40)))) then
  (some ([],6))
  else
  (bnd (R4 l x.Box) fun r13=>
   bif decide (0≤r13) then
   (some ([],96))
   else
   (chk (r7.1.Size) fun v17=>
    bnd (Yr s x.Slot v17) fun r18=>
    bif (!r18) then
    (some ([],97))
    else
    (bnd (Qk s x.Slot.G3) fun r21=>
     bnd (bif decide (0≤r21) then Qq s.Columns x.Slot.G3 some else some default) fun y24=>
     bnd (bif ((decide (0≤r21))&&y24.Deck) then Jn open_ r21 else some default) fun r25=>
     bnd (bif ((!(((decide (0≤r21))&&y24.Deck)&&r25))&&(decide (0≤r21))) then Qq s.Columns x.Slot.G3 some else some default) fun y26=>
     bnd (bif ((!(((decide (0≤r21))&&y24.Deck)&&r25))&&((decide (0≤r21))&&(!y26.Deck))) then Jn open_ r21 else some default) fun r27=>
     bif ((((decide (0≤r21))&&y24.Deck)&&r25)||(((decide (0≤r21))&&(!y26.Deck))&&(!r27))) then
     (some ([],91))
     else
     (each (fun y46 i46 (s46:Unit) nx46=>
       bnd (Z4 y46.Slot x.Slot) fun r51=>
       bif r51 then
       (some ([],92))
       else
       (nx46 ()))
      (fun(s46:Unit)=>
       bnd (Yo l) fun r55=>
       bnd (Z5 x.Slot r55) fun r56=>
       bif (!r56) then
       (some ([],93))
       else
       (each (fun y91 i91 (s91:(List Stowed)×Bool) nx91=>
         jp (fun kj95=>
          bif ((!s91.2)&&(decide (x.Box < y91.Box))) then
          (need (decide ((s91.1.length+[x].length)*32≤140737488355328∧s91.1.length+[x].length≤maxLen)) <|
           kj95 ((s91.1++[x]),true))
          else
          (kj95 (s91.1,s91.2))) fun(j95:(List Stowed)×Bool)=>
         need (decide ((j95.1.length+[y91].length)*32≤140737488355328∧j95.1.length+[y91].length≤maxLen)) <|
         nx91 ((j95.1++[y91]),j95.2))
        (fun(s91:(List Stowed)×Bool)=>
         jp (fun kj100=>
          bif (!s91.2) then
          (need (decide ((s91.1.length+[x].length)*32≤140737488355328∧s91.1.length+[x].length≤maxLen)) <|
           kj100 (s91.1++[x]))
          else
          (kj100 s91.1)) fun(j100:(List Stowed))=>
         bnd (Ry s boxes j100 x.Slot.G3) fun r105=>
         bif r105 then
         (some ([],94))
         else
         (some (j100,0))) l 0 ([],false))) l 0 ())))))
theorem Hbb (F:Nat) (s:H0) (boxes:List Box) (l:List Stowed) (open_:List Int) (x:Stowed) (r:(List Stowed)×Int) (h:Qj F s boxes l open_ x=some r):Pure Ei 13 [.agg (H0.cs s),E3 boxes,E2 l,E1 open_,.agg (Stowed.cs x)] (·=.tup [E2 r.1,I64 r.2]):=by
 unfold Qj at h
 refine Gz [.tmp 10,.tmp 11] Tryz.func13 O O (Jr fun hK1=>(JLh (.ptr 1020 0) (Je (cs:=(H0.cs s)) 1020 O O O O O) O (JLh (.ptr 1021 0) (Je (cs:=[I64 x.Box,I64 x.Slot.G3,I64 x.Slot.Tier,U8 x.Slot.Half]) 1021 O O O O O) O (JLh (E2 ([]:List Stowed)) (Hb 4 O O) O (JLm (I64 0) O (G7 (hK1 ?_)))))))
 refine Gx [(1,E3 boxes),(2,E2 l),(3,E1 open_),(5,Eb s),(9,.ptr 1021 0)] [(1021,.box 39 [I64 x.Box,I64 x.Slot.G3,I64 x.Slot.Tier,U8 x.Slot.Half])] 1020 rfl rfl rfl ⟨⟨_,rfl,.boxEq rfl rfl⟩,G⟩ rfl (by repeat' (first | exact .ptr | constructor)) ?_
 refine Gx [(1,E3 boxes),(2,E2 l),(3,E1 open_),(5,Eb s),(9,Ec x)] [] 1021 rfl rfl rfl G rfl (by repeat' (first | exact .ptr | constructor)) (Js fun hK2=>?_)
 refine Jr fun hK3=>(JLh (.agg (H0.cs s)) (Gh Hc O O O) O (JLm (E3 boxes) O (JLm (E2 l) O (JLm (E1 open_) O ?_))))
 obtain⟨r4,hr4,h⟩:=Gc h
 refine JLh (BL r4) (Gm O (G08 F s boxes l open_ r4 hr4) Ha4 ⟨O,O,O,O,O,O,O,O,G⟩) O (JLh (BL (!r4)) (Q7 (b:=r4) O O) O (G7 (hK3 (JCc O h (fun h hb=>?_) (fun h hb=>?_)))))
 ·
  refine Jr fun hK5=>(JLh (E2 ([]:List Stowed)) (Hb 4 O O) O (JLm (I64 2) O (G7 (hK5 (Gn (⟨[E2 ([]:List Stowed),I64 2],[],G,O,⟨⟨_,O,.conv (.same O)⟩,⟨_,O,.conv (.same O)⟩,G⟩,O,congrArg (fun r:(List Stowed)×Int=>(.tup [E2 r.1,I64 r.2]:AV)) (Option.some.inj h)⟩))))))
 ·
  refine Gk (hK2 (Jr fun hK6=>(JLm (E3 boxes) O (JLh (Ec x) (Ga Jc O O O) O (JLh (I64 x.Box) (Gf Gd O O O) O ?_)))))
  obtain⟨r7,hr7,h⟩:=Gc h
  refine JLh (.tup [.agg (Box.cs r7.1),BL r7.2]) (Gm O (G5f boxes x.Box r7 hr7) J21 ⟨O,O,O,O,G⟩) O (JLm (.tup [.agg (Box.cs r7.1),BL r7.2]) O (JLh (.agg (Box.cs r7.1)) (Hk O O O) O (JLh (BL r7.2) (Hk O O O) O (JLh (.ptr 1022 0) (Qo 1022 9 G4e O O) O (Jo (u:=.junk) (Jh (u:=.agg (Box.cs r7.1)) (ds:=(Box.cs r7.1)) G29 O O O O O O O O) (JLm (BL r7.2) O (G7 (hK6 ?_))))))))
  refine Gx [(1,E3 boxes),(2,E2 l),(3,E1 open_),(5,Eb s),(9,Ec x),(12,Ee r7.1),(13,BL r7.2)] [] 1022 rfl rfl rfl G rfl (by repeat' (first | exact .ptr | constructor)) (Js fun hK8=>?_)
  refine Jr fun hK9=>(JLm (BL r7.2) O (JLh (BL (!r7.2)) (Q7 (b:=r7.2) O O) O (JLm (BL (!r7.2)) O (JLo (.dptr ((Box.cs r7.1).drop 2)) [] O .scf G (fun hc=>Ga Z8 O O O) O (JLo (U8 r7.1.Size) [35] O .scf ⟨Ua,G⟩ (fun hc=>Gf J9 O O O) O (JLo (BL (decide (r7.1.Size≠20))) [36] O .scf ⟨Ua,G⟩ (fun hc=>G0e O O O) O (JLo (BL (decide (r7.1.Size≠20))) [37] O .scf ⟨Ua,G⟩ (fun hc=>G4 O O) O (JLo (.dptr ((Box.cs r7.1).drop 2)) [] O .optt G (fun hc=>Ga Z8 O O O) O (JLo (U8 r7.1.Size) [39] O .optt ⟨Ua,G⟩ (fun hc=>Gf J9 O O O) O (JLo (BL (decide (r7.1.Size≠40))) [40] O .optt ⟨Ua,G⟩ (fun hc=>G0e O O O) O (G8 (u:=BL ((decide (r7.1.Size≠20))&&(decide (r7.1.Size≠40)))) [(38,BL (decide (r7.1.Size≠20))),(41,_)] O O O .scf ⟨.all id,.part,G⟩ (fun hc=>Hy O O O O) ?_)))))))))))
  refine JLh (BL ((!r7.2)||((decide (r7.1.Size≠20))&&(decide (r7.1.Size≠40))))) (Y4 O O O O) O (G7 (hK9 (JCc O h (fun h hb=>?_) (fun h hb=>?_))))
  ·
   refine Jr fun hK10=>(JLh (E2 ([]:List Stowed)) (Hb 4 O O) O (JLm (I64 6) O (G7 (hK10 (Gn (⟨[E2 ([]:List Stowed),I64 6],[],G,O,⟨⟨_,O,.conv (.same O)⟩,⟨_,O,.conv (.same O)⟩,G⟩,O,congrArg (fun r:(List Stowed)×Int=>(.tup [E2 r.1,I64 r.2]:AV)) (Option.some.inj h)⟩))))))
  ·
   refine Gk (hK8 (Js fun hK11=>Jr fun hK12=>(JLm (E2 l) O (JLh (Ec x) (Ga Jc O O O) O (JLh (I64 x.Box) (Gf Gd O O O) O ?_)))))
   obtain⟨r13,hr13,h⟩:=Gc h
   refine JLh (I64 r13) (Gm O (G78 l x.Box r13 hr13) J20 ⟨O,O,O,O,G⟩) O (JLh (BL (decide (0≤r13))) (Zf O O O) O (G7 (hK12 (JCc O h (fun h hb=>?_) (fun h hb=>?_)))))
   ·
    refine Jr fun hK14=>(JLh (E2 ([]:List Stowed)) (Hb 4 O O) O (JLm (I64 96) O (G7 (hK14 (Gn (⟨[E2 ([]:List Stowed),I64 96],[],G,O,⟨⟨_,O,.conv (.same O)⟩,⟨_,O,.conv (.same O)⟩,G⟩,O,congrArg (fun r:(List Stowed)×Int=>(.tup [E2 r.1,I64 r.2]:AV)) (Option.some.inj h)⟩))))))
   ·
    refine Gk (hK11 (Js fun hK15=>Jr fun hK16=>(JLh (.agg (H0.cs s)) (Gh Hc O O O) O (JLh (.dptr ((Stowed.cs x).drop 1)) (Ga Ho O O O) O (JLh (.agg ((Stowed.cs x).drop 1)) (Gh Q4 O O O) O (JLh (.dptr ((Box.cs r7.1).drop 2)) (Ga Z8 O O O) O (JLh (U8 r7.1.Size) (Gf J9 O O O) O ?_)))))))
    obtain⟨v17,hv17,h⟩:=Q2 h
    refine JLh (I64 v17) (Q95 J3c Q9f hv17 O O) O ?_
    obtain⟨r18,hr18,h⟩:=Gc h
    refine JLh (BL r18) (Gm O (Gab s x.Slot v17 r18 hr18) Jd6 ⟨O,O,O,O,O,O,G⟩) O (JLh (BL (!r18)) (Q7 (b:=r18) O O) O (G7 (hK16 (JCc O h (fun h hb=>?_) (fun h hb=>?_)))))
    ·
     refine Jr fun hK19=>(JLh (E2 ([]:List Stowed)) (Hb 4 O O) O (JLm (I64 97) O (G7 (hK19 (Gn (⟨[E2 ([]:List Stowed),I64 97],[],G,O,⟨⟨_,O,.conv (.same O)⟩,⟨_,O,.conv (.same O)⟩,G⟩,O,congrArg (fun r:(List Stowed)×Int=>(.tup [E2 r.1,I64 r.2]:AV)) (Option.some.inj h)⟩))))))
    ·
     refine Gk (hK15 (Jr fun hK20=>(JLh (.agg (H0.cs s)) (Gh Hc O O O) O (JLh (.dptr ((Stowed.cs x).drop 1)) (Ga Ho O O O) O (JLh (.dptr ((Stowed.cs x).drop 1)) (Ga J2 O O O) O (JLh (I64 x.Slot.G3) (Gf Gd O O O) O ?_))))))
     obtain⟨r21,hr21,h⟩:=Gc h
     refine JLh (I64 r21) (Gm O (G42 s x.Slot.G3 r21 hr21) J1f ⟨O,O,O,O,G⟩) O (JLm (I64 r21) O (G7 (hK20 (Js fun hK22=>?_))))
     refine Jr fun hK23=>(JLm (I64 r21) O (JLh (BL (decide (0≤r21))) (Zf O O O) O (JLm (BL (decide (0≤r21))) O (JLo (Eb s) [] O .sct G (fun hc=>Ga Hi O O O) O (JLo (E5 s.Columns) [65] O .sct ⟨Ua,G⟩ (fun hc=>Gf Ht O O O) O (JLo (.dptr ((Stowed.cs x).drop 1)) [] O .sct G (fun hc=>Ga Ho O O O) O (JLo (.dptr ((Stowed.cs x).drop 1)) [67] O .sct ⟨Ua,G⟩ (fun hc=>Ga J2 O O O) O (JLo (I64 x.Slot.G3) [68] O .sct ⟨Ua,G⟩ (fun hc=>Gf Gd O O O) O ?_))))))))
     obtain⟨y24,hy24,h⟩:=Gc h
     refine JLo (Ed y24) [66,69] O .sct ⟨Ua,Ua,G⟩ (fun hc=>(match Jx (Gu hc hy24) with | ⟨_,hm_,hy_⟩=>Gw (f:=G3.av) (xs:=s.Columns) (y:=y24) O O O H4 hy_ hm_)) O (JLo (.dptr ((G3.cs y24).drop 2)) [70] O .sct ⟨Ua,G⟩ (fun hc=>Ga Yj O O O) O (JLo (BL y24.Deck) [71] O .sct ⟨Ua,G⟩ (fun hc=>Gf Yc O O O) O (JLh (BL ((decide (0≤r21))&&y24.Deck)) (Hy O O O O) O (JLm (BL ((decide (0≤r21))&&y24.Deck)) O (JLo (E1 open_) [] O .sct G (fun hc=>G4 O O) O (JLo (I64 r21) [] O .sct G (fun hc=>G4 O O) O ?_))))))
     obtain⟨r25,hr25,h⟩:=Gc h
     refine JLo (BL r25) [75,76] O .sct ⟨Ua,Ua,G⟩ (fun hc=>Gm (args:=[E1 open_,I64 r21]) O (Yu open_ r21 r25 (Gu hc hr25)) H2c ⟨O,O,O,O,G⟩) O (JLh (BL (((decide (0≤r21))&&y24.Deck)&&r25)) (Hy O O O O) O (JLm (BL (((decide (0≤r21))&&y24.Deck)&&r25)) O (JLo (I64 r21) [] O .scf G (fun hc=>G4 O O) O (JLo (BL (decide (0≤r21))) [80] O .scf ⟨Ua,G⟩ (fun hc=>Zf O O O) O (JLo (BL (decide (0≤r21))) [81] O .scf ⟨Ua,G⟩ (fun hc=>G4 O O) O (JLo (Eb s) [] O .optt G (fun hc=>Ga Hi O O O) O (JLo (E5 s.Columns) [83] O .optt ⟨Ua,G⟩ (fun hc=>Gf Ht O O O) O (JLo (.dptr ((Stowed.cs x).drop 1)) [] O .optt G (fun hc=>Ga Ho O O O) O (JLo (.dptr ((Stowed.cs x).drop 1)) [85] O .optt ⟨Ua,G⟩ (fun hc=>Ga J2 O O O) O (JLo (I64 x.Slot.G3) [86] O .optt ⟨Ua,G⟩ (fun hc=>Gf Gd O O O) O ?_))))))))))
     obtain⟨y26,hy26,h⟩:=Gc h
     refine JLo (Ed y26) [84,87] O .optt ⟨Ua,Ua,G⟩ (fun hc=>(match Jx (Gu hc hy26) with | ⟨_,hm_,hy_⟩=>Gw (f:=G3.av) (xs:=s.Columns) (y:=y26) O O O H4 hy_ hm_)) O (JLo (.dptr ((G3.cs y26).drop 2)) [88] O .optt ⟨Ua,G⟩ (fun hc=>Ga Yj O O O) O (JLo (BL y26.Deck) [89] O .optt ⟨Ua,G⟩ (fun hc=>Gf Yc O O O) O (JLo (BL (!y26.Deck)) [90] O .optt ⟨Ua,G⟩ (fun hc=>Q7 (b:=y26.Deck) O O) O (G8 (u:=BL ((decide (0≤r21))&&(!y26.Deck))) [(82,BL (decide (0≤r21))),(91,_)] O O O .scf ⟨.all id,.part,G⟩ (fun hc=>Hy O O O O) ?_))))
     refine JLo (BL ((decide (0≤r21))&&(!y26.Deck))) [92] O .scf ⟨Ua,G⟩ (fun hc=>G4 O O) O (JLo (E1 open_) [] O .optt G (fun hc=>G4 O O) O (JLo (I64 r21) [] O .optt G (fun hc=>G4 O O) O ?_))
     obtain⟨r27,hr27,h⟩:=Gc h
     refine JLo (BL r27) [94,95] O .optt ⟨Ua,Ua,G⟩ (fun hc=>Gm (args:=[E1 open_,I64 r21]) O (Yu open_ r21 r27 (Gu hc hr27)) H2c ⟨O,O,O,O,G⟩) O (JLo (BL (!r27)) [96] O .optt ⟨Ua,G⟩ (fun hc=>Q7 (b:=r27) O O) O (G8 (u:=BL (((decide (0≤r21))&&(!y26.Deck))&&(!r27))) [(93,BL ((decide (0≤r21))&&(!y26.Deck))),(97,_)] O O O .scf ⟨.all id,.part,G⟩ (fun hc=>Hy O O O O) ?_))
     refine JLh (BL ((((decide (0≤r21))&&y24.Deck)&&r25)||(((decide (0≤r21))&&(!y26.Deck))&&(!r27)))) (Y4 O O O O) O (G7 (hK23 (JCc O h (fun h hb=>?_) (fun h hb=>?_))))
     ·
      refine Jr fun hK28=>(JLh (E2 ([]:List Stowed)) (Hb 4 O O) O (JLm (I64 91) O (G7 (hK28 (Gn (⟨[E2 ([]:List Stowed),I64 91],[],G,O,⟨⟨_,O,.conv (.same O)⟩,⟨_,O,.conv (.same O)⟩,G⟩,O,congrArg (fun r:(List Stowed)×Int=>(.tup [E2 r.1,I64 r.2]:AV)) (Option.some.inj h)⟩))))))
     ·
      refine Gk (hK22 (Js fun hK29=>Jr fun hK30=>(JLm (I64 0) O (G7 (hK30 (Gq ?_))))))
      obtain⟨b46,kx46,hb46,hkx46,h⟩:=J3 h
      refine Hd (fun i46 (s46:Unit)=>each b46 kx46 (List.drop i46 l) i46 s46=some r) (fun i46 s46=>[(1,E3 boxes),(2,E2 l),(5,Eb s),(9,Ec x),(15,Eh i46)]) (fun i46 s46=>[]) (fun i46=>l.length - i46) 0 () h ⟨(.sm O O),G,rfl⟩ ?_
      clear h
      intro i46 s46 hi46 K46 e46
      refine Js fun hK47=>Jr fun hK48=>(JLm (Eh i46) O (JLm (E2 l) O (JLl Gt O O O fun hm102=>(JLh (BL (decide ((i46:Int) < (l.length:Int)))) (Hz O O O) O (G7 (hK48 (Gi O (fun hb=>?_) (fun hb=>?_))))))))
      ·
       have hk46:=Jj hb
       obtain⟨y46,nx46,hy46,hn46,h⟩:=Hu hi46 hk46
       replace h:=Z9 hb46 h
       refine Gk (hK47 (Js fun hK49=>Gq (Js fun hK50=>?_)))
       obtain⟨r51,hr51,h⟩:=Gc h
       refine JC_d0 J6 (by kernel_rfl) (Dq (E2 l) (G4 O O) O (Dq (Eh i46) (G4 O O) O (Dq (Ec y46) (Gw (f:=Stowed.av) (xs:=l) (y:=y46) O O O Gt hy46 O) O (Dq (.dptr ((Stowed.cs y46).drop 1)) (Ga Ho O O O) O (Dq (.agg ((Stowed.cs y46).drop 1)) (Gh Q4 O O O) O (Dq (.dptr ((Stowed.cs x).drop 1)) (Ga Ho O O O) O (Dq (.agg ((Stowed.cs x).drop 1)) (Gh Q4 O O O) O (Dq (BL r51) (Gm (args:=[.agg ((Stowed.cs y46).drop 1),.agg ((Stowed.cs x).drop 1)]) O (Gc4 y46.Slot x.Slot r51 hr51) Jd5 ⟨O,O,O,O,G⟩) O (Dnil (hK50 (JCc O h (fun h hb=>?_) (fun h hb=>?_))))))))))))
       ·
        refine Jr fun hK52=>(JLh (E2 ([]:List Stowed)) (Hb 4 O O) O (JLm (I64 92) O (G7 (hK52 (Gn (⟨[E2 ([]:List Stowed),I64 92],[],G,O,⟨⟨_,O,.conv (.same O)⟩,⟨_,O,.conv (.same O)⟩,G⟩,O,congrArg (fun r:(List Stowed)×Int=>(.tup [E2 r.1,I64 r.2]:AV)) (Option.some.inj h)⟩))))))
       ·
        refine Gk (hK49 (G2 (JLm (Eh i46) O (JLh (I64 ((i46+1:Nat):Int)) (Hs (Hf hk46 hm102) O O O) O (JLm (I64 ((i46+1:Nat):Int)) O (G7 (e46 _ _ (i46+1) () (app1 hn46 h) (by omega) ⟨(.sm O O),G,rfl⟩)))))))
      ·
       have h:=app1 hkx46 (Hv hi46 (Ha hb))
       refine Hn (hK29 (Js fun hK53=>Js fun hK54=>?_))
       obtain⟨r55,hr55,h⟩:=Gc h
       obtain⟨r56,hr56,h⟩:=Gc h
       refine JC_d0 J6 (by kernel_rfl) (Dq (.dptr ((Stowed.cs x).drop 1)) (Ga Ho O O O) O (Dq (.agg ((Stowed.cs x).drop 1)) (Gh Q4 O O O) O (Dq (E2 l) (G4 O O) O (Dq (E9 r55) (Gm (args:=[E2 l]) O (Gaa l r55 hr55) Jd3 ⟨O,O,G⟩) O (Dq (BL r56) (Gm (args:=[.agg ((Stowed.cs x).drop 1),E9 r55]) O (Gc5 x.Slot r55 r56 hr56) Jd4 ⟨O,O,O,O,G⟩) O (Dq (BL (!r56)) (Q7 (b:=r56) O O) O (Dnil (hK54 (JCc O h (fun h hb=>?_) (fun h hb=>?_))))))))))
       ·
        refine Jr fun hK57=>(JLh (E2 ([]:List Stowed)) (Hb 4 O O) O (JLm (I64 93) O (G7 (hK57 (Gn (⟨[E2 ([]:List Stowed),I64 93],[],G,O,⟨⟨_,O,.conv (.same O)⟩,⟨_,O,.conv (.same O)⟩,G⟩,O,congrArg (fun r:(List Stowed)×Int=>(.tup [E2 r.1,I64 r.2]:AV)) (Option.some.inj h)⟩))))))
       ·
        refine Gk (hK53 (Jr fun hK58=>(JLh (OW 1023 4 Stowed.av ([]:List Stowed)) (G6e 1023 39 4 O O O) O (G7 (hK58 (Jr fun hK59=>(JLm (BL false) O (G7 (hK59 (Js fun hK60=>Jr fun hK61=>(JLm (I64 0) O (G7 (hK61 (Gq ?_))))))))))))))
        obtain⟨b91,kx91,hb91,hkx91,h⟩:=J3 h
        refine Hd (fun i91 (s91:(List Stowed)×Bool)=>each b91 kx91 (List.drop i91 l) i91 s91=some r) (fun i91 s91=>[(1,E3 boxes),(2,E2 l),(5,Eb s),(9,Ec x),(16,OW 1023 4 Stowed.av s91.1),(17,BL s91.2),(18,Eh i91)]) (fun i91 s91=>[(1023,.spare 39 4 s91.1.length s91.1.length)]) (fun i91=>l.length - i91) 0 ([],false) h ⟨(.sm O O),⟨⟨_,rfl,.same⟩,G⟩,rfl⟩ ?_
        clear h
        intro i91 s91 hi91 K91 e91
        refine Js fun hK92=>Jr fun hK93=>(JLm (Eh i91) O (JLm (E2 l) O (JLl Gt O O O fun hm122=>(JLh (BL (decide ((i91:Int) < (l.length:Int)))) (Hz O O O) O (G7 (hK93 (Gi O (fun hb=>?_) (fun hb=>?_))))))))
        ·
         have hk91:=Jj hb
         obtain⟨y91,nx91,hy91,hn91,h⟩:=Hu hi91 hk91
         replace h:=Z9 hb91 h
         refine Gk (hK92 (Js fun hK94=>Gq ?_))
         obtain⟨kj95,hkj95,h⟩:=G84 h
         refine G57 (fun j95:(List Stowed)×Bool=>kj95 j95=some r) (fun j95=>[(1,E3 boxes),(2,E2 l),(5,Eb s),(9,Ec x),(16,OW 1023 4 Stowed.av j95.1),(17,BL j95.2),(18,Eh i91)]) (fun j95=>[(1023,.spare 39 4 j95.1.length j95.1.length)]) (fun Kj95 ej95=>?_) ?_
         ·
          refine Js fun hK96=>G67 (l':=[(1,E3 boxes),(2,E2 l),(5,Eb s),(9,Ec x),(16,OW 1023 4 Stowed.av s91.1),(17,BL s91.2),(18,Eh i91)]) (L':=[(1023,.spare 39 4 s91.1.length s91.1.length)]) ⟨(.sm O O),⟨⟨_,rfl,.same⟩,G⟩,rfl⟩ ?_
          refine JC_d0 J6 (by kernel_rfl) (Dq (BL s91.2) (G4 O O) O (Dq (BL (!s91.2)) (Q7 (b:=s91.2) O O) O (Dq (BL (!s91.2)) (G4 O O) O (Do (E2 l) [] O .sct G (fun hc=>G4 O O) O (Do (Eh i91) [] O .sct G (fun hc=>G4 O O) O (Do (Ec y91) [129,130] O .sct ⟨Ua,Ua,G⟩ (fun hc=>Gw (f:=Stowed.av) (xs:=l) (y:=y91) O O O Gt hy91 O) O (Do (Ec y91) [131] O .sct ⟨Ua,G⟩ (fun hc=>Ga Jc O O O) O (Do (I64 y91.Box) [132] O .sct ⟨Ua,G⟩ (fun hc=>Gf Gd O O O) O (Do (Ec x) [] O .sct G (fun hc=>Ga Jc O O O) O (Do (I64 x.Box) [134] O .sct ⟨Ua,G⟩ (fun hc=>Gf Gd O O O) O (Do (BL (decide (x.Box < y91.Box))) [133,135] O .sct ⟨Ua,Ua,G⟩ (fun hc=>G30 O O O) O (Dq (BL ((!s91.2)&&(decide (x.Box < y91.Box)))) (Hy O O O O) O (Dnil ?_)))))))))))))
          refine hK96 (JCc O h (fun h hb=>?_) (fun h hb=>?_))
          ·
           refine Jr fun hK97=>(JLm (OW 1023 4 Stowed.av s91.1) O (JLh (.agg (Stowed.cs x)) (Gh R6 O O O) O (JLh (E2 [x]) (Hj (xs:=[.agg (Stowed.cs x)]) O ⟨O,O,G⟩ Gt G0f O O O O) O ?_)))
           obtain⟨ha98,h⟩:=Hr h
           refine JLh (OW 1023 4 Stowed.av (s91.1++[x])) (Qt (f:=Stowed.av) (xs:=s91.1) (ys:=[x]) O O O O Gt G2a ha98 (fun _=>O) (.inl O) O) O (JLm (OW 1023 4 Stowed.av (s91.1++[x])) O (G7 (hK97 (G2 (JLm (BL true) O (G7 (ej95 _ _ ((s91.1++[x]),true) h ⟨(.sm O O),⟨⟨_,rfl,.same⟩,G⟩,rfl⟩)))))))
          ·
           refine Gk (ej95 _ _ (s91.1,s91.2) h ⟨(.sm O O),⟨⟨_,rfl,.same⟩,G⟩,rfl⟩)
         ·intro j95 h
          replace h:=app1 hkj95 h
          refine G2 (JLm (OW 1023 4 Stowed.av j95.1) O (JLm (E2 l) O (JLm (Eh i91) O (JLh (Ec y91) (Gw (f:=Stowed.av) (xs:=l) (y:=y91) O O O Gt hy91 O) O (JLh (.agg (Stowed.cs y91)) (Gh R6 O O O) O (JLh (E2 [y91]) (Hj (xs:=[.agg (Stowed.cs y91)]) O ⟨O,O,G⟩ Gt G0f O O O O) O ?_))))))
          obtain⟨ha99,h⟩:=Hr h
          refine JLh (OW 1023 4 Stowed.av (j95.1++[y91])) (Qt (f:=Stowed.av) (xs:=j95.1) (ys:=[y91]) O O O O Gt G2a ha99 (fun _=>O) (.inl O) O) O (JLm (OW 1023 4 Stowed.av (j95.1++[y91])) O (G7 (hK94 (G2 (JLm (Eh i91) O (JLh (I64 ((i91+1:Nat):Int)) (Hs (Hf hk91 hm122) O O O) O (JLm (I64 ((i91+1:Nat):Int)) O (G7 (e91 _ _ (i91+1) ((j95.1++[y91]),j95.2) (app1 hn91 h) (by omega) ⟨(.sm O O),⟨⟨_,rfl,.same⟩,G⟩,rfl⟩)))))))))
        ·
         have h:=app1 hkx91 (Hv hi91 (Ha hb))
         refine Hn (hK60 ?_)
         obtain⟨kj100,hkj100,h⟩:=G84 h
         refine G57 (fun j100:(List Stowed)=>kj100 j100=some r) (fun j100=>[(1,E3 boxes),(5,Eb s),(9,Ec x),(16,OW 1023 4 Stowed.av j100)]) (fun j100=>[(1023,.spare 39 4 j100.length j100.length)]) (fun Kj100 ej100=>?_) ?_
         ·
          refine Jr fun hK101=>(JLm (BL s91.2) O (JLh (BL (!s91.2)) (Q7 (b:=s91.2) O O) O (G7 (hK101 (JCc O h (fun h hb=>?_) (fun h hb=>?_))))))
          ·
           refine G2 (JLm (OW 1023 4 Stowed.av s91.1) O (JLh (.agg (Stowed.cs x)) (Gh R6 O O O) O (JLh (E2 [x]) (Hj (xs:=[.agg (Stowed.cs x)]) O ⟨O,O,G⟩ Gt G0f O O O O) O ?_)))
           obtain⟨ha102,h⟩:=Hr h
           refine JLh (OW 1023 4 Stowed.av (s91.1++[x])) (Qt (f:=Stowed.av) (xs:=s91.1) (ys:=[x]) O O O O Gt G2a ha102 (fun _=>O) (.inl O) O) O (JLm (OW 1023 4 Stowed.av (s91.1++[x])) O (G7 (ej100 _ _ (s91.1++[x]) h ⟨(.sm O O),⟨⟨_,rfl,.same⟩,G⟩,rfl⟩)))
          ·
           refine Gk (ej100 _ _ s91.1 h ⟨(.sm O O),⟨⟨_,rfl,.same⟩,G⟩,rfl⟩)
         ·intro j100 h
          replace h:=app1 hkj100 h
          refine Js fun hK103=>Jr fun hK104=>(JLh (.agg (H0.cs s)) (Gh Hc O O O) O (JLm (E3 boxes) O (JLm (OW 1023 4 Stowed.av j100) O (JLh (.dptr ((Stowed.cs x).drop 1)) (Ga Ho O O O) O (JLh (.dptr ((Stowed.cs x).drop 1)) (Ga J2 O O O) O (JLh (I64 x.Slot.G3) (Gf Gd O O O) O ?_))))))
          obtain⟨r105,hr105,h⟩:=Gc h
          refine JLh (BL r105) (Gm O (Gc2 s boxes j100 x.Slot.G3 r105 hr105) Jd2 ⟨O,O,O,O,O,O,O,O,G⟩) O (G7 (hK104 (JCc O h (fun h hb=>?_) (fun h hb=>?_))))
          ·
           refine Jr fun hK106=>(JLh (E2 ([]:List Stowed)) (Hb 4 O O) O (JLm (I64 94) O (G7 (hK106 (Gn (⟨[E2 ([]:List Stowed),I64 94],[],G,O,⟨⟨_,O,.conv (.same O)⟩,⟨_,O,.conv (.same O)⟩,G⟩,O,congrArg (fun r:(List Stowed)×Int=>(.tup [E2 r.1,I64 r.2]:AV)) (Option.some.inj h)⟩))))))
          ·
           refine Gk (hK103 (Jr fun hK107=>(JLm (OW 1023 4 Stowed.av j100) O (JLm (OW 1023 4 Stowed.av j100) O (JLm (I64 0) O (G7 (hK107 (Gn (⟨[E2 j100,I64 0],[],G,O,⟨⟨_,O,.conv (.list O)⟩,⟨_,O,.conv (.same O)⟩,G⟩,O,congrArg (fun r:(List Stowed)×Int=>(.tup [E2 r.1,I64 r.2]:AV)) (Option.some.inj h)⟩)))))))))

def Z1 (s:H0) (column:Int) (cover:Int):Option Bool:=
 Qq s.Columns column fun y3=>
 bnd (bif y3.Deck then Qk s column else some default) fun r5=>
 some (y3.Deck&&(decide (r5=cover)))
theorem H91 (s:H0) (column:Int) (cover:Int) (r:Bool) (h:Z1 s column cover=some r):Pure Ei 69 [.agg (H0.cs s),I64 column,I64 cover] (·=BL r):=by
 unfold Z1 at h
 refine Gz [.tmp 6] Tryz.func69 O O (Jr fun hK1=>(JLh (.ptr 1087 0) (Je (cs:=(H0.cs s)) 1087 O O O O O) O (JLm (BL false) O (G7 (hK1 (Gx [(1,I64 column),(2,I64 cover),(3,Eb s)] [] 1087 rfl rfl rfl G rfl (by exact⟨.conv (.same rfl),.conv (.same rfl),.ptr,G⟩) ?_))))))
 refine Jr fun hK2=>(JLh (Eb s) (Ga Hi O O O) O (JLh (E5 s.Columns) (Gf Ht O O O) O (JLm (I64 column) O ?_)))
 obtain⟨m4,y3,hm4,hy3,h⟩:=R1 h
 refine JLh (Ed y3) (Gw (f:=G3.av) (xs:=s.Columns) (y:=y3) O O O H4 hy3 hm4) O (JLh (.dptr ((G3.cs y3).drop 2)) (Ga Yj O O O) O (JLh (BL y3.Deck) (Gf Yc O O O) O (JLm (BL y3.Deck) O (JLo (.agg (H0.cs s)) [] O .sct G (fun hc=>Gh Hc O O O) O (JLo (I64 column) [] O .sct G (fun hc=>G4 O O) O ?_)))))
 obtain⟨r5,hr5,h⟩:=Gc h
 refine JLo (I64 r5) [14,15] O .sct ⟨Ua,Ua,G⟩ (fun hc=>Gm (args:=[.agg (H0.cs s),I64 column]) O (G42 s column r5 (Gu hc hr5)) J1f ⟨O,O,O,O,G⟩) O (JLo (I64 cover) [] O .sct G (fun hc=>G4 O O) O (JLo (BL (decide (r5=cover))) [16,17] O .sct ⟨Ua,Ua,G⟩ (fun hc=>Jw O O O) O (JLh (BL (y3.Deck&&(decide (r5=cover)))) (Hy O O O O) O (JLm (BL (y3.Deck&&(decide (r5=cover)))) O (G7 (hK2 (Gn (fin1 BL h))))))))

def R2 (F:Nat) (s:H0) (boxes:List Box) (l:List Stowed) (open_:List Int) (cover:Int):Option ((List Int)×Int):=
 bnd (Jf F s boxes l open_) fun r4=>
 bif (!r4) then
 (some ([],2))
 else
 (bif ((decide (cover < 0))||(decide ((s.Covers.length:Int)≤cover))) then
  (some ([],6))
  else
  (each (fun y26 i26 (s26:Unit) nx26=>
    bnd (Z1 s y26.Slot.G3 cover) fun r31=>
    bif r31 then
    (some ([],95))
    else
    (nx26 ()))
   (fun(s26:Unit)=>
    each (fun y47 i47 (s47:(List Int)) nx47=>
     jp (fun kj50=>
      bnd (bif (!(decide ((i47:Int)=cover))) then Jn open_ (i47:Int) else some default) fun r52=>
      bif ((decide ((i47:Int)=cover))||r52) then
      (need (decide ((s47.length+[(i47:Int)].length)*8≤140737488355328∧s47.length+[(i47:Int)].length≤maxLen)) <|
       kj50 (s47++[(i47:Int)]))
      else
      (kj50 s47)) fun(j50:(List Int))=>
     nx47 j50)
    (fun(s47:(List Int))=>
     some (s47,0)) s.Covers 0 []) l 0 ()))
abbrev Kc (s:H0):List AV:=[E4 s.Covers,I64 s.Light.Kilos,I64 s.Light.X,I64 s.Light.Y,I64 s.Light.Z,E7 s.Rows,E6 s.Frames,E8 s.Tanks,I64 s.G1.Tolerance,I64 s.G1.Trim,I64 s.G1.List_,I64 s.G1.Stability]
theorem H93 (F:Nat) (s:H0) (boxes:List Box) (l:List Stowed) (open_:List Int) (cover:Int) (r:(List Int)×Int) (h:R2 F s boxes l open_ cover=some r):Pure Ei 17 [.agg (H0.cs s),E3 boxes,E2 l,E1 open_,I64 cover] (·=.tup [E1 r.1,I64 r.2]):=by
 unfold R2 at h
 refine Gz [.tmp 10,.tmp 11] Tryz.func17 O O (Jr fun hK1=>(JLh (.ptr 1027 0) (Je (cs:=(H0.cs s)) 1027 O O O O O) O (JLh (E1 ([]:List Int)) (Hb 1 O O) O (JLm (I64 0) O (G7 (hK1 ?_))))))
 refine Gx [(1,E3 boxes),(2,E2 l),(3,E1 open_),(4,I64 cover),(5,Eb s)] [] 1027 rfl rfl rfl G rfl (by repeat' (first | exact .ptr | constructor)) (Js fun hK2=>Jr fun hK3=>(JLh (.agg (H0.cs s)) (Gh Hc O O O) O (JLm (E3 boxes) O (JLm (E2 l) O (JLm (E1 open_) O ?_)))))
 obtain⟨r4,hr4,h⟩:=Gc h
 refine JLh (BL r4) (Gm O (G08 F s boxes l open_ r4 hr4) Ha4 ⟨O,O,O,O,O,O,O,O,G⟩) O (JLh (BL (!r4)) (Q7 (b:=r4) O O) O (G7 (hK3 (JCc O h (fun h hb=>?_) (fun h hb=>?_)))))
 ·
  refine Jr fun hK5=>(JLh (E1 ([]:List Int)) (Hb 1 O O) O (JLm (I64 2) O (G7 (hK5 (Gn (⟨[E1 ([]:List Int),I64 2],[],G,O,⟨⟨_,O,.conv (.same O)⟩,⟨_,O,.conv (.same O)⟩,G⟩,O,congrArg (fun r:(List Int)×Int=>(.tup [E1 r.1,I64 r.2]:AV)) (Option.some.inj h)⟩))))))
 ·
  refine Gk (hK2 (Js fun hK6=>?_))
  refine Jr fun hK7=>(JLm (I64 cover) O (JLh (BL (decide (cover < 0))) (Hz O O O) O (JLm (BL (decide (cover < 0))) O (JLo (I64 cover) [] O .scf G (fun hc=>G4 O O) O (JLo (.dptr (Kc s)) [] O .scf G (fun hc=>Ga J0 O O O) O (JLo (E4 s.Covers) [25] O .scf ⟨Ua,G⟩ (fun hc=>Gf J8 O O O) O (JLo (Eh s.Covers.length) [26] O .scf ⟨Ua,G⟩ (fun hc=>Qe (f:=G9.av) (xs:=s.Covers) He O O) O (JLo (BL (decide ((s.Covers.length:Int)≤cover))) [24,27] O .scf ⟨Ua,Ua,G⟩ (fun hc=>Zf O O O) O (JLh (BL ((decide (cover < 0))||(decide ((s.Covers.length:Int)≤cover)))) (Y4 O O O O) O (G7 (hK7 ?_)))))))))))
  refine JCc O h ?_ ?_<;>intro h hb
  ·
   refine Jr fun hK8=>(JLh (E1 ([]:List Int)) (Hb 1 O O) O (JLm (I64 6) O (G7 (hK8 (Gn (⟨[E1 ([]:List Int),I64 6],[],G,O,⟨⟨_,O,.conv (.same O)⟩,⟨_,O,.conv (.same O)⟩,G⟩,O,congrArg (fun r:(List Int)×Int=>(.tup [E1 r.1,I64 r.2]:AV)) (Option.some.inj h)⟩))))))
  ·
   refine Gk (hK6 (Js fun hK9=>Jr fun hK10=>(JLm (I64 0) O (G7 (hK10 (Gq ?_))))))
   obtain⟨b26,kx26,hb26,hkx26,h⟩:=J3 h
   refine Hd (fun i26 (s26:Unit)=>each b26 kx26 (List.drop i26 l) i26 s26=some r) (fun i26 s26=>[(2,E2 l),(3,E1 open_),(4,I64 cover),(5,Eb s),(12,Eh i26)]) (fun i26 s26=>[]) (fun i26=>l.length - i26) 0 () h ⟨(.sm O O),G,rfl⟩ ?_
   clear h
   intro i26 s26 hi26 K26 e26
   refine Js fun hK27=>Jr fun hK28=>(JLm (Eh i26) O (JLm (E2 l) O (JLl Gt O O O fun hm32=>(JLh (BL (decide ((i26:Int) < (l.length:Int)))) (Hz O O O) O (G7 (hK28 (Gi O (fun hb=>?_) (fun hb=>?_))))))))
   ·
    have hk26:=Jj hb
    obtain⟨y26,nx26,hy26,hn26,h⟩:=Hu hi26 hk26
    replace h:=Z9 hb26 h
    refine Gk (hK27 (Js fun hK29=>Gq (Js fun hK30=>?_)))
    obtain⟨r31,hr31,h⟩:=Gc h
    refine JC_d0 J6 (by kernel_rfl) (Dq (.agg (H0.cs s)) (Gh Hc O O O) O (Dq (E2 l) (G4 O O) O (Dq (Eh i26) (G4 O O) O (Dq (Ec y26) (Gw (f:=Stowed.av) (xs:=l) (y:=y26) O O O Gt hy26 O) O (Dq (.dptr ((Stowed.cs y26).drop 1)) (Ga Ho O O O) O (Dq (.dptr ((Stowed.cs y26).drop 1)) (Ga J2 O O O) O (Dq (I64 y26.Slot.G3) (Gf Gd O O O) O (Dq (I64 cover) (G4 O O) O (Dq (BL r31) (Gm (args:=[.agg (H0.cs s),I64 y26.Slot.G3,I64 cover]) O (H91 s y26.Slot.G3 cover r31 hr31) R1a ⟨O,O,O,O,O,O,G⟩) O (Dnil ?_))))))))))
    refine hK30 (JCc O h (fun h hb=>?_) (fun h hb=>?_))
    ·
     refine Jr fun hK32=>(JLh (E1 ([]:List Int)) (Hb 1 O O) O (JLm (I64 95) O (G7 (hK32 (Gn (⟨[E1 ([]:List Int),I64 95],[],G,O,⟨⟨_,O,.conv (.same O)⟩,⟨_,O,.conv (.same O)⟩,G⟩,O,congrArg (fun r:(List Int)×Int=>(.tup [E1 r.1,I64 r.2]:AV)) (Option.some.inj h)⟩))))))
    ·
     refine Gk (hK29 (G2 (JLm (Eh i26) O (JLh (I64 ((i26+1:Nat):Int)) (Hs (Hf hk26 hm32) O O O) O (JLm (I64 ((i26+1:Nat):Int)) O (G7 (e26 _ _ (i26+1) () (app1 hn26 h) (by omega) ⟨(.sm O O),G,rfl⟩)))))))
   ·
    have h:=app1 hkx26 (Hv hi26 (Ha hb))
    refine Hn (hK9 (Jr fun hK33=>(JLh (OW 1028 1 I64 ([]:List Int)) (G6e 1028 3 1 O O O) O (G7 (hK33 (Js fun hK34=>Jr fun hK35=>(JLm (I64 0) O (G7 (hK35 (Gq ?_))))))))))
    obtain⟨b47,kx47,hb47,hkx47,h⟩:=J3 h
    refine Hd (fun i47 (s47:(List Int))=>each b47 kx47 (List.drop i47 s.Covers) i47 s47=some r) (fun i47 s47=>[(3,E1 open_),(4,I64 cover),(5,Eb s),(13,OW 1028 1 I64 s47),(14,Eh i47)]) (fun i47 s47=>[(1028,.spare 3 1 s47.length s47.length)]) (fun i47=>s.Covers.length - i47) 0 [] h ⟨(.sm O O),⟨⟨_,rfl,.same⟩,G⟩,rfl⟩ ?_
    clear h
    intro i47 s47 hi47 K47 e47
    refine Js fun hK48=>Jr fun hK49=>(JLm (Eh i47) O (JLh (.dptr (Kc s)) (Ga J0 O O O) O (JLh (E4 s.Covers) (Gf J8 O O O) O (JLl He O O O fun hm48=>(JLh (BL (decide ((i47:Int) < (s.Covers.length:Int)))) (Hz O O O) O (G7 (hK49 (Gi O (fun hb=>?_) (fun hb=>?_)))))))))
    ·
     have hk47:=Jj hb
     obtain⟨y47,nx47,hy47,hn47,h⟩:=Hu hi47 hk47
     replace h:=Z9 hb47 h
     refine Gk (hK48 ?_)
     obtain⟨kj50,hkj50,h⟩:=G84 h
     refine G57 (fun j50:(List Int)=>kj50 j50=some r) (fun j50=>[(3,E1 open_),(4,I64 cover),(5,Eb s),(13,OW 1028 1 I64 j50),(14,Eh i47)]) (fun j50=>[(1028,.spare 3 1 j50.length j50.length)]) (fun Kj50 ej50=>?_) ?_
     ·
      refine Gq (Jr fun hK51=>(JLm (Eh i47) O (JLm (I64 cover) O (JLh (BL (decide ((i47:Int)=cover))) (Jw O O O) O (JLm (BL (decide ((i47:Int)=cover))) O (JLo (E1 open_) [] O .scf G (fun hc=>G4 O O) O (JLo (Eh i47) [] O .scf G (fun hc=>G4 O O) O ?_)))))))
      obtain⟨r52,hr52,h⟩:=Gc h
      refine JLo (BL r52) [56,57] O .scf ⟨Ua,Ua,G⟩ (fun hc=>Gm (args:=[E1 open_,Eh i47]) O (Yu open_ (i47:Int) r52 (Gu hc hr52)) H2c ⟨O,O,O,O,G⟩) O (JLh (BL ((decide ((i47:Int)=cover))||r52)) (Y4 O O O O) O (G7 (hK51 (JCc O h (fun h hb=>?_) (fun h hb=>?_)))))
      ·
       refine G2 (JLm (OW 1028 1 I64 s47) O (JLm (Eh i47) O (JLh (E1 [(i47:Int)]) (Hj (xs:=[Eh i47]) O ⟨O,O,G⟩ Gs Rw O O O O) O ?_)))
       obtain⟨ha53,h⟩:=Hr h
       refine JLh (OW 1028 1 I64 (s47++[(i47:Int)])) (Qt (f:=I64) (xs:=s47) (ys:=[(i47:Int)]) O O O O Gs Zm ha53 (fun _=>O) (.inl O) O) O (JLm (OW 1028 1 I64 (s47++[(i47:Int)])) O (G7 (ej50 _ _ (s47++[(i47:Int)]) h ⟨(.sm O O),⟨⟨_,rfl,.same⟩,G⟩,rfl⟩)))
      ·
       refine Gk (ej50 _ _ s47 h ⟨(.sm O O),⟨⟨_,rfl,.same⟩,G⟩,rfl⟩)
     ·intro j50 h
      replace h:=app1 hkj50 h
      refine G2 (JLm (Eh i47) O (JLh (I64 ((i47+1:Nat):Int)) (Hs (Hf hk47 hm48) O O O) O (JLm (I64 ((i47+1:Nat):Int)) O (G7 (e47 _ _ (i47+1) j50 (app1 hn47 h) (by omega) ⟨(.sm O O),⟨⟨_,rfl,.same⟩,G⟩,rfl⟩)))))
    ·
     have h:=app1 hkx47 (Hv hi47 (Ha hb))
     refine Hn (hK34 (Jr fun hK54=>(JLm (OW 1028 1 I64 s47) O (JLm (OW 1028 1 I64 s47) O (JLm (I64 0) O (G7 (hK54 (Gn (⟨[E1 s47,I64 0],[],G,O,⟨⟨_,O,.conv (.list O)⟩,⟨_,O,.conv (.same O)⟩,G⟩,O,congrArg (fun r:(List Int)×Int=>(.tup [E1 r.1,I64 r.2]:AV)) (Option.some.inj h)⟩)))))))))

def Qv (F:Nat) (s:H0) (boxes:List Box) (l:List Stowed) (open_:List Int) (cover:Int):Option ((List Int)×Int):=
 bnd (Jf F s boxes l open_) fun r4=>
 bif (!r4) then
 (some ([],2))
 else
 (bif ((decide (cover < 0))||(decide ((s.Covers.length:Int)≤cover))) then
  (some ([],6))
  else
  (each (fun y23 i23 (s23:(List Int)) nx23=>
    jp (fun kj26=>
     bnd (bif decide ((i23:Int)≠cover) then Jn open_ (i23:Int) else some default) fun r28=>
     bif ((decide ((i23:Int)≠cover))&&r28) then
     (need (decide ((s23.length+[(i23:Int)].length)*8≤140737488355328∧s23.length+[(i23:Int)].length≤maxLen)) <|
      kj26 (s23++[(i23:Int)]))
     else
     (kj26 s23)) fun(j26:(List Int))=>
    nx23 j26)
   (fun(s23:(List Int))=>
    some (s23,0)) s.Covers 0 []))
abbrev Kd (s:H0):List AV:=[E4 s.Covers,I64 s.Light.Kilos,I64 s.Light.X,I64 s.Light.Y,I64 s.Light.Z,E7 s.Rows,E6 s.Frames,E8 s.Tanks,I64 s.G1.Tolerance,I64 s.G1.Trim,I64 s.G1.List_,I64 s.G1.Stability]
theorem H7b (F:Nat) (s:H0) (boxes:List Box) (l:List Stowed) (open_:List Int) (cover:Int) (r:(List Int)×Int) (h:Qv F s boxes l open_ cover=some r):Pure Ei 19 [.agg (H0.cs s),E3 boxes,E2 l,E1 open_,I64 cover] (·=.tup [E1 r.1,I64 r.2]):=by
 unfold Qv at h
 refine Gz [.tmp 10,.tmp 11] Tryz.func19 O O (Jr fun hK1=>(JLh (.ptr 1030 0) (Je (cs:=(H0.cs s)) 1030 O O O O O) O (JLh (E1 ([]:List Int)) (Hb 1 O O) O (JLm (I64 0) O (G7 (hK1 ?_))))))
 refine Gx [(1,E3 boxes),(2,E2 l),(3,E1 open_),(4,I64 cover),(5,Eb s)] [] 1030 rfl rfl rfl G rfl (by repeat' (first | exact .ptr | constructor)) (Js fun hK2=>Jr fun hK3=>(JLh (.agg (H0.cs s)) (Gh Hc O O O) O (JLm (E3 boxes) O (JLm (E2 l) O (JLm (E1 open_) O ?_)))))
 obtain⟨r4,hr4,h⟩:=Gc h
 refine JLh (BL r4) (Gm O (G08 F s boxes l open_ r4 hr4) Ha4 ⟨O,O,O,O,O,O,O,O,G⟩) O (JLh (BL (!r4)) (Q7 (b:=r4) O O) O (G7 (hK3 (JCc O h (fun h hb=>?_) (fun h hb=>?_)))))
 ·
  refine Jr fun hK5=>(JLh (E1 ([]:List Int)) (Hb 1 O O) O (JLm (I64 2) O (G7 (hK5 (Gn (⟨[E1 ([]:List Int),I64 2],[],G,O,⟨⟨_,O,.conv (.same O)⟩,⟨_,O,.conv (.same O)⟩,G⟩,O,congrArg (fun r:(List Int)×Int=>(.tup [E1 r.1,I64 r.2]:AV)) (Option.some.inj h)⟩))))))
 ·
  refine Gk (hK2 (Js fun hK6=>?_))
  refine Jr fun hK7=>(JLm (I64 cover) O (JLh (BL (decide (cover < 0))) (Hz O O O) O (JLm (BL (decide (cover < 0))) O (JLo (I64 cover) [] O .scf G (fun hc=>G4 O O) O (JLo (.dptr (Kd s)) [] O .scf G (fun hc=>Ga J0 O O O) O (JLo (E4 s.Covers) [24] O .scf ⟨Ua,G⟩ (fun hc=>Gf J8 O O O) O (JLo (Eh s.Covers.length) [25] O .scf ⟨Ua,G⟩ (fun hc=>Qe (f:=G9.av) (xs:=s.Covers) He O O) O (JLo (BL (decide ((s.Covers.length:Int)≤cover))) [23,26] O .scf ⟨Ua,Ua,G⟩ (fun hc=>Zf O O O) O (JLh (BL ((decide (cover < 0))||(decide ((s.Covers.length:Int)≤cover)))) (Y4 O O O O) O (G7 (hK7 ?_)))))))))))
  refine JCc O h ?_ ?_<;>intro h hb
  ·
   refine Jr fun hK8=>(JLh (E1 ([]:List Int)) (Hb 1 O O) O (JLm (I64 6) O (G7 (hK8 (Gn (⟨[E1 ([]:List Int),I64 6],[],G,O,⟨⟨_,O,.conv (.same O)⟩,⟨_,O,.conv (.same O)⟩,G⟩,O,congrArg (fun r:(List Int)×Int=>(.tup [E1 r.1,I64 r.2]:AV)) (Option.some.inj h)⟩))))))
  ·
   refine Gk (hK6 (Jr fun hK9=>(JLh (OW 1031 1 I64 ([]:List Int)) (G6e 1031 3 1 O O O) O (G7 (hK9 (Js fun hK10=>Jr fun hK11=>(JLm (I64 0) O (G7 (hK11 (Gq ?_))))))))))
   obtain⟨b23,kx23,hb23,hkx23,h⟩:=J3 h
   refine Hd (fun i23 (s23:(List Int))=>each b23 kx23 (List.drop i23 s.Covers) i23 s23=some r) (fun i23 s23=>[(3,E1 open_),(4,I64 cover),(5,Eb s),(12,OW 1031 1 I64 s23),(13,Eh i23)]) (fun i23 s23=>[(1031,.spare 3 1 s23.length s23.length)]) (fun i23=>s.Covers.length - i23) 0 [] h ⟨(.sm O O),⟨⟨_,rfl,.same⟩,G⟩,rfl⟩ ?_
   clear h
   intro i23 s23 hi23 K23 e23
   refine Js fun hK24=>Jr fun hK25=>(JLm (Eh i23) O (JLh (.dptr (Kd s)) (Ga J0 O O O) O (JLh (E4 s.Covers) (Gf J8 O O O) O (JLl He O O O fun hm32=>(JLh (BL (decide ((i23:Int) < (s.Covers.length:Int)))) (Hz O O O) O (G7 (hK25 (Gi O (fun hb=>?_) (fun hb=>?_)))))))))
   ·
    have hk23:=Jj hb
    obtain⟨y23,nx23,hy23,hn23,h⟩:=Hu hi23 hk23
    replace h:=Z9 hb23 h
    refine Gk (hK24 ?_)
    obtain⟨kj26,hkj26,h⟩:=G84 h
    refine G57 (fun j26:(List Int)=>kj26 j26=some r) (fun j26=>[(3,E1 open_),(4,I64 cover),(5,Eb s),(12,OW 1031 1 I64 j26),(13,Eh i23)]) (fun j26=>[(1031,.spare 3 1 j26.length j26.length)]) (fun Kj26 ej26=>?_) ?_
    ·
     refine Gq (Jr fun hK27=>(JLm (Eh i23) O (JLm (I64 cover) O (JLh (BL (decide ((i23:Int)≠cover))) (G0e O O O) O (JLm (BL (decide ((i23:Int)≠cover))) O (JLo (E1 open_) [] O .sct G (fun hc=>G4 O O) O (JLo (Eh i23) [] O .sct G (fun hc=>G4 O O) O ?_)))))))
     obtain⟨r28,hr28,h⟩:=Gc h
     refine JLo (BL r28) [40,41] O .sct ⟨Ua,Ua,G⟩ (fun hc=>Gm (args:=[E1 open_,Eh i23]) O (Yu open_ (i23:Int) r28 (Gu hc hr28)) H2c ⟨O,O,O,O,G⟩) O (JLh (BL ((decide ((i23:Int)≠cover))&&r28)) (Hy O O O O) O (G7 (hK27 (JCc O h (fun h hb=>?_) (fun h hb=>?_)))))
     ·
      refine G2 (JLm (OW 1031 1 I64 s23) O (JLm (Eh i23) O (JLh (E1 [(i23:Int)]) (Hj (xs:=[Eh i23]) O ⟨O,O,G⟩ Gs Rw O O O O) O ?_)))
      obtain⟨ha29,h⟩:=Hr h
      refine JLh (OW 1031 1 I64 (s23++[(i23:Int)])) (Qt (f:=I64) (xs:=s23) (ys:=[(i23:Int)]) O O O O Gs Zm ha29 (fun _=>O) (.inl O) O) O (JLm (OW 1031 1 I64 (s23++[(i23:Int)])) O (G7 (ej26 _ _ (s23++[(i23:Int)]) h ⟨(.sm O O),⟨⟨_,rfl,.same⟩,G⟩,rfl⟩)))
     ·
      refine Gk (ej26 _ _ s23 h ⟨(.sm O O),⟨⟨_,rfl,.same⟩,G⟩,rfl⟩)
    ·intro j26 h
     replace h:=app1 hkj26 h
     refine G2 (JLm (Eh i23) O (JLh (I64 ((i23+1:Nat):Int)) (Hs (Hf hk23 hm32) O O O) O (JLm (I64 ((i23+1:Nat):Int)) O (G7 (e23 _ _ (i23+1) j26 (app1 hn23 h) (by omega) ⟨(.sm O O),⟨⟨_,rfl,.same⟩,G⟩,rfl⟩)))))
   ·
    have h:=app1 hkx23 (Hv hi23 (Ha hb))
    refine Hn (hK10 (Jr fun hK30=>(JLm (OW 1031 1 I64 s23) O (JLm (OW 1031 1 I64 s23) O (JLm (I64 0) O (G7 (hK30 (Gn (⟨[E1 s23,I64 0],[],G,O,⟨⟨_,O,.conv (.list O)⟩,⟨_,O,.conv (.same O)⟩,G⟩,O,congrArg (fun r:(List Int)×Int=>(.tup [E1 r.1,I64 r.2]:AV)) (Option.some.inj h)⟩)))))))))

def Ra (a:List Stowed) (b:List Stowed):Option Bool:=
 bif decide ((a.length:Int)≠(b.length:Int)) then
 (some false)
 else
 (each (fun y24 i24 (s24:Unit) nx24=>
   Qq b (i24:Int) fun y29=>
   bif (!decide (y24=y29)) then
   (some false)
   else
   (nx24 ()))
  (fun(s24:Unit)=>
   some true) a 0 ())
theorem G6b (a:List Stowed) (b:List Stowed) (r:Bool) (h:Ra a b=some r):Pure Ei 26 [E2 a,E2 b] (·=BL r):=by
 unfold Ra at h
 refine Gz [.tmp 4] Tryz.func26 O O (Jr fun hK1=>(JLm (BL false) O (G7 (hK1 (Js fun hK2=>Jr fun hK3=>(JLm (E2 a) O (JLl Gt O O O fun hm7=>(JLm (E2 b) O (JLl Gt O O O fun hm9=>(JLh (BL (decide ((a.length:Int)≠(b.length:Int)))) (G0e O O O) O (G7 (hK3 (JCc O h (fun h hb=>?_) (fun h hb=>?_))))))))))))))
 ·
  refine Jr fun hK4=>(JLm (BL false) O (G7 (hK4 (Gn (fin1 BL h)))))
 ·
  refine Gk (hK2 (Js fun hK5=>Jr fun hK6=>(JLm (I64 0) O (G7 (hK6 (Gq ?_))))))
  obtain⟨b24,kx24,hb24,hkx24,h⟩:=J3 h
  refine Hd (fun i24 (s24:Unit)=>each b24 kx24 (List.drop i24 a) i24 s24=some r) (fun i24 s24=>[(0,E2 a),(1,E2 b),(5,Eh i24)]) (fun i24 s24=>[]) (fun i24=>a.length - i24) 0 () h ⟨(.sm O O),G,O⟩ ?_
  clear h
  intro i24 s24 hi24 K24 e24
  refine Js fun hK25=>Jr fun hK26=>(JLm (Eh i24) O (JLm (E2 a) O (JLl Gt O O O fun hm13=>(JLh (BL (decide ((i24:Int) < (a.length:Int)))) (Hz O O O) O (G7 (hK26 (Gi O (fun hb=>?_) (fun hb=>?_))))))))
  ·
   have hk24:=Jj hb
   obtain⟨y24,nx24,hy24,hn24,h⟩:=Hu hi24 hk24
   replace h:=Z9 hb24 h
   refine Gk (hK25 (Js fun hK27=>Gq (Js fun hK28=>?_)))
   obtain⟨m30,y29,hm30,hy29,h⟩:=R1 h
   refine JC_d0 J6 (by kernel_rfl) (Dq (E2 a) (G4 O O) O (Dq (Eh i24) (G4 O O) O (Dq (Ec y24) (Gw (f:=Stowed.av) (xs:=a) (y:=y24) O O O Gt hy24 O) O (Dq (.agg (Stowed.cs y24)) (Gh R6 O O O) O (Dq (E2 b) (G4 O O) O (Dq (Eh i24) (G4 O O) O (Dq (Ec y29) (Gw (f:=Stowed.av) (xs:=b) (y:=y29) O O O Gt hy29 hm30) O (Dq (.agg (Stowed.cs y29)) (Gh R6 O O O) O (Dq (BL (!decide (y24=y29))) (Q91 (vs:=[.int .i64 y24.Box,.int .i64 y24.Slot.G3,.int .i64 y24.Slot.Tier,.int .u8 y24.Slot.Half]) (us:=[.int .i64 y29.Box,.int .i64 y29.Slot.G3,.int .i64 y29.Slot.Tier,.int .u8 y29.Slot.Half]) 4 O (Rc0 y24 y29) Hd7 J5e O O O) O (Dnil (hK28 (JCc O h (fun h hb=>?_) (fun h hb=>?_)))))))))))))
   ·
    refine Jr fun hK31=>(JLm (BL false) O (G7 (hK31 (Gn (fin1 BL h)))))
   ·
    refine Gk (hK27 (G2 (JLm (Eh i24) O (JLh (I64 ((i24+1:Nat):Int)) (Hs (Hf hk24 hm13) O O O) O (JLm (I64 ((i24+1:Nat):Int)) O (G7 (e24 _ _ (i24+1) () (app1 hn24 h) (by omega) ⟨(.sm O O),G,rfl⟩)))))))
  ·
   have h:=app1 hkx24 (Hv hi24 (Ha hb))
   refine Hn (hK5 (Jr fun hK32=>(JLm (BL true) O (G7 (hK32 (Gn (fin1 BL h)))))))

def Yf (out:Ln Stowed):Option (List Stowed):=
 chk (((out.1.length:Nat):Int)+12) fun v3=>
 need (decide (v3≤((out.1++out.2).length:Int))) <|
 need (decide (v3=((out.1++out.2).length:Int))) <|
 need (decide ((((out.1++out.2).length:Nat):Int)≤9223372036854775807)) <|
 upto (fun i25 (s25:(List Stowed)) nx25=>
  bnd (Jk 2 (i25:Int)) fun r29=>
  Qq s25 (i25:Int) fun y30=>
  nx25 (s25.set (i25:Int).toNat r29))
 (fun(s25:(List Stowed))=>
  some s25) (((out.1++out.2).length:Nat):Int).toNat 0 (out.1++out.2)
theorem Ga2 (out:Ln Stowed) (out_q:Nat) (r:(List Stowed)) (h:Yf out=some r):Qb Ei 24 [.vsl 1011 out_q 4 0 out.1.length] [(1011,.vec 39 4 out_q ((out.1++out.2).map Stowed.av))] (fun av L'=>av=.tup []∧L'=[(1011,.vec 39 4 out_q (r.map Stowed.av))]):=by
 unfold Yf at h
 refine Qz [1011] [] Tryz.func24 O O (Ga6 O) (Jr fun hK1=>(JLm (.vsl 1011 out_q 4 0 out.1.length) O (JLm (.vsl 1011 out_q 4 0 out.1.length) O (G48 O O O (Qf5 Gt O O O O) ?_))))
 rintro u_ L_ ⟨c2,hc2,rfl,rfl⟩
 refine JLm (.vsl 1011 out_q 4 0 out.1.length) O (JLh (I64 ((out.1.length:Nat):Int)) (J59 O Gt O O) O ?_)
 obtain⟨v3,hv3,h⟩:=Q2 h
 refine JLh (I64 v3) (Hs hv3 O O O) O ?_
 obtain⟨ha4,h⟩:=Hr h
 refine JLh (I64 v3) (Reb (R6e (by simpa using hc2) ha4) rfl rfl rfl) O ?_
 obtain⟨ha5,h⟩:=Hr h
 refine JLh (.vec 1011 out_q 4 ((out.1++out.2).length)) (Ja0 (f:=Stowed.av) (xs:=(out.1++out.2)) O O O O Gt ha5 O) O (JLm (.vec 1011 out_q 4 ((out.1++out.2).length)) O (G7 (hK1 (Jr fun hK6=>(JLm (I64 0) O (G7 (hK6 (Gq ?_))))))))
 obtain⟨hx25,h⟩:=Hr h
 obtain⟨b25,kx25,hb25,hkx25,h⟩:=G4d h
 refine Hd (fun i25 (s25:(List Stowed))=>upto b25 kx25 ((((out.1++out.2).length:Nat):Int).toNat - i25) i25 s25=some r) (fun i25 s25=>[(2,.vec 1011 out_q 4 ((out.1++out.2).length)),(3,Eh i25)]) (fun i25 s25=>[(1011,.vec 39 4 out_q (s25.map Stowed.av))]) (fun i25=>(((out.1++out.2).length:Nat):Int).toNat - i25) 0 (out.1++out.2) h ⟨(.sm O O),⟨⟨_,O,.vec⟩,G⟩,O⟩ ?_
 clear h
 intro i25 s25 hi25 K25 e25
 refine Js fun hK26=>Jr fun hK27=>(JLm (Eh i25) O (JLm (.vec 1011 out_q 4 ((out.1++out.2).length)) O (JLh (I64 (((out.1++out.2).length:Nat):Int)) (Hbf Gt O O O) O (JLh (BL (decide ((i25:Int) < (((out.1++out.2).length:Nat):Int)))) (Hz O O O) O (G7 (hK27 (Gi O (fun hb=>?_) (fun hb=>?_))))))))
 ·
  have hk25:=G21 hb
  obtain⟨nx25,hn25,h⟩:=G1e hi25 hk25
  replace h:=Hba hb25 h
  refine Gk (hK26 (Js fun hK28=>Gq (G2 (JLm (.vec 1011 out_q 4 ((out.1++out.2).length)) O (JLm (Eh i25) O (JLm (Eh i25) O ?_))))))
  obtain⟨r29,hr29,h⟩:=Gc h
  refine JLh (.agg (Stowed.cs r29)) (Gm O (Zz 2 (i25:Int) r29 hr29) Ha6 ⟨O,O,O,O,G⟩) O ?_
  obtain⟨y30,hmy30,hy30,h⟩:=Q5d h
  refine JLh (.vptr 1011 out_q ((i25:Int).toNat) 0) (R7a (f:=Stowed.av) (xs:=s25) (y:=y30) O O O O Gt hy30 hmy30) O (Jo (u:=.junk) (Q6a (f:=Stowed.av) (xs:=s25) (z:=r29) G7f O O O O (List.getElem?_eq_some_iff.1 hy30).1 O O O O) (G7 (hK28 (G2 (JLm (Eh i25) O (JLh (I64 ((i25+1:Nat):Int)) (Hs (Hf hk25 (Zj hx25)) O O O) O (JLm (I64 ((i25+1:Nat):Int)) O (G7 (e25 _ _ (i25+1) (s25.set (i25:Int).toNat r29) (app1 hn25 h) (by omega) ⟨(.sm O O),⟨⟨_,rfl,.vec⟩,G⟩,rfl⟩)))))))))
 ·
  have h:=app1 hkx25 (G1f hi25 (Qu hb))
  refine Hn ?_
  obtain rfl:=Option.some.inj h
  exact⟨[],[(1011,.vec 39 4 out_q (s25.map Stowed.av))],⟨⟨_,O,.vec⟩,G⟩,O,G,O,O⟩

def Zs (out:Ln Int):Option (List Int):=
 chk (((out.1.length:Nat):Int)+12) fun v3=>
 need (decide (v3≤((out.1++out.2).length:Int))) <|
 need (decide (v3=((out.1++out.2).length:Int))) <|
 need (decide ((((out.1++out.2).length:Nat):Int)≤9223372036854775807)) <|
 upto (fun i25 (s25:(List Int)) nx25=>
  bnd (Ja 2 (i25:Int)) fun r29=>
  Qq s25 (i25:Int) fun y30=>
  nx25 (s25.set (i25:Int).toNat r29))
 (fun(s25:(List Int))=>
  some s25) (((out.1++out.2).length:Nat):Int).toNat 0 (out.1++out.2)
theorem Gbc (out:Ln Int) (out_q:Nat) (r:(List Int)) (h:Zs out=some r):Qb Ei 25 [.vsl 1012 out_q 1 0 out.1.length] [(1012,.vec 3 1 out_q ((out.1++out.2).map I64))] (fun av L'=>av=.tup []∧L'=[(1012,.vec 3 1 out_q (r.map I64))]):=by
 unfold Zs at h
 refine Qz [1012] [] Tryz.func25 O O (Ga6 O) (Jr fun hK1=>(JLm (.vsl 1012 out_q 1 0 out.1.length) O (JLm (.vsl 1012 out_q 1 0 out.1.length) O (G48 O O O (Qf5 Gs O O O O) ?_))))
 rintro u_ L_ ⟨c2,hc2,rfl,rfl⟩
 refine JLm (.vsl 1012 out_q 1 0 out.1.length) O (JLh (I64 ((out.1.length:Nat):Int)) (J59 O Gs O O) O ?_)
 obtain⟨v3,hv3,h⟩:=Q2 h
 refine JLh (I64 v3) (Hs hv3 O O O) O ?_
 obtain⟨ha4,h⟩:=Hr h
 refine JLh (I64 v3) (Reb (R6e (by simpa using hc2) ha4) rfl rfl rfl) O ?_
 obtain⟨ha5,h⟩:=Hr h
 refine JLh (.vec 1012 out_q 1 ((out.1++out.2).length)) (Ja0 (f:=I64) (xs:=(out.1++out.2)) O O O O Gs ha5 O) O (JLm (.vec 1012 out_q 1 ((out.1++out.2).length)) O (G7 (hK1 (Jr fun hK6=>(JLm (I64 0) O (G7 (hK6 (Gq ?_))))))))
 obtain⟨hx25,h⟩:=Hr h
 obtain⟨b25,kx25,hb25,hkx25,h⟩:=G4d h
 refine Hd (fun i25 (s25:(List Int))=>upto b25 kx25 ((((out.1++out.2).length:Nat):Int).toNat - i25) i25 s25=some r) (fun i25 s25=>[(2,.vec 1012 out_q 1 ((out.1++out.2).length)),(3,Eh i25)]) (fun i25 s25=>[(1012,.vec 3 1 out_q (s25.map I64))]) (fun i25=>(((out.1++out.2).length:Nat):Int).toNat - i25) 0 (out.1++out.2) h ⟨(.sm O O),⟨⟨_,O,.vec⟩,G⟩,O⟩ ?_
 clear h
 intro i25 s25 hi25 K25 e25
 refine Js fun hK26=>Jr fun hK27=>(JLm (Eh i25) O (JLm (.vec 1012 out_q 1 ((out.1++out.2).length)) O (JLh (I64 (((out.1++out.2).length:Nat):Int)) (Hbf Gs O O O) O (JLh (BL (decide ((i25:Int) < (((out.1++out.2).length:Nat):Int)))) (Hz O O O) O (G7 (hK27 (Gi O (fun hb=>?_) (fun hb=>?_))))))))
 ·
  have hk25:=G21 hb
  obtain⟨nx25,hn25,h⟩:=G1e hi25 hk25
  replace h:=Hba hb25 h
  refine Gk (hK26 (Js fun hK28=>Gq (G2 (JLm (.vec 1012 out_q 1 ((out.1++out.2).length)) O (JLm (Eh i25) O (JLm (Eh i25) O ?_))))))
  obtain⟨r29,hr29,h⟩:=Gc h
  refine JLh (I64 r29) (Gm O (Q1 2 (i25:Int) r29 hr29) G3f ⟨O,O,O,O,G⟩) O ?_
  obtain⟨y30,hmy30,hy30,h⟩:=Q5d h
  refine JLh (.vptr 1012 out_q ((i25:Int).toNat) 0) (R7a (f:=I64) (xs:=s25) (y:=y30) O O O O Gs hy30 hmy30) O (Jo (u:=.junk) (Q6a (f:=I64) (xs:=s25) (z:=r29) R81 O O O O (List.getElem?_eq_some_iff.1 hy30).1 O O O O) (G7 (hK28 (G2 (JLm (Eh i25) O (JLh (I64 ((i25+1:Nat):Int)) (Hs (Hf hk25 (Zj hx25)) O O O) O (JLm (I64 ((i25+1:Nat):Int)) O (G7 (e25 _ _ (i25+1) (s25.set (i25:Int).toNat r29) (app1 hn25 h) (by omega) ⟨(.sm O O),⟨⟨_,rfl,.vec⟩,G⟩,rfl⟩)))))))))
 ·
  have h:=app1 hkx25 (G1f hi25 (Qu hb))
  refine Hn ?_
  obtain rfl:=Option.some.inj h
  exact⟨[],[(1012,.vec 3 1 out_q (s25.map I64))],⟨⟨_,O,.vec⟩,G⟩,O,G,O,O⟩
end
end Go.Proofs.YtecjdioomlhhiaaGreat
