/-
 Models of functions of the program,and that they return what the models say.
-/
import Derived.Test.YteogacmpgdpjlaaGreatXPa
set_option maxRecDepth 100000
namespace Go.Proofs.YteogacmpgdpjlaaGreat
open Go.RowKit
noncomputable section
open XAF
open XLF
open XSF
open XMF
open XPF

def Yx (F:Nat) (s:H8) (boxes:List H2) (l:List G6):Option Bool:=
 bnd (Y4 F s) fun r4=>
 bif (!r4) then
 (some false)
 else
 (each (fun y8 i8 (s8:Unit) nx8=>
   bnd (Zb boxes y8.H2) fun r13=>
   bnd (bif (!(!r13.2)) then Yn (r13.1.Size) some else some 0) fun v16=>
   bnd (bif (!(!r13.2)) then G0f s y8.Slot v16 else some default) fun r17=>
   bnd (bif (!((!r13.2)||(!r17))) then G0e l else some default) fun r18=>
   bnd (bif (!((!r13.2)||(!r17))) then G20 y8.Slot r18 else some default) fun r19=>
   bif (((!r13.2)||(!r17))||(!r19)) then
   (some false)
   else
   (need (decide ((i8:Int)≤9223372036854775807)) <|
    upto (fun i39 (s39:Unit) nx39=>
     Jc l (i39:Int) fun y44=>
     bnd (bif (!(decide (y8.H2≤y44.H2))) then Jc l (i39:Int) some else some default) fun y46=>
     bnd (bif (!(decide (y8.H2≤y44.H2))) then G1f y46.Slot y8.Slot else some default) fun r47=>
     bif ((decide (y8.H2≤y44.H2))||r47) then
     (some false)
     else
     (nx39 ()))
    (fun(s39:Unit)=>
     nx8 ()) (i8:Int).toNat 0 ()))
  (fun(s8:Unit)=>
   each (fun y62 i62 (s62:Unit) nx62=>
    bnd (G1d s boxes l (i62:Int)) fun r67=>
    bif r67 then
    (some false)
    else
    (nx62 ()))
   (fun(s62:Unit)=>
    some true) s.Columns 0 ()) l 0 ())
theorem Gc9 (F:Nat) (s:H8) (boxes:List H2) (l:List G6) (r:Bool) (h:Yx F s boxes l=some r):Pure En 59 [.agg (H8.cs s),E3 boxes,E0 l] (·=BL r):=by
 unfold Yx at h
 refine H0 [.tmp 6] Tryz.func59 O O (Jr fun hK1=>(JLh (.ptr 1101 0) (Jq (cs:=(H8.cs s)) 1101 O O O O O) O (JLm (BL false) O (G8 (hK1 (Gx [(1,E3 boxes),(2,E0 l),(3,Ed s)] [] 1101 rfl rfl rfl G rfl (by exact⟨.conv (.same rfl),.conv (.same rfl),.ptr,G⟩) (Js fun hK2=>?_)))))))
 refine Jr fun hK3=>(JLh (.agg (H8.cs s)) (Gi J1 O O O) O ?_)
 obtain⟨r4,hr4,h⟩:=Gf h
 refine JLh (BL r4) (Gq O (Gca F s r4 hr4) Q14 ⟨O,O,G⟩) O (JLh (BL (!r4)) (R9 (b:=r4) O O) O (G8 (hK3 (JCc O h (fun h hb=>?_) (fun h hb=>?_)))))
 ·
  refine Jr fun hK5=>(JLm (BL false) O (G8 (hK5 (Gt (fin1 BL h)))))
 ·
  refine Gm (hK2 (Js fun hK6=>Jr fun hK7=>(JLm (G0 0) O (G8 (hK7 (Gk ?_))))))
  obtain⟨b8,kx8,hb8,hkx8,h⟩:=J4 h
  refine H6 (fun i8 (s8:Unit)=>each b8 kx8 (List.drop i8 l) i8 s8=some r) (fun i8 s8=>[(1,E3 boxes),(2,E0 l),(3,Ed s),(7,Em i8)]) (fun i8 s8=>[]) (fun i8=>l.length - i8) 0 () h ⟨(by repeat' constructor),G,rfl⟩ ?_
  clear h
  intro i8 s8 hi8 K8 e8
  refine Js fun hK9=>Jr fun hK10=>(JLm (Em i8) O (JLm (E0 l) O (JLl Gz O O O fun hm17=>(JLh (BL (decide ((i8:Int) < (l.length:Int)))) (Hy O O O) O (G8 (hK10 (Gj O (fun hb=>?_) (fun hb=>?_))))))))
  ·
   have hk8:=Je hb
   obtain⟨y8,nx8,hy8,hn8,h⟩:=Hs hi8 hk8
   replace h:=Y8 hb8 h
   refine Gm (hK9 (Js fun hK11=>Gk (Jr fun hK12=>(JLm (E3 boxes) O (JLm (E0 l) O (JLm (Em i8) O (JLh (Ee y8) (Gs (f:=G6.av) (xs:=l) (y:=y8) O O O Gz hy8 O) O (JLh (Ee y8) (Ga Q7 O O O) O (JLh (G0 y8.H2) (Gh Gc O O O) O ?_)))))))))
   obtain⟨r13,hr13,h⟩:=Gf h
   refine JLh (.tup [.agg (H2.cs r13.1),BL r13.2]) (Gq O (Ge7 boxes y8.H2 r13 hr13) Q0f ⟨O,O,O,O,G⟩) O (JLm (.tup [.agg (H2.cs r13.1),BL r13.2]) O (JLh (.agg (H2.cs r13.1)) (Jn O O O) O (JLh (BL r13.2) (Jn O O O) O (JLh (.ptr 1102 0) (Ju 1102 9 Gdf O O) O (Ja (u:=.junk) (J0 (u:=.agg (H2.cs r13.1)) (ds:=(H2.cs r13.1)) G7c O O O O O O O O) (JLm (BL r13.2) O (G8 (hK12 ?_))))))))
   refine Gx [(1,E3 boxes),(2,E0 l),(3,Ed s),(7,Em i8),(8,Eh r13.1),(9,BL r13.2)] [] 1102 rfl rfl rfl G rfl (by repeat' (first | exact .ptr | constructor)) (Js fun hK14=>Js fun hK15=>?_)
   obtain⟨v16,hv16,h⟩:=Gf h
   obtain⟨r17,hr17,h⟩:=Gf h
   obtain⟨r18,hr18,h⟩:=Gf h
   obtain⟨r19,hr19,h⟩:=Gf h
   refine JC_d0 Jb (by kernel_rfl) (Dq (BL r13.2) (G5 O O) O (Dq (BL (!r13.2)) (R9 (b:=r13.2) O O) O (Dq (BL (!r13.2)) (G5 O O) O (Do (.agg (H8.cs s)) [] O .scf G (fun hc=>Gi J1 O O O) O (Do (E0 l) [] O .scf G (fun hc=>G5 O O) O (Do (Em i8) [] O .scf G (fun hc=>G5 O O) O (Do (Ee y8) [35,36] O .scf ⟨Ua,Ua,G⟩ (fun hc=>Gs (f:=G6.av) (xs:=l) (y:=y8) O O O Gz hy8 O) O (Do (.dptr ((G6.cs y8).drop 1)) [37] O .scf ⟨Ua,G⟩ (fun hc=>Ga Hg O O O) O (Do (.agg ((G6.cs y8).drop 1)) [38] O .scf ⟨Ua,G⟩ (fun hc=>Gi Jg O O O) O (Do (.dptr ((H2.cs r13.1).drop 2)) [] O .scf G (fun hc=>Ga J46 O O O) O (Do (U8 r13.1.Size) [40] O .scf ⟨Ua,G⟩ (fun hc=>Gh J5 O O O) O (Do (G0 v16) [41] O .scf ⟨Ua,G⟩ (fun hc=>Jba J76 Hf8 (G1c (Gv hc hv16)) O O) O (Do (BL r17) [34,39,42] O .scf ⟨Ua,Ua,Ua,G⟩ (fun hc=>Gq (args:=[.agg (H8.cs s),.agg ((G6.cs y8).drop 1),G0 v16]) O (Ha7 s y8.Slot v16 r17 (Gv hc hr17)) Qb3 ⟨O,O,O,O,O,O,G⟩) O ?_)))))))))))))
   refine Do (BL (!r17)) [43] O .scf ⟨Ua,G⟩ (fun hc=>R9 (b:=r17) O O) O (Dq (BL ((!r13.2)||(!r17))) (Y7 O O O O) O (Dq (BL ((!r13.2)||(!r17))) (G5 O O) O (Do (E0 l) [] O .scf G (fun hc=>G5 O O) O (Do (Em i8) [] O .scf G (fun hc=>G5 O O) O (Do (Ee y8) [47,48] O .scf ⟨Ua,Ua,G⟩ (fun hc=>Gs (f:=G6.av) (xs:=l) (y:=y8) O O O Gz hy8 O) O (Do (.dptr ((G6.cs y8).drop 1)) [49] O .scf ⟨Ua,G⟩ (fun hc=>Ga Hg O O O) O (Do (.agg ((G6.cs y8).drop 1)) [50] O .scf ⟨Ua,G⟩ (fun hc=>Gi Jg O O O) O (Do (E0 l) [] O .scf G (fun hc=>G5 O O) O (Do (E9 r18) [52] O .scf ⟨Ua,G⟩ (fun hc=>Gq (args:=[E0 l]) O (Ha6 l r18 (Gv hc hr18)) Qb1 ⟨O,O,G⟩) O (Do (BL r19) [51,53] O .scf ⟨Ua,Ua,G⟩ (fun hc=>Gq (args:=[.agg ((G6.cs y8).drop 1),E9 r18]) O (Hbe y8.Slot r18 r19 (Gv hc hr19)) Qb2 ⟨O,O,O,O,G⟩) O (Do (BL (!r19)) [54] O .scf ⟨Ua,G⟩ (fun hc=>R9 (b:=r19) O O) O (Dq (BL (((!r13.2)||(!r17))||(!r19))) (Y7 O O O O) O (Dnil ?_)))))))))))))
   refine hK15 (JCc O h (fun h hb=>?_) (fun h hb=>?_))
   ·
    refine Jr fun hK20=>(JLm (BL false) O (G8 (hK20 (Gt (fin1 BL h)))))
   ·
    refine Gm (hK14 (Jr fun hK21=>(JLm (G0 0) O (G8 (hK21 (Gk ?_))))))
    obtain⟨hx39,h⟩:=Hz h
    obtain⟨b39,kx39,hb39,hkx39,h⟩:=G44 h
    refine H6 (fun i39 (s39:Unit)=>upto b39 kx39 ((i8:Int).toNat - i39) i39 s39=some r) (fun i39 s39=>[(1,E3 boxes),(2,E0 l),(3,Ed s),(7,Em i8),(10,Em i39)]) (fun i39 s39=>[]) (fun i39=>(i8:Int).toNat - i39) 0 () h ⟨(by repeat' constructor),G,rfl⟩ ?_
    clear h
    intro i39 s39 hi39 K39 e39
    refine Js fun hK40=>Jr fun hK41=>(JLm (Em i39) O (JLm (Em i8) O (JLh (BL (decide ((i39:Int) < (i8:Int)))) (Hy O O O) O (G8 (hK41 (Gj O (fun hb=>?_) (fun hb=>?_)))))))
    ·
     have hk39:=G0b hb
     obtain⟨nx39,hn39,h⟩:=G07 hi39 hk39
     replace h:=H9f hb39 h
     refine Gm (hK40 (Js fun hK42=>Gk (Js fun hK43=>?_)))
     obtain⟨m45,y44,hm45,hy44,h⟩:=R1 h
     obtain⟨y46,hy46,h⟩:=Gf h
     obtain⟨r47,hr47,h⟩:=Gf h
     refine JC_d0 Jb (by kernel_rfl) (Dq (E0 l) (G5 O O) O (Dq (Em i39) (G5 O O) O (Dq (Ee y44) (Gs (f:=G6.av) (xs:=l) (y:=y44) O O O Gz hy44 hm45) O (Dq (Ee y44) (Ga Q7 O O O) O (Dq (G0 y44.H2) (Gh Gc O O O) O (Dq (E0 l) (G5 O O) O (Dq (Em i8) (G5 O O) O (Dq (Ee y8) (Gs (f:=G6.av) (xs:=l) (y:=y8) O O O Gz hy8 O) O (Dq (Ee y8) (Ga Q7 O O O) O (Dq (G0 y8.H2) (Gh Gc O O O) O (Dq (BL (decide (y8.H2≤y44.H2))) (G06 O O O) O (Dq (BL (decide (y8.H2≤y44.H2))) (G5 O O) O (Do (E0 l) [] O .scf G (fun hc=>G5 O O) O ?_)))))))))))))
     refine Do (Em i39) [] O .scf G (fun hc=>G5 O O) O (Do (Ee y46) [74,75] O .scf ⟨Ua,Ua,G⟩ (fun hc=>(match Jm (Gv hc hy46) with | ⟨_,hm_,hy_⟩=>Gs (f:=G6.av) (xs:=l) (y:=y46) O O O Gz hy_ hm_)) O (Do (.dptr ((G6.cs y46).drop 1)) [76] O .scf ⟨Ua,G⟩ (fun hc=>Ga Hg O O O) O (Do (.agg ((G6.cs y46).drop 1)) [77] O .scf ⟨Ua,G⟩ (fun hc=>Gi Jg O O O) O (Do (E0 l) [] O .scf G (fun hc=>G5 O O) O (Do (Em i8) [] O .scf G (fun hc=>G5 O O) O (Do (Ee y8) [79,80] O .scf ⟨Ua,Ua,G⟩ (fun hc=>Gs (f:=G6.av) (xs:=l) (y:=y8) O O O Gz hy8 O) O (Do (.dptr ((G6.cs y8).drop 1)) [81] O .scf ⟨Ua,G⟩ (fun hc=>Ga Hg O O O) O (Do (.agg ((G6.cs y8).drop 1)) [82] O .scf ⟨Ua,G⟩ (fun hc=>Gi Jg O O O) O (Do (BL r47) [78,83] O .scf ⟨Ua,Ua,G⟩ (fun hc=>Gq (args:=[.agg ((G6.cs y46).drop 1),.agg ((G6.cs y8).drop 1)]) O (Hbd y46.Slot y8.Slot r47 (Gv hc hr47)) Qb0 ⟨O,O,O,O,G⟩) O (Dq (BL ((decide (y8.H2≤y44.H2))||r47)) (Y7 O O O O) O (Dnil ?_)))))))))))
     refine hK43 (JCc O h (fun h hb=>?_) (fun h hb=>?_))
     ·
      refine Jr fun hK48=>(JLm (BL false) O (G8 (hK48 (Gt (fin1 BL h)))))
     ·
      refine Gm (hK42 (G2 (JLm (Em i39) O (JLh (G0 ((i39+1:Nat):Int)) (Hx (Hc hk39 (Yt hx39)) O O O) O (JLm (G0 ((i39+1:Nat):Int)) O (G8 (e39 _ _ (i39+1) () (app1 hn39 h) (by omega) ⟨(by repeat' constructor),G,rfl⟩)))))))
    ·
     have h:=app1 hkx39 (G08 hi39 (Qr hb))
     refine Hd (hK11 (G2 (JLm (Em i8) O (JLh (G0 ((i8+1:Nat):Int)) (Hx (Hc hk8 hm17) O O O) O (JLm (G0 ((i8+1:Nat):Int)) O (G8 (e8 _ _ (i8+1) () (app1 hn8 h) (by omega) ⟨(by repeat' constructor),G,rfl⟩)))))))
  ·
   have h:=app1 hkx8 (Ht hi8 (H9 hb))
   refine Hd (hK6 (Js fun hK49=>Jr fun hK50=>(JLm (G0 0) O (G8 (hK50 (Gk ?_))))))
   obtain⟨b62,kx62,hb62,hkx62,h⟩:=J4 h
   refine H6 (fun i62 (s62:Unit)=>each b62 kx62 (List.drop i62 s.Columns) i62 s62=some r) (fun i62 s62=>[(1,E3 boxes),(2,E0 l),(3,Ed s),(11,Em i62)]) (fun i62 s62=>[]) (fun i62=>s.Columns.length - i62) 0 () h ⟨(by repeat' constructor),G,rfl⟩ ?_
   clear h
   intro i62 s62 hi62 K62 e62
   refine Js fun hK63=>Jr fun hK64=>(JLm (Em i62) O (JLh (Ed s) (Ga Hi O O O) O (JLh (E5 s.Columns) (Gh Ho O O O) O (JLl H7 O O O fun hm89=>(JLh (BL (decide ((i62:Int) < (s.Columns.length:Int)))) (Hy O O O) O (G8 (hK64 (Gj O (fun hb=>?_) (fun hb=>?_)))))))))
   ·
    have hk62:=Je hb
    obtain⟨y62,nx62,hy62,hn62,h⟩:=Hs hi62 hk62
    replace h:=Y8 hb62 h
    refine Gm (hK63 (Js fun hK65=>Gk (Jr fun hK66=>(JLh (.agg (H8.cs s)) (Gi J1 O O O) O (JLm (E3 boxes) O (JLm (E0 l) O (JLm (Em i62) O ?_)))))))
    obtain⟨r67,hr67,h⟩:=Gf h
    refine JLh (BL r67) (Gq O (Hbb s boxes l (i62:Int) r67 hr67) Qaf ⟨O,O,O,O,O,O,O,O,G⟩) O (G8 (hK66 (JCc O h (fun h hb=>?_) (fun h hb=>?_))))
    ·
     refine Jr fun hK68=>(JLm (BL false) O (G8 (hK68 (Gt (fin1 BL h)))))
    ·
     refine Gm (hK65 (G2 (JLm (Em i62) O (JLh (G0 ((i62+1:Nat):Int)) (Hx (Hc hk62 hm89) O O O) O (JLm (G0 ((i62+1:Nat):Int)) O (G8 (e62 _ _ (i62+1) () (app1 hn62 h) (by omega) ⟨(by repeat' constructor),G,rfl⟩)))))))
   ·
    have h:=app1 hkx62 (Ht hi62 (H9 hb))
    refine Hd (hK49 (Jr fun hK69=>(JLm (BL true) O (G8 (hK69 (Gt (fin1 BL h)))))))

def Jv (l:List G6) (id_:Int):Option Int:=
 each (fun y17 i17 (s17:Unit) nx17=>
  bif decide (y17.H2=id_) then
  (some (i17:Int))
  else
  (nx17 ()))
 (fun(s17:Unit)=>
  some (-1)) l 0 ()
theorem Yg (l:List G6) (id_:Int) (r:Int) (h:Jv l id_=some r):Pure En 60 [E0 l,G0 id_] (·=G0 r):=by
 unfold Jv at h
 refine H0 [.tmp 4] Tryz.func60 O O (Jr fun hK1=>(JLm (G0 0) O (G8 (hK1 (Js fun hK2=>Jr fun hK3=>(JLm (G0 0) O (G8 (hK3 (Gk ?_)))))))))
 obtain⟨b17,kx17,hb17,hkx17,h⟩:=J4 h
 refine H6 (fun i17 (s17:Unit)=>each b17 kx17 (List.drop i17 l) i17 s17=some r) (fun i17 s17=>[(0,E0 l),(1,G0 id_),(5,Em i17)]) (fun i17 s17=>[]) (fun i17=>l.length - i17) 0 () h ⟨⟨.same O,.same O,.same O,G⟩,G,O⟩ ?_
 clear h
 intro i17 s17 hi17 K17 e17
 refine Js fun hK18=>Jr fun hK19=>(JLm (Em i17) O (JLm (E0 l) O (JLl Gz O O O fun hm8=>(JLh (BL (decide ((i17:Int) < (l.length:Int)))) (Hy O O O) O (G8 (hK19 (Gj O (fun hb=>?_) (fun hb=>?_))))))))
 ·
  have hk17:=Je hb
  obtain⟨y17,nx17,hy17,hn17,h⟩:=Hs hi17 hk17
  replace h:=Y8 hb17 h
  refine Gm (hK18 (Js fun hK20=>Gk (Jr fun hK21=>(JLm (E0 l) O (JLm (Em i17) O (JLh (Ee y17) (Gs (f:=G6.av) (xs:=l) (y:=y17) O O O Gz hy17 O) O (JLh (Ee y17) (Ga Q7 O O O) O (JLh (G0 y17.H2) (Gh Gc O O O) O (JLm (G0 id_) O (JLh (BL (decide (y17.H2=id_))) (Jk O O O) O (G8 (hK21 (JCc O h (fun h hb=>?_) (fun h hb=>?_))))))))))))))
  ·
   refine Jr fun hK22=>(JLm (Em i17) O (JLm (Em i17) O (G8 (hK22 (Gt (fin1 G0 h))))))
  ·
   refine Gm (hK20 (G2 (JLm (Em i17) O (JLh (G0 ((i17+1:Nat):Int)) (Hx (Hc hk17 hm8) O O O) O (JLm (G0 ((i17+1:Nat):Int)) O (G8 (e17 _ _ (i17+1) () (app1 hn17 h) (by omega) ⟨⟨.same rfl,.same rfl,.same rfl,G⟩,G,rfl⟩)))))))
 ·
  have h:=app1 hkx17 (Ht hi17 (H9 hb))
  refine Hd (hK2 (Jr fun hK23=>(JLm (G0 (-1)) O (G8 (hK23 (Gt (fin1 G0 h)))))))

def Yw (before:List G6) (after:List G6) (id_:Int):Option Bool:=
 bnd (Jv before id_) fun r3=>
 bnd (Jv after id_) fun r4=>
 bnd (bif (!((decide (r3 < 0))||(decide (r4 < 0)))) then Jc before r3 some else some default) fun y6=>
 bnd (bif (!((decide (r3 < 0))||(decide (r4 < 0)))) then Jc after r4 some else some default) fun y7=>
 some (((decide (r3 < 0))||(decide (r4 < 0)))||(!decide (y6.Slot=y7.Slot)))
theorem Ha5 (before:List G6) (after:List G6) (id_:Int) (r:Bool) (h:Yw before after id_=some r):Pure En 61 [E0 before,E0 after,G0 id_] (·=BL r):=by
 unfold Yw at h
 refine H0 [.tmp 6] Tryz.func61 O O (Jr fun hK1=>(JLm (BL false) O (G8 (hK1 (Jr fun hK2=>(JLm (E0 before) O (JLm (G0 id_) O ?_)))))))
 obtain⟨r3,hr3,h⟩:=Gf h
 refine JLh (G0 r3) (Gq O (Yg before id_ r3 hr3) Gdb ⟨O,O,O,O,G⟩) O (JLm (E0 after) O (JLm (G0 id_) O ?_))
 obtain⟨r4,hr4,h⟩:=Gf h
 refine JLh (G0 r4) (Gq O (Yg after id_ r4 hr4) Gdb ⟨O,O,O,O,G⟩) O (JLm (G0 r3) O (JLm (G0 r4) O (G8 (hK2 (Js fun hK5=>?_)))))
 obtain⟨y6,hy6,h⟩:=Gf h
 obtain⟨y7,hy7,h⟩:=Gf h
 refine JC_d0 Jb (by kernel_rfl) (Dq (G0 r3) (G5 O O) O (Dq (BL (decide (r3 < 0))) (Hy O O O) O (Dq (BL (decide (r3 < 0))) (G5 O O) O (Do (G0 r4) [] O .scf G (fun hc=>G5 O O) O (Do (BL (decide (r4 < 0))) [18] O .scf ⟨Ua,G⟩ (fun hc=>Hy O O O) O (Dq (BL ((decide (r3 < 0))||(decide (r4 < 0)))) (Y7 O O O O) O (Dq (BL ((decide (r3 < 0))||(decide (r4 < 0)))) (G5 O O) O (Do (E0 before) [] O .scf G (fun hc=>G5 O O) O (Do (G0 r3) [] O .scf G (fun hc=>G5 O O) O (Do (Ee y6) [22,23] O .scf ⟨Ua,Ua,G⟩ (fun hc=>(match Jm (Gv hc hy6) with | ⟨_,hm_,hy_⟩=>Gs (f:=G6.av) (xs:=before) (y:=y6) O O O Gz hy_ hm_)) O (Do (.dptr ((G6.cs y6).drop 1)) [24] O .scf ⟨Ua,G⟩ (fun hc=>Ga Hg O O O) O (Do (.agg ((G6.cs y6).drop 1)) [25] O .scf ⟨Ua,G⟩ (fun hc=>Gi Jg O O O) O (Do (E0 after) [] O .scf G (fun hc=>G5 O O) O ?_)))))))))))))
 refine Do (G0 r4) [] O .scf G (fun hc=>G5 O O) O (Do (Ee y7) [27,28] O .scf ⟨Ua,Ua,G⟩ (fun hc=>(match Jm (Gv hc hy7) with | ⟨_,hm_,hy_⟩=>Gs (f:=G6.av) (xs:=after) (y:=y7) O O O Gz hy_ hm_)) O (Do (.dptr ((G6.cs y7).drop 1)) [29] O .scf ⟨Ua,G⟩ (fun hc=>Ga Hg O O O) O (Do (.agg ((G6.cs y7).drop 1)) [30] O .scf ⟨Ua,G⟩ (fun hc=>Gi Jg O O O) O (Do (BL (!decide (y6.Slot=y7.Slot))) [26,31] O .scf ⟨Ua,Ua,G⟩ (fun hc=>J3d (vs:=[.int .i64 y6.Slot.G4,.int .i64 y6.Slot.Tier,.int .u8 y6.Slot.Half]) (us:=[.int .i64 y7.Slot.G4,.int .i64 y7.Slot.Tier,.int .u8 y7.Slot.Half]) 4 O (tq_60 y6.Slot y7.Slot) J0b Ja2 O O O) O (Dq (BL (((decide (r3 < 0))||(decide (r4 < 0)))||(!decide (y6.Slot=y7.Slot)))) (Y7 O O O O) O (Dq (BL (((decide (r3 < 0))||(decide (r4 < 0)))||(!decide (y6.Slot=y7.Slot)))) (G9 O O) O (Dnil ?_)))))))
 refine hK5 (Gt (fin1 BL h))

def G1e (a:Slot) (b:Slot):Option Bool:=
 bnd (bif ((decide (a.G4=b.G4))&&(decide (b.Tier < a.Tier))) then Re a.Half b.Half else some default) fun r3=>
 some (((decide (a.G4=b.G4))&&(decide (b.Tier < a.Tier)))&&r3)
theorem Hbc (a:Slot) (b:Slot) (r:Bool) (h:G1e a b=some r):Pure En 105 [.agg [G0 a.G4,G0 a.Tier,U8 a.Half],.agg [G0 b.G4,G0 b.Tier,U8 b.Half]] (·=BL r):=by
 unfold G1e at h
 refine H0 [.tmp 4] Tryz.func105 O O (Jr fun hK1=>(JLh (.ptr 1153 0) (Jq (cs:=[G0 a.G4,G0 a.Tier,U8 a.Half]) 1153 O O O O O) O (JLh (.ptr 1154 0) (Jq (cs:=[G0 b.G4,G0 b.Tier,U8 b.Half]) 1154 O O O O O) O (JLm (BL false) O (G8 (hK1 (Gx [(2,.dptr [G0 a.G4,G0 a.Tier,U8 a.Half]),(3,.ptr 1154 0)] [(1154,.box 60 [G0 b.G4,G0 b.Tier,U8 b.Half])] 1153 rfl rfl rfl ⟨⟨_,rfl,.boxEq rfl rfl⟩,G⟩ rfl (by exact⟨.ptr,.conv (.same rfl),G⟩) (Gx [(2,.dptr [G0 a.G4,G0 a.Tier,U8 a.Half]),(3,.dptr [G0 b.G4,G0 b.Tier,U8 b.Half])] [] 1154 rfl rfl rfl G rfl (by exact⟨.conv (.same rfl),.ptr,G⟩) ?_))))))))
 refine Jr fun hK2=>(JLh (.dptr [G0 a.G4,G0 a.Tier,U8 a.Half]) (Ga Hk O O O) O (JLh (G0 a.G4) (Gh Gc O O O) O (JLh (.dptr [G0 b.G4,G0 b.Tier,U8 b.Half]) (Ga Hk O O O) O (JLh (G0 b.G4) (Gh Gc O O O) O (JLh (BL (decide (a.G4=b.G4))) (Jk O O O) O (JLm (BL (decide (a.G4=b.G4))) O (JLo (.dptr [G0 a.Tier,U8 a.Half]) [] O .sct G (fun hc=>Ga J9 O O O) O (JLo (G0 a.Tier) [11] O .sct ⟨Ua,G⟩ (fun hc=>Gh Gc O O O) O (JLo (.dptr [G0 b.Tier,U8 b.Half]) [] O .sct G (fun hc=>Ga J9 O O O) O (JLo (G0 b.Tier) [13] O .sct ⟨Ua,G⟩ (fun hc=>Gh Gc O O O) O (JLo (BL (decide (b.Tier < a.Tier))) [12,14] O .sct ⟨Ua,Ua,G⟩ (fun hc=>G4d O O O) O (JLh (BL ((decide (a.G4=b.G4))&&(decide (b.Tier < a.Tier)))) (J3 O O O O) O (JLm (BL ((decide (a.G4=b.G4))&&(decide (b.Tier < a.Tier)))) O ?_)))))))))))))
 refine JLo (.dptr [U8 a.Half]) [] O .sct G (fun hc=>Ga Jo O O O) O (JLo (U8 a.Half) [18] O .sct ⟨Ua,G⟩ (fun hc=>Gh J5 O O O) O (JLo (.dptr [U8 b.Half]) [] O .sct G (fun hc=>Ga Jo O O O) O (JLo (U8 b.Half) [20] O .sct ⟨Ua,G⟩ (fun hc=>Gh J5 O O O) O ?_)))
 obtain⟨r3,hr3,h⟩:=Gf h
 refine JLo (BL r3) [19,21] O .sct ⟨Ua,Ua,G⟩ (fun hc=>Gq (args:=[U8 a.Half,U8 b.Half]) O (Gbc a.Half b.Half r3 (Gv hc hr3)) Jc5 ⟨O,O,O,O,G⟩) O (JLh (BL (((decide (a.G4=b.G4))&&(decide (b.Tier < a.Tier)))&&r3)) (J3 O O O O) O (JLm (BL (((decide (a.G4=b.G4))&&(decide (b.Tier < a.Tier)))&&r3)) O (G8 (hK2 (Gt (fin1 BL h))))))

def Qu (s:H8) (column:Int):Option Int:=
 bif ((decide (column < 0))||(decide ((s.Columns.length:Int)≤column))) then
 (some (-1))
 else
 (each (fun y30 i30 (s30:Unit) nx30=>
   Jc s.Columns column fun y35=>
   bnd (bif decide (y30.Bay=y35.Bay) then Jc s.Columns column some else some default) fun y37=>
   bnd (bif decide (y30.Bay=y35.Bay) then Qi y30.Rows y37.Row else some default) fun r38=>
   bif ((decide (y30.Bay=y35.Bay))&&r38) then
   (some (i30:Int))
   else
   (nx30 ()))
  (fun(s30:Unit)=>
   some (-1)) s.Covers 0 ())
theorem G51 (s:H8) (column:Int) (r:Int) (h:Qu s column=some r):Pure En 108 [.agg (H8.cs s),G0 column] (·=G0 r):=by
 unfold Qu at h
 refine H0 [.tmp 4] Tryz.func108 O O (Jr fun hK1=>(JLh (.ptr 1158 0) (Jq (cs:=(H8.cs s)) 1158 O O O O O) O (JLm (G0 0) O (G8 (hK1 (Gx [(1,G0 column),(2,Ed s)] [] 1158 rfl rfl rfl G rfl (by exact⟨.conv (.same rfl),.ptr,G⟩) (Js fun hK2=>?_)))))))
 refine Jr fun hK3=>(JLm (G0 column) O (JLh (BL (decide (column < 0))) (Hy O O O) O (JLm (BL (decide (column < 0))) O (JLo (G0 column) [] O .scf G (fun hc=>G5 O O) O (JLo (Ed s) [] O .scf G (fun hc=>Ga Hi O O O) O (JLo (E5 s.Columns) [10] O .scf ⟨Ua,G⟩ (fun hc=>Gh Ho O O O) O (JLo (Em s.Columns.length) [11] O .scf ⟨Ua,G⟩ (fun hc=>Qx (f:=G4.av) (xs:=s.Columns) H7 O O) O (JLo (BL (decide ((s.Columns.length:Int)≤column))) [9,12] O .scf ⟨Ua,Ua,G⟩ (fun hc=>G06 O O O) O (JLh (BL ((decide (column < 0))||(decide ((s.Columns.length:Int)≤column)))) (Y7 O O O O) O (G8 (hK3 ?_)))))))))))
 refine JCc O h (fun h hb=>?_) (fun h hb=>?_)
 ·
  refine Jr fun hK4=>(JLm (G0 (-1)) O (G8 (hK4 (Gt (fin1 G0 h)))))
 ·
  refine Gm (hK2 (Js fun hK5=>Jr fun hK6=>(JLm (G0 0) O (G8 (hK6 (Gk ?_))))))
  obtain⟨b30,kx30,hb30,hkx30,h⟩:=J4 h
  refine H6 (fun i30 (s30:Unit)=>each b30 kx30 (List.drop i30 s.Covers) i30 s30=some r) (fun i30 s30=>[(1,G0 column),(2,Ed s),(5,Em i30)]) (fun i30 s30=>[]) (fun i30=>s.Covers.length - i30) 0 () h ⟨⟨.same O,.same O,.same O,G⟩,G,O⟩ ?_
  clear h
  intro i30 s30 hi30 K30 e30
  refine Js fun hK31=>Jr fun hK32=>(JLm (Em i30) O (JLh (.dptr [E4 s.Covers,G0 s.Light.Kilos,G0 s.Light.X,G0 s.Light.Y,G0 s.Light.Z,E7 s.Rows,E6 s.Frames,E8 s.Tanks,G0 s.G3.Tolerance,G0 s.G3.Trim,G0 s.G3.List_,G0 s.G3.Stability]) (Ga Jp O O O) O (JLh (E4 s.Covers) (Gh Q4 O O O) O (JLl Hu O O O fun hm18=>(JLh (BL (decide ((i30:Int) < (s.Covers.length:Int)))) (Hy O O O) O (G8 (hK32 (Gj O (fun hb=>?_) (fun hb=>?_)))))))))
  ·
   have hk30:=Je hb
   obtain⟨y30,nx30,hy30,hn30,h⟩:=Hs hi30 hk30
   replace h:=Y8 hb30 h
   refine Gm (hK31 (Js fun hK33=>Gk (Js fun hK34=>?_)))
   obtain⟨m36,y35,hm36,hy35,h⟩:=R1 h
   obtain⟨y37,hy37,h⟩:=Gf h
   obtain⟨r38,hr38,h⟩:=Gf h
   refine JC_d0 Jb (by kernel_rfl) (Dq (.dptr [E4 s.Covers,G0 s.Light.Kilos,G0 s.Light.X,G0 s.Light.Y,G0 s.Light.Z,E7 s.Rows,E6 s.Frames,E8 s.Tanks,G0 s.G3.Tolerance,G0 s.G3.Trim,G0 s.G3.List_,G0 s.G3.Stability]) (Ga Jp O O O) O (Dq (E4 s.Covers) (Gh Q4 O O O) O (Dq (Em i30) (G5 O O) O (Dq (.dptr [G0 y30.Bay,E1 y30.Rows]) (Gs (f:=Ge.av) (xs:=s.Covers) (y:=y30) O O O Hu hy30 O) O (Dq (.dptr [G0 y30.Bay,E1 y30.Rows]) (Ga Ya O O O) O (Dq (G0 y30.Bay) (Gh Gc O O O) O (Dq (Ed s) (Ga Hi O O O) O (Dq (E5 s.Columns) (Gh Ho O O O) O (Dq (G0 column) (G5 O O) O (Dq (Ef y35) (Gs (f:=G4.av) (xs:=s.Columns) (y:=y35) O O O H7 hy35 hm36) O (Dq (Ef y35) (Ga Rr O O O) O (Dq (G0 y35.Bay) (Gh Gc O O O) O (Dq (BL (decide (y30.Bay=y35.Bay))) (Jk O O O) O ?_)))))))))))))
   refine Dq (BL (decide (y30.Bay=y35.Bay))) (G5 O O) O (Do (.dptr [E4 s.Covers,G0 s.Light.Kilos,G0 s.Light.X,G0 s.Light.Y,G0 s.Light.Z,E7 s.Rows,E6 s.Frames,E8 s.Tanks,G0 s.G3.Tolerance,G0 s.G3.Trim,G0 s.G3.List_,G0 s.G3.Stability]) [] O .sct G (fun hc=>Ga Jp O O O) O (Do (E4 s.Covers) [36] O .sct ⟨Ua,G⟩ (fun hc=>Gh Q4 O O O) O (Do (Em i30) [] O .sct G (fun hc=>G5 O O) O (Do (.dptr [G0 y30.Bay,E1 y30.Rows]) [37,38] O .sct ⟨Ua,Ua,G⟩ (fun hc=>Gs (f:=Ge.av) (xs:=s.Covers) (y:=y30) O O O Hu hy30 O) O (Do (.dptr [E1 y30.Rows]) [39] O .sct ⟨Ua,G⟩ (fun hc=>Ga Qd O O O) O (Do (E1 y30.Rows) [40] O .sct ⟨Ua,G⟩ (fun hc=>Gh J2 O O O) O (Do (Ed s) [] O .sct G (fun hc=>Ga Hi O O O) O (Do (E5 s.Columns) [42] O .sct ⟨Ua,G⟩ (fun hc=>Gh Ho O O O) O (Do (G0 column) [] O .sct G (fun hc=>G5 O O) O (Do (Ef y37) [43,44] O .sct ⟨Ua,Ua,G⟩ (fun hc=>(match Jm (Gv hc hy37) with | ⟨_,hm_,hy_⟩=>Gs (f:=G4.av) (xs:=s.Columns) (y:=y37) O O O H7 hy_ hm_)) O (Do (.dptr ((G4.cs y37).drop 1)) [45] O .sct ⟨Ua,G⟩ (fun hc=>Ga G27 O O O) O (Do (G0 y37.Row) [46] O .sct ⟨Ua,G⟩ (fun hc=>Gh Gc O O O) O (Do (BL r38) [41,47] O .sct ⟨Ua,Ua,G⟩ (fun hc=>Gq (args:=[E1 y30.Rows,G0 y37.Row]) O (Gbd y30.Rows y37.Row r38 (Gv hc hr38)) Jc9 ⟨O,O,O,O,G⟩) O ?_)))))))))))))
   refine Dq (BL ((decide (y30.Bay=y35.Bay))&&r38)) (J3 O O O O) O (Dnil (hK34 (JCc O h (fun h hb=>?_) (fun h hb=>?_))))
   ·
    refine Jr fun hK39=>(JLm (Em i30) O (JLm (Em i30) O (G8 (hK39 (Gt (fin1 G0 h))))))
   ·
    refine Gm (hK33 (G2 (JLm (Em i30) O (JLh (G0 ((i30+1:Nat):Int)) (Hx (Hc hk30 hm18) O O O) O (JLm (G0 ((i30+1:Nat):Int)) O (G8 (e30 _ _ (i30+1) () (app1 hn30 h) (by omega) ⟨⟨.same rfl,.same rfl,.same rfl,G⟩,G,rfl⟩)))))))
  ·
   have h:=app1 hkx30 (Ht hi30 (H9 hb))
   refine Hd (hK5 (Jr fun hK40=>(JLm (G0 (-1)) O (G8 (hK40 (Gt (fin1 G0 h)))))))

def Ra (s:H8) (l:List G6) (id_:Int) (column:Int):Option Bool:=
 bnd (Jv l id_) fun r3=>
 bnd (bif (!(decide (r3 < 0))) then Jc s.Columns column some else some default) fun y6=>
 bnd (bif (!((decide (r3 < 0))||y6.Deck)) then Jc l r3 some else some default) fun y7=>
 bnd (bif (!((decide (r3 < 0))||y6.Deck)) then Jc s.Columns y7.Slot.G4 some else some default) fun y8=>
 bif (((decide (r3 < 0))||y6.Deck)||(!y8.Deck)) then
 (some false)
 else
 (bnd (Qu s column) fun r11=>
  bnd (bif decide (0≤r11) then Jc l r3 some else some default) fun y13=>
  bnd (bif decide (0≤r11) then Qu s y13.Slot.G4 else some default) fun r14=>
  some ((decide (0≤r11))&&(decide (r14=r11))))
theorem Ge6 (s:H8) (l:List G6) (id_:Int) (column:Int) (r:Bool) (h:Ra s l id_ column=some r):Pure En 106 [.agg (H8.cs s),E0 l,G0 id_,G0 column] (·=BL r):=by
 unfold Ra at h
 refine H0 [.tmp 8] Tryz.func106 O O (Jr fun hK1=>(JLh (.ptr 1155 0) (Jq (cs:=(H8.cs s)) 1155 O O O O O) O (JLm (BL false) O (G8 (hK1 (Gx [(1,E0 l),(2,G0 id_),(3,G0 column),(4,Ed s)] [] 1155 rfl rfl rfl G rfl (by repeat' (first | exact .ptr | constructor)) ?_))))))
 refine Jr fun hK2=>(JLm (E0 l) O (JLm (G0 id_) O ?_))
 obtain⟨r3,hr3,h⟩:=Gf h
 refine JLh (G0 r3) (Gq O (Yg l id_ r3 hr3) Gdb ⟨O,O,O,O,G⟩) O (JLm (G0 r3) O (G8 (hK2 (Js fun hK4=>Js fun hK5=>?_))))
 obtain⟨y6,hy6,h⟩:=Gf h
 obtain⟨y7,hy7,h⟩:=Gf h
 obtain⟨y8,hy8,h⟩:=Gf h
 refine JC_d0 Jb (by kernel_rfl) (Dq (G0 r3) (G5 O O) O (Dq (BL (decide (r3 < 0))) (Hy O O O) O (Dq (BL (decide (r3 < 0))) (G5 O O) O (Do (Ed s) [] O .scf G (fun hc=>Ga Hi O O O) O (Do (E5 s.Columns) [17] O .scf ⟨Ua,G⟩ (fun hc=>Gh Ho O O O) O (Do (G0 column) [] O .scf G (fun hc=>G5 O O) O (Do (Ef y6) [18,19] O .scf ⟨Ua,Ua,G⟩ (fun hc=>(match Jm (Gv hc hy6) with | ⟨_,hm_,hy_⟩=>Gs (f:=G4.av) (xs:=s.Columns) (y:=y6) O O O H7 hy_ hm_)) O (Do (.dptr ((G4.cs y6).drop 2)) [20] O .scf ⟨Ua,G⟩ (fun hc=>Ga Yb O O O) O (Do (BL y6.Deck) [21] O .scf ⟨Ua,G⟩ (fun hc=>Gh R5 O O O) O (Dq (BL ((decide (r3 < 0))||y6.Deck)) (Y7 O O O O) O (Dq (BL ((decide (r3 < 0))||y6.Deck)) (G5 O O) O (Do (Ed s) [] O .scf G (fun hc=>Ga Hi O O O) O (Do (E5 s.Columns) [25] O .scf ⟨Ua,G⟩ (fun hc=>Gh Ho O O O) O ?_)))))))))))))
 refine Do (E0 l) [] O .scf G (fun hc=>G5 O O) O (Do (G0 r3) [] O .scf G (fun hc=>G5 O O) O (Do (Ee y7) [27,28] O .scf ⟨Ua,Ua,G⟩ (fun hc=>(match Jm (Gv hc hy7) with | ⟨_,hm_,hy_⟩=>Gs (f:=G6.av) (xs:=l) (y:=y7) O O O Gz hy_ hm_)) O (Do (.dptr ((G6.cs y7).drop 1)) [29] O .scf ⟨Ua,G⟩ (fun hc=>Ga Hg O O O) O (Do (.dptr ((G6.cs y7).drop 1)) [30] O .scf ⟨Ua,G⟩ (fun hc=>Ga Hk O O O) O (Do (G0 y7.Slot.G4) [31] O .scf ⟨Ua,G⟩ (fun hc=>Gh Gc O O O) O (Do (Ef y8) [26,32] O .scf ⟨Ua,Ua,G⟩ (fun hc=>(match Jm (Gv hc hy8) with | ⟨_,hm_,hy_⟩=>Gs (f:=G4.av) (xs:=s.Columns) (y:=y8) O O O H7 hy_ hm_)) O (Do (.dptr ((G4.cs y8).drop 2)) [33] O .scf ⟨Ua,G⟩ (fun hc=>Ga Yb O O O) O (Do (BL y8.Deck) [34] O .scf ⟨Ua,G⟩ (fun hc=>Gh R5 O O O) O (Do (BL (!y8.Deck)) [35] O .scf ⟨Ua,G⟩ (fun hc=>R9 (b:=y8.Deck) O O) O (Dq (BL (((decide (r3 < 0))||y6.Deck)||(!y8.Deck))) (Y7 O O O O) O (Dnil ?_)))))))))))
 refine hK5 (JCc O h (fun h hb=>?_) (fun h hb=>?_))
 ·
  refine Jr fun hK9=>(JLm (BL false) O (G8 (hK9 (Gt (fin1 BL h)))))
 ·
  refine Gm (hK4 (Jr fun hK10=>(JLh (.agg (H8.cs s)) (Gi J1 O O O) O (JLm (G0 column) O ?_))))
  obtain⟨r11,hr11,h⟩:=Gf h
  refine JLh (G0 r11) (Gq O (G51 s column r11 hr11) J08 ⟨O,O,O,O,G⟩) O (JLm (G0 r11) O (G8 (hK10 (Js fun hK12=>?_))))
  obtain⟨y13,hy13,h⟩:=Gf h
  obtain⟨r14,hr14,h⟩:=Gf h
  refine JC_d0 Jb (by kernel_rfl) (Dq (G0 r11) (G5 O O) O (Dq (BL (decide (0≤r11))) (G06 O O O) O (Dq (BL (decide (0≤r11))) (G5 O O) O (Do (.agg (H8.cs s)) [] O .sct G (fun hc=>Gi J1 O O O) O (Do (E0 l) [] O .sct G (fun hc=>G5 O O) O (Do (G0 r3) [] O .sct G (fun hc=>G5 O O) O (Do (Ee y13) [45,46] O .sct ⟨Ua,Ua,G⟩ (fun hc=>(match Jm (Gv hc hy13) with | ⟨_,hm_,hy_⟩=>Gs (f:=G6.av) (xs:=l) (y:=y13) O O O Gz hy_ hm_)) O (Do (.dptr ((G6.cs y13).drop 1)) [47] O .sct ⟨Ua,G⟩ (fun hc=>Ga Hg O O O) O (Do (.dptr ((G6.cs y13).drop 1)) [48] O .sct ⟨Ua,G⟩ (fun hc=>Ga Hk O O O) O (Do (G0 y13.Slot.G4) [49] O .sct ⟨Ua,G⟩ (fun hc=>Gh Gc O O O) O (Do (G0 r14) [44,50] O .sct ⟨Ua,Ua,G⟩ (fun hc=>Gq (args:=[.agg (H8.cs s),G0 y13.Slot.G4]) O (G51 s y13.Slot.G4 r14 (Gv hc hr14)) J08 ⟨O,O,O,O,G⟩) O (Do (G0 r11) [] O .sct G (fun hc=>G5 O O) O (Do (BL (decide (r14=r11))) [51,52] O .sct ⟨Ua,Ua,G⟩ (fun hc=>Jk O O O) O ?_)))))))))))))
  refine Dq (BL ((decide (0≤r11))&&(decide (r14=r11)))) (J3 O O O O) O (Dq (BL ((decide (0≤r11))&&(decide (r14=r11)))) (G9 O O) O (Dnil (hK12 (Gt (fin1 BL h)))))

def Qt (s:H8) (l:List G6) (other:List G6) (id_:Int) (cause:Int):Option Bool:=
 bnd (Jv l cause) fun r3=>
 bif decide (r3 < 0) then
 (some false)
 else
 (bnd (Jv l id_) fun r8=>
  bnd (bif decide (0≤r8) then Jc l r8 some else some default) fun y11=>
  bnd (bif decide (0≤r8) then Jc l r3 some else some default) fun y12=>
  bnd (bif decide (0≤r8) then G1e y11.Slot y12.Slot else some default) fun r13=>
  bif ((decide (0≤r8))&&r13) then
  (some true)
  else
  (Jc l r3 fun y16=>
   bnd (Ra s l id_ y16.Slot.G4) fun r18=>
   bnd (bif (!r18) then Jc l r3 some else some default) fun y19=>
   bnd (bif (!r18) then Ra s other id_ y19.Slot.G4 else some default) fun r20=>
   some (r18||r20)))
theorem Ga6 (s:H8) (l:List G6) (other:List G6) (id_:Int) (cause:Int) (r:Bool) (h:Qt s l other id_ cause=some r):Pure En 62 [.agg (H8.cs s),E0 l,E0 other,G0 id_,G0 cause] (·=BL r):=by
 unfold Qt at h
 refine H0 [.tmp 10] Tryz.func62 O O (Jr fun hK1=>(JLh (.ptr 1103 0) (Jq (cs:=(H8.cs s)) 1103 O O O O O) O (JLm (BL false) O (G8 (hK1 (Gx [(1,E0 l),(2,E0 other),(3,G0 id_),(4,G0 cause),(5,Ed s)] [] 1103 rfl rfl rfl G rfl (by repeat' (first | exact .ptr | constructor)) ?_))))))
 refine Jr fun hK2=>(JLm (E0 l) O (JLm (G0 cause) O ?_))
 obtain⟨r3,hr3,h⟩:=Gf h
 refine JLh (G0 r3) (Gq O (Yg l cause r3 hr3) Gdb ⟨O,O,O,O,G⟩) O (JLm (G0 r3) O (G8 (hK2 (Js fun hK4=>Jr fun hK5=>(JLm (G0 r3) O (JLh (BL (decide (r3 < 0))) (Hy O O O) O (G8 (hK5 (JCc O h (fun h hb=>?_) (fun h hb=>?_))))))))))
 ·
  refine Jr fun hK6=>(JLm (BL false) O (G8 (hK6 (Gt (fin1 BL h)))))
 ·
  refine Gm (hK4 (Jr fun hK7=>(JLm (E0 l) O (JLm (G0 id_) O ?_))))
  obtain⟨r8,hr8,h⟩:=Gf h
  refine JLh (G0 r8) (Gq O (Yg l id_ r8 hr8) Gdb ⟨O,O,O,O,G⟩) O (JLm (G0 r8) O (G8 (hK7 (Js fun hK9=>Js fun hK10=>?_))))
  obtain⟨y11,hy11,h⟩:=Gf h
  obtain⟨y12,hy12,h⟩:=Gf h
  obtain⟨r13,hr13,h⟩:=Gf h
  refine JC_d0 Jb (by kernel_rfl) (Dq (G0 r8) (G5 O O) O (Dq (BL (decide (0≤r8))) (G06 O O O) O (Dq (BL (decide (0≤r8))) (G5 O O) O (Do (E0 l) [] O .sct G (fun hc=>G5 O O) O (Do (G0 r8) [] O .sct G (fun hc=>G5 O O) O (Do (Ee y11) [24,25] O .sct ⟨Ua,Ua,G⟩ (fun hc=>(match Jm (Gv hc hy11) with | ⟨_,hm_,hy_⟩=>Gs (f:=G6.av) (xs:=l) (y:=y11) O O O Gz hy_ hm_)) O (Do (.dptr ((G6.cs y11).drop 1)) [26] O .sct ⟨Ua,G⟩ (fun hc=>Ga Hg O O O) O (Do (.agg ((G6.cs y11).drop 1)) [27] O .sct ⟨Ua,G⟩ (fun hc=>Gi Jg O O O) O (Do (E0 l) [] O .sct G (fun hc=>G5 O O) O (Do (G0 r3) [] O .sct G (fun hc=>G5 O O) O (Do (Ee y12) [29,30] O .sct ⟨Ua,Ua,G⟩ (fun hc=>(match Jm (Gv hc hy12) with | ⟨_,hm_,hy_⟩=>Gs (f:=G6.av) (xs:=l) (y:=y12) O O O Gz hy_ hm_)) O (Do (.dptr ((G6.cs y12).drop 1)) [31] O .sct ⟨Ua,G⟩ (fun hc=>Ga Hg O O O) O (Do (.agg ((G6.cs y12).drop 1)) [32] O .sct ⟨Ua,G⟩ (fun hc=>Gi Jg O O O) O ?_)))))))))))))
  refine Do (BL r13) [28,33] O .sct ⟨Ua,Ua,G⟩ (fun hc=>Gq (args:=[.agg ((G6.cs y11).drop 1),.agg ((G6.cs y12).drop 1)]) O (Hbc y11.Slot y12.Slot r13 (Gv hc hr13)) Qae ⟨O,O,O,O,G⟩) O (Dq (BL ((decide (0≤r8))&&r13)) (J3 O O O O) O (Dnil (hK10 (JCc O h (fun h hb=>?_) (fun h hb=>?_)))))
  ·
   refine Jr fun hK14=>(JLm (BL true) O (G8 (hK14 (Gt (fin1 BL h)))))
  ·
   refine Gm (hK9 (Js fun hK15=>?_))
   obtain⟨m17,y16,hm17,hy16,h⟩:=R1 h
   obtain⟨r18,hr18,h⟩:=Gf h
   obtain⟨y19,hy19,h⟩:=Gf h
   obtain⟨r20,hr20,h⟩:=Gf h
   refine JC_d0 Jb (by kernel_rfl) (Dq (.agg (H8.cs s)) (Gi J1 O O O) O (Dq (E0 l) (G5 O O) O (Dq (G0 id_) (G5 O O) O (Dq (E0 l) (G5 O O) O (Dq (G0 r3) (G5 O O) O (Dq (Ee y16) (Gs (f:=G6.av) (xs:=l) (y:=y16) O O O Gz hy16 hm17) O (Dq (.dptr ((G6.cs y16).drop 1)) (Ga Hg O O O) O (Dq (.dptr ((G6.cs y16).drop 1)) (Ga Hk O O O) O (Dq (G0 y16.Slot.G4) (Gh Gc O O O) O (Dq (BL r18) (Gq (args:=[.agg (H8.cs s),E0 l,G0 id_,G0 y16.Slot.G4]) O (Ge6 s l id_ y16.Slot.G4 r18 hr18) Jca ⟨O,O,O,O,O,O,O,O,G⟩) O (Dq (BL r18) (G5 O O) O (Do (.agg (H8.cs s)) [] O .scf G (fun hc=>Gi J1 O O O) O (Do (E0 other) [] O .scf G (fun hc=>G5 O O) O ?_)))))))))))))
   refine Do (G0 id_) [] O .scf G (fun hc=>G5 O O) O (Do (E0 l) [] O .scf G (fun hc=>G5 O O) O (Do (G0 r3) [] O .scf G (fun hc=>G5 O O) O (Do (Ee y19) [50,51] O .scf ⟨Ua,Ua,G⟩ (fun hc=>(match Jm (Gv hc hy19) with | ⟨_,hm_,hy_⟩=>Gs (f:=G6.av) (xs:=l) (y:=y19) O O O Gz hy_ hm_)) O (Do (.dptr ((G6.cs y19).drop 1)) [52] O .scf ⟨Ua,G⟩ (fun hc=>Ga Hg O O O) O (Do (.dptr ((G6.cs y19).drop 1)) [53] O .scf ⟨Ua,G⟩ (fun hc=>Ga Hk O O O) O (Do (G0 y19.Slot.G4) [54] O .scf ⟨Ua,G⟩ (fun hc=>Gh Gc O O O) O (Do (BL r20) [47,48,49,55] O .scf ⟨Ua,Ua,Ua,Ua,G⟩ (fun hc=>Gq (args:=[.agg (H8.cs s),E0 other,G0 id_,G0 y19.Slot.G4]) O (Ge6 s other id_ y19.Slot.G4 r20 (Gv hc hr20)) Jca ⟨O,O,O,O,O,O,O,O,G⟩) O (Dq (BL (r18||r20)) (Y7 O O O O) O (Dq (BL (r18||r20)) (G9 O O) O (Dnil ?_))))))))))
   refine hK15 (Gt (fin1 BL h))

def G16 (l:List Gw) (id_:Int):Option Bool:=
 each (fun y19 i19 (s19:Unit) nx19=>
  bif ((decide (y19.id=id_))&&y19.in_) then
  (some true)
  else
  (nx19 ()))
 (fun(s19:Unit)=>
  some false) l 0 ()
theorem Hf1 (l:List Gw) (id_:Int) (r:Bool) (h:G16 l id_=some r):Pure En 63 [Ec l,G0 id_] (·=BL r):=by
 unfold G16 at h
 refine H0 [.tmp 4] Tryz.func63 O O (Jr fun hK1=>(JLm (BL false) O (G8 (hK1 (Js fun hK2=>Jr fun hK3=>(JLm (G0 0) O (G8 (hK3 (Gk ?_)))))))))
 obtain⟨b19,kx19,hb19,hkx19,h⟩:=J4 h
 refine H6 (fun i19 (s19:Unit)=>each b19 kx19 (List.drop i19 l) i19 s19=some r) (fun i19 s19=>[(0,Ec l),(1,G0 id_),(5,Em i19)]) (fun i19 s19=>[]) (fun i19=>l.length - i19) 0 () h ⟨⟨.same O,.same O,.same O,G⟩,G,O⟩ ?_
 clear h
 intro i19 s19 hi19 K19 e19
 refine Js fun hK20=>Jr fun hK21=>(JLm (Em i19) O (JLm (Ec l) O (JLl Qq O O O fun hm8=>(JLh (BL (decide ((i19:Int) < (l.length:Int)))) (Hy O O O) O (G8 (hK21 (Gj O (fun hb=>?_) (fun hb=>?_))))))))
 ·
  have hk19:=Je hb
  obtain⟨y19,nx19,hy19,hn19,h⟩:=Hs hi19 hk19
  replace h:=Y8 hb19 h
  refine Gm (hK20 (Js fun hK22=>Gk ?_))
  refine Jr fun hK23=>(JLm (Ec l) O (JLm (Em i19) O (JLh (.dptr [G0 y19.id,BL y19.in_]) (Gs (f:=Gw.av) (xs:=l) (y:=y19) O O O Qq hy19 O) O (JLh (.dptr [G0 y19.id,BL y19.in_]) (Ga G09 O O O) O (JLh (G0 y19.id) (Gh Gc O O O) O (JLm (G0 id_) O (JLh (BL (decide (y19.id=id_))) (Jk O O O) O (JLm (BL (decide (y19.id=id_))) O (JLo (Ec l) [] O .sct G (fun hc=>G5 O O) O (JLo (Em i19) [] O .sct G (fun hc=>G5 O O) O (JLo (.dptr [G0 y19.id,BL y19.in_]) [20,21] O .sct ⟨Ua,Ua,G⟩ (fun hc=>Gs (f:=Gw.av) (xs:=l) (y:=y19) O O O Qq hy19 O) O (JLo (.dptr [BL y19.in_]) [22] O .sct ⟨Ua,G⟩ (fun hc=>Ga Gf3 O O O) O (JLo (BL y19.in_) [23] O .sct ⟨Ua,G⟩ (fun hc=>Gh R5 O O O) O ?_)))))))))))))
  refine JLh (BL ((decide (y19.id=id_))&&y19.in_)) (J3 O O O O) O (G8 (hK23 (JCc O h (fun h hb=>?_) (fun h hb=>?_))))
  ·
   refine Jr fun hK24=>(JLm (BL true) O (G8 (hK24 (Gt (fin1 BL h)))))
  ·
   refine Gm (hK22 (G2 (JLm (Em i19) O (JLh (G0 ((i19+1:Nat):Int)) (Hx (Hc hk19 hm8) O O O) O (JLm (G0 ((i19+1:Nat):Int)) O (G8 (e19 _ _ (i19+1) () (app1 hn19 h) (by omega) ⟨⟨.same rfl,.same rfl,.same rfl,G⟩,G,rfl⟩)))))))
 ·
  have h:=app1 hkx19 (Ht hi19 (H9 hb))
  refine Hd (hK2 (Jr fun hK25=>(JLm (BL false) O (G8 (hK25 (Gt (fin1 BL h)))))))

def Zv (F:Nat) (s:H8) (boxes:List H2) (before:List G6) (after:List G6):Option ((List Int)×Int):=
 bnd (Yx F s boxes before) fun r4=>
 bnd (bif (!(!r4)) then Yx F s boxes after else some default) fun r5=>
 bif ((!r4)||(!r5)) then
 (some ([],2))
 else
 (each (fun y52 i52 (s52:(List Gw)) nx52=>
   jp (fun kj55=>
    bnd (Jv before y52.ID) fun r58=>
    bnd (bif (!(decide (0≤r58))) then Jv after y52.ID else some default) fun r59=>
    bif ((decide (0≤r58))||(decide (0≤r59))) then
    (bnd (Yw before after y52.ID) fun r60=>
     need (decide ((s52.length+[(Gw.mk y52.ID r60)].length)*16≤140737488355328∧s52.length+[(Gw.mk y52.ID r60)].length≤maxLen)) <|
     kj55 (s52++[(Gw.mk y52.ID r60)]))
    else
    (kj55 s52)) fun(j55:(List Gw))=>
   nx52 j55)
  (fun(s52:(List Gw))=>
   loop (fun nx64 (s64:Bool×(List Gw))=>
    bif s64.1 then
    (need (decide (((s52.length:Nat):Int)≤9223372036854775807)) <|
     upto (fun i69 (s69:Bool×(List Gw)) nx69=>
      need (decide (((s52.length:Nat):Int)≤9223372036854775807)) <|
      upto (fun i144 (s144:Bool×(List Gw)) nx144=>
       jp (fun kj147=>
        Jc s144.2 (i69:Int) fun y150=>
        bnd (bif (!y150.in_) then Jc s144.2 (i144:Int) some else some default) fun y151=>
        bif (y150.in_||(!y151.in_)) then
        (kj147 (s144.1,s144.2))
        else
        (Jc s144.2 (i69:Int) fun y153=>
         Jc s144.2 (i144:Int) fun y154=>
         bnd (Qt s before after y153.id y154.id) fun r155=>
         bnd (bif (!r155) then Jc s144.2 (i69:Int) some else some default) fun y156=>
         bnd (bif (!r155) then Jc s144.2 (i144:Int) some else some default) fun y157=>
         bnd (bif (!r155) then Qt s after before y156.id y157.id else some default) fun r158=>
         bif (r155||r158) then
         (Jc s144.2 (i69:Int) fun y159=>
          kj147 (true,(s144.2.set (i69:Int).toNat (Gw.mk y159.id true))))
         else
         (kj147 (s144.1,s144.2)))) fun(j147:Bool×(List Gw))=>
       nx144 (j147.1,j147.2))
      (fun(s144:Bool×(List Gw))=>
       nx69 (s144.1,s144.2)) ((s52.length:Nat):Int).toNat 0 (s69.1,s69.2))
     (fun(s69:Bool×(List Gw))=>
      nx64 (s69.1,s69.2)) ((s52.length:Nat):Int).toNat 0 (false,s64.2))
    else
    (loop (fun nx162 (s162:(List Int)×Int)=>
      each (fun y188 i188 (s188:Int×Bool) nx188=>
       jp (fun kj191=>
        bnd (G16 s64.2 y188.id) fun r193=>
        bif ((r193&&((decide ((s162.1.length:Int)=0))||(decide (s162.2 < y188.id))))&&((!s188.2)||(decide (y188.id < s188.1)))) then
        (kj191 (y188.id,true))
        else
        (kj191 (s188.1,s188.2))) fun(j191:Int×Bool)=>
       nx188 (j191.1,j191.2))
      (fun(s188:Int×Bool)=>
       bif (!s188.2) then
       (some (s162.1,0))
       else
       (need (decide ((s162.1.length+[s188.1].length)*8≤140737488355328∧s162.1.length+[s188.1].length≤maxLen)) <|
        nx162 ((s162.1++[s188.1]),s188.1))) s64.2 0 (0,false)) F ([],0))) F (true,s52)) boxes 0 [])
theorem H7d (F:Nat) (s:H8) (boxes:List H2) (before:List G6) (after:List G6) (r:(List Int)×Int) (h:Zv F s boxes before after=some r):Pure En 29 [.agg (H8.cs s),E3 boxes,E0 before,E0 after] (·=.tup [E1 r.1,G0 r.2]):=by
 unfold Zv at h
 refine H0 [.tmp 8,.tmp 9] Tryz.func29 O O (Jr fun hK1=>(JLh (.ptr 1043 0) (Jq (cs:=(H8.cs s)) 1043 O O O O O) O (JLh (E1 ([]:List Int)) (Q2 1 O O) O (JLm (G0 0) O (G8 (hK1 ?_))))))
 refine Gx [(1,E3 boxes),(2,E0 before),(3,E0 after),(4,Ed s)] [] 1043 rfl rfl rfl G rfl (by repeat' (first | exact .ptr | constructor)) (Js fun hK2=>Jr fun hK3=>(JLh (.agg (H8.cs s)) (Gi J1 O O O) O (JLm (E3 boxes) O (JLm (E0 before) O ?_))))
 obtain⟨r4,hr4,h⟩:=Gf h
 refine JLh (BL r4) (Gq O (Gc9 F s boxes before r4 hr4) Q19 ⟨O,O,O,O,O,O,G⟩) O (JLh (BL (!r4)) (R9 (b:=r4) O O) O (JLm (BL (!r4)) O (JLo (.agg (H8.cs s)) [] O .scf G (fun hc=>Gi J1 O O O) O (JLo (E3 boxes) [] O .scf G (fun hc=>G5 O O) O (JLo (E0 after) [] O .scf G (fun hc=>G5 O O) O ?_)))))
 obtain⟨r5,hr5,h⟩:=Gf h
 refine JLo (BL r5) [27,28,29] O .scf ⟨Ua,Ua,Ua,G⟩ (fun hc=>Gq (args:=[.agg (H8.cs s),E3 boxes,E0 after]) O (Gc9 F s boxes after r5 (Gv hc hr5)) Q19 ⟨O,O,O,O,O,O,G⟩) O (JLo (BL (!r5)) [30] O .scf ⟨Ua,G⟩ (fun hc=>R9 (b:=r5) O O) O (JLh (BL ((!r4)||(!r5))) (Y7 O O O O) O (G8 (hK3 (JCc O h (fun h hb=>?_) (fun h hb=>?_))))))
 ·
  refine Jr fun hK6=>(JLh (E1 ([]:List Int)) (Q2 1 O O) O (JLm (G0 2) O (G8 (hK6 (Gt (⟨[E1 ([]:List Int),G0 2],[],G,O,⟨⟨_,O,.conv (.same O)⟩,⟨_,O,.conv (.same O)⟩,G⟩,O,congrArg (fun r:(List Int)×Int=>(.tup [E1 r.1,G0 r.2]:AV)) (Option.some.inj h)⟩))))))
 ·
  refine Gm (hK2 (Jr fun hK7=>(JLh (.vec 1044 (([]:List Gw).length) 2 (([]:List Gw).length)) (Hac 1044 123 2 O O O) O (G8 (hK7 (Js fun hK8=>Jr fun hK9=>(JLm (G0 0) O (G8 (hK9 (Gk ?_))))))))))
  obtain⟨b52,kx52,hb52,hkx52,h⟩:=J4 h
  refine H6 (fun i52 (s52:(List Gw))=>each b52 kx52 (List.drop i52 boxes) i52 s52=some r) (fun i52 s52=>[(1,E3 boxes),(2,E0 before),(3,E0 after),(4,Ed s),(10,.vec 1044 s52.length 2 s52.length),(11,Em i52)]) (fun i52 s52=>[(1044,.vec 123 2 s52.length (s52.map Gw.av))]) (fun i52=>boxes.length - i52) 0 [] h ⟨(by repeat' constructor),⟨⟨_,rfl,.vec⟩,G⟩,rfl⟩ ?_
  clear h
  intro i52 s52 hi52 K52 e52
  refine Js fun hK53=>Jr fun hK54=>(JLm (Em i52) O (JLm (E3 boxes) O (JLl Jy O O O fun hm35=>(JLh (BL (decide ((i52:Int) < (boxes.length:Int)))) (Hy O O O) O (G8 (hK54 (Gj O (fun hb=>?_) (fun hb=>?_))))))))
  ·
   have hk52:=Je hb
   obtain⟨y52,nx52,hy52,hn52,h⟩:=Hs hi52 hk52
   replace h:=Y8 hb52 h
   refine Gm (hK53 ?_)
   obtain⟨kj55,hkj55,h⟩:=Zf h
   refine Rt (fun j55:(List Gw)=>kj55 j55=some r) (fun j55=>[(1,E3 boxes),(2,E0 before),(3,E0 after),(4,Ed s),(10,.vec 1044 j55.length 2 j55.length),(11,Em i52)]) (fun j55=>[(1044,.vec 123 2 j55.length (j55.map Gw.av))]) (fun Kj55 ej55=>?_) ?_
   ·
    refine Gk (Jr fun hK56=>(JLm (E3 boxes) O (JLm (Em i52) O (JLh (Eh y52) (Gs (f:=H2.av) (xs:=boxes) (y:=y52) O O O Jy hy52 O) O (JLh (Eh y52) (Ga H9a O O O) O (JLh (G0 y52.ID) (Gh Gc O O O) O (JLm (G0 y52.ID) O (G8 (hK56 (Jr fun hK57=>(JLm (E0 before) O (JLm (G0 y52.ID) O ?_))))))))))))
    obtain⟨r58,hr58,h⟩:=Gf h
    refine JLh (G0 r58) (Gq O (Yg before y52.ID r58 hr58) Gdb ⟨O,O,O,O,G⟩) O (JLh (BL (decide (0≤r58))) (G06 O O O) O (JLm (BL (decide (0≤r58))) O (JLo (E0 after) [] O .scf G (fun hc=>G5 O O) O (JLo (G0 y52.ID) [] O .scf G (fun hc=>G5 O O) O ?_))))
    obtain⟨r59,hr59,h⟩:=Gf h
    refine JLo (G0 r59) [49,50] O .scf ⟨Ua,Ua,G⟩ (fun hc=>Gq (args:=[E0 after,G0 y52.ID]) O (Yg after y52.ID r59 (Gv hc hr59)) Gdb ⟨O,O,O,O,G⟩) O (JLo (BL (decide (0≤r59))) [51] O .scf ⟨Ua,G⟩ (fun hc=>G06 O O O) O (JLh (BL ((decide (0≤r58))||(decide (0≤r59)))) (Y7 O O O O) O (G8 (hK57 (JCc O h (fun h hb=>?_) (fun h hb=>?_))))))
    ·
     refine G2 (JLm (.vec 1044 s52.length 2 s52.length) O (JLm (G0 y52.ID) O (JLm (E0 before) O (JLm (E0 after) O (JLm (G0 y52.ID) O ?_)))))
     obtain⟨r60,hr60,h⟩:=Gf h
     refine JLh (BL r60) (Gq O (Ha5 before after y52.ID r60 hr60) Qe3 ⟨O,O,O,O,O,O,G⟩) O (JLh (.agg [G0 y52.ID,BL r60]) (Ji (cs:=[G0 y52.ID,BL r60]) [(0,1),(1,1)] [G0 0,BL false] [.int .i64 0,.bool false] Q68 Q82 ⟨.inl O,.inl O,G⟩ O O) O (JLh (Ec [(Gw.mk y52.ID r60)]) (Hv (xs:=[.agg [G0 y52.ID,BL r60]]) O ⟨O,O,G⟩ Qq Q7a O O O O) O ?_))
     obtain⟨ha61,h⟩:=Hz h
     refine JLh (.vec 1044 ((s52++[(Gw.mk y52.ID r60)]).length) 2 ((s52++[(Gw.mk y52.ID r60)]).length)) (H15 (f:=Gw.av) (xs:=s52) (ys:=[(Gw.mk y52.ID r60)]) (ver:=s52.length) (ver1:=(s52++[(Gw.mk y52.ID r60)]).length) rfl rfl rfl rfl Qq Q8b ha61 (fun _=>rfl) (.inl rfl) (by simp)) O (JLm (.vec 1044 ((s52++[(Gw.mk y52.ID r60)]).length) 2 ((s52++[(Gw.mk y52.ID r60)]).length)) O (G8 (ej55 _ _ (s52++[(Gw.mk y52.ID r60)]) h ⟨(by repeat' constructor),⟨⟨_,rfl,.vec⟩,G⟩,rfl⟩)))
    ·
     refine Gm (ej55 _ _ s52 h ⟨(by repeat' constructor),⟨⟨_,rfl,.vec⟩,G⟩,rfl⟩)
   ·intro j55 h
    replace h:=app1 hkj55 h
    refine G2 (JLm (Em i52) O (JLh (G0 ((i52+1:Nat):Int)) (Hx (Hc hk52 hm35) O O O) O (JLm (G0 ((i52+1:Nat):Int)) O (G8 (e52 _ _ (i52+1) j55 (app1 hn52 h) (by omega) ⟨(by repeat' constructor),⟨⟨_,rfl,.vec⟩,G⟩,rfl⟩)))))
  ·
   have h:=app1 hkx52 (Ht hi52 (H9 hb))
   refine Hd (hK8 (Js fun hK62=>Jr fun hK63=>(JLm (BL true) O (G8 (hK63 (Gk ?_))))))
   obtain⟨b64,hb64,h⟩:=Gd6 h
   refine H6 (fun i64 (s64:Bool×(List Gw))=>loop b64 i64 s64=some r) (fun i64 s64=>[(2,E0 before),(3,E0 after),(4,Ed s),(10,.vec 1044 s52.length 2 s52.length),(13,BL s64.1)]) (fun i64 s64=>[(1044,.vec 123 2 s52.length (s64.2.map Gw.av))]) (fun i64=>i64) F (true,s52) h ⟨(by repeat' constructor),⟨⟨_,rfl,.vec⟩,G⟩,rfl⟩ ?_
   clear h
   intro i64 s64 hi64 K64 e64
   obtain⟨m64,nx64,hm_64,hn64,h⟩:=G85 hi64
   replace h:=Jed hb64 h
   refine Js fun hK65=>Jr fun hK66=>(JLm (BL s64.1) O (G8 (hK66 (JCc O h (fun h hb=>?_) (fun h hb=>?_)))))
   ·
    refine Gm (hK65 (Gk (Jr fun hK67=>(JLm (BL false) O (G8 (hK67 (Jr fun hK68=>(JLm (G0 0) O (G8 (hK68 (Gk ?_)))))))))))
    obtain⟨hx69,h⟩:=Hz h
    obtain⟨b69,kx69,hb69,hkx69,h⟩:=G44 h
    refine H6 (fun i69 (s69:Bool×(List Gw))=>upto b69 kx69 (((s52.length:Nat):Int).toNat - i69) i69 s69=some r) (fun i69 s69=>[(2,E0 before),(3,E0 after),(4,Ed s),(10,.vec 1044 s52.length 2 s52.length),(13,BL s69.1),(14,Em i69)]) (fun i69 s69=>[(1044,.vec 123 2 s52.length (s69.2.map Gw.av))]) (fun i69=>((s52.length:Nat):Int).toNat - i69) 0 (false,s64.2) h ⟨(by repeat' constructor),⟨⟨_,rfl,.vec⟩,G⟩,rfl⟩ ?_
    clear h
    intro i69 s69 hi69 K69 e69
    refine Js fun hK70=>Jr fun hK71=>(JLm (Em i69) O (JLm (.vec 1044 s52.length 2 s52.length) O (JLh (G0 ((s52.length:Nat):Int)) (A_vlen Qq O O O) O (JLh (BL (decide ((i69:Int) < ((s52.length:Nat):Int)))) (Hy O O O) O (G8 (hK71 (Gj O (fun hb=>?_) (fun hb=>?_))))))))
    ·
     have hk69:=G0b hb
     obtain⟨nx69,hn69,h⟩:=G07 hi69 hk69
     replace h:=H9f hb69 h
     refine Gm (hK70 (Js fun hK72=>Gk (Jr fun hK73=>(JLm (G0 0) O (G8 (hK73 (Gk ?_)))))))
     obtain⟨hx144,h⟩:=Hz h
     obtain⟨b144,kx144,hb144,hkx144,h⟩:=G44 h
     refine H6 (fun i144 (s144:Bool×(List Gw))=>upto b144 kx144 (((s52.length:Nat):Int).toNat - i144) i144 s144=some r) (fun i144 s144=>[(2,E0 before),(3,E0 after),(4,Ed s),(10,.vec 1044 s52.length 2 s52.length),(13,BL s144.1),(14,Em i69),(15,Em i144)]) (fun i144 s144=>[(1044,.vec 123 2 s52.length (s144.2.map Gw.av))]) (fun i144=>((s52.length:Nat):Int).toNat - i144) 0 (s69.1,s69.2) h ⟨(by repeat' constructor),⟨⟨_,rfl,.vec⟩,G⟩,rfl⟩ ?_
     clear h
     intro i144 s144 hi144 K144 e144
     refine Js fun hK145=>Jr fun hK146=>(JLm (Em i144) O (JLm (.vec 1044 s52.length 2 s52.length) O (JLh (G0 ((s52.length:Nat):Int)) (A_vlen Qq O O O) O (JLh (BL (decide ((i144:Int) < ((s52.length:Nat):Int)))) (Hy O O O) O (G8 (hK146 (Gj O (fun hb=>?_) (fun hb=>?_))))))))
     ·
      have hk144:=G0b hb
      obtain⟨nx144,hn144,h⟩:=G07 hi144 hk144
      replace h:=H9f hb144 h
      refine Gm (hK145 ?_)
      obtain⟨kj147,hkj147,h⟩:=Zf h
      refine Rt (fun j147:Bool×(List Gw)=>kj147 j147=some r) (fun j147=>[(2,E0 before),(3,E0 after),(4,Ed s),(10,.vec 1044 s52.length 2 s52.length),(13,BL j147.1),(14,Em i69),(15,Em i144)]) (fun j147=>[(1044,.vec 123 2 s52.length (j147.2.map Gw.av))]) (fun Kj147 ej147=>?_) ?_
      ·
       refine Gk (Js fun hK148=>Jr fun hK149=>(JLm (.vec 1044 s52.length 2 s52.length) O (JLm (Em i69) O ?_)))
       obtain⟨y150,hmy150,hy150,h⟩:=G3a h
       refine JLh (.vptr 1044 s52.length ((i69:Int).toNat) 0) (G2c (f:=Gw.av) (xs:=s144.2) (y:=y150) O O O O Qq hy150 hmy150) O (JLh (.vptr 1044 s52.length ((i69:Int).toNat) 1) (H78 Gf3 O O O) O (JLh (BL y150.in_) (Gad (f:=Gw.av) (xs:=s144.2) (y:=y150) R5 O O O hy150 O O) O (JLm (BL y150.in_) O (JLo (.vec 1044 s52.length 2 s52.length) [] O .scf G (fun hc=>G5 O O) O (JLo (Em i144) [] O .scf G (fun hc=>G5 O O) O ?_)))))
       obtain⟨y151,hy151,h⟩:=Gf h
       refine JLo (.vptr 1044 s52.length ((i144:Int).toNat) 0) [82,83] O .scf ⟨Ua,Ua,G⟩ (fun hc=>G2c (f:=Gw.av) (xs:=s144.2) (y:=y151) O O O O Qq (G0c (Gv hc hy151)) (Gdd (Gv hc hy151))) O (JLo (.vptr 1044 s52.length ((i144:Int).toNat) 1) [84] O .scf ⟨Ua,G⟩ (fun hc=>H78 Gf3 O O O) O (JLo (BL y151.in_) [85] O .scf ⟨Ua,G⟩ (fun hc=>Gad (f:=Gw.av) (xs:=s144.2) (y:=y151) R5 O O O (G0c (Gv hc hy151)) O O) O (JLo (BL (!y151.in_)) [86] O .scf ⟨Ua,G⟩ (fun hc=>R9 (b:=y151.in_) O O) O (JLh (BL (y150.in_||(!y151.in_))) (Y7 O O O O) O (G8 (hK149 (JCc O h (fun h hb=>?_) (fun h hb=>?_))))))))
       ·
        refine Hd (ej147 _ _ (s144.1,s144.2) h ⟨(by repeat' constructor),⟨⟨_,rfl,.vec⟩,G⟩,rfl⟩)
       ·
        refine Gm (hK148 (Js fun hK152=>G9c (l':=[(2,E0 before),(3,E0 after),(4,Ed s),(10,.vec 1044 s52.length 2 s52.length),(13,BL s144.1),(14,Em i69),(15,Em i144)]) (L':=[(1044,.vec 123 2 s52.length (s144.2.map Gw.av))]) ⟨(by repeat' constructor),⟨⟨_,rfl,.vec⟩,G⟩,rfl⟩ ?_))
        obtain⟨y153,hmy153,hy153,h⟩:=G3a h
        obtain⟨y154,hmy154,hy154,h⟩:=G3a h
        obtain⟨r155,hr155,h⟩:=Gf h
        obtain⟨y156,hy156,h⟩:=Gf h
        obtain⟨y157,hy157,h⟩:=Gf h
        obtain⟨r158,hr158,h⟩:=Gf h
        refine JC_d0 Jb (by kernel_rfl) (Dq (.agg (H8.cs s)) (Gi J1 O O O) O (Dq (E0 before) (G5 O O) O (Dq (E0 after) (G5 O O) O (Dq (.vec 1044 s52.length 2 s52.length) (G5 O O) O (Dq (Em i69) (G5 O O) O (Dq (.vptr 1044 s52.length ((i69:Int).toNat) 0) (G2c (f:=Gw.av) (xs:=s144.2) (y:=y153) O O O O Qq hy153 hmy153) O (Dq (.vptr 1044 s52.length ((i69:Int).toNat) 0) (H78 G09 O O O) O (Dq (G0 y153.id) (Gad (f:=Gw.av) (xs:=s144.2) (y:=y153) Gc O O O hy153 O O) O (Dq (.vec 1044 s52.length 2 s52.length) (G5 O O) O (Dq (Em i144) (G5 O O) O (Dq (.vptr 1044 s52.length ((i144:Int).toNat) 0) (G2c (f:=Gw.av) (xs:=s144.2) (y:=y154) O O O O Qq hy154 hmy154) O (Dq (.vptr 1044 s52.length ((i144:Int).toNat) 0) (H78 G09 O O O) O (Dq (G0 y154.id) (Gad (f:=Gw.av) (xs:=s144.2) (y:=y154) Gc O O O hy154 O O) O ?_)))))))))))))
        refine Dq (BL r155) (Gq (args:=[.agg (H8.cs s),E0 before,E0 after,G0 y153.id,G0 y154.id]) O (Ga6 s before after y153.id y154.id r155 hr155) Q18 ⟨O,O,O,O,O,O,O,O,O,O,G⟩) O (Dq (BL r155) (G5 O O) O (Do (.agg (H8.cs s)) [] O .scf G (fun hc=>Gi J1 O O O) O (Do (E0 after) [] O .scf G (fun hc=>G5 O O) O (Do (E0 before) [] O .scf G (fun hc=>G5 O O) O (Do (.vec 1044 s52.length 2 s52.length) [] O .scf G (fun hc=>G5 O O) O (Do (Em i69) [] O .scf G (fun hc=>G5 O O) O (Do (.vptr 1044 s52.length ((i69:Int).toNat) 0) [107,108] O .scf ⟨Ua,Ua,G⟩ (fun hc=>G2c (f:=Gw.av) (xs:=s144.2) (y:=y156) O O O O Qq (G0c (Gv hc hy156)) (Gdd (Gv hc hy156))) O (Do (.vptr 1044 s52.length ((i69:Int).toNat) 0) [109] O .scf ⟨Ua,G⟩ (fun hc=>H78 G09 O O O) O (Do (G0 y156.id) [110] O .scf ⟨Ua,G⟩ (fun hc=>Gad (f:=Gw.av) (xs:=s144.2) (y:=y156) Gc O O O (G0c (Gv hc hy156)) O O) O (Do (.vec 1044 s52.length 2 s52.length) [] O .scf G (fun hc=>G5 O O) O (Do (Em i144) [] O .scf G (fun hc=>G5 O O) O (Do (.vptr 1044 s52.length ((i144:Int).toNat) 0) [112,113] O .scf ⟨Ua,Ua,G⟩ (fun hc=>G2c (f:=Gw.av) (xs:=s144.2) (y:=y157) O O O O Qq (G0c (Gv hc hy157)) (Gdd (Gv hc hy157))) O (Do (.vptr 1044 s52.length ((i144:Int).toNat) 0) [114] O .scf ⟨Ua,G⟩ (fun hc=>H78 G09 O O O) O ?_)))))))))))))
        refine Do (G0 y157.id) [115] O .scf ⟨Ua,G⟩ (fun hc=>Gad (f:=Gw.av) (xs:=s144.2) (y:=y157) Gc O O O (G0c (Gv hc hy157)) O O) O (Do (BL r158) [104,105,106,111,116] O .scf ⟨Ua,Ua,Ua,Ua,Ua,G⟩ (fun hc=>Gq (args:=[.agg (H8.cs s),E0 after,E0 before,G0 y156.id,G0 y157.id]) O (Ga6 s after before y156.id y157.id r158 (Gv hc hr158)) Q18 ⟨O,O,O,O,O,O,O,O,O,O,G⟩) O (Dq (BL (r155||r158)) (Y7 O O O O) O (Dnil (hK152 (JCc O h (fun h hb=>?_) (fun h hb=>?_))))))
        ·
         refine G2 (JLm (.vec 1044 s52.length 2 s52.length) O (JLm (Em i69) O ?_))
         obtain⟨y159,hmy159,hy159,h⟩:=G3a h
         refine JLh (.vptr 1044 s52.length ((i69:Int).toNat) 0) (G2c (f:=Gw.av) (xs:=s144.2) (y:=y159) O O O O Qq hy159 hmy159) O (JLh (.vptr 1044 s52.length ((i69:Int).toNat) 1) (H78 Gf3 O O O) O (Ja (u:=.junk) (A_vstoreF (f:=Gw.av) (xs:=s144.2) (e:=y159) (z:=(Gw.mk y159.id true)) (u:=BL true) Q6c O O O O hy159 O O O O O) (JLm (BL true) O (G8 (ej147 _ _ (true,(s144.2.set (i69:Int).toNat (Gw.mk y159.id true))) h ⟨(by repeat' constructor),⟨⟨_,rfl,.vec⟩,G⟩,rfl⟩)))))
        ·
         refine Gm (ej147 _ _ (s144.1,s144.2) h ⟨(by repeat' constructor),⟨⟨_,rfl,.vec⟩,G⟩,rfl⟩)
      ·intro j147 h
       replace h:=app1 hkj147 h
       refine G2 (JLm (Em i144) O (JLh (G0 ((i144+1:Nat):Int)) (Hx (Hc hk144 (Yt hx144)) O O O) O (JLm (G0 ((i144+1:Nat):Int)) O (G8 (e144 _ _ (i144+1) (j147.1,j147.2) (app1 hn144 h) (by omega) ⟨(by repeat' constructor),⟨⟨_,rfl,.vec⟩,G⟩,rfl⟩)))))
     ·
      have h:=app1 hkx144 (G08 hi144 (Qr hb))
      refine Hd (hK72 (G2 (JLm (Em i69) O (JLh (G0 ((i69+1:Nat):Int)) (Hx (Hc hk69 (Yt hx69)) O O O) O (JLm (G0 ((i69+1:Nat):Int)) O (G8 (e69 _ _ (i69+1) (s144.1,s144.2) (app1 hn69 h) (by omega) ⟨(by repeat' constructor),⟨⟨_,rfl,.vec⟩,G⟩,rfl⟩)))))))
    ·
     have h:=app1 hkx69 (G08 hi69 (Qr hb))
     refine Hd (e64 _ _ m64 (s69.1,s69.2) (app1 hn64 h) (by omega) ⟨(by repeat' constructor),⟨⟨_,rfl,.vec⟩,G⟩,rfl⟩)
   ·
    refine Hd (hK62 (H77 [(10,Ec s64.2)] [] 1044 rfl rfl G rfl (by exact⟨.vec,G⟩) (Jr fun hK160=>(JLh (OW 1045 1 G0 ([]:List Int)) (H02 1045 3 1 O O O) O (G8 (hK160 (Jr fun hK161=>(JLm (G0 0) O (G8 (hK161 (Gk ?_)))))))))))
    obtain⟨b162,hb162,h⟩:=Gd6 h
    refine H6 (fun i162 (s162:(List Int)×Int)=>loop b162 i162 s162=some r) (fun i162 s162=>[(10,Ec s64.2),(16,OW 1045 1 G0 s162.1),(17,G0 s162.2)]) (fun i162 s162=>[(1045,.spare 3 1 s162.1.length s162.1.length)]) (fun i162=>i162) F ([],0) h ⟨⟨.same O,.same O,.same O,G⟩,⟨⟨_,O,.same⟩,G⟩,O⟩ ?_
    clear h
    intro i162 s162 hi162 K162 e162
    obtain⟨m162,nx162,hm_162,hn162,h⟩:=G85 hi162
    replace h:=Jed hb162 h
    refine Gk (Jr fun hK163=>(JLm (G0 0) O (G8 (hK163 (Jr fun hK164=>(JLm (BL false) O (G8 (hK164 (Js fun hK165=>Jr fun hK166=>(JLm (G0 0) O (G8 (hK166 (Gk ?_)))))))))))))
    obtain⟨b188,kx188,hb188,hkx188,h⟩:=J4 h
    refine H6 (fun i188 (s188:Int×Bool)=>each b188 kx188 (List.drop i188 s64.2) i188 s188=some r) (fun i188 s188=>[(10,Ec s64.2),(16,OW 1045 1 G0 s162.1),(17,G0 s162.2),(18,G0 s188.1),(19,BL s188.2),(20,Em i188)]) (fun i188 s188=>[(1045,.spare 3 1 s162.1.length s162.1.length)]) (fun i188=>s64.2.length - i188) 0 (0,false) h ⟨(by repeat' constructor),⟨⟨_,rfl,.same⟩,G⟩,rfl⟩ ?_
    clear h
    intro i188 s188 hi188 K188 e188
    refine Js fun hK189=>Jr fun hK190=>(JLm (Em i188) O (JLm (Ec s64.2) O (JLl Qq O O O fun hm125=>(JLh (BL (decide ((i188:Int) < (s64.2.length:Int)))) (Hy O O O) O (G8 (hK190 (Gj O (fun hb=>?_) (fun hb=>?_))))))))
    ·
     have hk188:=Je hb
     obtain⟨y188,nx188,hy188,hn188,h⟩:=Hs hi188 hk188
     replace h:=Y8 hb188 h
     refine Gm (hK189 ?_)
     obtain⟨kj191,hkj191,h⟩:=Zf h
     refine Rt (fun j191:Int×Bool=>kj191 j191=some r) (fun j191=>[(10,Ec s64.2),(16,OW 1045 1 G0 s162.1),(17,G0 s162.2),(18,G0 j191.1),(19,BL j191.2),(20,Em i188)]) (fun j191=>[(1045,.spare 3 1 s162.1.length s162.1.length)]) (fun Kj191 ej191=>?_) ?_
     ·
      refine Gk (Jr fun hK192=>(JLm (Ec s64.2) O (JLm (Ec s64.2) O (JLm (Em i188) O (JLh (.dptr [G0 y188.id,BL y188.in_]) (Gs (f:=Gw.av) (xs:=s64.2) (y:=y188) O O O Qq hy188 O) O (JLh (.dptr [G0 y188.id,BL y188.in_]) (Ga G09 O O O) O (JLh (G0 y188.id) (Gh Gc O O O) O ?_)))))))
      obtain⟨r193,hr193,h⟩:=Gf h
      refine JLh (BL r193) (Gq O (Hf1 s64.2 y188.id r193 hr193) Qe2 ⟨O,O,O,O,G⟩) O (JLm (BL r193) O (JLo (OW 1045 1 G0 s162.1) [] O .sct G (fun hc=>G5 O O) O (JLo (Em s162.1.length) [137] O .sct ⟨Ua,G⟩ (fun hc=>Qx (f:=G0) (xs:=s162.1) H4 O O) O (JLo (BL (decide ((s162.1.length:Int)=0))) [138] O .sct ⟨Ua,G⟩ (fun hc=>Jk O O O) O (JLo (BL (decide ((s162.1.length:Int)=0))) [139] O .sct ⟨Ua,G⟩ (fun hc=>G5 O O) O (JLo (Ec s64.2) [] O .optf G (fun hc=>G5 O O) O (JLo (Em i188) [] O .optf G (fun hc=>G5 O O) O (JLo (.dptr [G0 y188.id,BL y188.in_]) [141,142] O .optf ⟨Ua,Ua,G⟩ (fun hc=>Gs (f:=Gw.av) (xs:=s64.2) (y:=y188) O O O Qq hy188 O) O (JLo (.dptr [G0 y188.id,BL y188.in_]) [143] O .optf ⟨Ua,G⟩ (fun hc=>Ga G09 O O O) O (JLo (G0 y188.id) [144] O .optf ⟨Ua,G⟩ (fun hc=>Gh Gc O O O) O (JLo (G0 s162.2) [] O .optf G (fun hc=>G5 O O) O (JLo (BL (decide (s162.2 < y188.id))) [145,146] O .optf ⟨Ua,Ua,G⟩ (fun hc=>G4d O O O) O ?_))))))))))))
      refine Gb (u:=BL ((decide ((s162.1.length:Int)=0))||(decide (s162.2 < y188.id)))) [(140,BL (decide ((s162.1.length:Int)=0))),(147,_)] O O O .sct ⟨.all id,.part,G⟩ (fun hc=>Y7 O O O O) ?_
      refine JLh (BL (r193&&((decide ((s162.1.length:Int)=0))||(decide (s162.2 < y188.id))))) (J3 O O O O) O (JLm (BL (r193&&((decide ((s162.1.length:Int)=0))||(decide (s162.2 < y188.id))))) O (JLo (BL s188.2) [] O .sct G (fun hc=>G5 O O) O (JLo (BL (!s188.2)) [151] O .sct ⟨Ua,G⟩ (fun hc=>R9 (b:=s188.2) O O) O (JLo (BL (!s188.2)) [152] O .sct ⟨Ua,G⟩ (fun hc=>G5 O O) O (JLo (Ec s64.2) [] O .optf G (fun hc=>G5 O O) O (JLo (Em i188) [] O .optf G (fun hc=>G5 O O) O (JLo (.dptr [G0 y188.id,BL y188.in_]) [154,155] O .optf ⟨Ua,Ua,G⟩ (fun hc=>Gs (f:=Gw.av) (xs:=s64.2) (y:=y188) O O O Qq hy188 O) O (JLo (.dptr [G0 y188.id,BL y188.in_]) [156] O .optf ⟨Ua,G⟩ (fun hc=>Ga G09 O O O) O (JLo (G0 y188.id) [157] O .optf ⟨Ua,G⟩ (fun hc=>Gh Gc O O O) O (JLo (G0 s188.1) [] O .optf G (fun hc=>G5 O O) O (JLo (BL (decide (y188.id < s188.1))) [158,159] O .optf ⟨Ua,Ua,G⟩ (fun hc=>Hy O O O) O ?_)))))))))))
      refine Gb (u:=BL ((!s188.2)||(decide (y188.id < s188.1)))) [(153,BL (!s188.2)),(160,_)] O O O .sct ⟨.all id,.part,G⟩ (fun hc=>Y7 O O O O) ?_
      refine JLh (BL ((r193&&((decide ((s162.1.length:Int)=0))||(decide (s162.2 < y188.id))))&&((!s188.2)||(decide (y188.id < s188.1))))) (J3 O O O O) O (G8 (hK192 (JCc O h (fun h hb=>?_) (fun h hb=>?_))))
      ·
       refine G2 (JLm (Ec s64.2) O (JLm (Em i188) O (JLh (.dptr [G0 y188.id,BL y188.in_]) (Gs (f:=Gw.av) (xs:=s64.2) (y:=y188) O O O Qq hy188 O) O (JLh (.dptr [G0 y188.id,BL y188.in_]) (Ga G09 O O O) O (JLh (G0 y188.id) (Gh Gc O O O) O (JLm (G0 y188.id) O (JLm (BL true) O (G8 (ej191 _ _ (y188.id,true) h ⟨(by repeat' constructor),⟨⟨_,rfl,.same⟩,G⟩,rfl⟩)))))))))
      ·
       refine Gm (ej191 _ _ (s188.1,s188.2) h ⟨(by repeat' constructor),⟨⟨_,rfl,.same⟩,G⟩,rfl⟩)
     ·intro j191 h
      replace h:=app1 hkj191 h
      refine G2 (JLm (Em i188) O (JLh (G0 ((i188+1:Nat):Int)) (Hx (Hc hk188 hm125) O O O) O (JLm (G0 ((i188+1:Nat):Int)) O (G8 (e188 _ _ (i188+1) (j191.1,j191.2) (app1 hn188 h) (by omega) ⟨(by repeat' constructor),⟨⟨_,rfl,.same⟩,G⟩,rfl⟩)))))
    ·
     have h:=app1 hkx188 (Ht hi188 (H9 hb))
     refine Hd (hK165 (Js fun hK194=>Jr fun hK195=>(JLm (BL s188.2) O (JLh (BL (!s188.2)) (R9 (b:=s188.2) O O) O (G8 (hK195 (JCc O h (fun h hb=>?_) (fun h hb=>?_))))))))
     ·
      refine Jr fun hK196=>(JLm (OW 1045 1 G0 s162.1) O (JLm (OW 1045 1 G0 s162.1) O (JLm (G0 0) O (G8 (hK196 (Gt (⟨[E1 s162.1,G0 0],[],G,O,⟨⟨_,O,.conv (.list O)⟩,⟨_,O,.conv (.same O)⟩,G⟩,O,congrArg (fun r:(List Int)×Int=>(.tup [E1 r.1,G0 r.2]:AV)) (Option.some.inj h)⟩)))))))
     ·
      refine Gm (hK194 (Jr fun hK197=>(JLm (OW 1045 1 G0 s162.1) O (JLm (G0 s188.1) O (JLh (E1 [s188.1]) (Hv (xs:=[G0 s188.1]) O ⟨O,O,G⟩ H4 G67 O O O O) O ?_)))))
      obtain⟨ha198,h⟩:=Hz h
      refine JLh (OW 1045 1 G0 (s162.1++[s188.1])) (Y0 (f:=G0) (xs:=s162.1) (ys:=[s188.1]) O O O O H4 Ge0 ha198 (fun _=>O) (.inl O) O) O (JLm (OW 1045 1 G0 (s162.1++[s188.1])) O (G8 (hK197 (G2 (JLm (G0 s188.1) O (JLm (G0 s188.1) O (G8 (e162 _ _ m162 ((s162.1++[s188.1]),s188.1) (app1 hn162 h) (by omega) ⟨⟨.same rfl,.same rfl,.same rfl,G⟩,⟨⟨_,rfl,.same⟩,G⟩,rfl⟩))))))))

def Y2 (l:List Int) (n:Int):Option Bool:=
 each (fun y17 i17 (s17:Unit) nx17=>
  bif decide (y17=n) then
  (some true)
  else
  (nx17 ()))
 (fun(s17:Unit)=>
  some false) l 0 ()
theorem Gc8 (l:List Int) (n:Int) (r:Bool) (h:Y2 l n=some r):Pure En 64 [E1 l,G0 n] (·=BL r):=by
 unfold Y2 at h
 refine H0 [.tmp 4] Tryz.func64 O O (Jr fun hK1=>(JLm (BL false) O (G8 (hK1 (Js fun hK2=>Jr fun hK3=>(JLm (G0 0) O (G8 (hK3 (Gk ?_)))))))))
 obtain⟨b17,kx17,hb17,hkx17,h⟩:=J4 h
 refine H6 (fun i17 (s17:Unit)=>each b17 kx17 (List.drop i17 l) i17 s17=some r) (fun i17 s17=>[(0,E1 l),(1,G0 n),(5,Em i17)]) (fun i17 s17=>[]) (fun i17=>l.length - i17) 0 () h ⟨⟨.same O,.same O,.same O,G⟩,G,O⟩ ?_
 clear h
 intro i17 s17 hi17 K17 e17
 refine Js fun hK18=>Jr fun hK19=>(JLm (Em i17) O (JLm (E1 l) O (JLl H4 O O O fun hm8=>(JLh (BL (decide ((i17:Int) < (l.length:Int)))) (Hy O O O) O (G8 (hK19 (Gj O (fun hb=>?_) (fun hb=>?_))))))))
 ·
  have hk17:=Je hb
  obtain⟨y17,nx17,hy17,hn17,h⟩:=Hs hi17 hk17
  replace h:=Y8 hb17 h
  refine Gm (hK18 (Js fun hK20=>Gk (Jr fun hK21=>(JLm (E1 l) O (JLm (Em i17) O (JLh (.dptr [G0 y17]) (Gs (f:=G0) (xs:=l) (y:=y17) O O O H4 hy17 O) O (JLh (G0 y17) (Gh Gc O O O) O (JLm (G0 n) O (JLh (BL (decide (y17=n))) (Jk O O O) O (G8 (hK21 (JCc O h (fun h hb=>?_) (fun h hb=>?_)))))))))))))
  ·
   refine Jr fun hK22=>(JLm (BL true) O (G8 (hK22 (Gt (fin1 BL h)))))
  ·
   refine Gm (hK20 (G2 (JLm (Em i17) O (JLh (G0 ((i17+1:Nat):Int)) (Hx (Hc hk17 hm8) O O O) O (JLm (G0 ((i17+1:Nat):Int)) O (G8 (e17 _ _ (i17+1) () (app1 hn17 h) (by omega) ⟨⟨.same rfl,.same rfl,.same rfl,G⟩,G,rfl⟩)))))))
 ·
  have h:=app1 hkx17 (Ht hi17 (H9 hb))
  refine Hd (hK2 (Jr fun hK23=>(JLm (BL false) O (G8 (hK23 (Gt (fin1 BL h)))))))

def Zc (a:Slot) (b:Slot):Option Bool:=
 bif decide (a.G4≠b.G4) then
 (some (decide (a.G4 < b.G4)))
 else
 (bif decide (a.Tier≠b.Tier) then
  (some (decide (a.Tier < b.Tier)))
  else
  (some (decide (a.Half < b.Half))))
theorem Ge8 (a:Slot) (b:Slot) (r:Bool) (h:Zc a b=some r):Pure En 148 [.agg [G0 a.G4,G0 a.Tier,U8 a.Half],.agg [G0 b.G4,G0 b.Tier,U8 b.Half]] (·=BL r):=by
 unfold Zc at h
 refine H0 [.tmp 4] Tryz.func148 O O (Jr fun hK1=>(JLh (.ptr 1185 0) (Jq (cs:=[G0 a.G4,G0 a.Tier,U8 a.Half]) 1185 O O O O O) O (JLh (.ptr 1186 0) (Jq (cs:=[G0 b.G4,G0 b.Tier,U8 b.Half]) 1186 O O O O O) O (JLm (BL false) O (G8 (hK1 (Gx [(2,.dptr [G0 a.G4,G0 a.Tier,U8 a.Half]),(3,.ptr 1186 0)] [(1186,.box 60 [G0 b.G4,G0 b.Tier,U8 b.Half])] 1185 rfl rfl rfl ⟨⟨_,rfl,.boxEq rfl rfl⟩,G⟩ rfl (by exact⟨.ptr,.conv (.same rfl),G⟩) (Gx [(2,.dptr [G0 a.G4,G0 a.Tier,U8 a.Half]),(3,.dptr [G0 b.G4,G0 b.Tier,U8 b.Half])] [] 1186 rfl rfl rfl G rfl (by exact⟨.conv (.same rfl),.ptr,G⟩) (Js fun hK2=>?_)))))))))
 refine Jr fun hK3=>(JLh (.dptr [G0 a.G4,G0 a.Tier,U8 a.Half]) (Ga Hk O O O) O (JLh (G0 a.G4) (Gh Gc O O O) O (JLh (.dptr [G0 b.G4,G0 b.Tier,U8 b.Half]) (Ga Hk O O O) O (JLh (G0 b.G4) (Gh Gc O O O) O (JLh (BL (decide (a.G4≠b.G4))) (G56 O O O) O (G8 (hK3 (JCc O h (fun h hb=>?_) (fun h hb=>?_)))))))))
 ·
  refine Jr fun hK4=>(JLh (.dptr [G0 a.G4,G0 a.Tier,U8 a.Half]) (Ga Hk O O O) O (JLh (G0 a.G4) (Gh Gc O O O) O (JLh (.dptr [G0 b.G4,G0 b.Tier,U8 b.Half]) (Ga Hk O O O) O (JLh (G0 b.G4) (Gh Gc O O O) O (JLh (BL (decide (a.G4 < b.G4))) (Hy O O O) O (JLm (BL (decide (a.G4 < b.G4))) O (G8 (hK4 (Gt (fin1 BL h))))))))))
 ·
  refine Gm (hK2 (Js fun hK5=>Jr fun hK6=>(JLh (.dptr [G0 a.Tier,U8 a.Half]) (Ga J9 O O O) O (JLh (G0 a.Tier) (Gh Gc O O O) O (JLh (.dptr [G0 b.Tier,U8 b.Half]) (Ga J9 O O O) O (JLh (G0 b.Tier) (Gh Gc O O O) O (JLh (BL (decide (a.Tier≠b.Tier))) (G56 O O O) O (G8 (hK6 (JCc O h (fun h hb=>?_) (fun h hb=>?_)))))))))))
  ·
   refine Jr fun hK7=>(JLh (.dptr [G0 a.Tier,U8 a.Half]) (Ga J9 O O O) O (JLh (G0 a.Tier) (Gh Gc O O O) O (JLh (.dptr [G0 b.Tier,U8 b.Half]) (Ga J9 O O O) O (JLh (G0 b.Tier) (Gh Gc O O O) O (JLh (BL (decide (a.Tier < b.Tier))) (Hy O O O) O (JLm (BL (decide (a.Tier < b.Tier))) O (G8 (hK7 (Gt (fin1 BL h))))))))))
  ·
   refine Gm (hK5 (Jr fun hK8=>(JLh (.dptr [U8 a.Half]) (Ga Jo O O O) O (JLh (U8 a.Half) (Gh J5 O O O) O (JLh (.dptr [U8 b.Half]) (Ga Jo O O O) O (JLh (U8 b.Half) (Gh J5 O O O) O (JLh (BL (decide (a.Half < b.Half))) (Hy O O O) O (JLm (BL (decide (a.Half < b.Half))) O (G8 (hK8 (Gt (fin1 BL h))))))))))))

def Zh (a:Slot) (b:Slot):Option Int:=
 bnd (Zc a b) fun r4=>
 bif r4 then
 (some (-1))
 else
 (bnd (Zc b a) fun r8=>
  bif r8 then
  (some 1)
  else
  (some 0))
theorem H6a (a:Slot) (b:Slot) (r:Int) (h:Zh a b=some r):Pure En 107 [.agg [G0 a.G4,G0 a.Tier,U8 a.Half],.agg [G0 b.G4,G0 b.Tier,U8 b.Half]] (·=G0 r):=by
 unfold Zh at h
 refine H0 [.tmp 4] Tryz.func107 O O (Jr fun hK1=>(JLh (.ptr 1156 0) (Jq (cs:=[G0 a.G4,G0 a.Tier,U8 a.Half]) 1156 O O O O O) O (JLh (.ptr 1157 0) (Jq (cs:=[G0 b.G4,G0 b.Tier,U8 b.Half]) 1157 O O O O O) O (JLm (G0 0) O (G8 (hK1 (Gx [(2,.dptr [G0 a.G4,G0 a.Tier,U8 a.Half]),(3,.ptr 1157 0)] [(1157,.box 60 [G0 b.G4,G0 b.Tier,U8 b.Half])] 1156 rfl rfl rfl ⟨⟨_,rfl,.boxEq rfl rfl⟩,G⟩ rfl (by exact⟨.ptr,.conv (.same rfl),G⟩) (Gx [(2,.dptr [G0 a.G4,G0 a.Tier,U8 a.Half]),(3,.dptr [G0 b.G4,G0 b.Tier,U8 b.Half])] [] 1157 rfl rfl rfl G rfl (by exact⟨.conv (.same rfl),.ptr,G⟩) (Js fun hK2=>?_)))))))))
 refine Jr fun hK3=>(JLh (.agg [G0 a.G4,G0 a.Tier,U8 a.Half]) (Gi Jg O O O) O (JLh (.agg [G0 b.G4,G0 b.Tier,U8 b.Half]) (Gi Jg O O O) O ?_))
 obtain⟨r4,hr4,h⟩:=Gf h
 refine JLh (BL r4) (Gq O (Ge8 a b r4 hr4) Jc3 ⟨O,O,O,O,G⟩) O (G8 (hK3 (JCc O h (fun h hb=>?_) (fun h hb=>?_))))
 ·
  refine Jr fun hK5=>(JLm (G0 (-1)) O (G8 (hK5 (Gt (fin1 G0 h)))))
 ·
  refine Gm (hK2 (Js fun hK6=>Jr fun hK7=>(JLh (.agg [G0 b.G4,G0 b.Tier,U8 b.Half]) (Gi Jg O O O) O (JLh (.agg [G0 a.G4,G0 a.Tier,U8 a.Half]) (Gi Jg O O O) O ?_))))
  obtain⟨r8,hr8,h⟩:=Gf h
  refine JLh (BL r8) (Gq O (Ge8 b a r8 hr8) Jc3 ⟨O,O,O,O,G⟩) O (G8 (hK7 (JCc O h (fun h hb=>?_) (fun h hb=>?_))))
  ·
   refine Jr fun hK9=>(JLm (G0 1) O (G8 (hK9 (Gt (fin1 G0 h)))))
  ·
   refine Gm (hK6 (Jr fun hK10=>(JLm (G0 0) O (G8 (hK10 (Gt (fin1 G0 h)))))))

def Zg (a:G6) (b:G6) (down:Bool):Option Bool:=
 bif decide (a.Slot.Tier≠b.Slot.Tier) then
 (some ((decide (b.Slot.Tier < a.Slot.Tier))==down))
 else
 (bnd (Zh a.Slot b.Slot) fun r6=>
  some (decide (r6 < 0)))
theorem H69 (a:G6) (b:G6) (down:Bool) (r:Bool) (h:Zg a b down=some r):Pure En 65 [.agg (G6.cs a),.agg (G6.cs b),BL down] (·=BL r):=by
 unfold Zg at h
 refine H0 [.tmp 6] Tryz.func65 O O (Jr fun hK1=>(JLh (.ptr 1104 0) (Jq (cs:=[G0 a.H2,G0 a.Slot.G4,G0 a.Slot.Tier,U8 a.Slot.Half]) 1104 O O O O O) O (JLh (.ptr 1105 0) (Jq (cs:=[G0 b.H2,G0 b.Slot.G4,G0 b.Slot.Tier,U8 b.Slot.Half]) 1105 O O O O O) O (JLm (BL false) O (G8 (hK1 (Gx [(2,BL down),(3,Ee a),(4,.ptr 1105 0)] [(1105,.box 62 [G0 b.H2,G0 b.Slot.G4,G0 b.Slot.Tier,U8 b.Slot.Half])] 1104 rfl rfl rfl ⟨⟨_,rfl,.boxEq rfl rfl⟩,G⟩ rfl (by exact⟨.conv (.same rfl),.ptr,.conv (.same rfl),G⟩) (Gx [(2,BL down),(3,Ee a),(4,Ee b)] [] 1105 rfl rfl rfl G rfl (by exact⟨.conv (.same rfl),.conv (.same rfl),.ptr,G⟩) (Js fun hK2=>?_)))))))))
 refine Jr fun hK3=>(JLh (.dptr ((G6.cs a).drop 1)) (Ga Hg O O O) O (JLh (.dptr [G0 a.Slot.Tier,U8 a.Slot.Half]) (Ga J9 O O O) O (JLh (G0 a.Slot.Tier) (Gh Gc O O O) O (JLh (.dptr ((G6.cs b).drop 1)) (Ga Hg O O O) O (JLh (.dptr [G0 b.Slot.Tier,U8 b.Slot.Half]) (Ga J9 O O O) O (JLh (G0 b.Slot.Tier) (Gh Gc O O O) O (JLh (BL (decide (a.Slot.Tier≠b.Slot.Tier))) (G56 O O O) O (G8 (hK3 (JCc O h (fun h hb=>?_) (fun h hb=>?_)))))))))))
 ·
  refine Jr fun hK4=>(JLh (.dptr ((G6.cs a).drop 1)) (Ga Hg O O O) O (JLh (.dptr [G0 a.Slot.Tier,U8 a.Slot.Half]) (Ga J9 O O O) O (JLh (G0 a.Slot.Tier) (Gh Gc O O O) O (JLh (.dptr ((G6.cs b).drop 1)) (Ga Hg O O O) O (JLh (.dptr [G0 b.Slot.Tier,U8 b.Slot.Half]) (Ga J9 O O O) O (JLh (G0 b.Slot.Tier) (Gh Gc O O O) O (JLh (BL (decide (b.Slot.Tier < a.Slot.Tier))) (G4d O O O) O (JLm (BL down) O (JLh (BL ((decide (b.Slot.Tier < a.Slot.Tier))==down)) (J2a Ge1 O O O) O (JLm (BL ((decide (b.Slot.Tier < a.Slot.Tier))==down)) O (G8 (hK4 (Gt (fin1 BL h))))))))))))))
 ·
  refine Gm (hK2 (Jr fun hK5=>(JLh (.dptr ((G6.cs a).drop 1)) (Ga Hg O O O) O (JLh (.agg ((G6.cs a).drop 1)) (Gi Jg O O O) O (JLh (.dptr ((G6.cs b).drop 1)) (Ga Hg O O O) O (JLh (.agg ((G6.cs b).drop 1)) (Gi Jg O O O) O ?_))))))
  obtain⟨r6,hr6,h⟩:=Gf h
  refine JLh (G0 r6) (Gq O (H6a a.Slot b.Slot r6 hr6) Qad ⟨O,O,O,O,G⟩) O (JLh (BL (decide (r6 < 0))) (Hy O O O) O (JLm (BL (decide (r6 < 0))) O (G8 (hK5 (Gt (fin1 BL h))))))

def Jz (F:Nat) (s:H8) (l:List G6) (lifted:List Int) (bay:Int) (deck:Bool) (kind:Int):Option (List Move):=
 bnd (H3a (l.length:Int)) fun m4=>
 need (decide (1*m4≤281474976710656∧m4≤maxLen∧m4*1≤16777216)) <|
 loop (fun nx6 (s6:(List Move)×(List Bool))=>
  each (fun y51 i51 (s51:Int) nx51=>
   jp (fun kj54=>
    Jc s.Columns y51.Slot.G4 fun y56=>
    Jc s6.2 (i51:Int) fun y60=>
    bnd (bif (!((y60||(decide (y56.Bay≠bay)))||(!(y56.Deck==deck)))) then Y2 lifted y51.H2 else some default) fun r61=>
    bif (((y60||(decide (y56.Bay≠bay)))||(!(y56.Deck==deck)))||(!r61)) then
    (kj54 s51)
    else
    (bnd (bif (!(decide (s51 < 0))) then Jc l s51 some else some default) fun y63=>
     bnd (bif (!(decide (s51 < 0))) then Zg y51 y63 (decide (kind=2)) else some default) fun r64=>
     bif ((decide (s51 < 0))||r64) then
     (kj54 (i51:Int))
     else
     (kj54 s51))) fun(j54:Int)=>
   nx51 j54)
  (fun(s51:Int)=>
   bif decide (s51 < 0) then
   (some s6.1)
   else
   (Jc s6.2 s51 fun y69=>
    Jc l s51 fun y70=>
    Jc l s51 fun y72=>
    need (decide ((s6.1.length+[(Move.mk kind y70.H2 y72.Slot 0)].length)*48≤140737488355328∧s6.1.length+[(Move.mk kind y70.H2 y72.Slot 0)].length≤maxLen)) <|
    nx6 ((s6.1++[(Move.mk kind y70.H2 y72.Slot 0)]),(s6.2.set s51.toNat true)))) l 0 (-1)) F ([],(List.replicate m4 (false:Bool)))
theorem G2b (F:Nat) (s:H8) (l:List G6) (lifted:List Int) (bay:Int) (deck:Bool) (kind:Int) (r:(List Move)) (h:Jz F s l lifted bay deck kind=some r):Pure En 30 [.agg (H8.cs s),E0 l,E1 lifted,G0 bay,BL deck,U8 kind] (·=E2 r):=by
 unfold Jz at h
 refine H0 [.tmp 12] Tryz.func30 O O (Jr fun hK1=>(JLh (.ptr 1046 0) (Jq (cs:=(H8.cs s)) 1046 O O O O O) O (JLh (E2 ([]:List Move)) (Q2 6 O O) O (G8 (hK1 ?_)))))
 refine Gx [(1,E0 l),(2,E1 lifted),(3,G0 bay),(4,BL deck),(5,U8 kind),(6,Ed s)] [] 1046 rfl rfl rfl G rfl (by repeat' (first | exact .ptr | constructor)) (Jr fun hK2=>(JLh (OW 1047 6 Move.av ([]:List Move)) (H02 1047 69 6 O O O) O (G8 (hK2 (Jr fun hK3=>(JLm (E0 l) O (JLl Gz O O O fun hm19=>?_)))))))
 obtain⟨m4,hm4,h⟩:=Gf h
 obtain⟨ha5,h⟩:=Hz h
 refine JLh (.vec 1049 0 1 ((List.replicate m4 (false:Bool)).length)) (A_vmakeM 1049 (f:=BL) (n:=m4) false [.bool false] O O O O Hce tf_elem_4 tf_zero_4 (G71 hm4) (G71 hm4) ha5 ⟨.inl O,G⟩ O) O (JLm (.vec 1049 0 1 ((List.replicate m4 (false:Bool)).length)) O (G8 (hK3 (Gk ?_))))
 obtain⟨b6,hb6,h⟩:=Gd6 h
 refine H6 (fun i6 (s6:(List Move)×(List Bool))=>loop b6 i6 s6=some r) (fun i6 s6=>[(1,E0 l),(2,E1 lifted),(3,G0 bay),(4,BL deck),(5,U8 kind),(6,Ed s),(13,OW 1047 6 Move.av s6.1),(14,.vec 1049 0 1 ((List.replicate m4 (false:Bool)).length))]) (fun i6 s6=>[(1047,.spare 69 6 s6.1.length s6.1.length),(1049,.vec 4 1 0 (s6.2.map BL))]) (fun i6=>i6) F ([],(List.replicate m4 (false:Bool))) h ⟨(by repeat' constructor),⟨⟨_,rfl,.same⟩,⟨_,rfl,.vec⟩,G⟩,rfl⟩ ?_
 clear h
 intro i6 s6 hi6 K6 e6
 obtain⟨m6,nx6,hm_6,hn6,h⟩:=G85 hi6
 replace h:=Jed hb6 h
 refine Gk (Jr fun hK7=>(JLm (G0 (-1)) O (G8 (hK7 (Js fun hK8=>Jr fun hK9=>(JLm (G0 0) O (G8 (hK9 (Gk ?_)))))))))
 obtain⟨b51,kx51,hb51,hkx51,h⟩:=J4 h
 refine H6 (fun i51 (s51:Int)=>each b51 kx51 (List.drop i51 l) i51 s51=some r) (fun i51 s51=>[(1,E0 l),(2,E1 lifted),(3,G0 bay),(4,BL deck),(5,U8 kind),(6,Ed s),(13,OW 1047 6 Move.av s6.1),(14,.vec 1049 0 1 ((List.replicate m4 (false:Bool)).length)),(15,G0 s51),(16,Em i51)]) (fun i51 s51=>[(1047,.spare 69 6 s6.1.length s6.1.length),(1049,.vec 4 1 0 (s6.2.map BL))]) (fun i51=>l.length - i51) 0 (-1) h ⟨(by repeat' constructor),⟨⟨_,rfl,.same⟩,⟨_,rfl,.vec⟩,G⟩,rfl⟩ ?_
 clear h
 intro i51 s51 hi51 K51 e51
 refine Js fun hK52=>Jr fun hK53=>(JLm (Em i51) O (JLm (E0 l) O (JLl Gz O O O fun hm23=>(JLh (BL (decide ((i51:Int) < (l.length:Int)))) (Hy O O O) O (G8 (hK53 (Gj O (fun hb=>?_) (fun hb=>?_))))))))
 ·
  have hk51:=Je hb
  obtain⟨y51,nx51,hy51,hn51,h⟩:=Hs hi51 hk51
  replace h:=Y8 hb51 h
  refine Gm (hK52 ?_)
  obtain⟨kj54,hkj54,h⟩:=Zf h
  refine Rt (fun j54:Int=>kj54 j54=some r) (fun j54=>[(1,E0 l),(2,E1 lifted),(3,G0 bay),(4,BL deck),(5,U8 kind),(6,Ed s),(13,OW 1047 6 Move.av s6.1),(14,.vec 1049 0 1 ((List.replicate m4 (false:Bool)).length)),(15,G0 j54),(16,Em i51)]) (fun j54=>[(1047,.spare 69 6 s6.1.length s6.1.length),(1049,.vec 4 1 0 (s6.2.map BL))]) (fun Kj54 ej54=>?_) ?_
  ·
   refine Gk (Js fun hK55=>G9c (l':=[(1,E0 l),(2,E1 lifted),(3,G0 bay),(4,BL deck),(5,U8 kind),(6,Ed s),(13,OW 1047 6 Move.av s6.1),(14,.vec 1049 0 1 ((List.replicate m4 (false:Bool)).length)),(15,G0 s51),(16,Em i51)]) (L':=[(1047,.spare 69 6 s6.1.length s6.1.length),(1049,.vec 4 1 0 (s6.2.map BL))]) ⟨(by repeat' constructor),⟨⟨_,rfl,.same⟩,⟨_,rfl,.vec⟩,G⟩,rfl⟩ ?_)
   obtain⟨m57,y56,hm57,hy56,h⟩:=R1 h
   refine Jt [10,11] [0,0,0,0,0,0,0,0,0,0,0,0] [1,1,1,1,1,1,1,1,1,1,0,0] [[(1047,.spare 69 6 s6.1.length s6.1.length),(1049,.vec 4 1 0 (s6.2.map BL))],((1048,.box 53 [.junk,.junk,.junk,.junk,.junk,.junk,.junk,.junk,.junk,.junk,.junk,.junk])::[(1047,.spare 69 6 s6.1.length s6.1.length),(1049,.vec 4 1 0 (s6.2.map BL))]),((1048,.box 53 (G4.cs y56))::((1048,.box 53 [.junk,.junk,.junk,.junk,.junk,.junk,.junk,.junk,.junk,.junk,.junk,.junk])::[(1047,.spare 69 6 s6.1.length s6.1.length),(1049,.vec 4 1 0 (s6.2.map BL))]))] Jb (by kernel_rfl) rfl rfl ?_
   refine Gd (u:=Ed s) O O ⟨Gr (Ga Hi O O O) O,Gr (Ga Hi O O O) O,G⟩ (Gd (u:=E5 s.Columns) O O ⟨Gr (Gh Ho O O O) O,Gr (Gh Ho O O O) O,G⟩ (Gd (u:=E0 l) O O ⟨Gr (G5 O O) O,Gr (G5 O O) O,G⟩ (Gd (u:=Em i51) O O ⟨Gr (G5 O O) O,Gr (G5 O O) O,G⟩ (Gd (u:=Ee y51) O O ⟨Gr (Gs (f:=G6.av) (xs:=l) (y:=y51) O O O Gz hy51 O) O,Gr (Gs (f:=G6.av) (xs:=l) (y:=y51) O O O Gz hy51 O) O,G⟩ (Gd (u:=.dptr ((G6.cs y51).drop 1)) O O ⟨Gr (Ga Hg O O O) O,Gr (Ga Hg O O O) O,G⟩ (Gd (u:=.dptr ((G6.cs y51).drop 1)) O O ⟨Gr (Ga Hk O O O) O,Gr (Ga Hk O O O) O,G⟩ (Gd (u:=G0 y51.Slot.G4) O O ⟨Gr (Gh Gc O O O) O,Gr (Gh Gc O O O) O,G⟩ (Gd (u:=Ef y56) O O ⟨Gr (Gs (f:=G4.av) (xs:=s.Columns) (y:=y56) O O O H7 hy56 hm57) O,Gr (Gs (f:=G4.av) (xs:=s.Columns) (y:=y56) O O O H7 hy56 hm57) O,G⟩ (Gd (u:=.agg (G4.cs y56)) O O ⟨Gr (Gi Yc O O O) O,Gr (Gi Yc O O O) O,G⟩ (D_w (u:=.ptr 1048 0) O O O O (Gr (Ju 1048 12 G5e O O) O) (Q7e (u:=.junk) O O O O (Gr (J0 (u:=.agg (G4.cs y56)) (ds:=(G4.cs y56)) Ga0 O O O O O O O O) O) (Ru ?_))))))))))))
   refine hK55 (Gx [(1,E0 l),(2,E1 lifted),(3,G0 bay),(4,BL deck),(5,U8 kind),(6,Ed s),(13,OW 1047 6 Move.av s6.1),(14,.vec 1049 0 1 ((List.replicate m4 (false:Bool)).length)),(15,G0 s51),(16,Em i51),(17,Ef y56)] [(1047,.spare 69 6 s6.1.length s6.1.length),(1049,.vec 4 1 0 (s6.2.map BL))] 1048 rfl rfl rfl ⟨⟨_,rfl,.same⟩,⟨_,rfl,.vec⟩,G⟩ rfl (by repeat' (first | exact .ptr | constructor)) (Js fun hK58=>?_))
   refine Jr fun hK59=>(JLm (.vec 1049 0 1 ((List.replicate m4 (false:Bool)).length)) O (JLm (Em i51) O ?_))
   obtain⟨y60,hmy60,hy60,h⟩:=G3a h
   refine JLh (.vptr 1049 0 ((i51:Int).toNat) 0) (G2c (f:=BL) (xs:=s6.2) (y:=y60) O O O O Hce hy60 hmy60) O (JLh (BL y60) (Gad (f:=BL) (xs:=s6.2) (y:=y60) R5 O O O hy60 O O) O (JLm (BL y60) O (JLo (Ef y56) [] O .scf G (fun hc=>Ga Rr O O O) O (JLo (G0 y56.Bay) [42] O .scf ⟨Ua,G⟩ (fun hc=>Gh Gc O O O) O (JLo (G0 bay) [] O .scf G (fun hc=>G5 O O) O (JLo (BL (decide (y56.Bay≠bay))) [43,44] O .scf ⟨Ua,Ua,G⟩ (fun hc=>G56 O O O) O (JLh (BL (y60||(decide (y56.Bay≠bay)))) (Y7 O O O O) O (JLm (BL (y60||(decide (y56.Bay≠bay)))) O (JLo (.dptr ((G4.cs y56).drop 2)) [] O .scf G (fun hc=>Ga Yb O O O) O (JLo (BL y56.Deck) [48] O .scf ⟨Ua,G⟩ (fun hc=>Gh R5 O O O) O (JLo (BL deck) [] O .scf G (fun hc=>G5 O O) O (JLo (BL (!(y56.Deck==deck))) [49,50] O .scf ⟨Ua,Ua,G⟩ (fun hc=>Q61 Ge1 O O O) O (JLh (BL ((y60||(decide (y56.Bay≠bay)))||(!(y56.Deck==deck)))) (Y7 O O O O) O ?_)))))))))))))
   refine JLm (BL ((y60||(decide (y56.Bay≠bay)))||(!(y56.Deck==deck)))) O (JLo (E1 lifted) [] O .scf G (fun hc=>G5 O O) O (JLo (E0 l) [] O .scf G (fun hc=>G5 O O) O (JLo (Em i51) [] O .scf G (fun hc=>G5 O O) O (JLo (Ee y51) [55,56] O .scf ⟨Ua,Ua,G⟩ (fun hc=>Gs (f:=G6.av) (xs:=l) (y:=y51) O O O Gz hy51 O) O (JLo (Ee y51) [57] O .scf ⟨Ua,G⟩ (fun hc=>Ga Q7 O O O) O (JLo (G0 y51.H2) [58] O .scf ⟨Ua,G⟩ (fun hc=>Gh Gc O O O) O ?_))))))
   obtain⟨r61,hr61,h⟩:=Gf h
   refine JLo (BL r61) [54,59] O .scf ⟨Ua,Ua,G⟩ (fun hc=>Gq (args:=[E1 lifted,G0 y51.H2]) O (Gc8 lifted y51.H2 r61 (Gv hc hr61)) Q17 ⟨O,O,O,O,G⟩) O (JLo (BL (!r61)) [60] O .scf ⟨Ua,G⟩ (fun hc=>R9 (b:=r61) O O) O (JLh (BL (((y60||(decide (y56.Bay≠bay)))||(!(y56.Deck==deck)))||(!r61))) (Y7 O O O O) O (G8 (hK59 (JCc O h (fun h hb=>?_) (fun h hb=>?_))))))
   ·
    refine Hd (ej54 _ _ s51 h ⟨(by repeat' constructor),⟨⟨_,rfl,.same⟩,⟨_,rfl,.vec⟩,G⟩,rfl⟩)
   ·
    refine Gm (hK58 (Js fun hK62=>G9c (l':=[(1,E0 l),(2,E1 lifted),(3,G0 bay),(4,BL deck),(5,U8 kind),(6,Ed s),(13,OW 1047 6 Move.av s6.1),(14,.vec 1049 0 1 ((List.replicate m4 (false:Bool)).length)),(15,G0 s51),(16,Em i51)]) (L':=[(1047,.spare 69 6 s6.1.length s6.1.length),(1049,.vec 4 1 0 (s6.2.map BL))]) ⟨(by repeat' constructor),⟨⟨_,rfl,.same⟩,⟨_,rfl,.vec⟩,G⟩,rfl⟩ ?_))
    obtain⟨y63,hy63,h⟩:=Gf h
    obtain⟨r64,hr64,h⟩:=Gf h
    refine JC_d0 Jb (by kernel_rfl) (Dq (G0 s51) (G5 O O) O (Dq (BL (decide (s51 < 0))) (Hy O O O) O (Dq (BL (decide (s51 < 0))) (G5 O O) O (Do (E0 l) [] O .scf G (fun hc=>G5 O O) O (Do (Em i51) [] O .scf G (fun hc=>G5 O O) O (Do (Ee y51) [66,67] O .scf ⟨Ua,Ua,G⟩ (fun hc=>Gs (f:=G6.av) (xs:=l) (y:=y51) O O O Gz hy51 O) O (Do (.agg (G6.cs y51)) [68] O .scf ⟨Ua,G⟩ (fun hc=>Gi Qv O O O) O (Do (E0 l) [] O .scf G (fun hc=>G5 O O) O (Do (G0 s51) [] O .scf G (fun hc=>G5 O O) O (Do (Ee y63) [70,71] O .scf ⟨Ua,Ua,G⟩ (fun hc=>(match Jm (Gv hc hy63) with | ⟨_,hm_,hy_⟩=>Gs (f:=G6.av) (xs:=l) (y:=y63) O O O Gz hy_ hm_)) O (Do (.agg (G6.cs y63)) [72] O .scf ⟨Ua,G⟩ (fun hc=>Gi Qv O O O) O (Do (U8 kind) [] O .scf G (fun hc=>G5 O O) O (Do (BL (decide (kind=2))) [74] O .scf ⟨Ua,G⟩ (fun hc=>Jk O O O) O ?_)))))))))))))
    refine Do (BL r64) [69,73,75] O .scf ⟨Ua,Ua,Ua,G⟩ (fun hc=>Gq (args:=[.agg (G6.cs y51),.agg (G6.cs y63),BL (decide (kind=2))]) O (H69 y51 y63 (decide (kind=2)) r64 (Gv hc hr64)) Qe1 ⟨O,O,O,O,O,O,G⟩) O (Dq (BL ((decide (s51 < 0))||r64)) (Y7 O O O O) O (Dnil (hK62 (JCc O h (fun h hb=>?_) (fun h hb=>?_)))))
    ·
     refine G2 (JLm (Em i51) O (JLm (Em i51) O (G8 (ej54 _ _ (i51:Int) h ⟨(by repeat' constructor),⟨⟨_,rfl,.same⟩,⟨_,rfl,.vec⟩,G⟩,rfl⟩))))
    ·
     refine Gm (ej54 _ _ s51 h ⟨(by repeat' constructor),⟨⟨_,rfl,.same⟩,⟨_,rfl,.vec⟩,G⟩,rfl⟩)
  ·intro j54 h
   replace h:=app1 hkj54 h
   refine G2 (JLm (Em i51) O (JLh (G0 ((i51+1:Nat):Int)) (Hx (Hc hk51 hm23) O O O) O (JLm (G0 ((i51+1:Nat):Int)) O (G8 (e51 _ _ (i51+1) j54 (app1 hn51 h) (by omega) ⟨(by repeat' constructor),⟨⟨_,rfl,.same⟩,⟨_,rfl,.vec⟩,G⟩,rfl⟩)))))
 ·
  have h:=app1 hkx51 (Ht hi51 (H9 hb))
  refine Hd (hK8 (Js fun hK65=>Jr fun hK66=>(JLm (G0 s51) O (JLh (BL (decide (s51 < 0))) (Hy O O O) O (G8 (hK66 (JCc O h (fun h hb=>?_) (fun h hb=>?_))))))))
  ·
   refine Jr fun hK67=>(JLm (OW 1047 6 Move.av s6.1) O (JLm (OW 1047 6 Move.av s6.1) O (G8 (hK67 (Gt (fin1l (fun r:(List Move)=>(E2 r:AV)) h))))))
  ·
   refine Gm (hK65 (Jr fun hK68=>(JLm (.vec 1049 0 1 ((List.replicate m4 (false:Bool)).length)) O (JLm (G0 s51) O ?_))))
   obtain⟨y69,hmy69,hy69,h⟩:=G3a h
   refine JLh (.vptr 1049 0 s51.toNat 0) (G2c (f:=BL) (xs:=s6.2) (y:=y69) O O O O Hce hy69 hmy69) O (Ja (u:=.junk) (Hc5 (f:=BL) (xs:=s6.2) (z:=true) Q6c O O O O (List.getElem?_eq_some_iff.1 hy69).1 O O O O) (G8 (hK68 ?_)))
   refine G9c (l':=[(1,E0 l),(2,E1 lifted),(3,G0 bay),(4,BL deck),(5,U8 kind),(6,Ed s),(13,OW 1047 6 Move.av s6.1),(14,.vec 1049 0 1 ((List.replicate m4 (false:Bool)).length)),(15,G0 s51)]) (L':=[(1047,.spare 69 6 s6.1.length s6.1.length),(1049,.vec 4 1 0 ((s6.2.set s51.toNat true).map BL))]) ⟨(by repeat' constructor),⟨⟨_,rfl,.same⟩,⟨_,rfl,.vec⟩,G⟩,rfl⟩ ?_
   obtain⟨m71,y70,hm71,hy70,h⟩:=R1 h
   obtain⟨m73,y72,hm73,hy72,h⟩:=R1 h
   obtain⟨ha74,h⟩:=Hz h
   refine Jt [14] [0,0,0,0,0,0,0,0,0,0,0,0,0,0,0,1] [0,0,0,0,0,0,0,0,0,0,0,0,0,0,0,1] [[(1047,.spare 69 6 s6.1.length s6.1.length),(1049,.vec 4 1 0 ((s6.2.set s51.toNat true).map BL))],((1047,.spare 69 6 (s6.1++[(Move.mk kind y70.H2 y72.Slot 0)]).length (s6.1++[(Move.mk kind y70.H2 y72.Slot 0)]).length)::[(1047,.spare 69 6 s6.1.length s6.1.length),(1049,.vec 4 1 0 ((s6.2.set s51.toNat true).map BL))])] Jb (by kernel_rfl) rfl rfl ?_
   refine Gd (u:=OW 1047 6 Move.av s6.1) O O ⟨Gr (G5 O O) O,G⟩ (Gd (u:=U8 kind) O O ⟨Gr (G5 O O) O,G⟩ (Gd (u:=E0 l) O O ⟨Gr (G5 O O) O,G⟩ (Gd (u:=G0 s51) O O ⟨Gr (G5 O O) O,G⟩ (Gd (u:=Ee y70) O O ⟨Gr (Gs (f:=G6.av) (xs:=l) (y:=y70) O O O Gz hy70 hm71) O,G⟩ (Gd (u:=Ee y70) O O ⟨Gr (Ga Q7 O O O) O,G⟩ (Gd (u:=G0 y70.H2) O O ⟨Gr (Gh Gc O O O) O,G⟩ (Gd (u:=E0 l) O O ⟨Gr (G5 O O) O,G⟩ (Gd (u:=G0 s51) O O ⟨Gr (G5 O O) O,G⟩ (Gd (u:=Ee y72) O O ⟨Gr (Gs (f:=G6.av) (xs:=l) (y:=y72) O O O Gz hy72 hm73) O,G⟩ (Gd (u:=.dptr ((G6.cs y72).drop 1)) O O ⟨Gr (Ga Hg O O O) O,G⟩ (Gd (u:=.agg ((G6.cs y72).drop 1)) O O ⟨Gr (Gi Jg O O O) O,G⟩ (Gd (u:=.agg [U8 kind,G0 y70.H2,G0 y72.Slot.G4,G0 y72.Slot.Tier,U8 y72.Slot.Half,G0 0]) O O ⟨Gr (Ji (cs:=[U8 kind,G0 y70.H2,G0 y72.Slot.G4,G0 y72.Slot.Tier,U8 y72.Slot.Half,G0 0]) [(0,1),(1,1),(2,3),(5,1)] [U8 0,G0 0,G0 0,G0 0,U8 0,G0 0] [.int .u8 0,.int .i64 0,.int .i64 0,.int .i64 0,.int .u8 0,.int .i64 0] G25 G4f ⟨.inl O,.inl O,.inl O,.inl O,.inl O,.inl O,G⟩ O O) O,G⟩ (Gd (u:=E2 [(Move.mk kind y70.H2 y72.Slot 0)]) O O ⟨Gr (Hv (xs:=[.agg [U8 kind,G0 y70.H2,G0 y72.Slot.G4,G0 y72.Slot.Tier,U8 y72.Slot.Half,G0 0]]) O ⟨O,O,G⟩ Hr G7a O O O O) O,G⟩ ?_)))))))))))))
   refine D_w (u:=OW 1047 6 Move.av (s6.1++[(Move.mk kind y70.H2 y72.Slot 0)])) O O O O (Gr (Y0 (f:=Move.av) (xs:=s6.1) (ys:=[(Move.mk kind y70.H2 y72.Slot 0)]) O O O O Hr G22 ha74 (fun _=>O) (.inl O) O) O) (Gd (u:=OW 1047 6 Move.av (s6.1++[(Move.mk kind y70.H2 y72.Slot 0)])) O O ⟨Gr (G9 O O) O,G⟩ (Ru (e6 _ _ m6 ((s6.1++[(Move.mk kind y70.H2 y72.Slot 0)]),(s6.2.set s51.toNat true)) (app1 hn6 h) (by omega) ⟨(by repeat' constructor),⟨⟨_,rfl,.same⟩,⟨_,rfl,.vec⟩,G⟩,rfl⟩)))

def Z9 (s:H8) (l:List G6) (lifted:List Int) (cover:Int):Option Bool:=
 each (fun y29 i29 (s29:Unit) nx29=>
  bnd (Y2 lifted y29.H2) fun r35=>
  bnd (bif r35 then Jc s.Columns y29.Slot.G4 some else some default) fun y36=>
  bnd (bif (r35&&(!y36.Deck)) then Qu s y29.Slot.G4 else some default) fun r37=>
  bif ((r35&&(!y36.Deck))&&(decide (r37=cover))) then
  (some true)
  else
  (nx29 ()))
 (fun(s29:Unit)=>
  some false) l 0 ()
theorem Ge5 (s:H8) (l:List G6) (lifted:List Int) (cover:Int) (r:Bool) (h:Z9 s l lifted cover=some r):Pure En 66 [.agg (H8.cs s),E0 l,E1 lifted,G0 cover] (·=BL r):=by
 unfold Z9 at h
 refine H0 [.tmp 8] Tryz.func66 O O (Jr fun hK1=>(JLh (.ptr 1106 0) (Jq (cs:=(H8.cs s)) 1106 O O O O O) O (JLm (BL false) O (G8 (hK1 (Gx [(1,E0 l),(2,E1 lifted),(3,G0 cover),(4,Ed s)] [] 1106 rfl rfl rfl G rfl (by repeat' (first | exact .ptr | constructor)) (Js fun hK2=>?_)))))))
 refine Jr fun hK3=>(JLm (G0 0) O (G8 (hK3 (Gk ?_))))
 obtain⟨b29,kx29,hb29,hkx29,h⟩:=J4 h
 refine H6 (fun i29 (s29:Unit)=>each b29 kx29 (List.drop i29 l) i29 s29=some r) (fun i29 s29=>[(1,E0 l),(2,E1 lifted),(3,G0 cover),(4,Ed s),(9,Em i29)]) (fun i29 s29=>[]) (fun i29=>l.length - i29) 0 () h ⟨(by repeat' constructor),G,rfl⟩ ?_
 clear h
 intro i29 s29 hi29 K29 e29
 refine Js fun hK30=>Jr fun hK31=>(JLm (Em i29) O (JLm (E0 l) O (JLl Gz O O O fun hm13=>(JLh (BL (decide ((i29:Int) < (l.length:Int)))) (Hy O O O) O (G8 (hK31 (Gj O (fun hb=>?_) (fun hb=>?_))))))))
 ·
  have hk29:=Je hb
  obtain⟨y29,nx29,hy29,hn29,h⟩:=Hs hi29 hk29
  replace h:=Y8 hb29 h
  refine Gm (hK30 (Js fun hK32=>Gk (Jr fun hK33=>(JLm (E0 l) O (JLm (Em i29) O (JLh (Ee y29) (Gs (f:=G6.av) (xs:=l) (y:=y29) O O O Gz hy29 O) O (JLh (.dptr ((G6.cs y29).drop 1)) (Ga Hg O O O) O (JLh (.dptr ((G6.cs y29).drop 1)) (Ga Hk O O O) O (JLh (G0 y29.Slot.G4) (Gh Gc O O O) O (JLm (G0 y29.Slot.G4) O (G8 (hK33 (Jr fun hK34=>(JLm (E1 lifted) O (JLm (E0 l) O (JLm (Em i29) O (JLh (Ee y29) (Gs (f:=G6.av) (xs:=l) (y:=y29) O O O Gz hy29 O) O (JLh (Ee y29) (Ga Q7 O O O) O (JLh (G0 y29.H2) (Gh Gc O O O) O ?_)))))))))))))))))))
  obtain⟨r35,hr35,h⟩:=Gf h
  refine JLh (BL r35) (Gq O (Gc8 lifted y29.H2 r35 hr35) Q17 ⟨O,O,O,O,G⟩) O (JLm (BL r35) O (JLo (Ed s) [] O .sct G (fun hc=>Ga Hi O O O) O (JLo (E5 s.Columns) [31] O .sct ⟨Ua,G⟩ (fun hc=>Gh Ho O O O) O (JLo (G0 y29.Slot.G4) [] O .sct G (fun hc=>G5 O O) O ?_))))
  obtain⟨y36,hy36,h⟩:=Gf h
  refine JLo (Ef y36) [32,33] O .sct ⟨Ua,Ua,G⟩ (fun hc=>(match Jm (Gv hc hy36) with | ⟨_,hm_,hy_⟩=>Gs (f:=G4.av) (xs:=s.Columns) (y:=y36) O O O H7 hy_ hm_)) O (JLo (.dptr ((G4.cs y36).drop 2)) [34] O .sct ⟨Ua,G⟩ (fun hc=>Ga Yb O O O) O (JLo (BL y36.Deck) [35] O .sct ⟨Ua,G⟩ (fun hc=>Gh R5 O O O) O (JLo (BL (!y36.Deck)) [36] O .sct ⟨Ua,G⟩ (fun hc=>R9 (b:=y36.Deck) O O) O (JLh (BL (r35&&(!y36.Deck))) (J3 O O O O) O (JLm (BL (r35&&(!y36.Deck))) O (JLo (.agg (H8.cs s)) [] O .sct G (fun hc=>Gi J1 O O O) O (JLo (G0 y29.Slot.G4) [] O .sct G (fun hc=>G5 O O) O ?_)))))))
  obtain⟨r37,hr37,h⟩:=Gf h
  refine JLo (G0 r37) [40,41] O .sct ⟨Ua,Ua,G⟩ (fun hc=>Gq (args:=[.agg (H8.cs s),G0 y29.Slot.G4]) O (G51 s y29.Slot.G4 r37 (Gv hc hr37)) J08 ⟨O,O,O,O,G⟩) O (JLo (G0 cover) [] O .sct G (fun hc=>G5 O O) O (JLo (BL (decide (r37=cover))) [42,43] O .sct ⟨Ua,Ua,G⟩ (fun hc=>Jk O O O) O (JLh (BL ((r35&&(!y36.Deck))&&(decide (r37=cover)))) (J3 O O O O) O (G8 (hK34 (JCc O h (fun h hb=>?_) (fun h hb=>?_)))))))
  ·
   refine Jr fun hK38=>(JLm (BL true) O (G8 (hK38 (Gt (fin1 BL h)))))
  ·
   refine Gm (hK32 (G2 (JLm (Em i29) O (JLh (G0 ((i29+1:Nat):Int)) (Hx (Hc hk29 hm13) O O O) O (JLm (G0 ((i29+1:Nat):Int)) O (G8 (e29 _ _ (i29+1) () (app1 hn29 h) (by omega) ⟨(by repeat' constructor),G,rfl⟩)))))))
 ·
  have h:=app1 hkx29 (Ht hi29 (H9 hb))
  refine Hd (hK2 (Jr fun hK39=>(JLm (BL false) O (G8 (hK39 (Gt (fin1 BL h)))))))

def Qh (s:H8) (before:List G6) (after:List G6) (lifted:List Int) (bay:Int) (kind:Int):Option (List Move):=
 each (fun y22 i22 (s22:(List Move)) nx22=>
  jp (fun kj25=>
   bnd (bif decide (y22.Bay=bay) then Z9 s before lifted (i22:Int) else some default) fun r27=>
   bnd (bif ((decide (y22.Bay=bay))&&!r27) then Z9 s after lifted (i22:Int) else some default) fun r28=>
   bif ((decide (y22.Bay=bay))&&(r27||r28)) then
   (need (decide ((s22.length+[(Move.mk kind 0 (Slot.mk 0 0 0) (i22:Int))].length)*48≤140737488355328∧s22.length+[(Move.mk kind 0 (Slot.mk 0 0 0) (i22:Int))].length≤maxLen)) <|
    kj25 (s22++[(Move.mk kind 0 (Slot.mk 0 0 0) (i22:Int))]))
   else
   (kj25 s22)) fun(j25:(List Move))=>
  nx22 j25)
 (fun(s22:(List Move))=>
  some s22) s.Covers 0 []
theorem Gba (s:H8) (before:List G6) (after:List G6) (lifted:List Int) (bay:Int) (kind:Int) (r:(List Move)) (h:Qh s before after lifted bay kind=some r):Pure En 31 [.agg (H8.cs s),E0 before,E0 after,E1 lifted,G0 bay,U8 kind] (·=E2 r):=by
 unfold Qh at h
 refine H0 [.tmp 12] Tryz.func31 O O (Jr fun hK1=>(JLh (.ptr 1050 0) (Jq (cs:=(H8.cs s)) 1050 O O O O O) O (JLh (E2 ([]:List Move)) (Q2 6 O O) O (G8 (hK1 ?_)))))
 refine Gx [(1,E0 before),(2,E0 after),(3,E1 lifted),(4,G0 bay),(5,U8 kind),(6,Ed s)] [] 1050 rfl rfl rfl G rfl (by repeat' (first | exact .ptr | constructor)) (Jr fun hK2=>(JLh (OW 1051 6 Move.av ([]:List Move)) (H02 1051 69 6 O O O) O (G8 (hK2 (Js fun hK3=>Jr fun hK4=>(JLm (G0 0) O (G8 (hK4 (Gk ?_)))))))))
 obtain⟨b22,kx22,hb22,hkx22,h⟩:=J4 h
 refine H6 (fun i22 (s22:(List Move))=>each b22 kx22 (List.drop i22 s.Covers) i22 s22=some r) (fun i22 s22=>[(1,E0 before),(2,E0 after),(3,E1 lifted),(4,G0 bay),(5,U8 kind),(6,Ed s),(13,OW 1051 6 Move.av s22),(14,Em i22)]) (fun i22 s22=>[(1051,.spare 69 6 s22.length s22.length)]) (fun i22=>s.Covers.length - i22) 0 [] h ⟨(by repeat' constructor),⟨⟨_,rfl,.same⟩,G⟩,rfl⟩ ?_
 clear h
 intro i22 s22 hi22 K22 e22
 refine Js fun hK23=>Jr fun hK24=>(JLm (Em i22) O (JLh (.dptr [E4 s.Covers,G0 s.Light.Kilos,G0 s.Light.X,G0 s.Light.Y,G0 s.Light.Z,E7 s.Rows,E6 s.Frames,E8 s.Tanks,G0 s.G3.Tolerance,G0 s.G3.Trim,G0 s.G3.List_,G0 s.G3.Stability]) (Ga Jp O O O) O (JLh (E4 s.Covers) (Gh Q4 O O O) O (JLl Hu O O O fun hm18=>(JLh (BL (decide ((i22:Int) < (s.Covers.length:Int)))) (Hy O O O) O (G8 (hK24 (Gj O (fun hb=>?_) (fun hb=>?_)))))))))
 ·
  have hk22:=Je hb
  obtain⟨y22,nx22,hy22,hn22,h⟩:=Hs hi22 hk22
  replace h:=Y8 hb22 h
  refine Gm (hK23 ?_)
  obtain⟨kj25,hkj25,h⟩:=Zf h
  refine Rt (fun j25:(List Move)=>kj25 j25=some r) (fun j25=>[(1,E0 before),(2,E0 after),(3,E1 lifted),(4,G0 bay),(5,U8 kind),(6,Ed s),(13,OW 1051 6 Move.av j25),(14,Em i22)]) (fun j25=>[(1051,.spare 69 6 j25.length j25.length)]) (fun Kj25 ej25=>?_) ?_
  ·
   refine Gk ?_
   refine Jr fun hK26=>(JLh (.dptr [E4 s.Covers,G0 s.Light.Kilos,G0 s.Light.X,G0 s.Light.Y,G0 s.Light.Z,E7 s.Rows,E6 s.Frames,E8 s.Tanks,G0 s.G3.Tolerance,G0 s.G3.Trim,G0 s.G3.List_,G0 s.G3.Stability]) (Ga Jp O O O) O (JLh (E4 s.Covers) (Gh Q4 O O O) O (JLm (Em i22) O (JLh (.dptr [G0 y22.Bay,E1 y22.Rows]) (Gs (f:=Ge.av) (xs:=s.Covers) (y:=y22) O O O Hu hy22 O) O (JLh (.dptr [G0 y22.Bay,E1 y22.Rows]) (Ga Ya O O O) O (JLh (G0 y22.Bay) (Gh Gc O O O) O (JLm (G0 bay) O (JLh (BL (decide (y22.Bay=bay))) (Jk O O O) O (JLm (BL (decide (y22.Bay=bay))) O (JLo (.agg (H8.cs s)) [] O .sct G (fun hc=>Gi J1 O O O) O (JLo (E0 before) [] O .sct G (fun hc=>G5 O O) O (JLo (E1 lifted) [] O .sct G (fun hc=>G5 O O) O (JLo (Em i22) [] O .sct G (fun hc=>G5 O O) O ?_)))))))))))))
   obtain⟨r27,hr27,h⟩:=Gf h
   refine JLo (BL r27) [31,32,33,34] O .sct ⟨Ua,Ua,Ua,Ua,G⟩ (fun hc=>Gq (args:=[.agg (H8.cs s),E0 before,E1 lifted,Em i22]) O (Ge5 s before lifted (i22:Int) r27 (Gv hc hr27)) Q16 ⟨O,O,O,O,O,O,O,O,G⟩) O (JLo (BL r27) [35] O .sct ⟨Ua,G⟩ (fun hc=>G5 O O) O (JLo (.agg (H8.cs s)) [] O .optf G (fun hc=>Gi J1 O O O) O (JLo (E0 after) [] O .optf G (fun hc=>G5 O O) O (JLo (E1 lifted) [] O .optf G (fun hc=>G5 O O) O (JLo (Em i22) [] O .optf G (fun hc=>G5 O O) O ?_)))))
   obtain⟨r28,hr28,h⟩:=Gf h
   refine JLo (BL r28) [37,38,39,40] O .optf ⟨Ua,Ua,Ua,Ua,G⟩ (fun hc=>Gq (args:=[.agg (H8.cs s),E0 after,E1 lifted,Em i22]) O (Ge5 s after lifted (i22:Int) r28 (Gv hc hr28)) Q16 ⟨O,O,O,O,O,O,O,O,G⟩) O (Gb (u:=BL (r27||r28)) [(36,BL r27),(41,_)] O O O .sct ⟨.all id,.part,G⟩ (fun hc=>Y7 O O O O) ?_)
   refine JLh (BL ((decide (y22.Bay=bay))&&(r27||r28))) (J3 O O O O) O (G8 (hK26 (JCc O h (fun h hb=>?_) (fun h hb=>?_))))
   ·
    refine G2 (JLm (OW 1051 6 Move.av s22) O (JLm (U8 kind) O (JLm (Em i22) O (JLh (.agg [U8 kind,G0 0,G0 0,G0 0,U8 0,Em i22]) (Ji (cs:=[U8 kind,G0 0,G0 0,G0 0,U8 0,Em i22]) [(0,1),(1,1),(2,3),(5,1)] [U8 0,G0 0,G0 0,G0 0,U8 0,G0 0] [.int .u8 0,.int .i64 0,.int .i64 0,.int .i64 0,.int .u8 0,.int .i64 0] G25 G4f ⟨.inl O,.inl O,.inl O,.inl O,.inl O,.inl O,G⟩ O O) O (JLh (E2 [(Move.mk kind 0 (Slot.mk 0 0 0) (i22:Int))]) (Hv (xs:=[.agg [U8 kind,G0 0,G0 0,G0 0,U8 0,Em i22]]) O ⟨O,O,G⟩ Hr G7a O O O O) O ?_)))))
    obtain⟨ha29,h⟩:=Hz h
    refine JLh (OW 1051 6 Move.av (s22++[(Move.mk kind 0 (Slot.mk 0 0 0) (i22:Int))])) (Y0 (f:=Move.av) (xs:=s22) (ys:=[(Move.mk kind 0 (Slot.mk 0 0 0) (i22:Int))]) O O O O Hr G22 ha29 (fun _=>O) (.inl O) O) O (JLm (OW 1051 6 Move.av (s22++[(Move.mk kind 0 (Slot.mk 0 0 0) (i22:Int))])) O (G8 (ej25 _ _ (s22++[(Move.mk kind 0 (Slot.mk 0 0 0) (i22:Int))]) h ⟨(by repeat' constructor),⟨⟨_,rfl,.same⟩,G⟩,rfl⟩)))
   ·
    refine Gm (ej25 _ _ s22 h ⟨(by repeat' constructor),⟨⟨_,rfl,.same⟩,G⟩,rfl⟩)
  ·intro j25 h
   replace h:=app1 hkj25 h
   refine G2 (JLm (Em i22) O (JLh (G0 ((i22+1:Nat):Int)) (Hx (Hc hk22 hm18) O O O) O (JLm (G0 ((i22+1:Nat):Int)) O (G8 (e22 _ _ (i22+1) j25 (app1 hn22 h) (by omega) ⟨(by repeat' constructor),⟨⟨_,rfl,.same⟩,G⟩,rfl⟩)))))
 ·
  have h:=app1 hkx22 (Ht hi22 (H9 hb))
  refine Hd (hK3 (Jr fun hK30=>(JLm (OW 1051 6 Move.av s22) O (JLm (OW 1051 6 Move.av s22) O (G8 (hK30 (Gt (fin1l (fun r:(List Move)=>(E2 r:AV)) h))))))))
end
end Go.Proofs.YteogacmpgdpjlaaGreat
