/-
 Models of functions of the program,and that they return what the models say.
-/
import Derived.Test.YteogacmpgdpjlaaGreatXSa
set_option maxRecDepth 100000
namespace Go.Proofs.YteogacmpgdpjlaaGreat
open Go.RowKit
noncomputable section
open XAF
open XLF
open XSF

def G64 (s:H8) (boxes:List H2) (l:List G6):Option Bool:=
 bnd (G29 s) fun r4=>
 bif (!r4) then
 (some false)
 else
 (bnd (Gfa l) fun r7=>
  each (fun y10 i10 (s10:Unit) nx10=>
   bnd (Ge9 boxes y10.H2) fun r16=>
   bnd (bif ((!(!r16.2))&&(decide (0 < (i10:Int)))) then Yn ((i10:Int) - 1) some else some 0) fun v19=>
   bnd (bif ((!(!r16.2))&&(decide (0 < (i10:Int)))) then Jc l v19 some else some default) fun y20=>
   bnd (bif (!((!r16.2)||((decide (0 < (i10:Int)))&&(decide (y10.H2≤y20.H2))))) then Gfb s y10.Slot r16.1.Size else some default) fun r21=>
   bnd (bif (!(((!r16.2)||((decide (0 < (i10:Int)))&&(decide (y10.H2≤y20.H2))))||(!r21))) then H2b y10.Slot r7 else some default) fun r22=>
   bif ((((!r16.2)||((decide (0 < (i10:Int)))&&(decide (y10.H2≤y20.H2))))||(!r21))||(!r22)) then
   (some false)
   else
   (bnd (G61 (i10:Int) r7.length) fun m25=>
    each (fun y42 i42 (s42:Unit) nx42=>
     bnd (H2a y10.Slot y42) fun r48=>
     bif r48 then
     (some false)
     else
     (nx42 ()))
    (fun(s42:Unit)=>
     nx10 ()) (r7.take m25) 0 ()))
  (fun(s10:Unit)=>
   each (fun y64 i64 (s64:Unit) nx64=>
    bnd (H28 s boxes l (i64:Int)) fun r70=>
    bif (!r70) then
    (some false)
    else
    (nx64 ()))
   (fun(s64:Unit)=>
    some true) s.Columns 0 ()) l 0 ())
theorem J21 (s:H8) (boxes:List H2) (l:List G6) (r:Bool) (h:G64 s boxes l=some r):Pure En 52 [.agg (H8.cs s),E3 boxes,E0 l] (·=BL r):=by
 unfold G64 at h
 refine H0 [.tmp 6] Tryz.func52 O O (Jr fun hK1=>(JLh (.ptr 1077 0) (Jq (cs:=(H8.cs s)) 1077 O O O O O) O (JLm (BL false) O (G8 (hK1 (Gx [(1,E3 boxes),(2,E0 l),(3,Ed s)] [] 1077 rfl rfl rfl G rfl (by exact⟨.conv (.same rfl),.conv (.same rfl),.ptr,G⟩) (Js fun hK2=>?_)))))))
 refine Jr fun hK3=>(JLh (.agg (H8.cs s)) (Gi J1 O O O) O ?_)
 obtain⟨r4,hr4,h⟩:=Gf h
 refine JLh (BL r4) (Gq O (J1e.down s r4 hr4) Q23 ⟨O,O,G⟩) O (JLh (BL (!r4)) (R9 (b:=r4) O O) O (G8 (hK3 (JCc O h (fun h hb=>?_) (fun h hb=>?_)))))
 ·
  refine Jr fun hK5=>(JLm (BL false) O (G8 (hK5 (Gt (fin1 BL h)))))
 ·
  refine Gm (hK2 (Jr fun hK6=>(JLm (E0 l) O ?_)))
  obtain⟨r7,hr7,h⟩:=Gf h
  refine JLh (E9 r7) (Gq O (Q52 l r7 hr7) Qd7 ⟨O,O,G⟩) O (JLm (E9 r7) O (G8 (hK6 (Js fun hK8=>Jr fun hK9=>(JLm (E0 l) O (JLl Gz O O O fun hm21=>(JLm (G0 0) O (G8 (hK9 (Gk ?_))))))))))
  obtain⟨b10,kx10,hb10,hkx10,h⟩:=J4 h
  refine H6 (fun i10 (s10:Unit)=>each b10 kx10 (List.drop i10 l) i10 s10=some r) (fun i10 s10=>[(1,E3 boxes),(2,E0 l),(3,Ed s),(7,E9 r7),(20,E0 l),(21,Em l.length),(22,Em i10)]) (fun i10 s10=>[]) (fun i10=>l.length - i10) 0 () h ⟨(by repeat' constructor),G,rfl⟩ ?_
  clear h
  intro i10 s10 hi10 K10 e10
  refine Jr fun hK11=>(JLh (BL (decide ((i10:Int) < (l.length:Int)))) (Hy O O O) O (G8 (hK11 (Js fun hK12=>Gj O (fun hb=>?_) (fun hb=>?_)))))
  ·
   have hk10:=Je hb
   obtain⟨y10,nx10,hy10,hn10,h⟩:=Hs hi10 hk10
   replace h:=Y8 hb10 h
   refine Gm (hK12 (Js fun hK13=>Gk (Jr fun hK14=>(JLm (Em i10) O (JLh (Ee y10) (Gs (f:=G6.av) (xs:=l) (y:=y10) O O O Gz hy10 O) O (JLh (.agg (G6.cs y10)) (Gi Qv O O O) O (JLh (.ptr 1078 0) (Ju 1078 4 Rv O O) O (JLm (Em i10) O (Ja (u:=.junk) (J0 (u:=.agg (G6.cs y10)) (ds:=[G0 y10.H2,G0 y10.Slot.G4,G0 y10.Slot.Tier,U8 y10.Slot.Half]) Z4 O O O O O O O O) (G8 (hK14 ?_)))))))))))
   refine Gx [(1,E3 boxes),(2,E0 l),(3,Ed s),(7,E9 r7),(8,Em i10),(9,Ee y10),(20,E0 l),(21,Em l.length),(22,Em i10)] [] 1078 rfl rfl rfl G rfl (by repeat' (first | exact .ptr | constructor)) (Jr fun hK15=>(JLm (E3 boxes) O (JLh (Ee y10) (Ga Q7 O O O) O (JLh (G0 y10.H2) (Gh Gc O O O) O ?_))))
   obtain⟨r16,hr16,h⟩:=Gf h
   refine JLh (.tup [.agg (H2.cs r16.1),BL r16.2]) (Gq O (J4c boxes y10.H2 r16 hr16) Q12 ⟨O,O,O,O,G⟩) O (JLm (.tup [.agg (H2.cs r16.1),BL r16.2]) O (JLh (.agg (H2.cs r16.1)) (Jn O O O) O (JLh (BL r16.2) (Jn O O O) O (JLh (.ptr 1079 0) (Ju 1079 9 Gdf O O) O (Ja (u:=.junk) (J0 (u:=.agg (H2.cs r16.1)) (ds:=(H2.cs r16.1)) G7c O O O O O O O O) (JLm (BL r16.2) O (G8 (hK15 ?_))))))))
   refine Gx [(1,E3 boxes),(2,E0 l),(3,Ed s),(7,E9 r7),(8,Em i10),(9,Ee y10),(10,Eh r16.1),(11,BL r16.2),(20,E0 l),(21,Em l.length),(22,Em i10)] [] 1079 rfl rfl rfl G rfl (by repeat' (first | exact .ptr | constructor)) (Js fun hK17=>Js fun hK18=>?_)
   obtain⟨v19,hv19,h⟩:=Gf h
   obtain⟨y20,hy20,h⟩:=Gf h
   obtain⟨r21,hr21,h⟩:=Gf h
   obtain⟨r22,hr22,h⟩:=Gf h
   refine JC_d0 Jb (by kernel_rfl) (Dq (BL r16.2) (G5 O O) O (Dq (BL (!r16.2)) (R9 (b:=r16.2) O O) O (Dq (BL (!r16.2)) (G5 O O) O (Do (Em i10) [] O .scf G (fun hc=>G5 O O) O (Do (BL (decide (0 < (i10:Int)))) [37] O .scf ⟨Ua,G⟩ (fun hc=>G4d O O O) O (Do (BL (decide (0 < (i10:Int)))) [38] O .scf ⟨Ua,G⟩ (fun hc=>G5 O O) O (Do (Ee y10) [] O .optt G (fun hc=>Ga Q7 O O O) O (Do (G0 y10.H2) [40] O .optt ⟨Ua,G⟩ (fun hc=>Gh Gc O O O) O (Do (E0 l) [] O .optt G (fun hc=>G5 O O) O (Do (Em i10) [] O .optt G (fun hc=>G5 O O) O (Do (G0 v19) [43] O .optt ⟨Ua,G⟩ (fun hc=>G6d (G1c (Gv hc hv19)) O O O) O (Do (Ee y20) [42,44] O .optt ⟨Ua,Ua,G⟩ (fun hc=>(match Jm (Gv hc hy20) with | ⟨_,hm_,hy_⟩=>Gs (f:=G6.av) (xs:=l) (y:=y20) O O O Gz hy_ hm_)) O (Do (Ee y20) [45] O .optt ⟨Ua,G⟩ (fun hc=>Ga Q7 O O O) O ?_)))))))))))))
   refine Do (G0 y20.H2) [46] O .optt ⟨Ua,G⟩ (fun hc=>Gh Gc O O O) O (Do (BL (decide (y10.H2≤y20.H2))) [41,47] O .optt ⟨Ua,Ua,G⟩ (fun hc=>H97 O O O) O (Dg (.opt (!(!r16.2)) (BL ((decide (0 < (i10:Int)))&&(decide (y10.H2≤y20.H2))))) (Gg [(39,BL (decide (0 < (i10:Int)))),(48,_)] O O O .scf ⟨.all id,.part,G⟩ (fun hc=>J3 O O O O) O) O (Dq (BL ((!r16.2)||((decide (0 < (i10:Int)))&&(decide (y10.H2≤y20.H2))))) (Y7 O O O O) O (Dq (BL ((!r16.2)||((decide (0 < (i10:Int)))&&(decide (y10.H2≤y20.H2))))) (G5 O O) O (Do (.agg (H8.cs s)) [] O .scf G (fun hc=>Gi J1 O O O) O (Do (.dptr ((G6.cs y10).drop 1)) [] O .scf G (fun hc=>Ga Hg O O O) O (Do (.agg ((G6.cs y10).drop 1)) [53] O .scf ⟨Ua,G⟩ (fun hc=>Gi Jg O O O) O (Do (.dptr ((H2.cs r16.1).drop 2)) [] O .scf G (fun hc=>Ga J46 O O O) O (Do (U8 r16.1.Size) [55] O .scf ⟨Ua,G⟩ (fun hc=>Gh J5 O O O) O (Do (BL r21) [52,54,56] O .scf ⟨Ua,Ua,Ua,G⟩ (fun hc=>Gq (args:=[.agg (H8.cs s),.agg ((G6.cs y10).drop 1),U8 r16.1.Size]) O (Q53 s y10.Slot r16.1.Size r21 (Gv hc hr21)) Qd6 ⟨O,O,O,O,O,O,G⟩) O (Do (BL (!r21)) [57] O .scf ⟨Ua,G⟩ (fun hc=>R9 (b:=r21) O O) O (Dq (BL (((!r16.2)||((decide (0 < (i10:Int)))&&(decide (y10.H2≤y20.H2))))||(!r21))) (Y7 O O O O) O (Dq (BL (((!r16.2)||((decide (0 < (i10:Int)))&&(decide (y10.H2≤y20.H2))))||(!r21))) (G5 O O) O ?_)))))))))))))
   refine Do (.dptr ((G6.cs y10).drop 1)) [] O .scf G (fun hc=>Ga Hg O O O) O (Do (.agg ((G6.cs y10).drop 1)) [61] O .scf ⟨Ua,G⟩ (fun hc=>Gi Jg O O O) O (Do (E9 r7) [] O .scf G (fun hc=>G5 O O) O (Do (BL r22) [62,63] O .scf ⟨Ua,Ua,G⟩ (fun hc=>Gq (args:=[.agg ((G6.cs y10).drop 1),E9 r7]) O (M_slot_Held_w y10.Slot r7 r22 (Gv hc hr22)) Qd5 ⟨O,O,O,O,G⟩) O (Do (BL (!r22)) [64] O .scf ⟨Ua,G⟩ (fun hc=>R9 (b:=r22) O O) O (Dq (BL ((((!r16.2)||((decide (0 < (i10:Int)))&&(decide (y10.H2≤y20.H2))))||(!r21))||(!r22))) (Y7 O O O O) O (Dnil (hK18 (JCc O h (fun h hb=>?_) (fun h hb=>?_)))))))))
   ·
    refine Jr fun hK23=>(JLm (BL false) O (G8 (hK23 (Gt (fin1 BL h)))))
   ·
    refine Gm (hK17 (Jr fun hK24=>(JLm (E9 r7) O (JLm (Em i10) O ?_))))
    obtain⟨m25,hm25,h⟩:=Gf h
    refine JLh (E9 (r7.take m25)) (A_sliceHiM (f:=Slot.av) (xs:=r7) O O O Yu (Yv hm25)) O (JLl Yu O O O fun hm70=>(JLm (G0 0) O (G8 (hK24 (Gk ?_)))))
    obtain⟨b42,kx42,hb42,hkx42,h⟩:=J4 h
    refine H6 (fun i42 (s42:Unit)=>each b42 kx42 (List.drop i42 (r7.take m25)) i42 s42=some r) (fun i42 s42=>[(1,E3 boxes),(2,E0 l),(3,Ed s),(7,E9 r7),(9,Ee y10),(20,E0 l),(21,Em l.length),(22,Em i10),(69,E9 (r7.take m25)),(70,G0 ((r7.take m25).length:Int)),(71,Em i42)]) (fun i42 s42=>[]) (fun i42=>(r7.take m25).length - i42) 0 () h ⟨(by repeat' constructor),G,rfl⟩ ?_
    clear h
    intro i42 s42 hi42 K42 e42
    refine Jr fun hK43=>(JLh (BL (decide ((i42:Int) < ((r7.take m25).length:Int)))) (Hy O O O) O (G8 (hK43 (Js fun hK44=>Gj O (fun hb=>?_) (fun hb=>?_)))))
    ·
     have hk42:=Je hb
     obtain⟨y42,nx42,hy42,hn42,h⟩:=Hs hi42 hk42
     replace h:=Y8 hb42 h
     refine Gm (hK44 (Js fun hK45=>Gk (Jr fun hK46=>(JLh (Ei y42) (Gs (f:=Slot.av) (xs:=(r7.take m25)) (y:=y42) O O O Yu hy42 O) O (JLh (.agg (Slot.cs y42)) (Gi Jg O O O) O (JLh (.ptr 1080 0) (Ju 1080 3 Gde O O) O (Ja (u:=.junk) (J0 (u:=.agg (Slot.cs y42)) (ds:=[G0 y42.G4,G0 y42.Tier,U8 y42.Half]) H09 O O O O O O O O) (G8 (hK46 ?_)))))))))
     refine Gx [(1,E3 boxes),(2,E0 l),(3,Ed s),(7,E9 r7),(9,Ee y10),(13,Ei y42),(20,E0 l),(21,Em l.length),(22,Em i10),(69,E9 (r7.take m25)),(70,G0 ((r7.take m25).length:Int)),(71,Em i42)] [] 1080 rfl rfl rfl G rfl (by repeat' (first | exact .ptr | constructor)) ?_
     refine Jr fun hK47=>(JLh (.dptr ((G6.cs y10).drop 1)) (Ga Hg O O O) O (JLh (.agg ((G6.cs y10).drop 1)) (Gi Jg O O O) O (JLh (.agg (Slot.cs y42)) (Gi Jg O O O) O ?_)))
     obtain⟨r48,hr48,h⟩:=Gf h
     refine JLh (BL r48) (Gq O (M_slot_Meet_w y10.Slot y42 r48 hr48) Qd4 ⟨O,O,O,O,G⟩) O (G8 (hK47 (JCc O h (fun h hb=>?_) (fun h hb=>?_))))
     ·
      refine Jr fun hK49=>(JLm (BL false) O (G8 (hK49 (Gt (fin1 BL h)))))
     ·
      refine Gm (hK45 (G2 (JLh (G0 ((i42+1:Nat):Int)) (Hx (Hc hk42 hm70) O O O) O (JLm (G0 ((i42+1:Nat):Int)) O (G8 (e42 _ _ (i42+1) () (app1 hn42 h) (by omega) ⟨(by repeat' constructor),G,rfl⟩))))))
    ·
     have h:=app1 hkx42 (Ht hi42 (H9 hb))
     refine Hd (hK13 (G2 (JLh (G0 ((i10+1:Nat):Int)) (Hx (Hc hk10 hm21) O O O) O (JLm (G0 ((i10+1:Nat):Int)) O (G8 (e10 _ _ (i10+1) () (app1 hn10 h) (by omega) ⟨(by repeat' constructor),G,rfl⟩))))))
  ·
   have h:=app1 hkx10 (Ht hi10 (H9 hb))
   refine Hd (hK8 (Js fun hK50=>Jr fun hK51=>(JLh (Ed s) (Ga Hi O O O) O (JLh (E5 s.Columns) (Gh Ho O O O) O (JLl H7 O O O fun hm83=>(JLm (G0 0) O (G8 (hK51 (Gk ?_)))))))))
   obtain⟨b64,kx64,hb64,hkx64,h⟩:=J4 h
   refine H6 (fun i64 (s64:Unit)=>each b64 kx64 (List.drop i64 s.Columns) i64 s64=some r) (fun i64 s64=>[(1,E3 boxes),(2,E0 l),(3,Ed s),(83,Em s.Columns.length),(84,Em i64)]) (fun i64 s64=>[]) (fun i64=>s.Columns.length - i64) 0 () h ⟨(by repeat' constructor),G,rfl⟩ ?_
   clear h
   intro i64 s64 hi64 K64 e64
   refine Jr fun hK65=>(JLh (BL (decide ((i64:Int) < (s.Columns.length:Int)))) (Hy O O O) O (G8 (hK65 (Js fun hK66=>Gj O (fun hb=>?_) (fun hb=>?_)))))
   ·
    have hk64:=Je hb
    obtain⟨y64,nx64,hy64,hn64,h⟩:=Hs hi64 hk64
    replace h:=Y8 hb64 h
    refine Gm (hK66 (Js fun hK67=>Gk (Jr fun hK68=>(JLm (Em i64) O (JLm (Em i64) O (G8 (hK68 (Jr fun hK69=>(JLh (.agg (H8.cs s)) (Gi J1 O O O) O (JLm (E3 boxes) O (JLm (E0 l) O (JLm (Em i64) O ?_))))))))))))
    obtain⟨r70,hr70,h⟩:=Gf h
    refine JLh (BL r70) (Gq O (M_stow_fits_w s boxes l (i64:Int) r70 hr70) Qd3 ⟨O,O,O,O,O,O,O,O,G⟩) O (JLh (BL (!r70)) (R9 (b:=r70) O O) O (G8 (hK69 (JCc O h (fun h hb=>?_) (fun h hb=>?_)))))
    ·
     refine Jr fun hK71=>(JLm (BL false) O (G8 (hK71 (Gt (fin1 BL h)))))
    ·
     refine Gm (hK67 (G2 (JLh (G0 ((i64+1:Nat):Int)) (Hx (Hc hk64 hm83) O O O) O (JLm (G0 ((i64+1:Nat):Int)) O (G8 (e64 _ _ (i64+1) () (app1 hn64 h) (by omega) ⟨(by repeat' constructor),G,rfl⟩))))))
   ·
    have h:=app1 hkx64 (Ht hi64 (H9 hb))
    refine Hd (hK50 (Jr fun hK72=>(JLm (BL true) O (G8 (hK72 (Gt (fin1 BL h)))))))

def Gd2 (x:G6) (p1:Int):Option Bool:=
 some (decide (x.H2=p1))
theorem Jf4 (x:G6) (p1:Int) (r:Bool) (h:Gd2 x p1=some r):Pure En 135 [.agg (G6.cs x),.dptr [G0 p1]] (·=BL r):=by
 unfold Gd2 at h
 refine H0 [.tmp 3] Tryz.func135 O O (Jr fun hK1=>(JLh (.ptr 1177 0) (Jq (cs:=[G0 x.H2,G0 x.Slot.G4,G0 x.Slot.Tier,U8 x.Slot.Half]) 1177 O O O O O) O (JLm (BL false) O (G8 (hK1 (Gx [(1,.dptr [G0 p1]),(2,Ee x)] [] 1177 rfl rfl rfl G rfl (by exact⟨.conv (.same rfl),.ptr,G⟩) (Jr fun hK2=>(JLh (Ee x) (Ga Q7 O O O) O (JLh (G0 x.H2) (Gh Gc O O O) O (JLh (G0 p1) (Gh Gc O O O) O (JLh (BL (decide (x.H2=p1))) (Jk O O O) O (JLm (BL (decide (x.H2=p1))) O (G8 (hK2 (Gt (fin1 BL h))))))))))))))))

def Zs (s:List G6) (f:G6→Option Bool):Option Int:=
 each (fun y20 i20 (s20:Unit) nx20=>
  bnd (f y20) fun r26=>
  bif r26 then
  (some (i20:Int))
  else
  (nx20 ()))
 (fun(s20:Unit)=>
  some (-1)) s 0 ()
theorem H12 (s:List G6) (f:G6→Option Bool) (f_f:FuncId) (f_c:List AV) (f_B:Hb En f_f=true) (f_d:Zt (fun _=>false) f_c=true) (f_w:∀ a0 q,f a0=some q→Pure En f_f ([.agg (G6.cs a0)]++f_c) (·=BL q)) (r:Int) (h:Zs s f=some r):Pure En 134 [E0 s,.fn f_f f_c] (·=G0 r):=by
 unfold Zs at h
 refine H0 [.tmp 4] Tryz.func134 O O (Jr fun hK1=>(JLm (G0 0) O (G8 (hK1 (Js fun hK2=>Jr fun hK3=>(JLm (E0 s) O (JLl Gz O O O fun hm7=>(JLm (G0 0) O (G8 (hK3 (Gk ?_)))))))))))
 obtain⟨b20,kx20,hb20,hkx20,h⟩:=J4 h
 refine H6 (fun i20 (s20:Unit)=>each b20 kx20 (List.drop i20 s) i20 s20=some r) (fun i20 s20=>[(0,E0 s),(1,.fn f_f f_c),(7,Em s.length),(8,Em i20)]) (fun i20 s20=>[]) (fun i20=>s.length - i20) 0 () h ⟨⟨.same O,.same (Jf _ _ f_d),.same O,.same O,G⟩,G,O⟩ ?_
 clear h
 intro i20 s20 hi20 K20 e20
 refine Jr fun hK21=>(JLh (BL (decide ((i20:Int) < (s.length:Int)))) (Hy O O O) O (G8 (hK21 (Js fun hK22=>Gj O (fun hb=>?_) (fun hb=>?_)))))
 ·
  have hk20:=Je hb
  obtain⟨y20,nx20,hy20,hn20,h⟩:=Hs hi20 hk20
  replace h:=Y8 hb20 h
  refine Gm (hK22 (Js fun hK23=>Gk (Jr fun hK24=>(JLm (Em i20) O (JLm (Em i20) O (G8 (hK24 (Jr fun hK25=>(JLm (.fn f_f f_c) O (JLm (E0 s) O (JLm (Em i20) O (JLh (Ee y20) (Gs (f:=G6.av) (xs:=s) (y:=y20) O O O Gz hy20 O) O (JLh (.agg (G6.cs y20)) (Gi Qv O O O) O ?_)))))))))))))
  obtain⟨r26,hr26,h⟩:=Gf h
  refine JLh (BL r26) (Gaf (args:=[.agg (G6.cs y20)]) (caps:=f_c) O O (f_w y20 _ hr26) f_B ⟨O,O,G⟩ f_d) O (G8 (hK25 (JCc O h (fun h hb=>?_) (fun h hb=>?_))))
  ·
   refine Jr fun hK27=>(JLm (Em i20) O (JLm (Em i20) O (G8 (hK27 (Gt (fin1 G0 h))))))
  ·
   refine Gm (hK23 (G2 (JLh (G0 ((i20+1:Nat):Int)) (Hx (Hc hk20 hm7) O O O) O (JLm (G0 ((i20+1:Nat):Int)) O (G8 (e20 _ _ (i20+1) () (app1 hn20 h) (by omega) ⟨⟨.same rfl,.same (Jf _ _ f_d),.same rfl,.same rfl,G⟩,G,rfl⟩))))))
 ·
  have h:=app1 hkx20 (Ht hi20 (H9 hb))
  refine Hd (hK2 (Jr fun hK28=>(JLm (G0 (-1)) O (G8 (hK28 (Gt (fin1 G0 h)))))))

def Gac (l:List G6) (id_:Int):Option (Slot×Bool):=
 bnd (Zs l (fun z0=>Gd2 z0 id_)) fun r3=>
 bif decide (r3 < 0) then
 (some ((Slot.mk 0 0 0),false))
 else
 (Jc l r3 fun y8=>
  some (y8.Slot,true))
theorem Hab (l:List G6) (id_:Int) (r:Slot×Bool) (h:Gac l id_=some r):Pure En 88 [E0 l,G0 id_] (·=.tup [.agg (Slot.cs r.1),BL r.2]):=by
 unfold Gac at h
 refine H0 [.cell 4 60,.tmp 5] Tryz.func88 O O (Jr fun hK1=>(JLh (.ptr 1131 0) (Jq (cs:=[G0 id_]) 1131 O O O O O) O (JLh (.ptr 1132 0) (G15 1132 [G0 0,G0 0,U8 0] [.int .i64 0,.int .i64 0,.int .u8 0] Hcc ⟨.inl O,.inl O,.inl O,G⟩ O O) O (JLm (BL false) O (G8 (hK1 (Gx [(0,E0 l),(3,.dptr [G0 id_]),(4,.ptr 1132 0)] [(1132,.box 60 [G0 0,G0 0,U8 0])] 1131 rfl rfl rfl ⟨⟨_,rfl,.boxEq rfl rfl⟩,G⟩ rfl (by exact⟨.conv (.same rfl),.ptr,.conv (.same rfl),G⟩) (Jr fun hK2=>(JLm (E0 l) O (JLh (.fn 135 [.dptr [G0 id_]]) (Gae (cs:=[.dptr [G0 id_]]) O O) O ?_))))))))))
 obtain⟨r3,hr3,h⟩:=Gf h
 refine JLh (G0 r3) (Gq O (H12 l (fun z0=>Gd2 z0 id_) 135 [.dptr [G0 id_]] Q9c O (fun z0 q hq=>Jf4 z0 id_ q hq) r3 hr3) Q9d ⟨O,O,O,O,G⟩) O (JLm (G0 r3) O (G8 (hK2 (Js fun hK4=>Jr fun hK5=>(JLm (G0 r3) O (JLh (BL (decide (r3 < 0))) (Hy O O O) O (G8 (hK5 (JCc O h (fun h hb=>?_) (fun h hb=>?_))))))))))
 ·
  refine Jr fun hK6=>(JLh (.agg [G0 0,G0 0,U8 0]) (Ji (cs:=[G0 0,G0 0,U8 0]) [(0,1),(1,1),(2,1)] [G0 0,G0 0,U8 0] [.int .i64 0,.int .i64 0,.int .u8 0] Hd2 Hcc ⟨.inl O,.inl O,.inl O,G⟩ O O) O (Ja (u:=.junk) (J0 (u:=.agg [G0 0,G0 0,U8 0]) (ds:=[G0 0,G0 0,U8 0]) H09 O O O O O O O O) (JLm (BL false) O (G8 (hK6 (Gt (⟨[.agg [G0 0,G0 0,U8 0],BL false],[],G,O,⟨⟨_,⟨_,_,_,_,O,O,O,.inl ⟨Jg,O⟩⟩,.conv (.same O)⟩,⟨_,O,.conv (.same O)⟩,G⟩,O,congrArg (fun r:Slot×Bool=>(.tup [.agg (Slot.cs r.1),BL r.2]:AV)) (Option.some.inj h)⟩)))))))
 ·
  refine Gm (hK4 (Jr fun hK7=>(JLm (E0 l) O (JLm (G0 r3) O ?_))))
  obtain⟨m9,y8,hm9,hy8,h⟩:=R1 h
  refine JLh (Ee y8) (Gs (f:=G6.av) (xs:=l) (y:=y8) O O O Gz hy8 hm9) O (JLh (.dptr ((G6.cs y8).drop 1)) (Ga Hg O O O) O (JLh (.agg ((G6.cs y8).drop 1)) (Gi Jg O O O) O (Ja (u:=.junk) (J0 (u:=.agg ((G6.cs y8).drop 1)) (ds:=[G0 y8.Slot.G4,G0 y8.Slot.Tier,U8 y8.Slot.Half]) H09 O O O O O O O O) (JLm (BL true) O (G8 (hK7 (Gt (⟨[.agg ((G6.cs y8).drop 1),BL true],[],G,O,⟨⟨_,⟨_,_,_,_,O,O,O,.inl ⟨Jg,O⟩⟩,.conv (.same O)⟩,⟨_,O,.conv (.same O)⟩,G⟩,O,congrArg (fun r:Slot×Bool=>(.tup [.agg (Slot.cs r.1),BL r.2]:AV)) (Option.some.inj h)⟩))))))))

def G89 (r_:Int) (p1:G4):Option Bool:=
 some (decide (r_=p1.Row))
theorem J94 (r_:Int) (p1:G4) (r:Bool) (h:G89 r_ p1=some r):Pure En 165 [G0 r_,Ef p1] (·=BL r):=by
 unfold G89 at h
 refine H0 [.tmp 3] Tryz.func165 O O (Jr fun hK1=>(JLm (BL false) O (G8 (hK1 (Jr fun hK2=>(JLm (G0 r_) O (JLh (.dptr ((G4.cs p1).drop 1)) (Ga G27 O O O) O (JLh (G0 p1.Row) (Gh Gc O O O) O (JLh (BL (decide (r_=p1.Row))) (Jk O O O) O (JLm (BL (decide (r_=p1.Row))) O (G8 (hK2 (Gt (fin1 BL h))))))))))))))

def G65 (l:List Int) (wanted:Int→Option Bool):Option (List Int):=
 each (fun y21 i21 (s21:(List Int)) nx21=>
  jp (fun kj24=>
   bnd (wanted y21) fun r27=>
   bif r27 then
   (need (decide ((s21.length+[(i21:Int)].length)*8≤140737488355328∧s21.length+[(i21:Int)].length≤maxLen)) <|
    kj24 (s21++[(i21:Int)]))
   else
   (kj24 s21)) fun(j24:(List Int))=>
  nx21 j24)
 (fun(s21:(List Int))=>
  some s21) l 0 []
theorem J41 (l:List Int) (wanted:Int→Option Bool) (wanted_f:FuncId) (wanted_c:List AV) (wanted_B:Hb En wanted_f=true) (wanted_d:Zt (fun _=>false) wanted_c=true) (wanted_w:∀ a0 q,wanted a0=some q→Pure En wanted_f ([G0 a0]++wanted_c) (·=BL q)) (r:(List Int)) (h:G65 l wanted=some r):Pure En 164 [E1 l,.fn wanted_f wanted_c] (·=E1 r):=by
 unfold G65 at h
 refine H0 [.tmp 4] Tryz.func164 O O (Jr fun hK1=>(JLh (E1 ([]:List Int)) (Q2 1 O O) O (G8 (hK1 (Jr fun hK2=>(JLh (OW 1189 1 G0 ([]:List Int)) (H02 1189 3 1 O O O) O (G8 (hK2 (Js fun hK3=>Jr fun hK4=>(JLm (E1 l) O (JLl H4 O O O fun hm9=>(JLm (G0 0) O (G8 (hK4 (Gk ?_)))))))))))))))
 obtain⟨b21,kx21,hb21,hkx21,h⟩:=J4 h
 refine H6 (fun i21 (s21:(List Int))=>each b21 kx21 (List.drop i21 l) i21 s21=some r) (fun i21 s21=>[(1,.fn wanted_f wanted_c),(5,OW 1189 1 G0 s21),(8,E1 l),(9,Em l.length),(10,Em i21)]) (fun i21 s21=>[(1189,.spare 3 1 s21.length s21.length)]) (fun i21=>l.length - i21) 0 [] h ⟨⟨.same (Jf _ _ wanted_d),.same O,.same O,.same O,.same O,G⟩,⟨⟨_,O,.same⟩,G⟩,O⟩ ?_
 clear h
 intro i21 s21 hi21 K21 e21
 refine Jr fun hK22=>(JLh (BL (decide ((i21:Int) < (l.length:Int)))) (Hy O O O) O (G8 (hK22 (Js fun hK23=>Gj O (fun hb=>?_) (fun hb=>?_)))))
 ·
  have hk21:=Je hb
  obtain⟨y21,nx21,hy21,hn21,h⟩:=Hs hi21 hk21
  replace h:=Y8 hb21 h
  refine Gm (hK23 ?_)
  obtain⟨kj24,hkj24,h⟩:=Zf h
  refine Rt (fun j24:(List Int)=>kj24 j24=some r) (fun j24=>[(1,.fn wanted_f wanted_c),(5,OW 1189 1 G0 j24),(8,E1 l),(9,Em l.length),(10,Em i21)]) (fun j24=>[(1189,.spare 3 1 j24.length j24.length)]) (fun Kj24 ej24=>?_) ?_
  ·
   refine Gk (Jr fun hK25=>(JLm (Em i21) O (JLh (.dptr [G0 y21]) (Gs (f:=G0) (xs:=l) (y:=y21) O O O H4 hy21 O) O (JLh (G0 y21) (Gh Gc O O O) O (JLm (Em i21) O (JLm (G0 y21) O (G8 (hK25 (Jr fun hK26=>(JLm (.fn wanted_f wanted_c) O (JLm (G0 y21) O ?_)))))))))))
   obtain⟨r27,hr27,h⟩:=Gf h
   refine JLh (BL r27) (Gaf (args:=[G0 y21]) (caps:=wanted_c) O O (wanted_w y21 _ hr27) wanted_B ⟨O,O,G⟩ wanted_d) O (G8 (hK26 (JCc O h (fun h hb=>?_) (fun h hb=>?_))))
   ·
    refine G2 (JLm (OW 1189 1 G0 s21) O (JLm (Em i21) O (JLh (E1 [(i21:Int)]) (Hv (xs:=[Em i21]) O ⟨O,O,G⟩ H4 G67 O O O O) O ?_)))
    obtain⟨ha28,h⟩:=Hz h
    refine JLh (OW 1189 1 G0 (s21++[(i21:Int)])) (Y0 (f:=G0) (xs:=s21) (ys:=[(i21:Int)]) O O O O H4 Ge0 ha28 (fun _=>O) (.inl O) O) O (JLm (OW 1189 1 G0 (s21++[(i21:Int)])) O (G8 (ej24 _ _ (s21++[(i21:Int)]) h ⟨⟨.same (Jf _ _ wanted_d),.same O,.same O,.same O,.same O,G⟩,⟨⟨_,O,.same⟩,G⟩,O⟩)))
   ·
    refine Gm (ej24 _ _ s21 h ⟨⟨.same (Jf _ _ wanted_d),.same O,.same O,.same O,.same O,G⟩,⟨⟨_,O,.same⟩,G⟩,O⟩)
  ·intro j24 h
   replace h:=app1 hkj24 h
   refine G2 (JLh (G0 ((i21+1:Nat):Int)) (Hx (Hc hk21 hm9) O O O) O (JLm (G0 ((i21+1:Nat):Int)) O (G8 (e21 _ _ (i21+1) j24 (app1 hn21 h) (by omega) ⟨⟨.same (Jf _ _ wanted_d),.same rfl,.same rfl,.same rfl,.same rfl,G⟩,⟨⟨_,rfl,.same⟩,G⟩,rfl⟩))))
 ·
  have h:=app1 hkx21 (Ht hi21 (H9 hb))
  refine Hd (hK3 (Jr fun hK29=>(JLm (OW 1189 1 G0 s21) O (JLm (OW 1189 1 G0 s21) O (G8 (hK29 (Gt (fin1l (fun r:(List Int)=>(E1 r:AV)) h))))))))

def Gd0 (x:Ge) (c:G4):Option Bool:=
 bnd (bif decide (x.Bay=c.Bay) then G65 x.Rows (fun z0=>G89 z0 c) else some default) fun r3=>
 some ((decide (x.Bay=c.Bay))&&(decide (0 < (r3.length:Int))))
theorem Jf2 (x:Ge) (c:G4) (r:Bool) (h:Gd0 x c=some r):Pure En 138 [.agg [G0 x.Bay,E1 x.Rows],.agg (G4.cs c)] (·=BL r):=by
 unfold Gd0 at h
 refine H0 [.tmp 4] Tryz.func138 O O (Jr fun hK1=>(JLh (.ptr 1181 0) (Jq (cs:=[G0 x.Bay,E1 x.Rows]) 1181 O O O O O) O (JLh (.ptr 1182 0) (Jq (cs:=(G4.cs c)) 1182 O O O O O) O (JLm (BL false) O (G8 (hK1 (Gx [(2,.dptr [G0 x.Bay,E1 x.Rows]),(3,.ptr 1182 0)] [(1182,.box 53 (G4.cs c))] 1181 rfl rfl rfl ⟨⟨_,rfl,.boxEq rfl rfl⟩,G⟩ rfl (by exact⟨.ptr,.conv (.same rfl),G⟩) ?_)))))))
 refine Gx [(2,.dptr [G0 x.Bay,E1 x.Rows]),(3,Ef c)] [] 1182 rfl rfl rfl G rfl (by exact⟨.conv (.same rfl),.ptr,G⟩) ?_
 refine Jr fun hK2=>(JLh (.dptr [G0 x.Bay,E1 x.Rows]) (Ga Ya O O O) O (JLh (G0 x.Bay) (Gh Gc O O O) O (JLh (Ef c) (Ga Rr O O O) O (JLh (G0 c.Bay) (Gh Gc O O O) O (JLh (BL (decide (x.Bay=c.Bay))) (Jk O O O) O (JLm (BL (decide (x.Bay=c.Bay))) O (JLo (.dptr [E1 x.Rows]) [] O .sct G (fun hc=>Ga Qd O O O) O (JLo (E1 x.Rows) [11] O .sct ⟨Ua,G⟩ (fun hc=>Gh J2 O O O) O (JLo (.fn 165 [.dptr (G4.cs c)]) [] O .sct G (fun hc=>Gae (cs:=[.dptr (G4.cs c)]) O O) O ?_)))))))))
 obtain⟨r3,hr3,h⟩:=Gf h
 refine JLo (E1 r3) [12,13] O .sct ⟨Ua,Ua,G⟩ (fun hc=>Gq (args:=[E1 x.Rows,.fn 165 [.dptr (G4.cs c)]]) O (J41 x.Rows (fun z0=>G89 z0 c) 165 [.dptr (G4.cs c)] Q8e O (fun z0 q hq=>J94 z0 c q hq) r3 (Gv hc hr3)) Q8f ⟨O,O,O,O,G⟩) O (JLo (Em r3.length) [14] O .sct ⟨Ua,G⟩ (fun hc=>Qx (f:=G0) (xs:=r3) H4 O O) O (JLo (BL (decide (0 < (r3.length:Int)))) [15] O .sct ⟨Ua,G⟩ (fun hc=>G4d O O O) O (JLh (BL ((decide (x.Bay=c.Bay))&&(decide (0 < (r3.length:Int))))) (J3 O O O O) O (JLm (BL ((decide (x.Bay=c.Bay))&&(decide (0 < (r3.length:Int))))) O (G8 (hK2 ?_))))))
 refine Gt (fin1 BL h)

def G4e (x:Ge) (p1:H8) (p2:Int):Option Bool:=
 Jc p1.Columns p2 fun y3=>
 bnd (Gd0 x y3) fun r5=>
 some r5
theorem J6e (x:Ge) (p1:H8) (p2:Int) (r:Bool) (h:G4e x p1 p2=some r):Pure En 137 [.agg [G0 x.Bay,E1 x.Rows],Ed p1,.dptr [G0 p2]] (·=BL r):=by
 unfold G4e at h
 refine H0 [.tmp 4] Tryz.func137 O O (Jr fun hK1=>(JLh (.ptr 1180 0) (Jq (cs:=[G0 x.Bay,E1 x.Rows]) 1180 O O O O O) O (JLm (BL false) O (G8 (hK1 (Gx [(1,Ed p1),(2,.dptr [G0 p2]),(3,.dptr [G0 x.Bay,E1 x.Rows])] [] 1180 rfl rfl rfl G rfl (by exact⟨.conv (.same rfl),.conv (.same rfl),.ptr,G⟩) (Js fun hK2=>?_)))))))
 obtain⟨m4,y3,hm4,hy3,h⟩:=R1 h
 obtain⟨r5,hr5,h⟩:=Gf h
 refine JC_d0 Jb (by kernel_rfl) (Dq (.agg [G0 x.Bay,E1 x.Rows]) (Gi Z8 O O O) O (Dq (Ed p1) (Ga Hi O O O) O (Dq (E5 p1.Columns) (Gh Ho O O O) O (Dq (G0 p2) (Gh Gc O O O) O (Dq (Ef y3) (Gs (f:=G4.av) (xs:=p1.Columns) (y:=y3) O O O H7 hy3 hm4) O (Dq (.agg (G4.cs y3)) (Gi Yc O O O) O (Dq (BL r5) (Gq (args:=[.agg [G0 x.Bay,E1 x.Rows],.agg (G4.cs y3)]) O (Jf2 x y3 r5 hr5) Q99 ⟨O,O,O,O,G⟩) O (Dq (BL r5) (G9 O O) O (Dnil (hK2 (Gt (fin1 BL h))))))))))))

def G13 (l:List Ge) (wanted:Ge→Option Bool):Option (List Int):=
 each (fun y21 i21 (s21:(List Int)) nx21=>
  jp (fun kj24=>
   bnd (wanted y21) fun r27=>
   bif r27 then
   (need (decide ((s21.length+[(i21:Int)].length)*8≤140737488355328∧s21.length+[(i21:Int)].length≤maxLen)) <|
    kj24 (s21++[(i21:Int)]))
   else
   (kj24 s21)) fun(j24:(List Int))=>
  nx21 j24)
 (fun(s21:(List Int))=>
  some s21) l 0 []
theorem Haa (l:List Ge) (wanted:Ge→Option Bool) (wanted_f:FuncId) (wanted_c:List AV) (wanted_B:Hb En wanted_f=true) (wanted_d:Zt (fun _=>false) wanted_c=true) (wanted_w:∀ a0 q,wanted a0=some q→Pure En wanted_f ([.agg [G0 a0.Bay,E1 a0.Rows]]++wanted_c) (·=BL q)) (r:(List Int)) (h:G13 l wanted=some r):Pure En 136 [E4 l,.fn wanted_f wanted_c] (·=E1 r):=by
 unfold G13 at h
 refine H0 [.tmp 4] Tryz.func136 O O (Jr fun hK1=>(JLh (E1 ([]:List Int)) (Q2 1 O O) O (G8 (hK1 (Jr fun hK2=>(JLh (OW 1178 1 G0 ([]:List Int)) (H02 1178 3 1 O O O) O (G8 (hK2 (Js fun hK3=>Jr fun hK4=>(JLm (E4 l) O (JLl Hu O O O fun hm9=>(JLm (G0 0) O (G8 (hK4 (Gk ?_)))))))))))))))
 obtain⟨b21,kx21,hb21,hkx21,h⟩:=J4 h
 refine H6 (fun i21 (s21:(List Int))=>each b21 kx21 (List.drop i21 l) i21 s21=some r) (fun i21 s21=>[(1,.fn wanted_f wanted_c),(5,OW 1178 1 G0 s21),(8,E4 l),(9,Em l.length),(10,Em i21)]) (fun i21 s21=>[(1178,.spare 3 1 s21.length s21.length)]) (fun i21=>l.length - i21) 0 [] h ⟨⟨.same (Jf _ _ wanted_d),.same O,.same O,.same O,.same O,G⟩,⟨⟨_,O,.same⟩,G⟩,O⟩ ?_
 clear h
 intro i21 s21 hi21 K21 e21
 refine Jr fun hK22=>(JLh (BL (decide ((i21:Int) < (l.length:Int)))) (Hy O O O) O (G8 (hK22 (Js fun hK23=>Gj O (fun hb=>?_) (fun hb=>?_)))))
 ·
  have hk21:=Je hb
  obtain⟨y21,nx21,hy21,hn21,h⟩:=Hs hi21 hk21
  replace h:=Y8 hb21 h
  refine Gm (hK23 ?_)
  obtain⟨kj24,hkj24,h⟩:=Zf h
  refine Rt (fun j24:(List Int)=>kj24 j24=some r) (fun j24=>[(1,.fn wanted_f wanted_c),(5,OW 1178 1 G0 j24),(8,E4 l),(9,Em l.length),(10,Em i21)]) (fun j24=>[(1178,.spare 3 1 j24.length j24.length)]) (fun Kj24 ej24=>?_) ?_
  ·
   refine Gk (Jr fun hK25=>(JLm (Em i21) O (JLh (.dptr [G0 y21.Bay,E1 y21.Rows]) (Gs (f:=Ge.av) (xs:=l) (y:=y21) O O O Hu hy21 O) O (JLh (.agg [G0 y21.Bay,E1 y21.Rows]) (Gi Z8 O O O) O (JLh (.ptr 1179 0) (Ju 1179 2 G7b O O) O (JLm (Em i21) O (Ja (u:=.junk) (J0 (u:=.agg [G0 y21.Bay,E1 y21.Rows]) (ds:=[G0 y21.Bay,E1 y21.Rows]) Gd9 O O O O O O O O) (G8 (hK25 ?_)))))))))
   refine Gx [(1,.fn wanted_f wanted_c),(5,OW 1178 1 G0 s21),(6,Em i21),(7,.dptr [G0 y21.Bay,E1 y21.Rows]),(8,E4 l),(9,Em l.length),(10,Em i21)] [(1178,.spare 3 1 s21.length s21.length)] 1179 rfl rfl rfl ⟨⟨_,rfl,.same⟩,G⟩ rfl (by exact⟨.conv (.same (Jf _ _ wanted_d)),.conv (.same rfl),.conv (.same rfl),.ptr,.conv (.same rfl),.conv (.same rfl),.conv (.same rfl),G⟩) (Jr fun hK26=>(JLm (.fn wanted_f wanted_c) O (JLh (.agg [G0 y21.Bay,E1 y21.Rows]) (Gi Z8 O O O) O ?_)))
   obtain⟨r27,hr27,h⟩:=Gf h
   refine JLh (BL r27) (Gaf (args:=[.agg [G0 y21.Bay,E1 y21.Rows]]) (caps:=wanted_c) O O (wanted_w y21 _ hr27) wanted_B ⟨O,O,G⟩ wanted_d) O (G8 (hK26 (JCc O h (fun h hb=>?_) (fun h hb=>?_))))
   ·
    refine G2 (JLm (OW 1178 1 G0 s21) O (JLm (Em i21) O (JLh (E1 [(i21:Int)]) (Hv (xs:=[Em i21]) O ⟨O,O,G⟩ H4 G67 O O O O) O ?_)))
    obtain⟨ha28,h⟩:=Hz h
    refine JLh (OW 1178 1 G0 (s21++[(i21:Int)])) (Y0 (f:=G0) (xs:=s21) (ys:=[(i21:Int)]) O O O O H4 Ge0 ha28 (fun _=>O) (.inl O) O) O (JLm (OW 1178 1 G0 (s21++[(i21:Int)])) O (G8 (ej24 _ _ (s21++[(i21:Int)]) h ⟨⟨.same (Jf _ _ wanted_d),.same O,.same O,.same O,.same O,G⟩,⟨⟨_,O,.same⟩,G⟩,O⟩)))
   ·
    refine Gm (ej24 _ _ s21 h ⟨⟨.same (Jf _ _ wanted_d),.same O,.same O,.same O,.same O,G⟩,⟨⟨_,O,.same⟩,G⟩,O⟩)
  ·intro j24 h
   replace h:=app1 hkj24 h
   refine G2 (JLh (G0 ((i21+1:Nat):Int)) (Hx (Hc hk21 hm9) O O O) O (JLm (G0 ((i21+1:Nat):Int)) O (G8 (e21 _ _ (i21+1) j24 (app1 hn21 h) (by omega) ⟨⟨.same (Jf _ _ wanted_d),.same rfl,.same rfl,.same rfl,.same rfl,G⟩,⟨⟨_,rfl,.same⟩,G⟩,rfl⟩))))
 ·
  have h:=app1 hkx21 (Ht hi21 (H9 hb))
  refine Hd (hK3 (Jr fun hK29=>(JLm (OW 1178 1 G0 s21) O (JLm (OW 1178 1 G0 s21) O (G8 (hK29 (Gt (fin1l (fun r:(List Int)=>(E1 r:AV)) h))))))))

def G33 (s:H8) (column:Int):Option Int:=
 bif ((decide (column < 0))||(decide ((s.Columns.length:Int)≤column))) then
 (some (-1))
 else
 (bnd (G13 s.Covers (fun z0=>G4e z0 s column)) fun r6=>
  bif decide ((r6.length:Int)=0) then
  (some (-1))
  else
  (Jc r6 0 fun y11=>
   some y11))
theorem H13 (s:H8) (column:Int) (r:Int) (h:G33 s column=some r):Pure En 89 [.agg (H8.cs s),G0 column] (·=G0 r):=by
 unfold G33 at h
 refine H0 [.tmp 4] Tryz.func89 O O (Jr fun hK1=>(JLh (.ptr 1133 0) (Jq (cs:=(H8.cs s)) 1133 O O O O O) O (JLh (.ptr 1134 0) (Jq (cs:=[G0 column]) 1134 O O O O O) O (JLm (G0 0) O (G8 (hK1 ?_))))))
 refine Gx [(2,Ed s),(3,.ptr 1134 0)] [(1134,.box 3 [G0 column])] 1133 rfl rfl rfl ⟨⟨_,rfl,.boxEq rfl rfl⟩,G⟩ rfl (by exact⟨.ptr,.conv (.same rfl),G⟩) (Gx [(2,Ed s),(3,.dptr [G0 column])] [] 1134 rfl rfl rfl G rfl (by exact⟨.conv (.same rfl),.ptr,G⟩) (Js fun hK2=>?_))
 refine Jr fun hK3=>(JLh (G0 column) (Gh Gc O O O) O (JLh (BL (decide (column < 0))) (Hy O O O) O (JLm (BL (decide (column < 0))) O (JLo (G0 column) [] O .scf G (fun hc=>Gh Gc O O O) O (JLo (Ed s) [] O .scf G (fun hc=>Ga Hi O O O) O (JLo (E5 s.Columns) [10] O .scf ⟨Ua,G⟩ (fun hc=>Gh Ho O O O) O (JLo (Em s.Columns.length) [11] O .scf ⟨Ua,G⟩ (fun hc=>Qx (f:=G4.av) (xs:=s.Columns) H7 O O) O (JLo (BL (decide ((s.Columns.length:Int)≤column))) [9,12] O .scf ⟨Ua,Ua,G⟩ (fun hc=>G06 O O O) O (JLh (BL ((decide (column < 0))||(decide ((s.Columns.length:Int)≤column)))) (Y7 O O O O) O (G8 (hK3 ?_)))))))))))
 refine JCc O h (fun h hb=>?_) (fun h hb=>?_)
 ·
  refine Jr fun hK4=>(JLm (G0 (-1)) O (G8 (hK4 (Gt (fin1 G0 h)))))
 ·
  refine Gm (hK2 ?_)
  refine Jr fun hK5=>(JLh (.dptr [E4 s.Covers,G0 s.Light.Kilos,G0 s.Light.X,G0 s.Light.Y,G0 s.Light.Z,E7 s.Rows,E6 s.Frames,E8 s.Tanks,G0 s.G3.Tolerance,G0 s.G3.Trim,G0 s.G3.List_,G0 s.G3.Stability]) (Ga Jp O O O) O (JLh (E4 s.Covers) (Gh Q4 O O O) O (JLh (.fn 137 [.dptr (H8.cs s),.dptr [G0 column]]) (Gae (cs:=[.dptr (H8.cs s),.dptr [G0 column]]) O O) O ?_)))
  obtain⟨r6,hr6,h⟩:=Gf h
  refine JLh (E1 r6) (Gq O (Haa s.Covers (fun z0=>G4e z0 s column) 137 [.dptr (H8.cs s),.dptr [G0 column]] Q9a O (fun z0 q hq=>J6e z0 s column q hq) r6 hr6) Q9b ⟨O,O,O,O,G⟩) O (JLm (E1 r6) O (G8 (hK5 (Js fun hK7=>Jr fun hK8=>(JLm (E1 r6) O (JLl H4 O O O fun hm20=>(JLh (BL (decide ((r6.length:Int)=0))) (Jk O O O) O (G8 (hK8 (JCc O h (fun h hb=>?_) (fun h hb=>?_)))))))))))
  ·
   refine Jr fun hK9=>(JLm (G0 (-1)) O (G8 (hK9 (Gt (fin1 G0 h)))))
  ·
   refine Gm (hK7 (Jr fun hK10=>(JLm (E1 r6) O ?_)))
   obtain⟨m12,y11,hm12,hy11,h⟩:=R1 h
   refine JLh (.dptr [G0 y11]) (Gs (f:=G0) (xs:=r6) (y:=y11) O O O H4 hy11 hm12) O (JLh (G0 y11) (Gh Gc O O O) O (JLm (G0 y11) O (G8 (hK10 (Gt (fin1 G0 h))))))

def H29 (a:Slot) (b:Slot):Option Bool:=
 bnd (bif ((decide (a.G4=b.G4))&&(decide (b.Tier < a.Tier))) then G97 a.Half b.Half else some default) fun r3=>
 some (((decide (a.G4=b.G4))&&(decide (b.Tier < a.Tier)))&&r3)
theorem M_slot_Over_w (a:Slot) (b:Slot) (r:Bool) (h:H29 a b=some r):Pure En 90 [.agg [G0 a.G4,G0 a.Tier,U8 a.Half],.agg [G0 b.G4,G0 b.Tier,U8 b.Half]] (·=BL r):=by
 unfold H29 at h
 refine H0 [.tmp 4] Tryz.func90 O O (Jr fun hK1=>(JLh (.ptr 1135 0) (Jq (cs:=[G0 a.G4,G0 a.Tier,U8 a.Half]) 1135 O O O O O) O (JLh (.ptr 1136 0) (Jq (cs:=[G0 b.G4,G0 b.Tier,U8 b.Half]) 1136 O O O O O) O (JLm (BL false) O (G8 (hK1 (Gx [(2,.dptr [G0 a.G4,G0 a.Tier,U8 a.Half]),(3,.ptr 1136 0)] [(1136,.box 60 [G0 b.G4,G0 b.Tier,U8 b.Half])] 1135 rfl rfl rfl ⟨⟨_,rfl,.boxEq rfl rfl⟩,G⟩ rfl (by exact⟨.ptr,.conv (.same rfl),G⟩) (Gx [(2,.dptr [G0 a.G4,G0 a.Tier,U8 a.Half]),(3,.dptr [G0 b.G4,G0 b.Tier,U8 b.Half])] [] 1136 rfl rfl rfl G rfl (by exact⟨.conv (.same rfl),.ptr,G⟩) ?_))))))))
 refine Jr fun hK2=>(JLh (.dptr [G0 a.G4,G0 a.Tier,U8 a.Half]) (Ga Hk O O O) O (JLh (G0 a.G4) (Gh Gc O O O) O (JLh (.dptr [G0 b.G4,G0 b.Tier,U8 b.Half]) (Ga Hk O O O) O (JLh (G0 b.G4) (Gh Gc O O O) O (JLh (BL (decide (a.G4=b.G4))) (Jk O O O) O (JLm (BL (decide (a.G4=b.G4))) O (JLo (.dptr [G0 a.Tier,U8 a.Half]) [] O .sct G (fun hc=>Ga J9 O O O) O (JLo (G0 a.Tier) [11] O .sct ⟨Ua,G⟩ (fun hc=>Gh Gc O O O) O (JLo (.dptr [G0 b.Tier,U8 b.Half]) [] O .sct G (fun hc=>Ga J9 O O O) O (JLo (G0 b.Tier) [13] O .sct ⟨Ua,G⟩ (fun hc=>Gh Gc O O O) O (JLo (BL (decide (b.Tier < a.Tier))) [12,14] O .sct ⟨Ua,Ua,G⟩ (fun hc=>G4d O O O) O (JLh (BL ((decide (a.G4=b.G4))&&(decide (b.Tier < a.Tier)))) (J3 O O O O) O (JLm (BL ((decide (a.G4=b.G4))&&(decide (b.Tier < a.Tier)))) O ?_)))))))))))))
 refine JLo (.dptr [U8 a.Half]) [] O .sct G (fun hc=>Ga Jo O O O) O (JLo (U8 a.Half) [18] O .sct ⟨Ua,G⟩ (fun hc=>Gh J5 O O O) O (JLo (.dptr [U8 b.Half]) [] O .sct G (fun hc=>Ga Jo O O O) O (JLo (U8 b.Half) [20] O .sct ⟨Ua,G⟩ (fun hc=>Gh J5 O O O) O ?_)))
 obtain⟨r3,hr3,h⟩:=Gf h
 refine JLo (BL r3) [19,21] O .sct ⟨Ua,Ua,G⟩ (fun hc=>Gq (args:=[U8 a.Half,U8 b.Half]) O (Hef a.Half b.Half r3 (Gv hc hr3)) Jc7 ⟨O,O,O,O,G⟩) O (JLh (BL (((decide (a.G4=b.G4))&&(decide (b.Tier < a.Tier)))&&r3)) (J3 O O O O) O (JLm (BL (((decide (a.G4=b.G4))&&(decide (b.Tier < a.Tier)))&&r3)) O (G8 (hK2 (Gt (fin1 BL h))))))

def G53 (m:Hp Int Unit) (k:Int):Option (Bool×(Hp Int Unit)):=
 bif (Hp.has m k) then
 (some (false,m))
 else
 (some (true,(Hp.put m k ())))
theorem H2c (m:Hp Int Unit) (k:Int) (r:Bool×(Hp Int Unit)) (h:G53 m k=some r):Rn En 87 [.mp 1089,G0 k] [(1089,MP 153 (fun n:Int=>Value.int .i64 n) (fun _:Unit=>.agg []) m)] (fun av L'=>av=BL r.1∧L'=[(1089,MP 153 (fun n:Int=>Value.int .i64 n) (fun _:Unit=>.agg []) r.2)]):=by
 unfold G53 at h
 refine Z6 [1089] [.tmp 4] Tryz.func87 O O (H3b O) (Jr fun hK1=>(JLm (BL false) O (G8 (hK1 (Js fun hK2=>Jr fun hK3=>(JLm (.mp 1089) O (JLm (G0 k) O (JLh (.tup [.agg [],BL (Hp.has m k)]) (A_lookupM1 (av:=(fun _:Unit=>.agg [])) (m:=m) (a:=k) () (.agg #[]) O O O O tk_3 Q09 tf_zv_186 O) O (JLm (.tup [.agg [],BL (Hp.has m k)]) O (JLh (.agg []) (Jn O O O) O (JLh (BL (Hp.has m k)) (Jn O O O) O (JLh (.ptr 1130 0) (Ju 1130 0 Q76 O O) O (Ja (u:=.junk) (A_store0 (u:=.agg []) Q84 O O O O O O) (JLm (BL (Hp.has m k)) O (G8 (hK3 ?_))))))))))))))))
 refine Gx [(0,.mp 1089),(1,G0 k),(6,BL (Hp.has m k))] [(1089,MP 153 (fun n:Int=>Value.int .i64 n) (fun _:Unit=>.agg []) m)] 1130 rfl rfl rfl ⟨⟨_,rfl,.map⟩,G⟩ rfl (by exact⟨.conv (.same rfl),.conv (.same rfl),.conv (.same rfl),G⟩) (Jr fun hK5=>(JLm (BL (Hp.has m k)) O (G8 (hK5 (JCc O h (fun h hb=>?_) (fun h hb=>?_))))))
 ·
  refine Jr fun hK6=>(JLm (BL false) O (G8 (hK6 (Gt ?_))))
  obtain rfl:=Option.some.inj h
  exact⟨[BL false],[(1089,MP 153 (fun n:Int=>Value.int .i64 n) (fun _:Unit=>.agg []) m)],⟨⟨_,O,.map⟩,G⟩,O,⟨⟨_,O,.conv (.same O)⟩,G⟩,O,O⟩
 ·
  refine Gm (hK2 (Jr fun hK7=>(JLm (.mp 1089) O (JLm (G0 k) O (JLh (.agg []) (Ji (cs:=[]) [] [] [] Q67 Q81 G O O) O (Ja (u:=.junk) (J9b (m:=m) (a:=k) (v:=()) O O O O O O tk_3 Q09) (G8 (hK7 (Jr fun hK8=>(JLm (BL true) O (G8 (hK8 (Gt ?_)))))))))))))
  obtain rfl:=Option.some.inj h
  exact⟨[BL true],[(1089,MP 153 (fun n:Int=>Value.int .i64 n) (fun _:Unit=>.agg []) (Hp.put m k ()))],⟨⟨_,O,.map⟩,G⟩,O,⟨⟨_,O,.conv (.same O)⟩,G⟩,O,O⟩

def G8d (self_:Int→(Hp Int Unit)→(List Int)→(List (List G6))→H8→Option ((Hp Int Unit)×(List Int))) (F:Nat) (id_:Int) (p1:Hp Int Unit) (p2:List Int) (p3:List (List G6)) (p4:H8):Option ((Hp Int Unit)×(List Int)):=
 bnd (G53 p1 id_) fun r3=>
 bif (!r3.1) then
 (some (r3.2,p2))
 else
 (need (decide ((p2.length+[id_].length)*8≤140737488355328∧p2.length+[id_].length≤maxLen)) <|
  each (fun y7 i7 (s7:(Hp Int Unit)×(List Int)) nx7=>
   jp (fun kj10=>
    bnd (Gac y7 id_) fun r13=>
    bif (!r13.2) then
    (kj10 (s7.1,s7.2))
    else
    (jp (fun kj17=>
      Jc p4.Columns r13.1.G4 fun y19=>
      bif (!y19.Deck) then
      (bnd (G33 p4 r13.1.G4) fun r21=>
       kj17 r21)
      else
      (kj17 (-1))) fun(j17:Int)=>
     each (fun y56 i56 (s56:(Hp Int Unit)×(List Int)) nx56=>
      jp (fun kj59=>
       bnd (H29 y56.Slot r13.1) fun r62=>
       bif r62 then
       (bnd (self_ y56.H2 s56.1 s56.2 p3 p4) fun r63=>
        kj59 (r63.1,r63.2))
       else
       (kj59 (s56.1,s56.2))) fun(j59:(Hp Int Unit)×(List Int))=>
      nx56 (j59.1,j59.2))
     (fun(s56:(Hp Int Unit)×(List Int))=>
      each (fun y65 i65 (s65:(Hp Int Unit)×(List Int)) nx65=>
       each (fun y107 i107 (s107:(Hp Int Unit)×(List Int)) nx107=>
        jp (fun kj110=>
         bnd (bif decide (0≤j17) then Jc p4.Columns y107.Slot.G4 some else some default) fun y113=>
         bnd (bif ((decide (0≤j17))&&y113.Deck) then G33 p4 y107.Slot.G4 else some default) fun r114=>
         bif (((decide (0≤j17))&&y113.Deck)&&(decide (r114=j17))) then
         (bnd (self_ y107.H2 s107.1 s107.2 p3 p4) fun r115=>
          kj110 (r115.1,r115.2))
         else
         (kj110 (s107.1,s107.2))) fun(j110:(Hp Int Unit)×(List Int))=>
        nx107 (j110.1,j110.2))
       (fun(s107:(Hp Int Unit)×(List Int))=>
        nx65 (s107.1,s107.2)) y65 0 (s65.1,s65.2))
      (fun(s65:(Hp Int Unit)×(List Int))=>
       kj10 (s65.1,s65.2)) p3 0 (s56.1,s56.2)) y7 0 (s7.1,s7.2))) fun(j10:(Hp Int Unit)×(List Int))=>
   nx7 (j10.1,j10.2))
  (fun(s7:(Hp Int Unit)×(List Int))=>
   some (s7.1,s7.2)) p3 0 (r3.2,(p2++[id_])))
def G3e:Nat→Int→(Hp Int Unit)→(List Int)→(List (List G6))→H8→Option ((Hp Int Unit)×(List Int))
 | 0,_,_,_,_,_=>none
 | F+1,id_,p1,p2,p3,p4=>G8d (G3e F) F id_ p1 p2 p3 p4
theorem J9a (self_:Int→(Hp Int Unit)→(List Int)→(List (List G6))→H8→Option ((Hp Int Unit)×(List Int))) (self_w:∀ (id_:Int) (p1:Hp Int Unit) (p2:List Int) (p3:List (List G6)) (p4:H8) (r:(Hp Int Unit)×(List Int)),self_ id_ p1 p2 p3 p4=some r→Rn En 86 [G0 id_,.ptr 1083 0,.ptr 1084 0,.dptr [LS 1 (E0) p3],Ed p4,.ptr 1085 0] [(1083,.box 153 [.mp 1089]),(1089,MP 153 (fun n:Int=>Value.int .i64 n) (fun _:Unit=>.agg []) p1),(1084,.box 51 [.vec 1090 p2.length 1 p2.length]),(1090,.vec 3 1 p2.length (p2.map G0)),(1085,.box 154 [.fn 86 [.ptr 1083 0,.ptr 1084 0,.dptr [LS 1 (E0) p3],Ed p4,.ptr 1085 0]])] (fun av L'=>av=.tup []∧L'=[(1083,.box 153 [.mp 1089]),(1089,MP 153 (fun n:Int=>Value.int .i64 n) (fun _:Unit=>.agg []) r.1),(1084,.box 51 [.vec 1090 r.2.length 1 r.2.length]),(1090,.vec 3 1 r.2.length (r.2.map G0)),(1085,.box 154 [.fn 86 [.ptr 1083 0,.ptr 1084 0,.dptr [LS 1 (E0) p3],Ed p4,.ptr 1085 0]])])) (F:Nat) (id_:Int) (p1:Hp Int Unit) (p2:List Int) (p3:List (List G6)) (p4:H8) (r:(Hp Int Unit)×(List Int)) (h:G8d self_ F id_ p1 p2 p3 p4=some r):Rn En 86 [G0 id_,.ptr 1083 0,.ptr 1084 0,.dptr [LS 1 (E0) p3],Ed p4,.ptr 1085 0] [(1083,.box 153 [.mp 1089]),(1089,MP 153 (fun n:Int=>Value.int .i64 n) (fun _:Unit=>.agg []) p1),(1084,.box 51 [.vec 1090 p2.length 1 p2.length]),(1090,.vec 3 1 p2.length (p2.map G0)),(1085,.box 154 [.fn 86 [.ptr 1083 0,.ptr 1084 0,.dptr [LS 1 (E0) p3],Ed p4,.ptr 1085 0]])] (fun av L'=>av=.tup []∧L'=[(1083,.box 153 [.mp 1089]),(1089,MP 153 (fun n:Int=>Value.int .i64 n) (fun _:Unit=>.agg []) r.1),(1084,.box 51 [.vec 1090 r.2.length 1 r.2.length]),(1090,.vec 3 1 r.2.length (r.2.map G0)),(1085,.box 154 [.fn 86 [.ptr 1083 0,.ptr 1084 0,.dptr [LS 1 (E0) p3],Ed p4,.ptr 1085 0]])]):=by
 unfold G8d at h
 refine Z6 [1083,1089,1084,1090,1085] [] Tryz.func86 O O (H3b O) (Js fun hK1=>Jr fun hK2=>(JLh (.mp 1089) (Z7 Q65 O O O O) O (JLm (G0 id_) O ?_)))
 obtain⟨r3,hr3,h⟩:=Gf h
 refine JLh (BL r3.1) (H1f (args:=[.mp 1089,G0 id_]) (L0:=[(1089,MP 153 (fun n:Int=>Value.int .i64 n) (fun _:Unit=>.agg []) p1)]) (Lr:=[(1089,MP 153 (fun n:Int=>Value.int .i64 n) (fun _:Unit=>.agg []) r3.2)]) O (H2c p1 id_ r3 hr3) Qd2 ⟨.inl O,O,.inl O,O,G⟩ ⟨O,G⟩ O O O) O (JLh (BL (!r3.1)) (R9 (b:=r3.1) O O) O (G8 (hK2 (JCc O h (fun h hb=>?_) (fun h hb=>?_)))))
 ·
  refine Gt ?_
  obtain rfl:=Option.some.inj h
  exact⟨[],[(1083,.box 153 [.mp 1089]),(1089,MP 153 (fun n:Int=>Value.int .i64 n) (fun _:Unit=>.agg []) r3.2),(1084,.box 51 [.vec 1090 p2.length 1 p2.length]),(1090,.vec 3 1 p2.length (p2.map G0)),(1085,.box 154 [.fn 86 [.ptr 1083 0,.ptr 1084 0,.dptr [LS 1 (E0) p3],Ed p4,.ptr 1085 0]])],⟨⟨_,O,.boxL O ⟨.same O,G⟩⟩,⟨_,O,.map⟩,⟨_,O,.boxL O ⟨.same O,G⟩⟩,⟨_,O,.vec⟩,⟨_,O,.boxL O ⟨.same O,G⟩⟩,G⟩,O,G,O,O⟩
 ·
  refine Gm (hK1 (Jr fun hK4=>(JLh (.vec 1090 p2.length 1 p2.length) (Z7 J2 O O O O) O (JLm (G0 id_) O (JLh (E1 [id_]) (Hv (xs:=[G0 id_]) O ⟨O,O,G⟩ H4 G67 O O O O) O ?_)))))
  obtain⟨ha5,h⟩:=Hz h
  refine JLh (.vec 1090 ((p2++[id_]).length) 1 ((p2++[id_]).length)) (H15 (f:=G0) (xs:=p2) (ys:=[id_]) (ver:=p2.length) (ver1:=(p2++[id_]).length) rfl rfl rfl rfl H4 Ge0 ha5 (fun _=>rfl) (.inl rfl) (by simp)) O (Ja (u:=.junk) (J0 (u:=.vec 1090 ((p2++[id_]).length) 1 ((p2++[id_]).length)) (ds:=[.vec 1090 ((p2++[id_]).length) 1 ((p2++[id_]).length)]) Hcf O O O O O O O O) (G8 (hK4 (Jr fun hK6=>(JLh (LS 1 (E0) p3) (Gh H99 O O O) O (JLl G24 O O O fun hm27=>(JLm (G0 0) O (G8 (hK6 (Gk ?_))))))))))
  obtain⟨b7,kx7,hb7,hkx7,h⟩:=J4 h
  refine H6 (fun i7 (s7:(Hp Int Unit)×(List Int))=>each b7 kx7 (List.drop i7 p3) i7 s7=some r) (fun i7 s7=>[(0,G0 id_),(3,.dptr [LS 1 (E0) p3]),(4,Ed p4),(5,.ptr 1085 0),(26,LS 1 (E0) p3),(27,Em p3.length),(28,Em i7)]) (fun i7 s7=>[(1089,MP 153 (fun n:Int=>Value.int .i64 n) (fun _:Unit=>.agg []) s7.1),(1090,.vec 3 1 s7.2.length (s7.2.map G0)),(1083,.box 153 [.mp 1089]),(1084,.box 51 [.vec 1090 s7.2.length 1 s7.2.length]),(1085,.box 154 [.fn 86 [.ptr 1083 0,.ptr 1084 0,.dptr [LS 1 (E0) p3],Ed p4,.ptr 1085 0]])]) (fun i7=>p3.length - i7) 0 (r3.2,(p2++[id_])) h ⟨(by repeat' constructor),⟨⟨_,rfl,.map⟩,⟨_,rfl,.vec⟩,⟨_,rfl,.boxL rfl ⟨.same rfl,G⟩⟩,⟨_,rfl,.boxL rfl ⟨.same rfl,G⟩⟩,⟨_,rfl,.boxL rfl ⟨.same rfl,G⟩⟩,G⟩,rfl⟩ ?_
  clear h
  intro i7 s7 hi7 K7 e7
  refine Jr fun hK8=>(JLh (BL (decide ((i7:Int) < (p3.length:Int)))) (Hy O O O) O (G8 (hK8 (Js fun hK9=>Gj O (fun hb=>?_) (fun hb=>?_)))))
  ·
   have hk7:=Je hb
   obtain⟨y7,nx7,hy7,hn7,h⟩:=Hs hi7 hk7
   replace h:=Y8 hb7 h
   refine Gm (hK9 ?_)
   obtain⟨kj10,hkj10,h⟩:=Zf h
   refine Rt (fun j10:(Hp Int Unit)×(List Int)=>kj10 j10=some r) (fun j10=>[(0,G0 id_),(3,.dptr [LS 1 (E0) p3]),(4,Ed p4),(5,.ptr 1085 0),(26,LS 1 (E0) p3),(27,Em p3.length),(28,Em i7)]) (fun j10=>[(1089,MP 153 (fun n:Int=>Value.int .i64 n) (fun _:Unit=>.agg []) j10.1),(1090,.vec 3 1 j10.2.length (j10.2.map G0)),(1083,.box 153 [.mp 1089]),(1084,.box 51 [.vec 1090 j10.2.length 1 j10.2.length]),(1085,.box 154 [.fn 86 [.ptr 1083 0,.ptr 1084 0,.dptr [LS 1 (E0) p3],Ed p4,.ptr 1085 0]])]) (fun Kj10 ej10=>?_) ?_
   ·
    refine Gk (Jr fun hK11=>(JLh (.dptr [E0 y7]) (Gs (f:=(E0)) (xs:=p3) (y:=y7) O O O G24 hy7 O) O (JLh (E0 y7) (Gh H3f O O O) O (JLm (E0 y7) O (G8 (hK11 (Jr fun hK12=>(JLm (E0 y7) O (JLm (G0 id_) O ?_)))))))))
    obtain⟨r13,hr13,h⟩:=Gf h
    refine JLh (.tup [.agg (Slot.cs r13.1),BL r13.2]) (Gq O (Hab y7 id_ r13 hr13) J59 ⟨O,O,O,O,G⟩) O (JLm (.tup [.agg (Slot.cs r13.1),BL r13.2]) O (JLh (.agg (Slot.cs r13.1)) (Jn O O O) O (JLh (BL r13.2) (Jn O O O) O (JLh (.ptr 1127 0) (Ju 1127 3 Gde O O) O (Ja (u:=.junk) (J0 (u:=.agg (Slot.cs r13.1)) (ds:=[G0 r13.1.G4,G0 r13.1.Tier,U8 r13.1.Half]) H09 O O O O O O O O) (JLm (BL r13.2) O (G8 (hK12 ?_))))))))
    refine Gx [(0,G0 id_),(3,.dptr [LS 1 (E0) p3]),(4,Ed p4),(5,.ptr 1085 0),(8,E0 y7),(9,Ei r13.1),(10,BL r13.2),(26,LS 1 (E0) p3),(27,Em p3.length),(28,Em i7)] [(1089,MP 153 (fun n:Int=>Value.int .i64 n) (fun _:Unit=>.agg []) s7.1),(1090,.vec 3 1 s7.2.length (s7.2.map G0)),(1083,.box 153 [.mp 1089]),(1084,.box 51 [.vec 1090 s7.2.length 1 s7.2.length]),(1085,.box 154 [.fn 86 [.ptr 1083 0,.ptr 1084 0,.dptr [LS 1 (E0) p3],Ed p4,.ptr 1085 0]])] 1127 rfl rfl rfl ⟨⟨_,rfl,.map⟩,⟨_,rfl,.vec⟩,⟨_,rfl,.boxEq rfl rfl⟩,⟨_,rfl,.boxEq rfl rfl⟩,⟨_,rfl,.boxEq rfl rfl⟩,G⟩ rfl (by repeat' (first | exact .ptr | constructor)) (Js fun hK14=>?_)
    refine Jr fun hK15=>(JLm (BL r13.2) O (JLh (BL (!r13.2)) (R9 (b:=r13.2) O O) O (G8 (hK15 (JCc O h (fun h hb=>?_) (fun h hb=>?_))))))
    ·
     refine Hd (ej10 _ _ (s7.1,s7.2) h ⟨(by repeat' constructor),⟨⟨_,rfl,.map⟩,⟨_,rfl,.vec⟩,⟨_,rfl,.boxL rfl ⟨.same rfl,G⟩⟩,⟨_,rfl,.boxL rfl ⟨.same rfl,G⟩⟩,⟨_,rfl,.boxL rfl ⟨.same rfl,G⟩⟩,G⟩,rfl⟩)
    ·
     refine Gm (hK14 (Jr fun hK16=>(JLm (G0 (-1)) O (G8 (hK16 ?_)))))
     obtain⟨kj17,hkj17,h⟩:=Zf h
     refine Rt (fun j17:Int=>kj17 j17=some r) (fun j17=>[(0,G0 id_),(3,.dptr [LS 1 (E0) p3]),(4,Ed p4),(5,.ptr 1085 0),(8,E0 y7),(9,Ei r13.1),(11,G0 j17),(26,LS 1 (E0) p3),(27,Em p3.length),(28,Em i7)]) (fun j17=>[(1089,MP 153 (fun n:Int=>Value.int .i64 n) (fun _:Unit=>.agg []) s7.1),(1090,.vec 3 1 s7.2.length (s7.2.map G0)),(1083,.box 153 [.mp 1089]),(1084,.box 51 [.vec 1090 s7.2.length 1 s7.2.length]),(1085,.box 154 [.fn 86 [.ptr 1083 0,.ptr 1084 0,.dptr [LS 1 (E0) p3],Ed p4,.ptr 1085 0]])]) (fun Kj17 ej17=>?_) ?_
     ·
      refine Jr fun hK18=>(JLh (Ed p4) (Ga Hi O O O) O (JLh (E5 p4.Columns) (Gh Ho O O O) O (JLh (Ei r13.1) (Ga Hk O O O) O (JLh (G0 r13.1.G4) (Gh Gc O O O) O ?_))))
      obtain⟨m20,y19,hm20,hy19,h⟩:=R1 h
      refine JLh (Ef y19) (Gs (f:=G4.av) (xs:=p4.Columns) (y:=y19) O O O H7 hy19 hm20) O (JLh (.dptr ((G4.cs y19).drop 2)) (Ga Yb O O O) O (JLh (BL y19.Deck) (Gh R5 O O O) O (JLh (BL (!y19.Deck)) (R9 (b:=y19.Deck) O O) O (G8 (hK18 (JCc O h (fun h hb=>?_) (fun h hb=>?_)))))))
      ·
       refine G2 (JLh (.agg (H8.cs p4)) (Gi J1 O O O) O (JLh (Ei r13.1) (Ga Hk O O O) O (JLh (G0 r13.1.G4) (Gh Gc O O O) O ?_)))
       obtain⟨r21,hr21,h⟩:=Gf h
       refine JLh (G0 r21) (Gq O (H13 p4 r13.1.G4 r21 hr21) J58 ⟨O,O,O,O,G⟩) O (JLm (G0 r21) O (G8 (ej17 _ _ r21 h ⟨(by repeat' constructor),⟨⟨_,rfl,.map⟩,⟨_,rfl,.vec⟩,⟨_,rfl,.boxL rfl ⟨.same rfl,G⟩⟩,⟨_,rfl,.boxL rfl ⟨.same rfl,G⟩⟩,⟨_,rfl,.boxL rfl ⟨.same rfl,G⟩⟩,G⟩,rfl⟩)))
      ·
       refine Gm (ej17 _ _ (-1) h ⟨(by repeat' constructor),⟨⟨_,rfl,.map⟩,⟨_,rfl,.vec⟩,⟨_,rfl,.boxL rfl ⟨.same rfl,G⟩⟩,⟨_,rfl,.boxL rfl ⟨.same rfl,G⟩⟩,⟨_,rfl,.boxL rfl ⟨.same rfl,G⟩⟩,G⟩,rfl⟩)
     ·intro j17 h
      replace h:=app1 hkj17 h
      refine Js fun hK22=>Jr fun hK23=>(JLm (E0 y7) O (JLl Gz O O O fun hm53=>(JLm (G0 0) O (G8 (hK23 (Gk ?_))))))
      obtain⟨b56,kx56,hb56,hkx56,h⟩:=J4 h
      refine H6 (fun i56 (s56:(Hp Int Unit)×(List Int))=>each b56 kx56 (List.drop i56 y7) i56 s56=some r) (fun i56 s56=>[(0,G0 id_),(3,.dptr [LS 1 (E0) p3]),(4,Ed p4),(5,.ptr 1085 0),(9,Ei r13.1),(11,G0 j17),(26,LS 1 (E0) p3),(27,Em p3.length),(28,Em i7),(52,E0 y7),(53,Em y7.length),(54,Em i56)]) (fun i56 s56=>[(1089,MP 153 (fun n:Int=>Value.int .i64 n) (fun _:Unit=>.agg []) s56.1),(1090,.vec 3 1 s56.2.length (s56.2.map G0)),(1083,.box 153 [.mp 1089]),(1084,.box 51 [.vec 1090 s56.2.length 1 s56.2.length]),(1085,.box 154 [.fn 86 [.ptr 1083 0,.ptr 1084 0,.dptr [LS 1 (E0) p3],Ed p4,.ptr 1085 0]])]) (fun i56=>y7.length - i56) 0 (s7.1,s7.2) h ⟨(by repeat' constructor),⟨⟨_,rfl,.map⟩,⟨_,rfl,.vec⟩,⟨_,rfl,.boxL rfl ⟨.same rfl,G⟩⟩,⟨_,rfl,.boxL rfl ⟨.same rfl,G⟩⟩,⟨_,rfl,.boxL rfl ⟨.same rfl,G⟩⟩,G⟩,rfl⟩ ?_
      clear h
      intro i56 s56 hi56 K56 e56
      refine Jr fun hK57=>(JLh (BL (decide ((i56:Int) < (y7.length:Int)))) (Hy O O O) O (G8 (hK57 (Js fun hK58=>Gj O (fun hb=>?_) (fun hb=>?_)))))
      ·
       have hk56:=Je hb
       obtain⟨y56,nx56,hy56,hn56,h⟩:=Hs hi56 hk56
       replace h:=Y8 hb56 h
       refine Gm (hK58 ?_)
       obtain⟨kj59,hkj59,h⟩:=Zf h
       refine Rt (fun j59:(Hp Int Unit)×(List Int)=>kj59 j59=some r) (fun j59=>[(0,G0 id_),(3,.dptr [LS 1 (E0) p3]),(4,Ed p4),(5,.ptr 1085 0),(9,Ei r13.1),(11,G0 j17),(26,LS 1 (E0) p3),(27,Em p3.length),(28,Em i7),(52,E0 y7),(53,Em y7.length),(54,Em i56)]) (fun j59=>[(1089,MP 153 (fun n:Int=>Value.int .i64 n) (fun _:Unit=>.agg []) j59.1),(1090,.vec 3 1 j59.2.length (j59.2.map G0)),(1083,.box 153 [.mp 1089]),(1084,.box 51 [.vec 1090 j59.2.length 1 j59.2.length]),(1085,.box 154 [.fn 86 [.ptr 1083 0,.ptr 1084 0,.dptr [LS 1 (E0) p3],Ed p4,.ptr 1085 0]])]) (fun Kj59 ej59=>?_) ?_
       ·
        refine Gk (Jr fun hK60=>(JLh (Ee y56) (Gs (f:=G6.av) (xs:=y7) (y:=y56) O O O Gz hy56 O) O (JLh (.agg (G6.cs y56)) (Gi Qv O O O) O (JLh (.ptr 1128 0) (Ju 1128 4 Rv O O) O (Ja (u:=.junk) (J0 (u:=.agg (G6.cs y56)) (ds:=[G0 y56.H2,G0 y56.Slot.G4,G0 y56.Slot.Tier,U8 y56.Slot.Half]) Z4 O O O O O O O O) (G8 (hK60 ?_)))))))
        refine Gx [(0,G0 id_),(3,.dptr [LS 1 (E0) p3]),(4,Ed p4),(5,.ptr 1085 0),(9,Ei r13.1),(11,G0 j17),(13,Ee y56),(26,LS 1 (E0) p3),(27,Em p3.length),(28,Em i7),(52,E0 y7),(53,Em y7.length),(54,Em i56)] [(1089,MP 153 (fun n:Int=>Value.int .i64 n) (fun _:Unit=>.agg []) s56.1),(1090,.vec 3 1 s56.2.length (s56.2.map G0)),(1083,.box 153 [.mp 1089]),(1084,.box 51 [.vec 1090 s56.2.length 1 s56.2.length]),(1085,.box 154 [.fn 86 [.ptr 1083 0,.ptr 1084 0,.dptr [LS 1 (E0) p3],Ed p4,.ptr 1085 0]])] 1128 rfl rfl rfl ⟨⟨_,rfl,.map⟩,⟨_,rfl,.vec⟩,⟨_,rfl,.boxEq rfl rfl⟩,⟨_,rfl,.boxEq rfl rfl⟩,⟨_,rfl,.boxEq rfl rfl⟩,G⟩ rfl (by repeat' (first | exact .ptr | constructor)) ?_
        refine Jr fun hK61=>(JLh (.dptr ((G6.cs y56).drop 1)) (Ga Hg O O O) O (JLh (.agg ((G6.cs y56).drop 1)) (Gi Jg O O O) O (JLh (.agg (Slot.cs r13.1)) (Gi Jg O O O) O ?_)))
        obtain⟨r62,hr62,h⟩:=Gf h
        refine JLh (BL r62) (Gq O (M_slot_Over_w y56.Slot r13.1 r62 hr62) Qd1 ⟨O,O,O,O,G⟩) O (G8 (hK61 (JCc O h (fun h hb=>?_) (fun h hb=>?_))))
        ·
         refine G2 (JLh (.fn 86 [.ptr 1083 0,.ptr 1084 0,.dptr [LS 1 (E0) p3],Ed p4,.ptr 1085 0]) (Z7 H98 O O O O) O (JLh (Ee y56) (Ga Q7 O O O) O (JLh (G0 y56.H2) (Gh Gc O O O) O ?_)))
         obtain⟨r63,hr63,h⟩:=Gf h
         refine JLh (.tup []) (H03 (args:=[G0 y56.H2]) (caps:=[.ptr 1083 0,.ptr 1084 0,.dptr [LS 1 (E0) p3],Ed p4,.ptr 1085 0]) (L0:=[(1083,.box 153 [.mp 1089]),(1089,MP 153 (fun n:Int=>Value.int .i64 n) (fun _:Unit=>.agg []) s56.1),(1084,.box 51 [.vec 1090 s56.2.length 1 s56.2.length]),(1090,.vec 3 1 s56.2.length (s56.2.map G0)),(1085,.box 154 [.fn 86 [.ptr 1083 0,.ptr 1084 0,.dptr [LS 1 (E0) p3],Ed p4,.ptr 1085 0]])]) (Lr:=[(1083,.box 153 [.mp 1089]),(1089,MP 153 (fun n:Int=>Value.int .i64 n) (fun _:Unit=>.agg []) r63.1),(1084,.box 51 [.vec 1090 r63.2.length 1 r63.2.length]),(1090,.vec 3 1 r63.2.length (r63.2.map G0)),(1085,.box 154 [.fn 86 [.ptr 1083 0,.ptr 1084 0,.dptr [LS 1 (E0) p3],Ed p4,.ptr 1085 0]])]) O O (self_w y56.H2 s56.1 s56.2 p3 p4 r63 hr63) J5a ⟨.inl O,O,G⟩ O ⟨O,O,O,O,O,G⟩ O O O) O (G8 ?_)
         exact ej59 _ _ (r63.1,r63.2) h ⟨(by repeat' constructor),⟨⟨_,rfl,.map⟩,⟨_,rfl,.vec⟩,⟨_,rfl,.boxL rfl ⟨.same rfl,G⟩⟩,⟨_,rfl,.boxL rfl ⟨.same rfl,G⟩⟩,⟨_,rfl,.boxL rfl ⟨.same rfl,G⟩⟩,G⟩,rfl⟩
        ·
         refine Gm (ej59 _ _ (s56.1,s56.2) h ⟨(by repeat' constructor),⟨⟨_,rfl,.map⟩,⟨_,rfl,.vec⟩,⟨_,rfl,.boxL rfl ⟨.same rfl,G⟩⟩,⟨_,rfl,.boxL rfl ⟨.same rfl,G⟩⟩,⟨_,rfl,.boxL rfl ⟨.same rfl,G⟩⟩,G⟩,rfl⟩)
       ·intro j59 h
        replace h:=app1 hkj59 h
        refine G2 (JLh (G0 ((i56+1:Nat):Int)) (Hx (Hc hk56 hm53) O O O) O (JLm (G0 ((i56+1:Nat):Int)) O (G8 (e56 _ _ (i56+1) (j59.1,j59.2) (app1 hn56 h) (by omega) ⟨(by repeat' constructor),⟨⟨_,rfl,.map⟩,⟨_,rfl,.vec⟩,⟨_,rfl,.boxL rfl ⟨.same rfl,G⟩⟩,⟨_,rfl,.boxL rfl ⟨.same rfl,G⟩⟩,⟨_,rfl,.boxL rfl ⟨.same rfl,G⟩⟩,G⟩,rfl⟩))))
      ·
       have h:=app1 hkx56 (Ht hi56 (H9 hb))
       refine Hd (hK22 (Jr fun hK64=>(JLh (LS 1 (E0) p3) (Gh H99 O O O) O (JLl G24 O O O fun hm68=>(JLm (G0 0) O (G8 (hK64 (Gk ?_))))))))
       obtain⟨b65,kx65,hb65,hkx65,h⟩:=J4 h
       refine H6 (fun i65 (s65:(Hp Int Unit)×(List Int))=>each b65 kx65 (List.drop i65 p3) i65 s65=some r) (fun i65 s65=>[(0,G0 id_),(3,.dptr [LS 1 (E0) p3]),(4,Ed p4),(5,.ptr 1085 0),(11,G0 j17),(26,LS 1 (E0) p3),(27,Em p3.length),(28,Em i7),(67,LS 1 (E0) p3),(68,Em p3.length),(69,Em i65)]) (fun i65 s65=>[(1089,MP 153 (fun n:Int=>Value.int .i64 n) (fun _:Unit=>.agg []) s65.1),(1090,.vec 3 1 s65.2.length (s65.2.map G0)),(1083,.box 153 [.mp 1089]),(1084,.box 51 [.vec 1090 s65.2.length 1 s65.2.length]),(1085,.box 154 [.fn 86 [.ptr 1083 0,.ptr 1084 0,.dptr [LS 1 (E0) p3],Ed p4,.ptr 1085 0]])]) (fun i65=>p3.length - i65) 0 (s56.1,s56.2) h ⟨(by repeat' constructor),⟨⟨_,rfl,.map⟩,⟨_,rfl,.vec⟩,⟨_,rfl,.boxL rfl ⟨.same rfl,G⟩⟩,⟨_,rfl,.boxL rfl ⟨.same rfl,G⟩⟩,⟨_,rfl,.boxL rfl ⟨.same rfl,G⟩⟩,G⟩,rfl⟩ ?_
       clear h
       intro i65 s65 hi65 K65 e65
       refine Jr fun hK66=>(JLh (BL (decide ((i65:Int) < (p3.length:Int)))) (Hy O O O) O (G8 (hK66 (Js fun hK67=>Gj O (fun hb=>?_) (fun hb=>?_)))))
       ·
        have hk65:=Je hb
        obtain⟨y65,nx65,hy65,hn65,h⟩:=Hs hi65 hk65
        replace h:=Y8 hb65 h
        refine Gm (hK67 (Js fun hK68=>Gk (Jr fun hK69=>(JLh (.dptr [E0 y65]) (Gs (f:=(E0)) (xs:=p3) (y:=y65) O O O G24 hy65 O) O (JLh (E0 y65) (Gh H3f O O O) O (JLm (E0 y65) O (G8 (hK69 (Jr fun hK70=>(JLm (E0 y65) O (JLl Gz O O O fun hm74=>(JLm (G0 0) O (G8 (hK70 (Gk ?_)))))))))))))))
        obtain⟨b107,kx107,hb107,hkx107,h⟩:=J4 h
        refine H6 (fun i107 (s107:(Hp Int Unit)×(List Int))=>each b107 kx107 (List.drop i107 y65) i107 s107=some r) (fun i107 s107=>[(0,G0 id_),(3,.dptr [LS 1 (E0) p3]),(4,Ed p4),(5,.ptr 1085 0),(11,G0 j17),(26,LS 1 (E0) p3),(27,Em p3.length),(28,Em i7),(67,LS 1 (E0) p3),(68,Em p3.length),(69,Em i65),(73,E0 y65),(74,Em y65.length),(75,Em i107)]) (fun i107 s107=>[(1089,MP 153 (fun n:Int=>Value.int .i64 n) (fun _:Unit=>.agg []) s107.1),(1090,.vec 3 1 s107.2.length (s107.2.map G0)),(1083,.box 153 [.mp 1089]),(1084,.box 51 [.vec 1090 s107.2.length 1 s107.2.length]),(1085,.box 154 [.fn 86 [.ptr 1083 0,.ptr 1084 0,.dptr [LS 1 (E0) p3],Ed p4,.ptr 1085 0]])]) (fun i107=>y65.length - i107) 0 (s65.1,s65.2) h ⟨(by repeat' constructor),⟨⟨_,rfl,.map⟩,⟨_,rfl,.vec⟩,⟨_,rfl,.boxL rfl ⟨.same rfl,G⟩⟩,⟨_,rfl,.boxL rfl ⟨.same rfl,G⟩⟩,⟨_,rfl,.boxL rfl ⟨.same rfl,G⟩⟩,G⟩,rfl⟩ ?_
        clear h
        intro i107 s107 hi107 K107 e107
        refine Jr fun hK108=>(JLh (BL (decide ((i107:Int) < (y65.length:Int)))) (Hy O O O) O (G8 (hK108 (Js fun hK109=>Gj O (fun hb=>?_) (fun hb=>?_)))))
        ·
         have hk107:=Je hb
         obtain⟨y107,nx107,hy107,hn107,h⟩:=Hs hi107 hk107
         replace h:=Y8 hb107 h
         refine Gm (hK109 ?_)
         obtain⟨kj110,hkj110,h⟩:=Zf h
         refine Rt (fun j110:(Hp Int Unit)×(List Int)=>kj110 j110=some r) (fun j110=>[(0,G0 id_),(3,.dptr [LS 1 (E0) p3]),(4,Ed p4),(5,.ptr 1085 0),(11,G0 j17),(26,LS 1 (E0) p3),(27,Em p3.length),(28,Em i7),(67,LS 1 (E0) p3),(68,Em p3.length),(69,Em i65),(73,E0 y65),(74,Em y65.length),(75,Em i107)]) (fun j110=>[(1089,MP 153 (fun n:Int=>Value.int .i64 n) (fun _:Unit=>.agg []) j110.1),(1090,.vec 3 1 j110.2.length (j110.2.map G0)),(1083,.box 153 [.mp 1089]),(1084,.box 51 [.vec 1090 j110.2.length 1 j110.2.length]),(1085,.box 154 [.fn 86 [.ptr 1083 0,.ptr 1084 0,.dptr [LS 1 (E0) p3],Ed p4,.ptr 1085 0]])]) (fun Kj110 ej110=>?_) ?_
         ·
          refine Gk (Jr fun hK111=>(JLh (Ee y107) (Gs (f:=G6.av) (xs:=y65) (y:=y107) O O O Gz hy107 O) O (JLh (.agg (G6.cs y107)) (Gi Qv O O O) O (JLh (.ptr 1129 0) (Ju 1129 4 Rv O O) O (Ja (u:=.junk) (J0 (u:=.agg (G6.cs y107)) (ds:=[G0 y107.H2,G0 y107.Slot.G4,G0 y107.Slot.Tier,U8 y107.Slot.Half]) Z4 O O O O O O O O) (G8 (hK111 ?_)))))))
          refine Gx [(0,G0 id_),(3,.dptr [LS 1 (E0) p3]),(4,Ed p4),(5,.ptr 1085 0),(11,G0 j17),(17,Ee y107),(26,LS 1 (E0) p3),(27,Em p3.length),(28,Em i7),(67,LS 1 (E0) p3),(68,Em p3.length),(69,Em i65),(73,E0 y65),(74,Em y65.length),(75,Em i107)] [(1089,MP 153 (fun n:Int=>Value.int .i64 n) (fun _:Unit=>.agg []) s107.1),(1090,.vec 3 1 s107.2.length (s107.2.map G0)),(1083,.box 153 [.mp 1089]),(1084,.box 51 [.vec 1090 s107.2.length 1 s107.2.length]),(1085,.box 154 [.fn 86 [.ptr 1083 0,.ptr 1084 0,.dptr [LS 1 (E0) p3],Ed p4,.ptr 1085 0]])] 1129 rfl rfl rfl ⟨⟨_,rfl,.map⟩,⟨_,rfl,.vec⟩,⟨_,rfl,.boxEq rfl rfl⟩,⟨_,rfl,.boxEq rfl rfl⟩,⟨_,rfl,.boxEq rfl rfl⟩,G⟩ rfl (by repeat' (first | exact .ptr | constructor)) ?_
          refine Jr fun hK112=>(JLm (G0 j17) O (JLh (BL (decide (0≤j17))) (G06 O O O) O (JLm (BL (decide (0≤j17))) O (JLo (Ed p4) [] O .sct G (fun hc=>Ga Hi O O O) O (JLo (E5 p4.Columns) [82] O .sct ⟨Ua,G⟩ (fun hc=>Gh Ho O O O) O (JLo (.dptr ((G6.cs y107).drop 1)) [] O .sct G (fun hc=>Ga Hg O O O) O (JLo (.dptr ((G6.cs y107).drop 1)) [84] O .sct ⟨Ua,G⟩ (fun hc=>Ga Hk O O O) O (JLo (G0 y107.Slot.G4) [85] O .sct ⟨Ua,G⟩ (fun hc=>Gh Gc O O O) O ?_))))))))
          obtain⟨y113,hy113,h⟩:=Gf h
          refine JLo (Ef y113) [83,86] O .sct ⟨Ua,Ua,G⟩ (fun hc=>(match Jm (Gv hc hy113) with | ⟨_,hm_,hy_⟩=>Gs (f:=G4.av) (xs:=p4.Columns) (y:=y113) O O O H7 hy_ hm_)) O (JLo (.dptr ((G4.cs y113).drop 2)) [87] O .sct ⟨Ua,G⟩ (fun hc=>Ga Yb O O O) O (JLo (BL y113.Deck) [88] O .sct ⟨Ua,G⟩ (fun hc=>Gh R5 O O O) O (JLh (BL ((decide (0≤j17))&&y113.Deck)) (J3 O O O O) O (JLm (BL ((decide (0≤j17))&&y113.Deck)) O (JLo (.agg (H8.cs p4)) [] O .sct G (fun hc=>Gi J1 O O O) O (JLo (.dptr ((G6.cs y107).drop 1)) [] O .sct G (fun hc=>Ga Hg O O O) O (JLo (.dptr ((G6.cs y107).drop 1)) [93] O .sct ⟨Ua,G⟩ (fun hc=>Ga Hk O O O) O (JLo (G0 y107.Slot.G4) [94] O .sct ⟨Ua,G⟩ (fun hc=>Gh Gc O O O) O ?_))))))))
          obtain⟨r114,hr114,h⟩:=Gf h
          refine JLo (G0 r114) [92,95] O .sct ⟨Ua,Ua,G⟩ (fun hc=>Gq (args:=[.agg (H8.cs p4),G0 y107.Slot.G4]) O (H13 p4 y107.Slot.G4 r114 (Gv hc hr114)) J58 ⟨O,O,O,O,G⟩) O (JLo (G0 j17) [] O .sct G (fun hc=>G5 O O) O (JLo (BL (decide (r114=j17))) [96,97] O .sct ⟨Ua,Ua,G⟩ (fun hc=>Jk O O O) O (JLh (BL (((decide (0≤j17))&&y113.Deck)&&(decide (r114=j17)))) (J3 O O O O) O (G8 (hK112 (JCc O h (fun h hb=>?_) (fun h hb=>?_)))))))
          ·
           refine G2 (JLh (.fn 86 [.ptr 1083 0,.ptr 1084 0,.dptr [LS 1 (E0) p3],Ed p4,.ptr 1085 0]) (Z7 H98 O O O O) O (JLh (Ee y107) (Ga Q7 O O O) O (JLh (G0 y107.H2) (Gh Gc O O O) O ?_)))
           obtain⟨r115,hr115,h⟩:=Gf h
           refine JLh (.tup []) (H03 (args:=[G0 y107.H2]) (caps:=[.ptr 1083 0,.ptr 1084 0,.dptr [LS 1 (E0) p3],Ed p4,.ptr 1085 0]) (L0:=[(1083,.box 153 [.mp 1089]),(1089,MP 153 (fun n:Int=>Value.int .i64 n) (fun _:Unit=>.agg []) s107.1),(1084,.box 51 [.vec 1090 s107.2.length 1 s107.2.length]),(1090,.vec 3 1 s107.2.length (s107.2.map G0)),(1085,.box 154 [.fn 86 [.ptr 1083 0,.ptr 1084 0,.dptr [LS 1 (E0) p3],Ed p4,.ptr 1085 0]])]) (Lr:=[(1083,.box 153 [.mp 1089]),(1089,MP 153 (fun n:Int=>Value.int .i64 n) (fun _:Unit=>.agg []) r115.1),(1084,.box 51 [.vec 1090 r115.2.length 1 r115.2.length]),(1090,.vec 3 1 r115.2.length (r115.2.map G0)),(1085,.box 154 [.fn 86 [.ptr 1083 0,.ptr 1084 0,.dptr [LS 1 (E0) p3],Ed p4,.ptr 1085 0]])]) O O (self_w y107.H2 s107.1 s107.2 p3 p4 r115 hr115) J5a ⟨.inl O,O,G⟩ O ⟨O,O,O,O,O,G⟩ O O O) O (G8 ?_)
           exact ej110 _ _ (r115.1,r115.2) h ⟨(by repeat' constructor),⟨⟨_,rfl,.map⟩,⟨_,rfl,.vec⟩,⟨_,rfl,.boxL rfl ⟨.same rfl,G⟩⟩,⟨_,rfl,.boxL rfl ⟨.same rfl,G⟩⟩,⟨_,rfl,.boxL rfl ⟨.same rfl,G⟩⟩,G⟩,rfl⟩
          ·
           refine Gm (ej110 _ _ (s107.1,s107.2) h ⟨(by repeat' constructor),⟨⟨_,rfl,.map⟩,⟨_,rfl,.vec⟩,⟨_,rfl,.boxL rfl ⟨.same rfl,G⟩⟩,⟨_,rfl,.boxL rfl ⟨.same rfl,G⟩⟩,⟨_,rfl,.boxL rfl ⟨.same rfl,G⟩⟩,G⟩,rfl⟩)
         ·intro j110 h
          replace h:=app1 hkj110 h
          refine G2 (JLh (G0 ((i107+1:Nat):Int)) (Hx (Hc hk107 hm74) O O O) O (JLm (G0 ((i107+1:Nat):Int)) O (G8 (e107 _ _ (i107+1) (j110.1,j110.2) (app1 hn107 h) (by omega) ⟨(by repeat' constructor),⟨⟨_,rfl,.map⟩,⟨_,rfl,.vec⟩,⟨_,rfl,.boxL rfl ⟨.same rfl,G⟩⟩,⟨_,rfl,.boxL rfl ⟨.same rfl,G⟩⟩,⟨_,rfl,.boxL rfl ⟨.same rfl,G⟩⟩,G⟩,rfl⟩))))
        ·
         have h:=app1 hkx107 (Ht hi107 (H9 hb))
         refine Hd (hK68 (G2 (JLh (G0 ((i65+1:Nat):Int)) (Hx (Hc hk65 hm68) O O O) O (JLm (G0 ((i65+1:Nat):Int)) O (G8 (e65 _ _ (i65+1) (s107.1,s107.2) (app1 hn65 h) (by omega) ⟨(by repeat' constructor),⟨⟨_,rfl,.map⟩,⟨_,rfl,.vec⟩,⟨_,rfl,.boxL rfl ⟨.same rfl,G⟩⟩,⟨_,rfl,.boxL rfl ⟨.same rfl,G⟩⟩,⟨_,rfl,.boxL rfl ⟨.same rfl,G⟩⟩,G⟩,rfl⟩))))))
       ·
        have h:=app1 hkx65 (Ht hi65 (H9 hb))
        refine Hd (ej10 _ _ (s65.1,s65.2) h ⟨(by repeat' constructor),⟨⟨_,rfl,.map⟩,⟨_,rfl,.vec⟩,⟨_,rfl,.boxL rfl ⟨.same rfl,G⟩⟩,⟨_,rfl,.boxL rfl ⟨.same rfl,G⟩⟩,⟨_,rfl,.boxL rfl ⟨.same rfl,G⟩⟩,G⟩,rfl⟩)
   ·intro j10 h
    replace h:=app1 hkj10 h
    refine G2 (JLh (G0 ((i7+1:Nat):Int)) (Hx (Hc hk7 hm27) O O O) O (JLm (G0 ((i7+1:Nat):Int)) O (G8 (e7 _ _ (i7+1) (j10.1,j10.2) (app1 hn7 h) (by omega) ⟨(by repeat' constructor),⟨⟨_,rfl,.map⟩,⟨_,rfl,.vec⟩,⟨_,rfl,.boxL rfl ⟨.same rfl,G⟩⟩,⟨_,rfl,.boxL rfl ⟨.same rfl,G⟩⟩,⟨_,rfl,.boxL rfl ⟨.same rfl,G⟩⟩,G⟩,rfl⟩))))
  ·
   have h:=app1 hkx7 (Ht hi7 (H9 hb))
   refine Hd ?_
   obtain rfl:=Option.some.inj h
   exact⟨[],[(1083,.box 153 [.mp 1089]),(1089,MP 153 (fun n:Int=>Value.int .i64 n) (fun _:Unit=>.agg []) s7.1),(1084,.box 51 [.vec 1090 s7.2.length 1 s7.2.length]),(1090,.vec 3 1 s7.2.length (s7.2.map G0)),(1085,.box 154 [.fn 86 [.ptr 1083 0,.ptr 1084 0,.dptr [LS 1 (E0) p3],Ed p4,.ptr 1085 0]])],⟨⟨_,O,.boxL O ⟨.same O,G⟩⟩,⟨_,O,.map⟩,⟨_,O,.boxL O ⟨.same O,G⟩⟩,⟨_,O,.vec⟩,⟨_,O,.boxL O ⟨.same O,G⟩⟩,G⟩,O,G,O,O⟩
theorem J95:∀ (F:Nat) (id_:Int) (p1:Hp Int Unit) (p2:List Int) (p3:List (List G6)) (p4:H8) (r:(Hp Int Unit)×(List Int)) (h:G3e F id_ p1 p2 p3 p4=some r),Rn En 86 [G0 id_,.ptr 1083 0,.ptr 1084 0,.dptr [LS 1 (E0) p3],Ed p4,.ptr 1085 0] [(1083,.box 153 [.mp 1089]),(1089,MP 153 (fun n:Int=>Value.int .i64 n) (fun _:Unit=>.agg []) p1),(1084,.box 51 [.vec 1090 p2.length 1 p2.length]),(1090,.vec 3 1 p2.length (p2.map G0)),(1085,.box 154 [.fn 86 [.ptr 1083 0,.ptr 1084 0,.dptr [LS 1 (E0) p3],Ed p4,.ptr 1085 0]])] (fun av L'=>av=.tup []∧L'=[(1083,.box 153 [.mp 1089]),(1089,MP 153 (fun n:Int=>Value.int .i64 n) (fun _:Unit=>.agg []) r.1),(1084,.box 51 [.vec 1090 r.2.length 1 r.2.length]),(1090,.vec 3 1 r.2.length (r.2.map G0)),(1085,.box 154 [.fn 86 [.ptr 1083 0,.ptr 1084 0,.dptr [LS 1 (E0) p3],Ed p4,.ptr 1085 0]])]):=by
 intro F
 induction F with
 | zero=>intro id_ p1 p2 p3 p4 r h; cases h
 | succ F ih=>intro id_ p1 p2 p3 p4 r h; exact J9a (G3e F) ih F id_ p1 p2 p3 p4 r h

def Gd1 (F:Nat) (s:H8) (before:List G6) (after:List G6):Option (List Int):=
 each (fun y9 i9 (s9:(Hp Int Unit)×(List Int)) nx9=>
  each (fun y59 i59 (s59:(Hp Int Unit)×(List Int)) nx59=>
   jp (fun kj62=>
    bnd (Gac before y59.H2) fun r65=>
    bnd (Gac after y59.H2) fun r67=>
    bif ((!(r65.2==r67.2))||(!decide (r65.1=r67.1))) then
    (bnd (G3e F y59.H2 s59.1 s59.2 [before,after] s) fun r69=>
     kj62 (r69.1,r69.2))
    else
    (kj62 (s59.1,s59.2))) fun(j62:(Hp Int Unit)×(List Int))=>
   nx59 (j62.1,j62.2))
  (fun(s59:(Hp Int Unit)×(List Int))=>
   nx9 (s59.1,s59.2)) y9 0 (s9.1,s9.2))
 (fun(s9:(Hp Int Unit)×(List Int))=>
  bnd (Ja5 s9.2) fun r71=>
  some r71) [before,after] 0 ((Hp.empty:Hp Int Unit),[])
theorem Jf3 (F:Nat) (s:H8) (before:List G6) (after:List G6) (r:(List Int)) (h:Gd1 F s before after=some r):Pure En 53 [.agg (H8.cs s),E0 before,E0 after] (·=E1 r):=by
 unfold Gd1 at h
 refine H0 [.tmp 6] Tryz.func53 O O (Jr fun hK1=>(JLh (.ptr 1081 0) (Jq (cs:=(H8.cs s)) 1081 O O O O O) O (JLh (E1 ([]:List Int)) (Q2 1 O O) O (G8 (hK1 ?_)))))
 refine Gx [(1,E0 before),(2,E0 after),(3,Ed s)] [] 1081 rfl rfl rfl G rfl (by exact⟨.conv (.same rfl),.conv (.same rfl),.ptr,G⟩) ?_
 refine Jr fun hK2=>(JLm (E0 before) O (JLm (E0 after) O (JLh (LS 1 (E0) [before,after]) (Hv (xs:=[E0 before,E0 after]) O ⟨O,O,O,O,G⟩ G24 Jbc O O O O) O (JLh (.ptr 1082 0) (Ju 1082 1 Q79 O O) O (Ja (u:=.junk) (J0 (u:=LS 1 (E0) [before,after]) (ds:=[LS 1 (E0) [before,after]]) Q88 O O O O O O O O) (G8 (hK2 ?_)))))))
 refine Gx [(1,E0 before),(2,E0 after),(3,Ed s),(7,.dptr [LS 1 (E0) [before,after]])] [] 1082 rfl rfl rfl G rfl (by repeat' (first | exact .ptr | constructor)) (Jr fun hK3=>(JLh (.mp 1089) (J70 1089 (fun n:Int=>Value.int .i64 n) (fun _:Unit=>.agg []) O O) O (JLh (.ptr 1083 0) (Ju 1083 1 Q78 O O) O (Ja (u:=.junk) (J0 (u:=.mp 1089) (ds:=[.mp 1089]) Q87 O O O O O O O O) (G8 (hK3 ?_))))))
 refine Jr fun hK4=>(JLh (.ptr 1084 0) (G15 1084 [.sc (.slice none 0 0)] [.slice none 0 0] Qc0 ⟨.inl O,G⟩ O O) O (Qfe 1084 0 1090 3 1 O O O (cs':=[.vec 1090 (([]:List Int).length) 1 (([]:List Int).length)]) O (G8 (hK4 (Jr fun hK5=>(JLh (.ptr 1085 0) (Ju 1085 1 Q77 O O) O (G8 (hK5 ?_))))))))
 refine Jr fun hK6=>(JLh (.fn 86 [.ptr 1083 0,.ptr 1084 0,.dptr [LS 1 (E0) [before,after]],Ed s,.ptr 1085 0]) (Gae (cs:=[.ptr 1083 0,.ptr 1084 0,.dptr [LS 1 (E0) [before,after]],Ed s,.ptr 1085 0]) O O) O (Ja (u:=.junk) (J0 (u:=.fn 86 [.ptr 1083 0,.ptr 1084 0,.dptr [LS 1 (E0) [before,after]],Ed s,.ptr 1085 0]) (ds:=[.fn 86 [.ptr 1083 0,.ptr 1084 0,.dptr [LS 1 (E0) [before,after]],Ed s,.ptr 1085 0]]) Q86 O O O O O O O O) (G8 (hK6 ?_))))
 refine Js fun hK7=>Jr fun hK8=>(JLh (LS 1 (E0) [before,after]) (Gh H99 O O O) O (JLl G24 O O O fun hm25=>(JLm (G0 0) O (G8 (hK8 (Gk ?_))))))
 obtain⟨b9,kx9,hb9,hkx9,h⟩:=J4 h
 refine H6 (fun i9 (s9:(Hp Int Unit)×(List Int))=>each b9 kx9 (List.drop i9 [before,after]) i9 s9=some r) (fun i9 s9=>[(1,E0 before),(2,E0 after),(9,.ptr 1084 0),(10,.ptr 1085 0),(24,LS 1 (E0) [before,after]),(25,G0 ([before,after].length:Int)),(26,Em i9)]) (fun i9 s9=>[(1089,MP 153 (fun n:Int=>Value.int .i64 n) (fun _:Unit=>.agg []) s9.1),(1090,.vec 3 1 s9.2.length (s9.2.map G0)),(1083,.box 153 [.mp 1089]),(1084,.box 51 [.vec 1090 s9.2.length 1 s9.2.length]),(1085,.box 154 [.fn 86 [.ptr 1083 0,.ptr 1084 0,.dptr [LS 1 (E0) [before,after]],Ed s,.ptr 1085 0]])]) (fun i9=>[before,after].length - i9) 0 ((Hp.empty:Hp Int Unit),[]) h ⟨(by repeat' constructor),⟨⟨_,rfl,.map⟩,⟨_,rfl,.vec⟩,⟨_,rfl,.boxL rfl ⟨.same rfl,G⟩⟩,⟨_,rfl,.boxL rfl ⟨.same rfl,G⟩⟩,⟨_,rfl,.boxL rfl ⟨.same rfl,G⟩⟩,G⟩,rfl⟩ ?_
 clear h
 intro i9 s9 hi9 K9 e9
 refine Jr fun hK10=>(JLh (BL (decide ((i9:Int) < ([before,after].length:Int)))) (Hy O O O) O (G8 (hK10 (Js fun hK11=>Gj O (fun hb=>?_) (fun hb=>?_)))))
 ·
  have hk9:=Je hb
  obtain⟨y9,nx9,hy9,hn9,h⟩:=Hs hi9 hk9
  replace h:=Y8 hb9 h
  refine Gm (hK11 (Js fun hK12=>Gk (Jr fun hK13=>(JLh (.dptr [E0 y9]) (Gs (f:=(E0)) (xs:=[before,after]) (y:=y9) O O O G24 hy9 O) O (JLh (E0 y9) (Gh H3f O O O) O (JLm (E0 y9) O (G8 (hK13 (Jr fun hK14=>(JLm (E0 y9) O (JLl Gz O O O fun hm31=>(JLm (G0 0) O (G8 (hK14 (Gk ?_)))))))))))))))
  obtain⟨b59,kx59,hb59,hkx59,h⟩:=J4 h
  refine H6 (fun i59 (s59:(Hp Int Unit)×(List Int))=>each b59 kx59 (List.drop i59 y9) i59 s59=some r) (fun i59 s59=>[(1,E0 before),(2,E0 after),(9,.ptr 1084 0),(10,.ptr 1085 0),(24,LS 1 (E0) [before,after]),(25,G0 ([before,after].length:Int)),(26,Em i9),(30,E0 y9),(31,Em y9.length),(32,Em i59)]) (fun i59 s59=>[(1089,MP 153 (fun n:Int=>Value.int .i64 n) (fun _:Unit=>.agg []) s59.1),(1090,.vec 3 1 s59.2.length (s59.2.map G0)),(1083,.box 153 [.mp 1089]),(1084,.box 51 [.vec 1090 s59.2.length 1 s59.2.length]),(1085,.box 154 [.fn 86 [.ptr 1083 0,.ptr 1084 0,.dptr [LS 1 (E0) [before,after]],Ed s,.ptr 1085 0]])]) (fun i59=>y9.length - i59) 0 (s9.1,s9.2) h ⟨(by repeat' constructor),⟨⟨_,rfl,.map⟩,⟨_,rfl,.vec⟩,⟨_,rfl,.boxL rfl ⟨.same rfl,G⟩⟩,⟨_,rfl,.boxL rfl ⟨.same rfl,G⟩⟩,⟨_,rfl,.boxL rfl ⟨.same rfl,G⟩⟩,G⟩,rfl⟩ ?_
  clear h
  intro i59 s59 hi59 K59 e59
  refine Jr fun hK60=>(JLh (BL (decide ((i59:Int) < (y9.length:Int)))) (Hy O O O) O (G8 (hK60 (Js fun hK61=>Gj O (fun hb=>?_) (fun hb=>?_)))))
  ·
   have hk59:=Je hb
   obtain⟨y59,nx59,hy59,hn59,h⟩:=Hs hi59 hk59
   replace h:=Y8 hb59 h
   refine Gm (hK61 ?_)
   obtain⟨kj62,hkj62,h⟩:=Zf h
   refine Rt (fun j62:(Hp Int Unit)×(List Int)=>kj62 j62=some r) (fun j62=>[(1,E0 before),(2,E0 after),(9,.ptr 1084 0),(10,.ptr 1085 0),(24,LS 1 (E0) [before,after]),(25,G0 ([before,after].length:Int)),(26,Em i9),(30,E0 y9),(31,Em y9.length),(32,Em i59)]) (fun j62=>[(1089,MP 153 (fun n:Int=>Value.int .i64 n) (fun _:Unit=>.agg []) j62.1),(1090,.vec 3 1 j62.2.length (j62.2.map G0)),(1083,.box 153 [.mp 1089]),(1084,.box 51 [.vec 1090 j62.2.length 1 j62.2.length]),(1085,.box 154 [.fn 86 [.ptr 1083 0,.ptr 1084 0,.dptr [LS 1 (E0) [before,after]],Ed s,.ptr 1085 0]])]) (fun Kj62 ej62=>?_) ?_
   ·
    refine Gk (Jr fun hK63=>(JLh (Ee y59) (Gs (f:=G6.av) (xs:=y9) (y:=y59) O O O Gz hy59 O) O (JLh (.agg (G6.cs y59)) (Gi Qv O O O) O (JLh (.ptr 1086 0) (Ju 1086 4 Rv O O) O (Ja (u:=.junk) (J0 (u:=.agg (G6.cs y59)) (ds:=[G0 y59.H2,G0 y59.Slot.G4,G0 y59.Slot.Tier,U8 y59.Slot.Half]) Z4 O O O O O O O O) (G8 (hK63 ?_)))))))
    refine Gx [(1,E0 before),(2,E0 after),(9,.ptr 1084 0),(10,.ptr 1085 0),(14,Ee y59),(24,LS 1 (E0) [before,after]),(25,G0 ([before,after].length:Int)),(26,Em i9),(30,E0 y9),(31,Em y9.length),(32,Em i59)] [(1089,MP 153 (fun n:Int=>Value.int .i64 n) (fun _:Unit=>.agg []) s59.1),(1090,.vec 3 1 s59.2.length (s59.2.map G0)),(1083,.box 153 [.mp 1089]),(1084,.box 51 [.vec 1090 s59.2.length 1 s59.2.length]),(1085,.box 154 [.fn 86 [.ptr 1083 0,.ptr 1084 0,.dptr [LS 1 (E0) [before,after]],Ed s,.ptr 1085 0]])] 1086 rfl rfl rfl ⟨⟨_,rfl,.map⟩,⟨_,rfl,.vec⟩,⟨_,rfl,.boxEq rfl rfl⟩,⟨_,rfl,.boxEq rfl rfl⟩,⟨_,rfl,.boxEq rfl rfl⟩,G⟩ rfl (by repeat' (first | exact .ptr | constructor)) ?_
    refine Jr fun hK64=>(JLm (E0 before) O (JLh (Ee y59) (Ga Q7 O O O) O (JLh (G0 y59.H2) (Gh Gc O O O) O ?_)))
    obtain⟨r65,hr65,h⟩:=Gf h
    refine JLh (.tup [.agg (Slot.cs r65.1),BL r65.2]) (Gq O (Hab before y59.H2 r65 hr65) J59 ⟨O,O,O,O,G⟩) O (JLm (.tup [.agg (Slot.cs r65.1),BL r65.2]) O (JLh (.agg (Slot.cs r65.1)) (Jn O O O) O (JLh (BL r65.2) (Jn O O O) O (JLh (.ptr 1087 0) (Ju 1087 3 Gde O O) O (Ja (u:=.junk) (J0 (u:=.agg (Slot.cs r65.1)) (ds:=[G0 r65.1.G4,G0 r65.1.Tier,U8 r65.1.Half]) H09 O O O O O O O O) (JLm (BL r65.2) O (G8 (hK64 ?_))))))))
    refine Gx [(1,E0 before),(2,E0 after),(9,.ptr 1084 0),(10,.ptr 1085 0),(14,Ee y59),(15,Ei r65.1),(16,BL r65.2),(24,LS 1 (E0) [before,after]),(25,G0 ([before,after].length:Int)),(26,Em i9),(30,E0 y9),(31,Em y9.length),(32,Em i59)] [(1089,MP 153 (fun n:Int=>Value.int .i64 n) (fun _:Unit=>.agg []) s59.1),(1090,.vec 3 1 s59.2.length (s59.2.map G0)),(1083,.box 153 [.mp 1089]),(1084,.box 51 [.vec 1090 s59.2.length 1 s59.2.length]),(1085,.box 154 [.fn 86 [.ptr 1083 0,.ptr 1084 0,.dptr [LS 1 (E0) [before,after]],Ed s,.ptr 1085 0]])] 1087 rfl rfl rfl ⟨⟨_,rfl,.map⟩,⟨_,rfl,.vec⟩,⟨_,rfl,.boxEq rfl rfl⟩,⟨_,rfl,.boxEq rfl rfl⟩,⟨_,rfl,.boxEq rfl rfl⟩,G⟩ rfl (by repeat' (first | exact .ptr | constructor)) ?_
    refine Jr fun hK66=>(JLm (E0 after) O (JLh (Ee y59) (Ga Q7 O O O) O (JLh (G0 y59.H2) (Gh Gc O O O) O ?_)))
    obtain⟨r67,hr67,h⟩:=Gf h
    refine JLh (.tup [.agg (Slot.cs r67.1),BL r67.2]) (Gq O (Hab after y59.H2 r67 hr67) J59 ⟨O,O,O,O,G⟩) O (JLm (.tup [.agg (Slot.cs r67.1),BL r67.2]) O (JLh (.agg (Slot.cs r67.1)) (Jn O O O) O (JLh (BL r67.2) (Jn O O O) O (JLh (.ptr 1088 0) (Ju 1088 3 Gde O O) O (Ja (u:=.junk) (J0 (u:=.agg (Slot.cs r67.1)) (ds:=[G0 r67.1.G4,G0 r67.1.Tier,U8 r67.1.Half]) H09 O O O O O O O O) (JLm (BL r67.2) O (G8 (hK66 ?_))))))))
    refine Gx [(1,E0 before),(2,E0 after),(9,.ptr 1084 0),(10,.ptr 1085 0),(14,Ee y59),(15,Ei r65.1),(16,BL r65.2),(17,Ei r67.1),(18,BL r67.2),(24,LS 1 (E0) [before,after]),(25,G0 ([before,after].length:Int)),(26,Em i9),(30,E0 y9),(31,Em y9.length),(32,Em i59)] [(1089,MP 153 (fun n:Int=>Value.int .i64 n) (fun _:Unit=>.agg []) s59.1),(1090,.vec 3 1 s59.2.length (s59.2.map G0)),(1083,.box 153 [.mp 1089]),(1084,.box 51 [.vec 1090 s59.2.length 1 s59.2.length]),(1085,.box 154 [.fn 86 [.ptr 1083 0,.ptr 1084 0,.dptr [LS 1 (E0) [before,after]],Ed s,.ptr 1085 0]])] 1088 rfl rfl rfl ⟨⟨_,rfl,.map⟩,⟨_,rfl,.vec⟩,⟨_,rfl,.boxEq rfl rfl⟩,⟨_,rfl,.boxEq rfl rfl⟩,⟨_,rfl,.boxEq rfl rfl⟩,G⟩ rfl (by repeat' (first | exact .ptr | constructor)) ?_
    refine Jr fun hK68=>(JLm (BL r65.2) O (JLm (BL r67.2) O (JLh (BL (!(r65.2==r67.2))) (Q61 Ge1 O O O) O (JLm (BL (!(r65.2==r67.2))) O (JLo (.agg (Slot.cs r65.1)) [] O .scf G (fun hc=>Gi Jg O O O) O (JLo (.agg (Slot.cs r67.1)) [] O .scf G (fun hc=>Gi Jg O O O) O (JLo (BL (!decide (r65.1=r67.1))) [54,55] O .scf ⟨Ua,Ua,G⟩ (fun hc=>J3d (vs:=[.int .i64 r65.1.G4,.int .i64 r65.1.Tier,.int .u8 r65.1.Half]) (us:=[.int .i64 r67.1.G4,.int .i64 r67.1.Tier,.int .u8 r67.1.Half]) 4 O (tq_60 r65.1 r67.1) J0b Ja2 O O O) O (JLh (BL ((!(r65.2==r67.2))||(!decide (r65.1=r67.1)))) (Y7 O O O O) O (G8 (hK68 (JCc O h (fun h hb=>?_) (fun h hb=>?_))))))))))))
    ·
     refine G2 (JLh (.fn 86 [.ptr 1083 0,.ptr 1084 0,.dptr [LS 1 (E0) [before,after]],Ed s,.ptr 1085 0]) (Z7 H98 O O O O) O (JLh (Ee y59) (Ga Q7 O O O) O (JLh (G0 y59.H2) (Gh Gc O O O) O ?_)))
     obtain⟨r69,hr69,h⟩:=Gf h
     refine JLh (.tup []) (H03 (args:=[G0 y59.H2]) (caps:=[.ptr 1083 0,.ptr 1084 0,.dptr [LS 1 (E0) [before,after]],Ed s,.ptr 1085 0]) (L0:=[(1083,.box 153 [.mp 1089]),(1089,MP 153 (fun n:Int=>Value.int .i64 n) (fun _:Unit=>.agg []) s59.1),(1084,.box 51 [.vec 1090 s59.2.length 1 s59.2.length]),(1090,.vec 3 1 s59.2.length (s59.2.map G0)),(1085,.box 154 [.fn 86 [.ptr 1083 0,.ptr 1084 0,.dptr [LS 1 (E0) [before,after]],Ed s,.ptr 1085 0]])]) (Lr:=[(1083,.box 153 [.mp 1089]),(1089,MP 153 (fun n:Int=>Value.int .i64 n) (fun _:Unit=>.agg []) r69.1),(1084,.box 51 [.vec 1090 r69.2.length 1 r69.2.length]),(1090,.vec 3 1 r69.2.length (r69.2.map G0)),(1085,.box 154 [.fn 86 [.ptr 1083 0,.ptr 1084 0,.dptr [LS 1 (E0) [before,after]],Ed s,.ptr 1085 0]])]) O O (J95 F y59.H2 s59.1 s59.2 [before,after] s r69 hr69) J5a ⟨.inl O,O,G⟩ O ⟨O,O,O,O,O,G⟩ O O O) O (G8 ?_)
     exact ej62 _ _ (r69.1,r69.2) h ⟨(by repeat' constructor),⟨⟨_,rfl,.map⟩,⟨_,rfl,.vec⟩,⟨_,rfl,.boxL rfl ⟨.same rfl,G⟩⟩,⟨_,rfl,.boxL rfl ⟨.same rfl,G⟩⟩,⟨_,rfl,.boxL rfl ⟨.same rfl,G⟩⟩,G⟩,rfl⟩
    ·
     refine Gm (ej62 _ _ (s59.1,s59.2) h ⟨(by repeat' constructor),⟨⟨_,rfl,.map⟩,⟨_,rfl,.vec⟩,⟨_,rfl,.boxL rfl ⟨.same rfl,G⟩⟩,⟨_,rfl,.boxL rfl ⟨.same rfl,G⟩⟩,⟨_,rfl,.boxL rfl ⟨.same rfl,G⟩⟩,G⟩,rfl⟩)
   ·intro j62 h
    replace h:=app1 hkj62 h
    refine G2 (JLh (G0 ((i59+1:Nat):Int)) (Hx (Hc hk59 hm31) O O O) O (JLm (G0 ((i59+1:Nat):Int)) O (G8 (e59 _ _ (i59+1) (j62.1,j62.2) (app1 hn59 h) (by omega) ⟨(by repeat' constructor),⟨⟨_,rfl,.map⟩,⟨_,rfl,.vec⟩,⟨_,rfl,.boxL rfl ⟨.same rfl,G⟩⟩,⟨_,rfl,.boxL rfl ⟨.same rfl,G⟩⟩,⟨_,rfl,.boxL rfl ⟨.same rfl,G⟩⟩,G⟩,rfl⟩))))
  ·
   have h:=app1 hkx59 (Ht hi59 (H9 hb))
   refine Hd (hK12 (G2 (JLh (G0 ((i9+1:Nat):Int)) (Hx (Hc hk9 hm25) O O O) O (JLm (G0 ((i9+1:Nat):Int)) O (G8 (e9 _ _ (i9+1) (s59.1,s59.2) (app1 hn9 h) (by omega) ⟨(by repeat' constructor),⟨⟨_,rfl,.map⟩,⟨_,rfl,.vec⟩,⟨_,rfl,.boxL rfl ⟨.same rfl,G⟩⟩,⟨_,rfl,.boxL rfl ⟨.same rfl,G⟩⟩,⟨_,rfl,.boxL rfl ⟨.same rfl,G⟩⟩,G⟩,rfl⟩))))))
 ·
  have h:=app1 hkx9 (Ht hi9 (H9 hb))
  refine Hd (hK7 (Jr fun hK70=>(JLh (.vec 1090 s9.2.length 1 s9.2.length) (Z7 J2 O O O O) O ?_)))
  obtain⟨r71,hr71,h⟩:=Gf h
  refine JLh (.tup []) (A_sortI (F:=91) (xs:=s9.2) (r:=r71) O sortILaw_91 sortINone_91 Qd0 O O O hr71 O) O (G8 (hK70 (Jr fun hK72=>(JLh (.vec 1090 s9.2.length 1 s9.2.length) (Z7 J2 O O O O) O (JLm (.vec 1090 s9.2.length 1 s9.2.length) O (G8 (hK72 (H77 [(6,E1 r71)] [] 1090 rfl rfl G rfl (by exact⟨.vec,G⟩) (Gt (fin1 (fun r:(List Int)=>(E1 r:AV)) h))))))))))

def Gd3 (F:Nat) (s:H8) (boxes:List H2) (before:List G6) (after:List G6):Option ((List Int)×Int):=
 bnd (G64 s boxes before) fun r4=>
 bnd (bif (!(!r4)) then G64 s boxes after else some default) fun r5=>
 bif ((!r4)||(!r5)) then
 (some ([],2))
 else
 (bnd (Gd1 F s before after) fun r8=>
  some (r8,0))
theorem Jf5 (F:Nat) (s:H8) (boxes:List H2) (before:List G6) (after:List G6) (r:(List Int)×Int) (h:Gd3 F s boxes before after=some r):Pure En 27 [.agg (H8.cs s),E3 boxes,E0 before,E0 after] (·=.tup [E1 r.1,G0 r.2]):=by
 unfold Gd3 at h
 refine H0 [.tmp 8,.tmp 9] Tryz.func27 O O (Jr fun hK1=>(JLh (.ptr 1039 0) (Jq (cs:=(H8.cs s)) 1039 O O O O O) O (JLh (E1 ([]:List Int)) (Q2 1 O O) O (JLm (G0 0) O (G8 (hK1 ?_))))))
 refine Gx [(1,E3 boxes),(2,E0 before),(3,E0 after),(4,Ed s)] [] 1039 rfl rfl rfl G rfl (by repeat' (first | exact .ptr | constructor)) (Js fun hK2=>Jr fun hK3=>(JLh (.agg (H8.cs s)) (Gi J1 O O O) O (JLm (E3 boxes) O (JLm (E0 before) O ?_))))
 obtain⟨r4,hr4,h⟩:=Gf h
 refine JLh (BL r4) (Gq O (J21 s boxes before r4 hr4) Q1d ⟨O,O,O,O,O,O,G⟩) O (JLh (BL (!r4)) (R9 (b:=r4) O O) O (JLm (BL (!r4)) O (JLo (.agg (H8.cs s)) [] O .scf G (fun hc=>Gi J1 O O O) O (JLo (E3 boxes) [] O .scf G (fun hc=>G5 O O) O (JLo (E0 after) [] O .scf G (fun hc=>G5 O O) O ?_)))))
 obtain⟨r5,hr5,h⟩:=Gf h
 refine JLo (BL r5) [16,17,18] O .scf ⟨Ua,Ua,Ua,G⟩ (fun hc=>Gq (args:=[.agg (H8.cs s),E3 boxes,E0 after]) O (J21 s boxes after r5 (Gv hc hr5)) Q1d ⟨O,O,O,O,O,O,G⟩) O (JLo (BL (!r5)) [19] O .scf ⟨Ua,G⟩ (fun hc=>R9 (b:=r5) O O) O (JLh (BL ((!r4)||(!r5))) (Y7 O O O O) O (G8 (hK3 (JCc O h (fun h hb=>?_) (fun h hb=>?_))))))
 ·
  refine Jr fun hK6=>(JLh (E1 ([]:List Int)) (Q2 1 O O) O (JLm (G0 2) O (G8 (hK6 (Gt (⟨[E1 ([]:List Int),G0 2],[],G,O,⟨⟨_,O,.conv (.same O)⟩,⟨_,O,.conv (.same O)⟩,G⟩,O,congrArg (fun r:(List Int)×Int=>(.tup [E1 r.1,G0 r.2]:AV)) (Option.some.inj h)⟩))))))
 ·
  refine Gm (hK2 (Jr fun hK7=>(JLh (.agg (H8.cs s)) (Gi J1 O O O) O (JLm (E0 before) O (JLm (E0 after) O ?_)))))
  obtain⟨r8,hr8,h⟩:=Gf h
  refine JLh (E1 r8) (Gq O (Jf3 F s before after r8 hr8) Qe4 ⟨O,O,O,O,O,O,G⟩) O (JLm (E1 r8) O (JLm (G0 0) O (G8 (hK7 (Gt (⟨[E1 r8,G0 0],[],G,O,⟨⟨_,O,.conv (.same O)⟩,⟨_,O,.conv (.same O)⟩,G⟩,O,congrArg (fun r:(List Int)×Int=>(.tup [E1 r.1,G0 r.2]:AV)) (Option.some.inj h)⟩))))))
end
end Go.Proofs.YteogacmpgdpjlaaGreat
