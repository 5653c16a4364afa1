/-
 Models of functions of the program,and that they return what the models say.
-/
import Derived.Test.YtpgkkengffpnpaaGreatXQ
set_option linter.unnecessarySimpa false
set_option maxRecDepth 100000
set_option maxHeartbeats 1000000
set_option linter.unusedVariables false
set_option linter.unusedSimpArgs false
namespace Go.Proofs.YtpgkkengffpnpaaGreat
open Go.RowKit
noncomputable section

namespace XRF
open XAF
open XCF
open XGF
open XHF
open XBF
open XPF
open XQF
theorem Jf9:Hk Ek 20=true:=by kernel_rfl
theorem Jed:Hk Ek 50=true:=by kernel_rfl
theorem Jec:Hk Ek 51=true:=by kernel_rfl
end XRF
open XAF
open XCF
open XGF
open XHF
open XBF
open XPF
open XQF
open XRF

def G6e (s:Gr) (boxes:List G9) (l:List Stowed) (open_:List Int) (id_:Int):Option Int:=
 bnd (Qi s boxes l open_) fun r4=>
 bif (!r4) then
 (some 2)
 else
 (bnd (G17 l id_) fun r7=>
  bif decide (r7.2≠0) then
  (some r7.2)
  else
  (bif decide (0 < (r7.1.length:Int)) then
   (some 90)
   else
   (bnd (Rf l id_) fun r15=>
    Z2 l r15 fun y16=>
    bnd (G48 s y16.Slot.G4) fun r18=>
    bnd (bif decide (0≤r18) then Q8 open_ r18 else some default) fun r20=>
    bif ((decide (0≤r18))&&(!r20)) then
    (some 91)
    else
    (some 0))))
theorem M_stow_Free_w (s:Gr) (boxes:List G9) (l:List Stowed) (open_:List Int) (id_:Int) (r:Int) (h:G6e s boxes l open_ id_=some r):Pure Ek 50 [.agg (Gr.cs s),E2 boxes,E1 l,E0 open_,G0 id_] (·=G0 r):=by
 unfold G6e at h
 refine H5 [.tmp 10] Tryz.func50 O O ?_
 refine Jr fun hK1=>?_
 refine JLg (.ptr 1117 0) (Jj (cs:=(Gr.cs s)) 1117 O O O O O) ?_
 refine Ys (G0 0) O ?_
 refine G7 (hK1 ?_)
 refine Gs [(1,E2 boxes),(2,E1 l),(3,E0 open_),(4,G0 id_),(5,Ec s)] [] 1117 rfl rfl rfl G rfl (by repeat' (first | exact .ptr | constructor)) ?_
 refine Js fun hK2=>?_
 refine Jr fun hK3=>?_
 refine JLg (.agg (Gr.cs s)) (Gg H4 O O O) ?_
 refine Ys (E2 boxes) O ?_
 refine Ys (E1 l) O ?_
 refine Ys (E0 open_) O ?_
 obtain⟨r4,hr4,h⟩:=Gd h
 refine JLg (BL r4) (Gt O (G49 s boxes l open_ r4 hr4) H14 ⟨O,O,O,O,O,O,O,O,G⟩) ?_
 refine JLg (BL (!r4)) (Rm (b:=r4) O O) ?_
 refine G7 (hK3 ?_)
 refine JCc O h (fun h hb=>?_) (fun h hb=>?_)
 ·
  refine Jr fun hK5=>?_
  refine Ys (G0 2) O ?_
  refine G7 (hK5 ?_)
  refine Gw ?_
  exact fin1 G0 h
 ·
  refine Gq ?_
  refine hK2 ?_
  refine Jr fun hK6=>?_
  refine Ys (E1 l) O ?_
  refine Ys (G0 id_) O ?_
  obtain⟨r7,hr7,h⟩:=Gd h
  refine JLg (.tup [E0 r7.1,G0 r7.2]) (Gt O (H50 l id_ r7 hr7) J44 ⟨O,O,O,O,G⟩) ?_
  refine Ys (.tup [E0 r7.1,G0 r7.2]) O ?_
  refine JLg (E0 r7.1) (Gn O O O) ?_
  refine JLg (G0 r7.2) (Gn O O O) ?_
  refine Ys (E0 r7.1) O ?_
  refine Ys (G0 r7.2) O ?_
  refine G7 (hK6 ?_)
  refine Js fun hK8=>?_
  refine Gv ?_
  refine Jr fun hK9=>?_
  refine Ys (G0 r7.2) O ?_
  refine JLg (BL (decide (r7.2≠0))) (Zu O O O) ?_
  refine Ys (BL (decide (r7.2≠0))) O ?_
  refine G7 (hK9 ?_)
  refine JCc O h (fun h hb=>?_) (fun h hb=>?_)
  ·
   refine Jr fun hK10=>?_
   refine Ys (G0 r7.2) O ?_
   refine Ys (G0 r7.2) O ?_
   refine G7 (hK10 ?_)
   refine Gw ?_
   exact fin1 G0 h
  ·
   refine Jr fun hK11=>?_
   refine Ys (E0 r7.1) O ?_
   refine JLl Gp O O O fun hm32=>?_
   refine JLg (BL (decide (0 < (r7.1.length:Int)))) (G2d O O O) ?_
   refine Ys (BL (decide (0 < (r7.1.length:Int)))) O ?_
   refine G7 (hK11 ?_)
   refine JCc O h (fun h hb=>?_) (fun h hb=>?_)
   ·
    refine Jr fun hK12=>?_
    refine Ys (G0 90) O ?_
    refine G7 (hK12 ?_)
    refine Gw ?_
    exact fin1 G0 h
   ·
    refine Gq ?_
    refine hK8 ?_
    refine Js fun hK13=>?_
    refine Js fun hK14=>?_
    obtain⟨r15,hr15,h⟩:=Gd h
    obtain⟨m17,y16,hm17,hy16,h⟩:=Z1 h
    obtain⟨r18,hr18,h⟩:=Gd h
    refine JC_d0 Qa (by kernel_rfl) ?_
    refine Dq (.agg (Gr.cs s)) (Gg H4 O O O) O ?_
    refine Dq (E1 l) (G5 O O) O ?_
    refine Dq (E1 l) (G5 O O) O ?_
    refine Dq (G0 id_) (G5 O O) O ?_
    refine Dq (G0 r15) (Gt (args:=[E1 l,G0 id_]) O (G21 l id_ r15 hr15) G8a ⟨O,O,O,O,G⟩) O ?_
    refine Dq (Ed y16) (Ha (f:=Stowed.av) (xs:=l) (y:=y16) O O O H2 hy16 hm17) O ?_
    refine Dq (.dptr ((Stowed.cs y16).drop 1)) (Gf Jo O O O) O ?_
    refine Dq (.dptr ((Stowed.cs y16).drop 1)) (Gf Jw O O O) O ?_
    refine Dq (G0 y16.Slot.G4) (Gi Gb O O O) O ?_
    refine Dq (G0 r18) (Gt (args:=[.agg (Gr.cs s),G0 y16.Slot.G4]) O (H4f s y16.Slot.G4 r18 hr18) J43 ⟨O,O,O,O,G⟩) O ?_
    refine Dq (G0 r18) (G8 O O) O ?_
    refine Dnil ?_
    refine hK14 ?_
    refine Jr fun hK19=>?_
    refine Ys (G0 r18) O ?_
    refine JLg (BL (decide (0≤r18))) (Gaa O O O) ?_
    refine Ys (BL (decide (0≤r18))) O ?_
    refine JLo (E0 open_) [] O .sct G (fun hc=>G5 O O) O ?_
    refine JLo (G0 r18) [] O .sct G (fun hc=>G5 O O) O ?_
    obtain⟨r20,hr20,h⟩:=Gd h
    refine JLo (BL r20) [47,48] O .sct ⟨Ua,Ua,G⟩ (fun hc=>Gt (args:=[E0 open_,G0 r18]) O (Yv open_ r18 r20 (H3 hc hr20)) H13 ⟨O,O,O,O,G⟩) O ?_
    refine JLo (BL (!r20)) [49] O .sct ⟨Ua,G⟩ (fun hc=>Rm (b:=r20) O O) O ?_
    refine JLg (BL ((decide (0≤r18))&&(!r20))) (Q9 O O O O) ?_
    refine G7 (hK19 ?_)
    refine JCc O h (fun h hb=>?_) (fun h hb=>?_)
    ·
     refine Jr fun hK21=>?_
     refine Ys (G0 91) O ?_
     refine G7 (hK21 ?_)
     refine Gw ?_
     exact fin1 G0 h
    ·
     refine Gq ?_
     refine hK13 ?_
     refine Jr fun hK22=>?_
     refine Ys (G0 0) O ?_
     refine G7 (hK22 ?_)
     refine Gw ?_
     exact fin1 G0 h

def Ga4 (s:Gr) (boxes:List G9) (l:List Stowed) (open_:List Int) (id_:Int):Option ((List Stowed)×Int):=
 bnd (G6e s boxes l open_ id_) fun r4=>
 bif decide (r4≠0) then
 (some ([],r4))
 else
 (bnd (Rf l id_) fun r8=>
  bnd (Ra l r8) fun r9=>
  some (r9,0))
theorem M_stow_Take_w (s:Gr) (boxes:List G9) (l:List Stowed) (open_:List Int) (id_:Int) (r:(List Stowed)×Int) (h:Ga4 s boxes l open_ id_=some r):Pure Ek 20 [.agg (Gr.cs s),E2 boxes,E1 l,E0 open_,G0 id_] (·=.tup [E1 r.1,G0 r.2]):=by
 unfold Ga4 at h
 refine H5 [.tmp 10,.tmp 11] Tryz.func20 O O ?_
 refine Jr fun hK1=>?_
 refine JLg (.ptr 1054 0) (Jj (cs:=(Gr.cs s)) 1054 O O O O O) ?_
 refine JLg (E1 ([]:List Stowed)) (He 4 O O) ?_
 refine Ys (G0 0) O ?_
 refine G7 (hK1 ?_)
 refine Gs [(1,E2 boxes),(2,E1 l),(3,E0 open_),(4,G0 id_),(5,Ec s)] [] 1054 rfl rfl rfl G rfl (by repeat' (first | exact .ptr | constructor)) ?_
 refine Js fun hK2=>?_
 refine Jr fun hK3=>?_
 refine JLg (.agg (Gr.cs s)) (Gg H4 O O O) ?_
 refine Ys (E2 boxes) O ?_
 refine Ys (E1 l) O ?_
 refine Ys (E0 open_) O ?_
 refine Ys (G0 id_) O ?_
 obtain⟨r4,hr4,h⟩:=Gd h
 refine JLg (G0 r4) (Gt O (M_stow_Free_w s boxes l open_ id_ r4 hr4) Jed ⟨O,O,O,O,O,O,O,O,O,O,G⟩) ?_
 refine Ys (G0 r4) O ?_
 refine G7 (hK3 ?_)
 refine Jr fun hK5=>?_
 refine Ys (G0 r4) O ?_
 refine JLg (BL (decide (r4≠0))) (Zu O O O) ?_
 refine G7 (hK5 ?_)
 refine JCc O h (fun h hb=>?_) (fun h hb=>?_)
 ·
  refine Jr fun hK6=>?_
  refine Ys (G0 r4) O ?_
  refine JLg (E1 ([]:List Stowed)) (He 4 O O) ?_
  refine Ys (G0 r4) O ?_
  refine G7 (hK6 ?_)
  refine Gw ?_
  exact⟨[E1 ([]:List Stowed),G0 r4],[],G,O,⟨⟨_,O,.conv (.same O)⟩,⟨_,O,.conv (.same O)⟩,G⟩,O,congrArg (fun r:(List Stowed)×Int=>(.tup [E1 r.1,G0 r.2]:AV)) (Option.some.inj h)⟩
 ·
  refine Gq ?_
  refine hK2 ?_
  refine Jr fun hK7=>?_
  refine Ys (E1 l) O ?_
  refine Ys (E1 l) O ?_
  refine Ys (G0 id_) O ?_
  obtain⟨r8,hr8,h⟩:=Gd h
  refine JLg (G0 r8) (Gt O (G21 l id_ r8 hr8) G8a ⟨O,O,O,O,G⟩) ?_
  obtain⟨r9,hr9,h⟩:=Gd h
  refine JLg (E1 r9) (Gt O (Gda.down l r8 r9 hr9) Jec ⟨O,O,O,O,G⟩) ?_
  refine Ys (E1 r9) O ?_
  refine Ys (G0 0) O ?_
  refine G7 (hK7 ?_)
  refine Gw ?_
  exact⟨[E1 r9,G0 0],[],G,O,⟨⟨_,O,.conv (.same O)⟩,⟨_,O,.conv (.same O)⟩,G⟩,O,congrArg (fun r:(List Stowed)×Int=>(.tup [E1 r.1,G0 r.2]:AV)) (Option.some.inj h)⟩

def Qu (F:Nat) (l:List Gx) (covers:Int) (drops:List Gk):Option Bool:=
 bnd (Je l covers drops 9) fun r3=>
 each (fun y19 i19 (s19:(List Int)) nx19=>
  jp (fun kj22=>
   bnd (G37 F r3.1 r3.2.1 r3.2.2 s19 (i19:Int)) fun r25=>
   bif decide (r25.2=0) then
   (kj22 r25.1)
   else
   (kj22 s19)) fun(j22:(List Int))=>
  nx19 j22)
 (fun(s19:(List Int))=>
  each (fun y29 i29 (s29:Unit) nx29=>
   jp (fun kj32=>
    bnd (Ga4 r3.1 r3.2.1 r3.2.2 s19 y29.G9) fun r35=>
    bif decide (r35.2≠0) then
    (kj32 ())
    else
    (each (fun y39 i39 (s39:Unit) nx39=>
      bnd (Jq F r3.1 r3.2.1 r3.2.2 y39.G9) fun r45=>
      bnd (Jq F r3.1 r3.2.1 r35.1 y39.G9) fun r47=>
      bif ((decide (r45.2≠0))||(decide (r47.2≠0))) then
      (some false)
      else
      (each (fun y69 i69 (s69:Unit) nx69=>
        bnd (M_twistlocklaw22_holds r45.1 y69) fun r75=>
        bif (!r75) then
        (some false)
        else
        (nx69 ()))
       (fun(s69:Unit)=>
        each (fun y94 i94 (s94:Unit) nx94=>
         bnd (bif decide (y94≠y29.G9) then M_twistlocklaw22_holds r47.1 y94 else some default) fun r100=>
         bif ((decide (y94≠y29.G9))&&(!r100)) then
         (some false)
         else
         (nx94 ()))
        (fun(s94:Unit)=>
         nx39 ()) r45.1 0 ()) r47.1 0 ()))
     (fun(s39:Unit)=>
      kj32 ()) r35.1 0 ())) fun(j32:Unit)=>
   nx29 ())
  (fun(s29:Unit)=>
   bnd (J3 F) fun r103=>
   some r103) r3.2.2 0 ()) r3.1.Covers 0 []
theorem Gb1 (F:Nat) (l:List Gx) (covers:Int) (drops:List Gk) (r:Bool) (h:Qu F l covers drops=some r):Pure Ek 7 [Eb l,.sc (.int .u32 covers),Ea drops] (·=BL r):=by
 unfold Qu at h
 refine H5 [.tmp 6] Tryz.func7 O O ?_
 refine Jr fun hK1=>?_
 refine Ys (BL false) O ?_
 refine G7 (hK1 ?_)
 refine Jr fun hK2=>?_
 refine Ys (Eb l) O ?_
 refine Ys (.sc (.int .u32 covers)) O ?_
 refine Ys (Ea drops) O ?_
 obtain⟨r3,hr3,h⟩:=Gd h
 refine JLg (.tup [.agg (Gr.cs r3.1),E2 r3.2.1,E1 r3.2.2]) (Gt O (G07 l covers drops 9 r3 hr3) H02 ⟨O,O,O,O,O,O,O,O,G⟩) ?_
 refine Ys (.tup [.agg (Gr.cs r3.1),E2 r3.2.1,E1 r3.2.2]) O ?_
 refine JLg (.agg (Gr.cs r3.1)) (Gn O O O) ?_
 refine JLg (E2 r3.2.1) (Gn O O O) ?_
 refine JLg (E1 r3.2.2) (Gn O O O) ?_
 refine JLg (.ptr 1018 0) (Hu 1018 13 G0d O O) ?_
 refine Hw (u:=.junk) (Hj (u:=.agg (Gr.cs r3.1)) (ds:=(Gr.cs r3.1)) Yy O O O O O O O O) ?_
 refine Ys (E2 r3.2.1) O ?_
 refine Ys (E1 r3.2.2) O ?_
 refine G7 (hK2 ?_)
 refine Gs [(7,Ec r3.1),(8,E2 r3.2.1),(9,E1 r3.2.2)] [] 1018 rfl rfl rfl G rfl (by exact⟨.ptr,.conv (.same rfl),.conv (.same rfl),G⟩) ?_
 refine Jr fun hK4=>?_
 refine JLg (E0 ([]:List Int)) (He 1 O O) ?_
 refine G7 (hK4 ?_)
 refine Js fun hK5=>?_
 refine Jr fun hK6=>?_
 refine JLg (.dptr ((Gr.cs r3.1).drop 1)) (Gf Qw O O O) ?_
 refine JLg (E4 r3.1.Covers) (Gi Yf O O O) ?_
 refine JLl Qt O O O fun hm38=>?_
 refine Ys (G0 0) O ?_
 refine G7 (hK6 ?_)
 refine Gv ?_
 obtain⟨b19,kx19,hb19,hkx19,h⟩:=J0 h
 refine Hp (fun i19 (s19:(List Int))=>each b19 kx19 (List.drop i19 r3.1.Covers) i19 s19=some r) (fun i19 s19=>[(7,Ec r3.1),(8,E2 r3.2.1),(9,E1 r3.2.2),(10,E0 s19),(38,Ej r3.1.Covers.length),(39,Ej i19)]) (fun i19 s19=>[]) (fun i19=>r3.1.Covers.length - i19) 0 [] h ⟨(by repeat' constructor),G,rfl⟩ ?_
 clear h
 intro i19 s19 hi19 K19 e19
 refine Jr fun hK20=>?_
 refine JLg (BL (decide ((i19:Int) < (r3.1.Covers.length:Int)))) (Ja O O O) ?_
 refine G7 (hK20 ?_)
 refine Js fun hK21=>?_
 refine Gm O (fun hb=>?_) (fun hb=>?_)
 ·
  have hk19:=Jh hb
  obtain⟨y19,nx19,hy19,hn19,h⟩:=Hq hi19 hk19
  replace h:=Y6 hb19 h
  refine Gq ?_
  refine hK21 ?_
  obtain⟨kj22,hkj22,h⟩:=Rc h
  refine Qk (fun j22:(List Int)=>kj22 j22=some r) (fun j22=>[(7,Ec r3.1),(8,E2 r3.2.1),(9,E1 r3.2.2),(10,E0 j22),(38,Ej r3.1.Covers.length),(39,Ej i19)]) (fun j22=>[]) (fun Kj22 ej22=>?_) ?_
  ·
   refine Gv ?_
   refine Jr fun hK23=>?_
   refine Ys (Ej i19) O ?_
   refine Ys (Ej i19) O ?_
   refine G7 (hK23 ?_)
   refine Jr fun hK24=>?_
   refine JLg (.agg (Gr.cs r3.1)) (Gg H4 O O O) ?_
   refine Ys (E2 r3.2.1) O ?_
   refine Ys (E1 r3.2.2) O ?_
   refine Ys (E0 s19) O ?_
   refine Ys (Ej i19) O ?_
   obtain⟨r25,hr25,h⟩:=Gd h
   refine JLg (.tup [E0 r25.1,G0 r25.2]) (Gt O (H81 F r3.1 r3.2.1 r3.2.2 s19 (i19:Int) r25 hr25) J52 ⟨O,O,O,O,O,O,O,O,O,O,G⟩) ?_
   refine Ys (.tup [E0 r25.1,G0 r25.2]) O ?_
   refine JLg (E0 r25.1) (Gn O O O) ?_
   refine JLg (G0 r25.2) (Gn O O O) ?_
   refine Ys (E0 r25.1) O ?_
   refine Ys (G0 r25.2) O ?_
   refine G7 (hK24 ?_)
   refine Jr fun hK26=>?_
   refine Ys (G0 r25.2) O ?_
   refine JLg (BL (decide (r25.2=0))) (Jy O O O) ?_
   refine G7 (hK26 ?_)
   refine JCc O h (fun h hb=>?_) (fun h hb=>?_)
   ·
    refine G3 ?_
    refine Ys (E0 r25.1) O ?_
    refine Ys (E0 r25.1) O ?_
    refine G7 ?_
    exact ej22 _ _ r25.1 h ⟨(by repeat' constructor),G,rfl⟩
   ·
    refine Gq ?_
    exact ej22 _ _ s19 h ⟨(by repeat' constructor),G,rfl⟩
  ·intro j22 h
   replace h:=app1 hkj22 h
   refine G3 ?_
   refine JLg (G0 ((i19+1:Nat):Int)) (Hx (Ho hk19 hm38) O O O) ?_
   refine Ys (G0 ((i19+1:Nat):Int)) O ?_
   refine G7 ?_
   exact e19 _ _ (i19+1) j22 (app1 hn19 h) (by omega) ⟨(by repeat' constructor),G,rfl⟩
 ·
  have h:=app1 hkx19 (Hr hi19 (Hb hb))
  refine Ht ?_
  refine hK5 ?_
  refine Js fun hK27=>?_
  refine Jr fun hK28=>?_
  refine Ys (E1 r3.2.2) O ?_
  refine JLl H2 O O O fun hm56=>?_
  refine Ys (G0 0) O ?_
  refine G7 (hK28 ?_)
  refine Gv ?_
  obtain⟨b29,kx29,hb29,hkx29,h⟩:=J0 h
  refine Hp (fun i29 (s29:Unit)=>each b29 kx29 (List.drop i29 r3.2.2) i29 s29=some r) (fun i29 s29=>[(7,Ec r3.1),(8,E2 r3.2.1),(9,E1 r3.2.2),(10,E0 s19),(55,E1 r3.2.2),(56,Ej r3.2.2.length),(57,Ej i29)]) (fun i29 s29=>[]) (fun i29=>r3.2.2.length - i29) 0 () h ⟨(by repeat' constructor),G,rfl⟩ ?_
  clear h
  intro i29 s29 hi29 K29 e29
  refine Jr fun hK30=>?_
  refine JLg (BL (decide ((i29:Int) < (r3.2.2.length:Int)))) (Ja O O O) ?_
  refine G7 (hK30 ?_)
  refine Js fun hK31=>?_
  refine Gm O (fun hb=>?_) (fun hb=>?_)
  ·
   have hk29:=Jh hb
   obtain⟨y29,nx29,hy29,hn29,h⟩:=Hq hi29 hk29
   replace h:=Y6 hb29 h
   refine Gq ?_
   refine hK31 ?_
   obtain⟨kj32,hkj32,h⟩:=Rc h
   refine Qk (fun j32:Unit=>kj32 j32=some r) (fun j32=>[(7,Ec r3.1),(8,E2 r3.2.1),(9,E1 r3.2.2),(10,E0 s19),(55,E1 r3.2.2),(56,Ej r3.2.2.length),(57,Ej i29)]) (fun j32=>[]) (fun Kj32 ej32=>?_) ?_
   ·
    refine Gv ?_
    refine Jr fun hK33=>?_
    refine JLg (Ed y29) (Ha (f:=Stowed.av) (xs:=r3.2.2) (y:=y29) O O O H2 hy29 O) ?_
    refine JLg (.agg (Stowed.cs y29)) (Gg Qx O O O) ?_
    refine JLg (.ptr 1019 0) (Hu 1019 4 Jv O O) ?_
    refine Hw (u:=.junk) (Hj (u:=.agg (Stowed.cs y29)) (ds:=[G0 y29.G9,G0 y29.Slot.G4,G0 y29.Slot.Tier,U8 y29.Slot.Half]) Rb O O O O O O O O) ?_
    refine G7 (hK33 ?_)
    refine Gs [(7,Ec r3.1),(8,E2 r3.2.1),(9,E1 r3.2.2),(10,E0 s19),(15,Ed y29),(55,E1 r3.2.2),(56,Ej r3.2.2.length),(57,Ej i29)] [] 1019 rfl rfl rfl G rfl (by repeat' (first | exact .ptr | constructor)) ?_
    refine Jr fun hK34=>?_
    refine JLg (.agg (Gr.cs r3.1)) (Gg H4 O O O) ?_
    refine Ys (E2 r3.2.1) O ?_
    refine Ys (E1 r3.2.2) O ?_
    refine Ys (E0 s19) O ?_
    refine JLg (Ed y29) (Gf Hg O O O) ?_
    refine JLg (G0 y29.G9) (Gi Gb O O O) ?_
    obtain⟨r35,hr35,h⟩:=Gd h
    refine JLg (.tup [E1 r35.1,G0 r35.2]) (Gt O (M_stow_Take_w r3.1 r3.2.1 r3.2.2 s19 y29.G9 r35 hr35) Jf9 ⟨O,O,O,O,O,O,O,O,O,O,G⟩) ?_
    refine Ys (.tup [E1 r35.1,G0 r35.2]) O ?_
    refine JLg (E1 r35.1) (Gn O O O) ?_
    refine JLg (G0 r35.2) (Gn O O O) ?_
    refine Ys (E1 r35.1) O ?_
    refine Ys (G0 r35.2) O ?_
    refine G7 (hK34 ?_)
    refine Js fun hK36=>?_
    refine Jr fun hK37=>?_
    refine Ys (G0 r35.2) O ?_
    refine JLg (BL (decide (r35.2≠0))) (Zu O O O) ?_
    refine G7 (hK37 ?_)
    refine JCc O h (fun h hb=>?_) (fun h hb=>?_)
    ·
     refine Ht ?_
     exact ej32 _ _ () h ⟨(by repeat' constructor),G,rfl⟩
    ·
     refine Gq ?_
     refine hK36 ?_
     refine Jr fun hK38=>?_
     refine Ys (E1 r35.1) O ?_
     refine JLl H2 O O O fun hm74=>?_
     refine Ys (G0 0) O ?_
     refine G7 (hK38 ?_)
     refine Gv ?_
     obtain⟨b39,kx39,hb39,hkx39,h⟩:=J0 h
     refine Hp (fun i39 (s39:Unit)=>each b39 kx39 (List.drop i39 r35.1) i39 s39=some r) (fun i39 s39=>[(7,Ec r3.1),(8,E2 r3.2.1),(9,E1 r3.2.2),(10,E0 s19),(15,Ed y29),(16,E1 r35.1),(55,E1 r3.2.2),(56,Ej r3.2.2.length),(57,Ej i29),(73,E1 r35.1),(74,Ej r35.1.length),(75,Ej i39)]) (fun i39 s39=>[]) (fun i39=>r35.1.length - i39) 0 () h ⟨(by repeat' constructor),G,rfl⟩ ?_
     clear h
     intro i39 s39 hi39 K39 e39
     refine Jr fun hK40=>?_
     refine JLg (BL (decide ((i39:Int) < (r35.1.length:Int)))) (Ja O O O) ?_
     refine G7 (hK40 ?_)
     refine Js fun hK41=>?_
     refine Gm O (fun hb=>?_) (fun hb=>?_)
     ·
      have hk39:=Jh hb
      obtain⟨y39,nx39,hy39,hn39,h⟩:=Hq hi39 hk39
      replace h:=Y6 hb39 h
      refine Gq ?_
      refine hK41 ?_
      refine Js fun hK42=>?_
      refine Gv ?_
      refine Jr fun hK43=>?_
      refine JLg (Ed y39) (Ha (f:=Stowed.av) (xs:=r35.1) (y:=y39) O O O H2 hy39 O) ?_
      refine JLg (.agg (Stowed.cs y39)) (Gg Qx O O O) ?_
      refine JLg (.ptr 1020 0) (Hu 1020 4 Jv O O) ?_
      refine Hw (u:=.junk) (Hj (u:=.agg (Stowed.cs y39)) (ds:=[G0 y39.G9,G0 y39.Slot.G4,G0 y39.Slot.Tier,U8 y39.Slot.Half]) Rb O O O O O O O O) ?_
      refine G7 (hK43 ?_)
      refine Gs [(7,Ec r3.1),(8,E2 r3.2.1),(9,E1 r3.2.2),(10,E0 s19),(15,Ed y29),(16,E1 r35.1),(19,Ed y39),(55,E1 r3.2.2),(56,Ej r3.2.2.length),(57,Ej i29),(73,E1 r35.1),(74,Ej r35.1.length),(75,Ej i39)] [] 1020 rfl rfl rfl G rfl (by repeat' (first | exact .ptr | constructor)) ?_
      refine Jr fun hK44=>?_
      refine JLg (.agg (Gr.cs r3.1)) (Gg H4 O O O) ?_
      refine Ys (E2 r3.2.1) O ?_
      refine Ys (E1 r3.2.2) O ?_
      refine JLg (Ed y39) (Gf Hg O O O) ?_
      refine JLg (G0 y39.G9) (Gi Gb O O O) ?_
      obtain⟨r45,hr45,h⟩:=Gd h
      refine JLg (.tup [E0 r45.1,G0 r45.2]) (Gt O (Q4 F r3.1 r3.2.1 r3.2.2 y39.G9 r45 hr45) Zc ⟨O,O,O,O,O,O,O,O,G⟩) ?_
      refine Ys (.tup [E0 r45.1,G0 r45.2]) O ?_
      refine JLg (E0 r45.1) (Gn O O O) ?_
      refine JLg (G0 r45.2) (Gn O O O) ?_
      refine Ys (E0 r45.1) O ?_
      refine Ys (G0 r45.2) O ?_
      refine G7 (hK44 ?_)
      refine Jr fun hK46=>?_
      refine JLg (.agg (Gr.cs r3.1)) (Gg H4 O O O) ?_
      refine Ys (E2 r3.2.1) O ?_
      refine Ys (E1 r35.1) O ?_
      refine JLg (Ed y39) (Gf Hg O O O) ?_
      refine JLg (G0 y39.G9) (Gi Gb O O O) ?_
      obtain⟨r47,hr47,h⟩:=Gd h
      refine JLg (.tup [E0 r47.1,G0 r47.2]) (Gt O (Q4 F r3.1 r3.2.1 r35.1 y39.G9 r47 hr47) Zc ⟨O,O,O,O,O,O,O,O,G⟩) ?_
      refine Ys (.tup [E0 r47.1,G0 r47.2]) O ?_
      refine JLg (E0 r47.1) (Gn O O O) ?_
      refine JLg (G0 r47.2) (Gn O O O) ?_
      refine Ys (E0 r47.1) O ?_
      refine Ys (G0 r47.2) O ?_
      refine G7 (hK46 ?_)
      refine Js fun hK48=>?_
      refine Jr fun hK49=>?_
      refine Ys (G0 r45.2) O ?_
      refine JLg (BL (decide (r45.2≠0))) (Zu O O O) ?_
      refine Ys (BL (decide (r45.2≠0))) O ?_
      refine JLo (G0 r47.2) [] O .scf G (fun hc=>G5 O O) O ?_
      refine JLo (BL (decide (r47.2≠0))) [100] O .scf ⟨Ua,G⟩ (fun hc=>Zu O O O) O ?_
      refine JLg (BL ((decide (r45.2≠0))||(decide (r47.2≠0)))) (Zi O O O O) ?_
      refine G7 (hK49 ?_)
      refine JCc O h (fun h hb=>?_) (fun h hb=>?_)
      ·
       refine Jr fun hK50=>?_
       refine Ys (BL false) O ?_
       refine G7 (hK50 ?_)
       refine Gw ?_
       exact fin1 BL h
      ·
       refine Gq ?_
       refine hK48 ?_
       refine Js fun hK51=>?_
       refine Jr fun hK52=>?_
       refine Ys (E0 r47.1) O ?_
       refine JLl Gp O O O fun hm104=>?_
       refine Ys (G0 0) O ?_
       refine G7 (hK52 ?_)
       refine Gv ?_
       obtain⟨b69,kx69,hb69,hkx69,h⟩:=J0 h
       refine Hp (fun i69 (s69:Unit)=>each b69 kx69 (List.drop i69 r47.1) i69 s69=some r) (fun i69 s69=>[(7,Ec r3.1),(8,E2 r3.2.1),(9,E1 r3.2.2),(10,E0 s19),(15,Ed y29),(16,E1 r35.1),(20,E0 r45.1),(22,E0 r47.1),(55,E1 r3.2.2),(56,Ej r3.2.2.length),(57,Ej i29),(73,E1 r35.1),(74,Ej r35.1.length),(75,Ej i39),(103,E0 r47.1),(104,Ej r47.1.length),(105,Ej i69)]) (fun i69 s69=>[]) (fun i69=>r47.1.length - i69) 0 () h ⟨(by repeat' constructor),G,rfl⟩ ?_
       clear h
       intro i69 s69 hi69 K69 e69
       refine Jr fun hK70=>?_
       refine JLg (BL (decide ((i69:Int) < (r47.1.length:Int)))) (Ja O O O) ?_
       refine G7 (hK70 ?_)
       refine Js fun hK71=>?_
       refine Gm O (fun hb=>?_) (fun hb=>?_)
       ·
        have hk69:=Jh hb
        obtain⟨y69,nx69,hy69,hn69,h⟩:=Hq hi69 hk69
        replace h:=Y6 hb69 h
        refine Gq ?_
        refine hK71 ?_
        refine Js fun hK72=>?_
        refine Gv ?_
        refine Jr fun hK73=>?_
        refine JLg (.dptr [G0 y69]) (Ha (f:=G0) (xs:=r47.1) (y:=y69) O O O Gp hy69 O) ?_
        refine JLg (G0 y69) (Gi Gb O O O) ?_
        refine Ys (G0 y69) O ?_
        refine G7 (hK73 ?_)
        refine Jr fun hK74=>?_
        refine Ys (E0 r45.1) O ?_
        refine Ys (G0 y69) O ?_
        obtain⟨r75,hr75,h⟩:=Gd h
        refine JLg (BL r75) (Gt O (Qm r45.1 y69 r75 hr75) G8d ⟨O,O,O,O,G⟩) ?_
        refine JLg (BL (!r75)) (Rm (b:=r75) O O) ?_
        refine G7 (hK74 ?_)
        refine JCc O h (fun h hb=>?_) (fun h hb=>?_)
        ·
         refine Jr fun hK76=>?_
         refine Ys (BL false) O ?_
         refine G7 (hK76 ?_)
         refine Gw ?_
         exact fin1 BL h
        ·
         refine Gq ?_
         refine hK72 ?_
         refine G3 ?_
         refine JLg (G0 ((i69+1:Nat):Int)) (Hx (Ho hk69 hm104) O O O) ?_
         refine Ys (G0 ((i69+1:Nat):Int)) O ?_
         refine G7 ?_
         exact e69 _ _ (i69+1) () (app1 hn69 h) (by omega) ⟨(by repeat' constructor),G,rfl⟩
       ·
        have h:=app1 hkx69 (Hr hi69 (Hb hb))
        refine Ht ?_
        refine hK51 ?_
        refine Jr fun hK77=>?_
        refine Ys (E0 r45.1) O ?_
        refine JLl Gp O O O fun hm115=>?_
        refine Ys (G0 0) O ?_
        refine G7 (hK77 ?_)
        refine Gv ?_
        obtain⟨b94,kx94,hb94,hkx94,h⟩:=J0 h
        refine Hp (fun i94 (s94:Unit)=>each b94 kx94 (List.drop i94 r45.1) i94 s94=some r) (fun i94 s94=>[(7,Ec r3.1),(8,E2 r3.2.1),(9,E1 r3.2.2),(10,E0 s19),(15,Ed y29),(16,E1 r35.1),(22,E0 r47.1),(55,E1 r3.2.2),(56,Ej r3.2.2.length),(57,Ej i29),(73,E1 r35.1),(74,Ej r35.1.length),(75,Ej i39),(114,E0 r45.1),(115,Ej r45.1.length),(116,Ej i94)]) (fun i94 s94=>[]) (fun i94=>r45.1.length - i94) 0 () h ⟨(by repeat' constructor),G,rfl⟩ ?_
        clear h
        intro i94 s94 hi94 K94 e94
        refine Jr fun hK95=>?_
        refine JLg (BL (decide ((i94:Int) < (r45.1.length:Int)))) (Ja O O O) ?_
        refine G7 (hK95 ?_)
        refine Js fun hK96=>?_
        refine Gm O (fun hb=>?_) (fun hb=>?_)
        ·
         have hk94:=Jh hb
         obtain⟨y94,nx94,hy94,hn94,h⟩:=Hq hi94 hk94
         replace h:=Y6 hb94 h
         refine Gq ?_
         refine hK96 ?_
         refine Js fun hK97=>?_
         refine Gv ?_
         refine Jr fun hK98=>?_
         refine JLg (.dptr [G0 y94]) (Ha (f:=G0) (xs:=r45.1) (y:=y94) O O O Gp hy94 O) ?_
         refine JLg (G0 y94) (Gi Gb O O O) ?_
         refine Ys (G0 y94) O ?_
         refine G7 (hK98 ?_)
         refine Jr fun hK99=>?_
         refine Ys (G0 y94) O ?_
         refine JLg (Ed y29) (Gf Hg O O O) ?_
         refine JLg (G0 y29.G9) (Gi Gb O O O) ?_
         refine JLg (BL (decide (y94≠y29.G9))) (Zu O O O) ?_
         refine Ys (BL (decide (y94≠y29.G9))) O ?_
         refine JLo (E0 r47.1) [] O .sct G (fun hc=>G5 O O) O ?_
         refine JLo (G0 y94) [] O .sct G (fun hc=>G5 O O) O ?_
         obtain⟨r100,hr100,h⟩:=Gd h
         refine JLo (BL r100) [125,126] O .sct ⟨Ua,Ua,G⟩ (fun hc=>Gt (args:=[E0 r47.1,G0 y94]) O (Qm r47.1 y94 r100 (H3 hc hr100)) G8d ⟨O,O,O,O,G⟩) O ?_
         refine JLo (BL (!r100)) [127] O .sct ⟨Ua,G⟩ (fun hc=>Rm (b:=r100) O O) O ?_
         refine JLg (BL ((decide (y94≠y29.G9))&&(!r100))) (Q9 O O O O) ?_
         refine G7 (hK99 ?_)
         refine JCc O h (fun h hb=>?_) (fun h hb=>?_)
         ·
          refine Jr fun hK101=>?_
          refine Ys (BL false) O ?_
          refine G7 (hK101 ?_)
          refine Gw ?_
          exact fin1 BL h
         ·
          refine Gq ?_
          refine hK97 ?_
          refine G3 ?_
          refine JLg (G0 ((i94+1:Nat):Int)) (Hx (Ho hk94 hm115) O O O) ?_
          refine Ys (G0 ((i94+1:Nat):Int)) O ?_
          refine G7 ?_
          exact e94 _ _ (i94+1) () (app1 hn94 h) (by omega) ⟨(by repeat' constructor),G,rfl⟩
        ·
         have h:=app1 hkx94 (Hr hi94 (Hb hb))
         refine Ht ?_
         refine hK42 ?_
         refine G3 ?_
         refine JLg (G0 ((i39+1:Nat):Int)) (Hx (Ho hk39 hm74) O O O) ?_
         refine Ys (G0 ((i39+1:Nat):Int)) O ?_
         refine G7 ?_
         exact e39 _ _ (i39+1) () (app1 hn39 h) (by omega) ⟨(by repeat' constructor),G,rfl⟩
     ·
      have h:=app1 hkx39 (Hr hi39 (Hb hb))
      refine Ht ?_
      exact ej32 _ _ () h ⟨(by repeat' constructor),G,rfl⟩
   ·intro j32 h
    replace h:=app1 hkj32 h
    refine G3 ?_
    refine JLg (G0 ((i29+1:Nat):Int)) (Hx (Ho hk29 hm56) O O O) ?_
    refine Ys (G0 ((i29+1:Nat):Int)) O ?_
    refine G7 ?_
    exact e29 _ _ (i29+1) () (app1 hn29 h) (by omega) ⟨(by repeat' constructor),G,rfl⟩
  ·
   have h:=app1 hkx29 (Hr hi29 (Hb hb))
   refine Ht ?_
   refine hK27 ?_
   refine Jr fun hK102=>?_
   obtain⟨r103,hr103,h⟩:=Gd h
   refine JLg (BL r103) (Gt O (Qn F r103 hr103) G8c G) ?_
   refine Ys (BL r103) O ?_
   refine G7 (hK102 ?_)
   refine Gw ?_
   exact fin1 BL h
end
end Go.Proofs.YtpgkkengffpnpaaGreat
