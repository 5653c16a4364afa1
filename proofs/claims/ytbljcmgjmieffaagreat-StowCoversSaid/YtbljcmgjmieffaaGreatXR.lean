/-
 Models of functions of the program,and that they return what the models say.
-/
import Derived.Test.YtbljcmgjmieffaaGreatXQ
set_option linter.unnecessarySimpa false
set_option maxRecDepth 100000
set_option linter.unusedVariables false
set_option linter.unusedSimpArgs false
namespace Go.Proofs.YtbljcmgjmieffaaGreat
open Go.RowKit
noncomputable section

namespace XRF
open XAF
open XCF
open XGF
open XBF
open XPF
open XQF
theorem H63:Hf Ek 19=true:=by kernel_rfl
theorem Jc1:Hf Ek 20=true:=by kernel_rfl
theorem J9f:R7 Ek 43 1=true:=by kernel_rfl
theorem Hc5:Qv Ek 43 1=true:=by kernel_rfl
end XRF
open XAF
open XCF
open XGF
open XBF
open XPF
open XQF
open XRF

def Hx (c:G3) (p1:List Int) (p2:Int):Option Bool:=
 each (fun y18 i18 (s18:Unit) nx18=>
  bif ((decide (c.Row=y18))&&(decide (c.Bay=p2))) then
  (some true)
  else
  (nx18 ()))
 (fun(s18:Unit)=>
  some false) p1 0 ()
theorem Rs (c:G3) (p1:List Int) (p2:Int) (r:Bool) (h:Hx c p1 p2=some r):Pure Ek 19 [.agg (G3.cs c),.dptr [E0 p1],.dptr [G0 p2]] (·=BL r):=by
 unfold Hx at h
 refine H5 [.tmp 4] Tryz.func19 O O ?_
 refine Jr fun hK1=>?_
 refine JLg (.ptr 1050 0) (Q1 (cs:=(G3.cs c)) 1050 O O O O O) ?_
 refine Rc (BL false) O ?_
 refine G7 (hK1 ?_)
 refine Gs [(1,.dptr [E0 p1]),(2,.dptr [G0 p2]),(3,Ee c)] [] 1050 rfl rfl rfl G rfl (by exact⟨.conv (.same rfl),.conv (.same rfl),.ptr,G⟩) ?_
 refine Js fun hK2=>?_
 refine Jr fun hK3=>?_
 refine JLg (E0 p1) (Gi Qq O O O) ?_
 refine JLl Gq O O O fun hm8=>?_
 refine Rc (G0 0) O ?_
 refine G7 (hK3 ?_)
 refine Gx ?_
 obtain⟨b18,kx18,hb18,hkx18,h⟩:=Jh h
 refine Hz (fun i18 (s18:Unit)=>each b18 kx18 (List.drop i18 p1) i18 s18=some r) (fun i18 s18=>[(2,.dptr [G0 p2]),(3,Ee c),(7,E0 p1),(8,Ej p1.length),(9,Ej i18)]) (fun i18 s18=>[]) (fun i18=>p1.length - i18) 0 () h ⟨(by repeat' constructor),G,rfl⟩ ?_
 clear h
 intro i18 s18 hi18 K18 e18
 refine Jr fun hK19=>?_
 refine JLg (BL (decide ((i18:Int) < (p1.length:Int)))) (Jt O O O) ?_
 refine G7 (hK19 ?_)
 refine Js fun hK20=>?_
 refine Gp O (fun hb=>?_) (fun hb=>?_)
 ·
  have hk18:=Q7 hb
  obtain⟨y18,nx18,hy18,hn18,h⟩:=J1 hi18 hk18
  replace h:=Zj hb18 h
  refine Gr ?_
  refine hK20 ?_
  refine Js fun hK21=>?_
  refine Gx ?_
  refine Jr fun hK22=>?_
  refine JLg (.dptr [G0 y18]) (H9 (f:=G0) (xs:=p1) (y:=y18) O O O Gq hy18 O) ?_
  refine JLg (G0 y18) (Gi Gd O O O) ?_
  refine Rc (G0 y18) O ?_
  refine G7 (hK22 ?_)
  refine Jr fun hK23=>?_
  refine JLg (.dptr [G0 c.Row,BL c.Deck,G0 c.Tiers,G0 c.Height,G0 c.Kilos20,G0 c.Kilos40,G0 c.Lash,E0 c.Plugs,G0 c.X,G0 c.Y,G0 c.Z]) (Gb Zg O O O) ?_
  refine JLg (G0 c.Row) (Gi Gd O O O) ?_
  refine Rc (G0 y18) O ?_
  refine JLg (BL (decide (c.Row=y18))) (Jx O O O) ?_
  refine Rc (BL (decide (c.Row=y18))) O ?_
  refine JLo (Ee c) [] O .sct G (fun hc=>Gb Zh O O O) O ?_
  refine JLo (G0 c.Bay) [18] O .sct ⟨Ua,G⟩ (fun hc=>Gi Gd O O O) O ?_
  refine JLo (G0 p2) [] O .sct G (fun hc=>Gi Gd O O O) O ?_
  refine JLo (BL (decide (c.Bay=p2))) [19,20] O .sct ⟨Ua,Ua,G⟩ (fun hc=>Jx O O O) O ?_
  refine JLg (BL ((decide (c.Row=y18))&&(decide (c.Bay=p2)))) (Q6 O O O O) ?_
  refine G7 (hK23 ?_)
  refine JCc O h (fun h hb=>?_) (fun h hb=>?_)
  ·
   refine Jr fun hK24=>?_
   refine Rc (BL true) O ?_
   refine G7 (hK24 ?_)
   refine Gv ?_
   exact fin1 BL h
  ·
   refine Gr ?_
   refine hK21 ?_
   refine G4 ?_
   refine JLg (G0 ((i18+1:Nat):Int)) (Hv (Hr hk18 hm8) O O O) ?_
   refine Rc (G0 ((i18+1:Nat):Int)) O ?_
   refine G7 ?_
   exact e18 _ _ (i18+1) () (app1 hn18 h) (by omega) ⟨(by repeat' constructor),G,rfl⟩
 ·
  have h:=app1 hkx18 (J2 hi18 (Hg hb))
  refine J6 ?_
  refine hK2 ?_
  refine Jr fun hK25=>?_
  refine Rc (BL false) O ?_
  refine G7 (hK25 ?_)
  refine Gv ?_
  exact fin1 BL h

def Qk (F:Nat) (l:List Gz) (covers:Int) (drops:List Gg) (which:Int):Option Bool:=
 bnd (Q2 l covers) fun r3=>
 bnd (Jm r3 drops 9) fun r5=>
 bif decide ((r3.Covers.length:Int)=0) then
 (bnd (J5 F) fun r9=>
  some r9)
 else
 (G08 (which) fun v11=>
  bnd (Gd1 v11 (r3.Covers.length:Int)) fun v12=>
  Yn r3.Covers v12 fun y14=>
  Yn r3.Covers v12 fun y16=>
  each (fun y40 i40 (s40:Bool) nx40=>
   Yn r3.Columns y40.Slot.G3 fun y46=>
   bnd (bif ((!s40)&&y46.Deck) then Hx y46 y16.Rows y14.Bay else some default) fun r48=>
   nx40 (s40||(y46.Deck&&r48)))
  (fun(s40:Bool)=>
   bnd (G01 F r3 r5.1 r5.2 [] v12) fun r50=>
   bif ((!((decide (r50.2=95))==s40))||((decide (r50.2=0))==s40)) then
   (some false)
   else
   (bnd (G68 F r3 r5.1 r5.2 r50.1 v12) fun r55=>
    bif ((decide (r55.2≠0))||(decide ((r55.1.length:Int)≠0))) then
    (some false)
    else
    (each (fun y91 i91 (s91:Unit) nx91=>
      jp (fun kj94=>
       Yn r3.Columns y91.Slot.G3 fun y97=>
       bnd (Hx y97 y16.Rows y14.Bay) fun r100=>
       bif (r100&&(!y97.Deck)) then
       (bnd (Rr r3 r5.1 r5.2 [] y91.Ga) fun r102=>
        bnd (Rr r3 r5.1 r5.2 r50.1 y91.Ga) fun r103=>
        bif ((((decide (r102≠91))&&(decide (r102≠90)))||((decide (r103=91))&&(!s40)))||(!((decide (r102=90))==(decide (r103=90))))) then
        (some false)
        else
        (kj94 ()))
       else
       (kj94 ())) fun(j94:Unit)=>
      nx91 ())
     (fun(s91:Unit)=>
      bif s40 then
      (bnd (J5 F) fun r109=>
       some r109)
      else
      (bnd (G01 F r3 r5.1 r5.2 r50.1 v12) fun r111=>
       need (decide ((r5.1.length+[(Ga.mk 3 ByteArray.empty 20 false 0 0 0 0 false)].length)*64≤140737488355328∧r5.1.length+[(Ga.mk 3 ByteArray.empty 20 false 0 0 0 0 false)].length≤maxLen)) <|
       each (fun y162 i162 (s162:Unit) nx162=>
        jp (fun kj165=>
         bnd (bif y162.Deck then Hx y162 y16.Rows y14.Bay else some default) fun r168=>
         bif (y162.Deck&&r168) then
         (bnd (Je 3 (i162:Int) 0 1) fun r171=>
          bnd (Rx F r3 (r5.1++[(Ga.mk 3 ByteArray.empty 20 false 0 0 0 0 false)]) r5.2 r50.1 r171) fun r172=>
          bif decide (r172.2≠91) then
          (some false)
          else
          (bnd (Je 3 (i162:Int) 0 1) fun r176=>
           bnd (Rx F r3 (r5.1++[(Ga.mk 3 ByteArray.empty 20 false 0 0 0 0 false)]) r5.2 [] r176) fun r177=>
           bif decide (r177.2≠0) then
           (some false)
           else
           (kj165 ())))
         else
         (kj165 ())) fun(j165:Unit)=>
        nx162 ())
       (fun(s162:Unit)=>
        bnd (bif decide (r111.2=0) then J9 r111.1 r50.1 else some default) fun r181=>
        bnd (bif ((decide (r111.2=0))&&r181) then J9 r50.1 [v12] else some default) fun r182=>
        bnd (bif (((decide (r111.2=0))&&r181)&&r182) then J5 F else some default) fun r183=>
        some ((((decide (r111.2=0))&&r181)&&r182)&&r183)) r3.Columns 0 ())) r5.2 0 ()))) r5.2 0 false)
theorem G8d (F:Nat) (l:List Gz) (covers:Int) (drops:List Gg) (which:Int) (r:Bool) (h:Qk F l covers drops which=some r):Pure Ek 5 [Eb l,.sc (.int .u32 covers),Ea drops,U8 which] (·=BL r):=by
 unfold Qk at h
 refine H5 [.tmp 8] Tryz.func5 O O ?_
 refine Jr fun hK1=>?_
 refine Rc (BL false) O ?_
 refine G7 (hK1 ?_)
 refine Jr fun hK2=>?_
 refine Rc (Eb l) O ?_
 refine Rc (.sc (.int .u32 covers)) O ?_
 obtain⟨r3,hr3,h⟩:=Gf h
 refine JLg (.agg (Gt.cs r3)) (Gu O (Z1 l covers r3 hr3) Ha9 ⟨O,O,O,O,G⟩) ?_
 refine JLg (.ptr 1013 0) (Hs 1013 13 G89 O O) ?_
 refine J0 (u:=.junk) (Hh (u:=.agg (Gt.cs r3)) (ds:=(Gt.cs r3)) G18 O O O O O O O O) ?_
 refine G7 (hK2 ?_)
 refine Gs [(2,Ea drops),(3,U8 which),(9,Ec r3)] [] 1013 rfl rfl rfl G rfl (by exact⟨.conv (.same rfl),.conv (.same rfl),.ptr,G⟩) ?_
 refine Jr fun hK4=>?_
 refine JLg (.agg (Gt.cs r3)) (Gh H7 O O O) ?_
 refine Rc (Ea drops) O ?_
 obtain⟨r5,hr5,h⟩:=Gf h
 refine JLg (.tup [OW 1024 9 Ga.av r5.1,E1 r5.2]) (G49 (args:=[.agg (Gt.cs r3),Ea drops,G0 9]) (L0:=[]) (Lr:=[(1024,.spare 67 9 r5.1.length r5.1.length)]) O (G36 r3 drops 9 r5 hr5) Ha8 ⟨.inl O,O,.inl O,O,.inl O,O,G⟩ G O O O) ?_
 refine Rc (.tup [OW 1024 9 Ga.av r5.1,E1 r5.2]) O ?_
 refine JLg (OW 1024 9 Ga.av r5.1) (H2 O O O) ?_
 refine JLg (E1 r5.2) (H2 O O O) ?_
 refine Rc (OW 1024 9 Ga.av r5.1) O ?_
 refine Rc (E1 r5.2) O ?_
 refine G7 (hK4 ?_)
 refine Js fun hK6=>?_
 refine Jr fun hK7=>?_
 refine JLg (.dptr ((Gt.cs r3).drop 1)) (Gb Hu O O O) ?_
 refine JLg (E3 r3.Covers) (Gi Ja O O O) ?_
 refine JLl J8 O O O fun hm48=>?_
 refine JLg (BL (decide ((r3.Covers.length:Int)=0))) (Jx O O O) ?_
 refine G7 (hK7 ?_)
 refine JCc O h (fun h hb=>?_) (fun h hb=>?_)
 ·
  refine Jr fun hK8=>?_
  obtain⟨r9,hr9,h⟩:=Gf h
  refine JLg (BL r9) (Gu O (Q3 F r9 hr9) G71 G) ?_
  refine Rc (BL r9) O ?_
  refine G7 (hK8 ?_)
  refine Gv ?_
  exact fin1 BL h
 ·
  refine Gr ?_
  refine hK6 ?_
  refine Jr fun hK10=>?_
  refine Rc (U8 which) O ?_
  obtain⟨v11,hv11,h⟩:=Jc h
  refine JLg (G0 v11) (G7e Zt G19 hv11 O O) ?_
  refine JLg (.dptr ((Gt.cs r3).drop 1)) (Gb Hu O O O) ?_
  refine JLg (E3 r3.Covers) (Gi Ja O O O) ?_
  refine JLl J8 O O O fun hm55=>?_
  obtain⟨v12,hv12,h⟩:=Gf h
  refine JLg (G0 v12) (Gf4 (Jw hv12).1 (Jw hv12).2 O O O) ?_
  refine Rc (G0 v12) O ?_
  refine G7 (hK10 ?_)
  refine Js fun hK13=>?_
  refine Rn (l':=[(9,Ec r3),(10,OW 1024 9 Ga.av r5.1),(11,E1 r5.2),(12,G0 v12)]) (L':=[(1024,.spare 67 9 r5.1.length r5.1.length)]) ⟨(by repeat' constructor),⟨⟨_,rfl,.same⟩,G⟩,rfl⟩ ?_
  obtain⟨m15,y14,hm15,hy14,h⟩:=Rh h
  obtain⟨m17,y16,hm17,hy16,h⟩:=Rh h
  refine JC_draw2 [12,13,14,15] [[[false,false,false,false],[true,false,false,false],[false,true,false,false],[true,true,false,false]],[[false,false,false,false],[true,false,false,false],[false,true,false,false],[true,true,false,false]],[[false,false,false,false],[true,false,false,false],[false,true,false,false],[true,true,false,false]],[[false,false,false,false],[true,false,false,false],[false,true,false,false],[true,true,false,false]],[[false,false,false,false],[true,false,false,false],[false,true,false,false],[true,true,false,false]],[[false,false,false,false],[true,false,false,false],[false,true,false,false],[true,true,false,false]],[[false,false,false,false],[true,false,false,false],[false,true,false,false],[true,true,false,false],[true,true,true,false]],[[false,false,false,false],[true,false,false,false],[false,true,false,false],[true,true,false,false],[true,true,true,false]],[[false,false,false,false],[true,false,false,false],[false,true,false,false],[true,true,false,false],[true,true,true,false]],[[false,false,false,false],[true,false,false,false],[false,true,false,false],[true,true,false,false],[true,true,true,false]],[[false,false,false,false],[true,false,false,false],[false,true,false,false],[true,true,false,false],[true,true,true,false]],[[false,false,false,false],[true,false,false,false],[false,true,false,false],[true,true,false,false],[true,true,true,false]],[[false,false,false,false],[false,true,false,false]],[[false,false,false,false],[true,false,false,false]],[[true,true,false,false]],[[true,true,true,false]]] [([false,false,false,false],[(1024,.spare 67 9 r5.1.length r5.1.length)]),([true,false,false,false],[(1024,.spare 67 9 r5.1.length r5.1.length),(1014,.box 3 [.junk])]),([false,true,false,false],[(1024,.spare 67 9 r5.1.length r5.1.length),(1015,.box 43 [.junk])]),([true,true,false,false],[(1024,.spare 67 9 r5.1.length r5.1.length),(1014,.box 3 [.junk]),(1015,.box 43 [.junk])]),([true,true,true,false],[(1024,.spare 67 9 r5.1.length r5.1.length),(1014,.box 3 [G0 y14.Bay]),(1015,.box 43 [.junk])]),([true,true,true,true],[(1024,.spare 67 9 r5.1.length r5.1.length),(1014,.box 3 [G0 y14.Bay]),(1015,.box 43 [E0 y16.Rows])])] Jz (by kernel_rfl) rfl rfl ?_
  refine Gd7 (u:=.dptr ((Gt.cs r3).drop 1)) O ⟨.ro O O (Gk (Gb Hu O O O) O),.ro O O (Gk (Gb Hu O O O) O),.ro O O (Gk (Gb Hu O O O) O),.ro O O (Gk (Gb Hu O O O) O),G⟩ ?_ O
  refine Gd7 (u:=E3 r3.Covers) O ⟨.ro O O (Gk (Gi Ja O O O) O),.ro O O (Gk (Gi Ja O O O) O),.ro O O (Gk (Gi Ja O O O) O),.ro O O (Gk (Gi Ja O O O) O),G⟩ ?_ O
  refine Gd7 (u:=G0 v12) O ⟨.ro O O (Gk (G5 O O) O),.ro O O (Gk (G5 O O) O),.ro O O (Gk (G5 O O) O),.ro O O (Gk (G5 O O) O),G⟩ ?_ O
  refine Gd7 (u:=.dptr [G0 y14.Bay,E0 y14.Rows]) O ⟨.ro O O (Gk (H9 (f:=G9.av) (xs:=r3.Covers) (y:=y14) O O O J8 hy14 hm15) O),.ro O O (Gk (H9 (f:=G9.av) (xs:=r3.Covers) (y:=y14) O O O J8 hy14 hm15) O),.ro O O (Gk (H9 (f:=G9.av) (xs:=r3.Covers) (y:=y14) O O O J8 hy14 hm15) O),.ro O O (Gk (H9 (f:=G9.av) (xs:=r3.Covers) (y:=y14) O O O J8 hy14 hm15) O),G⟩ ?_ O
  refine Gd7 (u:=.dptr [G0 y14.Bay,E0 y14.Rows]) O ⟨.ro O O (Gk (Gb Yq O O O) O),.ro O O (Gk (Gb Yq O O O) O),.ro O O (Gk (Gb Yq O O O) O),.ro O O (Gk (Gb Yq O O O) O),G⟩ ?_ O
  refine Gd7 (u:=G0 y14.Bay) O ⟨.ro O O (Gk (Gi Gd O O O) O),.ro O O (Gk (Gi Gd O O O) O),.ro O O (Gk (Gi Gd O O O) O),.ro O O (Gk (Gi Gd O O O) O),G⟩ ?_ O
  refine Gd7 (u:=.dptr ((Gt.cs r3).drop 1)) O ⟨.ro O O (Gk (Gb Hu O O O) O),.ro O O (Gk (Gb Hu O O O) O),.ro O O (Gk (Gb Hu O O O) O),.ro O O (Gk (Gb Hu O O O) O),.ro O O (Gk (Gb Hu O O O) O),G⟩ ?_ O
  refine Gd7 (u:=E3 r3.Covers) O ⟨.ro O O (Gk (Gi Ja O O O) O),.ro O O (Gk (Gi Ja O O O) O),.ro O O (Gk (Gi Ja O O O) O),.ro O O (Gk (Gi Ja O O O) O),.ro O O (Gk (Gi Ja O O O) O),G⟩ ?_ O
  refine Gd7 (u:=G0 v12) O ⟨.ro O O (Gk (G5 O O) O),.ro O O (Gk (G5 O O) O),.ro O O (Gk (G5 O O) O),.ro O O (Gk (G5 O O) O),.ro O O (Gk (G5 O O) O),G⟩ ?_ O
  refine Gd7 (u:=.dptr [G0 y16.Bay,E0 y16.Rows]) O ⟨.ro O O (Gk (H9 (f:=G9.av) (xs:=r3.Covers) (y:=y16) O O O J8 hy16 hm17) O),.ro O O (Gk (H9 (f:=G9.av) (xs:=r3.Covers) (y:=y16) O O O J8 hy16 hm17) O),.ro O O (Gk (H9 (f:=G9.av) (xs:=r3.Covers) (y:=y16) O O O J8 hy16 hm17) O),.ro O O (Gk (H9 (f:=G9.av) (xs:=r3.Covers) (y:=y16) O O O J8 hy16 hm17) O),.ro O O (Gk (H9 (f:=G9.av) (xs:=r3.Covers) (y:=y16) O O O J8 hy16 hm17) O),G⟩ ?_ O
  refine Gd7 (u:=.dptr [E0 y16.Rows]) O ⟨.ro O O (Gk (Gb Rz O O O) O),.ro O O (Gk (Gb Rz O O O) O),.ro O O (Gk (Gb Rz O O O) O),.ro O O (Gk (Gb Rz O O O) O),.ro O O (Gk (Gb Rz O O O) O),G⟩ ?_ O
  refine Gd7 (u:=E0 y16.Rows) O ⟨.ro O O (Gk (Gi Qq O O O) O),.ro O O (Gk (Gi Qq O O O) O),.ro O O (Gk (Gi Qq O O O) O),.ro O O (Gk (Gi Qq O O O) O),.ro O O (Gk (Gi Qq O O O) O),G⟩ ?_ O
  refine Gd7 (u:=.ptr 1014 0) O ⟨.w [1024,1014] O O (Gk (Hs 1014 1 Ju O O) O) O O ⟨O,O,G⟩,.w [1024,1015,1014] O O (Gk (Hs 1014 1 Ju O O) O) O O ⟨O,O,O,G⟩,G⟩ ?_ O
  refine Gd7 (u:=.ptr 1015 0) O ⟨.w [1024,1015] O O (Gk (Hs 1015 1 Hc5 O O) O) O O ⟨O,O,G⟩,.w [1024,1014,1015] O O (Gk (Hs 1015 1 Hc5 O O) O) O O ⟨O,O,O,G⟩,G⟩ ?_ O
  refine D2_go0 (u:=.junk) O ⟨.w [1024,1014,1015] O O (Gk (Hh (u:=G0 y14.Bay) (ds:=[G0 y14.Bay]) Gad O O O O O O O O) O) O O ⟨O,O,O,G⟩,G⟩ ?_
  refine D2_go0 (u:=.junk) O ⟨.w [1024,1014,1015] O O (Gk (Hh (u:=E0 y16.Rows) (ds:=[E0 y16.Rows]) J9f O O O O O O O O) O) O O ⟨O,O,O,G⟩,G⟩ ?_
  refine D2_nil ?_
  refine hK13 ?_
  refine Gs [(9,Ec r3),(10,OW 1024 9 Ga.av r5.1),(11,E1 r5.2),(12,G0 v12),(13,.dptr [G0 y14.Bay]),(14,.ptr 1015 0)] [(1024,.spare 67 9 r5.1.length r5.1.length),(1015,.box 43 [E0 y16.Rows])] 1014 rfl rfl rfl ⟨⟨_,rfl,.same⟩,⟨_,rfl,.boxEq rfl rfl⟩,G⟩ rfl (by repeat' (first | exact .ptr | constructor)) ?_
  refine Gs [(9,Ec r3),(10,OW 1024 9 Ga.av r5.1),(11,E1 r5.2),(12,G0 v12),(13,.dptr [G0 y14.Bay]),(14,.dptr [E0 y16.Rows])] [(1024,.spare 67 9 r5.1.length r5.1.length)] 1015 rfl rfl rfl ⟨⟨_,rfl,.same⟩,G⟩ rfl (by repeat' (first | exact .ptr | constructor)) ?_
  refine Jr fun hK18=>?_
  refine JLg (.fn 19 [.dptr [E0 y16.Rows],.dptr [G0 y14.Bay]]) (Z5 (cs:=[.dptr [E0 y16.Rows],.dptr [G0 y14.Bay]]) O O) ?_
  refine Rc (.fn 19 [.dptr [E0 y16.Rows],.dptr [G0 y14.Bay]]) O ?_
  refine G7 (hK18 ?_)
  refine Jr fun hK19=>?_
  refine Rc (BL false) O ?_
  refine G7 (hK19 ?_)
  refine Js fun hK20=>?_
  refine Jr fun hK21=>?_
  refine Rc (E1 r5.2) O ?_
  refine JLl H0 O O O fun hm71=>?_
  refine Rc (G0 0) O ?_
  refine G7 (hK21 ?_)
  refine Gx ?_
  obtain⟨b40,kx40,hb40,hkx40,h⟩:=Jh h
  refine Hz (fun i40 (s40:Bool)=>each b40 kx40 (List.drop i40 r5.2) i40 s40=some r) (fun i40 s40=>[(9,Ec r3),(10,OW 1024 9 Ga.av r5.1),(11,E1 r5.2),(12,G0 v12),(15,.fn 19 [.dptr [E0 y16.Rows],.dptr [G0 y14.Bay]]),(16,BL s40),(70,E1 r5.2),(71,Ej r5.2.length),(72,Ej i40)]) (fun i40 s40=>[(1024,.spare 67 9 r5.1.length r5.1.length)]) (fun i40=>r5.2.length - i40) 0 false h ⟨(by repeat' constructor),⟨⟨_,rfl,.same⟩,G⟩,rfl⟩ ?_
  clear h
  intro i40 s40 hi40 K40 e40
  refine Jr fun hK41=>?_
  refine JLg (BL (decide ((i40:Int) < (r5.2.length:Int)))) (Jt O O O) ?_
  refine G7 (hK41 ?_)
  refine Js fun hK42=>?_
  refine Gp O (fun hb=>?_) (fun hb=>?_)
  ·
   have hk40:=Q7 hb
   obtain⟨y40,nx40,hy40,hn40,h⟩:=J1 hi40 hk40
   replace h:=Zj hb40 h
   refine Gr ?_
   refine hK42 ?_
   refine Js fun hK43=>?_
   refine Gx ?_
   refine Jr fun hK44=>?_
   refine JLg (Ed y40) (H9 (f:=Stowed.av) (xs:=r5.2) (y:=y40) O O O H0 hy40 O) ?_
   refine JLg (.agg (Stowed.cs y40)) (Gh Qx O O O) ?_
   refine JLg (.ptr 1016 0) (Hs 1016 4 Q8 O O) ?_
   refine J0 (u:=.junk) (Hh (u:=.agg (Stowed.cs y40)) (ds:=[G0 y40.Ga,G0 y40.Slot.G3,G0 y40.Slot.Tier,U8 y40.Slot.Half]) Yg O O O O O O O O) ?_
   refine G7 (hK44 ?_)
   refine Gs [(9,Ec r3),(10,OW 1024 9 Ga.av r5.1),(11,E1 r5.2),(12,G0 v12),(15,.fn 19 [.dptr [E0 y16.Rows],.dptr [G0 y14.Bay]]),(16,BL s40),(18,Ed y40),(70,E1 r5.2),(71,Ej r5.2.length),(72,Ej i40)] [(1024,.spare 67 9 r5.1.length r5.1.length)] 1016 rfl rfl rfl ⟨⟨_,rfl,.same⟩,G⟩ rfl (by repeat' (first | exact .ptr | constructor)) ?_
   refine Jr fun hK45=>?_
   refine JLg (Ec r3) (Gb Hm O O O) ?_
   refine JLg (E7 r3.Columns) (Gi J4 O O O) ?_
   refine JLg (.dptr ((Stowed.cs y40).drop 1)) (Gb J7 O O O) ?_
   refine JLg (.dptr ((Stowed.cs y40).drop 1)) (Gb Jf O O O) ?_
   refine JLg (G0 y40.Slot.G3) (Gi Gd O O O) ?_
   obtain⟨m47,y46,hm47,hy46,h⟩:=Rh h
   refine JLg (Ee y46) (H9 (f:=G3.av) (xs:=r3.Columns) (y:=y46) O O O Hq hy46 hm47) ?_
   refine JLg (.agg (G3.cs y46)) (Gh Yd O O O) ?_
   refine JLg (.ptr 1017 0) (Hs 1017 12 Yp O O) ?_
   refine J0 (u:=.junk) (Hh (u:=.agg (G3.cs y46)) (ds:=(G3.cs y46)) G4c O O O O O O O O) ?_
   refine G7 (hK45 ?_)
   refine Gs [(9,Ec r3),(10,OW 1024 9 Ga.av r5.1),(11,E1 r5.2),(12,G0 v12),(15,.fn 19 [.dptr [E0 y16.Rows],.dptr [G0 y14.Bay]]),(16,BL s40),(19,Ee y46),(70,E1 r5.2),(71,Ej r5.2.length),(72,Ej i40)] [(1024,.spare 67 9 r5.1.length r5.1.length)] 1017 rfl rfl rfl ⟨⟨_,rfl,.same⟩,G⟩ rfl (by repeat' (first | exact .ptr | constructor)) ?_
   refine G4 ?_
   refine Rc (BL s40) O ?_
   refine Rc (BL s40) O ?_
   refine JLo (.dptr ((G3.cs y46).drop 2)) [] O .scf G (fun hc=>Gb R2 O O O) O ?_
   refine JLo (BL y46.Deck) [85] O .scf ⟨Ua,G⟩ (fun hc=>Gi Jp O O O) O ?_
   refine JLo (BL y46.Deck) [86] O .scf ⟨Ua,G⟩ (fun hc=>G5 O O) O ?_
   refine JLo (.fn 19 [.dptr [E0 y16.Rows],.dptr [G0 y14.Bay]]) [] O .optt G (fun hc=>G5 O O) O ?_
   refine JLo (.agg (G3.cs y46)) [] O .optt G (fun hc=>Gh Yd O O O) O ?_
   obtain⟨r48,hr48,h⟩:=Gf h
   refine JLo (BL r48) [88,89] O .optt ⟨Ua,Ua,G⟩ (fun hc=>Zz (args:=[.agg (G3.cs y46)]) (caps:=[.dptr [E0 y16.Rows],.dptr [G0 y14.Bay]]) O O (Rs y46 y16.Rows y14.Bay r48 (H4 hc hr48)) H63 ⟨O,O,G⟩ O) O ?_
   refine Gc (u:=BL (y46.Deck&&r48)) [(87,BL y46.Deck),(90,_)] O O O .scf ⟨.all id,.part,G⟩ (fun hc=>Q6 O O O O) ?_
   refine JLg (BL (s40||(y46.Deck&&r48))) (G24 O O O O) ?_
   refine Rc (BL (s40||(y46.Deck&&r48))) O ?_
   refine G7 (hK43 ?_)
   refine G4 ?_
   refine JLg (G0 ((i40+1:Nat):Int)) (Hv (Hr hk40 hm71) O O O) ?_
   refine Rc (G0 ((i40+1:Nat):Int)) O ?_
   refine G7 ?_
   exact e40 _ _ (i40+1) (s40||(y46.Deck&&r48)) (app1 hn40 h) (by omega) ⟨(by repeat' constructor),⟨⟨_,rfl,.same⟩,G⟩,rfl⟩
  ·
   have h:=app1 hkx40 (J2 hi40 (Hg hb))
   refine J6 ?_
   refine hK20 ?_
   refine Jr fun hK49=>?_
   refine JLg (.agg (Gt.cs r3)) (Gh H7 O O O) ?_
   refine Rc (OW 1024 9 Ga.av r5.1) O ?_
   refine Rc (E1 r5.2) O ?_
   refine Rc (G0 v12) O ?_
   obtain⟨r50,hr50,h⟩:=Gf h
   refine JLg (.tup [E0 r50.1,G0 r50.2]) (G46 (args:=[.agg (Gt.cs r3),E2 r5.1,E1 r5.2,E0 ([]:List Int),G0 v12]) O (G85 F r3 r5.1 r5.2 [] v12 r50 hr50) H01 ⟨.inl O,O,.inl O,O,.inl O,O,.inr ⟨_,O,O⟩,O,.inl O,O,G⟩) ?_
   refine Rc (.tup [E0 r50.1,G0 r50.2]) O ?_
   refine JLg (E0 r50.1) (H2 O O O) ?_
   refine JLg (G0 r50.2) (H2 O O O) ?_
   refine Rc (E0 r50.1) O ?_
   refine Rc (G0 r50.2) O ?_
   refine G7 (hK49 ?_)
   refine Js fun hK51=>?_
   refine Jr fun hK52=>?_
   refine Rc (G0 r50.2) O ?_
   refine JLg (BL (decide (r50.2=95))) (Jx O O O) ?_
   refine Rc (BL s40) O ?_
   refine JLg (BL (!((decide (r50.2=95))==s40))) (J90 Gae O O O) ?_
   refine Rc (BL (!((decide (r50.2=95))==s40))) O ?_
   refine JLo (G0 r50.2) [] O .scf G (fun hc=>G5 O O) O ?_
   refine JLo (BL (decide (r50.2=0))) [107] O .scf ⟨Ua,G⟩ (fun hc=>Jx O O O) O ?_
   refine JLo (BL s40) [] O .scf G (fun hc=>G5 O O) O ?_
   refine JLo (BL ((decide (r50.2=0))==s40)) [108,109] O .scf ⟨Ua,Ua,G⟩ (fun hc=>Ha1 Gae O O O) O ?_
   refine JLg (BL ((!((decide (r50.2=95))==s40))||((decide (r50.2=0))==s40))) (G24 O O O O) ?_
   refine G7 (hK52 ?_)
   refine JCc O h (fun h hb=>?_) (fun h hb=>?_)
   ·
    refine Jr fun hK53=>?_
    refine Rc (BL false) O ?_
    refine G7 (hK53 ?_)
    refine Gv ?_
    exact fin1 BL h
   ·
    refine Gr ?_
    refine hK51 ?_
    refine Jr fun hK54=>?_
    refine JLg (.agg (Gt.cs r3)) (Gh H7 O O O) ?_
    refine Rc (OW 1024 9 Ga.av r5.1) O ?_
    refine Rc (E1 r5.2) O ?_
    refine Rc (E0 r50.1) O ?_
    refine Rc (G0 v12) O ?_
    obtain⟨r55,hr55,h⟩:=Gf h
    refine JLg (.tup [E0 r55.1,G0 r55.2]) (Gu O (J52 F r3 r5.1 r5.2 r50.1 v12 r55 hr55) Jc1 ⟨O,O,O,O,O,O,O,O,O,O,G⟩) ?_
    refine Rc (.tup [E0 r55.1,G0 r55.2]) O ?_
    refine JLg (E0 r55.1) (H2 O O O) ?_
    refine JLg (G0 r55.2) (H2 O O O) ?_
    refine Rc (E0 r55.1) O ?_
    refine Rc (G0 r55.2) O ?_
    refine G7 (hK54 ?_)
    refine Js fun hK56=>?_
    refine Jr fun hK57=>?_
    refine Rc (G0 r55.2) O ?_
    refine JLg (BL (decide (r55.2≠0))) (G38 O O O) ?_
    refine Rc (BL (decide (r55.2≠0))) O ?_
    refine JLo (E0 r55.1) [] O .scf G (fun hc=>G5 O O) O ?_
    refine JLo (Ej r55.1.length) [124] O .scf ⟨Ua,G⟩ (fun hc=>Yo (f:=G0) (xs:=r55.1) Gq O O) O ?_
    refine JLo (BL (decide ((r55.1.length:Int)≠0))) [125] O .scf ⟨Ua,G⟩ (fun hc=>G38 O O O) O ?_
    refine JLg (BL ((decide (r55.2≠0))||(decide ((r55.1.length:Int)≠0)))) (G24 O O O O) ?_
    refine G7 (hK57 ?_)
    refine JCc O h (fun h hb=>?_) (fun h hb=>?_)
    ·
     refine Jr fun hK58=>?_
     refine Rc (BL false) O ?_
     refine G7 (hK58 ?_)
     refine Gv ?_
     exact fin1 BL h
    ·
     refine Gr ?_
     refine hK56 ?_
     refine Js fun hK59=>?_
     refine Jr fun hK60=>?_
     refine Rc (E1 r5.2) O ?_
     refine JLl H0 O O O fun hm129=>?_
     refine Rc (G0 0) O ?_
     refine G7 (hK60 ?_)
     refine Gx ?_
     obtain⟨b91,kx91,hb91,hkx91,h⟩:=Jh h
     refine Hz (fun i91 (s91:Unit)=>each b91 kx91 (List.drop i91 r5.2) i91 s91=some r) (fun i91 s91=>[(9,Ec r3),(10,OW 1024 9 Ga.av r5.1),(11,E1 r5.2),(12,G0 v12),(15,.fn 19 [.dptr [E0 y16.Rows],.dptr [G0 y14.Bay]]),(16,BL s40),(20,E0 r50.1),(128,E1 r5.2),(129,Ej r5.2.length),(130,Ej i91)]) (fun i91 s91=>[(1024,.spare 67 9 r5.1.length r5.1.length)]) (fun i91=>r5.2.length - i91) 0 () h ⟨(by repeat' constructor),⟨⟨_,rfl,.same⟩,G⟩,rfl⟩ ?_
     clear h
     intro i91 s91 hi91 K91 e91
     refine Jr fun hK92=>?_
     refine JLg (BL (decide ((i91:Int) < (r5.2.length:Int)))) (Jt O O O) ?_
     refine G7 (hK92 ?_)
     refine Js fun hK93=>?_
     refine Gp O (fun hb=>?_) (fun hb=>?_)
     ·
      have hk91:=Q7 hb
      obtain⟨y91,nx91,hy91,hn91,h⟩:=J1 hi91 hk91
      replace h:=Zj hb91 h
      refine Gr ?_
      refine hK93 ?_
      obtain⟨kj94,hkj94,h⟩:=Yh h
      refine R5 (fun j94:Unit=>kj94 j94=some r) (fun j94=>[(9,Ec r3),(10,OW 1024 9 Ga.av r5.1),(11,E1 r5.2),(12,G0 v12),(15,.fn 19 [.dptr [E0 y16.Rows],.dptr [G0 y14.Bay]]),(16,BL s40),(20,E0 r50.1),(128,E1 r5.2),(129,Ej r5.2.length),(130,Ej i91)]) (fun j94=>[(1024,.spare 67 9 r5.1.length r5.1.length)]) (fun Kj94 ej94=>?_) ?_
      ·
       refine Gx ?_
       refine Jr fun hK95=>?_
       refine JLg (Ed y91) (H9 (f:=Stowed.av) (xs:=r5.2) (y:=y91) O O O H0 hy91 O) ?_
       refine JLg (.agg (Stowed.cs y91)) (Gh Qx O O O) ?_
       refine JLg (.ptr 1018 0) (Hs 1018 4 Q8 O O) ?_
       refine J0 (u:=.junk) (Hh (u:=.agg (Stowed.cs y91)) (ds:=[G0 y91.Ga,G0 y91.Slot.G3,G0 y91.Slot.Tier,U8 y91.Slot.Half]) Yg O O O O O O O O) ?_
       refine G7 (hK95 ?_)
       refine Gs [(9,Ec r3),(10,OW 1024 9 Ga.av r5.1),(11,E1 r5.2),(12,G0 v12),(15,.fn 19 [.dptr [E0 y16.Rows],.dptr [G0 y14.Bay]]),(16,BL s40),(20,E0 r50.1),(25,Ed y91),(128,E1 r5.2),(129,Ej r5.2.length),(130,Ej i91)] [(1024,.spare 67 9 r5.1.length r5.1.length)] 1018 rfl rfl rfl ⟨⟨_,rfl,.same⟩,G⟩ rfl (by repeat' (first | exact .ptr | constructor)) ?_
       refine Jr fun hK96=>?_
       refine JLg (Ec r3) (Gb Hm O O O) ?_
       refine JLg (E7 r3.Columns) (Gi J4 O O O) ?_
       refine JLg (.dptr ((Stowed.cs y91).drop 1)) (Gb J7 O O O) ?_
       refine JLg (.dptr ((Stowed.cs y91).drop 1)) (Gb Jf O O O) ?_
       refine JLg (G0 y91.Slot.G3) (Gi Gd O O O) ?_
       obtain⟨m98,y97,hm98,hy97,h⟩:=Rh h
       refine JLg (Ee y97) (H9 (f:=G3.av) (xs:=r3.Columns) (y:=y97) O O O Hq hy97 hm98) ?_
       refine JLg (.agg (G3.cs y97)) (Gh Yd O O O) ?_
       refine JLg (.ptr 1019 0) (Hs 1019 12 Yp O O) ?_
       refine J0 (u:=.junk) (Hh (u:=.agg (G3.cs y97)) (ds:=(G3.cs y97)) G4c O O O O O O O O) ?_
       refine G7 (hK96 ?_)
       refine Gs [(9,Ec r3),(10,OW 1024 9 Ga.av r5.1),(11,E1 r5.2),(12,G0 v12),(15,.fn 19 [.dptr [E0 y16.Rows],.dptr [G0 y14.Bay]]),(16,BL s40),(20,E0 r50.1),(25,Ed y91),(26,Ee y97),(128,E1 r5.2),(129,Ej r5.2.length),(130,Ej i91)] [(1024,.spare 67 9 r5.1.length r5.1.length)] 1019 rfl rfl rfl ⟨⟨_,rfl,.same⟩,G⟩ rfl (by repeat' (first | exact .ptr | constructor)) ?_
       refine Jr fun hK99=>?_
       refine Rc (.fn 19 [.dptr [E0 y16.Rows],.dptr [G0 y14.Bay]]) O ?_
       refine JLg (.agg (G3.cs y97)) (Gh Yd O O O) ?_
       obtain⟨r100,hr100,h⟩:=Gf h
       refine JLg (BL r100) (Zz (args:=[.agg (G3.cs y97)]) (caps:=[.dptr [E0 y16.Rows],.dptr [G0 y14.Bay]]) O O (Rs y97 y16.Rows y14.Bay r100 hr100) H63 ⟨O,O,G⟩ O) ?_
       refine Rc (BL r100) O ?_
       refine JLo (.dptr ((G3.cs y97).drop 2)) [] O .sct G (fun hc=>Gb R2 O O O) O ?_
       refine JLo (BL y97.Deck) [145] O .sct ⟨Ua,G⟩ (fun hc=>Gi Jp O O O) O ?_
       refine JLo (BL (!y97.Deck)) [146] O .sct ⟨Ua,G⟩ (fun hc=>Ze (b:=y97.Deck) O O) O ?_
       refine JLg (BL (r100&&(!y97.Deck))) (Q6 O O O O) ?_
       refine G7 (hK99 ?_)
       refine JCc O h (fun h hb=>?_) (fun h hb=>?_)
       ·
        refine Js fun hK101=>?_
        refine Rn (l':=[(9,Ec r3),(10,OW 1024 9 Ga.av r5.1),(11,E1 r5.2),(12,G0 v12),(15,.fn 19 [.dptr [E0 y16.Rows],.dptr [G0 y14.Bay]]),(16,BL s40),(20,E0 r50.1),(25,Ed y91),(128,E1 r5.2),(129,Ej r5.2.length),(130,Ej i91)]) (L':=[(1024,.spare 67 9 r5.1.length r5.1.length)]) ⟨(by repeat' constructor),⟨⟨_,rfl,.same⟩,G⟩,rfl⟩ ?_
        obtain⟨r102,hr102,h⟩:=Gf h
        obtain⟨r103,hr103,h⟩:=Gf h
        refine JC_d0 Jz (by kernel_rfl) ?_
        refine Dq (.agg (Gt.cs r3)) (Gh H7 O O O) O ?_
        refine Dq (OW 1024 9 Ga.av r5.1) (G5 O O) O ?_
        refine Dq (E1 r5.2) (G5 O O) O ?_
        refine Dq (Ed y91) (Gb Ht O O O) O ?_
        refine Dq (G0 y91.Ga) (Gi Gd O O O) O ?_
        refine Dq (G0 r102) (G46 (args:=[.agg (Gt.cs r3),E2 r5.1,E1 r5.2,E0 ([]:List Int),G0 y91.Ga]) O (Zm r3 r5.1 r5.2 [] y91.Ga r102 hr102) G4e ⟨.inl O,O,.inl O,O,.inl O,O,.inr ⟨_,O,O⟩,O,.inl O,O,G⟩) O ?_
        refine Dq (.agg (Gt.cs r3)) (Gh H7 O O O) O ?_
        refine Dq (OW 1024 9 Ga.av r5.1) (G5 O O) O ?_
        refine Dq (E1 r5.2) (G5 O O) O ?_
        refine Dq (E0 r50.1) (G5 O O) O ?_
        refine Dq (Ed y91) (Gb Ht O O O) O ?_
        refine Dq (G0 y91.Ga) (Gi Gd O O O) O ?_
        refine Dq (G0 r103) (Gu (args:=[.agg (Gt.cs r3),E2 r5.1,E1 r5.2,E0 r50.1,G0 y91.Ga]) O (Zm r3 r5.1 r5.2 r50.1 y91.Ga r103 hr103) G4e ⟨O,O,O,O,O,O,O,O,O,O,G⟩) O ?_
        refine Dq (G0 r102) (G8 O O) O ?_
        refine Dq (G0 r103) (G8 O O) O ?_
        refine Dnil ?_
        refine hK101 ?_
        refine Jr fun hK104=>?_
        refine Rc (G0 r102) O ?_
        refine JLg (BL (decide (r102≠91))) (G38 O O O) ?_
        refine Rc (BL (decide (r102≠91))) O ?_
        refine JLo (G0 r102) [] O .sct G (fun hc=>G5 O O) O ?_
        refine JLo (BL (decide (r102≠90))) [165] O .sct ⟨Ua,G⟩ (fun hc=>G38 O O O) O ?_
        refine JLg (BL ((decide (r102≠91))&&(decide (r102≠90)))) (Q6 O O O O) ?_
        refine Rc (BL ((decide (r102≠91))&&(decide (r102≠90)))) O ?_
        refine JLo (G0 r103) [] O .scf G (fun hc=>G5 O O) O ?_
        refine JLo (BL (decide (r103=91))) [169] O .scf ⟨Ua,G⟩ (fun hc=>Jx O O O) O ?_
        refine JLo (BL (decide (r103=91))) [170] O .scf ⟨Ua,G⟩ (fun hc=>G5 O O) O ?_
        refine JLo (BL s40) [] O .optt G (fun hc=>G5 O O) O ?_
        refine JLo (BL (!s40)) [172] O .optt ⟨Ua,G⟩ (fun hc=>Ze (b:=s40) O O) O ?_
        refine Gc (u:=BL ((decide (r103=91))&&(!s40))) [(171,BL (decide (r103=91))),(173,_)] O O O .scf ⟨.all id,.part,G⟩ (fun hc=>Q6 O O O O) ?_
        refine JLg (BL (((decide (r102≠91))&&(decide (r102≠90)))||((decide (r103=91))&&(!s40)))) (G24 O O O O) ?_
        refine Rc (BL (((decide (r102≠91))&&(decide (r102≠90)))||((decide (r103=91))&&(!s40)))) O ?_
        refine JLo (G0 r102) [] O .scf G (fun hc=>G5 O O) O ?_
        refine JLo (BL (decide (r102=90))) [177] O .scf ⟨Ua,G⟩ (fun hc=>Jx O O O) O ?_
        refine JLo (G0 r103) [] O .scf G (fun hc=>G5 O O) O ?_
        refine JLo (BL (decide (r103=90))) [179] O .scf ⟨Ua,G⟩ (fun hc=>Jx O O O) O ?_
        refine JLo (BL (!((decide (r102=90))==(decide (r103=90))))) [178,180] O .scf ⟨Ua,Ua,G⟩ (fun hc=>J90 Gae O O O) O ?_
        refine JLg (BL ((((decide (r102≠91))&&(decide (r102≠90)))||((decide (r103=91))&&(!s40)))||(!((decide (r102=90))==(decide (r103=90)))))) (G24 O O O O) ?_
        refine G7 (hK104 ?_)
        refine JCc O h (fun h hb=>?_) (fun h hb=>?_)
        ·
         refine Jr fun hK105=>?_
         refine Rc (BL false) O ?_
         refine G7 (hK105 ?_)
         refine Gv ?_
         exact fin1 BL h
        ·
         refine Gr ?_
         exact ej94 _ _ () h ⟨(by repeat' constructor),⟨⟨_,rfl,.same⟩,G⟩,rfl⟩
       ·
        refine Gr ?_
        exact ej94 _ _ () h ⟨(by repeat' constructor),⟨⟨_,rfl,.same⟩,G⟩,rfl⟩
      ·intro j94 h
       replace h:=app1 hkj94 h
       refine G4 ?_
       refine JLg (G0 ((i91+1:Nat):Int)) (Hv (Hr hk91 hm129) O O O) ?_
       refine Rc (G0 ((i91+1:Nat):Int)) O ?_
       refine G7 ?_
       exact e91 _ _ (i91+1) () (app1 hn91 h) (by omega) ⟨(by repeat' constructor),⟨⟨_,rfl,.same⟩,G⟩,rfl⟩
     ·
      have h:=app1 hkx91 (J2 hi91 (Hg hb))
      refine J6 ?_
      refine hK59 ?_
      refine Js fun hK106=>?_
      refine Jr fun hK107=>?_
      refine Rc (BL s40) O ?_
      refine G7 (hK107 ?_)
      refine JCc O h (fun h hb=>?_) (fun h hb=>?_)
      ·
       refine Jr fun hK108=>?_
       obtain⟨r109,hr109,h⟩:=Gf h
       refine JLg (BL r109) (Gu O (Q3 F r109 hr109) G71 G) ?_
       refine Rc (BL r109) O ?_
       refine G7 (hK108 ?_)
       refine Gv ?_
       exact fin1 BL h
      ·
       refine Gr ?_
       refine hK106 ?_
       refine Jr fun hK110=>?_
       refine JLg (.agg (Gt.cs r3)) (Gh H7 O O O) ?_
       refine Rc (OW 1024 9 Ga.av r5.1) O ?_
       refine Rc (E1 r5.2) O ?_
       refine Rc (E0 r50.1) O ?_
       refine Rc (G0 v12) O ?_
       obtain⟨r111,hr111,h⟩:=Gf h
       refine JLg (.tup [E0 r111.1,G0 r111.2]) (Gu O (G85 F r3 r5.1 r5.2 r50.1 v12 r111 hr111) H01 ⟨O,O,O,O,O,O,O,O,O,O,G⟩) ?_
       refine Rc (.tup [E0 r111.1,G0 r111.2]) O ?_
       refine JLg (E0 r111.1) (H2 O O O) ?_
       refine JLg (G0 r111.2) (H2 O O O) ?_
       refine Rc (E0 r111.1) O ?_
       refine Rc (G0 r111.2) O ?_
       refine G7 (hK110 ?_)
       refine Jr fun hK112=>?_
       refine Rc (OW 1024 9 Ga.av r5.1) O ?_
       refine JLg (.agg [G0 3,ST ByteArray.empty,U8 20,BL false,G0 0,G0 0,G0 0,U8 0,BL false]) (Hp (cs:=[G0 3,ST ByteArray.empty,U8 20,BL false,G0 0,G0 0,G0 0,U8 0,BL false]) [(0,1),(1,1),(2,1),(3,1),(4,1),(5,1),(6,1),(7,1),(8,1)] [G0 0,ST ByteArray.empty,U8 0,BL false,G0 0,G0 0,G0 0,U8 0,BL false] [.int .i64 0,.string ByteArray.empty,.int .u8 0,.bool false,.int .i64 0,.int .i64 0,.int .i64 0,.int .u8 0,.bool false] R4 Rv ⟨.inl O,.inl O,.inl O,.inl O,.inl O,.inl O,.inl O,.inl O,.inl O,G⟩ O O) ?_
       refine JLg (E2 [(Ga.mk 3 ByteArray.empty 20 false 0 0 0 0 false)]) (H6 (xs:=[.agg [G0 3,ST ByteArray.empty,U8 20,BL false,G0 0,G0 0,G0 0,U8 0,BL false]]) O ⟨O,O,G⟩ Rq Y6 O O O O) ?_
       obtain⟨ha113,h⟩:=Jk h
       refine JLg (OW 1024 9 Ga.av (r5.1++[(Ga.mk 3 ByteArray.empty 20 false 0 0 0 0 false)])) (Ro (f:=Ga.av) (xs:=r5.1) (ys:=[(Ga.mk 3 ByteArray.empty 20 false 0 0 0 0 false)]) O O O O Rq H00 ha113 (fun _=>O) (.inl O) O) ?_
       refine Rc (OW 1024 9 Ga.av (r5.1++[(Ga.mk 3 ByteArray.empty 20 false 0 0 0 0 false)])) O ?_
       refine G7 (hK112 ?_)
       refine Js fun hK114=>?_
       refine Jr fun hK115=>?_
       refine JLg (Ec r3) (Gb Hm O O O) ?_
       refine JLg (E7 r3.Columns) (Gi J4 O O O) ?_
       refine JLl Hq O O O fun hm201=>?_
       refine Rc (G0 0) O ?_
       refine G7 (hK115 ?_)
       refine Gx ?_
       obtain⟨b162,kx162,hb162,hkx162,h⟩:=Jh h
       refine Hz (fun i162 (s162:Unit)=>each b162 kx162 (List.drop i162 r3.Columns) i162 s162=some r) (fun i162 s162=>[(9,Ec r3),(10,OW 1024 9 Ga.av (r5.1++[(Ga.mk 3 ByteArray.empty 20 false 0 0 0 0 false)])),(11,E1 r5.2),(12,G0 v12),(15,.fn 19 [.dptr [E0 y16.Rows],.dptr [G0 y14.Bay]]),(20,E0 r50.1),(29,E0 r111.1),(30,G0 r111.2),(200,E7 r3.Columns),(201,Ej r3.Columns.length),(202,Ej i162)]) (fun i162 s162=>[(1024,.spare 67 9 (r5.1++[(Ga.mk 3 ByteArray.empty 20 false 0 0 0 0 false)]).length (r5.1++[(Ga.mk 3 ByteArray.empty 20 false 0 0 0 0 false)]).length)]) (fun i162=>r3.Columns.length - i162) 0 () h ⟨(by repeat' constructor),⟨⟨_,rfl,.same⟩,G⟩,rfl⟩ ?_
       clear h
       intro i162 s162 hi162 K162 e162
       refine Jr fun hK163=>?_
       refine JLg (BL (decide ((i162:Int) < (r3.Columns.length:Int)))) (Jt O O O) ?_
       refine G7 (hK163 ?_)
       refine Js fun hK164=>?_
       refine Gp O (fun hb=>?_) (fun hb=>?_)
       ·
        have hk162:=Q7 hb
        obtain⟨y162,nx162,hy162,hn162,h⟩:=J1 hi162 hk162
        replace h:=Zj hb162 h
        refine Gr ?_
        refine hK164 ?_
        obtain⟨kj165,hkj165,h⟩:=Yh h
        refine R5 (fun j165:Unit=>kj165 j165=some r) (fun j165=>[(9,Ec r3),(10,OW 1024 9 Ga.av (r5.1++[(Ga.mk 3 ByteArray.empty 20 false 0 0 0 0 false)])),(11,E1 r5.2),(12,G0 v12),(15,.fn 19 [.dptr [E0 y16.Rows],.dptr [G0 y14.Bay]]),(20,E0 r50.1),(29,E0 r111.1),(30,G0 r111.2),(200,E7 r3.Columns),(201,Ej r3.Columns.length),(202,Ej i162)]) (fun j165=>[(1024,.spare 67 9 (r5.1++[(Ga.mk 3 ByteArray.empty 20 false 0 0 0 0 false)]).length (r5.1++[(Ga.mk 3 ByteArray.empty 20 false 0 0 0 0 false)]).length)]) (fun Kj165 ej165=>?_) ?_
        ·
         refine Gx ?_
         refine Jr fun hK166=>?_
         refine Rc (Ej i162) O ?_
         refine JLg (Ee y162) (H9 (f:=G3.av) (xs:=r3.Columns) (y:=y162) O O O Hq hy162 O) ?_
         refine JLg (.agg (G3.cs y162)) (Gh Yd O O O) ?_
         refine JLg (.ptr 1020 0) (Hs 1020 12 Yp O O) ?_
         refine Rc (Ej i162) O ?_
         refine J0 (u:=.junk) (Hh (u:=.agg (G3.cs y162)) (ds:=(G3.cs y162)) G4c O O O O O O O O) ?_
         refine G7 (hK166 ?_)
         refine Gs [(9,Ec r3),(10,OW 1024 9 Ga.av (r5.1++[(Ga.mk 3 ByteArray.empty 20 false 0 0 0 0 false)])),(11,E1 r5.2),(12,G0 v12),(15,.fn 19 [.dptr [E0 y16.Rows],.dptr [G0 y14.Bay]]),(20,E0 r50.1),(29,E0 r111.1),(30,G0 r111.2),(31,Ej i162),(32,Ee y162),(200,E7 r3.Columns),(201,Ej r3.Columns.length),(202,Ej i162)] [(1024,.spare 67 9 (r5.1++[(Ga.mk 3 ByteArray.empty 20 false 0 0 0 0 false)]).length (r5.1++[(Ga.mk 3 ByteArray.empty 20 false 0 0 0 0 false)]).length)] 1020 rfl rfl rfl ⟨⟨_,rfl,.same⟩,G⟩ rfl (by repeat' (first | exact .ptr | constructor)) ?_
         refine Jr fun hK167=>?_
         refine JLg (.dptr ((G3.cs y162).drop 2)) (Gb R2 O O O) ?_
         refine JLg (BL y162.Deck) (Gi Jp O O O) ?_
         refine Rc (BL y162.Deck) O ?_
         refine JLo (.fn 19 [.dptr [E0 y16.Rows],.dptr [G0 y14.Bay]]) [] O .sct G (fun hc=>G5 O O) O ?_
         refine JLo (.agg (G3.cs y162)) [] O .sct G (fun hc=>Gh Yd O O O) O ?_
         obtain⟨r168,hr168,h⟩:=Gf h
         refine JLo (BL r168) [210,211] O .sct ⟨Ua,Ua,G⟩ (fun hc=>Zz (args:=[.agg (G3.cs y162)]) (caps:=[.dptr [E0 y16.Rows],.dptr [G0 y14.Bay]]) O O (Rs y162 y16.Rows y14.Bay r168 (H4 hc hr168)) H63 ⟨O,O,G⟩ O) O ?_
         refine JLg (BL (y162.Deck&&r168)) (Q6 O O O O) ?_
         refine G7 (hK167 ?_)
         refine JCc O h (fun h hb=>?_) (fun h hb=>?_)
         ·
          refine Js fun hK169=>?_
          refine Js fun hK170=>?_
          refine Rn (l':=[(9,Ec r3),(10,OW 1024 9 Ga.av (r5.1++[(Ga.mk 3 ByteArray.empty 20 false 0 0 0 0 false)])),(11,E1 r5.2),(12,G0 v12),(15,.fn 19 [.dptr [E0 y16.Rows],.dptr [G0 y14.Bay]]),(20,E0 r50.1),(29,E0 r111.1),(30,G0 r111.2),(31,Ej i162),(200,E7 r3.Columns),(201,Ej r3.Columns.length),(202,Ej i162)]) (L':=[(1024,.spare 67 9 (r5.1++[(Ga.mk 3 ByteArray.empty 20 false 0 0 0 0 false)]).length (r5.1++[(Ga.mk 3 ByteArray.empty 20 false 0 0 0 0 false)]).length)]) ⟨(by repeat' constructor),⟨⟨_,rfl,.same⟩,G⟩,rfl⟩ ?_
          obtain⟨r171,hr171,h⟩:=Gf h
          obtain⟨r172,hr172,h⟩:=Gf h
          refine JC_d0 Jz (by kernel_rfl) ?_
          refine Dq (.agg (Gt.cs r3)) (Gh H7 O O O) O ?_
          refine Dq (OW 1024 9 Ga.av (r5.1++[(Ga.mk 3 ByteArray.empty 20 false 0 0 0 0 false)])) (G5 O O) O ?_
          refine Dq (E1 r5.2) (G5 O O) O ?_
          refine Dq (E0 r50.1) (G5 O O) O ?_
          refine Dq (Ej i162) (G5 O O) O ?_
          refine Dq (.agg (Stowed.cs r171)) (Gu (args:=[G0 3,Ej i162,G0 0,U8 1]) O (Jv 3 (i162:Int) 0 1 r171 hr171) G04 ⟨O,O,O,O,O,O,O,O,G⟩) O ?_
          refine Dq (.tup [E1 r172.1,G0 r172.2]) (Gu (args:=[.agg (Gt.cs r3),E2 (r5.1++[(Ga.mk 3 ByteArray.empty 20 false 0 0 0 0 false)]),E1 r5.2,E0 r50.1,.agg (Stowed.cs r171)]) O (G2f F r3 (r5.1++[(Ga.mk 3 ByteArray.empty 20 false 0 0 0 0 false)]) r5.2 r50.1 r171 r172 hr172) G74 ⟨O,O,O,O,O,O,O,O,O,O,G⟩) O ?_
          refine Dq (.tup [E1 r172.1,G0 r172.2]) (G5 O O) O ?_
          refine Dq (E1 r172.1) (H2 O O O) O ?_
          refine Dq (G0 r172.2) (H2 O O O) O ?_
          refine Dq (E1 r172.1) (G8 O O) O ?_
          refine Dq (G0 r172.2) (G8 O O) O ?_
          refine Dnil ?_
          refine hK170 ?_
          refine Jr fun hK173=>?_
          refine Rc (G0 r172.2) O ?_
          refine JLg (BL (decide (r172.2≠91))) (G38 O O O) ?_
          refine G7 (hK173 ?_)
          refine JCc O h (fun h hb=>?_) (fun h hb=>?_)
          ·
           refine Jr fun hK174=>?_
           refine Rc (BL false) O ?_
           refine G7 (hK174 ?_)
           refine Gv ?_
           exact fin1 BL h
          ·
           refine Gr ?_
           refine hK169 ?_
           refine Js fun hK175=>?_
           refine Rn (l':=[(9,Ec r3),(10,OW 1024 9 Ga.av (r5.1++[(Ga.mk 3 ByteArray.empty 20 false 0 0 0 0 false)])),(11,E1 r5.2),(12,G0 v12),(15,.fn 19 [.dptr [E0 y16.Rows],.dptr [G0 y14.Bay]]),(20,E0 r50.1),(29,E0 r111.1),(30,G0 r111.2),(31,Ej i162),(200,E7 r3.Columns),(201,Ej r3.Columns.length),(202,Ej i162)]) (L':=[(1024,.spare 67 9 (r5.1++[(Ga.mk 3 ByteArray.empty 20 false 0 0 0 0 false)]).length (r5.1++[(Ga.mk 3 ByteArray.empty 20 false 0 0 0 0 false)]).length)]) ⟨(by repeat' constructor),⟨⟨_,rfl,.same⟩,G⟩,rfl⟩ ?_
           obtain⟨r176,hr176,h⟩:=Gf h
           obtain⟨r177,hr177,h⟩:=Gf h
           refine JC_d0 Jz (by kernel_rfl) ?_
           refine Dq (.agg (Gt.cs r3)) (Gh H7 O O O) O ?_
           refine Dq (OW 1024 9 Ga.av (r5.1++[(Ga.mk 3 ByteArray.empty 20 false 0 0 0 0 false)])) (G5 O O) O ?_
           refine Dq (E1 r5.2) (G5 O O) O ?_
           refine Dq (Ej i162) (G5 O O) O ?_
           refine Dq (.agg (Stowed.cs r176)) (Gu (args:=[G0 3,Ej i162,G0 0,U8 1]) O (Jv 3 (i162:Int) 0 1 r176 hr176) G04 ⟨O,O,O,O,O,O,O,O,G⟩) O ?_
           refine Dq (.tup [E1 r177.1,G0 r177.2]) (G46 (args:=[.agg (Gt.cs r3),E2 (r5.1++[(Ga.mk 3 ByteArray.empty 20 false 0 0 0 0 false)]),E1 r5.2,E0 ([]:List Int),.agg (Stowed.cs r176)]) O (G2f F r3 (r5.1++[(Ga.mk 3 ByteArray.empty 20 false 0 0 0 0 false)]) r5.2 [] r176 r177 hr177) G74 ⟨.inl O,O,.inl O,O,.inl O,O,.inr ⟨_,O,O⟩,O,.inl O,O,G⟩) O ?_
           refine Dq (.tup [E1 r177.1,G0 r177.2]) (G5 O O) O ?_
           refine Dq (E1 r177.1) (H2 O O O) O ?_
           refine Dq (G0 r177.2) (H2 O O O) O ?_
           refine Dq (E1 r177.1) (G8 O O) O ?_
           refine Dq (G0 r177.2) (G8 O O) O ?_
           refine Dnil ?_
           refine hK175 ?_
           refine Jr fun hK178=>?_
           refine Rc (G0 r177.2) O ?_
           refine JLg (BL (decide (r177.2≠0))) (G38 O O O) ?_
           refine G7 (hK178 ?_)
           refine JCc O h (fun h hb=>?_) (fun h hb=>?_)
           ·
            refine Jr fun hK179=>?_
            refine Rc (BL false) O ?_
            refine G7 (hK179 ?_)
            refine Gv ?_
            exact fin1 BL h
           ·
            refine Gr ?_
            exact ej165 _ _ () h ⟨(by repeat' constructor),⟨⟨_,rfl,.same⟩,G⟩,rfl⟩
         ·
          refine Gr ?_
          exact ej165 _ _ () h ⟨(by repeat' constructor),⟨⟨_,rfl,.same⟩,G⟩,rfl⟩
        ·intro j165 h
         replace h:=app1 hkj165 h
         refine G4 ?_
         refine JLg (G0 ((i162+1:Nat):Int)) (Hv (Hr hk162 hm201) O O O) ?_
         refine Rc (G0 ((i162+1:Nat):Int)) O ?_
         refine G7 ?_
         exact e162 _ _ (i162+1) () (app1 hn162 h) (by omega) ⟨(by repeat' constructor),⟨⟨_,rfl,.same⟩,G⟩,rfl⟩
       ·
        have h:=app1 hkx162 (J2 hi162 (Hg hb))
        refine J6 ?_
        refine hK114 ?_
        refine Jr fun hK180=>?_
        refine Rc (G0 r111.2) O ?_
        refine JLg (BL (decide (r111.2=0))) (Jx O O O) ?_
        refine Rc (BL (decide (r111.2=0))) O ?_
        refine JLo (E0 r111.1) [] O .sct G (fun hc=>G5 O O) O ?_
        refine JLo (E0 r50.1) [] O .sct G (fun hc=>G5 O O) O ?_
        obtain⟨r181,hr181,h⟩:=Gf h
        refine JLo (BL r181) [241,242] O .sct ⟨Ua,Ua,G⟩ (fun hc=>Gu (args:=[E0 r111.1,E0 r50.1]) O (Qe r111.1 r50.1 r181 (H4 hc hr181)) G75 ⟨O,O,O,O,G⟩) O ?_
        refine JLg (BL ((decide (r111.2=0))&&r181)) (Q6 O O O O) ?_
        refine Rc (BL ((decide (r111.2=0))&&r181)) O ?_
        refine JLo (E0 r50.1) [] O .sct G (fun hc=>G5 O O) O ?_
        refine JLo (G0 v12) [] O .sct G (fun hc=>G5 O O) O ?_
        refine JLo (E0 [v12]) [247] O .sct ⟨Ua,G⟩ (fun hc=>H6 (xs:=[G0 v12]) O ⟨O,O,G⟩ Gq Ju O O O O) O ?_
        obtain⟨r182,hr182,h⟩:=Gf h
        refine JLo (BL r182) [246,248] O .sct ⟨Ua,Ua,G⟩ (fun hc=>Gu (args:=[E0 r50.1,E0 [v12]]) O (Qe r50.1 [v12] r182 (H4 hc hr182)) G75 ⟨O,O,O,O,G⟩) O ?_
        refine JLg (BL (((decide (r111.2=0))&&r181)&&r182)) (Q6 O O O O) ?_
        refine Rc (BL (((decide (r111.2=0))&&r181)&&r182)) O ?_
        obtain⟨r183,hr183,h⟩:=Gf h
        refine JLo (BL r183) [] O .sct G (fun hc=>Gu (args:=[]) O (Q3 F r183 (H4 hc hr183)) G71 G) O ?_
        refine JLg (BL ((((decide (r111.2=0))&&r181)&&r182)&&r183)) (Q6 O O O O) ?_
        refine Rc (BL ((((decide (r111.2=0))&&r181)&&r182)&&r183)) O ?_
        refine G7 (hK180 ?_)
        refine Gv ?_
        exact fin1 BL h
end
end Go.Proofs.YtbljcmgjmieffaaGreat
