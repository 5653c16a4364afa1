/-
 Models of functions of the program,and that they return what the models say.
-/
import Derived.Test.YtpgkkengffpnpaaGreatXP
set_option linter.unnecessarySimpa false
set_option maxRecDepth 100000
set_option maxHeartbeats 1000000
set_option linter.unusedVariables false
set_option linter.unusedSimpArgs false
namespace Go.Proofs.YtpgkkengffpnpaaGreat
open Go.RowKit
noncomputable section

namespace XQF
open XAF
open XCF
open XGF
open XHF
open XBF
open XPF

end XQF
open XAF
open XCF
open XGF
open XHF
open XBF
open XPF
open XQF

def Qh (F:Nat) (l:List Gx) (covers:Int) (drops:List Gn):Option Bool:=
 bnd (Je l covers drops 9) fun r3=>
 bnd (Qy F r3.1 r3.2.1 r3.2.2) fun r5=>
 bif decide (r5.2≠0) then
 (some false)
 else
 (jp (fun kj10=>
   loop (fun nx12 (s12:(List Stowed)×Int)=>
    bif ((decide (0 < (s12.1.length:Int)))&&(decide (s12.2 < 5))) then
    (bnd (Y0 F r3.1 r3.2.1 s12.1) fun r17=>
     bif (((decide (r17.2.2.2≠0))||(decide ((r17.2.1.length:Int)=0)))||((decide ((r5.1.length:Int)=0))&&(decide (0 < (r17.2.2.1.length:Int))))) then
     (some false)
     else
     (each (fun y23 i23 (s23:Unit) nx23=>
       bnd (Jp F r3.1 r3.2.1 s12.1 y23.G9) fun r29=>
       bif decide (r29.2≠0) then
       (some false)
       else
       (each (fun y48 i48 (s48:Bool) nx48=>
         bnd (bif (!s48) then Q0 r3.2.1 y48 else some default) fun r53=>
         nx48 (s48||(decide (r53=r17.1))))
        (fun(s48:Bool)=>
         bnd (M_twistlocklaw22_holds r17.2.2.1 y23.G9) fun r55=>
         bnd (bif (!(!(s48==r55))) then M_twistlocklaw22_holds r17.2.1 y23.G9 else some default) fun r56=>
         bnd (bif (!(!(s48==r55))) then Q0 r3.2.1 y23.G9 else some default) fun r57=>
         bif ((!(s48==r55))||(!(r56==(decide (r57=r17.1))))) then
         (some false)
         else
         (nx23 ())) r29.1 0 false))
      (fun(s23:Unit)=>
       bif (!(decide ((r5.1.length:Int)=0))) then
       (kj10 s12.1)
       else
       (each (fun y80 i80 (s80:(List Stowed)) nx80=>
         jp (fun kj83=>
          bnd (M_twistlocklaw22_holds r17.2.1 y80.G9) fun r86=>
          bif (!r86) then
          (need (decide ((s80.length+[y80].length)*32≤140737488355328∧s80.length+[y80].length≤maxLen)) <|
           kj83 (s80++[y80]))
          else
          (kj83 s80)) fun(j83:(List Stowed))=>
         nx80 j83)
        (fun(s80:(List Stowed))=>
         bnd (Q3 r3.1 r3.2.1 s80) fun r90=>
         bif (!r90) then
         (some false)
         else
         (G0a (s12.2+1) fun v92=>
          nx12 (s80,v92))) s12.1 0 [])) s12.1 0 ()))
    else
    (kj10 s12.1)) F (r3.2.2,0)) fun(j10:(List Stowed))=>
  bnd (bif ((!(decide ((r5.1.length:Int)=0)))||(decide ((j10.length:Int)=0))) then Jc F else some default) fun r94=>
  some (((!(decide ((r5.1.length:Int)=0)))||(decide ((j10.length:Int)=0)))&&r94))
theorem G91 (F:Nat) (l:List Gx) (covers:Int) (drops:List Gn) (r:Bool) (h:Qh F l covers drops=some r):Pure Ek 3 [Eb l,.sc (.int .u32 covers),Ea drops] (·=BL r):=by
 unfold Qh at h
 refine H5 [.tmp 6] Tryz.func3 O O (Jr fun hK1=>(Yr (BL false) O (G7 (hK1 (Jr fun hK2=>(Yr (Eb l) O (Yr (.sc (.int .u32 covers)) O (Yr (Ea drops) O ?_))))))))
 obtain⟨r3,hr3,h⟩:=Gd h
 refine JLh (.tup [.agg (Gr.cs r3.1),E2 r3.2.1,E1 r3.2.2]) (Gt O (G06 l covers drops 9 r3 hr3) Gfe ⟨O,O,O,O,O,O,O,O,G⟩) O (Yr (.tup [.agg (Gr.cs r3.1),E2 r3.2.1,E1 r3.2.2]) O (JLh (.agg (Gr.cs r3.1)) (Gm O O O) O (JLh (E2 r3.2.1) (Gm O O O) O (JLh (E1 r3.2.2) (Gm O O O) O (JLh (.ptr 1001 0) (Hu 1001 13 G0b O O) O (Hw (u:=.junk) (Hj (u:=.agg (Gr.cs r3.1)) (ds:=(Gr.cs r3.1)) Yx O O O O O O O O) (Yr (E2 r3.2.1) O (Yr (E1 r3.2.2) O (G7 (hK2 ?_))))))))))
 refine Gs [(7,Ec r3.1),(8,E2 r3.2.1),(9,E1 r3.2.2)] [] 1001 rfl rfl rfl G rfl (by exact⟨.ptr,.conv (.same rfl),.conv (.same rfl),G⟩) (Jr fun hK4=>(JLh (.agg (Gr.cs r3.1)) (Gg H4 O O O) O (Yr (E2 r3.2.1) O (Yr (E1 r3.2.2) O ?_))))
 obtain⟨r5,hr5,h⟩:=Gd h
 refine JLh (.tup [E0 r5.1,G0 r5.2]) (Gt O (G14.down F r3.1 r3.2.1 r3.2.2 r5 hr5) H5a ⟨O,O,O,O,O,O,G⟩) O (Yr (.tup [E0 r5.1,G0 r5.2]) O (JLh (E0 r5.1) (Gm O O O) O (JLh (G0 r5.2) (Gm O O O) O (Yr (E0 r5.1) O (Yr (G0 r5.2) O (G7 (hK4 (Js fun hK6=>Jr fun hK7=>(Yr (G0 r5.2) O (JLh (BL (decide (r5.2≠0))) (Zt O O O) O (G7 (hK7 (JCc O h (fun h hb=>?_) (fun h hb=>?_))))))))))))))
 ·
  refine Jr fun hK8=>(Yr (BL false) O (G7 (hK8 (Gw (fin1 BL h)))))
 ·
  refine Gq (hK6 (Jr fun hK9=>(Yr (E0 r5.1) O (JLl Gp O O O fun hm46=>(JLh (BL (decide ((r5.1.length:Int)=0))) (Jx O O O) O (Yr (BL (decide ((r5.1.length:Int)=0))) O (G7 (hK9 ?_))))))))
  obtain⟨kj10,hkj10,h⟩:=Rb h
  refine Qk (fun j10:(List Stowed)=>kj10 j10=some r) (fun j10=>[(9,E1 j10),(12,BL (decide ((r5.1.length:Int)=0)))]) (fun j10=>[]) (fun Kj10 ej10=>?_) ?_
  ·
   refine Jr fun hK11=>(Yr (G0 0) O (G7 (hK11 (Gv ?_))))
   obtain⟨b12,hb12,h⟩:=loop_in h
   refine Hp (fun i12 (s12:(List Stowed)×Int)=>loop b12 i12 s12=some r) (fun i12 s12=>[(7,Ec r3.1),(8,E2 r3.2.1),(9,E1 s12.1),(12,BL (decide ((r5.1.length:Int)=0))),(13,G0 s12.2)]) (fun i12 s12=>[]) (fun i12=>i12) F (r3.2.2,0) h ⟨(by repeat' constructor),G,rfl⟩ ?_
   clear h
   intro i12 s12 hi12 K12 e12
   obtain⟨m12,nx12,hm_12,hn12,h⟩:=J69 hi12
   replace h:=app2 hb12 h
   refine Js fun hK13=>Jr fun hK14=>(Yr (E1 s12.1) O (JLl H2 O O O fun hm49=>(JLh (BL (decide (0 < (s12.1.length:Int)))) (G2b O O O) O (Yr (BL (decide (0 < (s12.1.length:Int)))) O (JLo (G0 s12.2) [] O .sct G (fun hc=>G5 O O) O (JLo (BL (decide (s12.2 < 5))) [52] O .sct ⟨Ua,G⟩ (fun hc=>J9 O O O) O (JLh (BL ((decide (0 < (s12.1.length:Int)))&&(decide (s12.2 < 5)))) (Q9 O O O O) O (G7 (hK14 (JCc O h (fun h hb=>?_) (fun h hb=>?_)))))))))))
   ·
    refine Gq (hK13 (Js fun hK15=>Gv (Jr fun hK16=>(JLh (.agg (Gr.cs r3.1)) (Gg H4 O O O) O (Yr (E2 r3.2.1) O (Yr (E1 s12.1) O ?_))))))
    obtain⟨r17,hr17,h⟩:=Gd h
    refine JLh (.tup [G0 r17.1,E0 r17.2.1,E0 r17.2.2.1,G0 r17.2.2.2]) (Gt O (G28 F r3.1 r3.2.1 s12.1 r17 hr17) H12 ⟨O,O,O,O,O,O,G⟩) O (Yr (.tup [G0 r17.1,E0 r17.2.1,E0 r17.2.2.1,G0 r17.2.2.2]) O (JLh (G0 r17.1) (Gm O O O) O (JLh (E0 r17.2.1) (Gm O O O) O (JLh (E0 r17.2.2.1) (Gm O O O) O (JLh (G0 r17.2.2.2) (Gm O O O) O (Yr (G0 r17.1) O (Yr (E0 r17.2.1) O (Yr (E0 r17.2.2.1) O (Yr (G0 r17.2.2.2) O (G7 (hK16 (Js fun hK18=>?_))))))))))))
    refine Jr fun hK19=>(Yr (G0 r17.2.2.2) O (JLh (BL (decide (r17.2.2.2≠0))) (Zt O O O) O (Yr (BL (decide (r17.2.2.2≠0))) O (JLo (E0 r17.2.1) [] O .scf G (fun hc=>G5 O O) O (JLo (Ej r17.2.1.length) [69] O .scf ⟨Ua,G⟩ (fun hc=>Ze (f:=G0) (xs:=r17.2.1) Gp O O) O (JLo (BL (decide ((r17.2.1.length:Int)=0))) [70] O .scf ⟨Ua,G⟩ (fun hc=>Jx O O O) O (JLh (BL ((decide (r17.2.2.2≠0))||(decide ((r17.2.1.length:Int)=0)))) (Zh O O O O) O (Yr (BL ((decide (r17.2.2.2≠0))||(decide ((r17.2.1.length:Int)=0)))) O (JLo (BL (decide ((r5.1.length:Int)=0))) [] O .scf G (fun hc=>G5 O O) O (JLo (BL (decide ((r5.1.length:Int)=0))) [74] O .scf ⟨Ua,G⟩ (fun hc=>G5 O O) O (JLo (E0 r17.2.2.1) [] O .optt G (fun hc=>G5 O O) O (JLo (Ej r17.2.2.1.length) [76] O .optt ⟨Ua,G⟩ (fun hc=>Ze (f:=G0) (xs:=r17.2.2.1) Gp O O) O (JLo (BL (decide (0 < (r17.2.2.1.length:Int)))) [77] O .optt ⟨Ua,G⟩ (fun hc=>G2b O O O) O ?_)))))))))))))
    refine Gc (u:=BL ((decide ((r5.1.length:Int)=0))&&(decide (0 < (r17.2.2.1.length:Int))))) [(75,BL (decide ((r5.1.length:Int)=0))),(78,_)] O O O .scf ⟨.all id,.part,G⟩ (fun hc=>Q9 O O O O) ?_
    refine JLh (BL (((decide (r17.2.2.2≠0))||(decide ((r17.2.1.length:Int)=0)))||((decide ((r5.1.length:Int)=0))&&(decide (0 < (r17.2.2.1.length:Int)))))) (Zh O O O O) O (G7 (hK19 (JCc O h (fun h hb=>?_) (fun h hb=>?_))))
    ·
     refine Jr fun hK20=>(Yr (BL false) O (G7 (hK20 (Gw (fin1 BL h)))))
    ·
     refine Gq (hK18 (Js fun hK21=>Jr fun hK22=>(Yr (E1 s12.1) O (JLl H2 O O O fun hm82=>(Yr (G0 0) O (G7 (hK22 (Gv ?_))))))))
     obtain⟨b23,kx23,hb23,hkx23,h⟩:=J0 h
     refine Hp (fun i23 (s23:Unit)=>each b23 kx23 (List.drop i23 s12.1) i23 s23=some r) (fun i23 s23=>[(7,Ec r3.1),(8,E2 r3.2.1),(9,E1 s12.1),(12,BL (decide ((r5.1.length:Int)=0))),(13,G0 s12.2),(14,G0 r17.1),(15,E0 r17.2.1),(16,E0 r17.2.2.1),(81,E1 s12.1),(82,Ej s12.1.length),(83,Ej i23)]) (fun i23 s23=>[]) (fun i23=>s12.1.length - i23) 0 () h ⟨(by repeat' constructor),G,rfl⟩ ?_
     clear h
     intro i23 s23 hi23 K23 e23
     refine Jr fun hK24=>(JLh (BL (decide ((i23:Int) < (s12.1.length:Int)))) (J9 O O O) O (G7 (hK24 (Js fun hK25=>Gk O (fun hb=>?_) (fun hb=>?_)))))
     ·
      have hk23:=Jh hb
      obtain⟨y23,nx23,hy23,hn23,h⟩:=Hq hi23 hk23
      replace h:=Y5 hb23 h
      refine Gq (hK25 (Js fun hK26=>Gv (Jr fun hK27=>(JLh (Ed y23) (Ha (f:=Stowed.av) (xs:=s12.1) (y:=y23) O O O H2 hy23 O) O (JLh (.agg (Stowed.cs y23)) (Gg Qw O O O) O (JLh (.ptr 1002 0) (Hu 1002 4 Ju O O) O (Hw (u:=.junk) (Hj (u:=.agg (Stowed.cs y23)) (ds:=[G0 y23.G9,G0 y23.Slot.G4,G0 y23.Slot.Tier,U8 y23.Slot.Half]) Ra O O O O O O O O) (G7 (hK27 ?_)))))))))
      refine Gs [(7,Ec r3.1),(8,E2 r3.2.1),(9,E1 s12.1),(12,BL (decide ((r5.1.length:Int)=0))),(13,G0 s12.2),(14,G0 r17.1),(15,E0 r17.2.1),(16,E0 r17.2.2.1),(19,Ed y23),(81,E1 s12.1),(82,Ej s12.1.length),(83,Ej i23)] [] 1002 rfl rfl rfl G rfl (by repeat' (first | exact .ptr | constructor)) (Jr fun hK28=>(JLh (.agg (Gr.cs r3.1)) (Gg H4 O O O) O (Yr (E2 r3.2.1) O (Yr (E1 s12.1) O (JLh (Ed y23) (Gf Hf O O O) O (JLh (G0 y23.G9) (Gh Gb O O O) O ?_))))))
      obtain⟨r29,hr29,h⟩:=Gd h
      refine JLh (.tup [E0 r29.1,G0 r29.2]) (Gt O (Q4 F r3.1 r3.2.1 s12.1 y23.G9 r29 hr29) Zb ⟨O,O,O,O,O,O,O,O,G⟩) O (Yr (.tup [E0 r29.1,G0 r29.2]) O (JLh (E0 r29.1) (Gm O O O) O (JLh (G0 r29.2) (Gm O O O) O (Yr (E0 r29.1) O (Yr (G0 r29.2) O (G7 (hK28 (Js fun hK30=>Jr fun hK31=>(Yr (G0 r29.2) O (JLh (BL (decide (r29.2≠0))) (Zt O O O) O (G7 (hK31 (JCc O h (fun h hb=>?_) (fun h hb=>?_))))))))))))))
      ·
       refine Jr fun hK32=>(Yr (BL false) O (G7 (hK32 (Gw (fin1 BL h)))))
      ·
       refine Gq (hK30 (Jr fun hK33=>(Yr (BL false) O (G7 (hK33 (Js fun hK34=>Jr fun hK35=>(Yr (E0 r29.1) O (JLl Gp O O O fun hm99=>(Yr (G0 0) O (G7 (hK35 (Gv ?_))))))))))))
       obtain⟨b48,kx48,hb48,hkx48,h⟩:=J0 h
       refine Hp (fun i48 (s48:Bool)=>each b48 kx48 (List.drop i48 r29.1) i48 s48=some r) (fun i48 s48=>[(7,Ec r3.1),(8,E2 r3.2.1),(9,E1 s12.1),(12,BL (decide ((r5.1.length:Int)=0))),(13,G0 s12.2),(14,G0 r17.1),(15,E0 r17.2.1),(16,E0 r17.2.2.1),(19,Ed y23),(22,BL s48),(81,E1 s12.1),(82,Ej s12.1.length),(83,Ej i23),(98,E0 r29.1),(99,Ej r29.1.length),(100,Ej i48)]) (fun i48 s48=>[]) (fun i48=>r29.1.length - i48) 0 false h ⟨(by repeat' constructor),G,rfl⟩ ?_
       clear h
       intro i48 s48 hi48 K48 e48
       refine Jr fun hK49=>(JLh (BL (decide ((i48:Int) < (r29.1.length:Int)))) (J9 O O O) O (G7 (hK49 (Js fun hK50=>Gk O (fun hb=>?_) (fun hb=>?_)))))
       ·
        have hk48:=Jh hb
        obtain⟨y48,nx48,hy48,hn48,h⟩:=Hq hi48 hk48
        replace h:=Y5 hb48 h
        refine Gq (hK50 (Js fun hK51=>Gv (Jr fun hK52=>(JLh (.dptr [G0 y48]) (Ha (f:=G0) (xs:=r29.1) (y:=y48) O O O Gp hy48 O) O (JLh (G0 y48) (Gh Gb O O O) O (Yr (G0 y48) O (G7 (hK52 (G3 (Yr (BL s48) O (Yr (BL s48) O (JLo (E2 r3.2.1) [] O .scf G (fun hc=>G5 O O) O (JLo (G0 y48) [] O .scf G (fun hc=>G5 O O) O ?_)))))))))))))
        obtain⟨r53,hr53,h⟩:=Gd h
        refine JLo (G0 r53) [106,107] O .scf ⟨Ua,Ua,G⟩ (fun hc=>Gt (args:=[E2 r3.2.1,G0 y48]) O (Y3 r3.2.1 y48 r53 (H3 hc hr53)) H11 ⟨O,O,O,O,G⟩) O (JLo (G0 r17.1) [] O .scf G (fun hc=>G5 O O) O (JLo (BL (decide (r53=r17.1))) [108,109] O .scf ⟨Ua,Ua,G⟩ (fun hc=>Jx O O O) O (JLh (BL (s48||(decide (r53=r17.1)))) (Zh O O O O) O (Yr (BL (s48||(decide (r53=r17.1)))) O (G7 (hK51 (G3 (JLh (G0 ((i48+1:Nat):Int)) (Hx (Ho hk48 hm99) O O O) O (Yr (G0 ((i48+1:Nat):Int)) O (G7 (e48 _ _ (i48+1) (s48||(decide (r53=r17.1))) (app1 hn48 h) (by omega) ⟨(by repeat' constructor),G,rfl⟩)))))))))))
       ·
        have h:=app1 hkx48 (Hr hi48 (Hb hb))
        refine Ht (hK34 (Js fun hK54=>?_))
        obtain⟨r55,hr55,h⟩:=Gd h
        obtain⟨r56,hr56,h⟩:=Gd h
        obtain⟨r57,hr57,h⟩:=Gd h
        refine JC_d0 Qa (by kernel_rfl) (Dq (BL s48) (G5 O O) O (Dq (E0 r17.2.2.1) (G5 O O) O (Dq (Ed y23) (Gf Hf O O O) O (Dq (G0 y23.G9) (Gh Gb O O O) O (Dq (BL r55) (Gt (args:=[E0 r17.2.2.1,G0 y23.G9]) O (Qm r17.2.2.1 y23.G9 r55 hr55) G8b ⟨O,O,O,O,G⟩) O (Dq (BL (!(s48==r55))) (Hd0 G8c O O O) O (Dq (BL (!(s48==r55))) (G5 O O) O (Do (E0 r17.2.1) [] O .scf G (fun hc=>G5 O O) O (Do (Ed y23) [] O .scf G (fun hc=>Gf Hf O O O) O (Do (G0 y23.G9) [121] O .scf ⟨Ua,G⟩ (fun hc=>Gh Gb O O O) O (Do (BL r56) [120,122] O .scf ⟨Ua,Ua,G⟩ (fun hc=>Gt (args:=[E0 r17.2.1,G0 y23.G9]) O (Qm r17.2.1 y23.G9 r56 (H3 hc hr56)) G8b ⟨O,O,O,O,G⟩) O (Do (E2 r3.2.1) [] O .scf G (fun hc=>G5 O O) O (Do (Ed y23) [] O .scf G (fun hc=>Gf Hf O O O) O ?_)))))))))))))
        refine Do (G0 y23.G9) [125] O .scf ⟨Ua,G⟩ (fun hc=>Gh Gb O O O) O (Do (G0 r57) [124,126] O .scf ⟨Ua,Ua,G⟩ (fun hc=>Gt (args:=[E2 r3.2.1,G0 y23.G9]) O (Y3 r3.2.1 y23.G9 r57 (H3 hc hr57)) H11 ⟨O,O,O,O,G⟩) O (Do (G0 r17.1) [] O .scf G (fun hc=>G5 O O) O (Do (BL (decide (r57=r17.1))) [127,128] O .scf ⟨Ua,Ua,G⟩ (fun hc=>Jx O O O) O (Do (BL (!(r56==(decide (r57=r17.1))))) [123,129] O .scf ⟨Ua,Ua,G⟩ (fun hc=>Hd0 G8c O O O) O (Dq (BL ((!(s48==r55))||(!(r56==(decide (r57=r17.1)))))) (Zh O O O O) O (Dnil (hK54 (JCc O h (fun h hb=>?_) (fun h hb=>?_)))))))))
        ·
         refine Jr fun hK58=>(Yr (BL false) O (G7 (hK58 (Gw (fin1 BL h)))))
        ·
         refine Gq (hK26 (G3 (JLh (G0 ((i23+1:Nat):Int)) (Hx (Ho hk23 hm82) O O O) O (Yr (G0 ((i23+1:Nat):Int)) O (G7 (e23 _ _ (i23+1) () (app1 hn23 h) (by omega) ⟨(by repeat' constructor),G,rfl⟩))))))
     ·
      have h:=app1 hkx23 (Hr hi23 (Hb hb))
      refine Ht (hK21 (Js fun hK59=>Jr fun hK60=>(Yr (BL (decide ((r5.1.length:Int)=0))) O (JLh (BL (!(decide ((r5.1.length:Int)=0)))) (Rk (b:=decide ((r5.1.length:Int)=0)) O O) O (G7 (hK60 (JCc O h (fun h hb=>?_) (fun h hb=>?_))))))))
      ·
       refine Ht (ej10 _ _ s12.1 h ⟨⟨.same O,.same O,G⟩,G,O⟩)
      ·
       refine Gq (hK59 (Jr fun hK61=>(JLh (OW 1003 4 Stowed.av ([]:List Stowed)) (G3c 1003 49 4 O O O) O (G7 (hK61 (Js fun hK62=>Jr fun hK63=>(Yr (E1 s12.1) O (JLl H2 O O O fun hm136=>(Yr (G0 0) O (G7 (hK63 (Gv ?_))))))))))))
       obtain⟨b80,kx80,hb80,hkx80,h⟩:=J0 h
       refine Hp (fun i80 (s80:(List Stowed))=>each b80 kx80 (List.drop i80 s12.1) i80 s80=some r) (fun i80 s80=>[(7,Ec r3.1),(8,E2 r3.2.1),(12,BL (decide ((r5.1.length:Int)=0))),(13,G0 s12.2),(15,E0 r17.2.1),(25,OW 1003 4 Stowed.av s80),(135,E1 s12.1),(136,Ej s12.1.length),(137,Ej i80)]) (fun i80 s80=>[(1003,.spare 49 4 s80.length s80.length)]) (fun i80=>s12.1.length - i80) 0 [] h ⟨(by repeat' constructor),⟨⟨_,rfl,.same⟩,G⟩,rfl⟩ ?_
       clear h
       intro i80 s80 hi80 K80 e80
       refine Jr fun hK81=>(JLh (BL (decide ((i80:Int) < (s12.1.length:Int)))) (J9 O O O) O (G7 (hK81 (Js fun hK82=>Gk O (fun hb=>?_) (fun hb=>?_)))))
       ·
        have hk80:=Jh hb
        obtain⟨y80,nx80,hy80,hn80,h⟩:=Hq hi80 hk80
        replace h:=Y5 hb80 h
        refine Gq (hK82 ?_)
        obtain⟨kj83,hkj83,h⟩:=Rb h
        refine Qk (fun j83:(List Stowed)=>kj83 j83=some r) (fun j83=>[(7,Ec r3.1),(8,E2 r3.2.1),(12,BL (decide ((r5.1.length:Int)=0))),(13,G0 s12.2),(15,E0 r17.2.1),(25,OW 1003 4 Stowed.av j83),(135,E1 s12.1),(136,Ej s12.1.length),(137,Ej i80)]) (fun j83=>[(1003,.spare 49 4 j83.length j83.length)]) (fun Kj83 ej83=>?_) ?_
        ·
         refine Gv (Jr fun hK84=>(JLh (Ed y80) (Ha (f:=Stowed.av) (xs:=s12.1) (y:=y80) O O O H2 hy80 O) O (JLh (.agg (Stowed.cs y80)) (Gg Qw O O O) O (JLh (.ptr 1004 0) (Hu 1004 4 Ju O O) O (Hw (u:=.junk) (Hj (u:=.agg (Stowed.cs y80)) (ds:=[G0 y80.G9,G0 y80.Slot.G4,G0 y80.Slot.Tier,U8 y80.Slot.Half]) Ra O O O O O O O O) (G7 (hK84 ?_)))))))
         refine Gs [(7,Ec r3.1),(8,E2 r3.2.1),(12,BL (decide ((r5.1.length:Int)=0))),(13,G0 s12.2),(15,E0 r17.2.1),(25,OW 1003 4 Stowed.av s80),(27,Ed y80),(135,E1 s12.1),(136,Ej s12.1.length),(137,Ej i80)] [(1003,.spare 49 4 s80.length s80.length)] 1004 rfl rfl rfl ⟨⟨_,rfl,.same⟩,G⟩ rfl (by repeat' (first | exact .ptr | constructor)) (Jr fun hK85=>(Yr (E0 r17.2.1) O (JLh (Ed y80) (Gf Hf O O O) O (JLh (G0 y80.G9) (Gh Gb O O O) O ?_))))
         obtain⟨r86,hr86,h⟩:=Gd h
         refine JLh (BL r86) (Gt O (Qm r17.2.1 y80.G9 r86 hr86) G8b ⟨O,O,O,O,G⟩) O (JLh (BL (!r86)) (Rk (b:=r86) O O) O (G7 (hK85 (JCc O h (fun h hb=>?_) (fun h hb=>?_)))))
         ·
          refine G3 (Yr (OW 1003 4 Stowed.av s80) O (JLh (.agg (Stowed.cs y80)) (Gg Qw O O O) O (JLh (E1 [y80]) (H8 (xs:=[.agg (Stowed.cs y80)]) O ⟨O,O,G⟩ H2 Ju O O O O) O ?_)))
          obtain⟨ha87,h⟩:=J5 h
          refine JLh (OW 1003 4 Stowed.av (s80++[y80])) (R5 (f:=Stowed.av) (xs:=s80) (ys:=[y80]) O O O O H2 G12 ha87 (fun _=>O) (.inl O) O) O (Yr (OW 1003 4 Stowed.av (s80++[y80])) O (G7 (ej83 _ _ (s80++[y80]) h ⟨(by repeat' constructor),⟨⟨_,rfl,.same⟩,G⟩,rfl⟩)))
         ·
          refine Gq (ej83 _ _ s80 h ⟨(by repeat' constructor),⟨⟨_,rfl,.same⟩,G⟩,rfl⟩)
        ·intro j83 h
         replace h:=app1 hkj83 h
         refine G3 (JLh (G0 ((i80+1:Nat):Int)) (Hx (Ho hk80 hm136) O O O) O (Yr (G0 ((i80+1:Nat):Int)) O (G7 (e80 _ _ (i80+1) j83 (app1 hn80 h) (by omega) ⟨(by repeat' constructor),⟨⟨_,rfl,.same⟩,G⟩,rfl⟩))))
       ·
        have h:=app1 hkx80 (Hr hi80 (Hb hb))
        refine Ht (hK62 (Js fun hK88=>Jr fun hK89=>(JLh (.agg (Gr.cs r3.1)) (Gg H4 O O O) O (Yr (E2 r3.2.1) O (Yr (OW 1003 4 Stowed.av s80) O ?_)))))
        obtain⟨r90,hr90,h⟩:=Gd h
        refine JLh (BL r90) (Gt O (Ym r3.1 r3.2.1 s80 r90 hr90) G2f ⟨O,O,O,O,O,O,G⟩) O (JLh (BL (!r90)) (Rk (b:=r90) O O) O (G7 (hK89 (JCc O h (fun h hb=>?_) (fun h hb=>?_)))))
        ·
         refine Jr fun hK91=>(Yr (BL false) O (G7 (hK91 (Gw (fin1 BL h)))))
        ·
         refine Gq (hK88 (G3 (Yr (OW 1003 4 Stowed.av s80) O (Yr (OW 1003 4 Stowed.av s80) O (G7 (hK15 (G3 (Yr (G0 s12.2) O ?_))))))))
         obtain⟨v92,hv92,h⟩:=Jm h
         refine JLh (G0 v92) (Hx hv92 O O O) O (Yr (G0 v92) O (G7 (e12 _ _ m12 (s80,v92) (app1 hn12 h) (by omega) ⟨⟨.same rfl,.same rfl,.list rfl,.same rfl,.same rfl,G⟩,G,rfl⟩)))
   ·
    refine Ht (ej10 _ _ s12.1 h ⟨⟨.same O,.same O,G⟩,G,O⟩)
  ·intro j10 h
   replace h:=app1 hkj10 h
   refine Jr fun hK93=>(Yr (BL (decide ((r5.1.length:Int)=0))) O (JLh (BL (!(decide ((r5.1.length:Int)=0)))) (Rk (b:=decide ((r5.1.length:Int)=0)) O O) O (Yr (BL (!(decide ((r5.1.length:Int)=0)))) O (JLo (E1 j10) [] O .scf G (fun hc=>G5 O O) O (JLo (Ej j10.length) [160] O .scf ⟨Ua,G⟩ (fun hc=>Ze (f:=Stowed.av) (xs:=j10) H2 O O) O (JLo (BL (decide ((j10.length:Int)=0))) [161] O .scf ⟨Ua,G⟩ (fun hc=>Jx O O O) O (JLh (BL ((!(decide ((r5.1.length:Int)=0)))||(decide ((j10.length:Int)=0)))) (Zh O O O O) O (Yr (BL ((!(decide ((r5.1.length:Int)=0)))||(decide ((j10.length:Int)=0)))) O ?_))))))))
   obtain⟨r94,hr94,h⟩:=Gd h
   refine JLo (BL r94) [] O .sct G (fun hc=>Gt (args:=[]) O (Qn F r94 (H3 hc hr94)) G8a G) O (JLh (BL (((!(decide ((r5.1.length:Int)=0)))||(decide ((j10.length:Int)=0)))&&r94)) (Q9 O O O O) O (Yr (BL (((!(decide ((r5.1.length:Int)=0)))||(decide ((j10.length:Int)=0)))&&r94)) O (G7 (hK93 (Gw (fin1 BL h))))))
end
end Go.Proofs.YtpgkkengffpnpaaGreat
