/- Walks of functions. -/
import Derived.Test.YtokjlondbjdlfaaXE
import Derived.Test.YtokjlondbjdlfaaSpecM
set_option maxRecDepth 100000
set_option maxHeartbeats 1000000
set_option linter.unusedVariables false
set_option linter.unusedSimpArgs false
namespace Go.Proofs.Ytokjlondbjdlfaa
open Go.RowKit
noncomputable section

namespace XIF
open XAF
open XBF
open XCF
open XDF
open XEF
theorem Gdd:sliceB E8 31 5 1=true:=by kernel_rfl
end XIF
open XAF
open XBF
open XCF
open XDF
open XEF
open XIF

def Q4 (F:Nat) (y:Gm) (l:List Int) (most:Int):Option (List Int):=
 each (fun f o (c:(List Int)) h=>
  need (decide ((c.length+f.length)*8≤140737488355328∧c.length+f.length≤maxLen)) <|
  h (c++f))
 (fun(c:(List Int))=>
  loop (fun i (a:(List Int)×(List Int)×Int)=>
   bif (((decide (a.2.2 < (l.length:Int)))&&(decide (0 < (a.1.length:Int))))&&(decide ((a.2.1.length:Int) < most))) then
   (R5 l a.2.2 fun m=>
    chk (m) fun n=>
    bnd (J93 n (a.1.length:Int)) fun g=>
    R5 a.1 g fun d=>
    need (decide ((a.2.1.length+[d].length)*8≤140737488355328∧a.2.1.length+[d].length≤maxLen)) <|
    bnd (Rw g a.1.length) fun b=>
    need (decide ((([]:List Int).length+(a.1.take b).length)*8≤140737488355328∧([]:List Int).length+(a.1.take b).length≤maxLen)) <|
    chk (g+1) fun j=>
    bnd (Rw j a.1.length) fun e=>
    need (decide (((([]:List Int)++(a.1.take b)).length+(a.1.drop e).length)*8≤140737488355328∧(([]:List Int)++(a.1.take b)).length+(a.1.drop e).length≤maxLen)) <|
    chk (a.2.2+1) fun k=>
    i (((([]:List Int)++(a.1.take b))++(a.1.drop e)),(a.2.1++[d]),k))
   else
   (some a.2.1)) F (c,[],0)) y.Stacks 0 []
theorem G41 (F:Nat) (y:Gm) (l:List Int) (most:Int) (r:(List Int)) (h:Q4 F y l most=some r):Pure E8 16 [.agg [LS 1 (E1) y.Stacks,I64 y.Height],E4 l,I64 most] (·=E1 r):=by
 unfold Q4 at h
 refine He [.tmp 6] Try.func16 O O (Jr fun c9=>(JLh (.ptr 1018 0) (Qr (cs:=[LS 1 (E1) y.Stacks,I64 y.Height]) 1018 O O O O O) O (JLh (E1 ([]:List Int)) (Jo 1 O O) O (G6 (c9 (H2 [(1,E4 l),(2,I64 most),(3,.dptr [LS 1 (E1) y.Stacks,I64 y.Height])] [] 1018 rfl rfl rfl ø rfl (by exact⟨.conv (.same rfl),.conv (.same rfl),.ptr,ø⟩) (Jr fun d0=>(JLh (OW 1019 1 I64 ([]:List Int)) (Gac 1019 3 1 O O O) O (JLh (OW 1020 1 I64 ([]:List Int)) (Gac 1020 3 1 O O O) O (G6 (d0 (Js fun d1=>Jr fun d2=>(JLh (.dptr [LS 1 (E1) y.Stacks,I64 y.Height]) (Gy Hp O O O) O (JLh (LS 1 (E1) y.Stacks) (Gp Gs O O O) O (JLl Gf O O O fun a6=>(JLm (I64 0) O (G6 (d2 (Gg ?_)))))))))))))))))))
 obtain⟨d3,a7,a8,w,h⟩:=J6 h
 refine H9 (fun e (d:(List Int))=>each d3 a7 (List.drop e y.Stacks) e d=some r) (fun e d=>[(1,E4 l),(2,I64 most),(7,OW 1019 1 I64 d),(8,OW 1020 1 I64 ([]:List Int)),(14,LS 1 (E1) y.Stacks),(15,E7 y.Stacks.length),(16,E7 e)]) (fun e d=>[(1019,.spare 3 1 d.length d.length),(1020,.spare 3 1 ([]:List Int).length ([]:List Int).length)]) (fun e=>y.Stacks.length - e) 0 [] h ⟨(.sm O O),⟨⟨_,rfl,.same⟩,⟨_,rfl,.same⟩,ø⟩,rfl⟩ ?_
 clear h
 intro e d q e4 d4
 refine Jr fun a9=>(JLh (BL (decide ((e:Int) < (y.Stacks.length:Int)))) (J1 O O O) O (G6 (a9 (Js fun b0=>Gh O (fun hb=>?_) (fun hb=>?_)))))
 ·
  have s:=Jj hb
  obtain⟨i,d9,b1,b2,h⟩:=Hv q s
  replace h:=Yr a8 h
  refine Gi (b0 (Js fun b3=>Gg (Jr fun b4=>(JLh (.dptr [E1 i]) (H1 (f:=(E1)) (xs:=y.Stacks) (y:=i) O O O Gf b1 O) O (JLh (E1 i) (Gp H5 O O O) O (JLm (E1 i) O (G6 (b4 (G1 (JLm (OW 1019 1 I64 d) O (JLm (E1 i) O ?_)))))))))))
  obtain⟨b5,h⟩:=J2 h
  refine JLh (OW 1019 1 I64 (d++i)) (G02 (f:=I64) (xs:=d) (ys:=i) O O O O G7 Qz b5 (fun _=>O) (.inl O)) O (JLm (OW 1019 1 I64 (d++i)) O (G6 (b3 (G1 (JLh (I64 ((e+1:Nat):Int)) (J0 (Hk s a6) O O O) O (JLm (I64 ((e+1:Nat):Int)) O (G6 (d4 _ _ (e+1) (d++i) (app1 b2 h) (by omega) ⟨(.sm O O),⟨⟨_,rfl,.same⟩,⟨_,rfl,.same⟩,ø⟩,rfl⟩))))))))
 ·
  have h:=app1 w (Hw q (Hb hb))
  refine Hd (d1 (Js fun b6=>Jr fun b7=>(JLm (I64 0) O (G6 (b7 (Gg ?_))))))
  obtain⟨d5,b8,h⟩:=G31 h
  refine H9 (fun j (a:(List Int)×(List Int)×Int)=>loop d5 j a=some r) (fun j a=>[(1,E4 l),(2,I64 most),(7,E1 a.1),(8,OW 1020 1 I64 a.2.1),(11,I64 a.2.2)]) (fun j a=>[(1020,.spare 3 1 a.2.1.length a.2.1.length)]) (fun j=>j) F (d,[],0) h ⟨⟨.same O,.same O,.list O,.same O,.same O,ø⟩,⟨⟨_,O,.same⟩,ø⟩,O⟩ ?_
  clear h
  intro j a b9 e5 d6
  obtain⟨d7,e0,hm_91,c0,h⟩:=G09 b9
  replace h:=Hc8 b8 h
  refine Js fun c1=>?_
  refine Jr fun c2=>(JLm (I64 a.2.2) O (JLm (E4 l) O (JLl Gdd O O O fun e1=>(JLh (BL (decide (a.2.2 < (l.length:Int)))) (J1 O O O) O (JLm (BL (decide (a.2.2 < (l.length:Int)))) O (JLo (E1 a.1) [] O .sct ø (fun hc=>G2 O O) O (JLo (E7 a.1.length) [29] O .sct ⟨Ua,ø⟩ (fun hc=>Jx (f:=I64) (xs:=a.1) G7 O O) O (JLo (BL (decide (0 < (a.1.length:Int)))) [30] O .sct ⟨Ua,ø⟩ (fun hc=>Yp O O O) O (JLh (BL ((decide (a.2.2 < (l.length:Int)))&&(decide (0 < (a.1.length:Int))))) (R9 O O O O) O (JLm (BL ((decide (a.2.2 < (l.length:Int)))&&(decide (0 < (a.1.length:Int))))) O (JLo (OW 1020 1 I64 a.2.1) [] O .sct ø (fun hc=>G2 O O) O (JLo (E7 a.2.1.length) [34] O .sct ⟨Ua,ø⟩ (fun hc=>Jx (f:=I64) (xs:=a.2.1) G7 O O) O (JLo (I64 most) [] O .sct ø (fun hc=>G2 O O) O ?_)))))))))))))
  refine JLo (BL (decide ((a.2.1.length:Int) < most))) [35,36] O .sct ⟨Ua,Ua,ø⟩ (fun hc=>J1 O O O) O (JLh (BL (((decide (a.2.2 < (l.length:Int)))&&(decide (0 < (a.1.length:Int))))&&(decide ((a.2.1.length:Int) < most)))) (R9 O O O O) O (G6 (c2 (JCc O h (fun h hb=>?_) (fun h hb=>?_)))))
  ·
   refine Gi (c1 (Js fun c3=>Gg (Jr fun c4=>(JLm (E4 l) O (JLm (I64 a.2.2) O ?_)))))
   obtain⟨e6,t,c5,c6,h⟩:=R7 h
   refine JLh (.dptr [U8 t]) (H1 (f:=U8) (xs:=l) (y:=t) O O O Gdd c6 c5) O (JLh (U8 t) (Gp Ga1 O O O) O ?_)
   obtain⟨d8,c7,h⟩:=Jb h
   refine JLh (I64 d8) (H58 J23 H38 c7 O O) O (JLm (E1 a.1) O (JLl G7 O O O fun e2=>?_))
   obtain⟨k,v,h⟩:=Gd h
   refine JLh (I64 k) (Q1c (H60 v).1 (H60 v).2 O O O) O (JLm (I64 k) O (G6 (c4 (Jr fun x=>(JLm (OW 1020 1 I64 a.2.1) O (JLm (E1 a.1) O (JLm (I64 k) O ?_)))))))
   obtain⟨e3,b,z,a0,h⟩:=R7 h
   refine JLh (.dptr [I64 b]) (H1 (f:=I64) (xs:=a.1) (y:=b) O O O G7 a0 z) O (JLh (I64 b) (Gp Gn O O O) O (JLh (E1 [b]) (Ha (xs:=[I64 b]) O ⟨O,O,ø⟩ G7 Jg O O O O) O ?_))
   obtain⟨a1,h⟩:=J2 h
   refine JLh (OW 1020 1 I64 (a.2.1++[b])) (Ru (f:=I64) (xs:=a.2.1) (ys:=[b]) O O O O G7 Qz a1 (fun _=>O) (.inl O) O) O (JLm (OW 1020 1 I64 (a.2.1++[b])) O (G6 (x (Rq (l':=[(1,E4 l),(2,I64 most),(7,E1 a.1),(8,OW 1020 1 I64 (a.2.1++[b])),(11,I64 a.2.2),(12,I64 k)]) (L':=[(1020,.spare 3 1 (a.2.1++[b]).length (a.2.1++[b]).length)]) ⟨(.sm O O),⟨⟨_,rfl,.same⟩,ø⟩,rfl⟩ ?_))))
   obtain⟨c,p,h⟩:=Gd h
   obtain⟨a2,h⟩:=J2 h
   obtain⟨c8,m,h⟩:=Jb h
   obtain⟨g,n,h⟩:=Gd h
   obtain⟨a3,h⟩:=J2 h
   refine Jw [0,4,9] [0,0,0,0,0,0,0,0,0,0,3] [0,1,1,1,0,2,2,2,2,0,3] [[(1020,.spare 3 1 (a.2.1++[b]).length (a.2.1++[b]).length)],((1021,.spare 3 1 ([]:List Int).length ([]:List Int).length)::[(1020,.spare 3 1 (a.2.1++[b]).length (a.2.1++[b]).length)]),((1021,.spare 3 1 (([]:List Int)++(a.1.take c)).length (([]:List Int)++(a.1.take c)).length)::((1021,.spare 3 1 ([]:List Int).length ([]:List Int).length)::[(1020,.spare 3 1 (a.2.1++[b]).length (a.2.1++[b]).length)])),((1021,.spare 3 1 ((([]:List Int)++(a.1.take c))++(a.1.drop g)).length ((([]:List Int)++(a.1.take c))++(a.1.drop g)).length)::((1021,.spare 3 1 (([]:List Int)++(a.1.take c)).length (([]:List Int)++(a.1.take c)).length)::((1021,.spare 3 1 ([]:List Int).length ([]:List Int).length)::[(1020,.spare 3 1 (a.2.1++[b]).length (a.2.1++[b]).length)])))] Jp (by kernel_rfl) rfl rfl ?_
   refine D_w (u:=OW 1021 1 I64 ([]:List Int)) O O O O (Gc (Gd4 1021 3 1 O O G7) O) (Ge (u:=E1 a.1) O O ⟨Gc (G2 O O) O,Gc (G2 O O) O,ø⟩ (Ge (u:=I64 k) O O ⟨Gc (G2 O O) O,Gc (G2 O O) O,ø⟩ (Ge (u:=E1 (a.1.take c)) O O ⟨Gc (G98 (f:=I64) (xs:=a.1) O O O G7 (Hc p)) O,Gc (G98 (f:=I64) (xs:=a.1) O O O G7 (Hc p)) O,ø⟩ (D_w (u:=OW 1021 1 I64 (([]:List Int)++(a.1.take c))) O O O O (Gc (G02 (f:=I64) (xs:=([]:List Int)) (ys:=(a.1.take c)) O O O O G7 Qz a2 (fun _=>O) (.inl O)) O) (Ge (u:=E1 a.1) O O ⟨Gc (G2 O O) O,Gc (G2 O O) O,Gc (G2 O O) O,ø⟩ (Ge (u:=I64 k) O O ⟨Gc (G2 O O) O,Gc (G2 O O) O,Gc (G2 O O) O,ø⟩ (Ge (u:=I64 c8) O O ⟨Gc (J0 m O O O) O,Gc (J0 m O O O) O,Gc (J0 m O O O) O,ø⟩ (Ge (u:=E1 (a.1.drop g)) O O ⟨Gc (H27 (f:=I64) (xs:=a.1) O O O G7 (Hc n)) O,Gc (H27 (f:=I64) (xs:=a.1) O O O G7 (Hc n)) O,Gc (H27 (f:=I64) (xs:=a.1) O O O G7 (Hc n)) O,ø⟩ (D_w (u:=OW 1021 1 I64 ((([]:List Int)++(a.1.take c))++(a.1.drop g))) O O O O (Gc (G02 (f:=I64) (xs:=(([]:List Int)++(a.1.take c))) (ys:=(a.1.drop g)) O O O O G7 Qz a3 (fun _=>O) (.inl O)) O) (Ge (u:=OW 1021 1 I64 ((([]:List Int)++(a.1.take c))++(a.1.drop g))) O O ⟨Gc (G5 O O) O,ø⟩ (Ya ?_)))))))))))
   refine c3 (G1 (JLm (I64 a.2.2) O ?_))
   obtain⟨o,a4,h⟩:=Jb h
   refine JLh (I64 o) (J0 a4 O O O) O (JLm (I64 o) O (G6 (d6 _ _ d7 (((([]:List Int)++(a.1.take c))++(a.1.drop g)),(a.2.1++[b]),o) (app1 c0 h) (by omega) ⟨⟨.same rfl,.same rfl,.list rfl,.same rfl,.same rfl,ø⟩,⟨⟨_,rfl,.same⟩,ø⟩,rfl⟩)))
  ·
   refine Hd (b6 (Jr fun a5=>(JLm (OW 1020 1 I64 a.2.1) O (JLm (OW 1020 1 I64 a.2.1) O (G6 (a5 (H0 (fin1l (fun r:(List Int)=>(E1 r:AV)) h))))))))
end
end Go.Proofs.Ytokjlondbjdlfaa
