/- Walks of functions. -/
import Derived.Test.YtokjlondbjdlfaaXE
import Derived.Test.YtokjlondbjdlfaaSpecM
set_option maxRecDepth 100000
set_option maxHeartbeats 1000000
set_option linter.unusedVariables false
set_option linter.unusedSimpArgs false
namespace Go.Proofs.Ytokjlondbjdlfaa
open Go.RowKit
noncomputable section

namespace XIF
open XAF
open XBF
open XCF
open XDF
open XEF
theorem J0e:sliceB E8 31 5 1=true:=by kernel_rfl
end XIF
open XAF
open XBF
open XCF
open XDF
open XEF
open XIF

def Q7 (F:Nat) (y:Gs) (l:List Int) (most:Int):Option (List Int):=
 each (fun f o (c:(List Int)) h=>
  need (decide ((c.length+f.length)*8≤140737488355328∧c.length+f.length≤maxLen)) <|
  h (c++f))
 (fun(c:(List Int))=>
  loop (fun i (a:(List Int)×(List Int)×Int)=>
   bif (((decide (a.2.2 < (l.length:Int)))&&(decide (0 < (a.1.length:Int))))&&(decide ((a.2.1.length:Int) < most))) then
   (Qu l a.2.2 fun m=>
    chk (m) fun n=>
    bnd (Q09 n (a.1.length:Int)) fun g=>
    Qu a.1 g fun d=>
    need (decide ((a.2.1.length+[d].length)*8≤140737488355328∧a.2.1.length+[d].length≤maxLen)) <|
    bnd (Y5 g a.1.length) fun b=>
    need (decide ((([]:List Int).length+(a.1.take b).length)*8≤140737488355328∧([]:List Int).length+(a.1.take b).length≤maxLen)) <|
    chk (g+1) fun j=>
    bnd (Y5 j a.1.length) fun e=>
    need (decide (((([]:List Int)++(a.1.take b)).length+(a.1.drop e).length)*8≤140737488355328∧(([]:List Int)++(a.1.take b)).length+(a.1.drop e).length≤maxLen)) <|
    chk (a.2.2+1) fun k=>
    i (((([]:List Int)++(a.1.take b))++(a.1.drop e)),(a.2.1++[d]),k))
   else
   (some a.2.1)) F (c,[],0)) y.Stacks 0 []
theorem G4c (F:Nat) (y:Gs) (l:List Int) (most:Int) (r:(List Int)) (h:Q7 F y l most=some r):Pure E8 16 [.agg [LS 1 (E1) y.Stacks,I64 y.Height],E4 l,I64 most] (·=E1 r):=by
 unfold Q7 at h
 refine H9 [.tmp 6] Try.func16 O O (Jr fun c9=>(JLh (.ptr 1016 0) (Qj (cs:=[LS 1 (E1) y.Stacks,I64 y.Height]) 1016 O O O O O) O (JLh (E1 ([]:List Int)) (Jn 1 O O) O (G6 (c9 (H4 [(1,E4 l),(2,I64 most),(3,.dptr [LS 1 (E1) y.Stacks,I64 y.Height])] [] 1016 rfl rfl rfl ø rfl (by exact⟨.conv (.same rfl),.conv (.same rfl),.ptr,ø⟩) (Jr fun d0=>(JLh (OW 1017 1 I64 ([]:List Int)) (Gbd 1017 3 1 O O O) O (JLh (OW 1018 1 I64 ([]:List Int)) (Gbd 1018 3 1 O O O) O (G6 (d0 (Js fun d1=>Jr fun d2=>(JLh (.dptr [LS 1 (E1) y.Stacks,I64 y.Height]) (Gy Hy O O O) O (JLh (LS 1 (E1) y.Stacks) (Gm Gr O O O) O (JLl Gh O O O fun a6=>(JLm (I64 0) O (G6 (d2 (Gk ?_)))))))))))))))))))
 obtain⟨d3,a7,a8,w,h⟩:=J3 h
 refine Ha (fun e (d:(List Int))=>each d3 a7 (List.drop e y.Stacks) e d=some r) (fun e d=>[(1,E4 l),(2,I64 most),(7,OW 1017 1 I64 d),(8,OW 1018 1 I64 ([]:List Int)),(14,LS 1 (E1) y.Stacks),(15,E7 y.Stacks.length),(16,E7 e)]) (fun e d=>[(1017,.spare 3 1 d.length d.length),(1018,.spare 3 1 ([]:List Int).length ([]:List Int).length)]) (fun e=>y.Stacks.length - e) 0 [] h ⟨(.sm O O),⟨⟨_,rfl,.same⟩,⟨_,rfl,.same⟩,ø⟩,rfl⟩ ?_
 clear h
 intro e d q e4 d4
 refine Jr fun a9=>(JLh (BL (decide ((e:Int) < (y.Stacks.length:Int)))) (J0 O O O) O (G6 (a9 (Js fun b0=>Gj O (fun hb=>?_) (fun hb=>?_)))))
 ·
  have s:=Ji hb
  obtain⟨i,d9,b1,b2,h⟩:=Hv q s
  replace h:=Yq a8 h
  refine Gp (b0 (Js fun b3=>Gk (Jr fun b4=>(JLh (.dptr [E1 i]) (H1 (f:=(E1)) (xs:=y.Stacks) (y:=i) O O O Gh b1 O) O (JLh (E1 i) (Gm H3 O O O) O (JLm (E1 i) O (G6 (b4 (G1 (JLm (OW 1017 1 I64 d) O (JLm (E1 i) O ?_)))))))))))
  obtain⟨b5,h⟩:=J1 h
  refine JLh (OW 1017 1 I64 (d++i)) (G0c (f:=I64) (xs:=d) (ys:=i) O O O O G7 R3 b5 (fun _=>O) (.inl O)) O (JLm (OW 1017 1 I64 (d++i)) O (G6 (b3 (G1 (JLh (I64 ((e+1:Nat):Int)) (Hz (Hn s a6) O O O) O (JLm (I64 ((e+1:Nat):Int)) O (G6 (d4 _ _ (e+1) (d++i) (app1 b2 h) (by omega) ⟨(.sm O O),⟨⟨_,rfl,.same⟩,⟨_,rfl,.same⟩,ø⟩,rfl⟩))))))))
 ·
  have h:=app1 w (Hw q (Hd hb))
  refine Hf (d1 (Js fun b6=>Jr fun b7=>(JLm (I64 0) O (G6 (b7 (Gk ?_))))))
  obtain⟨d5,b8,h⟩:=G2a h
  refine Ha (fun j (a:(List Int)×(List Int)×Int)=>loop d5 j a=some r) (fun j a=>[(1,E4 l),(2,I64 most),(7,E1 a.1),(8,OW 1018 1 I64 a.2.1),(11,I64 a.2.2)]) (fun j a=>[(1018,.spare 3 1 a.2.1.length a.2.1.length)]) (fun j=>j) F (d,[],0) h ⟨⟨.same O,.same O,.list O,.same O,.same O,ø⟩,⟨⟨_,O,.same⟩,ø⟩,O⟩ ?_
  clear h
  intro j a b9 e5 d6
  obtain⟨d7,e0,hm_91,c0,h⟩:=G03 b9
  replace h:=Hb5 b8 h
  refine Js fun c1=>?_
  refine Jr fun c2=>(JLm (I64 a.2.2) O (JLm (E4 l) O (JLl J0e O O O fun e1=>(JLh (BL (decide (a.2.2 < (l.length:Int)))) (J0 O O O) O (JLm (BL (decide (a.2.2 < (l.length:Int)))) O (JLo (E1 a.1) [] O .sct ø (fun hc=>G2 O O) O (JLo (E7 a.1.length) [29] O .sct ⟨Ua,ø⟩ (fun hc=>Jq (f:=I64) (xs:=a.1) G7 O O) O (JLo (BL (decide (0 < (a.1.length:Int)))) [30] O .sct ⟨Ua,ø⟩ (fun hc=>Z7 O O O) O (JLh (BL ((decide (a.2.2 < (l.length:Int)))&&(decide (0 < (a.1.length:Int))))) (R9 O O O O) O (JLm (BL ((decide (a.2.2 < (l.length:Int)))&&(decide (0 < (a.1.length:Int))))) O (JLo (OW 1018 1 I64 a.2.1) [] O .sct ø (fun hc=>G2 O O) O (JLo (E7 a.2.1.length) [34] O .sct ⟨Ua,ø⟩ (fun hc=>Jq (f:=I64) (xs:=a.2.1) G7 O O) O (JLo (I64 most) [] O .sct ø (fun hc=>G2 O O) O ?_)))))))))))))
  refine JLo (BL (decide ((a.2.1.length:Int) < most))) [35,36] O .sct ⟨Ua,Ua,ø⟩ (fun hc=>J0 O O O) O (JLh (BL (((decide (a.2.2 < (l.length:Int)))&&(decide (0 < (a.1.length:Int))))&&(decide ((a.2.1.length:Int) < most)))) (R9 O O O O) O (G6 (c2 (JCc O h (fun h hb=>?_) (fun h hb=>?_)))))
  ·
   refine Gp (c1 (Js fun c3=>Gk (Jr fun c4=>(JLm (E4 l) O (JLm (I64 a.2.2) O ?_)))))
   obtain⟨e6,t,c5,c6,h⟩:=Qq h
   refine JLh (.dptr [U8 t]) (H1 (f:=U8) (xs:=l) (y:=t) O O O J0e c6 c5) O (JLh (U8 t) (Gm Gb0 O O O) O ?_)
   obtain⟨d8,c7,h⟩:=J8 h
   refine JLh (I64 d8) (H6d J37 H4f c7 O O) O (JLm (E1 a.1) O (JLl G7 O O O fun e2=>?_))
   obtain⟨k,v,h⟩:=Gg h
   refine JLh (I64 k) (Qd4 (Ja4 v).1 (Ja4 v).2 O O O) O (JLm (I64 k) O (G6 (c4 (Jr fun x=>(JLm (OW 1018 1 I64 a.2.1) O (JLm (E1 a.1) O (JLm (I64 k) O ?_)))))))
   obtain⟨e3,b,z,a0,h⟩:=Qq h
   refine JLh (.dptr [I64 b]) (H1 (f:=I64) (xs:=a.1) (y:=b) O O O G7 a0 z) O (JLh (I64 b) (Gm Gi O O O) O (JLh (E1 [b]) (Hb (xs:=[I64 b]) O ⟨O,O,ø⟩ G7 Jg O O O O) O ?_))
   obtain⟨a1,h⟩:=J1 h
   refine JLh (OW 1018 1 I64 (a.2.1++[b])) (Yp (f:=I64) (xs:=a.2.1) (ys:=[b]) O O O O G7 R3 a1 (fun _=>O) (.inl O) O) O (JLm (OW 1018 1 I64 (a.2.1++[b])) O (G6 (x (R8 (l':=[(1,E4 l),(2,I64 most),(7,E1 a.1),(8,OW 1018 1 I64 (a.2.1++[b])),(11,I64 a.2.2),(12,I64 k)]) (L':=[(1018,.spare 3 1 (a.2.1++[b]).length (a.2.1++[b]).length)]) ⟨(.sm O O),⟨⟨_,rfl,.same⟩,ø⟩,rfl⟩ ?_))))
   obtain⟨c,p,h⟩:=Gg h
   obtain⟨a2,h⟩:=J1 h
   obtain⟨c8,m,h⟩:=J8 h
   obtain⟨g,n,h⟩:=Gg h
   obtain⟨a3,h⟩:=J1 h
   refine Jh [0,4,9] [0,0,0,0,0,0,0,0,0,0,3] [0,1,1,1,0,2,2,2,2,0,3] [[(1018,.spare 3 1 (a.2.1++[b]).length (a.2.1++[b]).length)],((1019,.spare 3 1 ([]:List Int).length ([]:List Int).length)::[(1018,.spare 3 1 (a.2.1++[b]).length (a.2.1++[b]).length)]),((1019,.spare 3 1 (([]:List Int)++(a.1.take c)).length (([]:List Int)++(a.1.take c)).length)::((1019,.spare 3 1 ([]:List Int).length ([]:List Int).length)::[(1018,.spare 3 1 (a.2.1++[b]).length (a.2.1++[b]).length)])),((1019,.spare 3 1 ((([]:List Int)++(a.1.take c))++(a.1.drop g)).length ((([]:List Int)++(a.1.take c))++(a.1.drop g)).length)::((1019,.spare 3 1 (([]:List Int)++(a.1.take c)).length (([]:List Int)++(a.1.take c)).length)::((1019,.spare 3 1 ([]:List Int).length ([]:List Int).length)::[(1018,.spare 3 1 (a.2.1++[b]).length (a.2.1++[b]).length)])))] Jc (by kernel_rfl) rfl rfl ?_
   refine D_w (u:=OW 1019 1 I64 ([]:List Int)) O O O O (Gb (Gea 1019 3 1 O O G7) O) (Gd (u:=E1 a.1) O O ⟨Gb (G2 O O) O,Gb (G2 O O) O,ø⟩ (Gd (u:=I64 k) O O ⟨Gb (G2 O O) O,Gb (G2 O O) O,ø⟩ (Gd (u:=E1 (a.1.take c)) O O ⟨Gb (Ga8 (f:=I64) (xs:=a.1) O O O G7 (Hg p)) O,Gb (Ga8 (f:=I64) (xs:=a.1) O O O G7 (Hg p)) O,ø⟩ (D_w (u:=OW 1019 1 I64 (([]:List Int)++(a.1.take c))) O O O O (Gb (G0c (f:=I64) (xs:=([]:List Int)) (ys:=(a.1.take c)) O O O O G7 R3 a2 (fun _=>O) (.inl O)) O) (Gd (u:=E1 a.1) O O ⟨Gb (G2 O O) O,Gb (G2 O O) O,Gb (G2 O O) O,ø⟩ (Gd (u:=I64 k) O O ⟨Gb (G2 O O) O,Gb (G2 O O) O,Gb (G2 O O) O,ø⟩ (Gd (u:=I64 c8) O O ⟨Gb (Hz m O O O) O,Gb (Hz m O O O) O,Gb (Hz m O O O) O,ø⟩ (Gd (u:=E1 (a.1.drop g)) O O ⟨Gb (Hb9 (f:=I64) (xs:=a.1) O O O G7 (Hg n)) O,Gb (Hb9 (f:=I64) (xs:=a.1) O O O G7 (Hg n)) O,Gb (Hb9 (f:=I64) (xs:=a.1) O O O G7 (Hg n)) O,ø⟩ (D_w (u:=OW 1019 1 I64 ((([]:List Int)++(a.1.take c))++(a.1.drop g))) O O O O (Gb (G0c (f:=I64) (xs:=(([]:List Int)++(a.1.take c))) (ys:=(a.1.drop g)) O O O O G7 R3 a3 (fun _=>O) (.inl O)) O) (Gd (u:=OW 1019 1 I64 ((([]:List Int)++(a.1.take c))++(a.1.drop g))) O O ⟨Gb (G4 O O) O,ø⟩ (Rc ?_)))))))))))
   refine c3 (G1 (JLm (I64 a.2.2) O ?_))
   obtain⟨o,a4,h⟩:=J8 h
   refine JLh (I64 o) (Hz a4 O O O) O (JLm (I64 o) O (G6 (d6 _ _ d7 (((([]:List Int)++(a.1.take c))++(a.1.drop g)),(a.2.1++[b]),o) (app1 c0 h) (by omega) ⟨⟨.same rfl,.same rfl,.list rfl,.same rfl,.same rfl,ø⟩,⟨⟨_,rfl,.same⟩,ø⟩,rfl⟩)))
  ·
   refine Hf (b6 (Jr fun a5=>(JLm (OW 1018 1 I64 a.2.1) O (JLm (OW 1018 1 I64 a.2.1) O (G6 (a5 (H0 (fin1l (fun r:(List Int)=>(E1 r:AV)) h))))))))
end
end Go.Proofs.Ytokjlondbjdlfaa
