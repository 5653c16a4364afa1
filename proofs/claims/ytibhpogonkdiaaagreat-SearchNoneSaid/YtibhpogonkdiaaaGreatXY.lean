/- Walks of functions. -/
import Derived.Test.YtibhpogonkdiaaaGreatXX
set_option linter.unnecessarySimpa false
set_option maxRecDepth 100000
set_option maxHeartbeats 1000000
set_option linter.unusedVariables false
set_option linter.unusedSimpArgs false
namespace Go.Proofs.YtibhpogonkdiaaaGreat
open Go.RowKit
noncomputable section

namespace XYF
open XAF
open XCF
open XFF
open XSF
open XLF
open XVF
open XWF
open XXF
theorem Jb0:Hh En 11=true:=by kernel_rfl
theorem Jaf:Hh En 12=true:=by kernel_rfl
theorem Qf2:Rw En 99 6 6=true:=by kernel_rfl
end XYF
open XAF
open XCF
open XFF
open XSF
open XLF
open XVF
open XWF
open XXF
open XYF

def Yn (l:List Gq) (most:Int):Option (List Gq):=
 bnd (Ga7 (min (l.length:Int) most) l.length) fun d=>
 each (fun a e (b:(List Gq)) c=>
  need (decide ((b.length+[(Gq.mk a.G4 a.Kilos a.Load a.Stay false false)].length)*6≤140737488355328∧b.length+[(Gq.mk a.G4 a.Kilos a.Load a.Stay false false)].length≤maxLen)) <|
  c (b++[(Gq.mk a.G4 a.Kilos a.Load a.Stay false false)]))
 (fun(b:(List Gq))=>
  some b) (l.take d) 0 []
theorem G79 (l:List Gq) (most:Int) (r:(List Gq)) (h:Yn l most=some r):Pure En 12 [Ed l,I64 most] (·=Ed r):=by
 unfold Yn at h
 refine Ha [.tmp 4] Tryz.func12 O O (Jr fun z=>(JLh (Ed ([]:List Gq)) (Qj 6 O O) O (G6 (z (Jr fun a0=>(JLh (OW 1050 6 Gq.av ([]:List Gq)) (G45 1050 99 6 O O O) O (G6 (a0 (Js fun a1=>Jr fun a2=>(JLm (Ed l) O (JLm (Ed l) O (JLl Zw O O O fun a6=>(JLm (I64 most) O (JLh (I64 (min (l.length:Int) most)) (J26 O O O) O ?_))))))))))))))
 obtain⟨d,a3,h⟩:=Gh h
 refine JLh (Ed (l.take d)) (Y3 (f:=Gq.av) (xs:=l) O O O Zw (Rn a3)) O (JLl Zw O O O fun j=>(JLm (I64 0) O (G6 (a2 (Gk ?_)))))
 obtain⟨a4,k,m,i,h⟩:=J5 h
 refine Hk (fun c (b:(List Gq))=>each a4 k (List.drop c (l.take d)) c b=some r) (fun c b=>[(5,OW 1050 6 Gq.av b),(13,Ed (l.take d)),(14,I64 ((l.take d).length:Int)),(15,Em c)]) (fun c b=>[(1050,.spare 99 6 b.length b.length)]) (fun c=>(l.take d).length - c) 0 [] h ⟨(.sm O O),⟨⟨_,rfl,.same⟩,ø⟩,rfl⟩ ?_
 clear h
 intro c b e a8 a5
 refine Jr fun n=>(JLh (BL (decide ((c:Int) < ((l.take d).length:Int)))) (Jf O O O) O (G6 (n (Js fun o=>Gn O (fun hb=>?_) (fun hb=>?_)))))
 ·
  have g:=Jn hb
  obtain⟨a,a7,p,q,h⟩:=Hs e g
  replace h:=Rx m h
  refine Gp (o (Js fun s=>Gk (Jr fun t=>(JLh (Ek a) (H4 (f:=Gq.av) (xs:=(l.take d)) (y:=a) O O O Zw p O) O (JLh (.agg (Gq.cs a)) (Gg J2c O O O) O (JLh (.ptr 1051 0) (Hc 1051 6 H7c O O) O (Hb (u:=.junk) (H0 (u:=.agg (Gq.cs a)) (ds:=[U8 a.G4,U8 a.Kilos,U8 a.Load,U8 a.Stay,BL a.Small,BL a.High]) J91 O O O O O O O O) (G6 (t ?_)))))))))
  refine Jr fun v=>(JLh (.ptr 1051 4) (J7 Hc6 O O) O (Hb (u:=.junk) (H0 (u:=BL false) (ds:=[U8 a.G4,U8 a.Kilos,U8 a.Load,U8 a.Stay,BL false,BL a.High]) J2b O O O O O O O O) (JLh (.ptr 1051 5) (J7 H39 O O) O (Hb (u:=.junk) (H0 (u:=BL false) (ds:=[U8 a.G4,U8 a.Kilos,U8 a.Load,U8 a.Stay,BL false,BL false]) J2b O O O O O O O O) (G6 (v (fzQ [(5,OW 1050 6 Gq.av b),(7,.dptr [U8 a.G4,U8 a.Kilos,U8 a.Load,U8 a.Stay,BL false,BL false]),(13,Ed (l.take d)),(14,I64 ((l.take d).length:Int)),(15,Em c)] [(1050,.spare 99 6 b.length b.length)] 1051 rfl rfl rfl ⟨⟨_,rfl,.same⟩,ø⟩ rfl (G2 ?_))))))))
  refine JLm (OW 1050 6 Gq.av b) O (JLh (.agg [U8 a.G4,U8 a.Kilos,U8 a.Load,U8 a.Stay,BL false,BL false]) (Gg J2c O O O) O (JLh (Ed [(Gq.mk a.G4 a.Kilos a.Load a.Stay false false)]) (H7 (xs:=[.agg [U8 a.G4,U8 a.Kilos,U8 a.Load,U8 a.Stay,BL false,BL false]]) O ⟨O,O,ø⟩ Zw H7c O O O O) O ?_))
  obtain⟨w,h⟩:=J9 h
  refine JLh (OW 1050 6 Gq.av (b++[(Gq.mk a.G4 a.Kilos a.Load a.Stay false false)])) (R0 (f:=Gq.av) (xs:=b) (ys:=[(Gq.mk a.G4 a.Kilos a.Load a.Stay false false)]) O O O O Zw Qf2 w (fun _=>O) (.inl O) O) O (JLm (OW 1050 6 Gq.av (b++[(Gq.mk a.G4 a.Kilos a.Load a.Stay false false)])) O (G6 (s (G2 (JLh (I64 ((c+1:Nat):Int)) (Hz (He g j) O O O) O (JLm (I64 ((c+1:Nat):Int)) O (G6 (a5 _ _ (c+1) (b++[(Gq.mk a.G4 a.Kilos a.Load a.Stay false false)]) (app1 q h) (by omega) ⟨(.sm O O),⟨⟨_,rfl,.same⟩,ø⟩,rfl⟩))))))))
 ·
  have h:=app1 i (Ht e (H9 hb))
  refine Hr (a1 (Jr fun x=>(JLm (OW 1050 6 Gq.av b) O (JLm (OW 1050 6 Gq.av b) O (G6 (x (H2 (fin1l (fun r:(List Gq)=>(Ed r:AV)) h))))))))

def Yd (F:Nat) (a:Int) (b:Int) (c:Int) (items:List Gq) (n:Int):Option Bool:=
 each (fun s i (d:(List G4)×(List Gs)×Int×Int×Int×Int×(List Row)×(List Frame)×(List Hu)×Int×Int×Int×Int) p=>
  chk (s) fun t=>
  bnd (Ged t 2) fun u=>
  chk (1+u) fun j=>
  need (decide ((d.1.length+[(G4.mk 0 (i:Int) false j 0 0 0 0 [] 0 0 0)].length)*112≤140737488355328∧d.1.length+[(G4.mk 0 (i:Int) false j 0 0 0 0 [] 0 0 0)].length≤maxLen)) <|
  p ((d.1++[(G4.mk 0 (i:Int) false j 0 0 0 0 [] 0 0 0)]),d.2.1,d.2.2.1,d.2.2.2.1,d.2.2.2.2.1,d.2.2.2.2.2.1,d.2.2.2.2.2.2.1,d.2.2.2.2.2.2.2.1,d.2.2.2.2.2.2.2.2.1,d.2.2.2.2.2.2.2.2.2.1,d.2.2.2.2.2.2.2.2.2.2.1,d.2.2.2.2.2.2.2.2.2.2.2.1,d.2.2.2.2.2.2.2.2.2.2.2.2))
 (fun(d:(List G4)×(List Gs)×Int×Int×Int×Int×(List Row)×(List Frame)×(List Hu)×Int×Int×Int×Int)=>
  chk (n) fun v=>
  bnd (Ged v 3) fun w=>
  chk (2+w) fun f=>
  bnd (Yn items 3) fun x=>
  bnd (Qz F (Gb.mk d.1 d.2.1 (Light.mk d.2.2.1 d.2.2.2.1 d.2.2.2.2.1 d.2.2.2.2.2.1) d.2.2.2.2.2.2.1 d.2.2.2.2.2.2.2.1 d.2.2.2.2.2.2.2.2.1 (Gi.mk d.2.2.2.2.2.2.2.2.2.1 d.2.2.2.2.2.2.2.2.2.2.1 d.2.2.2.2.2.2.2.2.2.2.2.1 d.2.2.2.2.2.2.2.2.2.2.2.2)) x f 3) fun e=>
  bnd (Hp F (Gb.mk d.1 d.2.1 (Light.mk d.2.2.1 d.2.2.2.1 d.2.2.2.2.1 d.2.2.2.2.2.1) d.2.2.2.2.2.2.1 d.2.2.2.2.2.2.2.1 d.2.2.2.2.2.2.2.2.1 (Gi.mk d.2.2.2.2.2.2.2.2.2.1 d.2.2.2.2.2.2.2.2.2.2.1 d.2.2.2.2.2.2.2.2.2.2.2.1 d.2.2.2.2.2.2.2.2.2.2.2.2)) e.1 f) fun k=>
  bif (((decide (k.2.2≠0))||(decide (k.2.1≠0)))||(decide ((k.1.States.length:Int)≠f))) then
  (some false)
  else
  (bnd (Ga7 1 d.1.length) fun y=>
   each (fun m z (g:Bool) q=>
    bnd (Ga7 (z:Int) e.1.length) fun a0=>
    each (fun o a2 (l:Bool) r=>
     r (l&&((decide (o.Discharge≤m.Load))||(decide (m.Discharge≤o.Load)))))
    (fun(l:Bool)=>
     q l) (e.1.take a0) 0 g)
   (fun(g:Bool)=>
    bnd (Hp F (Gb.mk (d.1.take y) d.2.1 (Light.mk d.2.2.1 d.2.2.2.1 d.2.2.2.2.1 d.2.2.2.2.2.1) d.2.2.2.2.2.2.1 d.2.2.2.2.2.2.2.1 d.2.2.2.2.2.2.2.2.1 (Gi.mk d.2.2.2.2.2.2.2.2.2.1 d.2.2.2.2.2.2.2.2.2.2.1 d.2.2.2.2.2.2.2.2.2.2.2.1 d.2.2.2.2.2.2.2.2.2.2.2.2)) e.1 f) fun h=>
    bnd (bif ((!g)||((decide (h.2.2=0))&&(decide (h.2.1=0)))) then R7 F else some default) fun a1=>
    some (((!g)||((decide (h.2.2=0))&&(decide (h.2.1=0))))&&a1)) e.1 0 true)) [a,b,c] 0 ([],[],0,0,0,0,[],[],[],0,0,0,0)
abbrev Kh (a:(List G4)×(List Gs)×Int×Int×Int×Int×(List Row)×(List Frame)×(List Hu)×Int×Int×Int×Int):List AV:=[E7 a.1,E9 a.2.1,I64 a.2.2.1,I64 a.2.2.2.1,I64 a.2.2.2.2.1,I64 a.2.2.2.2.2.1,Ea a.2.2.2.2.2.2.1,Eb a.2.2.2.2.2.2.2.1,Ec a.2.2.2.2.2.2.2.2.1,I64 a.2.2.2.2.2.2.2.2.2.1,I64 a.2.2.2.2.2.2.2.2.2.2.1,I64 a.2.2.2.2.2.2.2.2.2.2.2.1,I64 a.2.2.2.2.2.2.2.2.2.2.2.2]
theorem Gda (F:Nat) (a:Int) (b:Int) (c:Int) (items:List Gq) (n:Int) (r:Bool) (h:Yd F a b c items n=some r):Pure En 4 [U8 a,U8 b,U8 c,Ed items,U8 n] (·=BL r):=by
 unfold Yd at h
 refine Ha [.tmp 10] Tryz.func4 O O (Jr fun g5=>(JLm (BL false) O (G6 (g5 (Jr fun g6=>(JLh (.ptr 1010 0) (Yc 1010 [.sc (.slice none 0 0),E9 ([]:List Gs),I64 0,I64 0,I64 0,I64 0,Ea ([]:List Row),Eb ([]:List Frame),Ec ([]:List Hu),I64 0,I64 0,I64 0,I64 0] [.slice none 0 0,.slice none 0 0,E0,E0,E0,E0,.slice none 0 0,.slice none 0 0,.slice none 0 0,E0,E0,E0,E0] G85 ⟨.inl O,.inr ⟨_,O,O⟩,.inl O,.inl O,.inl O,.inl O,.inr ⟨_,O,O⟩,.inr ⟨_,O,O⟩,.inr ⟨_,O,O⟩,.inl O,.inl O,.inl O,.inl O,ø⟩ O O) O ?_))))))
 refine G8c 1010 0 1017 41 12 O O O (cs':=[OW 1017 12 G4.av ([]:List G4),E9 ([]:List Gs),I64 0,I64 0,I64 0,I64 0,Ea ([]:List Row),Eb ([]:List Frame),Ec ([]:List Hu),I64 0,I64 0,I64 0,I64 0]) O (G6 (g6 (Js fun g7=>Jr fun g8=>(JLm (U8 a) O (JLm (U8 b) O (JLm (U8 c) O (JLh (Ee [a,b,c]) (H7 (xs:=[U8 a,U8 b,U8 c]) O ⟨O,O,O,O,O,O,ø⟩ Yv Hd5 O O O O) O (JLl Yv O O O fun b4=>(JLm (I64 0) O (G6 (g8 (Gk ?_))))))))))))
 obtain⟨g9,b5,b6,b1,h⟩:=J5 h
 refine Hk (fun j (d:(List G4)×(List Gs)×Int×Int×Int×Int×(List Row)×(List Frame)×(List Hu)×Int×Int×Int×Int)=>each g9 b5 (List.drop j [a,b,c]) j d=some r) (fun j d=>[(3,Ed items),(4,U8 n),(11,.ptr 1010 0),(32,Ee [a,b,c]),(33,I64 ([a,b,c].length:Int)),(34,Em j)]) (fun j d=>[(1017,.spare 41 12 d.1.length d.1.length),(1010,.box 34 [OW 1017 12 G4.av d.1,E9 d.2.1,I64 d.2.2.1,I64 d.2.2.2.1,I64 d.2.2.2.2.1,I64 d.2.2.2.2.2.1,Ea d.2.2.2.2.2.2.1,Eb d.2.2.2.2.2.2.2.1,Ec d.2.2.2.2.2.2.2.2.1,I64 d.2.2.2.2.2.2.2.2.2.1,I64 d.2.2.2.2.2.2.2.2.2.2.1,I64 d.2.2.2.2.2.2.2.2.2.2.2.1,I64 d.2.2.2.2.2.2.2.2.2.2.2.2])]) (fun j=>[a,b,c].length - j) 0 ([],[],0,0,0,0,[],[],[],0,0,0,0) h ⟨(.sm O O),⟨⟨_,rfl,.same⟩,fbQ O (.sm O O),ø⟩,rfl⟩ ?_
 clear h
 intro j d a1 i2 h0
 refine Jr fun b7=>(JLh (BL (decide ((j:Int) < ([a,b,c].length:Int)))) (Jf O O O) O (G6 (b7 (Js fun b8=>Gn O (fun hb=>?_) (fun hb=>?_)))))
 ·
  have a2:=Jn hb
  obtain⟨x,h9,b9,c0,h⟩:=Hs a1 a2
  replace h:=Rx b6 h
  refine Gp (b8 (Js fun c1=>Gk (Jr fun c2=>(JLm (Em j) O (JLh (.dptr [U8 x]) (H4 (f:=U8) (xs:=[a,b,c]) (y:=x) O O O Yv b9 O) O (JLh (U8 x) (Gf Jc O O O) O (JLm (Em j) O (JLm (U8 x) O (G6 (c2 (G2 (JLh (.ptr 1010 0) (J7 Hm O O) O (JLh (OW 1017 12 G4.av d.1) (Jm J3 O O O O) O (JLm (Em j) O (JLm (U8 x) O ?_)))))))))))))))
  obtain⟨h1,c3,h⟩:=J6 h
  refine JLh (I64 h1) (Gca G2c G2b c3 O O) O ?_
  obtain⟨h2,a3,h⟩:=Gh h
  refine JLh (I64 h2) (H52 (Qb a3).1 (Qb a3).2 O O O) O ?_
  obtain⟨t,c4,h⟩:=J6 h
  refine JLh (I64 t) (Hz c4 O O O) O (JLh (.agg [I64 0,Em j,BL false,I64 t,I64 0,I64 0,I64 0,I64 0,E5 ([]:List Int),I64 0,I64 0,I64 0]) (Ja (cs:=[I64 0,Em j,BL false,I64 t,I64 0,I64 0,I64 0,I64 0,E5 ([]:List Int),I64 0,I64 0,I64 0]) [(0,1),(1,1),(2,1),(3,1),(4,1),(5,1),(6,1),(7,1),(8,1),(9,1),(10,1),(11,1)] [I64 0,I64 0,BL false,I64 0,I64 0,I64 0,I64 0,I64 0,E5 ([]:List Int),I64 0,I64 0,I64 0] [E0,E0,.bool false,E0,E0,E0,E0,E0,.slice none 0 0,E0,E0,E0] G63 Gbd ⟨.inl O,.inl O,.inl O,.inl O,.inl O,.inl O,.inl O,.inl O,.inr ⟨_,O,O⟩,.inl O,.inl O,.inl O,ø⟩ O O) O (JLh (E7 ([(G4.mk 0 (j:Int) false t 0 0 0 0 [] 0 0 0)])) (H7 (xs:=[.agg [I64 0,Em j,BL false,I64 t,I64 0,I64 0,I64 0,I64 0,E5 ([]:List Int),I64 0,I64 0,I64 0]]) O ⟨O,O,ø⟩ Ho Yu O O O O) O ?_))
  obtain⟨c5,h⟩:=J9 h
  refine JLh (OW 1017 12 G4.av (d.1++[(G4.mk 0 (j:Int) false t 0 0 0 0 [] 0 0 0)])) (R0 (f:=G4.av) (xs:=d.1) (ys:=[(G4.mk 0 (j:Int) false t 0 0 0 0 [] 0 0 0)]) O O O O Ho H0b c5 (fun _=>O) (.inl O) O) O (JLh (.ptr 1010 0) (J7 Hm O O) O (Hb (u:=.junk) (H0 (u:=OW 1017 12 G4.av (d.1++[(G4.mk 0 (j:Int) false t 0 0 0 0 [] 0 0 0)])) (ds:=[OW 1017 12 G4.av (d.1++[(G4.mk 0 (j:Int) false t 0 0 0 0 [] 0 0 0)]),E9 d.2.1,I64 d.2.2.1,I64 d.2.2.2.1,I64 d.2.2.2.2.1,I64 d.2.2.2.2.2.1,Ea d.2.2.2.2.2.2.1,Eb d.2.2.2.2.2.2.2.1,Ec d.2.2.2.2.2.2.2.2.1,I64 d.2.2.2.2.2.2.2.2.2.1,I64 d.2.2.2.2.2.2.2.2.2.2.1,I64 d.2.2.2.2.2.2.2.2.2.2.2.1,I64 d.2.2.2.2.2.2.2.2.2.2.2.2]) Gbf O O O O O O O O) (G6 (c1 ?_))))
  refine G2 (JLh (I64 ((j+1:Nat):Int)) (Hz (He a2 b4) O O O) O (JLm (I64 ((j+1:Nat):Int)) O (G6 (h0 _ _ (j+1) ((d.1++[(G4.mk 0 (j:Int) false t 0 0 0 0 [] 0 0 0)]),d.2.1,d.2.2.1,d.2.2.2.1,d.2.2.2.2.1,d.2.2.2.2.2.1,d.2.2.2.2.2.2.1,d.2.2.2.2.2.2.2.1,d.2.2.2.2.2.2.2.2.1,d.2.2.2.2.2.2.2.2.2.1,d.2.2.2.2.2.2.2.2.2.2.1,d.2.2.2.2.2.2.2.2.2.2.2.1,d.2.2.2.2.2.2.2.2.2.2.2.2) (app1 c0 h) (by omega) ⟨(.sm O O),⟨⟨_,rfl,.same⟩,fbQ O (.sm O O),ø⟩,rfl⟩))))
 ·
  have h:=app1 b1 (Ht a1 (H9 hb))
  refine Hr (g7 (Jr fun c6=>(JLm (U8 n) O ?_)))
  obtain⟨h3,c7,h⟩:=J6 h
  refine JLh (I64 h3) (Gca G2c G2b c7 O O) O ?_
  obtain⟨h4,a4,h⟩:=Gh h
  refine JLh (I64 h4) (H52 (Qb a4).1 (Qb a4).2 O O O) O ?_
  obtain⟨m,c8,h⟩:=J6 h
  refine JLh (I64 m) (Hz c8 O O O) O (JLm (I64 m) O (G6 (c6 (Ye (l':=[(3,Ed items),(11,.ptr 1010 0),(14,I64 m)]) (L':=[(1010,.box 34 (Kh d))]) ⟨(.sm O O),⟨⟨_,O,.boxL O ⟨.list O,.same O,.same O,.same O,.same O,.same O,.same O,.same O,.same O,.same O,.same O,.same O,.same O,ø⟩⟩,ø⟩,O⟩ ?_))))
  refine Gj [(3,Ed items),(11,.dptr (Kh d)),(14,I64 m)] [] 1010 rfl rfl rfl ø rfl (by exact⟨.conv (.same rfl),.ptr,.conv (.same rfl),ø⟩) (Js fun c9=>?_)
  obtain⟨z,a5,h⟩:=Gh h
  obtain⟨e,a6,h⟩:=Gh h
  refine R4 [8,10] [0,0,0,0,0,0,0,0,0,1,0] [1,1,1,1,1,1,1,1,0,1,0] [[],((1011,.box 48 [.junk,.junk])::[]),((1011,.box 48 [LS 1 (E4) e.2.States,LS 1 (E5) e.2.Water])::((1011,.box 48 [.junk,.junk])::[]))] Q3 (by kernel_rfl) rfl rfl ?_
  refine Gr (u:=.agg (Kh d)) O O ⟨Gm (Gg Hn O O O) O,Gm (Gg Hn O O O) O,ø⟩ (Gr (u:=Ed items) O O ⟨Gm (G5 O O) O,Gm (G5 O O) O,ø⟩ (Gr (u:=Ed z) O O ⟨Gm (H3 O (G79 items 3 z a5) Jaf ⟨O,O,O,O,ø⟩) O,Gm (H3 O (G79 items 3 z a5) Jaf ⟨O,O,O,O,ø⟩) O,ø⟩ (Gr (u:=I64 m) O O ⟨Gm (G5 O O) O,Gm (G5 O O) O,ø⟩ (Gr (u:=.tup [E6 e.1,.agg [LS 1 (E4) e.2.States,LS 1 (E5) e.2.Water]]) O O ⟨Gm (H3 O (G6c F (Gb.mk d.1 d.2.1 (Light.mk d.2.2.1 d.2.2.2.1 d.2.2.2.2.1 d.2.2.2.2.2.1) d.2.2.2.2.2.2.1 d.2.2.2.2.2.2.2.1 d.2.2.2.2.2.2.2.2.1 (Gi.mk d.2.2.2.2.2.2.2.2.2.1 d.2.2.2.2.2.2.2.2.2.2.1 d.2.2.2.2.2.2.2.2.2.2.2.1 d.2.2.2.2.2.2.2.2.2.2.2.2)) z m 3 e a6) Jb0 ⟨O,O,O,O,O,O,O,O,ø⟩) O,Gm (H3 O (G6c F (Gb.mk d.1 d.2.1 (Light.mk d.2.2.1 d.2.2.2.1 d.2.2.2.2.1 d.2.2.2.2.2.1) d.2.2.2.2.2.2.1 d.2.2.2.2.2.2.2.1 d.2.2.2.2.2.2.2.2.1 (Gi.mk d.2.2.2.2.2.2.2.2.2.1 d.2.2.2.2.2.2.2.2.2.2.1 d.2.2.2.2.2.2.2.2.2.2.2.1 d.2.2.2.2.2.2.2.2.2.2.2.2)) z m 3 e a6) Jb0 ⟨O,O,O,O,O,O,O,O,ø⟩) O,ø⟩ (Gr (u:=.tup [E6 e.1,.agg [LS 1 (E4) e.2.States,LS 1 (E5) e.2.Water]]) O O ⟨Gm (G5 O O) O,Gm (G5 O O) O,ø⟩ (Gr (u:=E6 e.1) O O ⟨Gm (Gv O O O) O,Gm (Gv O O O) O,ø⟩ (Gr (u:=.agg [LS 1 (E4) e.2.States,LS 1 (E5) e.2.Water]) O O ⟨Gm (Gv O O O) O,Gm (Gv O O O) O,ø⟩ (D_w (u:=.ptr 1011 0) O O O O (Gm (Hc 1011 2 Y4 O O) O) (Gr (u:=E6 e.1) O O ⟨Gm (G7 O O) O,ø⟩ (Ha7 (u:=.junk) O O O O (Gm (H0 (u:=.agg [LS 1 (E4) e.2.States,LS 1 (E5) e.2.Water]) (ds:=[LS 1 (E4) e.2.States,LS 1 (E5) e.2.Water]) Qv O O O O O O O O) O) (Zg ?_)))))))))))
  refine c9 (Gj [(11,.dptr (Kh d)),(14,I64 m),(15,E6 e.1)] [] 1011 rfl rfl rfl ø rfl (by exact⟨.conv (.same rfl),.conv (.same rfl),.conv (.same rfl),ø⟩) ?_)
  refine Jr fun d0=>(JLh (.agg (Kh d)) (Gg Hn O O O) O (JLm (E6 e.1) O (JLm (I64 m) O ?_)))
  obtain⟨g,d1,h⟩:=Gh h
  refine JLh (.tup [.agg [LS 1 (E4) g.1.States,LS 1 (E5) g.1.Water],I64 g.2.1,I64 g.2.2]) (H3 O (Jy F (Gb.mk d.1 d.2.1 (Light.mk d.2.2.1 d.2.2.2.1 d.2.2.2.2.1 d.2.2.2.2.2.1) d.2.2.2.2.2.2.1 d.2.2.2.2.2.2.2.1 d.2.2.2.2.2.2.2.2.1 (Gi.mk d.2.2.2.2.2.2.2.2.2.1 d.2.2.2.2.2.2.2.2.2.2.1 d.2.2.2.2.2.2.2.2.2.2.2.1 d.2.2.2.2.2.2.2.2.2.2.2.2)) e.1 m g d1) Z1 ⟨O,O,O,O,O,O,ø⟩) O (JLm (.tup [.agg [LS 1 (E4) g.1.States,LS 1 (E5) g.1.Water],I64 g.2.1,I64 g.2.2]) O (JLh (.agg [LS 1 (E4) g.1.States,LS 1 (E5) g.1.Water]) (Gv O O O) O (JLh (I64 g.2.1) (Gv O O O) O (JLh (I64 g.2.2) (Gv O O O) O (JLh (.ptr 1012 0) (Hc 1012 2 Y4 O O) O (Hb (u:=.junk) (H0 (u:=.agg [LS 1 (E4) g.1.States,LS 1 (E5) g.1.Water]) (ds:=[LS 1 (E4) g.1.States,LS 1 (E5) g.1.Water]) Qv O O O O O O O O) (JLm (I64 g.2.1) O (JLm (I64 g.2.2) O (G6 (d0 ?_))))))))))
  refine fzQ [(11,.dptr (Kh d)),(14,I64 m),(15,E6 e.1),(17,.dptr [LS 1 (E4) g.1.States,LS 1 (E5) g.1.Water]),(18,I64 g.2.1),(19,I64 g.2.2)] [] 1012 rfl rfl rfl ø rfl (Js fun d2=>?_)
  refine Jr fun d3=>(JLm (I64 g.2.2) O (JLh (BL (decide (g.2.2≠0))) (Gf1 O O O) O (JLm (BL (decide (g.2.2≠0))) O (JLo (I64 g.2.1) [] O .scf ø (fun hc=>G5 O O) O (JLo (BL (decide (g.2.1≠0))) [74] O .scf ⟨Ua,ø⟩ (fun hc=>Gf1 O O O) O (JLh (BL ((decide (g.2.2≠0))||(decide (g.2.1≠0)))) (G27 O O O O) O (JLm (BL ((decide (g.2.2≠0))||(decide (g.2.1≠0)))) O (JLo (.dptr [LS 1 (E4) g.1.States,LS 1 (E5) g.1.Water]) [] O .scf ø (fun hc=>Gc Yh O O O) O (JLo (LS 1 (E4) g.1.States) [78] O .scf ⟨Ua,ø⟩ (fun hc=>Gf Q1 O O O) O (JLo (Em g.1.States.length) [79] O .scf ⟨Ua,ø⟩ (fun hc=>G32 (f:=(E4)) (xs:=g.1.States) J8 O O) O (JLo (I64 m) [] O .scf ø (fun hc=>G5 O O) O (JLo (BL (decide ((g.1.States.length:Int)≠m))) [80,81] O .scf ⟨Ua,Ua,ø⟩ (fun hc=>Gf1 O O O) O (JLh (BL (((decide (g.2.2≠0))||(decide (g.2.1≠0)))||(decide ((g.1.States.length:Int)≠m)))) (G27 O O O O) O (G6 (d3 ?_)))))))))))))))
  refine JCc O h ?_ ?_<;>intro h hb
  ·
   refine Jr fun d4=>(JLm (BL false) O (G6 (d4 (H2 (fin1 BL h)))))
  ·
   refine Gp (d2 ?_)
   refine Jr fun d5=>(JLh (.agg (Kh d)) (Gg Hn O O O) O (JLh (.ptr 1013 0) (Hc 1013 13 G90 O O) O (Hb (u:=.junk) (H0 (u:=.agg (Kh d)) (ds:=(Kh d)) G3b O O O O O O O O) (G6 (d5 ?_)))))
   refine Jr fun d6=>(JLh (.dptr (Kh d)) (Gc Hm O O O) O (JLh (E7 d.1) (Gf J3 O O O) O ?_))
   obtain⟨v,d7,h⟩:=Gh h
   refine JLh (E7 (d.1.take v)) (Y3 (f:=G4.av) (xs:=d.1) O O O Ho (Rn d7)) O (JLh (.ptr 1013 0) (J7 Hm O O) O (Hb (u:=.junk) (H0 (u:=E7 (d.1.take v)) (ds:=[E7 (d.1.take v),E9 d.2.1,I64 d.2.2.1,I64 d.2.2.2.1,I64 d.2.2.2.2.1,I64 d.2.2.2.2.2.1,Ea d.2.2.2.2.2.2.1,Eb d.2.2.2.2.2.2.2.1,Ec d.2.2.2.2.2.2.2.2.1,I64 d.2.2.2.2.2.2.2.2.2.1,I64 d.2.2.2.2.2.2.2.2.2.2.1,I64 d.2.2.2.2.2.2.2.2.2.2.2.1,I64 d.2.2.2.2.2.2.2.2.2.2.2.2]) Gbf O O O O O O O O) (G6 (d6 ?_))))
   refine Gj [(14,I64 m),(15,E6 e.1),(20,.dptr [E7 (d.1.take v),E9 d.2.1,I64 d.2.2.1,I64 d.2.2.2.1,I64 d.2.2.2.2.1,I64 d.2.2.2.2.2.1,Ea d.2.2.2.2.2.2.1,Eb d.2.2.2.2.2.2.2.1,Ec d.2.2.2.2.2.2.2.2.1,I64 d.2.2.2.2.2.2.2.2.2.1,I64 d.2.2.2.2.2.2.2.2.2.2.1,I64 d.2.2.2.2.2.2.2.2.2.2.2.1,I64 d.2.2.2.2.2.2.2.2.2.2.2.2])] [] 1013 rfl rfl rfl ø rfl (by exact⟨.conv (.same rfl),.conv (.same rfl),.ptr,ø⟩) (Jr fun d8=>(JLm (BL true) O (G6 (d8 (Js fun d9=>Jr fun e0=>(JLm (E6 e.1) O (JLl Hw O O O fun e1=>(JLm (I64 0) O (G6 (e0 (Gk ?_)))))))))))
   obtain⟨h5,e2,e3,b2,h⟩:=J5 h
   refine Hk (fun o (p:Bool)=>each h5 e2 (List.drop o e.1) o p=some r) (fun o p=>[(14,I64 m),(15,E6 e.1),(20,.dptr [E7 (d.1.take v),E9 d.2.1,I64 d.2.2.1,I64 d.2.2.2.1,I64 d.2.2.2.2.1,I64 d.2.2.2.2.2.1,Ea d.2.2.2.2.2.2.1,Eb d.2.2.2.2.2.2.2.1,Ec d.2.2.2.2.2.2.2.2.1,I64 d.2.2.2.2.2.2.2.2.2.1,I64 d.2.2.2.2.2.2.2.2.2.2.1,I64 d.2.2.2.2.2.2.2.2.2.2.2.1,I64 d.2.2.2.2.2.2.2.2.2.2.2.2]),(21,BL p),(89,E6 e.1),(90,Em e.1.length),(91,Em o)]) (fun o p=>[]) (fun o=>e.1.length - o) 0 true h ⟨(.sm O O),ø,rfl⟩ ?_
   clear h
   intro o p a7 i3 h6
   refine Jr fun e4=>(JLh (BL (decide ((o:Int) < (e.1.length:Int)))) (Jf O O O) O (G6 (e4 (Js fun e5=>Gn O (fun hb=>?_) (fun hb=>?_)))))
   ·
    have a8:=Jn hb
    obtain⟨k,i0,e6,e7,h⟩:=Hs a7 a8
    replace h:=Rx e3 h
    refine Gp (e5 (Js fun e8=>Gk (Jr fun e9=>(JLm (Em o) O (JLh (Eh k) (H4 (f:=Box.av) (xs:=e.1) (y:=k) O O O Hw e6 O) O (JLh (.agg (Box.cs k)) (Gg Ys O O O) O (JLh (.ptr 1014 0) (Hc 1014 9 Qm O O) O (JLm (Em o) O (Hb (u:=.junk) (H0 (u:=.agg (Box.cs k)) (ds:=(Box.cs k)) Y1 O O O O O O O O) (G6 (e9 ?_)))))))))))
    refine fzQ [(14,I64 m),(15,E6 e.1),(20,.dptr [E7 (d.1.take v),E9 d.2.1,I64 d.2.2.1,I64 d.2.2.2.1,I64 d.2.2.2.2.1,I64 d.2.2.2.2.2.1,Ea d.2.2.2.2.2.2.1,Eb d.2.2.2.2.2.2.2.1,Ec d.2.2.2.2.2.2.2.2.1,I64 d.2.2.2.2.2.2.2.2.2.1,I64 d.2.2.2.2.2.2.2.2.2.2.1,I64 d.2.2.2.2.2.2.2.2.2.2.2.1,I64 d.2.2.2.2.2.2.2.2.2.2.2.2]),(21,BL p),(22,Em o),(23,Eh k),(89,E6 e.1),(90,Em e.1.length),(91,Em o)] [] 1014 rfl rfl rfl ø rfl (Jr fun f0=>(JLm (E6 e.1) O (JLm (Em o) O ?_)))
    obtain⟨w,f1,h⟩:=Gh h
    refine JLh (E6 (e.1.take w)) (Y3 (f:=Box.av) (xs:=e.1) O O O Hw (Rn f1)) O (JLl Hw O O O fun f2=>(JLm (I64 0) O (G6 (f0 (Gk ?_)))))
    obtain⟨h7,f3,f4,b3,h⟩:=J5 h
    refine Hk (fun q (s:Bool)=>each h7 f3 (List.drop q (e.1.take w)) q s=some r) (fun q s=>[(14,I64 m),(15,E6 e.1),(20,.dptr [E7 (d.1.take v),E9 d.2.1,I64 d.2.2.1,I64 d.2.2.2.1,I64 d.2.2.2.2.1,I64 d.2.2.2.2.2.1,Ea d.2.2.2.2.2.2.1,Eb d.2.2.2.2.2.2.2.1,Ec d.2.2.2.2.2.2.2.2.1,I64 d.2.2.2.2.2.2.2.2.2.1,I64 d.2.2.2.2.2.2.2.2.2.2.1,I64 d.2.2.2.2.2.2.2.2.2.2.2.1,I64 d.2.2.2.2.2.2.2.2.2.2.2.2]),(21,BL s),(23,Eh k),(89,E6 e.1),(90,Em e.1.length),(91,Em o),(98,E6 (e.1.take w)),(99,I64 ((e.1.take w).length:Int)),(100,Em q)]) (fun q s=>[]) (fun q=>(e.1.take w).length - q) 0 p h ⟨(.sm O O),ø,rfl⟩ ?_
    clear h
    intro q s a9 i4 h8
    refine Jr fun f5=>(JLh (BL (decide ((q:Int) < ((e.1.take w).length:Int)))) (Jf O O O) O (G6 (f5 (Js fun f6=>Gn O (fun hb=>?_) (fun hb=>?_)))))
    ·
     have b0:=Jn hb
     obtain⟨l,i1,f7,f8,h⟩:=Hs a9 b0
     replace h:=Rx f4 h
     refine Gp (f6 (Js fun f9=>Gk (Jr fun g0=>(JLh (Eh l) (H4 (f:=Box.av) (xs:=(e.1.take w)) (y:=l) O O O Hw f7 O) O (JLh (.agg (Box.cs l)) (Gg Ys O O O) O (JLh (.ptr 1015 0) (Hc 1015 9 Qm O O) O (Hb (u:=.junk) (H0 (u:=.agg (Box.cs l)) (ds:=(Box.cs l)) Y1 O O O O O O O O) (G6 (g0 ?_)))))))))
     refine fzQ [(14,I64 m),(15,E6 e.1),(20,.dptr [E7 (d.1.take v),E9 d.2.1,I64 d.2.2.1,I64 d.2.2.2.1,I64 d.2.2.2.2.1,I64 d.2.2.2.2.2.1,Ea d.2.2.2.2.2.2.1,Eb d.2.2.2.2.2.2.2.1,Ec d.2.2.2.2.2.2.2.2.1,I64 d.2.2.2.2.2.2.2.2.2.1,I64 d.2.2.2.2.2.2.2.2.2.2.1,I64 d.2.2.2.2.2.2.2.2.2.2.2.1,I64 d.2.2.2.2.2.2.2.2.2.2.2.2]),(21,BL s),(23,Eh k),(25,Eh l),(89,E6 e.1),(90,Em e.1.length),(91,Em o),(98,E6 (e.1.take w)),(99,I64 ((e.1.take w).length:Int)),(100,Em q)] [] 1015 rfl rfl rfl ø rfl (G2 ?_)
     refine JLm (BL s) O (JLm (BL s) O (JLo (.dptr ((Box.cs k).drop 5)) [] O .sct ø (fun hc=>Gc Rv O O O) O (JLo (I64 k.Load) [106] O .sct ⟨Ua,ø⟩ (fun hc=>Gf G9 O O O) O (JLo (.dptr ((Box.cs l).drop 6)) [] O .sct ø (fun hc=>Gc Yj O O O) O (JLo (I64 l.Discharge) [108] O .sct ⟨Ua,ø⟩ (fun hc=>Gf G9 O O O) O (JLo (BL (decide (l.Discharge≤k.Load))) [107,109] O .sct ⟨Ua,Ua,ø⟩ (fun hc=>Ge4 O O O) O (JLo (BL (decide (l.Discharge≤k.Load))) [110] O .sct ⟨Ua,ø⟩ (fun hc=>G5 O O) O (JLo (.dptr ((Box.cs l).drop 5)) [] O .optf ø (fun hc=>Gc Rv O O O) O (JLo (I64 l.Load) [112] O .optf ⟨Ua,ø⟩ (fun hc=>Gf G9 O O O) O (JLo (.dptr ((Box.cs k).drop 6)) [] O .optf ø (fun hc=>Gc Yj O O O) O (JLo (I64 k.Discharge) [114] O .optf ⟨Ua,ø⟩ (fun hc=>Gf G9 O O O) O (JLo (BL (decide (k.Discharge≤l.Load))) [113,115] O .optf ⟨Ua,Ua,ø⟩ (fun hc=>Ge4 O O O) O ?_))))))))))))
     refine Ga (u:=BL ((decide (l.Discharge≤k.Load))||(decide (k.Discharge≤l.Load)))) [(111,BL (decide (l.Discharge≤k.Load))),(116,_)] O O O .sct ⟨.all id,.part,ø⟩ (fun hc=>G27 O O O O) ?_
     refine JLh (BL (s&&((decide (l.Discharge≤k.Load))||(decide (k.Discharge≤l.Load))))) (Qr O O O O) O (JLm (BL (s&&((decide (l.Discharge≤k.Load))||(decide (k.Discharge≤l.Load))))) O (G6 (f9 (G2 (JLh (I64 ((q+1:Nat):Int)) (Hz (He b0 f2) O O O) O (JLm (I64 ((q+1:Nat):Int)) O (G6 (h8 _ _ (q+1) (s&&((decide (l.Discharge≤k.Load))||(decide (k.Discharge≤l.Load)))) (app1 f8 h) (by omega) ⟨(.sm O O),ø,rfl⟩))))))))
    ·
     have h:=app1 b3 (Ht a9 (H9 hb))
     refine Hr (e8 (G2 (JLh (I64 ((o+1:Nat):Int)) (Hz (He a8 e1) O O O) O (JLm (I64 ((o+1:Nat):Int)) O (G6 (h6 _ _ (o+1) s (app1 e7 h) (by omega) ⟨(.sm O O),ø,rfl⟩))))))
   ·
    have h:=app1 b2 (Ht a7 (H9 hb))
    refine Hr (d9 (Jr fun g1=>(JLh (.agg [E7 (d.1.take v),E9 d.2.1,I64 d.2.2.1,I64 d.2.2.2.1,I64 d.2.2.2.2.1,I64 d.2.2.2.2.2.1,Ea d.2.2.2.2.2.2.1,Eb d.2.2.2.2.2.2.2.1,Ec d.2.2.2.2.2.2.2.2.1,I64 d.2.2.2.2.2.2.2.2.2.1,I64 d.2.2.2.2.2.2.2.2.2.2.1,I64 d.2.2.2.2.2.2.2.2.2.2.2.1,I64 d.2.2.2.2.2.2.2.2.2.2.2.2]) (Gg Hn O O O) O (JLm (E6 e.1) O (JLm (I64 m) O ?_)))))
    obtain⟨i,g2,h⟩:=Gh h
    refine JLh (.tup [.agg [LS 1 (E4) i.1.States,LS 1 (E5) i.1.Water],I64 i.2.1,I64 i.2.2]) (H3 O (Jy F (Gb.mk (d.1.take v) d.2.1 (Light.mk d.2.2.1 d.2.2.2.1 d.2.2.2.2.1 d.2.2.2.2.2.1) d.2.2.2.2.2.2.1 d.2.2.2.2.2.2.2.1 d.2.2.2.2.2.2.2.2.1 (Gi.mk d.2.2.2.2.2.2.2.2.2.1 d.2.2.2.2.2.2.2.2.2.2.1 d.2.2.2.2.2.2.2.2.2.2.2.1 d.2.2.2.2.2.2.2.2.2.2.2.2)) e.1 m i g2) Z1 ⟨O,O,O,O,O,O,ø⟩) O (JLm (.tup [.agg [LS 1 (E4) i.1.States,LS 1 (E5) i.1.Water],I64 i.2.1,I64 i.2.2]) O (JLh (.agg [LS 1 (E4) i.1.States,LS 1 (E5) i.1.Water]) (Gv O O O) O (JLh (I64 i.2.1) (Gv O O O) O (JLh (I64 i.2.2) (Gv O O O) O (JLh (.ptr 1016 0) (Hc 1016 2 Y4 O O) O (Hb (u:=.junk) (H0 (u:=.agg [LS 1 (E4) i.1.States,LS 1 (E5) i.1.Water]) (ds:=[LS 1 (E4) i.1.States,LS 1 (E5) i.1.Water]) Qv O O O O O O O O) (JLm (I64 i.2.1) O (JLm (I64 i.2.2) O (G6 (g1 ?_))))))))))
    refine Gj [(21,BL p),(27,I64 i.2.1),(28,I64 i.2.2)] [] 1016 rfl rfl rfl ø rfl (by exact⟨.conv (.same rfl),.conv (.same rfl),.conv (.same rfl),ø⟩) (Jr fun g3=>(JLm (BL p) O (JLh (BL (!p)) (G1f (b:=p) O O) O (JLm (BL (!p)) O (JLo (I64 i.2.2) [] O .scf ø (fun hc=>G5 O O) O (JLo (BL (decide (i.2.2=0))) [132] O .scf ⟨Ua,ø⟩ (fun hc=>Q6 O O O) O (JLo (BL (decide (i.2.2=0))) [133] O .scf ⟨Ua,ø⟩ (fun hc=>G5 O O) O (JLo (I64 i.2.1) [] O .optt ø (fun hc=>G5 O O) O (JLo (BL (decide (i.2.1=0))) [135] O .optt ⟨Ua,ø⟩ (fun hc=>Q6 O O O) O (Ga (u:=BL ((decide (i.2.2=0))&&(decide (i.2.1=0)))) [(134,BL (decide (i.2.2=0))),(136,_)] O O O .scf ⟨.all id,.part,ø⟩ (fun hc=>Qr O O O O) ?_))))))))))
    refine JLh (BL ((!p)||((decide (i.2.2=0))&&(decide (i.2.1=0))))) (G27 O O O O) O (JLm (BL ((!p)||((decide (i.2.2=0))&&(decide (i.2.1=0))))) O ?_)
    obtain⟨a0,g4,h⟩:=Gh h
    refine JLo (BL a0) [] O .sct ø (fun hc=>H3 (args:=[]) O (G23 F a0 (Hg hc g4)) Hdc ø) O (JLh (BL (((!p)||((decide (i.2.2=0))&&(decide (i.2.1=0))))&&a0)) (Qr O O O O) O (JLm (BL (((!p)||((decide (i.2.2=0))&&(decide (i.2.1=0))))&&a0)) O (G6 (g3 (H2 (fin1 BL h))))))
end
end Go.Proofs.YtibhpogonkdiaaaGreat
