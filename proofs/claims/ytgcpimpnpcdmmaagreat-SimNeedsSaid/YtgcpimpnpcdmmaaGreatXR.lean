/- Walks of functions. -/
import Derived.Test.YtgcpimpnpcdmmaaGreatXQ
import Derived.Test.YtgcpimpnpcdmmaaGreatSpecGr
set_option maxRecDepth 100000
set_option maxHeartbeats 1000000
set_option linter.unusedVariables false
set_option linter.unusedSimpArgs false
namespace Go.Proofs.YtgcpimpnpcdmmaaGreat
open Go.RowKit
noncomputable section

namespace XRF
open XAF
open XCF
open XSF
open XKF
open XTF
open XUF
open XVF
open XMF
open XBF
open XPF
open XQF
theorem Y3b:H1 En 24=true:=by kernel_rfl
theorem Y3a:H1 En 25=true:=by kernel_rfl
theorem Y2b:H1 En 51=true:=by kernel_rfl
theorem H09:sliceB En 116 45 1=true:=by kernel_rfl
theorem R99:R1 En 45 1=true:=by kernel_rfl
end XRF
open XAF
open XCF
open XSF
open XKF
open XTF
open XUF
open XVF
open XMF
open XBF
open XPF
open XQF
open XRF

def Rf (s:List Move):Option (List Move):=
 Rd7 s fun a=>
 bif a then
 (some [])
 else
 (need (decide ((([]:List Move).length+s.length)*48≤140737488355328∧([]:List Move).length+s.length≤maxLen)) <|
  some (([]:List Move)++s))
theorem He4 (s:List Move) (r:(List Move)) (h:Rf s=some r):Hx En 25 [E9 s] [] (fun av L'=>∃ p:Nat,av=.vec 1034 p 6 r.length∧L'=[(1034,.vec 59 6 p (r.map Move.av))]):=by
 unfold Rf at h
 refine Ji [] [.tmp 2] Tryz.func25 O O (G0c O) ?_
 refine Jr fun a=>?_
 refine JLg (.vec 1034 (([]:List Move).length) 6 (([]:List Move).length)) (G73 1034 59 6 O O O) ?_
 refine G6 (a ?_)
 refine Js fun b=>?_
 refine Jr fun c=>?_
 refine JLm (E9 s) O ?_
 refine Rn O O O (Hd7 Jp O O) ?_
 rintro u_ L_ ⟨j,d,rfl,rfl⟩
 replace h:=H5b h j d
 refine G6 (c ?_)
 refine JCc O h ?_ ?_<;>intro h hb
 ·
  refine Jr fun e=>?_
  refine JLg (.vec 1034 ((([]:List Move).length)+1) 6 (([]:List Move).length)) (Q8b 1034 59 6 O O O) ?_
  refine G6 (e ?_)
  refine G3c 2 O O (fun hn_=>?_)
  refine Gs ?_
  obtain rfl:=M8 h
  exact⟨[.vec 1034 ((([]:List Move).length)+1) 6 (([]:List Move).length)],[(1034,.vec 59 6 ((([]:List Move).length)+1) (([]:List Move).map Move.av))],⟨⟨_,O,.vec⟩,ø⟩,O,⟨⟨_,O,.conv (.same O)⟩,ø⟩,((([]:List Move).length)+1),congrArg (fun n_:Nat=>(.vec 1034 ((([]:List Move).length)+1) 6 n_:AV)) (hn_.trans O),O⟩
 ·
  refine Gk ?_
  refine b ?_
  refine Jr fun g=>?_
  refine JLg (.vec 1034 ((([]:List Move).length)+1) 6 (([]:List Move).length)) (Q8c 1034 59 6 O O Jp) ?_
  refine JLm (E9 s) O ?_
  obtain⟨i,h⟩:=Jf h
  refine JLg (.vec 1034 (((([]:List Move).length)+1)+((([]:List Move)++s).length+1)) 6 ((([]:List Move)++s).length)) (G1f (f:=Move.av) (xs:=([]:List Move)) (ys:=s) (ver:=((([]:List Move).length)+1)) (ver1:=(((([]:List Move).length)+1)+((([]:List Move)++s).length+1))) rfl rfl rfl rfl Jp H8f i (fun _=>rfl) (.inl rfl) (by simp)) ?_
  refine JLm (.vec 1034 (((([]:List Move).length)+1)+((([]:List Move)++s).length+1)) 6 ((([]:List Move)++s).length)) O ?_
  refine G6 (g ?_)
  refine G3c 2 O O (fun hn_=>?_)
  refine Gs ?_
  obtain rfl:=M8 h
  exact⟨[.vec 1034 (((([]:List Move).length)+1)+((([]:List Move)++s).length+1)) 6 ((([]:List Move)++s).length)],[(1034,.vec 59 6 (((([]:List Move).length)+1)+((([]:List Move)++s).length+1)) ((([]:List Move)++s).map Move.av))],⟨⟨_,O,.vec⟩,ø⟩,O,⟨⟨_,O,.conv (.same O)⟩,ø⟩,(((([]:List Move).length)+1)+((([]:List Move)++s).length+1)),congrArg (fun n_:Nat=>(.vec 1034 (((([]:List Move).length)+1)+((([]:List Move)++s).length+1)) 6 n_:AV)) (hn_.trans (Mn _)),O⟩

def Zf (slices:List (List Move)):Option (List Move):=
 each (fun g i (b:Int) e=>
  chk (b+(g.length:Int)) fun d=>
  bif decide (d < 0) then
  (none)
  else
  (e d))
 (fun(b:Int)=>
  bnd (Zx b) fun h=>
  each (fun c j (a:(List Move)) f=>
   need (decide ((a.length+c.length)*48≤140737488355328∧a.length+c.length≤maxLen)) <|
   f (a++c))
  (fun(a:(List Move))=>
   some a) slices 0 h) slices 0 0
theorem Hba (slices:List (List Move)) (r:(List Move)) (h:Zf slices=some r):Pure En 24 [LS 1 (E9) slices] (·=E9 r):=by
 unfold Zf at h
 refine Gz [.tmp 2] Tryz.func24 O O ?_
 refine Jr fun c4=>?_
 refine JLg (E9 ([]:List Move)) (Jd 6 O O) ?_
 refine G6 (c4 ?_)
 refine Jr fun c5=>?_
 refine JLm (I64 0) O ?_
 refine G6 (c5 ?_)
 refine Js fun c6=>?_
 refine Jr fun c7=>?_
 refine JLm (LS 1 (E9) slices) O ?_
 refine JLl H09 O O O fun x=>?_
 refine JLm (I64 0) O ?_
 refine G6 (c7 ?_)
 refine Gq ?_
 obtain⟨c8,z,a0,s,h⟩:=Je h
 refine Hm (fun d (e:Int)=>each c8 z (List.drop d slices) d e=some r) (fun d e=>[(0,LS 1 (E9) slices),(3,I64 e),(9,LS 1 (E9) slices),(10,Em slices.length),(11,Em d)]) (fun d e=>[]) (fun d=>slices.length - d) 0 0 h ⟨(.sm O O),ø,rfl⟩ ?_
 clear h
 intro d e m d4 c9
 refine Jr fun a1=>?_
 refine JLg (BL (decide ((d:Int) < (slices.length:Int)))) (Jn O O O) ?_
 refine G6 (a1 ?_)
 refine Js fun a2=>?_
 refine Gp O (fun hb=>?_) (fun hb=>?_)
 ·
  have n:=Jz hb
  obtain⟨j,d1,a3,a4,h⟩:=Hv m n
  replace h:=Zm a0 h
  refine Gk ?_
  refine a2 ?_
  refine Js fun a5=>?_
  refine Gq ?_
  refine Jr fun a6=>?_
  refine JLg (.dptr [E9 j]) (Hb (f:=(E9)) (xs:=slices) (y:=j) O O O H09 a3 O) ?_
  refine JLg (E9 j) (Gg H0a O O O) ?_
  refine JLm (E9 j) O ?_
  refine G6 (a6 ?_)
  refine Jr fun a7=>?_
  refine JLm (I64 e) O ?_
  refine JLm (E9 j) O ?_
  refine JLl Jp O O O fun d2=>?_
  obtain⟨k,a8,h⟩:=Ht h
  refine JLg (I64 k) (J3 a8 O O O) ?_
  refine JLm (I64 k) O ?_
  refine G6 (a7 ?_)
  refine Jr fun a9=>?_
  refine JLm (I64 k) O ?_
  refine JLg (BL (decide (k < 0))) (Jn O O O) ?_
  refine G6 (a9 ?_)
  refine JCc O h ?_ ?_<;>intro h hb
  ·
   cases h
  ·
   refine Gk ?_
   refine a5 ?_
   refine G2 ?_
   refine JLg (I64 ((d+1:Nat):Int)) (J3 (Hp n x) O O O) ?_
   refine JLm (I64 ((d+1:Nat):Int)) O ?_
   refine G6 ?_
   exact c9 _ _ (d+1) k (app1 a4 h) (by omega) ⟨(.sm O O),ø,rfl⟩
 ·
  have h:=app1 s (Hw m (Hf hb))
  refine Hr ?_
  refine c6 ?_
  refine Jr fun b0=>?_
  refine JLm (I64 e) O ?_
  obtain⟨l,b1,h⟩:=Gd h
  refine Rn O O O (G8f (args:=[.sc (.slice none 0 0),I64 e]) (L0:=[]) (u:=fun p=>.vec 1093 p 6 l.length) (Lr:=fun p=>[(1093,.vec 59 6 p (l.map Move.av))]) O (Hf9.down e l b1) Y2b ⟨.inl O,O,.inl O,O,ø⟩ ø O (fun _=>O)) ?_
  rintro u_ L_ ⟨v,rfl,rfl⟩
  refine JLm (.vec 1093 v 6 l.length) O ?_
  refine G6 (b0 ?_)
  refine Js fun b2=>?_
  refine Jr fun b3=>?_
  refine JLm (LS 1 (E9) slices) O ?_
  refine JLl H09 O O O fun b4=>?_
  refine JLm (I64 0) O ?_
  refine G6 (b3 ?_)
  refine Gq ?_
  obtain⟨w,o,b5,t,h⟩:=Je h
  refine Hm (fun b (g:((List Move))×Nat)=>(fun(a:(List Move))=>each w o (List.drop b slices) b a=some r) g.1) (fun b g=>(fun(a:(List Move)) (gv58:Nat)=>[(6,.vec 1093 gv58 6 a.length),(25,LS 1 (E9) slices),(26,Em slices.length),(27,Em b)]) g.1 g.2) (fun b g=>(fun(a:(List Move)) (gv58:Nat)=>[(1093,.vec 59 6 gv58 (a.map Move.av))]) g.1 g.2) (fun b=>slices.length - b) 0 (l,v) h ⟨(.sm O O),⟨⟨_,rfl,.vec⟩,ø⟩,rfl⟩ ?_
  clear h
  rintro b ⟨a,gv58⟩ i d5 d0
  replace i:each w o (List.drop b slices) b a=some r:=i
  change JC _ _ _ _ [(6,.vec 1093 gv58 6 a.length),(25,LS 1 (E9) slices),(26,Em slices.length),(27,Em b)] [(1093,.vec 59 6 gv58 (a.map Move.av))]
  refine Jr fun b6=>?_
  refine JLg (BL (decide ((b:Int) < (slices.length:Int)))) (Jn O O O) ?_
  refine G6 (b6 ?_)
  refine Js fun b7=>?_
  refine Gp O (fun hb=>?_) (fun hb=>?_)
  ·
   have q:=Jz hb
   obtain⟨c,d3,b8,b9,h⟩:=Hv i q
   replace h:=Zm b5 h
   refine Gk ?_
   refine b7 ?_
   refine Js fun c0=>?_
   refine Gq ?_
   refine Jr fun c1=>?_
   refine JLg (.dptr [E9 c]) (Hb (f:=(E9)) (xs:=slices) (y:=c) O O O H09 b8 O) ?_
   refine JLg (E9 c) (Gg H0a O O O) ?_
   refine JLm (E9 c) O ?_
   refine G6 (c1 ?_)
   refine G2 ?_
   refine JLm (.vec 1093 gv58 6 a.length) O ?_
   refine JLm (E9 c) O ?_
   obtain⟨c2,h⟩:=Jf h
   refine JLg (.vec 1093 (gv58+((a++c).length+1)) 6 ((a++c).length)) (G1f (f:=Move.av) (xs:=a) (ys:=c) (ver:=gv58) (ver1:=(gv58+((a++c).length+1))) rfl rfl rfl rfl Jp H8f c2 (fun _=>rfl) (.inl rfl) (by simp)) ?_
   refine JLm (.vec 1093 (gv58+((a++c).length+1)) 6 ((a++c).length)) O ?_
   refine G6 (c0 ?_)
   refine G2 ?_
   refine JLg (I64 ((b+1:Nat):Int)) (J3 (Hp q b4) O O O) ?_
   refine JLm (I64 ((b+1:Nat):Int)) O ?_
   refine G6 ?_
   exact d0 _ _ (b+1) ((a++c),(gv58+((a++c).length+1))) (app1 b9 h) (by omega) ⟨(.sm O O),⟨⟨_,rfl,.vec⟩,ø⟩,rfl⟩
  ·
   have h:=app1 t (Hw i (Hf hb))
   refine Hr ?_
   refine b2 ?_
   refine Jr fun c3=>?_
   refine JLm (.vec 1093 gv58 6 a.length) O ?_
   refine JLm (.vec 1093 gv58 6 a.length) O ?_
   refine G6 (c3 ?_)
   refine H43 [(2,E9 a)] [] 1093 rfl rfl ø rfl (by exact⟨.vec,ø⟩) ?_
   refine Gs ?_
   exact fin1 (fun r:(List Move)=>(E9 r:AV)) h

def Zv (F:Nat) (places:List H9) (covers:Int) (items:List H8) (call:Int) (which:Int):Option Bool:=
 bnd (Ym) fun r4=>
 bif (!r4) then
 (some false)
 else
 (bnd (R2 F places covers items) fun f=>
  chk (call) fun s=>
  bnd (Hc5 s (f.2.2.States.length:Int)) fun j=>
  jp (fun k=>
   bif decide (0 < j) then
   (chk (j - 1) fun t=>
    Qm f.2.2.States t fun u=>
    k u)
   else
   (k [])) fun(g:(List G1))=>
  Qm f.2.2.States j fun h=>
  bnd (G51 F f.1 f.2.1 g h) fun a=>
  bif ((decide (a.2≠0))||(decide ((a.1.length:Int)=0))) then
  (some (decide (a.2=0)))
  else
  (chk (which) fun v=>
   bnd (Hc5 v (a.1.length:Int)) fun b=>
   bnd (Qc h g) fun w=>
   bnd (G4d f.1 f.2.1 g w) fun o=>
   bnd (Qc h g) fun x=>
   bnd (G4d f.1 f.2.1 g x) fun p=>
   chk (o.2+p.2) fun y=>
   bif decide (y≠0) then
   (some false)
   else
   (bnd (J5b b a.1.length) fun z=>
    chk (b+1) fun a0=>
    bnd (J5b a0 a.1.length) fun a1=>
    bnd (Zf [(a.1.take z),(a.1.drop a1)]) fun a2=>
    bnd (G0e o.1 a2) fun d=>
    bnd (bif decide (d.2.1=0) then Ya d.2.2 else some default) fun l=>
    bnd (bif ((decide (d.2.1=0))&&(decide ((l.length:Int)=0))) then Ye d.2.2 else some default) fun a3=>
    bnd (bif ((decide (d.2.1=0))&&(decide ((l.length:Int)=0))) then Jh a3 h else some default) fun a4=>
    bif (((decide (d.2.1=0))&&(decide ((l.length:Int)=0)))&&a4) then
    (some false)
    else
    (bnd (Rf a.1) fun e=>
     jp (fun m=>
      chk (b+1) fun a5=>
      bif decide (a5 < (a.1.length:Int)) then
      (chk (b+1) fun q=>
       chk (b+1) fun a6=>
       Qm e a6 fun r=>
       Qm e b fun a7=>
       Qm e b fun b3=>
       Qm (e.set b.toNat r) q fun b4=>
       m ((e.set b.toNat r).set q.toNat a7))
      else
      (m e)) fun(a8:(List Move))=>
     bnd (G0e p.1 a8) fun c=>
     bnd (bif (!(decide (c.2.1≠0))) then Ya c.2.2 else some default) fun i=>
     bnd (bif ((!(decide (c.2.1≠0)))&&(decide ((i.length:Int)=0))) then Ye c.2.2 else some default) fun a9=>
     bnd (bif ((!(decide (c.2.1≠0)))&&(decide ((i.length:Int)=0))) then Jh a9 h else some default) fun n=>
     bnd (bif ((!(decide (c.2.1≠0)))&&((decide ((i.length:Int)=0))&&n)) then Zt c.2.2 else some default) fun b0=>
     bnd (bif ((!(decide (c.2.1≠0)))&&((decide ((i.length:Int)=0))&&n)) then G5e a.1 else some default) fun b1=>
     some ((decide (c.2.1≠0))||(((decide ((i.length:Int)=0))&&n)&&(decide (b0=b1))))))))
theorem H7f (F:Nat) (places:List H9) (covers:Int) (items:List H8) (call:Int) (which:Int) (r:Bool) (h:Zv F places covers items call which=some r):Pure En 5 [Ed places,.sc (.int .u32 covers),Ec items,U8 call,U8 which] (·=BL r):=by
 unfold Zv at h
 refine Gz [.tmp 10] Tryz.func5 O O ?_
 refine Jr fun i2=>?_
 refine JLm (BL false) O ?_
 refine G6 (i2 ?_)
 refine Js fun i3=>?_
 refine Jr fun i4=>?_
 obtain⟨r4,i5,h⟩:=Gd h
 refine JLg (BL r4) (Gu O (G5a  r4 i5) Q15 ø) ?_
 refine JLg (BL (!r4)) (Yc (b:=r4) O O) ?_
 refine G6 (i4 ?_)
 refine JCc O h ?_ ?_<;>intro h hb
 ·
  refine Jr fun i6=>?_
  refine JLm (BL false) O ?_
  refine G6 (i6 ?_)
  refine Gs ?_
  exact fin1 BL h
 ·
  refine Gk ?_
  refine i3 ?_
  refine Jr fun i7=>?_
  refine JLm (Ed places) O ?_
  refine JLm (.sc (.int .u32 covers)) O ?_
  refine JLm (Ec items) O ?_
  obtain⟨i,i8,h⟩:=Gd h
  refine JLg (.tup [.agg (Gj.cs i.1),E8 i.2.1,.agg [LS 1 (E1) i.2.2.States,LS 1 (E2) i.2.2.Water]]) (Gu O (G40 F places covers items i i8) Q14 ⟨O,O,O,O,O,O,ø⟩) ?_
  refine JLm (.tup [.agg (Gj.cs i.1),E8 i.2.1,.agg [LS 1 (E1) i.2.2.States,LS 1 (E2) i.2.2.Water]]) O ?_
  refine JLg (.agg (Gj.cs i.1)) (Gv O O O) ?_
  refine JLg (E8 i.2.1) (Gv O O O) ?_
  refine JLg (.agg [LS 1 (E1) i.2.2.States,LS 1 (E2) i.2.2.Water]) (Gv O O O) ?_
  refine JLg (.ptr 1007 0) (Hj 1007 13 H59 O O) ?_
  refine JLg (.ptr 1008 0) (Hj 1008 2 H58 O O) ?_
  refine Hq (u:=.junk) (H7 (u:=.agg (Gj.cs i.1)) (ds:=(Gj.cs i.1)) G57 O O O O O O O O) ?_
  refine JLm (E8 i.2.1) O ?_
  refine Hq (u:=.junk) (H7 (u:=.agg [LS 1 (E1) i.2.2.States,LS 1 (E2) i.2.2.Water]) (ds:=[LS 1 (E1) i.2.2.States,LS 1 (E2) i.2.2.Water]) G56 O O O O O O O O) ?_
  refine G6 (i7 ?_)
  refine fzQ [(3,U8 call),(4,U8 which),(11,Ee i.1),(12,E8 i.2.1),(13,.ptr 1008 0)] [(1008,.box 41 [LS 1 (E1) i.2.2.States,LS 1 (E2) i.2.2.Water])] 1007 rfl rfl rfl ⟨⟨_,rfl,.boxEq rfl rfl⟩,ø⟩ rfl ?_
  refine fzQ [(3,U8 call),(4,U8 which),(11,Ee i.1),(12,E8 i.2.1),(13,.dptr [LS 1 (E1) i.2.2.States,LS 1 (E2) i.2.2.Water])] [] 1008 rfl rfl rfl ø rfl ?_
  refine Jr fun i9=>?_
  refine JLg (E1 ([]:List G1)) (Jd 4 O O) ?_
  refine G6 (i9 ?_)
  refine Jr fun j0=>?_
  refine JLm (U8 call) O ?_
  obtain⟨j1,d1,h⟩:=Ht h
  refine JLg (I64 j1) (G9c G22 G21 d1 O O) ?_
  refine JLg (.dptr [LS 1 (E1) i.2.2.States,LS 1 (E2) i.2.2.Water]) (Ga Ro O O O) ?_
  refine JLg (LS 1 (E1) i.2.2.States) (Gg R9 O O O) ?_
  refine JLl Ju O O O fun b2=>?_
  obtain⟨x,b3,h⟩:=Gd h
  refine JLg (I64 x) (J74 (R8 b3).1 (R8 b3).2 O O O) ?_
  refine JLm (I64 x) O ?_
  refine G6 (j0 ?_)
  obtain⟨d2,c2,h⟩:=Rc h
  refine Qk (fun o:(List G1)=>d2 o=some r) (fun o=>[(4,U8 which),(11,Ee i.1),(12,E8 i.2.1),(13,.dptr [LS 1 (E1) i.2.2.States,LS 1 (E2) i.2.2.Water]),(14,E1 o),(15,I64 x)]) (fun o=>[]) (fun Kj12 ej12=>?_) ?_
  ·
   refine Jr fun d3=>?_
   refine JLm (I64 x) O ?_
   refine JLg (BL (decide (0 < x))) (Gd1 O O O) ?_
   refine G6 (d3 ?_)
   refine JCc O h ?_ ?_<;>intro h hb
   ·
    refine G2 ?_
    refine JLg (.dptr [LS 1 (E1) i.2.2.States,LS 1 (E2) i.2.2.Water]) (Ga Ro O O O) ?_
    refine JLg (LS 1 (E1) i.2.2.States) (Gg R9 O O O) ?_
    refine JLm (I64 x) O ?_
    obtain⟨j2,d4,h⟩:=Ht h
    refine JLg (I64 j2) (G62 d4 O O O) ?_
    obtain⟨j9,a3,d5,d6,h⟩:=Rw h
    refine JLg (.dptr [E1 a3]) (Hb (f:=(E1)) (xs:=i.2.2.States) (y:=a3) O O O Ju d6 d5) ?_
    refine JLg (E1 a3) (Gg Yj O O O) ?_
    refine JLm (E1 a3) O ?_
    refine G6 ?_
    exact ej12 _ _ a3 h ⟨(.sm O O),ø,rfl⟩
   ·
    refine Gk ?_
    exact ej12 _ _ [] h ⟨(.sm O O),ø,rfl⟩
  ·intro o h
   replace h:=app1 c2 h
   refine Jr fun d7=>?_
   refine JLg (.dptr [LS 1 (E1) i.2.2.States,LS 1 (E2) i.2.2.Water]) (Ga Ro O O O) ?_
   refine JLg (LS 1 (E1) i.2.2.States) (Gg R9 O O O) ?_
   refine JLm (I64 x) O ?_
   obtain⟨k0,l,d8,d9,h⟩:=Rw h
   refine JLg (.dptr [E1 l]) (Hb (f:=(E1)) (xs:=i.2.2.States) (y:=l) O O O Ju d9 d8) ?_
   refine JLg (E1 l) (Gg Yj O O O) ?_
   refine JLm (E1 l) O ?_
   refine G6 (d7 ?_)
   refine Jr fun e0=>?_
   refine JLg (.agg (Gj.cs i.1)) (Gm J8 O O O) ?_
   refine JLm (E8 i.2.1) O ?_
   refine JLm (E1 o) O ?_
   refine JLm (E1 l) O ?_
   obtain⟨e,e1,h⟩:=Gd h
   refine JLg (.tup [E9 e.1,I64 e.2]) (Gu O (Hb0 F i.1 i.2.1 o l e e1) Q13 ⟨O,O,O,O,O,O,O,O,ø⟩) ?_
   refine JLm (.tup [E9 e.1,I64 e.2]) O ?_
   refine JLg (E9 e.1) (Gv O O O) ?_
   refine JLg (I64 e.2) (Gv O O O) ?_
   refine JLm (E9 e.1) O ?_
   refine JLm (I64 e.2) O ?_
   refine G6 (e0 ?_)
   refine Js fun e2=>?_
   refine Jr fun e3=>?_
   refine JLm (I64 e.2) O ?_
   refine JLg (BL (decide (e.2≠0))) (G8e O O O) ?_
   refine JLm (BL (decide (e.2≠0))) O ?_
   refine JLo (E9 e.1) [] O .scf ø (fun hc=>G5 O O) O ?_
   refine JLo (Em e.1.length) [65] O .scf ⟨Ua,ø⟩ (fun hc=>Gf6 (f:=Move.av) (xs:=e.1) Jp O O) O ?_
   refine JLo (BL (decide ((e.1.length:Int)=0))) [66] O .scf ⟨Ua,ø⟩ (fun hc=>Qg O O O) O ?_
   refine JLg (BL ((decide (e.2≠0))||(decide ((e.1.length:Int)=0)))) (G82 O O O O) ?_
   refine G6 (e3 ?_)
   refine JCc O h ?_ ?_<;>intro h hb
   ·
    refine Jr fun e4=>?_
    refine JLm (I64 e.2) O ?_
    refine JLg (BL (decide (e.2=0))) (Qg O O O) ?_
    refine JLm (BL (decide (e.2=0))) O ?_
    refine G6 (e4 ?_)
    refine Gs ?_
    exact fin1 BL h
   ·
    refine Gk ?_
    refine e2 ?_
    refine Jr fun e5=>?_
    refine JLm (U8 which) O ?_
    obtain⟨j3,e6,h⟩:=Ht h
    refine JLg (I64 j3) (G9c G22 G21 e6 O O) ?_
    refine JLm (E9 e.1) O ?_
    refine JLl Jp O O O fun j8=>?_
    obtain⟨m,b4,h⟩:=Gd h
    refine JLg (I64 m) (J74 (R8 b4).1 (R8 b4).2 O O O) ?_
    refine JLm (I64 m) O ?_
    refine G6 (e5 ?_)
    refine Js fun e7=>?_
    obtain⟨a6,e8,h⟩:=Gd h
    obtain⟨d,e9,h⟩:=Gd h
    refine Jm [6] [0,0,0,0,0,0,0,1,1,1,1,1] [0,0,0,0,0,0,0,1,1,1,1,1] [[],[(7000,.box 94 [E3 d.1.ship.Columns,E7 d.1.ship.Covers,I64 d.1.ship.Light.Kilos,I64 d.1.ship.Light.X,I64 d.1.ship.Light.Y,I64 d.1.ship.Light.Z,E4 d.1.ship.Rows,E5 d.1.ship.Frames,E6 d.1.ship.Tanks,I64 d.1.ship.G8.Tolerance,I64 d.1.ship.G8.Trim,I64 d.1.ship.G8.List_,I64 d.1.ship.G8.Stability,.mp 7001,.mp 7002,.mp 7003,I64 d.1.lifts]),(7001,TP 90 Slot.kv Box.av d.1.on),(7002,TP 91 Ks Box.av d.1.quay),(7003,TP 92 Ks I64 d.1.open_)]] J1 (by kernel_rfl) rfl rfl ?_
    refine Gc (u:=.agg (Gj.cs i.1)) O O ⟨Gf (Gm J8 O O O) O,ø⟩ ?_
    refine Gc (u:=E8 i.2.1) O O ⟨Gf (G5 O O) O,ø⟩ ?_
    refine Gc (u:=E1 o) O O ⟨Gf (G5 O O) O,ø⟩ ?_
    refine Gc (u:=E1 l) O O ⟨Gf (G5 O O) O,ø⟩ ?_
    refine Gc (u:=E1 o) O O ⟨Gf (G5 O O) O,ø⟩ ?_
    refine Gc (u:=E2 a6) O O ⟨Gf (Gu O (Yp l o a6 e8) H93 ⟨O,O,O,O,ø⟩) O,ø⟩ ?_
    refine D_w (u:=.tup [.ptr 7000 0,I64 d.2]) O O O O (Gf (Y1 (args:=[.agg (Gj.cs i.1),E8 i.2.1,E1 o,E2 a6]) (L0:=[]) (Lr:=[(7000,.box 94 [E3 d.1.ship.Columns,E7 d.1.ship.Covers,I64 d.1.ship.Light.Kilos,I64 d.1.ship.Light.X,I64 d.1.ship.Light.Y,I64 d.1.ship.Light.Z,E4 d.1.ship.Rows,E5 d.1.ship.Frames,E6 d.1.ship.Tanks,I64 d.1.ship.G8.Tolerance,I64 d.1.ship.G8.Trim,I64 d.1.ship.G8.List_,I64 d.1.ship.G8.Stability,.mp 7001,.mp 7002,.mp 7003,I64 d.1.lifts]),(7001,TP 90 Slot.kv Box.av d.1.on),(7002,TP 91 Ks Box.av d.1.quay),(7003,TP 92 Ks I64 d.1.open_)]) O (Gdf i.1 i.2.1 o a6 d e9) H94 ⟨.inl O,O,.inl O,O,.inl O,O,.inl O,O,ø⟩ ø O O O) O) ?_
    refine Gc (u:=.tup [.ptr 7000 0,I64 d.2]) O O ⟨Gf (G5 O O) O,ø⟩ ?_
    refine Gc (u:=.ptr 7000 0) O O ⟨Gf (Gv O O O) O,ø⟩ ?_
    refine Gc (u:=I64 d.2) O O ⟨Gf (Gv O O O) O,ø⟩ ?_
    refine Gc (u:=.ptr 7000 0) O O ⟨Gf (G7 O O) O,ø⟩ ?_
    refine Gc (u:=I64 d.2) O O ⟨Gf (G7 O O) O,ø⟩ ?_
    refine R4 ?_
    refine e7 ?_
    refine Js fun f0=>?_
    refine Qn (l':=[(11,Ee i.1),(12,E8 i.2.1),(14,E1 o),(16,E1 l),(17,E9 e.1),(19,I64 m),(20,.ptr 7000 0),(21,I64 d.2)]) (L':=[(7000,.box 94 [E3 d.1.ship.Columns,E7 d.1.ship.Covers,I64 d.1.ship.Light.Kilos,I64 d.1.ship.Light.X,I64 d.1.ship.Light.Y,I64 d.1.ship.Light.Z,E4 d.1.ship.Rows,E5 d.1.ship.Frames,E6 d.1.ship.Tanks,I64 d.1.ship.G8.Tolerance,I64 d.1.ship.G8.Trim,I64 d.1.ship.G8.List_,I64 d.1.ship.G8.Stability,.mp 7001,.mp 7002,.mp 7003,I64 d.1.lifts]),(7001,TP 90 Slot.kv Box.av d.1.on),(7002,TP 91 Ks Box.av d.1.quay),(7003,TP 92 Ks I64 d.1.open_)]) ⟨(.sm O O),⟨fbQ O (.sm O O),fmQ O,fmQ O,fmQ O,ø⟩,rfl⟩ ?_
    obtain⟨a7,f1,h⟩:=Gd h
    obtain⟨a,f2,h⟩:=Gd h
    refine Jm [6] [0,0,0,0,0,0,0,1,1,1,1,1] [0,0,0,0,0,0,0,1,1,1,1,1] [[(7000,.box 94 [E3 d.1.ship.Columns,E7 d.1.ship.Covers,I64 d.1.ship.Light.Kilos,I64 d.1.ship.Light.X,I64 d.1.ship.Light.Y,I64 d.1.ship.Light.Z,E4 d.1.ship.Rows,E5 d.1.ship.Frames,E6 d.1.ship.Tanks,I64 d.1.ship.G8.Tolerance,I64 d.1.ship.G8.Trim,I64 d.1.ship.G8.List_,I64 d.1.ship.G8.Stability,.mp 7001,.mp 7002,.mp 7003,I64 d.1.lifts]),(7001,TP 90 Slot.kv Box.av d.1.on),(7002,TP 91 Ks Box.av d.1.quay),(7003,TP 92 Ks I64 d.1.open_)],[(7100,.box 94 [E3 a.1.ship.Columns,E7 a.1.ship.Covers,I64 a.1.ship.Light.Kilos,I64 a.1.ship.Light.X,I64 a.1.ship.Light.Y,I64 a.1.ship.Light.Z,E4 a.1.ship.Rows,E5 a.1.ship.Frames,E6 a.1.ship.Tanks,I64 a.1.ship.G8.Tolerance,I64 a.1.ship.G8.Trim,I64 a.1.ship.G8.List_,I64 a.1.ship.G8.Stability,.mp 7101,.mp 7102,.mp 7103,I64 a.1.lifts]),(7101,TP 90 Slot.kv Box.av a.1.on),(7102,TP 91 Ks Box.av a.1.quay),(7103,TP 92 Ks I64 a.1.open_),(7000,.box 94 [E3 d.1.ship.Columns,E7 d.1.ship.Covers,I64 d.1.ship.Light.Kilos,I64 d.1.ship.Light.X,I64 d.1.ship.Light.Y,I64 d.1.ship.Light.Z,E4 d.1.ship.Rows,E5 d.1.ship.Frames,E6 d.1.ship.Tanks,I64 d.1.ship.G8.Tolerance,I64 d.1.ship.G8.Trim,I64 d.1.ship.G8.List_,I64 d.1.ship.G8.Stability,.mp 7001,.mp 7002,.mp 7003,I64 d.1.lifts]),(7001,TP 90 Slot.kv Box.av d.1.on),(7002,TP 91 Ks Box.av d.1.quay),(7003,TP 92 Ks I64 d.1.open_)]] J1 (by kernel_rfl) rfl rfl ?_
    refine Gc (u:=.agg (Gj.cs i.1)) O O ⟨Gf (Gm J8 O O O) O,ø⟩ ?_
    refine Gc (u:=E8 i.2.1) O O ⟨Gf (G5 O O) O,ø⟩ ?_
    refine Gc (u:=E1 o) O O ⟨Gf (G5 O O) O,ø⟩ ?_
    refine Gc (u:=E1 l) O O ⟨Gf (G5 O O) O,ø⟩ ?_
    refine Gc (u:=E1 o) O O ⟨Gf (G5 O O) O,ø⟩ ?_
    refine Gc (u:=E2 a7) O O ⟨Gf (Gu O (Yp l o a7 f1) H93 ⟨O,O,O,O,ø⟩) O,ø⟩ ?_
    refine D_w (u:=.tup [.ptr 7100 0,I64 a.2]) O O O O (Gf (Y1 (args:=[.agg (Gj.cs i.1),E8 i.2.1,E1 o,E2 a7]) (L0:=[]) (Lr:=[(7100,.box 94 [E3 a.1.ship.Columns,E7 a.1.ship.Covers,I64 a.1.ship.Light.Kilos,I64 a.1.ship.Light.X,I64 a.1.ship.Light.Y,I64 a.1.ship.Light.Z,E4 a.1.ship.Rows,E5 a.1.ship.Frames,E6 a.1.ship.Tanks,I64 a.1.ship.G8.Tolerance,I64 a.1.ship.G8.Trim,I64 a.1.ship.G8.List_,I64 a.1.ship.G8.Stability,.mp 7101,.mp 7102,.mp 7103,I64 a.1.lifts]),(7101,TP 90 Slot.kv Box.av a.1.on),(7102,TP 91 Ks Box.av a.1.quay),(7103,TP 92 Ks I64 a.1.open_)]) O (Hx.sw (Gdf i.1 i.2.1 o a7 a f2) O O O O) H94 ⟨.inl O,O,.inl O,O,.inl O,O,.inl O,O,ø⟩ ø O O O) O) ?_
    refine Gc (u:=.tup [.ptr 7100 0,I64 a.2]) O O ⟨Gf (G5 O O) O,ø⟩ ?_
    refine Gc (u:=.ptr 7100 0) O O ⟨Gf (Gv O O O) O,ø⟩ ?_
    refine Gc (u:=I64 a.2) O O ⟨Gf (Gv O O O) O,ø⟩ ?_
    refine Gc (u:=.ptr 7100 0) O O ⟨Gf (G7 O O) O,ø⟩ ?_
    refine Gc (u:=I64 a.2) O O ⟨Gf (G7 O O) O,ø⟩ ?_
    refine R4 ?_
    refine f0 ?_
    refine Js fun f3=>?_
    refine Jr fun f4=>?_
    refine JLm (I64 d.2) O ?_
    refine JLm (I64 a.2) O ?_
    obtain⟨c8,f5,h⟩:=Ht h
    refine JLg (I64 c8) (J3 f5 O O O) ?_
    refine JLg (BL (decide (c8≠0))) (G8e O O O) ?_
    refine G6 (f4 ?_)
    refine JCc O h ?_ ?_<;>intro h hb
    ·
     refine Jr fun f6=>?_
     refine JLm (BL false) O ?_
     refine G6 (f6 ?_)
     refine Gs ?_
     exact fin1 BL h
    ·
     refine Gk ?_
     refine f3 ?_
     refine Js fun f7=>?_
     refine Qn (l':=[(16,E1 l),(17,E9 e.1),(19,I64 m),(20,.ptr 7000 0),(22,.ptr 7100 0)]) (L':=[(7000,.box 94 [E3 d.1.ship.Columns,E7 d.1.ship.Covers,I64 d.1.ship.Light.Kilos,I64 d.1.ship.Light.X,I64 d.1.ship.Light.Y,I64 d.1.ship.Light.Z,E4 d.1.ship.Rows,E5 d.1.ship.Frames,E6 d.1.ship.Tanks,I64 d.1.ship.G8.Tolerance,I64 d.1.ship.G8.Trim,I64 d.1.ship.G8.List_,I64 d.1.ship.G8.Stability,.mp 7001,.mp 7002,.mp 7003,I64 d.1.lifts]),(7001,TP 90 Slot.kv Box.av d.1.on),(7002,TP 91 Ks Box.av d.1.quay),(7003,TP 92 Ks I64 d.1.open_),(7100,.box 94 [E3 a.1.ship.Columns,E7 a.1.ship.Covers,I64 a.1.ship.Light.Kilos,I64 a.1.ship.Light.X,I64 a.1.ship.Light.Y,I64 a.1.ship.Light.Z,E4 a.1.ship.Rows,E5 a.1.ship.Frames,E6 a.1.ship.Tanks,I64 a.1.ship.G8.Tolerance,I64 a.1.ship.G8.Trim,I64 a.1.ship.G8.List_,I64 a.1.ship.G8.Stability,.mp 7101,.mp 7102,.mp 7103,I64 a.1.lifts]),(7101,TP 90 Slot.kv Box.av a.1.on),(7102,TP 91 Ks Box.av a.1.quay),(7103,TP 92 Ks I64 a.1.open_)]) ⟨(.sm O O),⟨fbQ O (.sm O O),fmQ O,fmQ O,fmQ O,fbQ O (.sm O O),fmQ O,fmQ O,fmQ O,ø⟩,rfl⟩ ?_
     obtain⟨a8,b2,h⟩:=Gd h
     obtain⟨j4,f8,h⟩:=Ht h
     obtain⟨a9,f9,h⟩:=Gd h
     obtain⟨b0,g0,h⟩:=Gd h
     obtain⟨c,g1,h⟩:=Gd h
     refine Jm [10] [0,0,0,0,0,0,0,0,0,0,0,1,1,1,1] [0,0,0,0,0,0,0,0,0,0,0,1,1,1,1] [[(7000,.box 94 [E3 d.1.ship.Columns,E7 d.1.ship.Covers,I64 d.1.ship.Light.Kilos,I64 d.1.ship.Light.X,I64 d.1.ship.Light.Y,I64 d.1.ship.Light.Z,E4 d.1.ship.Rows,E5 d.1.ship.Frames,E6 d.1.ship.Tanks,I64 d.1.ship.G8.Tolerance,I64 d.1.ship.G8.Trim,I64 d.1.ship.G8.List_,I64 d.1.ship.G8.Stability,.mp 7001,.mp 7002,.mp 7003,I64 d.1.lifts]),(7001,TP 90 Slot.kv Box.av d.1.on),(7002,TP 91 Ks Box.av d.1.quay),(7003,TP 92 Ks I64 d.1.open_),(7100,.box 94 [E3 a.1.ship.Columns,E7 a.1.ship.Covers,I64 a.1.ship.Light.Kilos,I64 a.1.ship.Light.X,I64 a.1.ship.Light.Y,I64 a.1.ship.Light.Z,E4 a.1.ship.Rows,E5 a.1.ship.Frames,E6 a.1.ship.Tanks,I64 a.1.ship.G8.Tolerance,I64 a.1.ship.G8.Trim,I64 a.1.ship.G8.List_,I64 a.1.ship.G8.Stability,.mp 7101,.mp 7102,.mp 7103,I64 a.1.lifts]),(7101,TP 90 Slot.kv Box.av a.1.on),(7102,TP 91 Ks Box.av a.1.quay),(7103,TP 92 Ks I64 a.1.open_)],[(7000,.box 94 [E3 c.2.2.ship.Columns,E7 c.2.2.ship.Covers,I64 c.2.2.ship.Light.Kilos,I64 c.2.2.ship.Light.X,I64 c.2.2.ship.Light.Y,I64 c.2.2.ship.Light.Z,E4 c.2.2.ship.Rows,E5 c.2.2.ship.Frames,E6 c.2.2.ship.Tanks,I64 c.2.2.ship.G8.Tolerance,I64 c.2.2.ship.G8.Trim,I64 c.2.2.ship.G8.List_,I64 c.2.2.ship.G8.Stability,.mp 7001,.mp 7002,.mp 7003,I64 c.2.2.lifts]),(7001,TP 90 Slot.kv Box.av c.2.2.on),(7002,TP 91 Ks Box.av c.2.2.quay),(7003,TP 92 Ks I64 c.2.2.open_),(7100,.box 94 [E3 a.1.ship.Columns,E7 a.1.ship.Covers,I64 a.1.ship.Light.Kilos,I64 a.1.ship.Light.X,I64 a.1.ship.Light.Y,I64 a.1.ship.Light.Z,E4 a.1.ship.Rows,E5 a.1.ship.Frames,E6 a.1.ship.Tanks,I64 a.1.ship.G8.Tolerance,I64 a.1.ship.G8.Trim,I64 a.1.ship.G8.List_,I64 a.1.ship.G8.Stability,.mp 7101,.mp 7102,.mp 7103,I64 a.1.lifts]),(7101,TP 90 Slot.kv Box.av a.1.on),(7102,TP 91 Ks Box.av a.1.quay),(7103,TP 92 Ks I64 a.1.open_)]] J1 (by kernel_rfl) rfl rfl ?_
     refine Gc (u:=.ptr 7000 0) O O ⟨Gf (G5 O O) O,ø⟩ ?_
     refine Gc (u:=E9 e.1) O O ⟨Gf (G5 O O) O,ø⟩ ?_
     refine Gc (u:=I64 m) O O ⟨Gf (G5 O O) O,ø⟩ ?_
     refine Gc (u:=E9 (e.1.take a8)) O O ⟨Gf (J2c (f:=Move.av) (xs:=e.1) O O O Jp (H36 b2)) O,ø⟩ ?_
     refine Gc (u:=E9 e.1) O O ⟨Gf (G5 O O) O,ø⟩ ?_
     refine Gc (u:=I64 m) O O ⟨Gf (G5 O O) O,ø⟩ ?_
     refine Gc (u:=I64 j4) O O ⟨Gf (J3 f8 O O O) O,ø⟩ ?_
     refine Gc (u:=E9 (e.1.drop a9)) O O ⟨Gf (Y77 (f:=Move.av) (xs:=e.1) O O O Jp (H36 f9)) O,ø⟩ ?_
     refine Gc (u:=LS 1 (E9) [(e.1.take a8),(e.1.drop a9)]) O O ⟨Gf (He (xs:=[E9 (e.1.take a8),E9 (e.1.drop a9)]) O ⟨O,O,O,O,ø⟩ H09 R99 O O O O) O,ø⟩ ?_
     refine Gc (u:=E9 b0) O O ⟨Gf (Gu O (Hba [(e.1.take a8),(e.1.drop a9)] b0 g0) Y3b ⟨O,O,ø⟩) O,ø⟩ ?_
     refine D_w (u:=.tup [I64 c.1,I64 c.2.1]) O O O O (Gf (Y1 (args:=[.ptr 7000 0,E9 b0]) (L0:=[(7000,.box 94 [E3 d.1.ship.Columns,E7 d.1.ship.Covers,I64 d.1.ship.Light.Kilos,I64 d.1.ship.Light.X,I64 d.1.ship.Light.Y,I64 d.1.ship.Light.Z,E4 d.1.ship.Rows,E5 d.1.ship.Frames,E6 d.1.ship.Tanks,I64 d.1.ship.G8.Tolerance,I64 d.1.ship.G8.Trim,I64 d.1.ship.G8.List_,I64 d.1.ship.G8.Stability,.mp 7001,.mp 7002,.mp 7003,I64 d.1.lifts]),(7001,TP 90 Slot.kv Box.av d.1.on),(7002,TP 91 Ks Box.av d.1.quay),(7003,TP 92 Ks I64 d.1.open_)]) (Lr:=[(7000,.box 94 [E3 c.2.2.ship.Columns,E7 c.2.2.ship.Covers,I64 c.2.2.ship.Light.Kilos,I64 c.2.2.ship.Light.X,I64 c.2.2.ship.Light.Y,I64 c.2.2.ship.Light.Z,E4 c.2.2.ship.Rows,E5 c.2.2.ship.Frames,E6 c.2.2.ship.Tanks,I64 c.2.2.ship.G8.Tolerance,I64 c.2.2.ship.G8.Trim,I64 c.2.2.ship.G8.List_,I64 c.2.2.ship.G8.Stability,.mp 7001,.mp 7002,.mp 7003,I64 c.2.2.lifts]),(7001,TP 90 Slot.kv Box.av c.2.2.on),(7002,TP 91 Ks Box.av c.2.2.quay),(7003,TP 92 Ks I64 c.2.2.open_)]) O (H41 d.1 b0 c g1) Jb6 ⟨.inl O,O,.inl O,O,ø⟩ ⟨O,O,O,O,ø⟩ O O O) O) ?_
     refine Gc (u:=.tup [I64 c.1,I64 c.2.1]) O O ⟨Gf (G5 O O) O,ø⟩ ?_
     refine Gc (u:=I64 c.1) O O ⟨Gf (Gv O O O) O,ø⟩ ?_
     refine Gc (u:=I64 c.2.1) O O ⟨Gf (Gv O O O) O,ø⟩ ?_
     refine Gc (u:=I64 c.2.1) O O ⟨Gf (G7 O O) O,ø⟩ ?_
     refine R4 ?_
     refine f7 ?_
     refine Js fun g2=>?_
     refine Jr fun g3=>?_
     refine JLm (I64 c.2.1) O ?_
     refine JLg (BL (decide (c.2.1=0))) (Qg O O O) ?_
     refine JLm (BL (decide (c.2.1=0))) O ?_
     refine JLo (.ptr 7000 0) [] O .sct ø (fun hc=>G5 O O) O ?_
     obtain⟨t,g4,h⟩:=Gd h
     refine JLo (E2 t) [117] O .sct ⟨Ua,ø⟩ (fun hc=>G0a (args:=[.dptr (Ge.cs c.2.2)]) (g:=I64) (r:=t) O (Gc7 c.2.2 t (H2 hc g4)) J0d ⟨.ptrL O (dnQ 13 O O ⟨.mp O,.mp O,.mp O,.data O O,ø⟩),ø⟩ (fun _=>O)) O ?_
     refine JLo (Em t.length) [118] O .sct ⟨Ua,ø⟩ (fun hc=>Gf6 (f:=I64) (xs:=t) H3 O O) O ?_
     refine JLo (BL (decide ((t.length:Int)=0))) [119] O .sct ⟨Ua,ø⟩ (fun hc=>Qg O O O) O ?_
     refine JLg (BL ((decide (c.2.1=0))&&(decide ((t.length:Int)=0)))) (Ri O O O O) ?_
     refine JLm (BL ((decide (c.2.1=0))&&(decide ((t.length:Int)=0)))) O ?_
     refine JLo (.ptr 7000 0) [] O .sct ø (fun hc=>G5 O O) O ?_
     obtain⟨a4,g5,h⟩:=Gd h
     refine JLo (E1 a4) [123] O .sct ⟨Ua,ø⟩ (fun hc=>G0a (args:=[.dptr (Ge.cs c.2.2)]) (g:=G1.av) (r:=a4) O (G9f.down c.2.2 a4 (H2 hc g5)) J0e ⟨.ptrL O (dnQ 13 O O ⟨.mp O,.mp O,.mp O,.data O O,ø⟩),ø⟩ (fun _=>O)) O ?_
     refine JLo (E1 l) [] O .sct ø (fun hc=>G5 O O) O ?_
     obtain⟨b5,g6,h⟩:=Gd h
     refine JLo (BL b5) [124,125] O .sct ⟨Ua,Ua,ø⟩ (fun hc=>Gu (args:=[E1 a4,E1 l]) O (Z5 a4 l b5 (H2 hc g6)) J0f ⟨O,O,O,O,ø⟩) O ?_
     refine JLg (BL (((decide (c.2.1=0))&&(decide ((t.length:Int)=0)))&&b5)) (Ri O O O O) ?_
     refine G6 (g3 ?_)
     refine JCc O h ?_ ?_<;>intro h hb
     ·
      refine Jr fun g7=>?_
      refine JLm (BL false) O ?_
      refine G6 (g7 ?_)
      refine Gs ?_
      exact fin1 BL h
     ·
      refine Gk ?_
      refine g2 ?_
      refine Jr fun g8=>?_
      refine JLm (E9 e.1) O ?_
      obtain⟨k,g9,h⟩:=Gd h
      refine Rn O O O (G8f (args:=[E9 e.1]) (L0:=[]) (u:=fun p=>.vec 1034 p 6 k.length) (Lr:=fun p=>[(1034,.vec 59 6 p (k.map Move.av))]) O (He4 e.1 k g9) Y3a ⟨.inl O,O,ø⟩ ø O (fun _=>O)) ?_
      rintro u_ L_ ⟨n,rfl,rfl⟩
      refine JLm (.vec 1034 n 6 k.length) O ?_
      refine G6 (g8 ?_)
      obtain⟨h0,c3,h⟩:=Rc h
      refine Qk (fun v:(List Move)=>h0 v=some r) (fun v=>[(16,E1 l),(17,E9 e.1),(22,.ptr 7100 0),(24,.vec 1034 n 6 k.length)]) (fun v=>[(7000,.box 94 [E3 c.2.2.ship.Columns,E7 c.2.2.ship.Covers,I64 c.2.2.ship.Light.Kilos,I64 c.2.2.ship.Light.X,I64 c.2.2.ship.Light.Y,I64 c.2.2.ship.Light.Z,E4 c.2.2.ship.Rows,E5 c.2.2.ship.Frames,E6 c.2.2.ship.Tanks,I64 c.2.2.ship.G8.Tolerance,I64 c.2.2.ship.G8.Trim,I64 c.2.2.ship.G8.List_,I64 c.2.2.ship.G8.Stability,.mp 7001,.mp 7002,.mp 7003,I64 c.2.2.lifts]),(7001,TP 90 Slot.kv Box.av c.2.2.on),(7002,TP 91 Ks Box.av c.2.2.quay),(7003,TP 92 Ks I64 c.2.2.open_),(7101,TP 90 Slot.kv Box.av a.1.on),(7102,TP 91 Ks Box.av a.1.quay),(7103,TP 92 Ks I64 a.1.open_),(1034,.vec 59 6 n (v.map Move.av)),(7100,.box 94 [E3 a.1.ship.Columns,E7 a.1.ship.Covers,I64 a.1.ship.Light.Kilos,I64 a.1.ship.Light.X,I64 a.1.ship.Light.Y,I64 a.1.ship.Light.Z,E4 a.1.ship.Rows,E5 a.1.ship.Frames,E6 a.1.ship.Tanks,I64 a.1.ship.G8.Tolerance,I64 a.1.ship.G8.Trim,I64 a.1.ship.G8.List_,I64 a.1.ship.G8.Stability,.mp 7101,.mp 7102,.mp 7103,I64 a.1.lifts])]) (fun Kj53 ej53=>?_) ?_
      ·
       refine Jr fun h1=>?_
       refine JLm (I64 m) O ?_
       obtain⟨c9,h2,h⟩:=Ht h
       refine JLg (I64 c9) (J3 h2 O O O) ?_
       refine JLm (E9 e.1) O ?_
       refine JLl Jp O O O fun j7=>?_
       refine JLg (BL (decide (c9 < (e.1.length:Int)))) (Jn O O O) ?_
       refine G6 (h1 ?_)
       refine JCc O h ?_ ?_<;>intro h hb
       ·
        refine Qn (l':=[(16,E1 l),(17,E9 e.1),(19,I64 m),(22,.ptr 7100 0),(24,.vec 1034 n 6 k.length)]) (L':=[(7000,.box 94 [E3 c.2.2.ship.Columns,E7 c.2.2.ship.Covers,I64 c.2.2.ship.Light.Kilos,I64 c.2.2.ship.Light.X,I64 c.2.2.ship.Light.Y,I64 c.2.2.ship.Light.Z,E4 c.2.2.ship.Rows,E5 c.2.2.ship.Frames,E6 c.2.2.ship.Tanks,I64 c.2.2.ship.G8.Tolerance,I64 c.2.2.ship.G8.Trim,I64 c.2.2.ship.G8.List_,I64 c.2.2.ship.G8.Stability,.mp 7001,.mp 7002,.mp 7003,I64 c.2.2.lifts]),(7001,TP 90 Slot.kv Box.av c.2.2.on),(7002,TP 91 Ks Box.av c.2.2.quay),(7003,TP 92 Ks I64 c.2.2.open_),(7100,.box 94 [E3 a.1.ship.Columns,E7 a.1.ship.Covers,I64 a.1.ship.Light.Kilos,I64 a.1.ship.Light.X,I64 a.1.ship.Light.Y,I64 a.1.ship.Light.Z,E4 a.1.ship.Rows,E5 a.1.ship.Frames,E6 a.1.ship.Tanks,I64 a.1.ship.G8.Tolerance,I64 a.1.ship.G8.Trim,I64 a.1.ship.G8.List_,I64 a.1.ship.G8.Stability,.mp 7101,.mp 7102,.mp 7103,I64 a.1.lifts]),(7101,TP 90 Slot.kv Box.av a.1.on),(7102,TP 91 Ks Box.av a.1.quay),(7103,TP 92 Ks I64 a.1.open_),(1034,.vec 59 6 n (k.map Move.av))]) ⟨(.sm O O),⟨fbQ O (.sm O O),fmQ O,fmQ O,fmQ O,fbQ O (.sm O O),fmQ O,fmQ O,fmQ O,⟨_,rfl,.vec⟩,ø⟩,rfl⟩ ?_
        obtain⟨b1,b6,h⟩:=Ht h
        obtain⟨d0,h3,h⟩:=Ht h
        obtain⟨s,c4,b7,h⟩:=G33 h
        obtain⟨a0,c5,b8,h⟩:=G33 h
        obtain⟨j5,c6,b9,h⟩:=G33 h
        obtain⟨j6,c7,c0,h⟩:=G33 h
        refine Jm [15,17] [0,0,0,0,0,0,0,0,0,0,0,0,0,0,0,0,1,0] [0,0,1,1,1,0,0,0,0,0,0,0,0,0,0,0,1,0] [[(7000,.box 94 [E3 c.2.2.ship.Columns,E7 c.2.2.ship.Covers,I64 c.2.2.ship.Light.Kilos,I64 c.2.2.ship.Light.X,I64 c.2.2.ship.Light.Y,I64 c.2.2.ship.Light.Z,E4 c.2.2.ship.Rows,E5 c.2.2.ship.Frames,E6 c.2.2.ship.Tanks,I64 c.2.2.ship.G8.Tolerance,I64 c.2.2.ship.G8.Trim,I64 c.2.2.ship.G8.List_,I64 c.2.2.ship.G8.Stability,.mp 7001,.mp 7002,.mp 7003,I64 c.2.2.lifts]),(7001,TP 90 Slot.kv Box.av c.2.2.on),(7002,TP 91 Ks Box.av c.2.2.quay),(7003,TP 92 Ks I64 c.2.2.open_),(7100,.box 94 [E3 a.1.ship.Columns,E7 a.1.ship.Covers,I64 a.1.ship.Light.Kilos,I64 a.1.ship.Light.X,I64 a.1.ship.Light.Y,I64 a.1.ship.Light.Z,E4 a.1.ship.Rows,E5 a.1.ship.Frames,E6 a.1.ship.Tanks,I64 a.1.ship.G8.Tolerance,I64 a.1.ship.G8.Trim,I64 a.1.ship.G8.List_,I64 a.1.ship.G8.Stability,.mp 7101,.mp 7102,.mp 7103,I64 a.1.lifts]),(7101,TP 90 Slot.kv Box.av a.1.on),(7102,TP 91 Ks Box.av a.1.quay),(7103,TP 92 Ks I64 a.1.open_),(1034,.vec 59 6 n (k.map Move.av))],((1034,.vec 59 6 n ((k.set m.toNat s).map Move.av))::[(7000,.box 94 [E3 c.2.2.ship.Columns,E7 c.2.2.ship.Covers,I64 c.2.2.ship.Light.Kilos,I64 c.2.2.ship.Light.X,I64 c.2.2.ship.Light.Y,I64 c.2.2.ship.Light.Z,E4 c.2.2.ship.Rows,E5 c.2.2.ship.Frames,E6 c.2.2.ship.Tanks,I64 c.2.2.ship.G8.Tolerance,I64 c.2.2.ship.G8.Trim,I64 c.2.2.ship.G8.List_,I64 c.2.2.ship.G8.Stability,.mp 7001,.mp 7002,.mp 7003,I64 c.2.2.lifts]),(7001,TP 90 Slot.kv Box.av c.2.2.on),(7002,TP 91 Ks Box.av c.2.2.quay),(7003,TP 92 Ks I64 c.2.2.open_),(7100,.box 94 [E3 a.1.ship.Columns,E7 a.1.ship.Covers,I64 a.1.ship.Light.Kilos,I64 a.1.ship.Light.X,I64 a.1.ship.Light.Y,I64 a.1.ship.Light.Z,E4 a.1.ship.Rows,E5 a.1.ship.Frames,E6 a.1.ship.Tanks,I64 a.1.ship.G8.Tolerance,I64 a.1.ship.G8.Trim,I64 a.1.ship.G8.List_,I64 a.1.ship.G8.Stability,.mp 7101,.mp 7102,.mp 7103,I64 a.1.lifts]),(7101,TP 90 Slot.kv Box.av a.1.on),(7102,TP 91 Ks Box.av a.1.quay),(7103,TP 92 Ks I64 a.1.open_),(1034,.vec 59 6 n (k.map Move.av))]),((1034,.vec 59 6 n (((k.set m.toNat s).set b1.toNat a0).map Move.av))::((1034,.vec 59 6 n ((k.set m.toNat s).map Move.av))::[(7000,.box 94 [E3 c.2.2.ship.Columns,E7 c.2.2.ship.Covers,I64 c.2.2.ship.Light.Kilos,I64 c.2.2.ship.Light.X,I64 c.2.2.ship.Light.Y,I64 c.2.2.ship.Light.Z,E4 c.2.2.ship.Rows,E5 c.2.2.ship.Frames,E6 c.2.2.ship.Tanks,I64 c.2.2.ship.G8.Tolerance,I64 c.2.2.ship.G8.Trim,I64 c.2.2.ship.G8.List_,I64 c.2.2.ship.G8.Stability,.mp 7001,.mp 7002,.mp 7003,I64 c.2.2.lifts]),(7001,TP 90 Slot.kv Box.av c.2.2.on),(7002,TP 91 Ks Box.av c.2.2.quay),(7003,TP 92 Ks I64 c.2.2.open_),(7100,.box 94 [E3 a.1.ship.Columns,E7 a.1.ship.Covers,I64 a.1.ship.Light.Kilos,I64 a.1.ship.Light.X,I64 a.1.ship.Light.Y,I64 a.1.ship.Light.Z,E4 a.1.ship.Rows,E5 a.1.ship.Frames,E6 a.1.ship.Tanks,I64 a.1.ship.G8.Tolerance,I64 a.1.ship.G8.Trim,I64 a.1.ship.G8.List_,I64 a.1.ship.G8.Stability,.mp 7101,.mp 7102,.mp 7103,I64 a.1.lifts]),(7101,TP 90 Slot.kv Box.av a.1.on),(7102,TP 91 Ks Box.av a.1.quay),(7103,TP 92 Ks I64 a.1.open_),(1034,.vec 59 6 n (k.map Move.av))]))] J1 (by kernel_rfl) rfl rfl ?_
        refine Gc (u:=.vec 1034 n 6 k.length) O O ⟨Gf (G5 O O) O,ø⟩ ?_
        refine Gc (u:=I64 m) O O ⟨Gf (G5 O O) O,ø⟩ ?_
        refine Gc (u:=.vec 1034 n 6 k.length) O O ⟨Gf (G5 O O) O,Gf (G5 O O) O,ø⟩ ?_
        refine Gc (u:=I64 m) O O ⟨Gf (G5 O O) O,Gf (G5 O O) O,ø⟩ ?_
        refine Gc (u:=I64 b1) O O ⟨Gf (J3 b6 O O O) O,Gf (J3 b6 O O O) O,ø⟩ ?_
        refine Gc (u:=.vec 1034 n 6 k.length) O O ⟨Gf (G5 O O) O,ø⟩ ?_
        refine Gc (u:=I64 m) O O ⟨Gf (G5 O O) O,ø⟩ ?_
        refine Gc (u:=I64 d0) O O ⟨Gf (J3 h3 O O O) O,ø⟩ ?_
        refine Gc (u:=.vptr 1034 n d0.toNat 0) O O ⟨Gf (G53 (f:=Move.av) (xs:=k) (y:=s) O O O O Jp b7 c4) O,ø⟩ ?_
        refine Gc (u:=.agg (Move.cs s)) O O ⟨Gf (H05 (f:=Move.av) (xs:=k) (y:=s) G65 O O O b7 O O) O,ø⟩ ?_
        refine Gc (u:=.vec 1034 n 6 k.length) O O ⟨Gf (G5 O O) O,ø⟩ ?_
        refine Gc (u:=I64 m) O O ⟨Gf (G5 O O) O,ø⟩ ?_
        refine Gc (u:=.vptr 1034 n m.toNat 0) O O ⟨Gf (G53 (f:=Move.av) (xs:=k) (y:=a0) O O O O Jp b8 c5) O,ø⟩ ?_
        refine Gc (u:=.agg (Move.cs a0)) O O ⟨Gf (H05 (f:=Move.av) (xs:=k) (y:=a0) G65 O O O b8 O O) O,ø⟩ ?_
        refine Gc (u:=.vptr 1034 n m.toNat 0) O O ⟨Gf (G53 (f:=Move.av) (xs:=k) (y:=j5) O O O O Jp b9 c6) O,ø⟩ ?_
        refine H22 (u:=.junk) O O O O (Gf (H86 (f:=Move.av) (xs:=k) (z:=s) H8b O O O O (M6 b9).1 O O O O) O) ?_
        refine Gc (u:=.vptr 1034 n b1.toNat 0) O O ⟨Gf (G53 (f:=Move.av) (xs:=(k.set m.toNat s)) (y:=j6) O O O O Jp c0 c7) O,ø⟩ ?_
        refine H22 (u:=.junk) O O O O (Gf (H86 (f:=Move.av) (xs:=(k.set m.toNat s)) (z:=a0) H8b O O O O (M6 c0).1 O O O O) O) ?_
        refine R4 ?_
        exact ej53 _ _ ((k.set m.toNat s).set b1.toNat a0) h ⟨(.sm O O),⟨fbQ O (.sm O O),fmQ O,fmQ O,fmQ O,fmQ O,fmQ O,fmQ O,⟨_,rfl,.vec⟩,fbQ O (.sm O O),ø⟩,rfl⟩
       ·
        refine Gk ?_
        exact ej53 _ _ k h ⟨(.sm O O),⟨fbQ O (.sm O O),fmQ O,fmQ O,fmQ O,fmQ O,fmQ O,fmQ O,⟨_,rfl,.vec⟩,fbQ O (.sm O O),ø⟩,rfl⟩
      ·intro v h
       replace h:=app1 c3 h
       refine Jr fun h4=>?_
       refine JLm (.ptr 7100 0) O ?_
       refine JLm (.vec 1034 n 6 k.length) O ?_
       refine Jce [(16,E1 l),(17,E9 e.1),(22,.ptr 7100 0),(24,E9 v),(152,.ptr 7100 0),(153,E9 v)] [(7000,.box 94 [E3 c.2.2.ship.Columns,E7 c.2.2.ship.Covers,I64 c.2.2.ship.Light.Kilos,I64 c.2.2.ship.Light.X,I64 c.2.2.ship.Light.Y,I64 c.2.2.ship.Light.Z,E4 c.2.2.ship.Rows,E5 c.2.2.ship.Frames,E6 c.2.2.ship.Tanks,I64 c.2.2.ship.G8.Tolerance,I64 c.2.2.ship.G8.Trim,I64 c.2.2.ship.G8.List_,I64 c.2.2.ship.G8.Stability,.mp 7001,.mp 7002,.mp 7003,I64 c.2.2.lifts]),(7001,TP 90 Slot.kv Box.av c.2.2.on),(7002,TP 91 Ks Box.av c.2.2.quay),(7003,TP 92 Ks I64 c.2.2.open_),(7101,TP 90 Slot.kv Box.av a.1.on),(7102,TP 91 Ks Box.av a.1.quay),(7103,TP 92 Ks I64 a.1.open_),(7100,.box 94 [E3 a.1.ship.Columns,E7 a.1.ship.Covers,I64 a.1.ship.Light.Kilos,I64 a.1.ship.Light.X,I64 a.1.ship.Light.Y,I64 a.1.ship.Light.Z,E4 a.1.ship.Rows,E5 a.1.ship.Frames,E6 a.1.ship.Tanks,I64 a.1.ship.G8.Tolerance,I64 a.1.ship.G8.Trim,I64 a.1.ship.G8.List_,I64 a.1.ship.G8.Stability,.mp 7101,.mp 7102,.mp 7103,I64 a.1.lifts])] 1034 rfl rfl ⟨⟨_,rfl,.boxEq rfl rfl⟩,fmQ O,fmQ O,fmQ O,fmQ O,fmQ O,fmQ O,⟨_,rfl,.boxEq rfl rfl⟩,ø⟩ rfl (by exact⟨.conv (.same rfl),.conv (.same rfl),.conv (.same rfl),.vec,.conv (.same rfl),.vec,ø⟩) ?_
       obtain⟨j,h5,h⟩:=Gd h
       refine JLg (.tup [I64 j.1,I64 j.2.1]) (Y1 (args:=[.ptr 7100 0,E9 v]) (L0:=[(7100,.box 94 [E3 a.1.ship.Columns,E7 a.1.ship.Covers,I64 a.1.ship.Light.Kilos,I64 a.1.ship.Light.X,I64 a.1.ship.Light.Y,I64 a.1.ship.Light.Z,E4 a.1.ship.Rows,E5 a.1.ship.Frames,E6 a.1.ship.Tanks,I64 a.1.ship.G8.Tolerance,I64 a.1.ship.G8.Trim,I64 a.1.ship.G8.List_,I64 a.1.ship.G8.Stability,.mp 7101,.mp 7102,.mp 7103,I64 a.1.lifts]),(7101,TP 90 Slot.kv Box.av a.1.on),(7102,TP 91 Ks Box.av a.1.quay),(7103,TP 92 Ks I64 a.1.open_)]) (Lr:=[(7100,.box 94 [E3 j.2.2.ship.Columns,E7 j.2.2.ship.Covers,I64 j.2.2.ship.Light.Kilos,I64 j.2.2.ship.Light.X,I64 j.2.2.ship.Light.Y,I64 j.2.2.ship.Light.Z,E4 j.2.2.ship.Rows,E5 j.2.2.ship.Frames,E6 j.2.2.ship.Tanks,I64 j.2.2.ship.G8.Tolerance,I64 j.2.2.ship.G8.Trim,I64 j.2.2.ship.G8.List_,I64 j.2.2.ship.G8.Stability,.mp 7101,.mp 7102,.mp 7103,I64 j.2.2.lifts]),(7101,TP 90 Slot.kv Box.av j.2.2.on),(7102,TP 91 Ks Box.av j.2.2.quay),(7103,TP 92 Ks I64 j.2.2.open_)]) O (Hx.sw (H41 a.1 v j h5) O O O O) Jb6 ⟨.inl O,O,.inl O,O,ø⟩ ⟨O,O,O,O,ø⟩ O O O) ?_
       refine JLm (.tup [I64 j.1,I64 j.2.1]) O ?_
       refine JLg (I64 j.1) (Gv O O O) ?_
       refine JLg (I64 j.2.1) (Gv O O O) ?_
       refine JLm (I64 j.2.1) O ?_
       refine G6 (h4 ?_)
       refine Jr fun h6=>?_
       refine JLm (I64 j.2.1) O ?_
       refine JLg (BL (decide (j.2.1≠0))) (G8e O O O) ?_
       refine JLm (BL (decide (j.2.1≠0))) O ?_
       refine JLo (.ptr 7100 0) [] O .scf ø (fun hc=>G5 O O) O ?_
       obtain⟨q,h7,h⟩:=Gd h
       refine JLo (E2 q) [160] O .scf ⟨Ua,ø⟩ (fun hc=>G0a (args:=[.dptr (Ge.cs j.2.2)]) (g:=I64) (r:=q) O (Gc7 j.2.2 q (H2 hc h7)) J0d ⟨.ptrL O (dnQ 13 O O ⟨.mp O,.mp O,.mp O,.data O O,ø⟩),ø⟩ (fun _=>O)) O ?_
       refine JLo (Em q.length) [161] O .scf ⟨Ua,ø⟩ (fun hc=>Gf6 (f:=I64) (xs:=q) H3 O O) O ?_
       refine JLo (BL (decide ((q.length:Int)=0))) [162] O .scf ⟨Ua,ø⟩ (fun hc=>Qg O O O) O ?_
       refine JLo (BL (decide ((q.length:Int)=0))) [163] O .scf ⟨Ua,ø⟩ (fun hc=>G5 O O) O ?_
       refine JLo (.ptr 7100 0) [] O .optt ø (fun hc=>G5 O O) O ?_
       obtain⟨a5,h8,h⟩:=Gd h
       refine JLo (E1 a5) [165] O .optt ⟨Ua,ø⟩ (fun hc=>G0a (args:=[.dptr (Ge.cs j.2.2)]) (g:=G1.av) (r:=a5) O (G9f.down j.2.2 a5 (H2 hc h8)) J0e ⟨.ptrL O (dnQ 13 O O ⟨.mp O,.mp O,.mp O,.data O O,ø⟩),ø⟩ (fun _=>O)) O ?_
       refine JLo (E1 l) [] O .optt ø (fun hc=>G5 O O) O ?_
       obtain⟨w,h9,h⟩:=Gd h
       refine JLo (BL w) [166,167] O .optt ⟨Ua,Ua,ø⟩ (fun hc=>Gu (args:=[E1 a5,E1 l]) O (Z5 a5 l w (H2 hc h9)) J0f ⟨O,O,O,O,ø⟩) O ?_
       refine Gi (u:=BL ((decide ((q.length:Int)=0))&&w)) [(164,BL (decide ((q.length:Int)=0))),(168,_)] O O O .scf ⟨.all id,.part,ø⟩ (fun hc=>Ri O O O O) ?_
       refine JLo (BL ((decide ((q.length:Int)=0))&&w)) [169] O .scf ⟨Ua,ø⟩ (fun hc=>G5 O O) O ?_
       refine JLo (.ptr 7100 0) [] O .optt ø (fun hc=>G5 O O) O ?_
       obtain⟨a1,i0,h⟩:=Gd h
       refine JLo (I64 a1) [171] O .optt ⟨Ua,ø⟩ (fun hc=>G54 (args:=[.dptr (Ge.cs j.2.2)]) O (Ga2 j.2.2 a1 (H2 hc i0)) J10 ⟨.ptrL O (dnQ 13 O O ⟨.mp O,.mp O,.mp O,.data O O,ø⟩),ø⟩ O) O ?_
       refine JLo (E9 e.1) [] O .optt ø (fun hc=>G5 O O) O ?_
       obtain⟨a2,i1,h⟩:=Gd h
       refine JLo (I64 a2) [173] O .optt ⟨Ua,ø⟩ (fun hc=>Gu (args:=[E9 e.1]) O (J39 e.1 a2 (H2 hc i1)) Qb7 ⟨O,O,ø⟩) O ?_
       refine JLo (BL (decide (a1=a2))) [172,174] O .optt ⟨Ua,Ua,ø⟩ (fun hc=>Qg O O O) O ?_
       refine Gi (u:=BL (((decide ((q.length:Int)=0))&&w)&&(decide (a1=a2)))) [(170,BL ((decide ((q.length:Int)=0))&&w)),(175,_)] O O O .scf ⟨.all id,.part,ø⟩ (fun hc=>Ri O O O O) ?_
       refine JLg (BL ((decide (j.2.1≠0))||(((decide ((q.length:Int)=0))&&w)&&(decide (a1=a2))))) (G82 O O O O) ?_
       refine JLm (BL ((decide (j.2.1≠0))||(((decide ((q.length:Int)=0))&&w)&&(decide (a1=a2))))) O ?_
       refine G6 (h6 ?_)
       refine Gs ?_
       exact fin1 BL h
end
end Go.Proofs.YtgcpimpnpcdmmaaGreat
