/- Walks of functions. -/
import Derived.Test.YtokjlondbjdlfaaSpecGr
import Derived.Test.YtokjlondbjdlfaaSpecGr
set_option maxRecDepth 100000
set_option maxHeartbeats 1000000
set_option linter.unusedVariables false
set_option linter.unusedSimpArgs false
namespace Go.Proofs.Ytokjlondbjdlfaa
open Go.RowKit
noncomputable section
structure Gx where
 s:Gw
 from_:Int
 by_:G5
 deriving DecidableEq,Inhabited
def Gx.cs (x:Gx):List AV:=[U8 (x.s.g 0),U8 (x.s.g 1),U8 (x.s.g 2),U8 (x.s.g 3),U8 (x.s.g 4),U8 (x.s.g 5),U8 (x.s.g 6),U8 (x.s.g 7),U8 (x.s.g 8),U8 (x.s.g 9),U8 (x.s.g 10),U8 (x.s.g 11),U8 (x.s.g 12),U8 (x.s.g 13),U8 (x.s.g 14),U8 (x.s.g 15),U8 (x.s.g 16),U8 (x.s.g 17),U8 (x.s.g 18),U8 (x.s.g 19),U8 (x.s.g 20),U8 (x.s.g 21),U8 (x.s.g 22),U8 (x.s.g 23),I64 x.from_,I64 x.by_.From,I64 x.by_.To]
def Gx.av (x:Gx):AV:=.agg x.cs
namespace XCF
open XAF
open XBF
theorem Y19 (a b:Gw):Hde E8 4 77 a.ks b.ks=some (decide (a=b)):=by
 refine(show _=some (((a.g 0==b.g 0)&&((a.g 1==b.g 1)&&((a.g 2==b.g 2)&&((a.g 3==b.g 3)&&((a.g 4==b.g 4)&&((a.g 5==b.g 5)&&(true)))))))&&(((a.g 6==b.g 6)&&((a.g 7==b.g 7)&&((a.g 8==b.g 8)&&((a.g 9==b.g 9)&&((a.g 10==b.g 10)&&((a.g 11==b.g 11)&&(true)))))))&&(((a.g 12==b.g 12)&&((a.g 13==b.g 13)&&((a.g 14==b.g 14)&&((a.g 15==b.g 15)&&((a.g 16==b.g 16)&&((a.g 17==b.g 17)&&(true)))))))&&(((a.g 18==b.g 18)&&((a.g 19==b.g 19)&&((a.g 20==b.g 20)&&((a.g 21==b.g 21)&&((a.g 22==b.g 22)&&((a.g 23==b.g 23)&&(true)))))))&&(true))))) by kernel_rfl).trans (congrArg some ?_)
 rw [Bool.eq_iff_iff]
 simp only [Km,beq_iff_eq,Kn,Bool.and_true]
 constructor
 ·intro h; obtain⟨⟨s,t,u,v,w,x⟩,⟨y,z,h8,h9,c,d⟩,⟨e,f,i,j,k,l⟩,⟨m,n,o,p,q,r⟩⟩:=h; exact Gw.R36 s t u v w x y z h8 h9 c d e f i j k l m n o p q r
 ·intro h; subst h; simp
theorem Q68:Hr E8 39=true:=by kernel_rfl
theorem Q67:Hr E8 41=true:=by kernel_rfl
theorem Q66:Hr E8 42=true:=by kernel_rfl
theorem Q65:Hr E8 43=true:=by kernel_rfl
theorem Q58:Hr E8 71=true:=by kernel_rfl
theorem Q57:Hr E8 74=true:=by kernel_rfl
theorem H23:Qw E8 39 2 16=true:=by kernel_rfl
theorem Q4f:Qw E8 80 27 48=true:=by kernel_rfl
theorem J8d:R2 E8 80 0 0=true:=by kernel_rfl
theorem H8e:R2 E8 80 1 24=true:=by kernel_rfl
theorem J8c:R2 E8 80 2 25=true:=by kernel_rfl
theorem Hf0:Yv E8 78 77 3=true:=by kernel_rfl
theorem Hc4:placesOf E8 80=some [(0,24),(24,1),(25,2)]:=by kernel_rfl
theorem Hc2:Qp E8 78=true:=by kernel_rfl
theorem G28:Qp E8 81=true:=by kernel_rfl
theorem G96:Rx E8 3 1=true:=by kernel_rfl
theorem H96:Rx E8 39 2=true:=by kernel_rfl
theorem Q4a:Rx E8 78 1=true:=by kernel_rfl
theorem J36:Rx E8 81 1=true:=by kernel_rfl
theorem G0d:sliceB E8 81 80 27=true:=by kernel_rfl
theorem Q49:(E8.info? 77).bind (fun i=>i.zero.map Value.cells)=some (List.toArray [.int .u8 0,.int .u8 0,.int .u8 0,.int .u8 0,.int .u8 0,.int .u8 0,.int .u8 0,.int .u8 0,.int .u8 0,.int .u8 0,.int .u8 0,.int .u8 0,.int .u8 0,.int .u8 0,.int .u8 0,.int .u8 0,.int .u8 0,.int .u8 0,.int .u8 0,.int .u8 0,.int .u8 0,.int .u8 0,.int .u8 0,.int .u8 0]):=by kernel_rfl
theorem J35:(E8.info? 80).bind (fun i=>i.zero.map Value.cells)=some (List.toArray [.int .u8 0,.int .u8 0,.int .u8 0,.int .u8 0,.int .u8 0,.int .u8 0,.int .u8 0,.int .u8 0,.int .u8 0,.int .u8 0,.int .u8 0,.int .u8 0,.int .u8 0,.int .u8 0,.int .u8 0,.int .u8 0,.int .u8 0,.int .u8 0,.int .u8 0,.int .u8 0,.int .u8 0,.int .u8 0,.int .u8 0,.int .u8 0,E0,E0,E0]):=by kernel_rfl
theorem G6f:Qn E8 39 2=true:=by kernel_rfl
theorem Jf3:Qn E8 78 1=true:=by kernel_rfl
theorem J0b:Qn E8 80 27=true:=by kernel_rfl
theorem Jf2:Qn E8 81 1=true:=by kernel_rfl
theorem R14:G7d E8 77 Gw.kv:=G7d.of_eq Gw.ks (by kernel_rfl) Gw.Rca 4 (by decide) (fun a b=>Y19 a b) (fun a=>by kernel_rfl) (fun a=>by simp [Instr.sameBits,Gw.ks])
end XCF
open XAF
open XBF
open XCF

def Yn (slices:List (List Int)):Option (List Int):=
 each (fun g i (b:Int) e=>
  chk (b+(g.length:Int)) fun d=>
  bif decide (d < 0) then
  (none)
  else
  (e d))
 (fun(b:Int)=>
  bnd (G3e b) fun h=>
  each (fun c j (a:(List Int)) f=>
   need (decide ((a.length+c.length)*8≤140737488355328∧a.length+c.length≤maxLen)) <|
   f (a++c))
  (fun(a:(List Int))=>
   some a) slices 0 h) slices 0 0
theorem H49 (slices:List (List Int)) (r:(List Int)) (h:Yn slices=some r):Pure E8 39 [LS 1 (E1) slices] (·=E1 r):=by
 unfold Yn at h
 refine H9 [.tmp 2] Try.func39 O O (Jr fun c4=>(JLh (E1 ([]:List Int)) (Jn 1 O O) O (G6 (c4 (Jr fun c5=>(JLm (I64 0) O (G6 (c5 (Js fun c6=>Jr fun c7=>(JLm (LS 1 (E1) slices) O (JLl Gh O O O fun x=>(JLm (I64 0) O (G6 (c7 (Gk ?_)))))))))))))))
 obtain⟨c8,z,a0,s,h⟩:=J3 h
 refine Ha (fun d (e:Int)=>each c8 z (List.drop d slices) d e=some r) (fun d e=>[(0,LS 1 (E1) slices),(3,I64 e),(9,LS 1 (E1) slices),(10,E7 slices.length),(11,E7 d)]) (fun d e=>[]) (fun d=>slices.length - d) 0 0 h ⟨(.sm O O),ø,rfl⟩ ?_
 clear h
 intro d e m d4 c9
 refine Jr fun a1=>(JLh (BL (decide ((d:Int) < (slices.length:Int)))) (J0 O O O) O (G6 (a1 (Js fun a2=>Gj O (fun hb=>?_) (fun hb=>?_)))))
 ·
  have n:=Ji hb
  obtain⟨j,d1,a3,a4,h⟩:=Hv m n
  replace h:=Yq a0 h
  refine Gp (a2 (Js fun a5=>Gk (Jr fun a6=>(JLh (.dptr [E1 j]) (H1 (f:=(E1)) (xs:=slices) (y:=j) O O O Gh a3 O) O (JLh (E1 j) (Gm H3 O O O) O (JLm (E1 j) O (G6 (a6 (Jr fun a7=>(JLm (I64 e) O (JLm (E1 j) O (JLl G7 O O O fun d2=>?_))))))))))))
  obtain⟨k,a8,h⟩:=J8 h
  refine JLh (I64 k) (Hz a8 O O O) O (JLm (I64 k) O (G6 (a7 (Jr fun a9=>(JLm (I64 k) O (JLh (BL (decide (k < 0))) (J0 O O O) O (G6 (a9 (JCc O h (fun h hb=>?_) (fun h hb=>?_))))))))))
  ·
   cases h
  ·
   refine Gp (a5 (G1 (JLh (I64 ((d+1:Nat):Int)) (Hz (Hn n x) O O O) O (JLm (I64 ((d+1:Nat):Int)) O (G6 (c9 _ _ (d+1) k (app1 a4 h) (by omega) ⟨(.sm O O),ø,rfl⟩))))))
 ·
  have h:=app1 s (Hw m (Hd hb))
  refine Hf (c6 (Jr fun b0=>(JLm (I64 e) O ?_)))
  obtain⟨l,b1,h⟩:=Gg h
  refine G8c O O O (G90 (args:=[.sc (.slice none 0 0),I64 e]) (L0:=[]) (u:=fun p=>.vec 1092 p 1 l.length) (Lr:=fun p=>[(1092,.vec 3 1 p (l.map I64))]) O (H8a.down e l b1) Q58 ⟨.inl O,O,.inl O,O,ø⟩ ø O (fun _=>O)) ?_
  rintro u_ L_ ⟨v,rfl,rfl⟩
  refine JLm (.vec 1092 v 1 l.length) O (G6 (b0 (Js fun b2=>Jr fun b3=>(JLm (LS 1 (E1) slices) O (JLl Gh O O O fun b4=>(JLm (I64 0) O (G6 (b3 (Gk ?_)))))))))
  obtain⟨w,o,b5,t,h⟩:=J3 h
  refine Ha (fun b (g:((List Int))×Nat)=>(fun(a:(List Int))=>each w o (List.drop b slices) b a=some r) g.1) (fun b g=>(fun(a:(List Int)) (gv58:Nat)=>[(6,.vec 1092 gv58 1 a.length),(25,LS 1 (E1) slices),(26,E7 slices.length),(27,E7 b)]) g.1 g.2) (fun b g=>(fun(a:(List Int)) (gv58:Nat)=>[(1092,.vec 3 1 gv58 (a.map I64))]) g.1 g.2) (fun b=>slices.length - b) 0 (l,v) h ⟨(.sm O O),⟨⟨_,rfl,.vec⟩,ø⟩,rfl⟩ ?_
  clear h
  rintro b ⟨a,gv58⟩ i d5 d0
  replace i:each w o (List.drop b slices) b a=some r:=i
  change JC _ _ _ _ [(6,.vec 1092 gv58 1 a.length),(25,LS 1 (E1) slices),(26,E7 slices.length),(27,E7 b)] [(1092,.vec 3 1 gv58 (a.map I64))]
  refine Jr fun b6=>(JLh (BL (decide ((b:Int) < (slices.length:Int)))) (J0 O O O) O (G6 (b6 (Js fun b7=>Gj O (fun hb=>?_) (fun hb=>?_)))))
  ·
   have q:=Ji hb
   obtain⟨c,d3,b8,b9,h⟩:=Hv i q
   replace h:=Yq b5 h
   refine Gp (b7 (Js fun c0=>Gk (Jr fun c1=>(JLh (.dptr [E1 c]) (H1 (f:=(E1)) (xs:=slices) (y:=c) O O O Gh b8 O) O (JLh (E1 c) (Gm H3 O O O) O (JLm (E1 c) O (G6 (c1 (G1 (JLm (.vec 1092 gv58 1 a.length) O (JLm (E1 c) O ?_)))))))))))
   obtain⟨c2,h⟩:=J1 h
   refine JLh (.vec 1092 (gv58+((a++c).length+1)) 1 ((a++c).length)) (G30 (f:=I64) (xs:=a) (ys:=c) (ver:=gv58) (ver1:=(gv58+((a++c).length+1))) rfl rfl rfl rfl G7 R3 c2 (fun _=>rfl) (.inl rfl) (by simp)) O (JLm (.vec 1092 (gv58+((a++c).length+1)) 1 ((a++c).length)) O (G6 (c0 (G1 (JLh (I64 ((b+1:Nat):Int)) (Hz (Hn q b4) O O O) O (JLm (I64 ((b+1:Nat):Int)) O (G6 (d0 _ _ (b+1) ((a++c),(gv58+((a++c).length+1))) (app1 b9 h) (by omega) ⟨(.sm O O),⟨⟨_,rfl,.vec⟩,ø⟩,rfl⟩))))))))
  ·
   have h:=app1 t (Hw i (Hd hb))
   refine Hf (b2 (Jr fun c3=>(JLm (.vec 1092 gv58 1 a.length) O (JLm (.vec 1092 gv58 1 a.length) O (G6 (c3 (Ge8 [(2,E1 a)] [] 1092 rfl rfl ø rfl (by exact⟨.vec,ø⟩) (H0 (fin1 (fun r:(List Int)=>(E1 r:AV)) h)))))))))

def Qx (F:Nat) (s:List G5):Option (List G5):=
 chk ((s.length:Int) - 1) fun g=>
 loop (fun c (a:Int×Int×(List G5))=>
  bif decide (a.1 < a.2.1) then
  (Qu a.2.2 a.2.1 fun b=>
   Qu a.2.2 a.1 fun d=>
   Qu a.2.2 a.1 fun h=>
   Qu (a.2.2.set a.1.toNat b) a.2.1 fun i=>
   chk (a.1+1) fun e=>
   chk (a.2.1 - 1) fun f=>
   c (e,f,((a.2.2.set a.1.toNat b).set a.2.1.toNat d)))
  else
  (some a.2.2)) F (0,g,s)
theorem G58 (F:Nat) (s:List G5) (s_q:Nat) (r:(List G5)) (h:Qx F s=some r):Q8 E8 43 [.vec 1028 s_q 2 s.length] [(1028,.vec 39 2 s_q (s.map G5.av))] (fun av L'=>av=.tup []∧L'=[(1028,.vec 39 2 s_q (r.map G5.av))]):=by
 unfold Qx at h
 refine G1b [1028] [] Try.func43 O O (H90 O) (Jr fun a4=>(JLm (.vec 1028 s_q 2 s.length) O (H1c (f:=G5.av) (xs:=s) J5 O O O (fun b2=>?_) O O O)))
 obtain⟨q,a5,h⟩:=J8 h
 refine JLh (I64 q) (G00 a5 O O O) O (JLm (I64 0) O (JLm (I64 q) O (G6 (a4 (Gk ?_)))))
 obtain⟨a6,t,h⟩:=G2a h
 refine Ha (fun d (a:Int×Int×(List G5))=>loop a6 d a=some r) (fun d a=>[(0,.vec 1028 s_q 2 s.length),(2,I64 a.1),(3,I64 a.2.1)]) (fun d a=>[(1028,.vec 39 2 s_q (a.2.2.map G5.av))]) (fun d=>d) F (0,q,s) h ⟨(.sm O O),⟨⟨_,O,.vec⟩,ø⟩,O⟩ ?_
 clear h
 intro d a v b3 a7
 obtain⟨a8,b1,hm_31,w,h⟩:=G03 v
 replace h:=Hb5 t h
 refine Js fun x=>Jr fun a0=>(JLm (I64 a.1) O (JLm (I64 a.2.1) O (JLh (BL (decide (a.1 < a.2.1))) (J0 O O O) O (G6 (a0 (JCc O h (fun h hb=>?_) (fun h hb=>?_)))))))
 ·
  refine Gp (x (Js fun a1=>Gk (R8 (l':=[(0,.vec 1028 s_q 2 s.length),(2,I64 a.1),(3,I64 a.2.1)]) (L':=[(1028,.vec 39 2 s_q (a.2.2.map G5.av))]) ⟨(.sm O O),⟨⟨_,O,.vec⟩,ø⟩,O⟩ ?_)))
  obtain⟨b,m,e,h⟩:=Ym h
  obtain⟨c,n,g,h⟩:=Ym h
  obtain⟨a9,o,i,h⟩:=Ym h
  obtain⟨b0,p,j,h⟩:=Ym h
  refine Jh [13,15] [0,0,0,0,0,0,0,0,0,0,0,0,0,0,1,0] [0,0,1,1,0,0,0,0,0,0,0,0,0,0,1,0] [[(1028,.vec 39 2 s_q (a.2.2.map G5.av))],((1028,.vec 39 2 s_q ((a.2.2.set a.1.toNat b).map G5.av))::[(1028,.vec 39 2 s_q (a.2.2.map G5.av))]),((1028,.vec 39 2 s_q (((a.2.2.set a.1.toNat b).set a.2.1.toNat c).map G5.av))::((1028,.vec 39 2 s_q ((a.2.2.set a.1.toNat b).map G5.av))::[(1028,.vec 39 2 s_q (a.2.2.map G5.av))]))] Jc (by kernel_rfl) rfl rfl ?_
  refine Gd (u:=.vec 1028 s_q 2 s.length) O O ⟨Gb (G2 O O) O,ø⟩ (Gd (u:=I64 a.1) O O ⟨Gb (G2 O O) O,ø⟩ (Gd (u:=.vec 1028 s_q 2 s.length) O O ⟨Gb (G2 O O) O,Gb (G2 O O) O,ø⟩ (Gd (u:=I64 a.2.1) O O ⟨Gb (G2 O O) O,Gb (G2 O O) O,ø⟩ (Gd (u:=.vec 1028 s_q 2 s.length) O O ⟨Gb (G2 O O) O,ø⟩ (Gd (u:=I64 a.2.1) O O ⟨Gb (G2 O O) O,ø⟩ (Gd (u:=.vptr 1028 s_q a.2.1.toNat 0) O O ⟨Gb (Zw (f:=G5.av) (xs:=a.2.2) (y:=b) O O O O J5 e m) O,ø⟩ (Gd (u:=.agg [I64 b.From,I64 b.To]) O O ⟨Gb (G7b (f:=G5.av) (xs:=a.2.2) (y:=b) G72 O O O e O O) O,ø⟩ (Gd (u:=.vec 1028 s_q 2 s.length) O O ⟨Gb (G2 O O) O,ø⟩ (Gd (u:=I64 a.1) O O ⟨Gb (G2 O O) O,ø⟩ (Gd (u:=.vptr 1028 s_q a.1.toNat 0) O O ⟨Gb (Zw (f:=G5.av) (xs:=a.2.2) (y:=c) O O O O J5 g n) O,ø⟩ (Gd (u:=.agg [I64 c.From,I64 c.To]) O O ⟨Gb (G7b (f:=G5.av) (xs:=a.2.2) (y:=c) G72 O O O g O O) O,ø⟩ (Gd (u:=.vptr 1028 s_q a.1.toNat 0) O O ⟨Gb (Zw (f:=G5.av) (xs:=a.2.2) (y:=a9) O O O O J5 i o) O,ø⟩ ?_))))))))))))
  refine H1d (u:=.junk) O O O O (Gb (H1e (f:=G5.av) (xs:=a.2.2) (z:=b) H96 O O O O (Ey i).1 O O O O) O) (Gd (u:=.vptr 1028 s_q a.2.1.toNat 0) O O ⟨Gb (Zw (f:=G5.av) (xs:=(a.2.2.set a.1.toNat b)) (y:=b0) O O O O J5 j p) O,ø⟩ (H1d (u:=.junk) O O O O (Gb (H1e (f:=G5.av) (xs:=(a.2.2.set a.1.toNat b)) (z:=c) H96 O O O O (Ey j).1 O O O O) O) (Rc (a1 (G1 (JLm (I64 a.1) O ?_))))))
  obtain⟨k,a2,h⟩:=J8 h
  refine JLh (I64 k) (Hz a2 O O O) O (JLm (I64 a.2.1) O ?_)
  obtain⟨l,a3,h⟩:=J8 h
  refine JLh (I64 l) (G00 a3 O O O) O (JLm (I64 k) O (JLm (I64 l) O (G6 (a7 _ _ a8 (k,l,((a.2.2.set a.1.toNat b).set a.2.1.toNat c)) (app1 w h) (by omega) ⟨(.sm O O),⟨⟨_,rfl,.vec⟩,ø⟩,rfl⟩))))
 ·
  refine Hf ?_
  obtain rfl:=K0 h
  exact⟨[],[(1028,.vec 39 2 s_q (a.2.2.map G5.av))],⟨⟨_,O,.vec⟩,ø⟩,O,ø,O,O⟩

def Jb (F:Nat) (y:Gs) (order:List Int):Option ((List G5)×Int):=
 bnd (Qv y order) fun z=>
 bif decide (z.2≠0) then
 (some ([],z.2))
 else
 (bnd (Yn y.Stacks) fun r8=>
  bif ((decide (5 < (r8.length:Int)))||(decide (4 < (y.Stacks.length:Int)))) then
  (some ([],5))
  else
  (each (fun a1 b0 (f:(List Int)) p=>
    bnd (Qc order a1) fun k=>
    need (decide ((f.length+[k].length)*8≤140737488355328∧f.length+[k].length≤maxLen)) <|
    p (f++[k]))
   (fun(f:(List Int))=>
    each (fun a2 a3 (g:Int×Gw) q=>
     each (fun b1 a4 (e:Int×Gw) r=>
      bnd (Y5 (a3:Int) 3) fun a5=>
      bnd (Y5 (a4:Int) 5) fun a6=>
      r (IntKind.u8.wrap (e.1+1),(e.2.set (a5*6+a6*1) (IntKind.u8.wrap (e.1+1)))))
     (fun(e:Int×Gw)=>
      q (e.1,e.2)) a2 0 (g.1,g.2))
    (fun(g:Int×Gw)=>
     jp (fun l=>
      loop (fun t (a:Int×(List Gx)×Int×(Qk Gw Int))=>
       bif decide (a.2.2.1 < (a.2.1.length:Int)) then
       (Qu a.2.1 a.2.2.1 fun m=>
        bnd (Rq F m.s (y.Stacks.length:Int) f) fun a7=>
        bif a7 then
        (l (a.2.2.1,a.2.2.2,a.2.1,a.2.2.1))
        else
        (bnd (G07 m.s (y.Stacks.length:Int) y.Height) fun b2=>
         bnd (Y7 F (y.Stacks.length:Int) m.s y.Height) fun n=>
         each (fun c a8 (b:(List Gx)×(Qk Gw Int)) j=>
          bnd (some (Qk.get b.2 c.2 0)) fun a9=>
          bif (!(Qk.has b.2 c.2)) then
          (need (decide ((b.1.length+[(Gx.mk c.2 a.2.2.1 c.1)].length)*48≤140737488355328∧b.1.length+[(Gx.mk c.2 a.2.2.1 c.1)].length≤maxLen)) <|
           j ((b.1++[(Gx.mk c.2 a.2.2.1 c.1)]),(Qk.put b.2 c.2 (b.1.length:Int))))
          else
          (j (b.1,b.2)))
         (fun(b:(List Gx)×(Qk Gw Int))=>
          chk (a.2.2.1+1) fun u=>
          t (a.1,b.1,u,b.2)) n 0 (a.2.1,a.2.2.2)))
       else
       (l (a.1,a.2.2.2,a.2.1,a.2.2.1))) F ((-1),[(Gx.mk g.2 (-1) (G5.mk 0 0))],0,(Qk.put (Qk.empty:Qk Gw Int) g.2 0))) fun(h:Int×(Qk Gw Int)×(List Gx)×Int)=>
     bif decide (h.1 < 0) then
     (some ([],6))
     else
     (loop (fun o (d:Int×(List G5))=>
       Qu h.2.2.1 d.1 fun v=>
       bif decide (0≤v.from_) then
       (Qu h.2.2.1 d.1 fun i=>
        need (decide ((d.2.length+[i.by_].length)*16≤140737488355328∧d.2.length+[i.by_].length≤maxLen)) <|
        Qu h.2.2.1 d.1 fun w=>
        o (w.from_,(d.2++[i.by_])))
       else
       (bnd (Qx F d.2) fun x=>
        some (x,0))) F (h.1,[]))) y.Stacks 0 (0,Gw.zero)) r8 0 [0]))
abbrev Ed (a:Int×Gw):List AV:=[U8 (a.2.g 0),U8 (a.2.g 1),U8 (a.2.g 2),U8 (a.2.g 3),U8 (a.2.g 4),U8 (a.2.g 5),U8 (a.2.g 6),U8 (a.2.g 7),U8 (a.2.g 8),U8 (a.2.g 9),U8 (a.2.g 10),U8 (a.2.g 11),U8 (a.2.g 12),U8 (a.2.g 13),U8 (a.2.g 14),U8 (a.2.g 15),U8 (a.2.g 16),U8 (a.2.g 17),U8 (a.2.g 18),U8 (a.2.g 19),U8 (a.2.g 20),U8 (a.2.g 21),U8 (a.2.g 22),U8 (a.2.g 23),I64 (-1),I64 0,I64 0]
abbrev Ee:List AV:=[U8 0,U8 0,U8 0,U8 0,U8 0,U8 0,U8 0,U8 0,U8 0,U8 0,U8 0,U8 0,U8 0,U8 0,U8 0,U8 0,U8 0,U8 0,U8 0,U8 0,U8 0,U8 0,U8 0,U8 0,I64 0,I64 0,I64 0]
theorem G16 (F:Nat) (y:Gs) (order:List Int) (r:(List G5)×Int) (h:Jb F y order=some r):Pure E8 17 [.agg [LS 1 (E1) y.Stacks,I64 y.Height],E1 order] (·=.tup [E2 r.1,I64 r.2]):=by
 unfold Jb at h
 refine H9 [.tmp 4,.tmp 5] Try.func17 O O (Jr fun m9=>(JLh (.ptr 1020 0) (Qj (cs:=[LS 1 (E1) y.Stacks,I64 y.Height]) 1020 O O O O O) O (JLh (E2 ([]:List G5)) (Jn 2 O O) O (JLm (I64 0) O (G6 (m9 (H4 [(1,E1 order),(2,.dptr [LS 1 (E1) y.Stacks,I64 y.Height])] [] 1020 rfl rfl rfl ø rfl (by exact⟨.conv (.same rfl),.ptr,ø⟩) (Q33 (Js fun n0=>Jr fun n1=>(JLh (.agg [LS 1 (E1) y.Stacks,I64 y.Height]) (Gu He O O O) O (JLm (E1 order) O ?_)))))))))))
 obtain⟨x,n2,h⟩:=Gg h
 refine JLh (.tup [I64 x.1,I64 x.2]) (Gv O (Z5 y order x n2) G97 ⟨O,O,O,O,ø⟩) O (JLm (.tup [I64 x.1,I64 x.2]) O (JLh (I64 x.1) (Gq O O O) O (JLh (I64 x.2) (Gq O O O) O (JLm (I64 x.1) O (JLm (I64 x.2) O (G6 (n1 (Jr fun n3=>(JLm (I64 x.2) O (JLh (BL (decide (x.2≠0))) (Yj O O O) O (G6 (n3 (JCc O h (fun h hb=>?_) (fun h hb=>?_))))))))))))))
 ·
  refine Jr fun n4=>(JLm (I64 x.2) O (JLh (E2 ([]:List G5)) (Jn 2 O O) O (JLm (I64 x.2) O (G6 (n4 (H0 (⟨[E2 ([]:List G5),I64 x.2],[],ø,O,⟨⟨_,O,.conv (.same O)⟩,⟨_,O,.conv (.same O)⟩,ø⟩,O,congrArg (fun r:(List G5)×Int=>(.tup [E2 r.1,I64 r.2]:AV)) (K0 h)⟩)))))))
 ·
  refine Gp (n0 (Jr fun n5=>(JLh (.dptr [LS 1 (E1) y.Stacks,I64 y.Height]) (Gy Hy O O O) O (JLh (LS 1 (E1) y.Stacks) (Gm Gr O O O) O ?_))))
  obtain⟨z,n6,h⟩:=Gg h
  refine JLh (E1 z) (Gv O (H49 y.Stacks z n6) Q68 ⟨O,O,ø⟩) O (JLm (E1 z) O (G6 (n5 (Js fun n7=>Jr fun g5=>(JLm (E1 z) O (JLl G7 O O O fun p3=>(JLh (BL (decide (5 < (z.length:Int)))) (Z7 O O O) O (JLm (BL (decide (5 < (z.length:Int)))) O (JLo (.dptr [LS 1 (E1) y.Stacks,I64 y.Height]) [] O .scf ø (fun hc=>Gy Hy O O O) O (JLo (LS 1 (E1) y.Stacks) [43] O .scf ⟨Ua,ø⟩ (fun hc=>Gm Gr O O O) O (JLo (E7 y.Stacks.length) [44] O .scf ⟨Ua,ø⟩ (fun hc=>Jq (f:=(E1)) (xs:=y.Stacks) Gh O O) O (JLo (BL (decide (4 < (y.Stacks.length:Int)))) [45] O .scf ⟨Ua,ø⟩ (fun hc=>Z7 O O O) O (JLh (BL ((decide (5 < (z.length:Int)))||(decide (4 < (y.Stacks.length:Int))))) (Yr O O O O) O (G6 (g5 ?_)))))))))))))))
  refine JCc O h ?_ ?_<;>intro h hb
  ·
   refine Jr fun g6=>(JLh (E2 ([]:List G5)) (Jn 2 O O) O (JLm (I64 5) O (G6 (g6 (H0 (⟨[E2 ([]:List G5),I64 5],[],ø,O,⟨⟨_,O,.conv (.same O)⟩,⟨_,O,.conv (.same O)⟩,ø⟩,O,congrArg (fun r:(List G5)×Int=>(.tup [E2 r.1,I64 r.2]:AV)) (K0 h)⟩))))))
  ·
   refine Gp (n7 (Jr fun g7=>(JLh (OW 1029 1 I64 [0]) (Hba 1029 (f:=I64) [0] O ⟨O,O,ø⟩ G7 Jg O O O O O) O (JLm (OW 1029 1 I64 [0]) O (G6 (g7 (Js fun g8=>Jr fun g9=>(JLm (E1 z) O (JLl G7 O O O fun h0=>(JLm (I64 0) O (G6 (g9 (Gk ?_)))))))))))))
   obtain⟨n8,h1,h2,c4,h⟩:=J3 h
   refine Ha (fun w (k:(List Int))=>each n8 h1 (List.drop w z) w k=some r) (fun w k=>[(1,E1 order),(2,.dptr [LS 1 (E1) y.Stacks,I64 y.Height]),(9,OW 1029 1 I64 k),(49,E1 z),(50,E7 z.length),(51,E7 w)]) (fun w k=>[(1029,.spare 3 1 k.length k.length)]) (fun w=>z.length - w) 0 [0] h ⟨(.sm O O),⟨⟨_,rfl,.same⟩,ø⟩,rfl⟩ ?_
   clear h
   intro w k b5 q5 n9
   refine Jr fun h3=>(JLh (BL (decide ((w:Int) < (z.length:Int)))) (J0 O O O) O (G6 (h3 (Js fun h4=>Gj O (fun hb=>?_) (fun hb=>?_)))))
   ·
    have b6:=Ji hb
    obtain⟨a6,p4,h5,h6,h⟩:=Hv b5 b6
    replace h:=Yq h2 h
    refine Gp (h4 (Js fun h7=>Gk (Jr fun h8=>(JLh (.dptr [I64 a6]) (H1 (f:=I64) (xs:=z) (y:=a6) O O O G7 h5 O) O (JLh (I64 a6) (Gm Gi O O O) O (JLm (I64 a6) O (G6 (h8 (G1 (JLm (OW 1029 1 I64 k) O (JLm (E1 order) O (JLm (I64 a6) O ?_))))))))))))
    obtain⟨a3,h9,h⟩:=Gg h
    refine JLh (I64 a3) (Gv O (Yi order a6 a3 h9) G67 ⟨O,O,O,O,ø⟩) O (JLh (E1 [a3]) (Hb (xs:=[I64 a3]) O ⟨O,O,ø⟩ G7 Jg O O O O) O ?_)
    obtain⟨i0,h⟩:=J1 h
    refine JLh (OW 1029 1 I64 (k++[a3])) (Yp (f:=I64) (xs:=k) (ys:=[a3]) O O O O G7 R3 i0 (fun _=>O) (.inl O) O) O (JLm (OW 1029 1 I64 (k++[a3])) O (G6 (h7 (G1 (JLh (I64 ((w+1:Nat):Int)) (Hz (Hn b6 h0) O O O) O (JLm (I64 ((w+1:Nat):Int)) O (G6 (n9 _ _ (w+1) (k++[a3]) (app1 h6 h) (by omega) ⟨(.sm O O),⟨⟨_,rfl,.same⟩,ø⟩,rfl⟩))))))))
   ·
    have h:=app1 c4 (Hw b5 (Hd hb))
    refine Hf (g8 (Jr fun i1=>(JLh (.ptr 1021 0) (Gec 1021 [U8 0,U8 0,U8 0,U8 0,U8 0,U8 0,U8 0,U8 0,U8 0,U8 0,U8 0,U8 0,U8 0,U8 0,U8 0,U8 0,U8 0,U8 0,U8 0,U8 0,U8 0,U8 0,U8 0,U8 0] [.int .u8 0,.int .u8 0,.int .u8 0,.int .u8 0,.int .u8 0,.int .u8 0,.int .u8 0,.int .u8 0,.int .u8 0,.int .u8 0,.int .u8 0,.int .u8 0,.int .u8 0,.int .u8 0,.int .u8 0,.int .u8 0,.int .u8 0,.int .u8 0,.int .u8 0,.int .u8 0,.int .u8 0,.int .u8 0,.int .u8 0,.int .u8 0] Q49 (zzQ O) O O) O (G6 (i1 (Jr fun i2=>(JLm (U8 0) O (G6 (i2 (Js fun i3=>?_))))))))))
    refine Jr fun i4=>(JLh (.dptr [LS 1 (E1) y.Stacks,I64 y.Height]) (Gy Hy O O O) O (JLh (LS 1 (E1) y.Stacks) (Gm Gr O O O) O (JLl Gh O O O fun i5=>(JLm (I64 0) O (G6 (i4 (Gk ?_)))))))
    obtain⟨o0,i6,i7,c5,h⟩:=J3 h
    refine Ha (fun q (j:Int×Gw)=>each o0 i6 (List.drop q y.Stacks) q j=some r) (fun q j=>[(2,.dptr [LS 1 (E1) y.Stacks,I64 y.Height]),(9,OW 1029 1 I64 k),(12,.ptr 1021 0),(13,U8 j.1),(63,LS 1 (E1) y.Stacks),(64,E7 y.Stacks.length),(65,E7 q)]) (fun q j=>[(1029,.spare 3 1 k.length k.length),(1021,.box 77 [U8 (j.2.g 0),U8 (j.2.g 1),U8 (j.2.g 2),U8 (j.2.g 3),U8 (j.2.g 4),U8 (j.2.g 5),U8 (j.2.g 6),U8 (j.2.g 7),U8 (j.2.g 8),U8 (j.2.g 9),U8 (j.2.g 10),U8 (j.2.g 11),U8 (j.2.g 12),U8 (j.2.g 13),U8 (j.2.g 14),U8 (j.2.g 15),U8 (j.2.g 16),U8 (j.2.g 17),U8 (j.2.g 18),U8 (j.2.g 19),U8 (j.2.g 20),U8 (j.2.g 21),U8 (j.2.g 22),U8 (j.2.g 23)])]) (fun q=>y.Stacks.length - q) 0 (0,Gw.zero) h ⟨(.sm O O),⟨⟨_,rfl,.same⟩,fbQ O (.sm O O),ø⟩,rfl⟩ ?_
    clear h
    intro q j b7 q6 o1
    refine Jr fun i8=>(JLh (BL (decide ((q:Int) < (y.Stacks.length:Int)))) (J0 O O O) O (G6 (i8 (Js fun i9=>Gj O (fun hb=>?_) (fun hb=>?_)))))
    ·
     have b8:=Ji hb
     obtain⟨a0,p5,j0,j1,h⟩:=Hv b7 b8
     replace h:=Yq i7 h
     refine Gp (i9 (Js fun j2=>Gk (Jr fun j3=>(JLm (E7 q) O (JLh (.dptr [E1 a0]) (H1 (f:=(E1)) (xs:=y.Stacks) (y:=a0) O O O Gh j0 O) O (JLh (E1 a0) (Gm H3 O O O) O (JLm (E7 q) O (JLm (E1 a0) O (G6 (j3 (Jr fun j4=>(JLm (E1 a0) O (JLl G7 O O O fun j5=>(JLm (I64 0) O (G6 (j4 (Gk ?_)))))))))))))))))
     obtain⟨o2,j6,j7,c6,h⟩:=J3 h
     refine Ha (fun t (l:Int×Gw)=>each o2 j6 (List.drop t a0) t l=some r) (fun t l=>[(2,.dptr [LS 1 (E1) y.Stacks,I64 y.Height]),(9,OW 1029 1 I64 k),(12,.ptr 1021 0),(13,U8 l.1),(14,E7 q),(63,LS 1 (E1) y.Stacks),(64,E7 y.Stacks.length),(65,E7 q),(71,E7 a0.length),(72,E7 t)]) (fun t l=>[(1029,.spare 3 1 k.length k.length),(1021,.box 77 [U8 (l.2.g 0),U8 (l.2.g 1),U8 (l.2.g 2),U8 (l.2.g 3),U8 (l.2.g 4),U8 (l.2.g 5),U8 (l.2.g 6),U8 (l.2.g 7),U8 (l.2.g 8),U8 (l.2.g 9),U8 (l.2.g 10),U8 (l.2.g 11),U8 (l.2.g 12),U8 (l.2.g 13),U8 (l.2.g 14),U8 (l.2.g 15),U8 (l.2.g 16),U8 (l.2.g 17),U8 (l.2.g 18),U8 (l.2.g 19),U8 (l.2.g 20),U8 (l.2.g 21),U8 (l.2.g 22),U8 (l.2.g 23)])]) (fun t=>a0.length - t) 0 (j.1,j.2) h ⟨(.sm O O),⟨⟨_,rfl,.same⟩,fbQ O (.sm O O),ø⟩,rfl⟩ ?_
     clear h
     intro t l b9 q7 o3
     refine Jr fun j8=>(JLh (BL (decide ((t:Int) < (a0.length:Int)))) (J0 O O O) O (G6 (j8 (Js fun j9=>Gj O (fun hb=>?_) (fun hb=>?_)))))
     ·
      have c0:=Ji hb
      obtain⟨q8,p6,p7,k0,h⟩:=Hv b9 c0
      replace h:=Yq j7 h
      refine Gp (j9 (Js fun k1=>Gk (Jr fun k2=>(JLm (E7 t) O (JLm (E7 t) O (G6 (k2 (Jr fun k3=>(JLm (U8 l.1) O (JLh (U8 (IntKind.u8.wrap (l.1+1))) (Hz O O O O) O (JLm (U8 (IntKind.u8.wrap (l.1+1))) O (G6 (k3 (G1 (JLm (E7 q) O (JLm (E7 t) O (JLm (U8 (IntKind.u8.wrap (l.1+1))) O ?_)))))))))))))))))
      obtain⟨c1,a8,h⟩:=Gg h
      refine JLh (.ptr 1021 (0+c1*6)) (H41 G70 O O O (Hg a8).1 (Nat.succ_le_succ (Hg a8).2)) O ?_
      obtain⟨g3,a9,h⟩:=Gg h
      refine JLh (.ptr 1021 ((0+c1*6)+g3*1)) (H41 G99 O O O (Hg a9).1 (Nat.succ_le_succ (Hg a9).2)) O (J9 (u:=.junk) (H88 (u:=U8 (IntKind.u8.wrap (l.1+1))) Hef O O O O O O (Gw.R2d (Hg a8).2 (Hg a9).2) (Gw.Q90 l.2 (Hg a8).2 (Hg a9).2 (IntKind.u8.wrap (l.1+1)))) (G6 (k1 (G1 (JLh (I64 ((t+1:Nat):Int)) (Hz (Hn c0 j5) O O O) O (JLm (I64 ((t+1:Nat):Int)) O (G6 (o3 _ _ (t+1) (IntKind.u8.wrap (l.1+1),(l.2.set (c1*6+g3*1) (IntKind.u8.wrap (l.1+1)))) (app1 k0 h) (by omega) ⟨(.sm O O),⟨⟨_,rfl,.same⟩,fbQ O (.sm O O),ø⟩,rfl⟩))))))))
     ·
      have h:=app1 c6 (Hw b9 (Hd hb))
      refine Hf (j2 (G1 (JLh (I64 ((q+1:Nat):Int)) (Hz (Hn b8 i5) O O O) O (JLm (I64 ((q+1:Nat):Int)) O (G6 (o1 _ _ (q+1) (l.1,l.2) (app1 j1 h) (by omega) ⟨(.sm O O),⟨⟨_,rfl,.same⟩,fbQ O (.sm O O),ø⟩,rfl⟩))))))
    ·
     have h:=app1 c5 (Hw b7 (Hd hb))
     refine Hf (i3 (Jr fun k4=>(JLh (.mp 1030) (Qa2 1030 Gw.kv I64 O O) O (JLh (.agg (Gw.cs j.2)) (Jk G71 O O O O) O (J9 (u:=.junk) (Je9 (m:=(Qk.empty:Qk Gw Int)) (a:=j.2) (v:=0) O O O O O O R14 Hf0) (JLm (.mp 1030) O (JLh (.ptr 1022 0) (Ja 1022 1 Jf3 O O) O (J9 (u:=.junk) (Ht (u:=.mp 1030) (ds:=[.mp 1030]) Q4a O O O O O O O O) (G6 (k4 ?_))))))))))
     refine fzQ [(2,.dptr [LS 1 (E1) y.Stacks,I64 y.Height]),(9,OW 1029 1 I64 k),(12,.dptr (Gw.cs j.2)),(17,.ptr 1022 0)] [(1029,.spare 3 1 k.length k.length),(1030,MP 78 Gw.kv I64 (Qk.put (Qk.empty:Qk Gw Int) j.2 0)),(1022,.box 78 [.mp 1030])] 1021 rfl rfl rfl ⟨⟨_,rfl,.same⟩,fmQ O,⟨_,rfl,.boxEq rfl rfl⟩,ø⟩ rfl ?_
     refine Jr fun k5=>(JLh (.agg (Gw.cs j.2)) (Gu G71 O O O) O (JLh (.agg (Ed j)) (Jt (cs:=(Ed j)) [(0,24),(24,1),(25,2)] Ee [.int .u8 0,.int .u8 0,.int .u8 0,.int .u8 0,.int .u8 0,.int .u8 0,.int .u8 0,.int .u8 0,.int .u8 0,.int .u8 0,.int .u8 0,.int .u8 0,.int .u8 0,.int .u8 0,.int .u8 0,.int .u8 0,.int .u8 0,.int .u8 0,.int .u8 0,.int .u8 0,.int .u8 0,.int .u8 0,.int .u8 0,.int .u8 0,E0,E0,E0] Hc4 J35 (zzQ O) O O) O (JLh (OW 1031 27 Gx.av [(Gx.mk j.2 (-1) (G5.mk 0 0))]) (Hba 1031 (f:=Gx.av) [(Gx.mk j.2 (-1) (G5.mk 0 0))] O ⟨O,O,ø⟩ G0d J0b O O O O O) O (JLh (.ptr 1023 0) (Ja 1023 1 Jf2 O O) O (J9 (u:=.junk) (Ht (u:=OW 1031 27 Gx.av [(Gx.mk j.2 (-1) (G5.mk 0 0))]) (ds:=[OW 1031 27 Gx.av [(Gx.mk j.2 (-1) (G5.mk 0 0))]]) J36 O O O O O O O O) (G6 (k5 ?_)))))))
     refine Jr fun k6=>(JLm (I64 (-1)) O (G6 (k6 (Js fun k7=>Q34 (k7 ?_)))))
     obtain⟨k8,c7,h⟩:=G0a h
     refine Yy (fun o:Int×(Qk Gw Int)×(List Gx)×Int=>k8 o=some r) (fun o=>[(18,.ptr 1023 0),(19,I64 o.1)]) (fun o=>[(1030,MP 78 Gw.kv I64 o.2.1),(1031,.spare 80 27 o.2.2.1.length o.2.2.1.length),(1022,.box 78 [.mp 1030]),(1023,.box 81 [OW 1031 27 Gx.av o.2.2.1]),(1024,.box 3 [I64 o.2.2.2])]) (fun Kj82 ej82=>?_) ?_
     ·
      refine Jr fun k9=>(JLh (.ptr 1024 0) (Ja 1024 1 Jg O O) O (J9 (u:=.junk) (Ht (u:=I64 0) (ds:=[I64 0]) G96 O O O O O O O O) (G6 (k9 (Gk ?_)))))
      obtain⟨o4,l0,h⟩:=G2a h
      refine Ha (fun a7 (e:Int×(List Gx)×Int×(Qk Gw Int))=>loop o4 a7 e=some r) (fun a7 e=>[(2,.dptr [LS 1 (E1) y.Stacks,I64 y.Height]),(9,OW 1029 1 I64 k),(17,.ptr 1022 0),(18,.ptr 1023 0),(19,I64 e.1),(20,.ptr 1024 0)]) (fun a7 e=>[(1029,.spare 3 1 k.length k.length),(1030,MP 78 Gw.kv I64 e.2.2.2),(1031,.spare 80 27 e.2.1.length e.2.1.length),(1022,.box 78 [.mp 1030]),(1023,.box 81 [OW 1031 27 Gx.av e.2.1]),(1024,.box 3 [I64 e.2.2.1])]) (fun a7=>a7) F ((-1),[(Gx.mk j.2 (-1) (G5.mk 0 0))],0,(Qk.put (Qk.empty:Qk Gw Int) j.2 0)) h ⟨(.sm O O),⟨⟨_,rfl,.same⟩,fmQ O,⟨_,rfl,.same⟩,fbQ O ⟨.same rfl,ø⟩,fbQ O ⟨.same rfl,ø⟩,fbQ O ⟨.same rfl,ø⟩,ø⟩,rfl⟩ ?_
      clear h
      intro a7 e l1 q9 o5
      obtain⟨o6,p8,hm_84,l2,h⟩:=G03 l1
      replace h:=Hb5 l0 h
      refine Js fun l3=>Jr fun l4=>(JLh (I64 e.2.2.1) (Hk Gi O O O O) O (JLh (OW 1031 27 Gx.av e.2.1) (Hk G28 O O O O) O (JLl G0d O O O fun p9=>(JLh (BL (decide (e.2.2.1 < (e.2.1.length:Int)))) (J0 O O O) O (G6 (l4 (JCc O h (fun h hb=>?_) (fun h hb=>?_))))))))
      ·
       refine Gp (l3 (Js fun l5=>Gk (Jr fun l6=>(JLh (OW 1031 27 Gx.av e.2.1) (Hk G28 O O O O) O (JLh (I64 e.2.2.1) (Hk Gi O O O O) O ?_)))))
       obtain⟨r0,n,l7,l8,h⟩:=Qq h
       refine JLh (.dptr (Gx.cs n)) (H1 (f:=Gx.av) (xs:=e.2.1) (y:=n) O O O G0d l8 l7) O (JLh (.dptr (Gx.cs n)) (Gy J8d O O O) O (JLh (.agg (Gw.cs n.s)) (Gu G71 O O O) O (JLh (.ptr 1025 0) (Ja 1025 24 H4e O O) O (J9 (u:=.junk) (Ht (u:=.agg (Gw.cs n.s)) (ds:=[U8 (n.s.g 0),U8 (n.s.g 1),U8 (n.s.g 2),U8 (n.s.g 3),U8 (n.s.g 4),U8 (n.s.g 5),U8 (n.s.g 6),U8 (n.s.g 7),U8 (n.s.g 8),U8 (n.s.g 9),U8 (n.s.g 10),U8 (n.s.g 11),U8 (n.s.g 12),U8 (n.s.g 13),U8 (n.s.g 14),U8 (n.s.g 15),U8 (n.s.g 16),U8 (n.s.g 17),U8 (n.s.g 18),U8 (n.s.g 19),U8 (n.s.g 20),U8 (n.s.g 21),U8 (n.s.g 22),U8 (n.s.g 23)]) H95 O O O O O O O O) (G6 (l6 ?_))))))
       refine fzQ [(2,.dptr [LS 1 (E1) y.Stacks,I64 y.Height]),(9,OW 1029 1 I64 k),(17,.ptr 1022 0),(18,.ptr 1023 0),(19,I64 e.1),(20,.ptr 1024 0),(21,.dptr (Gw.cs n.s))] [(1029,.spare 3 1 k.length k.length),(1030,MP 78 Gw.kv I64 e.2.2.2),(1031,.spare 80 27 e.2.1.length e.2.1.length),(1022,.box 78 [.mp 1030]),(1023,.box 81 [OW 1031 27 Gx.av e.2.1]),(1024,.box 3 [I64 e.2.2.1])] 1025 rfl rfl rfl ⟨⟨_,rfl,.same⟩,fmQ O,⟨_,rfl,.same⟩,⟨_,rfl,.boxEq rfl rfl⟩,⟨_,rfl,.boxEq rfl rfl⟩,⟨_,rfl,.boxEq rfl rfl⟩,ø⟩ rfl (Js fun l9=>?_)
       refine Jr fun m0=>(JLh (.dptr [LS 1 (E1) y.Stacks,I64 y.Height]) (Gy Hy O O O) O (JLh (LS 1 (E1) y.Stacks) (Gm Gr O O O) O (JLl Gh O O O fun o8=>(JLm (OW 1029 1 I64 k) O ?_))))
       obtain⟨g4,m1,h⟩:=Gg h
       refine JLh (BL g4) (Gv O (H0e F n.s (y.Stacks.length:Int) k g4 m1) Q67 ⟨O,O,O,O,O,O,ø⟩) O (G6 (m0 (JCc O h (fun h hb=>?_) (fun h hb=>?_))))
       ·
        refine Jr fun m2=>(JLh (I64 e.2.2.1) (Hk Gi O O O O) O (JLm (I64 e.2.2.1) O (G6 (m2 (Hf (ej82 _ _ (e.2.2.1,e.2.2.2,e.2.1,e.2.2.1) h ⟨(.sm O O),⟨⟨_,O,.map⟩,⟨_,O,.same⟩,⟨_,O,.boxL O ⟨.same O,ø⟩⟩,⟨_,O,.boxL O ⟨.same O,ø⟩⟩,⟨_,O,.boxL O ⟨.same O,ø⟩⟩,ø⟩,O⟩))))))
       ·
        refine Gp (l9 (Jr fun m3=>(JLh (.dptr [LS 1 (E1) y.Stacks,I64 y.Height]) (Gy Hy O O O) O (JLh (LS 1 (E1) y.Stacks) (Gm Gr O O O) O (JLl Gh O O O fun o9=>(JLh (.dptr [I64 y.Height]) (Gy Y2 O O O) O (JLh (I64 y.Height) (Gm Gi O O O) O ?_)))))))
        obtain⟨o7,m4,h⟩:=Gg h
        refine JLh (.fn 74 [.dptr [E7 y.Stacks.length],.dptr [.dptr (Gw.cs n.s)],.dptr [I64 y.Height]]) (Gv O (H1b n.s (y.Stacks.length:Int) y.Height o7 m4) Q66 ⟨O,O,O,O,O,O,ø⟩) O (G6 (m3 (Gk ?_)))
        obtain⟨a4,hy_109,h⟩:=Gg h
        obtain⟨m5,c8,c9,c2,h⟩:=J3 h
        refine Je5 (ps:=[113,114]) [(2,.dptr [LS 1 (E1) y.Stacks,I64 y.Height]),(9,OW 1029 1 I64 k),(17,.ptr 1022 0),(18,.ptr 1023 0),(19,I64 e.1),(20,.ptr 1024 0),(112,.fn 74 [.dptr [E7 y.Stacks.length],.dptr [.dptr (Gw.cs n.s)],.dptr [I64 y.Height]])] (a4.map (fun y:G5×Gw=>[.agg [I64 y.1.From,I64 y.1.To],.agg (Gw.cs y.2)])) (fun b0 (d:(List Gx)×(Qk Gw Int))=>each m5 c8 (List.drop b0 a4) b0 d=some r) (fun d=>[(1029,.spare 3 1 k.length k.length),(1030,MP 78 Gw.kv I64 d.2),(1031,.spare 80 27 d.1.length d.1.length),(1022,.box 78 [.mp 1030]),(1023,.box 81 [OW 1031 27 Gx.av d.1]),(1024,.box 3 [I64 e.2.2.1])]) (e.2.1,e.2.2.2) rfl rfl rfl Q57 (Gee.down F (y.Stacks.length:Int) n.s y.Height a4 hy_109) h ⟨(.sm O O),⟨⟨_,rfl,.same⟩,fmQ O,⟨_,rfl,.same⟩,fbQ O ⟨.same rfl,trivial⟩,fbQ O ⟨.same rfl,trivial⟩,fbQ O ⟨.same rfl,trivial⟩,trivial⟩,rfl⟩ rfl (fun us_ hus_=>by obtain⟨_,_,rfl⟩:=Kq.1 hus_; rfl) (fun p_ hp_=>Nat.blt_eq.mp (by revert p_; decide)) (fun _=>(.sm O O)) (fun _=>rfl) ?_ ?_
        ·
         intro b0 us_ d hu_ d0 lr_ q0 c3
         obtain⟨d1,rfl⟩:=R78 hu_
         obtain⟨c,p0,d2,b4,h⟩:=Hv d0 d1
         replace h:=Yq c9 h
         obtain⟨_,rfl⟩:=Ey d2
         generalize a4[b0]=c at h ⊢
         change JC _ _ _ _ [(114,.agg (Gw.cs c.2)),(113,.agg [I64 c.1.From,I64 c.1.To]),(2,.dptr [LS 1 (E1) y.Stacks,I64 y.Height]),(9,OW 1029 1 I64 k),(17,.ptr 1022 0),(18,.ptr 1023 0),(19,I64 e.1),(20,.ptr 1024 0),(112,.fn 74 [.dptr [E7 y.Stacks.length],.dptr [.dptr (Gw.cs n.s)],.dptr [I64 y.Height]])] [(1029,.spare 3 1 k.length k.length),(1030,MP 78 Gw.kv I64 d.2),(1031,.spare 80 27 d.1.length d.1.length),(1022,.box 78 [.mp 1030]),(1023,.box 81 [OW 1031 27 Gx.av d.1]),(1024,.box 3 [I64 e.2.2.1])]
         refine Jr fun d3=>(JLh (.ptr 1026 0) (Ja 1026 2 G6f O O) O (J9 (u:=.junk) (Ht (u:=.agg [I64 c.1.From,I64 c.1.To]) (ds:=[I64 c.1.From,I64 c.1.To]) H96 O O O O O O O O) (G6 (d3 ?_))))
         refine fzQ [(17,.ptr 1022 0),(18,.ptr 1023 0),(20,.ptr 1024 0),(22,.dptr [I64 c.1.From,I64 c.1.To]),(114,.agg (Gw.cs c.2))] [(1029,.spare 3 1 k.length k.length),(1030,MP 78 Gw.kv I64 d.2),(1031,.spare 80 27 d.1.length d.1.length),(1022,.box 78 [.mp 1030]),(1023,.box 81 [OW 1031 27 Gx.av d.1]),(1024,.box 3 [I64 e.2.2.1])] 1026 rfl rfl rfl ⟨⟨_,rfl,.same⟩,fmQ O,⟨_,rfl,.same⟩,⟨_,rfl,.boxEq rfl rfl⟩,⟨_,rfl,.boxEq rfl rfl⟩,⟨_,rfl,.boxEq rfl rfl⟩,ø⟩ rfl (G1 ?_)
         refine JLh (.ptr 1027 0) (Ja 1027 24 H4e O O) O (J9 (u:=.junk) (Ht (u:=.agg (Gw.cs c.2)) (ds:=[U8 (c.2.g 0),U8 (c.2.g 1),U8 (c.2.g 2),U8 (c.2.g 3),U8 (c.2.g 4),U8 (c.2.g 5),U8 (c.2.g 6),U8 (c.2.g 7),U8 (c.2.g 8),U8 (c.2.g 9),U8 (c.2.g 10),U8 (c.2.g 11),U8 (c.2.g 12),U8 (c.2.g 13),U8 (c.2.g 14),U8 (c.2.g 15),U8 (c.2.g 16),U8 (c.2.g 17),U8 (c.2.g 18),U8 (c.2.g 19),U8 (c.2.g 20),U8 (c.2.g 21),U8 (c.2.g 22),U8 (c.2.g 23)]) H95 O O O O O O O O) (G6 ?_))
         refine Q97 [(17,.ptr 1022 0),(18,.ptr 1023 0),(20,.ptr 1024 0),(22,.dptr [I64 c.1.From,I64 c.1.To]),(23,.dptr (Gw.cs c.2))] [(1029,.spare 3 1 k.length k.length),(1030,MP 78 Gw.kv I64 d.2),(1031,.spare 80 27 d.1.length d.1.length),(1022,.box 78 [.mp 1030]),(1023,.box 81 [OW 1031 27 Gx.av d.1]),(1024,.box 3 [I64 e.2.2.1])] 1027 rfl rfl rfl ⟨⟨_,rfl,.same⟩,fmQ O,⟨_,rfl,.same⟩,⟨_,rfl,.boxEq rfl rfl⟩,⟨_,rfl,.boxEq rfl rfl⟩,⟨_,rfl,.boxEq rfl rfl⟩,ø⟩ rfl (by repeat' (first | exact .ptr | constructor)) (Re2 (Gk (Jr fun d4=>(JLh (.mp 1030) (Hk Hc2 O O O O) O (JLh (.agg (Gw.cs c.2)) (Gu G71 O O O) O ?_)))))
         obtain⟨b1,d5,h⟩:=Gg h
         refine JLh (.tup [I64 b1,BL (Qk.has d.2 c.2)]) (((K0 d5) ▸ Qa3 (av:=I64) (m:=d.2) (a:=c.2) 0 E0 O O O O R14 Hf0 H70 O)) O (JLm (.tup [I64 b1,BL (Qk.has d.2 c.2)]) O (JLh (I64 b1) (Gq O O O) O (JLh (BL (Qk.has d.2 c.2)) (Gq O O O) O (JLm (I64 b1) O (JLm (BL (Qk.has d.2 c.2)) O (G6 (d4 (Jr fun d6=>(JLm (BL (Qk.has d.2 c.2)) O (JLh (BL (!(Qk.has d.2 c.2))) (Yt (b:=(Qk.has d.2 c.2)) O O) O (G6 (d6 (JCc O h (fun h hb=>?_) (fun h hb=>?_))))))))))))))
         ·
          refine Jr fun d7=>(JLh (.mp 1030) (Hk Hc2 O O O O) O (JLh (.agg (Gw.cs c.2)) (Gu G71 O O O) O (JLh (OW 1031 27 Gx.av d.1) (Hk G28 O O O O) O (JLl G0d O O O fun p1=>(J9 (u:=.junk) (Hed (m:=d.2) (a:=c.2) (v:=(d.1.length:Int)) O O O O O O R14 Hf0) (G6 (d7 (G1 ?_))))))))
          refine JLh (OW 1031 27 Gx.av d.1) (Hk G28 O O O O) O (JLh (.agg (Gw.cs c.2)) (Gu G71 O O O) O (JLh (I64 e.2.2.1) (Hk Gi O O O O) O (JLh (.agg [I64 c.1.From,I64 c.1.To]) (Gu G72 O O O) O (JLh (.agg [U8 (c.2.g 0),U8 (c.2.g 1),U8 (c.2.g 2),U8 (c.2.g 3),U8 (c.2.g 4),U8 (c.2.g 5),U8 (c.2.g 6),U8 (c.2.g 7),U8 (c.2.g 8),U8 (c.2.g 9),U8 (c.2.g 10),U8 (c.2.g 11),U8 (c.2.g 12),U8 (c.2.g 13),U8 (c.2.g 14),U8 (c.2.g 15),U8 (c.2.g 16),U8 (c.2.g 17),U8 (c.2.g 18),U8 (c.2.g 19),U8 (c.2.g 20),U8 (c.2.g 21),U8 (c.2.g 22),U8 (c.2.g 23),I64 e.2.2.1,I64 c.1.From,I64 c.1.To]) (Jt (cs:=[U8 (c.2.g 0),U8 (c.2.g 1),U8 (c.2.g 2),U8 (c.2.g 3),U8 (c.2.g 4),U8 (c.2.g 5),U8 (c.2.g 6),U8 (c.2.g 7),U8 (c.2.g 8),U8 (c.2.g 9),U8 (c.2.g 10),U8 (c.2.g 11),U8 (c.2.g 12),U8 (c.2.g 13),U8 (c.2.g 14),U8 (c.2.g 15),U8 (c.2.g 16),U8 (c.2.g 17),U8 (c.2.g 18),U8 (c.2.g 19),U8 (c.2.g 20),U8 (c.2.g 21),U8 (c.2.g 22),U8 (c.2.g 23),I64 e.2.2.1,I64 c.1.From,I64 c.1.To]) [(0,24),(24,1),(25,2)] Ee [.int .u8 0,.int .u8 0,.int .u8 0,.int .u8 0,.int .u8 0,.int .u8 0,.int .u8 0,.int .u8 0,.int .u8 0,.int .u8 0,.int .u8 0,.int .u8 0,.int .u8 0,.int .u8 0,.int .u8 0,.int .u8 0,.int .u8 0,.int .u8 0,.int .u8 0,.int .u8 0,.int .u8 0,.int .u8 0,.int .u8 0,.int .u8 0,E0,E0,E0] Hc4 J35 (zzQ O) O O) O (JLh (LS 27 Gx.av [(Gx.mk c.2 e.2.2.1 c.1)]) (Hb (xs:=[.agg [U8 (c.2.g 0),U8 (c.2.g 1),U8 (c.2.g 2),U8 (c.2.g 3),U8 (c.2.g 4),U8 (c.2.g 5),U8 (c.2.g 6),U8 (c.2.g 7),U8 (c.2.g 8),U8 (c.2.g 9),U8 (c.2.g 10),U8 (c.2.g 11),U8 (c.2.g 12),U8 (c.2.g 13),U8 (c.2.g 14),U8 (c.2.g 15),U8 (c.2.g 16),U8 (c.2.g 17),U8 (c.2.g 18),U8 (c.2.g 19),U8 (c.2.g 20),U8 (c.2.g 21),U8 (c.2.g 22),U8 (c.2.g 23),I64 e.2.2.1,I64 c.1.From,I64 c.1.To]]) O ⟨O,O,ø⟩ G0d J0b O O O O) O ?_)))))
          obtain⟨d8,h⟩:=J1 h
          refine JLh (OW 1031 27 Gx.av (d.1++[(Gx.mk c.2 e.2.2.1 c.1)])) (Yp (f:=Gx.av) (xs:=d.1) (ys:=[(Gx.mk c.2 e.2.2.1 c.1)]) O O O O G0d Q4f d8 (fun _=>O) (.inl O) O) O (J9 (u:=.junk) (Ht (u:=OW 1031 27 Gx.av (d.1++[(Gx.mk c.2 e.2.2.1 c.1)])) (ds:=[OW 1031 27 Gx.av (d.1++[(Gx.mk c.2 e.2.2.1 c.1)])]) J36 O O O O O O O O) (G6 (c3 _ _ ((d.1++[(Gx.mk c.2 e.2.2.1 c.1)]),(Qk.put d.2 c.2 (d.1.length:Int))) (app1 b4 h) ⟨ø,⟨⟨_,O,.same⟩,⟨_,O,.map⟩,⟨_,O,.same⟩,⟨_,O,.boxL O ⟨.same O,ø⟩⟩,⟨_,O,.boxL O ⟨.same O,ø⟩⟩,⟨_,O,.boxL O ⟨.same O,ø⟩⟩,ø⟩,O⟩)))
         ·
          refine Gp (c3 _ _ (d.1,d.2) (app1 b4 h) ⟨ø,⟨⟨_,O,.same⟩,⟨_,O,.map⟩,⟨_,O,.same⟩,⟨_,O,.boxL O ⟨.same O,ø⟩⟩,⟨_,O,.boxL O ⟨.same O,ø⟩⟩,⟨_,O,.boxL O ⟨.same O,ø⟩⟩,ø⟩,O⟩)
        ·
         intro d h
         rw [Ko] at h
         replace h:=app1 c2 (Hw h (Nat.lt_irrefl _))
         refine l5 (Js fun d9=>Jr fun e0=>(JLh (I64 e.2.2.1) (Hk Gi O O O O) O (G6 (e0 (G1 (R89 (l':=[(2,.dptr [LS 1 (E1) y.Stacks,I64 y.Height]),(9,OW 1029 1 I64 k),(17,.ptr 1022 0),(18,.ptr 1023 0),(19,I64 e.1),(112,.fn 74 [.dptr [E7 y.Stacks.length],.dptr [.dptr (Gw.cs n.s)],.dptr [I64 y.Height]]),(134,I64 e.2.2.1)]) (L':=[(1029,.spare 3 1 k.length k.length),(1030,MP 78 Gw.kv I64 d.2),(1031,.spare 80 27 d.1.length d.1.length),(1022,.box 78 [.mp 1030]),(1023,.box 81 [OW 1031 27 Gx.av d.1])]) ⟨(.sm O O),⟨⟨_,rfl,.same⟩,fmQ O,⟨_,rfl,.same⟩,fbQ O ⟨.same rfl,ø⟩,fbQ O ⟨.same rfl,ø⟩,ø⟩,rfl⟩ ?_))))))
         refine JLh (.ptr 1024 0) (Ja 1024 1 Jg O O) O (J9 (u:=.junk) (Ht (u:=I64 e.2.2.1) (ds:=[I64 e.2.2.1]) G96 O O O O O O O O) (G6 (d9 (G1 (JLh (I64 e.2.2.1) (Hk Gi O O O O) O ?_)))))
         obtain⟨b2,e1,h⟩:=J8 h
         refine JLh (I64 b2) (Hz e1 O O O) O (J9 (u:=.junk) (Ht (u:=I64 b2) (ds:=[I64 b2]) G96 O O O O O O O O) (G6 (o5 _ _ o6 (e.1,d.1,b2,d.2) (app1 l2 h) (by omega) ⟨(.sm O O),⟨⟨_,rfl,.same⟩,fmQ O,⟨_,rfl,.same⟩,fbQ O ⟨.same rfl,ø⟩,fbQ O ⟨.same rfl,ø⟩,fbQ O ⟨.same rfl,ø⟩,ø⟩,rfl⟩)))
      ·
       refine Hf (ej82 _ _ (e.1,e.2.2.2,e.2.1,e.2.2.1) h ⟨(.sm O O),⟨⟨_,O,.map⟩,⟨_,O,.same⟩,⟨_,O,.boxL O ⟨.same O,ø⟩⟩,⟨_,O,.boxL O ⟨.same O,ø⟩⟩,⟨_,O,.boxL O ⟨.same O,ø⟩⟩,ø⟩,O⟩)
     ·intro o h
      replace h:=app1 c7 h
      refine Js fun e2=>Jr fun e3=>(JLm (I64 o.1) O (JLh (BL (decide (o.1 < 0))) (J0 O O O) O (G6 (e3 (JCc O h (fun h hb=>?_) (fun h hb=>?_))))))
      ·
       refine Jr fun e4=>(JLh (E2 ([]:List G5)) (Jn 2 O O) O (JLm (I64 6) O (G6 (e4 (H0 (⟨[E2 ([]:List G5),I64 6],[],ø,O,⟨⟨_,O,.conv (.same O)⟩,⟨_,O,.conv (.same O)⟩,ø⟩,O,congrArg (fun r:(List G5)×Int=>(.tup [E2 r.1,I64 r.2]:AV)) (K0 h)⟩))))))
      ·
       refine Gp (e2 (Jr fun e5=>(JLh (.vec 1028 (([]:List G5).length) 2 (([]:List G5).length)) (H6b 1028 39 2 O O O) O (G6 (e5 (Js fun e6=>Gk ?_))))))
       obtain⟨m6,e7,h⟩:=G2a h
       refine Ha (fun a1 (i:Int×(List G5))=>loop m6 a1 i=some r) (fun a1 i=>[(18,.ptr 1023 0),(19,I64 i.1),(26,.vec 1028 i.2.length 2 i.2.length)]) (fun a1 i=>[(1030,MP 78 Gw.kv I64 o.2.1),(1031,.spare 80 27 o.2.2.1.length o.2.2.1.length),(1028,.vec 39 2 i.2.length (i.2.map G5.av)),(1022,.box 78 [.mp 1030]),(1023,.box 81 [OW 1031 27 Gx.av o.2.2.1]),(1024,.box 3 [I64 o.2.2.2])]) (fun a1=>a1) F (o.1,[]) h ⟨(.sm O O),⟨⟨_,O,.map⟩,⟨_,O,.same⟩,⟨_,O,.vec⟩,⟨_,O,.boxL O ⟨.same O,ø⟩⟩,⟨_,O,.boxL O ⟨.same O,ø⟩⟩,⟨_,O,.boxL O ⟨.same O,ø⟩⟩,ø⟩,O⟩ ?_
       clear h
       intro a1 i e8 q1 m7
       obtain⟨m8,p2,hm_156,e9,h⟩:=G03 e8
       replace h:=Hb5 e7 h
       refine Js fun f0=>Jr fun f1=>(JLh (OW 1031 27 Gx.av o.2.2.1) (Hk G28 O O O O) O (JLm (I64 i.1) O ?_))
       obtain⟨q2,a5,f2,f3,h⟩:=Qq h
       refine JLh (.dptr (Gx.cs a5)) (H1 (f:=Gx.av) (xs:=o.2.2.1) (y:=a5) O O O G0d f3 f2) O (JLh (.dptr ((Gx.cs a5).drop 24)) (Gy H8e O O O) O (JLh (I64 a5.from_) (Gm Gi O O O) O (JLh (BL (decide (0≤a5.from_))) (G40 O O O) O (G6 (f1 (JCc O h (fun h hb=>?_) (fun h hb=>?_)))))))
       ·
        refine Gp (f0 (Js fun f4=>Gk (G1 (JLm (.vec 1028 i.2.length 2 i.2.length) O (JLh (OW 1031 27 Gx.av o.2.2.1) (Hk G28 O O O O) O (JLm (I64 i.1) O ?_))))))
        obtain⟨q3,p,f5,f6,h⟩:=Qq h
        refine JLh (.dptr (Gx.cs p)) (H1 (f:=Gx.av) (xs:=o.2.2.1) (y:=p) O O O G0d f6 f5) O (JLh (.dptr [I64 p.by_.From,I64 p.by_.To]) (Gy J8c O O O) O (JLh (.agg [I64 p.by_.From,I64 p.by_.To]) (Gu G72 O O O) O (JLh (E2 [p.by_]) (Hb (xs:=[.agg [I64 p.by_.From,I64 p.by_.To]]) O ⟨O,O,ø⟩ J5 G6f O O O O) O ?_)))
        obtain⟨f7,h⟩:=J1 h
        refine JLh (.vec 1028 ((i.2++[p.by_]).length) 2 ((i.2++[p.by_]).length)) (G30 (f:=G5.av) (xs:=i.2) (ys:=[p.by_]) (ver:=i.2.length) (ver1:=(i.2++[p.by_]).length) rfl rfl rfl rfl J5 H23 f7 (fun _=>rfl) (.inl rfl) (by simp)) O (JLm (.vec 1028 ((i.2++[p.by_]).length) 2 ((i.2++[p.by_]).length)) O (G6 (f4 (G1 (JLh (OW 1031 27 Gx.av o.2.2.1) (Hk G28 O O O O) O (JLm (I64 i.1) O ?_))))))
        obtain⟨q4,a2,f8,f9,h⟩:=Qq h
        refine JLh (.dptr (Gx.cs a2)) (H1 (f:=Gx.av) (xs:=o.2.2.1) (y:=a2) O O O G0d f9 f8) O (JLh (.dptr ((Gx.cs a2).drop 24)) (Gy H8e O O O) O (JLh (I64 a2.from_) (Gm Gi O O O) O (JLm (I64 a2.from_) O (G6 (m7 _ _ m8 (a2.from_,(i.2++[p.by_])) (app1 e9 h) (by omega) ⟨(.sm O O),⟨fmQ O,⟨_,rfl,.same⟩,⟨_,rfl,.vec⟩,fbQ O ⟨.same rfl,ø⟩,fbQ O ⟨.same rfl,ø⟩,fbQ O ⟨.same rfl,ø⟩,ø⟩,rfl⟩)))))
       ·
        refine Hf (e6 (Jr fun g0=>(JLm (.vec 1028 i.2.length 2 i.2.length) O ?_)))
        obtain⟨b3,g1,h⟩:=Gg h
        refine JLh (.tup []) (Gd0 (args:=[.vec 1028 i.2.length 2 i.2.length]) (L0:=[(1028,.vec 39 2 i.2.length (i.2.map G5.av))]) (Lr:=[(1028,.vec 39 2 i.2.length (b3.map G5.av))]) O (G58 F i.2 i.2.length b3 g1) Q65 ⟨.inl O,O,ø⟩ ⟨O,ø⟩ O O O) O (G6 (g0 (Jr fun g2=>(JLm (.vec 1028 i.2.length 2 i.2.length) O (JLm (.vec 1028 i.2.length 2 i.2.length) O (JLm (I64 0) O (G6 (g2 (Ge8 [(4,E2 b3),(5,I64 0)] [(1031,.spare 80 27 o.2.2.1.length o.2.2.1.length)] 1028 rfl rfl ⟨⟨_,rfl,.same⟩,ø⟩ rfl (by exact⟨.vec,.conv (.same rfl),ø⟩) (H0 ?_))))))))))
        exact⟨[E2 b3,I64 0],[],ø,O,⟨⟨_,O,.conv (.same O)⟩,⟨_,O,.conv (.same O)⟩,ø⟩,O,congrArg (fun r:(List G5)×Int=>(.tup [E2 r.1,I64 r.2]:AV)) (K0 h)⟩
end
end Go.Proofs.Ytokjlondbjdlfaa
