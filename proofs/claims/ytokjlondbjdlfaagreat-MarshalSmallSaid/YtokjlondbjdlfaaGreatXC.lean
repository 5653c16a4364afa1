/- Walks of functions. -/
import Derived.Test.YtokjlondbjdlfaaGreatSpecGr
import Derived.Test.YtokjlondbjdlfaaGreatSpecGr
set_option maxRecDepth 100000
set_option maxHeartbeats 1000000
set_option linter.unusedVariables false
set_option linter.unusedSimpArgs false
namespace Go.Proofs.YtokjlondbjdlfaaGreat
open Go.RowKit
noncomputable section
structure Gq where
 s:Gp
 from_:Int
 by_:G2
 deriving DecidableEq,Inhabited
def Gq.cs (x:Gq):List AV:=[U8 (x.s.g 0),U8 (x.s.g 1),U8 (x.s.g 2),U8 (x.s.g 3),U8 (x.s.g 4),U8 (x.s.g 5),U8 (x.s.g 6),U8 (x.s.g 7),U8 (x.s.g 8),U8 (x.s.g 9),U8 (x.s.g 10),U8 (x.s.g 11),U8 (x.s.g 12),U8 (x.s.g 13),U8 (x.s.g 14),U8 (x.s.g 15),U8 (x.s.g 16),U8 (x.s.g 17),U8 (x.s.g 18),U8 (x.s.g 19),U8 (x.s.g 20),U8 (x.s.g 21),U8 (x.s.g 22),U8 (x.s.g 23),I64 x.from_,I64 x.by_.From,I64 x.by_.To]
def Gq.av (x:Gq):AV:=.agg x.cs
namespace XCF
open XAF
open XBF
theorem Rc4 (a b:Gp):Hb4 E8 4 79 a.ks b.ks=some (decide (a=b)):=by
 refine(show _=some (((a.g 0==b.g 0)&&((a.g 1==b.g 1)&&((a.g 2==b.g 2)&&((a.g 3==b.g 3)&&((a.g 4==b.g 4)&&((a.g 5==b.g 5)&&(true)))))))&&(((a.g 6==b.g 6)&&((a.g 7==b.g 7)&&((a.g 8==b.g 8)&&((a.g 9==b.g 9)&&((a.g 10==b.g 10)&&((a.g 11==b.g 11)&&(true)))))))&&(((a.g 12==b.g 12)&&((a.g 13==b.g 13)&&((a.g 14==b.g 14)&&((a.g 15==b.g 15)&&((a.g 16==b.g 16)&&((a.g 17==b.g 17)&&(true)))))))&&(((a.g 18==b.g 18)&&((a.g 19==b.g 19)&&((a.g 20==b.g 20)&&((a.g 21==b.g 21)&&((a.g 22==b.g 22)&&((a.g 23==b.g 23)&&(true)))))))&&(true))))) by kernel_rfl).trans (congrArg some ?_)
 rw [Bool.eq_iff_iff]
 simp only [Kk,beq_iff_eq,Km,Bool.and_true]
 constructor
 ·intro h; obtain⟨⟨s,t,u,v,w,x⟩,⟨y,z,h8,h9,c,d⟩,⟨e,f,i,j,k,l⟩,⟨m,n,o,p,q,r⟩⟩:=h; exact Gp.Qe5 s t u v w x y z h8 h9 c d e f i j k l m n o p q r
 ·intro h; subst h; simp
theorem Q13:Hp E8 42=true:=by kernel_rfl
theorem Q12:Hp E8 43=true:=by kernel_rfl
theorem Q11:Hp E8 44=true:=by kernel_rfl
theorem Q10:Hp E8 45=true:=by kernel_rfl
theorem Q09:Hp E8 67=true:=by kernel_rfl
theorem Q08:Hp E8 69=true:=by kernel_rfl
theorem G21:Qk E8 35 2 16=true:=by kernel_rfl
theorem Q04:Qk E8 82 27 48=true:=by kernel_rfl
theorem J52:Ry E8 82 0 0=true:=by kernel_rfl
theorem H6b:Ry E8 82 1 24=true:=by kernel_rfl
theorem J51:Ry E8 82 2 25=true:=by kernel_rfl
theorem Hc4:Yf E8 80 79 3=true:=by kernel_rfl
theorem H9c:placesOf E8 82=some [(0,24),(24,1),(25,2)]:=by kernel_rfl
theorem H9a:Qs E8 80=true:=by kernel_rfl
theorem G1e:Qs E8 83=true:=by kernel_rfl
theorem Gb2:Rw E8 3 1=true:=by kernel_rfl
theorem H74:Rw E8 35 2=true:=by kernel_rfl
theorem Jff:Rw E8 80 1=true:=by kernel_rfl
theorem J03:Rw E8 83 1=true:=by kernel_rfl
theorem Zy:sliceB E8 83 82 27=true:=by kernel_rfl
theorem Jfd:(E8.info? 79).bind (fun i=>i.zero.map Value.cells)=some (List.toArray [.int .u8 0,.int .u8 0,.int .u8 0,.int .u8 0,.int .u8 0,.int .u8 0,.int .u8 0,.int .u8 0,.int .u8 0,.int .u8 0,.int .u8 0,.int .u8 0,.int .u8 0,.int .u8 0,.int .u8 0,.int .u8 0,.int .u8 0,.int .u8 0,.int .u8 0,.int .u8 0,.int .u8 0,.int .u8 0,.int .u8 0,.int .u8 0]):=by kernel_rfl
theorem J02:(E8.info? 82).bind (fun i=>i.zero.map Value.cells)=some (List.toArray [.int .u8 0,.int .u8 0,.int .u8 0,.int .u8 0,.int .u8 0,.int .u8 0,.int .u8 0,.int .u8 0,.int .u8 0,.int .u8 0,.int .u8 0,.int .u8 0,.int .u8 0,.int .u8 0,.int .u8 0,.int .u8 0,.int .u8 0,.int .u8 0,.int .u8 0,.int .u8 0,.int .u8 0,.int .u8 0,.int .u8 0,.int .u8 0,E0,E0,E0]):=by kernel_rfl
theorem G1a:Qe E8 35 2=true:=by kernel_rfl
theorem Jb3:Qe E8 80 1=true:=by kernel_rfl
theorem He0:Qe E8 82 27=true:=by kernel_rfl
theorem Jb2:Qe E8 83 1=true:=by kernel_rfl
theorem Qc2:G6d E8 79 Gp.kv:=G6d.of_eq Gp.ks (by kernel_rfl) Gp.R79 4 (by decide) (fun a b=>Rc4 a b) (fun a=>by kernel_rfl) (fun a=>by simp [Instr.sameBits,Gp.ks])
end XCF
open XAF
open XBF
open XCF

def Yd (slices:List (List Int)):Option (List Int):=
 each (fun g i (b:Int) e=>
  chk (b+(g.length:Int)) fun d=>
  bif decide (d < 0) then
  (none)
  else
  (e d))
 (fun(b:Int)=>
  bnd (G33 b) fun h=>
  each (fun c j (a:(List Int)) f=>
   need (decide ((a.length+c.length)*8≤140737488355328∧a.length+c.length≤maxLen)) <|
   f (a++c))
  (fun(a:(List Int))=>
   some a) slices 0 h) slices 0 0
theorem H27 (slices:List (List Int)) (r:(List Int)) (h:Yd slices=some r):Pure E8 42 [LS 1 (E1) slices] (·=E1 r):=by
 unfold Yd at h
 refine Hj [.tmp 2] Tryz.func42 O O (Jr fun c4=>(JLh (E1 ([]:List Int)) (Jo 1 O O) O (G6 (c4 (Jr fun c5=>(JLm (I64 0) O (G6 (c5 (Js fun c6=>Jr fun c7=>(JLm (LS 1 (E1) slices) O (JLl Ge O O O fun x=>(JLm (I64 0) O (G6 (c7 (Gf ?_)))))))))))))))
 obtain⟨c8,z,a0,s,h⟩:=J7 h
 refine Ha (fun d (e:Int)=>each c8 z (List.drop d slices) d e=some r) (fun d e=>[(0,LS 1 (E1) slices),(3,I64 e),(9,LS 1 (E1) slices),(10,E7 slices.length),(11,E7 d)]) (fun d e=>[]) (fun d=>slices.length - d) 0 0 h ⟨(.sm O O),ø,rfl⟩ ?_
 clear h
 intro d e m d4 c9
 refine Jr fun a1=>(JLh (BL (decide ((d:Int) < (slices.length:Int)))) (J2 O O O) O (G6 (a1 (Js fun a2=>Gi O (fun hb=>?_) (fun hb=>?_)))))
 ·
  have n:=Jp hb
  obtain⟨j,d1,a3,a4,h⟩:=Hw m n
  replace h:=Yw a0 h
  refine Gk (a2 (Js fun a5=>Gf (Jr fun a6=>(JLh (.dptr [E1 j]) (Gz (f:=(E1)) (xs:=slices) (y:=j) O O O Ge a3 O) O (JLh (E1 j) (Gr H5 O O O) O (JLm (E1 j) O (G6 (a6 (Jr fun a7=>(JLm (I64 e) O (JLm (E1 j) O (JLl G8 O O O fun d2=>?_))))))))))))
  obtain⟨k,a8,h⟩:=Je h
  refine JLh (I64 k) (Hz a8 O O O) O (JLm (I64 k) O (G6 (a7 (Jr fun a9=>(JLm (I64 k) O (JLh (BL (decide (k < 0))) (J2 O O O) O (G6 (a9 (JCc O h (fun h hb=>?_) (fun h hb=>?_))))))))))
  ·
   cases h
  ·
   refine Gk (a5 (G1 (JLh (I64 ((d+1:Nat):Int)) (Hz (Hi n x) O O O) O (JLm (I64 ((d+1:Nat):Int)) O (G6 (c9 _ _ (d+1) k (app1 a4 h) (by omega) ⟨(.sm O O),ø,rfl⟩))))))
 ·
  have h:=app1 s (Hx m (Hc hb))
  refine Hd (c6 (Jr fun b0=>(JLm (I64 e) O ?_)))
  obtain⟨l,b1,h⟩:=Gd h
  refine G7c O O O (G80 (args:=[.sc (.slice none 0 0),I64 e]) (L0:=[]) (u:=fun p=>.vec 1098 p 1 l.length) (Lr:=fun p=>[(1098,.vec 3 1 p (l.map I64))]) O (H67.down e l b1) Q09 ⟨.inl O,O,.inl O,O,ø⟩ ø O (fun _=>O)) ?_
  rintro u_ L_ ⟨v,rfl,rfl⟩
  refine JLm (.vec 1098 v 1 l.length) O (G6 (b0 (Js fun b2=>Jr fun b3=>(JLm (LS 1 (E1) slices) O (JLl Ge O O O fun b4=>(JLm (I64 0) O (G6 (b3 (Gf ?_)))))))))
  obtain⟨w,o,b5,t,h⟩:=J7 h
  refine Ha (fun b (g:((List Int))×Nat)=>(fun(a:(List Int))=>each w o (List.drop b slices) b a=some r) g.1) (fun b g=>(fun(a:(List Int)) (gv58:Nat)=>[(6,.vec 1098 gv58 1 a.length),(25,LS 1 (E1) slices),(26,E7 slices.length),(27,E7 b)]) g.1 g.2) (fun b g=>(fun(a:(List Int)) (gv58:Nat)=>[(1098,.vec 3 1 gv58 (a.map I64))]) g.1 g.2) (fun b=>slices.length - b) 0 (l,v) h ⟨(.sm O O),⟨⟨_,rfl,.vec⟩,ø⟩,rfl⟩ ?_
  clear h
  rintro b ⟨a,gv58⟩ i d5 d0
  replace i:each w o (List.drop b slices) b a=some r:=i
  change JC _ _ _ _ [(6,.vec 1098 gv58 1 a.length),(25,LS 1 (E1) slices),(26,E7 slices.length),(27,E7 b)] [(1098,.vec 3 1 gv58 (a.map I64))]
  refine Jr fun b6=>(JLh (BL (decide ((b:Int) < (slices.length:Int)))) (J2 O O O) O (G6 (b6 (Js fun b7=>Gi O (fun hb=>?_) (fun hb=>?_)))))
  ·
   have q:=Jp hb
   obtain⟨c,d3,b8,b9,h⟩:=Hw i q
   replace h:=Yw b5 h
   refine Gk (b7 (Js fun c0=>Gf (Jr fun c1=>(JLh (.dptr [E1 c]) (Gz (f:=(E1)) (xs:=slices) (y:=c) O O O Ge b8 O) O (JLh (E1 c) (Gr H5 O O O) O (JLm (E1 c) O (G6 (c1 (G1 (JLm (.vec 1098 gv58 1 a.length) O (JLm (E1 c) O ?_)))))))))))
   obtain⟨c2,h⟩:=Ho h
   refine JLh (.vec 1098 (gv58+((a++c).length+1)) 1 ((a++c).length)) (G5d (f:=I64) (xs:=a) (ys:=c) (ver:=gv58) (ver1:=(gv58+((a++c).length+1))) rfl rfl rfl rfl G8 Ro c2 (fun _=>rfl) (.inl rfl) (by simp)) O (JLm (.vec 1098 (gv58+((a++c).length+1)) 1 ((a++c).length)) O (G6 (c0 (G1 (JLh (I64 ((b+1:Nat):Int)) (Hz (Hi q b4) O O O) O (JLm (I64 ((b+1:Nat):Int)) O (G6 (d0 _ _ (b+1) ((a++c),(gv58+((a++c).length+1))) (app1 b9 h) (by omega) ⟨(.sm O O),⟨⟨_,rfl,.vec⟩,ø⟩,rfl⟩))))))))
  ·
   have h:=app1 t (Hx i (Hc hb))
   refine Hd (b2 (Jr fun c3=>(JLm (.vec 1098 gv58 1 a.length) O (JLm (.vec 1098 gv58 1 a.length) O (G6 (c3 (H1c [(2,E1 a)] [] 1098 rfl rfl ø rfl (by exact⟨.vec,ø⟩) (H0 (fin1 (fun r:(List Int)=>(E1 r:AV)) h)))))))))

def Qn (F:Nat) (s:List G2):Option (List G2):=
 chk ((s.length:Int) - 1) fun g=>
 loop (fun c (a:Int×Int×(List G2))=>
  bif decide (a.1 < a.2.1) then
  (Qx a.2.2 a.2.1 fun b=>
   Qx a.2.2 a.1 fun d=>
   Qx a.2.2 a.1 fun h=>
   Qx (a.2.2.set a.1.toNat b) a.2.1 fun i=>
   chk (a.1+1) fun e=>
   chk (a.2.1 - 1) fun f=>
   c (e,f,((a.2.2.set a.1.toNat b).set a.2.1.toNat d)))
  else
  (some a.2.2)) F (0,g,s)
theorem G4d (F:Nat) (s:List G2) (s_q:Nat) (r:(List G2)) (h:Qn F s=some r):Jz E8 45 [.vec 1043 s_q 2 s.length] [(1043,.vec 35 2 s_q (s.map G2.av))] (fun av L'=>av=.tup []∧L'=[(1043,.vec 35 2 s_q (r.map G2.av))]):=by
 unfold Qn at h
 refine G0c [1043] [] Tryz.func45 O O (H6f O) (Jr fun a4=>(JLm (.vec 1043 s_q 2 s.length) O (Gfd (f:=G2.av) (xs:=s) Hk O O O (fun b2=>?_) O O O)))
 obtain⟨q,a5,h⟩:=Je h
 refine JLh (I64 q) (G07 a5 O O O) O (JLm (I64 0) O (JLm (I64 q) O (G6 (a4 (Gf ?_)))))
 obtain⟨a6,t,h⟩:=G0e h
 refine Ha (fun d (a:Int×Int×(List G2))=>loop a6 d a=some r) (fun d a=>[(0,.vec 1043 s_q 2 s.length),(2,I64 a.1),(3,I64 a.2.1)]) (fun d a=>[(1043,.vec 35 2 s_q (a.2.2.map G2.av))]) (fun d=>d) F (0,q,s) h ⟨(.sm O O),⟨⟨_,O,.vec⟩,ø⟩,O⟩ ?_
 clear h
 intro d a v b3 a7
 obtain⟨a8,b1,hm_31,w,h⟩:=Z7 v
 replace h:=H65 t h
 refine Js fun x=>Jr fun a0=>(JLm (I64 a.1) O (JLm (I64 a.2.1) O (JLh (BL (decide (a.1 < a.2.1))) (J2 O O O) O (G6 (a0 (JCc O h (fun h hb=>?_) (fun h hb=>?_)))))))
 ·
  refine Gk (x (Js fun a1=>Gf (R0 (l':=[(0,.vec 1043 s_q 2 s.length),(2,I64 a.1),(3,I64 a.2.1)]) (L':=[(1043,.vec 35 2 s_q (a.2.2.map G2.av))]) ⟨(.sm O O),⟨⟨_,O,.vec⟩,ø⟩,O⟩ ?_)))
  obtain⟨b,m,e,h⟩:=Yc h
  obtain⟨c,n,g,h⟩:=Yc h
  obtain⟨a9,o,i,h⟩:=Yc h
  obtain⟨b0,p,j,h⟩:=Yc h
  refine Ju [13,15] [0,0,0,0,0,0,0,0,0,0,0,0,0,0,1,0] [0,0,1,1,0,0,0,0,0,0,0,0,0,0,1,0] [[(1043,.vec 35 2 s_q (a.2.2.map G2.av))],((1043,.vec 35 2 s_q ((a.2.2.set a.1.toNat b).map G2.av))::[(1043,.vec 35 2 s_q (a.2.2.map G2.av))]),((1043,.vec 35 2 s_q (((a.2.2.set a.1.toNat b).set a.2.1.toNat c).map G2.av))::((1043,.vec 35 2 s_q ((a.2.2.set a.1.toNat b).map G2.av))::[(1043,.vec 35 2 s_q (a.2.2.map G2.av))]))] Jg (by kernel_rfl) rfl rfl ?_
  refine Gc (u:=.vec 1043 s_q 2 s.length) O O ⟨Ga (G3 O O) O,ø⟩ (Gc (u:=I64 a.1) O O ⟨Ga (G3 O O) O,ø⟩ (Gc (u:=.vec 1043 s_q 2 s.length) O O ⟨Ga (G3 O O) O,Ga (G3 O O) O,ø⟩ (Gc (u:=I64 a.2.1) O O ⟨Ga (G3 O O) O,Ga (G3 O O) O,ø⟩ (Gc (u:=.vec 1043 s_q 2 s.length) O O ⟨Ga (G3 O O) O,ø⟩ (Gc (u:=I64 a.2.1) O O ⟨Ga (G3 O O) O,ø⟩ (Gc (u:=.vptr 1043 s_q a.2.1.toNat 0) O O ⟨Ga (Zf (f:=G2.av) (xs:=a.2.2) (y:=b) O O O O Hk e m) O,ø⟩ (Gc (u:=.agg [I64 b.From,I64 b.To]) O O ⟨Ga (G6a (f:=G2.av) (xs:=a.2.2) (y:=b) G61 O O O e O O) O,ø⟩ (Gc (u:=.vec 1043 s_q 2 s.length) O O ⟨Ga (G3 O O) O,ø⟩ (Gc (u:=I64 a.1) O O ⟨Ga (G3 O O) O,ø⟩ (Gc (u:=.vptr 1043 s_q a.1.toNat 0) O O ⟨Ga (Zf (f:=G2.av) (xs:=a.2.2) (y:=c) O O O O Hk g n) O,ø⟩ (Gc (u:=.agg [I64 c.From,I64 c.To]) O O ⟨Ga (G6a (f:=G2.av) (xs:=a.2.2) (y:=c) G61 O O O g O O) O,ø⟩ (Gc (u:=.vptr 1043 s_q a.1.toNat 0) O O ⟨Ga (Zf (f:=G2.av) (xs:=a.2.2) (y:=a9) O O O O Hk i o) O,ø⟩ ?_))))))))))))
  refine H2a (u:=.junk) O O O O (Ga (Gfe (f:=G2.av) (xs:=a.2.2) (z:=b) H74 O O O O (Ex i).1 O O O O) O) (Gc (u:=.vptr 1043 s_q a.2.1.toNat 0) O O ⟨Ga (Zf (f:=G2.av) (xs:=(a.2.2.set a.1.toNat b)) (y:=b0) O O O O Hk j p) O,ø⟩ (H2a (u:=.junk) O O O O (Ga (Gfe (f:=G2.av) (xs:=(a.2.2.set a.1.toNat b)) (z:=c) H74 O O O O (Ex j).1 O O O O) O) (Rx (a1 (G1 (JLm (I64 a.1) O ?_))))))
  obtain⟨k,a2,h⟩:=Je h
  refine JLh (I64 k) (Hz a2 O O O) O (JLm (I64 a.2.1) O ?_)
  obtain⟨l,a3,h⟩:=Je h
  refine JLh (I64 l) (G07 a3 O O O) O (JLm (I64 k) O (JLm (I64 l) O (G6 (a7 _ _ a8 (k,l,((a.2.2.set a.1.toNat b).set a.2.1.toNat c)) (app1 w h) (by omega) ⟨(.sm O O),⟨⟨_,rfl,.vec⟩,ø⟩,rfl⟩))))
 ·
  refine Hd ?_
  obtain rfl:=Ez h
  exact⟨[],[(1043,.vec 35 2 s_q (a.2.2.map G2.av))],⟨⟨_,O,.vec⟩,ø⟩,O,ø,O,O⟩

def Jh (F:Nat) (y:Gh) (order:List Int):Option ((List G2)×Int):=
 bnd (Rb y order) fun z=>
 bif decide (z.2≠0) then
 (some ([],z.2))
 else
 (bnd (Yd y.Stacks) fun r8=>
  bif ((decide (5 < (r8.length:Int)))||(decide (4 < (y.Stacks.length:Int)))) then
  (some ([],5))
  else
  (each (fun a1 b0 (f:(List Int)) p=>
    bnd (Q6 order a1) fun k=>
    need (decide ((f.length+[k].length)*8≤140737488355328∧f.length+[k].length≤maxLen)) <|
    p (f++[k]))
   (fun(f:(List Int))=>
    each (fun a2 a3 (g:Int×Gp) q=>
     each (fun b1 a4 (e:Int×Gp) r=>
      bnd (Rm (a3:Int) 3) fun a5=>
      bnd (Rm (a4:Int) 5) fun a6=>
      r (IntKind.u8.wrap (e.1+1),(e.2.set (a5*6+a6*1) (IntKind.u8.wrap (e.1+1)))))
     (fun(e:Int×Gp)=>
      q (e.1,e.2)) a2 0 (g.1,g.2))
    (fun(g:Int×Gp)=>
     jp (fun l=>
      loop (fun t (a:Int×(List Gq)×Int×(Qb Gp Int))=>
       bif decide (a.2.2.1 < (a.2.1.length:Int)) then
       (Qx a.2.1 a.2.2.1 fun m=>
        bnd (Rc F m.s (y.Stacks.length:Int) f) fun a7=>
        bif a7 then
        (l (a.2.2.1,a.2.2.2,a.2.1,a.2.2.1))
        else
        (bnd (Zq m.s (y.Stacks.length:Int) y.Height) fun b2=>
         bnd (Y2 F (y.Stacks.length:Int) m.s y.Height) fun n=>
         each (fun c a8 (b:(List Gq)×(Qb Gp Int)) j=>
          bnd (some (Qb.get b.2 c.2 0)) fun a9=>
          bif (!(Qb.has b.2 c.2)) then
          (need (decide ((b.1.length+[(Gq.mk c.2 a.2.2.1 c.1)].length)*48≤140737488355328∧b.1.length+[(Gq.mk c.2 a.2.2.1 c.1)].length≤maxLen)) <|
           j ((b.1++[(Gq.mk c.2 a.2.2.1 c.1)]),(Qb.put b.2 c.2 (b.1.length:Int))))
          else
          (j (b.1,b.2)))
         (fun(b:(List Gq)×(Qb Gp Int))=>
          chk (a.2.2.1+1) fun u=>
          t (a.1,b.1,u,b.2)) n 0 (a.2.1,a.2.2.2)))
       else
       (l (a.1,a.2.2.2,a.2.1,a.2.2.1))) F ((-1),[(Gq.mk g.2 (-1) (G2.mk 0 0))],0,(Qb.put (Qb.empty:Qb Gp Int) g.2 0))) fun(h:Int×(Qb Gp Int)×(List Gq)×Int)=>
     bif decide (h.1 < 0) then
     (some ([],6))
     else
     (loop (fun o (d:Int×(List G2))=>
       Qx h.2.2.1 d.1 fun v=>
       bif decide (0≤v.from_) then
       (Qx h.2.2.1 d.1 fun i=>
        need (decide ((d.2.length+[i.by_].length)*16≤140737488355328∧d.2.length+[i.by_].length≤maxLen)) <|
        Qx h.2.2.1 d.1 fun w=>
        o (w.from_,(d.2++[i.by_])))
       else
       (bnd (Qn F d.2) fun x=>
        some (x,0))) F (h.1,[]))) y.Stacks 0 (0,Gp.zero)) r8 0 [0]))
abbrev Ed (a:Int×Gp):List AV:=[U8 (a.2.g 0),U8 (a.2.g 1),U8 (a.2.g 2),U8 (a.2.g 3),U8 (a.2.g 4),U8 (a.2.g 5),U8 (a.2.g 6),U8 (a.2.g 7),U8 (a.2.g 8),U8 (a.2.g 9),U8 (a.2.g 10),U8 (a.2.g 11),U8 (a.2.g 12),U8 (a.2.g 13),U8 (a.2.g 14),U8 (a.2.g 15),U8 (a.2.g 16),U8 (a.2.g 17),U8 (a.2.g 18),U8 (a.2.g 19),U8 (a.2.g 20),U8 (a.2.g 21),U8 (a.2.g 22),U8 (a.2.g 23),I64 (-1),I64 0,I64 0]
abbrev Ee:List AV:=[U8 0,U8 0,U8 0,U8 0,U8 0,U8 0,U8 0,U8 0,U8 0,U8 0,U8 0,U8 0,U8 0,U8 0,U8 0,U8 0,U8 0,U8 0,U8 0,U8 0,U8 0,U8 0,U8 0,U8 0,I64 0,I64 0,I64 0]
theorem G34 (F:Nat) (y:Gh) (order:List Int) (r:(List G2)×Int) (h:Jh F y order=some r):Pure E8 21 [.agg [LS 1 (E1) y.Stacks,I64 y.Height],E1 order] (·=.tup [E2 r.1,I64 r.2]):=by
 unfold Jh at h
 refine Hj [.tmp 4,.tmp 5] Tryz.func21 O O (Jr fun m9=>(JLh (.ptr 1035 0) (Qw (cs:=[LS 1 (E1) y.Stacks,I64 y.Height]) 1035 O O O O O) O (JLh (E2 ([]:List G2)) (Jo 2 O O) O (JLm (I64 0) O (G6 (m9 (H7 [(1,E1 order),(2,.dptr [LS 1 (E1) y.Stacks,I64 y.Height])] [] 1035 rfl rfl rfl ø rfl (by exact⟨.conv (.same rfl),.ptr,ø⟩) (Je9 (Js fun n0=>Jr fun n1=>(JLh (.agg [LS 1 (E1) y.Stacks,I64 y.Height]) (Gt Hf O O O) O (JLm (E1 order) O ?_)))))))))))
 obtain⟨x,n2,h⟩:=Gd h
 refine JLh (.tup [I64 x.1,I64 x.2]) (Gu O (Zp y order x n2) Gb7 ⟨O,O,O,O,ø⟩) O (JLm (.tup [I64 x.1,I64 x.2]) O (JLh (I64 x.1) (Gw O O O) O (JLh (I64 x.2) (Gw O O O) O (JLm (I64 x.1) O (JLm (I64 x.2) O (G6 (n1 (Jr fun n3=>(JLm (I64 x.2) O (JLh (BL (decide (x.2≠0))) (G1c O O O) O (G6 (n3 (JCc O h (fun h hb=>?_) (fun h hb=>?_))))))))))))))
 ·
  refine Jr fun n4=>(JLm (I64 x.2) O (JLh (E2 ([]:List G2)) (Jo 2 O O) O (JLm (I64 x.2) O (G6 (n4 (H0 (⟨[E2 ([]:List G2),I64 x.2],[],ø,O,⟨⟨_,O,.conv (.same O)⟩,⟨_,O,.conv (.same O)⟩,ø⟩,O,congrArg (fun r:(List G2)×Int=>(.tup [E2 r.1,I64 r.2]:AV)) (Ez h)⟩)))))))
 ·
  refine Gk (n0 (Jr fun n5=>(JLh (.dptr [LS 1 (E1) y.Stacks,I64 y.Height]) (H1 J8 O O O) O (JLh (LS 1 (E1) y.Stacks) (Gr Gv O O O) O ?_))))
  obtain⟨z,n6,h⟩:=Gd h
  refine JLh (E1 z) (Gu O (H27 y.Stacks z n6) Q13 ⟨O,O,ø⟩) O (JLm (E1 z) O (G6 (n5 (Js fun n7=>Jr fun g5=>(JLm (E1 z) O (JLl G8 O O O fun p3=>(JLh (BL (decide (5 < (z.length:Int)))) (G08 O O O) O (JLm (BL (decide (5 < (z.length:Int)))) O (JLo (.dptr [LS 1 (E1) y.Stacks,I64 y.Height]) [] O .scf ø (fun hc=>H1 J8 O O O) O (JLo (LS 1 (E1) y.Stacks) [43] O .scf ⟨Ua,ø⟩ (fun hc=>Gr Gv O O O) O (JLo (E7 y.Stacks.length) [44] O .scf ⟨Ua,ø⟩ (fun hc=>Re (f:=(E1)) (xs:=y.Stacks) Ge O O) O (JLo (BL (decide (4 < (y.Stacks.length:Int)))) [45] O .scf ⟨Ua,ø⟩ (fun hc=>G08 O O O) O (JLh (BL ((decide (5 < (z.length:Int)))||(decide (4 < (y.Stacks.length:Int))))) (G17 O O O O) O (G6 (g5 ?_)))))))))))))))
  refine JCc O h ?_ ?_<;>intro h hb
  ·
   refine Jr fun g6=>(JLh (E2 ([]:List G2)) (Jo 2 O O) O (JLm (I64 5) O (G6 (g6 (H0 (⟨[E2 ([]:List G2),I64 5],[],ø,O,⟨⟨_,O,.conv (.same O)⟩,⟨_,O,.conv (.same O)⟩,ø⟩,O,congrArg (fun r:(List G2)×Int=>(.tup [E2 r.1,I64 r.2]:AV)) (Ez h)⟩))))))
  ·
   refine Gk (n7 (Jr fun g7=>(JLh (OW 1044 1 I64 [0]) (H95 1044 (f:=I64) [0] O ⟨O,O,ø⟩ G8 J6 O O O O O) O (JLm (OW 1044 1 I64 [0]) O (G6 (g7 (Js fun g8=>Jr fun g9=>(JLm (E1 z) O (JLl G8 O O O fun h0=>(JLm (I64 0) O (G6 (g9 (Gf ?_)))))))))))))
   obtain⟨n8,h1,h2,c4,h⟩:=J7 h
   refine Ha (fun w (k:(List Int))=>each n8 h1 (List.drop w z) w k=some r) (fun w k=>[(1,E1 order),(2,.dptr [LS 1 (E1) y.Stacks,I64 y.Height]),(9,OW 1044 1 I64 k),(49,E1 z),(50,E7 z.length),(51,E7 w)]) (fun w k=>[(1044,.spare 3 1 k.length k.length)]) (fun w=>z.length - w) 0 [0] h ⟨(.sm O O),⟨⟨_,rfl,.same⟩,ø⟩,rfl⟩ ?_
   clear h
   intro w k b5 q5 n9
   refine Jr fun h3=>(JLh (BL (decide ((w:Int) < (z.length:Int)))) (J2 O O O) O (G6 (h3 (Js fun h4=>Gi O (fun hb=>?_) (fun hb=>?_)))))
   ·
    have b6:=Jp hb
    obtain⟨a6,p4,h5,h6,h⟩:=Hw b5 b6
    replace h:=Yw h2 h
    refine Gk (h4 (Js fun h7=>Gf (Jr fun h8=>(JLh (.dptr [I64 a6]) (Gz (f:=I64) (xs:=z) (y:=a6) O O O G8 h5 O) O (JLh (I64 a6) (Gr Gj O O O) O (JLm (I64 a6) O (G6 (h8 (G1 (JLm (OW 1044 1 I64 k) O (JLm (E1 order) O (JLm (I64 a6) O ?_))))))))))))
    obtain⟨a3,h9,h⟩:=Gd h
    refine JLh (I64 a3) (Gu O (Ya order a6 a3 h9) G5b ⟨O,O,O,O,ø⟩) O (JLh (E1 [a3]) (H4 (xs:=[I64 a3]) O ⟨O,O,ø⟩ G8 J6 O O O O) O ?_)
    obtain⟨i0,h⟩:=Ho h
    refine JLh (OW 1044 1 I64 (k++[a3])) (R3 (f:=I64) (xs:=k) (ys:=[a3]) O O O O G8 Ro i0 (fun _=>O) (.inl O) O) O (JLm (OW 1044 1 I64 (k++[a3])) O (G6 (h7 (G1 (JLh (I64 ((w+1:Nat):Int)) (Hz (Hi b6 h0) O O O) O (JLm (I64 ((w+1:Nat):Int)) O (G6 (n9 _ _ (w+1) (k++[a3]) (app1 h6 h) (by omega) ⟨(.sm O O),⟨⟨_,rfl,.same⟩,ø⟩,rfl⟩))))))))
   ·
    have h:=app1 c4 (Hx b5 (Hc hb))
    refine Hd (g8 (Jr fun i1=>(JLh (.ptr 1036 0) (Gc9 1036 [U8 0,U8 0,U8 0,U8 0,U8 0,U8 0,U8 0,U8 0,U8 0,U8 0,U8 0,U8 0,U8 0,U8 0,U8 0,U8 0,U8 0,U8 0,U8 0,U8 0,U8 0,U8 0,U8 0,U8 0] [.int .u8 0,.int .u8 0,.int .u8 0,.int .u8 0,.int .u8 0,.int .u8 0,.int .u8 0,.int .u8 0,.int .u8 0,.int .u8 0,.int .u8 0,.int .u8 0,.int .u8 0,.int .u8 0,.int .u8 0,.int .u8 0,.int .u8 0,.int .u8 0,.int .u8 0,.int .u8 0,.int .u8 0,.int .u8 0,.int .u8 0,.int .u8 0] Jfd (zzQ O) O O) O (G6 (i1 (Jr fun i2=>(JLm (U8 0) O (G6 (i2 (Js fun i3=>?_))))))))))
    refine Jr fun i4=>(JLh (.dptr [LS 1 (E1) y.Stacks,I64 y.Height]) (H1 J8 O O O) O (JLh (LS 1 (E1) y.Stacks) (Gr Gv O O O) O (JLl Ge O O O fun i5=>(JLm (I64 0) O (G6 (i4 (Gf ?_)))))))
    obtain⟨o0,i6,i7,c5,h⟩:=J7 h
    refine Ha (fun q (j:Int×Gp)=>each o0 i6 (List.drop q y.Stacks) q j=some r) (fun q j=>[(2,.dptr [LS 1 (E1) y.Stacks,I64 y.Height]),(9,OW 1044 1 I64 k),(12,.ptr 1036 0),(13,U8 j.1),(63,LS 1 (E1) y.Stacks),(64,E7 y.Stacks.length),(65,E7 q)]) (fun q j=>[(1044,.spare 3 1 k.length k.length),(1036,.box 79 [U8 (j.2.g 0),U8 (j.2.g 1),U8 (j.2.g 2),U8 (j.2.g 3),U8 (j.2.g 4),U8 (j.2.g 5),U8 (j.2.g 6),U8 (j.2.g 7),U8 (j.2.g 8),U8 (j.2.g 9),U8 (j.2.g 10),U8 (j.2.g 11),U8 (j.2.g 12),U8 (j.2.g 13),U8 (j.2.g 14),U8 (j.2.g 15),U8 (j.2.g 16),U8 (j.2.g 17),U8 (j.2.g 18),U8 (j.2.g 19),U8 (j.2.g 20),U8 (j.2.g 21),U8 (j.2.g 22),U8 (j.2.g 23)])]) (fun q=>y.Stacks.length - q) 0 (0,Gp.zero) h ⟨(.sm O O),⟨⟨_,rfl,.same⟩,fbQ O (.sm O O),ø⟩,rfl⟩ ?_
    clear h
    intro q j b7 q6 o1
    refine Jr fun i8=>(JLh (BL (decide ((q:Int) < (y.Stacks.length:Int)))) (J2 O O O) O (G6 (i8 (Js fun i9=>Gi O (fun hb=>?_) (fun hb=>?_)))))
    ·
     have b8:=Jp hb
     obtain⟨a0,p5,j0,j1,h⟩:=Hw b7 b8
     replace h:=Yw i7 h
     refine Gk (i9 (Js fun j2=>Gf (Jr fun j3=>(JLm (E7 q) O (JLh (.dptr [E1 a0]) (Gz (f:=(E1)) (xs:=y.Stacks) (y:=a0) O O O Ge j0 O) O (JLh (E1 a0) (Gr H5 O O O) O (JLm (E7 q) O (JLm (E1 a0) O (G6 (j3 (Jr fun j4=>(JLm (E1 a0) O (JLl G8 O O O fun j5=>(JLm (I64 0) O (G6 (j4 (Gf ?_)))))))))))))))))
     obtain⟨o2,j6,j7,c6,h⟩:=J7 h
     refine Ha (fun t (l:Int×Gp)=>each o2 j6 (List.drop t a0) t l=some r) (fun t l=>[(2,.dptr [LS 1 (E1) y.Stacks,I64 y.Height]),(9,OW 1044 1 I64 k),(12,.ptr 1036 0),(13,U8 l.1),(14,E7 q),(63,LS 1 (E1) y.Stacks),(64,E7 y.Stacks.length),(65,E7 q),(71,E7 a0.length),(72,E7 t)]) (fun t l=>[(1044,.spare 3 1 k.length k.length),(1036,.box 79 [U8 (l.2.g 0),U8 (l.2.g 1),U8 (l.2.g 2),U8 (l.2.g 3),U8 (l.2.g 4),U8 (l.2.g 5),U8 (l.2.g 6),U8 (l.2.g 7),U8 (l.2.g 8),U8 (l.2.g 9),U8 (l.2.g 10),U8 (l.2.g 11),U8 (l.2.g 12),U8 (l.2.g 13),U8 (l.2.g 14),U8 (l.2.g 15),U8 (l.2.g 16),U8 (l.2.g 17),U8 (l.2.g 18),U8 (l.2.g 19),U8 (l.2.g 20),U8 (l.2.g 21),U8 (l.2.g 22),U8 (l.2.g 23)])]) (fun t=>a0.length - t) 0 (j.1,j.2) h ⟨(.sm O O),⟨⟨_,rfl,.same⟩,fbQ O (.sm O O),ø⟩,rfl⟩ ?_
     clear h
     intro t l b9 q7 o3
     refine Jr fun j8=>(JLh (BL (decide ((t:Int) < (a0.length:Int)))) (J2 O O O) O (G6 (j8 (Js fun j9=>Gi O (fun hb=>?_) (fun hb=>?_)))))
     ·
      have c0:=Jp hb
      obtain⟨q8,p6,p7,k0,h⟩:=Hw b9 c0
      replace h:=Yw j7 h
      refine Gk (j9 (Js fun k1=>Gf (Jr fun k2=>(JLm (E7 t) O (JLm (E7 t) O (G6 (k2 (Jr fun k3=>(JLm (U8 l.1) O (JLh (U8 (IntKind.u8.wrap (l.1+1))) (Hz O O O O) O (JLm (U8 (IntKind.u8.wrap (l.1+1))) O (G6 (k3 (G1 (JLm (E7 q) O (JLm (E7 t) O (JLm (U8 (IntKind.u8.wrap (l.1+1))) O ?_)))))))))))))))))
      obtain⟨c1,a8,h⟩:=Gd h
      refine JLh (.ptr 1036 (0+c1*6)) (H20 G5f O O O (H8 a8).1 (Nat.succ_le_succ (H8 a8).2)) O ?_
      obtain⟨g3,a9,h⟩:=Gd h
      refine JLh (.ptr 1036 ((0+c1*6)+g3*1)) (H20 G85 O O O (H8 a9).1 (Nat.succ_le_succ (H8 a9).2)) O (Jb (u:=.junk) (H62 (u:=U8 (IntKind.u8.wrap (l.1+1))) Hc3 O O O O O O (Gp.Qdb (H8 a8).2 (H8 a9).2) (Gp.Q40 l.2 (H8 a8).2 (H8 a9).2 (IntKind.u8.wrap (l.1+1)))) (G6 (k1 (G1 (JLh (I64 ((t+1:Nat):Int)) (Hz (Hi c0 j5) O O O) O (JLm (I64 ((t+1:Nat):Int)) O (G6 (o3 _ _ (t+1) (IntKind.u8.wrap (l.1+1),(l.2.set (c1*6+g3*1) (IntKind.u8.wrap (l.1+1)))) (app1 k0 h) (by omega) ⟨(.sm O O),⟨⟨_,rfl,.same⟩,fbQ O (.sm O O),ø⟩,rfl⟩))))))))
     ·
      have h:=app1 c6 (Hx b9 (Hc hb))
      refine Hd (j2 (G1 (JLh (I64 ((q+1:Nat):Int)) (Hz (Hi b8 i5) O O O) O (JLm (I64 ((q+1:Nat):Int)) O (G6 (o1 _ _ (q+1) (l.1,l.2) (app1 j1 h) (by omega) ⟨(.sm O O),⟨⟨_,rfl,.same⟩,fbQ O (.sm O O),ø⟩,rfl⟩))))))
    ·
     have h:=app1 c5 (Hx b7 (Hc hb))
     refine Hd (i3 (Jr fun k4=>(JLh (.mp 1045) (Q51 1045 Gp.kv I64 O O) O (JLh (.agg (Gp.cs j.2)) (Jc G60 O O O O) O (Jb (u:=.junk) (Ja7 (m:=(Qb.empty:Qb Gp Int)) (a:=j.2) (v:=0) O O O O O O Qc2 Hc4) (JLm (.mp 1045) O (JLh (.ptr 1037 0) (Ji 1037 1 Jb3 O O) O (Jb (u:=.junk) (Hu (u:=.mp 1045) (ds:=[.mp 1045]) Jff O O O O O O O O) (G6 (k4 ?_))))))))))
     refine fzQ [(2,.dptr [LS 1 (E1) y.Stacks,I64 y.Height]),(9,OW 1044 1 I64 k),(12,.dptr (Gp.cs j.2)),(17,.ptr 1037 0)] [(1044,.spare 3 1 k.length k.length),(1045,MP 80 Gp.kv I64 (Qb.put (Qb.empty:Qb Gp Int) j.2 0)),(1037,.box 80 [.mp 1045])] 1036 rfl rfl rfl ⟨⟨_,rfl,.same⟩,fmQ O,⟨_,rfl,.boxEq rfl rfl⟩,ø⟩ rfl ?_
     refine Jr fun k5=>(JLh (.agg (Gp.cs j.2)) (Gt G60 O O O) O (JLh (.agg (Ed j)) (Jf (cs:=(Ed j)) [(0,24),(24,1),(25,2)] Ee [.int .u8 0,.int .u8 0,.int .u8 0,.int .u8 0,.int .u8 0,.int .u8 0,.int .u8 0,.int .u8 0,.int .u8 0,.int .u8 0,.int .u8 0,.int .u8 0,.int .u8 0,.int .u8 0,.int .u8 0,.int .u8 0,.int .u8 0,.int .u8 0,.int .u8 0,.int .u8 0,.int .u8 0,.int .u8 0,.int .u8 0,.int .u8 0,E0,E0,E0] H9c J02 (zzQ O) O O) O (JLh (OW 1046 27 Gq.av [(Gq.mk j.2 (-1) (G2.mk 0 0))]) (H95 1046 (f:=Gq.av) [(Gq.mk j.2 (-1) (G2.mk 0 0))] O ⟨O,O,ø⟩ Zy He0 O O O O O) O (JLh (.ptr 1038 0) (Ji 1038 1 Jb2 O O) O (Jb (u:=.junk) (Hu (u:=OW 1046 27 Gq.av [(Gq.mk j.2 (-1) (G2.mk 0 0))]) (ds:=[OW 1046 27 Gq.av [(Gq.mk j.2 (-1) (G2.mk 0 0))]]) J03 O O O O O O O O) (G6 (k5 ?_)))))))
     refine Jr fun k6=>(JLm (I64 (-1)) O (G6 (k6 (Js fun k7=>Jea (k7 ?_)))))
     obtain⟨k8,c7,h⟩:=G23 h
     refine Zr (fun o:Int×(Qb Gp Int)×(List Gq)×Int=>k8 o=some r) (fun o=>[(18,.ptr 1038 0),(19,I64 o.1)]) (fun o=>[(1045,MP 80 Gp.kv I64 o.2.1),(1046,.spare 82 27 o.2.2.1.length o.2.2.1.length),(1037,.box 80 [.mp 1045]),(1038,.box 83 [OW 1046 27 Gq.av o.2.2.1]),(1039,.box 3 [I64 o.2.2.2])]) (fun Kj82 ej82=>?_) ?_
     ·
      refine Jr fun k9=>(JLh (.ptr 1039 0) (Ji 1039 1 J6 O O) O (Jb (u:=.junk) (Hu (u:=I64 0) (ds:=[I64 0]) Gb2 O O O O O O O O) (G6 (k9 (Gf ?_)))))
      obtain⟨o4,l0,h⟩:=G0e h
      refine Ha (fun a7 (e:Int×(List Gq)×Int×(Qb Gp Int))=>loop o4 a7 e=some r) (fun a7 e=>[(2,.dptr [LS 1 (E1) y.Stacks,I64 y.Height]),(9,OW 1044 1 I64 k),(17,.ptr 1037 0),(18,.ptr 1038 0),(19,I64 e.1),(20,.ptr 1039 0)]) (fun a7 e=>[(1044,.spare 3 1 k.length k.length),(1045,MP 80 Gp.kv I64 e.2.2.2),(1046,.spare 82 27 e.2.1.length e.2.1.length),(1037,.box 80 [.mp 1045]),(1038,.box 83 [OW 1046 27 Gq.av e.2.1]),(1039,.box 3 [I64 e.2.2.1])]) (fun a7=>a7) F ((-1),[(Gq.mk j.2 (-1) (G2.mk 0 0))],0,(Qb.put (Qb.empty:Qb Gp Int) j.2 0)) h ⟨(.sm O O),⟨⟨_,rfl,.same⟩,fmQ O,⟨_,rfl,.same⟩,fbQ O ⟨.same rfl,ø⟩,fbQ O ⟨.same rfl,ø⟩,fbQ O ⟨.same rfl,ø⟩,ø⟩,rfl⟩ ?_
      clear h
      intro a7 e l1 q9 o5
      obtain⟨o6,p8,hm_84,l2,h⟩:=Z7 l1
      replace h:=H65 l0 h
      refine Js fun l3=>Jr fun l4=>(JLh (I64 e.2.2.1) (Ht Gj O O O O) O (JLh (OW 1046 27 Gq.av e.2.1) (Ht G1e O O O O) O (JLl Zy O O O fun p9=>(JLh (BL (decide (e.2.2.1 < (e.2.1.length:Int)))) (J2 O O O) O (G6 (l4 (JCc O h (fun h hb=>?_) (fun h hb=>?_))))))))
      ·
       refine Gk (l3 (Js fun l5=>Gf (Jr fun l6=>(JLh (OW 1046 27 Gq.av e.2.1) (Ht G1e O O O O) O (JLh (I64 e.2.2.1) (Ht Gj O O O O) O ?_)))))
       obtain⟨r0,n,l7,l8,h⟩:=Rf h
       refine JLh (.dptr (Gq.cs n)) (Gz (f:=Gq.av) (xs:=e.2.1) (y:=n) O O O Zy l8 l7) O (JLh (.dptr (Gq.cs n)) (H1 J52 O O O) O (JLh (.agg (Gp.cs n.s)) (Gt G60 O O O) O (JLh (.ptr 1040 0) (Ji 1040 24 H2e O O) O (Jb (u:=.junk) (Hu (u:=.agg (Gp.cs n.s)) (ds:=[U8 (n.s.g 0),U8 (n.s.g 1),U8 (n.s.g 2),U8 (n.s.g 3),U8 (n.s.g 4),U8 (n.s.g 5),U8 (n.s.g 6),U8 (n.s.g 7),U8 (n.s.g 8),U8 (n.s.g 9),U8 (n.s.g 10),U8 (n.s.g 11),U8 (n.s.g 12),U8 (n.s.g 13),U8 (n.s.g 14),U8 (n.s.g 15),U8 (n.s.g 16),U8 (n.s.g 17),U8 (n.s.g 18),U8 (n.s.g 19),U8 (n.s.g 20),U8 (n.s.g 21),U8 (n.s.g 22),U8 (n.s.g 23)]) H73 O O O O O O O O) (G6 (l6 ?_))))))
       refine fzQ [(2,.dptr [LS 1 (E1) y.Stacks,I64 y.Height]),(9,OW 1044 1 I64 k),(17,.ptr 1037 0),(18,.ptr 1038 0),(19,I64 e.1),(20,.ptr 1039 0),(21,.dptr (Gp.cs n.s))] [(1044,.spare 3 1 k.length k.length),(1045,MP 80 Gp.kv I64 e.2.2.2),(1046,.spare 82 27 e.2.1.length e.2.1.length),(1037,.box 80 [.mp 1045]),(1038,.box 83 [OW 1046 27 Gq.av e.2.1]),(1039,.box 3 [I64 e.2.2.1])] 1040 rfl rfl rfl ⟨⟨_,rfl,.same⟩,fmQ O,⟨_,rfl,.same⟩,⟨_,rfl,.boxEq rfl rfl⟩,⟨_,rfl,.boxEq rfl rfl⟩,⟨_,rfl,.boxEq rfl rfl⟩,ø⟩ rfl (Js fun l9=>?_)
       refine Jr fun m0=>(JLh (.dptr [LS 1 (E1) y.Stacks,I64 y.Height]) (H1 J8 O O O) O (JLh (LS 1 (E1) y.Stacks) (Gr Gv O O O) O (JLl Ge O O O fun o8=>(JLm (OW 1044 1 I64 k) O ?_))))
       obtain⟨g4,m1,h⟩:=Gd h
       refine JLh (BL g4) (Gu O (Gef F n.s (y.Stacks.length:Int) k g4 m1) Q12 ⟨O,O,O,O,O,O,ø⟩) O (G6 (m0 (JCc O h (fun h hb=>?_) (fun h hb=>?_))))
       ·
        refine Jr fun m2=>(JLh (I64 e.2.2.1) (Ht Gj O O O O) O (JLm (I64 e.2.2.1) O (G6 (m2 (Hd (ej82 _ _ (e.2.2.1,e.2.2.2,e.2.1,e.2.2.1) h ⟨(.sm O O),⟨⟨_,O,.map⟩,⟨_,O,.same⟩,⟨_,O,.boxL O ⟨.same O,ø⟩⟩,⟨_,O,.boxL O ⟨.same O,ø⟩⟩,⟨_,O,.boxL O ⟨.same O,ø⟩⟩,ø⟩,O⟩))))))
       ·
        refine Gk (l9 (Jr fun m3=>(JLh (.dptr [LS 1 (E1) y.Stacks,I64 y.Height]) (H1 J8 O O O) O (JLh (LS 1 (E1) y.Stacks) (Gr Gv O O O) O (JLl Ge O O O fun o9=>(JLh (.dptr [I64 y.Height]) (H1 Rt O O O) O (JLh (I64 y.Height) (Gr Gj O O O) O ?_)))))))
        obtain⟨o7,m4,h⟩:=Gd h
        refine JLh (.fn 69 [.dptr [E7 y.Stacks.length],.dptr [.dptr (Gp.cs n.s)],.dptr [I64 y.Height]]) (Gu O (Gfc n.s (y.Stacks.length:Int) y.Height o7 m4) Q11 ⟨O,O,O,O,O,O,ø⟩) O (G6 (m3 (Gf ?_)))
        obtain⟨a4,hy_109,h⟩:=Gd h
        obtain⟨m5,c8,c9,c2,h⟩:=J7 h
        refine Ja5 (ps:=[113,114]) [(2,.dptr [LS 1 (E1) y.Stacks,I64 y.Height]),(9,OW 1044 1 I64 k),(17,.ptr 1037 0),(18,.ptr 1038 0),(19,I64 e.1),(20,.ptr 1039 0),(112,.fn 69 [.dptr [E7 y.Stacks.length],.dptr [.dptr (Gp.cs n.s)],.dptr [I64 y.Height]])] (a4.map (fun y:G2×Gp=>[.agg [I64 y.1.From,I64 y.1.To],.agg (Gp.cs y.2)])) (fun b0 (d:(List Gq)×(Qb Gp Int))=>each m5 c8 (List.drop b0 a4) b0 d=some r) (fun d=>[(1044,.spare 3 1 k.length k.length),(1045,MP 80 Gp.kv I64 d.2),(1046,.spare 82 27 d.1.length d.1.length),(1037,.box 80 [.mp 1045]),(1038,.box 83 [OW 1046 27 Gq.av d.1]),(1039,.box 3 [I64 e.2.2.1])]) (e.2.1,e.2.2.2) rfl rfl rfl Q08 (Gcc.down F (y.Stacks.length:Int) n.s y.Height a4 hy_109) h ⟨(.sm O O),⟨⟨_,rfl,.same⟩,fmQ O,⟨_,rfl,.same⟩,fbQ O ⟨.same rfl,trivial⟩,fbQ O ⟨.same rfl,trivial⟩,fbQ O ⟨.same rfl,trivial⟩,trivial⟩,rfl⟩ rfl (fun us_ hus_=>by obtain⟨_,_,rfl⟩:=Kp.1 hus_; rfl) (fun p_ hp_=>Nat.blt_eq.mp (by revert p_; decide)) (fun _=>(.sm O O)) (fun _=>rfl) ?_ ?_
        ·
         intro b0 us_ d hu_ d0 lr_ q0 c3
         obtain⟨d1,rfl⟩:=R2a hu_
         obtain⟨c,p0,d2,b4,h⟩:=Hw d0 d1
         replace h:=Yw c9 h
         obtain⟨_,rfl⟩:=Ex d2
         generalize a4[b0]=c at h ⊢
         change JC _ _ _ _ [(114,.agg (Gp.cs c.2)),(113,.agg [I64 c.1.From,I64 c.1.To]),(2,.dptr [LS 1 (E1) y.Stacks,I64 y.Height]),(9,OW 1044 1 I64 k),(17,.ptr 1037 0),(18,.ptr 1038 0),(19,I64 e.1),(20,.ptr 1039 0),(112,.fn 69 [.dptr [E7 y.Stacks.length],.dptr [.dptr (Gp.cs n.s)],.dptr [I64 y.Height]])] [(1044,.spare 3 1 k.length k.length),(1045,MP 80 Gp.kv I64 d.2),(1046,.spare 82 27 d.1.length d.1.length),(1037,.box 80 [.mp 1045]),(1038,.box 83 [OW 1046 27 Gq.av d.1]),(1039,.box 3 [I64 e.2.2.1])]
         refine Jr fun d3=>(JLh (.ptr 1041 0) (Ji 1041 2 G1a O O) O (Jb (u:=.junk) (Hu (u:=.agg [I64 c.1.From,I64 c.1.To]) (ds:=[I64 c.1.From,I64 c.1.To]) H74 O O O O O O O O) (G6 (d3 ?_))))
         refine fzQ [(17,.ptr 1037 0),(18,.ptr 1038 0),(20,.ptr 1039 0),(22,.dptr [I64 c.1.From,I64 c.1.To]),(114,.agg (Gp.cs c.2))] [(1044,.spare 3 1 k.length k.length),(1045,MP 80 Gp.kv I64 d.2),(1046,.spare 82 27 d.1.length d.1.length),(1037,.box 80 [.mp 1045]),(1038,.box 83 [OW 1046 27 Gq.av d.1]),(1039,.box 3 [I64 e.2.2.1])] 1041 rfl rfl rfl ⟨⟨_,rfl,.same⟩,fmQ O,⟨_,rfl,.same⟩,⟨_,rfl,.boxEq rfl rfl⟩,⟨_,rfl,.boxEq rfl rfl⟩,⟨_,rfl,.boxEq rfl rfl⟩,ø⟩ rfl (G1 ?_)
         refine JLh (.ptr 1042 0) (Ji 1042 24 H2e O O) O (Jb (u:=.junk) (Hu (u:=.agg (Gp.cs c.2)) (ds:=[U8 (c.2.g 0),U8 (c.2.g 1),U8 (c.2.g 2),U8 (c.2.g 3),U8 (c.2.g 4),U8 (c.2.g 5),U8 (c.2.g 6),U8 (c.2.g 7),U8 (c.2.g 8),U8 (c.2.g 9),U8 (c.2.g 10),U8 (c.2.g 11),U8 (c.2.g 12),U8 (c.2.g 13),U8 (c.2.g 14),U8 (c.2.g 15),U8 (c.2.g 16),U8 (c.2.g 17),U8 (c.2.g 18),U8 (c.2.g 19),U8 (c.2.g 20),U8 (c.2.g 21),U8 (c.2.g 22),U8 (c.2.g 23)]) H73 O O O O O O O O) (G6 ?_))
         refine Q47 [(17,.ptr 1037 0),(18,.ptr 1038 0),(20,.ptr 1039 0),(22,.dptr [I64 c.1.From,I64 c.1.To]),(23,.dptr (Gp.cs c.2))] [(1044,.spare 3 1 k.length k.length),(1045,MP 80 Gp.kv I64 d.2),(1046,.spare 82 27 d.1.length d.1.length),(1037,.box 80 [.mp 1045]),(1038,.box 83 [OW 1046 27 Gq.av d.1]),(1039,.box 3 [I64 e.2.2.1])] 1042 rfl rfl rfl ⟨⟨_,rfl,.same⟩,fmQ O,⟨_,rfl,.same⟩,⟨_,rfl,.boxEq rfl rfl⟩,⟨_,rfl,.boxEq rfl rfl⟩,⟨_,rfl,.boxEq rfl rfl⟩,ø⟩ rfl (by repeat' (first | exact .ptr | constructor)) (R8d (Gf (Jr fun d4=>(JLh (.mp 1045) (Ht H9a O O O O) O (JLh (.agg (Gp.cs c.2)) (Gt G60 O O O) O ?_)))))
         obtain⟨b1,d5,h⟩:=Gd h
         refine JLh (.tup [I64 b1,BL (Qb.has d.2 c.2)]) (((Ez d5) ▸ Q52 (av:=I64) (m:=d.2) (a:=c.2) 0 E0 O O O O Qc2 Hc4 H4a O)) O (JLm (.tup [I64 b1,BL (Qb.has d.2 c.2)]) O (JLh (I64 b1) (Gw O O O) O (JLh (BL (Qb.has d.2 c.2)) (Gw O O O) O (JLm (I64 b1) O (JLm (BL (Qb.has d.2 c.2)) O (G6 (d4 (Jr fun d6=>(JLm (BL (Qb.has d.2 c.2)) O (JLh (BL (!(Qb.has d.2 c.2))) (Y4 (b:=(Qb.has d.2 c.2)) O O) O (G6 (d6 (JCc O h (fun h hb=>?_) (fun h hb=>?_))))))))))))))
         ·
          refine Jr fun d7=>(JLh (.mp 1045) (Ht H9a O O O O) O (JLh (.agg (Gp.cs c.2)) (Gt G60 O O O) O (JLh (OW 1046 27 Gq.av d.1) (Ht G1e O O O O) O (JLl Zy O O O fun p1=>(Jb (u:=.junk) (Hc1 (m:=d.2) (a:=c.2) (v:=(d.1.length:Int)) O O O O O O Qc2 Hc4) (G6 (d7 (G1 ?_))))))))
          refine JLh (OW 1046 27 Gq.av d.1) (Ht G1e O O O O) O (JLh (.agg (Gp.cs c.2)) (Gt G60 O O O) O (JLh (I64 e.2.2.1) (Ht Gj O O O O) O (JLh (.agg [I64 c.1.From,I64 c.1.To]) (Gt G61 O O O) O (JLh (.agg [U8 (c.2.g 0),U8 (c.2.g 1),U8 (c.2.g 2),U8 (c.2.g 3),U8 (c.2.g 4),U8 (c.2.g 5),U8 (c.2.g 6),U8 (c.2.g 7),U8 (c.2.g 8),U8 (c.2.g 9),U8 (c.2.g 10),U8 (c.2.g 11),U8 (c.2.g 12),U8 (c.2.g 13),U8 (c.2.g 14),U8 (c.2.g 15),U8 (c.2.g 16),U8 (c.2.g 17),U8 (c.2.g 18),U8 (c.2.g 19),U8 (c.2.g 20),U8 (c.2.g 21),U8 (c.2.g 22),U8 (c.2.g 23),I64 e.2.2.1,I64 c.1.From,I64 c.1.To]) (Jf (cs:=[U8 (c.2.g 0),U8 (c.2.g 1),U8 (c.2.g 2),U8 (c.2.g 3),U8 (c.2.g 4),U8 (c.2.g 5),U8 (c.2.g 6),U8 (c.2.g 7),U8 (c.2.g 8),U8 (c.2.g 9),U8 (c.2.g 10),U8 (c.2.g 11),U8 (c.2.g 12),U8 (c.2.g 13),U8 (c.2.g 14),U8 (c.2.g 15),U8 (c.2.g 16),U8 (c.2.g 17),U8 (c.2.g 18),U8 (c.2.g 19),U8 (c.2.g 20),U8 (c.2.g 21),U8 (c.2.g 22),U8 (c.2.g 23),I64 e.2.2.1,I64 c.1.From,I64 c.1.To]) [(0,24),(24,1),(25,2)] Ee [.int .u8 0,.int .u8 0,.int .u8 0,.int .u8 0,.int .u8 0,.int .u8 0,.int .u8 0,.int .u8 0,.int .u8 0,.int .u8 0,.int .u8 0,.int .u8 0,.int .u8 0,.int .u8 0,.int .u8 0,.int .u8 0,.int .u8 0,.int .u8 0,.int .u8 0,.int .u8 0,.int .u8 0,.int .u8 0,.int .u8 0,.int .u8 0,E0,E0,E0] H9c J02 (zzQ O) O O) O (JLh (LS 27 Gq.av [(Gq.mk c.2 e.2.2.1 c.1)]) (H4 (xs:=[.agg [U8 (c.2.g 0),U8 (c.2.g 1),U8 (c.2.g 2),U8 (c.2.g 3),U8 (c.2.g 4),U8 (c.2.g 5),U8 (c.2.g 6),U8 (c.2.g 7),U8 (c.2.g 8),U8 (c.2.g 9),U8 (c.2.g 10),U8 (c.2.g 11),U8 (c.2.g 12),U8 (c.2.g 13),U8 (c.2.g 14),U8 (c.2.g 15),U8 (c.2.g 16),U8 (c.2.g 17),U8 (c.2.g 18),U8 (c.2.g 19),U8 (c.2.g 20),U8 (c.2.g 21),U8 (c.2.g 22),U8 (c.2.g 23),I64 e.2.2.1,I64 c.1.From,I64 c.1.To]]) O ⟨O,O,ø⟩ Zy He0 O O O O) O ?_)))))
          obtain⟨d8,h⟩:=Ho h
          refine JLh (OW 1046 27 Gq.av (d.1++[(Gq.mk c.2 e.2.2.1 c.1)])) (R3 (f:=Gq.av) (xs:=d.1) (ys:=[(Gq.mk c.2 e.2.2.1 c.1)]) O O O O Zy Q04 d8 (fun _=>O) (.inl O) O) O (Jb (u:=.junk) (Hu (u:=OW 1046 27 Gq.av (d.1++[(Gq.mk c.2 e.2.2.1 c.1)])) (ds:=[OW 1046 27 Gq.av (d.1++[(Gq.mk c.2 e.2.2.1 c.1)])]) J03 O O O O O O O O) (G6 (c3 _ _ ((d.1++[(Gq.mk c.2 e.2.2.1 c.1)]),(Qb.put d.2 c.2 (d.1.length:Int))) (app1 b4 h) ⟨ø,⟨⟨_,O,.same⟩,⟨_,O,.map⟩,⟨_,O,.same⟩,⟨_,O,.boxL O ⟨.same O,ø⟩⟩,⟨_,O,.boxL O ⟨.same O,ø⟩⟩,⟨_,O,.boxL O ⟨.same O,ø⟩⟩,ø⟩,O⟩)))
         ·
          refine Gk (c3 _ _ (d.1,d.2) (app1 b4 h) ⟨ø,⟨⟨_,O,.same⟩,⟨_,O,.map⟩,⟨_,O,.same⟩,⟨_,O,.boxL O ⟨.same O,ø⟩⟩,⟨_,O,.boxL O ⟨.same O,ø⟩⟩,⟨_,O,.boxL O ⟨.same O,ø⟩⟩,ø⟩,O⟩)
        ·
         intro d h
         rw [Kn] at h
         replace h:=app1 c2 (Hx h (Nat.lt_irrefl _))
         refine l5 (Js fun d9=>Jr fun e0=>(JLh (I64 e.2.2.1) (Ht Gj O O O O) O (G6 (e0 (G1 (Q7c (l':=[(2,.dptr [LS 1 (E1) y.Stacks,I64 y.Height]),(9,OW 1044 1 I64 k),(17,.ptr 1037 0),(18,.ptr 1038 0),(19,I64 e.1),(112,.fn 69 [.dptr [E7 y.Stacks.length],.dptr [.dptr (Gp.cs n.s)],.dptr [I64 y.Height]]),(134,I64 e.2.2.1)]) (L':=[(1044,.spare 3 1 k.length k.length),(1045,MP 80 Gp.kv I64 d.2),(1046,.spare 82 27 d.1.length d.1.length),(1037,.box 80 [.mp 1045]),(1038,.box 83 [OW 1046 27 Gq.av d.1])]) ⟨(.sm O O),⟨⟨_,rfl,.same⟩,fmQ O,⟨_,rfl,.same⟩,fbQ O ⟨.same rfl,ø⟩,fbQ O ⟨.same rfl,ø⟩,ø⟩,rfl⟩ ?_))))))
         refine JLh (.ptr 1039 0) (Ji 1039 1 J6 O O) O (Jb (u:=.junk) (Hu (u:=I64 e.2.2.1) (ds:=[I64 e.2.2.1]) Gb2 O O O O O O O O) (G6 (d9 (G1 (JLh (I64 e.2.2.1) (Ht Gj O O O O) O ?_)))))
         obtain⟨b2,e1,h⟩:=Je h
         refine JLh (I64 b2) (Hz e1 O O O) O (Jb (u:=.junk) (Hu (u:=I64 b2) (ds:=[I64 b2]) Gb2 O O O O O O O O) (G6 (o5 _ _ o6 (e.1,d.1,b2,d.2) (app1 l2 h) (by omega) ⟨(.sm O O),⟨⟨_,rfl,.same⟩,fmQ O,⟨_,rfl,.same⟩,fbQ O ⟨.same rfl,ø⟩,fbQ O ⟨.same rfl,ø⟩,fbQ O ⟨.same rfl,ø⟩,ø⟩,rfl⟩)))
      ·
       refine Hd (ej82 _ _ (e.1,e.2.2.2,e.2.1,e.2.2.1) h ⟨(.sm O O),⟨⟨_,O,.map⟩,⟨_,O,.same⟩,⟨_,O,.boxL O ⟨.same O,ø⟩⟩,⟨_,O,.boxL O ⟨.same O,ø⟩⟩,⟨_,O,.boxL O ⟨.same O,ø⟩⟩,ø⟩,O⟩)
     ·intro o h
      replace h:=app1 c7 h
      refine Js fun e2=>Jr fun e3=>(JLm (I64 o.1) O (JLh (BL (decide (o.1 < 0))) (J2 O O O) O (G6 (e3 (JCc O h (fun h hb=>?_) (fun h hb=>?_))))))
      ·
       refine Jr fun e4=>(JLh (E2 ([]:List G2)) (Jo 2 O O) O (JLm (I64 6) O (G6 (e4 (H0 (⟨[E2 ([]:List G2),I64 6],[],ø,O,⟨⟨_,O,.conv (.same O)⟩,⟨_,O,.conv (.same O)⟩,ø⟩,O,congrArg (fun r:(List G2)×Int=>(.tup [E2 r.1,I64 r.2]:AV)) (Ez h)⟩))))))
      ·
       refine Gk (e2 (Jr fun e5=>(JLh (.vec 1043 (([]:List G2).length) 2 (([]:List G2).length)) (H48 1043 35 2 O O O) O (G6 (e5 (Js fun e6=>Gf ?_))))))
       obtain⟨m6,e7,h⟩:=G0e h
       refine Ha (fun a1 (i:Int×(List G2))=>loop m6 a1 i=some r) (fun a1 i=>[(18,.ptr 1038 0),(19,I64 i.1),(26,.vec 1043 i.2.length 2 i.2.length)]) (fun a1 i=>[(1045,MP 80 Gp.kv I64 o.2.1),(1046,.spare 82 27 o.2.2.1.length o.2.2.1.length),(1043,.vec 35 2 i.2.length (i.2.map G2.av)),(1037,.box 80 [.mp 1045]),(1038,.box 83 [OW 1046 27 Gq.av o.2.2.1]),(1039,.box 3 [I64 o.2.2.2])]) (fun a1=>a1) F (o.1,[]) h ⟨(.sm O O),⟨⟨_,O,.map⟩,⟨_,O,.same⟩,⟨_,O,.vec⟩,⟨_,O,.boxL O ⟨.same O,ø⟩⟩,⟨_,O,.boxL O ⟨.same O,ø⟩⟩,⟨_,O,.boxL O ⟨.same O,ø⟩⟩,ø⟩,O⟩ ?_
       clear h
       intro a1 i e8 q1 m7
       obtain⟨m8,p2,hm_156,e9,h⟩:=Z7 e8
       replace h:=H65 e7 h
       refine Js fun f0=>Jr fun f1=>(JLh (OW 1046 27 Gq.av o.2.2.1) (Ht G1e O O O O) O (JLm (I64 i.1) O ?_))
       obtain⟨q2,a5,f2,f3,h⟩:=Rf h
       refine JLh (.dptr (Gq.cs a5)) (Gz (f:=Gq.av) (xs:=o.2.2.1) (y:=a5) O O O Zy f3 f2) O (JLh (.dptr ((Gq.cs a5).drop 24)) (H1 H6b O O O) O (JLh (I64 a5.from_) (Gr Gj O O O) O (JLh (BL (decide (0≤a5.from_))) (G6b O O O) O (G6 (f1 (JCc O h (fun h hb=>?_) (fun h hb=>?_)))))))
       ·
        refine Gk (f0 (Js fun f4=>Gf (G1 (JLm (.vec 1043 i.2.length 2 i.2.length) O (JLh (OW 1046 27 Gq.av o.2.2.1) (Ht G1e O O O O) O (JLm (I64 i.1) O ?_))))))
        obtain⟨q3,p,f5,f6,h⟩:=Rf h
        refine JLh (.dptr (Gq.cs p)) (Gz (f:=Gq.av) (xs:=o.2.2.1) (y:=p) O O O Zy f6 f5) O (JLh (.dptr [I64 p.by_.From,I64 p.by_.To]) (H1 J51 O O O) O (JLh (.agg [I64 p.by_.From,I64 p.by_.To]) (Gt G61 O O O) O (JLh (E2 [p.by_]) (H4 (xs:=[.agg [I64 p.by_.From,I64 p.by_.To]]) O ⟨O,O,ø⟩ Hk G1a O O O O) O ?_)))
        obtain⟨f7,h⟩:=Ho h
        refine JLh (.vec 1043 ((i.2++[p.by_]).length) 2 ((i.2++[p.by_]).length)) (G5d (f:=G2.av) (xs:=i.2) (ys:=[p.by_]) (ver:=i.2.length) (ver1:=(i.2++[p.by_]).length) rfl rfl rfl rfl Hk G21 f7 (fun _=>rfl) (.inl rfl) (by simp)) O (JLm (.vec 1043 ((i.2++[p.by_]).length) 2 ((i.2++[p.by_]).length)) O (G6 (f4 (G1 (JLh (OW 1046 27 Gq.av o.2.2.1) (Ht G1e O O O O) O (JLm (I64 i.1) O ?_))))))
        obtain⟨q4,a2,f8,f9,h⟩:=Rf h
        refine JLh (.dptr (Gq.cs a2)) (Gz (f:=Gq.av) (xs:=o.2.2.1) (y:=a2) O O O Zy f9 f8) O (JLh (.dptr ((Gq.cs a2).drop 24)) (H1 H6b O O O) O (JLh (I64 a2.from_) (Gr Gj O O O) O (JLm (I64 a2.from_) O (G6 (m7 _ _ m8 (a2.from_,(i.2++[p.by_])) (app1 e9 h) (by omega) ⟨(.sm O O),⟨fmQ O,⟨_,rfl,.same⟩,⟨_,rfl,.vec⟩,fbQ O ⟨.same rfl,ø⟩,fbQ O ⟨.same rfl,ø⟩,fbQ O ⟨.same rfl,ø⟩,ø⟩,rfl⟩)))))
       ·
        refine Hd (e6 (Jr fun g0=>(JLm (.vec 1043 i.2.length 2 i.2.length) O ?_)))
        obtain⟨b3,g1,h⟩:=Gd h
        refine JLh (.tup []) (H63 (args:=[.vec 1043 i.2.length 2 i.2.length]) (L0:=[(1043,.vec 35 2 i.2.length (i.2.map G2.av))]) (Lr:=[(1043,.vec 35 2 i.2.length (b3.map G2.av))]) O (G4d F i.2 i.2.length b3 g1) Q10 ⟨.inl O,O,ø⟩ ⟨O,ø⟩ O O O) O (G6 (g0 (Jr fun g2=>(JLm (.vec 1043 i.2.length 2 i.2.length) O (JLm (.vec 1043 i.2.length 2 i.2.length) O (JLm (I64 0) O (G6 (g2 (H1c [(4,E2 b3),(5,I64 0)] [(1046,.spare 82 27 o.2.2.1.length o.2.2.1.length)] 1043 rfl rfl ⟨⟨_,rfl,.same⟩,ø⟩ rfl (by exact⟨.vec,.conv (.same rfl),ø⟩) (H0 ?_))))))))))
        exact⟨[E2 b3,I64 0],[],ø,O,⟨⟨_,O,.conv (.same O)⟩,⟨_,O,.conv (.same O)⟩,ø⟩,O,congrArg (fun r:(List G2)×Int=>(.tup [E2 r.1,I64 r.2]:AV)) (Ez h)⟩
end
end Go.Proofs.YtokjlondbjdlfaaGreat
