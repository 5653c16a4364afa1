/- Walks of functions. -/
import Derived.Test.YtokjlondbjdlfaaSpecGr
import Derived.Test.YtokjlondbjdlfaaSpecGr
set_option maxRecDepth 100000
set_option maxHeartbeats 1000000
set_option linter.unusedVariables false
set_option linter.unusedSimpArgs false
namespace Go.Proofs.Ytokjlondbjdlfaa
open Go.RowKit
noncomputable section
structure Gv where
 s:Gu
 from_:Int
 by_:G3
 deriving DecidableEq,Inhabited
def Gv.cs (x:Gv):List AV:=[U8 (x.s.g 0),U8 (x.s.g 1),U8 (x.s.g 2),U8 (x.s.g 3),U8 (x.s.g 4),U8 (x.s.g 5),U8 (x.s.g 6),U8 (x.s.g 7),U8 (x.s.g 8),U8 (x.s.g 9),U8 (x.s.g 10),U8 (x.s.g 11),U8 (x.s.g 12),U8 (x.s.g 13),U8 (x.s.g 14),U8 (x.s.g 15),U8 (x.s.g 16),U8 (x.s.g 17),U8 (x.s.g 18),U8 (x.s.g 19),U8 (x.s.g 20),U8 (x.s.g 21),U8 (x.s.g 22),U8 (x.s.g 23),I64 x.from_,I64 x.by_.From,I64 x.by_.To]
def Gv.av (x:Gv):AV:=.agg x.cs
namespace XCF
open XAF
open XBF
theorem Rec (a b:Gu):Hc4 E8 4 77 a.ks b.ks=some (decide (a=b)):=by
 refine(show _=some (((a.g 0==b.g 0)&&((a.g 1==b.g 1)&&((a.g 2==b.g 2)&&((a.g 3==b.g 3)&&((a.g 4==b.g 4)&&((a.g 5==b.g 5)&&(true)))))))&&(((a.g 6==b.g 6)&&((a.g 7==b.g 7)&&((a.g 8==b.g 8)&&((a.g 9==b.g 9)&&((a.g 10==b.g 10)&&((a.g 11==b.g 11)&&(true)))))))&&(((a.g 12==b.g 12)&&((a.g 13==b.g 13)&&((a.g 14==b.g 14)&&((a.g 15==b.g 15)&&((a.g 16==b.g 16)&&((a.g 17==b.g 17)&&(true)))))))&&(((a.g 18==b.g 18)&&((a.g 19==b.g 19)&&((a.g 20==b.g 20)&&((a.g 21==b.g 21)&&((a.g 22==b.g 22)&&((a.g 23==b.g 23)&&(true)))))))&&(true))))) by kernel_rfl).trans (congrArg some ?_)
 rw [Bool.eq_iff_iff]
 simp only [Ki,beq_iff_eq,Kj,Bool.and_true]
 constructor
 ·intro h; obtain⟨⟨s,t,u,v,w,x⟩,⟨y,z,h8,h9,c,d⟩,⟨e,f,i,j,k,l⟩,⟨m,n,o,p,q,r⟩⟩:=h; exact Gu.R10 s t u v w x y z h8 h9 c d e f i j k l m n o p q r
 ·intro h; subst h; simp
theorem Q47:Hr E8 39=true:=by kernel_rfl
theorem Q46:Hr E8 41=true:=by kernel_rfl
theorem Q45:Hr E8 42=true:=by kernel_rfl
theorem Q44:Hr E8 43=true:=by kernel_rfl
theorem Q38:Hr E8 71=true:=by kernel_rfl
theorem Q37:Hr E8 74=true:=by kernel_rfl
theorem H0a:Qt E8 39 2 16=true:=by kernel_rfl
theorem Q31:Qt E8 80 27 48=true:=by kernel_rfl
theorem J7a:Rx E8 80 0 0=true:=by kernel_rfl
theorem H79:Rx E8 80 1 24=true:=by kernel_rfl
theorem J79:Rx E8 80 2 25=true:=by kernel_rfl
theorem Hd7:Yq E8 78 77 3=true:=by kernel_rfl
theorem Haa:placesOf E8 80=some [(0,24),(24,1),(25,2)]:=by kernel_rfl
theorem Ha9:Qs E8 78=true:=by kernel_rfl
theorem G1e:Qs E8 81=true:=by kernel_rfl
theorem Gf9:Y6 E8 3 1=true:=by kernel_rfl
theorem H08:Y6 E8 39 2=true:=by kernel_rfl
theorem Q2e:Y6 E8 78 1=true:=by kernel_rfl
theorem J22:Y6 E8 81 1=true:=by kernel_rfl
theorem G03:sliceB E8 81 80 27=true:=by kernel_rfl
theorem Q2d:(E8.info? 77).bind (fun i=>i.zero.map Value.cells)=some (List.toArray [.int .u8 0,.int .u8 0,.int .u8 0,.int .u8 0,.int .u8 0,.int .u8 0,.int .u8 0,.int .u8 0,.int .u8 0,.int .u8 0,.int .u8 0,.int .u8 0,.int .u8 0,.int .u8 0,.int .u8 0,.int .u8 0,.int .u8 0,.int .u8 0,.int .u8 0,.int .u8 0,.int .u8 0,.int .u8 0,.int .u8 0,.int .u8 0]):=by kernel_rfl
theorem J21:(E8.info? 80).bind (fun i=>i.zero.map Value.cells)=some (List.toArray [.int .u8 0,.int .u8 0,.int .u8 0,.int .u8 0,.int .u8 0,.int .u8 0,.int .u8 0,.int .u8 0,.int .u8 0,.int .u8 0,.int .u8 0,.int .u8 0,.int .u8 0,.int .u8 0,.int .u8 0,.int .u8 0,.int .u8 0,.int .u8 0,.int .u8 0,.int .u8 0,.int .u8 0,.int .u8 0,.int .u8 0,.int .u8 0,E0,E0,E0]):=by kernel_rfl
theorem G35:Qk E8 39 2=true:=by kernel_rfl
theorem Jdc:Qk E8 78 1=true:=by kernel_rfl
theorem Hf4:Qk E8 80 27=true:=by kernel_rfl
theorem Jdb:Qk E8 81 1=true:=by kernel_rfl
theorem Qee:G76 E8 77 Gu.kv:=G76.of_eq Gu.ks (by kernel_rfl) Gu.R9e 4 (by decide) (fun a b=>Rec a b) (fun a=>by kernel_rfl) (fun a=>by simp [Instr.sameBits,Gu.ks])
end XCF
open XAF
open XBF
open XCF

def Yk (slices:List (List Int)):Option (List Int):=
 each (fun g i (b:Int) e=>
  chk (b+(g.length:Int)) fun d=>
  bif decide (d < 0) then
  (none)
  else
  (e d))
 (fun(b:Int)=>
  bnd (G33 b) fun h=>
  each (fun c j (a:(List Int)) f=>
   need (decide ((a.length+c.length)*8≤140737488355328∧a.length+c.length≤maxLen)) <|
   f (a++c))
  (fun(a:(List Int))=>
   some a) slices 0 h) slices 0 0
theorem H31 (slices:List (List Int)) (r:(List Int)) (h:Yk slices=some r):Pure E8 39 [LS 1 (E1) slices] (·=E1 r):=by
 unfold Yk at h
 refine He [.tmp 2] Try.func39 O O (Jr fun c4=>(JLh (E1 ([]:List Int)) (Jo 1 O O) O (G6 (c4 (Jr fun c5=>(JLm (I64 0) O (G6 (c5 (Js fun c6=>Jr fun c7=>(JLm (LS 1 (E1) slices) O (JLl Gf O O O fun x=>(JLm (I64 0) O (G6 (c7 (Gg ?_)))))))))))))))
 obtain⟨c8,z,a0,s,h⟩:=J6 h
 refine H9 (fun d (e:Int)=>each c8 z (List.drop d slices) d e=some r) (fun d e=>[(0,LS 1 (E1) slices),(3,I64 e),(9,LS 1 (E1) slices),(10,E7 slices.length),(11,E7 d)]) (fun d e=>[]) (fun d=>slices.length - d) 0 0 h ⟨(.sm O O),ø,rfl⟩ ?_
 clear h
 intro d e m d4 c9
 refine Jr fun a1=>(JLh (BL (decide ((d:Int) < (slices.length:Int)))) (J1 O O O) O (G6 (a1 (Js fun a2=>Gh O (fun hb=>?_) (fun hb=>?_)))))
 ·
  have n:=Jj hb
  obtain⟨j,d1,a3,a4,h⟩:=Hv m n
  replace h:=Yr a0 h
  refine Gi (a2 (Js fun a5=>Gg (Jr fun a6=>(JLh (.dptr [E1 j]) (H1 (f:=(E1)) (xs:=slices) (y:=j) O O O Gf a3 O) O (JLh (E1 j) (Gp H5 O O O) O (JLm (E1 j) O (G6 (a6 (Jr fun a7=>(JLm (I64 e) O (JLm (E1 j) O (JLl G7 O O O fun d2=>?_))))))))))))
  obtain⟨k,a8,h⟩:=Jb h
  refine JLh (I64 k) (J0 a8 O O O) O (JLm (I64 k) O (G6 (a7 (Jr fun a9=>(JLm (I64 k) O (JLh (BL (decide (k < 0))) (J1 O O O) O (G6 (a9 (JCc O h (fun h hb=>?_) (fun h hb=>?_))))))))))
  ·
   cases h
  ·
   refine Gi (a5 (G1 (JLh (I64 ((d+1:Nat):Int)) (J0 (Hk n x) O O O) O (JLm (I64 ((d+1:Nat):Int)) O (G6 (c9 _ _ (d+1) k (app1 a4 h) (by omega) ⟨(.sm O O),ø,rfl⟩))))))
 ·
  have h:=app1 s (Hw m (Hb hb))
  refine Hd (c6 (Jr fun b0=>(JLm (I64 e) O ?_)))
  obtain⟨l,b1,h⟩:=Gd h
  refine G83 O O O (G87 (args:=[.sc (.slice none 0 0),I64 e]) (L0:=[]) (u:=fun p=>.vec 1090 p 1 l.length) (Lr:=fun p=>[(1090,.vec 3 1 p (l.map I64))]) O (H75.down e l b1) Q38 ⟨.inl O,O,.inl O,O,ø⟩ ø O (fun _=>O)) ?_
  rintro u_ L_ ⟨v,rfl,rfl⟩
  refine JLm (.vec 1090 v 1 l.length) O (G6 (b0 (Js fun b2=>Jr fun b3=>(JLm (LS 1 (E1) slices) O (JLl Gf O O O fun b4=>(JLm (I64 0) O (G6 (b3 (Gg ?_)))))))))
  obtain⟨w,o,b5,t,h⟩:=J6 h
  refine H9 (fun b (g:((List Int))×Nat)=>(fun(a:(List Int))=>each w o (List.drop b slices) b a=some r) g.1) (fun b g=>(fun(a:(List Int)) (gv58:Nat)=>[(6,.vec 1090 gv58 1 a.length),(25,LS 1 (E1) slices),(26,E7 slices.length),(27,E7 b)]) g.1 g.2) (fun b g=>(fun(a:(List Int)) (gv58:Nat)=>[(1090,.vec 3 1 gv58 (a.map I64))]) g.1 g.2) (fun b=>slices.length - b) 0 (l,v) h ⟨(.sm O O),⟨⟨_,rfl,.vec⟩,ø⟩,rfl⟩ ?_
  clear h
  rintro b ⟨a,gv58⟩ i d5 d0
  replace i:each w o (List.drop b slices) b a=some r:=i
  change JC _ _ _ _ [(6,.vec 1090 gv58 1 a.length),(25,LS 1 (E1) slices),(26,E7 slices.length),(27,E7 b)] [(1090,.vec 3 1 gv58 (a.map I64))]
  refine Jr fun b6=>(JLh (BL (decide ((b:Int) < (slices.length:Int)))) (J1 O O O) O (G6 (b6 (Js fun b7=>Gh O (fun hb=>?_) (fun hb=>?_)))))
  ·
   have q:=Jj hb
   obtain⟨c,d3,b8,b9,h⟩:=Hv i q
   replace h:=Yr b5 h
   refine Gi (b7 (Js fun c0=>Gg (Jr fun c1=>(JLh (.dptr [E1 c]) (H1 (f:=(E1)) (xs:=slices) (y:=c) O O O Gf b8 O) O (JLh (E1 c) (Gp H5 O O O) O (JLm (E1 c) O (G6 (c1 (G1 (JLm (.vec 1090 gv58 1 a.length) O (JLm (E1 c) O ?_)))))))))))
   obtain⟨c2,h⟩:=J2 h
   refine JLh (.vec 1090 (gv58+((a++c).length+1)) 1 ((a++c).length)) (G97 (f:=I64) (xs:=a) (ys:=c) (ver:=gv58) (ver1:=(gv58+((a++c).length+1))) rfl rfl rfl rfl G7 Qz c2 (fun _=>rfl) (.inl rfl) (by simp)) O (JLm (.vec 1090 (gv58+((a++c).length+1)) 1 ((a++c).length)) O (G6 (c0 (G1 (JLh (I64 ((b+1:Nat):Int)) (J0 (Hk q b4) O O O) O (JLm (I64 ((b+1:Nat):Int)) O (G6 (d0 _ _ (b+1) ((a++c),(gv58+((a++c).length+1))) (app1 b9 h) (by omega) ⟨(.sm O O),⟨⟨_,rfl,.vec⟩,ø⟩,rfl⟩))))))))
  ·
   have h:=app1 t (Hw i (Hb hb))
   refine Hd (b2 (Jr fun c3=>(JLm (.vec 1090 gv58 1 a.length) O (JLm (.vec 1090 gv58 1 a.length) O (G6 (c3 (H26 [(2,E1 a)] [] 1090 rfl rfl ø rfl (by exact⟨.vec,ø⟩) (H0 (fin1 (fun r:(List Int)=>(E1 r:AV)) h)))))))))

def Qu (F:Nat) (s:List G3):Option (List G3):=
 chk ((s.length:Int) - 1) fun g=>
 loop (fun c (a:Int×Int×(List G3))=>
  bif decide (a.1 < a.2.1) then
  (R5 a.2.2 a.2.1 fun b=>
   R5 a.2.2 a.1 fun d=>
   R5 a.2.2 a.1 fun h=>
   R5 (a.2.2.set a.1.toNat b) a.2.1 fun i=>
   chk (a.1+1) fun e=>
   chk (a.2.1 - 1) fun f=>
   c (e,f,((a.2.2.set a.1.toNat b).set a.2.1.toNat d)))
  else
  (some a.2.2)) F (0,g,s)
theorem G4c (F:Nat) (s:List G3) (s_q:Nat) (r:(List G3)) (h:Qu F s=some r):Q8 E8 43 [.vec 1030 s_q 2 s.length] [(1030,.vec 39 2 s_q (s.map G3.av))] (fun av L'=>av=.tup []∧L'=[(1030,.vec 39 2 s_q (r.map G3.av))]):=by
 unfold Qu at h
 refine G24 [1030] [] Try.func43 O O (Hbe O) (Jr fun a4=>(JLm (.vec 1030 s_q 2 s.length) O (H03 (f:=G3.av) (xs:=s) Hx O O O (fun b2=>?_) O O O)))
 obtain⟨q,a5,h⟩:=Jb h
 refine JLh (I64 q) (Zt a5 O O O) O (JLm (I64 0) O (JLm (I64 q) O (G6 (a4 (Gg ?_)))))
 obtain⟨a6,t,h⟩:=G31 h
 refine H9 (fun d (a:Int×Int×(List G3))=>loop a6 d a=some r) (fun d a=>[(0,.vec 1030 s_q 2 s.length),(2,I64 a.1),(3,I64 a.2.1)]) (fun d a=>[(1030,.vec 39 2 s_q (a.2.2.map G3.av))]) (fun d=>d) F (0,q,s) h ⟨(.sm O O),⟨⟨_,O,.vec⟩,ø⟩,O⟩ ?_
 clear h
 intro d a v b3 a7
 obtain⟨a8,b1,hm_31,w,h⟩:=G09 v
 replace h:=Hc8 t h
 refine Js fun x=>Jr fun a0=>(JLm (I64 a.1) O (JLm (I64 a.2.1) O (JLh (BL (decide (a.1 < a.2.1))) (J1 O O O) O (G6 (a0 (JCc O h (fun h hb=>?_) (fun h hb=>?_)))))))
 ·
  refine Gi (x (Js fun a1=>Gg (Rq (l':=[(0,.vec 1030 s_q 2 s.length),(2,I64 a.1),(3,I64 a.2.1)]) (L':=[(1030,.vec 39 2 s_q (a.2.2.map G3.av))]) ⟨(.sm O O),⟨⟨_,O,.vec⟩,ø⟩,O⟩ ?_)))
  obtain⟨b,m,e,h⟩:=Zv h
  obtain⟨c,n,g,h⟩:=Zv h
  obtain⟨a9,o,i,h⟩:=Zv h
  obtain⟨b0,p,j,h⟩:=Zv h
  refine Jw [13,15] [0,0,0,0,0,0,0,0,0,0,0,0,0,0,1,0] [0,0,1,1,0,0,0,0,0,0,0,0,0,0,1,0] [[(1030,.vec 39 2 s_q (a.2.2.map G3.av))],((1030,.vec 39 2 s_q ((a.2.2.set a.1.toNat b).map G3.av))::[(1030,.vec 39 2 s_q (a.2.2.map G3.av))]),((1030,.vec 39 2 s_q (((a.2.2.set a.1.toNat b).set a.2.1.toNat c).map G3.av))::((1030,.vec 39 2 s_q ((a.2.2.set a.1.toNat b).map G3.av))::[(1030,.vec 39 2 s_q (a.2.2.map G3.av))]))] Jp (by kernel_rfl) rfl rfl ?_
  refine Ge (u:=.vec 1030 s_q 2 s.length) O O ⟨Gc (G2 O O) O,ø⟩ (Ge (u:=I64 a.1) O O ⟨Gc (G2 O O) O,ø⟩ (Ge (u:=.vec 1030 s_q 2 s.length) O O ⟨Gc (G2 O O) O,Gc (G2 O O) O,ø⟩ (Ge (u:=I64 a.2.1) O O ⟨Gc (G2 O O) O,Gc (G2 O O) O,ø⟩ (Ge (u:=.vec 1030 s_q 2 s.length) O O ⟨Gc (G2 O O) O,ø⟩ (Ge (u:=I64 a.2.1) O O ⟨Gc (G2 O O) O,ø⟩ (Ge (u:=.vptr 1030 s_q a.2.1.toNat 0) O O ⟨Gc (G15 (f:=G3.av) (xs:=a.2.2) (y:=b) O O O O Hx e m) O,ø⟩ (Ge (u:=.agg [I64 b.From,I64 b.To]) O O ⟨Gc (G74 (f:=G3.av) (xs:=a.2.2) (y:=b) G2a O O O e O O) O,ø⟩ (Ge (u:=.vec 1030 s_q 2 s.length) O O ⟨Gc (G2 O O) O,ø⟩ (Ge (u:=I64 a.1) O O ⟨Gc (G2 O O) O,ø⟩ (Ge (u:=.vptr 1030 s_q a.1.toNat 0) O O ⟨Gc (G15 (f:=G3.av) (xs:=a.2.2) (y:=c) O O O O Hx g n) O,ø⟩ (Ge (u:=.agg [I64 c.From,I64 c.To]) O O ⟨Gc (G74 (f:=G3.av) (xs:=a.2.2) (y:=c) G2a O O O g O O) O,ø⟩ (Ge (u:=.vptr 1030 s_q a.1.toNat 0) O O ⟨Gc (G15 (f:=G3.av) (xs:=a.2.2) (y:=a9) O O O O Hx i o) O,ø⟩ ?_))))))))))))
  refine H54 (u:=.junk) O O O O (Gc (H72 (f:=G3.av) (xs:=a.2.2) (z:=b) H08 O O O O (Ev i).1 O O O O) O) (Ge (u:=.vptr 1030 s_q a.2.1.toNat 0) O O ⟨Gc (G15 (f:=G3.av) (xs:=(a.2.2.set a.1.toNat b)) (y:=b0) O O O O Hx j p) O,ø⟩ (H54 (u:=.junk) O O O O (Gc (H72 (f:=G3.av) (xs:=(a.2.2.set a.1.toNat b)) (z:=c) H08 O O O O (Ev j).1 O O O O) O) (Ya (a1 (G1 (JLm (I64 a.1) O ?_))))))
  obtain⟨k,a2,h⟩:=Jb h
  refine JLh (I64 k) (J0 a2 O O O) O (JLm (I64 a.2.1) O ?_)
  obtain⟨l,a3,h⟩:=Jb h
  refine JLh (I64 l) (Zt a3 O O O) O (JLm (I64 k) O (JLm (I64 l) O (G6 (a7 _ _ a8 (k,l,((a.2.2.set a.1.toNat b).set a.2.1.toNat c)) (app1 w h) (by omega) ⟨(.sm O O),⟨⟨_,rfl,.vec⟩,ø⟩,rfl⟩))))
 ·
  refine Hd ?_
  obtain rfl:=Ex h
  exact⟨[],[(1030,.vec 39 2 s_q (a.2.2.map G3.av))],⟨⟨_,O,.vec⟩,ø⟩,O,ø,O,O⟩

def J4 (F:Nat) (y:Gm) (order:List Int):Option ((List G3)×Int):=
 bnd (Qq y order) fun z=>
 bif decide (z.2≠0) then
 (some ([],z.2))
 else
 (bnd (Yk y.Stacks) fun r8=>
  bif ((decide (5 < (r8.length:Int)))||(decide (4 < (y.Stacks.length:Int)))) then
  (some ([],5))
  else
  (each (fun a1 b0 (f:(List Int)) p=>
    bnd (Qb order a1) fun k=>
    need (decide ((f.length+[k].length)*8≤140737488355328∧f.length+[k].length≤maxLen)) <|
    p (f++[k]))
   (fun(f:(List Int))=>
    each (fun a2 a3 (g:Int×Gu) q=>
     each (fun b1 a4 (e:Int×Gu) r=>
      bnd (Rw (a3:Int) 3) fun a5=>
      bnd (Rw (a4:Int) 5) fun a6=>
      r (IntKind.u8.wrap (e.1+1),(e.2.set (a5*6+a6*1) (IntKind.u8.wrap (e.1+1)))))
     (fun(e:Int×Gu)=>
      q (e.1,e.2)) a2 0 (g.1,g.2))
    (fun(g:Int×Gu)=>
     jp (fun l=>
      loop (fun t (a:Int×(List Gv)×Int×(Qh Gu Int))=>
       bif decide (a.2.2.1 < (a.2.1.length:Int)) then
       (R5 a.2.1 a.2.2.1 fun m=>
        bnd (Ri F m.s (y.Stacks.length:Int) f) fun a7=>
        bif a7 then
        (l (a.2.2.1,a.2.2.2,a.2.1,a.2.2.1))
        else
        (bnd (Zy m.s (y.Stacks.length:Int) y.Height) fun b2=>
         bnd (Y7 F (y.Stacks.length:Int) m.s y.Height) fun n=>
         each (fun c a8 (b:(List Gv)×(Qh Gu Int)) j=>
          bnd (some (Qh.get b.2 c.2 0)) fun a9=>
          bif (!(Qh.has b.2 c.2)) then
          (need (decide ((b.1.length+[(Gv.mk c.2 a.2.2.1 c.1)].length)*48≤140737488355328∧b.1.length+[(Gv.mk c.2 a.2.2.1 c.1)].length≤maxLen)) <|
           j ((b.1++[(Gv.mk c.2 a.2.2.1 c.1)]),(Qh.put b.2 c.2 (b.1.length:Int))))
          else
          (j (b.1,b.2)))
         (fun(b:(List Gv)×(Qh Gu Int))=>
          chk (a.2.2.1+1) fun u=>
          t (a.1,b.1,u,b.2)) n 0 (a.2.1,a.2.2.2)))
       else
       (l (a.1,a.2.2.2,a.2.1,a.2.2.1))) F ((-1),[(Gv.mk g.2 (-1) (G3.mk 0 0))],0,(Qh.put (Qh.empty:Qh Gu Int) g.2 0))) fun(h:Int×(Qh Gu Int)×(List Gv)×Int)=>
     bif decide (h.1 < 0) then
     (some ([],6))
     else
     (loop (fun o (d:Int×(List G3))=>
       R5 h.2.2.1 d.1 fun v=>
       bif decide (0≤v.from_) then
       (R5 h.2.2.1 d.1 fun i=>
        need (decide ((d.2.length+[i.by_].length)*16≤140737488355328∧d.2.length+[i.by_].length≤maxLen)) <|
        R5 h.2.2.1 d.1 fun w=>
        o (w.from_,(d.2++[i.by_])))
       else
       (bnd (Qu F d.2) fun x=>
        some (x,0))) F (h.1,[]))) y.Stacks 0 (0,Gu.zero)) r8 0 [0]))
abbrev Ed (a:Int×Gu):List AV:=[U8 (a.2.g 0),U8 (a.2.g 1),U8 (a.2.g 2),U8 (a.2.g 3),U8 (a.2.g 4),U8 (a.2.g 5),U8 (a.2.g 6),U8 (a.2.g 7),U8 (a.2.g 8),U8 (a.2.g 9),U8 (a.2.g 10),U8 (a.2.g 11),U8 (a.2.g 12),U8 (a.2.g 13),U8 (a.2.g 14),U8 (a.2.g 15),U8 (a.2.g 16),U8 (a.2.g 17),U8 (a.2.g 18),U8 (a.2.g 19),U8 (a.2.g 20),U8 (a.2.g 21),U8 (a.2.g 22),U8 (a.2.g 23),I64 (-1),I64 0,I64 0]
abbrev Ee:List AV:=[U8 0,U8 0,U8 0,U8 0,U8 0,U8 0,U8 0,U8 0,U8 0,U8 0,U8 0,U8 0,U8 0,U8 0,U8 0,U8 0,U8 0,U8 0,U8 0,U8 0,U8 0,U8 0,U8 0,U8 0,I64 0,I64 0,I64 0]
theorem Yh (F:Nat) (y:Gm) (order:List Int) (r:(List G3)×Int) (h:J4 F y order=some r):Pure E8 17 [.agg [LS 1 (E1) y.Stacks,I64 y.Height],E1 order] (·=.tup [E2 r.1,I64 r.2]):=by
 unfold J4 at h
 refine He [.tmp 4,.tmp 5] Try.func17 O O (Jr fun m9=>(JLh (.ptr 1022 0) (Qr (cs:=[LS 1 (E1) y.Stacks,I64 y.Height]) 1022 O O O O O) O (JLh (E2 ([]:List G3)) (Jo 2 O O) O (JLm (I64 0) O (G6 (m9 (H2 [(1,E1 order),(2,.dptr [LS 1 (E1) y.Stacks,I64 y.Height])] [] 1022 rfl rfl rfl ø rfl (by exact⟨.conv (.same rfl),.ptr,ø⟩) (Q16 (Js fun n0=>Jr fun n1=>(JLh (.agg [LS 1 (E1) y.Stacks,I64 y.Height]) (Gr H8 O O O) O (JLm (E1 order) O ?_)))))))))))
 obtain⟨x,n2,h⟩:=Gd h
 refine JLh (.tup [I64 x.1,I64 x.2]) (Gt O (Yz y order x n2) G89 ⟨O,O,O,O,ø⟩) O (JLm (.tup [I64 x.1,I64 x.2]) O (JLh (I64 x.1) (Gk O O O) O (JLh (I64 x.2) (Gk O O O) O (JLm (I64 x.1) O (JLm (I64 x.2) O (G6 (n1 (Jr fun n3=>(JLm (I64 x.2) O (JLh (BL (decide (x.2≠0))) (Yi O O O) O (G6 (n3 (JCc O h (fun h hb=>?_) (fun h hb=>?_))))))))))))))
 ·
  refine Jr fun n4=>(JLm (I64 x.2) O (JLh (E2 ([]:List G3)) (Jo 2 O O) O (JLm (I64 x.2) O (G6 (n4 (H0 (⟨[E2 ([]:List G3),I64 x.2],[],ø,O,⟨⟨_,O,.conv (.same O)⟩,⟨_,O,.conv (.same O)⟩,ø⟩,O,congrArg (fun r:(List G3)×Int=>(.tup [E2 r.1,I64 r.2]:AV)) (Ex h)⟩)))))))
 ·
  refine Gi (n0 (Jr fun n5=>(JLh (.dptr [LS 1 (E1) y.Stacks,I64 y.Height]) (Gy Hp O O O) O (JLh (LS 1 (E1) y.Stacks) (Gp Gs O O O) O ?_))))
  obtain⟨z,n6,h⟩:=Gd h
  refine JLh (E1 z) (Gt O (H31 y.Stacks z n6) Q47 ⟨O,O,ø⟩) O (JLm (E1 z) O (G6 (n5 (Js fun n7=>Jr fun g5=>(JLm (E1 z) O (JLl G7 O O O fun p3=>(JLh (BL (decide (5 < (z.length:Int)))) (Yp O O O) O (JLm (BL (decide (5 < (z.length:Int)))) O (JLo (.dptr [LS 1 (E1) y.Stacks,I64 y.Height]) [] O .scf ø (fun hc=>Gy Hp O O O) O (JLo (LS 1 (E1) y.Stacks) [43] O .scf ⟨Ua,ø⟩ (fun hc=>Gp Gs O O O) O (JLo (E7 y.Stacks.length) [44] O .scf ⟨Ua,ø⟩ (fun hc=>Jx (f:=(E1)) (xs:=y.Stacks) Gf O O) O (JLo (BL (decide (4 < (y.Stacks.length:Int)))) [45] O .scf ⟨Ua,ø⟩ (fun hc=>Yp O O O) O (JLh (BL ((decide (5 < (z.length:Int)))||(decide (4 < (y.Stacks.length:Int))))) (Yn O O O O) O (G6 (g5 ?_)))))))))))))))
  refine JCc O h ?_ ?_<;>intro h hb
  ·
   refine Jr fun g6=>(JLh (E2 ([]:List G3)) (Jo 2 O O) O (JLm (I64 5) O (G6 (g6 (H0 (⟨[E2 ([]:List G3),I64 5],[],ø,O,⟨⟨_,O,.conv (.same O)⟩,⟨_,O,.conv (.same O)⟩,ø⟩,O,congrArg (fun r:(List G3)×Int=>(.tup [E2 r.1,I64 r.2]:AV)) (Ex h)⟩))))))
  ·
   refine Gi (n7 (Jr fun g7=>(JLh (OW 1031 1 I64 [0]) (Ha2 1031 (f:=I64) [0] O ⟨O,O,ø⟩ G7 Jg O O O O O) O (JLm (OW 1031 1 I64 [0]) O (G6 (g7 (Js fun g8=>Jr fun g9=>(JLm (E1 z) O (JLl G7 O O O fun h0=>(JLm (I64 0) O (G6 (g9 (Gg ?_)))))))))))))
   obtain⟨n8,h1,h2,c4,h⟩:=J6 h
   refine H9 (fun w (k:(List Int))=>each n8 h1 (List.drop w z) w k=some r) (fun w k=>[(1,E1 order),(2,.dptr [LS 1 (E1) y.Stacks,I64 y.Height]),(9,OW 1031 1 I64 k),(49,E1 z),(50,E7 z.length),(51,E7 w)]) (fun w k=>[(1031,.spare 3 1 k.length k.length)]) (fun w=>z.length - w) 0 [0] h ⟨(.sm O O),⟨⟨_,rfl,.same⟩,ø⟩,rfl⟩ ?_
   clear h
   intro w k b5 q5 n9
   refine Jr fun h3=>(JLh (BL (decide ((w:Int) < (z.length:Int)))) (J1 O O O) O (G6 (h3 (Js fun h4=>Gh O (fun hb=>?_) (fun hb=>?_)))))
   ·
    have b6:=Jj hb
    obtain⟨a6,p4,h5,h6,h⟩:=Hv b5 b6
    replace h:=Yr h2 h
    refine Gi (h4 (Js fun h7=>Gg (Jr fun h8=>(JLh (.dptr [I64 a6]) (H1 (f:=I64) (xs:=z) (y:=a6) O O O G7 h5 O) O (JLh (I64 a6) (Gp Gn O O O) O (JLm (I64 a6) O (G6 (h8 (G1 (JLm (OW 1031 1 I64 k) O (JLm (E1 order) O (JLm (I64 a6) O ?_))))))))))))
    obtain⟨a3,h9,h⟩:=Gd h
    refine JLh (I64 a3) (Gt O (Yg order a6 a3 h9) G5f ⟨O,O,O,O,ø⟩) O (JLh (E1 [a3]) (Ha (xs:=[I64 a3]) O ⟨O,O,ø⟩ G7 Jg O O O O) O ?_)
    obtain⟨i0,h⟩:=J2 h
    refine JLh (OW 1031 1 I64 (k++[a3])) (Ru (f:=I64) (xs:=k) (ys:=[a3]) O O O O G7 Qz i0 (fun _=>O) (.inl O) O) O (JLm (OW 1031 1 I64 (k++[a3])) O (G6 (h7 (G1 (JLh (I64 ((w+1:Nat):Int)) (J0 (Hk b6 h0) O O O) O (JLm (I64 ((w+1:Nat):Int)) O (G6 (n9 _ _ (w+1) (k++[a3]) (app1 h6 h) (by omega) ⟨(.sm O O),⟨⟨_,rfl,.same⟩,ø⟩,rfl⟩))))))))
   ·
    have h:=app1 c4 (Hw b5 (Hb hb))
    refine Hd (g8 (Jr fun i1=>(JLh (.ptr 1023 0) (Gd6 1023 [U8 0,U8 0,U8 0,U8 0,U8 0,U8 0,U8 0,U8 0,U8 0,U8 0,U8 0,U8 0,U8 0,U8 0,U8 0,U8 0,U8 0,U8 0,U8 0,U8 0,U8 0,U8 0,U8 0,U8 0] [.int .u8 0,.int .u8 0,.int .u8 0,.int .u8 0,.int .u8 0,.int .u8 0,.int .u8 0,.int .u8 0,.int .u8 0,.int .u8 0,.int .u8 0,.int .u8 0,.int .u8 0,.int .u8 0,.int .u8 0,.int .u8 0,.int .u8 0,.int .u8 0,.int .u8 0,.int .u8 0,.int .u8 0,.int .u8 0,.int .u8 0,.int .u8 0] Q2d (zzQ O) O O) O (G6 (i1 (Jr fun i2=>(JLm (U8 0) O (G6 (i2 (Js fun i3=>?_))))))))))
    refine Jr fun i4=>(JLh (.dptr [LS 1 (E1) y.Stacks,I64 y.Height]) (Gy Hp O O O) O (JLh (LS 1 (E1) y.Stacks) (Gp Gs O O O) O (JLl Gf O O O fun i5=>(JLm (I64 0) O (G6 (i4 (Gg ?_)))))))
    obtain⟨o0,i6,i7,c5,h⟩:=J6 h
    refine H9 (fun q (j:Int×Gu)=>each o0 i6 (List.drop q y.Stacks) q j=some r) (fun q j=>[(2,.dptr [LS 1 (E1) y.Stacks,I64 y.Height]),(9,OW 1031 1 I64 k),(12,.ptr 1023 0),(13,U8 j.1),(63,LS 1 (E1) y.Stacks),(64,E7 y.Stacks.length),(65,E7 q)]) (fun q j=>[(1031,.spare 3 1 k.length k.length),(1023,.box 77 [U8 (j.2.g 0),U8 (j.2.g 1),U8 (j.2.g 2),U8 (j.2.g 3),U8 (j.2.g 4),U8 (j.2.g 5),U8 (j.2.g 6),U8 (j.2.g 7),U8 (j.2.g 8),U8 (j.2.g 9),U8 (j.2.g 10),U8 (j.2.g 11),U8 (j.2.g 12),U8 (j.2.g 13),U8 (j.2.g 14),U8 (j.2.g 15),U8 (j.2.g 16),U8 (j.2.g 17),U8 (j.2.g 18),U8 (j.2.g 19),U8 (j.2.g 20),U8 (j.2.g 21),U8 (j.2.g 22),U8 (j.2.g 23)])]) (fun q=>y.Stacks.length - q) 0 (0,Gu.zero) h ⟨(.sm O O),⟨⟨_,rfl,.same⟩,fbQ O (.sm O O),ø⟩,rfl⟩ ?_
    clear h
    intro q j b7 q6 o1
    refine Jr fun i8=>(JLh (BL (decide ((q:Int) < (y.Stacks.length:Int)))) (J1 O O O) O (G6 (i8 (Js fun i9=>Gh O (fun hb=>?_) (fun hb=>?_)))))
    ·
     have b8:=Jj hb
     obtain⟨a0,p5,j0,j1,h⟩:=Hv b7 b8
     replace h:=Yr i7 h
     refine Gi (i9 (Js fun j2=>Gg (Jr fun j3=>(JLm (E7 q) O (JLh (.dptr [E1 a0]) (H1 (f:=(E1)) (xs:=y.Stacks) (y:=a0) O O O Gf j0 O) O (JLh (E1 a0) (Gp H5 O O O) O (JLm (E7 q) O (JLm (E1 a0) O (G6 (j3 (Jr fun j4=>(JLm (E1 a0) O (JLl G7 O O O fun j5=>(JLm (I64 0) O (G6 (j4 (Gg ?_)))))))))))))))))
     obtain⟨o2,j6,j7,c6,h⟩:=J6 h
     refine H9 (fun t (l:Int×Gu)=>each o2 j6 (List.drop t a0) t l=some r) (fun t l=>[(2,.dptr [LS 1 (E1) y.Stacks,I64 y.Height]),(9,OW 1031 1 I64 k),(12,.ptr 1023 0),(13,U8 l.1),(14,E7 q),(63,LS 1 (E1) y.Stacks),(64,E7 y.Stacks.length),(65,E7 q),(71,E7 a0.length),(72,E7 t)]) (fun t l=>[(1031,.spare 3 1 k.length k.length),(1023,.box 77 [U8 (l.2.g 0),U8 (l.2.g 1),U8 (l.2.g 2),U8 (l.2.g 3),U8 (l.2.g 4),U8 (l.2.g 5),U8 (l.2.g 6),U8 (l.2.g 7),U8 (l.2.g 8),U8 (l.2.g 9),U8 (l.2.g 10),U8 (l.2.g 11),U8 (l.2.g 12),U8 (l.2.g 13),U8 (l.2.g 14),U8 (l.2.g 15),U8 (l.2.g 16),U8 (l.2.g 17),U8 (l.2.g 18),U8 (l.2.g 19),U8 (l.2.g 20),U8 (l.2.g 21),U8 (l.2.g 22),U8 (l.2.g 23)])]) (fun t=>a0.length - t) 0 (j.1,j.2) h ⟨(.sm O O),⟨⟨_,rfl,.same⟩,fbQ O (.sm O O),ø⟩,rfl⟩ ?_
     clear h
     intro t l b9 q7 o3
     refine Jr fun j8=>(JLh (BL (decide ((t:Int) < (a0.length:Int)))) (J1 O O O) O (G6 (j8 (Js fun j9=>Gh O (fun hb=>?_) (fun hb=>?_)))))
     ·
      have c0:=Jj hb
      obtain⟨q8,p6,p7,k0,h⟩:=Hv b9 c0
      replace h:=Yr j7 h
      refine Gi (j9 (Js fun k1=>Gg (Jr fun k2=>(JLm (E7 t) O (JLm (E7 t) O (G6 (k2 (Jr fun k3=>(JLm (U8 l.1) O (JLh (U8 (IntKind.u8.wrap (l.1+1))) (J0 O O O O) O (JLm (U8 (IntKind.u8.wrap (l.1+1))) O (G6 (k3 (G1 (JLm (E7 q) O (JLm (E7 t) O (JLm (U8 (IntKind.u8.wrap (l.1+1))) O ?_)))))))))))))))))
      obtain⟨c1,a8,h⟩:=Gd h
      refine JLh (.ptr 1023 (0+c1*6)) (H29 G67 O O O (Hc a8).1 (Nat.succ_le_succ (Hc a8).2)) O ?_
      obtain⟨g3,a9,h⟩:=Gd h
      refine JLh (.ptr 1023 ((0+c1*6)+g3*1)) (H29 G8b O O O (Hc a9).1 (Nat.succ_le_succ (Hc a9).2)) O (J9 (u:=.junk) (H73 (u:=U8 (IntKind.u8.wrap (l.1+1))) Hd6 O O O O O O (Gu.R07 (Hc a8).2 (Hc a9).2) (Gu.Q6d l.2 (Hc a8).2 (Hc a9).2 (IntKind.u8.wrap (l.1+1)))) (G6 (k1 (G1 (JLh (I64 ((t+1:Nat):Int)) (J0 (Hk c0 j5) O O O) O (JLm (I64 ((t+1:Nat):Int)) O (G6 (o3 _ _ (t+1) (IntKind.u8.wrap (l.1+1),(l.2.set (c1*6+g3*1) (IntKind.u8.wrap (l.1+1)))) (app1 k0 h) (by omega) ⟨(.sm O O),⟨⟨_,rfl,.same⟩,fbQ O (.sm O O),ø⟩,rfl⟩))))))))
     ·
      have h:=app1 c6 (Hw b9 (Hb hb))
      refine Hd (j2 (G1 (JLh (I64 ((q+1:Nat):Int)) (J0 (Hk b8 i5) O O O) O (JLm (I64 ((q+1:Nat):Int)) O (G6 (o1 _ _ (q+1) (l.1,l.2) (app1 j1 h) (by omega) ⟨(.sm O O),⟨⟨_,rfl,.same⟩,fbQ O (.sm O O),ø⟩,rfl⟩))))))
    ·
     have h:=app1 c5 (Hw b7 (Hb hb))
     refine Hd (i3 (Jr fun k4=>(JLh (.mp 1032) (Q7f 1032 Gu.kv I64 O O) O (JLh (.agg (Gu.cs j.2)) (Jf G68 O O O O) O (J9 (u:=.junk) (Jd2 (m:=(Qh.empty:Qh Gu Int)) (a:=j.2) (v:=0) O O O O O O Qee Hd7) (JLm (.mp 1032) O (JLh (.ptr 1024 0) (Ja 1024 1 Jdc O O) O (J9 (u:=.junk) (Ho (u:=.mp 1032) (ds:=[.mp 1032]) Q2e O O O O O O O O) (G6 (k4 ?_))))))))))
     refine fzQ [(2,.dptr [LS 1 (E1) y.Stacks,I64 y.Height]),(9,OW 1031 1 I64 k),(12,.dptr (Gu.cs j.2)),(17,.ptr 1024 0)] [(1031,.spare 3 1 k.length k.length),(1032,MP 78 Gu.kv I64 (Qh.put (Qh.empty:Qh Gu Int) j.2 0)),(1024,.box 78 [.mp 1032])] 1023 rfl rfl rfl ⟨⟨_,rfl,.same⟩,fmQ O,⟨_,rfl,.boxEq rfl rfl⟩,ø⟩ rfl ?_
     refine Jr fun k5=>(JLh (.agg (Gu.cs j.2)) (Gr G68 O O O) O (JLh (.agg (Ed j)) (Jn (cs:=(Ed j)) [(0,24),(24,1),(25,2)] Ee [.int .u8 0,.int .u8 0,.int .u8 0,.int .u8 0,.int .u8 0,.int .u8 0,.int .u8 0,.int .u8 0,.int .u8 0,.int .u8 0,.int .u8 0,.int .u8 0,.int .u8 0,.int .u8 0,.int .u8 0,.int .u8 0,.int .u8 0,.int .u8 0,.int .u8 0,.int .u8 0,.int .u8 0,.int .u8 0,.int .u8 0,.int .u8 0,E0,E0,E0] Haa J21 (zzQ O) O O) O (JLh (OW 1033 27 Gv.av [(Gv.mk j.2 (-1) (G3.mk 0 0))]) (Ha2 1033 (f:=Gv.av) [(Gv.mk j.2 (-1) (G3.mk 0 0))] O ⟨O,O,ø⟩ G03 Hf4 O O O O O) O (JLh (.ptr 1025 0) (Ja 1025 1 Jdb O O) O (J9 (u:=.junk) (Ho (u:=OW 1033 27 Gv.av [(Gv.mk j.2 (-1) (G3.mk 0 0))]) (ds:=[OW 1033 27 Gv.av [(Gv.mk j.2 (-1) (G3.mk 0 0))]]) J22 O O O O O O O O) (G6 (k5 ?_)))))))
     refine Jr fun k6=>(JLm (I64 (-1)) O (G6 (k6 (Js fun k7=>Q17 (k7 ?_)))))
     obtain⟨k8,c7,h⟩:=G13 h
     refine Z5 (fun o:Int×(Qh Gu Int)×(List Gv)×Int=>k8 o=some r) (fun o=>[(18,.ptr 1025 0),(19,I64 o.1)]) (fun o=>[(1032,MP 78 Gu.kv I64 o.2.1),(1033,.spare 80 27 o.2.2.1.length o.2.2.1.length),(1024,.box 78 [.mp 1032]),(1025,.box 81 [OW 1033 27 Gv.av o.2.2.1]),(1026,.box 3 [I64 o.2.2.2])]) (fun Kj82 ej82=>?_) ?_
     ·
      refine Jr fun k9=>(JLh (.ptr 1026 0) (Ja 1026 1 Jg O O) O (J9 (u:=.junk) (Ho (u:=I64 0) (ds:=[I64 0]) Gf9 O O O O O O O O) (G6 (k9 (Gg ?_)))))
      obtain⟨o4,l0,h⟩:=G31 h
      refine H9 (fun a7 (e:Int×(List Gv)×Int×(Qh Gu Int))=>loop o4 a7 e=some r) (fun a7 e=>[(2,.dptr [LS 1 (E1) y.Stacks,I64 y.Height]),(9,OW 1031 1 I64 k),(17,.ptr 1024 0),(18,.ptr 1025 0),(19,I64 e.1),(20,.ptr 1026 0)]) (fun a7 e=>[(1031,.spare 3 1 k.length k.length),(1032,MP 78 Gu.kv I64 e.2.2.2),(1033,.spare 80 27 e.2.1.length e.2.1.length),(1024,.box 78 [.mp 1032]),(1025,.box 81 [OW 1033 27 Gv.av e.2.1]),(1026,.box 3 [I64 e.2.2.1])]) (fun a7=>a7) F ((-1),[(Gv.mk j.2 (-1) (G3.mk 0 0))],0,(Qh.put (Qh.empty:Qh Gu Int) j.2 0)) h ⟨(.sm O O),⟨⟨_,rfl,.same⟩,fmQ O,⟨_,rfl,.same⟩,fbQ O ⟨.same rfl,ø⟩,fbQ O ⟨.same rfl,ø⟩,fbQ O ⟨.same rfl,ø⟩,ø⟩,rfl⟩ ?_
      clear h
      intro a7 e l1 q9 o5
      obtain⟨o6,p8,hm_84,l2,h⟩:=G09 l1
      replace h:=Hc8 l0 h
      refine Js fun l3=>Jr fun l4=>(JLh (I64 e.2.2.1) (Hz Gn O O O O) O (JLh (OW 1033 27 Gv.av e.2.1) (Hz G1e O O O O) O (JLl G03 O O O fun p9=>(JLh (BL (decide (e.2.2.1 < (e.2.1.length:Int)))) (J1 O O O) O (G6 (l4 (JCc O h (fun h hb=>?_) (fun h hb=>?_))))))))
      ·
       refine Gi (l3 (Js fun l5=>Gg (Jr fun l6=>(JLh (OW 1033 27 Gv.av e.2.1) (Hz G1e O O O O) O (JLh (I64 e.2.2.1) (Hz Gn O O O O) O ?_)))))
       obtain⟨r0,n,l7,l8,h⟩:=R7 h
       refine JLh (.dptr (Gv.cs n)) (H1 (f:=Gv.av) (xs:=e.2.1) (y:=n) O O O G03 l8 l7) O (JLh (.dptr (Gv.cs n)) (Gy J7a O O O) O (JLh (.agg (Gu.cs n.s)) (Gr G68 O O O) O (JLh (.ptr 1027 0) (Ja 1027 24 H37 O O) O (J9 (u:=.junk) (Ho (u:=.agg (Gu.cs n.s)) (ds:=[U8 (n.s.g 0),U8 (n.s.g 1),U8 (n.s.g 2),U8 (n.s.g 3),U8 (n.s.g 4),U8 (n.s.g 5),U8 (n.s.g 6),U8 (n.s.g 7),U8 (n.s.g 8),U8 (n.s.g 9),U8 (n.s.g 10),U8 (n.s.g 11),U8 (n.s.g 12),U8 (n.s.g 13),U8 (n.s.g 14),U8 (n.s.g 15),U8 (n.s.g 16),U8 (n.s.g 17),U8 (n.s.g 18),U8 (n.s.g 19),U8 (n.s.g 20),U8 (n.s.g 21),U8 (n.s.g 22),U8 (n.s.g 23)]) H80 O O O O O O O O) (G6 (l6 ?_))))))
       refine fzQ [(2,.dptr [LS 1 (E1) y.Stacks,I64 y.Height]),(9,OW 1031 1 I64 k),(17,.ptr 1024 0),(18,.ptr 1025 0),(19,I64 e.1),(20,.ptr 1026 0),(21,.dptr (Gu.cs n.s))] [(1031,.spare 3 1 k.length k.length),(1032,MP 78 Gu.kv I64 e.2.2.2),(1033,.spare 80 27 e.2.1.length e.2.1.length),(1024,.box 78 [.mp 1032]),(1025,.box 81 [OW 1033 27 Gv.av e.2.1]),(1026,.box 3 [I64 e.2.2.1])] 1027 rfl rfl rfl ⟨⟨_,rfl,.same⟩,fmQ O,⟨_,rfl,.same⟩,⟨_,rfl,.boxEq rfl rfl⟩,⟨_,rfl,.boxEq rfl rfl⟩,⟨_,rfl,.boxEq rfl rfl⟩,ø⟩ rfl (Js fun l9=>?_)
       refine Jr fun m0=>(JLh (.dptr [LS 1 (E1) y.Stacks,I64 y.Height]) (Gy Hp O O O) O (JLh (LS 1 (E1) y.Stacks) (Gp Gs O O O) O (JLl Gf O O O fun o8=>(JLm (OW 1031 1 I64 k) O ?_))))
       obtain⟨g4,m1,h⟩:=Gd h
       refine JLh (BL g4) (Gt O (Gf6 F n.s (y.Stacks.length:Int) k g4 m1) Q46 ⟨O,O,O,O,O,O,ø⟩) O (G6 (m0 (JCc O h (fun h hb=>?_) (fun h hb=>?_))))
       ·
        refine Jr fun m2=>(JLh (I64 e.2.2.1) (Hz Gn O O O O) O (JLm (I64 e.2.2.1) O (G6 (m2 (Hd (ej82 _ _ (e.2.2.1,e.2.2.2,e.2.1,e.2.2.1) h ⟨(.sm O O),⟨⟨_,O,.map⟩,⟨_,O,.same⟩,⟨_,O,.boxL O ⟨.same O,ø⟩⟩,⟨_,O,.boxL O ⟨.same O,ø⟩⟩,⟨_,O,.boxL O ⟨.same O,ø⟩⟩,ø⟩,O⟩))))))
       ·
        refine Gi (l9 (Jr fun m3=>(JLh (.dptr [LS 1 (E1) y.Stacks,I64 y.Height]) (Gy Hp O O O) O (JLh (LS 1 (E1) y.Stacks) (Gp Gs O O O) O (JLl Gf O O O fun o9=>(JLh (.dptr [I64 y.Height]) (Gy Rv O O O) O (JLh (I64 y.Height) (Gp Gn O O O) O ?_)))))))
        obtain⟨o7,m4,h⟩:=Gd h
        refine JLh (.fn 74 [.dptr [E7 y.Stacks.length],.dptr [.dptr (Gu.cs n.s)],.dptr [I64 y.Height]]) (Gt O (H02 n.s (y.Stacks.length:Int) y.Height o7 m4) Q45 ⟨O,O,O,O,O,O,ø⟩) O (G6 (m3 (Gg ?_)))
        obtain⟨a4,hy_109,h⟩:=Gd h
        obtain⟨m5,c8,c9,c2,h⟩:=J6 h
        refine Jcf (ps:=[113,114]) [(2,.dptr [LS 1 (E1) y.Stacks,I64 y.Height]),(9,OW 1031 1 I64 k),(17,.ptr 1024 0),(18,.ptr 1025 0),(19,I64 e.1),(20,.ptr 1026 0),(112,.fn 74 [.dptr [E7 y.Stacks.length],.dptr [.dptr (Gu.cs n.s)],.dptr [I64 y.Height]])] (a4.map (fun y:G3×Gu=>[.agg [I64 y.1.From,I64 y.1.To],.agg (Gu.cs y.2)])) (fun b0 (d:(List Gv)×(Qh Gu Int))=>each m5 c8 (List.drop b0 a4) b0 d=some r) (fun d=>[(1031,.spare 3 1 k.length k.length),(1032,MP 78 Gu.kv I64 d.2),(1033,.spare 80 27 d.1.length d.1.length),(1024,.box 78 [.mp 1032]),(1025,.box 81 [OW 1033 27 Gv.av d.1]),(1026,.box 3 [I64 e.2.2.1])]) (e.2.1,e.2.2.2) rfl rfl rfl Q37 (Gd8.down F (y.Stacks.length:Int) n.s y.Height a4 hy_109) h ⟨(.sm O O),⟨⟨_,rfl,.same⟩,fmQ O,⟨_,rfl,.same⟩,fbQ O ⟨.same rfl,trivial⟩,fbQ O ⟨.same rfl,trivial⟩,fbQ O ⟨.same rfl,trivial⟩,trivial⟩,rfl⟩ rfl (fun us_ hus_=>by obtain⟨_,_,rfl⟩:=Kn.1 hus_; rfl) (fun p_ hp_=>Nat.blt_eq.mp (by revert p_; decide)) (fun _=>(.sm O O)) (fun _=>rfl) ?_ ?_
        ·
         intro b0 us_ d hu_ d0 lr_ q0 c3
         obtain⟨d1,rfl⟩:=R51 hu_
         obtain⟨c,p0,d2,b4,h⟩:=Hv d0 d1
         replace h:=Yr c9 h
         obtain⟨_,rfl⟩:=Ev d2
         generalize a4[b0]=c at h ⊢
         change JC _ _ _ _ [(114,.agg (Gu.cs c.2)),(113,.agg [I64 c.1.From,I64 c.1.To]),(2,.dptr [LS 1 (E1) y.Stacks,I64 y.Height]),(9,OW 1031 1 I64 k),(17,.ptr 1024 0),(18,.ptr 1025 0),(19,I64 e.1),(20,.ptr 1026 0),(112,.fn 74 [.dptr [E7 y.Stacks.length],.dptr [.dptr (Gu.cs n.s)],.dptr [I64 y.Height]])] [(1031,.spare 3 1 k.length k.length),(1032,MP 78 Gu.kv I64 d.2),(1033,.spare 80 27 d.1.length d.1.length),(1024,.box 78 [.mp 1032]),(1025,.box 81 [OW 1033 27 Gv.av d.1]),(1026,.box 3 [I64 e.2.2.1])]
         refine Jr fun d3=>(JLh (.ptr 1028 0) (Ja 1028 2 G35 O O) O (J9 (u:=.junk) (Ho (u:=.agg [I64 c.1.From,I64 c.1.To]) (ds:=[I64 c.1.From,I64 c.1.To]) H08 O O O O O O O O) (G6 (d3 ?_))))
         refine fzQ [(17,.ptr 1024 0),(18,.ptr 1025 0),(20,.ptr 1026 0),(22,.dptr [I64 c.1.From,I64 c.1.To]),(114,.agg (Gu.cs c.2))] [(1031,.spare 3 1 k.length k.length),(1032,MP 78 Gu.kv I64 d.2),(1033,.spare 80 27 d.1.length d.1.length),(1024,.box 78 [.mp 1032]),(1025,.box 81 [OW 1033 27 Gv.av d.1]),(1026,.box 3 [I64 e.2.2.1])] 1028 rfl rfl rfl ⟨⟨_,rfl,.same⟩,fmQ O,⟨_,rfl,.same⟩,⟨_,rfl,.boxEq rfl rfl⟩,⟨_,rfl,.boxEq rfl rfl⟩,⟨_,rfl,.boxEq rfl rfl⟩,ø⟩ rfl (G1 ?_)
         refine JLh (.ptr 1029 0) (Ja 1029 24 H37 O O) O (J9 (u:=.junk) (Ho (u:=.agg (Gu.cs c.2)) (ds:=[U8 (c.2.g 0),U8 (c.2.g 1),U8 (c.2.g 2),U8 (c.2.g 3),U8 (c.2.g 4),U8 (c.2.g 5),U8 (c.2.g 6),U8 (c.2.g 7),U8 (c.2.g 8),U8 (c.2.g 9),U8 (c.2.g 10),U8 (c.2.g 11),U8 (c.2.g 12),U8 (c.2.g 13),U8 (c.2.g 14),U8 (c.2.g 15),U8 (c.2.g 16),U8 (c.2.g 17),U8 (c.2.g 18),U8 (c.2.g 19),U8 (c.2.g 20),U8 (c.2.g 21),U8 (c.2.g 22),U8 (c.2.g 23)]) H80 O O O O O O O O) (G6 ?_))
         refine Q74 [(17,.ptr 1024 0),(18,.ptr 1025 0),(20,.ptr 1026 0),(22,.dptr [I64 c.1.From,I64 c.1.To]),(23,.dptr (Gu.cs c.2))] [(1031,.spare 3 1 k.length k.length),(1032,MP 78 Gu.kv I64 d.2),(1033,.spare 80 27 d.1.length d.1.length),(1024,.box 78 [.mp 1032]),(1025,.box 81 [OW 1033 27 Gv.av d.1]),(1026,.box 3 [I64 e.2.2.1])] 1029 rfl rfl rfl ⟨⟨_,rfl,.same⟩,fmQ O,⟨_,rfl,.same⟩,⟨_,rfl,.boxEq rfl rfl⟩,⟨_,rfl,.boxEq rfl rfl⟩,⟨_,rfl,.boxEq rfl rfl⟩,ø⟩ rfl (by repeat' (first | exact .ptr | constructor)) (Rb5 (Gg (Jr fun d4=>(JLh (.mp 1032) (Hz Ha9 O O O O) O (JLh (.agg (Gu.cs c.2)) (Gr G68 O O O) O ?_)))))
         obtain⟨b1,d5,h⟩:=Gd h
         refine JLh (.tup [I64 b1,BL (Qh.has d.2 c.2)]) (((Ex d5) ▸ Q80 (av:=I64) (m:=d.2) (a:=c.2) 0 E0 O O O O Qee Hd7 H5a O)) O (JLm (.tup [I64 b1,BL (Qh.has d.2 c.2)]) O (JLh (I64 b1) (Gk O O O) O (JLh (BL (Qh.has d.2 c.2)) (Gk O O O) O (JLm (I64 b1) O (JLm (BL (Qh.has d.2 c.2)) O (G6 (d4 (Jr fun d6=>(JLm (BL (Qh.has d.2 c.2)) O (JLh (BL (!(Qh.has d.2 c.2))) (Yx (b:=(Qh.has d.2 c.2)) O O) O (G6 (d6 (JCc O h (fun h hb=>?_) (fun h hb=>?_))))))))))))))
         ·
          refine Jr fun d7=>(JLh (.mp 1032) (Hz Ha9 O O O O) O (JLh (.agg (Gu.cs c.2)) (Gr G68 O O O) O (JLh (OW 1033 27 Gv.av d.1) (Hz G1e O O O O) O (JLl G03 O O O fun p1=>(J9 (u:=.junk) (Hd3 (m:=d.2) (a:=c.2) (v:=(d.1.length:Int)) O O O O O O Qee Hd7) (G6 (d7 (G1 ?_))))))))
          refine JLh (OW 1033 27 Gv.av d.1) (Hz G1e O O O O) O (JLh (.agg (Gu.cs c.2)) (Gr G68 O O O) O (JLh (I64 e.2.2.1) (Hz Gn O O O O) O (JLh (.agg [I64 c.1.From,I64 c.1.To]) (Gr G2a O O O) O (JLh (.agg [U8 (c.2.g 0),U8 (c.2.g 1),U8 (c.2.g 2),U8 (c.2.g 3),U8 (c.2.g 4),U8 (c.2.g 5),U8 (c.2.g 6),U8 (c.2.g 7),U8 (c.2.g 8),U8 (c.2.g 9),U8 (c.2.g 10),U8 (c.2.g 11),U8 (c.2.g 12),U8 (c.2.g 13),U8 (c.2.g 14),U8 (c.2.g 15),U8 (c.2.g 16),U8 (c.2.g 17),U8 (c.2.g 18),U8 (c.2.g 19),U8 (c.2.g 20),U8 (c.2.g 21),U8 (c.2.g 22),U8 (c.2.g 23),I64 e.2.2.1,I64 c.1.From,I64 c.1.To]) (Jn (cs:=[U8 (c.2.g 0),U8 (c.2.g 1),U8 (c.2.g 2),U8 (c.2.g 3),U8 (c.2.g 4),U8 (c.2.g 5),U8 (c.2.g 6),U8 (c.2.g 7),U8 (c.2.g 8),U8 (c.2.g 9),U8 (c.2.g 10),U8 (c.2.g 11),U8 (c.2.g 12),U8 (c.2.g 13),U8 (c.2.g 14),U8 (c.2.g 15),U8 (c.2.g 16),U8 (c.2.g 17),U8 (c.2.g 18),U8 (c.2.g 19),U8 (c.2.g 20),U8 (c.2.g 21),U8 (c.2.g 22),U8 (c.2.g 23),I64 e.2.2.1,I64 c.1.From,I64 c.1.To]) [(0,24),(24,1),(25,2)] Ee [.int .u8 0,.int .u8 0,.int .u8 0,.int .u8 0,.int .u8 0,.int .u8 0,.int .u8 0,.int .u8 0,.int .u8 0,.int .u8 0,.int .u8 0,.int .u8 0,.int .u8 0,.int .u8 0,.int .u8 0,.int .u8 0,.int .u8 0,.int .u8 0,.int .u8 0,.int .u8 0,.int .u8 0,.int .u8 0,.int .u8 0,.int .u8 0,E0,E0,E0] Haa J21 (zzQ O) O O) O (JLh (LS 27 Gv.av [(Gv.mk c.2 e.2.2.1 c.1)]) (Ha (xs:=[.agg [U8 (c.2.g 0),U8 (c.2.g 1),U8 (c.2.g 2),U8 (c.2.g 3),U8 (c.2.g 4),U8 (c.2.g 5),U8 (c.2.g 6),U8 (c.2.g 7),U8 (c.2.g 8),U8 (c.2.g 9),U8 (c.2.g 10),U8 (c.2.g 11),U8 (c.2.g 12),U8 (c.2.g 13),U8 (c.2.g 14),U8 (c.2.g 15),U8 (c.2.g 16),U8 (c.2.g 17),U8 (c.2.g 18),U8 (c.2.g 19),U8 (c.2.g 20),U8 (c.2.g 21),U8 (c.2.g 22),U8 (c.2.g 23),I64 e.2.2.1,I64 c.1.From,I64 c.1.To]]) O ⟨O,O,ø⟩ G03 Hf4 O O O O) O ?_)))))
          obtain⟨d8,h⟩:=J2 h
          refine JLh (OW 1033 27 Gv.av (d.1++[(Gv.mk c.2 e.2.2.1 c.1)])) (Ru (f:=Gv.av) (xs:=d.1) (ys:=[(Gv.mk c.2 e.2.2.1 c.1)]) O O O O G03 Q31 d8 (fun _=>O) (.inl O) O) O (J9 (u:=.junk) (Ho (u:=OW 1033 27 Gv.av (d.1++[(Gv.mk c.2 e.2.2.1 c.1)])) (ds:=[OW 1033 27 Gv.av (d.1++[(Gv.mk c.2 e.2.2.1 c.1)])]) J22 O O O O O O O O) (G6 (c3 _ _ ((d.1++[(Gv.mk c.2 e.2.2.1 c.1)]),(Qh.put d.2 c.2 (d.1.length:Int))) (app1 b4 h) ⟨ø,⟨⟨_,O,.same⟩,⟨_,O,.map⟩,⟨_,O,.same⟩,⟨_,O,.boxL O ⟨.same O,ø⟩⟩,⟨_,O,.boxL O ⟨.same O,ø⟩⟩,⟨_,O,.boxL O ⟨.same O,ø⟩⟩,ø⟩,O⟩)))
         ·
          refine Gi (c3 _ _ (d.1,d.2) (app1 b4 h) ⟨ø,⟨⟨_,O,.same⟩,⟨_,O,.map⟩,⟨_,O,.same⟩,⟨_,O,.boxL O ⟨.same O,ø⟩⟩,⟨_,O,.boxL O ⟨.same O,ø⟩⟩,⟨_,O,.boxL O ⟨.same O,ø⟩⟩,ø⟩,O⟩)
        ·
         intro d h
         rw [Kk] at h
         replace h:=app1 c2 (Hw h (Nat.lt_irrefl _))
         refine l5 (Js fun d9=>Jr fun e0=>(JLh (I64 e.2.2.1) (Hz Gn O O O O) O (G6 (e0 (G1 (R60 (l':=[(2,.dptr [LS 1 (E1) y.Stacks,I64 y.Height]),(9,OW 1031 1 I64 k),(17,.ptr 1024 0),(18,.ptr 1025 0),(19,I64 e.1),(112,.fn 74 [.dptr [E7 y.Stacks.length],.dptr [.dptr (Gu.cs n.s)],.dptr [I64 y.Height]]),(134,I64 e.2.2.1)]) (L':=[(1031,.spare 3 1 k.length k.length),(1032,MP 78 Gu.kv I64 d.2),(1033,.spare 80 27 d.1.length d.1.length),(1024,.box 78 [.mp 1032]),(1025,.box 81 [OW 1033 27 Gv.av d.1])]) ⟨(.sm O O),⟨⟨_,rfl,.same⟩,fmQ O,⟨_,rfl,.same⟩,fbQ O ⟨.same rfl,ø⟩,fbQ O ⟨.same rfl,ø⟩,ø⟩,rfl⟩ ?_))))))
         refine JLh (.ptr 1026 0) (Ja 1026 1 Jg O O) O (J9 (u:=.junk) (Ho (u:=I64 e.2.2.1) (ds:=[I64 e.2.2.1]) Gf9 O O O O O O O O) (G6 (d9 (G1 (JLh (I64 e.2.2.1) (Hz Gn O O O O) O ?_)))))
         obtain⟨b2,e1,h⟩:=Jb h
         refine JLh (I64 b2) (J0 e1 O O O) O (J9 (u:=.junk) (Ho (u:=I64 b2) (ds:=[I64 b2]) Gf9 O O O O O O O O) (G6 (o5 _ _ o6 (e.1,d.1,b2,d.2) (app1 l2 h) (by omega) ⟨(.sm O O),⟨⟨_,rfl,.same⟩,fmQ O,⟨_,rfl,.same⟩,fbQ O ⟨.same rfl,ø⟩,fbQ O ⟨.same rfl,ø⟩,fbQ O ⟨.same rfl,ø⟩,ø⟩,rfl⟩)))
      ·
       refine Hd (ej82 _ _ (e.1,e.2.2.2,e.2.1,e.2.2.1) h ⟨(.sm O O),⟨⟨_,O,.map⟩,⟨_,O,.same⟩,⟨_,O,.boxL O ⟨.same O,ø⟩⟩,⟨_,O,.boxL O ⟨.same O,ø⟩⟩,⟨_,O,.boxL O ⟨.same O,ø⟩⟩,ø⟩,O⟩)
     ·intro o h
      replace h:=app1 c7 h
      refine Js fun e2=>Jr fun e3=>(JLm (I64 o.1) O (JLh (BL (decide (o.1 < 0))) (J1 O O O) O (G6 (e3 (JCc O h (fun h hb=>?_) (fun h hb=>?_))))))
      ·
       refine Jr fun e4=>(JLh (E2 ([]:List G3)) (Jo 2 O O) O (JLm (I64 6) O (G6 (e4 (H0 (⟨[E2 ([]:List G3),I64 6],[],ø,O,⟨⟨_,O,.conv (.same O)⟩,⟨_,O,.conv (.same O)⟩,ø⟩,O,congrArg (fun r:(List G3)×Int=>(.tup [E2 r.1,I64 r.2]:AV)) (Ex h)⟩))))))
      ·
       refine Gi (e2 (Jr fun e5=>(JLh (.vec 1030 (([]:List G3).length) 2 (([]:List G3).length)) (H55 1030 39 2 O O O) O (G6 (e5 (Js fun e6=>Gg ?_))))))
       obtain⟨m6,e7,h⟩:=G31 h
       refine H9 (fun a1 (i:Int×(List G3))=>loop m6 a1 i=some r) (fun a1 i=>[(18,.ptr 1025 0),(19,I64 i.1),(26,.vec 1030 i.2.length 2 i.2.length)]) (fun a1 i=>[(1032,MP 78 Gu.kv I64 o.2.1),(1033,.spare 80 27 o.2.2.1.length o.2.2.1.length),(1030,.vec 39 2 i.2.length (i.2.map G3.av)),(1024,.box 78 [.mp 1032]),(1025,.box 81 [OW 1033 27 Gv.av o.2.2.1]),(1026,.box 3 [I64 o.2.2.2])]) (fun a1=>a1) F (o.1,[]) h ⟨(.sm O O),⟨⟨_,O,.map⟩,⟨_,O,.same⟩,⟨_,O,.vec⟩,⟨_,O,.boxL O ⟨.same O,ø⟩⟩,⟨_,O,.boxL O ⟨.same O,ø⟩⟩,⟨_,O,.boxL O ⟨.same O,ø⟩⟩,ø⟩,O⟩ ?_
       clear h
       intro a1 i e8 q1 m7
       obtain⟨m8,p2,hm_156,e9,h⟩:=G09 e8
       replace h:=Hc8 e7 h
       refine Js fun f0=>Jr fun f1=>(JLh (OW 1033 27 Gv.av o.2.2.1) (Hz G1e O O O O) O (JLm (I64 i.1) O ?_))
       obtain⟨q2,a5,f2,f3,h⟩:=R7 h
       refine JLh (.dptr (Gv.cs a5)) (H1 (f:=Gv.av) (xs:=o.2.2.1) (y:=a5) O O O G03 f3 f2) O (JLh (.dptr ((Gv.cs a5).drop 24)) (Gy H79 O O O) O (JLh (I64 a5.from_) (Gp Gn O O O) O (JLh (BL (decide (0≤a5.from_))) (G59 O O O) O (G6 (f1 (JCc O h (fun h hb=>?_) (fun h hb=>?_)))))))
       ·
        refine Gi (f0 (Js fun f4=>Gg (G1 (JLm (.vec 1030 i.2.length 2 i.2.length) O (JLh (OW 1033 27 Gv.av o.2.2.1) (Hz G1e O O O O) O (JLm (I64 i.1) O ?_))))))
        obtain⟨q3,p,f5,f6,h⟩:=R7 h
        refine JLh (.dptr (Gv.cs p)) (H1 (f:=Gv.av) (xs:=o.2.2.1) (y:=p) O O O G03 f6 f5) O (JLh (.dptr [I64 p.by_.From,I64 p.by_.To]) (Gy J79 O O O) O (JLh (.agg [I64 p.by_.From,I64 p.by_.To]) (Gr G2a O O O) O (JLh (E2 [p.by_]) (Ha (xs:=[.agg [I64 p.by_.From,I64 p.by_.To]]) O ⟨O,O,ø⟩ Hx G35 O O O O) O ?_)))
        obtain⟨f7,h⟩:=J2 h
        refine JLh (.vec 1030 ((i.2++[p.by_]).length) 2 ((i.2++[p.by_]).length)) (G97 (f:=G3.av) (xs:=i.2) (ys:=[p.by_]) (ver:=i.2.length) (ver1:=(i.2++[p.by_]).length) rfl rfl rfl rfl Hx H0a f7 (fun _=>rfl) (.inl rfl) (by simp)) O (JLm (.vec 1030 ((i.2++[p.by_]).length) 2 ((i.2++[p.by_]).length)) O (G6 (f4 (G1 (JLh (OW 1033 27 Gv.av o.2.2.1) (Hz G1e O O O O) O (JLm (I64 i.1) O ?_))))))
        obtain⟨q4,a2,f8,f9,h⟩:=R7 h
        refine JLh (.dptr (Gv.cs a2)) (H1 (f:=Gv.av) (xs:=o.2.2.1) (y:=a2) O O O G03 f9 f8) O (JLh (.dptr ((Gv.cs a2).drop 24)) (Gy H79 O O O) O (JLh (I64 a2.from_) (Gp Gn O O O) O (JLm (I64 a2.from_) O (G6 (m7 _ _ m8 (a2.from_,(i.2++[p.by_])) (app1 e9 h) (by omega) ⟨(.sm O O),⟨fmQ O,⟨_,rfl,.same⟩,⟨_,rfl,.vec⟩,fbQ O ⟨.same rfl,ø⟩,fbQ O ⟨.same rfl,ø⟩,fbQ O ⟨.same rfl,ø⟩,ø⟩,rfl⟩)))))
       ·
        refine Hd (e6 (Jr fun g0=>(JLm (.vec 1030 i.2.length 2 i.2.length) O ?_)))
        obtain⟨b3,g1,h⟩:=Gd h
        refine JLh (.tup []) (Hd4 (args:=[.vec 1030 i.2.length 2 i.2.length]) (L0:=[(1030,.vec 39 2 i.2.length (i.2.map G3.av))]) (Lr:=[(1030,.vec 39 2 i.2.length (b3.map G3.av))]) O (G4c F i.2 i.2.length b3 g1) Q44 ⟨.inl O,O,ø⟩ ⟨O,ø⟩ O O O) O (G6 (g0 (Jr fun g2=>(JLm (.vec 1030 i.2.length 2 i.2.length) O (JLm (.vec 1030 i.2.length 2 i.2.length) O (JLm (I64 0) O (G6 (g2 (H26 [(4,E2 b3),(5,I64 0)] [(1033,.spare 80 27 o.2.2.1.length o.2.2.1.length)] 1030 rfl rfl ⟨⟨_,rfl,.same⟩,ø⟩ rfl (by exact⟨.vec,.conv (.same rfl),ø⟩) (H0 ?_))))))))))
        exact⟨[E2 b3,I64 0],[],ø,O,⟨⟨_,O,.conv (.same O)⟩,⟨_,O,.conv (.same O)⟩,ø⟩,O,congrArg (fun r:(List G3)×Int=>(.tup [E2 r.1,I64 r.2]:AV)) (Ex h)⟩
end
end Go.Proofs.Ytokjlondbjdlfaa
