/- Walks of functions. -/
import Derived.Test.YtokjlondbjdlfaaSpecY
set_option maxRecDepth 100000
set_option maxHeartbeats 1000000
set_option linter.unusedVariables false
set_option linter.unusedSimpArgs false
namespace Go.Proofs.Ytokjlondbjdlfaa
open Go.RowKit
noncomputable section

namespace XBF
open XAF
theorem G71:Gcc E8 77 24=true:=by kernel_rfl
theorem G99:H91 E8 75 6 1=true:=by kernel_rfl
theorem G70:H91 E8 77 4 6=true:=by kernel_rfl
theorem H99:Hr E8 73=true:=by kernel_rfl
theorem G52:placesOf E8 39=some [(0,1),(1,1)]:=by kernel_rfl
theorem H00:Qp E8 126=true:=by kernel_rfl
theorem Gb0:Qp E8 5=true:=by kernel_rfl
theorem Hef:Rx E8 5 1=true:=by kernel_rfl
theorem H95:Rx E8 77 24=true:=by kernel_rfl
theorem G95:(E8.info? 39).bind (fun i=>i.zero.map Value.cells)=some (List.toArray [E0,E0]):=by kernel_rfl
theorem H4e:Qn E8 77 24=true:=by kernel_rfl
end XBF
open XAF
open XBF

def Qi (F:Nat) (s:Gw) (stack:Int):Option Int:=
 loop (fun b (a:Int)=>
  bnd (bif decide (a < 6) then Y5 stack 3 else some 0) fun c=>
  bnd (bif decide (a < 6) then Y5 a 5 else some 0) fun d=>
  bif ((decide (a < 6))&&(decide (0 < (s.g (c*6+d*1))))) then
  (chk (a+1) fun e=>
   b e)
  else
  (some a)) F 0
theorem G2f (F:Nat) (s:Gw) (stack:Int) (r:Int) (h:Qi F s stack=some r):Pure E8 73 [.dptr (Gw.cs s),I64 stack] (·=I64 r):=by
 unfold Qi at h
 refine H9 [.tmp 4] Try.func73 O O (Jr fun q=>(JLm (I64 0) O (G6 (q (Jr fun t=>(JLm (I64 0) O (G6 (t (Js fun u=>Gk ?_)))))))))
 obtain⟨v,j,h⟩:=G2a h
 refine Ha (fun b (a:Int)=>loop v b a=some r) (fun b a=>[(0,.dptr (Gw.cs s)),(1,I64 stack),(5,I64 a)]) (fun b a=>[]) (fun b=>b) F 0 h ⟨(.sm O O),ø,O⟩ ?_
 clear h
 intro b a k z w
 obtain⟨x,y,hm_12,l,h⟩:=G03 k
 replace h:=Hb5 j h
 refine Js fun m=>Jr fun n=>(JLm (I64 a) O (JLh (BL (decide (a < 6))) (J0 O O O) O (JLm (BL (decide (a < 6))) O (JLo (.dptr (Gw.cs s)) [] O .sct ø (fun hc=>G2 O O) O (JLo (I64 stack) [] O .sct ø (fun hc=>G2 O O) O (JLo (I64 a) [] O .sct ø (fun hc=>G2 O O) O (JLo (.dptr (Gw.cs s)) [9] O .sct ⟨Ua,ø⟩ (fun hc=>G26 O O) O ?_)))))))
 obtain⟨c,d,h⟩:=Gg h
 refine JLo (.dptr ((Gw.cs s).drop (c*6))) [10,12] O .sct ⟨Ua,Ua,ø⟩ (fun hc=>J08 G70 O O O (Hg (H5 hc d)).1 (Nat.succ_le_succ (Hg (H5 hc d)).2)) O ?_
 obtain⟨f,e,h⟩:=Gg h
 refine JLo (.dptr (((Gw.cs s).drop (c*6)).drop (f*1))) [11,13] O .sct ⟨Ua,Ua,ø⟩ (fun hc=>J08 G99 O O O (Hg (H5 hc e)).1 (Nat.succ_le_succ (Hg (H5 hc e)).2)) O (JLo (U8 (s.g (c*6+f*1))) [14] O .sct ⟨Ua,ø⟩ (fun hc=>J07 Gb0 O O (Gw.Q91 s (Hg (H5 hc d)).2 (Hg (H5 hc e)).2)) O (JLo (BL (decide (0 < (s.g (c*6+f*1))))) [15] O .sct ⟨Ua,ø⟩ (fun hc=>Z7 O O O) O (JLh (BL ((decide (a < 6))&&(decide (0 < (s.g (c*6+f*1)))))) (R9 O O O O) O (G6 (n (JCc O h (fun h hb=>?_) (fun h hb=>?_)))))))
 ·
  refine Gp (m (Gk (G1 (JLm (I64 a) O ?_))))
  obtain⟨i,o,h⟩:=J8 h
  refine JLh (I64 i) (Hz o O O O) O (JLm (I64 i) O (G6 (w _ _ x i (app1 l h) (by omega) ⟨(.sm O O),ø,rfl⟩)))
 ·
  refine Hf (u (Jr fun p=>(JLm (I64 a) O (JLm (I64 a) O (G6 (p (H0 (fin1 I64 h))))))))

def Rq (F:Nat) (s:Gw) (stacks:Int) (ranks:List Int):Option Bool:=
 need (decide (stacks≤9223372036854775807)) <|
 upto (fun b (o:Unit) d=>
  loop (fun c (a:Int)=>
   bnd (Qi F s (b:Int)) fun e=>
   bif decide (a < e) then
   (bnd (Y5 (b:Int) 3) fun f=>
    bnd (Y5 a 5) fun h=>
    Qu ranks (s.g (f*6+h*1)) fun i=>
    chk (a - 1) fun j=>
    bnd (Y5 (b:Int) 3) fun k=>
    bnd (Y5 j 5) fun l=>
    Qu ranks (s.g (k*6+l*1)) fun m=>
    bif decide (m < i) then
    (some false)
    else
    (chk (a+1) fun n=>
     c n))
   else
   (d ())) F 1)
 (fun(o:Unit)=>
  some true) stacks.toNat 0 ()
theorem H0e (F:Nat) (s:Gw) (stacks:Int) (ranks:List Int) (r:Bool) (h:Rq F s stacks ranks=some r):Pure E8 41 [.dptr (Gw.cs s),I64 stacks,E1 ranks] (·=BL r):=by
 unfold Rq at h
 refine H9 [.tmp 6] Try.func41 O O (Jr fun b6=>(JLm (BL false) O (G6 (b6 (Js fun b7=>Jr fun b8=>(JLm (I64 stacks) O (JLm (I64 0) O (G6 (b8 (Gk ?_))))))))))
 obtain⟨b9,h⟩:=J1 h
 obtain⟨b4,c0,c1,x,h⟩:=Gf2 h
 refine Ha (fun a (q:Unit)=>upto b4 c0 (stacks.toNat - a) a q=some r) (fun a q=>[(0,.dptr (Gw.cs s)),(2,E1 ranks),(9,I64 stacks),(10,E7 a)]) (fun a q=>[]) (fun a=>stacks.toNat - a) 0 () h ⟨(.sm O O),ø,rfl⟩ ?_
 clear h
 intro a q t K4 e4
 refine Jr fun c2=>(JLh (BL (decide ((a:Int) < stacks))) (J0 O O O) O (G6 (c2 (Js fun c3=>Gj O (fun hb=>?_) (fun hb=>?_)))))
 ·
  have u:=Gb5 hb
  obtain⟨d5,c4,h⟩:=Gac t u
  replace h:=Q29 c1 h
  refine Gp (c3 (Js fun c5=>Gk (Jr fun c6=>(JLm (E7 a) O (JLm (E7 a) O (G6 (c6 (Jr fun c7=>(JLm (I64 1) O (G6 (c7 (Gk ?_))))))))))))
  obtain⟨c8,z,h⟩:=G2a h
  refine Ha (fun c (b:Int)=>loop c8 c b=some r) (fun c b=>[(0,.dptr (Gw.cs s)),(2,E1 ranks),(7,E7 a),(8,I64 b),(9,I64 stacks),(10,E7 a)]) (fun c b=>[]) (fun c=>c) F 1 h ⟨(.sm O O),ø,rfl⟩ ?_
  clear h
  intro c b a0 d6 c9
  obtain⟨d0,d4,hm_39,a1,h⟩:=G03 a0
  replace h:=Hb5 z h
  refine Js fun a2=>Jr fun a3=>(JLm (I64 b) O (JLm (.dptr (Gw.cs s)) O (JLm (E7 a) O ?_)))
  obtain⟨m,a4,h⟩:=Gg h
  refine JLh (I64 m) (Gv O (G2f F s (a:Int) m a4) H99 ⟨O,O,O,O,ø⟩) O (JLh (BL (decide (b < m))) (J0 O O O) O (G6 (a3 (JCc O h (fun h hb=>?_) (fun h hb=>?_)))))
  ·
   refine Gp (a2 (Js fun a5=>Gk (Js fun a6=>?_)))
   obtain⟨n,d,h⟩:=Gg h
   obtain⟨v,e,h⟩:=Gg h
   obtain⟨d7,k,a7,a8,h⟩:=Qq h
   obtain⟨d1,a9,h⟩:=J8 h
   obtain⟨o,i,h⟩:=Gg h
   obtain⟨w,j,h⟩:=Gg h
   obtain⟨d8,l,b0,b1,h⟩:=Qq h
   refine JC_d0 Jc (by kernel_rfl) (Dq (E1 ranks) (G2 O O) O (Dq (.dptr (Gw.cs s)) (G2 O O) O (Dq (E7 a) (G2 O O) O (Dq (I64 b) (G2 O O) O (Dq (.dptr (Gw.cs s)) (G26 O O) O (Dq (.dptr ((Gw.cs s).drop (n*6))) (J08 G70 O O O (Hg d).1 (Nat.succ_le_succ (Hg d).2)) O (Dq (.dptr (((Gw.cs s).drop (n*6)).drop (v*1))) (J08 G99 O O O (Hg e).1 (Nat.succ_le_succ (Hg e).2)) O (Dq (U8 (s.g (n*6+v*1))) (J07 Gb0 O O (Gw.Q91 s (Hg d).2 (Hg e).2)) O (Dq (.dptr [I64 k]) (H1 (f:=I64) (xs:=ranks) (y:=k) O O O G7 a8 a7) O (Dq (I64 k) (Gm Gi O O O) O (Dq (E1 ranks) (G2 O O) O (Dq (.dptr (Gw.cs s)) (G2 O O) O (Dq (E7 a) (G2 O O) O ?_)))))))))))))
   refine Dq (I64 b) (G2 O O) O (Dq (I64 d1) (G00 a9 O O O) O (Dq (.dptr (Gw.cs s)) (G26 O O) O (Dq (.dptr ((Gw.cs s).drop (o*6))) (J08 G70 O O O (Hg i).1 (Nat.succ_le_succ (Hg i).2)) O (Dq (.dptr (((Gw.cs s).drop (o*6)).drop (w*1))) (J08 G99 O O O (Hg j).1 (Nat.succ_le_succ (Hg j).2)) O (Dq (U8 (s.g (o*6+w*1))) (J07 Gb0 O O (Gw.Q91 s (Hg i).2 (Hg j).2)) O (Dq (.dptr [I64 l]) (H1 (f:=I64) (xs:=ranks) (y:=l) O O O G7 b1 b0) O (Dq (I64 l) (Gm Gi O O O) O (Dq (BL (decide (l < k))) (Z7 O O O) O (Dnil (a6 (JCc O h (fun h hb=>?_) (fun h hb=>?_))))))))))))
   ·
    refine Jr fun b2=>(JLm (BL false) O (G6 (b2 (H0 (fin1 BL h)))))
   ·
    refine Gp (a5 (G1 (JLm (I64 b) O ?_)))
    obtain⟨p,b3,h⟩:=J8 h
    refine JLh (I64 p) (Hz b3 O O O) O (JLm (I64 p) O (G6 (c9 _ _ d0 p (app1 a1 h) (by omega) ⟨(.sm O O),ø,rfl⟩)))
  ·
   refine Hf (c5 (G1 (JLh (I64 ((a+1:Nat):Int)) (Hz (Hn u (G6e b9)) O O O) O (JLm (I64 ((a+1:Nat):Int)) O (G6 (e4 _ _ (a+1) () (app1 c4 h) (by omega) ⟨(.sm O O),ø,rfl⟩))))))
 ·
  have h:=app1 x (Gad t (G0f hb))
  refine Hf (b7 (Jr fun b5=>(JLm (BL true) O (G6 (b5 (H0 (fin1 BL h)))))))

def Zm (F:Nat) (f:Int) (h:Gw) (v:Int) (ys_:List (G5×Gw)):Option Unit:=
 need (decide (f≤9223372036854775807)) <|
 upto (fun c (j:Nat) l=>
  need (decide (f≤9223372036854775807)) <|
  upto (fun b (a:Nat) k=>
   jp (fun d=>
    bnd (Qi F h (c:Int)) fun e=>
    bnd (Qi F h (b:Int)) fun i=>
    bif (((decide ((c:Int)=(b:Int)))||(decide (e=0)))||(decide (i=v))) then
    (d a)
    else
    (chk (e - 1) fun m=>
     chk (e - 1) fun n=>
     bnd (Y5 (c:Int) 3) fun o=>
     bnd (Y5 n 5) fun p=>
     bnd (Y5 (b:Int) 3) fun q=>
     bnd (Y5 i 5) fun r=>
     bnd (Y5 (c:Int) 3) fun s=>
     bnd (Y5 m 5) fun t=>
     need (decide (ys_[a]? = some ((G5.mk (c:Int) (b:Int)),((h.set (q*6+r*1) (h.g (o*6+p*1))).set (s*6+t*1) 0)))) <|
     d (a+1))) fun(u:Nat)=>
   k u)
  (fun(a:Nat)=>
   l a) f.toNat 0 j)
 (fun(j:Nat)=>
  need (decide (j=ys_.length)) (some ())) f.toNat 0 0
abbrev Eb (a:Gw):List AV:=[U8 (a.g 0),U8 (a.g 1),U8 (a.g 2),U8 (a.g 3),U8 (a.g 4),U8 (a.g 5),U8 (a.g 6),U8 (a.g 7),U8 (a.g 8),U8 (a.g 9),U8 (a.g 10),U8 (a.g 11),U8 (a.g 12),U8 (a.g 13),U8 (a.g 14),U8 (a.g 15),U8 (a.g 16),U8 (a.g 17),U8 (a.g 18),U8 (a.g 19),U8 (a.g 20),U8 (a.g 21),U8 (a.g 22),U8 (a.g 23)]
theorem Gf0 (F:Nat) (n:Int) (a:Gw) (t:Int) (ys_:List (G5×Gw)) (q_:Unit) (h:Zm F n a t ys_=some q_):Iter E8 74 [.dptr [I64 n],.dptr [.dptr (Gw.cs a)],.dptr [I64 t]] (ys_.map (fun y:G5×Gw=>[.agg [I64 y.1.From,I64 y.1.To],.agg (Gw.cs y.2)])):=by
 unfold Zm at h
 refine R8f Try.func74 O O ?_
 intro E hE hys
 refine G59 (fun K1 d0=>G24 (Y4 (u:=I64 n) hE (Gm Gi O O O) ?_ O O O O))
 refine Y4 (u:=I64 0) hE (G2 O O) ?_ O O O O
 refine G8d ?_
 refine d0 _ _ _ (He6 ?_)
 obtain⟨d1,h⟩:=J1 h
 obtain⟨b2,d2,d3,b0,h⟩:=Gf2 h
 refine Q31 (fun m (s2:Nat)=>upto b2 d2 (n.toNat - m) m s2=some q_) (fun m s2=>[(0,.sc (.func (.yield E.lp) #[] #[])),(1,.dptr [I64 n]),(2,.dptr [.dptr (Gw.cs a)]),(3,.dptr [I64 t]),(10,I64 n),(11,E7 m)]) (fun m s2=>[]) (fun m s2=>s2) (fun m=>n.toNat - m) 0 0 h ⟨(.sm O O),ø,rfl⟩ rfl ?_
 clear h
 intro m s2 a8 K2 e2
 refine G59 (fun K3 d4=>G24 (Y4 (u:=BL (decide ((m:Int) < n))) hE (J0 O O O) ?_ O O O O))
 refine G8d ?_
 refine d4 _ _ _ (G59 (fun K4 d5=>He5 O (fun hb=>?_) (fun hb=>?_)))
 ·
  have a9:=Gb5 hb
  obtain⟨e8,d6,h⟩:=Gac a8 a9
  replace h:=Q29 d3 h
  refine J33 (d5 _ _ _ (G59 (fun K5 d7=>He6 (G59 (fun K6 d8=>G24 (Y4 (u:=E7 m) hE (G2 O O) ?_ O O O O))))))
  refine Y4 (u:=E7 m) hE (G4 O O) ?_ O O O O
  refine G8d ?_
  refine d8 _ _ _ (G59 (fun K7 d9=>G24 (Y4 (u:=I64 n) hE (Gm Gi O O O) ?_ O O O O)))
  refine Y4 (u:=I64 0) hE (G2 O O) ?_ O O O O
  refine G8d ?_
  refine d9 _ _ _ (He6 ?_)
  obtain⟨b1,h⟩:=J1 h
  obtain⟨e0,b3,b4,a6,h⟩:=Gf2 h
  refine Q31 (fun j (p:Nat)=>upto e0 b3 (n.toNat - j) j p=some q_) (fun j p=>[(0,.sc (.func (.yield E.lp) #[] #[])),(1,.dptr [I64 n]),(2,.dptr [.dptr (Gw.cs a)]),(3,.dptr [I64 t]),(5,E7 m),(10,I64 n),(11,E7 m),(14,I64 n),(15,E7 j)]) (fun j p=>[]) (fun j p=>p) (fun j=>n.toNat - j) 0 s2 h ⟨(.sm O O),ø,rfl⟩ rfl ?_
  clear h
  intro j p a3 e9 e1
  refine G59 (fun f0 b5=>G24 (Y4 (u:=BL (decide ((j:Int) < n))) hE (J0 O O O) ?_ O O O O))
  refine G8d ?_
  refine b5 _ _ _ (G59 (fun f1 b6=>He5 O (fun hb=>?_) (fun hb=>?_)))
  ·
   have a4:=Gb5 hb
   obtain⟨e7,b7,h⟩:=Gac a3 a4
   replace h:=Q29 b4 h
   refine J33 (b6 _ _ _ ?_)
   obtain⟨b8,a7,h⟩:=G0a h
   refine R8a (fun s:Nat=>b8 s=some q_) (fun s=>[(0,.sc (.func (.yield E.lp) #[] #[])),(1,.dptr [I64 n]),(2,.dptr [.dptr (Gw.cs a)]),(3,.dptr [I64 t]),(5,E7 m),(10,I64 n),(11,E7 m),(14,I64 n),(15,E7 j)]) (fun s=>[]) (fun s=>s) (fun Kj53 ej53=>?_) ?_
   ·
    refine He6 (G59 (fun f2 b9=>G24 (Y4 (u:=E7 j) hE (G2 O O) ?_ O O O O)))
    refine Y4 (u:=E7 j) hE (G4 O O) ?_ O O O O
    refine G8d ?_
    refine b9 _ _ _ (G59 (fun f3 c0=>?_))
    obtain⟨o,c1,h⟩:=Gg h
    obtain⟨q,c2,h⟩:=Gg h
    refine Qcd [] [0,0,0,0,0,0,0,0] [0,0,0,0,0,0,0,0] [[]] hE Jc (by kernel_rfl) rfl rfl (Gd (u:=.dptr (Gw.cs a)) O O ⟨Gb (Gm H00 O O O) O,ø⟩ (Gd (u:=E7 m) O O ⟨Gb (G2 O O) O,ø⟩ (Gd (u:=I64 o) O O ⟨Gb (Gv O (G2f F a (m:Int) o c1) H99 ⟨O,O,O,O,ø⟩) O,ø⟩ (Gd (u:=.dptr (Gw.cs a)) O O ⟨Gb (Gm H00 O O O) O,ø⟩ (Gd (u:=E7 j) O O ⟨Gb (G2 O O) O,ø⟩ (Gd (u:=I64 q) O O ⟨Gb (Gv O (G2f F a (j:Int) q c2) H99 ⟨O,O,O,O,ø⟩) O,ø⟩ (Gd (u:=I64 o) O O ⟨Gb (G4 O O) O,ø⟩ (Gd (u:=I64 q) O O ⟨Gb (G4 O O) O,ø⟩ (Rc (c0 _ _ _ (G59 (fun f4 c3=>G59 (fun f5 c4=>G24 ?_)))))))))))))
    refine Y4 (u:=E7 m) hE (G2 O O) ?_ O O O O
    refine Y4 (u:=E7 j) hE (G2 O O) ?_ O O O O
    refine Y4 (u:=BL (decide ((m:Int)=(j:Int)))) hE (Qm O O O) ?_ O O O O
    refine Y4 (u:=BL (decide ((m:Int)=(j:Int)))) hE (G2 O O) ?_ O O O O
    refine He7 (u:=I64 o) [] hE O O O .scf ø (fun hc=>G2 O O) ?_ O O O
    refine He7 (u:=BL (decide (o=0))) [(28,I64 o)] hE O O O .scf ⟨.all id,ø⟩ (fun hc=>Qm O O O) ?_ O O O
    refine Y4 (u:=BL ((decide ((m:Int)=(j:Int)))||(decide (o=0)))) hE (Yr O O O O) ?_ O O O O
    refine Y4 (u:=BL ((decide ((m:Int)=(j:Int)))||(decide (o=0)))) hE (G2 O O) ?_ O O O O
    refine He7 (u:=I64 q) [] hE O O O .scf ø (fun hc=>G2 O O) ?_ O O O
    refine He7 (u:=I64 t) [] hE O O O .scf ø (fun hc=>Gm Gi O O O) ?_ O O O
    refine He7 (u:=BL (decide (q=t))) [(32,I64 q),(33,I64 t)] hE O O O .scf ⟨.all id,.all id,ø⟩ (fun hc=>Qm O O O) ?_ O O O
    refine Y4 (u:=BL (((decide ((m:Int)=(j:Int)))||(decide (o=0)))||(decide (q=t)))) hE (Yr O O O O) ?_ O O O O
    refine G8d ?_
    refine c4 _ _ _ (He5 O (fun hb=>?_) (fun hb=>?_))
    ·
     replace h:=H5 hb h
     refine Je3 (ej53 _ _ _ p h ⟨(.sm O O),ø,rfl⟩ rfl)
    ·
     replace h:=Ho hb h
     refine J33 (c3 _ _ _ (G59 (fun f6 c5=>G24 (Y4 (u:=.dptr (Gw.cs a)) hE (Gm H00 O O O) ?_ O O O O))))
     refine Y4 (u:=.dptr (Gw.cs a)) hE (G26 O O) ?_ O O O O
     refine Y4 (u:=.agg (Gw.cs a)) hE (Gu G71 O O O) ?_ O O O O
     refine Y4 (u:=.ptr 1093 0) hE (Ja 1093 24 H4e O O) ?_ O O O O
     refine R8d (u:=.junk) hE (Ht (u:=.agg (Gw.cs a)) (ds:=(Eb a)) H95 O O O O O O O O) ?_ O O O
     refine G8d ?_
     refine c5 _ _ _ (G59 (fun f7 c6=>Qcc (l':=[(0,.sc (.func (.yield E.lp) #[] #[])),(1,.dptr [I64 n]),(2,.dptr [.dptr (Gw.cs a)]),(3,.dptr [I64 t]),(5,E7 m),(6,E7 j),(7,I64 o),(8,I64 q),(9,.ptr 1093 0),(10,I64 n),(11,E7 m),(14,I64 n),(15,E7 j)]) (L':=[(1093,.box 77 (Eb a))]) ⟨(.sm O O),⟨fbQ O (.sm O O),ø⟩,rfl⟩ ?_))
     obtain⟨e3,a5,h⟩:=J8 h
     obtain⟨e4,c7,h⟩:=J8 h
     obtain⟨c,a1,h⟩:=Gg h
     obtain⟨d,a2,h⟩:=Gg h
     obtain⟨e,v,h⟩:=Gg h
     obtain⟨i,w,h⟩:=Gg h
     obtain⟨k,r,h⟩:=Gg h
     obtain⟨l,z,h⟩:=Gg h
     refine Qcd [13,16] [0,0,0,0,0,0,0,0,0,0,0,0,0,0,0,1,0] [0,0,1,1,1,0,0,0,0,0,0,0,0,0,1,1,0] [[(1093,.box 77 (Eb a))],((1093,.box 77 [U8 ((a.set (e*6+i*1) (a.g (c*6+d*1))).g 0),U8 ((a.set (e*6+i*1) (a.g (c*6+d*1))).g 1),U8 ((a.set (e*6+i*1) (a.g (c*6+d*1))).g 2),U8 ((a.set (e*6+i*1) (a.g (c*6+d*1))).g 3),U8 ((a.set (e*6+i*1) (a.g (c*6+d*1))).g 4),U8 ((a.set (e*6+i*1) (a.g (c*6+d*1))).g 5),U8 ((a.set (e*6+i*1) (a.g (c*6+d*1))).g 6),U8 ((a.set (e*6+i*1) (a.g (c*6+d*1))).g 7),U8 ((a.set (e*6+i*1) (a.g (c*6+d*1))).g 8),U8 ((a.set (e*6+i*1) (a.g (c*6+d*1))).g 9),U8 ((a.set (e*6+i*1) (a.g (c*6+d*1))).g 10),U8 ((a.set (e*6+i*1) (a.g (c*6+d*1))).g 11),U8 ((a.set (e*6+i*1) (a.g (c*6+d*1))).g 12),U8 ((a.set (e*6+i*1) (a.g (c*6+d*1))).g 13),U8 ((a.set (e*6+i*1) (a.g (c*6+d*1))).g 14),U8 ((a.set (e*6+i*1) (a.g (c*6+d*1))).g 15),U8 ((a.set (e*6+i*1) (a.g (c*6+d*1))).g 16),U8 ((a.set (e*6+i*1) (a.g (c*6+d*1))).g 17),U8 ((a.set (e*6+i*1) (a.g (c*6+d*1))).g 18),U8 ((a.set (e*6+i*1) (a.g (c*6+d*1))).g 19),U8 ((a.set (e*6+i*1) (a.g (c*6+d*1))).g 20),U8 ((a.set (e*6+i*1) (a.g (c*6+d*1))).g 21),U8 ((a.set (e*6+i*1) (a.g (c*6+d*1))).g 22),U8 ((a.set (e*6+i*1) (a.g (c*6+d*1))).g 23)])::[(1093,.box 77 (Eb a))]),((1093,.box 77 [U8 (((a.set (e*6+i*1) (a.g (c*6+d*1))).set (k*6+l*1) 0).g 0),U8 (((a.set (e*6+i*1) (a.g (c*6+d*1))).set (k*6+l*1) 0).g 1),U8 (((a.set (e*6+i*1) (a.g (c*6+d*1))).set (k*6+l*1) 0).g 2),U8 (((a.set (e*6+i*1) (a.g (c*6+d*1))).set (k*6+l*1) 0).g 3),U8 (((a.set (e*6+i*1) (a.g (c*6+d*1))).set (k*6+l*1) 0).g 4),U8 (((a.set (e*6+i*1) (a.g (c*6+d*1))).set (k*6+l*1) 0).g 5),U8 (((a.set (e*6+i*1) (a.g (c*6+d*1))).set (k*6+l*1) 0).g 6),U8 (((a.set (e*6+i*1) (a.g (c*6+d*1))).set (k*6+l*1) 0).g 7),U8 (((a.set (e*6+i*1) (a.g (c*6+d*1))).set (k*6+l*1) 0).g 8),U8 (((a.set (e*6+i*1) (a.g (c*6+d*1))).set (k*6+l*1) 0).g 9),U8 (((a.set (e*6+i*1) (a.g (c*6+d*1))).set (k*6+l*1) 0).g 10),U8 (((a.set (e*6+i*1) (a.g (c*6+d*1))).set (k*6+l*1) 0).g 11),U8 (((a.set (e*6+i*1) (a.g (c*6+d*1))).set (k*6+l*1) 0).g 12),U8 (((a.set (e*6+i*1) (a.g (c*6+d*1))).set (k*6+l*1) 0).g 13),U8 (((a.set (e*6+i*1) (a.g (c*6+d*1))).set (k*6+l*1) 0).g 14),U8 (((a.set (e*6+i*1) (a.g (c*6+d*1))).set (k*6+l*1) 0).g 15),U8 (((a.set (e*6+i*1) (a.g (c*6+d*1))).set (k*6+l*1) 0).g 16),U8 (((a.set (e*6+i*1) (a.g (c*6+d*1))).set (k*6+l*1) 0).g 17),U8 (((a.set (e*6+i*1) (a.g (c*6+d*1))).set (k*6+l*1) 0).g 18),U8 (((a.set (e*6+i*1) (a.g (c*6+d*1))).set (k*6+l*1) 0).g 19),U8 (((a.set (e*6+i*1) (a.g (c*6+d*1))).set (k*6+l*1) 0).g 20),U8 (((a.set (e*6+i*1) (a.g (c*6+d*1))).set (k*6+l*1) 0).g 21),U8 (((a.set (e*6+i*1) (a.g (c*6+d*1))).set (k*6+l*1) 0).g 22),U8 (((a.set (e*6+i*1) (a.g (c*6+d*1))).set (k*6+l*1) 0).g 23)])::((1093,.box 77 [U8 ((a.set (e*6+i*1) (a.g (c*6+d*1))).g 0),U8 ((a.set (e*6+i*1) (a.g (c*6+d*1))).g 1),U8 ((a.set (e*6+i*1) (a.g (c*6+d*1))).g 2),U8 ((a.set (e*6+i*1) (a.g (c*6+d*1))).g 3),U8 ((a.set (e*6+i*1) (a.g (c*6+d*1))).g 4),U8 ((a.set (e*6+i*1) (a.g (c*6+d*1))).g 5),U8 ((a.set (e*6+i*1) (a.g (c*6+d*1))).g 6),U8 ((a.set (e*6+i*1) (a.g (c*6+d*1))).g 7),U8 ((a.set (e*6+i*1) (a.g (c*6+d*1))).g 8),U8 ((a.set (e*6+i*1) (a.g (c*6+d*1))).g 9),U8 ((a.set (e*6+i*1) (a.g (c*6+d*1))).g 10),U8 ((a.set (e*6+i*1) (a.g (c*6+d*1))).g 11),U8 ((a.set (e*6+i*1) (a.g (c*6+d*1))).g 12),U8 ((a.set (e*6+i*1) (a.g (c*6+d*1))).g 13),U8 ((a.set (e*6+i*1) (a.g (c*6+d*1))).g 14),U8 ((a.set (e*6+i*1) (a.g (c*6+d*1))).g 15),U8 ((a.set (e*6+i*1) (a.g (c*6+d*1))).g 16),U8 ((a.set (e*6+i*1) (a.g (c*6+d*1))).g 17),U8 ((a.set (e*6+i*1) (a.g (c*6+d*1))).g 18),U8 ((a.set (e*6+i*1) (a.g (c*6+d*1))).g 19),U8 ((a.set (e*6+i*1) (a.g (c*6+d*1))).g 20),U8 ((a.set (e*6+i*1) (a.g (c*6+d*1))).g 21),U8 ((a.set (e*6+i*1) (a.g (c*6+d*1))).g 22),U8 ((a.set (e*6+i*1) (a.g (c*6+d*1))).g 23)])::[(1093,.box 77 (Eb a))]))] hE Jc (by kernel_rfl) rfl rfl ?_
     refine Gd (u:=E7 j) O O ⟨Gb (G2 O O) O,ø⟩ (Gd (u:=I64 q) O O ⟨Gb (G2 O O) O,ø⟩ (Gd (u:=E7 m) O O ⟨Gb (G2 O O) O,Gb (G2 O O) O,ø⟩ (Gd (u:=I64 o) O O ⟨Gb (G2 O O) O,Gb (G2 O O) O,ø⟩ (Gd (u:=I64 e3) O O ⟨Gb (G00 a5 O O O) O,Gb (G00 a5 O O O) O,ø⟩ (Gd (u:=E7 m) O O ⟨Gb (G2 O O) O,ø⟩ (Gd (u:=I64 o) O O ⟨Gb (G2 O O) O,ø⟩ (Gd (u:=I64 e4) O O ⟨Gb (G00 c7 O O O) O,ø⟩ (Gd (u:=.ptr 1093 (0+c*6)) O O ⟨Gb (H41 G70 O O O (Hg a1).1 (Nat.succ_le_succ (Hg a1).2)) O,ø⟩ (Gd (u:=.ptr 1093 ((0+c*6)+d*1)) O O ⟨Gb (H41 G99 O O O (Hg a2).1 (Nat.succ_le_succ (Hg a2).2)) O,ø⟩ (Gd (u:=U8 (a.g (c*6+d*1))) O O ⟨Gb (J88 Gb0 O O O (Gw.Y23 a (Hg a1).2 (Hg a2).2)) O,ø⟩ (Gd (u:=.ptr 1093 (0+e*6)) O O ⟨Gb (H41 G70 O O O (Hg v).1 (Nat.succ_le_succ (Hg v).2)) O,ø⟩ (Gd (u:=.ptr 1093 ((0+e*6)+i*1)) O O ⟨Gb (H41 G99 O O O (Hg w).1 (Nat.succ_le_succ (Hg w).2)) O,ø⟩ (H1d (u:=.junk) O O O O (Gb (H88 (u:=U8 (a.g (c*6+d*1))) Hef O O O O O O (Gw.R2d (Hg v).2 (Hg w).2) (Gw.Q90 a (Hg v).2 (Hg w).2 (a.g (c*6+d*1)))) O) ?_)))))))))))))
     refine Gd (u:=.ptr 1093 (0+k*6)) O O ⟨Gb (H41 G70 O O O (Hg r).1 (Nat.succ_le_succ (Hg r).2)) O,Gb (H41 G70 O O O (Hg r).1 (Nat.succ_le_succ (Hg r).2)) O,ø⟩ (Gd (u:=.ptr 1093 ((0+k*6)+l*1)) O O ⟨Gb (H41 G99 O O O (Hg z).1 (Nat.succ_le_succ (Hg z).2)) O,ø⟩ (H1d (u:=.junk) O O O O (Gb (H88 (u:=U8 0) Hef O O O O O O (Gw.R2d (Hg r).2 (Hg z).2) (Gw.Q90 (a.set (e*6+i*1) (a.g (c*6+d*1))) (Hg r).2 (Hg z).2 0)) O) (Rc (c6 _ _ _ (G59 (fun f8 c8=>G24 (Y4 (u:=.sc (.func (.yield E.lp) #[] #[])) hE (G2 O O) ?_ O O O O)))))))
     refine Y4 (u:=E7 m) hE (G2 O O) ?_ O O O O
     refine Y4 (u:=E7 j) hE (G2 O O) ?_ O O O O
     refine Y4 (u:=.agg [E7 m,E7 j]) hE (Jt (cs:=[E7 m,E7 j]) [(0,1),(1,1)] [I64 0,I64 0] [E0,E0] G52 G95 (zzQ O) O O) ?_ O O O O
     refine Y4 (u:=.agg (Gw.cs ((a.set (e*6+i*1) (a.g (c*6+d*1))).set (k*6+l*1) 0))) hE (Jk G71 O O O O) ?_ O O O O
     obtain⟨c9,h⟩:=J1 h
     refine R00 (us:=[.agg [E7 m,E7 j],.agg (Gw.cs ((a.set (e*6+i*1) (a.g (c*6+d*1))).set (k*6+l*1) 0))]) hE O O ⟨O,O,O,O,ø⟩ (R0c (f:=(fun y:G5×Gw=>[.agg [I64 y.1.From,I64 y.1.To],.agg (Gw.cs y.2)])) (x:=((G5.mk (m:Int) (j:Int)),((a.set (e*6+i*1) (a.g (c*6+d*1))).set (k*6+l*1) 0))) hys c9) ?_ O O O
     refine Y4 (u:=BL false) hE (Yt (b:=true) O O) ?_ O O O O
     refine G8d ?_
     refine c8 _ _ _ (R49 O (J33 (ej53 _ _ _ (p+1) h ⟨(.sm O O),ø,rfl⟩ rfl)))
   ·intro s h
    replace h:=app1 a7 h
    refine G24 (Y4 (u:=I64 ((j+1:Nat):Int)) hE (Hz (Hn a4 (G6e b1)) O O O) ?_ O O O O)
    refine Y4 (u:=I64 ((j+1:Nat):Int)) hE (G2 O O) ?_ O O O O
    refine G8d ?_
    exact e1 _ _ (j+1) s _ (app1 b7 h) (by omega) ⟨(.sm O O),ø,rfl⟩ rfl
  ·
   have h:=app1 a6 (Gad a3 (G0f hb))
   refine Je3 (d7 _ _ _ (G24 (Y4 (u:=I64 ((m+1:Nat):Int)) hE (Hz (Hn a9 (G6e d1)) O O O) ?_ O O O O)))
   refine Y4 (u:=I64 ((m+1:Nat):Int)) hE (G2 O O) ?_ O O O O
   refine G8d ?_
   exact e2 _ _ (m+1) p _ (app1 d6 h) (by omega) ⟨(.sm O O),ø,rfl⟩ rfl
 ·
  have h:=app1 b0 (Gad a8 (G0f hb))
  refine Je3 (R66 (J1 h).1)
theorem Gf1 (S_:Nat→(Int)→(Gw)→(Int)→Option (List (G5×Gw))) (hS_:∀ F a b c r,S_ F a b c=some r→Zm F a b c r=some ()) (F:Nat) (a:Int) (b:Gw) (c:Int) (r:List (G5×Gw)) (h:S_ F a b c=some r):Iter E8 74 [.dptr [I64 a],.dptr [.dptr (Gw.cs b)],.dptr [I64 c]] (r.map (fun y:G5×Gw=>[.agg [I64 y.1.From,I64 y.1.To],.agg (Gw.cs y.2)])):=Gf0 F a b c r () (hS_ F a b c r h)

def G07 (s:Gw) (stacks:Int) (height:Int):Option Unit:=
 some ()
abbrev Ec (stacks:Int) (s:Gw) (height:Int):List AV:=[.dptr [I64 stacks],.dptr [.dptr (Gw.cs s)],.dptr [I64 height]]
theorem H1b (s:Gw) (stacks:Int) (height:Int) (r:Unit) (h:G07 s stacks height=some r):Pure E8 42 [.dptr (Gw.cs s),I64 stacks,I64 height] (·=.fn 74 [.dptr [I64 stacks],.dptr [.dptr (Gw.cs s)],.dptr [I64 height]]):=by
 unfold G07 at h
 refine H9 [.tmp 6] Try.func42 O O (Jr fun a=>(JLh (.ptr 1057 0) (Qj (cs:=[.dptr (Gw.cs s)]) 1057 O O O O O) O (JLh (.ptr 1058 0) (Qj (cs:=[I64 stacks]) 1058 O O O O O) O (JLh (.ptr 1059 0) (Qj (cs:=[I64 height]) 1059 O O O O O) O (JLm (.sc .nilFunc) O (G6 (a (H4 [(3,.dptr [.dptr (Gw.cs s)]),(4,.ptr 1058 0),(5,.ptr 1059 0)] [(1058,.box 3 [I64 stacks]),(1059,.box 3 [I64 height])] 1057 rfl rfl rfl ⟨⟨_,rfl,.boxEq rfl rfl⟩,⟨_,rfl,.boxEq rfl rfl⟩,ø⟩ rfl (by exact⟨.ptr,.conv (.same rfl),.conv (.same rfl),ø⟩) (H4 [(3,.dptr [.dptr (Gw.cs s)]),(4,.dptr [I64 stacks]),(5,.ptr 1059 0)] [(1059,.box 3 [I64 height])] 1058 rfl rfl rfl ⟨⟨_,rfl,.boxEq rfl rfl⟩,ø⟩ rfl (by exact⟨.conv (.same rfl),.ptr,.conv (.same rfl),ø⟩) ?_)))))))))
 refine H4 [(3,.dptr [.dptr (Gw.cs s)]),(4,.dptr [I64 stacks]),(5,.dptr [I64 height])] [] 1059 rfl rfl rfl ø rfl (by exact⟨.conv (.same rfl),.conv (.same rfl),.ptr,ø⟩) (Jr fun b=>(JLh (.fn 74 (Ec stacks s height)) (H40 (cs:=(Ec stacks s height)) O O) O (JLm (.fn 74 (Ec stacks s height)) O (G6 (b (H0 (⟨[.fn 74 (Ec stacks s height)],[],ø,O,⟨⟨_,O,.conv (.same O)⟩,ø⟩,O,congrArg (fun _:Unit=>(.fn 74 (Ec stacks s height):AV)) (K0 h)⟩)))))))
end
end Go.Proofs.Ytokjlondbjdlfaa
