/- Walks of functions. -/
import Derived.Test.YtokjlondbjdlfaaGreatSpecY
set_option maxRecDepth 100000
set_option maxHeartbeats 1000000
set_option linter.unusedVariables false
set_option linter.unusedSimpArgs false
namespace Go.Proofs.YtokjlondbjdlfaaGreat
open Go.RowKit
noncomputable section

namespace XBF
open XAF
theorem G60:Gcb E8 79 24=true:=by kernel_rfl
theorem G85:H70 E8 77 6 1=true:=by kernel_rfl
theorem G5f:H70 E8 79 4 6=true:=by kernel_rfl
theorem H76:Hp E8 68=true:=by kernel_rfl
theorem G1f:placesOf E8 35=some [(0,1),(1,1)]:=by kernel_rfl
theorem Ge2:Qs E8 117=true:=by kernel_rfl
theorem Gd1:Qs E8 5=true:=by kernel_rfl
theorem Hc3:Rw E8 5 1=true:=by kernel_rfl
theorem H73:Rw E8 79 24=true:=by kernel_rfl
theorem G5a:(E8.info? 35).bind (fun i=>i.zero.map Value.cells)=some (List.toArray [E0,E0]):=by kernel_rfl
theorem H2e:Qe E8 79 24=true:=by kernel_rfl
end XBF
open XAF
open XBF

def Qa (F:Nat) (s:Gp) (stack:Int):Option Int:=
 loop (fun b (a:Int)=>
  bnd (bif decide (a < 6) then Rm stack 3 else some 0) fun c=>
  bnd (bif decide (a < 6) then Rm a 5 else some 0) fun d=>
  bif ((decide (a < 6))&&(decide (0 < (s.g (c*6+d*1))))) then
  (chk (a+1) fun e=>
   b e)
  else
  (some a)) F 0
theorem G28 (F:Nat) (s:Gp) (stack:Int) (r:Int) (h:Qa F s stack=some r):Pure E8 68 [.dptr (Gp.cs s),I64 stack] (·=I64 r):=by
 unfold Qa at h
 refine Hj [.tmp 4] Tryz.func68 O O (Jr fun q=>(JLm (I64 0) O (G6 (q (Jr fun t=>(JLm (I64 0) O (G6 (t (Js fun u=>Gf ?_)))))))))
 obtain⟨v,j,h⟩:=G0e h
 refine Ha (fun b (a:Int)=>loop v b a=some r) (fun b a=>[(0,.dptr (Gp.cs s)),(1,I64 stack),(5,I64 a)]) (fun b a=>[]) (fun b=>b) F 0 h ⟨(.sm O O),ø,O⟩ ?_
 clear h
 intro b a k z w
 obtain⟨x,y,hm_12,l,h⟩:=Z7 k
 replace h:=H65 j h
 refine Js fun m=>Jr fun n=>(JLm (I64 a) O (JLh (BL (decide (a < 6))) (J2 O O O) O (JLm (BL (decide (a < 6))) O (JLo (.dptr (Gp.cs s)) [] O .sct ø (fun hc=>G3 O O) O (JLo (I64 stack) [] O .sct ø (fun hc=>G3 O O) O (JLo (I64 a) [] O .sct ø (fun hc=>G3 O O) O (JLo (.dptr (Gp.cs s)) [9] O .sct ⟨Ua,ø⟩ (fun hc=>H49 O O) O ?_)))))))
 obtain⟨c,d,h⟩:=Gd h
 refine JLo (.dptr ((Gp.cs s).drop (c*6))) [10,12] O .sct ⟨Ua,Ua,ø⟩ (fun hc=>Hdc G5f O O O (H8 (H6 hc d)).1 (Nat.succ_le_succ (H8 (H6 hc d)).2)) O ?_
 obtain⟨f,e,h⟩:=Gd h
 refine JLo (.dptr (((Gp.cs s).drop (c*6)).drop (f*1))) [11,13] O .sct ⟨Ua,Ua,ø⟩ (fun hc=>Hdc G85 O O O (H8 (H6 hc e)).1 (Nat.succ_le_succ (H8 (H6 hc e)).2)) O (JLo (U8 (s.g (c*6+f*1))) [14] O .sct ⟨Ua,ø⟩ (fun hc=>Hdb Gd1 O O (Gp.Q41 s (H8 (H6 hc d)).2 (H8 (H6 hc e)).2)) O (JLo (BL (decide (0 < (s.g (c*6+f*1))))) [15] O .sct ⟨Ua,ø⟩ (fun hc=>G08 O O O) O (JLh (BL ((decide (a < 6))&&(decide (0 < (s.g (c*6+f*1)))))) (Yy O O O O) O (G6 (n (JCc O h (fun h hb=>?_) (fun h hb=>?_)))))))
 ·
  refine Gk (m (Gf (G1 (JLm (I64 a) O ?_))))
  obtain⟨i,o,h⟩:=Je h
  refine JLh (I64 i) (Hz o O O O) O (JLm (I64 i) O (G6 (w _ _ x i (app1 l h) (by omega) ⟨(.sm O O),ø,rfl⟩)))
 ·
  refine Hd (u (Jr fun p=>(JLm (I64 a) O (JLm (I64 a) O (G6 (p (H0 (fin1 I64 h))))))))

def Rc (F:Nat) (s:Gp) (stacks:Int) (ranks:List Int):Option Bool:=
 need (decide (stacks≤9223372036854775807)) <|
 upto (fun b (o:Unit) d=>
  loop (fun c (a:Int)=>
   bnd (Qa F s (b:Int)) fun e=>
   bif decide (a < e) then
   (bnd (Rm (b:Int) 3) fun f=>
    bnd (Rm a 5) fun h=>
    Qx ranks (s.g (f*6+h*1)) fun i=>
    chk (a - 1) fun j=>
    bnd (Rm (b:Int) 3) fun k=>
    bnd (Rm j 5) fun l=>
    Qx ranks (s.g (k*6+l*1)) fun m=>
    bif decide (m < i) then
    (some false)
    else
    (chk (a+1) fun n=>
     c n))
   else
   (d ())) F 1)
 (fun(o:Unit)=>
  some true) stacks.toNat 0 ()
theorem Gef (F:Nat) (s:Gp) (stacks:Int) (ranks:List Int) (r:Bool) (h:Rc F s stacks ranks=some r):Pure E8 43 [.dptr (Gp.cs s),I64 stacks,E1 ranks] (·=BL r):=by
 unfold Rc at h
 refine Hj [.tmp 6] Tryz.func43 O O (Jr fun b6=>(JLm (BL false) O (G6 (b6 (Js fun b7=>Jr fun b8=>(JLm (I64 stacks) O (JLm (I64 0) O (G6 (b8 (Gf ?_))))))))))
 obtain⟨b9,h⟩:=Ho h
 obtain⟨b4,c0,c1,x,h⟩:=Ga9 h
 refine Ha (fun a (q:Unit)=>upto b4 c0 (stacks.toNat - a) a q=some r) (fun a q=>[(0,.dptr (Gp.cs s)),(2,E1 ranks),(9,I64 stacks),(10,E7 a)]) (fun a q=>[]) (fun a=>stacks.toNat - a) 0 () h ⟨(.sm O O),ø,rfl⟩ ?_
 clear h
 intro a q t K4 e4
 refine Jr fun c2=>(JLh (BL (decide ((a:Int) < stacks))) (J2 O O O) O (G6 (c2 (Js fun c3=>Gi O (fun hb=>?_) (fun hb=>?_)))))
 ·
  have u:=G73 hb
  obtain⟨d5,c4,h⟩:=G6e t u
  replace h:=J9e c1 h
  refine Gk (c3 (Js fun c5=>Gf (Jr fun c6=>(JLm (E7 a) O (JLm (E7 a) O (G6 (c6 (Jr fun c7=>(JLm (I64 1) O (G6 (c7 (Gf ?_))))))))))))
  obtain⟨c8,z,h⟩:=G0e h
  refine Ha (fun c (b:Int)=>loop c8 c b=some r) (fun c b=>[(0,.dptr (Gp.cs s)),(2,E1 ranks),(7,E7 a),(8,I64 b),(9,I64 stacks),(10,E7 a)]) (fun c b=>[]) (fun c=>c) F 1 h ⟨(.sm O O),ø,rfl⟩ ?_
  clear h
  intro c b a0 d6 c9
  obtain⟨d0,d4,hm_39,a1,h⟩:=Z7 a0
  replace h:=H65 z h
  refine Js fun a2=>Jr fun a3=>(JLm (I64 b) O (JLm (.dptr (Gp.cs s)) O (JLm (E7 a) O ?_)))
  obtain⟨m,a4,h⟩:=Gd h
  refine JLh (I64 m) (Gu O (G28 F s (a:Int) m a4) H76 ⟨O,O,O,O,ø⟩) O (JLh (BL (decide (b < m))) (J2 O O O) O (G6 (a3 (JCc O h (fun h hb=>?_) (fun h hb=>?_)))))
  ·
   refine Gk (a2 (Js fun a5=>Gf (Js fun a6=>?_)))
   obtain⟨n,d,h⟩:=Gd h
   obtain⟨v,e,h⟩:=Gd h
   obtain⟨d7,k,a7,a8,h⟩:=Rf h
   obtain⟨d1,a9,h⟩:=Je h
   obtain⟨o,i,h⟩:=Gd h
   obtain⟨w,j,h⟩:=Gd h
   obtain⟨d8,l,b0,b1,h⟩:=Rf h
   refine JC_d0 Jg (by kernel_rfl) (Dq (E1 ranks) (G3 O O) O (Dq (.dptr (Gp.cs s)) (G3 O O) O (Dq (E7 a) (G3 O O) O (Dq (I64 b) (G3 O O) O (Dq (.dptr (Gp.cs s)) (H49 O O) O (Dq (.dptr ((Gp.cs s).drop (n*6))) (Hdc G5f O O O (H8 d).1 (Nat.succ_le_succ (H8 d).2)) O (Dq (.dptr (((Gp.cs s).drop (n*6)).drop (v*1))) (Hdc G85 O O O (H8 e).1 (Nat.succ_le_succ (H8 e).2)) O (Dq (U8 (s.g (n*6+v*1))) (Hdb Gd1 O O (Gp.Q41 s (H8 d).2 (H8 e).2)) O (Dq (.dptr [I64 k]) (Gz (f:=I64) (xs:=ranks) (y:=k) O O O G8 a8 a7) O (Dq (I64 k) (Gr Gj O O O) O (Dq (E1 ranks) (G3 O O) O (Dq (.dptr (Gp.cs s)) (G3 O O) O (Dq (E7 a) (G3 O O) O ?_)))))))))))))
   refine Dq (I64 b) (G3 O O) O (Dq (I64 d1) (G07 a9 O O O) O (Dq (.dptr (Gp.cs s)) (H49 O O) O (Dq (.dptr ((Gp.cs s).drop (o*6))) (Hdc G5f O O O (H8 i).1 (Nat.succ_le_succ (H8 i).2)) O (Dq (.dptr (((Gp.cs s).drop (o*6)).drop (w*1))) (Hdc G85 O O O (H8 j).1 (Nat.succ_le_succ (H8 j).2)) O (Dq (U8 (s.g (o*6+w*1))) (Hdb Gd1 O O (Gp.Q41 s (H8 i).2 (H8 j).2)) O (Dq (.dptr [I64 l]) (Gz (f:=I64) (xs:=ranks) (y:=l) O O O G8 b1 b0) O (Dq (I64 l) (Gr Gj O O O) O (Dq (BL (decide (l < k))) (G08 O O O) O (Dnil (a6 (JCc O h (fun h hb=>?_) (fun h hb=>?_))))))))))))
   ·
    refine Jr fun b2=>(JLm (BL false) O (G6 (b2 (H0 (fin1 BL h)))))
   ·
    refine Gk (a5 (G1 (JLm (I64 b) O ?_)))
    obtain⟨p,b3,h⟩:=Je h
    refine JLh (I64 p) (Hz b3 O O O) O (JLm (I64 p) O (G6 (c9 _ _ d0 p (app1 a1 h) (by omega) ⟨(.sm O O),ø,rfl⟩)))
  ·
   refine Hd (c5 (G1 (JLh (I64 ((a+1:Nat):Int)) (Hz (Hi u (G45 b9)) O O O) O (JLm (I64 ((a+1:Nat):Int)) O (G6 (e4 _ _ (a+1) () (app1 c4 h) (by omega) ⟨(.sm O O),ø,rfl⟩))))))
 ·
  have h:=app1 x (G6f t (Zc hb))
  refine Hd (b7 (Jr fun b5=>(JLm (BL true) O (G6 (b5 (H0 (fin1 BL h)))))))

def Z0 (F:Nat) (f:Int) (h:Gp) (v:Int) (ys_:List (G2×Gp)):Option Unit:=
 need (decide (f≤9223372036854775807)) <|
 upto (fun c (j:Nat) l=>
  need (decide (f≤9223372036854775807)) <|
  upto (fun b (a:Nat) k=>
   jp (fun d=>
    bnd (Qa F h (c:Int)) fun e=>
    bnd (Qa F h (b:Int)) fun i=>
    bif (((decide ((c:Int)=(b:Int)))||(decide (e=0)))||(decide (i=v))) then
    (d a)
    else
    (chk (e - 1) fun m=>
     chk (e - 1) fun n=>
     bnd (Rm (c:Int) 3) fun o=>
     bnd (Rm n 5) fun p=>
     bnd (Rm (b:Int) 3) fun q=>
     bnd (Rm i 5) fun r=>
     bnd (Rm (c:Int) 3) fun s=>
     bnd (Rm m 5) fun t=>
     need (decide (ys_[a]? = some ((G2.mk (c:Int) (b:Int)),((h.set (q*6+r*1) (h.g (o*6+p*1))).set (s*6+t*1) 0)))) <|
     d (a+1))) fun(u:Nat)=>
   k u)
  (fun(a:Nat)=>
   l a) f.toNat 0 j)
 (fun(j:Nat)=>
  need (decide (j=ys_.length)) (some ())) f.toNat 0 0
abbrev Eb (a:Gp):List AV:=[U8 (a.g 0),U8 (a.g 1),U8 (a.g 2),U8 (a.g 3),U8 (a.g 4),U8 (a.g 5),U8 (a.g 6),U8 (a.g 7),U8 (a.g 8),U8 (a.g 9),U8 (a.g 10),U8 (a.g 11),U8 (a.g 12),U8 (a.g 13),U8 (a.g 14),U8 (a.g 15),U8 (a.g 16),U8 (a.g 17),U8 (a.g 18),U8 (a.g 19),U8 (a.g 20),U8 (a.g 21),U8 (a.g 22),U8 (a.g 23)]
theorem Gcf (F:Nat) (n:Int) (a:Gp) (t:Int) (ys_:List (G2×Gp)) (q_:Unit) (h:Z0 F n a t ys_=some q_):Iter E8 69 [.dptr [I64 n],.dptr [.dptr (Gp.cs a)],.dptr [I64 t]] (ys_.map (fun y:G2×Gp=>[.agg [I64 y.1.From,I64 y.1.To],.agg (Gp.cs y.2)])):=by
 unfold Z0 at h
 refine R3e Tryz.func69 O O ?_
 intro E hE hys
 refine G4e (fun K1 d0=>G15 (Rv (u:=I64 n) hE (Gr Gj O O O) ?_ O O O O))
 refine Rv (u:=I64 0) hE (G3 O O) ?_ O O O O
 refine G7d ?_
 refine d0 _ _ _ (Hb9 ?_)
 obtain⟨d1,h⟩:=Ho h
 obtain⟨b2,d2,d3,b0,h⟩:=Ga9 h
 refine Je7 (fun m (s2:Nat)=>upto b2 d2 (n.toNat - m) m s2=some q_) (fun m s2=>[(0,.sc (.func (.yield E.lp) #[] #[])),(1,.dptr [I64 n]),(2,.dptr [.dptr (Gp.cs a)]),(3,.dptr [I64 t]),(10,I64 n),(11,E7 m)]) (fun m s2=>[]) (fun m s2=>s2) (fun m=>n.toNat - m) 0 0 h ⟨(.sm O O),ø,rfl⟩ rfl ?_
 clear h
 intro m s2 a8 K2 e2
 refine G4e (fun K3 d4=>G15 (Rv (u:=BL (decide ((m:Int) < n))) hE (J2 O O O) ?_ O O O O))
 refine G7d ?_
 refine d4 _ _ _ (G4e (fun K4 d5=>Hb8 O (fun hb=>?_) (fun hb=>?_)))
 ·
  have a9:=G73 hb
  obtain⟨e8,d6,h⟩:=G6e a8 a9
  replace h:=J9e d3 h
  refine Hfe (d5 _ _ _ (G4e (fun K5 d7=>Hb9 (G4e (fun K6 d8=>G15 (Rv (u:=E7 m) hE (G3 O O) ?_ O O O O))))))
  refine Rv (u:=E7 m) hE (G5 O O) ?_ O O O O
  refine G7d ?_
  refine d8 _ _ _ (G4e (fun K7 d9=>G15 (Rv (u:=I64 n) hE (Gr Gj O O O) ?_ O O O O)))
  refine Rv (u:=I64 0) hE (G3 O O) ?_ O O O O
  refine G7d ?_
  refine d9 _ _ _ (Hb9 ?_)
  obtain⟨b1,h⟩:=Ho h
  obtain⟨e0,b3,b4,a6,h⟩:=Ga9 h
  refine Je7 (fun j (p:Nat)=>upto e0 b3 (n.toNat - j) j p=some q_) (fun j p=>[(0,.sc (.func (.yield E.lp) #[] #[])),(1,.dptr [I64 n]),(2,.dptr [.dptr (Gp.cs a)]),(3,.dptr [I64 t]),(5,E7 m),(10,I64 n),(11,E7 m),(14,I64 n),(15,E7 j)]) (fun j p=>[]) (fun j p=>p) (fun j=>n.toNat - j) 0 s2 h ⟨(.sm O O),ø,rfl⟩ rfl ?_
  clear h
  intro j p a3 e9 e1
  refine G4e (fun f0 b5=>G15 (Rv (u:=BL (decide ((j:Int) < n))) hE (J2 O O O) ?_ O O O O))
  refine G7d ?_
  refine b5 _ _ _ (G4e (fun f1 b6=>Hb8 O (fun hb=>?_) (fun hb=>?_)))
  ·
   have a4:=G73 hb
   obtain⟨e7,b7,h⟩:=G6e a3 a4
   replace h:=J9e b4 h
   refine Hfe (b6 _ _ _ ?_)
   obtain⟨b8,a7,h⟩:=G23 h
   refine R39 (fun s:Nat=>b8 s=some q_) (fun s=>[(0,.sc (.func (.yield E.lp) #[] #[])),(1,.dptr [I64 n]),(2,.dptr [.dptr (Gp.cs a)]),(3,.dptr [I64 t]),(5,E7 m),(10,I64 n),(11,E7 m),(14,I64 n),(15,E7 j)]) (fun s=>[]) (fun s=>s) (fun Kj53 ej53=>?_) ?_
   ·
    refine Hb9 (G4e (fun f2 b9=>G15 (Rv (u:=E7 j) hE (G3 O O) ?_ O O O O)))
    refine Rv (u:=E7 j) hE (G5 O O) ?_ O O O O
    refine G7d ?_
    refine b9 _ _ _ (G4e (fun f3 c0=>?_))
    obtain⟨o,c1,h⟩:=Gd h
    obtain⟨q,c2,h⟩:=Gd h
    refine Q7e [] [0,0,0,0,0,0,0,0] [0,0,0,0,0,0,0,0] [[]] hE Jg (by kernel_rfl) rfl rfl (Gc (u:=.dptr (Gp.cs a)) O O ⟨Ga (Gr Ge2 O O O) O,ø⟩ (Gc (u:=E7 m) O O ⟨Ga (G3 O O) O,ø⟩ (Gc (u:=I64 o) O O ⟨Ga (Gu O (G28 F a (m:Int) o c1) H76 ⟨O,O,O,O,ø⟩) O,ø⟩ (Gc (u:=.dptr (Gp.cs a)) O O ⟨Ga (Gr Ge2 O O O) O,ø⟩ (Gc (u:=E7 j) O O ⟨Ga (G3 O O) O,ø⟩ (Gc (u:=I64 q) O O ⟨Ga (Gu O (G28 F a (j:Int) q c2) H76 ⟨O,O,O,O,ø⟩) O,ø⟩ (Gc (u:=I64 o) O O ⟨Ga (G5 O O) O,ø⟩ (Gc (u:=I64 q) O O ⟨Ga (G5 O O) O,ø⟩ (Rx (c0 _ _ _ (G4e (fun f4 c3=>G4e (fun f5 c4=>G15 ?_)))))))))))))
    refine Rv (u:=E7 m) hE (G3 O O) ?_ O O O O
    refine Rv (u:=E7 j) hE (G3 O O) ?_ O O O O
    refine Rv (u:=BL (decide ((m:Int)=(j:Int)))) hE (Yx O O O) ?_ O O O O
    refine Rv (u:=BL (decide ((m:Int)=(j:Int)))) hE (G3 O O) ?_ O O O O
    refine Hba (u:=I64 o) [] hE O O O .scf ø (fun hc=>G3 O O) ?_ O O O
    refine Hba (u:=BL (decide (o=0))) [(28,I64 o)] hE O O O .scf ⟨.all id,ø⟩ (fun hc=>Yx O O O) ?_ O O O
    refine Rv (u:=BL ((decide ((m:Int)=(j:Int)))||(decide (o=0)))) hE (G17 O O O O) ?_ O O O O
    refine Rv (u:=BL ((decide ((m:Int)=(j:Int)))||(decide (o=0)))) hE (G3 O O) ?_ O O O O
    refine Hba (u:=I64 q) [] hE O O O .scf ø (fun hc=>G3 O O) ?_ O O O
    refine Hba (u:=I64 t) [] hE O O O .scf ø (fun hc=>Gr Gj O O O) ?_ O O O
    refine Hba (u:=BL (decide (q=t))) [(32,I64 q),(33,I64 t)] hE O O O .scf ⟨.all id,.all id,ø⟩ (fun hc=>Yx O O O) ?_ O O O
    refine Rv (u:=BL (((decide ((m:Int)=(j:Int)))||(decide (o=0)))||(decide (q=t)))) hE (G17 O O O O) ?_ O O O O
    refine G7d ?_
    refine c4 _ _ _ (Hb8 O (fun hb=>?_) (fun hb=>?_))
    ·
     replace h:=H6 hb h
     refine Ja3 (ej53 _ _ _ p h ⟨(.sm O O),ø,rfl⟩ rfl)
    ·
     replace h:=Hv hb h
     refine Hfe (c3 _ _ _ (G4e (fun f6 c5=>G15 (Rv (u:=.dptr (Gp.cs a)) hE (Gr Ge2 O O O) ?_ O O O O))))
     refine Rv (u:=.dptr (Gp.cs a)) hE (H49 O O) ?_ O O O O
     refine Rv (u:=.agg (Gp.cs a)) hE (Gt G60 O O O) ?_ O O O O
     refine Rv (u:=.ptr 1099 0) hE (Ji 1099 24 H2e O O) ?_ O O O O
     refine R3c (u:=.junk) hE (Hu (u:=.agg (Gp.cs a)) (ds:=(Eb a)) H73 O O O O O O O O) ?_ O O O
     refine G7d ?_
     refine c5 _ _ _ (G4e (fun f7 c6=>Q7d (l':=[(0,.sc (.func (.yield E.lp) #[] #[])),(1,.dptr [I64 n]),(2,.dptr [.dptr (Gp.cs a)]),(3,.dptr [I64 t]),(5,E7 m),(6,E7 j),(7,I64 o),(8,I64 q),(9,.ptr 1099 0),(10,I64 n),(11,E7 m),(14,I64 n),(15,E7 j)]) (L':=[(1099,.box 79 (Eb a))]) ⟨(.sm O O),⟨fbQ O (.sm O O),ø⟩,rfl⟩ ?_))
     obtain⟨e3,a5,h⟩:=Je h
     obtain⟨e4,c7,h⟩:=Je h
     obtain⟨c,a1,h⟩:=Gd h
     obtain⟨d,a2,h⟩:=Gd h
     obtain⟨e,v,h⟩:=Gd h
     obtain⟨i,w,h⟩:=Gd h
     obtain⟨k,r,h⟩:=Gd h
     obtain⟨l,z,h⟩:=Gd h
     refine Q7e [13,16] [0,0,0,0,0,0,0,0,0,0,0,0,0,0,0,1,0] [0,0,1,1,1,0,0,0,0,0,0,0,0,0,1,1,0] [[(1099,.box 79 (Eb a))],((1099,.box 79 [U8 ((a.set (e*6+i*1) (a.g (c*6+d*1))).g 0),U8 ((a.set (e*6+i*1) (a.g (c*6+d*1))).g 1),U8 ((a.set (e*6+i*1) (a.g (c*6+d*1))).g 2),U8 ((a.set (e*6+i*1) (a.g (c*6+d*1))).g 3),U8 ((a.set (e*6+i*1) (a.g (c*6+d*1))).g 4),U8 ((a.set (e*6+i*1) (a.g (c*6+d*1))).g 5),U8 ((a.set (e*6+i*1) (a.g (c*6+d*1))).g 6),U8 ((a.set (e*6+i*1) (a.g (c*6+d*1))).g 7),U8 ((a.set (e*6+i*1) (a.g (c*6+d*1))).g 8),U8 ((a.set (e*6+i*1) (a.g (c*6+d*1))).g 9),U8 ((a.set (e*6+i*1) (a.g (c*6+d*1))).g 10),U8 ((a.set (e*6+i*1) (a.g (c*6+d*1))).g 11),U8 ((a.set (e*6+i*1) (a.g (c*6+d*1))).g 12),U8 ((a.set (e*6+i*1) (a.g (c*6+d*1))).g 13),U8 ((a.set (e*6+i*1) (a.g (c*6+d*1))).g 14),U8 ((a.set (e*6+i*1) (a.g (c*6+d*1))).g 15),U8 ((a.set (e*6+i*1) (a.g (c*6+d*1))).g 16),U8 ((a.set (e*6+i*1) (a.g (c*6+d*1))).g 17),U8 ((a.set (e*6+i*1) (a.g (c*6+d*1))).g 18),U8 ((a.set (e*6+i*1) (a.g (c*6+d*1))).g 19),U8 ((a.set (e*6+i*1) (a.g (c*6+d*1))).g 20),U8 ((a.set (e*6+i*1) (a.g (c*6+d*1))).g 21),U8 ((a.set (e*6+i*1) (a.g (c*6+d*1))).g 22),U8 ((a.set (e*6+i*1) (a.g (c*6+d*1))).g 23)])::[(1099,.box 79 (Eb a))]),((1099,.box 79 [U8 (((a.set (e*6+i*1) (a.g (c*6+d*1))).set (k*6+l*1) 0).g 0),U8 (((a.set (e*6+i*1) (a.g (c*6+d*1))).set (k*6+l*1) 0).g 1),U8 (((a.set (e*6+i*1) (a.g (c*6+d*1))).set (k*6+l*1) 0).g 2),U8 (((a.set (e*6+i*1) (a.g (c*6+d*1))).set (k*6+l*1) 0).g 3),U8 (((a.set (e*6+i*1) (a.g (c*6+d*1))).set (k*6+l*1) 0).g 4),U8 (((a.set (e*6+i*1) (a.g (c*6+d*1))).set (k*6+l*1) 0).g 5),U8 (((a.set (e*6+i*1) (a.g (c*6+d*1))).set (k*6+l*1) 0).g 6),U8 (((a.set (e*6+i*1) (a.g (c*6+d*1))).set (k*6+l*1) 0).g 7),U8 (((a.set (e*6+i*1) (a.g (c*6+d*1))).set (k*6+l*1) 0).g 8),U8 (((a.set (e*6+i*1) (a.g (c*6+d*1))).set (k*6+l*1) 0).g 9),U8 (((a.set (e*6+i*1) (a.g (c*6+d*1))).set (k*6+l*1) 0).g 10),U8 (((a.set (e*6+i*1) (a.g (c*6+d*1))).set (k*6+l*1) 0).g 11),U8 (((a.set (e*6+i*1) (a.g (c*6+d*1))).set (k*6+l*1) 0).g 12),U8 (((a.set (e*6+i*1) (a.g (c*6+d*1))).set (k*6+l*1) 0).g 13),U8 (((a.set (e*6+i*1) (a.g (c*6+d*1))).set (k*6+l*1) 0).g 14),U8 (((a.set (e*6+i*1) (a.g (c*6+d*1))).set (k*6+l*1) 0).g 15),U8 (((a.set (e*6+i*1) (a.g (c*6+d*1))).set (k*6+l*1) 0).g 16),U8 (((a.set (e*6+i*1) (a.g (c*6+d*1))).set (k*6+l*1) 0).g 17),U8 (((a.set (e*6+i*1) (a.g (c*6+d*1))).set (k*6+l*1) 0).g 18),U8 (((a.set (e*6+i*1) (a.g (c*6+d*1))).set (k*6+l*1) 0).g 19),U8 (((a.set (e*6+i*1) (a.g (c*6+d*1))).set (k*6+l*1) 0).g 20),U8 (((a.set (e*6+i*1) (a.g (c*6+d*1))).set (k*6+l*1) 0).g 21),U8 (((a.set (e*6+i*1) (a.g (c*6+d*1))).set (k*6+l*1) 0).g 22),U8 (((a.set (e*6+i*1) (a.g (c*6+d*1))).set (k*6+l*1) 0).g 23)])::((1099,.box 79 [U8 ((a.set (e*6+i*1) (a.g (c*6+d*1))).g 0),U8 ((a.set (e*6+i*1) (a.g (c*6+d*1))).g 1),U8 ((a.set (e*6+i*1) (a.g (c*6+d*1))).g 2),U8 ((a.set (e*6+i*1) (a.g (c*6+d*1))).g 3),U8 ((a.set (e*6+i*1) (a.g (c*6+d*1))).g 4),U8 ((a.set (e*6+i*1) (a.g (c*6+d*1))).g 5),U8 ((a.set (e*6+i*1) (a.g (c*6+d*1))).g 6),U8 ((a.set (e*6+i*1) (a.g (c*6+d*1))).g 7),U8 ((a.set (e*6+i*1) (a.g (c*6+d*1))).g 8),U8 ((a.set (e*6+i*1) (a.g (c*6+d*1))).g 9),U8 ((a.set (e*6+i*1) (a.g (c*6+d*1))).g 10),U8 ((a.set (e*6+i*1) (a.g (c*6+d*1))).g 11),U8 ((a.set (e*6+i*1) (a.g (c*6+d*1))).g 12),U8 ((a.set (e*6+i*1) (a.g (c*6+d*1))).g 13),U8 ((a.set (e*6+i*1) (a.g (c*6+d*1))).g 14),U8 ((a.set (e*6+i*1) (a.g (c*6+d*1))).g 15),U8 ((a.set (e*6+i*1) (a.g (c*6+d*1))).g 16),U8 ((a.set (e*6+i*1) (a.g (c*6+d*1))).g 17),U8 ((a.set (e*6+i*1) (a.g (c*6+d*1))).g 18),U8 ((a.set (e*6+i*1) (a.g (c*6+d*1))).g 19),U8 ((a.set (e*6+i*1) (a.g (c*6+d*1))).g 20),U8 ((a.set (e*6+i*1) (a.g (c*6+d*1))).g 21),U8 ((a.set (e*6+i*1) (a.g (c*6+d*1))).g 22),U8 ((a.set (e*6+i*1) (a.g (c*6+d*1))).g 23)])::[(1099,.box 79 (Eb a))]))] hE Jg (by kernel_rfl) rfl rfl ?_
     refine Gc (u:=E7 j) O O ⟨Ga (G3 O O) O,ø⟩ (Gc (u:=I64 q) O O ⟨Ga (G3 O O) O,ø⟩ (Gc (u:=E7 m) O O ⟨Ga (G3 O O) O,Ga (G3 O O) O,ø⟩ (Gc (u:=I64 o) O O ⟨Ga (G3 O O) O,Ga (G3 O O) O,ø⟩ (Gc (u:=I64 e3) O O ⟨Ga (G07 a5 O O O) O,Ga (G07 a5 O O O) O,ø⟩ (Gc (u:=E7 m) O O ⟨Ga (G3 O O) O,ø⟩ (Gc (u:=I64 o) O O ⟨Ga (G3 O O) O,ø⟩ (Gc (u:=I64 e4) O O ⟨Ga (G07 c7 O O O) O,ø⟩ (Gc (u:=.ptr 1099 (0+c*6)) O O ⟨Ga (H20 G5f O O O (H8 a1).1 (Nat.succ_le_succ (H8 a1).2)) O,ø⟩ (Gc (u:=.ptr 1099 ((0+c*6)+d*1)) O O ⟨Ga (H20 G85 O O O (H8 a2).1 (Nat.succ_le_succ (H8 a2).2)) O,ø⟩ (Gc (u:=U8 (a.g (c*6+d*1))) O O ⟨Ga (Jf1 Gd1 O O O (Gp.Rd0 a (H8 a1).2 (H8 a2).2)) O,ø⟩ (Gc (u:=.ptr 1099 (0+e*6)) O O ⟨Ga (H20 G5f O O O (H8 v).1 (Nat.succ_le_succ (H8 v).2)) O,ø⟩ (Gc (u:=.ptr 1099 ((0+e*6)+i*1)) O O ⟨Ga (H20 G85 O O O (H8 w).1 (Nat.succ_le_succ (H8 w).2)) O,ø⟩ (H2a (u:=.junk) O O O O (Ga (H62 (u:=U8 (a.g (c*6+d*1))) Hc3 O O O O O O (Gp.Qdb (H8 v).2 (H8 w).2) (Gp.Q40 a (H8 v).2 (H8 w).2 (a.g (c*6+d*1)))) O) ?_)))))))))))))
     refine Gc (u:=.ptr 1099 (0+k*6)) O O ⟨Ga (H20 G5f O O O (H8 r).1 (Nat.succ_le_succ (H8 r).2)) O,Ga (H20 G5f O O O (H8 r).1 (Nat.succ_le_succ (H8 r).2)) O,ø⟩ (Gc (u:=.ptr 1099 ((0+k*6)+l*1)) O O ⟨Ga (H20 G85 O O O (H8 z).1 (Nat.succ_le_succ (H8 z).2)) O,ø⟩ (H2a (u:=.junk) O O O O (Ga (H62 (u:=U8 0) Hc3 O O O O O O (Gp.Qdb (H8 r).2 (H8 z).2) (Gp.Q40 (a.set (e*6+i*1) (a.g (c*6+d*1))) (H8 r).2 (H8 z).2 0)) O) (Rx (c6 _ _ _ (G4e (fun f8 c8=>G15 (Rv (u:=.sc (.func (.yield E.lp) #[] #[])) hE (G3 O O) ?_ O O O O)))))))
     refine Rv (u:=E7 m) hE (G3 O O) ?_ O O O O
     refine Rv (u:=E7 j) hE (G3 O O) ?_ O O O O
     refine Rv (u:=.agg [E7 m,E7 j]) hE (Jf (cs:=[E7 m,E7 j]) [(0,1),(1,1)] [I64 0,I64 0] [E0,E0] G1f G5a (zzQ O) O O) ?_ O O O O
     refine Rv (u:=.agg (Gp.cs ((a.set (e*6+i*1) (a.g (c*6+d*1))).set (k*6+l*1) 0))) hE (Jc G60 O O O O) ?_ O O O O
     obtain⟨c9,h⟩:=Ho h
     refine Qb0 (us:=[.agg [E7 m,E7 j],.agg (Gp.cs ((a.set (e*6+i*1) (a.g (c*6+d*1))).set (k*6+l*1) 0))]) hE O O ⟨O,O,O,O,ø⟩ (Qbd (f:=(fun y:G2×Gp=>[.agg [I64 y.1.From,I64 y.1.To],.agg (Gp.cs y.2)])) (x:=((G2.mk (m:Int) (j:Int)),((a.set (e*6+i*1) (a.g (c*6+d*1))).set (k*6+l*1) 0))) hys c9) ?_ O O O
     refine Rv (u:=BL false) hE (Y4 (b:=true) O O) ?_ O O O O
     refine G7d ?_
     refine c8 _ _ _ (Qfa O (Hfe (ej53 _ _ _ (p+1) h ⟨(.sm O O),ø,rfl⟩ rfl)))
   ·intro s h
    replace h:=app1 a7 h
    refine G15 (Rv (u:=I64 ((j+1:Nat):Int)) hE (Hz (Hi a4 (G45 b1)) O O O) ?_ O O O O)
    refine Rv (u:=I64 ((j+1:Nat):Int)) hE (G3 O O) ?_ O O O O
    refine G7d ?_
    exact e1 _ _ (j+1) s _ (app1 b7 h) (by omega) ⟨(.sm O O),ø,rfl⟩ rfl
  ·
   have h:=app1 a6 (G6f a3 (Zc hb))
   refine Ja3 (d7 _ _ _ (G15 (Rv (u:=I64 ((m+1:Nat):Int)) hE (Hz (Hi a9 (G45 d1)) O O O) ?_ O O O O)))
   refine Rv (u:=I64 ((m+1:Nat):Int)) hE (G3 O O) ?_ O O O O
   refine G7d ?_
   exact e2 _ _ (m+1) p _ (app1 d6 h) (by omega) ⟨(.sm O O),ø,rfl⟩ rfl
 ·
  have h:=app1 b0 (G6f a8 (Zc hb))
  refine Ja3 (R18 (Ho h).1)
theorem Gd0 (S_:Nat→(Int)→(Gp)→(Int)→Option (List (G2×Gp))) (hS_:∀ F a b c r,S_ F a b c=some r→Z0 F a b c r=some ()) (F:Nat) (a:Int) (b:Gp) (c:Int) (r:List (G2×Gp)) (h:S_ F a b c=some r):Iter E8 69 [.dptr [I64 a],.dptr [.dptr (Gp.cs b)],.dptr [I64 c]] (r.map (fun y:G2×Gp=>[.agg [I64 y.1.From,I64 y.1.To],.agg (Gp.cs y.2)])):=Gcf F a b c r () (hS_ F a b c r h)

def Zq (s:Gp) (stacks:Int) (height:Int):Option Unit:=
 some ()
abbrev Ec (stacks:Int) (s:Gp) (height:Int):List AV:=[.dptr [I64 stacks],.dptr [.dptr (Gp.cs s)],.dptr [I64 height]]
theorem Gfc (s:Gp) (stacks:Int) (height:Int) (r:Unit) (h:Zq s stacks height=some r):Pure E8 44 [.dptr (Gp.cs s),I64 stacks,I64 height] (·=.fn 69 [.dptr [I64 stacks],.dptr [.dptr (Gp.cs s)],.dptr [I64 height]]):=by
 unfold Zq at h
 refine Hj [.tmp 6] Tryz.func44 O O (Jr fun a=>(JLh (.ptr 1072 0) (Qw (cs:=[.dptr (Gp.cs s)]) 1072 O O O O O) O (JLh (.ptr 1073 0) (Qw (cs:=[I64 stacks]) 1073 O O O O O) O (JLh (.ptr 1074 0) (Qw (cs:=[I64 height]) 1074 O O O O O) O (JLm (.sc .nilFunc) O (G6 (a (H7 [(3,.dptr [.dptr (Gp.cs s)]),(4,.ptr 1073 0),(5,.ptr 1074 0)] [(1073,.box 3 [I64 stacks]),(1074,.box 3 [I64 height])] 1072 rfl rfl rfl ⟨⟨_,rfl,.boxEq rfl rfl⟩,⟨_,rfl,.boxEq rfl rfl⟩,ø⟩ rfl (by exact⟨.ptr,.conv (.same rfl),.conv (.same rfl),ø⟩) (H7 [(3,.dptr [.dptr (Gp.cs s)]),(4,.dptr [I64 stacks]),(5,.ptr 1074 0)] [(1074,.box 3 [I64 height])] 1073 rfl rfl rfl ⟨⟨_,rfl,.boxEq rfl rfl⟩,ø⟩ rfl (by exact⟨.conv (.same rfl),.ptr,.conv (.same rfl),ø⟩) ?_)))))))))
 refine H7 [(3,.dptr [.dptr (Gp.cs s)]),(4,.dptr [I64 stacks]),(5,.dptr [I64 height])] [] 1074 rfl rfl rfl ø rfl (by exact⟨.conv (.same rfl),.conv (.same rfl),.ptr,ø⟩) (Jr fun b=>(JLh (.fn 69 (Ec stacks s height)) (J4c (cs:=(Ec stacks s height)) O O) O (JLm (.fn 69 (Ec stacks s height)) O (G6 (b (H0 (⟨[.fn 69 (Ec stacks s height)],[],ø,O,⟨⟨_,O,.conv (.same O)⟩,ø⟩,O,congrArg (fun _:Unit=>(.fn 69 (Ec stacks s height):AV)) (Ez h)⟩)))))))
end
end Go.Proofs.YtokjlondbjdlfaaGreat
