/- Walks of functions. -/
import Derived.Test.YtokjlondbjdlfaaSpecY
set_option maxRecDepth 100000
set_option maxHeartbeats 1000000
set_option linter.unusedVariables false
set_option linter.unusedSimpArgs false
namespace Go.Proofs.Ytokjlondbjdlfaa
open Go.RowKit
noncomputable section

namespace XBF
open XAF
theorem G4b:Gb7 E8 77 24=true:=by kernel_rfl
theorem G73:H5d E8 75 6 1=true:=by kernel_rfl
theorem G4a:H5d E8 77 4 6=true:=by kernel_rfl
theorem H65:Hm E8 73=true:=by kernel_rfl
theorem G31:placesOf E8 39=some [(0,1),(1,1)]:=by kernel_rfl
theorem Gd3:Qd E8 126=true:=by kernel_rfl
theorem G87:Qd E8 5=true:=by kernel_rfl
theorem Hb4:Rj E8 5 1=true:=by kernel_rfl
theorem H61:Rj E8 77 24=true:=by kernel_rfl
theorem G70:(E8.info? 39).bind (fun i=>i.zero.map Value.cells)=some (List.toArray [E0,E0]):=by kernel_rfl
theorem H21:Q9 E8 77 24=true:=by kernel_rfl
end XBF
open XAF
open XBF

def Q7 (F:Nat) (s:Gs) (stack:Int):Option Int:=
 loop (fun b (a:Int)=>
  bnd (bif decide (a < 6) then Ru stack 3 else some 0) fun c=>
  bnd (bif decide (a < 6) then Ru a 5 else some 0) fun d=>
  bif ((decide (a < 6))&&(decide (0 < (s.g (c*6+d*1))))) then
  (chk (a+1) fun e=>
   b e)
  else
  (some a)) F 0
theorem G1b (F:Nat) (s:Gs) (stack:Int) (r:Int) (h:Q7 F s stack=some r):Pure E8 73 [.dptr (Gs.cs s),I64 stack] (·=I64 r):=by
 unfold Q7 at h
 refine Hd [.tmp 4] Try.func73 O O (Jr fun q=>(JLm (I64 0) O (G6 (q (Jr fun t=>(JLm (I64 0) O (G6 (t (Js fun u=>Gf ?_)))))))))
 obtain⟨v,j,h⟩:=G27 h
 refine H9 (fun b (a:Int)=>loop v b a=some r) (fun b a=>[(0,.dptr (Gs.cs s)),(1,I64 stack),(5,I64 a)]) (fun b a=>[]) (fun b=>b) F 0 h ⟨(.sm O O),ø,O⟩ ?_
 clear h
 intro b a k z w
 obtain⟨x,y,hm_12,l,h⟩:=Zq k
 replace h:=Ha7 j h
 refine Js fun m=>Jr fun n=>(JLm (I64 a) O (JLh (BL (decide (a < 6))) (Hy O O O) O (JLm (BL (decide (a < 6))) O (JLo (.dptr (Gs.cs s)) [] O .sct ø (fun hc=>G2 O O) O (JLo (I64 stack) [] O .sct ø (fun hc=>G2 O O) O (JLo (I64 a) [] O .sct ø (fun hc=>G2 O O) O (JLo (.dptr (Gs.cs s)) [9] O .sct ⟨Ua,ø⟩ (fun hc=>H3f O O) O ?_)))))))
 obtain⟨c,d,h⟩:=Gd h
 refine JLo (.dptr ((Gs.cs s).drop (c*6))) [10,12] O .sct ⟨Ua,Ua,ø⟩ (fun hc=>Hcf G4a O O O (Ha (H7 hc d)).1 (Nat.succ_le_succ (Ha (H7 hc d)).2)) O ?_
 obtain⟨f,e,h⟩:=Gd h
 refine JLo (.dptr (((Gs.cs s).drop (c*6)).drop (f*1))) [11,13] O .sct ⟨Ua,Ua,ø⟩ (fun hc=>Hcf G73 O O O (Ha (H7 hc e)).1 (Nat.succ_le_succ (Ha (H7 hc e)).2)) O (JLo (U8 (s.g (c*6+f*1))) [14] O .sct ⟨Ua,ø⟩ (fun hc=>Hce G87 O O (Gs.Q31 s (Ha (H7 hc d)).2 (Ha (H7 hc e)).2)) O (JLo (BL (decide (0 < (s.g (c*6+f*1))))) [15] O .sct ⟨Ua,ø⟩ (fun hc=>Z3 O O O) O (JLh (BL ((decide (a < 6))&&(decide (0 < (s.g (c*6+f*1)))))) (Ye O O O O) O (G6 (n (JCc O h (fun h hb=>?_) (fun h hb=>?_)))))))
 ·
  refine Gi (m (Gf (G1 (JLm (I64 a) O ?_))))
  obtain⟨i,o,h⟩:=Jb h
  refine JLh (I64 i) (Hv o O O O) O (JLm (I64 i) O (G6 (w _ _ x i (app1 l h) (by omega) ⟨(.sm O O),ø,rfl⟩)))
 ·
  refine Hc (u (Jr fun p=>(JLm (I64 a) O (JLm (I64 a) O (G6 (p (H1 (fin1 I64 h))))))))

def Y0 (F:Nat) (s:Gs) (stacks:Int) (ranks:List Int):Option Bool:=
 need (decide (stacks≤9223372036854775807)) <|
 upto (fun b (o:Unit) d=>
  loop (fun c (a:Int)=>
   bnd (Q7 F s (b:Int)) fun e=>
   bif decide (a < e) then
   (bnd (Ru (b:Int) 3) fun f=>
    bnd (Ru a 5) fun h=>
    R1 ranks (s.g (f*6+h*1)) fun i=>
    chk (a - 1) fun j=>
    bnd (Ru (b:Int) 3) fun k=>
    bnd (Ru j 5) fun l=>
    R1 ranks (s.g (k*6+l*1)) fun m=>
    bif decide (m < i) then
    (some false)
    else
    (chk (a+1) fun n=>
     c n))
   else
   (d ())) F 1)
 (fun(o:Unit)=>
  some true) stacks.toNat 0 ()
theorem Gde (F:Nat) (s:Gs) (stacks:Int) (ranks:List Int) (r:Bool) (h:Y0 F s stacks ranks=some r):Pure E8 41 [.dptr (Gs.cs s),I64 stacks,E1 ranks] (·=BL r):=by
 unfold Y0 at h
 refine Hd [.tmp 6] Try.func41 O O (Jr fun b6=>(JLm (BL false) O (G6 (b6 (Js fun b7=>Jr fun b8=>(JLm (I64 stacks) O (JLm (I64 0) O (G6 (b8 (Gf ?_))))))))))
 obtain⟨b9,h⟩:=Hu h
 obtain⟨b4,c0,c1,x,h⟩:=Gc6 h
 refine H9 (fun a (q:Unit)=>upto b4 c0 (stacks.toNat - a) a q=some r) (fun a q=>[(0,.dptr (Gs.cs s)),(2,E1 ranks),(9,I64 stacks),(10,E7 a)]) (fun a q=>[]) (fun a=>stacks.toNat - a) 0 () h ⟨(.sm O O),ø,rfl⟩ ?_
 clear h
 intro a q t K4 e4
 refine Jr fun c2=>(JLh (BL (decide ((a:Int) < stacks))) (Hy O O O) O (G6 (c2 (Js fun c3=>Gh O (fun hb=>?_) (fun hb=>?_)))))
 ·
  have u:=G8b hb
  obtain⟨d5,c4,h⟩:=G83 t u
  replace h:=Jd0 c1 h
  refine Gi (c3 (Js fun c5=>Gf (Jr fun c6=>(JLm (E7 a) O (JLm (E7 a) O (G6 (c6 (Jr fun c7=>(JLm (I64 1) O (G6 (c7 (Gf ?_))))))))))))
  obtain⟨c8,z,h⟩:=G27 h
  refine H9 (fun c (b:Int)=>loop c8 c b=some r) (fun c b=>[(0,.dptr (Gs.cs s)),(2,E1 ranks),(7,E7 a),(8,I64 b),(9,I64 stacks),(10,E7 a)]) (fun c b=>[]) (fun c=>c) F 1 h ⟨(.sm O O),ø,rfl⟩ ?_
  clear h
  intro c b a0 d6 c9
  obtain⟨d0,d4,hm_39,a1,h⟩:=Zq a0
  replace h:=Ha7 z h
  refine Js fun a2=>Jr fun a3=>(JLm (I64 b) O (JLm (.dptr (Gs.cs s)) O (JLm (E7 a) O ?_)))
  obtain⟨m,a4,h⟩:=Gd h
  refine JLh (I64 m) (Gu O (G1b F s (a:Int) m a4) H65 ⟨O,O,O,O,ø⟩) O (JLh (BL (decide (b < m))) (Hy O O O) O (G6 (a3 (JCc O h (fun h hb=>?_) (fun h hb=>?_)))))
  ·
   refine Gi (a2 (Js fun a5=>Gf (Js fun a6=>?_)))
   obtain⟨n,d,h⟩:=Gd h
   obtain⟨v,e,h⟩:=Gd h
   obtain⟨d7,k,a7,a8,h⟩:=Qw h
   obtain⟨d1,a9,h⟩:=Jb h
   obtain⟨o,i,h⟩:=Gd h
   obtain⟨w,j,h⟩:=Gd h
   obtain⟨d8,l,b0,b1,h⟩:=Qw h
   refine JC_d0 Jm (by kernel_rfl) (Dq (E1 ranks) (G2 O O) O (Dq (.dptr (Gs.cs s)) (G2 O O) O (Dq (E7 a) (G2 O O) O (Dq (I64 b) (G2 O O) O (Dq (.dptr (Gs.cs s)) (H3f O O) O (Dq (.dptr ((Gs.cs s).drop (n*6))) (Hcf G4a O O O (Ha d).1 (Nat.succ_le_succ (Ha d).2)) O (Dq (.dptr (((Gs.cs s).drop (n*6)).drop (v*1))) (Hcf G73 O O O (Ha e).1 (Nat.succ_le_succ (Ha e).2)) O (Dq (U8 (s.g (n*6+v*1))) (Hce G87 O O (Gs.Q31 s (Ha d).2 (Ha e).2)) O (Dq (.dptr [I64 k]) (Gy (f:=I64) (xs:=ranks) (y:=k) O O O G7 a8 a7) O (Dq (I64 k) (Gm Gj O O O) O (Dq (E1 ranks) (G2 O O) O (Dq (.dptr (Gs.cs s)) (G2 O O) O (Dq (E7 a) (G2 O O) O ?_)))))))))))))
   refine Dq (I64 b) (G2 O O) O (Dq (I64 d1) (G03 a9 O O O) O (Dq (.dptr (Gs.cs s)) (H3f O O) O (Dq (.dptr ((Gs.cs s).drop (o*6))) (Hcf G4a O O O (Ha i).1 (Nat.succ_le_succ (Ha i).2)) O (Dq (.dptr (((Gs.cs s).drop (o*6)).drop (w*1))) (Hcf G73 O O O (Ha j).1 (Nat.succ_le_succ (Ha j).2)) O (Dq (U8 (s.g (o*6+w*1))) (Hce G87 O O (Gs.Q31 s (Ha i).2 (Ha j).2)) O (Dq (.dptr [I64 l]) (Gy (f:=I64) (xs:=ranks) (y:=l) O O O G7 b1 b0) O (Dq (I64 l) (Gm Gj O O O) O (Dq (BL (decide (l < k))) (Z3 O O O) O (Dnil (a6 (JCc O h (fun h hb=>?_) (fun h hb=>?_))))))))))))
   ·
    refine Jr fun b2=>(JLm (BL false) O (G6 (b2 (H1 (fin1 BL h)))))
   ·
    refine Gi (a5 (G1 (JLm (I64 b) O ?_)))
    obtain⟨p,b3,h⟩:=Jb h
    refine JLh (I64 p) (Hv b3 O O O) O (JLm (I64 p) O (G6 (c9 _ _ d0 p (app1 a1 h) (by omega) ⟨(.sm O O),ø,rfl⟩)))
  ·
   refine Hc (c5 (G1 (JLh (I64 ((a+1:Nat):Int)) (Hv (Hi u (G48 b9)) O O O) O (JLm (I64 ((a+1:Nat):Int)) O (G6 (e4 _ _ (a+1) () (app1 c4 h) (by omega) ⟨(.sm O O),ø,rfl⟩))))))
 ·
  have h:=app1 x (G84 t (Zo hb))
  refine Hc (b7 (Jr fun b5=>(JLm (BL true) O (G6 (b5 (H1 (fin1 BL h)))))))

def Yu (F:Nat) (f:Int) (h:Gs) (v:Int) (ys_:List (G5×Gs)):Option Unit:=
 need (decide (f≤9223372036854775807)) <|
 upto (fun c (j:Nat) l=>
  need (decide (f≤9223372036854775807)) <|
  upto (fun b (a:Nat) k=>
   jp (fun d=>
    bnd (Q7 F h (c:Int)) fun e=>
    bnd (Q7 F h (b:Int)) fun i=>
    bif (((decide ((c:Int)=(b:Int)))||(decide (e=0)))||(decide (i=v))) then
    (d a)
    else
    (chk (e - 1) fun m=>
     chk (e - 1) fun n=>
     bnd (Ru (c:Int) 3) fun o=>
     bnd (Ru n 5) fun p=>
     bnd (Ru (b:Int) 3) fun q=>
     bnd (Ru i 5) fun r=>
     bnd (Ru (c:Int) 3) fun s=>
     bnd (Ru m 5) fun t=>
     need (decide (ys_[a]? = some ((G5.mk (c:Int) (b:Int)),((h.set (q*6+r*1) (h.g (o*6+p*1))).set (s*6+t*1) 0)))) <|
     d (a+1))) fun(u:Nat)=>
   k u)
  (fun(a:Nat)=>
   l a) f.toNat 0 j)
 (fun(j:Nat)=>
  need (decide (j=ys_.length)) (some ())) f.toNat 0 0
abbrev Eb (a:Gs):List AV:=[U8 (a.g 0),U8 (a.g 1),U8 (a.g 2),U8 (a.g 3),U8 (a.g 4),U8 (a.g 5),U8 (a.g 6),U8 (a.g 7),U8 (a.g 8),U8 (a.g 9),U8 (a.g 10),U8 (a.g 11),U8 (a.g 12),U8 (a.g 13),U8 (a.g 14),U8 (a.g 15),U8 (a.g 16),U8 (a.g 17),U8 (a.g 18),U8 (a.g 19),U8 (a.g 20),U8 (a.g 21),U8 (a.g 22),U8 (a.g 23)]
theorem Gc4 (F:Nat) (n:Int) (a:Gs) (t:Int) (ys_:List (G5×Gs)) (q_:Unit) (h:Yu F n a t ys_=some q_):Iter E8 74 [.dptr [I64 n],.dptr [.dptr (Gs.cs a)],.dptr [I64 t]] (ys_.map (fun y:G5×Gs=>[.agg [I64 y.1.From,I64 y.1.To],.agg (Gs.cs y.2)])):=by
 unfold Yu at h
 refine R15 Try.func74 O O ?_
 intro E hE hys
 refine G39 (fun K1 d0=>G0c (Rg (u:=I64 n) hE (Gm Gj O O O) ?_ O O O O))
 refine Rg (u:=I64 0) hE (G2 O O) ?_ O O O O
 refine G69 ?_
 refine d0 _ _ _ (Hab ?_)
 obtain⟨d1,h⟩:=Hu h
 obtain⟨b2,d2,d3,b0,h⟩:=Gc6 h
 refine Jd7 (fun m (s2:Nat)=>upto b2 d2 (n.toNat - m) m s2=some q_) (fun m s2=>[(0,.sc (.func (.yield E.lp) #[] #[])),(1,.dptr [I64 n]),(2,.dptr [.dptr (Gs.cs a)]),(3,.dptr [I64 t]),(10,I64 n),(11,E7 m)]) (fun m s2=>[]) (fun m s2=>s2) (fun m=>n.toNat - m) 0 0 h ⟨(.sm O O),ø,rfl⟩ rfl ?_
 clear h
 intro m s2 a8 K2 e2
 refine G39 (fun K3 d4=>G0c (Rg (u:=BL (decide ((m:Int) < n))) hE (Hy O O O) ?_ O O O O))
 refine G69 ?_
 refine d4 _ _ _ (G39 (fun K4 d5=>Haa O (fun hb=>?_) (fun hb=>?_)))
 ·
  have a9:=G8b hb
  obtain⟨e8,d6,h⟩:=G83 a8 a9
  replace h:=Jd0 d3 h
  refine Hf5 (d5 _ _ _ (G39 (fun K5 d7=>Hab (G39 (fun K6 d8=>G0c (Rg (u:=E7 m) hE (G2 O O) ?_ O O O O))))))
  refine Rg (u:=E7 m) hE (G4 O O) ?_ O O O O
  refine G69 ?_
  refine d8 _ _ _ (G39 (fun K7 d9=>G0c (Rg (u:=I64 n) hE (Gm Gj O O O) ?_ O O O O)))
  refine Rg (u:=I64 0) hE (G2 O O) ?_ O O O O
  refine G69 ?_
  refine d9 _ _ _ (Hab ?_)
  obtain⟨b1,h⟩:=Hu h
  obtain⟨e0,b3,b4,a6,h⟩:=Gc6 h
  refine Jd7 (fun j (p:Nat)=>upto e0 b3 (n.toNat - j) j p=some q_) (fun j p=>[(0,.sc (.func (.yield E.lp) #[] #[])),(1,.dptr [I64 n]),(2,.dptr [.dptr (Gs.cs a)]),(3,.dptr [I64 t]),(5,E7 m),(10,I64 n),(11,E7 m),(14,I64 n),(15,E7 j)]) (fun j p=>[]) (fun j p=>p) (fun j=>n.toNat - j) 0 s2 h ⟨(.sm O O),ø,rfl⟩ rfl ?_
  clear h
  intro j p a3 e9 e1
  refine G39 (fun f0 b5=>G0c (Rg (u:=BL (decide ((j:Int) < n))) hE (Hy O O O) ?_ O O O O))
  refine G69 ?_
  refine b5 _ _ _ (G39 (fun f1 b6=>Haa O (fun hb=>?_) (fun hb=>?_)))
  ·
   have a4:=G8b hb
   obtain⟨e7,b7,h⟩:=G83 a3 a4
   replace h:=Jd0 b4 h
   refine Hf5 (b6 _ _ _ ?_)
   obtain⟨b8,a7,h⟩:=G08 h
   refine R10 (fun s:Nat=>b8 s=some q_) (fun s=>[(0,.sc (.func (.yield E.lp) #[] #[])),(1,.dptr [I64 n]),(2,.dptr [.dptr (Gs.cs a)]),(3,.dptr [I64 t]),(5,E7 m),(10,I64 n),(11,E7 m),(14,I64 n),(15,E7 j)]) (fun s=>[]) (fun s=>s) (fun Kj53 ej53=>?_) ?_
   ·
    refine Hab (G39 (fun f2 b9=>G0c (Rg (u:=E7 j) hE (G2 O O) ?_ O O O O)))
    refine Rg (u:=E7 j) hE (G4 O O) ?_ O O O O
    refine G69 ?_
    refine b9 _ _ _ (G39 (fun f3 c0=>?_))
    obtain⟨o,c1,h⟩:=Gd h
    obtain⟨q,c2,h⟩:=Gd h
    refine Q66 [] [0,0,0,0,0,0,0,0] [0,0,0,0,0,0,0,0] [[]] hE Jm (by kernel_rfl) rfl rfl (Gb (u:=.dptr (Gs.cs a)) O O ⟨Ga (Gm Gd3 O O O) O,ø⟩ (Gb (u:=E7 m) O O ⟨Ga (G2 O O) O,ø⟩ (Gb (u:=I64 o) O O ⟨Ga (Gu O (G1b F a (m:Int) o c1) H65 ⟨O,O,O,O,ø⟩) O,ø⟩ (Gb (u:=.dptr (Gs.cs a)) O O ⟨Ga (Gm Gd3 O O O) O,ø⟩ (Gb (u:=E7 j) O O ⟨Ga (G2 O O) O,ø⟩ (Gb (u:=I64 q) O O ⟨Ga (Gu O (G1b F a (j:Int) q c2) H65 ⟨O,O,O,O,ø⟩) O,ø⟩ (Gb (u:=I64 o) O O ⟨Ga (G4 O O) O,ø⟩ (Gb (u:=I64 q) O O ⟨Ga (G4 O O) O,ø⟩ (Ro (c0 _ _ _ (G39 (fun f4 c3=>G39 (fun f5 c4=>G0c ?_)))))))))))))
    refine Rg (u:=E7 m) hE (G2 O O) ?_ O O O O
    refine Rg (u:=E7 j) hE (G2 O O) ?_ O O O O
    refine Rg (u:=BL (decide ((m:Int)=(j:Int)))) hE (Yd O O O) ?_ O O O O
    refine Rg (u:=BL (decide ((m:Int)=(j:Int)))) hE (G2 O O) ?_ O O O O
    refine Hac (u:=I64 o) [] hE O O O .scf ø (fun hc=>G2 O O) ?_ O O O
    refine Hac (u:=BL (decide (o=0))) [(28,I64 o)] hE O O O .scf ⟨.all id,ø⟩ (fun hc=>Yd O O O) ?_ O O O
    refine Rg (u:=BL ((decide ((m:Int)=(j:Int)))||(decide (o=0)))) hE (Zj O O O O) ?_ O O O O
    refine Rg (u:=BL ((decide ((m:Int)=(j:Int)))||(decide (o=0)))) hE (G2 O O) ?_ O O O O
    refine Hac (u:=I64 q) [] hE O O O .scf ø (fun hc=>G2 O O) ?_ O O O
    refine Hac (u:=I64 t) [] hE O O O .scf ø (fun hc=>Gm Gj O O O) ?_ O O O
    refine Hac (u:=BL (decide (q=t))) [(32,I64 q),(33,I64 t)] hE O O O .scf ⟨.all id,.all id,ø⟩ (fun hc=>Yd O O O) ?_ O O O
    refine Rg (u:=BL (((decide ((m:Int)=(j:Int)))||(decide (o=0)))||(decide (q=t)))) hE (Zj O O O O) ?_ O O O O
    refine G69 ?_
    refine c4 _ _ _ (Haa O (fun hb=>?_) (fun hb=>?_))
    ·
     replace h:=H7 hb h
     refine J94 (ej53 _ _ _ p h ⟨(.sm O O),ø,rfl⟩ rfl)
    ·
     replace h:=Ht hb h
     refine Hf5 (c3 _ _ _ (G39 (fun f6 c5=>G0c (Rg (u:=.dptr (Gs.cs a)) hE (Gm Gd3 O O O) ?_ O O O O))))
     refine Rg (u:=.dptr (Gs.cs a)) hE (H3f O O) ?_ O O O O
     refine Rg (u:=.agg (Gs.cs a)) hE (Gv G4b O O O) ?_ O O O O
     refine Rg (u:=.ptr 1083 0) hE (Jd 1083 24 H21 O O) ?_ O O O O
     refine R13 (u:=.junk) hE (Hp (u:=.agg (Gs.cs a)) (ds:=(Eb a)) H61 O O O O O O O O) ?_ O O O
     refine G69 ?_
     refine c5 _ _ _ (G39 (fun f7 c6=>Q65 (l':=[(0,.sc (.func (.yield E.lp) #[] #[])),(1,.dptr [I64 n]),(2,.dptr [.dptr (Gs.cs a)]),(3,.dptr [I64 t]),(5,E7 m),(6,E7 j),(7,I64 o),(8,I64 q),(9,.ptr 1083 0),(10,I64 n),(11,E7 m),(14,I64 n),(15,E7 j)]) (L':=[(1083,.box 77 (Eb a))]) ⟨(.sm O O),⟨fbQ O (.sm O O),ø⟩,rfl⟩ ?_))
     obtain⟨e3,a5,h⟩:=Jb h
     obtain⟨e4,c7,h⟩:=Jb h
     obtain⟨c,a1,h⟩:=Gd h
     obtain⟨d,a2,h⟩:=Gd h
     obtain⟨e,v,h⟩:=Gd h
     obtain⟨i,w,h⟩:=Gd h
     obtain⟨k,r,h⟩:=Gd h
     obtain⟨l,z,h⟩:=Gd h
     refine Q66 [13,16] [0,0,0,0,0,0,0,0,0,0,0,0,0,0,0,1,0] [0,0,1,1,1,0,0,0,0,0,0,0,0,0,1,1,0] [[(1083,.box 77 (Eb a))],((1083,.box 77 [U8 ((a.set (e*6+i*1) (a.g (c*6+d*1))).g 0),U8 ((a.set (e*6+i*1) (a.g (c*6+d*1))).g 1),U8 ((a.set (e*6+i*1) (a.g (c*6+d*1))).g 2),U8 ((a.set (e*6+i*1) (a.g (c*6+d*1))).g 3),U8 ((a.set (e*6+i*1) (a.g (c*6+d*1))).g 4),U8 ((a.set (e*6+i*1) (a.g (c*6+d*1))).g 5),U8 ((a.set (e*6+i*1) (a.g (c*6+d*1))).g 6),U8 ((a.set (e*6+i*1) (a.g (c*6+d*1))).g 7),U8 ((a.set (e*6+i*1) (a.g (c*6+d*1))).g 8),U8 ((a.set (e*6+i*1) (a.g (c*6+d*1))).g 9),U8 ((a.set (e*6+i*1) (a.g (c*6+d*1))).g 10),U8 ((a.set (e*6+i*1) (a.g (c*6+d*1))).g 11),U8 ((a.set (e*6+i*1) (a.g (c*6+d*1))).g 12),U8 ((a.set (e*6+i*1) (a.g (c*6+d*1))).g 13),U8 ((a.set (e*6+i*1) (a.g (c*6+d*1))).g 14),U8 ((a.set (e*6+i*1) (a.g (c*6+d*1))).g 15),U8 ((a.set (e*6+i*1) (a.g (c*6+d*1))).g 16),U8 ((a.set (e*6+i*1) (a.g (c*6+d*1))).g 17),U8 ((a.set (e*6+i*1) (a.g (c*6+d*1))).g 18),U8 ((a.set (e*6+i*1) (a.g (c*6+d*1))).g 19),U8 ((a.set (e*6+i*1) (a.g (c*6+d*1))).g 20),U8 ((a.set (e*6+i*1) (a.g (c*6+d*1))).g 21),U8 ((a.set (e*6+i*1) (a.g (c*6+d*1))).g 22),U8 ((a.set (e*6+i*1) (a.g (c*6+d*1))).g 23)])::[(1083,.box 77 (Eb a))]),((1083,.box 77 [U8 (((a.set (e*6+i*1) (a.g (c*6+d*1))).set (k*6+l*1) 0).g 0),U8 (((a.set (e*6+i*1) (a.g (c*6+d*1))).set (k*6+l*1) 0).g 1),U8 (((a.set (e*6+i*1) (a.g (c*6+d*1))).set (k*6+l*1) 0).g 2),U8 (((a.set (e*6+i*1) (a.g (c*6+d*1))).set (k*6+l*1) 0).g 3),U8 (((a.set (e*6+i*1) (a.g (c*6+d*1))).set (k*6+l*1) 0).g 4),U8 (((a.set (e*6+i*1) (a.g (c*6+d*1))).set (k*6+l*1) 0).g 5),U8 (((a.set (e*6+i*1) (a.g (c*6+d*1))).set (k*6+l*1) 0).g 6),U8 (((a.set (e*6+i*1) (a.g (c*6+d*1))).set (k*6+l*1) 0).g 7),U8 (((a.set (e*6+i*1) (a.g (c*6+d*1))).set (k*6+l*1) 0).g 8),U8 (((a.set (e*6+i*1) (a.g (c*6+d*1))).set (k*6+l*1) 0).g 9),U8 (((a.set (e*6+i*1) (a.g (c*6+d*1))).set (k*6+l*1) 0).g 10),U8 (((a.set (e*6+i*1) (a.g (c*6+d*1))).set (k*6+l*1) 0).g 11),U8 (((a.set (e*6+i*1) (a.g (c*6+d*1))).set (k*6+l*1) 0).g 12),U8 (((a.set (e*6+i*1) (a.g (c*6+d*1))).set (k*6+l*1) 0).g 13),U8 (((a.set (e*6+i*1) (a.g (c*6+d*1))).set (k*6+l*1) 0).g 14),U8 (((a.set (e*6+i*1) (a.g (c*6+d*1))).set (k*6+l*1) 0).g 15),U8 (((a.set (e*6+i*1) (a.g (c*6+d*1))).set (k*6+l*1) 0).g 16),U8 (((a.set (e*6+i*1) (a.g (c*6+d*1))).set (k*6+l*1) 0).g 17),U8 (((a.set (e*6+i*1) (a.g (c*6+d*1))).set (k*6+l*1) 0).g 18),U8 (((a.set (e*6+i*1) (a.g (c*6+d*1))).set (k*6+l*1) 0).g 19),U8 (((a.set (e*6+i*1) (a.g (c*6+d*1))).set (k*6+l*1) 0).g 20),U8 (((a.set (e*6+i*1) (a.g (c*6+d*1))).set (k*6+l*1) 0).g 21),U8 (((a.set (e*6+i*1) (a.g (c*6+d*1))).set (k*6+l*1) 0).g 22),U8 (((a.set (e*6+i*1) (a.g (c*6+d*1))).set (k*6+l*1) 0).g 23)])::((1083,.box 77 [U8 ((a.set (e*6+i*1) (a.g (c*6+d*1))).g 0),U8 ((a.set (e*6+i*1) (a.g (c*6+d*1))).g 1),U8 ((a.set (e*6+i*1) (a.g (c*6+d*1))).g 2),U8 ((a.set (e*6+i*1) (a.g (c*6+d*1))).g 3),U8 ((a.set (e*6+i*1) (a.g (c*6+d*1))).g 4),U8 ((a.set (e*6+i*1) (a.g (c*6+d*1))).g 5),U8 ((a.set (e*6+i*1) (a.g (c*6+d*1))).g 6),U8 ((a.set (e*6+i*1) (a.g (c*6+d*1))).g 7),U8 ((a.set (e*6+i*1) (a.g (c*6+d*1))).g 8),U8 ((a.set (e*6+i*1) (a.g (c*6+d*1))).g 9),U8 ((a.set (e*6+i*1) (a.g (c*6+d*1))).g 10),U8 ((a.set (e*6+i*1) (a.g (c*6+d*1))).g 11),U8 ((a.set (e*6+i*1) (a.g (c*6+d*1))).g 12),U8 ((a.set (e*6+i*1) (a.g (c*6+d*1))).g 13),U8 ((a.set (e*6+i*1) (a.g (c*6+d*1))).g 14),U8 ((a.set (e*6+i*1) (a.g (c*6+d*1))).g 15),U8 ((a.set (e*6+i*1) (a.g (c*6+d*1))).g 16),U8 ((a.set (e*6+i*1) (a.g (c*6+d*1))).g 17),U8 ((a.set (e*6+i*1) (a.g (c*6+d*1))).g 18),U8 ((a.set (e*6+i*1) (a.g (c*6+d*1))).g 19),U8 ((a.set (e*6+i*1) (a.g (c*6+d*1))).g 20),U8 ((a.set (e*6+i*1) (a.g (c*6+d*1))).g 21),U8 ((a.set (e*6+i*1) (a.g (c*6+d*1))).g 22),U8 ((a.set (e*6+i*1) (a.g (c*6+d*1))).g 23)])::[(1083,.box 77 (Eb a))]))] hE Jm (by kernel_rfl) rfl rfl ?_
     refine Gb (u:=E7 j) O O ⟨Ga (G2 O O) O,ø⟩ (Gb (u:=I64 q) O O ⟨Ga (G2 O O) O,ø⟩ (Gb (u:=E7 m) O O ⟨Ga (G2 O O) O,Ga (G2 O O) O,ø⟩ (Gb (u:=I64 o) O O ⟨Ga (G2 O O) O,Ga (G2 O O) O,ø⟩ (Gb (u:=I64 e3) O O ⟨Ga (G03 a5 O O O) O,Ga (G03 a5 O O O) O,ø⟩ (Gb (u:=E7 m) O O ⟨Ga (G2 O O) O,ø⟩ (Gb (u:=I64 o) O O ⟨Ga (G2 O O) O,ø⟩ (Gb (u:=I64 e4) O O ⟨Ga (G03 c7 O O O) O,ø⟩ (Gb (u:=.ptr 1083 (0+c*6)) O O ⟨Ga (H12 G4a O O O (Ha a1).1 (Nat.succ_le_succ (Ha a1).2)) O,ø⟩ (Gb (u:=.ptr 1083 ((0+c*6)+d*1)) O O ⟨Ga (H12 G73 O O O (Ha a2).1 (Nat.succ_le_succ (Ha a2).2)) O,ø⟩ (Gb (u:=U8 (a.g (c*6+d*1))) O O ⟨Ga (J40 G87 O O O (Gs.Ra1 a (Ha a1).2 (Ha a2).2)) O,ø⟩ (Gb (u:=.ptr 1083 (0+e*6)) O O ⟨Ga (H12 G4a O O O (Ha v).1 (Nat.succ_le_succ (Ha v).2)) O,ø⟩ (Gb (u:=.ptr 1083 ((0+e*6)+i*1)) O O ⟨Ga (H12 G73 O O O (Ha w).1 (Nat.succ_le_succ (Ha w).2)) O,ø⟩ (H3c (u:=.junk) O O O O (Ga (H55 (u:=U8 (a.g (c*6+d*1))) Hb4 O O O O O O (Gs.Qbc (Ha v).2 (Ha w).2) (Gs.Q30 a (Ha v).2 (Ha w).2 (a.g (c*6+d*1)))) O) ?_)))))))))))))
     refine Gb (u:=.ptr 1083 (0+k*6)) O O ⟨Ga (H12 G4a O O O (Ha r).1 (Nat.succ_le_succ (Ha r).2)) O,Ga (H12 G4a O O O (Ha r).1 (Nat.succ_le_succ (Ha r).2)) O,ø⟩ (Gb (u:=.ptr 1083 ((0+k*6)+l*1)) O O ⟨Ga (H12 G73 O O O (Ha z).1 (Nat.succ_le_succ (Ha z).2)) O,ø⟩ (H3c (u:=.junk) O O O O (Ga (H55 (u:=U8 0) Hb4 O O O O O O (Gs.Qbc (Ha r).2 (Ha z).2) (Gs.Q30 (a.set (e*6+i*1) (a.g (c*6+d*1))) (Ha r).2 (Ha z).2 0)) O) (Ro (c6 _ _ _ (G39 (fun f8 c8=>G0c (Rg (u:=.sc (.func (.yield E.lp) #[] #[])) hE (G2 O O) ?_ O O O O)))))))
     refine Rg (u:=E7 m) hE (G2 O O) ?_ O O O O
     refine Rg (u:=E7 j) hE (G2 O O) ?_ O O O O
     refine Rg (u:=.agg [E7 m,E7 j]) hE (Jo (cs:=[E7 m,E7 j]) [(0,1),(1,1)] [I64 0,I64 0] [E0,E0] G31 G70 (zzQ O) O O) ?_ O O O O
     refine Rg (u:=.agg (Gs.cs ((a.set (e*6+i*1) (a.g (c*6+d*1))).set (k*6+l*1) 0))) hE (Jf G4b O O O O) ?_ O O O O
     obtain⟨c9,h⟩:=Hu h
     refine Q96 (us:=[.agg [E7 m,E7 j],.agg (Gs.cs ((a.set (e*6+i*1) (a.g (c*6+d*1))).set (k*6+l*1) 0))]) hE O O ⟨O,O,O,O,ø⟩ (Qa3 (f:=(fun y:G5×Gs=>[.agg [I64 y.1.From,I64 y.1.To],.agg (Gs.cs y.2)])) (x:=((G5.mk (m:Int) (j:Int)),((a.set (e*6+i*1) (a.g (c*6+d*1))).set (k*6+l*1) 0))) hys c9) ?_ O O O
     refine Rg (u:=BL false) hE (Zc (b:=true) O O) ?_ O O O O
     refine G69 ?_
     refine c8 _ _ _ (Qd4 O (Hf5 (ej53 _ _ _ (p+1) h ⟨(.sm O O),ø,rfl⟩ rfl)))
   ·intro s h
    replace h:=app1 a7 h
    refine G0c (Rg (u:=I64 ((j+1:Nat):Int)) hE (Hv (Hi a4 (G48 b1)) O O O) ?_ O O O O)
    refine Rg (u:=I64 ((j+1:Nat):Int)) hE (G2 O O) ?_ O O O O
    refine G69 ?_
    exact e1 _ _ (j+1) s _ (app1 b7 h) (by omega) ⟨(.sm O O),ø,rfl⟩ rfl
  ·
   have h:=app1 a6 (G84 a3 (Zo hb))
   refine J94 (d7 _ _ _ (G0c (Rg (u:=I64 ((m+1:Nat):Int)) hE (Hv (Hi a9 (G48 d1)) O O O) ?_ O O O O)))
   refine Rg (u:=I64 ((m+1:Nat):Int)) hE (G2 O O) ?_ O O O O
   refine G69 ?_
   exact e2 _ _ (m+1) p _ (app1 d6 h) (by omega) ⟨(.sm O O),ø,rfl⟩ rfl
 ·
  have h:=app1 b0 (G84 a8 (Zo hb))
  refine J94 (Qf1 (Hu h).1)
theorem Gc5 (S_:Nat→(Int)→(Gs)→(Int)→Option (List (G5×Gs))) (hS_:∀ F a b c r,S_ F a b c=some r→Yu F a b c r=some ()) (F:Nat) (a:Int) (b:Gs) (c:Int) (r:List (G5×Gs)) (h:S_ F a b c=some r):Iter E8 74 [.dptr [I64 a],.dptr [.dptr (Gs.cs b)],.dptr [I64 c]] (r.map (fun y:G5×Gs=>[.agg [I64 y.1.From,I64 y.1.To],.agg (Gs.cs y.2)])):=Gc4 F a b c r () (hS_ F a b c r h)

def G26 (s:Gs) (stacks:Int) (height:Int):Option Unit:=
 some ()
abbrev Ec (stacks:Int) (s:Gs) (height:Int):List AV:=[.dptr [I64 stacks],.dptr [.dptr (Gs.cs s)],.dptr [I64 height]]
theorem Geb (s:Gs) (stacks:Int) (height:Int) (r:Unit) (h:G26 s stacks height=some r):Pure E8 42 [.dptr (Gs.cs s),I64 stacks,I64 height] (·=.fn 74 [.dptr [I64 stacks],.dptr [.dptr (Gs.cs s)],.dptr [I64 height]]):=by
 unfold G26 at h
 refine Hd [.tmp 6] Try.func42 O O (Jr fun a=>(JLh (.ptr 1050 0) (Qf (cs:=[.dptr (Gs.cs s)]) 1050 O O O O O) O (JLh (.ptr 1051 0) (Qf (cs:=[I64 stacks]) 1051 O O O O O) O (JLh (.ptr 1052 0) (Qf (cs:=[I64 height]) 1052 O O O O O) O (JLm (.sc .nilFunc) O (G6 (a (H5 [(3,.dptr [.dptr (Gs.cs s)]),(4,.ptr 1051 0),(5,.ptr 1052 0)] [(1051,.box 3 [I64 stacks]),(1052,.box 3 [I64 height])] 1050 rfl rfl rfl ⟨⟨_,rfl,.boxEq rfl rfl⟩,⟨_,rfl,.boxEq rfl rfl⟩,ø⟩ rfl (by exact⟨.ptr,.conv (.same rfl),.conv (.same rfl),ø⟩) (H5 [(3,.dptr [.dptr (Gs.cs s)]),(4,.dptr [I64 stacks]),(5,.ptr 1052 0)] [(1052,.box 3 [I64 height])] 1051 rfl rfl rfl ⟨⟨_,rfl,.boxEq rfl rfl⟩,ø⟩ rfl (by exact⟨.conv (.same rfl),.ptr,.conv (.same rfl),ø⟩) ?_)))))))))
 refine H5 [(3,.dptr [.dptr (Gs.cs s)]),(4,.dptr [I64 stacks]),(5,.dptr [I64 height])] [] 1052 rfl rfl rfl ø rfl (by exact⟨.conv (.same rfl),.conv (.same rfl),.ptr,ø⟩) (Jr fun b=>(JLh (.fn 74 (Ec stacks s height)) (J3d (cs:=(Ec stacks s height)) O O) O (JLm (.fn 74 (Ec stacks s height)) O (G6 (b (H1 (⟨[.fn 74 (Ec stacks s height)],[],ø,O,⟨⟨_,O,.conv (.same O)⟩,ø⟩,O,congrArg (fun _:Unit=>(.fn 74 (Ec stacks s height):AV)) (Ex h)⟩)))))))
end
end Go.Proofs.Ytokjlondbjdlfaa
