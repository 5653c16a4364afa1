/- Walks of functions. -/
import Derived.Test.YtokjlondbjdlfaaSpecY
set_option maxRecDepth 100000
set_option maxHeartbeats 1000000
set_option linter.unusedVariables false
set_option linter.unusedSimpArgs false
namespace Go.Proofs.Ytokjlondbjdlfaa
open Go.RowKit
noncomputable section

namespace XBF
open XAF
theorem G5a:Gc3 E8 77 24=true:=by kernel_rfl
theorem G7e:H71 E8 75 6 1=true:=by kernel_rfl
theorem G59:H71 E8 77 4 6=true:=by kernel_rfl
theorem H79:Hm E8 73=true:=by kernel_rfl
theorem G3c:placesOf E8 39=some [(0,1),(1,1)]:=by kernel_rfl
theorem Ge1:Qn E8 126=true:=by kernel_rfl
theorem G95:Qn E8 5=true:=by kernel_rfl
theorem Hc7:Ry E8 5 1=true:=by kernel_rfl
theorem H75:Ry E8 77 24=true:=by kernel_rfl
theorem G7a:(E8.info? 39).bind (fun i=>i.zero.map Value.cells)=some (List.toArray [E0,E0]):=by kernel_rfl
theorem H2c:Qh E8 77 24=true:=by kernel_rfl
end XBF
open XAF
open XBF

def Qd (F:Nat) (s:Gr) (stack:Int):Option Int:=
 loop (fun b (a:Int)=>
  bnd (bif decide (a < 6) then Rz stack 3 else some 0) fun c=>
  bnd (bif decide (a < 6) then Rz a 5 else some 0) fun d=>
  bif ((decide (a < 6))&&(decide (0 < (s.g (c*6+d*1))))) then
  (chk (a+1) fun e=>
   b e)
  else
  (some a)) F 0
theorem G1e (F:Nat) (s:Gr) (stack:Int) (r:Int) (h:Qd F s stack=some r):Pure E8 73 [.dptr (Gr.cs s),I64 stack] (·=I64 r):=by
 unfold Qd at h
 refine Hc [.tmp 4] Try.func73 O O (Jr fun q=>(JLm (I64 0) O (G6 (q (Jr fun t=>(JLm (I64 0) O (G6 (t (Js fun u=>Gg ?_)))))))))
 obtain⟨v,j,h⟩:=G2b h
 refine H9 (fun b (a:Int)=>loop v b a=some r) (fun b a=>[(0,.dptr (Gr.cs s)),(1,I64 stack),(5,I64 a)]) (fun b a=>[]) (fun b=>b) F 0 h ⟨(.sm O O),ø,O⟩ ?_
 clear h
 intro b a k z w
 obtain⟨x,y,hm_12,l,h⟩:=G03 k
 replace h:=Hba j h
 refine Js fun m=>Jr fun n=>(JLm (I64 a) O (JLh (BL (decide (a < 6))) (J0 O O O) O (JLm (BL (decide (a < 6))) O (JLo (.dptr (Gr.cs s)) [] O .sct ø (fun hc=>G2 O O) O (JLo (I64 stack) [] O .sct ø (fun hc=>G2 O O) O (JLo (I64 a) [] O .sct ø (fun hc=>G2 O O) O (JLo (.dptr (Gr.cs s)) [9] O .sct ⟨Ua,ø⟩ (fun hc=>H4e O O) O ?_)))))))
 obtain⟨c,d,h⟩:=Ge h
 refine JLo (.dptr ((Gr.cs s).drop (c*6))) [10,12] O .sct ⟨Ua,Ua,ø⟩ (fun hc=>He0 G59 O O O (Ha (H6 hc d)).1 (Nat.succ_le_succ (Ha (H6 hc d)).2)) O ?_
 obtain⟨f,e,h⟩:=Ge h
 refine JLo (.dptr (((Gr.cs s).drop (c*6)).drop (f*1))) [11,13] O .sct ⟨Ua,Ua,ø⟩ (fun hc=>He0 G7e O O O (Ha (H6 hc e)).1 (Nat.succ_le_succ (Ha (H6 hc e)).2)) O (JLo (U8 (s.g (c*6+f*1))) [14] O .sct ⟨Ua,ø⟩ (fun hc=>Hdf G95 O O (Gr.Q57 s (Ha (H6 hc d)).2 (Ha (H6 hc e)).2)) O (JLo (BL (decide (0 < (s.g (c*6+f*1))))) [15] O .sct ⟨Ua,ø⟩ (fun hc=>Z0 O O O) O (JLh (BL ((decide (a < 6))&&(decide (0 < (s.g (c*6+f*1)))))) (Rh O O O O) O (G6 (n (JCc O h (fun h hb=>?_) (fun h hb=>?_)))))))
 ·
  refine Gi (m (Gg (G1 (JLm (I64 a) O ?_))))
  obtain⟨i,o,h⟩:=J9 h
  refine JLh (I64 i) (Hz o O O O) O (JLm (I64 i) O (G6 (w _ _ x i (app1 l h) (by omega) ⟨(.sm O O),ø,rfl⟩)))
 ·
  refine Hd (u (Jr fun p=>(JLm (I64 a) O (JLm (I64 a) O (G6 (p (H1 (fin1 I64 h))))))))

def Re (F:Nat) (s:Gr) (stacks:Int) (ranks:List Int):Option Bool:=
 need (decide (stacks≤9223372036854775807)) <|
 upto (fun b (o:Unit) d=>
  loop (fun c (a:Int)=>
   bnd (Qd F s (b:Int)) fun e=>
   bif decide (a < e) then
   (bnd (Rz (b:Int) 3) fun f=>
    bnd (Rz a 5) fun h=>
    R2 ranks (s.g (f*6+h*1)) fun i=>
    chk (a - 1) fun j=>
    bnd (Rz (b:Int) 3) fun k=>
    bnd (Rz j 5) fun l=>
    R2 ranks (s.g (k*6+l*1)) fun m=>
    bif decide (m < i) then
    (some false)
    else
    (chk (a+1) fun n=>
     c n))
   else
   (d ())) F 1)
 (fun(o:Unit)=>
  some true) stacks.toNat 0 ()
theorem Ged (F:Nat) (s:Gr) (stacks:Int) (ranks:List Int) (r:Bool) (h:Re F s stacks ranks=some r):Pure E8 41 [.dptr (Gr.cs s),I64 stacks,E1 ranks] (·=BL r):=by
 unfold Re at h
 refine Hc [.tmp 6] Try.func41 O O (Jr fun b6=>(JLm (BL false) O (G6 (b6 (Js fun b7=>Jr fun b8=>(JLm (I64 stacks) O (JLm (I64 0) O (G6 (b8 (Gg ?_))))))))))
 obtain⟨b9,h⟩:=J1 h
 obtain⟨b4,c0,c1,x,h⟩:=Gd3 h
 refine H9 (fun a (q:Unit)=>upto b4 c0 (stacks.toNat - a) a q=some r) (fun a q=>[(0,.dptr (Gr.cs s)),(2,E1 ranks),(9,I64 stacks),(10,E7 a)]) (fun a q=>[]) (fun a=>stacks.toNat - a) 0 () h ⟨(.sm O O),ø,rfl⟩ ?_
 clear h
 intro a q t K4 e4
 refine Jr fun c2=>(JLh (BL (decide ((a:Int) < stacks))) (J0 O O O) O (G6 (c2 (Js fun c3=>Gh O (fun hb=>?_) (fun hb=>?_)))))
 ·
  have u:=G9a hb
  obtain⟨d5,c4,h⟩:=G91 t u
  replace h:=Jf6 c1 h
  refine Gi (c3 (Js fun c5=>Gg (Jr fun c6=>(JLm (E7 a) O (JLm (E7 a) O (G6 (c6 (Jr fun c7=>(JLm (I64 1) O (G6 (c7 (Gg ?_))))))))))))
  obtain⟨c8,z,h⟩:=G2b h
  refine H9 (fun c (b:Int)=>loop c8 c b=some r) (fun c b=>[(0,.dptr (Gr.cs s)),(2,E1 ranks),(7,E7 a),(8,I64 b),(9,I64 stacks),(10,E7 a)]) (fun c b=>[]) (fun c=>c) F 1 h ⟨(.sm O O),ø,rfl⟩ ?_
  clear h
  intro c b a0 d6 c9
  obtain⟨d0,d4,hm_39,a1,h⟩:=G03 a0
  replace h:=Hba z h
  refine Js fun a2=>Jr fun a3=>(JLm (I64 b) O (JLm (.dptr (Gr.cs s)) O (JLm (E7 a) O ?_)))
  obtain⟨m,a4,h⟩:=Ge h
  refine JLh (I64 m) (Gv O (G1e F s (a:Int) m a4) H79 ⟨O,O,O,O,ø⟩) O (JLh (BL (decide (b < m))) (J0 O O O) O (G6 (a3 (JCc O h (fun h hb=>?_) (fun h hb=>?_)))))
  ·
   refine Gi (a2 (Js fun a5=>Gg (Js fun a6=>?_)))
   obtain⟨n,d,h⟩:=Ge h
   obtain⟨v,e,h⟩:=Ge h
   obtain⟨d7,k,a7,a8,h⟩:=R4 h
   obtain⟨d1,a9,h⟩:=J9 h
   obtain⟨o,i,h⟩:=Ge h
   obtain⟨w,j,h⟩:=Ge h
   obtain⟨d8,l,b0,b1,h⟩:=R4 h
   refine JC_d0 Jm (by kernel_rfl) (Dq (E1 ranks) (G2 O O) O (Dq (.dptr (Gr.cs s)) (G2 O O) O (Dq (E7 a) (G2 O O) O (Dq (I64 b) (G2 O O) O (Dq (.dptr (Gr.cs s)) (H4e O O) O (Dq (.dptr ((Gr.cs s).drop (n*6))) (He0 G59 O O O (Ha d).1 (Nat.succ_le_succ (Ha d).2)) O (Dq (.dptr (((Gr.cs s).drop (n*6)).drop (v*1))) (He0 G7e O O O (Ha e).1 (Nat.succ_le_succ (Ha e).2)) O (Dq (U8 (s.g (n*6+v*1))) (Hdf G95 O O (Gr.Q57 s (Ha d).2 (Ha e).2)) O (Dq (.dptr [I64 k]) (H0 (f:=I64) (xs:=ranks) (y:=k) O O O G7 a8 a7) O (Dq (I64 k) (Gm Gj O O O) O (Dq (E1 ranks) (G2 O O) O (Dq (.dptr (Gr.cs s)) (G2 O O) O (Dq (E7 a) (G2 O O) O ?_)))))))))))))
   refine Dq (I64 b) (G2 O O) O (Dq (I64 d1) (Zu a9 O O O) O (Dq (.dptr (Gr.cs s)) (H4e O O) O (Dq (.dptr ((Gr.cs s).drop (o*6))) (He0 G59 O O O (Ha i).1 (Nat.succ_le_succ (Ha i).2)) O (Dq (.dptr (((Gr.cs s).drop (o*6)).drop (w*1))) (He0 G7e O O O (Ha j).1 (Nat.succ_le_succ (Ha j).2)) O (Dq (U8 (s.g (o*6+w*1))) (Hdf G95 O O (Gr.Q57 s (Ha i).2 (Ha j).2)) O (Dq (.dptr [I64 l]) (H0 (f:=I64) (xs:=ranks) (y:=l) O O O G7 b1 b0) O (Dq (I64 l) (Gm Gj O O O) O (Dq (BL (decide (l < k))) (Z0 O O O) O (Dnil (a6 (JCc O h (fun h hb=>?_) (fun h hb=>?_))))))))))))
   ·
    refine Jr fun b2=>(JLm (BL false) O (G6 (b2 (H1 (fin1 BL h)))))
   ·
    refine Gi (a5 (G1 (JLm (I64 b) O ?_)))
    obtain⟨p,b3,h⟩:=J9 h
    refine JLh (I64 p) (Hz b3 O O O) O (JLm (I64 p) O (G6 (c9 _ _ d0 p (app1 a1 h) (by omega) ⟨(.sm O O),ø,rfl⟩)))
  ·
   refine Hd (c5 (G1 (JLh (I64 ((a+1:Nat):Int)) (Hz (Hk u (G57 b9)) O O O) O (JLm (I64 ((a+1:Nat):Int)) O (G6 (e4 _ _ (a+1) () (app1 c4 h) (by omega) ⟨(.sm O O),ø,rfl⟩))))))
 ·
  have h:=app1 x (G92 t (G00 hb))
  refine Hd (b7 (Jr fun b5=>(JLm (BL true) O (G6 (b5 (H1 (fin1 BL h)))))))

def Z3 (F:Nat) (f:Int) (h:Gr) (v:Int) (ys_:List (G3×Gr)):Option Unit:=
 need (decide (f≤9223372036854775807)) <|
 upto (fun c (j:Nat) l=>
  need (decide (f≤9223372036854775807)) <|
  upto (fun b (a:Nat) k=>
   jp (fun d=>
    bnd (Qd F h (c:Int)) fun e=>
    bnd (Qd F h (b:Int)) fun i=>
    bif (((decide ((c:Int)=(b:Int)))||(decide (e=0)))||(decide (i=v))) then
    (d a)
    else
    (chk (e - 1) fun m=>
     chk (e - 1) fun n=>
     bnd (Rz (c:Int) 3) fun o=>
     bnd (Rz n 5) fun p=>
     bnd (Rz (b:Int) 3) fun q=>
     bnd (Rz i 5) fun r=>
     bnd (Rz (c:Int) 3) fun s=>
     bnd (Rz m 5) fun t=>
     need (decide (ys_[a]? = some ((G3.mk (c:Int) (b:Int)),((h.set (q*6+r*1) (h.g (o*6+p*1))).set (s*6+t*1) 0)))) <|
     d (a+1))) fun(u:Nat)=>
   k u)
  (fun(a:Nat)=>
   l a) f.toNat 0 j)
 (fun(j:Nat)=>
  need (decide (j=ys_.length)) (some ())) f.toNat 0 0
abbrev Eb (a:Gr):List AV:=[U8 (a.g 0),U8 (a.g 1),U8 (a.g 2),U8 (a.g 3),U8 (a.g 4),U8 (a.g 5),U8 (a.g 6),U8 (a.g 7),U8 (a.g 8),U8 (a.g 9),U8 (a.g 10),U8 (a.g 11),U8 (a.g 12),U8 (a.g 13),U8 (a.g 14),U8 (a.g 15),U8 (a.g 16),U8 (a.g 17),U8 (a.g 18),U8 (a.g 19),U8 (a.g 20),U8 (a.g 21),U8 (a.g 22),U8 (a.g 23)]
theorem Gd1 (F:Nat) (n:Int) (a:Gr) (t:Int) (ys_:List (G3×Gr)) (q_:Unit) (h:Z3 F n a t ys_=some q_):Iter E8 74 [.dptr [I64 n],.dptr [.dptr (Gr.cs a)],.dptr [I64 t]] (ys_.map (fun y:G3×Gr=>[.agg [I64 y.1.From,I64 y.1.To],.agg (Gr.cs y.2)])):=by
 unfold Z3 at h
 refine R51 Try.func74 O O ?_
 intro E hE hys
 refine G44 (fun K1 d0=>G15 (Ru (u:=I64 n) hE (Gm Gj O O O) ?_ O O O O))
 refine Ru (u:=I64 0) hE (G2 O O) ?_ O O O O
 refine G75 ?_
 refine d0 _ _ _ (Hbd ?_)
 obtain⟨d1,h⟩:=J1 h
 obtain⟨b2,d2,d3,b0,h⟩:=Gd3 h
 refine Jfe (fun m (s2:Nat)=>upto b2 d2 (n.toNat - m) m s2=some q_) (fun m s2=>[(0,.sc (.func (.yield E.lp) #[] #[])),(1,.dptr [I64 n]),(2,.dptr [.dptr (Gr.cs a)]),(3,.dptr [I64 t]),(10,I64 n),(11,E7 m)]) (fun m s2=>[]) (fun m s2=>s2) (fun m=>n.toNat - m) 0 0 h ⟨(.sm O O),ø,rfl⟩ rfl ?_
 clear h
 intro m s2 a8 K2 e2
 refine G44 (fun K3 d4=>G15 (Ru (u:=BL (decide ((m:Int) < n))) hE (J0 O O O) ?_ O O O O))
 refine G75 ?_
 refine d4 _ _ _ (G44 (fun K4 d5=>Hbc O (fun hb=>?_) (fun hb=>?_)))
 ·
  have a9:=G9a hb
  obtain⟨e8,d6,h⟩:=G91 a8 a9
  replace h:=Jf6 d3 h
  refine J09 (d5 _ _ _ (G44 (fun K5 d7=>Hbd (G44 (fun K6 d8=>G15 (Ru (u:=E7 m) hE (G2 O O) ?_ O O O O))))))
  refine Ru (u:=E7 m) hE (G5 O O) ?_ O O O O
  refine G75 ?_
  refine d8 _ _ _ (G44 (fun K7 d9=>G15 (Ru (u:=I64 n) hE (Gm Gj O O O) ?_ O O O O)))
  refine Ru (u:=I64 0) hE (G2 O O) ?_ O O O O
  refine G75 ?_
  refine d9 _ _ _ (Hbd ?_)
  obtain⟨b1,h⟩:=J1 h
  obtain⟨e0,b3,b4,a6,h⟩:=Gd3 h
  refine Jfe (fun j (p:Nat)=>upto e0 b3 (n.toNat - j) j p=some q_) (fun j p=>[(0,.sc (.func (.yield E.lp) #[] #[])),(1,.dptr [I64 n]),(2,.dptr [.dptr (Gr.cs a)]),(3,.dptr [I64 t]),(5,E7 m),(10,I64 n),(11,E7 m),(14,I64 n),(15,E7 j)]) (fun j p=>[]) (fun j p=>p) (fun j=>n.toNat - j) 0 s2 h ⟨(.sm O O),ø,rfl⟩ rfl ?_
  clear h
  intro j p a3 e9 e1
  refine G44 (fun f0 b5=>G15 (Ru (u:=BL (decide ((j:Int) < n))) hE (J0 O O O) ?_ O O O O))
  refine G75 ?_
  refine b5 _ _ _ (G44 (fun f1 b6=>Hbc O (fun hb=>?_) (fun hb=>?_)))
  ·
   have a4:=G9a hb
   obtain⟨e7,b7,h⟩:=G91 a3 a4
   replace h:=Jf6 b4 h
   refine J09 (b6 _ _ _ ?_)
   obtain⟨b8,a7,h⟩:=G11 h
   refine R4c (fun s:Nat=>b8 s=some q_) (fun s=>[(0,.sc (.func (.yield E.lp) #[] #[])),(1,.dptr [I64 n]),(2,.dptr [.dptr (Gr.cs a)]),(3,.dptr [I64 t]),(5,E7 m),(10,I64 n),(11,E7 m),(14,I64 n),(15,E7 j)]) (fun s=>[]) (fun s=>s) (fun Kj53 ej53=>?_) ?_
   ·
    refine Hbd (G44 (fun f2 b9=>G15 (Ru (u:=E7 j) hE (G2 O O) ?_ O O O O)))
    refine Ru (u:=E7 j) hE (G5 O O) ?_ O O O O
    refine G75 ?_
    refine b9 _ _ _ (G44 (fun f3 c0=>?_))
    obtain⟨o,c1,h⟩:=Ge h
    obtain⟨q,c2,h⟩:=Ge h
    refine Q93 [] [0,0,0,0,0,0,0,0] [0,0,0,0,0,0,0,0] [[]] hE Jm (by kernel_rfl) rfl rfl (Gd (u:=.dptr (Gr.cs a)) O O ⟨Gc (Gm Ge1 O O O) O,ø⟩ (Gd (u:=E7 m) O O ⟨Gc (G2 O O) O,ø⟩ (Gd (u:=I64 o) O O ⟨Gc (Gv O (G1e F a (m:Int) o c1) H79 ⟨O,O,O,O,ø⟩) O,ø⟩ (Gd (u:=.dptr (Gr.cs a)) O O ⟨Gc (Gm Ge1 O O O) O,ø⟩ (Gd (u:=E7 j) O O ⟨Gc (G2 O O) O,ø⟩ (Gd (u:=I64 q) O O ⟨Gc (Gv O (G1e F a (j:Int) q c2) H79 ⟨O,O,O,O,ø⟩) O,ø⟩ (Gd (u:=I64 o) O O ⟨Gc (G5 O O) O,ø⟩ (Gd (u:=I64 q) O O ⟨Gc (G5 O O) O,ø⟩ (Y3 (c0 _ _ _ (G44 (fun f4 c3=>G44 (fun f5 c4=>G15 ?_)))))))))))))
    refine Ru (u:=E7 m) hE (G2 O O) ?_ O O O O
    refine Ru (u:=E7 j) hE (G2 O O) ?_ O O O O
    refine Ru (u:=BL (decide ((m:Int)=(j:Int)))) hE (R8 O O O) ?_ O O O O
    refine Ru (u:=BL (decide ((m:Int)=(j:Int)))) hE (G2 O O) ?_ O O O O
    refine Hbe (u:=I64 o) [] hE O O O .scf ø (fun hc=>G2 O O) ?_ O O O
    refine Hbe (u:=BL (decide (o=0))) [(28,I64 o)] hE O O O .scf ⟨.all id,ø⟩ (fun hc=>R8 O O O) ?_ O O O
    refine Ru (u:=BL ((decide ((m:Int)=(j:Int)))||(decide (o=0)))) hE (Yz O O O O) ?_ O O O O
    refine Ru (u:=BL ((decide ((m:Int)=(j:Int)))||(decide (o=0)))) hE (G2 O O) ?_ O O O O
    refine Hbe (u:=I64 q) [] hE O O O .scf ø (fun hc=>G2 O O) ?_ O O O
    refine Hbe (u:=I64 t) [] hE O O O .scf ø (fun hc=>Gm Gj O O O) ?_ O O O
    refine Hbe (u:=BL (decide (q=t))) [(32,I64 q),(33,I64 t)] hE O O O .scf ⟨.all id,.all id,ø⟩ (fun hc=>R8 O O O) ?_ O O O
    refine Ru (u:=BL (((decide ((m:Int)=(j:Int)))||(decide (o=0)))||(decide (q=t)))) hE (Yz O O O O) ?_ O O O O
    refine G75 ?_
    refine c4 _ _ _ (Hbc O (fun hb=>?_) (fun hb=>?_))
    ·
     replace h:=H6 hb h
     refine Jb5 (ej53 _ _ _ p h ⟨(.sm O O),ø,rfl⟩ rfl)
    ·
     replace h:=Hr hb h
     refine J09 (c3 _ _ _ (G44 (fun f6 c5=>G15 (Ru (u:=.dptr (Gr.cs a)) hE (Gm Ge1 O O O) ?_ O O O O))))
     refine Ru (u:=.dptr (Gr.cs a)) hE (H4e O O) ?_ O O O O
     refine Ru (u:=.agg (Gr.cs a)) hE (Gw G5a O O O) ?_ O O O O
     refine Ru (u:=.ptr 1085 0) hE (Je 1085 24 H2c O O) ?_ O O O O
     refine R4f (u:=.junk) hE (Hv (u:=.agg (Gr.cs a)) (ds:=(Eb a)) H75 O O O O O O O O) ?_ O O O
     refine G75 ?_
     refine c5 _ _ _ (G44 (fun f7 c6=>Q92 (l':=[(0,.sc (.func (.yield E.lp) #[] #[])),(1,.dptr [I64 n]),(2,.dptr [.dptr (Gr.cs a)]),(3,.dptr [I64 t]),(5,E7 m),(6,E7 j),(7,I64 o),(8,I64 q),(9,.ptr 1085 0),(10,I64 n),(11,E7 m),(14,I64 n),(15,E7 j)]) (L':=[(1085,.box 77 (Eb a))]) ⟨(.sm O O),⟨fbQ O (.sm O O),ø⟩,rfl⟩ ?_))
     obtain⟨e3,a5,h⟩:=J9 h
     obtain⟨e4,c7,h⟩:=J9 h
     obtain⟨c,a1,h⟩:=Ge h
     obtain⟨d,a2,h⟩:=Ge h
     obtain⟨e,v,h⟩:=Ge h
     obtain⟨i,w,h⟩:=Ge h
     obtain⟨k,r,h⟩:=Ge h
     obtain⟨l,z,h⟩:=Ge h
     refine Q93 [13,16] [0,0,0,0,0,0,0,0,0,0,0,0,0,0,0,1,0] [0,0,1,1,1,0,0,0,0,0,0,0,0,0,1,1,0] [[(1085,.box 77 (Eb a))],((1085,.box 77 [U8 ((a.set (e*6+i*1) (a.g (c*6+d*1))).g 0),U8 ((a.set (e*6+i*1) (a.g (c*6+d*1))).g 1),U8 ((a.set (e*6+i*1) (a.g (c*6+d*1))).g 2),U8 ((a.set (e*6+i*1) (a.g (c*6+d*1))).g 3),U8 ((a.set (e*6+i*1) (a.g (c*6+d*1))).g 4),U8 ((a.set (e*6+i*1) (a.g (c*6+d*1))).g 5),U8 ((a.set (e*6+i*1) (a.g (c*6+d*1))).g 6),U8 ((a.set (e*6+i*1) (a.g (c*6+d*1))).g 7),U8 ((a.set (e*6+i*1) (a.g (c*6+d*1))).g 8),U8 ((a.set (e*6+i*1) (a.g (c*6+d*1))).g 9),U8 ((a.set (e*6+i*1) (a.g (c*6+d*1))).g 10),U8 ((a.set (e*6+i*1) (a.g (c*6+d*1))).g 11),U8 ((a.set (e*6+i*1) (a.g (c*6+d*1))).g 12),U8 ((a.set (e*6+i*1) (a.g (c*6+d*1))).g 13),U8 ((a.set (e*6+i*1) (a.g (c*6+d*1))).g 14),U8 ((a.set (e*6+i*1) (a.g (c*6+d*1))).g 15),U8 ((a.set (e*6+i*1) (a.g (c*6+d*1))).g 16),U8 ((a.set (e*6+i*1) (a.g (c*6+d*1))).g 17),U8 ((a.set (e*6+i*1) (a.g (c*6+d*1))).g 18),U8 ((a.set (e*6+i*1) (a.g (c*6+d*1))).g 19),U8 ((a.set (e*6+i*1) (a.g (c*6+d*1))).g 20),U8 ((a.set (e*6+i*1) (a.g (c*6+d*1))).g 21),U8 ((a.set (e*6+i*1) (a.g (c*6+d*1))).g 22),U8 ((a.set (e*6+i*1) (a.g (c*6+d*1))).g 23)])::[(1085,.box 77 (Eb a))]),((1085,.box 77 [U8 (((a.set (e*6+i*1) (a.g (c*6+d*1))).set (k*6+l*1) 0).g 0),U8 (((a.set (e*6+i*1) (a.g (c*6+d*1))).set (k*6+l*1) 0).g 1),U8 (((a.set (e*6+i*1) (a.g (c*6+d*1))).set (k*6+l*1) 0).g 2),U8 (((a.set (e*6+i*1) (a.g (c*6+d*1))).set (k*6+l*1) 0).g 3),U8 (((a.set (e*6+i*1) (a.g (c*6+d*1))).set (k*6+l*1) 0).g 4),U8 (((a.set (e*6+i*1) (a.g (c*6+d*1))).set (k*6+l*1) 0).g 5),U8 (((a.set (e*6+i*1) (a.g (c*6+d*1))).set (k*6+l*1) 0).g 6),U8 (((a.set (e*6+i*1) (a.g (c*6+d*1))).set (k*6+l*1) 0).g 7),U8 (((a.set (e*6+i*1) (a.g (c*6+d*1))).set (k*6+l*1) 0).g 8),U8 (((a.set (e*6+i*1) (a.g (c*6+d*1))).set (k*6+l*1) 0).g 9),U8 (((a.set (e*6+i*1) (a.g (c*6+d*1))).set (k*6+l*1) 0).g 10),U8 (((a.set (e*6+i*1) (a.g (c*6+d*1))).set (k*6+l*1) 0).g 11),U8 (((a.set (e*6+i*1) (a.g (c*6+d*1))).set (k*6+l*1) 0).g 12),U8 (((a.set (e*6+i*1) (a.g (c*6+d*1))).set (k*6+l*1) 0).g 13),U8 (((a.set (e*6+i*1) (a.g (c*6+d*1))).set (k*6+l*1) 0).g 14),U8 (((a.set (e*6+i*1) (a.g (c*6+d*1))).set (k*6+l*1) 0).g 15),U8 (((a.set (e*6+i*1) (a.g (c*6+d*1))).set (k*6+l*1) 0).g 16),U8 (((a.set (e*6+i*1) (a.g (c*6+d*1))).set (k*6+l*1) 0).g 17),U8 (((a.set (e*6+i*1) (a.g (c*6+d*1))).set (k*6+l*1) 0).g 18),U8 (((a.set (e*6+i*1) (a.g (c*6+d*1))).set (k*6+l*1) 0).g 19),U8 (((a.set (e*6+i*1) (a.g (c*6+d*1))).set (k*6+l*1) 0).g 20),U8 (((a.set (e*6+i*1) (a.g (c*6+d*1))).set (k*6+l*1) 0).g 21),U8 (((a.set (e*6+i*1) (a.g (c*6+d*1))).set (k*6+l*1) 0).g 22),U8 (((a.set (e*6+i*1) (a.g (c*6+d*1))).set (k*6+l*1) 0).g 23)])::((1085,.box 77 [U8 ((a.set (e*6+i*1) (a.g (c*6+d*1))).g 0),U8 ((a.set (e*6+i*1) (a.g (c*6+d*1))).g 1),U8 ((a.set (e*6+i*1) (a.g (c*6+d*1))).g 2),U8 ((a.set (e*6+i*1) (a.g (c*6+d*1))).g 3),U8 ((a.set (e*6+i*1) (a.g (c*6+d*1))).g 4),U8 ((a.set (e*6+i*1) (a.g (c*6+d*1))).g 5),U8 ((a.set (e*6+i*1) (a.g (c*6+d*1))).g 6),U8 ((a.set (e*6+i*1) (a.g (c*6+d*1))).g 7),U8 ((a.set (e*6+i*1) (a.g (c*6+d*1))).g 8),U8 ((a.set (e*6+i*1) (a.g (c*6+d*1))).g 9),U8 ((a.set (e*6+i*1) (a.g (c*6+d*1))).g 10),U8 ((a.set (e*6+i*1) (a.g (c*6+d*1))).g 11),U8 ((a.set (e*6+i*1) (a.g (c*6+d*1))).g 12),U8 ((a.set (e*6+i*1) (a.g (c*6+d*1))).g 13),U8 ((a.set (e*6+i*1) (a.g (c*6+d*1))).g 14),U8 ((a.set (e*6+i*1) (a.g (c*6+d*1))).g 15),U8 ((a.set (e*6+i*1) (a.g (c*6+d*1))).g 16),U8 ((a.set (e*6+i*1) (a.g (c*6+d*1))).g 17),U8 ((a.set (e*6+i*1) (a.g (c*6+d*1))).g 18),U8 ((a.set (e*6+i*1) (a.g (c*6+d*1))).g 19),U8 ((a.set (e*6+i*1) (a.g (c*6+d*1))).g 20),U8 ((a.set (e*6+i*1) (a.g (c*6+d*1))).g 21),U8 ((a.set (e*6+i*1) (a.g (c*6+d*1))).g 22),U8 ((a.set (e*6+i*1) (a.g (c*6+d*1))).g 23)])::[(1085,.box 77 (Eb a))]))] hE Jm (by kernel_rfl) rfl rfl ?_
     refine Gd (u:=E7 j) O O ⟨Gc (G2 O O) O,ø⟩ (Gd (u:=I64 q) O O ⟨Gc (G2 O O) O,ø⟩ (Gd (u:=E7 m) O O ⟨Gc (G2 O O) O,Gc (G2 O O) O,ø⟩ (Gd (u:=I64 o) O O ⟨Gc (G2 O O) O,Gc (G2 O O) O,ø⟩ (Gd (u:=I64 e3) O O ⟨Gc (Zu a5 O O O) O,Gc (Zu a5 O O O) O,ø⟩ (Gd (u:=E7 m) O O ⟨Gc (G2 O O) O,ø⟩ (Gd (u:=I64 o) O O ⟨Gc (G2 O O) O,ø⟩ (Gd (u:=I64 e4) O O ⟨Gc (Zu c7 O O O) O,ø⟩ (Gd (u:=.ptr 1085 (0+c*6)) O O ⟨Gc (H1e G59 O O O (Ha a1).1 (Nat.succ_le_succ (Ha a1).2)) O,ø⟩ (Gd (u:=.ptr 1085 ((0+c*6)+d*1)) O O ⟨Gc (H1e G7e O O O (Ha a2).1 (Nat.succ_le_succ (Ha a2).2)) O,ø⟩ (Gd (u:=U8 (a.g (c*6+d*1))) O O ⟨Gc (J5c G95 O O O (Gr.Re2 a (Ha a1).2 (Ha a2).2)) O,ø⟩ (Gd (u:=.ptr 1085 (0+e*6)) O O ⟨Gc (H1e G59 O O O (Ha v).1 (Nat.succ_le_succ (Ha v).2)) O,ø⟩ (Gd (u:=.ptr 1085 ((0+e*6)+i*1)) O O ⟨Gc (H1e G7e O O O (Ha w).1 (Nat.succ_le_succ (Ha w).2)) O,ø⟩ (H4b (u:=.junk) O O O O (Gc (H69 (u:=U8 (a.g (c*6+d*1))) Hc7 O O O O O O (Gr.Qf2 (Ha v).2 (Ha w).2) (Gr.Q56 a (Ha v).2 (Ha w).2 (a.g (c*6+d*1)))) O) ?_)))))))))))))
     refine Gd (u:=.ptr 1085 (0+k*6)) O O ⟨Gc (H1e G59 O O O (Ha r).1 (Nat.succ_le_succ (Ha r).2)) O,Gc (H1e G59 O O O (Ha r).1 (Nat.succ_le_succ (Ha r).2)) O,ø⟩ (Gd (u:=.ptr 1085 ((0+k*6)+l*1)) O O ⟨Gc (H1e G7e O O O (Ha z).1 (Nat.succ_le_succ (Ha z).2)) O,ø⟩ (H4b (u:=.junk) O O O O (Gc (H69 (u:=U8 0) Hc7 O O O O O O (Gr.Qf2 (Ha r).2 (Ha z).2) (Gr.Q56 (a.set (e*6+i*1) (a.g (c*6+d*1))) (Ha r).2 (Ha z).2 0)) O) (Y3 (c6 _ _ _ (G44 (fun f8 c8=>G15 (Ru (u:=.sc (.func (.yield E.lp) #[] #[])) hE (G2 O O) ?_ O O O O)))))))
     refine Ru (u:=E7 m) hE (G2 O O) ?_ O O O O
     refine Ru (u:=E7 j) hE (G2 O O) ?_ O O O O
     refine Ru (u:=.agg [E7 m,E7 j]) hE (Jo (cs:=[E7 m,E7 j]) [(0,1),(1,1)] [I64 0,I64 0] [E0,E0] G3c G7a (zzQ O) O O) ?_ O O O O
     refine Ru (u:=.agg (Gr.cs ((a.set (e*6+i*1) (a.g (c*6+d*1))).set (k*6+l*1) 0))) hE (Jh G5a O O O O) ?_ O O O O
     obtain⟨c9,h⟩:=J1 h
     refine Qc7 (us:=[.agg [E7 m,E7 j],.agg (Gr.cs ((a.set (e*6+i*1) (a.g (c*6+d*1))).set (k*6+l*1) 0))]) hE O O ⟨O,O,O,O,ø⟩ (Qd3 (f:=(fun y:G3×Gr=>[.agg [I64 y.1.From,I64 y.1.To],.agg (Gr.cs y.2)])) (x:=((G3.mk (m:Int) (j:Int)),((a.set (e*6+i*1) (a.g (c*6+d*1))).set (k*6+l*1) 0))) hys c9) ?_ O O O
     refine Ru (u:=BL false) hE (Zd (b:=true) O O) ?_ O O O O
     refine G75 ?_
     refine c8 _ _ _ (R0e O (J09 (ej53 _ _ _ (p+1) h ⟨(.sm O O),ø,rfl⟩ rfl)))
   ·intro s h
    replace h:=app1 a7 h
    refine G15 (Ru (u:=I64 ((j+1:Nat):Int)) hE (Hz (Hk a4 (G57 b1)) O O O) ?_ O O O O)
    refine Ru (u:=I64 ((j+1:Nat):Int)) hE (G2 O O) ?_ O O O O
    refine G75 ?_
    exact e1 _ _ (j+1) s _ (app1 b7 h) (by omega) ⟨(.sm O O),ø,rfl⟩ rfl
  ·
   have h:=app1 a6 (G92 a3 (G00 hb))
   refine Jb5 (d7 _ _ _ (G15 (Ru (u:=I64 ((m+1:Nat):Int)) hE (Hz (Hk a9 (G57 d1)) O O O) ?_ O O O O)))
   refine Ru (u:=I64 ((m+1:Nat):Int)) hE (G2 O O) ?_ O O O O
   refine G75 ?_
   exact e2 _ _ (m+1) p _ (app1 d6 h) (by omega) ⟨(.sm O O),ø,rfl⟩ rfl
 ·
  have h:=app1 b0 (G92 a8 (G00 hb))
  refine Jb5 (R2a (J1 h).1)
theorem Gd2 (S_:Nat→(Int)→(Gr)→(Int)→Option (List (G3×Gr))) (hS_:∀ F a b c r,S_ F a b c=some r→Z3 F a b c r=some ()) (F:Nat) (a:Int) (b:Gr) (c:Int) (r:List (G3×Gr)) (h:S_ F a b c=some r):Iter E8 74 [.dptr [I64 a],.dptr [.dptr (Gr.cs b)],.dptr [I64 c]] (r.map (fun y:G3×Gr=>[.agg [I64 y.1.From,I64 y.1.To],.agg (Gr.cs y.2)])):=Gd1 F a b c r () (hS_ F a b c r h)

def Zr (s:Gr) (stacks:Int) (height:Int):Option Unit:=
 some ()
abbrev Ec (stacks:Int) (s:Gr) (height:Int):List AV:=[.dptr [I64 stacks],.dptr [.dptr (Gr.cs s)],.dptr [I64 height]]
theorem Gfb (s:Gr) (stacks:Int) (height:Int) (r:Unit) (h:Zr s stacks height=some r):Pure E8 42 [.dptr (Gr.cs s),I64 stacks,I64 height] (·=.fn 74 [.dptr [I64 stacks],.dptr [.dptr (Gr.cs s)],.dptr [I64 height]]):=by
 unfold Zr at h
 refine Hc [.tmp 6] Try.func42 O O (Jr fun a=>(JLh (.ptr 1052 0) (Qo (cs:=[.dptr (Gr.cs s)]) 1052 O O O O O) O (JLh (.ptr 1053 0) (Qo (cs:=[I64 stacks]) 1053 O O O O O) O (JLh (.ptr 1054 0) (Qo (cs:=[I64 height]) 1054 O O O O O) O (JLm (.sc .nilFunc) O (G6 (a (H5 [(3,.dptr [.dptr (Gr.cs s)]),(4,.ptr 1053 0),(5,.ptr 1054 0)] [(1053,.box 3 [I64 stacks]),(1054,.box 3 [I64 height])] 1052 rfl rfl rfl ⟨⟨_,rfl,.boxEq rfl rfl⟩,⟨_,rfl,.boxEq rfl rfl⟩,ø⟩ rfl (by exact⟨.ptr,.conv (.same rfl),.conv (.same rfl),ø⟩) (H5 [(3,.dptr [.dptr (Gr.cs s)]),(4,.dptr [I64 stacks]),(5,.ptr 1054 0)] [(1054,.box 3 [I64 height])] 1053 rfl rfl rfl ⟨⟨_,rfl,.boxEq rfl rfl⟩,ø⟩ rfl (by exact⟨.conv (.same rfl),.ptr,.conv (.same rfl),ø⟩) ?_)))))))))
 refine H5 [(3,.dptr [.dptr (Gr.cs s)]),(4,.dptr [I64 stacks]),(5,.dptr [I64 height])] [] 1054 rfl rfl rfl ø rfl (by exact⟨.conv (.same rfl),.conv (.same rfl),.ptr,ø⟩) (Jr fun b=>(JLh (.fn 74 (Ec stacks s height)) (J59 (cs:=(Ec stacks s height)) O O) O (JLm (.fn 74 (Ec stacks s height)) O (G6 (b (H1 (⟨[.fn 74 (Ec stacks s height)],[],ø,O,⟨⟨_,O,.conv (.same O)⟩,ø⟩,O,congrArg (fun _:Unit=>(.fn 74 (Ec stacks s height):AV)) (Ex h)⟩)))))))
end
end Go.Proofs.Ytokjlondbjdlfaa
