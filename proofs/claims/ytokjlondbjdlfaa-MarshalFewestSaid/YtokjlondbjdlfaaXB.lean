/- Walks of functions. -/
import Derived.Test.YtokjlondbjdlfaaSpecY
set_option maxRecDepth 100000
set_option maxHeartbeats 1000000
set_option linter.unusedVariables false
set_option linter.unusedSimpArgs false
namespace Go.Proofs.Ytokjlondbjdlfaa
open Go.RowKit
noncomputable section

namespace XBF
open XAF
theorem G68:Gcc E8 77 24=true:=by kernel_rfl
theorem G8b:H7b E8 75 6 1=true:=by kernel_rfl
theorem G67:H7b E8 77 4 6=true:=by kernel_rfl
theorem H83:Hr E8 73=true:=by kernel_rfl
theorem G1f:placesOf E8 39=some [(0,1),(1,1)]:=by kernel_rfl
theorem Geb:Qs E8 126=true:=by kernel_rfl
theorem Ga1:Qs E8 5=true:=by kernel_rfl
theorem Hd6:Y6 E8 5 1=true:=by kernel_rfl
theorem H80:Y6 E8 77 24=true:=by kernel_rfl
theorem G5d:(E8.info? 39).bind (fun i=>i.zero.map Value.cells)=some (List.toArray [E0,E0]):=by kernel_rfl
theorem H37:Qk E8 77 24=true:=by kernel_rfl
end XBF
open XAF
open XBF

def Qg (F:Nat) (s:Gu) (stack:Int):Option Int:=
 loop (fun b (a:Int)=>
  bnd (bif decide (a < 6) then Rw stack 3 else some 0) fun c=>
  bnd (bif decide (a < 6) then Rw a 5 else some 0) fun d=>
  bif ((decide (a < 6))&&(decide (0 < (s.g (c*6+d*1))))) then
  (chk (a+1) fun e=>
   b e)
  else
  (some a)) F 0
theorem G23 (F:Nat) (s:Gu) (stack:Int) (r:Int) (h:Qg F s stack=some r):Pure E8 73 [.dptr (Gu.cs s),I64 stack] (·=I64 r):=by
 unfold Qg at h
 refine He [.tmp 4] Try.func73 O O (Jr fun q=>(JLm (I64 0) O (G6 (q (Jr fun t=>(JLm (I64 0) O (G6 (t (Js fun u=>Gg ?_)))))))))
 obtain⟨v,j,h⟩:=G31 h
 refine H9 (fun b (a:Int)=>loop v b a=some r) (fun b a=>[(0,.dptr (Gu.cs s)),(1,I64 stack),(5,I64 a)]) (fun b a=>[]) (fun b=>b) F 0 h ⟨(.sm O O),ø,O⟩ ?_
 clear h
 intro b a k z w
 obtain⟨x,y,hm_12,l,h⟩:=G09 k
 replace h:=Hc8 j h
 refine Js fun m=>Jr fun n=>(JLm (I64 a) O (JLh (BL (decide (a < 6))) (J1 O O O) O (JLm (BL (decide (a < 6))) O (JLo (.dptr (Gu.cs s)) [] O .sct ø (fun hc=>G2 O O) O (JLo (I64 stack) [] O .sct ø (fun hc=>G2 O O) O (JLo (I64 a) [] O .sct ø (fun hc=>G2 O O) O (JLo (.dptr (Gu.cs s)) [9] O .sct ⟨Ua,ø⟩ (fun hc=>H57 O O) O ?_)))))))
 obtain⟨c,d,h⟩:=Gd h
 refine JLo (.dptr ((Gu.cs s).drop (c*6))) [10,12] O .sct ⟨Ua,Ua,ø⟩ (fun hc=>Hf1 G67 O O O (Hc (H3 hc d)).1 (Nat.succ_le_succ (Hc (H3 hc d)).2)) O ?_
 obtain⟨f,e,h⟩:=Gd h
 refine JLo (.dptr (((Gu.cs s).drop (c*6)).drop (f*1))) [11,13] O .sct ⟨Ua,Ua,ø⟩ (fun hc=>Hf1 G8b O O O (Hc (H3 hc e)).1 (Nat.succ_le_succ (Hc (H3 hc e)).2)) O (JLo (U8 (s.g (c*6+f*1))) [14] O .sct ⟨Ua,ø⟩ (fun hc=>Hf0 Ga1 O O (Gu.Q6e s (Hc (H3 hc d)).2 (Hc (H3 hc e)).2)) O (JLo (BL (decide (0 < (s.g (c*6+f*1))))) [15] O .sct ⟨Ua,ø⟩ (fun hc=>Yp O O O) O (JLh (BL ((decide (a < 6))&&(decide (0 < (s.g (c*6+f*1)))))) (R9 O O O O) O (G6 (n (JCc O h (fun h hb=>?_) (fun h hb=>?_)))))))
 ·
  refine Gi (m (Gg (G1 (JLm (I64 a) O ?_))))
  obtain⟨i,o,h⟩:=Jb h
  refine JLh (I64 i) (J0 o O O O) O (JLm (I64 i) O (G6 (w _ _ x i (app1 l h) (by omega) ⟨(.sm O O),ø,rfl⟩)))
 ·
  refine Hd (u (Jr fun p=>(JLm (I64 a) O (JLm (I64 a) O (G6 (p (H0 (fin1 I64 h))))))))

def Ri (F:Nat) (s:Gu) (stacks:Int) (ranks:List Int):Option Bool:=
 need (decide (stacks≤9223372036854775807)) <|
 upto (fun b (o:Unit) d=>
  loop (fun c (a:Int)=>
   bnd (Qg F s (b:Int)) fun e=>
   bif decide (a < e) then
   (bnd (Rw (b:Int) 3) fun f=>
    bnd (Rw a 5) fun h=>
    R5 ranks (s.g (f*6+h*1)) fun i=>
    chk (a - 1) fun j=>
    bnd (Rw (b:Int) 3) fun k=>
    bnd (Rw j 5) fun l=>
    R5 ranks (s.g (k*6+l*1)) fun m=>
    bif decide (m < i) then
    (some false)
    else
    (chk (a+1) fun n=>
     c n))
   else
   (d ())) F 1)
 (fun(o:Unit)=>
  some true) stacks.toNat 0 ()
theorem Gf6 (F:Nat) (s:Gu) (stacks:Int) (ranks:List Int) (r:Bool) (h:Ri F s stacks ranks=some r):Pure E8 41 [.dptr (Gu.cs s),I64 stacks,E1 ranks] (·=BL r):=by
 unfold Ri at h
 refine He [.tmp 6] Try.func41 O O (Jr fun b6=>(JLm (BL false) O (G6 (b6 (Js fun b7=>Jr fun b8=>(JLm (I64 stacks) O (JLm (I64 0) O (G6 (b8 (Gg ?_))))))))))
 obtain⟨b9,h⟩:=J2 h
 obtain⟨b4,c0,c1,x,h⟩:=Gdc h
 refine H9 (fun a (q:Unit)=>upto b4 c0 (stacks.toNat - a) a q=some r) (fun a q=>[(0,.dptr (Gu.cs s)),(2,E1 ranks),(9,I64 stacks),(10,E7 a)]) (fun a q=>[]) (fun a=>stacks.toNat - a) 0 () h ⟨(.sm O O),ø,rfl⟩ ?_
 clear h
 intro a q t K4 e4
 refine Jr fun c2=>(JLh (BL (decide ((a:Int) < stacks))) (J1 O O O) O (G6 (c2 (Js fun c3=>Gh O (fun hb=>?_) (fun hb=>?_)))))
 ·
  have u:=Ga5 hb
  obtain⟨d5,c4,h⟩:=G9d t u
  replace h:=Q0d c1 h
  refine Gi (c3 (Js fun c5=>Gg (Jr fun c6=>(JLm (E7 a) O (JLm (E7 a) O (G6 (c6 (Jr fun c7=>(JLm (I64 1) O (G6 (c7 (Gg ?_))))))))))))
  obtain⟨c8,z,h⟩:=G31 h
  refine H9 (fun c (b:Int)=>loop c8 c b=some r) (fun c b=>[(0,.dptr (Gu.cs s)),(2,E1 ranks),(7,E7 a),(8,I64 b),(9,I64 stacks),(10,E7 a)]) (fun c b=>[]) (fun c=>c) F 1 h ⟨(.sm O O),ø,rfl⟩ ?_
  clear h
  intro c b a0 d6 c9
  obtain⟨d0,d4,hm_39,a1,h⟩:=G09 a0
  replace h:=Hc8 z h
  refine Js fun a2=>Jr fun a3=>(JLm (I64 b) O (JLm (.dptr (Gu.cs s)) O (JLm (E7 a) O ?_)))
  obtain⟨m,a4,h⟩:=Gd h
  refine JLh (I64 m) (Gt O (G23 F s (a:Int) m a4) H83 ⟨O,O,O,O,ø⟩) O (JLh (BL (decide (b < m))) (J1 O O O) O (G6 (a3 (JCc O h (fun h hb=>?_) (fun h hb=>?_)))))
  ·
   refine Gi (a2 (Js fun a5=>Gg (Js fun a6=>?_)))
   obtain⟨n,d,h⟩:=Gd h
   obtain⟨v,e,h⟩:=Gd h
   obtain⟨d7,k,a7,a8,h⟩:=R7 h
   obtain⟨d1,a9,h⟩:=Jb h
   obtain⟨o,i,h⟩:=Gd h
   obtain⟨w,j,h⟩:=Gd h
   obtain⟨d8,l,b0,b1,h⟩:=R7 h
   refine JC_d0 Jp (by kernel_rfl) (Dq (E1 ranks) (G2 O O) O (Dq (.dptr (Gu.cs s)) (G2 O O) O (Dq (E7 a) (G2 O O) O (Dq (I64 b) (G2 O O) O (Dq (.dptr (Gu.cs s)) (H57 O O) O (Dq (.dptr ((Gu.cs s).drop (n*6))) (Hf1 G67 O O O (Hc d).1 (Nat.succ_le_succ (Hc d).2)) O (Dq (.dptr (((Gu.cs s).drop (n*6)).drop (v*1))) (Hf1 G8b O O O (Hc e).1 (Nat.succ_le_succ (Hc e).2)) O (Dq (U8 (s.g (n*6+v*1))) (Hf0 Ga1 O O (Gu.Q6e s (Hc d).2 (Hc e).2)) O (Dq (.dptr [I64 k]) (H1 (f:=I64) (xs:=ranks) (y:=k) O O O G7 a8 a7) O (Dq (I64 k) (Gp Gn O O O) O (Dq (E1 ranks) (G2 O O) O (Dq (.dptr (Gu.cs s)) (G2 O O) O (Dq (E7 a) (G2 O O) O ?_)))))))))))))
   refine Dq (I64 b) (G2 O O) O (Dq (I64 d1) (Zt a9 O O O) O (Dq (.dptr (Gu.cs s)) (H57 O O) O (Dq (.dptr ((Gu.cs s).drop (o*6))) (Hf1 G67 O O O (Hc i).1 (Nat.succ_le_succ (Hc i).2)) O (Dq (.dptr (((Gu.cs s).drop (o*6)).drop (w*1))) (Hf1 G8b O O O (Hc j).1 (Nat.succ_le_succ (Hc j).2)) O (Dq (U8 (s.g (o*6+w*1))) (Hf0 Ga1 O O (Gu.Q6e s (Hc i).2 (Hc j).2)) O (Dq (.dptr [I64 l]) (H1 (f:=I64) (xs:=ranks) (y:=l) O O O G7 b1 b0) O (Dq (I64 l) (Gp Gn O O O) O (Dq (BL (decide (l < k))) (Yp O O O) O (Dnil (a6 (JCc O h (fun h hb=>?_) (fun h hb=>?_))))))))))))
   ·
    refine Jr fun b2=>(JLm (BL false) O (G6 (b2 (H0 (fin1 BL h)))))
   ·
    refine Gi (a5 (G1 (JLm (I64 b) O ?_)))
    obtain⟨p,b3,h⟩:=Jb h
    refine JLh (I64 p) (J0 b3 O O O) O (JLm (I64 p) O (G6 (c9 _ _ d0 p (app1 a1 h) (by omega) ⟨(.sm O O),ø,rfl⟩)))
  ·
   refine Hd (c5 (G1 (JLh (I64 ((a+1:Nat):Int)) (J0 (Hk u (G66 b9)) O O O) O (JLm (I64 ((a+1:Nat):Int)) O (G6 (e4 _ _ (a+1) () (app1 c4 h) (by omega) ⟨(.sm O O),ø,rfl⟩))))))
 ·
  have h:=app1 x (G9e t (G06 hb))
  refine Hd (b7 (Jr fun b5=>(JLm (BL true) O (G6 (b5 (H0 (fin1 BL h)))))))

def Zc (F:Nat) (f:Int) (h:Gu) (v:Int) (ys_:List (G3×Gu)):Option Unit:=
 need (decide (f≤9223372036854775807)) <|
 upto (fun c (j:Nat) l=>
  need (decide (f≤9223372036854775807)) <|
  upto (fun b (a:Nat) k=>
   jp (fun d=>
    bnd (Qg F h (c:Int)) fun e=>
    bnd (Qg F h (b:Int)) fun i=>
    bif (((decide ((c:Int)=(b:Int)))||(decide (e=0)))||(decide (i=v))) then
    (d a)
    else
    (chk (e - 1) fun m=>
     chk (e - 1) fun n=>
     bnd (Rw (c:Int) 3) fun o=>
     bnd (Rw n 5) fun p=>
     bnd (Rw (b:Int) 3) fun q=>
     bnd (Rw i 5) fun r=>
     bnd (Rw (c:Int) 3) fun s=>
     bnd (Rw m 5) fun t=>
     need (decide (ys_[a]? = some ((G3.mk (c:Int) (b:Int)),((h.set (q*6+r*1) (h.g (o*6+p*1))).set (s*6+t*1) 0)))) <|
     d (a+1))) fun(u:Nat)=>
   k u)
  (fun(a:Nat)=>
   l a) f.toNat 0 j)
 (fun(j:Nat)=>
  need (decide (j=ys_.length)) (some ())) f.toNat 0 0
abbrev Eb (a:Gu):List AV:=[U8 (a.g 0),U8 (a.g 1),U8 (a.g 2),U8 (a.g 3),U8 (a.g 4),U8 (a.g 5),U8 (a.g 6),U8 (a.g 7),U8 (a.g 8),U8 (a.g 9),U8 (a.g 10),U8 (a.g 11),U8 (a.g 12),U8 (a.g 13),U8 (a.g 14),U8 (a.g 15),U8 (a.g 16),U8 (a.g 17),U8 (a.g 18),U8 (a.g 19),U8 (a.g 20),U8 (a.g 21),U8 (a.g 22),U8 (a.g 23)]
theorem Gda (F:Nat) (n:Int) (a:Gu) (t:Int) (ys_:List (G3×Gu)) (q_:Unit) (h:Zc F n a t ys_=some q_):Iter E8 74 [.dptr [I64 n],.dptr [.dptr (Gu.cs a)],.dptr [I64 t]] (ys_.map (fun y:G3×Gu=>[.agg [I64 y.1.From,I64 y.1.To],.agg (Gu.cs y.2)])):=by
 unfold Zc at h
 refine R66 Try.func74 O O ?_
 intro E hE hys
 refine G4d (fun K1 d0=>G1b (Y0 (u:=I64 n) hE (Gp Gn O O O) ?_ O O O O))
 refine Y0 (u:=I64 0) hE (G2 O O) ?_ O O O O
 refine G84 ?_
 refine d0 _ _ _ (Hcc ?_)
 obtain⟨d1,h⟩:=J2 h
 obtain⟨b2,d2,d3,b0,h⟩:=Gdc h
 refine Q14 (fun m (s2:Nat)=>upto b2 d2 (n.toNat - m) m s2=some q_) (fun m s2=>[(0,.sc (.func (.yield E.lp) #[] #[])),(1,.dptr [I64 n]),(2,.dptr [.dptr (Gu.cs a)]),(3,.dptr [I64 t]),(10,I64 n),(11,E7 m)]) (fun m s2=>[]) (fun m s2=>s2) (fun m=>n.toNat - m) 0 0 h ⟨(.sm O O),ø,rfl⟩ rfl ?_
 clear h
 intro m s2 a8 K2 e2
 refine G4d (fun K3 d4=>G1b (Y0 (u:=BL (decide ((m:Int) < n))) hE (J1 O O O) ?_ O O O O))
 refine G84 ?_
 refine d4 _ _ _ (G4d (fun K4 d5=>Hcb O (fun hb=>?_) (fun hb=>?_)))
 ·
  have a9:=Ga5 hb
  obtain⟨e8,d6,h⟩:=G9d a8 a9
  replace h:=Q0d d3 h
  refine J1e (d5 _ _ _ (G4d (fun K5 d7=>Hcc (G4d (fun K6 d8=>G1b (Y0 (u:=E7 m) hE (G2 O O) ?_ O O O O))))))
  refine Y0 (u:=E7 m) hE (G5 O O) ?_ O O O O
  refine G84 ?_
  refine d8 _ _ _ (G4d (fun K7 d9=>G1b (Y0 (u:=I64 n) hE (Gp Gn O O O) ?_ O O O O)))
  refine Y0 (u:=I64 0) hE (G2 O O) ?_ O O O O
  refine G84 ?_
  refine d9 _ _ _ (Hcc ?_)
  obtain⟨b1,h⟩:=J2 h
  obtain⟨e0,b3,b4,a6,h⟩:=Gdc h
  refine Q14 (fun j (p:Nat)=>upto e0 b3 (n.toNat - j) j p=some q_) (fun j p=>[(0,.sc (.func (.yield E.lp) #[] #[])),(1,.dptr [I64 n]),(2,.dptr [.dptr (Gu.cs a)]),(3,.dptr [I64 t]),(5,E7 m),(10,I64 n),(11,E7 m),(14,I64 n),(15,E7 j)]) (fun j p=>[]) (fun j p=>p) (fun j=>n.toNat - j) 0 s2 h ⟨(.sm O O),ø,rfl⟩ rfl ?_
  clear h
  intro j p a3 e9 e1
  refine G4d (fun f0 b5=>G1b (Y0 (u:=BL (decide ((j:Int) < n))) hE (J1 O O O) ?_ O O O O))
  refine G84 ?_
  refine b5 _ _ _ (G4d (fun f1 b6=>Hcb O (fun hb=>?_) (fun hb=>?_)))
  ·
   have a4:=Ga5 hb
   obtain⟨e7,b7,h⟩:=G9d a3 a4
   replace h:=Q0d b4 h
   refine J1e (b6 _ _ _ ?_)
   obtain⟨b8,a7,h⟩:=G13 h
   refine R61 (fun s:Nat=>b8 s=some q_) (fun s=>[(0,.sc (.func (.yield E.lp) #[] #[])),(1,.dptr [I64 n]),(2,.dptr [.dptr (Gu.cs a)]),(3,.dptr [I64 t]),(5,E7 m),(10,I64 n),(11,E7 m),(14,I64 n),(15,E7 j)]) (fun s=>[]) (fun s=>s) (fun Kj53 ej53=>?_) ?_
   ·
    refine Hcc (G4d (fun f2 b9=>G1b (Y0 (u:=E7 j) hE (G2 O O) ?_ O O O O)))
    refine Y0 (u:=E7 j) hE (G5 O O) ?_ O O O O
    refine G84 ?_
    refine b9 _ _ _ (G4d (fun f3 c0=>?_))
    obtain⟨o,c1,h⟩:=Gd h
    obtain⟨q,c2,h⟩:=Gd h
    refine Qab [] [0,0,0,0,0,0,0,0] [0,0,0,0,0,0,0,0] [[]] hE Jp (by kernel_rfl) rfl rfl (Ge (u:=.dptr (Gu.cs a)) O O ⟨Gc (Gp Geb O O O) O,ø⟩ (Ge (u:=E7 m) O O ⟨Gc (G2 O O) O,ø⟩ (Ge (u:=I64 o) O O ⟨Gc (Gt O (G23 F a (m:Int) o c1) H83 ⟨O,O,O,O,ø⟩) O,ø⟩ (Ge (u:=.dptr (Gu.cs a)) O O ⟨Gc (Gp Geb O O O) O,ø⟩ (Ge (u:=E7 j) O O ⟨Gc (G2 O O) O,ø⟩ (Ge (u:=I64 q) O O ⟨Gc (Gt O (G23 F a (j:Int) q c2) H83 ⟨O,O,O,O,ø⟩) O,ø⟩ (Ge (u:=I64 o) O O ⟨Gc (G5 O O) O,ø⟩ (Ge (u:=I64 q) O O ⟨Gc (G5 O O) O,ø⟩ (Ya (c0 _ _ _ (G4d (fun f4 c3=>G4d (fun f5 c4=>G1b ?_)))))))))))))
    refine Y0 (u:=E7 m) hE (G2 O O) ?_ O O O O
    refine Y0 (u:=E7 j) hE (G2 O O) ?_ O O O O
    refine Y0 (u:=BL (decide ((m:Int)=(j:Int)))) hE (Qy O O O) ?_ O O O O
    refine Y0 (u:=BL (decide ((m:Int)=(j:Int)))) hE (G2 O O) ?_ O O O O
    refine Hcd (u:=I64 o) [] hE O O O .scf ø (fun hc=>G2 O O) ?_ O O O
    refine Hcd (u:=BL (decide (o=0))) [(28,I64 o)] hE O O O .scf ⟨.all id,ø⟩ (fun hc=>Qy O O O) ?_ O O O
    refine Y0 (u:=BL ((decide ((m:Int)=(j:Int)))||(decide (o=0)))) hE (Yn O O O O) ?_ O O O O
    refine Y0 (u:=BL ((decide ((m:Int)=(j:Int)))||(decide (o=0)))) hE (G2 O O) ?_ O O O O
    refine Hcd (u:=I64 q) [] hE O O O .scf ø (fun hc=>G2 O O) ?_ O O O
    refine Hcd (u:=I64 t) [] hE O O O .scf ø (fun hc=>Gp Gn O O O) ?_ O O O
    refine Hcd (u:=BL (decide (q=t))) [(32,I64 q),(33,I64 t)] hE O O O .scf ⟨.all id,.all id,ø⟩ (fun hc=>Qy O O O) ?_ O O O
    refine Y0 (u:=BL (((decide ((m:Int)=(j:Int)))||(decide (o=0)))||(decide (q=t)))) hE (Yn O O O O) ?_ O O O O
    refine G84 ?_
    refine c4 _ _ _ (Hcb O (fun hb=>?_) (fun hb=>?_))
    ·
     replace h:=H3 hb h
     refine Jcd (ej53 _ _ _ p h ⟨(.sm O O),ø,rfl⟩ rfl)
    ·
     replace h:=Hq hb h
     refine J1e (c3 _ _ _ (G4d (fun f6 c5=>G1b (Y0 (u:=.dptr (Gu.cs a)) hE (Gp Geb O O O) ?_ O O O O))))
     refine Y0 (u:=.dptr (Gu.cs a)) hE (H57 O O) ?_ O O O O
     refine Y0 (u:=.agg (Gu.cs a)) hE (Gr G68 O O O) ?_ O O O O
     refine Y0 (u:=.ptr 1091 0) hE (Ja 1091 24 H37 O O) ?_ O O O O
     refine R64 (u:=.junk) hE (Ho (u:=.agg (Gu.cs a)) (ds:=(Eb a)) H80 O O O O O O O O) ?_ O O O
     refine G84 ?_
     refine c5 _ _ _ (G4d (fun f7 c6=>Qaa (l':=[(0,.sc (.func (.yield E.lp) #[] #[])),(1,.dptr [I64 n]),(2,.dptr [.dptr (Gu.cs a)]),(3,.dptr [I64 t]),(5,E7 m),(6,E7 j),(7,I64 o),(8,I64 q),(9,.ptr 1091 0),(10,I64 n),(11,E7 m),(14,I64 n),(15,E7 j)]) (L':=[(1091,.box 77 (Eb a))]) ⟨(.sm O O),⟨fbQ O (.sm O O),ø⟩,rfl⟩ ?_))
     obtain⟨e3,a5,h⟩:=Jb h
     obtain⟨e4,c7,h⟩:=Jb h
     obtain⟨c,a1,h⟩:=Gd h
     obtain⟨d,a2,h⟩:=Gd h
     obtain⟨e,v,h⟩:=Gd h
     obtain⟨i,w,h⟩:=Gd h
     obtain⟨k,r,h⟩:=Gd h
     obtain⟨l,z,h⟩:=Gd h
     refine Qab [13,16] [0,0,0,0,0,0,0,0,0,0,0,0,0,0,0,1,0] [0,0,1,1,1,0,0,0,0,0,0,0,0,0,1,1,0] [[(1091,.box 77 (Eb a))],((1091,.box 77 [U8 ((a.set (e*6+i*1) (a.g (c*6+d*1))).g 0),U8 ((a.set (e*6+i*1) (a.g (c*6+d*1))).g 1),U8 ((a.set (e*6+i*1) (a.g (c*6+d*1))).g 2),U8 ((a.set (e*6+i*1) (a.g (c*6+d*1))).g 3),U8 ((a.set (e*6+i*1) (a.g (c*6+d*1))).g 4),U8 ((a.set (e*6+i*1) (a.g (c*6+d*1))).g 5),U8 ((a.set (e*6+i*1) (a.g (c*6+d*1))).g 6),U8 ((a.set (e*6+i*1) (a.g (c*6+d*1))).g 7),U8 ((a.set (e*6+i*1) (a.g (c*6+d*1))).g 8),U8 ((a.set (e*6+i*1) (a.g (c*6+d*1))).g 9),U8 ((a.set (e*6+i*1) (a.g (c*6+d*1))).g 10),U8 ((a.set (e*6+i*1) (a.g (c*6+d*1))).g 11),U8 ((a.set (e*6+i*1) (a.g (c*6+d*1))).g 12),U8 ((a.set (e*6+i*1) (a.g (c*6+d*1))).g 13),U8 ((a.set (e*6+i*1) (a.g (c*6+d*1))).g 14),U8 ((a.set (e*6+i*1) (a.g (c*6+d*1))).g 15),U8 ((a.set (e*6+i*1) (a.g (c*6+d*1))).g 16),U8 ((a.set (e*6+i*1) (a.g (c*6+d*1))).g 17),U8 ((a.set (e*6+i*1) (a.g (c*6+d*1))).g 18),U8 ((a.set (e*6+i*1) (a.g (c*6+d*1))).g 19),U8 ((a.set (e*6+i*1) (a.g (c*6+d*1))).g 20),U8 ((a.set (e*6+i*1) (a.g (c*6+d*1))).g 21),U8 ((a.set (e*6+i*1) (a.g (c*6+d*1))).g 22),U8 ((a.set (e*6+i*1) (a.g (c*6+d*1))).g 23)])::[(1091,.box 77 (Eb a))]),((1091,.box 77 [U8 (((a.set (e*6+i*1) (a.g (c*6+d*1))).set (k*6+l*1) 0).g 0),U8 (((a.set (e*6+i*1) (a.g (c*6+d*1))).set (k*6+l*1) 0).g 1),U8 (((a.set (e*6+i*1) (a.g (c*6+d*1))).set (k*6+l*1) 0).g 2),U8 (((a.set (e*6+i*1) (a.g (c*6+d*1))).set (k*6+l*1) 0).g 3),U8 (((a.set (e*6+i*1) (a.g (c*6+d*1))).set (k*6+l*1) 0).g 4),U8 (((a.set (e*6+i*1) (a.g (c*6+d*1))).set (k*6+l*1) 0).g 5),U8 (((a.set (e*6+i*1) (a.g (c*6+d*1))).set (k*6+l*1) 0).g 6),U8 (((a.set (e*6+i*1) (a.g (c*6+d*1))).set (k*6+l*1) 0).g 7),U8 (((a.set (e*6+i*1) (a.g (c*6+d*1))).set (k*6+l*1) 0).g 8),U8 (((a.set (e*6+i*1) (a.g (c*6+d*1))).set (k*6+l*1) 0).g 9),U8 (((a.set (e*6+i*1) (a.g (c*6+d*1))).set (k*6+l*1) 0).g 10),U8 (((a.set (e*6+i*1) (a.g (c*6+d*1))).set (k*6+l*1) 0).g 11),U8 (((a.set (e*6+i*1) (a.g (c*6+d*1))).set (k*6+l*1) 0).g 12),U8 (((a.set (e*6+i*1) (a.g (c*6+d*1))).set (k*6+l*1) 0).g 13),U8 (((a.set (e*6+i*1) (a.g (c*6+d*1))).set (k*6+l*1) 0).g 14),U8 (((a.set (e*6+i*1) (a.g (c*6+d*1))).set (k*6+l*1) 0).g 15),U8 (((a.set (e*6+i*1) (a.g (c*6+d*1))).set (k*6+l*1) 0).g 16),U8 (((a.set (e*6+i*1) (a.g (c*6+d*1))).set (k*6+l*1) 0).g 17),U8 (((a.set (e*6+i*1) (a.g (c*6+d*1))).set (k*6+l*1) 0).g 18),U8 (((a.set (e*6+i*1) (a.g (c*6+d*1))).set (k*6+l*1) 0).g 19),U8 (((a.set (e*6+i*1) (a.g (c*6+d*1))).set (k*6+l*1) 0).g 20),U8 (((a.set (e*6+i*1) (a.g (c*6+d*1))).set (k*6+l*1) 0).g 21),U8 (((a.set (e*6+i*1) (a.g (c*6+d*1))).set (k*6+l*1) 0).g 22),U8 (((a.set (e*6+i*1) (a.g (c*6+d*1))).set (k*6+l*1) 0).g 23)])::((1091,.box 77 [U8 ((a.set (e*6+i*1) (a.g (c*6+d*1))).g 0),U8 ((a.set (e*6+i*1) (a.g (c*6+d*1))).g 1),U8 ((a.set (e*6+i*1) (a.g (c*6+d*1))).g 2),U8 ((a.set (e*6+i*1) (a.g (c*6+d*1))).g 3),U8 ((a.set (e*6+i*1) (a.g (c*6+d*1))).g 4),U8 ((a.set (e*6+i*1) (a.g (c*6+d*1))).g 5),U8 ((a.set (e*6+i*1) (a.g (c*6+d*1))).g 6),U8 ((a.set (e*6+i*1) (a.g (c*6+d*1))).g 7),U8 ((a.set (e*6+i*1) (a.g (c*6+d*1))).g 8),U8 ((a.set (e*6+i*1) (a.g (c*6+d*1))).g 9),U8 ((a.set (e*6+i*1) (a.g (c*6+d*1))).g 10),U8 ((a.set (e*6+i*1) (a.g (c*6+d*1))).g 11),U8 ((a.set (e*6+i*1) (a.g (c*6+d*1))).g 12),U8 ((a.set (e*6+i*1) (a.g (c*6+d*1))).g 13),U8 ((a.set (e*6+i*1) (a.g (c*6+d*1))).g 14),U8 ((a.set (e*6+i*1) (a.g (c*6+d*1))).g 15),U8 ((a.set (e*6+i*1) (a.g (c*6+d*1))).g 16),U8 ((a.set (e*6+i*1) (a.g (c*6+d*1))).g 17),U8 ((a.set (e*6+i*1) (a.g (c*6+d*1))).g 18),U8 ((a.set (e*6+i*1) (a.g (c*6+d*1))).g 19),U8 ((a.set (e*6+i*1) (a.g (c*6+d*1))).g 20),U8 ((a.set (e*6+i*1) (a.g (c*6+d*1))).g 21),U8 ((a.set (e*6+i*1) (a.g (c*6+d*1))).g 22),U8 ((a.set (e*6+i*1) (a.g (c*6+d*1))).g 23)])::[(1091,.box 77 (Eb a))]))] hE Jp (by kernel_rfl) rfl rfl ?_
     refine Ge (u:=E7 j) O O ⟨Gc (G2 O O) O,ø⟩ (Ge (u:=I64 q) O O ⟨Gc (G2 O O) O,ø⟩ (Ge (u:=E7 m) O O ⟨Gc (G2 O O) O,Gc (G2 O O) O,ø⟩ (Ge (u:=I64 o) O O ⟨Gc (G2 O O) O,Gc (G2 O O) O,ø⟩ (Ge (u:=I64 e3) O O ⟨Gc (Zt a5 O O O) O,Gc (Zt a5 O O O) O,ø⟩ (Ge (u:=E7 m) O O ⟨Gc (G2 O O) O,ø⟩ (Ge (u:=I64 o) O O ⟨Gc (G2 O O) O,ø⟩ (Ge (u:=I64 e4) O O ⟨Gc (Zt c7 O O O) O,ø⟩ (Ge (u:=.ptr 1091 (0+c*6)) O O ⟨Gc (H29 G67 O O O (Hc a1).1 (Nat.succ_le_succ (Hc a1).2)) O,ø⟩ (Ge (u:=.ptr 1091 ((0+c*6)+d*1)) O O ⟨Gc (H29 G8b O O O (Hc a2).1 (Nat.succ_le_succ (Hc a2).2)) O,ø⟩ (Ge (u:=U8 (a.g (c*6+d*1))) O O ⟨Gc (J77 Ga1 O O O (Gu.Rf6 a (Hc a1).2 (Hc a2).2)) O,ø⟩ (Ge (u:=.ptr 1091 (0+e*6)) O O ⟨Gc (H29 G67 O O O (Hc v).1 (Nat.succ_le_succ (Hc v).2)) O,ø⟩ (Ge (u:=.ptr 1091 ((0+e*6)+i*1)) O O ⟨Gc (H29 G8b O O O (Hc w).1 (Nat.succ_le_succ (Hc w).2)) O,ø⟩ (H54 (u:=.junk) O O O O (Gc (H73 (u:=U8 (a.g (c*6+d*1))) Hd6 O O O O O O (Gu.R07 (Hc v).2 (Hc w).2) (Gu.Q6d a (Hc v).2 (Hc w).2 (a.g (c*6+d*1)))) O) ?_)))))))))))))
     refine Ge (u:=.ptr 1091 (0+k*6)) O O ⟨Gc (H29 G67 O O O (Hc r).1 (Nat.succ_le_succ (Hc r).2)) O,Gc (H29 G67 O O O (Hc r).1 (Nat.succ_le_succ (Hc r).2)) O,ø⟩ (Ge (u:=.ptr 1091 ((0+k*6)+l*1)) O O ⟨Gc (H29 G8b O O O (Hc z).1 (Nat.succ_le_succ (Hc z).2)) O,ø⟩ (H54 (u:=.junk) O O O O (Gc (H73 (u:=U8 0) Hd6 O O O O O O (Gu.R07 (Hc r).2 (Hc z).2) (Gu.Q6d (a.set (e*6+i*1) (a.g (c*6+d*1))) (Hc r).2 (Hc z).2 0)) O) (Ya (c6 _ _ _ (G4d (fun f8 c8=>G1b (Y0 (u:=.sc (.func (.yield E.lp) #[] #[])) hE (G2 O O) ?_ O O O O)))))))
     refine Y0 (u:=E7 m) hE (G2 O O) ?_ O O O O
     refine Y0 (u:=E7 j) hE (G2 O O) ?_ O O O O
     refine Y0 (u:=.agg [E7 m,E7 j]) hE (Jn (cs:=[E7 m,E7 j]) [(0,1),(1,1)] [I64 0,I64 0] [E0,E0] G1f G5d (zzQ O) O O) ?_ O O O O
     refine Y0 (u:=.agg (Gu.cs ((a.set (e*6+i*1) (a.g (c*6+d*1))).set (k*6+l*1) 0))) hE (Jf G68 O O O O) ?_ O O O O
     obtain⟨c9,h⟩:=J2 h
     refine Qdd (us:=[.agg [E7 m,E7 j],.agg (Gu.cs ((a.set (e*6+i*1) (a.g (c*6+d*1))).set (k*6+l*1) 0))]) hE O O ⟨O,O,O,O,ø⟩ (Qe9 (f:=(fun y:G3×Gu=>[.agg [I64 y.1.From,I64 y.1.To],.agg (Gu.cs y.2)])) (x:=((G3.mk (m:Int) (j:Int)),((a.set (e*6+i*1) (a.g (c*6+d*1))).set (k*6+l*1) 0))) hys c9) ?_ O O O
     refine Y0 (u:=BL false) hE (Yx (b:=true) O O) ?_ O O O O
     refine G84 ?_
     refine c8 _ _ _ (R22 O (J1e (ej53 _ _ _ (p+1) h ⟨(.sm O O),ø,rfl⟩ rfl)))
   ·intro s h
    replace h:=app1 a7 h
    refine G1b (Y0 (u:=I64 ((j+1:Nat):Int)) hE (J0 (Hk a4 (G66 b1)) O O O) ?_ O O O O)
    refine Y0 (u:=I64 ((j+1:Nat):Int)) hE (G2 O O) ?_ O O O O
    refine G84 ?_
    exact e1 _ _ (j+1) s _ (app1 b7 h) (by omega) ⟨(.sm O O),ø,rfl⟩ rfl
  ·
   have h:=app1 a6 (G9e a3 (G06 hb))
   refine Jcd (d7 _ _ _ (G1b (Y0 (u:=I64 ((m+1:Nat):Int)) hE (J0 (Hk a9 (G66 d1)) O O O) ?_ O O O O)))
   refine Y0 (u:=I64 ((m+1:Nat):Int)) hE (G2 O O) ?_ O O O O
   refine G84 ?_
   exact e2 _ _ (m+1) p _ (app1 d6 h) (by omega) ⟨(.sm O O),ø,rfl⟩ rfl
 ·
  have h:=app1 b0 (G9e a8 (G06 hb))
  refine Jcd (R3e (J2 h).1)
theorem Gdb (S_:Nat→(Int)→(Gu)→(Int)→Option (List (G3×Gu))) (hS_:∀ F a b c r,S_ F a b c=some r→Zc F a b c r=some ()) (F:Nat) (a:Int) (b:Gu) (c:Int) (r:List (G3×Gu)) (h:S_ F a b c=some r):Iter E8 74 [.dptr [I64 a],.dptr [.dptr (Gu.cs b)],.dptr [I64 c]] (r.map (fun y:G3×Gu=>[.agg [I64 y.1.From,I64 y.1.To],.agg (Gu.cs y.2)])):=Gda F a b c r () (hS_ F a b c r h)

def Zy (s:Gu) (stacks:Int) (height:Int):Option Unit:=
 some ()
abbrev Ec (stacks:Int) (s:Gu) (height:Int):List AV:=[.dptr [I64 stacks],.dptr [.dptr (Gu.cs s)],.dptr [I64 height]]
theorem H02 (s:Gu) (stacks:Int) (height:Int) (r:Unit) (h:Zy s stacks height=some r):Pure E8 42 [.dptr (Gu.cs s),I64 stacks,I64 height] (·=.fn 74 [.dptr [I64 stacks],.dptr [.dptr (Gu.cs s)],.dptr [I64 height]]):=by
 unfold Zy at h
 refine He [.tmp 6] Try.func42 O O (Jr fun a=>(JLh (.ptr 1058 0) (Qr (cs:=[.dptr (Gu.cs s)]) 1058 O O O O O) O (JLh (.ptr 1059 0) (Qr (cs:=[I64 stacks]) 1059 O O O O O) O (JLh (.ptr 1060 0) (Qr (cs:=[I64 height]) 1060 O O O O O) O (JLm (.sc .nilFunc) O (G6 (a (H2 [(3,.dptr [.dptr (Gu.cs s)]),(4,.ptr 1059 0),(5,.ptr 1060 0)] [(1059,.box 3 [I64 stacks]),(1060,.box 3 [I64 height])] 1058 rfl rfl rfl ⟨⟨_,rfl,.boxEq rfl rfl⟩,⟨_,rfl,.boxEq rfl rfl⟩,ø⟩ rfl (by exact⟨.ptr,.conv (.same rfl),.conv (.same rfl),ø⟩) (H2 [(3,.dptr [.dptr (Gu.cs s)]),(4,.dptr [I64 stacks]),(5,.ptr 1060 0)] [(1060,.box 3 [I64 height])] 1059 rfl rfl rfl ⟨⟨_,rfl,.boxEq rfl rfl⟩,ø⟩ rfl (by exact⟨.conv (.same rfl),.ptr,.conv (.same rfl),ø⟩) ?_)))))))))
 refine H2 [(3,.dptr [.dptr (Gu.cs s)]),(4,.dptr [I64 stacks]),(5,.dptr [I64 height])] [] 1060 rfl rfl rfl ø rfl (by exact⟨.conv (.same rfl),.conv (.same rfl),.ptr,ø⟩) (Jr fun b=>(JLh (.fn 74 (Ec stacks s height)) (J74 (cs:=(Ec stacks s height)) O O) O (JLm (.fn 74 (Ec stacks s height)) O (G6 (b (H0 (⟨[.fn 74 (Ec stacks s height)],[],ø,O,⟨⟨_,O,.conv (.same O)⟩,ø⟩,O,congrArg (fun _:Unit=>(.fn 74 (Ec stacks s height):AV)) (Ex h)⟩)))))))
end
end Go.Proofs.Ytokjlondbjdlfaa
