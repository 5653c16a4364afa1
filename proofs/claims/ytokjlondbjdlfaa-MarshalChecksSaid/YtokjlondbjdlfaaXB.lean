/- Walks of functions. -/
import Derived.Test.YtokjlondbjdlfaaSpecY
set_option maxRecDepth 100000
set_option maxHeartbeats 1000000
set_option linter.unusedVariables false
set_option linter.unusedSimpArgs false
namespace Go.Proofs.Ytokjlondbjdlfaa
open Go.RowKit
noncomputable section

namespace XBF
open XAF
theorem G3c:Ga8 E8 77 24=true:=by kernel_rfl
theorem G61:H2c E8 75 6 1=true:=by kernel_rfl
theorem G3b:H2c E8 77 4 6=true:=by kernel_rfl
theorem H33:Hi E8 73=true:=by kernel_rfl
theorem G1f:placesOf E8 39=some [(0,1),(1,1)]:=by kernel_rfl
theorem Gbc:Qd E8 126=true:=by kernel_rfl
theorem Gaf:Qd E8 5=true:=by kernel_rfl
theorem H7f:R4 E8 5 1=true:=by kernel_rfl
theorem H2f:R4 E8 77 24=true:=by kernel_rfl
theorem G5e:(E8.info? 39).bind (fun i=>i.zero.map Value.cells)=some (List.toArray [E0,E0]):=by kernel_rfl
theorem Gff:Q2 E8 77 24=true:=by kernel_rfl
end XBF
open XAF
open XBF

def Qf (F:Nat) (s:Gw) (stack:Int):Option Int:=
 loop (fun b (a:Int)=>
  bnd (bif decide (a < 6) then Rj stack 3 else some 0) fun c=>
  bnd (bif decide (a < 6) then Rj a 5 else some 0) fun d=>
  bif ((decide (a < 6))&&(decide (0 < (s.g (c*6+d*1))))) then
  (chk (a+1) fun e=>
   b e)
  else
  (some a)) F 0
theorem G04 (F:Nat) (s:Gw) (stack:Int) (r:Int) (h:Qf F s stack=some r):Pure E8 73 [.dptr (Gw.cs s),I64 stack] (·=I64 r):=by
 unfold Qf at h
 refine Hc [.tmp 4] Try.func73 O O (Jr fun q=>(JLm (I64 0) O (G6 (q (Jr fun t=>(JLm (I64 0) O (G6 (t (Js fun u=>Gf ?_)))))))))
 obtain⟨v,j,h⟩:=Zg h
 refine H7 (fun b (a:Int)=>loop v b a=some r) (fun b a=>[(0,.dptr (Gw.cs s)),(1,I64 stack),(5,I64 a)]) (fun b a=>[]) (fun b=>b) F 0 h ⟨(.sm O O),G,O⟩ ?_
 clear h
 intro b a k z w
 obtain⟨x,y,hm_12,l,h⟩:=Yb k
 replace h:=H24 j h
 refine Js fun m=>Jr fun n=>(JLm (I64 a) O (JLh (BL (decide (a < 6))) (Hu O O O) O (JLm (BL (decide (a < 6))) O (JLo (.dptr (Gw.cs s)) [] O .sct G (fun hc=>G2 O O) O (JLo (I64 stack) [] O .sct G (fun hc=>G2 O O) O (JLo (I64 a) [] O .sct G (fun hc=>G2 O O) O (JLo (.dptr (Gw.cs s)) [9] O .sct ⟨Ua,G⟩ (fun hc=>H14 O O) O ?_)))))))
 obtain⟨c,d,h⟩:=Gc h
 refine JLo (.dptr ((Gw.cs s).drop (c*6))) [10,12] O .sct ⟨Ua,Ua,G⟩ (fun hc=>H96 G3b O O O (Hb (H3 hc d)).1 (Nat.succ_le_succ (Hb (H3 hc d)).2)) O ?_
 obtain⟨f,e,h⟩:=Gc h
 refine JLo (.dptr (((Gw.cs s).drop (c*6)).drop (f*1))) [11,13] O .sct ⟨Ua,Ua,G⟩ (fun hc=>H96 G61 O O O (Hb (H3 hc e)).1 (Nat.succ_le_succ (Hb (H3 hc e)).2)) O (JLo (U8 (s.g (c*6+f*1))) [14] O .sct ⟨Ua,G⟩ (fun hc=>H95 Gaf O O (Gw.Jce s (Hb (H3 hc d)).2 (Hb (H3 hc e)).2)) O (JLo (BL (decide (0 < (s.g (c*6+f*1))))) [15] O .sct ⟨Ua,G⟩ (fun hc=>Rz O O O) O (JLh (BL ((decide (a < 6))&&(decide (0 < (s.g (c*6+f*1)))))) (Y0 O O O O) O (G6 (n (JCc O h (fun h hb=>?_) (fun h hb=>?_)))))))
 ·
  refine Gi (m (Gf (G1 (JLm (I64 a) O ?_))))
  obtain⟨i,o,h⟩:=J4 h
  refine JLh (I64 i) (Hv o O O O) O (JLm (I64 i) O (G6 (w _ _ x i (app1 l h) (by omega) ⟨(.sm O O),G,rfl⟩)))
 ·
  refine Hd (u (Jr fun p=>(JLm (I64 a) O (JLm (I64 a) O (G6 (p (H0 (fin1 I64 h))))))))

def G03 (F:Nat) (s:Gw) (stacks:Int) (ranks:List Int):Option Bool:=
 need (decide (stacks≤9223372036854775807)) <|
 upto (fun b (o:Unit) d=>
  loop (fun c (a:Int)=>
   bnd (Qf F s (b:Int)) fun e=>
   bif decide (a < e) then
   (bnd (Rj (b:Int) 3) fun f=>
    bnd (Rj a 5) fun h=>
    Qu ranks (s.g (f*6+h*1)) fun i=>
    chk (a - 1) fun j=>
    bnd (Rj (b:Int) 3) fun k=>
    bnd (Rj j 5) fun l=>
    Qu ranks (s.g (k*6+l*1)) fun m=>
    bif decide (m < i) then
    (some false)
    else
    (chk (a+1) fun n=>
     c n))
   else
   (d ())) F 1)
 (fun(o:Unit)=>
  some true) stacks.toNat 0 ()
theorem Gc6 (F:Nat) (s:Gw) (stacks:Int) (ranks:List Int) (r:Bool) (h:G03 F s stacks ranks=some r):Pure E8 41 [.dptr (Gw.cs s),I64 stacks,E1 ranks] (·=BL r):=by
 unfold G03 at h
 refine Hc [.tmp 6] Try.func41 O O (Jr fun b6=>(JLm (BL false) O (G6 (b6 (Js fun b7=>Jr fun b8=>(JLm (I64 stacks) O (JLm (I64 0) O (G6 (b8 (Gf ?_))))))))))
 obtain⟨b9,h⟩:=Hz h
 obtain⟨b4,c0,c1,x,h⟩:=Gae h
 refine H7 (fun a (q:Unit)=>upto b4 c0 (stacks.toNat - a) a q=some r) (fun a q=>[(0,.dptr (Gw.cs s)),(2,E1 ranks),(9,I64 stacks),(10,E7 a)]) (fun a q=>[]) (fun a=>stacks.toNat - a) 0 () h ⟨(.sm O O),G,rfl⟩ ?_
 clear h
 intro a q t K4 e4
 refine Jr fun c2=>(JLh (BL (decide ((a:Int) < stacks))) (Hu O O O) O (G6 (c2 (Js fun c3=>Gh O (fun hb=>?_) (fun hb=>?_)))))
 ·
  have u:=G76 hb
  obtain⟨d5,c4,h⟩:=G70 t u
  replace h:=J75 c1 h
  refine Gi (c3 (Js fun c5=>Gf (Jr fun c6=>(JLm (E7 a) O (JLm (E7 a) O (G6 (c6 (Jr fun c7=>(JLm (I64 1) O (G6 (c7 (Gf ?_))))))))))))
  obtain⟨c8,z,h⟩:=Zg h
  refine H7 (fun c (b:Int)=>loop c8 c b=some r) (fun c b=>[(0,.dptr (Gw.cs s)),(2,E1 ranks),(7,E7 a),(8,I64 b),(9,I64 stacks),(10,E7 a)]) (fun c b=>[]) (fun c=>c) F 1 h ⟨(.sm O O),G,rfl⟩ ?_
  clear h
  intro c b a0 d6 c9
  obtain⟨d0,d4,hm_39,a1,h⟩:=Yb a0
  replace h:=H24 z h
  refine Js fun a2=>Jr fun a3=>(JLm (I64 b) O (JLm (.dptr (Gw.cs s)) O (JLm (E7 a) O ?_)))
  obtain⟨m,a4,h⟩:=Gc h
  refine JLh (I64 m) (Gr O (G04 F s (a:Int) m a4) H33 ⟨O,O,O,O,G⟩) O (JLh (BL (decide (b < m))) (Hu O O O) O (G6 (a3 (JCc O h (fun h hb=>?_) (fun h hb=>?_)))))
  ·
   refine Gi (a2 (Js fun a5=>Gf (Js fun a6=>?_)))
   obtain⟨n,d,h⟩:=Gc h
   obtain⟨v,e,h⟩:=Gc h
   obtain⟨d7,k,a7,a8,h⟩:=Qs h
   obtain⟨d1,a9,h⟩:=J4 h
   obtain⟨o,i,h⟩:=Gc h
   obtain⟨w,j,h⟩:=Gc h
   obtain⟨d8,l,b0,b1,h⟩:=Qs h
   refine JC_d0 Jf (by kernel_rfl) (Dq (E1 ranks) (G2 O O) O (Dq (.dptr (Gw.cs s)) (G2 O O) O (Dq (E7 a) (G2 O O) O (Dq (I64 b) (G2 O O) O (Dq (.dptr (Gw.cs s)) (H14 O O) O (Dq (.dptr ((Gw.cs s).drop (n*6))) (H96 G3b O O O (Hb d).1 (Nat.succ_le_succ (Hb d).2)) O (Dq (.dptr (((Gw.cs s).drop (n*6)).drop (v*1))) (H96 G61 O O O (Hb e).1 (Nat.succ_le_succ (Hb e).2)) O (Dq (U8 (s.g (n*6+v*1))) (H95 Gaf O O (Gw.Jce s (Hb d).2 (Hb e).2)) O (Dq (.dptr [I64 k]) (Gz (f:=I64) (xs:=ranks) (y:=k) O O O G7 a8 a7) O (Dq (I64 k) (Gk Gg O O O) O (Dq (E1 ranks) (G2 O O) O (Dq (.dptr (Gw.cs s)) (G2 O O) O (Dq (E7 a) (G2 O O) O ?_)))))))))))))
   refine Dq (I64 b) (G2 O O) O (Dq (I64 d1) (Y4 a9 O O O) O (Dq (.dptr (Gw.cs s)) (H14 O O) O (Dq (.dptr ((Gw.cs s).drop (o*6))) (H96 G3b O O O (Hb i).1 (Nat.succ_le_succ (Hb i).2)) O (Dq (.dptr (((Gw.cs s).drop (o*6)).drop (w*1))) (H96 G61 O O O (Hb j).1 (Nat.succ_le_succ (Hb j).2)) O (Dq (U8 (s.g (o*6+w*1))) (H95 Gaf O O (Gw.Jce s (Hb i).2 (Hb j).2)) O (Dq (.dptr [I64 l]) (Gz (f:=I64) (xs:=ranks) (y:=l) O O O G7 b1 b0) O (Dq (I64 l) (Gk Gg O O O) O (Dq (BL (decide (l < k))) (Rz O O O) O (Dnil (a6 (JCc O h (fun h hb=>?_) (fun h hb=>?_))))))))))))
   ·
    refine Jr fun b2=>(JLm (BL false) O (G6 (b2 (H0 (fin1 BL h)))))
   ·
    refine Gi (a5 (G1 (JLm (I64 b) O ?_)))
    obtain⟨p,b3,h⟩:=J4 h
    refine JLh (I64 p) (Hv b3 O O O) O (JLm (I64 p) O (G6 (c9 _ _ d0 p (app1 a1 h) (by omega) ⟨(.sm O O),G,rfl⟩)))
  ·
   refine Hd (c5 (G1 (JLh (I64 ((a+1:Nat):Int)) (Hv (Hh u (G39 b9)) O O O) O (JLm (I64 ((a+1:Nat):Int)) O (G6 (e4 _ _ (a+1) () (app1 c4 h) (by omega) ⟨(.sm O O),G,rfl⟩))))))
 ·
  have h:=app1 x (G71 t (Z4 hb))
  refine Hd (b7 (Jr fun b5=>(JLm (BL true) O (G6 (b5 (H0 (fin1 BL h)))))))

def Y3 (F:Nat) (f:Int) (h:Gw) (v:Int) (ys_:List (G5×Gw)):Option Unit:=
 need (decide (f≤9223372036854775807)) <|
 upto (fun c (j:Nat) l=>
  need (decide (f≤9223372036854775807)) <|
  upto (fun b (a:Nat) k=>
   jp (fun d=>
    bnd (Qf F h (c:Int)) fun e=>
    bnd (Qf F h (b:Int)) fun i=>
    bif (((decide ((c:Int)=(b:Int)))||(decide (e=0)))||(decide (i=v))) then
    (d a)
    else
    (chk (e - 1) fun m=>
     chk (e - 1) fun n=>
     bnd (Rj (c:Int) 3) fun o=>
     bnd (Rj n 5) fun p=>
     bnd (Rj (b:Int) 3) fun q=>
     bnd (Rj i 5) fun r=>
     bnd (Rj (c:Int) 3) fun s=>
     bnd (Rj m 5) fun t=>
     need (decide (ys_[a]? = some ((G5.mk (c:Int) (b:Int)),((h.set (q*6+r*1) (h.g (o*6+p*1))).set (s*6+t*1) 0)))) <|
     d (a+1))) fun(u:Nat)=>
   k u)
  (fun(a:Nat)=>
   l a) f.toNat 0 j)
 (fun(j:Nat)=>
  need (decide (j=ys_.length)) (some ())) f.toNat 0 0
abbrev Eb (a:Gw):List AV:=[U8 (a.g 0),U8 (a.g 1),U8 (a.g 2),U8 (a.g 3),U8 (a.g 4),U8 (a.g 5),U8 (a.g 6),U8 (a.g 7),U8 (a.g 8),U8 (a.g 9),U8 (a.g 10),U8 (a.g 11),U8 (a.g 12),U8 (a.g 13),U8 (a.g 14),U8 (a.g 15),U8 (a.g 16),U8 (a.g 17),U8 (a.g 18),U8 (a.g 19),U8 (a.g 20),U8 (a.g 21),U8 (a.g 22),U8 (a.g 23)]
theorem Gac (F:Nat) (n:Int) (a:Gw) (t:Int) (ys_:List (G5×Gw)) (q_:Unit) (h:Y3 F n a t ys_=some q_):Iter E8 74 [.dptr [I64 n],.dptr [.dptr (Gw.cs a)],.dptr [I64 t]] (ys_.map (fun y:G5×Gw=>[.agg [I64 y.1.From,I64 y.1.To],.agg (Gw.cs y.2)])):=by
 unfold Y3 at h
 refine Q9f Try.func74 O O ?_
 intro E hE hys
 refine G27 (fun K1 d0=>Zq (Qt (u:=I64 n) hE (Gk Gg O O O) ?_ O O O O))
 refine Qt (u:=I64 0) hE (G2 O O) ?_ O O O O
 refine G57 ?_
 refine d0 _ _ _ (H77 ?_)
 obtain⟨d1,h⟩:=Hz h
 obtain⟨b2,d2,d3,b0,h⟩:=Gae h
 refine J78 (fun m (s2:Nat)=>upto b2 d2 (n.toNat - m) m s2=some q_) (fun m s2=>[(0,.sc (.func (.yield E.lp) #[] #[])),(1,.dptr [I64 n]),(2,.dptr [.dptr (Gw.cs a)]),(3,.dptr [I64 t]),(10,I64 n),(11,E7 m)]) (fun m s2=>[]) (fun m s2=>s2) (fun m=>n.toNat - m) 0 0 h ⟨(.sm O O),G,rfl⟩ rfl ?_
 clear h
 intro m s2 a8 K2 e2
 refine G27 (fun K3 d4=>Zq (Qt (u:=BL (decide ((m:Int) < n))) hE (Hu O O O) ?_ O O O O))
 refine G57 ?_
 refine d4 _ _ _ (G27 (fun K4 d5=>H76 O (fun hb=>?_) (fun hb=>?_)))
 ·
  have a9:=G76 hb
  obtain⟨e8,d6,h⟩:=G70 a8 a9
  replace h:=J75 d3 h
  refine Hb9 (d5 _ _ _ (G27 (fun K5 d7=>H77 (G27 (fun K6 d8=>Zq (Qt (u:=E7 m) hE (G2 O O) ?_ O O O O))))))
  refine Qt (u:=E7 m) hE (G4 O O) ?_ O O O O
  refine G57 ?_
  refine d8 _ _ _ (G27 (fun K7 d9=>Zq (Qt (u:=I64 n) hE (Gk Gg O O O) ?_ O O O O)))
  refine Qt (u:=I64 0) hE (G2 O O) ?_ O O O O
  refine G57 ?_
  refine d9 _ _ _ (H77 ?_)
  obtain⟨b1,h⟩:=Hz h
  obtain⟨e0,b3,b4,a6,h⟩:=Gae h
  refine J78 (fun j (p:Nat)=>upto e0 b3 (n.toNat - j) j p=some q_) (fun j p=>[(0,.sc (.func (.yield E.lp) #[] #[])),(1,.dptr [I64 n]),(2,.dptr [.dptr (Gw.cs a)]),(3,.dptr [I64 t]),(5,E7 m),(10,I64 n),(11,E7 m),(14,I64 n),(15,E7 j)]) (fun j p=>[]) (fun j p=>p) (fun j=>n.toNat - j) 0 s2 h ⟨(.sm O O),G,rfl⟩ rfl ?_
  clear h
  intro j p a3 e9 e1
  refine G27 (fun f0 b5=>Zq (Qt (u:=BL (decide ((j:Int) < n))) hE (Hu O O O) ?_ O O O O))
  refine G57 ?_
  refine b5 _ _ _ (G27 (fun f1 b6=>H76 O (fun hb=>?_) (fun hb=>?_)))
  ·
   have a4:=G76 hb
   obtain⟨e7,b7,h⟩:=G70 a3 a4
   replace h:=J75 b4 h
   refine Hb9 (b6 _ _ _ ?_)
   obtain⟨b8,a7,h⟩:=Zw h
   refine Q9a (fun s:Nat=>b8 s=some q_) (fun s=>[(0,.sc (.func (.yield E.lp) #[] #[])),(1,.dptr [I64 n]),(2,.dptr [.dptr (Gw.cs a)]),(3,.dptr [I64 t]),(5,E7 m),(10,I64 n),(11,E7 m),(14,I64 n),(15,E7 j)]) (fun s=>[]) (fun s=>s) (fun Kj53 ej53=>?_) ?_
   ·
    refine H77 (G27 (fun f2 b9=>Zq (Qt (u:=E7 j) hE (G2 O O) ?_ O O O O)))
    refine Qt (u:=E7 j) hE (G4 O O) ?_ O O O O
    refine G57 ?_
    refine b9 _ _ _ (G27 (fun f3 c0=>?_))
    obtain⟨o,c1,h⟩:=Gc h
    obtain⟨q,c2,h⟩:=Gc h
    refine Q02 [] [0,0,0,0,0,0,0,0] [0,0,0,0,0,0,0,0] [[]] hE Jf (by kernel_rfl) rfl rfl (Gb (u:=.dptr (Gw.cs a)) O O ⟨Ga (Gk Gbc O O O) O,G⟩ (Gb (u:=E7 m) O O ⟨Ga (G2 O O) O,G⟩ (Gb (u:=I64 o) O O ⟨Ga (Gr O (G04 F a (m:Int) o c1) H33 ⟨O,O,O,O,G⟩) O,G⟩ (Gb (u:=.dptr (Gw.cs a)) O O ⟨Ga (Gk Gbc O O O) O,G⟩ (Gb (u:=E7 j) O O ⟨Ga (G2 O O) O,G⟩ (Gb (u:=I64 q) O O ⟨Ga (Gr O (G04 F a (j:Int) q c2) H33 ⟨O,O,O,O,G⟩) O,G⟩ (Gb (u:=I64 o) O O ⟨Ga (G4 O O) O,G⟩ (Gb (u:=I64 q) O O ⟨Ga (G4 O O) O,G⟩ (R9 (c0 _ _ _ (G27 (fun f4 c3=>G27 (fun f5 c4=>Zq ?_)))))))))))))
    refine Qt (u:=E7 m) hE (G2 O O) ?_ O O O O
    refine Qt (u:=E7 j) hE (G2 O O) ?_ O O O O
    refine Qt (u:=BL (decide ((m:Int)=(j:Int)))) hE (Rq O O O) ?_ O O O O
    refine Qt (u:=BL (decide ((m:Int)=(j:Int)))) hE (G2 O O) ?_ O O O O
    refine H78 (u:=I64 o) [] hE O O O .scf G (fun hc=>G2 O O) ?_ O O O
    refine H78 (u:=BL (decide (o=0))) [(28,I64 o)] hE O O O .scf ⟨.all id,G⟩ (fun hc=>Rq O O O) ?_ O O O
    refine Qt (u:=BL ((decide ((m:Int)=(j:Int)))||(decide (o=0)))) hE (Za O O O O) ?_ O O O O
    refine Qt (u:=BL ((decide ((m:Int)=(j:Int)))||(decide (o=0)))) hE (G2 O O) ?_ O O O O
    refine H78 (u:=I64 q) [] hE O O O .scf G (fun hc=>G2 O O) ?_ O O O
    refine H78 (u:=I64 t) [] hE O O O .scf G (fun hc=>Gk Gg O O O) ?_ O O O
    refine H78 (u:=BL (decide (q=t))) [(32,I64 q),(33,I64 t)] hE O O O .scf ⟨.all id,.all id,G⟩ (fun hc=>Rq O O O) ?_ O O O
    refine Qt (u:=BL (((decide ((m:Int)=(j:Int)))||(decide (o=0)))||(decide (q=t)))) hE (Za O O O O) ?_ O O O O
    refine G57 ?_
    refine c4 _ _ _ (H76 O (fun hb=>?_) (fun hb=>?_))
    ·
     replace h:=H3 hb h
     refine J45 (ej53 _ _ _ p h ⟨(.sm O O),G,rfl⟩ rfl)
    ·
     replace h:=Hm hb h
     refine Hb9 (c3 _ _ _ (G27 (fun f6 c5=>Zq (Qt (u:=.dptr (Gw.cs a)) hE (Gk Gbc O O O) ?_ O O O O))))
     refine Qt (u:=.dptr (Gw.cs a)) hE (H14 O O) ?_ O O O O
     refine Qt (u:=.agg (Gw.cs a)) hE (Gv G3c O O O) ?_ O O O O
     refine Qt (u:=.ptr 1079 0) hE (Jg 1079 24 Gff O O) ?_ O O O O
     refine Q9d (u:=.junk) hE (Ho (u:=.agg (Gw.cs a)) (ds:=(Eb a)) H2f O O O O O O O O) ?_ O O O
     refine G57 ?_
     refine c5 _ _ _ (G27 (fun f7 c6=>Q01 (l':=[(0,.sc (.func (.yield E.lp) #[] #[])),(1,.dptr [I64 n]),(2,.dptr [.dptr (Gw.cs a)]),(3,.dptr [I64 t]),(5,E7 m),(6,E7 j),(7,I64 o),(8,I64 q),(9,.ptr 1079 0),(10,I64 n),(11,E7 m),(14,I64 n),(15,E7 j)]) (L':=[(1079,.box 77 (Eb a))]) ⟨(.sm O O),⟨fbQ O (.sm O O),G⟩,rfl⟩ ?_))
     obtain⟨e3,a5,h⟩:=J4 h
     obtain⟨e4,c7,h⟩:=J4 h
     obtain⟨c,a1,h⟩:=Gc h
     obtain⟨d,a2,h⟩:=Gc h
     obtain⟨e,v,h⟩:=Gc h
     obtain⟨i,w,h⟩:=Gc h
     obtain⟨k,r,h⟩:=Gc h
     obtain⟨l,z,h⟩:=Gc h
     refine Q02 [13,16] [0,0,0,0,0,0,0,0,0,0,0,0,0,0,0,1,0] [0,0,1,1,1,0,0,0,0,0,0,0,0,0,1,1,0] [[(1079,.box 77 (Eb a))],((1079,.box 77 [U8 ((a.set (e*6+i*1) (a.g (c*6+d*1))).g 0),U8 ((a.set (e*6+i*1) (a.g (c*6+d*1))).g 1),U8 ((a.set (e*6+i*1) (a.g (c*6+d*1))).g 2),U8 ((a.set (e*6+i*1) (a.g (c*6+d*1))).g 3),U8 ((a.set (e*6+i*1) (a.g (c*6+d*1))).g 4),U8 ((a.set (e*6+i*1) (a.g (c*6+d*1))).g 5),U8 ((a.set (e*6+i*1) (a.g (c*6+d*1))).g 6),U8 ((a.set (e*6+i*1) (a.g (c*6+d*1))).g 7),U8 ((a.set (e*6+i*1) (a.g (c*6+d*1))).g 8),U8 ((a.set (e*6+i*1) (a.g (c*6+d*1))).g 9),U8 ((a.set (e*6+i*1) (a.g (c*6+d*1))).g 10),U8 ((a.set (e*6+i*1) (a.g (c*6+d*1))).g 11),U8 ((a.set (e*6+i*1) (a.g (c*6+d*1))).g 12),U8 ((a.set (e*6+i*1) (a.g (c*6+d*1))).g 13),U8 ((a.set (e*6+i*1) (a.g (c*6+d*1))).g 14),U8 ((a.set (e*6+i*1) (a.g (c*6+d*1))).g 15),U8 ((a.set (e*6+i*1) (a.g (c*6+d*1))).g 16),U8 ((a.set (e*6+i*1) (a.g (c*6+d*1))).g 17),U8 ((a.set (e*6+i*1) (a.g (c*6+d*1))).g 18),U8 ((a.set (e*6+i*1) (a.g (c*6+d*1))).g 19),U8 ((a.set (e*6+i*1) (a.g (c*6+d*1))).g 20),U8 ((a.set (e*6+i*1) (a.g (c*6+d*1))).g 21),U8 ((a.set (e*6+i*1) (a.g (c*6+d*1))).g 22),U8 ((a.set (e*6+i*1) (a.g (c*6+d*1))).g 23)])::[(1079,.box 77 (Eb a))]),((1079,.box 77 [U8 (((a.set (e*6+i*1) (a.g (c*6+d*1))).set (k*6+l*1) 0).g 0),U8 (((a.set (e*6+i*1) (a.g (c*6+d*1))).set (k*6+l*1) 0).g 1),U8 (((a.set (e*6+i*1) (a.g (c*6+d*1))).set (k*6+l*1) 0).g 2),U8 (((a.set (e*6+i*1) (a.g (c*6+d*1))).set (k*6+l*1) 0).g 3),U8 (((a.set (e*6+i*1) (a.g (c*6+d*1))).set (k*6+l*1) 0).g 4),U8 (((a.set (e*6+i*1) (a.g (c*6+d*1))).set (k*6+l*1) 0).g 5),U8 (((a.set (e*6+i*1) (a.g (c*6+d*1))).set (k*6+l*1) 0).g 6),U8 (((a.set (e*6+i*1) (a.g (c*6+d*1))).set (k*6+l*1) 0).g 7),U8 (((a.set (e*6+i*1) (a.g (c*6+d*1))).set (k*6+l*1) 0).g 8),U8 (((a.set (e*6+i*1) (a.g (c*6+d*1))).set (k*6+l*1) 0).g 9),U8 (((a.set (e*6+i*1) (a.g (c*6+d*1))).set (k*6+l*1) 0).g 10),U8 (((a.set (e*6+i*1) (a.g (c*6+d*1))).set (k*6+l*1) 0).g 11),U8 (((a.set (e*6+i*1) (a.g (c*6+d*1))).set (k*6+l*1) 0).g 12),U8 (((a.set (e*6+i*1) (a.g (c*6+d*1))).set (k*6+l*1) 0).g 13),U8 (((a.set (e*6+i*1) (a.g (c*6+d*1))).set (k*6+l*1) 0).g 14),U8 (((a.set (e*6+i*1) (a.g (c*6+d*1))).set (k*6+l*1) 0).g 15),U8 (((a.set (e*6+i*1) (a.g (c*6+d*1))).set (k*6+l*1) 0).g 16),U8 (((a.set (e*6+i*1) (a.g (c*6+d*1))).set (k*6+l*1) 0).g 17),U8 (((a.set (e*6+i*1) (a.g (c*6+d*1))).set (k*6+l*1) 0).g 18),U8 (((a.set (e*6+i*1) (a.g (c*6+d*1))).set (k*6+l*1) 0).g 19),U8 (((a.set (e*6+i*1) (a.g (c*6+d*1))).set (k*6+l*1) 0).g 20),U8 (((a.set (e*6+i*1) (a.g (c*6+d*1))).set (k*6+l*1) 0).g 21),U8 (((a.set (e*6+i*1) (a.g (c*6+d*1))).set (k*6+l*1) 0).g 22),U8 (((a.set (e*6+i*1) (a.g (c*6+d*1))).set (k*6+l*1) 0).g 23)])::((1079,.box 77 [U8 ((a.set (e*6+i*1) (a.g (c*6+d*1))).g 0),U8 ((a.set (e*6+i*1) (a.g (c*6+d*1))).g 1),U8 ((a.set (e*6+i*1) (a.g (c*6+d*1))).g 2),U8 ((a.set (e*6+i*1) (a.g (c*6+d*1))).g 3),U8 ((a.set (e*6+i*1) (a.g (c*6+d*1))).g 4),U8 ((a.set (e*6+i*1) (a.g (c*6+d*1))).g 5),U8 ((a.set (e*6+i*1) (a.g (c*6+d*1))).g 6),U8 ((a.set (e*6+i*1) (a.g (c*6+d*1))).g 7),U8 ((a.set (e*6+i*1) (a.g (c*6+d*1))).g 8),U8 ((a.set (e*6+i*1) (a.g (c*6+d*1))).g 9),U8 ((a.set (e*6+i*1) (a.g (c*6+d*1))).g 10),U8 ((a.set (e*6+i*1) (a.g (c*6+d*1))).g 11),U8 ((a.set (e*6+i*1) (a.g (c*6+d*1))).g 12),U8 ((a.set (e*6+i*1) (a.g (c*6+d*1))).g 13),U8 ((a.set (e*6+i*1) (a.g (c*6+d*1))).g 14),U8 ((a.set (e*6+i*1) (a.g (c*6+d*1))).g 15),U8 ((a.set (e*6+i*1) (a.g (c*6+d*1))).g 16),U8 ((a.set (e*6+i*1) (a.g (c*6+d*1))).g 17),U8 ((a.set (e*6+i*1) (a.g (c*6+d*1))).g 18),U8 ((a.set (e*6+i*1) (a.g (c*6+d*1))).g 19),U8 ((a.set (e*6+i*1) (a.g (c*6+d*1))).g 20),U8 ((a.set (e*6+i*1) (a.g (c*6+d*1))).g 21),U8 ((a.set (e*6+i*1) (a.g (c*6+d*1))).g 22),U8 ((a.set (e*6+i*1) (a.g (c*6+d*1))).g 23)])::[(1079,.box 77 (Eb a))]))] hE Jf (by kernel_rfl) rfl rfl ?_
     refine Gb (u:=E7 j) O O ⟨Ga (G2 O O) O,G⟩ (Gb (u:=I64 q) O O ⟨Ga (G2 O O) O,G⟩ (Gb (u:=E7 m) O O ⟨Ga (G2 O O) O,Ga (G2 O O) O,G⟩ (Gb (u:=I64 o) O O ⟨Ga (G2 O O) O,Ga (G2 O O) O,G⟩ (Gb (u:=I64 e3) O O ⟨Ga (Y4 a5 O O O) O,Ga (Y4 a5 O O O) O,G⟩ (Gb (u:=E7 m) O O ⟨Ga (G2 O O) O,G⟩ (Gb (u:=I64 o) O O ⟨Ga (G2 O O) O,G⟩ (Gb (u:=I64 e4) O O ⟨Ga (Y4 c7 O O O) O,G⟩ (Gb (u:=.ptr 1079 (0+c*6)) O O ⟨Ga (Gf0 G3b O O O (Hb a1).1 (Nat.succ_le_succ (Hb a1).2)) O,G⟩ (Gb (u:=.ptr 1079 ((0+c*6)+d*1)) O O ⟨Ga (Gf0 G61 O O O (Hb a2).1 (Nat.succ_le_succ (Hb a2).2)) O,G⟩ (Gb (u:=U8 (a.g (c*6+d*1))) O O ⟨Ga (Q72 Gaf O O O (Gw.R21 a (Hb a1).2 (Hb a2).2)) O,G⟩ (Gb (u:=.ptr 1079 (0+e*6)) O O ⟨Ga (Gf0 G3b O O O (Hb v).1 (Nat.succ_le_succ (Hb v).2)) O,G⟩ (Gb (u:=.ptr 1079 ((0+e*6)+i*1)) O O ⟨Ga (Gf0 G61 O O O (Hb w).1 (Nat.succ_le_succ (Hb w).2)) O,G⟩ (Gfb (u:=.junk) O O O O (Ga (H94 (u:=U8 (a.g (c*6+d*1))) H7f O O O O O O (Gw.Q4c (Hb v).2 (Hb w).2) (Gw.Jcd a (Hb v).2 (Hb w).2 (a.g (c*6+d*1)))) O) ?_)))))))))))))
     refine Gb (u:=.ptr 1079 (0+k*6)) O O ⟨Ga (Gf0 G3b O O O (Hb r).1 (Nat.succ_le_succ (Hb r).2)) O,Ga (Gf0 G3b O O O (Hb r).1 (Nat.succ_le_succ (Hb r).2)) O,G⟩ (Gb (u:=.ptr 1079 ((0+k*6)+l*1)) O O ⟨Ga (Gf0 G61 O O O (Hb z).1 (Nat.succ_le_succ (Hb z).2)) O,G⟩ (Gfb (u:=.junk) O O O O (Ga (H94 (u:=U8 0) H7f O O O O O O (Gw.Q4c (Hb r).2 (Hb z).2) (Gw.Jcd (a.set (e*6+i*1) (a.g (c*6+d*1))) (Hb r).2 (Hb z).2 0)) O) (R9 (c6 _ _ _ (G27 (fun f8 c8=>Zq (Qt (u:=.sc (.func (.yield E.lp) #[] #[])) hE (G2 O O) ?_ O O O O)))))))
     refine Qt (u:=E7 m) hE (G2 O O) ?_ O O O O
     refine Qt (u:=E7 j) hE (G2 O O) ?_ O O O O
     refine Qt (u:=.agg [E7 m,E7 j]) hE (Jk (cs:=[E7 m,E7 j]) [(0,1),(1,1)] [I64 0,I64 0] [E0,E0] G1f G5e (zzQ O) O O) ?_ O O O O
     refine Qt (u:=.agg (Gw.cs ((a.set (e*6+i*1) (a.g (c*6+d*1))).set (k*6+l*1) 0))) hE (Je G3c O O O O) ?_ O O O O
     obtain⟨c9,h⟩:=Hz h
     refine Q2e (us:=[.agg [E7 m,E7 j],.agg (Gw.cs ((a.set (e*6+i*1) (a.g (c*6+d*1))).set (k*6+l*1) 0))]) hE O O ⟨O,O,O,O,G⟩ (Q39 (f:=(fun y:G5×Gw=>[.agg [I64 y.1.From,I64 y.1.To],.agg (Gw.cs y.2)])) (x:=((G5.mk (m:Int) (j:Int)),((a.set (e*6+i*1) (a.g (c*6+d*1))).set (k*6+l*1) 0))) hys c9) ?_ O O O
     refine Qt (u:=BL false) hE (Yr (b:=true) O O) ?_ O O O O
     refine G57 ?_
     refine c8 _ _ _ (Q5e O (Hb9 (ej53 _ _ _ (p+1) h ⟨(.sm O O),G,rfl⟩ rfl)))
   ·intro s h
    replace h:=app1 a7 h
    refine Zq (Qt (u:=I64 ((j+1:Nat):Int)) hE (Hv (Hh a4 (G39 b1)) O O O) ?_ O O O O)
    refine Qt (u:=I64 ((j+1:Nat):Int)) hE (G2 O O) ?_ O O O O
    refine G57 ?_
    exact e1 _ _ (j+1) s _ (app1 b7 h) (by omega) ⟨(.sm O O),G,rfl⟩ rfl
  ·
   have h:=app1 a6 (G71 a3 (Z4 hb))
   refine J45 (d7 _ _ _ (Zq (Qt (u:=I64 ((m+1:Nat):Int)) hE (Hv (Hh a9 (G39 d1)) O O O) ?_ O O O O)))
   refine Qt (u:=I64 ((m+1:Nat):Int)) hE (G2 O O) ?_ O O O O
   refine G57 ?_
   exact e2 _ _ (m+1) p _ (app1 d6 h) (by omega) ⟨(.sm O O),G,rfl⟩ rfl
 ·
  have h:=app1 b0 (G71 a8 (Z4 hb))
  refine J45 (Q7f (Hz h).1)
theorem Gad (S_:Nat→(Int)→(Gw)→(Int)→Option (List (G5×Gw))) (hS_:∀ F a b c r,S_ F a b c=some r→Y3 F a b c r=some ()) (F:Nat) (a:Int) (b:Gw) (c:Int) (r:List (G5×Gw)) (h:S_ F a b c=some r):Iter E8 74 [.dptr [I64 a],.dptr [.dptr (Gw.cs b)],.dptr [I64 c]] (r.map (fun y:G5×Gw=>[.agg [I64 y.1.From,I64 y.1.To],.agg (Gw.cs y.2)])):=Gac F a b c r () (hS_ F a b c r h)

def G10 (s:Gw) (stacks:Int) (height:Int):Option Unit:=
 some ()
abbrev Ec (stacks:Int) (s:Gw) (height:Int):List AV:=[.dptr [I64 stacks],.dptr [.dptr (Gw.cs s)],.dptr [I64 height]]
theorem Gce (s:Gw) (stacks:Int) (height:Int) (r:Unit) (h:G10 s stacks height=some r):Pure E8 42 [.dptr (Gw.cs s),I64 stacks,I64 height] (·=.fn 74 [.dptr [I64 stacks],.dptr [.dptr (Gw.cs s)],.dptr [I64 height]]):=by
 unfold G10 at h
 refine Hc [.tmp 6] Try.func42 O O (Jr fun a=>(JLh (.ptr 1046 0) (Q3 (cs:=[.dptr (Gw.cs s)]) 1046 O O O O O) O (JLh (.ptr 1047 0) (Q3 (cs:=[I64 stacks]) 1047 O O O O O) O (JLh (.ptr 1048 0) (Q3 (cs:=[I64 height]) 1048 O O O O O) O (JLm (.sc .nilFunc) O (G6 (a (H5 [(3,.dptr [.dptr (Gw.cs s)]),(4,.ptr 1047 0),(5,.ptr 1048 0)] [(1047,.box 3 [I64 stacks]),(1048,.box 3 [I64 height])] 1046 rfl rfl rfl ⟨⟨_,rfl,.boxEq rfl rfl⟩,⟨_,rfl,.boxEq rfl rfl⟩,G⟩ rfl (by exact⟨.ptr,.conv (.same rfl),.conv (.same rfl),G⟩) (H5 [(3,.dptr [.dptr (Gw.cs s)]),(4,.dptr [I64 stacks]),(5,.ptr 1048 0)] [(1048,.box 3 [I64 height])] 1047 rfl rfl rfl ⟨⟨_,rfl,.boxEq rfl rfl⟩,G⟩ rfl (by exact⟨.conv (.same rfl),.ptr,.conv (.same rfl),G⟩) ?_)))))))))
 refine H5 [(3,.dptr [.dptr (Gw.cs s)]),(4,.dptr [I64 stacks]),(5,.dptr [I64 height])] [] 1048 rfl rfl rfl G rfl (by exact⟨.conv (.same rfl),.conv (.same rfl),.ptr,G⟩) (Jr fun b=>(JLh (.fn 74 (Ec stacks s height)) (J02 (cs:=(Ec stacks s height)) O O) O (JLm (.fn 74 (Ec stacks s height)) O (G6 (b (H0 (⟨[.fn 74 (Ec stacks s height)],[],G,O,⟨⟨_,O,.conv (.same O)⟩,G⟩,O,congrArg (fun _:Unit=>(.fn 74 (Ec stacks s height):AV)) (Ez h)⟩)))))))
end
end Go.Proofs.Ytokjlondbjdlfaa
