/- Walks of functions. -/
import Derived.Test.YtokjlondbjdlfaaSpecY
set_option maxRecDepth 100000
set_option maxHeartbeats 1000000
set_option linter.unusedVariables false
set_option linter.unusedSimpArgs false
namespace Go.Proofs.Ytokjlondbjdlfaa
open Go.RowKit
noncomputable section

namespace XBF
open XAF
theorem G4a:Gb5 E8 77 24=true:=by kernel_rfl
theorem G6e:H47 E8 75 6 1=true:=by kernel_rfl
theorem G49:H47 E8 77 4 6=true:=by kernel_rfl
theorem H4e:Hj E8 73=true:=by kernel_rfl
theorem G2c:placesOf E8 39=some [(0,1),(1,1)]:=by kernel_rfl
theorem Gca:Qr E8 126=true:=by kernel_rfl
theorem Gbc:Qr E8 5=true:=by kernel_rfl
theorem H9e:Rr E8 5 1=true:=by kernel_rfl
theorem H4a:Rr E8 77 24=true:=by kernel_rfl
theorem G6c:(E8.info? 39).bind (fun i=>i.zero.map Value.cells)=some (List.toArray [E0,E0]):=by kernel_rfl
theorem H11:Qa E8 77 24=true:=by kernel_rfl
end XBF
open XAF
open XBF

def Q4 (F:Nat) (s:Gr) (stack:Int):Option Int:=
 loop (fun b (a:Int)=>
  bnd (bif decide (a < 6) then Y6 stack 3 else some 0) fun c=>
  bnd (bif decide (a < 6) then Y6 a 5 else some 0) fun d=>
  bif ((decide (a < 6))&&(decide (0 < (s.g (c*6+d*1))))) then
  (chk (a+1) fun e=>
   b e)
  else
  (some a)) F 0
theorem G14 (F:Nat) (s:Gr) (stack:Int) (r:Int) (h:Q4 F s stack=some r):Pure E8 73 [.dptr (Gr.cs s),I64 stack] (·=I64 r):=by
 unfold Q4 at h
 refine Hb [.tmp 4] Try.func73 O O (Jr fun q=>(JLm (I64 0) O (G6 (q (Jr fun t=>(JLm (I64 0) O (G6 (t (Js fun u=>Gg ?_)))))))))
 obtain⟨v,j,h⟩:=G2e h
 refine H9 (fun b (a:Int)=>loop v b a=some r) (fun b a=>[(0,.dptr (Gr.cs s)),(1,I64 stack),(5,I64 a)]) (fun b a=>[]) (fun b=>b) F 0 h ⟨(.sm O O),ø,O⟩ ?_
 clear h
 intro b a k z w
 obtain⟨x,y,hm_12,l,h⟩:=G00 k
 replace h:=Hb2 j h
 refine Js fun m=>Jr fun n=>(JLm (I64 a) O (JLh (BL (decide (a < 6))) (Hz O O O) O (JLm (BL (decide (a < 6))) O (JLo (.dptr (Gr.cs s)) [] O .sct ø (fun hc=>G2 O O) O (JLo (I64 stack) [] O .sct ø (fun hc=>G2 O O) O (JLo (I64 a) [] O .sct ø (fun hc=>G2 O O) O (JLo (.dptr (Gr.cs s)) [9] O .sct ⟨Ua,ø⟩ (fun hc=>H2b O O) O ?_)))))))
 obtain⟨c,d,h⟩:=Gd h
 refine JLo (.dptr ((Gr.cs s).drop (c*6))) [10,12] O .sct ⟨Ua,Ua,ø⟩ (fun hc=>Hb9 G49 O O O (Hc (H6 hc d)).1 (Nat.succ_le_succ (Hc (H6 hc d)).2)) O ?_
 obtain⟨f,e,h⟩:=Gd h
 refine JLo (.dptr (((Gr.cs s).drop (c*6)).drop (f*1))) [11,13] O .sct ⟨Ua,Ua,ø⟩ (fun hc=>Hb9 G6e O O O (Hc (H6 hc e)).1 (Nat.succ_le_succ (Hc (H6 hc e)).2)) O (JLo (U8 (s.g (c*6+f*1))) [14] O .sct ⟨Ua,ø⟩ (fun hc=>Hb8 Gbc O O (Gr.Q17 s (Hc (H6 hc d)).2 (Hc (H6 hc e)).2)) O (JLo (BL (decide (0 < (s.g (c*6+f*1))))) [15] O .sct ⟨Ua,ø⟩ (fun hc=>Yk O O O) O (JLh (BL ((decide (a < 6))&&(decide (0 < (s.g (c*6+f*1)))))) (Yn O O O O) O (G6 (n (JCc O h (fun h hb=>?_) (fun h hb=>?_)))))))
 ·
  refine Gk (m (Gg (G1 (JLm (I64 a) O ?_))))
  obtain⟨i,o,h⟩:=Jh h
  refine JLh (I64 i) (J2 o O O O) O (JLm (I64 i) O (G6 (w _ _ x i (app1 l h) (by omega) ⟨(.sm O O),ø,rfl⟩)))
 ·
  refine Hg (u (Jr fun p=>(JLm (I64 a) O (JLm (I64 a) O (G6 (p (H1 (fin1 I64 h))))))))

def Rx (F:Nat) (s:Gr) (stacks:Int) (ranks:List Int):Option Bool:=
 need (decide (stacks≤9223372036854775807)) <|
 upto (fun b (o:Unit) d=>
  loop (fun c (a:Int)=>
   bnd (Q4 F s (b:Int)) fun e=>
   bif decide (a < e) then
   (bnd (Y6 (b:Int) 3) fun f=>
    bnd (Y6 a 5) fun h=>
    R6 ranks (s.g (f*6+h*1)) fun i=>
    chk (a - 1) fun j=>
    bnd (Y6 (b:Int) 3) fun k=>
    bnd (Y6 j 5) fun l=>
    R6 ranks (s.g (k*6+l*1)) fun m=>
    bif decide (m < i) then
    (some false)
    else
    (chk (a+1) fun n=>
     c n))
   else
   (d ())) F 1)
 (fun(o:Unit)=>
  some true) stacks.toNat 0 ()
theorem Gd5 (F:Nat) (s:Gr) (stacks:Int) (ranks:List Int) (r:Bool) (h:Rx F s stacks ranks=some r):Pure E8 41 [.dptr (Gr.cs s),I64 stacks,E1 ranks] (·=BL r):=by
 unfold Rx at h
 refine Hb [.tmp 6] Try.func41 O O (Jr fun b6=>(JLm (BL false) O (G6 (b6 (Js fun b7=>Jr fun b8=>(JLm (I64 stacks) O (JLm (I64 0) O (G6 (b8 (Gg ?_))))))))))
 obtain⟨b9,h⟩:=J3 h
 obtain⟨b4,c0,c1,x,h⟩:=Gbb h
 refine H9 (fun a (q:Unit)=>upto b4 c0 (stacks.toNat - a) a q=some r) (fun a q=>[(0,.dptr (Gr.cs s)),(2,E1 ranks),(9,I64 stacks),(10,E7 a)]) (fun a q=>[]) (fun a=>stacks.toNat - a) 0 () h ⟨(.sm O O),ø,rfl⟩ ?_
 clear h
 intro a q t K4 e4
 refine Jr fun c2=>(JLh (BL (decide ((a:Int) < stacks))) (Hz O O O) O (G6 (c2 (Js fun c3=>Gh O (fun hb=>?_) (fun hb=>?_)))))
 ·
  have u:=G84 hb
  obtain⟨d5,c4,h⟩:=G7d t u
  replace h:=Jb8 c1 h
  refine Gk (c3 (Js fun c5=>Gg (Jr fun c6=>(JLm (E7 a) O (JLm (E7 a) O (G6 (c6 (Jr fun c7=>(JLm (I64 1) O (G6 (c7 (Gg ?_))))))))))))
  obtain⟨c8,z,h⟩:=G2e h
  refine H9 (fun c (b:Int)=>loop c8 c b=some r) (fun c b=>[(0,.dptr (Gr.cs s)),(2,E1 ranks),(7,E7 a),(8,I64 b),(9,I64 stacks),(10,E7 a)]) (fun c b=>[]) (fun c=>c) F 1 h ⟨(.sm O O),ø,rfl⟩ ?_
  clear h
  intro c b a0 d6 c9
  obtain⟨d0,d4,hm_39,a1,h⟩:=G00 a0
  replace h:=Hb2 z h
  refine Js fun a2=>Jr fun a3=>(JLm (I64 b) O (JLm (.dptr (Gr.cs s)) O (JLm (E7 a) O ?_)))
  obtain⟨m,a4,h⟩:=Gd h
  refine JLh (I64 m) (Gt O (G14 F s (a:Int) m a4) H4e ⟨O,O,O,O,ø⟩) O (JLh (BL (decide (b < m))) (Hz O O O) O (G6 (a3 (JCc O h (fun h hb=>?_) (fun h hb=>?_)))))
  ·
   refine Gk (a2 (Js fun a5=>Gg (Js fun a6=>?_)))
   obtain⟨n,d,h⟩:=Gd h
   obtain⟨v,e,h⟩:=Gd h
   obtain⟨d7,k,a7,a8,h⟩:=Rb h
   obtain⟨d1,a9,h⟩:=Jh h
   obtain⟨o,i,h⟩:=Gd h
   obtain⟨w,j,h⟩:=Gd h
   obtain⟨d8,l,b0,b1,h⟩:=Rb h
   refine JC_d0 Jj (by kernel_rfl) (Dq (E1 ranks) (G2 O O) O (Dq (.dptr (Gr.cs s)) (G2 O O) O (Dq (E7 a) (G2 O O) O (Dq (I64 b) (G2 O O) O (Dq (.dptr (Gr.cs s)) (H2b O O) O (Dq (.dptr ((Gr.cs s).drop (n*6))) (Hb9 G49 O O O (Hc d).1 (Nat.succ_le_succ (Hc d).2)) O (Dq (.dptr (((Gr.cs s).drop (n*6)).drop (v*1))) (Hb9 G6e O O O (Hc e).1 (Nat.succ_le_succ (Hc e).2)) O (Dq (U8 (s.g (n*6+v*1))) (Hb8 Gbc O O (Gr.Q17 s (Hc d).2 (Hc e).2)) O (Dq (.dptr [I64 k]) (H0 (f:=I64) (xs:=ranks) (y:=k) O O O G7 a8 a7) O (Dq (I64 k) (Gm Gi O O O) O (Dq (E1 ranks) (G2 O O) O (Dq (.dptr (Gr.cs s)) (G2 O O) O (Dq (E7 a) (G2 O O) O ?_)))))))))))))
   refine Dq (I64 b) (G2 O O) O (Dq (I64 d1) (Zv a9 O O O) O (Dq (.dptr (Gr.cs s)) (H2b O O) O (Dq (.dptr ((Gr.cs s).drop (o*6))) (Hb9 G49 O O O (Hc i).1 (Nat.succ_le_succ (Hc i).2)) O (Dq (.dptr (((Gr.cs s).drop (o*6)).drop (w*1))) (Hb9 G6e O O O (Hc j).1 (Nat.succ_le_succ (Hc j).2)) O (Dq (U8 (s.g (o*6+w*1))) (Hb8 Gbc O O (Gr.Q17 s (Hc i).2 (Hc j).2)) O (Dq (.dptr [I64 l]) (H0 (f:=I64) (xs:=ranks) (y:=l) O O O G7 b1 b0) O (Dq (I64 l) (Gm Gi O O O) O (Dq (BL (decide (l < k))) (Yk O O O) O (Dnil (a6 (JCc O h (fun h hb=>?_) (fun h hb=>?_))))))))))))
   ·
    refine Jr fun b2=>(JLm (BL false) O (G6 (b2 (H1 (fin1 BL h)))))
   ·
    refine Gk (a5 (G1 (JLm (I64 b) O ?_)))
    obtain⟨p,b3,h⟩:=Jh h
    refine JLh (I64 p) (J2 b3 O O O) O (JLm (I64 p) O (G6 (c9 _ _ d0 p (app1 a1 h) (by omega) ⟨(.sm O O),ø,rfl⟩)))
  ·
   refine Hg (c5 (G1 (JLh (I64 ((a+1:Nat):Int)) (J2 (Hi u (G47 b9)) O O O) O (JLm (I64 ((a+1:Nat):Int)) O (G6 (e4 _ _ (a+1) () (app1 c4 h) (by omega) ⟨(.sm O O),ø,rfl⟩))))))
 ·
  have h:=app1 x (G7e t (Zj hb))
  refine Hg (b7 (Jr fun b5=>(JLm (BL true) O (G6 (b5 (H1 (fin1 BL h)))))))

def Yr (F:Nat) (f:Int) (h:Gr) (v:Int) (ys_:List (G5×Gr)):Option Unit:=
 need (decide (f≤9223372036854775807)) <|
 upto (fun c (j:Nat) l=>
  need (decide (f≤9223372036854775807)) <|
  upto (fun b (a:Nat) k=>
   jp (fun d=>
    bnd (Q4 F h (c:Int)) fun e=>
    bnd (Q4 F h (b:Int)) fun i=>
    bif (((decide ((c:Int)=(b:Int)))||(decide (e=0)))||(decide (i=v))) then
    (d a)
    else
    (chk (e - 1) fun m=>
     chk (e - 1) fun n=>
     bnd (Y6 (c:Int) 3) fun o=>
     bnd (Y6 n 5) fun p=>
     bnd (Y6 (b:Int) 3) fun q=>
     bnd (Y6 i 5) fun r=>
     bnd (Y6 (c:Int) 3) fun s=>
     bnd (Y6 m 5) fun t=>
     need (decide (ys_[a]? = some ((G5.mk (c:Int) (b:Int)),((h.set (q*6+r*1) (h.g (o*6+p*1))).set (s*6+t*1) 0)))) <|
     d (a+1))) fun(u:Nat)=>
   k u)
  (fun(a:Nat)=>
   l a) f.toNat 0 j)
 (fun(j:Nat)=>
  need (decide (j=ys_.length)) (some ())) f.toNat 0 0
abbrev Eb (a:Gr):List AV:=[U8 (a.g 0),U8 (a.g 1),U8 (a.g 2),U8 (a.g 3),U8 (a.g 4),U8 (a.g 5),U8 (a.g 6),U8 (a.g 7),U8 (a.g 8),U8 (a.g 9),U8 (a.g 10),U8 (a.g 11),U8 (a.g 12),U8 (a.g 13),U8 (a.g 14),U8 (a.g 15),U8 (a.g 16),U8 (a.g 17),U8 (a.g 18),U8 (a.g 19),U8 (a.g 20),U8 (a.g 21),U8 (a.g 22),U8 (a.g 23)]
theorem Gb9 (F:Nat) (n:Int) (a:Gr) (t:Int) (ys_:List (G5×Gr)) (q_:Unit) (h:Yr F n a t ys_=some q_):Iter E8 74 [.dptr [I64 n],.dptr [.dptr (Gr.cs a)],.dptr [I64 t]] (ys_.map (fun y:G5×Gr=>[.agg [I64 y.1.From,I64 y.1.To],.agg (Gr.cs y.2)])):=by
 unfold Yr at h
 refine Qf5 Try.func74 O O ?_
 intro E hE hys
 refine G36 (fun K1 d0=>G05 (Re (u:=I64 n) hE (Gm Gi O O O) ?_ O O O O))
 refine Re (u:=I64 0) hE (G2 O O) ?_ O O O O
 refine G67 ?_
 refine d0 _ _ _ (H94 ?_)
 obtain⟨d1,h⟩:=J3 h
 obtain⟨b2,d2,d3,b0,h⟩:=Gbb h
 refine Jbf (fun m (s2:Nat)=>upto b2 d2 (n.toNat - m) m s2=some q_) (fun m s2=>[(0,.sc (.func (.yield E.lp) #[] #[])),(1,.dptr [I64 n]),(2,.dptr [.dptr (Gr.cs a)]),(3,.dptr [I64 t]),(10,I64 n),(11,E7 m)]) (fun m s2=>[]) (fun m s2=>s2) (fun m=>n.toNat - m) 0 0 h ⟨(.sm O O),ø,rfl⟩ rfl ?_
 clear h
 intro m s2 a8 K2 e2
 refine G36 (fun K3 d4=>G05 (Re (u:=BL (decide ((m:Int) < n))) hE (Hz O O O) ?_ O O O O))
 refine G67 ?_
 refine d4 _ _ _ (G36 (fun K4 d5=>H93 O (fun hb=>?_) (fun hb=>?_)))
 ·
  have a9:=G84 hb
  obtain⟨e8,d6,h⟩:=G7d a8 a9
  replace h:=Jb8 d3 h
  refine Hdc (d5 _ _ _ (G36 (fun K5 d7=>H94 (G36 (fun K6 d8=>G05 (Re (u:=E7 m) hE (G2 O O) ?_ O O O O))))))
  refine Re (u:=E7 m) hE (G4 O O) ?_ O O O O
  refine G67 ?_
  refine d8 _ _ _ (G36 (fun K7 d9=>G05 (Re (u:=I64 n) hE (Gm Gi O O O) ?_ O O O O)))
  refine Re (u:=I64 0) hE (G2 O O) ?_ O O O O
  refine G67 ?_
  refine d9 _ _ _ (H94 ?_)
  obtain⟨b1,h⟩:=J3 h
  obtain⟨e0,b3,b4,a6,h⟩:=Gbb h
  refine Jbf (fun j (p:Nat)=>upto e0 b3 (n.toNat - j) j p=some q_) (fun j p=>[(0,.sc (.func (.yield E.lp) #[] #[])),(1,.dptr [I64 n]),(2,.dptr [.dptr (Gr.cs a)]),(3,.dptr [I64 t]),(5,E7 m),(10,I64 n),(11,E7 m),(14,I64 n),(15,E7 j)]) (fun j p=>[]) (fun j p=>p) (fun j=>n.toNat - j) 0 s2 h ⟨(.sm O O),ø,rfl⟩ rfl ?_
  clear h
  intro j p a3 e9 e1
  refine G36 (fun f0 b5=>G05 (Re (u:=BL (decide ((j:Int) < n))) hE (Hz O O O) ?_ O O O O))
  refine G67 ?_
  refine b5 _ _ _ (G36 (fun f1 b6=>H93 O (fun hb=>?_) (fun hb=>?_)))
  ·
   have a4:=G84 hb
   obtain⟨e7,b7,h⟩:=G7d a3 a4
   replace h:=Jb8 b4 h
   refine Hdc (b6 _ _ _ ?_)
   obtain⟨b8,a7,h⟩:=G0e h
   refine Qf0 (fun s:Nat=>b8 s=some q_) (fun s=>[(0,.sc (.func (.yield E.lp) #[] #[])),(1,.dptr [I64 n]),(2,.dptr [.dptr (Gr.cs a)]),(3,.dptr [I64 t]),(5,E7 m),(10,I64 n),(11,E7 m),(14,I64 n),(15,E7 j)]) (fun s=>[]) (fun s=>s) (fun Kj53 ej53=>?_) ?_
   ·
    refine H94 (G36 (fun f2 b9=>G05 (Re (u:=E7 j) hE (G2 O O) ?_ O O O O)))
    refine Re (u:=E7 j) hE (G4 O O) ?_ O O O O
    refine G67 ?_
    refine b9 _ _ _ (G36 (fun f3 c0=>?_))
    obtain⟨o,c1,h⟩:=Gd h
    obtain⟨q,c2,h⟩:=Gd h
    refine Q4d [] [0,0,0,0,0,0,0,0] [0,0,0,0,0,0,0,0] [[]] hE Jj (by kernel_rfl) rfl rfl (Gb (u:=.dptr (Gr.cs a)) O O ⟨Ga (Gm Gca O O O) O,ø⟩ (Gb (u:=E7 m) O O ⟨Ga (G2 O O) O,ø⟩ (Gb (u:=I64 o) O O ⟨Ga (Gt O (G14 F a (m:Int) o c1) H4e ⟨O,O,O,O,ø⟩) O,ø⟩ (Gb (u:=.dptr (Gr.cs a)) O O ⟨Ga (Gm Gca O O O) O,ø⟩ (Gb (u:=E7 j) O O ⟨Ga (G2 O O) O,ø⟩ (Gb (u:=I64 q) O O ⟨Ga (Gt O (G14 F a (j:Int) q c2) H4e ⟨O,O,O,O,ø⟩) O,ø⟩ (Gb (u:=I64 o) O O ⟨Ga (G4 O O) O,ø⟩ (Gb (u:=I64 q) O O ⟨Ga (G4 O O) O,ø⟩ (Y9 (c0 _ _ _ (G36 (fun f4 c3=>G36 (fun f5 c4=>G05 ?_)))))))))))))
    refine Re (u:=E7 m) hE (G2 O O) ?_ O O O O
    refine Re (u:=E7 j) hE (G2 O O) ?_ O O O O
    refine Re (u:=BL (decide ((m:Int)=(j:Int)))) hE (Ym O O O) ?_ O O O O
    refine Re (u:=BL (decide ((m:Int)=(j:Int)))) hE (G2 O O) ?_ O O O O
    refine H95 (u:=I64 o) [] hE O O O .scf ø (fun hc=>G2 O O) ?_ O O O
    refine H95 (u:=BL (decide (o=0))) [(28,I64 o)] hE O O O .scf ⟨.all id,ø⟩ (fun hc=>Ym O O O) ?_ O O O
    refine Re (u:=BL ((decide ((m:Int)=(j:Int)))||(decide (o=0)))) hE (Ze O O O O) ?_ O O O O
    refine Re (u:=BL ((decide ((m:Int)=(j:Int)))||(decide (o=0)))) hE (G2 O O) ?_ O O O O
    refine H95 (u:=I64 q) [] hE O O O .scf ø (fun hc=>G2 O O) ?_ O O O
    refine H95 (u:=I64 t) [] hE O O O .scf ø (fun hc=>Gm Gi O O O) ?_ O O O
    refine H95 (u:=BL (decide (q=t))) [(32,I64 q),(33,I64 t)] hE O O O .scf ⟨.all id,.all id,ø⟩ (fun hc=>Ym O O O) ?_ O O O
    refine Re (u:=BL (((decide ((m:Int)=(j:Int)))||(decide (o=0)))||(decide (q=t)))) hE (Ze O O O O) ?_ O O O O
    refine G67 ?_
    refine c4 _ _ _ (H93 O (fun hb=>?_) (fun hb=>?_))
    ·
     replace h:=H6 hb h
     refine J79 (ej53 _ _ _ p h ⟨(.sm O O),ø,rfl⟩ rfl)
    ·
     replace h:=Hr hb h
     refine Hdc (c3 _ _ _ (G36 (fun f6 c5=>G05 (Re (u:=.dptr (Gr.cs a)) hE (Gm Gca O O O) ?_ O O O O))))
     refine Re (u:=.dptr (Gr.cs a)) hE (H2b O O) ?_ O O O O
     refine Re (u:=.agg (Gr.cs a)) hE (Gv G4a O O O) ?_ O O O O
     refine Re (u:=.ptr 1080 0) hE (Ji 1080 24 H11 O O) ?_ O O O O
     refine Qf3 (u:=.junk) hE (Ho (u:=.agg (Gr.cs a)) (ds:=(Eb a)) H4a O O O O O O O O) ?_ O O O
     refine G67 ?_
     refine c5 _ _ _ (G36 (fun f7 c6=>Q4c (l':=[(0,.sc (.func (.yield E.lp) #[] #[])),(1,.dptr [I64 n]),(2,.dptr [.dptr (Gr.cs a)]),(3,.dptr [I64 t]),(5,E7 m),(6,E7 j),(7,I64 o),(8,I64 q),(9,.ptr 1080 0),(10,I64 n),(11,E7 m),(14,I64 n),(15,E7 j)]) (L':=[(1080,.box 77 (Eb a))]) ⟨(.sm O O),⟨fbQ O (.sm O O),ø⟩,rfl⟩ ?_))
     obtain⟨e3,a5,h⟩:=Jh h
     obtain⟨e4,c7,h⟩:=Jh h
     obtain⟨c,a1,h⟩:=Gd h
     obtain⟨d,a2,h⟩:=Gd h
     obtain⟨e,v,h⟩:=Gd h
     obtain⟨i,w,h⟩:=Gd h
     obtain⟨k,r,h⟩:=Gd h
     obtain⟨l,z,h⟩:=Gd h
     refine Q4d [13,16] [0,0,0,0,0,0,0,0,0,0,0,0,0,0,0,1,0] [0,0,1,1,1,0,0,0,0,0,0,0,0,0,1,1,0] [[(1080,.box 77 (Eb a))],((1080,.box 77 [U8 ((a.set (e*6+i*1) (a.g (c*6+d*1))).g 0),U8 ((a.set (e*6+i*1) (a.g (c*6+d*1))).g 1),U8 ((a.set (e*6+i*1) (a.g (c*6+d*1))).g 2),U8 ((a.set (e*6+i*1) (a.g (c*6+d*1))).g 3),U8 ((a.set (e*6+i*1) (a.g (c*6+d*1))).g 4),U8 ((a.set (e*6+i*1) (a.g (c*6+d*1))).g 5),U8 ((a.set (e*6+i*1) (a.g (c*6+d*1))).g 6),U8 ((a.set (e*6+i*1) (a.g (c*6+d*1))).g 7),U8 ((a.set (e*6+i*1) (a.g (c*6+d*1))).g 8),U8 ((a.set (e*6+i*1) (a.g (c*6+d*1))).g 9),U8 ((a.set (e*6+i*1) (a.g (c*6+d*1))).g 10),U8 ((a.set (e*6+i*1) (a.g (c*6+d*1))).g 11),U8 ((a.set (e*6+i*1) (a.g (c*6+d*1))).g 12),U8 ((a.set (e*6+i*1) (a.g (c*6+d*1))).g 13),U8 ((a.set (e*6+i*1) (a.g (c*6+d*1))).g 14),U8 ((a.set (e*6+i*1) (a.g (c*6+d*1))).g 15),U8 ((a.set (e*6+i*1) (a.g (c*6+d*1))).g 16),U8 ((a.set (e*6+i*1) (a.g (c*6+d*1))).g 17),U8 ((a.set (e*6+i*1) (a.g (c*6+d*1))).g 18),U8 ((a.set (e*6+i*1) (a.g (c*6+d*1))).g 19),U8 ((a.set (e*6+i*1) (a.g (c*6+d*1))).g 20),U8 ((a.set (e*6+i*1) (a.g (c*6+d*1))).g 21),U8 ((a.set (e*6+i*1) (a.g (c*6+d*1))).g 22),U8 ((a.set (e*6+i*1) (a.g (c*6+d*1))).g 23)])::[(1080,.box 77 (Eb a))]),((1080,.box 77 [U8 (((a.set (e*6+i*1) (a.g (c*6+d*1))).set (k*6+l*1) 0).g 0),U8 (((a.set (e*6+i*1) (a.g (c*6+d*1))).set (k*6+l*1) 0).g 1),U8 (((a.set (e*6+i*1) (a.g (c*6+d*1))).set (k*6+l*1) 0).g 2),U8 (((a.set (e*6+i*1) (a.g (c*6+d*1))).set (k*6+l*1) 0).g 3),U8 (((a.set (e*6+i*1) (a.g (c*6+d*1))).set (k*6+l*1) 0).g 4),U8 (((a.set (e*6+i*1) (a.g (c*6+d*1))).set (k*6+l*1) 0).g 5),U8 (((a.set (e*6+i*1) (a.g (c*6+d*1))).set (k*6+l*1) 0).g 6),U8 (((a.set (e*6+i*1) (a.g (c*6+d*1))).set (k*6+l*1) 0).g 7),U8 (((a.set (e*6+i*1) (a.g (c*6+d*1))).set (k*6+l*1) 0).g 8),U8 (((a.set (e*6+i*1) (a.g (c*6+d*1))).set (k*6+l*1) 0).g 9),U8 (((a.set (e*6+i*1) (a.g (c*6+d*1))).set (k*6+l*1) 0).g 10),U8 (((a.set (e*6+i*1) (a.g (c*6+d*1))).set (k*6+l*1) 0).g 11),U8 (((a.set (e*6+i*1) (a.g (c*6+d*1))).set (k*6+l*1) 0).g 12),U8 (((a.set (e*6+i*1) (a.g (c*6+d*1))).set (k*6+l*1) 0).g 13),U8 (((a.set (e*6+i*1) (a.g (c*6+d*1))).set (k*6+l*1) 0).g 14),U8 (((a.set (e*6+i*1) (a.g (c*6+d*1))).set (k*6+l*1) 0).g 15),U8 (((a.set (e*6+i*1) (a.g (c*6+d*1))).set (k*6+l*1) 0).g 16),U8 (((a.set (e*6+i*1) (a.g (c*6+d*1))).set (k*6+l*1) 0).g 17),U8 (((a.set (e*6+i*1) (a.g (c*6+d*1))).set (k*6+l*1) 0).g 18),U8 (((a.set (e*6+i*1) (a.g (c*6+d*1))).set (k*6+l*1) 0).g 19),U8 (((a.set (e*6+i*1) (a.g (c*6+d*1))).set (k*6+l*1) 0).g 20),U8 (((a.set (e*6+i*1) (a.g (c*6+d*1))).set (k*6+l*1) 0).g 21),U8 (((a.set (e*6+i*1) (a.g (c*6+d*1))).set (k*6+l*1) 0).g 22),U8 (((a.set (e*6+i*1) (a.g (c*6+d*1))).set (k*6+l*1) 0).g 23)])::((1080,.box 77 [U8 ((a.set (e*6+i*1) (a.g (c*6+d*1))).g 0),U8 ((a.set (e*6+i*1) (a.g (c*6+d*1))).g 1),U8 ((a.set (e*6+i*1) (a.g (c*6+d*1))).g 2),U8 ((a.set (e*6+i*1) (a.g (c*6+d*1))).g 3),U8 ((a.set (e*6+i*1) (a.g (c*6+d*1))).g 4),U8 ((a.set (e*6+i*1) (a.g (c*6+d*1))).g 5),U8 ((a.set (e*6+i*1) (a.g (c*6+d*1))).g 6),U8 ((a.set (e*6+i*1) (a.g (c*6+d*1))).g 7),U8 ((a.set (e*6+i*1) (a.g (c*6+d*1))).g 8),U8 ((a.set (e*6+i*1) (a.g (c*6+d*1))).g 9),U8 ((a.set (e*6+i*1) (a.g (c*6+d*1))).g 10),U8 ((a.set (e*6+i*1) (a.g (c*6+d*1))).g 11),U8 ((a.set (e*6+i*1) (a.g (c*6+d*1))).g 12),U8 ((a.set (e*6+i*1) (a.g (c*6+d*1))).g 13),U8 ((a.set (e*6+i*1) (a.g (c*6+d*1))).g 14),U8 ((a.set (e*6+i*1) (a.g (c*6+d*1))).g 15),U8 ((a.set (e*6+i*1) (a.g (c*6+d*1))).g 16),U8 ((a.set (e*6+i*1) (a.g (c*6+d*1))).g 17),U8 ((a.set (e*6+i*1) (a.g (c*6+d*1))).g 18),U8 ((a.set (e*6+i*1) (a.g (c*6+d*1))).g 19),U8 ((a.set (e*6+i*1) (a.g (c*6+d*1))).g 20),U8 ((a.set (e*6+i*1) (a.g (c*6+d*1))).g 21),U8 ((a.set (e*6+i*1) (a.g (c*6+d*1))).g 22),U8 ((a.set (e*6+i*1) (a.g (c*6+d*1))).g 23)])::[(1080,.box 77 (Eb a))]))] hE Jj (by kernel_rfl) rfl rfl ?_
     refine Gb (u:=E7 j) O O ⟨Ga (G2 O O) O,ø⟩ (Gb (u:=I64 q) O O ⟨Ga (G2 O O) O,ø⟩ (Gb (u:=E7 m) O O ⟨Ga (G2 O O) O,Ga (G2 O O) O,ø⟩ (Gb (u:=I64 o) O O ⟨Ga (G2 O O) O,Ga (G2 O O) O,ø⟩ (Gb (u:=I64 e3) O O ⟨Ga (Zv a5 O O O) O,Ga (Zv a5 O O O) O,ø⟩ (Gb (u:=E7 m) O O ⟨Ga (G2 O O) O,ø⟩ (Gb (u:=I64 o) O O ⟨Ga (G2 O O) O,ø⟩ (Gb (u:=I64 e4) O O ⟨Ga (Zv c7 O O O) O,ø⟩ (Gb (u:=.ptr 1080 (0+c*6)) O O ⟨Ga (H04 G49 O O O (Hc a1).1 (Nat.succ_le_succ (Hc a1).2)) O,ø⟩ (Gb (u:=.ptr 1080 ((0+c*6)+d*1)) O O ⟨Ga (H04 G6e O O O (Hc a2).1 (Nat.succ_le_succ (Hc a2).2)) O,ø⟩ (Gb (u:=U8 (a.g (c*6+d*1))) O O ⟨Ga (Qc7 Gbc O O O (Gr.R7b a (Hc a1).2 (Hc a2).2)) O,ø⟩ (Gb (u:=.ptr 1080 (0+e*6)) O O ⟨Ga (H04 G49 O O O (Hc v).1 (Nat.succ_le_succ (Hc v).2)) O,ø⟩ (Gb (u:=.ptr 1080 ((0+e*6)+i*1)) O O ⟨Ga (H04 G6e O O O (Hc w).1 (Nat.succ_le_succ (Hc w).2)) O,ø⟩ (H41 (u:=.junk) O O O O (Ga (Hb7 (u:=U8 (a.g (c*6+d*1))) H9e O O O O O O (Gr.Q9d (Hc v).2 (Hc w).2) (Gr.Q16 a (Hc v).2 (Hc w).2 (a.g (c*6+d*1)))) O) ?_)))))))))))))
     refine Gb (u:=.ptr 1080 (0+k*6)) O O ⟨Ga (H04 G49 O O O (Hc r).1 (Nat.succ_le_succ (Hc r).2)) O,Ga (H04 G49 O O O (Hc r).1 (Nat.succ_le_succ (Hc r).2)) O,ø⟩ (Gb (u:=.ptr 1080 ((0+k*6)+l*1)) O O ⟨Ga (H04 G6e O O O (Hc z).1 (Nat.succ_le_succ (Hc z).2)) O,ø⟩ (H41 (u:=.junk) O O O O (Ga (Hb7 (u:=U8 0) H9e O O O O O O (Gr.Q9d (Hc r).2 (Hc z).2) (Gr.Q16 (a.set (e*6+i*1) (a.g (c*6+d*1))) (Hc r).2 (Hc z).2 0)) O) (Y9 (c6 _ _ _ (G36 (fun f8 c8=>G05 (Re (u:=.sc (.func (.yield E.lp) #[] #[])) hE (G2 O O) ?_ O O O O)))))))
     refine Re (u:=E7 m) hE (G2 O O) ?_ O O O O
     refine Re (u:=E7 j) hE (G2 O O) ?_ O O O O
     refine Re (u:=.agg [E7 m,E7 j]) hE (Jo (cs:=[E7 m,E7 j]) [(0,1),(1,1)] [I64 0,I64 0] [E0,E0] G2c G6c (zzQ O) O O) ?_ O O O O
     refine Re (u:=.agg (Gr.cs ((a.set (e*6+i*1) (a.g (c*6+d*1))).set (k*6+l*1) 0))) hE (Jg G4a O O O O) ?_ O O O O
     obtain⟨c9,h⟩:=J3 h
     refine Q78 (us:=[.agg [E7 m,E7 j],.agg (Gr.cs ((a.set (e*6+i*1) (a.g (c*6+d*1))).set (k*6+l*1) 0))]) hE O O ⟨O,O,O,O,ø⟩ (Q84 (f:=(fun y:G5×Gr=>[.agg [I64 y.1.From,I64 y.1.To],.agg (Gr.cs y.2)])) (x:=((G5.mk (m:Int) (j:Int)),((a.set (e*6+i*1) (a.g (c*6+d*1))).set (k*6+l*1) 0))) hys c9) ?_ O O O
     refine Re (u:=BL false) hE (Z6 (b:=true) O O) ?_ O O O O
     refine G67 ?_
     refine c8 _ _ _ (Qb4 O (Hdc (ej53 _ _ _ (p+1) h ⟨(.sm O O),ø,rfl⟩ rfl)))
   ·intro s h
    replace h:=app1 a7 h
    refine G05 (Re (u:=I64 ((j+1:Nat):Int)) hE (J2 (Hi a4 (G47 b1)) O O O) ?_ O O O O)
    refine Re (u:=I64 ((j+1:Nat):Int)) hE (G2 O O) ?_ O O O O
    refine G67 ?_
    exact e1 _ _ (j+1) s _ (app1 b7 h) (by omega) ⟨(.sm O O),ø,rfl⟩ rfl
  ·
   have h:=app1 a6 (G7e a3 (Zj hb))
   refine J79 (d7 _ _ _ (G05 (Re (u:=I64 ((m+1:Nat):Int)) hE (J2 (Hi a9 (G47 d1)) O O O) ?_ O O O O)))
   refine Re (u:=I64 ((m+1:Nat):Int)) hE (G2 O O) ?_ O O O O
   refine G67 ?_
   exact e2 _ _ (m+1) p _ (app1 d6 h) (by omega) ⟨(.sm O O),ø,rfl⟩ rfl
 ·
  have h:=app1 b0 (G7e a8 (Zj hb))
  refine J79 (Qd3 (J3 h).1)
theorem Gba (S_:Nat→(Int)→(Gr)→(Int)→Option (List (G5×Gr))) (hS_:∀ F a b c r,S_ F a b c=some r→Yr F a b c r=some ()) (F:Nat) (a:Int) (b:Gr) (c:Int) (r:List (G5×Gr)) (h:S_ F a b c=some r):Iter E8 74 [.dptr [I64 a],.dptr [.dptr (Gr.cs b)],.dptr [I64 c]] (r.map (fun y:G5×Gr=>[.agg [I64 y.1.From,I64 y.1.To],.agg (Gr.cs y.2)])):=Gb9 F a b c r () (hS_ F a b c r h)

def G1f (s:Gr) (stacks:Int) (height:Int):Option Unit:=
 some ()
abbrev Ec (stacks:Int) (s:Gr) (height:Int):List AV:=[.dptr [I64 stacks],.dptr [.dptr (Gr.cs s)],.dptr [I64 height]]
theorem Gdf (s:Gr) (stacks:Int) (height:Int) (r:Unit) (h:G1f s stacks height=some r):Pure E8 42 [.dptr (Gr.cs s),I64 stacks,I64 height] (·=.fn 74 [.dptr [I64 stacks],.dptr [.dptr (Gr.cs s)],.dptr [I64 height]]):=by
 unfold G1f at h
 refine Hb [.tmp 6] Try.func42 O O (Jr fun a=>(JLh (.ptr 1047 0) (Q9 (cs:=[.dptr (Gr.cs s)]) 1047 O O O O O) O (JLh (.ptr 1048 0) (Q9 (cs:=[I64 stacks]) 1048 O O O O O) O (JLh (.ptr 1049 0) (Q9 (cs:=[I64 height]) 1049 O O O O O) O (JLm (.sc .nilFunc) O (G6 (a (H5 [(3,.dptr [.dptr (Gr.cs s)]),(4,.ptr 1048 0),(5,.ptr 1049 0)] [(1048,.box 3 [I64 stacks]),(1049,.box 3 [I64 height])] 1047 rfl rfl rfl ⟨⟨_,rfl,.boxEq rfl rfl⟩,⟨_,rfl,.boxEq rfl rfl⟩,ø⟩ rfl (by exact⟨.ptr,.conv (.same rfl),.conv (.same rfl),ø⟩) (H5 [(3,.dptr [.dptr (Gr.cs s)]),(4,.dptr [I64 stacks]),(5,.ptr 1049 0)] [(1049,.box 3 [I64 height])] 1048 rfl rfl rfl ⟨⟨_,rfl,.boxEq rfl rfl⟩,ø⟩ rfl (by exact⟨.conv (.same rfl),.ptr,.conv (.same rfl),ø⟩) ?_)))))))))
 refine H5 [(3,.dptr [.dptr (Gr.cs s)]),(4,.dptr [I64 stacks]),(5,.dptr [I64 height])] [] 1049 rfl rfl rfl ø rfl (by exact⟨.conv (.same rfl),.conv (.same rfl),.ptr,ø⟩) (Jr fun b=>(JLh (.fn 74 (Ec stacks s height)) (J2b (cs:=(Ec stacks s height)) O O) O (JLm (.fn 74 (Ec stacks s height)) O (G6 (b (H1 (⟨[.fn 74 (Ec stacks s height)],[],ø,O,⟨⟨_,O,.conv (.same O)⟩,ø⟩,O,congrArg (fun _:Unit=>(.fn 74 (Ec stacks s height):AV)) (Ey h)⟩)))))))
end
end Go.Proofs.Ytokjlondbjdlfaa
