/- Walks of functions. -/
import Derived.Test.YtibhpogonkdiaaaGreatSpecD
set_option linter.unnecessarySimpa false
set_option maxRecDepth 100000
set_option maxHeartbeats 1000000
set_option linter.unusedVariables false
set_option linter.unusedSimpArgs false
namespace Go.Proofs.YtibhpogonkdiaaaGreat
open Go.RowKit
noncomputable section

namespace XFF
open XAF
open XCF
theorem Hm:G8f Em 34 13=true:=by kernel_rfl
theorem Qk:G8f Em 65 4=true:=by kernel_rfl
theorem Q4a:He Em 100=true:=by kernel_rfl
theorem J18:He Em 101=true:=by kernel_rfl
theorem Q49:He Em 102=true:=by kernel_rfl
theorem Q40:He Em 119=true:=by kernel_rfl
theorem J68:He Em 60=true:=by kernel_rfl
theorem J5d:He Em 98=true:=by kernel_rfl
theorem Q9c:He Em 99=true:=by kernel_rfl
theorem Gdf:Rq Em 65 4 32=true:=by kernel_rfl
theorem G42:placesOf Em 65=some [(0,1),(1,3)]:=by kernel_rfl
theorem Ga6:Qx Em 187=true:=by kernel_rfl
theorem Yc:R2 Em 65 4=true:=by kernel_rfl
theorem H6:sliceB Em 59 65 4=true:=by kernel_rfl
theorem G93:(Em.info? 65).bind (fun i=>i.zero.map Value.cells)=some (List.toArray [E0,E0,E0,.int .u8 0]):=by kernel_rfl
theorem Qd:Qf Em 65 4=true:=by kernel_rfl
end XFF
open XAF
open XCF
open XFF

def Z8 (s:List Int) (f:Int→Option Bool):Option Int:=
 each (fun b c (d:Unit) a=>
  bnd (f b) fun e=>
  bif e then
  (some (c:Int))
  else
  (a ()))
 (fun(d:Unit)=>
  some (-1)) s 0 ()
theorem H15 (s:List Int) (f:Int→Option Bool) (f_f:FuncId) (f_c:List AV) (f_B:He Em f_f=true) (f_d:Qe (fun _=>false) f_c=true) (f_w:∀ a0 q,f a0=some q→Pure Em f_f ([I64 a0]++f_c) (·=BL q)) (r:Int) (h:Z8 s f=some r):Pure Em 119 [E5 s,.fn f_f f_c] (·=I64 r):=by
 unfold Z8 at h
 refine H7 [.tmp 4] Tryz.func119 O O (Jr fun x=>(JLm (I64 0) O (G6 (x (Js fun z=>Jr fun a1=>(JLm (E5 s) O (JLl Gx O O O fun a2=>(JLm (I64 0) O (G6 (a1 (Gk ?_)))))))))))
 obtain⟨a3,i,j,g,h⟩:=J3 h
 refine Hi (fun a (c:Unit)=>each a3 i (List.drop a s) a c=some r) (fun a c=>[(0,E5 s),(1,.fn f_f f_c),(7,Ek s.length),(8,Ek a)]) (fun a c=>[]) (fun a=>s.length - a) 0 () h ⟨⟨.same O,.same (Jt _ _ f_d),.same O,.same O,ø⟩,ø,O⟩ ?_
 clear h
 intro a c d a7 a4
 refine Jr fun k=>(JLh (BL (decide ((a:Int) < (s.length:Int)))) (Jc O O O) O (G6 (k (Js fun l=>Gn O (fun hb=>?_) (fun hb=>?_)))))
 ·
  have e:=Jk hb
  obtain⟨b,a6,m,n,h⟩:=Hr d e
  replace h:=Ry j h
  refine Gp (l (Js fun o=>Gk (Jr fun p=>(JLm (Ek a) O (JLm (Ek a) O (G6 (p (Jr fun t=>(JLm (.fn f_f f_c) O (JLm (E5 s) O (JLm (Ek a) O (JLh (.dptr [I64 b]) (H3 (f:=I64) (xs:=s) (y:=b) O O O Gx m O) O (JLh (I64 b) (Gf G9 O O O) O ?_)))))))))))))
  obtain⟨a5,u,h⟩:=Gh h
  refine JLh (BL a5) (G18 (args:=[I64 b]) (caps:=f_c) O O (f_w b _ u) f_B ⟨O,O,ø⟩ f_d) O (G6 (t (JCc O h (fun h hb=>?_) (fun h hb=>?_))))
  ·
   refine Jr fun v=>(JLm (Ek a) O (JLm (Ek a) O (G6 (v (Gy (fin1 I64 h))))))
  ·
   refine Gp (o (G2 (JLh (I64 ((a+1:Nat):Int)) (Hv (Ha e a2) O O O) O (JLm (I64 ((a+1:Nat):Int)) O (G6 (a4 _ _ (a+1) () (app1 n h) (by omega) ⟨⟨.same rfl,.same (Jt _ _ f_d),.same rfl,.same rfl,ø⟩,ø,rfl⟩))))))
 ·
  have h:=app1 g (Hs d (H9 hb))
  refine Ho (z (Jr fun w=>(JLm (I64 (-1)) O (G6 (w (Gy (fin1 I64 h)))))))

def Qu (s:List Int) (f:Int→Option Bool):Option Bool:=
 bnd (Z8 s f) fun a=>
 some (decide (0≤a))
theorem Gd2 (s:List Int) (f:Int→Option Bool) (f_f:FuncId) (f_c:List AV) (f_B:He Em f_f=true) (f_d:Qe (fun _=>false) f_c=true) (f_w:∀ a0 q,f a0=some q→Pure Em f_f ([I64 a0]++f_c) (·=BL q)) (r:Bool) (h:Qu s f=some r):Pure Em 99 [E5 s,.fn f_f f_c] (·=BL r):=by
 unfold Qu at h
 refine H7 [.tmp 4] Tryz.func99 O O (Jr fun b=>(JLm (BL false) O (G6 (b (Jr fun c=>(JLm (E5 s) O (JLm (.fn f_f f_c) O ?_)))))))
 obtain⟨a,d,h⟩:=Gh h
 refine JLh (I64 a) (H0 O (H15 s f f_f f_c f_B f_d f_w a d) Q40 ⟨O,O,O,f_d,ø⟩) O (JLh (BL (decide (0≤a))) (Gf2 O O O) O (JLm (BL (decide (0≤a))) O (G6 (c (Gy (fin1 BL h))))))

def Z4 (n:Int):Option Bool:=
 some (decide (0 < n))
theorem H4f (n:Int) (r:Bool) (h:Z4 n=some r):Pure Em 100 [I64 n] (·=BL r):=by
 unfold Z4 at h
 refine H7 [.tmp 2] Tryz.func100 O O (Jr fun a=>(JLm (BL false) O (G6 (a (Jr fun b=>(JLm (I64 n) O (JLh (BL (decide (0 < n))) (G29 O O O) O (JLm (BL (decide (0 < n))) O (G6 (b (Gy (fin1 BL h))))))))))))

def G28 (s:Ge) (heights:List Int) (ids:List Int):Option Unit:=
 some ()
theorem H06 (s:Ge) (heights:List Int) (ids:List Int) (r:Unit) (h:G28 s heights ids=some r):Pure Em 60 [.agg (Ge.cs s),E5 heights,E5 ids] (·=.fn 98 [.dptr [E5 ids],Ef s,.dptr [E5 heights]]):=by
 unfold G28 at h
 refine H7 [.tmp 6] Tryz.func60 O O (Jr fun a=>(JLh (.ptr 1130 0) (Jx (cs:=(Ge.cs s)) 1130 O O O O O) O (JLh (.ptr 1131 0) (Jx (cs:=[E5 heights]) 1131 O O O O O) O (JLh (.ptr 1132 0) (Jx (cs:=[E5 ids]) 1132 O O O O O) O (JLm (.sc .nilFunc) O (G6 (a ?_)))))))
 refine Gj [(3,Ef s),(4,.ptr 1131 0),(5,.ptr 1132 0)] [(1131,.box 39 [E5 heights]),(1132,.box 39 [E5 ids])] 1130 rfl rfl rfl ⟨⟨_,rfl,.boxEq rfl rfl⟩,⟨_,rfl,.boxEq rfl rfl⟩,ø⟩ rfl (by exact⟨.ptr,.conv (.same rfl),.conv (.same rfl),ø⟩) (Gj [(3,Ef s),(4,.dptr [E5 heights]),(5,.ptr 1132 0)] [(1132,.box 39 [E5 ids])] 1131 rfl rfl rfl ⟨⟨_,rfl,.boxEq rfl rfl⟩,ø⟩ rfl (by exact⟨.conv (.same rfl),.ptr,.conv (.same rfl),ø⟩) (Gj [(3,Ef s),(4,.dptr [E5 heights]),(5,.dptr [E5 ids])] [] 1132 rfl rfl rfl ø rfl (by exact⟨.conv (.same rfl),.conv (.same rfl),.ptr,ø⟩) ?_))
 refine Jr fun b=>(JLh (.fn 98 [.dptr [E5 ids],Ef s,.dptr [E5 heights]]) (Yh (cs:=[.dptr [E5 ids],Ef s,.dptr [E5 heights]]) O O) O (JLm (.fn 98 [.dptr [E5 ids],Ef s,.dptr [E5 heights]]) O (G6 (b (Gy (⟨[.fn 98 [.dptr [E5 ids],Ef s,.dptr [E5 heights]]],[],ø,O,⟨⟨_,O,.conv (.same O)⟩,ø⟩,O,congrArg (fun _:Unit=>(.fn 98 [.dptr [E5 ids],Ef s,.dptr [E5 heights]]:AV)) (M0 h)⟩))))))

def G09 (self_:(List Int)→(Ge)→(List Int)→Option (List (List G1))) (F:Nat) (o:List Int) (p:Ge) (d:List Int) (ys_:List (List G1)):Option Unit:=
 bif decide ((o.length:Int)=0) then
 (need (decide (ys_[0]? = some [])) <|
  need (decide ((0+1)=ys_.length)) (some ()))
 else
 (each (fun z a (j:Nat) t=>
   jp (fun e=>
    bnd (Gc7 ((a+1:Nat):Int) d.length) fun u=>
    bnd (Qu (d.drop u) (fun z0=>Z4 z0)) fun k=>
    bnd (bif (!k) then Jz d (a:Int) some else some default) fun v=>
    bif (k||(decide (z.Tiers≤v))) then
    (e j)
    else
    (each (fun f l (g:Nat) q=>
      Jz d (a:Int) fun h=>
      bnd (Qg d) fun b=>
      Jz b (a:Int) fun w=>
      chk (w+1) fun m=>
      Jz b (a:Int) fun a0=>
      bnd (Qg o) fun x=>
      bnd (Z3 x (l:Int) ((l+1:Nat):Int)) fun n=>
      bnd (G28 p (b.set (a:Int).toNat m) n) fun a1=>
      bnd (self_ n p (b.set (a:Int).toNat m)) fun r=>
      each (fun i a2 (c:Nat) s=>
       need (decide (([(G1.mk f (Slot.mk (a:Int) h 0))].length+i.length)*32≤140737488355328∧[(G1.mk f (Slot.mk (a:Int) h 0))].length+i.length≤maxLen)) <|
       need (decide (ys_[c]? = some ([(G1.mk f (Slot.mk (a:Int) h 0))]++i))) <|
       s (c+1))
      (fun(c:Nat)=>
       q c) r 0 g)
     (fun(g:Nat)=>
      e g) o 0 j)) fun(y:Nat)=>
   t y)
  (fun(j:Nat)=>
   need (decide (j=ys_.length)) (some ())) p.Columns 0 0)
theorem H8f (self_:(List Int)→(Ge)→(List Int)→Option (List (List G1))) (self_w:∀ (i:List Int) (g:Ge) (k:List Int) (r:List (List G1)),self_ i g k=some r→Jf5 Em 98 [.dptr [E5 i],Ef g,.dptr [E5 k]] 65 4 (r.map (fun y:(List G1)=>[E4 y]))) (F:Nat) (i:List Int) (g:Ge) (k:List Int) (ys_:List (List G1)) (q_:Unit) (h:G09 self_ F i g k ys_=some q_):Jf5 Em 98 [.dptr [E5 i],Ef g,.dptr [E5 k]] 65 4 (ys_.map (fun y:(List G1)=>[E4 y])):=by
 unfold G09 at h
 refine R85 Tryz.func98 O O ?_
 intro E hE hys
 refine Qb (fun K1 g5=>Jh (Hp (u:=.ptr 1166 0) hE (Jx (cs:=[.sc (.func (.yield E.lp) #[] #[])]) 1166 O O O O O) ?_ O O O O))
 refine Q9 ?_
 refine g5 _ _ _ (Jf3 [(1,.dptr [E5 i]),(2,Ef g),(3,.dptr [E5 k]),(4,.dptr [.sc (.func (.yield E.lp) #[] #[])])] [] 1166 rfl rfl rfl ø rfl (by repeat' (first | exact .ptr | constructor)) (Qb (fun K2 g6=>Qb (fun K3 g7=>Jh (Hp (u:=E5 i) hE (Gf Qi O O O) ?_ O O O O)))))
 refine H26 hE (f:=I64) (xs:=i) Gx O O (fun i3=>?_) O O O
 refine Hp (u:=BL (decide ((i.length:Int)=0))) hE (Q4 O O O) ?_ O O O O
 refine Q9 ?_
 refine g7 _ _ _ (Gaf O (fun hb=>?_) (fun hb=>?_))
 ·
  replace h:=Hc hb h
  refine Qb (fun K4 g8=>Jh (Hp (u:=.sc (.func (.yield E.lp) #[] #[])) hE (Gf Ga6 O O O) ?_ O O O O))
  obtain⟨g9,h⟩:=J0 h
  refine Qed hE O O O (J4f (f:=(fun y:(List G1)=>[E4 y])) (x:=([]:List G1)) hys g9) ?_ O O O
  refine Q9 ?_
  refine g8 _ _ _ (Rfd (J45 (J0 h).1))
 ·
  replace h:=Hy hb h
  refine G8c (g6 _ _ _ (Qb (fun K6 h0=>Jh (Hp (u:=Ef g) hE (Gd Hk O O O) ?_ O O O O))))
  refine Hp (u:=Ea g.Columns) hE (Gf J2 O O O) ?_ O O O O
  refine H26 hE (f:=G5.av) (xs:=g.Columns) Hj O O (fun b1=>?_) O O O
  refine Hp (u:=I64 0) hE (G4 O O) ?_ O O O O
  refine Q9 ?_
  refine h0 _ _ _ (G06 ?_)
  obtain⟨b7,h1,h2,c7,h⟩:=J3 h
  refine H25 (fun a (s7:Nat)=>each b7 h1 (List.drop a g.Columns) a s7=some q_) (fun a s7=>[(1,.dptr [E5 i]),(2,Ef g),(3,.dptr [E5 k]),(4,.dptr [.sc (.func (.yield E.lp) #[] #[])]),(18,Ek g.Columns.length),(19,Ek a)]) (fun a s7=>[]) (fun a s7=>s7) (fun a=>g.Columns.length - a) 0 0 h ⟨(.sm O O),ø,rfl⟩ rfl ?_
  clear h
  intro a s7 c5 K7 e7
  refine Qb (fun K8 h3=>Jh (Hp (u:=BL (decide ((a:Int) < (g.Columns.length:Int)))) hE (Jc O O O) ?_ O O O O))
  refine Q9 ?_
  refine h3 _ _ _ (Qb (fun K9 h4=>Gaf O (fun hb=>?_) (fun hb=>?_)))
  ·
   have b2:=Jk hb
   obtain⟨y7,i9,h5,h6,h⟩:=Hr c5 b2
   replace h:=Ry h2 h
   refine G8c (h4 _ _ _ ?_)
   obtain⟨c8,c0,h⟩:=R1 h
   refine Rb6 (fun t:Nat=>c8 t=some q_) (fun t=>[(1,.dptr [E5 i]),(2,Ef g),(3,.dptr [E5 k]),(4,.dptr [.sc (.func (.yield E.lp) #[] #[])]),(18,Ek g.Columns.length),(19,Ek a)]) (fun t=>[]) (fun t=>t) (fun Kj10 ej10=>?_) ?_
   ·
    refine G06 (Qb (fun j0 c9=>Jh (Hp (u:=Ek a) hE (G4 O O) ?_ O O O O)))
    refine Hp (u:=Ek a) hE (G7 O O) ?_ O O O O
    refine Q9 ?_
    refine c9 _ _ _ (Qb (fun j1 d0=>Qb (fun j2 d1=>?_)))
    obtain⟨c6,d2,h⟩:=Gh h
    obtain⟨l,d3,h⟩:=Gh h
    obtain⟨v,d4,h⟩:=Gh h
    refine R10 [] (.replicate 18 0) (.replicate 18 0) [[]] hE Q0 (by kernel_rfl) rfl rfl ?_
    refine Gq (u:=E5 k) O O ⟨Gm (Gf Qi O O O) O,ø⟩ (Gq (u:=Ek a) O O ⟨Gm (G4 O O) O,ø⟩ (Gq (u:=I64 ((a+1:Nat):Int)) O O ⟨Gm (Hv (Ha b2 b1) O O O) O,ø⟩ (Gq (u:=E5 (k.drop c6)) O O ⟨Gm (Qf1 (f:=I64) (xs:=k) O O O Gx (Yf d2)) O,ø⟩ (Gq (u:=BL l) O O ⟨Gm (H0 O (Gd2 (k.drop c6) (fun z0=>Z4 z0) 100 [] Q4a O (fun z0 q hq=>H4f z0 q hq) l d3) Q9c ⟨O,O,O,O,ø⟩) O,ø⟩ (Gq (u:=BL l) O O ⟨Gm (G4 O O) O,ø⟩ (Gq (u:=.opt (!l) (E5 k)) O O ⟨Jq [] O O O .scf ø (fun hc=>Gf Qi O O O) O,ø⟩ (Gq (u:=.opt (!l) (Ek a)) O O ⟨Jq [] O O O .scf ø (fun hc=>G4 O O) O,ø⟩ (Gq (u:=.opt (!l) (.dptr [I64 v])) O O ⟨Jq [(28,E5 k),(29,Ek a)] O O O .scf ⟨.all id,.all id,ø⟩ (fun hc=>(match G13 (Hc hc d4) with | ⟨_,hm_,hy_⟩=>H3 (f:=I64) (xs:=k) (y:=v) O O O Gx hy_ hm_)) O,ø⟩ (Gq (u:=.opt (!l) (I64 v)) O O ⟨Jq [(30,.dptr [I64 v])] O O O .scf ⟨.all id,ø⟩ (fun hc=>Gf G9 O O O) O,ø⟩ (Gq (u:=.opt (!l) (Ef g)) O O ⟨Jq [] O O O .scf ø (fun hc=>Gd Hk O O O) O,ø⟩ (Gq (u:=.opt (!l) (Ea g.Columns)) O O ⟨Jq [(32,Ef g)] O O O .scf ⟨.all id,ø⟩ (fun hc=>Gf J2 O O O) O,ø⟩ (Gq (u:=.opt (!l) (Ek a)) O O ⟨Jq [] O O O .scf ø (fun hc=>G4 O O) O,ø⟩ (Gq (u:=.opt (!l) (Eh y7)) O O ⟨Jq [(33,Ea g.Columns),(34,Ek a)] O O O .scf ⟨.all id,.all id,ø⟩ (fun hc=>H3 (f:=G5.av) (xs:=g.Columns) (y:=y7) O O O Hj h5 O) O,ø⟩ ?_)))))))))))))
    refine Gq (u:=.opt (!l) (.dptr ((G5.cs y7).drop 3))) O O ⟨Jq [(35,Eh y7)] O O O .scf ⟨.all id,ø⟩ (fun hc=>Gd Y0 O O O) O,ø⟩ (Gq (u:=.opt (!l) (I64 y7.Tiers)) O O ⟨Jq [(36,.dptr ((G5.cs y7).drop 3))] O O O .scf ⟨.all id,ø⟩ (fun hc=>Gf G9 O O O) O,ø⟩ (Gq (u:=.opt (!l) (BL (decide (y7.Tiers≤v)))) O O ⟨Jq [(31,I64 v),(37,I64 y7.Tiers)] O O O .scf ⟨.all id,.all id,ø⟩ (fun hc=>Gf2 O O O) O,ø⟩ (Gq (u:=BL (l||(decide (y7.Tiers≤v)))) O O ⟨Gm (G24 O O O O) O,ø⟩ (Z7 (d1 _ _ _ (Gaf O (fun hb=>?_) (fun hb=>?_)))))))
    ·
     replace h:=Hc hb h
     refine H44 (ej10 _ _ _ s7 h ⟨(.sm O O),ø,rfl⟩ rfl)
    ·
     replace h:=Hy hb h
     refine G8c (d0 _ _ _ (Qb (fun j3 d5=>Jh (Hp (u:=E5 i) hE (Gf Qi O O O) ?_ O O O O))))
     refine H26 hE (f:=I64) (xs:=i) Gx O O (fun b0=>?_) O O O
     refine Hp (u:=I64 0) hE (G4 O O) ?_ O O O O
     refine Q9 ?_
     refine d5 _ _ _ (G06 ?_)
     obtain⟨h7,d6,d7,c1,h⟩:=J3 h
     refine H25 (fun e (o:Nat)=>each h7 d6 (List.drop e i) e o=some q_) (fun e o=>[(1,.dptr [E5 i]),(2,Ef g),(3,.dptr [E5 k]),(4,.dptr [.sc (.func (.yield E.lp) #[] #[])]),(5,Ek a),(18,Ek g.Columns.length),(19,Ek a),(40,E5 i),(41,Ek i.length),(42,Ek e)]) (fun e o=>[]) (fun e o=>o) (fun e=>i.length - e) 0 s7 h ⟨(.sm O O),ø,rfl⟩ rfl ?_
     clear h
     intro e o b3 j4 h8
     refine Qb (fun j5 d8=>Jh (Hp (u:=BL (decide ((e:Int) < (i.length:Int)))) hE (Jc O O O) ?_ O O O O))
     refine Q9 ?_
     refine d8 _ _ _ (Qb (fun j6 d9=>Gaf O (fun hb=>?_) (fun hb=>?_)))
     ·
      have a4:=Jk hb
      obtain⟨c,i6,e0,e1,h⟩:=Hr b3 a4
      replace h:=Ry d7 h
      refine G8c (d9 _ _ _ (Qb (fun j7 e2=>G06 (Qb (fun j8 e3=>Jh (Hp (u:=Ek e) hE (G4 O O) ?_ O O O O))))))
      refine Hp (u:=.dptr [I64 c]) hE (H3 (f:=I64) (xs:=i) (y:=c) O O O Gx e0 O) ?_ O O O O
      refine Hp (u:=I64 c) hE (Gf G9 O O O) ?_ O O O O
      refine Hp (u:=Ek e) hE (G7 O O) ?_ O O O O
      refine Hp (u:=I64 c) hE (G7 O O) ?_ O O O O
      refine Q9 ?_
      refine e3 _ _ _ (Qb (fun j9 e4=>Jh (Hp (u:=I64 c) hE (G4 O O) ?_ O O O O)))
      refine Hp (u:=Ek a) hE (G4 O O) ?_ O O O O
      refine Hp (u:=E5 k) hE (Gf Qi O O O) ?_ O O O O
      refine Hp (u:=Ek a) hE (G4 O O) ?_ O O O O
      obtain⟨k0,d,e5,e6,h⟩:=Qm h
      refine Hp (u:=.dptr [I64 d]) hE (H3 (f:=I64) (xs:=k) (y:=d) O O O Gx e6 e5) ?_ O O O O
      refine Hp (u:=I64 d) hE (Gf G9 O O O) ?_ O O O O
      refine Hp (u:=.agg [Ek a,I64 d,U8 0]) hE (J6 (cs:=[Ek a,I64 d,U8 0]) [(0,1),(1,1),(2,1)] [I64 0,I64 0,U8 0] [E0,E0,.int .u8 0] G74 G94 (zzQ O) O O) ?_ O O O O
      refine Hp (u:=.agg [I64 c,Ek a,I64 d,U8 0]) hE (J6 (cs:=[I64 c,Ek a,I64 d,U8 0]) [(0,1),(1,3)] [I64 0,I64 0,I64 0,U8 0] [E0,E0,E0,.int .u8 0] G42 G93 (zzQ O) O O) ?_ O O O O
      refine Hp (u:=.ptr 1167 0) hE (Hd 1167 4 Qd O O) ?_ O O O O
      refine Q21 (u:=.junk) hE (Gz (u:=.agg [I64 c,Ek a,I64 d,U8 0]) (ds:=[I64 c,Ek a,I64 d,U8 0]) Yc O O O O O O O O) ?_ O O O
      refine Q9 ?_
      refine e4 _ _ _ (Jf3 [(1,.dptr [E5 i]),(2,Ef g),(3,.dptr [E5 k]),(4,.dptr [.sc (.func (.yield E.lp) #[] #[])]),(5,Ek a),(6,Ek e),(8,.dptr [I64 c,Ek a,I64 d,U8 0]),(18,Ek g.Columns.length),(19,Ek a),(40,E5 i),(41,Ek i.length),(42,Ek e)] [] 1167 rfl rfl rfl ø rfl (by repeat' (first | exact .ptr | constructor)) (Qb (fun k1 e8=>Jh (Hp (u:=E5 k) hE (Gf Qi O O O) ?_ O O O O))))
      obtain⟨j,e9,h⟩:=Gh h
      refine R82 hE O O O (Q87 (args:=[E5 k]) (L0:=[]) (u:=fun p=>.vec 1020000002 p 1 j.length) (Lr:=fun p=>[(1020000002,.vec 3 1 p (j.map I64))]) O (Gba k j e9) J18 ⟨.inl O,O,ø⟩ ø O (fun _=>O)) ?_
      rintro u_ L_ ⟨a1,rfl,rfl⟩
      refine Hp (u:=.vec 1020000002 a1 1 j.length) hE (G7 O O) ?_ O O O O
      refine Q9 ?_
      refine e8 _ _ _ (Qb (fun k2 f0=>Jh (Hp (u:=.vec 1020000002 a1 1 j.length) hE (G4 O O) ?_ O O O O)))
      refine Hp (u:=Ek a) hE (G4 O O) ?_ O O O O
      obtain⟨b4,c2,b5,h⟩:=Gd7 h
      refine Hp (u:=.vptr 1020000002 a1 ((a:Int).toNat) 0) hE (H86 (f:=I64) (xs:=j) (y:=b4) O O O O Gx b5 c2) ?_ O O O O
      refine Hp (u:=I64 b4) hE (Ja8 (f:=I64) (xs:=j) (y:=b4) G9 O O O b5 O O) ?_ O O O O
      obtain⟨n,f1,h⟩:=J5 h
      refine Hp (u:=I64 n) hE (Hv f1 O O O) ?_ O O O O
      obtain⟨h9,c3,b6,h⟩:=Gd7 h
      refine Hp (u:=.vptr 1020000002 a1 ((a:Int).toNat) 0) hE (H86 (f:=I64) (xs:=j) (y:=h9) O O O O Gx b6 c3) ?_ O O O O
      refine Q21 (u:=.junk) hE (Jf8 (f:=I64) (xs:=j) (z:=n) Zf O O O O (Ky b6).1 O O O O) ?_ O O O
      refine Q9 ?_
      refine f0 _ _ _ (Qb (fun k3 f2=>R0f (l':=[(1,.dptr [E5 i]),(2,Ef g),(3,.dptr [E5 k]),(4,.dptr [.sc (.func (.yield E.lp) #[] #[])]),(5,Ek a),(6,Ek e),(8,.dptr [I64 c,Ek a,I64 d,U8 0]),(9,.vec 1020000002 a1 1 j.length),(18,Ek g.Columns.length),(19,Ek a),(40,E5 i),(41,Ek i.length),(42,Ek e)]) (L':=[(1020000002,.vec 3 1 a1 ((j.set (a:Int).toNat n).map I64))]) ⟨(.sm O O),⟨⟨_,rfl,.vec⟩,ø⟩,rfl⟩ ?_))
      refine Qeb [(1,.dptr [E5 i]),(2,Ef g),(3,.dptr [E5 k]),(4,.dptr [.sc (.func (.yield E.lp) #[] #[])]),(5,Ek a),(6,Ek e),(8,.dptr [I64 c,Ek a,I64 d,U8 0]),(9,E5 (j.set (a:Int).toNat n)),(18,Ek g.Columns.length),(19,Ek a),(40,E5 i),(41,Ek i.length),(42,Ek e)] [] 1020000002 rfl rfl ø rfl (by exact⟨.conv (.same rfl),.conv (.same rfl),.conv (.same rfl),.conv (.same rfl),.conv (.same rfl),.conv (.same rfl),.conv (.same rfl),.vec,.conv (.same rfl),.conv (.same rfl),.conv (.same rfl),.conv (.same rfl),.conv (.same rfl),ø⟩) ?_
      obtain⟨w,f3,h⟩:=Gh h
      obtain⟨a0,f4,h⟩:=Gh h
      obtain⟨i0,f5,h⟩:=Gh h
      refine R10 [3,7] [0,0,0,0,0,0,0,0,2] [2,2,0,0,1,1,1,0,2] [[],((1020000002,.vec 3 1 0 (w.map I64))::[]),((1020000002,.vec 3 1 (0+2+1) (([]:List Int).map I64))::((1020000002,.vec 3 1 0 (w.map I64))::[]))] hE Q0 (by kernel_rfl) rfl rfl ?_
      refine Gq (u:=.agg (Ge.cs g)) O O ⟨Gm (Gi Hm O O O) O,Gm (Gi Hm O O O) O,Gm (Gi Hm O O O) O,ø⟩ (Gq (u:=E5 (j.set (a:Int).toNat n)) O O ⟨Gm (G4 O O) O,Gm (G4 O O) O,Gm (G4 O O) O,ø⟩ (Gq (u:=E5 i) O O ⟨Gm (Gf Qi O O O) O,ø⟩ (D_w (u:=.vec 1020000002 0 1 w.length) O O O O (Gm (H0c (args:=[E5 i]) (L0:=[]) (Lr:=[(1020000002,.vec 3 1 0 (w.map I64))]) O (Jw.fresh0 (Gba i w f3)) J18 ⟨.inl O,O,ø⟩ ø O O O) O) (Gq (u:=Ek e) O O ⟨Gm (G4 O O) O,Gm (G4 O O) O,ø⟩ (Gq (u:=Ek e) O O ⟨Gm (G4 O O) O,Gm (G4 O O) O,ø⟩ (Gq (u:=I64 ((e+1:Nat):Int)) O O ⟨Gm (Hv (Ha a4 b0) O O O) O,Gm (Hv (Ha a4 b0) O O O) O,ø⟩ (D_w (u:=E5 a0) O O O O (Zk.locEq (Gm (R5f (H0c (args:=[.vec 1020000002 0 1 w.length,Ek e,I64 ((e+1:Nat):Int)]) O (H4e w (e:Int) ((e+1:Nat):Int) a0 f4 0) Q49 ⟨.inl O,O,.inl O,O,.inl O,O,ø⟩ ⟨O,ø⟩ O O O)) O) (G6f.of [1020000002] O O ⟨O,ø⟩)) (Gq (u:=.fn 98 [.dptr [E5 a0],Ef g,.dptr [E5 (j.set (a:Int).toNat n)]]) O O ⟨Gm (H0 O (H06 g (j.set (a:Int).toNat n) a0 i0 f5) J68 ⟨O,O,O,O,O,O,ø⟩) O,ø⟩ (Z7 ?_)))))))))
      refine f2 _ _ _ (G06 ?_)
      obtain⟨a5,hy_88,h⟩:=Gh h
      obtain⟨i1,f6,f7,c4,h⟩:=J3 h
      have a2:=hys
      refine Jc4 (ps:=[72]) [(1,.dptr [E5 i]),(2,Ef g),(3,.dptr [E5 k]),(4,.dptr [.sc (.func (.yield E.lp) #[] #[])]),(5,Ek a),(8,.dptr [I64 c,Ek a,I64 d,U8 0]),(18,Ek g.Columns.length),(19,Ek a),(40,E5 i),(41,Ek i.length),(42,Ek e),(71,.fn 98 [.dptr [E5 a0],Ef g,.dptr [E5 (j.set (a:Int).toNat n)]])] (a5.map (fun y:(List G1)=>[E4 y])) (fun a7 (s:Nat)=>each i1 f6 (List.drop a7 a5) a7 s=some q_) (fun a7 (s:Nat)=>s) o hE rfl rfl rfl J5d (self_w a0 g (j.set (a:Int).toNat n) a5 hy_88) h rfl ⟨(.sm O O),trivial,rfl⟩ (fun us_ hus_=>by obtain⟨_,_,rfl⟩:=Mg.1 hus_; rfl) (fun p_ hp_=>Nat.blt_eq.mp (by revert p_; decide)) ?_ ?_
      ·
       intro a7 us_ s hu_ f8 lr_ k4 i2 E hE a8 b8
       rw [← b8]
       have hys:=And.intro (a8.1.trans hys.1) (a8.2.trans hys.2)
       obtain⟨f9,rfl⟩:=R02 hu_
       obtain⟨m,i8,g0,g1,h⟩:=Hr f8 f9
       replace h:=Ry f7 h
       obtain⟨_,rfl⟩:=Ky g0
       generalize a5[a7]=m at h ⊢
       change JI _ _ _ _ _ [(72,E4 m),(1,.dptr [E5 i]),(2,Ef g),(3,.dptr [E5 k]),(4,.dptr [.sc (.func (.yield E.lp) #[] #[])]),(5,Ek a),(8,.dptr [I64 c,Ek a,I64 d,U8 0]),(18,Ek g.Columns.length),(19,Ek a),(40,E5 i),(41,Ek i.length),(42,Ek e),(71,.fn 98 [.dptr [E5 a0],Ef g,.dptr [E5 (j.set (a:Int).toNat n)]])] [] s
       refine Jh (Hp (u:=E4 m) hE (G7 O O) ?_ O O O O)
       refine Q9 ?_
       intro E hE a9 b9
       rw [← b9]
       have hys:=And.intro (a9.1.trans a2.1) (a9.2.trans a2.2)
       refine G06 (Qb (fun k5 g2=>?_))
       obtain⟨g3,h⟩:=J0 h
       refine R50 5 [2,4] [0,0,0,0,0] [2,0,0,1,0] [[],((1168,.vec 65 4 ([(G1.mk c (Slot.mk (a:Int) d 0))].length) ([(G1.mk c (Slot.mk (a:Int) d 0))].map G1.av))::[]),((1168,.vec 65 4 (([(G1.mk c (Slot.mk (a:Int) d 0))]++m).length+1) (([(G1.mk c (Slot.mk (a:Int) d 0))]++m).map G1.av))::((1168,.vec 65 4 ([(G1.mk c (Slot.mk (a:Int) d 0))].length) ([(G1.mk c (Slot.mk (a:Int) d 0))].map G1.av))::[]))] hE Q0 (by kernel_rfl) (by kernel_rfl) rfl rfl ?_
       simp only [List.take_succ_cons,List.take_zero,List.drop_succ_cons,List.drop_zero]
       refine Gq (u:=.sc (.func (.yield E.lp) #[] #[])) O O ⟨Gm (Gf Ga6 O O O) O,Gm (Gf Ga6 O O O) O,Gm (Gf Ga6 O O O) O,ø⟩ (Gq (u:=.agg [I64 c,Ek a,I64 d,U8 0]) O O ⟨Gm (Gi Qk O O O) O,ø⟩ (D_w (u:=.vec 1168 ([(G1.mk c (Slot.mk (a:Int) d 0))].length) 4 ([(G1.mk c (Slot.mk (a:Int) d 0))].length)) O O O O (Gm (Jac 1168 (f:=G1.av) [(G1.mk c (Slot.mk (a:Int) d 0))] O ⟨O,O,ø⟩ H6 Qd O O O O O) O) (Gq (u:=E4 m) O O ⟨Gm (G4 O O) O,Gm (G4 O O) O,ø⟩ (D_w (u:=.vec 1168 (([(G1.mk c (Slot.mk (a:Int) d 0))]++m).length+1) 4 (([(G1.mk c (Slot.mk (a:Int) d 0))]++m).length)) rfl rfl rfl rfl (Gm (G66 (f:=G1.av) (xs:=[(G1.mk c (Slot.mk (a:Int) d 0))]) (ys:=m) (ver:=([(G1.mk c (Slot.mk (a:Int) d 0))].length)) (ver1:=(([(G1.mk c (Slot.mk (a:Int) d 0))]++m).length+1)) rfl rfl rfl rfl H6 Gdf g3 (fun _=>rfl) (.inl rfl) (by simp)) rfl) (Z7 ?_)))))
       obtain⟨g4,h⟩:=J0 h
       refine Qec (xs:=List.map G1.av ([(G1.mk c (Slot.mk (a:Int) d 0))]++m)) hE O O O O (J4f (f:=(fun y:(List G1)=>[E4 y])) (x:=([(G1.mk c (Slot.mk (a:Int) d 0))]++m)) hys g4) ?_ O O O
       refine Hp (u:=BL false) hE (G11 (b:=true) O O) ?_ O O O O
       refine Q9 ?_
       refine g2 _ _ _ (Ja2 O (G8c (i2 _ _ (s+1) (app1 g1 h))))
      ·
       intro s h
       rw [Me] at h
       replace h:=app1 c4 (Hs h (Nat.lt_irrefl _))
       refine e2 _ _ _ (Jh (Hp (u:=I64 ((e+1:Nat):Int)) hE (Hv (Ha a4 b0) O O O) ?_ O O O O))
       refine Hp (u:=I64 ((e+1:Nat):Int)) hE (G4 O O) ?_ O O O O
       refine Q9 ?_
       exact h8 _ _ (e+1) s _ (app1 e1 h) (by omega) ⟨(.sm O O),ø,rfl⟩ rfl
     ·
      have h:=app1 c1 (Hs b3 (H9 hb))
      refine H44 (ej10 _ _ _ o h ⟨(.sm O O),ø,rfl⟩ rfl)
   ·intro t h
    replace h:=app1 c0 h
    refine Jh (Hp (u:=I64 ((a+1:Nat):Int)) hE (Hv (Ha b2 b1) O O O) ?_ O O O O)
    refine Hp (u:=I64 ((a+1:Nat):Int)) hE (G4 O O) ?_ O O O O
    refine Q9 ?_
    exact e7 _ _ (a+1) t _ (app1 h6 h) (by omega) ⟨(.sm O O),ø,rfl⟩ rfl
  ·
   have h:=app1 c7 (Hs c5 (H9 hb))
   refine H44 (J45 (J0 h).1)
theorem H8c (S_:Nat→(List Int)→(Ge)→(List Int)→Option (List (List G1))) (h0_:∀ (a:List Int) (b:Ge) (c:List Int),S_ 0 a b c=none) (hS_:∀ F (a:List Int) (b:Ge) (c:List Int) r,S_ (F+1) a b c=some r→G09 (S_ F) F a b c r=some ()):∀ (F:Nat) (a:List Int) (b:Ge) (c:List Int) (r:List (List G1)) (h:S_ F a b c=some r),Jf5 Em 98 [.dptr [E5 a],Ef b,.dptr [E5 c]] 65 4 (r.map (fun y:(List G1)=>[E4 y])):=by
 intro F
 induction F with
 | zero=>intro a b c r h; rw [h0_] at h; cases h
 | succ F ih=>intro a b c r h; exact H8f (S_ F) ih F a b c r () (hS_ F a b c r h)
end
end Go.Proofs.YtibhpogonkdiaaaGreat
