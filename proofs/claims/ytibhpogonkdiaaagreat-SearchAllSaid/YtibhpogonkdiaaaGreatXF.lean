/- Walks of functions. -/
import Derived.Test.YtibhpogonkdiaaaGreatSpecD
set_option linter.unnecessarySimpa false
set_option maxRecDepth 100000
set_option maxHeartbeats 1000000
set_option linter.unusedVariables false
set_option linter.unusedSimpArgs false
namespace Go.Proofs.YtibhpogonkdiaaaGreat
open Go.RowKit
noncomputable section

namespace XFF
open XAF
open XCF
theorem J6:G7d Em 34 13=true:=by kernel_rfl
theorem Qb:G7d Em 65 4=true:=by kernel_rfl
theorem Q2e:H8 Em 100=true:=by kernel_rfl
theorem J05:H8 Em 101=true:=by kernel_rfl
theorem Q2d:H8 Em 102=true:=by kernel_rfl
theorem Q24:H8 Em 119=true:=by kernel_rfl
theorem J51:H8 Em 60=true:=by kernel_rfl
theorem J46:H8 Em 98=true:=by kernel_rfl
theorem Q7b:H8 Em 99=true:=by kernel_rfl
theorem Gca:R8 Em 65 4 32=true:=by kernel_rfl
theorem G35:placesOf Em 65=some [(0,1),(1,3)]:=by kernel_rfl
theorem G91:Qo Em 187=true:=by kernel_rfl
theorem Y1:Qs Em 65 4=true:=by kernel_rfl
theorem H3:sliceB Em 59 65 4=true:=by kernel_rfl
theorem G7f:(Em.info? 65).bind (fun i=>i.zero.map Value.cells)=some (List.toArray [E0,E0,E0,.int .u8 0]):=by kernel_rfl
theorem Q2:Q4 Em 65 4=true:=by kernel_rfl
end XFF
open XAF
open XCF
open XFF

def Ys (s:List Int) (f:Int→Option Bool):Option Int:=
 each (fun b c (d:Unit) a=>
  bnd (f b) fun e=>
  bif e then
  (some (c:Int))
  else
  (a ()))
 (fun(d:Unit)=>
  some (-1)) s 0 ()
theorem H02 (s:List Int) (f:Int→Option Bool) (f_f:FuncId) (f_c:List AV) (f_B:H8 Em f_f=true) (f_d:Q3 (fun _=>false) f_c=true) (f_w:∀ a0 q,f a0=some q→Pure Em f_f ([I64 a0]++f_c) (·=BL q)) (r:Int) (h:Ys s f=some r):Pure Em 119 [E5 s,.fn f_f f_c] (·=I64 r):=by
 unfold Ys at h
 refine H5 [.tmp 4] Tryz.func119 O O (Jr fun x=>(JLm (I64 0) O (G4 (x (Js fun z=>Jr fun a1=>(JLm (E5 s) O (JLl Gv O O O fun a2=>(JLm (I64 0) O (G4 (a1 (Gi ?_)))))))))))
 obtain⟨a3,i,j,g,h⟩:=Hu h
 refine Hf (fun a (c:Unit)=>each a3 i (List.drop a s) a c=some r) (fun a c=>[(0,E5 s),(1,.fn f_f f_c),(7,Ek s.length),(8,Ek a)]) (fun a c=>[]) (fun a=>s.length - a) 0 () h ⟨⟨.same O,.same (Jm _ _ f_d),.same O,.same O,ø⟩,ø,O⟩ ?_
 clear h
 intro a c d a7 a4
 refine Jr fun k=>(JLh (BL (decide ((a:Int) < (s.length:Int)))) (J8 O O O) O (G4 (k (Js fun l=>Gj O (fun hb=>?_) (fun hb=>?_)))))
 ·
  have e:=Jh hb
  obtain⟨b,a6,m,n,h⟩:=Hk d e
  replace h:=Rh j h
  refine Gn (l (Js fun o=>Gi (Jr fun p=>(JLm (Ek a) O (JLm (Ek a) O (G4 (p (Jr fun t=>(JLm (.fn f_f f_c) O (JLm (E5 s) O (JLm (Ek a) O (JLh (.dptr [I64 b]) (H0 (f:=I64) (xs:=s) (y:=b) O O O Gv m O) O (JLh (I64 b) (Ge G9 O O O) O ?_)))))))))))))
  obtain⟨a5,u,h⟩:=Gg h
  refine JLh (BL a5) (G0c (args:=[I64 b]) (caps:=f_c) O O (f_w b _ u) f_B ⟨O,O,ø⟩ f_d) O (G4 (t (JCc O h (fun h hb=>?_) (fun h hb=>?_))))
  ·
   refine Jr fun v=>(JLm (Ek a) O (JLm (Ek a) O (G4 (v (Gw (fin1 I64 h))))))
  ·
   refine Gn (o (G2 (JLh (I64 ((a+1:Nat):Int)) (Ht (H7 e a2) O O O) O (JLm (I64 ((a+1:Nat):Int)) O (G4 (a4 _ _ (a+1) () (app1 n h) (by omega) ⟨⟨.same rfl,.same (Jm _ _ f_d),.same rfl,.same rfl,ø⟩,ø,rfl⟩))))))
 ·
  have h:=app1 g (Hm d (H6 hb))
  refine Hj (z (Jr fun w=>(JLm (I64 (-1)) O (G4 (w (Gw (fin1 I64 h)))))))

def Qk (s:List Int) (f:Int→Option Bool):Option Bool:=
 bnd (Ys s f) fun a=>
 some (decide (0≤a))
theorem Gbd (s:List Int) (f:Int→Option Bool) (f_f:FuncId) (f_c:List AV) (f_B:H8 Em f_f=true) (f_d:Q3 (fun _=>false) f_c=true) (f_w:∀ a0 q,f a0=some q→Pure Em f_f ([I64 a0]++f_c) (·=BL q)) (r:Bool) (h:Qk s f=some r):Pure Em 99 [E5 s,.fn f_f f_c] (·=BL r):=by
 unfold Qk at h
 refine H5 [.tmp 4] Tryz.func99 O O (Jr fun b=>(JLm (BL false) O (G4 (b (Jr fun c=>(JLm (E5 s) O (JLm (.fn f_f f_c) O ?_)))))))
 obtain⟨a,d,h⟩:=Gg h
 refine JLh (I64 a) (H2 O (H02 s f f_f f_c f_B f_d f_w a d) Q24 ⟨O,O,O,f_d,ø⟩) O (JLh (BL (decide (0≤a))) (Gdd O O O) O (JLm (BL (decide (0≤a))) O (G4 (c (Gw (fin1 BL h))))))

def Yn (n:Int):Option Bool:=
 some (decide (0 < n))
theorem H3f (n:Int) (r:Bool) (h:Yn n=some r):Pure Em 100 [I64 n] (·=BL r):=by
 unfold Yn at h
 refine H5 [.tmp 2] Tryz.func100 O O (Jr fun a=>(JLm (BL false) O (G4 (a (Jr fun b=>(JLm (I64 n) O (JLh (BL (decide (0 < n))) (G1b O O O) O (JLm (BL (decide (0 < n))) O (G4 (b (Gw (fin1 BL h))))))))))))

def G1a (s:Gf) (heights:List Int) (ids:List Int):Option Unit:=
 some ()
theorem Gf1 (s:Gf) (heights:List Int) (ids:List Int) (r:Unit) (h:G1a s heights ids=some r):Pure Em 60 [.agg (Gf.cs s),E5 heights,E5 ids] (·=.fn 98 [.dptr [E5 ids],Ef s,.dptr [E5 heights]]):=by
 unfold G1a at h
 refine H5 [.tmp 6] Tryz.func60 O O (Jr fun a=>(JLh (.ptr 1121 0) (Jt (cs:=(Gf.cs s)) 1121 O O O O O) O (JLh (.ptr 1122 0) (Jt (cs:=[E5 heights]) 1122 O O O O O) O (JLh (.ptr 1123 0) (Jt (cs:=[E5 ids]) 1123 O O O O O) O (JLm (.sc .nilFunc) O (G4 (a ?_)))))))
 refine Gh [(3,Ef s),(4,.ptr 1122 0),(5,.ptr 1123 0)] [(1122,.box 39 [E5 heights]),(1123,.box 39 [E5 ids])] 1121 rfl rfl rfl ⟨⟨_,rfl,.boxEq rfl rfl⟩,⟨_,rfl,.boxEq rfl rfl⟩,ø⟩ rfl (by exact⟨.ptr,.conv (.same rfl),.conv (.same rfl),ø⟩) (Gh [(3,Ef s),(4,.dptr [E5 heights]),(5,.ptr 1123 0)] [(1123,.box 39 [E5 ids])] 1122 rfl rfl rfl ⟨⟨_,rfl,.boxEq rfl rfl⟩,ø⟩ rfl (by exact⟨.conv (.same rfl),.ptr,.conv (.same rfl),ø⟩) (Gh [(3,Ef s),(4,.dptr [E5 heights]),(5,.dptr [E5 ids])] [] 1123 rfl rfl rfl ø rfl (by exact⟨.conv (.same rfl),.conv (.same rfl),.ptr,ø⟩) ?_))
 refine Jr fun b=>(JLh (.fn 98 [.dptr [E5 ids],Ef s,.dptr [E5 heights]]) (Y4 (cs:=[.dptr [E5 ids],Ef s,.dptr [E5 heights]]) O O) O (JLm (.fn 98 [.dptr [E5 ids],Ef s,.dptr [E5 heights]]) O (G4 (b (Gw (⟨[.fn 98 [.dptr [E5 ids],Ef s,.dptr [E5 heights]]],[],ø,O,⟨⟨_,O,.conv (.same O)⟩,ø⟩,O,congrArg (fun _:Unit=>(.fn 98 [.dptr [E5 ids],Ef s,.dptr [E5 heights]]:AV)) (Kz h)⟩))))))

def Zu (self_:(List Int)→(Gf)→(List Int)→Option (List (List G1))) (F:Nat) (o:List Int) (p:Gf) (d:List Int) (ys_:List (List G1)):Option Unit:=
 bif decide ((o.length:Int)=0) then
 (need (decide (ys_[0]? = some [])) <|
  need (decide ((0+1)=ys_.length)) (some ()))
 else
 (each (fun z a (j:Nat) t=>
   jp (fun e=>
    bnd (H36 ((a+1:Nat):Int) d.length) fun u=>
    bnd (Qk (d.drop u) (fun z0=>Yn z0)) fun k=>
    bnd (bif (!k) then Ju d (a:Int) some else some default) fun v=>
    bif (k||(decide (z.Tiers≤v))) then
    (e j)
    else
    (each (fun f l (g:Nat) q=>
      Ju d (a:Int) fun h=>
      bnd (Q5 d) fun b=>
      Ju b (a:Int) fun w=>
      chk (w+1) fun m=>
      Ju b (a:Int) fun a0=>
      bnd (Q5 o) fun x=>
      bnd (Ym x (l:Int) ((l+1:Nat):Int)) fun n=>
      bnd (G1a p (b.set (a:Int).toNat m) n) fun a1=>
      bnd (self_ n p (b.set (a:Int).toNat m)) fun r=>
      each (fun i a2 (c:Nat) s=>
       need (decide (([(G1.mk f (Slot.mk (a:Int) h 0))].length+i.length)*32≤140737488355328∧[(G1.mk f (Slot.mk (a:Int) h 0))].length+i.length≤maxLen)) <|
       need (decide (ys_[c]? = some ([(G1.mk f (Slot.mk (a:Int) h 0))]++i))) <|
       s (c+1))
      (fun(c:Nat)=>
       q c) r 0 g)
     (fun(g:Nat)=>
      e g) o 0 j)) fun(y:Nat)=>
   t y)
  (fun(j:Nat)=>
   need (decide (j=ys_.length)) (some ())) p.Columns 0 0)
theorem H7a (self_:(List Int)→(Gf)→(List Int)→Option (List (List G1))) (self_w:∀ (i:List Int) (g:Gf) (k:List Int) (r:List (List G1)),self_ i g k=some r→Jdc Em 98 [.dptr [E5 i],Ef g,.dptr [E5 k]] 65 4 (r.map (fun y:(List G1)=>[E4 y]))) (F:Nat) (i:List Int) (g:Gf) (k:List Int) (ys_:List (List G1)) (q_:Unit) (h:Zu self_ F i g k ys_=some q_):Jdc Em 98 [.dptr [E5 i],Ef g,.dptr [E5 k]] 65 4 (ys_.map (fun y:(List G1)=>[E4 y])):=by
 unfold Zu at h
 refine R58 Tryz.func98 O O ?_
 intro E hE hys
 refine Q1 (fun K1 g5=>Je (Hi (u:=.ptr 1157 0) hE (Jt (cs:=[.sc (.func (.yield E.lp) #[] #[])]) 1157 O O O O O) ?_ O O O O))
 refine Jz ?_
 refine g5 _ _ _ (Jda [(1,.dptr [E5 i]),(2,Ef g),(3,.dptr [E5 k]),(4,.dptr [.sc (.func (.yield E.lp) #[] #[])])] [] 1157 rfl rfl rfl ø rfl (by repeat' (first | exact .ptr | constructor)) (Q1 (fun K2 g6=>Q1 (fun K3 g7=>Je (Hi (u:=E5 i) hE (Ge Q8 O O O) ?_ O O O O)))))
 refine H14 hE (f:=I64) (xs:=i) Gv O O (fun i3=>?_) O O O
 refine Hi (u:=BL (decide ((i.length:Int)=0))) hE (Qn O O O) ?_ O O O O
 refine Jz ?_
 refine g7 _ _ _ (G9b O (fun hb=>?_) (fun hb=>?_))
 ·
  replace h:=H9 hb h
  refine Q1 (fun K4 g8=>Je (Hi (u:=.sc (.func (.yield E.lp) #[] #[])) hE (Ge G91 O O O) ?_ O O O O))
  obtain⟨g9,h⟩:=Hw h
  refine Qc6 hE O O O (J39 (f:=(fun y:(List G1)=>[E4 y])) (x:=([]:List G1)) hys g9) ?_ O O O
  refine Jz ?_
  refine g8 _ _ _ (Rd1 (J2e (Hw h).1))
 ·
  replace h:=Hs hb h
  refine G7a (g6 _ _ _ (Q1 (fun K6 h0=>Je (Hi (u:=Ef g) hE (Gb Ho O O O) ?_ O O O O))))
  refine Hi (u:=E7 g.Columns) hE (Ge J2 O O O) ?_ O O O O
  refine H14 hE (f:=G6.av) (xs:=g.Columns) Hr O O (fun b1=>?_) O O O
  refine Hi (u:=I64 0) hE (G5 O O) ?_ O O O O
  refine Jz ?_
  refine h0 _ _ _ (Zq ?_)
  obtain⟨b7,h1,h2,c7,h⟩:=Hu h
  refine H13 (fun a (s7:Nat)=>each b7 h1 (List.drop a g.Columns) a s7=some q_) (fun a s7=>[(1,.dptr [E5 i]),(2,Ef g),(3,.dptr [E5 k]),(4,.dptr [.sc (.func (.yield E.lp) #[] #[])]),(18,Ek g.Columns.length),(19,Ek a)]) (fun a s7=>[]) (fun a s7=>s7) (fun a=>g.Columns.length - a) 0 0 h ⟨(.sm O O),ø,rfl⟩ rfl ?_
  clear h
  intro a s7 c5 K7 e7
  refine Q1 (fun K8 h3=>Je (Hi (u:=BL (decide ((a:Int) < (g.Columns.length:Int)))) hE (J8 O O O) ?_ O O O O))
  refine Jz ?_
  refine h3 _ _ _ (Q1 (fun K9 h4=>G9b O (fun hb=>?_) (fun hb=>?_)))
  ·
   have b2:=Jh hb
   obtain⟨y7,i9,h5,h6,h⟩:=Hk c5 b2
   replace h:=Rh h2 h
   refine G7a (h4 _ _ _ ?_)
   obtain⟨c8,c0,h⟩:=Qr h
   refine R8b (fun t:Nat=>c8 t=some q_) (fun t=>[(1,.dptr [E5 i]),(2,Ef g),(3,.dptr [E5 k]),(4,.dptr [.sc (.func (.yield E.lp) #[] #[])]),(18,Ek g.Columns.length),(19,Ek a)]) (fun t=>[]) (fun t=>t) (fun Kj10 ej10=>?_) ?_
   ·
    refine Zq (Q1 (fun j0 c9=>Je (Hi (u:=Ek a) hE (G5 O O) ?_ O O O O)))
    refine Hi (u:=Ek a) hE (G7 O O) ?_ O O O O
    refine Jz ?_
    refine c9 _ _ _ (Q1 (fun j1 d0=>Q1 (fun j2 d1=>?_)))
    obtain⟨c6,d2,h⟩:=Gg h
    obtain⟨l,d3,h⟩:=Gg h
    obtain⟨v,d4,h⟩:=Gg h
    refine Qe7 [] (.replicate 18 0) (.replicate 18 0) [[]] hE Q7 (by kernel_rfl) rfl rfl ?_
    refine Gq (u:=E5 k) O O ⟨Gr (Ge Q8 O O O) O,ø⟩ (Gq (u:=Ek a) O O ⟨Gr (G5 O O) O,ø⟩ (Gq (u:=I64 ((a+1:Nat):Int)) O O ⟨Gr (Ht (H7 b2 b1) O O O) O,ø⟩ (Gq (u:=E5 (k.drop c6)) O O ⟨Gr (Qca (f:=I64) (xs:=k) O O O Gv (G85 d2)) O,ø⟩ (Gq (u:=BL l) O O ⟨Gr (H2 O (Gbd (k.drop c6) (fun z0=>Yn z0) 100 [] Q2e O (fun z0 q hq=>H3f z0 q hq) l d3) Q7b ⟨O,O,O,O,ø⟩) O,ø⟩ (Gq (u:=BL l) O O ⟨Gr (G5 O O) O,ø⟩ (Gq (u:=.opt (!l) (E5 k)) O O ⟨Jk [] O O O .scf ø (fun hc=>Ge Q8 O O O) O,ø⟩ (Gq (u:=.opt (!l) (Ek a)) O O ⟨Jk [] O O O .scf ø (fun hc=>G5 O O) O,ø⟩ (Gq (u:=.opt (!l) (.dptr [I64 v])) O O ⟨Jk [(28,E5 k),(29,Ek a)] O O O .scf ⟨.all id,.all id,ø⟩ (fun hc=>(match G05 (H9 hc d4) with | ⟨_,hm_,hy_⟩=>H0 (f:=I64) (xs:=k) (y:=v) O O O Gv hy_ hm_)) O,ø⟩ (Gq (u:=.opt (!l) (I64 v)) O O ⟨Jk [(30,.dptr [I64 v])] O O O .scf ⟨.all id,ø⟩ (fun hc=>Ge G9 O O O) O,ø⟩ (Gq (u:=.opt (!l) (Ef g)) O O ⟨Jk [] O O O .scf ø (fun hc=>Gb Ho O O O) O,ø⟩ (Gq (u:=.opt (!l) (E7 g.Columns)) O O ⟨Jk [(32,Ef g)] O O O .scf ⟨.all id,ø⟩ (fun hc=>Ge J2 O O O) O,ø⟩ (Gq (u:=.opt (!l) (Ek a)) O O ⟨Jk [] O O O .scf ø (fun hc=>G5 O O) O,ø⟩ (Gq (u:=.opt (!l) (Eh y7)) O O ⟨Jk [(33,E7 g.Columns),(34,Ek a)] O O O .scf ⟨.all id,.all id,ø⟩ (fun hc=>H0 (f:=G6.av) (xs:=g.Columns) (y:=y7) O O O Hr h5 O) O,ø⟩ ?_)))))))))))))
    refine Gq (u:=.opt (!l) (.dptr ((G6.cs y7).drop 3))) O O ⟨Jk [(35,Eh y7)] O O O .scf ⟨.all id,ø⟩ (fun hc=>Gb Rj O O O) O,ø⟩ (Gq (u:=.opt (!l) (I64 y7.Tiers)) O O ⟨Jk [(36,.dptr ((G6.cs y7).drop 3))] O O O .scf ⟨.all id,ø⟩ (fun hc=>Ge G9 O O O) O,ø⟩ (Gq (u:=.opt (!l) (BL (decide (y7.Tiers≤v)))) O O ⟨Jk [(31,I64 v),(37,I64 y7.Tiers)] O O O .scf ⟨.all id,.all id,ø⟩ (fun hc=>Gdd O O O) O,ø⟩ (Gq (u:=BL (l||(decide (y7.Tiers≤v)))) O O ⟨Gr (G18 O O O O) O,ø⟩ (Zs (d1 _ _ _ (G9b O (fun hb=>?_) (fun hb=>?_)))))))
    ·
     replace h:=H9 hb h
     refine H33 (ej10 _ _ _ s7 h ⟨(.sm O O),ø,rfl⟩ rfl)
    ·
     replace h:=Hs hb h
     refine G7a (d0 _ _ _ (Q1 (fun j3 d5=>Je (Hi (u:=E5 i) hE (Ge Q8 O O O) ?_ O O O O))))
     refine H14 hE (f:=I64) (xs:=i) Gv O O (fun b0=>?_) O O O
     refine Hi (u:=I64 0) hE (G5 O O) ?_ O O O O
     refine Jz ?_
     refine d5 _ _ _ (Zq ?_)
     obtain⟨h7,d6,d7,c1,h⟩:=Hu h
     refine H13 (fun e (o:Nat)=>each h7 d6 (List.drop e i) e o=some q_) (fun e o=>[(1,.dptr [E5 i]),(2,Ef g),(3,.dptr [E5 k]),(4,.dptr [.sc (.func (.yield E.lp) #[] #[])]),(5,Ek a),(18,Ek g.Columns.length),(19,Ek a),(40,E5 i),(41,Ek i.length),(42,Ek e)]) (fun e o=>[]) (fun e o=>o) (fun e=>i.length - e) 0 s7 h ⟨(.sm O O),ø,rfl⟩ rfl ?_
     clear h
     intro e o b3 j4 h8
     refine Q1 (fun j5 d8=>Je (Hi (u:=BL (decide ((e:Int) < (i.length:Int)))) hE (J8 O O O) ?_ O O O O))
     refine Jz ?_
     refine d8 _ _ _ (Q1 (fun j6 d9=>G9b O (fun hb=>?_) (fun hb=>?_)))
     ·
      have a4:=Jh hb
      obtain⟨c,i6,e0,e1,h⟩:=Hk b3 a4
      replace h:=Rh d7 h
      refine G7a (d9 _ _ _ (Q1 (fun j7 e2=>Zq (Q1 (fun j8 e3=>Je (Hi (u:=Ek e) hE (G5 O O) ?_ O O O O))))))
      refine Hi (u:=.dptr [I64 c]) hE (H0 (f:=I64) (xs:=i) (y:=c) O O O Gv e0 O) ?_ O O O O
      refine Hi (u:=I64 c) hE (Ge G9 O O O) ?_ O O O O
      refine Hi (u:=Ek e) hE (G7 O O) ?_ O O O O
      refine Hi (u:=I64 c) hE (G7 O O) ?_ O O O O
      refine Jz ?_
      refine e3 _ _ _ (Q1 (fun j9 e4=>Je (Hi (u:=I64 c) hE (G5 O O) ?_ O O O O)))
      refine Hi (u:=Ek a) hE (G5 O O) ?_ O O O O
      refine Hi (u:=E5 k) hE (Ge Q8 O O O) ?_ O O O O
      refine Hi (u:=Ek a) hE (G5 O O) ?_ O O O O
      obtain⟨k0,d,e5,e6,h⟩:=Qc h
      refine Hi (u:=.dptr [I64 d]) hE (H0 (f:=I64) (xs:=k) (y:=d) O O O Gv e6 e5) ?_ O O O O
      refine Hi (u:=I64 d) hE (Ge G9 O O O) ?_ O O O O
      refine Hi (u:=.agg [Ek a,I64 d,U8 0]) hE (J9 (cs:=[Ek a,I64 d,U8 0]) [(0,1),(1,1),(2,1)] [I64 0,I64 0,U8 0] [E0,E0,.int .u8 0] G64 G80 (zzQ O) O O) ?_ O O O O
      refine Hi (u:=.agg [I64 c,Ek a,I64 d,U8 0]) hE (J9 (cs:=[I64 c,Ek a,I64 d,U8 0]) [(0,1),(1,3)] [I64 0,I64 0,I64 0,U8 0] [E0,E0,E0,.int .u8 0] G35 G7f (zzQ O) O O) ?_ O O O O
      refine Hi (u:=.ptr 1158 0) hE (Hg 1158 4 Q2 O O) ?_ O O O O
      refine Q07 (u:=.junk) hE (Gy (u:=.agg [I64 c,Ek a,I64 d,U8 0]) (ds:=[I64 c,Ek a,I64 d,U8 0]) Y1 O O O O O O O O) ?_ O O O
      refine Jz ?_
      refine e4 _ _ _ (Jda [(1,.dptr [E5 i]),(2,Ef g),(3,.dptr [E5 k]),(4,.dptr [.sc (.func (.yield E.lp) #[] #[])]),(5,Ek a),(6,Ek e),(8,.dptr [I64 c,Ek a,I64 d,U8 0]),(18,Ek g.Columns.length),(19,Ek a),(40,E5 i),(41,Ek i.length),(42,Ek e)] [] 1158 rfl rfl rfl ø rfl (by repeat' (first | exact .ptr | constructor)) (Q1 (fun k1 e8=>Je (Hi (u:=E5 k) hE (Ge Q8 O O O) ?_ O O O O))))
      obtain⟨j,e9,h⟩:=Gg h
      refine R55 hE O O O (Q65 (args:=[E5 k]) (L0:=[]) (u:=fun p=>.vec 1020000002 p 1 j.length) (Lr:=fun p=>[(1020000002,.vec 3 1 p (j.map I64))]) O (Ga5 k j e9) J05 ⟨.inl O,O,ø⟩ ø O (fun _=>O)) ?_
      rintro u_ L_ ⟨a1,rfl,rfl⟩
      refine Hi (u:=.vec 1020000002 a1 1 j.length) hE (G7 O O) ?_ O O O O
      refine Jz ?_
      refine e8 _ _ _ (Q1 (fun k2 f0=>Je (Hi (u:=.vec 1020000002 a1 1 j.length) hE (G5 O O) ?_ O O O O)))
      refine Hi (u:=Ek a) hE (G5 O O) ?_ O O O O
      obtain⟨b4,c2,b5,h⟩:=Gc1 h
      refine Hi (u:=.vptr 1020000002 a1 ((a:Int).toNat) 0) hE (H72 (f:=I64) (xs:=j) (y:=b4) O O O O Gv b5 c2) ?_ O O O O
      refine Hi (u:=I64 b4) hE (J8f (f:=I64) (xs:=j) (y:=b4) G9 O O O b5 O O) ?_ O O O O
      obtain⟨n,f1,h⟩:=Hx h
      refine Hi (u:=I64 n) hE (Ht f1 O O O) ?_ O O O O
      obtain⟨h9,c3,b6,h⟩:=Gc1 h
      refine Hi (u:=.vptr 1020000002 a1 ((a:Int).toNat) 0) hE (H72 (f:=I64) (xs:=j) (y:=h9) O O O O Gv b6 c3) ?_ O O O O
      refine Q07 (u:=.junk) hE (Jdf (f:=I64) (xs:=j) (z:=n) Yy O O O O (Kx b6).1 O O O O) ?_ O O O
      refine Jz ?_
      refine f0 _ _ _ (Q1 (fun k3 f2=>Qe6 (l':=[(1,.dptr [E5 i]),(2,Ef g),(3,.dptr [E5 k]),(4,.dptr [.sc (.func (.yield E.lp) #[] #[])]),(5,Ek a),(6,Ek e),(8,.dptr [I64 c,Ek a,I64 d,U8 0]),(9,.vec 1020000002 a1 1 j.length),(18,Ek g.Columns.length),(19,Ek a),(40,E5 i),(41,Ek i.length),(42,Ek e)]) (L':=[(1020000002,.vec 3 1 a1 ((j.set (a:Int).toNat n).map I64))]) ⟨(.sm O O),⟨⟨_,rfl,.vec⟩,ø⟩,rfl⟩ ?_))
      refine Qc4 [(1,.dptr [E5 i]),(2,Ef g),(3,.dptr [E5 k]),(4,.dptr [.sc (.func (.yield E.lp) #[] #[])]),(5,Ek a),(6,Ek e),(8,.dptr [I64 c,Ek a,I64 d,U8 0]),(9,E5 (j.set (a:Int).toNat n)),(18,Ek g.Columns.length),(19,Ek a),(40,E5 i),(41,Ek i.length),(42,Ek e)] [] 1020000002 rfl rfl ø rfl (by exact⟨.conv (.same rfl),.conv (.same rfl),.conv (.same rfl),.conv (.same rfl),.conv (.same rfl),.conv (.same rfl),.conv (.same rfl),.vec,.conv (.same rfl),.conv (.same rfl),.conv (.same rfl),.conv (.same rfl),.conv (.same rfl),ø⟩) ?_
      obtain⟨w,f3,h⟩:=Gg h
      obtain⟨a0,f4,h⟩:=Gg h
      obtain⟨i0,f5,h⟩:=Gg h
      refine Qe7 [3,7] [0,0,0,0,0,0,0,0,2] [2,2,0,0,1,1,1,0,2] [[],((1020000002,.vec 3 1 0 (w.map I64))::[]),((1020000002,.vec 3 1 (0+2+1) (([]:List Int).map I64))::((1020000002,.vec 3 1 0 (w.map I64))::[]))] hE Q7 (by kernel_rfl) rfl rfl ?_
      refine Gq (u:=.agg (Gf.cs g)) O O ⟨Gr (Gk J6 O O O) O,Gr (Gk J6 O O O) O,Gr (Gk J6 O O O) O,ø⟩ (Gq (u:=E5 (j.set (a:Int).toNat n)) O O ⟨Gr (G5 O O) O,Gr (G5 O O) O,Gr (G5 O O) O,ø⟩ (Gq (u:=E5 i) O O ⟨Gr (Ge Q8 O O O) O,ø⟩ (D_w (u:=.vec 1020000002 0 1 w.length) O O O O (Gr (Gf8 (args:=[E5 i]) (L0:=[]) (Lr:=[(1020000002,.vec 3 1 0 (w.map I64))]) O (Jq.fresh0 (Ga5 i w f3)) J05 ⟨.inl O,O,ø⟩ ø O O O) O) (Gq (u:=Ek e) O O ⟨Gr (G5 O O) O,Gr (G5 O O) O,ø⟩ (Gq (u:=Ek e) O O ⟨Gr (G5 O O) O,Gr (G5 O O) O,ø⟩ (Gq (u:=I64 ((e+1:Nat):Int)) O O ⟨Gr (Ht (H7 a4 b0) O O O) O,Gr (Ht (H7 a4 b0) O O O) O,ø⟩ (D_w (u:=E5 a0) O O O O (Z2.locEq (Gr (R32 (Gf8 (args:=[.vec 1020000002 0 1 w.length,Ek e,I64 ((e+1:Nat):Int)]) O (H3e w (e:Int) ((e+1:Nat):Int) a0 f4 0) Q2d ⟨.inl O,O,.inl O,O,.inl O,O,ø⟩ ⟨O,ø⟩ O O O)) O) (G5f.of [1020000002] O O ⟨O,ø⟩)) (Gq (u:=.fn 98 [.dptr [E5 a0],Ef g,.dptr [E5 (j.set (a:Int).toNat n)]]) O O ⟨Gr (H2 O (Gf1 g (j.set (a:Int).toNat n) a0 i0 f5) J51 ⟨O,O,O,O,O,O,ø⟩) O,ø⟩ (Zs ?_)))))))))
      refine f2 _ _ _ (Zq ?_)
      obtain⟨a5,hy_88,h⟩:=Gg h
      obtain⟨i1,f6,f7,c4,h⟩:=Hu h
      have a2:=hys
      refine Jaa (ps:=[72]) [(1,.dptr [E5 i]),(2,Ef g),(3,.dptr [E5 k]),(4,.dptr [.sc (.func (.yield E.lp) #[] #[])]),(5,Ek a),(8,.dptr [I64 c,Ek a,I64 d,U8 0]),(18,Ek g.Columns.length),(19,Ek a),(40,E5 i),(41,Ek i.length),(42,Ek e),(71,.fn 98 [.dptr [E5 a0],Ef g,.dptr [E5 (j.set (a:Int).toNat n)]])] (a5.map (fun y:(List G1)=>[E4 y])) (fun a7 (s:Nat)=>each i1 f6 (List.drop a7 a5) a7 s=some q_) (fun a7 (s:Nat)=>s) o hE rfl rfl rfl J46 (self_w a0 g (j.set (a:Int).toNat n) a5 hy_88) h rfl ⟨(.sm O O),trivial,rfl⟩ (fun us_ hus_=>by obtain⟨_,_,rfl⟩:=Mf.1 hus_; rfl) (fun p_ hp_=>Nat.blt_eq.mp (by revert p_; decide)) ?_ ?_
      ·
       intro a7 us_ s hu_ f8 lr_ k4 i2 E hE a8 b8
       rw [← b8]
       have hys:=And.intro (a8.1.trans hys.1) (a8.2.trans hys.2)
       obtain⟨f9,rfl⟩:=Qda hu_
       obtain⟨m,i8,g0,g1,h⟩:=Hk f8 f9
       replace h:=Rh f7 h
       obtain⟨_,rfl⟩:=Kx g0
       generalize a5[a7]=m at h ⊢
       change JI _ _ _ _ _ [(72,E4 m),(1,.dptr [E5 i]),(2,Ef g),(3,.dptr [E5 k]),(4,.dptr [.sc (.func (.yield E.lp) #[] #[])]),(5,Ek a),(8,.dptr [I64 c,Ek a,I64 d,U8 0]),(18,Ek g.Columns.length),(19,Ek a),(40,E5 i),(41,Ek i.length),(42,Ek e),(71,.fn 98 [.dptr [E5 a0],Ef g,.dptr [E5 (j.set (a:Int).toNat n)]])] [] s
       refine Je (Hi (u:=E4 m) hE (G7 O O) ?_ O O O O)
       refine Jz ?_
       intro E hE a9 b9
       rw [← b9]
       have hys:=And.intro (a9.1.trans a2.1) (a9.2.trans a2.2)
       refine Zq (Q1 (fun k5 g2=>?_))
       obtain⟨g3,h⟩:=Hw h
       refine R23 5 [2,4] [0,0,0,0,0] [2,0,0,1,0] [[],((1159,.vec 65 4 ([(G1.mk c (Slot.mk (a:Int) d 0))].length) ([(G1.mk c (Slot.mk (a:Int) d 0))].map G1.av))::[]),((1159,.vec 65 4 (([(G1.mk c (Slot.mk (a:Int) d 0))]++m).length+1) (([(G1.mk c (Slot.mk (a:Int) d 0))]++m).map G1.av))::((1159,.vec 65 4 ([(G1.mk c (Slot.mk (a:Int) d 0))].length) ([(G1.mk c (Slot.mk (a:Int) d 0))].map G1.av))::[]))] hE Q7 (by kernel_rfl) (by kernel_rfl) rfl rfl ?_
       simp only [List.take_succ_cons,List.take_zero,List.drop_succ_cons,List.drop_zero]
       refine Gq (u:=.sc (.func (.yield E.lp) #[] #[])) O O ⟨Gr (Ge G91 O O O) O,Gr (Ge G91 O O O) O,Gr (Ge G91 O O O) O,ø⟩ (Gq (u:=.agg [I64 c,Ek a,I64 d,U8 0]) O O ⟨Gr (Gk Qb O O O) O,ø⟩ (D_w (u:=.vec 1159 ([(G1.mk c (Slot.mk (a:Int) d 0))].length) 4 ([(G1.mk c (Slot.mk (a:Int) d 0))].length)) O O O O (Gr (J93 1159 (f:=G1.av) [(G1.mk c (Slot.mk (a:Int) d 0))] O ⟨O,O,ø⟩ H3 Q2 O O O O O) O) (Gq (u:=E4 m) O O ⟨Gr (G5 O O) O,Gr (G5 O O) O,ø⟩ (D_w (u:=.vec 1159 (([(G1.mk c (Slot.mk (a:Int) d 0))]++m).length+1) 4 (([(G1.mk c (Slot.mk (a:Int) d 0))]++m).length)) rfl rfl rfl rfl (Gr (G57 (f:=G1.av) (xs:=[(G1.mk c (Slot.mk (a:Int) d 0))]) (ys:=m) (ver:=([(G1.mk c (Slot.mk (a:Int) d 0))].length)) (ver1:=(([(G1.mk c (Slot.mk (a:Int) d 0))]++m).length+1)) rfl rfl rfl rfl H3 Gca g3 (fun _=>rfl) (.inl rfl) (by simp)) rfl) (Zs ?_)))))
       obtain⟨g4,h⟩:=Hw h
       refine Qc5 (xs:=List.map G1.av ([(G1.mk c (Slot.mk (a:Int) d 0))]++m)) hE O O O O (J39 (f:=(fun y:(List G1)=>[E4 y])) (x:=([(G1.mk c (Slot.mk (a:Int) d 0))]++m)) hys g4) ?_ O O O
       refine Hi (u:=BL false) hE (G03 (b:=true) O O) ?_ O O O O
       refine Jz ?_
       refine g2 _ _ _ (J89 O (G7a (i2 _ _ (s+1) (app1 g1 h))))
      ·
       intro s h
       rw [Md] at h
       replace h:=app1 c4 (Hm h (Nat.lt_irrefl _))
       refine e2 _ _ _ (Je (Hi (u:=I64 ((e+1:Nat):Int)) hE (Ht (H7 a4 b0) O O O) ?_ O O O O))
       refine Hi (u:=I64 ((e+1:Nat):Int)) hE (G5 O O) ?_ O O O O
       refine Jz ?_
       exact h8 _ _ (e+1) s _ (app1 e1 h) (by omega) ⟨(.sm O O),ø,rfl⟩ rfl
     ·
      have h:=app1 c1 (Hm b3 (H6 hb))
      refine H33 (ej10 _ _ _ o h ⟨(.sm O O),ø,rfl⟩ rfl)
   ·intro t h
    replace h:=app1 c0 h
    refine Je (Hi (u:=I64 ((a+1:Nat):Int)) hE (Ht (H7 b2 b1) O O O) ?_ O O O O)
    refine Hi (u:=I64 ((a+1:Nat):Int)) hE (G5 O O) ?_ O O O O
    refine Jz ?_
    exact e7 _ _ (a+1) t _ (app1 h6 h) (by omega) ⟨(.sm O O),ø,rfl⟩ rfl
  ·
   have h:=app1 c7 (Hm c5 (H6 hb))
   refine H33 (J2e (Hw h).1)
theorem H78 (S_:Nat→(List Int)→(Gf)→(List Int)→Option (List (List G1))) (h0_:∀ (a:List Int) (b:Gf) (c:List Int),S_ 0 a b c=none) (hS_:∀ F (a:List Int) (b:Gf) (c:List Int) r,S_ (F+1) a b c=some r→Zu (S_ F) F a b c r=some ()):∀ (F:Nat) (a:List Int) (b:Gf) (c:List Int) (r:List (List G1)) (h:S_ F a b c=some r),Jdc Em 98 [.dptr [E5 a],Ef b,.dptr [E5 c]] 65 4 (r.map (fun y:(List G1)=>[E4 y])):=by
 intro F
 induction F with
 | zero=>intro a b c r h; rw [h0_] at h; cases h
 | succ F ih=>intro a b c r h; exact H7a (S_ F) ih F a b c r () (hS_ F a b c r h)
end
end Go.Proofs.YtibhpogonkdiaaaGreat
