/- Walks of functions. -/
import Derived.Test.YtibhpogonkdiaaaGreatSpecD
set_option linter.unnecessarySimpa false
set_option maxRecDepth 100000
set_option maxHeartbeats 1000000
set_option linter.unusedVariables false
set_option linter.unusedSimpArgs false
namespace Go.Proofs.YtibhpogonkdiaaaGreat
open Go.RowKit
noncomputable section

namespace XFF
open XAF
open XCF
theorem Hn:Gb8 En 34 13=true:=by kernel_rfl
theorem Qw:Gb8 En 65 4=true:=by kernel_rfl
theorem Q9e:Hh En 100=true:=by kernel_rfl
theorem J56:Hh En 101=true:=by kernel_rfl
theorem Q9d:Hh En 102=true:=by kernel_rfl
theorem Q94:Hh En 119=true:=by kernel_rfl
theorem Ja7:Hh En 60=true:=by kernel_rfl
theorem J9c:Hh En 98=true:=by kernel_rfl
theorem Qf4:Hh En 99=true:=by kernel_rfl
theorem H0a:Rw En 65 4 32=true:=by kernel_rfl
theorem G62:placesOf En 65=some [(0,1),(1,3)]:=by kernel_rfl
theorem Gcd:R9 En 187=true:=by kernel_rfl
theorem Z0:Re En 65 4=true:=by kernel_rfl
theorem Hd:sliceB En 59 65 4=true:=by kernel_rfl
theorem Gbb:(En.info? 65).bind (fun i=>i.zero.map Value.cells)=some (List.toArray [E0,E0,E0,.int .u8 0]):=by kernel_rfl
theorem Qk:Qo En 65 4=true:=by kernel_rfl
end XFF
open XAF
open XCF
open XFF

def Zu (s:List Int) (f:Int→Option Bool):Option Int:=
 each (fun b c (d:Unit) a=>
  bnd (f b) fun e=>
  bif e then
  (some (c:Int))
  else
  (a ()))
 (fun(d:Unit)=>
  some (-1)) s 0 ()
theorem H42 (s:List Int) (f:Int→Option Bool) (f_f:FuncId) (f_c:List AV) (f_B:Hh En f_f=true) (f_d:Qn (fun _=>false) f_c=true) (f_w:∀ a0 q,f a0=some q→Pure En f_f ([I64 a0]++f_c) (·=BL q)) (r:Int) (h:Zu s f=some r):Pure En 119 [E5 s,.fn f_f f_c] (·=I64 r):=by
 unfold Zu at h
 refine Ha [.tmp 4] Tryz.func119 O O (Jr fun x=>(JLm (I64 0) O (G6 (x (Js fun z=>Jr fun a1=>(JLm (E5 s) O (JLl H1 O O O fun a2=>(JLm (I64 0) O (G6 (a1 (Gk ?_)))))))))))
 obtain⟨a3,i,j,g,h⟩:=J5 h
 refine Hk (fun a (c:Unit)=>each a3 i (List.drop a s) a c=some r) (fun a c=>[(0,E5 s),(1,.fn f_f f_c),(7,Em s.length),(8,Em a)]) (fun a c=>[]) (fun a=>s.length - a) 0 () h ⟨⟨.same O,.same (Jx _ _ f_d),.same O,.same O,ø⟩,ø,O⟩ ?_
 clear h
 intro a c d a7 a4
 refine Jr fun k=>(JLh (BL (decide ((a:Int) < (s.length:Int)))) (Jf O O O) O (G6 (k (Js fun l=>Gn O (fun hb=>?_) (fun hb=>?_)))))
 ·
  have e:=Jn hb
  obtain⟨b,a6,m,n,h⟩:=Hs d e
  replace h:=Rx j h
  refine Gp (l (Js fun o=>Gk (Jr fun p=>(JLm (Em a) O (JLm (Em a) O (G6 (p (Jr fun t=>(JLm (.fn f_f f_c) O (JLm (E5 s) O (JLm (Em a) O (JLh (.dptr [I64 b]) (H4 (f:=I64) (xs:=s) (y:=b) O O O H1 m O) O (JLh (I64 b) (Gf G9 O O O) O ?_)))))))))))))
  obtain⟨a5,u,h⟩:=Gh h
  refine JLh (BL a5) (G33 (args:=[I64 b]) (caps:=f_c) O O (f_w b _ u) f_B ⟨O,O,ø⟩ f_d) O (G6 (t (JCc O h (fun h hb=>?_) (fun h hb=>?_))))
  ·
   refine Jr fun v=>(JLm (Em a) O (JLm (Em a) O (G6 (v (H2 (fin1 I64 h))))))
  ·
   refine Gp (o (G2 (JLh (I64 ((a+1:Nat):Int)) (Hz (He e a2) O O O) O (JLm (I64 ((a+1:Nat):Int)) O (G6 (a4 _ _ (a+1) () (app1 n h) (by omega) ⟨⟨.same rfl,.same (Jx _ _ f_d),.same rfl,.same rfl,ø⟩,ø,rfl⟩))))))
 ·
  have h:=app1 g (Ht d (H9 hb))
  refine Hr (z (Jr fun w=>(JLm (I64 (-1)) O (G6 (w (H2 (fin1 I64 h)))))))

def R6 (s:List Int) (f:Int→Option Bool):Option Bool:=
 bnd (Zu s f) fun a=>
 some (decide (0≤a))
theorem Gfa (s:List Int) (f:Int→Option Bool) (f_f:FuncId) (f_c:List AV) (f_B:Hh En f_f=true) (f_d:Qn (fun _=>false) f_c=true) (f_w:∀ a0 q,f a0=some q→Pure En f_f ([I64 a0]++f_c) (·=BL q)) (r:Bool) (h:R6 s f=some r):Pure En 99 [E5 s,.fn f_f f_c] (·=BL r):=by
 unfold R6 at h
 refine Ha [.tmp 4] Tryz.func99 O O (Jr fun b=>(JLm (BL false) O (G6 (b (Jr fun c=>(JLm (E5 s) O (JLm (.fn f_f f_c) O ?_)))))))
 obtain⟨a,d,h⟩:=Gh h
 refine JLh (I64 a) (H3 O (H42 s f f_f f_c f_B f_d f_w a d) Q94 ⟨O,O,O,f_d,ø⟩) O (JLh (BL (decide (0≤a))) (Ge4 O O O) O (JLm (BL (decide (0≤a))) O (G6 (c (H2 (fin1 BL h))))))

def Zp (n:Int):Option Bool:=
 some (decide (0 < n))
theorem H79 (n:Int) (r:Bool) (h:Zp n=some r):Pure En 100 [I64 n] (·=BL r):=by
 unfold Zp at h
 refine Ha [.tmp 2] Tryz.func100 O O (Jr fun a=>(JLm (BL false) O (G6 (a (Jr fun b=>(JLm (I64 n) O (JLh (BL (decide (0 < n))) (G46 O O O) O (JLm (BL (decide (0 < n))) O (G6 (b (H2 (fin1 BL h))))))))))))

def G44 (s:Gb) (heights:List Int) (ids:List Int):Option Unit:=
 some ()
theorem H31 (s:Gb) (heights:List Int) (ids:List Int) (r:Unit) (h:G44 s heights ids=some r):Pure En 60 [.agg (Gb.cs s),E5 heights,E5 ids] (·=.fn 98 [.dptr [E5 ids],Ef s,.dptr [E5 heights]]):=by
 unfold G44 at h
 refine Ha [.tmp 6] Tryz.func60 O O (Jr fun a=>(JLh (.ptr 1140 0) (Q5 (cs:=(Gb.cs s)) 1140 O O O O O) O (JLh (.ptr 1141 0) (Q5 (cs:=[E5 heights]) 1141 O O O O O) O (JLh (.ptr 1142 0) (Q5 (cs:=[E5 ids]) 1142 O O O O O) O (JLm (.sc .nilFunc) O (G6 (a ?_)))))))
 refine Gj [(3,Ef s),(4,.ptr 1141 0),(5,.ptr 1142 0)] [(1141,.box 39 [E5 heights]),(1142,.box 39 [E5 ids])] 1140 rfl rfl rfl ⟨⟨_,rfl,.boxEq rfl rfl⟩,⟨_,rfl,.boxEq rfl rfl⟩,ø⟩ rfl (by exact⟨.ptr,.conv (.same rfl),.conv (.same rfl),ø⟩) (Gj [(3,Ef s),(4,.dptr [E5 heights]),(5,.ptr 1142 0)] [(1142,.box 39 [E5 ids])] 1141 rfl rfl rfl ⟨⟨_,rfl,.boxEq rfl rfl⟩,ø⟩ rfl (by exact⟨.conv (.same rfl),.ptr,.conv (.same rfl),ø⟩) (Gj [(3,Ef s),(4,.dptr [E5 heights]),(5,.dptr [E5 ids])] [] 1142 rfl rfl rfl ø rfl (by exact⟨.conv (.same rfl),.conv (.same rfl),.ptr,ø⟩) ?_))
 refine Jr fun b=>(JLh (.fn 98 [.dptr [E5 ids],Ef s,.dptr [E5 heights]]) (Z5 (cs:=[.dptr [E5 ids],Ef s,.dptr [E5 heights]]) O O) O (JLm (.fn 98 [.dptr [E5 ids],Ef s,.dptr [E5 heights]]) O (G6 (b (H2 (⟨[.fn 98 [.dptr [E5 ids],Ef s,.dptr [E5 heights]]],[],ø,O,⟨⟨_,O,.conv (.same O)⟩,ø⟩,O,congrArg (fun _:Unit=>(.fn 98 [.dptr [E5 ids],Ef s,.dptr [E5 heights]]:AV)) (Ky h)⟩))))))

def G1e (self_:(List Int)→(Gb)→(List Int)→Option (List (List G1))) (F:Nat) (o:List Int) (p:Gb) (d:List Int) (ys_:List (List G1)):Option Unit:=
 bif decide ((o.length:Int)=0) then
 (need (decide (ys_[0]? = some [])) <|
  need (decide ((0+1)=ys_.length)) (some ()))
 else
 (each (fun z a (j:Nat) t=>
   jp (fun e=>
    bnd (Ga7 ((a+1:Nat):Int) d.length) fun u=>
    bnd (R6 (d.drop u) (fun z0=>Zp z0)) fun k=>
    bnd (bif (!k) then Q4 d (a:Int) some else some default) fun v=>
    bif (k||(decide (z.Tiers≤v))) then
    (e j)
    else
    (each (fun f l (g:Nat) q=>
      Q4 d (a:Int) fun h=>
      bnd (Qp d) fun b=>
      Q4 b (a:Int) fun w=>
      chk (w+1) fun m=>
      Q4 b (a:Int) fun a0=>
      bnd (Qp o) fun x=>
      bnd (Zo x (l:Int) ((l+1:Nat):Int)) fun n=>
      bnd (G44 p (b.set (a:Int).toNat m) n) fun a1=>
      bnd (self_ n p (b.set (a:Int).toNat m)) fun r=>
      each (fun i a2 (c:Nat) s=>
       need (decide (([(G1.mk f (Slot.mk (a:Int) h 0))].length+i.length)*32≤140737488355328∧[(G1.mk f (Slot.mk (a:Int) h 0))].length+i.length≤maxLen)) <|
       need (decide (ys_[c]? = some ([(G1.mk f (Slot.mk (a:Int) h 0))]++i))) <|
       s (c+1))
      (fun(c:Nat)=>
       q c) r 0 g)
     (fun(g:Nat)=>
      e g) o 0 j)) fun(y:Nat)=>
   t y)
  (fun(j:Nat)=>
   need (decide (j=ys_.length)) (some ())) p.Columns 0 0)
theorem Hc3 (self_:(List Int)→(Gb)→(List Int)→Option (List (List G1))) (self_w:∀ (i:List Int) (g:Gb) (k:List Int) (r:List (List G1)),self_ i g k=some r→Q43 En 98 [.dptr [E5 i],Ef g,.dptr [E5 k]] 65 4 (r.map (fun y:(List G1)=>[E4 y]))) (F:Nat) (i:List Int) (g:Gb) (k:List Int) (ys_:List (List G1)) (q_:Unit) (h:G1e self_ F i g k ys_=some q_):Q43 En 98 [.dptr [E5 i],Ef g,.dptr [E5 k]] 65 4 (ys_.map (fun y:(List G1)=>[E4 y])):=by
 unfold G1e at h
 refine Rec Tryz.func98 O O ?_
 intro E hE hys
 refine Qg (fun K1 g5=>Jp (Hx (u:=.ptr 1176 0) hE (Q5 (cs:=[.sc (.func (.yield E.lp) #[] #[])]) 1176 O O O O O) ?_ O O O O))
 refine Qe ?_
 refine g5 _ _ _ (Q41 [(1,.dptr [E5 i]),(2,Ef g),(3,.dptr [E5 k]),(4,.dptr [.sc (.func (.yield E.lp) #[] #[])])] [] 1176 rfl rfl rfl ø rfl (by repeat' (first | exact .ptr | constructor)) (Qg (fun K2 g6=>Qg (fun K3 g7=>Jp (Hx (u:=E5 i) hE (Gf Qt O O O) ?_ O O O O)))))
 refine H51 hE (f:=I64) (xs:=i) H1 O O (fun i3=>?_) O O O
 refine Hx (u:=BL (decide ((i.length:Int)=0))) hE (Q6 O O O) ?_ O O O O
 refine Qe ?_
 refine g7 _ _ _ (Gd4 O (fun hb=>?_) (fun hb=>?_))
 ·
  replace h:=Hg hb h
  refine Qg (fun K4 g8=>Jp (Hx (u:=.sc (.func (.yield E.lp) #[] #[])) hE (Gf Gcd O O O) ?_ O O O O))
  obtain⟨g9,h⟩:=J9 h
  refine R47 hE O O O (J8e (f:=(fun y:(List G1)=>[E4 y])) (x:=([]:List G1)) hys g9) ?_ O O O
  refine Qe ?_
  refine g8 _ _ _ (Y6b (J83 (J9 h).1))
 ·
  replace h:=J1 hb h
  refine Gb5 (g6 _ _ _ (Qg (fun K6 h0=>Jp (Hx (u:=Ef g) hE (Gc Hm O O O) ?_ O O O O))))
  refine Hx (u:=E7 g.Columns) hE (Gf J3 O O O) ?_ O O O O
  refine H51 hE (f:=G4.av) (xs:=g.Columns) Ho O O (fun b1=>?_) O O O
  refine Hx (u:=I64 0) hE (G5 O O) ?_ O O O O
  refine Qe ?_
  refine h0 _ _ _ (G1b ?_)
  obtain⟨b7,h1,h2,c7,h⟩:=J5 h
  refine H50 (fun a (s7:Nat)=>each b7 h1 (List.drop a g.Columns) a s7=some q_) (fun a s7=>[(1,.dptr [E5 i]),(2,Ef g),(3,.dptr [E5 k]),(4,.dptr [.sc (.func (.yield E.lp) #[] #[])]),(18,Em g.Columns.length),(19,Em a)]) (fun a s7=>[]) (fun a s7=>s7) (fun a=>g.Columns.length - a) 0 0 h ⟨(.sm O O),ø,rfl⟩ rfl ?_
  clear h
  intro a s7 c5 K7 e7
  refine Qg (fun K8 h3=>Jp (Hx (u:=BL (decide ((a:Int) < (g.Columns.length:Int)))) hE (Jf O O O) ?_ O O O O))
  refine Qe ?_
  refine h3 _ _ _ (Qg (fun K9 h4=>Gd4 O (fun hb=>?_) (fun hb=>?_)))
  ·
   have b2:=Jn hb
   obtain⟨y7,i9,h5,h6,h⟩:=Hs c5 b2
   replace h:=Rx h2 h
   refine Gb5 (h4 _ _ _ ?_)
   obtain⟨c8,c0,h⟩:=Rc h
   refine Y1e (fun t:Nat=>c8 t=some q_) (fun t=>[(1,.dptr [E5 i]),(2,Ef g),(3,.dptr [E5 k]),(4,.dptr [.sc (.func (.yield E.lp) #[] #[])]),(18,Em g.Columns.length),(19,Em a)]) (fun t=>[]) (fun t=>t) (fun Kj10 ej10=>?_) ?_
   ·
    refine G1b (Qg (fun j0 c9=>Jp (Hx (u:=Em a) hE (G5 O O) ?_ O O O O)))
    refine Hx (u:=Em a) hE (G7 O O) ?_ O O O O
    refine Qe ?_
    refine c9 _ _ _ (Qg (fun j1 d0=>Qg (fun j2 d1=>?_)))
    obtain⟨c6,d2,h⟩:=Gh h
    obtain⟨l,d3,h⟩:=Gh h
    obtain⟨v,d4,h⟩:=Gh h
    refine R6b [] (.replicate 18 0) (.replicate 18 0) [[]] hE Q3 (by kernel_rfl) rfl rfl ?_
    refine Gr (u:=E5 k) O O ⟨Gm (Gf Qt O O O) O,ø⟩ (Gr (u:=Em a) O O ⟨Gm (G5 O O) O,ø⟩ (Gr (u:=I64 ((a+1:Nat):Int)) O O ⟨Gm (Hz (He b2 b1) O O O) O,ø⟩ (Gr (u:=E5 (k.drop c6)) O O ⟨Gm (R4b (f:=I64) (xs:=k) O O O H1 (Rn d2)) O,ø⟩ (Gr (u:=BL l) O O ⟨Gm (H3 O (Gfa (k.drop c6) (fun z0=>Zp z0) 100 [] Q9e O (fun z0 q hq=>H79 z0 q hq) l d3) Qf4 ⟨O,O,O,O,ø⟩) O,ø⟩ (Gr (u:=BL l) O O ⟨Gm (G5 O O) O,ø⟩ (Gr (u:=.opt (!l) (E5 k)) O O ⟨Jw [] O O O .scf ø (fun hc=>Gf Qt O O O) O,ø⟩ (Gr (u:=.opt (!l) (Em a)) O O ⟨Jw [] O O O .scf ø (fun hc=>G5 O O) O,ø⟩ (Gr (u:=.opt (!l) (.dptr [I64 v])) O O ⟨Jw [(28,E5 k),(29,Em a)] O O O .scf ⟨.all id,.all id,ø⟩ (fun hc=>(match G2d (Hg hc d4) with | ⟨_,hm_,hy_⟩=>H4 (f:=I64) (xs:=k) (y:=v) O O O H1 hy_ hm_)) O,ø⟩ (Gr (u:=.opt (!l) (I64 v)) O O ⟨Jw [(30,.dptr [I64 v])] O O O .scf ⟨.all id,ø⟩ (fun hc=>Gf G9 O O O) O,ø⟩ (Gr (u:=.opt (!l) (Ef g)) O O ⟨Jw [] O O O .scf ø (fun hc=>Gc Hm O O O) O,ø⟩ (Gr (u:=.opt (!l) (E7 g.Columns)) O O ⟨Jw [(32,Ef g)] O O O .scf ⟨.all id,ø⟩ (fun hc=>Gf J3 O O O) O,ø⟩ (Gr (u:=.opt (!l) (Em a)) O O ⟨Jw [] O O O .scf ø (fun hc=>G5 O O) O,ø⟩ (Gr (u:=.opt (!l) (Ei y7)) O O ⟨Jw [(33,E7 g.Columns),(34,Em a)] O O O .scf ⟨.all id,.all id,ø⟩ (fun hc=>H4 (f:=G4.av) (xs:=g.Columns) (y:=y7) O O O Ho h5 O) O,ø⟩ ?_)))))))))))))
    refine Gr (u:=.opt (!l) (.dptr ((G4.cs y7).drop 3))) O O ⟨Jw [(35,Ei y7)] O O O .scf ⟨.all id,ø⟩ (fun hc=>Gc Yi O O O) O,ø⟩ (Gr (u:=.opt (!l) (I64 y7.Tiers)) O O ⟨Jw [(36,.dptr ((G4.cs y7).drop 3))] O O O .scf ⟨.all id,ø⟩ (fun hc=>Gf G9 O O O) O,ø⟩ (Gr (u:=.opt (!l) (BL (decide (y7.Tiers≤v)))) O O ⟨Jw [(31,I64 v),(37,I64 y7.Tiers)] O O O .scf ⟨.all id,.all id,ø⟩ (fun hc=>Ge4 O O O) O,ø⟩ (Gr (u:=BL (l||(decide (y7.Tiers≤v)))) O O ⟨Gm (G27 O O O O) O,ø⟩ (Zg (d1 _ _ _ (Gd4 O (fun hb=>?_) (fun hb=>?_)))))))
    ·
     replace h:=Hg hb h
     refine H6c (ej10 _ _ _ s7 h ⟨(.sm O O),ø,rfl⟩ rfl)
    ·
     replace h:=J1 hb h
     refine Gb5 (d0 _ _ _ (Qg (fun j3 d5=>Jp (Hx (u:=E5 i) hE (Gf Qt O O O) ?_ O O O O))))
     refine H51 hE (f:=I64) (xs:=i) H1 O O (fun b0=>?_) O O O
     refine Hx (u:=I64 0) hE (G5 O O) ?_ O O O O
     refine Qe ?_
     refine d5 _ _ _ (G1b ?_)
     obtain⟨h7,d6,d7,c1,h⟩:=J5 h
     refine H50 (fun e (o:Nat)=>each h7 d6 (List.drop e i) e o=some q_) (fun e o=>[(1,.dptr [E5 i]),(2,Ef g),(3,.dptr [E5 k]),(4,.dptr [.sc (.func (.yield E.lp) #[] #[])]),(5,Em a),(18,Em g.Columns.length),(19,Em a),(40,E5 i),(41,Em i.length),(42,Em e)]) (fun e o=>[]) (fun e o=>o) (fun e=>i.length - e) 0 s7 h ⟨(.sm O O),ø,rfl⟩ rfl ?_
     clear h
     intro e o b3 j4 h8
     refine Qg (fun j5 d8=>Jp (Hx (u:=BL (decide ((e:Int) < (i.length:Int)))) hE (Jf O O O) ?_ O O O O))
     refine Qe ?_
     refine d8 _ _ _ (Qg (fun j6 d9=>Gd4 O (fun hb=>?_) (fun hb=>?_)))
     ·
      have a4:=Jn hb
      obtain⟨c,i6,e0,e1,h⟩:=Hs b3 a4
      replace h:=Rx d7 h
      refine Gb5 (d9 _ _ _ (Qg (fun j7 e2=>G1b (Qg (fun j8 e3=>Jp (Hx (u:=Em e) hE (G5 O O) ?_ O O O O))))))
      refine Hx (u:=.dptr [I64 c]) hE (H4 (f:=I64) (xs:=i) (y:=c) O O O H1 e0 O) ?_ O O O O
      refine Hx (u:=I64 c) hE (Gf G9 O O O) ?_ O O O O
      refine Hx (u:=Em e) hE (G7 O O) ?_ O O O O
      refine Hx (u:=I64 c) hE (G7 O O) ?_ O O O O
      refine Qe ?_
      refine e3 _ _ _ (Qg (fun j9 e4=>Jp (Hx (u:=I64 c) hE (G5 O O) ?_ O O O O)))
      refine Hx (u:=Em a) hE (G5 O O) ?_ O O O O
      refine Hx (u:=E5 k) hE (Gf Qt O O O) ?_ O O O O
      refine Hx (u:=Em a) hE (G5 O O) ?_ O O O O
      obtain⟨k0,d,e5,e6,h⟩:=Qx h
      refine Hx (u:=.dptr [I64 d]) hE (H4 (f:=I64) (xs:=k) (y:=d) O O O H1 e6 e5) ?_ O O O O
      refine Hx (u:=I64 d) hE (Gf G9 O O O) ?_ O O O O
      refine Hx (u:=.agg [Em a,I64 d,U8 0]) hE (Ja (cs:=[Em a,I64 d,U8 0]) [(0,1),(1,1),(2,1)] [I64 0,I64 0,U8 0] [E0,E0,.int .u8 0] G9d Gbc (zzQ O) O O) ?_ O O O O
      refine Hx (u:=.agg [I64 c,Em a,I64 d,U8 0]) hE (Ja (cs:=[I64 c,Em a,I64 d,U8 0]) [(0,1),(1,3)] [I64 0,I64 0,I64 0,U8 0] [E0,E0,E0,.int .u8 0] G62 Gbb (zzQ O) O O) ?_ O O O O
      refine Hx (u:=.ptr 1177 0) hE (Hc 1177 4 Qk O O) ?_ O O O O
      refine Q74 (u:=.junk) hE (H0 (u:=.agg [I64 c,Em a,I64 d,U8 0]) (ds:=[I64 c,Em a,I64 d,U8 0]) Z0 O O O O O O O O) ?_ O O O
      refine Qe ?_
      refine e4 _ _ _ (Q41 [(1,.dptr [E5 i]),(2,Ef g),(3,.dptr [E5 k]),(4,.dptr [.sc (.func (.yield E.lp) #[] #[])]),(5,Em a),(6,Em e),(8,.dptr [I64 c,Em a,I64 d,U8 0]),(18,Em g.Columns.length),(19,Em a),(40,E5 i),(41,Em i.length),(42,Em e)] [] 1177 rfl rfl rfl ø rfl (by repeat' (first | exact .ptr | constructor)) (Qg (fun k1 e8=>Jp (Hx (u:=E5 k) hE (Gf Qt O O O) ?_ O O O O))))
      obtain⟨j,e9,h⟩:=Gh h
      refine Re9 hE O O O (Qde (args:=[E5 k]) (L0:=[]) (u:=fun p=>.vec 1020000002 p 1 j.length) (Lr:=fun p=>[(1020000002,.vec 3 1 p (j.map I64))]) O (Ge0 k j e9) J56 ⟨.inl O,O,ø⟩ ø O (fun _=>O)) ?_
      rintro u_ L_ ⟨a1,rfl,rfl⟩
      refine Hx (u:=.vec 1020000002 a1 1 j.length) hE (G7 O O) ?_ O O O O
      refine Qe ?_
      refine e8 _ _ _ (Qg (fun k2 f0=>Jp (Hx (u:=.vec 1020000002 a1 1 j.length) hE (G5 O O) ?_ O O O O)))
      refine Hx (u:=Em a) hE (G5 O O) ?_ O O O O
      obtain⟨b4,c2,b5,h⟩:=H03 h
      refine Hx (u:=.vptr 1020000002 a1 ((a:Int).toNat) 0) hE (Hbb (f:=I64) (xs:=j) (y:=b4) O O O O H1 b5 c2) ?_ O O O O
      refine Hx (u:=I64 b4) hE (Jf4 (f:=I64) (xs:=j) (y:=b4) G9 O O O b5 O O) ?_ O O O O
      obtain⟨n,f1,h⟩:=J6 h
      refine Hx (u:=I64 n) hE (Hz f1 O O O) ?_ O O O O
      obtain⟨h9,c3,b6,h⟩:=H03 h
      refine Hx (u:=.vptr 1020000002 a1 ((a:Int).toNat) 0) hE (Hbb (f:=I64) (xs:=j) (y:=h9) O O O O H1 b6 c3) ?_ O O O O
      refine Q74 (u:=.junk) hE (Q45 (f:=I64) (xs:=j) (z:=n) G00 O O O O (Kw b6).1 O O O O) ?_ O O O
      refine Qe ?_
      refine f0 _ _ _ (Qg (fun k3 f2=>R6a (l':=[(1,.dptr [E5 i]),(2,Ef g),(3,.dptr [E5 k]),(4,.dptr [.sc (.func (.yield E.lp) #[] #[])]),(5,Em a),(6,Em e),(8,.dptr [I64 c,Em a,I64 d,U8 0]),(9,.vec 1020000002 a1 1 j.length),(18,Em g.Columns.length),(19,Em a),(40,E5 i),(41,Em i.length),(42,Em e)]) (L':=[(1020000002,.vec 3 1 a1 ((j.set (a:Int).toNat n).map I64))]) ⟨(.sm O O),⟨⟨_,rfl,.vec⟩,ø⟩,rfl⟩ ?_))
      refine R45 [(1,.dptr [E5 i]),(2,Ef g),(3,.dptr [E5 k]),(4,.dptr [.sc (.func (.yield E.lp) #[] #[])]),(5,Em a),(6,Em e),(8,.dptr [I64 c,Em a,I64 d,U8 0]),(9,E5 (j.set (a:Int).toNat n)),(18,Em g.Columns.length),(19,Em a),(40,E5 i),(41,Em i.length),(42,Em e)] [] 1020000002 rfl rfl ø rfl (by exact⟨.conv (.same rfl),.conv (.same rfl),.conv (.same rfl),.conv (.same rfl),.conv (.same rfl),.conv (.same rfl),.conv (.same rfl),.vec,.conv (.same rfl),.conv (.same rfl),.conv (.same rfl),.conv (.same rfl),.conv (.same rfl),ø⟩) ?_
      obtain⟨w,f3,h⟩:=Gh h
      obtain⟨a0,f4,h⟩:=Gh h
      obtain⟨i0,f5,h⟩:=Gh h
      refine R6b [3,7] [0,0,0,0,0,0,0,0,2] [2,2,0,0,1,1,1,0,2] [[],((1020000002,.vec 3 1 0 (w.map I64))::[]),((1020000002,.vec 3 1 (0+2+1) (([]:List Int).map I64))::((1020000002,.vec 3 1 0 (w.map I64))::[]))] hE Q3 (by kernel_rfl) rfl rfl ?_
      refine Gr (u:=.agg (Gb.cs g)) O O ⟨Gm (Gg Hn O O O) O,Gm (Gg Hn O O O) O,Gm (Gg Hn O O O) O,ø⟩ (Gr (u:=E5 (j.set (a:Int).toNat n)) O O ⟨Gm (G5 O O) O,Gm (G5 O O) O,Gm (G5 O O) O,ø⟩ (Gr (u:=E5 i) O O ⟨Gm (Gf Qt O O O) O,ø⟩ (D_w (u:=.vec 1020000002 0 1 w.length) O O O O (Gm (H37 (args:=[E5 i]) (L0:=[]) (Lr:=[(1020000002,.vec 3 1 0 (w.map I64))]) O (Q2.fresh0 (Ge0 i w f3)) J56 ⟨.inl O,O,ø⟩ ø O O O) O) (Gr (u:=Em e) O O ⟨Gm (G5 O O) O,Gm (G5 O O) O,ø⟩ (Gr (u:=Em e) O O ⟨Gm (G5 O O) O,Gm (G5 O O) O,ø⟩ (Gr (u:=I64 ((e+1:Nat):Int)) O O ⟨Gm (Hz (He a4 b0) O O O) O,Gm (Hz (He a4 b0) O O O) O,ø⟩ (D_w (u:=E5 a0) O O O O (G04.locEq (Gm (Rc0 (H37 (args:=[.vec 1020000002 0 1 w.length,Em e,I64 ((e+1:Nat):Int)]) O (H78 w (e:Int) ((e+1:Nat):Int) a0 f4 0) Q9d ⟨.inl O,O,.inl O,O,.inl O,O,ø⟩ ⟨O,ø⟩ O O O)) O) (G98.of [1020000002] O O ⟨O,ø⟩)) (Gr (u:=.fn 98 [.dptr [E5 a0],Ef g,.dptr [E5 (j.set (a:Int).toNat n)]]) O O ⟨Gm (H3 O (H31 g (j.set (a:Int).toNat n) a0 i0 f5) Ja7 ⟨O,O,O,O,O,O,ø⟩) O,ø⟩ (Zg ?_)))))))))
      refine f2 _ _ _ (G1b ?_)
      obtain⟨a5,hy_88,h⟩:=Gh h
      obtain⟨i1,f6,f7,c4,h⟩:=J5 h
      have a2:=hys
      refine Q10 (ps:=[72]) [(1,.dptr [E5 i]),(2,Ef g),(3,.dptr [E5 k]),(4,.dptr [.sc (.func (.yield E.lp) #[] #[])]),(5,Em a),(8,.dptr [I64 c,Em a,I64 d,U8 0]),(18,Em g.Columns.length),(19,Em a),(40,E5 i),(41,Em i.length),(42,Em e),(71,.fn 98 [.dptr [E5 a0],Ef g,.dptr [E5 (j.set (a:Int).toNat n)]])] (a5.map (fun y:(List G1)=>[E4 y])) (fun a7 (s:Nat)=>each i1 f6 (List.drop a7 a5) a7 s=some q_) (fun a7 (s:Nat)=>s) o hE rfl rfl rfl J9c (self_w a0 g (j.set (a:Int).toNat n) a5 hy_88) h rfl ⟨(.sm O O),trivial,rfl⟩ (fun us_ hus_=>by obtain⟨_,_,rfl⟩:=Me.1 hus_; rfl) (fun p_ hp_=>Nat.blt_eq.mp (by revert p_; decide)) ?_ ?_
      ·
       intro a7 us_ s hu_ f8 lr_ k4 i2 E hE a8 b8
       rw [← b8]
       have hys:=And.intro (a8.1.trans hys.1) (a8.2.trans hys.2)
       obtain⟨f9,rfl⟩:=R5d hu_
       obtain⟨m,i8,g0,g1,h⟩:=Hs f8 f9
       replace h:=Rx f7 h
       obtain⟨_,rfl⟩:=Kw g0
       generalize a5[a7]=m at h ⊢
       change JI _ _ _ _ _ [(72,E4 m),(1,.dptr [E5 i]),(2,Ef g),(3,.dptr [E5 k]),(4,.dptr [.sc (.func (.yield E.lp) #[] #[])]),(5,Em a),(8,.dptr [I64 c,Em a,I64 d,U8 0]),(18,Em g.Columns.length),(19,Em a),(40,E5 i),(41,Em i.length),(42,Em e),(71,.fn 98 [.dptr [E5 a0],Ef g,.dptr [E5 (j.set (a:Int).toNat n)]])] [] s
       refine Jp (Hx (u:=E4 m) hE (G7 O O) ?_ O O O O)
       refine Qe ?_
       intro E hE a9 b9
       rw [← b9]
       have hys:=And.intro (a9.1.trans a2.1) (a9.2.trans a2.2)
       refine G1b (Qg (fun k5 g2=>?_))
       obtain⟨g3,h⟩:=J9 h
       refine Rb1 5 [2,4] [0,0,0,0,0] [2,0,0,1,0] [[],((1178,.vec 65 4 ([(G1.mk c (Slot.mk (a:Int) d 0))].length) ([(G1.mk c (Slot.mk (a:Int) d 0))].map G1.av))::[]),((1178,.vec 65 4 (([(G1.mk c (Slot.mk (a:Int) d 0))]++m).length+1) (([(G1.mk c (Slot.mk (a:Int) d 0))]++m).map G1.av))::((1178,.vec 65 4 ([(G1.mk c (Slot.mk (a:Int) d 0))].length) ([(G1.mk c (Slot.mk (a:Int) d 0))].map G1.av))::[]))] hE Q3 (by kernel_rfl) (by kernel_rfl) rfl rfl ?_
       simp only [List.take_succ_cons,List.take_zero,List.drop_succ_cons,List.drop_zero]
       refine Gr (u:=.sc (.func (.yield E.lp) #[] #[])) O O ⟨Gm (Gf Gcd O O O) O,Gm (Gf Gcd O O O) O,Gm (Gf Gcd O O O) O,ø⟩ (Gr (u:=.agg [I64 c,Em a,I64 d,U8 0]) O O ⟨Gm (Gg Qw O O O) O,ø⟩ (D_w (u:=.vec 1178 ([(G1.mk c (Slot.mk (a:Int) d 0))].length) 4 ([(G1.mk c (Slot.mk (a:Int) d 0))].length)) O O O O (Gm (Jf8 1178 (f:=G1.av) [(G1.mk c (Slot.mk (a:Int) d 0))] O ⟨O,O,ø⟩ Hd Qk O O O O O) O) (Gr (u:=E4 m) O O ⟨Gm (G5 O O) O,Gm (G5 O O) O,ø⟩ (D_w (u:=.vec 1178 (([(G1.mk c (Slot.mk (a:Int) d 0))]++m).length+1) 4 (([(G1.mk c (Slot.mk (a:Int) d 0))]++m).length)) rfl rfl rfl rfl (Gm (G8e (f:=G1.av) (xs:=[(G1.mk c (Slot.mk (a:Int) d 0))]) (ys:=m) (ver:=([(G1.mk c (Slot.mk (a:Int) d 0))].length)) (ver1:=(([(G1.mk c (Slot.mk (a:Int) d 0))]++m).length+1)) rfl rfl rfl rfl Hd H0a g3 (fun _=>rfl) (.inl rfl) (by simp)) rfl) (Zg ?_)))))
       obtain⟨g4,h⟩:=J9 h
       refine R46 (xs:=List.map G1.av ([(G1.mk c (Slot.mk (a:Int) d 0))]++m)) hE O O O O (J8e (f:=(fun y:(List G1)=>[E4 y])) (x:=([(G1.mk c (Slot.mk (a:Int) d 0))]++m)) hys g4) ?_ O O O
       refine Hx (u:=BL false) hE (G1f (b:=true) O O) ?_ O O O O
       refine Qe ?_
       refine g2 _ _ _ (Jed O (Gb5 (i2 _ _ (s+1) (app1 g1 h))))
      ·
       intro s h
       rw [Mc] at h
       replace h:=app1 c4 (Ht h (Nat.lt_irrefl _))
       refine e2 _ _ _ (Jp (Hx (u:=I64 ((e+1:Nat):Int)) hE (Hz (He a4 b0) O O O) ?_ O O O O))
       refine Hx (u:=I64 ((e+1:Nat):Int)) hE (G5 O O) ?_ O O O O
       refine Qe ?_
       exact h8 _ _ (e+1) s _ (app1 e1 h) (by omega) ⟨(.sm O O),ø,rfl⟩ rfl
     ·
      have h:=app1 c1 (Ht b3 (H9 hb))
      refine H6c (ej10 _ _ _ o h ⟨(.sm O O),ø,rfl⟩ rfl)
   ·intro t h
    replace h:=app1 c0 h
    refine Jp (Hx (u:=I64 ((a+1:Nat):Int)) hE (Hz (He b2 b1) O O O) ?_ O O O O)
    refine Hx (u:=I64 ((a+1:Nat):Int)) hE (G5 O O) ?_ O O O O
    refine Qe ?_
    exact e7 _ _ (a+1) t _ (app1 h6 h) (by omega) ⟨(.sm O O),ø,rfl⟩ rfl
  ·
   have h:=app1 c7 (Ht c5 (H9 hb))
   refine H6c (J83 (J9 h).1)
theorem Hc1 (S_:Nat→(List Int)→(Gb)→(List Int)→Option (List (List G1))) (h0_:∀ (a:List Int) (b:Gb) (c:List Int),S_ 0 a b c=none) (hS_:∀ F (a:List Int) (b:Gb) (c:List Int) r,S_ (F+1) a b c=some r→G1e (S_ F) F a b c r=some ()):∀ (F:Nat) (a:List Int) (b:Gb) (c:List Int) (r:List (List G1)) (h:S_ F a b c=some r),Q43 En 98 [.dptr [E5 a],Ef b,.dptr [E5 c]] 65 4 (r.map (fun y:(List G1)=>[E4 y])):=by
 intro F
 induction F with
 | zero=>intro a b c r h; rw [h0_] at h; cases h
 | succ F ih=>intro a b c r h; exact Hc3 (S_ F) ih F a b c r () (hS_ F a b c r h)
end
end Go.Proofs.YtibhpogonkdiaaaGreat
