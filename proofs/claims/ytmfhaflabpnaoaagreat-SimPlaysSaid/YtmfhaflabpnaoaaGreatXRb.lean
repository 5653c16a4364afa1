/- Walks of functions. -/
import Derived.Test.YtmfhaflabpnaoaaGreatXRa
set_option maxRecDepth 100000
set_option maxHeartbeats 1000000
set_option linter.unusedVariables false
set_option linter.unusedSimpArgs false
namespace Go.Proofs.YtmfhaflabpnaoaaGreat
open Go.RowKit
noncomputable section
open XAF
open XLF
open XCF
open XSF
open XKF
open XTF
open XUF
open XBF
open XRF

def Qn (s:G6) (column:Int):Option Int:=
 bif ((decide (column < 0))||(decide ((s.Columns.length:Int)≤column))) then
 (some (-1))
 else
 (each (fun a d (e:Unit) c=>
   Qr s.Columns column fun b=>
   bnd (bif decide (a.Bay=b.Bay) then Qr s.Columns column some else some default) fun f=>
   bnd (bif decide (a.Bay=b.Bay) then Qc a.Rows f.Row else some default) fun g=>
   bif ((decide (a.Bay=b.Bay))&&g) then
   (some (d:Int))
   else
   (c ()))
  (fun(e:Unit)=>
   some (-1)) s.Covers 0 ())
theorem G29 (s:G6) (column:Int) (r:Int) (h:Qn s column=some r):Pure Ek 68 [.agg (G6.cs s),I64 column] (·=I64 r):=by
 unfold Qn at h
 refine H3 [.tmp 4] Tryz.func68 O O (Jr fun a3=>(JLh (.ptr 1104 0) (Ju (cs:=(G6.cs s)) 1104 O O O O O) O (JLm (I64 0) O (G8 (a3 (Gu [(1,I64 column),(2,Ee s)] [] 1104 rfl rfl rfl G rfl (by exact⟨.conv (.same rfl),.ptr,G⟩) (Js fun a4=>?_)))))))
 refine Jr fun a5=>(JLm (I64 column) O (JLh (BL (decide (column < 0))) (Jq O O O) O (JLm (BL (decide (column < 0))) O (JLo (I64 column) [] O .scf G (fun hc=>G7 O O) O (JLo (Ee s) [] O .scf G (fun hc=>Gb Hh O O O) O (JLo (E3 s.Columns) [10] O .scf ⟨Ua,G⟩ (fun hc=>Ge Hn O O O) O (JLo (Ej s.Columns.length) [11] O .scf ⟨Ua,G⟩ (fun hc=>G2d (f:=G1.av) (xs:=s.Columns) Hk O O) O (JLo (BL (decide ((s.Columns.length:Int)≤column))) [9,12] O .scf ⟨Ua,Ua,G⟩ (fun hc=>G4b O O O) O (JLh (BL ((decide (column < 0))||(decide ((s.Columns.length:Int)≤column)))) (Ya O O O O) O (G8 (a5 (JCc O h (fun h hb=>?_) (fun h hb=>?_)))))))))))))
 ·
  refine Jr fun a6=>(JLm (I64 (-1)) O (G8 (a6 (Gs (fin1 I64 h)))))
 ·
  refine Gn (a4 (Js fun a7=>Jr fun a8=>(JLm (I64 0) O (G8 (a8 (Gx ?_))))))
  obtain⟨a9,m,n,l,h⟩:=Jf h
  refine Hs (fun a (e:Unit)=>each a9 m (List.drop a s.Covers) a e=some r) (fun a e=>[(1,I64 column),(2,Ee s),(5,Ej a)]) (fun a e=>[]) (fun a=>s.Covers.length - a) 0 () h ⟨(.sm O O),G,O⟩ ?_
  clear h
  intro a e g b2 b0
  refine Js fun o=>Jr fun p=>(JLm (Ej a) O (JLh (.dptr ((G6.cs s).drop 1)) (Gb Jc O O O) O (JLh (E7 s.Covers) (Ge Ji O O O) O (JLl J7 O O O fun q=>(JLh (BL (decide ((a:Int) < (s.Covers.length:Int)))) (Jq O O O) O (G8 (p (Gp O (fun hb=>?_) (fun hb=>?_)))))))))
  ·
   have i:=Q4 hb
   obtain⟨b,b1,j,t,h⟩:=Hz g i
   replace h:=Zi n h
   refine Gn (o (Js fun u=>Gx (Js fun v=>?_)))
   obtain⟨b3,c,w,x,h⟩:=Rr h
   obtain⟨d,z,h⟩:=Gj h
   obtain⟨k,a0,h⟩:=Gj h
   refine JC_d0 Ho (by kernel_rfl) (Dq (.dptr ((G6.cs s).drop 1)) (Gb Jc O O O) O (Dq (E7 s.Covers) (Ge Ji O O O) O (Dq (Ej a) (G7 O O) O (Dq (.dptr [I64 b.Bay,E1 b.Rows]) (H0 (f:=Ga.av) (xs:=s.Covers) (y:=b) O O O J7 j O) O (Dq (.dptr [I64 b.Bay,E1 b.Rows]) (Gb G1c O O O) O (Dq (I64 b.Bay) (Ge Gd O O O) O (Dq (Ee s) (Gb Hh O O O) O (Dq (E3 s.Columns) (Ge Hn O O O) O (Dq (I64 column) (G7 O O) O (Dq (Eh c) (H0 (f:=G1.av) (xs:=s.Columns) (y:=c) O O O Hk x w) O (Dq (Eh c) (Gb G46 O O O) O (Dq (I64 c.Bay) (Ge Gd O O O) O (Dq (BL (decide (b.Bay=c.Bay))) (Jk O O O) O ?_)))))))))))))
   refine Dq (BL (decide (b.Bay=c.Bay))) (G7 O O) O (Do (.dptr ((G6.cs s).drop 1)) [] O .sct G (fun hc=>Gb Jc O O O) O (Do (E7 s.Covers) [36] O .sct ⟨Ua,G⟩ (fun hc=>Ge Ji O O O) O (Do (Ej a) [] O .sct G (fun hc=>G7 O O) O (Do (.dptr [I64 b.Bay,E1 b.Rows]) [37,38] O .sct ⟨Ua,Ua,G⟩ (fun hc=>H0 (f:=Ga.av) (xs:=s.Covers) (y:=b) O O O J7 j O) O (Do (.dptr [E1 b.Rows]) [39] O .sct ⟨Ua,G⟩ (fun hc=>Gb Qk O O O) O (Do (E1 b.Rows) [40] O .sct ⟨Ua,G⟩ (fun hc=>Ge Hq O O O) O (Do (Ee s) [] O .sct G (fun hc=>Gb Hh O O O) O (Do (E3 s.Columns) [42] O .sct ⟨Ua,G⟩ (fun hc=>Ge Hn O O O) O (Do (I64 column) [] O .sct G (fun hc=>G7 O O) O (Do (Eh d) [43,44] O .sct ⟨Ua,Ua,G⟩ (fun hc=>(match R1 (H1 hc z) with | ⟨_,hm_,hy_⟩=>H0 (f:=G1.av) (xs:=s.Columns) (y:=d) O O O Hk hy_ hm_)) O (Do (.dptr ((G1.cs d).drop 1)) [45] O .sct ⟨Ua,G⟩ (fun hc=>Gb G45 O O O) O (Do (I64 d.Row) [46] O .sct ⟨Ua,G⟩ (fun hc=>Ge Gd O O O) O (Do (BL k) [41,47] O .sct ⟨Ua,Ua,G⟩ (fun hc=>Gw (args:=[E1 b.Rows,I64 d.Row]) O (G9c b.Rows d.Row k (H1 hc a0)) J99 ⟨O,O,O,O,G⟩) O ?_)))))))))))))
   refine Dq (BL ((decide (b.Bay=c.Bay))&&k)) (Jv O O O O) O (Dnil (v (JCc O h (fun h hb=>?_) (fun h hb=>?_))))
   ·
    refine Jr fun a1=>(JLm (Ej a) O (JLm (Ej a) O (G8 (a1 (Gs (fin1 I64 h))))))
   ·
    refine Gn (u (G2 (JLm (Ej a) O (JLh (I64 ((a+1:Nat):Int)) (Jo (Hw i q) O O O) O (JLm (I64 ((a+1:Nat):Int)) O (G8 (b0 _ _ (a+1) () (app1 t h) (by omega) ⟨(.sm O O),G,rfl⟩)))))))
  ·
   have h:=app1 l (J0 g (Hd hb))
   refine Hy (a7 (Jr fun a2=>(JLm (I64 (-1)) O (G8 (a2 (Gs (fin1 I64 h)))))))

def Yg (s:G6) (column:Int) (cover:Int):Option Bool:=
 Qr s.Columns column fun a=>
 bnd (bif a.Deck then Qn s column else some default) fun b=>
 some (a.Deck&&(decide (b=cover)))
theorem H84 (s:G6) (column:Int) (cover:Int) (r:Bool) (h:Yg s column cover=some r):Pure Ek 113 [.agg (G6.cs s),I64 column,I64 cover] (·=BL r):=by
 unfold Yg at h
 refine H3 [.tmp 6] Tryz.func113 O O (Jr fun c=>(JLh (.ptr 1135 0) (Ju (cs:=(G6.cs s)) 1135 O O O O O) O (JLm (BL false) O (G8 (c (Gu [(1,I64 column),(2,I64 cover),(3,Ee s)] [] 1135 rfl rfl rfl G rfl (by exact⟨.conv (.same rfl),.conv (.same rfl),.ptr,G⟩) (Jr fun d=>(JLh (Ee s) (Gb Hh O O O) O (JLh (E3 s.Columns) (Ge Hn O O O) O (JLm (I64 column) O ?_))))))))))
 obtain⟨j,a,e,g,h⟩:=Rr h
 refine JLh (Eh a) (H0 (f:=G1.av) (xs:=s.Columns) (y:=a) O O O Hk g e) O (JLh (.dptr ((G1.cs a).drop 2)) (Gb Z4 O O O) O (JLh (BL a.Deck) (Ge Re O O O) O (JLm (BL a.Deck) O (JLo (.agg (G6.cs s)) [] O .sct G (fun hc=>Gt Jm O O O) O (JLo (I64 column) [] O .sct G (fun hc=>G7 O O) O ?_)))))
 obtain⟨b,i,h⟩:=Gj h
 refine JLo (I64 b) [14,15] O .sct ⟨Ua,Ua,G⟩ (fun hc=>Gw (args:=[.agg (G6.cs s),I64 column]) O (G29 s column b (H1 hc i)) J1b ⟨O,O,O,O,G⟩) O (JLo (I64 cover) [] O .sct G (fun hc=>G7 O O) O (JLo (BL (decide (b=cover))) [16,17] O .sct ⟨Ua,Ua,G⟩ (fun hc=>Jk O O O) O (JLh (BL (a.Deck&&(decide (b=cover)))) (Jv O O O O) O (JLm (BL (a.Deck&&(decide (b=cover)))) O (G8 (d (Gs (fin1 BL h))))))))

def Q3 (open_:List Int) (cover:Int):Option Bool:=
 each (fun b d (c:Unit) a=>
  bif decide (b=cover) then
  (some true)
  else
  (a ()))
 (fun(c:Unit)=>
  some false) open_ 0 ()
theorem Ze (open_:List Int) (cover:Int) (r:Bool) (h:Q3 open_ cover=some r):Pure Ek 69 [E1 open_,I64 cover] (·=BL r):=by
 unfold Q3 at h
 refine H3 [.tmp 4] Tryz.func69 O O (Jr fun t=>(JLm (BL false) O (G8 (t (Js fun u=>Jr fun v=>(JLm (I64 0) O (G8 (v (Gx ?_)))))))))
 obtain⟨w,i,j,g,h⟩:=Jf h
 refine Hs (fun a (b:Unit)=>each w i (List.drop a open_) a b=some r) (fun a b=>[(0,E1 open_),(1,I64 cover),(5,Ej a)]) (fun a b=>[]) (fun a=>open_.length - a) 0 () h ⟨(.sm O O),G,O⟩ ?_
 clear h
 intro a b d a1 x
 refine Js fun k=>Jr fun l=>(JLm (Ej a) O (JLm (E1 open_) O (JLl Gz O O O fun z=>(JLh (BL (decide ((a:Int) < (open_.length:Int)))) (Jq O O O) O (G8 (l (Gp O (fun hb=>?_) (fun hb=>?_))))))))
 ·
  have e:=Q4 hb
  obtain⟨c,a0,m,n,h⟩:=Hz d e
  replace h:=Zi j h
  refine Gn (k (Js fun o=>Gx (Jr fun p=>(JLm (E1 open_) O (JLm (Ej a) O (JLh (.dptr [I64 c]) (H0 (f:=I64) (xs:=open_) (y:=c) O O O Gz m O) O (JLh (I64 c) (Ge Gd O O O) O (JLm (I64 cover) O (JLh (BL (decide (c=cover))) (Jk O O O) O (G8 (p (JCc O h (fun h hb=>?_) (fun h hb=>?_)))))))))))))
  ·
   refine Jr fun q=>(JLm (BL true) O (G8 (q (Gs (fin1 BL h)))))
  ·
   refine Gn (o (G2 (JLm (Ej a) O (JLh (I64 ((a+1:Nat):Int)) (Jo (Hw e z) O O O) O (JLm (I64 ((a+1:Nat):Int)) O (G8 (x _ _ (a+1) () (app1 n h) (by omega) ⟨(.sm O O),G,rfl⟩)))))))
 ·
  have h:=app1 g (J0 d (Hd hb))
  refine Hy (u (Jr fun s=>(JLm (BL false) O (G8 (s (Gs (fin1 BL h)))))))

def Zm (F:Nat) (s:G6) (boxes:List Box) (l:List G3) (open_:List Int) (cover:Int):Option ((List Int)×Int):=
 bnd (Hv F s boxes l open_) fun k=>
 bif (!k) then
 (some ([],2))
 else
 (bif ((decide (cover < 0))||(decide ((s.Covers.length:Int)≤cover))) then
  (some ([],6))
  else
  (each (fun f m (g:Unit) d=>
    bnd (Yg s f.Slot.G1 cover) fun h=>
    bif h then
    (some ([],95))
    else
    (d ()))
   (fun(g:Unit)=>
    each (fun n a (b:(List Int)) e=>
     jp (fun c=>
      bnd (bif (!(decide ((a:Int)=cover))) then Q3 open_ (a:Int) else some default) fun i=>
      bif ((decide ((a:Int)=cover))||i) then
      (need (decide ((b.length+[(a:Int)].length)*8≤140737488355328∧b.length+[(a:Int)].length≤maxLen)) <|
       c (b++[(a:Int)]))
      else
      (c b)) fun(j:(List Int))=>
     e j)
    (fun(b:(List Int))=>
     some (b,0)) s.Covers 0 []) l 0 ()))
theorem H86 (F:Nat) (s:G6) (boxes:List Box) (l:List G3) (open_:List Int) (cover:Int) (r:(List Int)×Int) (h:Zm F s boxes l open_ cover=some r):Pure Ek 65 [.agg (G6.cs s),E8 boxes,E2 l,E1 open_,I64 cover] (·=.tup [E1 r.1,I64 r.2]):=by
 unfold Zm at h
 refine H3 [.tmp 10,.tmp 11] Tryz.func65 O O (Jr fun c3=>(JLh (.ptr 1100 0) (Ju (cs:=(G6.cs s)) 1100 O O O O O) O (JLh (E1 ([]:List Int)) (Jb 1 O O) O (JLm (I64 0) O (G8 (c3 (fzQ [(1,E8 boxes),(2,E2 l),(3,E1 open_),(4,I64 cover),(5,Ee s)] [] 1100 rfl rfl rfl G rfl (Js fun c4=>Jr fun c5=>(JLh (.agg (G6.cs s)) (Gt Jm O O O) O (JLm (E8 boxes) O (JLm (E2 l) O (JLm (E1 open_) O ?_))))))))))))
 obtain⟨p,c6,h⟩:=Gj h
 refine JLh (BL p) (Gw O (G28 F s boxes l open_ p c6) J1c ⟨O,O,O,O,O,O,O,O,G⟩) O (JLh (BL (!p)) (R2 (b:=p) O O) O (G8 (c5 (JCc O h (fun h hb=>?_) (fun h hb=>?_)))))
 ·
  refine Jr fun c7=>(JLh (E1 ([]:List Int)) (Jb 1 O O) O (JLm (I64 2) O (G8 (c7 (Gs (⟨[E1 ([]:List Int),I64 2],[],G,O,⟨⟨_,O,.conv (.same O)⟩,⟨_,O,.conv (.same O)⟩,G⟩,O,congrArg (fun r:(List Int)×Int=>(.tup [E1 r.1,I64 r.2]:AV)) (M2 h)⟩))))))
 ·
  refine Gn (c4 (Js fun c8=>Jr fun c9=>(JLm (I64 cover) O (JLh (BL (decide (cover < 0))) (Jq O O O) O (JLm (BL (decide (cover < 0))) O (JLo (I64 cover) [] O .scf G (fun hc=>G7 O O) O (JLo (.dptr ((G6.cs s).drop 1)) [] O .scf G (fun hc=>Gb Jc O O O) O (JLo (E7 s.Covers) [25] O .scf ⟨Ua,G⟩ (fun hc=>Ge Ji O O O) O (JLo (Ej s.Covers.length) [26] O .scf ⟨Ua,G⟩ (fun hc=>G2d (f:=Ga.av) (xs:=s.Covers) J7 O O) O (JLo (BL (decide ((s.Covers.length:Int)≤cover))) [24,27] O .scf ⟨Ua,Ua,G⟩ (fun hc=>G4b O O O) O (JLh (BL ((decide (cover < 0))||(decide ((s.Covers.length:Int)≤cover)))) (Ya O O O O) O (G8 (c9 (JCc O h (fun h hb=>?_) (fun h hb=>?_)))))))))))))))
  ·
   refine Jr fun d0=>(JLh (E1 ([]:List Int)) (Jb 1 O O) O (JLm (I64 6) O (G8 (d0 (Gs (⟨[E1 ([]:List Int),I64 6],[],G,O,⟨⟨_,O,.conv (.same O)⟩,⟨_,O,.conv (.same O)⟩,G⟩,O,congrArg (fun r:(List Int)×Int=>(.tup [E1 r.1,I64 r.2]:AV)) (M2 h)⟩))))))
  ·
   refine Gn (c8 (Js fun d1=>Jr fun w=>(JLm (I64 0) O (G8 (w (Gx ?_))))))
   obtain⟨d2,x,z,q,h⟩:=Jf h
   refine Hs (fun d (i:Unit)=>each d2 x (List.drop d l) d i=some r) (fun d i=>[(2,E2 l),(3,E1 open_),(4,I64 cover),(5,Ee s),(12,Ej d)]) (fun d i=>[]) (fun d=>l.length - d) 0 () h ⟨(.sm O O),G,rfl⟩ ?_
   clear h
   intro d i j d9 d3
   refine Js fun a0=>Jr fun a1=>(JLm (Ej d) O (JLm (E2 l) O (JLl H6 O O O fun a2=>(JLh (BL (decide ((d:Int) < (l.length:Int)))) (Jq O O O) O (G8 (a1 (Gp O (fun hb=>?_) (fun hb=>?_))))))))
   ·
    have k:=Q4 hb
    obtain⟨g,d6,a3,a4,h⟩:=Hz j k
    replace h:=Zi z h
    refine Gn (a0 (Js fun a5=>Gx (Js fun a6=>?_)))
    obtain⟨v,a7,h⟩:=Gj h
    refine JC_d0 Ho (by kernel_rfl) (Dq (.agg (G6.cs s)) (Gt Jm O O O) O (Dq (E2 l) (G7 O O) O (Dq (Ej d) (G7 O O) O (Dq (Ef g) (H0 (f:=G3.av) (xs:=l) (y:=g) O O O H6 a3 O) O (Dq (.dptr ((G3.cs g).drop 1)) (Gb J1 O O O) O (Dq (.dptr ((G3.cs g).drop 1)) (Gb Hu O O O) O (Dq (I64 g.Slot.G1) (Ge Gd O O O) O (Dq (I64 cover) (G7 O O) O (Dq (BL v) (Gw (args:=[.agg (G6.cs s),I64 g.Slot.G1,I64 cover]) O (H84 s g.Slot.G1 cover v a7) Qec ⟨O,O,O,O,O,O,G⟩) O (Dnil (a6 (JCc O h (fun h hb=>?_) (fun h hb=>?_)))))))))))))
    ·
     refine Jr fun a8=>(JLh (E1 ([]:List Int)) (Jb 1 O O) O (JLm (I64 95) O (G8 (a8 (Gs (⟨[E1 ([]:List Int),I64 95],[],G,O,⟨⟨_,O,.conv (.same O)⟩,⟨_,O,.conv (.same O)⟩,G⟩,O,congrArg (fun r:(List Int)×Int=>(.tup [E1 r.1,I64 r.2]:AV)) (M2 h)⟩))))))
    ·
     refine Gn (a5 (G2 (JLm (Ej d) O (JLh (I64 ((d+1:Nat):Int)) (Jo (Hw k a2) O O O) O (JLm (I64 ((d+1:Nat):Int)) O (G8 (d3 _ _ (d+1) () (app1 a4 h) (by omega) ⟨(.sm O O),G,rfl⟩)))))))
   ·
    have h:=app1 q (J0 j (Hd hb))
    refine Hy (d1 (Jr fun a9=>(JLh (OW 1101 1 I64 ([]:List Int)) (Gb9 1101 3 1 O O O) O (G8 (a9 (Js fun b0=>Jr fun b1=>(JLm (I64 0) O (G8 (b1 (Gx ?_))))))))))
    obtain⟨d4,b2,b3,t,h⟩:=Jf h
    refine Hs (fun a (c:(List Int))=>each d4 b2 (List.drop a s.Covers) a c=some r) (fun a c=>[(3,E1 open_),(4,I64 cover),(5,Ee s),(13,OW 1101 1 I64 c),(14,Ej a)]) (fun a c=>[(1101,.spare 3 1 c.length c.length)]) (fun a=>s.Covers.length - a) 0 [] h ⟨(.sm O O),⟨⟨_,rfl,.same⟩,G⟩,rfl⟩ ?_
    clear h
    intro a c m e0 d5
    refine Js fun b4=>Jr fun b5=>(JLm (Ej a) O (JLh (.dptr ((G6.cs s).drop 1)) (Gb Jc O O O) O (JLh (E7 s.Covers) (Ge Ji O O O) O (JLl J7 O O O fun b6=>(JLh (BL (decide ((a:Int) < (s.Covers.length:Int)))) (Jq O O O) O (G8 (b5 (Gp O (fun hb=>?_) (fun hb=>?_)))))))))
    ·
     have n:=Q4 hb
     obtain⟨e1,d7,d8,b7,h⟩:=Hz m n
     replace h:=Zi b3 h
     refine Gn (b4 ?_)
     obtain⟨b8,u,h⟩:=Ga2 h
     refine G4d (fun e:(List Int)=>b8 e=some r) (fun e=>[(3,E1 open_),(4,I64 cover),(5,Ee s),(13,OW 1101 1 I64 e),(14,Ej a)]) (fun e=>[(1101,.spare 3 1 e.length e.length)]) (fun Kj50 ej50=>?_) ?_
     ·
      refine Gx (Jr fun b9=>(JLm (Ej a) O (JLm (I64 cover) O (JLh (BL (decide ((a:Int)=cover))) (Jk O O O) O (JLm (BL (decide ((a:Int)=cover))) O (JLo (E1 open_) [] O .scf G (fun hc=>G7 O O) O (JLo (Ej a) [] O .scf G (fun hc=>G7 O O) O ?_)))))))
      obtain⟨o,c0,h⟩:=Gj h
      refine JLo (BL o) [56,57] O .scf ⟨Ua,Ua,G⟩ (fun hc=>Gw (args:=[E1 open_,Ej a]) O (Ze open_ (a:Int) o (H1 hc c0)) H9a ⟨O,O,O,O,G⟩) O (JLh (BL ((decide ((a:Int)=cover))||o)) (Ya O O O O) O (G8 (b9 (JCc O h (fun h hb=>?_) (fun h hb=>?_)))))
      ·
       refine G2 (JLm (OW 1101 1 I64 c) O (JLm (Ej a) O (JLh (E1 [(a:Int)]) (J2 (xs:=[Ej a]) O ⟨O,O,G⟩ Gz Yr O O O O) O ?_)))
       obtain⟨c1,h⟩:=Qa h
       refine JLh (OW 1101 1 I64 (c++[(a:Int)])) (Z1 (f:=I64) (xs:=c) (ys:=[(a:Int)]) O O O O Gz G31 c1 (fun _=>O) (.inl O) O) O (JLm (OW 1101 1 I64 (c++[(a:Int)])) O (G8 (ej50 _ _ (c++[(a:Int)]) h ⟨(.sm O O),⟨⟨_,rfl,.same⟩,G⟩,rfl⟩)))
      ·
       refine Gn (ej50 _ _ c h ⟨(.sm O O),⟨⟨_,rfl,.same⟩,G⟩,rfl⟩)
     ·intro e h
      replace h:=app1 u h
      refine G2 (JLm (Ej a) O (JLh (I64 ((a+1:Nat):Int)) (Jo (Hw n b6) O O O) O (JLm (I64 ((a+1:Nat):Int)) O (G8 (d5 _ _ (a+1) e (app1 b7 h) (by omega) ⟨(.sm O O),⟨⟨_,rfl,.same⟩,G⟩,rfl⟩)))))
    ·
     have h:=app1 t (J0 m (Hd hb))
     refine Hy (b0 (Jr fun c2=>(JLm (OW 1101 1 I64 c) O (JLm (OW 1101 1 I64 c) O (JLm (I64 0) O (G8 (c2 (Gs (⟨[E1 c,I64 0],[],G,O,⟨⟨_,O,.conv (.list O)⟩,⟨_,O,.conv (.same O)⟩,G⟩,O,congrArg (fun r:(List Int)×Int=>(.tup [E1 r.1,I64 r.2]:AV)) (M2 h)⟩)))))))))

def Z7 (F:Nat) (m:Gq) (x:Move):Option (Gq×Int):=
 bif ((((decide (x.Box≠0))||(!decide (x.Slot=(Slot.mk 0 0 0))))||(decide (x.Ga < 0)))||(decide ((m.G6.Covers.length:Int)≤x.Ga))) then
 (some (m,310))
 else
 (bnd (Yx m.Open x.Ga) fun c=>
  bif (c==(decide (x.Kind=1))) then
  (some (m,311))
  else
  (bif decide (x.Kind=4) then
   (bnd (Rt m.Open x.Ga) fun b=>
    some ((Gq.mk m.G6 m.Boxes m.State m.Ashore b m.Lifts),0))
   else
   (bnd (Zm F m.G6 m.Boxes m.State m.Open x.Ga) fun a=>
    bif decide (a.2≠0) then
    (some (m,312))
    else
    (some ((Gq.mk m.G6 m.Boxes m.State m.Ashore a.1 m.Lifts),0)))))
abbrev Ki:List AV:=[E3 ([]:List G1),E7 ([]:List Ga),I64 0,I64 0,I64 0,I64 0,E4 ([]:List Row),E5 ([]:List Frame),E6 ([]:List Gr),I64 0,I64 0,I64 0,I64 0,E8 ([]:List Box),E2 ([]:List G3),E1 ([]:List Int),E1 ([]:List Int),I64 0]
theorem H6b (F:Nat) (m:Gq) (x:Move) (r:Gq×Int) (h:Z7 F m x=some r):Pure Ek 33 [.agg (Gq.cs m),.agg (Move.cs x)] (·=.tup [.agg (Gq.cs r.1),I64 r.2]):=by
 unfold Z7 at h
 refine H3 [.cell 4 45,.tmp 5] Tryz.func33 O O ?_
 refine Jr fun s=>(JLh (.ptr 1045 0) (Ju (cs:=(Gq.cs m)) 1045 O O O O O) O (JLh (.ptr 1046 0) (Ju (cs:=[U8 x.Kind,I64 x.Box,I64 x.Slot.G1,I64 x.Slot.Tier,U8 x.Slot.Half,I64 x.Ga]) 1046 O O O O O) O (JLh (.ptr 1047 0) (G8f 1047 Ki [.slice none 0 0,.slice none 0 0,E0,E0,E0,E0,.slice none 0 0,.slice none 0 0,.slice none 0 0,E0,E0,E0,E0,.slice none 0 0,.slice none 0 0,.slice none 0 0,.slice none 0 0,E0] Ge5 ⟨.inr ⟨_,O,O⟩,.inr ⟨_,O,O⟩,.inl O,.inl O,.inl O,.inl O,.inr ⟨_,O,O⟩,.inr ⟨_,O,O⟩,.inr ⟨_,O,O⟩,.inl O,.inl O,.inl O,.inl O,.inr ⟨_,O,O⟩,.inr ⟨_,O,O⟩,.inr ⟨_,O,O⟩,.inr ⟨_,O,O⟩,.inl O,G⟩ O O) O (JLm (I64 0) O (G8 (s ?_))))))
 refine Gu [(2,.ptr 1045 0),(3,Ec x),(4,.ptr 1047 0)] [(1045,.box 45 (Gq.cs m)),(1047,.box 45 Ki)] 1046 rfl rfl rfl ⟨⟨_,rfl,.boxEq rfl rfl⟩,⟨_,rfl,.boxEq rfl rfl⟩,G⟩ rfl (by exact⟨.conv (.same rfl),.ptr,.conv (.same rfl),G⟩) ?_
 refine Js fun t=>?_
 refine Jr fun v=>(JLh (.dptr ((Move.cs x).drop 1)) (Gb Y4 O O O) O (JLh (I64 x.Box) (Ge Gd O O O) O (JLh (BL (decide (x.Box≠0))) (G2c O O O) O (JLm (BL (decide (x.Box≠0))) O (JLo (.dptr ((Move.cs x).drop 2)) [] O .scf G (fun hc=>Gb Qd O O O) O (JLo (.agg (Slot.cs x.Slot)) [12] O .scf ⟨Ua,G⟩ (fun hc=>Gt Hx O O O) O (JLo (.agg [I64 0,I64 0,U8 0]) [] O .scf G (fun hc=>Hj (cs:=[I64 0,I64 0,U8 0]) [(0,1),(1,1),(2,1)] [I64 0,I64 0,U8 0] [E0,E0,.int .u8 0] H21 H31 (zzQ O) O O) O (JLo (BL (!decide (x.Slot=(Slot.mk 0 0 0)))) [13,14] O .scf ⟨Ua,Ua,G⟩ (fun hc=>Qd0 (vs:=[.int .i64 x.Slot.G1,.int .i64 x.Slot.Tier,.int .u8 x.Slot.Half]) (us:=[E0,E0,.int .u8 0]) 4 O (Qd3 x.Slot (Slot.mk 0 0 0)) H52 Hec O O O) O (JLh (BL ((decide (x.Box≠0))||(!decide (x.Slot=(Slot.mk 0 0 0))))) (Ya O O O O) O (JLm (BL ((decide (x.Box≠0))||(!decide (x.Slot=(Slot.mk 0 0 0))))) O (JLo (.dptr [I64 x.Ga]) [] O .scf G (fun hc=>Gb Rc O O O) O (JLo (I64 x.Ga) [18] O .scf ⟨Ua,G⟩ (fun hc=>Ge Gd O O O) O (JLo (BL (decide (x.Ga < 0))) [19] O .scf ⟨Ua,G⟩ (fun hc=>Jq O O O) O ?_)))))))))))))
 refine JLh (BL (((decide (x.Box≠0))||(!decide (x.Slot=(Slot.mk 0 0 0))))||(decide (x.Ga < 0)))) (Ya O O O O) O (JLm (BL (((decide (x.Box≠0))||(!decide (x.Slot=(Slot.mk 0 0 0))))||(decide (x.Ga < 0)))) O (JLo (.dptr [I64 x.Ga]) [] O .scf G (fun hc=>Gb Rc O O O) O (JLo (I64 x.Ga) [23] O .scf ⟨Ua,G⟩ (fun hc=>Ge Gd O O O) O (JLo (.ptr 1045 0) [] O .scf G (fun hc=>Ht Gf6 O O) O (JLo (.ptr 1045 1) [25] O .scf ⟨Ua,G⟩ (fun hc=>Ht Jc O O) O (JLo (E7 m.G6.Covers) [26] O .scf ⟨Ua,G⟩ (fun hc=>J8 Ji O O O O) O (JLo (Ej m.G6.Covers.length) [27] O .scf ⟨Ua,G⟩ (fun hc=>G2d (f:=Ga.av) (xs:=m.G6.Covers) J7 O O) O (JLo (BL (decide ((m.G6.Covers.length:Int)≤x.Ga))) [24,28] O .scf ⟨Ua,Ua,G⟩ (fun hc=>G4b O O O) O (JLh (BL ((((decide (x.Box≠0))||(!decide (x.Slot=(Slot.mk 0 0 0))))||(decide (x.Ga < 0)))||(decide ((m.G6.Covers.length:Int)≤x.Ga)))) (Ya O O O O) O (G8 (v ?_)))))))))))
 refine JCc O h ?_ ?_<;>intro h hb
 ·
  refine Jr fun w=>(JLh (.agg (Gq.cs m)) (Ra Ja O O O O) O (J9 (u:=.junk) (He (u:=.agg (Gq.cs m)) (ds:=(Gq.cs m)) Qf O O O O O O O O) (JLm (I64 310) O (G8 (w ?_)))))
  refine Gu [(4,.ptr 1047 0),(5,I64 310)] [(1047,.box 45 (Gq.cs m))] 1045 rfl rfl rfl ⟨⟨_,rfl,.boxEq rfl rfl⟩,G⟩ rfl (by exact⟨.conv (.same rfl),.conv (.same rfl),G⟩) (Gs (⟨[.agg (Gq.cs m),I64 310],[],G,O,⟨⟨_,⟨_,_,_,_,O,O,O,.inl ⟨Ja,O⟩⟩,.conv (.same O)⟩,⟨_,O,.conv (.same O)⟩,G⟩,O,congrArg (fun r:Gq×Int=>(.tup [.agg (Gq.cs r.1),I64 r.2]:AV)) (M2 h)⟩))
 ·
  refine Gn (t (Js fun y=>Js fun z=>?_))
  refine Qw (l':=[(2,.ptr 1045 0),(3,Ec x),(4,.ptr 1047 0)]) (L':=[(1045,.box 45 (Gq.cs m)),(1047,.box 45 Ki)]) ⟨(.sm O O),⟨fbQ O (.sm O O),fbQ O (.sm O O),G⟩,rfl⟩ ?_
  obtain⟨c,a0,h⟩:=Gj h
  refine JC_d0 Ho (by kernel_rfl) (Dq (.ptr 1045 16) (Ht G1e O O) O (Dq (E1 m.Open) (J8 Hq O O O O) O (Dq (.dptr [I64 x.Ga]) (Gb Rc O O O) O (Dq (I64 x.Ga) (Ge Gd O O O) O (Dq (BL c) (Gw (args:=[E1 m.Open,I64 x.Ga]) O (Gd7 m.Open x.Ga c a0) Jfe ⟨O,O,O,O,G⟩) O (Dq (Ec x) (Gb Zu O O O) O (Dq (U8 x.Kind) (Ge Hm O O O) O (Dq (BL (decide (x.Kind=1))) (Jk O O O) O (Dq (BL (c==(decide (x.Kind=1)))) (Q5b Hed O O O) O (Dnil (z (JCc O h (fun h hb=>?_) (fun h hb=>?_)))))))))))))
  ·
   refine Jr fun a1=>(JLh (.agg (Gq.cs m)) (Ra Ja O O O O) O (J9 (u:=.junk) (He (u:=.agg (Gq.cs m)) (ds:=(Gq.cs m)) Qf O O O O O O O O) (JLm (I64 311) O (G8 (a1 ?_)))))
   refine Gu [(4,.ptr 1047 0),(5,I64 311)] [(1047,.box 45 (Gq.cs m))] 1045 rfl rfl rfl ⟨⟨_,rfl,.boxEq rfl rfl⟩,G⟩ rfl (by exact⟨.conv (.same rfl),.conv (.same rfl),G⟩) (Gs (⟨[.agg (Gq.cs m),I64 311],[],G,O,⟨⟨_,⟨_,_,_,_,O,O,O,.inl ⟨Ja,O⟩⟩,.conv (.same O)⟩,⟨_,O,.conv (.same O)⟩,G⟩,O,congrArg (fun r:Gq×Int=>(.tup [.agg (Gq.cs r.1),I64 r.2]:AV)) (M2 h)⟩))
  ·
   refine Gn (y (Js fun a2=>Jr fun d=>(JLh (Ec x) (Gb Zu O O O) O (JLh (U8 x.Kind) (Ge Hm O O O) O (JLh (BL (decide (x.Kind=4))) (Jk O O O) O (G8 (d (JCc O h (fun h hb=>?_) (fun h hb=>?_)))))))))
   ·
    refine Jr fun e=>(JLh (.ptr 1045 16) (Ht G1e O O) O (JLh (E1 m.Open) (J8 Hq O O O O) O (JLh (.dptr [I64 x.Ga]) (Gb Rc O O O) O (JLh (I64 x.Ga) (Ge Gd O O O) O ?_))))
    obtain⟨b,g,h⟩:=Gj h
    refine JLh (E1 b) (Gw O (G82 m.Open x.Ga b g) Jfd ⟨O,O,O,O,G⟩) O (JLh (.ptr 1045 16) (Ht G1e O O) O (J9 (u:=.junk) (He (u:=E1 b) (ds:=[E3 m.G6.Columns,E7 m.G6.Covers,I64 m.G6.Light.Kilos,I64 m.G6.Light.X,I64 m.G6.Light.Y,I64 m.G6.Light.Z,E4 m.G6.Rows,E5 m.G6.Frames,E6 m.G6.Tanks,I64 m.G6.G5.Tolerance,I64 m.G6.G5.Trim,I64 m.G6.G5.List_,I64 m.G6.G5.Stability,E8 m.Boxes,E2 m.State,E1 m.Ashore,E1 b,I64 m.Lifts]) G7c O O O O O O O O) (G8 (e ?_))))
    refine Gu [(2,.dptr [E3 m.G6.Columns,E7 m.G6.Covers,I64 m.G6.Light.Kilos,I64 m.G6.Light.X,I64 m.G6.Light.Y,I64 m.G6.Light.Z,E4 m.G6.Rows,E5 m.G6.Frames,E6 m.G6.Tanks,I64 m.G6.G5.Tolerance,I64 m.G6.G5.Trim,I64 m.G6.G5.List_,I64 m.G6.G5.Stability,E8 m.Boxes,E2 m.State,E1 m.Ashore,E1 b,I64 m.Lifts]),(4,.ptr 1047 0)] [(1047,.box 45 Ki)] 1045 rfl rfl rfl ⟨⟨_,rfl,.boxEq rfl rfl⟩,G⟩ rfl (by exact⟨.ptr,.conv (.same rfl),G⟩) ?_
    refine Jr fun i=>(JLh (.agg [E3 m.G6.Columns,E7 m.G6.Covers,I64 m.G6.Light.Kilos,I64 m.G6.Light.X,I64 m.G6.Light.Y,I64 m.G6.Light.Z,E4 m.G6.Rows,E5 m.G6.Frames,E6 m.G6.Tanks,I64 m.G6.G5.Tolerance,I64 m.G6.G5.Trim,I64 m.G6.G5.List_,I64 m.G6.G5.Stability,E8 m.Boxes,E2 m.State,E1 m.Ashore,E1 b,I64 m.Lifts]) (Gt Ja O O O) O (J9 (u:=.junk) (He (u:=.agg [E3 m.G6.Columns,E7 m.G6.Covers,I64 m.G6.Light.Kilos,I64 m.G6.Light.X,I64 m.G6.Light.Y,I64 m.G6.Light.Z,E4 m.G6.Rows,E5 m.G6.Frames,E6 m.G6.Tanks,I64 m.G6.G5.Tolerance,I64 m.G6.G5.Trim,I64 m.G6.G5.List_,I64 m.G6.G5.Stability,E8 m.Boxes,E2 m.State,E1 m.Ashore,E1 b,I64 m.Lifts]) (ds:=[E3 m.G6.Columns,E7 m.G6.Covers,I64 m.G6.Light.Kilos,I64 m.G6.Light.X,I64 m.G6.Light.Y,I64 m.G6.Light.Z,E4 m.G6.Rows,E5 m.G6.Frames,E6 m.G6.Tanks,I64 m.G6.G5.Tolerance,I64 m.G6.G5.Trim,I64 m.G6.G5.List_,I64 m.G6.G5.Stability,E8 m.Boxes,E2 m.State,E1 m.Ashore,E1 b,I64 m.Lifts]) Qf O O O O O O O O) (JLm (I64 0) O (G8 (i ?_)))))
    refine Gs (⟨[.agg [E3 m.G6.Columns,E7 m.G6.Covers,I64 m.G6.Light.Kilos,I64 m.G6.Light.X,I64 m.G6.Light.Y,I64 m.G6.Light.Z,E4 m.G6.Rows,E5 m.G6.Frames,E6 m.G6.Tanks,I64 m.G6.G5.Tolerance,I64 m.G6.G5.Trim,I64 m.G6.G5.List_,I64 m.G6.G5.Stability,E8 m.Boxes,E2 m.State,E1 m.Ashore,E1 b,I64 m.Lifts],I64 0],[],G,O,⟨⟨_,⟨_,_,_,_,O,O,O,.inl ⟨Ja,O⟩⟩,.conv (.same O)⟩,⟨_,O,.conv (.same O)⟩,G⟩,O,congrArg (fun r:Gq×Int=>(.tup [.agg (Gq.cs r.1),I64 r.2]:AV)) (M2 h)⟩)
   ·
    refine Gn (a2 (Jr fun j=>(JLh (.ptr 1045 0) (Ht Gf6 O O) O (JLh (.agg (G6.cs m.G6)) (Ra Jm O O O O) O (JLh (.ptr 1045 13) (Ht H64 O O) O (JLh (E8 m.Boxes) (J8 H97 O O O O) O (JLh (.ptr 1045 14) (Ht G1f O O) O (JLh (E2 m.State) (J8 G91 O O O O) O (JLh (.ptr 1045 16) (Ht G1e O O) O (JLh (E1 m.Open) (J8 Hq O O O O) O (JLh (.dptr [I64 x.Ga]) (Gb Rc O O O) O (JLh (I64 x.Ga) (Ge Gd O O O) O ?_))))))))))))
    obtain⟨a,k,h⟩:=Gj h
    refine JLh (.tup [E1 a.1,I64 a.2]) (Gw O (H86 F m.G6 m.Boxes m.State m.Open x.Ga a k) R46 ⟨O,O,O,O,O,O,O,O,O,O,G⟩) O (JLm (.tup [E1 a.1,I64 a.2]) O (JLh (E1 a.1) (H4 O O O) O (JLh (I64 a.2) (H4 O O O) O (JLm (E1 a.1) O (JLm (I64 a.2) O (G8 (j (Js fun l=>Jr fun n=>(JLm (I64 a.2) O (JLh (BL (decide (a.2≠0))) (G2c O O O) O (G8 (n (JCc O h (fun h hb=>?_) (fun h hb=>?_))))))))))))))
    ·
     refine Jr fun o=>(JLh (.agg (Gq.cs m)) (Ra Ja O O O O) O (J9 (u:=.junk) (He (u:=.agg (Gq.cs m)) (ds:=(Gq.cs m)) Qf O O O O O O O O) (JLm (I64 312) O (G8 (o ?_)))))
     refine Gu [(4,.ptr 1047 0),(5,I64 312)] [(1047,.box 45 (Gq.cs m))] 1045 rfl rfl rfl ⟨⟨_,rfl,.boxEq rfl rfl⟩,G⟩ rfl (by exact⟨.conv (.same rfl),.conv (.same rfl),G⟩) (Gs (⟨[.agg (Gq.cs m),I64 312],[],G,O,⟨⟨_,⟨_,_,_,_,O,O,O,.inl ⟨Ja,O⟩⟩,.conv (.same O)⟩,⟨_,O,.conv (.same O)⟩,G⟩,O,congrArg (fun r:Gq×Int=>(.tup [.agg (Gq.cs r.1),I64 r.2]:AV)) (M2 h)⟩))
    ·
     refine Gn (l (Jr fun p=>(JLm (E1 a.1) O (JLh (.ptr 1045 16) (Ht G1e O O) O (J9 (u:=.junk) (He (u:=E1 a.1) (ds:=[E3 m.G6.Columns,E7 m.G6.Covers,I64 m.G6.Light.Kilos,I64 m.G6.Light.X,I64 m.G6.Light.Y,I64 m.G6.Light.Z,E4 m.G6.Rows,E5 m.G6.Frames,E6 m.G6.Tanks,I64 m.G6.G5.Tolerance,I64 m.G6.G5.Trim,I64 m.G6.G5.List_,I64 m.G6.G5.Stability,E8 m.Boxes,E2 m.State,E1 m.Ashore,E1 a.1,I64 m.Lifts]) G7c O O O O O O O O) (G8 (p ?_)))))))
     refine Gu [(2,.dptr [E3 m.G6.Columns,E7 m.G6.Covers,I64 m.G6.Light.Kilos,I64 m.G6.Light.X,I64 m.G6.Light.Y,I64 m.G6.Light.Z,E4 m.G6.Rows,E5 m.G6.Frames,E6 m.G6.Tanks,I64 m.G6.G5.Tolerance,I64 m.G6.G5.Trim,I64 m.G6.G5.List_,I64 m.G6.G5.Stability,E8 m.Boxes,E2 m.State,E1 m.Ashore,E1 a.1,I64 m.Lifts]),(4,.ptr 1047 0)] [(1047,.box 45 Ki)] 1045 rfl rfl rfl ⟨⟨_,rfl,.boxEq rfl rfl⟩,G⟩ rfl (by exact⟨.ptr,.conv (.same rfl),G⟩) ?_
     refine Jr fun q=>(JLh (.agg [E3 m.G6.Columns,E7 m.G6.Covers,I64 m.G6.Light.Kilos,I64 m.G6.Light.X,I64 m.G6.Light.Y,I64 m.G6.Light.Z,E4 m.G6.Rows,E5 m.G6.Frames,E6 m.G6.Tanks,I64 m.G6.G5.Tolerance,I64 m.G6.G5.Trim,I64 m.G6.G5.List_,I64 m.G6.G5.Stability,E8 m.Boxes,E2 m.State,E1 m.Ashore,E1 a.1,I64 m.Lifts]) (Gt Ja O O O) O (J9 (u:=.junk) (He (u:=.agg [E3 m.G6.Columns,E7 m.G6.Covers,I64 m.G6.Light.Kilos,I64 m.G6.Light.X,I64 m.G6.Light.Y,I64 m.G6.Light.Z,E4 m.G6.Rows,E5 m.G6.Frames,E6 m.G6.Tanks,I64 m.G6.G5.Tolerance,I64 m.G6.G5.Trim,I64 m.G6.G5.List_,I64 m.G6.G5.Stability,E8 m.Boxes,E2 m.State,E1 m.Ashore,E1 a.1,I64 m.Lifts]) (ds:=[E3 m.G6.Columns,E7 m.G6.Covers,I64 m.G6.Light.Kilos,I64 m.G6.Light.X,I64 m.G6.Light.Y,I64 m.G6.Light.Z,E4 m.G6.Rows,E5 m.G6.Frames,E6 m.G6.Tanks,I64 m.G6.G5.Tolerance,I64 m.G6.G5.Trim,I64 m.G6.G5.List_,I64 m.G6.G5.Stability,E8 m.Boxes,E2 m.State,E1 m.Ashore,E1 a.1,I64 m.Lifts]) Qf O O O O O O O O) (JLm (I64 0) O (G8 (q ?_)))))
     refine Gs (⟨[.agg [E3 m.G6.Columns,E7 m.G6.Covers,I64 m.G6.Light.Kilos,I64 m.G6.Light.X,I64 m.G6.Light.Y,I64 m.G6.Light.Z,E4 m.G6.Rows,E5 m.G6.Frames,E6 m.G6.Tanks,I64 m.G6.G5.Tolerance,I64 m.G6.G5.Trim,I64 m.G6.G5.List_,I64 m.G6.G5.Stability,E8 m.Boxes,E2 m.State,E1 m.Ashore,E1 a.1,I64 m.Lifts],I64 0],[],G,O,⟨⟨_,⟨_,_,_,_,O,O,O,.inl ⟨Ja,O⟩⟩,.conv (.same O)⟩,⟨_,O,.conv (.same O)⟩,G⟩,O,congrArg (fun r:Gq×Int=>(.tup [.agg (Gq.cs r.1),I64 r.2]:AV)) (M2 h)⟩)

def Zp (a:Slot) (b:Slot):Option Bool:=
 bnd (bif ((decide (a.G1=b.G1))&&(decide (b.Tier < a.Tier))) then R4 a.Half b.Half else some default) fun c=>
 some (((decide (a.G1=b.G1))&&(decide (b.Tier < a.Tier)))&&c)
theorem H88 (a:Slot) (b:Slot) (r:Bool) (h:Zp a b=some r):Pure Ek 139 [.agg [I64 a.G1,I64 a.Tier,U8 a.Half],.agg [I64 b.G1,I64 b.Tier,U8 b.Half]] (·=BL r):=by
 unfold Zp at h
 refine H3 [.tmp 4] Tryz.func139 O O (Jr fun d=>(JLh (.ptr 1155 0) (Ju (cs:=[I64 a.G1,I64 a.Tier,U8 a.Half]) 1155 O O O O O) O (JLh (.ptr 1156 0) (Ju (cs:=[I64 b.G1,I64 b.Tier,U8 b.Half]) 1156 O O O O O) O (JLm (BL false) O (G8 (d (Gu [(2,.dptr [I64 a.G1,I64 a.Tier,U8 a.Half]),(3,.ptr 1156 0)] [(1156,.box 50 [I64 b.G1,I64 b.Tier,U8 b.Half])] 1155 rfl rfl rfl ⟨⟨_,rfl,.boxEq rfl rfl⟩,G⟩ rfl (by exact⟨.ptr,.conv (.same rfl),G⟩) (Gu [(2,.dptr [I64 a.G1,I64 a.Tier,U8 a.Half]),(3,.dptr [I64 b.G1,I64 b.Tier,U8 b.Half])] [] 1156 rfl rfl rfl G rfl (by exact⟨.conv (.same rfl),.ptr,G⟩) ?_))))))))
 refine Jr fun e=>(JLh (.dptr [I64 a.G1,I64 a.Tier,U8 a.Half]) (Gb Hu O O O) O (JLh (I64 a.G1) (Ge Gd O O O) O (JLh (.dptr [I64 b.G1,I64 b.Tier,U8 b.Half]) (Gb Hu O O O) O (JLh (I64 b.G1) (Ge Gd O O O) O (JLh (BL (decide (a.G1=b.G1))) (Jk O O O) O (JLm (BL (decide (a.G1=b.G1))) O (JLo (.dptr [I64 a.Tier,U8 a.Half]) [] O .sct G (fun hc=>Gb Qm O O O) O (JLo (I64 a.Tier) [11] O .sct ⟨Ua,G⟩ (fun hc=>Ge Gd O O O) O (JLo (.dptr [I64 b.Tier,U8 b.Half]) [] O .sct G (fun hc=>Gb Qm O O O) O (JLo (I64 b.Tier) [13] O .sct ⟨Ua,G⟩ (fun hc=>Ge Gd O O O) O (JLo (BL (decide (b.Tier < a.Tier))) [12,14] O .sct ⟨Ua,Ua,G⟩ (fun hc=>G08 O O O) O (JLh (BL ((decide (a.G1=b.G1))&&(decide (b.Tier < a.Tier)))) (Jv O O O O) O (JLm (BL ((decide (a.G1=b.G1))&&(decide (b.Tier < a.Tier)))) O ?_)))))))))))))
 refine JLo (.dptr [U8 a.Half]) [] O .sct G (fun hc=>Gb Je O O O) O (JLo (U8 a.Half) [18] O .sct ⟨Ua,G⟩ (fun hc=>Ge Hm O O O) O (JLo (.dptr [U8 b.Half]) [] O .sct G (fun hc=>Gb Je O O O) O (JLo (U8 b.Half) [20] O .sct ⟨Ua,G⟩ (fun hc=>Ge Hm O O O) O ?_)))
 obtain⟨c,f,h⟩:=Gj h
 refine JLo (BL c) [19,21] O .sct ⟨Ua,Ua,G⟩ (fun hc=>Gw (args:=[U8 a.Half,U8 b.Half]) O (G9b a.Half b.Half c (H1 hc f)) J98 ⟨O,O,O,O,G⟩) O (JLh (BL (((decide (a.G1=b.G1))&&(decide (b.Tier < a.Tier)))&&c)) (Jv O O O O) O (JLm (BL (((decide (a.G1=b.G1))&&(decide (b.Tier < a.Tier)))&&c)) O (G8 (e (Gs (fin1 BL h))))))

def Z8 (l:List G3) (id_:Int):Option ((List Int)×Int):=
 bnd (Qi l id_) fun e=>
 bif decide (e < 0) then
 (some ([],6))
 else
 (each (fun b i (a:(List Int)) d=>
   jp (fun c=>
    Qr l e fun f=>
    bnd (Zp b.Slot f.Slot) fun g=>
    bif g then
    (need (decide ((a.length+[b.Box].length)*8≤140737488355328∧a.length+[b.Box].length≤maxLen)) <|
     c (a++[b.Box]))
    else
    (c a)) fun(h:(List Int))=>
   d h)
  (fun(a:(List Int))=>
   some (a,0)) l 0 [])
theorem H6d (l:List G3) (id_:Int) (r:(List Int)×Int) (h:Z8 l id_=some r):Pure Ek 114 [E2 l,I64 id_] (·=.tup [E1 r.1,I64 r.2]):=by
 unfold Z8 at h
 refine H3 [.tmp 4,.tmp 5] Tryz.func114 O O (Jr fun a4=>(JLh (E1 ([]:List Int)) (Jb 1 O O) O (JLm (I64 0) O (G8 (a4 (Jr fun a5=>(JLm (E2 l) O (JLm (I64 id_) O ?_))))))))
 obtain⟨g,a6,h⟩:=Gj h
 refine JLh (I64 g) (Gw O (Zo l id_ g a6) H35 ⟨O,O,O,O,G⟩) O (JLm (I64 g) O (G8 (a5 (Js fun a7=>Jr fun a8=>(JLm (I64 g) O (JLh (BL (decide (g < 0))) (Jq O O O) O (G8 (a8 (JCc O h (fun h hb=>?_) (fun h hb=>?_))))))))))
 ·
  refine Jr fun a9=>(JLh (E1 ([]:List Int)) (Jb 1 O O) O (JLm (I64 6) O (G8 (a9 (Gs (⟨[E1 ([]:List Int),I64 6],[],G,O,⟨⟨_,O,.conv (.same O)⟩,⟨_,O,.conv (.same O)⟩,G⟩,O,congrArg (fun r:(List Int)×Int=>(.tup [E1 r.1,I64 r.2]:AV)) (M2 h)⟩))))))
 ·
  refine Gn (a7 (Jr fun b0=>(JLh (OW 1136 1 I64 ([]:List Int)) (Gb9 1136 3 1 O O O) O (G8 (b0 (Js fun b1=>Jr fun b2=>(JLm (I64 0) O (G8 (b2 (Gx ?_))))))))))
  obtain⟨b3,p,q,m,h⟩:=Jf h
  refine Hs (fun b (a:(List Int))=>each b3 p (List.drop b l) b a=some r) (fun b a=>[(0,E2 l),(6,I64 g),(7,OW 1136 1 I64 a),(8,Ej b)]) (fun b a=>[(1136,.spare 3 1 a.length a.length)]) (fun b=>l.length - b) 0 [] h ⟨(.sm O O),⟨⟨_,rfl,.same⟩,G⟩,rfl⟩ ?_
  clear h
  intro b a i b6 b4
  refine Js fun s=>Jr fun t=>(JLm (Ej b) O (JLm (E2 l) O (JLl H6 O O O fun u=>(JLh (BL (decide ((b:Int) < (l.length:Int)))) (Jq O O O) O (G8 (t (Gp O (fun hb=>?_) (fun hb=>?_))))))))
  ·
   have j:=Q4 hb
   obtain⟨c,b5,k,v,h⟩:=Hz i j
   replace h:=Zi q h
   refine Gn (s ?_)
   obtain⟨w,n,h⟩:=Ga2 h
   refine G4d (fun d:(List Int)=>w d=some r) (fun d=>[(0,E2 l),(6,I64 g),(7,OW 1136 1 I64 d),(8,Ej b)]) (fun d=>[(1136,.spare 3 1 d.length d.length)]) (fun Kj36 ej36=>?_) ?_
   ·
    refine Gx (Js fun x=>Qw (l':=[(0,E2 l),(6,I64 g),(7,OW 1136 1 I64 a),(8,Ej b)]) (L':=[(1136,.spare 3 1 a.length a.length)]) ⟨(.sm O O),⟨⟨_,rfl,.same⟩,G⟩,rfl⟩ ?_)
    obtain⟨b7,e,z,a0,h⟩:=Rr h
    obtain⟨o,a1,h⟩:=Gj h
    refine JC_d0 Ho (by kernel_rfl) (Dq (E2 l) (G7 O O) O (Dq (Ej b) (G7 O O) O (Dq (Ef c) (H0 (f:=G3.av) (xs:=l) (y:=c) O O O H6 k O) O (Dq (.dptr ((G3.cs c).drop 1)) (Gb J1 O O O) O (Dq (.agg ((G3.cs c).drop 1)) (Gt Hx O O O) O (Dq (E2 l) (G7 O O) O (Dq (I64 g) (G7 O O) O (Dq (Ef e) (H0 (f:=G3.av) (xs:=l) (y:=e) O O O H6 a0 z) O (Dq (.dptr ((G3.cs e).drop 1)) (Gb J1 O O O) O (Dq (.agg ((G3.cs e).drop 1)) (Gt Hx O O O) O (Dq (BL o) (Gw (args:=[.agg ((G3.cs c).drop 1),.agg ((G3.cs e).drop 1)]) O (H88 c.Slot e.Slot o a1) Qe1 ⟨O,O,O,O,G⟩) O (Dnil (x ?_)))))))))))))
    refine JCc O h ?_ ?_<;>intro h hb
    ·
     refine G2 (JLm (OW 1136 1 I64 a) O (JLm (E2 l) O (JLm (Ej b) O (JLh (Ef c) (H0 (f:=G3.av) (xs:=l) (y:=c) O O O H6 k O) O (JLh (Ef c) (Gb Q1 O O O) O (JLh (I64 c.Box) (Ge Gd O O O) O (JLh (E1 [c.Box]) (J2 (xs:=[I64 c.Box]) O ⟨O,O,G⟩ Gz Yr O O O O) O ?_)))))))
     obtain⟨a2,h⟩:=Qa h
     refine JLh (OW 1136 1 I64 (a++[c.Box])) (Z1 (f:=I64) (xs:=a) (ys:=[c.Box]) O O O O Gz G31 a2 (fun _=>O) (.inl O) O) O (JLm (OW 1136 1 I64 (a++[c.Box])) O (G8 (ej36 _ _ (a++[c.Box]) h ⟨(.sm O O),⟨⟨_,rfl,.same⟩,G⟩,rfl⟩)))
    ·
     refine Gn (ej36 _ _ a h ⟨(.sm O O),⟨⟨_,rfl,.same⟩,G⟩,rfl⟩)
   ·intro d h
    replace h:=app1 n h
    refine G2 (JLm (Ej b) O (JLh (I64 ((b+1:Nat):Int)) (Jo (Hw j u) O O O) O (JLm (I64 ((b+1:Nat):Int)) O (G8 (b4 _ _ (b+1) d (app1 v h) (by omega) ⟨(.sm O O),⟨⟨_,rfl,.same⟩,G⟩,rfl⟩)))))
  ·
   have h:=app1 m (J0 i (Hd hb))
   refine Hy (b1 (Jr fun a3=>(JLm (OW 1136 1 I64 a) O (JLm (OW 1136 1 I64 a) O (JLm (I64 0) O (G8 (a3 (Gs (⟨[E1 a,I64 0],[],G,O,⟨⟨_,O,.conv (.list O)⟩,⟨_,O,.conv (.same O)⟩,G⟩,O,congrArg (fun r:(List Int)×Int=>(.tup [E1 r.1,I64 r.2]:AV)) (M2 h)⟩)))))))))

def Y7 (s:G6) (column:Int):Option Int:=
 Qr s.Columns column fun a=>
 bif a.Deck then
 (some (-1))
 else
 (bnd (Qn s column) fun b=>
  some b)
theorem H6c (s:G6) (column:Int) (r:Int) (h:Y7 s column=some r):Pure Ek 115 [.agg (G6.cs s),I64 column] (·=I64 r):=by
 unfold Y7 at h
 refine H3 [.tmp 4] Tryz.func115 O O (Jr fun c=>(JLh (.ptr 1137 0) (Ju (cs:=(G6.cs s)) 1137 O O O O O) O (JLm (I64 0) O (G8 (c (Gu [(1,I64 column),(2,Ee s)] [] 1137 rfl rfl rfl G rfl (by exact⟨.conv (.same rfl),.ptr,G⟩) (Js fun d=>Jr fun e=>(JLh (Ee s) (Gb Hh O O O) O (JLh (E3 s.Columns) (Ge Hn O O O) O (JLm (I64 column) O ?_))))))))))
 obtain⟨m,a,g,i,h⟩:=Rr h
 refine JLh (Eh a) (H0 (f:=G1.av) (xs:=s.Columns) (y:=a) O O O Hk i g) O (JLh (.dptr ((G1.cs a).drop 2)) (Gb Z4 O O O) O (JLh (BL a.Deck) (Ge Re O O O) O (G8 (e (JCc O h (fun h hb=>?_) (fun h hb=>?_))))))
 ·
  refine Jr fun j=>(JLm (I64 (-1)) O (G8 (j (Gs (fin1 I64 h)))))
 ·
  refine Gn (d (Jr fun k=>(JLh (.agg (G6.cs s)) (Gt Jm O O O) O (JLm (I64 column) O ?_))))
  obtain⟨b,l,h⟩:=Gj h
  refine JLh (I64 b) (Gw O (G29 s column b l) J1b ⟨O,O,O,O,G⟩) O (JLm (I64 b) O (G8 (k (Gs (fin1 I64 h)))))

def Zn (F:Nat) (s:G6) (boxes:List Box) (l:List G3) (open_:List Int) (id_:Int):Option Int:=
 bnd (Hv F s boxes l open_) fun f=>
 bif (!f) then
 (some 2)
 else
 (bnd (Z8 l id_) fun b=>
  bif decide (b.2≠0) then
  (some b.2)
  else
  (bif decide (0 < (b.1.length:Int)) then
   (some 90)
   else
   (bnd (Qi l id_) fun c=>
    Qr l c fun d=>
    bnd (Y7 s d.Slot.G1) fun a=>
    bnd (bif decide (0≤a) then Q3 open_ a else some default) fun e=>
    bif ((decide (0≤a))&&(!e)) then
    (some 91)
    else
    (some 0))))
theorem H87 (F:Nat) (s:G6) (boxes:List Box) (l:List G3) (open_:List Int) (id_:Int) (r:Int) (h:Zn F s boxes l open_ id_=some r):Pure Ek 66 [.agg (G6.cs s),E8 boxes,E2 l,E1 open_,I64 id_] (·=I64 r):=by
 unfold Zn at h
 refine H3 [.tmp 10] Tryz.func66 O O (Jr fun a1=>(JLh (.ptr 1102 0) (Ju (cs:=(G6.cs s)) 1102 O O O O O) O (JLm (I64 0) O (G8 (a1 (fzQ [(1,E8 boxes),(2,E2 l),(3,E1 open_),(4,I64 id_),(5,Ee s)] [] 1102 rfl rfl rfl G rfl (Js fun a2=>Jr fun a3=>(JLh (.agg (G6.cs s)) (Gt Jm O O O) O (JLm (E8 boxes) O (JLm (E2 l) O (JLm (E1 open_) O ?_)))))))))))
 obtain⟨g,a4,h⟩:=Gj h
 refine JLh (BL g) (Gw O (G28 F s boxes l open_ g a4) J1c ⟨O,O,O,O,O,O,O,O,G⟩) O (JLh (BL (!g)) (R2 (b:=g) O O) O (G8 (a3 (JCc O h (fun h hb=>?_) (fun h hb=>?_)))))
 ·
  refine Jr fun a5=>(JLm (I64 2) O (G8 (a5 (Gs (fin1 I64 h)))))
 ·
  refine Gn (a2 (Jr fun a6=>(JLm (E2 l) O (JLm (I64 id_) O ?_))))
  obtain⟨c,a7,h⟩:=Gj h
  refine JLh (.tup [E1 c.1,I64 c.2]) (Gw O (H6d l id_ c a7) Qeb ⟨O,O,O,O,G⟩) O (JLm (.tup [E1 c.1,I64 c.2]) O (JLh (E1 c.1) (H4 O O O) O (JLh (I64 c.2) (H4 O O O) O (JLm (E1 c.1) O (JLm (I64 c.2) O (G8 (a6 (Js fun a8=>Jr fun a9=>(JLm (I64 c.2) O (JLh (BL (decide (c.2≠0))) (G2c O O O) O (G8 (a9 (JCc O h (fun h hb=>?_) (fun h hb=>?_))))))))))))))
  ·
   refine Jr fun j=>(JLm (I64 c.2) O (JLm (I64 c.2) O (G8 (j (Gs (fin1 I64 h))))))
  ·
   refine Gn (a8 (Js fun k=>Jr fun m=>(JLm (E1 c.1) O (JLl Gz O O O fun b0=>(JLh (BL (decide (0 < (c.1.length:Int)))) (G08 O O O) O (G8 (m (JCc O h (fun h hb=>?_) (fun h hb=>?_)))))))))
   ·
    refine Jr fun n=>(JLm (I64 90) O (G8 (n (Gs (fin1 I64 h)))))
   ·
    refine Gn (k (Js fun o=>Js fun p=>?_))
    obtain⟨i,q,h⟩:=Gj h
    obtain⟨b1,d,t,u,h⟩:=Rr h
    obtain⟨a,v,h⟩:=Gj h
    refine JC_d0 Ho (by kernel_rfl) (Dq (.agg (G6.cs s)) (Gt Jm O O O) O (Dq (E2 l) (G7 O O) O (Dq (E2 l) (G7 O O) O (Dq (I64 id_) (G7 O O) O (Dq (I64 i) (Gw (args:=[E2 l,I64 id_]) O (Zo l id_ i q) H35 ⟨O,O,O,O,G⟩) O (Dq (Ef d) (H0 (f:=G3.av) (xs:=l) (y:=d) O O O H6 u t) O (Dq (.dptr ((G3.cs d).drop 1)) (Gb J1 O O O) O (Dq (.dptr ((G3.cs d).drop 1)) (Gb Hu O O O) O (Dq (I64 d.Slot.G1) (Ge Gd O O O) O (Dq (I64 a) (Gw (args:=[.agg (G6.cs s),I64 d.Slot.G1]) O (H6c s d.Slot.G1 a v) Qea ⟨O,O,O,O,G⟩) O (Dq (I64 a) (G9 O O) O (Dnil (p ?_)))))))))))))
    refine Jr fun w=>(JLm (I64 a) O (JLh (BL (decide (0≤a))) (G4b O O O) O (JLm (BL (decide (0≤a))) O (JLo (E1 open_) [] O .sct G (fun hc=>G7 O O) O (JLo (I64 a) [] O .sct G (fun hc=>G7 O O) O ?_)))))
    obtain⟨e,x,h⟩:=Gj h
    refine JLo (BL e) [45,46] O .sct ⟨Ua,Ua,G⟩ (fun hc=>Gw (args:=[E1 open_,I64 a]) O (Ze open_ a e (H1 hc x)) H9a ⟨O,O,O,O,G⟩) O (JLo (BL (!e)) [47] O .sct ⟨Ua,G⟩ (fun hc=>R2 (b:=e) O O) O (JLh (BL ((decide (0≤a))&&(!e))) (Jv O O O O) O (G8 (w (JCc O h (fun h hb=>?_) (fun h hb=>?_))))))
    ·
     refine Jr fun z=>(JLm (I64 91) O (G8 (z (Gs (fin1 I64 h)))))
    ·
     refine Gn (o (Jr fun a0=>(JLm (I64 0) O (G8 (a0 (Gs (fin1 I64 h)))))))

def Zk (F:Nat) (s:G6) (boxes:List Box) (l:List G3) (open_:List Int) (id_:Int):Option ((List G3)×Int):=
 bnd (Zn F s boxes l open_ id_) fun e=>
 bif decide (e≠0) then
 (some ([],e))
 else
 (each (fun b g (a:(List G3)) d=>
   jp (fun c=>
    bif decide (b.Box≠id_) then
    (need (decide ((a.length+[b].length)*32≤140737488355328∧a.length+[b].length≤maxLen)) <|
     c (a++[b]))
    else
    (c a)) fun(f:(List G3))=>
   d f)
  (fun(a:(List G3))=>
   some (a,0)) l 0 [])
theorem H85 (F:Nat) (s:G6) (boxes:List Box) (l:List G3) (open_:List Int) (id_:Int) (r:(List G3)×Int) (h:Zk F s boxes l open_ id_=some r):Pure Ek 34 [.agg (G6.cs s),E8 boxes,E2 l,E1 open_,I64 id_] (·=.tup [E2 r.1,I64 r.2]):=by
 unfold Zk at h
 refine H3 [.tmp 10,.tmp 11] Tryz.func34 O O (Jr fun a0=>(JLh (.ptr 1048 0) (Ju (cs:=(G6.cs s)) 1048 O O O O O) O (JLh (E2 ([]:List G3)) (Jb 4 O O) O (JLm (I64 0) O (G8 (a0 (fzQ [(1,E8 boxes),(2,E2 l),(3,E1 open_),(4,I64 id_),(5,Ee s)] [] 1048 rfl rfl rfl G rfl (Js fun a1=>Jr fun a2=>(JLh (.agg (G6.cs s)) (Gt Jm O O O) O (JLm (E8 boxes) O (JLm (E2 l) O (JLm (E1 open_) O (JLm (I64 id_) O ?_)))))))))))))
 obtain⟨e,a3,h⟩:=Gj h
 refine JLh (I64 e) (Gw O (H87 F s boxes l open_ id_ e a3) R45 ⟨O,O,O,O,O,O,O,O,O,O,G⟩) O (JLm (I64 e) O (G8 (a2 (Jr fun a4=>(JLm (I64 e) O (JLh (BL (decide (e≠0))) (G2c O O O) O (G8 (a4 (JCc O h (fun h hb=>?_) (fun h hb=>?_))))))))))
 ·
  refine Jr fun a5=>(JLm (I64 e) O (JLh (E2 ([]:List G3)) (Jb 4 O O) O (JLm (I64 e) O (G8 (a5 (Gs (⟨[E2 ([]:List G3),I64 e],[],G,O,⟨⟨_,O,.conv (.same O)⟩,⟨_,O,.conv (.same O)⟩,G⟩,O,congrArg (fun r:(List G3)×Int=>(.tup [E2 r.1,I64 r.2]:AV)) (M2 h)⟩)))))))
 ·
  refine Gn (a1 (Jr fun a6=>(JLh (OW 1049 4 G3.av ([]:List G3)) (Gb9 1049 70 4 O O O) O (G8 (a6 (Js fun a7=>Jr fun a8=>(JLm (I64 0) O (G8 (a8 (Gx ?_))))))))))
  obtain⟨a9,n,o,k,h⟩:=Jf h
  refine Hs (fun a (b:(List G3))=>each a9 n (List.drop a l) a b=some r) (fun a b=>[(2,E2 l),(4,I64 id_),(13,OW 1049 4 G3.av b),(14,Ej a)]) (fun a b=>[(1049,.spare 70 4 b.length b.length)]) (fun a=>l.length - a) 0 [] h ⟨(.sm O O),⟨⟨_,rfl,.same⟩,G⟩,rfl⟩ ?_
  clear h
  intro a b g b2 b0
  refine Js fun p=>Jr fun q=>(JLm (Ej a) O (JLm (E2 l) O (JLl H6 O O O fun t=>(JLh (BL (decide ((a:Int) < (l.length:Int)))) (Jq O O O) O (G8 (q (Gp O (fun hb=>?_) (fun hb=>?_))))))))
  ·
   have i:=Q4 hb
   obtain⟨c,b1,j,u,h⟩:=Hz g i
   replace h:=Zi o h
   refine Gn (p ?_)
   obtain⟨v,m,h⟩:=Ga2 h
   refine G4d (fun d:(List G3)=>v d=some r) (fun d=>[(2,E2 l),(4,I64 id_),(13,OW 1049 4 G3.av d),(14,Ej a)]) (fun d=>[(1049,.spare 70 4 d.length d.length)]) (fun Kj30 ej30=>?_) ?_
   ·
    refine Gx (Jr fun w=>(JLm (E2 l) O (JLm (Ej a) O (JLh (Ef c) (H0 (f:=G3.av) (xs:=l) (y:=c) O O O H6 j O) O (JLh (Ef c) (Gb Q1 O O O) O (JLh (I64 c.Box) (Ge Gd O O O) O (JLm (I64 id_) O (JLh (BL (decide (c.Box≠id_))) (G2c O O O) O (G8 (w (JCc O h (fun h hb=>?_) (fun h hb=>?_))))))))))))
    ·
     refine G2 (JLm (OW 1049 4 G3.av b) O (JLm (E2 l) O (JLm (Ej a) O (JLh (Ef c) (H0 (f:=G3.av) (xs:=l) (y:=c) O O O H6 j O) O (JLh (.agg (G3.cs c)) (Gt G32 O O O) O (JLh (E2 [c]) (J2 (xs:=[.agg (G3.cs c)]) O ⟨O,O,G⟩ H6 Yv O O O O) O ?_))))))
     obtain⟨x,h⟩:=Qa h
     refine JLh (OW 1049 4 G3.av (b++[c])) (Z1 (f:=G3.av) (xs:=b) (ys:=[c]) O O O O H6 Ge7 x (fun _=>O) (.inl O) O) O (JLm (OW 1049 4 G3.av (b++[c])) O (G8 (ej30 _ _ (b++[c]) h ⟨(.sm O O),⟨⟨_,rfl,.same⟩,G⟩,rfl⟩)))
    ·
     refine Gn (ej30 _ _ b h ⟨(.sm O O),⟨⟨_,rfl,.same⟩,G⟩,rfl⟩)
   ·intro d h
    replace h:=app1 m h
    refine G2 (JLm (Ej a) O (JLh (I64 ((a+1:Nat):Int)) (Jo (Hw i t) O O O) O (JLm (I64 ((a+1:Nat):Int)) O (G8 (b0 _ _ (a+1) d (app1 u h) (by omega) ⟨(.sm O O),⟨⟨_,rfl,.same⟩,G⟩,rfl⟩)))))
  ·
   have h:=app1 k (J0 g (Hd hb))
   refine Hy (a7 (Jr fun z=>(JLm (OW 1049 4 G3.av b) O (JLm (OW 1049 4 G3.av b) O (JLm (I64 0) O (G8 (z (Gs (⟨[E2 b,I64 0],[],G,O,⟨⟨_,O,.conv (.list O)⟩,⟨_,O,.conv (.same O)⟩,G⟩,O,congrArg (fun r:(List G3)×Int=>(.tup [E2 r.1,I64 r.2]:AV)) (M2 h)⟩)))))))))

def Zj (l:List Int) (n:Int):Option (List Int):=
 each (fun c k (a:(List Int)) g=>
  jp (fun e=>
   bif decide (c < n) then
   (need (decide ((a.length+[c].length)*8≤140737488355328∧a.length+[c].length≤maxLen)) <|
    e (a++[c]))
   else
   (e a)) fun(i:(List Int))=>
  g i)
 (fun(a:(List Int))=>
  need (decide ((a.length+[n].length)*8≤140737488355328∧a.length+[n].length≤maxLen)) <|
  each (fun d m (b:(List Int)) h=>
   jp (fun f=>
    bif decide (n < d) then
    (need (decide ((b.length+[d].length)*8≤140737488355328∧b.length+[d].length≤maxLen)) <|
     f (b++[d]))
    else
    (f b)) fun(j:(List Int))=>
   h j)
  (fun(b:(List Int))=>
   some b) l 0 (a++[n])) l 0 []
theorem H83 (l:List Int) (n:Int) (r:(List Int)) (h:Zj l n=some r):Pure Ek 35 [E1 l,I64 n] (·=E1 r):=by
 unfold Zj at h
 refine H3 [.tmp 4] Tryz.func35 O O (Jr fun c1=>(JLh (E1 ([]:List Int)) (Jb 1 O O) O (G8 (c1 (Jr fun c2=>(JLh (OW 1050 1 I64 ([]:List Int)) (Gb9 1050 3 1 O O O) O (G8 (c2 (Js fun c3=>Jr fun c4=>(JLm (I64 0) O (G8 (c4 (Gx ?_)))))))))))))
 obtain⟨c5,x,z,t,h⟩:=Jf h
 refine Hs (fun b (a:(List Int))=>each c5 x (List.drop b l) b a=some r) (fun b a=>[(0,E1 l),(1,I64 n),(5,OW 1050 1 I64 a),(6,Ej b)]) (fun b a=>[(1050,.spare 3 1 a.length a.length)]) (fun b=>l.length - b) 0 [] h ⟨(.sm O O),⟨⟨_,rfl,.same⟩,G⟩,rfl⟩ ?_
 clear h
 intro b a k d1 c6
 refine Js fun a0=>Jr fun a1=>(JLm (Ej b) O (JLm (E1 l) O (JLl Gz O O O fun a2=>(JLh (BL (decide ((b:Int) < (l.length:Int)))) (Jq O O O) O (G8 (a1 (Gp O (fun hb=>?_) (fun hb=>?_))))))))
 ·
  have m:=Q4 hb
  obtain⟨e,c9,o,a3,h⟩:=Hz k m
  replace h:=Zi z h
  refine Gn (a0 ?_)
  obtain⟨a4,u,h⟩:=Ga2 h
  refine G4d (fun i:(List Int)=>a4 i=some r) (fun i=>[(0,E1 l),(1,I64 n),(5,OW 1050 1 I64 i),(6,Ej b)]) (fun i=>[(1050,.spare 3 1 i.length i.length)]) (fun Kj25 ej25=>?_) ?_
  ·
   refine Gx (Jr fun a5=>(JLm (E1 l) O (JLm (Ej b) O (JLh (.dptr [I64 e]) (H0 (f:=I64) (xs:=l) (y:=e) O O O Gz o O) O (JLh (I64 e) (Ge Gd O O O) O (JLm (I64 n) O (JLh (BL (decide (e < n))) (Jq O O O) O (G8 (a5 (JCc O h (fun h hb=>?_) (fun h hb=>?_)))))))))))
   ·
    refine G2 (JLm (OW 1050 1 I64 a) O (JLm (E1 l) O (JLm (Ej b) O (JLh (.dptr [I64 e]) (H0 (f:=I64) (xs:=l) (y:=e) O O O Gz o O) O (JLh (I64 e) (Ge Gd O O O) O (JLh (E1 [e]) (J2 (xs:=[I64 e]) O ⟨O,O,G⟩ Gz Yr O O O O) O ?_))))))
    obtain⟨a6,h⟩:=Qa h
    refine JLh (OW 1050 1 I64 (a++[e])) (Z1 (f:=I64) (xs:=a) (ys:=[e]) O O O O Gz G31 a6 (fun _=>O) (.inl O) O) O (JLm (OW 1050 1 I64 (a++[e])) O (G8 (ej25 _ _ (a++[e]) h ⟨(.sm O O),⟨⟨_,rfl,.same⟩,G⟩,rfl⟩)))
   ·
    refine Gn (ej25 _ _ a h ⟨(.sm O O),⟨⟨_,rfl,.same⟩,G⟩,rfl⟩)
  ·intro i h
   replace h:=app1 u h
   refine G2 (JLm (Ej b) O (JLh (I64 ((b+1:Nat):Int)) (Jo (Hw m a2) O O O) O (JLm (I64 ((b+1:Nat):Int)) O (G8 (c6 _ _ (b+1) i (app1 a3 h) (by omega) ⟨(.sm O O),⟨⟨_,rfl,.same⟩,G⟩,rfl⟩)))))
 ·
  have h:=app1 t (J0 k (Hd hb))
  refine Hy (c3 (Jr fun a7=>(JLm (OW 1050 1 I64 a) O (JLm (I64 n) O (JLh (E1 [n]) (J2 (xs:=[I64 n]) O ⟨O,O,G⟩ Gz Yr O O O O) O ?_)))))
  obtain⟨a8,h⟩:=Qa h
  refine JLh (OW 1050 1 I64 (a++[n])) (Z1 (f:=I64) (xs:=a) (ys:=[n]) O O O O Gz G31 a8 (fun _=>O) (.inl O) O) O (JLm (OW 1050 1 I64 (a++[n])) O (G8 (a7 (Js fun a9=>Jr fun b0=>(JLm (I64 0) O (G8 (b0 (Gx ?_))))))))
  obtain⟨c7,b1,b2,v,h⟩:=Jf h
  refine Hs (fun c (d:(List Int))=>each c7 b1 (List.drop c l) c d=some r) (fun c d=>[(0,E1 l),(1,I64 n),(5,OW 1050 1 I64 d),(7,Ej c)]) (fun c d=>[(1050,.spare 3 1 d.length d.length)]) (fun c=>l.length - c) 0 (a++[n]) h ⟨(.sm O O),⟨⟨_,rfl,.same⟩,G⟩,rfl⟩ ?_
  clear h
  intro c d p d2 c8
  refine Js fun b3=>Jr fun b4=>(JLm (Ej c) O (JLm (E1 l) O (JLl Gz O O O fun b5=>(JLh (BL (decide ((c:Int) < (l.length:Int)))) (Jq O O O) O (G8 (b4 (Gp O (fun hb=>?_) (fun hb=>?_))))))))
  ·
   have q:=Q4 hb
   obtain⟨g,d0,s,b6,h⟩:=Hz p q
   replace h:=Zi b2 h
   refine Gn (b3 ?_)
   obtain⟨b7,w,h⟩:=Ga2 h
   refine G4d (fun j:(List Int)=>b7 j=some r) (fun j=>[(0,E1 l),(1,I64 n),(5,OW 1050 1 I64 j),(7,Ej c)]) (fun j=>[(1050,.spare 3 1 j.length j.length)]) (fun Kj52 ej52=>?_) ?_
   ·
    refine Gx (Jr fun b8=>(JLm (E1 l) O (JLm (Ej c) O (JLh (.dptr [I64 g]) (H0 (f:=I64) (xs:=l) (y:=g) O O O Gz s O) O (JLh (I64 g) (Ge Gd O O O) O (JLm (I64 n) O (JLh (BL (decide (n < g))) (G08 O O O) O (G8 (b8 (JCc O h (fun h hb=>?_) (fun h hb=>?_)))))))))))
    ·
     refine G2 (JLm (OW 1050 1 I64 d) O (JLm (E1 l) O (JLm (Ej c) O (JLh (.dptr [I64 g]) (H0 (f:=I64) (xs:=l) (y:=g) O O O Gz s O) O (JLh (I64 g) (Ge Gd O O O) O (JLh (E1 [g]) (J2 (xs:=[I64 g]) O ⟨O,O,G⟩ Gz Yr O O O O) O ?_))))))
     obtain⟨b9,h⟩:=Qa h
     refine JLh (OW 1050 1 I64 (d++[g])) (Z1 (f:=I64) (xs:=d) (ys:=[g]) O O O O Gz G31 b9 (fun _=>O) (.inl O) O) O (JLm (OW 1050 1 I64 (d++[g])) O (G8 (ej52 _ _ (d++[g]) h ⟨(.sm O O),⟨⟨_,rfl,.same⟩,G⟩,rfl⟩)))
    ·
     refine Gn (ej52 _ _ d h ⟨(.sm O O),⟨⟨_,rfl,.same⟩,G⟩,rfl⟩)
   ·intro j h
    replace h:=app1 w h
    refine G2 (JLm (Ej c) O (JLh (I64 ((c+1:Nat):Int)) (Jo (Hw q b5) O O O) O (JLm (I64 ((c+1:Nat):Int)) O (G8 (c8 _ _ (c+1) j (app1 b6 h) (by omega) ⟨(.sm O O),⟨⟨_,rfl,.same⟩,G⟩,rfl⟩)))))
  ·
   have h:=app1 v (J0 p (Hd hb))
   refine Hy (a9 (Jr fun c0=>(JLm (OW 1050 1 I64 d) O (JLm (OW 1050 1 I64 d) O (G8 (c0 (Gs (fin1l (fun r:(List Int)=>(E1 r:AV)) h))))))))

def G00 (F:Nat) (s:G6) (boxes:List Box) (l:List G3) (open_:List Int) (x:G3):Option ((List G3)×Int):=
 bnd (Hv F s boxes l open_) fun r4=>
 bif (!r4) then
 (some ([],2))
 else
 (bnd (Qe boxes x.Box) fun j=>
  bif ((!j.2)||((decide (j.1.Size≠20))&&(decide (j.1.Size≠40)))) then
  (some ([],6))
  else
  (bnd (Qi l x.Box) fun p=>
   bif decide (0≤p) then
   (some ([],96))
   else
   (chk (j.1.Size) fun q=>
    bnd (Y8 s x.Slot q) fun r=>
    bif (!r) then
    (some ([],97))
    else
    (bnd (Qn s x.Slot.G1) fun b=>
     bnd (bif decide (0≤b) then Qr s.Columns x.Slot.G1 some else some default) fun c=>
     bnd (bif ((decide (0≤b))&&c.Deck) then Q3 open_ b else some default) fun g=>
     bnd (bif ((!(((decide (0≤b))&&c.Deck)&&g))&&(decide (0≤b))) then Qr s.Columns x.Slot.G1 some else some default) fun k=>
     bnd (bif ((!(((decide (0≤b))&&c.Deck)&&g))&&((decide (0≤b))&&(!k.Deck))) then Q3 open_ b else some default) fun t=>
     bif ((((decide (0≤b))&&c.Deck)&&g)||(((decide (0≤b))&&(!k.Deck))&&(!t))) then
     (some ([],91))
     else
     (each (fun u a1 (v:Unit) m=>
       bnd (Yh u.Slot x.Slot) fun w=>
       bif w then
       (some ([],92))
       else
       (m ()))
      (fun(v:Unit)=>
       bnd (Y6 l) fun y=>
       bnd (Yi x.Slot y) fun z=>
       bif (!z) then
       (some ([],93))
       else
       (each (fun d a2 (a:(List G3)×Bool) n=>
         jp (fun h=>
          bif ((!a.2)&&(decide (x.Box < d.Box))) then
          (need (decide ((a.1.length+[x].length)*32≤140737488355328∧a.1.length+[x].length≤maxLen)) <|
           h ((a.1++[x]),true))
          else
          (h (a.1,a.2))) fun(e:(List G3)×Bool)=>
         need (decide ((e.1.length+[d].length)*32≤140737488355328∧e.1.length+[d].length≤maxLen)) <|
         n ((e.1++[d]),e.2))
        (fun(a:(List G3)×Bool)=>
         jp (fun f=>
          bif (!a.2) then
          (need (decide ((a.1.length+[x].length)*32≤140737488355328∧a.1.length+[x].length≤maxLen)) <|
           f (a.1++[x]))
          else
          (f a.1)) fun(i:(List G3))=>
         bnd (Rx s boxes i x.Slot.G1) fun o=>
         bif o then
         (some ([],94))
         else
         (some (i,0))) l 0 ([],false))) l 0 ())))))
theorem Hb1 (F:Nat) (s:G6) (boxes:List Box) (l:List G3) (open_:List Int) (x:G3) (r:(List G3)×Int) (h:G00 F s boxes l open_ x=some r):Pure Ek 37 [.agg (G6.cs s),E8 boxes,E2 l,E1 open_,.agg (G3.cs x)] (·=.tup [E2 r.1,I64 r.2]):=by
 unfold G00 at h
 refine H3 [.tmp 10,.tmp 11] Tryz.func37 O O (Jr fun h5=>(JLh (.ptr 1051 0) (Ju (cs:=(G6.cs s)) 1051 O O O O O) O (JLh (.ptr 1052 0) (Ju (cs:=[I64 x.Box,I64 x.Slot.G1,I64 x.Slot.Tier,U8 x.Slot.Half]) 1052 O O O O O) O (JLh (E2 ([]:List G3)) (Jb 4 O O) O (JLm (I64 0) O (G8 (h5 ?_)))))))
 refine fzQ [(1,E8 boxes),(2,E2 l),(3,E1 open_),(5,Ee s),(9,.ptr 1052 0)] [(1052,.box 70 [I64 x.Box,I64 x.Slot.G1,I64 x.Slot.Tier,U8 x.Slot.Half])] 1051 rfl rfl rfl ⟨⟨_,rfl,.boxEq rfl rfl⟩,G⟩ rfl (fzQ [(1,E8 boxes),(2,E2 l),(3,E1 open_),(5,Ee s),(9,Ef x)] [] 1052 rfl rfl rfl G rfl (Js fun h6=>Jr fun h7=>(JLh (.agg (G6.cs s)) (Gt Jm O O O) O (JLm (E8 boxes) O (JLm (E2 l) O (JLm (E1 open_) O ?_))))))
 obtain⟨r4,h8,h⟩:=Gj h
 refine JLh (BL r4) (Gw O (G28 F s boxes l open_ r4 h8) J1c ⟨O,O,O,O,O,O,O,O,G⟩) O (JLh (BL (!r4)) (R2 (b:=r4) O O) O (G8 (h7 (JCc O h (fun h hb=>?_) (fun h hb=>?_)))))
 ·
  refine Jr fun h9=>(JLh (E2 ([]:List G3)) (Jb 4 O O) O (JLm (I64 2) O (G8 (h9 (Gs (⟨[E2 ([]:List G3),I64 2],[],G,O,⟨⟨_,O,.conv (.same O)⟩,⟨_,O,.conv (.same O)⟩,G⟩,O,congrArg (fun r:(List G3)×Int=>(.tup [E2 r.1,I64 r.2]:AV)) (M2 h)⟩))))))
 ·
  refine Gn (h6 (Jr fun i0=>(JLm (E8 boxes) O (JLh (Ef x) (Gb Q1 O O O) O (JLh (I64 x.Box) (Ge Gd O O O) O ?_)))))
  obtain⟨d,i1,h⟩:=Gj h
  refine JLh (.tup [.agg (Box.cs d.1),BL d.2]) (Gw O (G06 boxes x.Box d i1) H9c ⟨O,O,O,O,G⟩) O (JLm (.tup [.agg (Box.cs d.1),BL d.2]) O (JLh (.agg (Box.cs d.1)) (H4 O O O) O (JLh (BL d.2) (H4 O O O) O (JLh (.ptr 1053 0) (Jn 1053 9 Y1 O O) O (J9 (u:=.junk) (He (u:=.agg (Box.cs d.1)) (ds:=(Box.cs d.1)) Rk O O O O O O O O) (JLm (BL d.2) O (G8 (i0 (fzQ [(1,E8 boxes),(2,E2 l),(3,E1 open_),(5,Ee s),(9,Ef x),(12,Eg d.1),(13,BL d.2)] [] 1053 rfl rfl rfl G rfl (Js fun i2=>?_))))))))))
  refine Jr fun i3=>(JLm (BL d.2) O (JLh (BL (!d.2)) (R2 (b:=d.2) O O) O (JLm (BL (!d.2)) O (JLo (.dptr ((Box.cs d.1).drop 2)) [] O .scf G (fun hc=>Gb Ym O O O) O (JLo (U8 d.1.Size) [35] O .scf ⟨Ua,G⟩ (fun hc=>Ge Hm O O O) O (JLo (BL (decide (d.1.Size≠20))) [36] O .scf ⟨Ua,G⟩ (fun hc=>G2c O O O) O (JLo (BL (decide (d.1.Size≠20))) [37] O .scf ⟨Ua,G⟩ (fun hc=>G7 O O) O (JLo (.dptr ((Box.cs d.1).drop 2)) [] O .optt G (fun hc=>Gb Ym O O O) O (JLo (U8 d.1.Size) [39] O .optt ⟨Ua,G⟩ (fun hc=>Ge Hm O O O) O (JLo (BL (decide (d.1.Size≠40))) [40] O .optt ⟨Ua,G⟩ (fun hc=>G2c O O O) O (Gf (u:=BL ((decide (d.1.Size≠20))&&(decide (d.1.Size≠40)))) [(38,BL (decide (d.1.Size≠20))),(41,_)] O O O .scf ⟨.all id,.part,G⟩ (fun hc=>Jv O O O O) ?_)))))))))))
  refine JLh (BL ((!d.2)||((decide (d.1.Size≠20))&&(decide (d.1.Size≠40))))) (Ya O O O O) O (G8 (i3 (JCc O h (fun h hb=>?_) (fun h hb=>?_))))
  ·
   refine Jr fun c4=>(JLh (E2 ([]:List G3)) (Jb 4 O O) O (JLm (I64 6) O (G8 (c4 (Gs (⟨[E2 ([]:List G3),I64 6],[],G,O,⟨⟨_,O,.conv (.same O)⟩,⟨_,O,.conv (.same O)⟩,G⟩,O,congrArg (fun r:(List G3)×Int=>(.tup [E2 r.1,I64 r.2]:AV)) (M2 h)⟩))))))
  ·
   refine Gn (i2 (Js fun c5=>Jr fun c6=>(JLm (E2 l) O (JLh (Ef x) (Gb Q1 O O O) O (JLh (I64 x.Box) (Ge Gd O O O) O ?_)))))
   obtain⟨a0,c7,h⟩:=Gj h
   refine JLh (I64 a0) (Gw O (Zo l x.Box a0 c7) H35 ⟨O,O,O,O,G⟩) O (JLh (BL (decide (0≤a0))) (G4b O O O) O (G8 (c6 (JCc O h (fun h hb=>?_) (fun h hb=>?_)))))
   ·
    refine Jr fun c8=>(JLh (E2 ([]:List G3)) (Jb 4 O O) O (JLm (I64 96) O (G8 (c8 (Gs (⟨[E2 ([]:List G3),I64 96],[],G,O,⟨⟨_,O,.conv (.same O)⟩,⟨_,O,.conv (.same O)⟩,G⟩,O,congrArg (fun r:(List G3)×Int=>(.tup [E2 r.1,I64 r.2]:AV)) (M2 h)⟩))))))
   ·
    refine Gn (c5 (Js fun c9=>Jr fun d0=>(JLh (.agg (G6.cs s)) (Gt Jm O O O) O (JLh (.dptr ((G3.cs x).drop 1)) (Gb J1 O O O) O (JLh (.agg ((G3.cs x).drop 1)) (Gt Hx O O O) O (JLh (.dptr ((Box.cs d.1).drop 2)) (Gb Ym O O O) O (JLh (U8 d.1.Size) (Ge Hm O O O) O ?_)))))))
    obtain⟨c2,d1,h⟩:=Zw h
    refine JLh (I64 c2) (Y46 Qde Qdd d1 O O) O ?_
    obtain⟨t,d2,h⟩:=Gj h
    refine JLh (BL t) (Gw O (Gae s x.Slot c2 t d2) Jf4 ⟨O,O,O,O,O,O,G⟩) O (JLh (BL (!t)) (R2 (b:=t) O O) O (G8 (d0 (JCc O h (fun h hb=>?_) (fun h hb=>?_)))))
    ·
     refine Jr fun d3=>(JLh (E2 ([]:List G3)) (Jb 4 O O) O (JLm (I64 97) O (G8 (d3 (Gs (⟨[E2 ([]:List G3),I64 97],[],G,O,⟨⟨_,O,.conv (.same O)⟩,⟨_,O,.conv (.same O)⟩,G⟩,O,congrArg (fun r:(List G3)×Int=>(.tup [E2 r.1,I64 r.2]:AV)) (M2 h)⟩))))))
    ·
     refine Gn (c9 (Jr fun d4=>(JLh (.agg (G6.cs s)) (Gt Jm O O O) O (JLh (.dptr ((G3.cs x).drop 1)) (Gb J1 O O O) O (JLh (.dptr ((G3.cs x).drop 1)) (Gb Hu O O O) O (JLh (I64 x.Slot.G1) (Ge Gd O O O) O ?_))))))
     obtain⟨c,d5,h⟩:=Gj h
     refine JLh (I64 c) (Gw O (G29 s x.Slot.G1 c d5) J1b ⟨O,O,O,O,G⟩) O (JLm (I64 c) O (G8 (d4 (Js fun d6=>Jr fun d7=>(JLm (I64 c) O (JLh (BL (decide (0≤c))) (G4b O O O) O (JLm (BL (decide (0≤c))) O (JLo (Ee s) [] O .sct G (fun hc=>Gb Hh O O O) O (JLo (E3 s.Columns) [65] O .sct ⟨Ua,G⟩ (fun hc=>Ge Hn O O O) O (JLo (.dptr ((G3.cs x).drop 1)) [] O .sct G (fun hc=>Gb J1 O O O) O (JLo (.dptr ((G3.cs x).drop 1)) [67] O .sct ⟨Ua,G⟩ (fun hc=>Gb Hu O O O) O (JLo (I64 x.Slot.G1) [68] O .sct ⟨Ua,G⟩ (fun hc=>Ge Gd O O O) O ?_))))))))))))
     obtain⟨n,d8,h⟩:=Gj h
     refine JLo (Eh n) [66,69] O .sct ⟨Ua,Ua,G⟩ (fun hc=>(match R1 (H1 hc d8) with | ⟨_,hm_,hy_⟩=>H0 (f:=G1.av) (xs:=s.Columns) (y:=n) O O O Hk hy_ hm_)) O (JLo (.dptr ((G1.cs n).drop 2)) [70] O .sct ⟨Ua,G⟩ (fun hc=>Gb Z4 O O O) O (JLo (BL n.Deck) [71] O .sct ⟨Ua,G⟩ (fun hc=>Ge Re O O O) O (JLh (BL ((decide (0≤c))&&n.Deck)) (Jv O O O O) O (JLm (BL ((decide (0≤c))&&n.Deck)) O (JLo (E1 open_) [] O .sct G (fun hc=>G7 O O) O (JLo (I64 c) [] O .sct G (fun hc=>G7 O O) O ?_))))))
     obtain⟨q,d9,h⟩:=Gj h
     refine JLo (BL q) [75,76] O .sct ⟨Ua,Ua,G⟩ (fun hc=>Gw (args:=[E1 open_,I64 c]) O (Ze open_ c q (H1 hc d9)) H9a ⟨O,O,O,O,G⟩) O (JLh (BL (((decide (0≤c))&&n.Deck)&&q)) (Jv O O O O) O (JLm (BL (((decide (0≤c))&&n.Deck)&&q)) O (JLo (I64 c) [] O .scf G (fun hc=>G7 O O) O (JLo (BL (decide (0≤c))) [80] O .scf ⟨Ua,G⟩ (fun hc=>G4b O O O) O (JLo (BL (decide (0≤c))) [81] O .scf ⟨Ua,G⟩ (fun hc=>G7 O O) O (JLo (Ee s) [] O .optt G (fun hc=>Gb Hh O O O) O (JLo (E3 s.Columns) [83] O .optt ⟨Ua,G⟩ (fun hc=>Ge Hn O O O) O (JLo (.dptr ((G3.cs x).drop 1)) [] O .optt G (fun hc=>Gb J1 O O O) O (JLo (.dptr ((G3.cs x).drop 1)) [85] O .optt ⟨Ua,G⟩ (fun hc=>Gb Hu O O O) O (JLo (I64 x.Slot.G1) [86] O .optt ⟨Ua,G⟩ (fun hc=>Ge Gd O O O) O ?_))))))))))
     obtain⟨m,e0,h⟩:=Gj h
     refine JLo (Eh m) [84,87] O .optt ⟨Ua,Ua,G⟩ (fun hc=>(match R1 (H1 hc e0) with | ⟨_,hm_,hy_⟩=>H0 (f:=G1.av) (xs:=s.Columns) (y:=m) O O O Hk hy_ hm_)) O (JLo (.dptr ((G1.cs m).drop 2)) [88] O .optt ⟨Ua,G⟩ (fun hc=>Gb Z4 O O O) O (JLo (BL m.Deck) [89] O .optt ⟨Ua,G⟩ (fun hc=>Ge Re O O O) O (JLo (BL (!m.Deck)) [90] O .optt ⟨Ua,G⟩ (fun hc=>R2 (b:=m.Deck) O O) O (Gf (u:=BL ((decide (0≤c))&&(!m.Deck))) [(82,BL (decide (0≤c))),(91,_)] O O O .scf ⟨.all id,.part,G⟩ (fun hc=>Jv O O O O) ?_))))
     refine JLo (BL ((decide (0≤c))&&(!m.Deck))) [92] O .scf ⟨Ua,G⟩ (fun hc=>G7 O O) O (JLo (E1 open_) [] O .optt G (fun hc=>G7 O O) O (JLo (I64 c) [] O .optt G (fun hc=>G7 O O) O ?_))
     obtain⟨o,e1,h⟩:=Gj h
     refine JLo (BL o) [94,95] O .optt ⟨Ua,Ua,G⟩ (fun hc=>Gw (args:=[E1 open_,I64 c]) O (Ze open_ c o (H1 hc e1)) H9a ⟨O,O,O,O,G⟩) O (JLo (BL (!o)) [96] O .optt ⟨Ua,G⟩ (fun hc=>R2 (b:=o) O O) O (Gf (u:=BL (((decide (0≤c))&&(!m.Deck))&&(!o))) [(93,BL ((decide (0≤c))&&(!m.Deck))),(97,_)] O O O .scf ⟨.all id,.part,G⟩ (fun hc=>Jv O O O O) ?_))
     refine JLh (BL ((((decide (0≤c))&&n.Deck)&&q)||(((decide (0≤c))&&(!m.Deck))&&(!o)))) (Ya O O O O) O (G8 (d7 (JCc O h (fun h hb=>?_) (fun h hb=>?_))))
     ·
      refine Jr fun e2=>(JLh (E2 ([]:List G3)) (Jb 4 O O) O (JLm (I64 91) O (G8 (e2 (Gs (⟨[E2 ([]:List G3),I64 91],[],G,O,⟨⟨_,O,.conv (.same O)⟩,⟨_,O,.conv (.same O)⟩,G⟩,O,congrArg (fun r:(List G3)×Int=>(.tup [E2 r.1,I64 r.2]:AV)) (M2 h)⟩))))))
     ·
      refine Gn (d6 (Js fun e3=>Jr fun e4=>(JLm (I64 0) O (G8 (e4 (Gx ?_))))))
      obtain⟨i4,e5,e6,a9,h⟩:=Jf h
      refine Hs (fun i (v:Unit)=>each i4 e5 (List.drop i l) i v=some r) (fun i v=>[(1,E8 boxes),(2,E2 l),(5,Ee s),(9,Ef x),(15,Ej i)]) (fun i v=>[]) (fun i=>l.length - i) 0 () h ⟨(.sm O O),G,rfl⟩ ?_
      clear h
      intro i v a1 j0 i5
      refine Js fun e7=>Jr fun e8=>(JLm (Ej i) O (JLm (E2 l) O (JLl H6 O O O fun b0=>(JLh (BL (decide ((i:Int) < (l.length:Int)))) (Jq O O O) O (G8 (e8 (Gp O (fun hb=>?_) (fun hb=>?_))))))))
      ·
       have a2:=Q4 hb
       obtain⟨p,i8,e9,f0,h⟩:=Hz a1 a2
       replace h:=Zi e6 h
       refine Gn (e7 (Js fun f1=>Gx (Js fun f2=>?_)))
       obtain⟨c3,f3,h⟩:=Gj h
       refine JC_d0 Ho (by kernel_rfl) (Dq (E2 l) (G7 O O) O (Dq (Ej i) (G7 O O) O (Dq (Ef p) (H0 (f:=G3.av) (xs:=l) (y:=p) O O O H6 e9 O) O (Dq (.dptr ((G3.cs p).drop 1)) (Gb J1 O O O) O (Dq (.agg ((G3.cs p).drop 1)) (Gt Hx O O O) O (Dq (.dptr ((G3.cs x).drop 1)) (Gb J1 O O O) O (Dq (.agg ((G3.cs x).drop 1)) (Gt Hx O O O) O (Dq (BL c3) (Gw (args:=[.agg ((G3.cs p).drop 1),.agg ((G3.cs x).drop 1)]) O (Gca p.Slot x.Slot c3 f3) Jf1 ⟨O,O,O,O,G⟩) O (Dnil (f2 (JCc O h (fun h hb=>?_) (fun h hb=>?_))))))))))))
       ·
        refine Jr fun f4=>(JLh (E2 ([]:List G3)) (Jb 4 O O) O (JLm (I64 92) O (G8 (f4 (Gs (⟨[E2 ([]:List G3),I64 92],[],G,O,⟨⟨_,O,.conv (.same O)⟩,⟨_,O,.conv (.same O)⟩,G⟩,O,congrArg (fun r:(List G3)×Int=>(.tup [E2 r.1,I64 r.2]:AV)) (M2 h)⟩))))))
       ·
        refine Gn (f1 (G2 (JLm (Ej i) O (JLh (I64 ((i+1:Nat):Int)) (Jo (Hw a2 b0) O O O) O (JLm (I64 ((i+1:Nat):Int)) O (G8 (i5 _ _ (i+1) () (app1 f0 h) (by omega) ⟨(.sm O O),G,rfl⟩)))))))
      ·
       have h:=app1 a9 (J0 a1 (Hd hb))
       refine Hy (e3 (Js fun f5=>Js fun f6=>?_))
       obtain⟨w,f7,h⟩:=Gj h
       obtain⟨z,f8,h⟩:=Gj h
       refine JC_d0 Ho (by kernel_rfl) (Dq (.dptr ((G3.cs x).drop 1)) (Gb J1 O O O) O (Dq (.agg ((G3.cs x).drop 1)) (Gt Hx O O O) O (Dq (E2 l) (G7 O O) O (Dq (E9 w) (Gw (args:=[E2 l]) O (Gac l w f7) Jf2 ⟨O,O,G⟩) O (Dq (BL z) (Gw (args:=[.agg ((G3.cs x).drop 1),E9 w]) O (Gcb x.Slot w z f8) Jf3 ⟨O,O,O,O,G⟩) O (Dq (BL (!z)) (R2 (b:=z) O O) O (Dnil (f6 (JCc O h (fun h hb=>?_) (fun h hb=>?_))))))))))
       ·
        refine Jr fun f9=>(JLh (E2 ([]:List G3)) (Jb 4 O O) O (JLm (I64 93) O (G8 (f9 (Gs (⟨[E2 ([]:List G3),I64 93],[],G,O,⟨⟨_,O,.conv (.same O)⟩,⟨_,O,.conv (.same O)⟩,G⟩,O,congrArg (fun r:(List G3)×Int=>(.tup [E2 r.1,I64 r.2]:AV)) (M2 h)⟩))))))
       ·
        refine Gn (f5 (Jr fun g0=>(JLh (OW 1054 4 G3.av ([]:List G3)) (Gb9 1054 70 4 O O O) O (G8 (g0 (Jr fun g1=>(JLm (BL false) O (G8 (g1 (Js fun g2=>Jr fun g3=>(JLm (I64 0) O (G8 (g3 (Gx ?_))))))))))))))
        obtain⟨i6,g4,g5,b1,h⟩:=Jf h
        refine Hs (fun e (a:(List G3)×Bool)=>each i6 g4 (List.drop e l) e a=some r) (fun e a=>[(1,E8 boxes),(2,E2 l),(5,Ee s),(9,Ef x),(16,OW 1054 4 G3.av a.1),(17,BL a.2),(18,Ej e)]) (fun e a=>[(1054,.spare 70 4 a.1.length a.1.length)]) (fun e=>l.length - e) 0 ([],false) h ⟨(.sm O O),⟨⟨_,rfl,.same⟩,G⟩,rfl⟩ ?_
        clear h
        intro e a a3 j1 i7
        refine Js fun g6=>Jr fun g7=>(JLm (Ej e) O (JLm (E2 l) O (JLl H6 O O O fun b2=>(JLh (BL (decide ((e:Int) < (l.length:Int)))) (Jq O O O) O (G8 (g7 (Gp O (fun hb=>?_) (fun hb=>?_))))))))
        ·
         have a4:=Q4 hb
         obtain⟨j,i9,a5,g8,h⟩:=Hz a3 a4
         replace h:=Zi g5 h
         refine Gn (g6 (Js fun g9=>Gx ?_))
         obtain⟨h0,b3,h⟩:=Ga2 h
         refine G4d (fun k:(List G3)×Bool=>h0 k=some r) (fun k=>[(1,E8 boxes),(2,E2 l),(5,Ee s),(9,Ef x),(16,OW 1054 4 G3.av k.1),(17,BL k.2),(18,Ej e)]) (fun k=>[(1054,.spare 70 4 k.1.length k.1.length)]) (fun Kj95 ej95=>?_) ?_
         ·
          refine Js fun h1=>Qw (l':=[(1,E8 boxes),(2,E2 l),(5,Ee s),(9,Ef x),(16,OW 1054 4 G3.av a.1),(17,BL a.2),(18,Ej e)]) (L':=[(1054,.spare 70 4 a.1.length a.1.length)]) ⟨(.sm O O),⟨⟨_,rfl,.same⟩,G⟩,rfl⟩ ?_
          refine JC_d0 Ho (by kernel_rfl) (Dq (BL a.2) (G7 O O) O (Dq (BL (!a.2)) (R2 (b:=a.2) O O) O (Dq (BL (!a.2)) (G7 O O) O (Do (E2 l) [] O .sct G (fun hc=>G7 O O) O (Do (Ej e) [] O .sct G (fun hc=>G7 O O) O (Do (Ef j) [129,130] O .sct ⟨Ua,Ua,G⟩ (fun hc=>H0 (f:=G3.av) (xs:=l) (y:=j) O O O H6 a5 O) O (Do (Ef j) [131] O .sct ⟨Ua,G⟩ (fun hc=>Gb Q1 O O O) O (Do (I64 j.Box) [132] O .sct ⟨Ua,G⟩ (fun hc=>Ge Gd O O O) O (Do (Ef x) [] O .sct G (fun hc=>Gb Q1 O O O) O (Do (I64 x.Box) [134] O .sct ⟨Ua,G⟩ (fun hc=>Ge Gd O O O) O (Do (BL (decide (x.Box < j.Box))) [133,135] O .sct ⟨Ua,Ua,G⟩ (fun hc=>G08 O O O) O (Dq (BL ((!a.2)&&(decide (x.Box < j.Box)))) (Jv O O O O) O (Dnil ?_)))))))))))))
          refine h1 (JCc O h (fun h hb=>?_) (fun h hb=>?_))
          ·
           refine Jr fun h2=>(JLm (OW 1054 4 G3.av a.1) O (JLh (.agg (G3.cs x)) (Gt G32 O O O) O (JLh (E2 [x]) (J2 (xs:=[.agg (G3.cs x)]) O ⟨O,O,G⟩ H6 Yv O O O O) O ?_)))
           obtain⟨h3,h⟩:=Qa h
           refine JLh (OW 1054 4 G3.av (a.1++[x])) (Z1 (f:=G3.av) (xs:=a.1) (ys:=[x]) O O O O H6 Ge7 h3 (fun _=>O) (.inl O) O) O (JLm (OW 1054 4 G3.av (a.1++[x])) O (G8 (h2 (G2 (JLm (BL true) O (G8 (ej95 _ _ ((a.1++[x]),true) h ⟨(.sm O O),⟨⟨_,rfl,.same⟩,G⟩,rfl⟩)))))))
          ·
           refine Gn (ej95 _ _ (a.1,a.2) h ⟨(.sm O O),⟨⟨_,rfl,.same⟩,G⟩,rfl⟩)
         ·intro k h
          replace h:=app1 b3 h
          refine G2 (JLm (OW 1054 4 G3.av k.1) O (JLm (E2 l) O (JLm (Ej e) O (JLh (Ef j) (H0 (f:=G3.av) (xs:=l) (y:=j) O O O H6 a5 O) O (JLh (.agg (G3.cs j)) (Gt G32 O O O) O (JLh (E2 [j]) (J2 (xs:=[.agg (G3.cs j)]) O ⟨O,O,G⟩ H6 Yv O O O O) O ?_))))))
          obtain⟨h4,h⟩:=Qa h
          refine JLh (OW 1054 4 G3.av (k.1++[j])) (Z1 (f:=G3.av) (xs:=k.1) (ys:=[j]) O O O O H6 Ge7 h4 (fun _=>O) (.inl O) O) O (JLm (OW 1054 4 G3.av (k.1++[j])) O (G8 (g9 (G2 (JLm (Ej e) O (JLh (I64 ((e+1:Nat):Int)) (Jo (Hw a4 b2) O O O) O (JLm (I64 ((e+1:Nat):Int)) O (G8 (i7 _ _ (e+1) ((k.1++[j]),k.2) (app1 g8 h) (by omega) ⟨(.sm O O),⟨⟨_,rfl,.same⟩,G⟩,rfl⟩)))))))))
        ·
         have h:=app1 b1 (J0 a3 (Hd hb))
         refine Hy (g2 ?_)
         obtain⟨b4,a6,h⟩:=Ga2 h
         refine G4d (fun g:(List G3)=>b4 g=some r) (fun g=>[(1,E8 boxes),(5,Ee s),(9,Ef x),(16,OW 1054 4 G3.av g)]) (fun g=>[(1054,.spare 70 4 g.length g.length)]) (fun Kj100 ej100=>?_) ?_
         ·
          refine Jr fun b5=>(JLm (BL a.2) O (JLh (BL (!a.2)) (R2 (b:=a.2) O O) O (G8 (b5 (JCc O h (fun h hb=>?_) (fun h hb=>?_))))))
          ·
           refine G2 (JLm (OW 1054 4 G3.av a.1) O (JLh (.agg (G3.cs x)) (Gt G32 O O O) O (JLh (E2 [x]) (J2 (xs:=[.agg (G3.cs x)]) O ⟨O,O,G⟩ H6 Yv O O O O) O ?_)))
           obtain⟨b6,h⟩:=Qa h
           refine JLh (OW 1054 4 G3.av (a.1++[x])) (Z1 (f:=G3.av) (xs:=a.1) (ys:=[x]) O O O O H6 Ge7 b6 (fun _=>O) (.inl O) O) O (JLm (OW 1054 4 G3.av (a.1++[x])) O (G8 (ej100 _ _ (a.1++[x]) h ⟨(.sm O O),⟨⟨_,rfl,.same⟩,G⟩,rfl⟩)))
          ·
           refine Gn (ej100 _ _ a.1 h ⟨(.sm O O),⟨⟨_,rfl,.same⟩,G⟩,rfl⟩)
         ·intro g h
          replace h:=app1 a6 h
          refine Js fun b7=>Jr fun b8=>(JLh (.agg (G6.cs s)) (Gt Jm O O O) O (JLm (E8 boxes) O (JLm (OW 1054 4 G3.av g) O (JLh (.dptr ((G3.cs x).drop 1)) (Gb J1 O O O) O (JLh (.dptr ((G3.cs x).drop 1)) (Gb Hu O O O) O (JLh (I64 x.Slot.G1) (Ge Gd O O O) O ?_))))))
          obtain⟨a7,b9,h⟩:=Gj h
          refine JLh (BL a7) (Gw O (Gc9 s boxes g x.Slot.G1 a7 b9) Jf0 ⟨O,O,O,O,O,O,O,O,G⟩) O (G8 (b8 (JCc O h (fun h hb=>?_) (fun h hb=>?_))))
          ·
           refine Jr fun c0=>(JLh (E2 ([]:List G3)) (Jb 4 O O) O (JLm (I64 94) O (G8 (c0 (Gs (⟨[E2 ([]:List G3),I64 94],[],G,O,⟨⟨_,O,.conv (.same O)⟩,⟨_,O,.conv (.same O)⟩,G⟩,O,congrArg (fun r:(List G3)×Int=>(.tup [E2 r.1,I64 r.2]:AV)) (M2 h)⟩))))))
          ·
           refine Gn (b7 (Jr fun c1=>(JLm (OW 1054 4 G3.av g) O (JLm (OW 1054 4 G3.av g) O (JLm (I64 0) O (G8 (c1 (Gs (⟨[E2 g,I64 0],[],G,O,⟨⟨_,O,.conv (.list O)⟩,⟨_,O,.conv (.same O)⟩,G⟩,O,congrArg (fun r:(List G3)×Int=>(.tup [E2 r.1,I64 r.2]:AV)) (M2 h)⟩)))))))))
end
end Go.Proofs.YtmfhaflabpnaoaaGreat
