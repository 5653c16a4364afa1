/- Walks of functions. -/
import Derived.Test.YtidpfkmbfgihlaaGreatXQ
set_option maxRecDepth 100000
set_option maxHeartbeats 1000000
set_option linter.unusedVariables false
set_option linter.unusedSimpArgs false
namespace Go.Proofs.YtidpfkmbfgihlaaGreat
open Go.RowKit
noncomputable section
structure Gw where
 s:Gk
 boxes:List Box
 l:List Stowed
 open_:List Int
 x:Stowed
 deriving DecidableEq,Inhabited
def Gw.cs (x:Gw):List AV:=[E3 x.s.Columns,E7 x.s.Covers,I64 x.s.Light.Kilos,I64 x.s.Light.X,I64 x.s.Light.Y,I64 x.s.Light.Z,E4 x.s.Rows,E5 x.s.Frames,E6 x.s.Tanks,I64 x.s.G4.Tolerance,I64 x.s.G4.Trim,I64 x.s.G4.List_,I64 x.s.G4.Stability,E8 x.boxes,E2 x.l,E1 x.open_,I64 x.x.Box,I64 x.x.Slot.G2,I64 x.x.Slot.Tier,U8 x.x.Slot.Half]
abbrev Ek (x:Gw):AV:=.dptr (Gw.cs x)
namespace XRF
open XAF
open XCF
open XSF
open XKF
open XTF
open XUF
open XBF
open XPF
open XJF
open XQF
theorem H0e:Gf6 Eo 123 20=true:=by kernel_rfl
theorem Hdf:R12 Eo 124 4=true:=by kernel_rfl
theorem Re3:Yec Eo 124 25 1=true:=by kernel_rfl
theorem R6d:H7 Eo 109=true:=by kernel_rfl
theorem R6c:H7 Eo 110=true:=by kernel_rfl
theorem R6b:H7 Eo 112=true:=by kernel_rfl
theorem R69:H7 Eo 115=true:=by kernel_rfl
theorem R68:H7 Eo 116=true:=by kernel_rfl
theorem R67:H7 Eo 117=true:=by kernel_rfl
theorem R66:H7 Eo 118=true:=by kernel_rfl
theorem Q07:H7 Eo 119=true:=by kernel_rfl
theorem R5c:H7 Eo 150=true:=by kernel_rfl
theorem R58:H7 Eo 172=true:=by kernel_rfl
theorem Q73:H7 Eo 19=true:=by kernel_rfl
theorem Re1:H7 Eo 21=true:=by kernel_rfl
theorem Re0:H7 Eo 22=true:=by kernel_rfl
theorem Rdf:H7 Eo 24=true:=by kernel_rfl
theorem Rde:H7 Eo 25=true:=by kernel_rfl
theorem Rdd:H7 Eo 26=true:=by kernel_rfl
theorem Rd5:H7 Eo 52=true:=by kernel_rfl
theorem Rd4:H7 Eo 53=true:=by kernel_rfl
theorem Rd3:H7 Eo 54=true:=by kernel_rfl
theorem Hd9:H7 Eo 55=true:=by kernel_rfl
theorem Hd8:H7 Eo 57=true:=by kernel_rfl
theorem Rd1:H7 Eo 59=true:=by kernel_rfl
theorem Rd0:H7 Eo 60=true:=by kernel_rfl
theorem Rcf:H7 Eo 61=true:=by kernel_rfl
theorem Rce:H7 Eo 62=true:=by kernel_rfl
theorem Q69:H7 Eo 63=true:=by kernel_rfl
theorem Rcd:H7 Eo 64=true:=by kernel_rfl
theorem Q68:H7 Eo 65=true:=by kernel_rfl
theorem Rcc:H7 Eo 66=true:=by kernel_rfl
theorem Rcb:H7 Eo 67=true:=by kernel_rfl
theorem H6b:Jk Eo 123 0 0=true:=by kernel_rfl
theorem Q5f:Jk Eo 123 1 13=true:=by kernel_rfl
theorem G8a:Jk Eo 123 2 14=true:=by kernel_rfl
theorem Q5e:Jk Eo 123 3 15=true:=by kernel_rfl
theorem G53:Jk Eo 123 4 16=true:=by kernel_rfl
theorem Q55:Jb1 Eo 157 .u64=true:=by kernel_rfl
theorem Qd3:placesOf Eo 123=some [(0,13),(13,1),(14,1),(15,1),(16,4)]:=by kernel_rfl
theorem R26:Y6 Eo 37=true:=by kernel_rfl
theorem Gef:Y6 Eo 38=true:=by kernel_rfl
theorem R57:Yx Eo 123 20=true:=by kernel_rfl
theorem R54:(Eo.info? 123).bind (fun i=>i.zero.map Value.cells)=some (List.toArray [.slice none 0 0,.slice none 0 0,E0,E0,E0,E0,.slice none 0 0,.slice none 0 0,.slice none 0 0,E0,E0,E0,E0,.slice none 0 0,.slice none 0 0,.slice none 0 0,E0,E0,E0,.int .u8 0]):=by kernel_rfl
theorem R53:(Eo.info? 124).bind (fun i=>i.zero.map Value.cells)=some (List.toArray [.nilFunc,.nilFunc,.nilFunc,.nilFunc]):=by kernel_rfl
theorem R25:Y4 Eo 123 20=true:=by kernel_rfl
end XRF
open XAF
open XCF
open XSF
open XKF
open XTF
open XUF
open XBF
open XPF
open XJF
open XQF
open XRF

def G06 (s:List Stowed) (v:Stowed):Option Int:=
 each (fun b c (d:Unit) a=>
  bif decide (v=b) then
  (some (c:Int))
  else
  (a ()))
 (fun(d:Unit)=>
  some (-1)) s 0 ()
theorem H88 (s:List Stowed) (v:Stowed) (r:Int) (h:G06 s v=some r):Pure Eo 52 [E2 s,.agg (Stowed.cs v)] (·=I64 r):=by
 unfold G06 at h
 refine H0 [.tmp 4] Tryz.func52 O O (Jr fun w=>(JLh (.ptr 1101 0) (Jm (cs:=[I64 v.Box,I64 v.Slot.G2,I64 v.Slot.Tier,U8 v.Slot.Half]) 1101 O O O O O) O (JLm (I64 0) O (G5 (w (Gm [(0,E2 s),(3,Eg v)] [] 1101 rfl rfl rfl G rfl (by exact⟨.conv (.same rfl),.ptr,G⟩) (Js fun x=>Jr fun z=>(JLm (E2 s) O (JLl H4 O O O fun a0=>(JLm (I64 0) O (G5 (z (Gx ?_)))))))))))))
 obtain⟨a1,i,j,g,h⟩:=Jy h
 refine Jc (fun a (c:Unit)=>each a1 i (List.drop a s) a c=some r) (fun a c=>[(0,E2 s),(3,Eg v),(7,En s.length),(8,En a)]) (fun a c=>[]) (fun a=>s.length - a) 0 () h ⟨(.sm O O),G,rfl⟩ ?_
 clear h
 intro a c d a4 a2
 refine Jr fun k=>(JLh (BL (decide ((a:Int) < (s.length:Int)))) (Qg O O O) O (G5 (k (Js fun l=>Gn O (fun hb=>?_) (fun hb=>?_)))))
 ·
  have e:=Qr hb
  obtain⟨b,a3,m,n,h⟩:=Ja d e
  replace h:=G1d j h
  refine Gr (l (Js fun o=>Gx (Jr fun p=>(JLm (En a) O (JLm (En a) O (G5 (p (Js fun q=>JC_d0 J0 (by kernel_rfl) (Dq (.agg (Stowed.cs v)) (Gj R3 O O O) O (Dq (E2 s) (G6 O O) O (Dq (En a) (G6 O O) O (Dq (Eg b) (Hg (f:=Stowed.av) (xs:=s) (y:=b) O O O H4 m O) O (Dq (.agg (Stowed.cs b)) (Gj R3 O O O) O (Dq (BL (decide (v=b))) (R48 (vs:=[.int .i64 v.Box,.int .i64 v.Slot.G2,.int .i64 v.Slot.Tier,.int .u8 v.Slot.Half]) (us:=[.int .i64 b.Box,.int .i64 b.Slot.G2,.int .i64 b.Slot.Tier,.int .u8 b.Slot.Half]) 4 O (Z04 v b) Q0d Qec O O O) O (Dnil (q (JCc O h (fun h hb=>?_) (fun h hb=>?_))))))))))))))))))
  ·
   refine Jr fun t=>(JLm (En a) O (JLm (En a) O (G5 (t (Gq (fin1 I64 h))))))
  ·
   refine Gr (o (G1 (JLh (I64 ((a+1:Nat):Int)) (Jg (J7 e a0) O O O) O (JLm (I64 ((a+1:Nat):Int)) O (G5 (a2 _ _ (a+1) () (app1 n h) (by omega) ⟨(.sm O O),G,rfl⟩))))))
 ·
  have h:=app1 g (Jb d (Hs hb))
  refine Jf (x (Jr fun u=>(JLm (I64 (-1)) O (G5 (u (Gq (fin1 I64 h)))))))

def R5 (s:List Stowed) (v:Stowed):Option Bool:=
 bnd (G06 s v) fun a=>
 some (decide (0≤a))
theorem H37 (s:List Stowed) (v:Stowed) (r:Bool) (h:R5 s v=some r):Pure Eo 21 [E2 s,.agg (Stowed.cs v)] (·=BL r):=by
 unfold R5 at h
 refine H0 [.tmp 4] Tryz.func21 O O (Jr fun b=>(JLh (.ptr 1046 0) (Jm (cs:=[I64 v.Box,I64 v.Slot.G2,I64 v.Slot.Tier,U8 v.Slot.Half]) 1046 O O O O O) O (JLm (BL false) O (G5 (b (Gm [(0,E2 s),(3,Eg v)] [] 1046 rfl rfl rfl G rfl (by exact⟨.conv (.same rfl),.ptr,G⟩) (Jr fun c=>(JLm (E2 s) O (JLh (.agg (Stowed.cs v)) (Gj R3 O O O) O ?_)))))))))
 obtain⟨a,d,h⟩:=Ga h
 refine JLh (I64 a) (Gt O (H88 s v a d) Rd5 ⟨O,O,O,O,G⟩) O (JLh (BL (decide (0≤a))) (H01 O O O) O (JLm (BL (decide (0≤a))) O (G5 (c (Gq (fin1 BL h))))))

def Zk (s:Gk) (boxes:List Box) (l:List Stowed) (open_:List Int):Option Bool:=
 each (fun a b (d:Unit) c=>
  bnd (bif ((!((decide (a < 0))||(decide ((s.Covers.length:Int)≤a))))&&(decide (0 < (b:Int)))) then chk ((b:Int) - 1) some else some 0) fun e=>
  bnd (bif ((!((decide (a < 0))||(decide ((s.Covers.length:Int)≤a))))&&(decide (0 < (b:Int)))) then Z3 open_ e some else some default) fun f=>
  bif (((decide (a < 0))||(decide ((s.Covers.length:Int)≤a)))||((decide (0 < (b:Int)))&&(decide (a≤f)))) then
  (some false)
  else
  (c ()))
 (fun(d:Unit)=>
  bnd (Yo s boxes l) fun g=>
  some g) open_ 0 ()
theorem Gb3 (s:Gk) (boxes:List Box) (l:List Stowed) (open_:List Int) (r:Bool) (h:Zk s boxes l open_=some r):Pure Eo 57 [.agg (Gk.cs s),E8 boxes,E2 l,E1 open_] (·=BL r):=by
 unfold Zk at h
 refine H0 [.tmp 8] Tryz.func57 O O (Jr fun a4=>(JLh (.ptr 1104 0) (Jm (cs:=(Gk.cs s)) 1104 O O O O O) O (JLm (BL false) O (G5 (a4 (fzQ [(1,E8 boxes),(2,E2 l),(3,E1 open_),(4,Ef s)] [] 1104 rfl rfl rfl G rfl (Js fun a5=>Jr fun a6=>(JLm (E1 open_) O (JLl Gz O O O fun k=>(JLm (I64 0) O (G5 (a6 (Gx ?_)))))))))))))
 obtain⟨a7,m,n,j,h⟩:=Jy h
 refine Jc (fun a (d:Unit)=>each a7 m (List.drop a open_) a d=some r) (fun a d=>[(1,E8 boxes),(2,E2 l),(3,E1 open_),(4,Ef s),(11,E1 open_),(12,En open_.length),(13,En a)]) (fun a d=>[]) (fun a=>open_.length - a) 0 () h ⟨(.sm O O),G,rfl⟩ ?_
 clear h
 intro a d e b1 a8
 refine Jr fun o=>(JLh (BL (decide ((a:Int) < (open_.length:Int)))) (Qg O O O) O (G5 (o (Js fun p=>Gn O (fun hb=>?_) (fun hb=>?_)))))
 ·
  have g:=Qr hb
  obtain⟨b,b0,q,t,h⟩:=Ja e g
  replace h:=G1d n h
  refine Gr (p (Js fun v=>Gx (Jr fun w=>(JLm (En a) O (JLh (.dptr [I64 b]) (Hg (f:=I64) (xs:=open_) (y:=b) O O O Gz q O) O (JLh (I64 b) (Gh Gc O O O) O (JLm (En a) O (JLm (I64 b) O (G5 (w ?_))))))))))
  refine Jr fun x=>(JLm (I64 b) O (JLh (BL (decide (b < 0))) (Qg O O O) O (JLm (BL (decide (b < 0))) O (JLo (I64 b) [] O .scf G (fun hc=>G6 O O) O (JLo (.dptr ((Gk.cs s).drop 1)) [] O .scf G (fun hc=>G9 Jp O O O) O (JLo (E7 s.Covers) [22] O .scf ⟨Ua,G⟩ (fun hc=>Gh Qa O O O) O (JLo (En s.Covers.length) [23] O .scf ⟨Ua,G⟩ (fun hc=>G20 (f:=G8.av) (xs:=s.Covers) Jj O O) O (JLo (BL (decide ((s.Covers.length:Int)≤b))) [21,24] O .scf ⟨Ua,Ua,G⟩ (fun hc=>H01 O O O) O (JLh (BL ((decide (b < 0))||(decide ((s.Covers.length:Int)≤b)))) (G2f O O O O) O (JLm (BL ((decide (b < 0))||(decide ((s.Covers.length:Int)≤b)))) O (JLo (En a) [] O .scf G (fun hc=>G6 O O) O (JLo (BL (decide (0 < (a:Int)))) [28] O .scf ⟨Ua,G⟩ (fun hc=>Gbe O O O) O (JLo (BL (decide (0 < (a:Int)))) [29] O .scf ⟨Ua,G⟩ (fun hc=>G6 O O) O ?_)))))))))))))
  refine JLo (I64 b) [] O .optt G (fun hc=>G6 O O) O (JLo (E1 open_) [] O .optt G (fun hc=>G6 O O) O (JLo (En a) [] O .optt G (fun hc=>G6 O O) O ?_))
  obtain⟨a9,z,h⟩:=Ga h
  refine JLo (I64 a9) [33] O .optt ⟨Ua,G⟩ (fun hc=>H4d (H30 (H3 hc z)) O O O) O ?_
  obtain⟨c,a0,h⟩:=Ga h
  refine JLo (.dptr [I64 c]) [32,34] O .optt ⟨Ua,Ua,G⟩ (fun hc=>(match Zn (H3 hc a0) with | ⟨_,hm_,hy_⟩=>Hg (f:=I64) (xs:=open_) (y:=c) O O O Gz hy_ hm_)) O (JLo (I64 c) [35] O .optt ⟨Ua,G⟩ (fun hc=>Gh Gc O O O) O (JLo (BL (decide (b≤c))) [31,36] O .optt ⟨Ua,Ua,G⟩ (fun hc=>J0b O O O) O (Gf (u:=BL ((decide (0 < (a:Int)))&&(decide (b≤c)))) [(30,BL (decide (0 < (a:Int)))),(37,_)] O O O .scf ⟨.all id,.part,G⟩ (fun hc=>Ro O O O O) ?_)))
  refine JLh (BL (((decide (b < 0))||(decide ((s.Covers.length:Int)≤b)))||((decide (0 < (a:Int)))&&(decide (b≤c))))) (G2f O O O O) O (G5 (x (JCc O h (fun h hb=>?_) (fun h hb=>?_))))
  ·
   refine Jr fun a1=>(JLm (BL false) O (G5 (a1 (Gq (fin1 BL h)))))
  ·
   refine Gr (v (G1 (JLh (I64 ((a+1:Nat):Int)) (Jg (J7 g k) O O O) O (JLm (I64 ((a+1:Nat):Int)) O (G5 (a8 _ _ (a+1) () (app1 t h) (by omega) ⟨(.sm O O),G,rfl⟩))))))
 ·
  have h:=app1 j (Jb e (Hs hb))
  refine Jf (a5 (Jr fun a2=>(JLh (.agg (Gk.cs s)) (Gj Hr O O O) O (JLm (E8 boxes) O (JLm (E2 l) O ?_)))))
  obtain⟨i,a3,h⟩:=Ga h
  refine JLh (BL i) (Gt O (G0a s boxes l i a3) G8c ⟨O,O,O,O,O,O,G⟩) O (JLm (BL i) O (G5 (a2 (Gq (fin1 BL h)))))

def Gc7 (x:Stowed) (a:Int):Option Bool:=
 some (decide (x.Box=a))
theorem Q34 (x:Stowed) (a:Int) (r:Bool) (h:Gc7 x a=some r):Pure Eo 112 [.agg (Stowed.cs x),.dptr [I64 a]] (·=BL r):=by
 unfold Gc7 at h
 refine H0 [.tmp 3] Tryz.func112 O O (Jr fun b=>(JLh (.ptr 1166 0) (Jm (cs:=[I64 x.Box,I64 x.Slot.G2,I64 x.Slot.Tier,U8 x.Slot.Half]) 1166 O O O O O) O (JLm (BL false) O (G5 (b (Gm [(1,.dptr [I64 a]),(2,Eg x)] [] 1166 rfl rfl rfl G rfl (by exact⟨.conv (.same rfl),.ptr,G⟩) (Jr fun c=>(JLh (Eg x) (G9 Jn O O O) O (JLh (I64 x.Box) (Gh Gc O O O) O (JLh (I64 a) (Gh Gc O O O) O (JLh (BL (decide (x.Box=a))) (Q0 O O O) O (JLm (BL (decide (x.Box=a))) O (G5 (c (Gq (fin1 BL h))))))))))))))))

def G3e (l:List Stowed) (id_:Int):Option Int:=
 bnd (R1 l (fun z0=>Gc7 z0 id_)) fun a=>
 some a
theorem H24 (l:List Stowed) (id_:Int) (r:Int) (h:G3e l id_=some r):Pure Eo 55 [E2 l,I64 id_] (·=I64 r):=by
 unfold G3e at h
 refine H0 [.tmp 4] Tryz.func55 O O (Jr fun b=>(JLh (.ptr 1103 0) (Jm (cs:=[I64 id_]) 1103 O O O O O) O (JLm (I64 0) O (G5 (b (Gm [(0,E2 l),(3,.dptr [I64 id_])] [] 1103 rfl rfl rfl G rfl (by exact⟨.conv (.same rfl),.ptr,G⟩) (Jr fun c=>(JLm (E2 l) O (JLh (.fn 112 [.dptr [I64 id_]]) (Jz (cs:=[.dptr [I64 id_]]) O O) O ?_)))))))))
 obtain⟨a,d,h⟩:=Ga h
 refine JLh (I64 a) (Gt O (G57 l (fun z0=>Gc7 z0 id_) 112 [.dptr [I64 id_]] R6b O (fun z0 q hq=>Q34 z0 id_ q hq) a d) Q64 ⟨O,O,O,O,G⟩) O (JLm (I64 a) O (G5 (c (Gq (fin1 I64 h)))))

def Gb4 (l:List Stowed) (id_:Int):Option ((List Int)×Int):=
 bnd (G3e l id_) fun e=>
 bif decide (e < 0) then
 (some ([],6))
 else
 (each (fun b i (a:(List Int)) d=>
   jp (fun c=>
    Z3 l e fun f=>
    bnd (Ge7 b.Slot f.Slot) fun g=>
    bif g then
    (need (decide ((a.length+[b.Box].length)*8≤140737488355328∧a.length+[b.Box].length≤maxLen)) <|
     c (a++[b.Box]))
    else
    (c a)) fun(h:(List Int))=>
   d h)
  (fun(a:(List Int))=>
   some (a,0)) l 0 [])
theorem Qb7 (l:List Stowed) (id_:Int) (r:(List Int)×Int) (h:Gb4 l id_=some r):Pure Eo 109 [E2 l,I64 id_] (·=.tup [E1 r.1,I64 r.2]):=by
 unfold Gb4 at h
 refine H0 [.tmp 4,.tmp 5] Tryz.func109 O O (Jr fun a6=>(JLh (E1 ([]:List Int)) (Hm 1 O O) O (JLm (I64 0) O (G5 (a6 (Jr fun a7=>(JLm (E2 l) O (JLm (I64 id_) O ?_))))))))
 obtain⟨e,a8,h⟩:=Ga h
 refine JLh (I64 e) (Gt O (H24 l id_ e a8) Hd9 ⟨O,O,O,O,G⟩) O (JLm (I64 e) O (G5 (a7 (Js fun a9=>Jr fun b0=>(JLm (I64 e) O (JLh (BL (decide (e < 0))) (Qg O O O) O (G5 (b0 (JCc O h (fun h hb=>?_) (fun h hb=>?_))))))))))
 ·
  refine Jr fun b1=>(JLh (E1 ([]:List Int)) (Hm 1 O O) O (JLm (I64 6) O (G5 (b1 (Gq (⟨[E1 ([]:List Int),I64 6],[],G,O,⟨⟨_,O,.conv (.same O)⟩,⟨_,O,.conv (.same O)⟩,G⟩,O,congrArg (fun r:(List Int)×Int=>(.tup [E1 r.1,I64 r.2]:AV)) (M5 h)⟩))))))
 ·
  refine Gr (a9 (Jr fun b2=>(JLh (OW 1163 1 I64 ([]:List Int)) (G5e 1163 3 1 O O O) O (G5 (b2 (Js fun b3=>Jr fun b4=>(JLm (E2 l) O (JLl H4 O O O fun o=>(JLm (I64 0) O (G5 (b4 (Gx ?_))))))))))))
  obtain⟨b5,p,q,k,h⟩:=Jy h
  refine Jc (fun c (a:(List Int))=>each b5 p (List.drop c l) c a=some r) (fun c a=>[(0,E2 l),(6,I64 e),(7,OW 1163 1 I64 a),(15,E2 l),(16,En l.length),(17,En c)]) (fun c a=>[(1163,.spare 3 1 a.length a.length)]) (fun c=>l.length - c) 0 [] h ⟨(.sm O O),⟨⟨_,rfl,.same⟩,G⟩,rfl⟩ ?_
  clear h
  intro c a i b8 b6
  refine Jr fun s=>(JLh (BL (decide ((c:Int) < (l.length:Int)))) (Qg O O O) O (G5 (s (Js fun t=>Gn O (fun hb=>?_) (fun hb=>?_)))))
  ·
   have j:=Qr hb
   obtain⟨b,b7,v,w,h⟩:=Ja i j
   replace h:=G1d q h
   refine Gr (t ?_)
   obtain⟨x,m,h⟩:=Yy h
   refine Ri (fun d:(List Int)=>x d=some r) (fun d=>[(0,E2 l),(6,I64 e),(7,OW 1163 1 I64 d),(15,E2 l),(16,En l.length),(17,En c)]) (fun d=>[(1163,.spare 3 1 d.length d.length)]) (fun Kj33 ej33=>?_) ?_
   ·
    refine Gx (Jr fun z=>(JLh (Eg b) (Hg (f:=Stowed.av) (xs:=l) (y:=b) O O O H4 v O) O (JLh (.agg (Stowed.cs b)) (Gj R3 O O O) O (JLh (.ptr 1164 0) (Hq 1164 4 Jx O O) O (Hp (u:=.junk) (Hc (u:=.agg (Stowed.cs b)) (ds:=[I64 b.Box,I64 b.Slot.G2,I64 b.Slot.Tier,U8 b.Slot.Half]) G11 O O O O O O O O) (G5 (z (fzQ [(0,E2 l),(6,I64 e),(7,OW 1163 1 I64 a),(9,Eg b),(15,E2 l),(16,En l.length),(17,En c)] [(1163,.spare 3 1 a.length a.length)] 1164 rfl rfl rfl ⟨⟨_,rfl,.same⟩,G⟩ rfl (Js fun a0=>?_)))))))))
    refine Qc (l':=[(0,E2 l),(6,I64 e),(7,OW 1163 1 I64 a),(9,Eg b),(15,E2 l),(16,En l.length),(17,En c)]) (L':=[(1163,.spare 3 1 a.length a.length)]) ⟨(.sm O O),⟨⟨_,rfl,.same⟩,G⟩,rfl⟩ ?_
    obtain⟨b9,g,a1,a2,h⟩:=Yc h
    obtain⟨n,a3,h⟩:=Ga h
    refine JC_d0 J0 (by kernel_rfl) (Dq (.dptr ((Stowed.cs b).drop 1)) (G9 Jo O O O) O (Dq (.agg ((Stowed.cs b).drop 1)) (Gj Hu O O O) O (Dq (E2 l) (G6 O O) O (Dq (I64 e) (G6 O O) O (Dq (Eg g) (Hg (f:=Stowed.av) (xs:=l) (y:=g) O O O H4 a2 a1) O (Dq (.dptr ((Stowed.cs g).drop 1)) (G9 Jo O O O) O (Dq (.agg ((Stowed.cs g).drop 1)) (Gj Hu O O O) O (Dq (BL n) (Gt (args:=[.agg ((Stowed.cs b).drop 1),.agg ((Stowed.cs g).drop 1)]) O (J66 b.Slot g.Slot n a3) Q63 ⟨O,O,O,O,G⟩) O (Dnil (a0 (JCc O h (fun h hb=>?_) (fun h hb=>?_))))))))))))
    ·
     refine G1 (JLm (OW 1163 1 I64 a) O (JLh (Eg b) (G9 Jn O O O) O (JLh (I64 b.Box) (Gh Gc O O O) O (JLh (E1 [b.Box]) (H9 (xs:=[I64 b.Box]) O ⟨O,O,G⟩ Gz R6 O O O O) O ?_))))
     obtain⟨a4,h⟩:=J8 h
     refine JLh (OW 1163 1 I64 (a++[b.Box])) (Qk (f:=I64) (xs:=a) (ys:=[b.Box]) O O O O Gz Zx a4 (fun _=>O) (.inl O) O) O (JLm (OW 1163 1 I64 (a++[b.Box])) O (G5 (ej33 _ _ (a++[b.Box]) h ⟨(.sm O O),⟨⟨_,rfl,.same⟩,G⟩,rfl⟩)))
    ·
     refine Gr (ej33 _ _ a h ⟨(.sm O O),⟨⟨_,rfl,.same⟩,G⟩,rfl⟩)
   ·intro d h
    replace h:=app1 m h
    refine G1 (JLh (I64 ((c+1:Nat):Int)) (Jg (J7 j o) O O O) O (JLm (I64 ((c+1:Nat):Int)) O (G5 (b6 _ _ (c+1) d (app1 w h) (by omega) ⟨(.sm O O),⟨⟨_,rfl,.same⟩,G⟩,rfl⟩))))
  ·
   have h:=app1 k (Jb i (Hs hb))
   refine Jf (b3 (Jr fun a5=>(JLm (OW 1163 1 I64 a) O (JLm (OW 1163 1 I64 a) O (JLm (I64 0) O (G5 (a5 (Gq (⟨[E1 a,I64 0],[],G,O,⟨⟨_,O,.conv (.list O)⟩,⟨_,O,.conv (.same O)⟩,G⟩,O,congrArg (fun r:(List Int)×Int=>(.tup [E1 r.1,I64 r.2]:AV)) (M5 h)⟩)))))))))

def Gfa (s:Gk) (column:Int):Option Int:=
 Z3 s.Columns column fun a=>
 bif a.Deck then
 (some (-1))
 else
 (bnd (Yg s column) fun b=>
  some b)
theorem Qb5 (s:Gk) (column:Int) (r:Int) (h:Gfa s column=some r):Pure Eo 110 [.agg (Gk.cs s),I64 column] (·=I64 r):=by
 unfold Gfa at h
 refine H0 [.tmp 4] Tryz.func110 O O (Jr fun c=>(JLh (.ptr 1165 0) (Jm (cs:=(Gk.cs s)) 1165 O O O O O) O (JLm (I64 0) O (G5 (c (Gm [(1,I64 column),(2,Ef s)] [] 1165 rfl rfl rfl G rfl (by exact⟨.conv (.same rfl),.ptr,G⟩) (Js fun d=>Jr fun e=>(JLh (Ef s) (G9 Hv O O O) O (JLh (E3 s.Columns) (Gh J9 O O O) O (JLm (I64 column) O ?_))))))))))
 obtain⟨m,a,g,i,h⟩:=Yc h
 refine JLh (Ei a) (Hg (f:=G2.av) (xs:=s.Columns) (y:=a) O O O Ht i g) O (JLh (.dptr ((G2.cs a).drop 2)) (G9 Yw O O O) O (JLh (BL a.Deck) (Gh Q1 O O O) O (G5 (e (JCc O h (fun h hb=>?_) (fun h hb=>?_))))))
 ·
  refine Jr fun j=>(JLm (I64 (-1)) O (G5 (j (Gq (fin1 I64 h)))))
 ·
  refine Gr (d (Jr fun k=>(JLh (.agg (Gk.cs s)) (Gj Hr O O O) O (JLm (I64 column) O ?_))))
  obtain⟨b,l,h⟩:=Ga h
  refine JLh (I64 b) (Gt O (G5d s column b l) H6c ⟨O,O,O,O,G⟩) O (JLm (I64 b) O (G5 (k (Gq (fin1 I64 h)))))

def Ge6 (s:Gk) (boxes:List Box) (l:List Stowed) (open_:List Int) (id_:Int):Option Int:=
 bnd (Zk s boxes l open_) fun f=>
 bif (!f) then
 (some 2)
 else
 (bnd (Gb4 l id_) fun b=>
  bif decide (b.2≠0) then
  (some b.2)
  else
  (bif decide (0 < (b.1.length:Int)) then
   (some 90)
   else
   (bnd (G3e l id_) fun c=>
    Z3 l c fun d=>
    bnd (Gfa s d.Slot.G2) fun a=>
    bnd (bif decide (0≤a) then J3 open_ a else some default) fun e=>
    bif ((decide (0≤a))&&(!e)) then
    (some 91)
    else
    (some 0))))
theorem Qe3 (s:Gk) (boxes:List Box) (l:List Stowed) (open_:List Int) (id_:Int) (r:Int) (h:Ge6 s boxes l open_ id_=some r):Pure Eo 53 [.agg (Gk.cs s),E8 boxes,E2 l,E1 open_,I64 id_] (·=I64 r):=by
 unfold Ge6 at h
 refine H0 [.tmp 10] Tryz.func53 O O (Jr fun a0=>(JLh (.ptr 1102 0) (Jm (cs:=(Gk.cs s)) 1102 O O O O O) O (JLm (I64 0) O (G5 (a0 (fzQ [(1,E8 boxes),(2,E2 l),(3,E1 open_),(4,I64 id_),(5,Ef s)] [] 1102 rfl rfl rfl G rfl (Js fun a1=>Jr fun a2=>(JLh (.agg (Gk.cs s)) (Gj Hr O O O) O (JLm (E8 boxes) O (JLm (E2 l) O (JLm (E1 open_) O ?_)))))))))))
 obtain⟨g,a3,h⟩:=Ga h
 refine JLh (BL g) (Gt O (Gb3 s boxes l open_ g a3) Hd8 ⟨O,O,O,O,O,O,O,O,G⟩) O (JLh (BL (!g)) (Qx (b:=g) O O) O (G5 (a2 (JCc O h (fun h hb=>?_) (fun h hb=>?_)))))
 ·
  refine Jr fun a4=>(JLm (I64 2) O (G5 (a4 (Gq (fin1 I64 h)))))
 ·
  refine Gr (a1 (Jr fun a5=>(JLm (E2 l) O (JLm (I64 id_) O ?_))))
  obtain⟨a,a6,h⟩:=Ga h
  refine JLh (.tup [E1 a.1,I64 a.2]) (Gt O (Qb7 l id_ a a6) R6d ⟨O,O,O,O,G⟩) O (JLm (.tup [E1 a.1,I64 a.2]) O (JLh (E1 a.1) (H1 O O O) O (JLh (I64 a.2) (H1 O O O) O (JLm (E1 a.1) O (JLm (I64 a.2) O (G5 (a5 (Js fun a7=>Gx (Jr fun a8=>(JLm (I64 a.2) O (JLh (BL (decide (a.2≠0))) (Gec O O O) O (JLm (BL (decide (a.2≠0))) O (G5 (a8 (JCc O h (fun h hb=>?_) (fun h hb=>?_))))))))))))))))
  ·
   refine Jr fun j=>(JLm (I64 a.2) O (JLm (I64 a.2) O (G5 (j (Gq (fin1 I64 h))))))
  ·
   refine Jr fun k=>(JLm (E1 a.1) O (JLl Gz O O O fun a9=>(JLh (BL (decide (0 < (a.1.length:Int)))) (Gbe O O O) O (JLm (BL (decide (0 < (a.1.length:Int)))) O (G5 (k (JCc O h (fun h hb=>?_) (fun h hb=>?_))))))))
   ·
    refine Jr fun m=>(JLm (I64 90) O (G5 (m (Gq (fin1 I64 h)))))
   ·
    refine Gr (a7 (Js fun n=>Js fun o=>?_))
    obtain⟨i,p,h⟩:=Ga h
    obtain⟨b0,d,q,t,h⟩:=Yc h
    obtain⟨c,u,h⟩:=Ga h
    refine JC_d0 J0 (by kernel_rfl) (Dq (.agg (Gk.cs s)) (Gj Hr O O O) O (Dq (E2 l) (G6 O O) O (Dq (E2 l) (G6 O O) O (Dq (I64 id_) (G6 O O) O (Dq (I64 i) (Gt (args:=[E2 l,I64 id_]) O (H24 l id_ i p) Hd9 ⟨O,O,O,O,G⟩) O (Dq (Eg d) (Hg (f:=Stowed.av) (xs:=l) (y:=d) O O O H4 t q) O (Dq (.dptr ((Stowed.cs d).drop 1)) (G9 Jo O O O) O (Dq (.dptr ((Stowed.cs d).drop 1)) (G9 Jd O O O) O (Dq (I64 d.Slot.G2) (Gh Gc O O O) O (Dq (I64 c) (Gt (args:=[.agg (Gk.cs s),I64 d.Slot.G2]) O (Qb5 s d.Slot.G2 c u) R6c ⟨O,O,O,O,G⟩) O (Dq (I64 c) (G7 O O) O (Dnil (o ?_)))))))))))))
    refine Jr fun v=>(JLm (I64 c) O (JLh (BL (decide (0≤c))) (H01 O O O) O (JLm (BL (decide (0≤c))) O (JLo (E1 open_) [] O .sct G (fun hc=>G6 O O) O (JLo (I64 c) [] O .sct G (fun hc=>G6 O O) O ?_)))))
    obtain⟨e,w,h⟩:=Ga h
    refine JLo (BL e) [47,48] O .sct ⟨Ua,Ua,G⟩ (fun hc=>Gt (args:=[E1 open_,I64 c]) O (Qv open_ c e (H3 hc w)) G8d ⟨O,O,O,O,G⟩) O (JLo (BL (!e)) [49] O .sct ⟨Ua,G⟩ (fun hc=>Qx (b:=e) O O) O (JLh (BL ((decide (0≤c))&&(!e))) (Ro O O O O) O (G5 (v (JCc O h (fun h hb=>?_) (fun h hb=>?_))))))
    ·
     refine Jr fun x=>(JLm (I64 91) O (G5 (x (Gq (fin1 I64 h)))))
    ·
     refine Gr (n (Jr fun z=>(JLm (I64 0) O (G5 (z (Gq (fin1 I64 h)))))))

def G98 (s:Gk) (boxes:List Box) (l:List Stowed) (open_:List Int) (id_:Int):Option ((List Stowed)×Int):=
 bnd (Ge6 s boxes l open_ id_) fun a=>
 bif decide (a≠0) then
 (some ([],a))
 else
 (bnd (G3e l id_) fun b=>
  bnd (Y2 l b) fun c=>
  some (c,0))
theorem Qe1 (s:Gk) (boxes:List Box) (l:List Stowed) (open_:List Int) (id_:Int) (r:(List Stowed)×Int) (h:G98 s boxes l open_ id_=some r):Pure Eo 22 [.agg (Gk.cs s),E8 boxes,E2 l,E1 open_,I64 id_] (·=.tup [E2 r.1,I64 r.2]):=by
 unfold G98 at h
 refine H0 [.tmp 10,.tmp 11] Tryz.func22 O O (Jr fun d=>(JLh (.ptr 1047 0) (Jm (cs:=(Gk.cs s)) 1047 O O O O O) O (JLh (E2 ([]:List Stowed)) (Hm 4 O O) O (JLm (I64 0) O (G5 (d (fzQ [(1,E8 boxes),(2,E2 l),(3,E1 open_),(4,I64 id_),(5,Ef s)] [] 1047 rfl rfl rfl G rfl (Js fun e=>Jr fun f=>(JLh (.agg (Gk.cs s)) (Gj Hr O O O) O (JLm (E8 boxes) O (JLm (E2 l) O (JLm (E1 open_) O (JLm (I64 id_) O ?_)))))))))))))
 obtain⟨a,g,h⟩:=Ga h
 refine JLh (I64 a) (Gt O (Qe3 s boxes l open_ id_ a g) Rd4 ⟨O,O,O,O,O,O,O,O,O,O,G⟩) O (JLm (I64 a) O (G5 (f (Jr fun i=>(JLm (I64 a) O (JLh (BL (decide (a≠0))) (Gec O O O) O (G5 (i (JCc O h (fun h hb=>?_) (fun h hb=>?_))))))))))
 ·
  refine Jr fun j=>(JLm (I64 a) O (JLh (E2 ([]:List Stowed)) (Hm 4 O O) O (JLm (I64 a) O (G5 (j (Gq (⟨[E2 ([]:List Stowed),I64 a],[],G,O,⟨⟨_,O,.conv (.same O)⟩,⟨_,O,.conv (.same O)⟩,G⟩,O,congrArg (fun r:(List Stowed)×Int=>(.tup [E2 r.1,I64 r.2]:AV)) (M5 h)⟩)))))))
 ·
  refine Gr (e (Jr fun k=>(JLm (E2 l) O (JLm (E2 l) O (JLm (I64 id_) O ?_)))))
  obtain⟨c,m,h⟩:=Ga h
  refine JLh (I64 c) (Gt O (H24 l id_ c m) Hd9 ⟨O,O,O,O,G⟩) O ?_
  obtain⟨b,n,h⟩:=Ga h
  refine JLh (E2 b) (Gt O (H80.down l c b n) Rd3 ⟨O,O,O,O,G⟩) O (JLm (E2 b) O (JLm (I64 0) O (G5 (k (Gq (⟨[E2 b,I64 0],[],G,O,⟨⟨_,O,.conv (.same O)⟩,⟨_,O,.conv (.same O)⟩,G⟩,O,congrArg (fun r:(List Stowed)×Int=>(.tup [E2 r.1,I64 r.2]:AV)) (M5 h)⟩))))))

def G19 (p:Gw):Option Bool:=
 bnd (Yg p.s p.x.Slot.G2) fun a=>
 bnd (bif decide (0≤a) then Z3 p.s.Columns p.x.Slot.G2 some else some default) fun b=>
 bnd (bif decide (0≤a) then J3 p.open_ a else some default) fun c=>
 some ((decide (0≤a))&&(b.Deck==c))
theorem J0c (p:Gw) (r:Bool) (h:G19 p=some r):Pure Eo 59 [.agg (Gw.cs p)] (·=BL r):=by
 unfold G19 at h
 refine H0 [.tmp 2] Tryz.func59 O O (Jr fun d=>(JLh (.ptr 1107 0) (Jm (cs:=(Gw.cs p)) 1107 O O O O O) O (JLm (BL false) O (G5 (d ?_)))))
 refine Gm [(1,Ek p)] [] 1107 rfl rfl rfl G rfl (by exact⟨.ptr,G⟩) (Jr fun e=>(JLh (Eg p.x) (G9 G53 O O O) O (JLh (.dptr ((Stowed.cs p.x).drop 1)) (G9 Jo O O O) O (JLh (.dptr ((Stowed.cs p.x).drop 1)) (G9 Jd O O O) O (JLh (I64 p.x.Slot.G2) (Gh Gc O O O) O (JLm (I64 p.x.Slot.G2) O (G5 (e ?_))))))))
 refine Jr fun g=>(JLh (Ek p) (G9 H6b O O O) O (JLh (.agg (Gk.cs p.s)) (Gj Hr O O O) O (JLm (I64 p.x.Slot.G2) O ?_)))
 obtain⟨a,i,h⟩:=Ga h
 refine JLh (I64 a) (Gt O (G5d p.s p.x.Slot.G2 a i) H6c ⟨O,O,O,O,G⟩) O (JLm (I64 a) O (G5 (g (Js fun j=>?_))))
 obtain⟨b,k,h⟩:=Ga h
 obtain⟨c,l,h⟩:=Ga h
 refine JC_d0 J0 (by kernel_rfl) (Dq (I64 a) (G6 O O) O (Dq (BL (decide (0≤a))) (H01 O O O) O (Dq (BL (decide (0≤a))) (G6 O O) O (Do (Ek p) [] O .sct G (fun hc=>G9 H6b O O O) O (Do (Ek p) [16] O .sct ⟨Ua,G⟩ (fun hc=>G9 Hv O O O) O (Do (E3 p.s.Columns) [17] O .sct ⟨Ua,G⟩ (fun hc=>Gh J9 O O O) O (Do (I64 p.x.Slot.G2) [] O .sct G (fun hc=>G6 O O) O (Do (Ei b) [18,19] O .sct ⟨Ua,Ua,G⟩ (fun hc=>(match Zn (H3 hc k) with | ⟨_,hm_,hy_⟩=>Hg (f:=G2.av) (xs:=p.s.Columns) (y:=b) O O O Ht hy_ hm_)) O (Do (.dptr ((G2.cs b).drop 2)) [20] O .sct ⟨Ua,G⟩ (fun hc=>G9 Yw O O O) O (Do (BL b.Deck) [21] O .sct ⟨Ua,G⟩ (fun hc=>Gh Q1 O O O) O (Do (.dptr [E1 p.open_,I64 p.x.Box,I64 p.x.Slot.G2,I64 p.x.Slot.Tier,U8 p.x.Slot.Half]) [] O .sct G (fun hc=>G9 Q5e O O O) O (Do (E1 p.open_) [23] O .sct ⟨Ua,G⟩ (fun hc=>Gh Yk O O O) O (Do (I64 a) [] O .sct G (fun hc=>G6 O O) O ?_)))))))))))))
 refine Do (BL c) [24,25] O .sct ⟨Ua,Ua,G⟩ (fun hc=>Gt (args:=[E1 p.open_,I64 a]) O (Qv p.open_ a c (H3 hc l)) G8d ⟨O,O,O,O,G⟩) O (Do (BL (b.Deck==c)) [22,26] O .sct ⟨Ua,Ua,G⟩ (fun hc=>Jcd H63 O O O) O (Dq (BL ((decide (0≤a))&&(b.Deck==c))) (Ro O O O O) O (Dq (BL ((decide (0≤a))&&(b.Deck==c))) (G7 O O) O (Dnil (j (Gq (fin1 BL h)))))))

def Yd (y:Stowed) (a:Gw):Option Bool:=
 bnd (G9a a.x.Slot y.Slot) fun b=>
 some b
theorem Hf5 (y:Stowed) (a:Gw) (r:Bool) (h:Yd y a=some r):Pure Eo 115 [.agg (Stowed.cs y),Ek a] (·=BL r):=by
 unfold Yd at h
 refine H0 [.tmp 3] Tryz.func115 O O (Jr fun c=>(JLh (.ptr 1167 0) (Jm (cs:=[I64 y.Box,I64 y.Slot.G2,I64 y.Slot.Tier,U8 y.Slot.Half]) 1167 O O O O O) O (JLm (BL false) O (G5 (c (Gm [(1,Ek a),(2,Eg y)] [] 1167 rfl rfl rfl G rfl (by exact⟨.conv (.same rfl),.ptr,G⟩) (Jr fun d=>(JLh (.dptr ((Gw.cs a).drop 16)) (G9 G53 O O O) O (JLh (.dptr ((Gw.cs a).drop 17)) (G9 Jo O O O) O (JLh (.agg ((Gw.cs a).drop 17)) (Gj Hu O O O) O (JLh (.dptr ((Stowed.cs y).drop 1)) (G9 Jo O O O) O (JLh (.agg ((Stowed.cs y).drop 1)) (Gj Hu O O O) O ?_))))))))))))
 obtain⟨b,e,h⟩:=Ga h
 refine JLh (BL b) (Gt O (Hae a.x.Slot y.Slot b e) J6f ⟨O,O,O,O,G⟩) O (JLm (BL b) O (G5 (d (Gq (fin1 BL h)))))

def G2c (p:Gw):Option Bool:=
 bnd (Hy p.l (fun z0=>Yd z0 p)) fun a=>
 some a
theorem J32 (p:Gw) (r:Bool) (h:G2c p=some r):Pure Eo 60 [.agg (Gw.cs p)] (·=BL r):=by
 unfold G2c at h
 refine H0 [.tmp 2] Tryz.func60 O O (Jr fun b=>(JLh (.ptr 1108 0) (Jm (cs:=(Gw.cs p)) 1108 O O O O O) O (JLm (BL false) O (G5 (b (Gm [(1,Ek p)] [] 1108 rfl rfl rfl G rfl (by exact⟨.ptr,G⟩) ?_))))))
 refine Jr fun c=>(JLh (.dptr ((Gw.cs p).drop 14)) (G9 G8a O O O) O (JLh (E2 p.l) (Gh Gef O O O) O (JLh (.fn 115 [.dptr (Gw.cs p)]) (Jz (cs:=[.dptr (Gw.cs p)]) O O) O ?_)))
 obtain⟨a,d,h⟩:=Ga h
 refine JLh (BL a) (Gt O (Qd p.l (fun z0=>Yd z0 p) 115 [.dptr (Gw.cs p)] R69 O (fun z0 q hq=>Hf5 z0 p q hq) a d) H0c ⟨O,O,O,O,G⟩) O (JLm (BL a) O (G5 (c (Gq (fin1 BL h)))))

def G3d (p:Gw):Option Bool:=
 bnd (Gb2 p.l) fun a=>
 bnd (G25 p.x.Slot a) fun b=>
 some (!b)
theorem Hf6 (p:Gw) (r:Bool) (h:G3d p=some r):Pure Eo 61 [.agg (Gw.cs p)] (·=BL r):=by
 unfold G3d at h
 refine H0 [.tmp 2] Tryz.func61 O O (Jr fun d=>(JLh (.ptr 1109 0) (Jm (cs:=(Gw.cs p)) 1109 O O O O O) O (JLm (BL false) O (G5 (d (Gm [(1,Ek p)] [] 1109 rfl rfl rfl G rfl (by exact⟨.ptr,G⟩) (Js fun e=>?_)))))))
 obtain⟨c,f,h⟩:=Ga h
 obtain⟨a,g,h⟩:=Ga h
 refine JC_d0 J0 (by kernel_rfl) (Dq (.dptr ((Gw.cs p).drop 16)) (G9 G53 O O O) O (Dq (.dptr ((Gw.cs p).drop 17)) (G9 Jo O O O) O (Dq (.agg ((Gw.cs p).drop 17)) (Gj Hu O O O) O (Dq (.dptr ((Gw.cs p).drop 14)) (G9 G8a O O O) O (Dq (E2 p.l) (Gh Gef O O O) O (Dq (E9 c) (Gt (args:=[E2 p.l]) O (J31 p.l c f) Q66 ⟨O,O,G⟩) O (Dq (BL a) (Gt (args:=[.agg ((Gw.cs p).drop 17),E9 c]) O (Haf p.x.Slot c a g) J70 ⟨O,O,O,O,G⟩) O (Dq (BL (!a)) (Qx (b:=a) O O) O (Dq (BL (!a)) (G7 O O) O (Dnil (e (Gq (fin1 BL h)))))))))))))

def Yu (F:Nat) (p:Gw):Option (List Stowed):=
 loop (fun b (a:Int)=>
  bnd (bif decide (a < (p.l.length:Int)) then Z3 p.l a some else some default) fun c=>
  bif ((decide (a < (p.l.length:Int)))&&(decide (c.Box < p.x.Box))) then
  (chk (a+1) fun d=>
   b d)
  else
  (bnd (Y5 p.l a p.x) fun e=>
   some e)) F 0
theorem Ge5 (F:Nat) (p:Gw) (r:(List Stowed)) (h:Yu F p=some r):Pure Eo 63 [.agg (Gw.cs p)] (·=E2 r):=by
 unfold Yu at h
 refine H0 [.tmp 2] Tryz.func63 O O (Jr fun t=>(JLh (.ptr 1111 0) (Jm (cs:=(Gw.cs p)) 1111 O O O O O) O (JLh (E2 ([]:List Stowed)) (Hm 4 O O) O (G5 (t (Gm [(1,Ek p)] [] 1111 rfl rfl rfl G rfl (by exact⟨.ptr,G⟩) (Jr fun u=>(JLm (I64 0) O (G5 (u (Js fun v=>Gx ?_)))))))))))
 obtain⟨w,g,h⟩:=R31 h
 refine Jc (fun b (a:Int)=>loop w b a=some r) (fun b a=>[(1,Ek p),(3,I64 a)]) (fun b a=>[]) (fun b=>b) F 0 h ⟨(.sm O O),G,O⟩ ?_
 clear h
 intro b a i a2 z
 obtain⟨a0,a1,hm_10,j,h⟩:=Q92 i
 replace h:=Z27 g h
 refine Js fun k=>Js fun m=>?_
 obtain⟨c,n,h⟩:=Ga h
 refine JC_d0 J0 (by kernel_rfl) (Dq (I64 a) (G6 O O) O (Dq (.dptr ((Gw.cs p).drop 14)) (G9 G8a O O O) O (Dq (E2 p.l) (Gh Gef O O O) O (Dq (En p.l.length) (G20 (f:=Stowed.av) (xs:=p.l) H4 O O) O (Dq (BL (decide (a < (p.l.length:Int)))) (Qg O O O) O (Dq (BL (decide (a < (p.l.length:Int)))) (G6 O O) O (Do (.dptr ((Gw.cs p).drop 14)) [] O .sct G (fun hc=>G9 G8a O O O) O (Do (E2 p.l) [10] O .sct ⟨Ua,G⟩ (fun hc=>Gh Gef O O O) O (Do (I64 a) [] O .sct G (fun hc=>G6 O O) O (Do (Eg c) [11,12] O .sct ⟨Ua,Ua,G⟩ (fun hc=>(match Zn (H3 hc n) with | ⟨_,hm_,hy_⟩=>Hg (f:=Stowed.av) (xs:=p.l) (y:=c) O O O H4 hy_ hm_)) O (Do (Eg c) [13] O .sct ⟨Ua,G⟩ (fun hc=>G9 Jn O O O) O (Do (I64 c.Box) [14] O .sct ⟨Ua,G⟩ (fun hc=>Gh Gc O O O) O (Do (.dptr ((Gw.cs p).drop 16)) [] O .sct G (fun hc=>G9 G53 O O O) O ?_)))))))))))))
 refine Do (.dptr ((Gw.cs p).drop 16)) [16] O .sct ⟨Ua,G⟩ (fun hc=>G9 Jn O O O) O (Do (I64 p.x.Box) [17] O .sct ⟨Ua,G⟩ (fun hc=>Gh Gc O O O) O (Do (BL (decide (c.Box < p.x.Box))) [15,18] O .sct ⟨Ua,Ua,G⟩ (fun hc=>Qg O O O) O (Dq (BL ((decide (a < (p.l.length:Int)))&&(decide (c.Box < p.x.Box)))) (Ro O O O O) O (Dnil (m (JCc O h (fun h hb=>?_) (fun h hb=>?_)))))))
 ·
  refine Gr (k (Gx (G1 (JLm (I64 a) O ?_))))
  obtain⟨d,o,h⟩:=Je h
  refine JLh (I64 d) (Jg o O O O) O (JLm (I64 d) O (G5 (z _ _ a0 d (app1 j h) (by omega) ⟨(.sm O O),G,rfl⟩)))
 ·
  refine Jf (v (Jr fun q=>(JLh (.dptr ((Gw.cs p).drop 14)) (G9 G8a O O O) O (JLh (E2 p.l) (Gh Gef O O O) O (JLm (I64 a) O (JLh (.dptr ((Gw.cs p).drop 16)) (G9 G53 O O O) O (JLh (.agg ((Gw.cs p).drop 16)) (Gj R3 O O O) O ?_)))))))
  obtain⟨e,s,h⟩:=Ga h
  refine JLh (E2 e) (Gt O (Hc4.down p.l a p.x e s) R68 ⟨O,O,O,O,O,O,G⟩) O (JLm (E2 e) O (G5 (q (Gq (fin1 (fun r:(List Stowed)=>(E2 r:AV)) h)))))

def G50 (F:Nat) (p:Gw):Option Bool:=
 bnd (Yu F p) fun a=>
 bnd (G97 p.s p.boxes a p.x.Slot.G2) fun b=>
 some (!b)
theorem J0d (F:Nat) (p:Gw) (r:Bool) (h:G50 F p=some r):Pure Eo 62 [.agg (Gw.cs p)] (·=BL r):=by
 unfold G50 at h
 refine H0 [.tmp 2] Tryz.func62 O O (Jr fun d=>(JLh (.ptr 1110 0) (Jm (cs:=(Gw.cs p)) 1110 O O O O O) O (JLm (BL false) O (G5 (d (Gm [(1,Ek p)] [] 1110 rfl rfl rfl G rfl (by exact⟨.ptr,G⟩) (Js fun e=>?_)))))))
 obtain⟨c,f,h⟩:=Ga h
 obtain⟨a,g,h⟩:=Ga h
 refine JC_d0 J0 (by kernel_rfl) (Dq (Ek p) (G9 H6b O O O) O (Dq (.agg (Gk.cs p.s)) (Gj Hr O O O) O (Dq (.dptr ((Gw.cs p).drop 13)) (G9 Q5f O O O) O (Dq (E8 p.boxes) (Gh R26 O O O) O (Dq (.agg (Gw.cs p)) (Gj H0e O O O) O (Dq (E2 c) (Gt (args:=[.agg (Gw.cs p)]) O (Ge5 F p c f) Q69 ⟨O,O,G⟩) O (Dq (.dptr ((Gw.cs p).drop 16)) (G9 G53 O O O) O (Dq (.dptr ((Gw.cs p).drop 17)) (G9 Jo O O O) O (Dq (.dptr ((Gw.cs p).drop 17)) (G9 Jd O O O) O (Dq (I64 p.x.Slot.G2) (Gh Gc O O O) O (Dq (BL a) (Gt (args:=[.agg (Gk.cs p.s),E8 p.boxes,E2 c,I64 p.x.Slot.G2]) O (J65 p.s p.boxes c p.x.Slot.G2 a g) Q65 ⟨O,O,O,O,O,O,O,O,G⟩) O (Dq (BL (!a)) (Qx (b:=a) O O) O (Dq (BL (!a)) (G7 O O) O (Dnil ?_))))))))))))))
 refine e (Gq (fin1 BL h))

def G99 (F:Nat) (s:Gk) (boxes:List Box) (l:List Stowed) (open_:List Int) (x:Stowed):Option ((List Stowed)×Int):=
 bnd (Zk s boxes l open_) fun r=>
 bif (!r) then
 (some ([],2))
 else
 (bnd (G40 boxes x.Box) fun c=>
  bif ((!c.2)||((decide (c.1.Size≠20))&&(decide (c.1.Size≠40)))) then
  (some ([],6))
  else
  (bnd (G3e l x.Box) fun e=>
   bif decide (0≤e) then
   (some ([],96))
   else
   (bnd (G41 s x.Slot c.1.Size) fun f=>
    bif (!f) then
    (some ([],97))
    else
    (need (decide (4≤9223372036854775807)) <|
     upto (fun a (g:Unit) d=>
      jp (fun b=>
       bif decide ((a:Int)=0) then
       (bnd (G19 (Gw.mk s boxes l open_ x)) fun h=>
        bif h then
        (chk (91+(a:Int)) fun i=>
         some ([],i))
        else
        (b ()))
       else
       (bif decide ((a:Int)=1) then
        (bnd (G2c (Gw.mk s boxes l open_ x)) fun j=>
         bif j then
         (chk (91+(a:Int)) fun k=>
          some ([],k))
         else
         (b ()))
        else
        (bif decide ((a:Int)=2) then
         (bnd (G3d (Gw.mk s boxes l open_ x)) fun m=>
          bif m then
          (chk (91+(a:Int)) fun n=>
           some ([],n))
          else
          (b ()))
         else
         (bif decide ((a:Int)=3) then
          (bnd (G50 F (Gw.mk s boxes l open_ x)) fun o=>
           bif o then
           (chk (91+(a:Int)) fun p=>
            some ([],p))
           else
           (b ()))
          else
          (none))))) fun(t:Unit)=>
      d ())
     (fun(g:Unit)=>
      bnd (Yu F (Gw.mk s boxes l open_ x)) fun q=>
      some (q,0)) (4:Int).toNat 0 ()))))
abbrev Kn (s:Gk) (boxes:List Box) (l:List Stowed) (open_:List Int) (x:Stowed):List AV:=[E3 s.Columns,E7 s.Covers,I64 s.Light.Kilos,I64 s.Light.X,I64 s.Light.Y,I64 s.Light.Z,E4 s.Rows,E5 s.Frames,E6 s.Tanks,I64 s.G4.Tolerance,I64 s.G4.Trim,I64 s.G4.List_,I64 s.G4.Stability,E8 boxes,E2 l,E1 open_,I64 x.Box,I64 x.Slot.G2,I64 x.Slot.Tier,U8 x.Slot.Half]
abbrev Ko (s:Gk) (boxes:List Box) (l:List Stowed) (open_:List Int) (x:Stowed):List AV:=[.agg (Kn s boxes l open_ x)]
theorem R45 (F:Nat) (s:Gk) (boxes:List Box) (l:List Stowed) (open_:List Int) (x:Stowed) (r:(List Stowed)×Int) (h:G99 F s boxes l open_ x=some r):Pure Eo 24 [.agg (Gk.cs s),E8 boxes,E2 l,E1 open_,.agg (Stowed.cs x)] (·=.tup [E2 r.1,I64 r.2]):=by
 unfold G99 at h
 refine H0 [.tmp 10,.tmp 11] Tryz.func24 O O (Jr fun e2=>(JLh (.ptr 1048 0) (Jm (cs:=(Gk.cs s)) 1048 O O O O O) O (JLh (.ptr 1049 0) (Jm (cs:=[I64 x.Box,I64 x.Slot.G2,I64 x.Slot.Tier,U8 x.Slot.Half]) 1049 O O O O O) O (JLh (E2 ([]:List Stowed)) (Hm 4 O O) O (JLm (I64 0) O (G5 (e2 ?_)))))))
 refine fzQ [(1,E8 boxes),(2,E2 l),(3,E1 open_),(5,Ef s),(9,.ptr 1049 0)] [(1049,.box 55 [I64 x.Box,I64 x.Slot.G2,I64 x.Slot.Tier,U8 x.Slot.Half])] 1048 rfl rfl rfl ⟨⟨_,rfl,.boxEq rfl rfl⟩,G⟩ rfl (fzQ [(1,E8 boxes),(2,E2 l),(3,E1 open_),(5,Ef s),(9,Eg x)] [] 1049 rfl rfl rfl G rfl (Js fun e3=>Jr fun e4=>(JLh (.agg (Gk.cs s)) (Gj Hr O O O) O (JLm (E8 boxes) O (JLm (E2 l) O (JLm (E1 open_) O ?_))))))
 obtain⟨r4,e5,h⟩:=Ga h
 refine JLh (BL r4) (Gt O (Gb3 s boxes l open_ r4 e5) Hd8 ⟨O,O,O,O,O,O,O,O,G⟩) O (JLh (BL (!r4)) (Qx (b:=r4) O O) O (G5 (e4 (JCc O h (fun h hb=>?_) (fun h hb=>?_)))))
 ·
  refine Jr fun e6=>(JLh (E2 ([]:List Stowed)) (Hm 4 O O) O (JLm (I64 2) O (G5 (e6 (Gq (⟨[E2 ([]:List Stowed),I64 2],[],G,O,⟨⟨_,O,.conv (.same O)⟩,⟨_,O,.conv (.same O)⟩,G⟩,O,congrArg (fun r:(List Stowed)×Int=>(.tup [E2 r.1,I64 r.2]:AV)) (M5 h)⟩))))))
 ·
  refine Gr (e3 (Jr fun e7=>(JLm (E8 boxes) O (JLh (Eg x) (G9 Jn O O O) O (JLh (I64 x.Box) (Gh Gc O O O) O ?_)))))
  obtain⟨c,e8,h⟩:=Ga h
  refine JLh (.tup [.agg (Box.cs c.1),BL c.2]) (Gt O (Gc8 boxes x.Box c e8) H6d ⟨O,O,O,O,G⟩) O (JLm (.tup [.agg (Box.cs c.1),BL c.2]) O (JLh (.agg (Box.cs c.1)) (H1 O O O) O (JLh (BL c.2) (H1 O O O) O (JLh (.ptr 1050 0) (Hq 1050 9 Qt O O) O (Hp (u:=.junk) (Hc (u:=.agg (Box.cs c.1)) (ds:=(Box.cs c.1)) Rs O O O O O O O O) (JLm (BL c.2) O (G5 (e7 (fzQ [(1,E8 boxes),(2,E2 l),(3,E1 open_),(5,Ef s),(9,Eg x),(12,Eh c.1),(13,BL c.2)] [] 1050 rfl rfl rfl G rfl (Js fun e9=>Gx ?_))))))))))
  refine Jr fun f0=>(JLm (BL c.2) O (JLh (BL (!c.2)) (Qx (b:=c.2) O O) O (JLm (BL (!c.2)) O (JLo (.dptr ((Box.cs c.1).drop 2)) [] O .scf G (fun hc=>G9 Y0 O O O) O (JLo (U8 c.1.Size) [34] O .scf ⟨Ua,G⟩ (fun hc=>Gh Ho O O O) O (JLo (BL (decide (c.1.Size≠20))) [35] O .scf ⟨Ua,G⟩ (fun hc=>Gec O O O) O (JLo (BL (decide (c.1.Size≠20))) [36] O .scf ⟨Ua,G⟩ (fun hc=>G6 O O) O (JLo (.dptr ((Box.cs c.1).drop 2)) [] O .optt G (fun hc=>G9 Y0 O O O) O (JLo (U8 c.1.Size) [38] O .optt ⟨Ua,G⟩ (fun hc=>Gh Ho O O O) O (JLo (BL (decide (c.1.Size≠40))) [39] O .optt ⟨Ua,G⟩ (fun hc=>Gec O O O) O (Gf (u:=BL ((decide (c.1.Size≠20))&&(decide (c.1.Size≠40)))) [(37,BL (decide (c.1.Size≠20))),(40,_)] O O O .scf ⟨.all id,.part,G⟩ (fun hc=>Ro O O O O) ?_)))))))))))
  refine JLh (BL ((!c.2)||((decide (c.1.Size≠20))&&(decide (c.1.Size≠40))))) (G2f O O O O) O (JLm (BL ((!c.2)||((decide (c.1.Size≠20))&&(decide (c.1.Size≠40))))) O (G5 (f0 (JCc O h (fun h hb=>?_) (fun h hb=>?_)))))
  ·
   refine Jr fun a7=>(JLh (E2 ([]:List Stowed)) (Hm 4 O O) O (JLm (I64 6) O (G5 (a7 (Gq (⟨[E2 ([]:List Stowed),I64 6],[],G,O,⟨⟨_,O,.conv (.same O)⟩,⟨_,O,.conv (.same O)⟩,G⟩,O,congrArg (fun r:(List Stowed)×Int=>(.tup [E2 r.1,I64 r.2]:AV)) (M5 h)⟩))))))
  ·
   refine Jr fun a8=>(JLm (E2 l) O (JLh (Eg x) (G9 Jn O O O) O (JLh (I64 x.Box) (Gh Gc O O O) O ?_)))
   obtain⟨m,a9,h⟩:=Ga h
   refine JLh (I64 m) (Gt O (H24 l x.Box m a9) Hd9 ⟨O,O,O,O,G⟩) O (JLh (BL (decide (0≤m))) (H01 O O O) O (JLm (BL (decide (0≤m))) O (G5 (a8 (JCc O h (fun h hb=>?_) (fun h hb=>?_))))))
   ·
    refine Jr fun b0=>(JLh (E2 ([]:List Stowed)) (Hm 4 O O) O (JLm (I64 96) O (G5 (b0 (Gq (⟨[E2 ([]:List Stowed),I64 96],[],G,O,⟨⟨_,O,.conv (.same O)⟩,⟨_,O,.conv (.same O)⟩,G⟩,O,congrArg (fun r:(List Stowed)×Int=>(.tup [E2 r.1,I64 r.2]:AV)) (M5 h)⟩))))))
   ·
    refine Jr fun b1=>(JLh (.agg (Gk.cs s)) (Gj Hr O O O) O (JLh (.dptr ((Stowed.cs x).drop 1)) (G9 Jo O O O) O (JLh (.agg ((Stowed.cs x).drop 1)) (Gj Hu O O O) O (JLh (.dptr ((Box.cs c.1).drop 2)) (G9 Y0 O O O) O (JLh (U8 c.1.Size) (Gh Ho O O O) O ?_)))))
    obtain⟨k,b2,h⟩:=Ga h
    refine JLh (BL k) (Gt O (H86 s x.Slot c.1.Size k b2) J71 ⟨O,O,O,O,O,O,G⟩) O (JLh (BL (!k)) (Qx (b:=k) O O) O (JLm (BL (!k)) O (G5 (b1 (JCc O h (fun h hb=>?_) (fun h hb=>?_))))))
    ·
     refine Jr fun b3=>(JLh (E2 ([]:List Stowed)) (Hm 4 O O) O (JLm (I64 97) O (G5 (b3 (Gq (⟨[E2 ([]:List Stowed),I64 97],[],G,O,⟨⟨_,O,.conv (.same O)⟩,⟨_,O,.conv (.same O)⟩,G⟩,O,congrArg (fun r:(List Stowed)×Int=>(.tup [E2 r.1,I64 r.2]:AV)) (M5 h)⟩))))))
    ·
     refine Gr (e9 ?_)
     refine Jr fun b4=>(JLh (.agg (Gk.cs s)) (Gj Hr O O O) O (JLm (E8 boxes) O (JLm (E2 l) O (JLm (E1 open_) O (JLh (.agg (Stowed.cs x)) (Gj R3 O O O) O (JLh (.agg (Kn s boxes l open_ x)) (Hb (cs:=(Kn s boxes l open_ x)) [(0,13),(13,1),(14,1),(15,1),(16,4)] [E3 ([]:List G2),E7 ([]:List G8),I64 0,I64 0,I64 0,I64 0,E4 ([]:List Row),E5 ([]:List Frame),E6 ([]:List Gp),I64 0,I64 0,I64 0,I64 0,E8 ([]:List Box),E2 ([]:List Stowed),E1 ([]:List Int),I64 0,I64 0,I64 0,U8 0] [.slice none 0 0,.slice none 0 0,E0,E0,E0,E0,.slice none 0 0,.slice none 0 0,.slice none 0 0,E0,E0,E0,E0,.slice none 0 0,.slice none 0 0,.slice none 0 0,E0,E0,E0,.int .u8 0] Qd3 R54 ⟨.inr ⟨_,O,O⟩,.inr ⟨_,O,O⟩,.inl O,.inl O,.inl O,.inl O,.inr ⟨_,O,O⟩,.inr ⟨_,O,O⟩,.inr ⟨_,O,O⟩,.inl O,.inl O,.inl O,.inl O,.inr ⟨_,O,O⟩,.inr ⟨_,O,O⟩,.inr ⟨_,O,O⟩,.inl O,.inl O,.inl O,.inl O,G⟩ O O) O (JLh (.ptr 1051 0) (Hq 1051 20 R25 O O) O (Hp (u:=.junk) (Hc (u:=.agg (Kn s boxes l open_ x)) (ds:=(Kn s boxes l open_ x)) R57 O O O O O O O O) (G5 (b4 ?_))))))))))
     refine Gm [(14,.dptr (Kn s boxes l open_ x))] [] 1051 rfl rfl rfl G rfl (by exact⟨.ptr,G⟩) (Js fun b5=>?_)
     refine Jr fun b6=>(JLh (.agg (Kn s boxes l open_ x)) (Gj H0e O O O) O (JLh (.bfn 59 (Ko s boxes l open_ x)) (Ha7 (cs:=(Ko s boxes l open_ x)) O O) O (JLh (.agg (Kn s boxes l open_ x)) (Gj H0e O O O) O (JLh (.bfn 60 (Ko s boxes l open_ x)) (Ha7 (cs:=(Ko s boxes l open_ x)) O O) O (JLh (.agg (Kn s boxes l open_ x)) (Gj H0e O O O) O (JLh (.bfn 61 (Ko s boxes l open_ x)) (Ha7 (cs:=(Ko s boxes l open_ x)) O O) O (JLh (.agg (Kn s boxes l open_ x)) (Gj H0e O O O) O (JLh (.bfn 62 (Ko s boxes l open_ x)) (Ha7 (cs:=(Ko s boxes l open_ x)) O O) O (JLh (.agg [.bfn 59 (Ko s boxes l open_ x),.bfn 60 (Ko s boxes l open_ x),.bfn 61 (Ko s boxes l open_ x),.bfn 62 (Ko s boxes l open_ x)]) (J91 (cs:=[.bfn 59 (Ko s boxes l open_ x),.bfn 60 (Ko s boxes l open_ x),.bfn 61 (Ko s boxes l open_ x),.bfn 62 (Ko s boxes l open_ x)]) [.nilFunc,.nilFunc,.nilFunc,.nilFunc] Re3 R53 O O) O (JLm (I64 0) O (G5 (b6 ?_))))))))))))
     refine Gx ?_
     obtain⟨b7,h⟩:=J8 h
     obtain⟨f1,b8,b9,a1,h⟩:=R21 h
     refine Jc (fun a (n:Unit)=>upto f1 b8 ((4:Int).toNat - a) a n=some r) (fun a n=>[(14,.dptr (Kn s boxes l open_ x)),(71,.agg [.bfn 59 (Ko s boxes l open_ x),.bfn 60 (Ko s boxes l open_ x),.bfn 61 (Ko s boxes l open_ x),.bfn 62 (Ko s boxes l open_ x)]),(72,En a)]) (fun a n=>[]) (fun a=>(4:Int).toNat - a) 0 () h ⟨(.sm O O),G,O⟩ ?_
     clear h
     intro a n q f4 f2
     refine Jr fun c0=>(JLh (BL (decide ((a:Int) < 4))) (Qg O O O) O (G5 (c0 (Js fun c1=>Gn O (fun hb=>?_) (fun hb=>?_)))))
     ·
      have t:=Q91 hb
      obtain⟨f3,c2,h⟩:=Q4c q t
      replace h:=Qa7 b9 h
      refine Gr (c1 ?_)
      obtain⟨c3,a2,h⟩:=Yy h
      refine Ri (fun o:Unit=>c3 o=some r) (fun o=>[(14,.dptr (Kn s boxes l open_ x)),(71,.agg [.bfn 59 (Ko s boxes l open_ x),.bfn 60 (Ko s boxes l open_ x),.bfn 61 (Ko s boxes l open_ x),.bfn 62 (Ko s boxes l open_ x)]),(72,En a)]) (fun o=>[]) (fun Kj63 ej63=>?_) ?_
      ·
       refine Gx (Jr fun i=>(JLm (En a) O ((Decidable.em ((a:Int)=0)).elim (fun d=>?_) (fun d=>?_))))
       ·
        replace h:=H3 (M1 d) h
        refine JLh (.bfn 59 (Ko s boxes l open_ x)) (J51 (j:=0) Hdf O O O d O O) O (JLm (En a) O (JLm (.bfn 59 (Ko s boxes l open_ x)) O (G5 (i ?_))))
        refine Jr fun c4=>(JLm (.bfn 59 (Ko s boxes l open_ x)) O ?_)
        obtain⟨a3,c5,h⟩:=Ga h
        refine JLh (BL a3) (J52 (args:=[]) (firsts:=(Ko s boxes l open_ x)) O O (J0c (Gw.mk s boxes l open_ x) a3 c5) Rd1 G O) O (G5 (c4 (JCc O h (fun h hb=>?_) (fun h hb=>?_))))
        ·
         refine Jr fun c6=>(JLm (En a) O ?_)
         obtain⟨v,c7,h⟩:=Je h
         refine JLh (I64 v) (Jg c7 O O O) O (JLh (E2 ([]:List Stowed)) (Hm 4 O O) O (JLm (I64 v) O (G5 (c6 (Gq (⟨[E2 ([]:List Stowed),I64 v],[],G,O,⟨⟨_,O,.conv (.same O)⟩,⟨_,O,.conv (.same O)⟩,G⟩,O,congrArg (fun r:(List Stowed)×Int=>(.tup [E2 r.1,I64 r.2]:AV)) (M5 h)⟩))))))
        ·
         refine Gr (ej63 _ _ () h ⟨(.sm O O),G,O⟩)
       ·
        replace h:=Hk (M2 d) h
        refine(Decidable.em ((a:Int)=1)).elim (fun e=>?_) (fun e=>?_)
        ·
         replace h:=H3 (M1 e) h
         refine JLh (.bfn 60 (Ko s boxes l open_ x)) (J51 (j:=1) Hdf O O O e O O) O (JLm (En a) O (JLm (.bfn 60 (Ko s boxes l open_ x)) O (G5 (i ?_))))
         refine Jr fun c8=>(JLm (.bfn 60 (Ko s boxes l open_ x)) O ?_)
         obtain⟨a4,c9,h⟩:=Ga h
         refine JLh (BL a4) (J52 (args:=[]) (firsts:=(Ko s boxes l open_ x)) O O (J32 (Gw.mk s boxes l open_ x) a4 c9) Rd0 G O) O (G5 (c8 (JCc O h (fun h hb=>?_) (fun h hb=>?_))))
         ·
          refine Jr fun d0=>(JLm (En a) O ?_)
          obtain⟨w,d1,h⟩:=Je h
          refine JLh (I64 w) (Jg d1 O O O) O (JLh (E2 ([]:List Stowed)) (Hm 4 O O) O (JLm (I64 w) O (G5 (d0 (Gq (⟨[E2 ([]:List Stowed),I64 w],[],G,O,⟨⟨_,O,.conv (.same O)⟩,⟨_,O,.conv (.same O)⟩,G⟩,O,congrArg (fun r:(List Stowed)×Int=>(.tup [E2 r.1,I64 r.2]:AV)) (M5 h)⟩))))))
         ·
          refine Gr (ej63 _ _ () h ⟨(.sm O O),G,O⟩)
        ·
         replace h:=Hk (M2 e) h
         refine(Decidable.em ((a:Int)=2)).elim (fun f=>?_) (fun f=>?_)
         ·
          replace h:=H3 (M1 f) h
          refine JLh (.bfn 61 (Ko s boxes l open_ x)) (J51 (j:=2) Hdf O O O f O O) O (JLm (En a) O (JLm (.bfn 61 (Ko s boxes l open_ x)) O (G5 (i ?_))))
          refine Jr fun d2=>(JLm (.bfn 61 (Ko s boxes l open_ x)) O ?_)
          obtain⟨a5,d3,h⟩:=Ga h
          refine JLh (BL a5) (J52 (args:=[]) (firsts:=(Ko s boxes l open_ x)) O O (Hf6 (Gw.mk s boxes l open_ x) a5 d3) Rcf G O) O (G5 (d2 (JCc O h (fun h hb=>?_) (fun h hb=>?_))))
          ·
           refine Jr fun d4=>(JLm (En a) O ?_)
           obtain⟨y,d5,h⟩:=Je h
           refine JLh (I64 y) (Jg d5 O O O) O (JLh (E2 ([]:List Stowed)) (Hm 4 O O) O (JLm (I64 y) O (G5 (d4 (Gq (⟨[E2 ([]:List Stowed),I64 y],[],G,O,⟨⟨_,O,.conv (.same O)⟩,⟨_,O,.conv (.same O)⟩,G⟩,O,congrArg (fun r:(List Stowed)×Int=>(.tup [E2 r.1,I64 r.2]:AV)) (M5 h)⟩))))))
          ·
           refine Gr (ej63 _ _ () h ⟨(.sm O O),G,O⟩)
         ·
          replace h:=Hk (M2 f) h
          refine(Decidable.em ((a:Int)=3)).elim (fun g=>?_) (fun g=>?_)
          ·
           replace h:=H3 (M1 g) h
           refine JLh (.bfn 62 (Ko s boxes l open_ x)) (J51 (j:=3) Hdf O O O g O O) O (JLm (En a) O (JLm (.bfn 62 (Ko s boxes l open_ x)) O (G5 (i ?_))))
           refine Jr fun d6=>(JLm (.bfn 62 (Ko s boxes l open_ x)) O ?_)
           obtain⟨a6,d7,h⟩:=Ga h
           refine JLh (BL a6) (J52 (args:=[]) (firsts:=(Ko s boxes l open_ x)) O O (J0d F (Gw.mk s boxes l open_ x) a6 d7) Rce G O) O (G5 (d6 (JCc O h (fun h hb=>?_) (fun h hb=>?_))))
           ·
            refine Jr fun d8=>(JLm (En a) O ?_)
            obtain⟨z,d9,h⟩:=Je h
            refine JLh (I64 z) (Jg d9 O O O) O (JLh (E2 ([]:List Stowed)) (Hm 4 O O) O (JLm (I64 z) O (G5 (d8 (Gq (⟨[E2 ([]:List Stowed),I64 z],[],G,O,⟨⟨_,O,.conv (.same O)⟩,⟨_,O,.conv (.same O)⟩,G⟩,O,congrArg (fun r:(List Stowed)×Int=>(.tup [E2 r.1,I64 r.2]:AV)) (M5 h)⟩))))))
           ·
            refine Gr (ej63 _ _ () h ⟨(.sm O O),G,O⟩)
          ·
           replace h:=Hk (M2 g) h
           cases h
      ·intro o h
       replace h:=app1 a2 h
       refine G1 (JLh (I64 ((a+1:Nat):Int)) (Jg (J7 t (Jcf b7)) O O O) O (JLm (I64 ((a+1:Nat):Int)) O (G5 (f2 _ _ (a+1) () (app1 c2 h) (by omega) ⟨(.sm O O),G,rfl⟩))))
     ·
      have h:=app1 a1 (Q4d q (He8 hb))
      refine Jf (b5 (Jr fun e0=>(JLh (.agg (Kn s boxes l open_ x)) (Gj H0e O O O) O ?_)))
      obtain⟨p,e1,h⟩:=Ga h
      refine JLh (E2 p) (Gt O (Ge5 F (Gw.mk s boxes l open_ x) p e1) Q69 ⟨O,O,G⟩) O (JLm (E2 p) O (JLm (I64 0) O (G5 (e0 (Gq (⟨[E2 p,I64 0],[],G,O,⟨⟨_,O,.conv (.same O)⟩,⟨_,O,.conv (.same O)⟩,G⟩,O,congrArg (fun r:(List Stowed)×Int=>(.tup [E2 r.1,I64 r.2]:AV)) (M5 h)⟩))))))

def Ga4 (c:G2) (a:Bool) (b:Gk) (d:Int):Option Bool:=
 bnd (bif (c.Deck==a) then Z3 b.Covers d some else some default) fun e=>
 bnd (bif (c.Deck==a) then G80 e c else some default) fun f=>
 some ((c.Deck==a)&&f)
theorem Jf3 (c:G2) (a:Bool) (d:Gk) (e:Int) (r:Bool) (h:Ga4 c a d e=some r):Pure Eo 172 [.agg (G2.cs c),.dptr [BL a],Ef d,.dptr [I64 e]] (·=BL r):=by
 unfold Ga4 at h
 refine H0 [.tmp 5] Tryz.func172 O O (Jr fun i=>(JLh (.ptr 1195 0) (Jm (cs:=(G2.cs c)) 1195 O O O O O) O (JLm (BL false) O (G5 (i (fzQ [(1,.dptr [BL a]),(2,Ef d),(3,.dptr [I64 e]),(4,Ei c)] [] 1195 rfl rfl rfl G rfl (Js fun j=>?_)))))))
 obtain⟨b,k,h⟩:=Ga h
 obtain⟨g,l,h⟩:=Ga h
 refine JC_d0 J0 (by kernel_rfl) (Dq (.dptr ((G2.cs c).drop 2)) (G9 Yw O O O) O (Dq (BL c.Deck) (Gh Q1 O O O) O (Dq (BL a) (Gh Q1 O O O) O (Dq (BL (c.Deck==a)) (Jcd H63 O O O) O (Dq (BL (c.Deck==a)) (G6 O O) O (Do (.dptr ((Gk.cs d).drop 1)) [] O .sct G (fun hc=>G9 Jp O O O) O (Do (E7 d.Covers) [11] O .sct ⟨Ua,G⟩ (fun hc=>Gh Qa O O O) O (Do (I64 e) [] O .sct G (fun hc=>Gh Gc O O O) O (Do (.dptr [I64 b.Bay,E1 b.Rows]) [12,13] O .sct ⟨Ua,Ua,G⟩ (fun hc=>(match Zn (H3 hc k) with | ⟨_,hm_,hy_⟩=>Hg (f:=G8.av) (xs:=d.Covers) (y:=b) O O O Jj hy_ hm_)) O (Do (.agg [I64 b.Bay,E1 b.Rows]) [14] O .sct ⟨Ua,G⟩ (fun hc=>Gj H6f O O O) O (Do (.agg (G2.cs c)) [] O .sct G (fun hc=>Gj G7c O O O) O (Do (BL g) [15,16] O .sct ⟨Ua,Ua,G⟩ (fun hc=>Gt (args:=[.agg [I64 b.Bay,E1 b.Rows],.agg (G2.cs c)]) O (J06 b c g (H3 hc l)) Q09 ⟨O,O,O,O,G⟩) O (Dq (BL ((c.Deck==a)&&g)) (Ro O O O O) O ?_)))))))))))))
 refine Dq (BL ((c.Deck==a)&&g)) (G7 O O) O (Dnil (j (Gq (fin1 BL h))))

def H5e (s:Gk) (cover:Int) (deck:Bool):Option (List Int):=
 bif ((decide (cover < 0))||(decide ((s.Covers.length:Int)≤cover))) then
 (some [])
 else
 (bnd (Rb s.Columns (fun z0=>Ga4 z0 deck s cover)) fun a=>
  some a)
theorem Qbe (s:Gk) (cover:Int) (deck:Bool) (r:(List Int)) (h:H5e s cover deck=some r):Pure Eo 150 [.agg (Gk.cs s),I64 cover,BL deck] (·=E1 r):=by
 unfold H5e at h
 refine H0 [.tmp 6] Tryz.func150 O O (Jr fun b=>(JLh (.ptr 1188 0) (Jm (cs:=(Gk.cs s)) 1188 O O O O O) O (JLh (.ptr 1189 0) (Jm (cs:=[I64 cover]) 1189 O O O O O) O (JLh (.ptr 1190 0) (Jm (cs:=[BL deck]) 1190 O O O O O) O (JLh (E1 ([]:List Int)) (Hm 1 O O) O (G5 (b ?_)))))))
 refine Gm [(3,Ef s),(4,.ptr 1189 0),(5,.ptr 1190 0)] [(1189,.box 3 [I64 cover]),(1190,.box 4 [BL deck])] 1188 rfl rfl rfl ⟨⟨_,rfl,.boxEq rfl rfl⟩,⟨_,rfl,.boxEq rfl rfl⟩,G⟩ rfl (by exact⟨.ptr,.conv (.same rfl),.conv (.same rfl),G⟩) (Gm [(3,Ef s),(4,.dptr [I64 cover]),(5,.ptr 1190 0)] [(1190,.box 4 [BL deck])] 1189 rfl rfl rfl ⟨⟨_,rfl,.boxEq rfl rfl⟩,G⟩ rfl (by exact⟨.conv (.same rfl),.ptr,.conv (.same rfl),G⟩) (Gm [(3,Ef s),(4,.dptr [I64 cover]),(5,.dptr [BL deck])] [] 1190 rfl rfl rfl G rfl (by exact⟨.conv (.same rfl),.conv (.same rfl),.ptr,G⟩) (Js fun c=>?_)))
 refine Jr fun d=>(JLh (I64 cover) (Gh Gc O O O) O (JLh (BL (decide (cover < 0))) (Qg O O O) O (JLm (BL (decide (cover < 0))) O (JLo (I64 cover) [] O .scf G (fun hc=>Gh Gc O O O) O (JLo (.dptr ((Gk.cs s).drop 1)) [] O .scf G (fun hc=>G9 Jp O O O) O (JLo (E7 s.Covers) [11] O .scf ⟨Ua,G⟩ (fun hc=>Gh Qa O O O) O (JLo (En s.Covers.length) [12] O .scf ⟨Ua,G⟩ (fun hc=>G20 (f:=G8.av) (xs:=s.Covers) Jj O O) O (JLo (BL (decide ((s.Covers.length:Int)≤cover))) [10,13] O .scf ⟨Ua,Ua,G⟩ (fun hc=>H01 O O O) O (JLh (BL ((decide (cover < 0))||(decide ((s.Covers.length:Int)≤cover)))) (G2f O O O O) O (G5 (d (JCc O h (fun h hb=>?_) (fun h hb=>?_)))))))))))))
 ·
  refine Jr fun e=>(JLh (E1 ([]:List Int)) (Hm 1 O O) O (G5 (e (Gq (fin1 (fun r:(List Int)=>(E1 r:AV)) h)))))
 ·
  refine Gr (c (Jr fun g=>(JLh (Ef s) (G9 Hv O O O) O (JLh (E3 s.Columns) (Gh J9 O O O) O (JLh (.fn 172 [.dptr [BL deck],Ef s,.dptr [I64 cover]]) (Jz (cs:=[.dptr [BL deck],Ef s,.dptr [I64 cover]]) O O) O ?_)))))
  obtain⟨a,i,h⟩:=Ga h
  refine JLh (E1 a) (Gt O (Gbb s.Columns (fun z0=>Ga4 z0 deck s cover) 172 [.dptr [BL deck],Ef s,.dptr [I64 cover]] R58 O (fun z0 q hq=>Jf3 z0 deck s cover q hq) a i) Q06 ⟨O,O,O,O,G⟩) O (JLm (E1 a) O (G5 (g (Gq (fin1 (fun r:(List Int)=>(E1 r:AV)) h)))))

def H3c (s:Gk) (cover:Int):Option (List Int):=
 bnd (H5e s cover true) fun a=>
 some a
theorem Qe5 (s:Gk) (cover:Int) (r:(List Int)) (h:H3c s cover=some r):Pure Eo 117 [.agg (Gk.cs s),I64 cover] (·=E1 r):=by
 unfold H3c at h
 refine H0 [.tmp 4] Tryz.func117 O O (Jr fun b=>(JLh (.ptr 1168 0) (Jm (cs:=(Gk.cs s)) 1168 O O O O O) O (JLh (E1 ([]:List Int)) (Hm 1 O O) O (G5 (b (Gm [(1,I64 cover),(2,Ef s)] [] 1168 rfl rfl rfl G rfl (by exact⟨.conv (.same rfl),.ptr,G⟩) (Jr fun c=>(JLh (.agg (Gk.cs s)) (Gj Hr O O O) O (JLm (I64 cover) O ?_)))))))))
 obtain⟨a,d,h⟩:=Ga h
 refine JLh (E1 a) (Gt O (Qbe s cover true a d) R5c ⟨O,O,O,O,O,O,G⟩) O (JLm (E1 a) O (G5 (c (Gq (fin1 (fun r:(List Int)=>(E1 r:AV)) h)))))

def H34 (s:Gk) (l:List Stowed) (cover:Int):Option (List Int):=
 bnd (H3c s cover) fun g=>
 each (fun b h (a:(List Int)) d=>
  jp (fun c=>
   bnd (J3 g b.Slot.G2) fun e=>
   bif e then
   (need (decide ((a.length+[b.Box].length)*8≤140737488355328∧a.length+[b.Box].length≤maxLen)) <|
    c (a++[b.Box]))
   else
   (c a)) fun(f:(List Int))=>
  d f)
 (fun(a:(List Int))=>
  some a) l 0 []
theorem Qdf (s:Gk) (l:List Stowed) (cover:Int) (r:(List Int)) (h:H34 s l cover=some r):Pure Eo 64 [.agg (Gk.cs s),E2 l,I64 cover] (·=E1 r):=by
 unfold H34 at h
 refine H0 [.tmp 6] Tryz.func64 O O (Jr fun a4=>(JLh (.ptr 1112 0) (Jm (cs:=(Gk.cs s)) 1112 O O O O O) O (JLh (E1 ([]:List Int)) (Hm 1 O O) O (G5 (a4 (Gm [(1,E2 l),(2,I64 cover),(3,Ef s)] [] 1112 rfl rfl rfl G rfl (by exact⟨.conv (.same rfl),.conv (.same rfl),.ptr,G⟩) (Jr fun a5=>(JLh (.agg (Gk.cs s)) (Gj Hr O O O) O (JLm (I64 cover) O ?_)))))))))
 obtain⟨e,a6,h⟩:=Ga h
 refine JLh (E1 e) (Gt O (Qe5 s cover e a6) R67 ⟨O,O,O,O,G⟩) O (JLm (E1 e) O (G5 (a5 (Jr fun a7=>(JLh (OW 1113 1 I64 ([]:List Int)) (G5e 1113 3 1 O O O) O (G5 (a7 (Js fun a8=>Jr fun a9=>(JLm (E2 l) O (JLl H4 O O O fun n=>(JLm (I64 0) O (G5 (a9 (Gx ?_))))))))))))))
 obtain⟨b0,o,p,j,h⟩:=Jy h
 refine Jc (fun c (b:(List Int))=>each b0 o (List.drop c l) c b=some r) (fun c b=>[(7,E1 e),(8,OW 1113 1 I64 b),(14,E2 l),(15,En l.length),(16,En c)]) (fun c b=>[(1113,.spare 3 1 b.length b.length)]) (fun c=>l.length - c) 0 [] h ⟨(.sm O O),⟨⟨_,rfl,.same⟩,G⟩,rfl⟩ ?_
 clear h
 intro c b g b3 b1
 refine Jr fun q=>(JLh (BL (decide ((c:Int) < (l.length:Int)))) (Qg O O O) O (G5 (q (Js fun t=>Gn O (fun hb=>?_) (fun hb=>?_)))))
 ·
  have i:=Qr hb
  obtain⟨a,b2,v,w,h⟩:=Ja g i
  replace h:=G1d p h
  refine Gr (t ?_)
  obtain⟨x,k,h⟩:=Yy h
  refine Ri (fun d:(List Int)=>x d=some r) (fun d=>[(7,E1 e),(8,OW 1113 1 I64 d),(14,E2 l),(15,En l.length),(16,En c)]) (fun d=>[(1113,.spare 3 1 d.length d.length)]) (fun Kj26 ej26=>?_) ?_
  ·
   refine Gx (Jr fun z=>(JLh (Eg a) (Hg (f:=Stowed.av) (xs:=l) (y:=a) O O O H4 v O) O (JLh (.agg (Stowed.cs a)) (Gj R3 O O O) O (JLh (.ptr 1114 0) (Hq 1114 4 Jx O O) O (Hp (u:=.junk) (Hc (u:=.agg (Stowed.cs a)) (ds:=[I64 a.Box,I64 a.Slot.G2,I64 a.Slot.Tier,U8 a.Slot.Half]) G11 O O O O O O O O) (G5 (z (fzQ [(7,E1 e),(8,OW 1113 1 I64 b),(10,Eg a),(14,E2 l),(15,En l.length),(16,En c)] [(1113,.spare 3 1 b.length b.length)] 1114 rfl rfl rfl ⟨⟨_,rfl,.same⟩,G⟩ rfl ?_))))))))
   refine Jr fun a0=>(JLm (E1 e) O (JLh (.dptr ((Stowed.cs a).drop 1)) (G9 Jo O O O) O (JLh (.dptr ((Stowed.cs a).drop 1)) (G9 Jd O O O) O (JLh (I64 a.Slot.G2) (Gh Gc O O O) O ?_))))
   obtain⟨m,a1,h⟩:=Ga h
   refine JLh (BL m) (Gt O (Qv e a.Slot.G2 m a1) G8d ⟨O,O,O,O,G⟩) O (G5 (a0 (JCc O h (fun h hb=>?_) (fun h hb=>?_))))
   ·
    refine G1 (JLm (OW 1113 1 I64 b) O (JLh (Eg a) (G9 Jn O O O) O (JLh (I64 a.Box) (Gh Gc O O O) O (JLh (E1 [a.Box]) (H9 (xs:=[I64 a.Box]) O ⟨O,O,G⟩ Gz R6 O O O O) O ?_))))
    obtain⟨a2,h⟩:=J8 h
    refine JLh (OW 1113 1 I64 (b++[a.Box])) (Qk (f:=I64) (xs:=b) (ys:=[a.Box]) O O O O Gz Zx a2 (fun _=>O) (.inl O) O) O (JLm (OW 1113 1 I64 (b++[a.Box])) O (G5 (ej26 _ _ (b++[a.Box]) h ⟨(.sm O O),⟨⟨_,rfl,.same⟩,G⟩,rfl⟩)))
   ·
    refine Gr (ej26 _ _ b h ⟨(.sm O O),⟨⟨_,rfl,.same⟩,G⟩,rfl⟩)
  ·intro d h
   replace h:=app1 k h
   refine G1 (JLh (I64 ((c+1:Nat):Int)) (Jg (J7 i n) O O O) O (JLm (I64 ((c+1:Nat):Int)) O (G5 (b1 _ _ (c+1) d (app1 w h) (by omega) ⟨(.sm O O),⟨⟨_,rfl,.same⟩,G⟩,rfl⟩))))
 ·
  have h:=app1 j (Jb g (Hs hb))
  refine Jf (a8 (Jr fun a3=>(JLm (OW 1113 1 I64 b) O (JLm (OW 1113 1 I64 b) O (G5 (a3 (Gq (fin1l (fun r:(List Int)=>(E1 r:AV)) h))))))))

def Ga6 (x:Int) (y:Int):Option Bool:=
 bnd (Zp x) fun a=>
 bnd (bif a then Zp y else some default) fun b=>
 some ((a&&(!b))||(decide (x < y)))
theorem Jf4 (x:Int) (y:Int) (r:Bool) (h:Ga6 x y=some r):Pure Eo 118 [I64 x,I64 y] (·=BL r):=by
 unfold Ga6 at h
 refine H0 [.tmp 4] Tryz.func118 O O (Jr fun d=>(JLm (BL false) O (G5 (d (Jr fun e=>(JLm (I64 x) O ?_))))))
 obtain⟨c,f,h⟩:=Ga h
 refine JLh (BL c) (Gt O (G85 x c f) Hd7 ⟨O,O,G⟩) O (JLm (BL c) O (JLo (I64 y) [] O .sct G (fun hc=>G6 O O) O ?_))
 obtain⟨a,g,h⟩:=Ga h
 refine JLo (BL a) [8] O .sct ⟨Ua,G⟩ (fun hc=>Gt (args:=[I64 y]) O (G85 y a (H3 hc g)) Hd7 ⟨O,O,G⟩) O (JLo (BL (!a)) [9] O .sct ⟨Ua,G⟩ (fun hc=>Qx (b:=a) O O) O (JLh (BL (c&&(!a))) (Ro O O O O) O (JLm (BL (c&&(!a))) O (JLo (I64 x) [] O .scf G (fun hc=>G6 O O) O (JLo (I64 y) [] O .scf G (fun hc=>G6 O O) O (JLo (BL (decide (x < y))) [13,14] O .scf ⟨Ua,Ua,G⟩ (fun hc=>Qg O O O) O (JLh (BL ((c&&(!a))||(decide (x < y)))) (G2f O O O O) O (JLm (BL ((c&&(!a))||(decide (x < y)))) O (G5 (e (Gq (fin1 BL h))))))))))))

def G2d (x:Int):Option Bool:=
 some (decide (x≠x))
theorem H36 (x:Int) (r:Bool) (h:G2d x=some r):Pure Eo 119 [I64 x] (·=BL r):=by
 unfold G2d at h
 refine H0 [.tmp 2] Tryz.func119 O O (Jr fun a=>(JLm (BL false) O (G5 (a (Jr fun b=>(JLm (I64 x) O (JLm (I64 x) O (JLh (BL (decide (x≠x))) (Gec O O O) O (JLm (BL (decide (x≠x))) O (G5 (b (Gq (fin1 BL h)))))))))))))

def Rq (F:Nat) (x:List Int) (target:Int):Option (Int×Bool):=
 loop (fun c (a:Int×Int)=>
  bif decide (a.1 < a.2) then
  (chk (a.1+a.2) fun f=>
   chk (Jd9 .u64 (IntKind.u64.wrap f) 1) fun d=>
   Z3 x d fun g=>
   bnd (Ga6 g target) fun h=>
   bif h then
   (chk (d+1) fun i=>
    c (i,a.2))
   else
   (c (a.1,d)))
  else
  (bnd (bif decide (a.1 < (x.length:Int)) then Z3 x a.1 some else some default) fun b=>
   bnd (bif ((decide (a.1 < (x.length:Int)))&&!(decide (b=target))) then Z3 x a.1 some else some default) fun j=>
   bnd (bif ((decide (a.1 < (x.length:Int)))&&!(decide (b=target))) then G2d j else some default) fun e=>
   bnd (bif (((decide (a.1 < (x.length:Int)))&&!(decide (b=target)))&&e) then G2d target else some default) fun k=>
   some (a.1,((decide (a.1 < (x.length:Int)))&&((decide (b=target))||(e&&k)))))) F (0,(x.length:Int))
theorem G84 (F:Nat) (x:List Int) (target:Int) (r:Int×Bool) (h:Rq F x target=some r):Pure Eo 65 [E1 x,I64 target] (·=.tup [I64 r.1,BL r.2]):=by
 unfold Rq at h
 refine H0 [.tmp 4,.tmp 5] Tryz.func65 O O (Jr fun b2=>(JLm (I64 0) O (JLm (BL false) O (G5 (b2 (Jr fun b3=>(JLm (E1 x) O (JLl Gz O O O fun b7=>(JLm (En x.length) O (G5 (b3 (Jr fun b4=>(JLm (En x.length) O (JLm (I64 0) O (JLm (En x.length) O (G5 (b4 (Js fun b5=>Gx ?_))))))))))))))))))
 obtain⟨b6,q,h⟩:=R31 h
 refine Jc (fun g (a:Int×Int)=>loop b6 g a=some r) (fun g a=>[(0,E1 x),(1,I64 target),(6,En x.length),(7,I64 a.1),(8,I64 a.2)]) (fun g a=>[]) (fun g=>g) F (0,(x.length:Int)) h ⟨(.sm O O),G,rfl⟩ ?_
 clear h
 intro g a t b9 n
 obtain⟨o,b8,hm_16,k,h⟩:=Q92 t
 replace h:=Z27 q h
 refine Js fun v=>Jr fun w=>(JLm (I64 a.1) O (JLm (I64 a.2) O (JLh (BL (decide (a.1 < a.2))) (Qg O O O) O (G5 (w (JCc O h (fun h hb=>?_) (fun h hb=>?_)))))))
 ·
  refine Gr (v (Gx (Jr fun z=>(JLm (I64 a.1) O (JLm (I64 a.2) O ?_)))))
  obtain⟨l,a0,h⟩:=Je h
  refine JLh (I64 l) (Jg a0 O O O) O (JLh (.sc (.int .u64 (IntKind.u64.wrap l))) (G70 Q55 Zh O O O) O (JLh (.sc (.int .u64 (Jd9 .u64 (IntKind.u64.wrap l) 1))) (Y15 (s:=1) O O O O) O ?_))
  obtain⟨d,a1,h⟩:=Je h
  refine JLh (I64 d) (G70 Zh Q55 a1 O O) O (JLm (I64 d) O (G5 (z (Jr fun a2=>(JLm (E1 x) O (JLm (I64 d) O ?_))))))
  obtain⟨c0,j,a3,a4,h⟩:=Yc h
  refine JLh (.dptr [I64 j]) (Hg (f:=I64) (xs:=x) (y:=j) O O O Gz a4 a3) O (JLh (I64 j) (Gh Gc O O O) O (JLm (I64 target) O ?_))
  obtain⟨p,a5,h⟩:=Ga h
  refine JLh (BL p) (Gt O (Jf4 j target p a5) R66 ⟨O,O,O,O,G⟩) O (G5 (a2 (JCc O h (fun h hb=>?_) (fun h hb=>?_))))
  ·
   refine G1 (JLm (I64 d) O ?_)
   obtain⟨m,a6,h⟩:=Je h
   refine JLh (I64 m) (Jg a6 O O O) O (JLm (I64 m) O (G5 (n _ _ o (m,a.2) (app1 k h) (by omega) ⟨(.sm O O),G,rfl⟩)))
  ·
   refine G1 (JLm (I64 d) O (JLm (I64 d) O (G5 (n _ _ o (a.1,d) (app1 k h) (by omega) ⟨(.sm O O),G,rfl⟩))))
 ·
  refine Jf (b5 (Jr fun a7=>(JLm (I64 a.1) O (JLm (I64 a.1) O (JLm (En x.length) O (JLh (BL (decide (a.1 < (x.length:Int)))) (Qg O O O) O (JLm (BL (decide (a.1 < (x.length:Int)))) O (JLo (E1 x) [] O .sct G (fun hc=>G6 O O) O (JLo (I64 a.1) [] O .sct G (fun hc=>G6 O O) O ?_)))))))))
  obtain⟨b,a8,h⟩:=Ga h
  refine JLo (.dptr [I64 b]) [36,37] O .sct ⟨Ua,Ua,G⟩ (fun hc=>(match Zn (H3 hc a8) with | ⟨_,hm_,hy_⟩=>Hg (f:=I64) (xs:=x) (y:=b) O O O Gz hy_ hm_)) O (JLo (I64 b) [38] O .sct ⟨Ua,G⟩ (fun hc=>Gh Gc O O O) O (JLo (I64 target) [] O .sct G (fun hc=>G6 O O) O (JLo (BL (decide (b=target))) [39,40] O .sct ⟨Ua,Ua,G⟩ (fun hc=>Q0 O O O) O (JLo (BL (decide (b=target))) [41] O .sct ⟨Ua,G⟩ (fun hc=>G6 O O) O (JLo (E1 x) [] O .optf G (fun hc=>G6 O O) O (JLo (I64 a.1) [] O .optf G (fun hc=>G6 O O) O ?_))))))
  obtain⟨i,a9,h⟩:=Ga h
  refine JLo (.dptr [I64 i]) [43,44] O .optf ⟨Ua,Ua,G⟩ (fun hc=>(match Zn (H3 hc a9) with | ⟨_,hm_,hy_⟩=>Hg (f:=I64) (xs:=x) (y:=i) O O O Gz hy_ hm_)) O (JLo (I64 i) [45] O .optf ⟨Ua,G⟩ (fun hc=>Gh Gc O O O) O ?_)
  obtain⟨c,b0,h⟩:=Ga h
  refine JLo (BL c) [46] O .optf ⟨Ua,G⟩ (fun hc=>Gt (args:=[I64 i]) O (H36 i c (H3 hc b0)) Q07 ⟨O,O,G⟩) O (JLo (BL c) [47] O .optf ⟨Ua,G⟩ (fun hc=>G6 O O) O (JLo (I64 target) [] O .optt G (fun hc=>G6 O O) O ?_))
  obtain⟨e,b1,h⟩:=Ga h
  refine JLo (BL e) [49] O .optt ⟨Ua,G⟩ (fun hc=>Gt (args:=[I64 target]) O (H36 target e (H3 hc b1)) Q07 ⟨O,O,G⟩) O (Gf (u:=BL (c&&e)) [(48,BL c),(50,_)] O O O .optf ⟨.all id,.part,G⟩ (fun hc=>Ro O O O O) ?_)
  refine Gf (u:=BL ((decide (b=target))||(c&&e))) [(42,BL (decide (b=target))),(51,_)] O O O .sct ⟨.all id,.part,G⟩ (fun hc=>G2f O O O O) ?_
  refine JLh (BL ((decide (a.1 < (x.length:Int)))&&((decide (b=target))||(c&&e)))) (Ro O O O O) O (JLm (I64 a.1) O (JLm (BL ((decide (a.1 < (x.length:Int)))&&((decide (b=target))||(c&&e)))) O (G5 (a7 (Gq (⟨[I64 a.1,BL ((decide (a.1 < (x.length:Int)))&&((decide (b=target))||(c&&e)))],[],G,O,⟨⟨_,O,.conv (.same O)⟩,⟨_,O,.conv (.same O)⟩,G⟩,O,congrArg (fun r:Int×Bool=>(.tup [I64 r.1,BL r.2]:AV)) (M5 h)⟩))))))

def G3f (F:Nat) (s:Gk) (boxes:List Box) (l:List Stowed) (open_:List Int) (cover:Int):Option ((List Int)×Int):=
 bnd (Zk s boxes l open_) fun d=>
 bif (!d) then
 (some ([],2))
 else
 (bif ((decide (cover < 0))||(decide ((s.Covers.length:Int)≤cover))) then
  (some ([],6))
  else
  (bnd (H34 s l cover) fun e=>
   bif decide (0 < (e.length:Int)) then
   (some ([],95))
   else
   (bnd (Rq F open_ cover) fun a=>
    bif a.2 then
    (bnd (Q4 open_) fun b=>
     some (b,0))
    else
    (bnd (G34 open_ a.1 cover) fun c=>
     some (c,0)))))
theorem Qe2 (F:Nat) (s:Gk) (boxes:List Box) (l:List Stowed) (open_:List Int) (cover:Int) (r:(List Int)×Int) (h:G3f F s boxes l open_ cover=some r):Pure Eo 25 [.agg (Gk.cs s),E8 boxes,E2 l,E1 open_,I64 cover] (·=.tup [E1 r.1,I64 r.2]):=by
 unfold G3f at h
 refine H0 [.tmp 10,.tmp 11] Tryz.func25 O O (Jr fun u=>(JLh (.ptr 1052 0) (Jm (cs:=(Gk.cs s)) 1052 O O O O O) O (JLh (E1 ([]:List Int)) (Hm 1 O O) O (JLm (I64 0) O (G5 (u (fzQ [(1,E8 boxes),(2,E2 l),(3,E1 open_),(4,I64 cover),(5,Ef s)] [] 1052 rfl rfl rfl G rfl (Js fun v=>Gx (Jr fun w=>(JLh (.agg (Gk.cs s)) (Gj Hr O O O) O (JLm (E8 boxes) O (JLm (E2 l) O (JLm (E1 open_) O ?_)))))))))))))
 obtain⟨e,x,h⟩:=Ga h
 refine JLh (BL e) (Gt O (Gb3 s boxes l open_ e x) Hd8 ⟨O,O,O,O,O,O,O,O,G⟩) O (JLh (BL (!e)) (Qx (b:=e) O O) O (JLm (BL (!e)) O (G5 (w (JCc O h (fun h hb=>?_) (fun h hb=>?_))))))
 ·
  refine Jr fun y=>(JLh (E1 ([]:List Int)) (Hm 1 O O) O (JLm (I64 2) O (G5 (y (Gq (⟨[E1 ([]:List Int),I64 2],[],G,O,⟨⟨_,O,.conv (.same O)⟩,⟨_,O,.conv (.same O)⟩,G⟩,O,congrArg (fun r:(List Int)×Int=>(.tup [E1 r.1,I64 r.2]:AV)) (M5 h)⟩))))))
 ·
  refine Jr fun z=>(JLm (I64 cover) O (JLh (BL (decide (cover < 0))) (Qg O O O) O (JLm (BL (decide (cover < 0))) O (JLo (I64 cover) [] O .scf G (fun hc=>G6 O O) O (JLo (.dptr ((Gk.cs s).drop 1)) [] O .scf G (fun hc=>G9 Jp O O O) O (JLo (E7 s.Covers) [26] O .scf ⟨Ua,G⟩ (fun hc=>Gh Qa O O O) O (JLo (En s.Covers.length) [27] O .scf ⟨Ua,G⟩ (fun hc=>G20 (f:=G8.av) (xs:=s.Covers) Jj O O) O (JLo (BL (decide ((s.Covers.length:Int)≤cover))) [25,28] O .scf ⟨Ua,Ua,G⟩ (fun hc=>H01 O O O) O (JLh (BL ((decide (cover < 0))||(decide ((s.Covers.length:Int)≤cover)))) (G2f O O O O) O (JLm (BL ((decide (cover < 0))||(decide ((s.Covers.length:Int)≤cover)))) O (G5 (z (JCc O h (fun h hb=>?_) (fun h hb=>?_))))))))))))))
  ·
   refine Jr fun a0=>(JLh (E1 ([]:List Int)) (Hm 1 O O) O (JLm (I64 6) O (G5 (a0 (Gq (⟨[E1 ([]:List Int),I64 6],[],G,O,⟨⟨_,O,.conv (.same O)⟩,⟨_,O,.conv (.same O)⟩,G⟩,O,congrArg (fun r:(List Int)×Int=>(.tup [E1 r.1,I64 r.2]:AV)) (M5 h)⟩))))))
  ·
   refine Jr fun a1=>(JLh (.agg (Gk.cs s)) (Gj Hr O O O) O (JLm (E2 l) O (JLm (I64 cover) O ?_)))
   obtain⟨g,a2,h⟩:=Ga h
   refine JLh (E1 g) (Gt O (Qdf s l cover g a2) Rcd ⟨O,O,O,O,O,O,G⟩) O (JLl Gz O O O fun a3=>(JLh (BL (decide (0 < (g.length:Int)))) (Gbe O O O) O (JLm (BL (decide (0 < (g.length:Int)))) O (G5 (a1 (JCc O h (fun h hb=>?_) (fun h hb=>?_)))))))
   ·
    refine Jr fun i=>(JLh (E1 ([]:List Int)) (Hm 1 O O) O (JLm (I64 95) O (G5 (i (Gq (⟨[E1 ([]:List Int),I64 95],[],G,O,⟨⟨_,O,.conv (.same O)⟩,⟨_,O,.conv (.same O)⟩,G⟩,O,congrArg (fun r:(List Int)×Int=>(.tup [E1 r.1,I64 r.2]:AV)) (M5 h)⟩))))))
   ·
    refine Gr (v (Jr fun j=>(JLm (E1 open_) O (JLm (I64 cover) O ?_))))
    obtain⟨a,k,h⟩:=Ga h
    refine JLh (.tup [I64 a.1,BL a.2]) (Gt O (G84 F open_ cover a k) Q68 ⟨O,O,O,O,G⟩) O (JLm (.tup [I64 a.1,BL a.2]) O (JLh (I64 a.1) (H1 O O O) O (JLh (BL a.2) (H1 O O O) O (JLm (I64 a.1) O (JLm (BL a.2) O (G5 (j (Js fun m=>Jr fun n=>(JLm (BL a.2) O (G5 (n (JCc O h (fun h hb=>?_) (fun h hb=>?_)))))))))))))
    ·
     refine Jr fun o=>(JLm (E1 open_) O ?_)
     obtain⟨c,p,h⟩:=Ga h
     refine JLh (E1 c) (Gt O (G42 open_ c p) Hdb ⟨O,O,G⟩) O (JLm (E1 c) O (JLm (I64 0) O (G5 (o (Gq (⟨[E1 c,I64 0],[],G,O,⟨⟨_,O,.conv (.same O)⟩,⟨_,O,.conv (.same O)⟩,G⟩,O,congrArg (fun r:(List Int)×Int=>(.tup [E1 r.1,I64 r.2]:AV)) (M5 h)⟩))))))
    ·
     refine Gr (m (Jr fun q=>(JLm (E1 open_) O (JLm (I64 a.1) O (JLm (I64 cover) O ?_)))))
     obtain⟨d,t,h⟩:=Ga h
     refine JLh (E1 d) (Gt O (Jb8.down open_ a.1 cover d t) Rcc ⟨O,O,O,O,O,O,G⟩) O (JLm (E1 d) O (JLm (I64 0) O (G5 (q (Gq (⟨[E1 d,I64 0],[],G,O,⟨⟨_,O,.conv (.same O)⟩,⟨_,O,.conv (.same O)⟩,G⟩,O,congrArg (fun r:(List Int)×Int=>(.tup [E1 r.1,I64 r.2]:AV)) (M5 h)⟩))))))

def G1e (F:Nat) (s:Gk) (boxes:List Box) (l:List Stowed) (open_:List Int) (cover:Int):Option ((List Int)×Int):=
 bnd (Zk s boxes l open_) fun d=>
 bif (!d) then
 (some ([],2))
 else
 (bif ((decide (cover < 0))||(decide ((s.Covers.length:Int)≤cover))) then
  (some ([],6))
  else
  (bnd (Rq F open_ cover) fun a=>
   bif (!a.2) then
   (bnd (Q4 open_) fun b=>
    some (b,0))
   else
   (bnd (Zy open_ a.1) fun c=>
    some (c,0))))
theorem Qb6 (F:Nat) (s:Gk) (boxes:List Box) (l:List Stowed) (open_:List Int) (cover:Int) (r:(List Int)×Int) (h:G1e F s boxes l open_ cover=some r):Pure Eo 26 [.agg (Gk.cs s),E8 boxes,E2 l,E1 open_,I64 cover] (·=.tup [E1 r.1,I64 r.2]):=by
 unfold G1e at h
 refine H0 [.tmp 10,.tmp 11] Tryz.func26 O O (Jr fun o=>(JLh (.ptr 1053 0) (Jm (cs:=(Gk.cs s)) 1053 O O O O O) O (JLh (E1 ([]:List Int)) (Hm 1 O O) O (JLm (I64 0) O (G5 (o (fzQ [(1,E8 boxes),(2,E2 l),(3,E1 open_),(4,I64 cover),(5,Ef s)] [] 1053 rfl rfl rfl G rfl (Js fun p=>Gx (Jr fun q=>(JLh (.agg (Gk.cs s)) (Gj Hr O O O) O (JLm (E8 boxes) O (JLm (E2 l) O (JLm (E1 open_) O ?_)))))))))))))
 obtain⟨e,t,h⟩:=Ga h
 refine JLh (BL e) (Gt O (Gb3 s boxes l open_ e t) Hd8 ⟨O,O,O,O,O,O,O,O,G⟩) O (JLh (BL (!e)) (Qx (b:=e) O O) O (JLm (BL (!e)) O (G5 (q (JCc O h (fun h hb=>?_) (fun h hb=>?_))))))
 ·
  refine Jr fun u=>(JLh (E1 ([]:List Int)) (Hm 1 O O) O (JLm (I64 2) O (G5 (u (Gq (⟨[E1 ([]:List Int),I64 2],[],G,O,⟨⟨_,O,.conv (.same O)⟩,⟨_,O,.conv (.same O)⟩,G⟩,O,congrArg (fun r:(List Int)×Int=>(.tup [E1 r.1,I64 r.2]:AV)) (M5 h)⟩))))))
 ·
  refine Jr fun v=>(JLm (I64 cover) O (JLh (BL (decide (cover < 0))) (Qg O O O) O (JLm (BL (decide (cover < 0))) O (JLo (I64 cover) [] O .scf G (fun hc=>G6 O O) O (JLo (.dptr ((Gk.cs s).drop 1)) [] O .scf G (fun hc=>G9 Jp O O O) O (JLo (E7 s.Covers) [26] O .scf ⟨Ua,G⟩ (fun hc=>Gh Qa O O O) O (JLo (En s.Covers.length) [27] O .scf ⟨Ua,G⟩ (fun hc=>G20 (f:=G8.av) (xs:=s.Covers) Jj O O) O (JLo (BL (decide ((s.Covers.length:Int)≤cover))) [25,28] O .scf ⟨Ua,Ua,G⟩ (fun hc=>H01 O O O) O (JLh (BL ((decide (cover < 0))||(decide ((s.Covers.length:Int)≤cover)))) (G2f O O O O) O (JLm (BL ((decide (cover < 0))||(decide ((s.Covers.length:Int)≤cover)))) O (G5 (v (JCc O h (fun h hb=>?_) (fun h hb=>?_))))))))))))))
  ·
   refine Jr fun w=>(JLh (E1 ([]:List Int)) (Hm 1 O O) O (JLm (I64 6) O (G5 (w (Gq (⟨[E1 ([]:List Int),I64 6],[],G,O,⟨⟨_,O,.conv (.same O)⟩,⟨_,O,.conv (.same O)⟩,G⟩,O,congrArg (fun r:(List Int)×Int=>(.tup [E1 r.1,I64 r.2]:AV)) (M5 h)⟩))))))
  ·
   refine Gr (p (Jr fun x=>(JLm (E1 open_) O (JLm (I64 cover) O ?_))))
   obtain⟨a,y,h⟩:=Ga h
   refine JLh (.tup [I64 a.1,BL a.2]) (Gt O (G84 F open_ cover a y) Q68 ⟨O,O,O,O,G⟩) O (JLm (.tup [I64 a.1,BL a.2]) O (JLh (I64 a.1) (H1 O O O) O (JLh (BL a.2) (H1 O O O) O (JLm (I64 a.1) O (JLm (BL a.2) O (G5 (x (Js fun g=>Jr fun i=>(JLm (BL a.2) O (JLh (BL (!a.2)) (Qx (b:=a.2) O O) O (G5 (i (JCc O h (fun h hb=>?_) (fun h hb=>?_))))))))))))))
   ·
    refine Jr fun j=>(JLm (E1 open_) O ?_)
    obtain⟨c,k,h⟩:=Ga h
    refine JLh (E1 c) (Gt O (G42 open_ c k) Hdb ⟨O,O,G⟩) O (JLm (E1 c) O (JLm (I64 0) O (G5 (j (Gq (⟨[E1 c,I64 0],[],G,O,⟨⟨_,O,.conv (.same O)⟩,⟨_,O,.conv (.same O)⟩,G⟩,O,congrArg (fun r:(List Int)×Int=>(.tup [E1 r.1,I64 r.2]:AV)) (M5 h)⟩))))))
   ·
    refine Gr (g (Jr fun m=>(JLm (E1 open_) O (JLm (I64 a.1) O ?_))))
    obtain⟨d,n,h⟩:=Ga h
    refine JLh (E1 d) (Gt O (J2f.down open_ a.1 d n) Rcb ⟨O,O,O,O,G⟩) O (JLm (E1 d) O (JLm (I64 0) O (G5 (m (Gq (⟨[E1 d,I64 0],[],G,O,⟨⟨_,O,.conv (.same O)⟩,⟨_,O,.conv (.same O)⟩,G⟩,O,congrArg (fun r:(List Int)×Int=>(.tup [E1 r.1,I64 r.2]:AV)) (M5 h)⟩))))))
end
end Go.Proofs.YtidpfkmbfgihlaaGreat
