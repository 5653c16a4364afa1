/- Walks of functions. -/
import Derived.Test.YthkihfoleenlmaaGreatXP
import Derived.Test.YthkihfoleenlmaaGreatXZ
import Derived.Test.YthkihfoleenlmaaGreatMrk
set_option maxRecDepth 100000
set_option maxHeartbeats 1000000
set_option linter.unusedVariables false
set_option linter.unusedSimpArgs false
namespace Go.Proofs.YthkihfoleenlmaaGreat
open Go.RowKit
noncomputable section
structure Call where
 Port:ByteArray
 At:Int
 Draught:Int
 deriving DecidableEq,Inhabited
def Call.cs (x:Call):List AV:=[ST x.Port,I64 x.At,I64 x.Draught]
def Call.av (x:Call):AV:=.agg x.cs
structure bM where
 Load:Int
 Discharge:Int
 deriving DecidableEq,Inhabited
def bM.cs (x:bM):List AV:=[I64 x.Load,I64 x.Discharge]
def bM.av (x:bM):AV:=.agg x.cs
structure yI where
 Call:Int
 Rule:Int
 Box:Int
 Other:Int
 deriving DecidableEq,Inhabited
def yI.cs (x:yI):List AV:=[I64 x.Call,U8 x.Rule,I64 x.Box,I64 x.Other]
def yI.av (x:yI):AV:=.agg x.cs
structure Move where
 Kind:Int
 Box:Int
 Slot:Slot
 H3:Int
 deriving DecidableEq,Inhabited
def Move.cs (x:Move):List AV:=[U8 x.Kind,I64 x.Box,I64 x.Slot.G6,I64 x.Slot.Tier,U8 x.Slot.Half,I64 x.H3]
def Move.av (x:Move):AV:=.agg x.cs
structure G5b where
 Bay:Int
 Phase:Int
 Lifts:Int
 Covers:Int
 deriving DecidableEq,Inhabited
def G5b.cs (x:G5b):List AV:=[I64 x.Bay,I64 x.Phase,I64 x.Lifts,I64 x.Covers]
def G5b.av (x:G5b):AV:=.agg x.cs
namespace XQF
open XAF
open XLF
open XPF
theorem tW:H7 Ek 10=true:=by kernel_rfl
theorem ZU:H7 Ek 20=true:=by kernel_rfl
theorem H73:H7 Ek 21=true:=by kernel_rfl
theorem H72:H7 Ek 22=true:=by kernel_rfl
theorem H71:H7 Ek 23=true:=by kernel_rfl
theorem H70:H7 Ek 24=true:=by kernel_rfl
theorem H6f:H7 Ek 25=true:=by kernel_rfl
theorem H6e:H7 Ek 32=true:=by kernel_rfl
theorem ZT:H7 Ek 33=true:=by kernel_rfl
theorem dH:H7 Ek 34=true:=by kernel_rfl
theorem He0:H7 Ek 5=true:=by kernel_rfl
theorem Hdf:H7 Ek 6=true:=by kernel_rfl
theorem G72:H7 Ek 7=true:=by kernel_rfl
theorem xF:H7 Ek 8=true:=by kernel_rfl
theorem xE:H7 Ek 9=true:=by kernel_rfl
theorem GB:placesOf Ek 32=some [(0,1),(1,1),(2,4),(6,1),(7,1),(8,1),(9,4)]:=by kernel_rfl
theorem GA:placesOf Ek 37=some [(0,1),(1,1)]:=by kernel_rfl
theorem vK:Yf Ek 32 13=true:=by kernel_rfl
theorem vJ:Yf Ek 37 2=true:=by kernel_rfl
end XQF
open XAF
open XLF
open XPF
open XQF

def cF (s:Gq) (bx:List Box):Option Bool:=
 bif (((decide (12 < (s.Columns.length:Int)))||(decide (12 < (s.Covers.length:Int))))||(decide (30 < (bx.length:Int)))) then
 (some false)
 else
 (each (fun a g (d:Unit) b=>
   bif ((decide (12 < (a.Plugs.length:Int)))||(decide (10 < a.Tiers))) then
   (some false)
   else
   (b ()))
  (fun(d:Unit)=>
   each (fun e h (f:Unit) c=>
    bif decide (12 < (e.Rows.length:Int)) then
    (some false)
    else
    (c ()))
   (fun(f:Unit)=>
    some true) s.Covers 0 ()) s.Columns 0 ())
abbrev N7 (s:Gq):Bool:=((decide (12 < (s.Columns.length:Int)))||(decide (12 < (s.Covers.length:Int))))
theorem uS (s:Gq) (bx:List Box) (r:Bool) (h:cF s bx=some r):Pure Ek 5 [.agg (Gq.cs s),E3 bx] (·=BL r):=by
 unfold cF at h
 refine Gy [.tmp 4] Tryz.func5 G G (Jr fun b7=>(JLh (.ptr 1005 0) (Jy (cs:=(Gq.cs s)) 1005 G G G G G) G (JLm (BL false) G (G5 (b7 (Gw [(1,E3 bx),(2,Ed s)] [] 1005 rfl rfl rfl U rfl (by exact⟨.conv (.same rfl),.ptr,U⟩) (Js fun b8=>?_)))))))
 refine Jr fun b9=>(JLh (Ed s) (Ga Hu G G G) G (JLh (E4 s.Columns) (Ge J2 G G G) G (JLl Hd G G G fun c7=>(JLh (BL (decide (12 < (s.Columns.length:Int)))) (dE G G G) G (JLm (BL (decide (12 < (s.Columns.length:Int)))) G (JLo (.dptr ((Gq.cs s).drop 1)) [] G .scf U (fun hc=>Ga Qh G G G) G (JLo (E5 s.Covers) [14] G .scf ⟨Ua,U⟩ (fun hc=>Ge R4 G G G) G (JLo (Ej s.Covers.length) [15] G .scf ⟨Ua,U⟩ (fun hc=>Q8 (f:=H3.av) (xs:=s.Covers) J1 G G) G (JLo (BL (decide (12 < (s.Covers.length:Int)))) [16] G .scf ⟨Ua,U⟩ (fun hc=>dE G G G) G (JLh (BL (N7 s)) (Rm G G G G) G (JLm (BL (N7 s)) G (JLo (E3 bx) [] G .scf U (fun hc=>G3 G G) G (JLo (Ej bx.length) [20] G .scf ⟨Ua,U⟩ (fun hc=>Q8 (f:=Box.av) (xs:=bx) J3 G G) G ?_)))))))))))))
 refine JLo (BL (decide (30 < (bx.length:Int)))) [21] G .scf ⟨Ua,U⟩ (fun hc=>dE G G G) G (JLh (BL ((N7 s)||(decide (30 < (bx.length:Int))))) (Rm G G G G) G (G5 (b9 (JCc G h (fun h hb=>?_) (fun h hb=>?_)))))
 ·
  refine Jr fun c0=>(JLm (BL false) G (G5 (c0 (Gs (fin1 BL h)))))
 ·
  refine Gn (b8 (Js fun c1=>Jr fun c2=>(JLh (Ed s) (Ga Hu G G G) G (JLh (E4 s.Columns) (Ge J2 G G G) G (JLl Hd G G G fun o=>(JLm (I64 0) G (G5 (c2 (Gf ?_)))))))))
  obtain⟨c3,p,q,m,h⟩:=Hy h
  refine H8 (fun c (e:Unit)=>each c3 p (List.drop c s.Columns) c e=some r) (fun c e=>[(2,Ed s),(25,E4 s.Columns),(26,Ej s.Columns.length),(27,Ej c)]) (fun c e=>[]) (fun c=>s.Columns.length - c) 0 () h ⟨(.sm G G),U,rfl⟩ ?_
  clear h
  intro c e i d2 c4
  refine Jr fun t=>(JLh (BL (decide ((c:Int) < (s.Columns.length:Int)))) (Hr G G G) G (G5 (t (Js fun v=>Gg G (fun hb=>?_) (fun hb=>?_)))))
  ·
   have j:=Je hb
   obtain⟨a,c8,w,x,h⟩:=Hh i j
   replace h:=Rx q h
   refine Gn (v (Js fun z=>Gf (Jr fun a0=>(JLh (Ef a) (Gr (f:=G6.av) (xs:=s.Columns) (y:=a) G G G Hd w G) G (JLh (.agg (G6.cs a)) (Gj Zu G G G) G (JLh (.ptr 1006 0) (Jp 1006 12 jS G G) G (J7 (u:=.junk) (Hv (u:=.agg (G6.cs a)) (ds:=(G6.cs a)) oR G G G G G G G G) (G5 (a0 (fzQ [(2,Ed s),(6,Ef a),(25,E4 s.Columns),(26,Ej s.Columns.length),(27,Ej c)] [] 1006 rfl rfl rfl U rfl ?_))))))))))
   refine Jr fun a1=>(JLh (.dptr ((G6.cs a).drop 8)) (Ga Rz G G G) G (JLh (E2 a.Plugs) (Ge He G G G) G (JLl Gz G G G fun c9=>(JLh (BL (decide (12 < (a.Plugs.length:Int)))) (dE G G G) G (JLm (BL (decide (12 < (a.Plugs.length:Int)))) G (JLo (.dptr ((G6.cs a).drop 3)) [] G .scf U (fun hc=>Ga bR G G G) G (JLo (I64 a.Tiers) [36] G .scf ⟨Ua,U⟩ (fun hc=>Ge Gb G G G) G (JLo (BL (decide (10 < a.Tiers))) [37] G .scf ⟨Ua,U⟩ (fun hc=>dE G G G) G (JLh (BL ((decide (12 < (a.Plugs.length:Int)))||(decide (10 < a.Tiers)))) (Rm G G G G) G (G5 (a1 (JCc G h (fun h hb=>?_) (fun h hb=>?_)))))))))))))
   ·
    refine Jr fun a2=>(JLm (BL false) G (G5 (a2 (Gs (fin1 BL h)))))
   ·
    refine Gn (z (G1 (JLh (I64 ((c+1:Nat):Int)) (Hs (Hb j o) G G G) G (JLm (I64 ((c+1:Nat):Int)) G (G5 (c4 _ _ (c+1) () (app1 x h) (by omega) ⟨(.sm G G),U,rfl⟩))))))
  ·
   have h:=app1 m (Hi i (H6 hb))
   refine H9 (c1 (Js fun a3=>Jr fun a4=>(JLh (.dptr ((Gq.cs s).drop 1)) (Ga Qh G G G) G (JLh (E5 s.Covers) (Ge R4 G G G) G (JLl J1 G G G fun a5=>(JLm (I64 0) G (G5 (a4 (Gf ?_)))))))))
   obtain⟨c5,a6,a7,n,h⟩:=Hy h
   refine H8 (fun d (g:Unit)=>each c5 a6 (List.drop d s.Covers) d g=some r) (fun d g=>[(42,E5 s.Covers),(43,Ej s.Covers.length),(44,Ej d)]) (fun d g=>[]) (fun d=>s.Covers.length - d) 0 () h ⟨(.sm G G),U,G⟩ ?_
   clear h
   intro d g k d3 c6
   refine Jr fun a8=>(JLh (BL (decide ((d:Int) < (s.Covers.length:Int)))) (Hr G G G) G (G5 (a8 (Js fun a9=>Gg G (fun hb=>?_) (fun hb=>?_)))))
   ·
    have l:=Je hb
    obtain⟨b,d0,b0,b1,h⟩:=Hh k l
    replace h:=Rx a7 h
    refine Gn (a9 (Js fun b2=>Gf (Jr fun b3=>(JLh (.dptr [I64 b.Bay,E2 b.Rows]) (Gr (f:=H3.av) (xs:=s.Covers) (y:=b) G G G J1 b0 G) G (JLh (.agg [I64 b.Bay,E2 b.Rows]) (Gj Zd G G G) G (JLh (.ptr 1007 0) (Jp 1007 2 fF G G) G (J7 (u:=.junk) (Hv (u:=.agg [I64 b.Bay,E2 b.Rows]) (ds:=[I64 b.Bay,E2 b.Rows]) jL G G G G G G G G) (G5 (b3 (fzQ [(8,.dptr [I64 b.Bay,E2 b.Rows]),(42,E5 s.Covers),(43,Ej s.Covers.length),(44,Ej d)] [] 1007 rfl rfl rfl U rfl ?_))))))))))
    refine Jr fun b4=>(JLh (.dptr [E2 b.Rows]) (Ga Qg G G G) G (JLh (E2 b.Rows) (Ge He G G G) G (JLl Gz G G G fun d1=>(JLh (BL (decide (12 < (b.Rows.length:Int)))) (dE G G G) G (G5 (b4 (JCc G h (fun h hb=>?_) (fun h hb=>?_))))))))
    ·
     refine Jr fun b5=>(JLm (BL false) G (G5 (b5 (Gs (fin1 BL h)))))
    ·
     refine Gn (b2 (G1 (JLh (I64 ((d+1:Nat):Int)) (Hs (Hb l a5) G G G) G (JLm (I64 ((d+1:Nat):Int)) G (G5 (c6 _ _ (d+1) () (app1 b1 h) (by omega) ⟨(.sm G G),U,rfl⟩))))))
   ·
    have h:=app1 n (Hi k (H6 hb))
    refine H9 (a3 (Jr fun b6=>(JLm (BL true) G (G5 (b6 (Gs (fin1 BL h)))))))

def aQ (p:Ya):Option Bool:=
 each (fun b d (c:Unit) a=>
  bif decide (14 < (b.length:Int)) then
  (some false)
  else
  (a ()))
 (fun(c:Unit)=>
  some (decide ((p.States.length:Int)≤22))) p.States 0 ()
abbrev N8 (p:Ya):List AV:=[LS 1 (E1) p.States,LS 1 (E2) p.Water]
theorem sC (p:Ya) (r:Bool) (h:aQ p=some r):Pure Ek 6 [.agg [LS 1 (E1) p.States,LS 1 (E2) p.Water]] (·=BL r):=by
 unfold aQ at h
 refine Gy [.tmp 2] Tryz.func6 G G (Jr fun v=>(JLh (.ptr 1008 0) (Jy (cs:=(N8 p)) 1008 G G G G G) G (JLm (BL false) G (G5 (v (Gw [(1,.dptr (N8 p))] [] 1008 rfl rfl rfl U rfl (by exact⟨.ptr,U⟩) (Js fun w=>Jr fun x=>(JLh (.dptr (N8 p)) (Ga Qr G G G) G (JLh (LS 1 (E1) p.States) (Ge Qe G G G) G (JLl Hn G G G fun z=>(JLm (I64 0) G (G5 (x (Gf ?_))))))))))))))
 obtain⟨a0,i,j,g,h⟩:=Hy h
 refine H8 (fun a (c:Unit)=>each a0 i (List.drop a p.States) a c=some r) (fun a c=>[(1,.dptr (N8 p)),(6,LS 1 (E1) p.States),(7,Ej p.States.length),(8,Ej a)]) (fun a c=>[]) (fun a=>p.States.length - a) 0 () h ⟨(.sm G G),U,rfl⟩ ?_
 clear h
 intro a c d a5 a1
 refine Jr fun k=>(JLh (BL (decide ((a:Int) < (p.States.length:Int)))) (Hr G G G) G (G5 (k (Js fun l=>Gg G (fun hb=>?_) (fun hb=>?_)))))
 ·
  have e:=Je hb
  obtain⟨b,a2,m,n,h⟩:=Hh d e
  replace h:=Rx j h
  refine Gn (l (Js fun o=>Gf (Jr fun q=>(JLh (.dptr [E1 b]) (Gr (f:=(E1)) (xs:=p.States) (y:=b) G G G Hn m G) G (JLh (E1 b) (Ge Q6 G G G) G (JLm (E1 b) G (G5 (q (Jr fun s=>(JLm (E1 b) G (JLl H5 G G G fun a3=>(JLh (BL (decide (14 < (b.length:Int)))) (dE G G G) G (G5 (s (JCc G h (fun h hb=>?_) (fun h hb=>?_))))))))))))))))
  ·
   refine Jr fun t=>(JLm (BL false) G (G5 (t (Gs (fin1 BL h)))))
  ·
   refine Gn (o (G1 (JLh (I64 ((a+1:Nat):Int)) (Hs (Hb e z) G G G) G (JLm (I64 ((a+1:Nat):Int)) G (G5 (a1 _ _ (a+1) () (app1 n h) (by omega) ⟨(.sm G G),U,rfl⟩))))))
 ·
  have h:=app1 g (Hi d (H6 hb))
  refine H9 (w (Jr fun u=>(JLh (.dptr (N8 p)) (Ga Qr G G G) G (JLh (LS 1 (E1) p.States) (Ge Qe G G G) G (JLl Hn G G G fun a4=>(JLh (BL (decide ((p.States.length:Int)≤22))) (rQ G G G) G (JLm (BL (decide ((p.States.length:Int)≤22))) G (G5 (u (Gs (fin1 BL h)))))))))))

def eO :Option Gq:=
 some (Gq.mk ([(G6.mk 0 0 false 2 0 0 0 0 [] 0 0 0),(G6.mk 0 1 false 2 0 0 0 0 [] 0 0 0),(G6.mk 0 0 true 3 0 0 0 0 [] 0 0 0),(G6.mk 0 1 true 3 0 0 0 0 [] 0 0 0),(G6.mk 1 1 true 4 0 0 0 0 [] 0 0 0)]) ([(H3.mk 0 [0,1])]) (Light.mk 0 0 0 0) [] [] [] (Gk.mk 0 0 0 0))
abbrev N9:List AV:=[E4 ([(G6.mk 0 0 false 2 0 0 0 0 [] 0 0 0),(G6.mk 0 1 false 2 0 0 0 0 [] 0 0 0),(G6.mk 0 0 true 3 0 0 0 0 [] 0 0 0),(G6.mk 0 1 true 3 0 0 0 0 [] 0 0 0),(G6.mk 1 1 true 4 0 0 0 0 [] 0 0 0)]),E5 ([(H3.mk 0 [0,1])]),I64 0,I64 0,I64 0,I64 0,E8 ([]:List Row),E7 ([]:List Frame),E9 ([]:List Hg),I64 0,I64 0,I64 0,I64 0]
abbrev Na:List AV:=[I64 0,I64 0,BL false,I64 0,I64 0,I64 0,I64 0,I64 0,E2 ([]:List Int),I64 0,I64 0,I64 0]
abbrev Nb:List AV:=[I64 0,I64 0,BL false,I64 2,I64 0,I64 0,I64 0,I64 0,E2 ([]:List Int),I64 0,I64 0,I64 0]
abbrev Nc:List AV:=[I64 0,I64 1,BL false,I64 2,I64 0,I64 0,I64 0,I64 0,E2 ([]:List Int),I64 0,I64 0,I64 0]
abbrev Nd:List AV:=[I64 0,I64 1,BL true,I64 3,I64 0,I64 0,I64 0,I64 0,E2 ([]:List Int),I64 0,I64 0,I64 0]
abbrev Nf:List AV:=[I64 0,I64 0,BL true,I64 3,I64 0,I64 0,I64 0,I64 0,E2 ([]:List Int),I64 0,I64 0,I64 0]
abbrev Ng:List AV:=[I64 1,I64 1,BL true,I64 4,I64 0,I64 0,I64 0,I64 0,E2 ([]:List Int),I64 0,I64 0,I64 0]
abbrev Nh:List AV:=[E4 ([]:List G6),E5 ([]:List H3),I64 0,I64 0,I64 0,I64 0,E8 ([]:List Row),E7 ([]:List Frame),E9 ([]:List Hg),I64 0,I64 0,I64 0,I64 0]
theorem pO  (r:Gq) (h:eO =some r):Pure Ek 32 [] (·=.agg (Gq.cs r)):=by
 unfold eO at h
 refine Gy [.cell 0 32] Tryz.func32 G G (Jr fun a=>(JLh (.ptr 1045 0) (Rn 1045 Nh [.slice none 0 0,.slice none 0 0,E0,E0,E0,E0,.slice none 0 0,.slice none 0 0,.slice none 0 0,E0,E0,E0,E0] oQ ⟨.inr ⟨_,G,G⟩,.inr ⟨_,G,G⟩,.inl G,.inl G,.inl G,.inl G,.inr ⟨_,G,G⟩,.inr ⟨_,G,G⟩,.inr ⟨_,G,G⟩,.inl G,.inl G,.inl G,.inl G,U⟩ G G) G (G5 (a ?_))))
 refine Jr fun b=>(JLh (.agg Nb) (Jq (cs:=Nb) [(0,1),(1,1),(2,1),(3,1),(4,1),(5,1),(6,1),(7,1),(8,1),(9,1),(10,1),(11,1)] Na [E0,E0,.bool false,E0,E0,E0,E0,E0,.slice none 0 0,E0,E0,E0] iA gO ⟨.inl G,.inl G,.inl G,.inl G,.inl G,.inl G,.inl G,.inl G,.inr ⟨_,G,G⟩,.inl G,.inl G,.inl G,U⟩ G G) G (JLh (.agg Nc) (Jq (cs:=Nc) [(0,1),(1,1),(2,1),(3,1),(4,1),(5,1),(6,1),(7,1),(8,1),(9,1),(10,1),(11,1)] Na [E0,E0,.bool false,E0,E0,E0,E0,E0,.slice none 0 0,E0,E0,E0] iA gO ⟨.inl G,.inl G,.inl G,.inl G,.inl G,.inl G,.inl G,.inl G,.inr ⟨_,G,G⟩,.inl G,.inl G,.inl G,U⟩ G G) G (JLh (.agg Nf) (Jq (cs:=Nf) [(0,1),(1,1),(2,1),(3,1),(4,1),(5,1),(6,1),(7,1),(8,1),(9,1),(10,1),(11,1)] Na [E0,E0,.bool false,E0,E0,E0,E0,E0,.slice none 0 0,E0,E0,E0] iA gO ⟨.inl G,.inl G,.inl G,.inl G,.inl G,.inl G,.inl G,.inl G,.inr ⟨_,G,G⟩,.inl G,.inl G,.inl G,U⟩ G G) G (JLh (.agg Nd) (Jq (cs:=Nd) [(0,1),(1,1),(2,1),(3,1),(4,1),(5,1),(6,1),(7,1),(8,1),(9,1),(10,1),(11,1)] Na [E0,E0,.bool false,E0,E0,E0,E0,E0,.slice none 0 0,E0,E0,E0] iA gO ⟨.inl G,.inl G,.inl G,.inl G,.inl G,.inl G,.inl G,.inl G,.inr ⟨_,G,G⟩,.inl G,.inl G,.inl G,U⟩ G G) G (JLh (.agg Ng) (Jq (cs:=Ng) [(0,1),(1,1),(2,1),(3,1),(4,1),(5,1),(6,1),(7,1),(8,1),(9,1),(10,1),(11,1)] Na [E0,E0,.bool false,E0,E0,E0,E0,E0,.slice none 0 0,E0,E0,E0] iA gO ⟨.inl G,.inl G,.inl G,.inl G,.inl G,.inl G,.inl G,.inl G,.inr ⟨_,G,G⟩,.inl G,.inl G,.inl G,U⟩ G G) G (JLh (E4 ([(G6.mk 0 0 false 2 0 0 0 0 [] 0 0 0),(G6.mk 0 1 false 2 0 0 0 0 [] 0 0 0),(G6.mk 0 0 true 3 0 0 0 0 [] 0 0 0),(G6.mk 0 1 true 3 0 0 0 0 [] 0 0 0),(G6.mk 1 1 true 4 0 0 0 0 [] 0 0 0)])) (Hf (xs:=[.agg Nb,.agg Nc,.agg Nf,.agg Nd,.agg Ng]) G ⟨G,G,G,G,G,G,G,G,G,G,U⟩ Hd jS G G G G) G (JLh (E2 [0,1]) (Hf (xs:=[I64 0,I64 1]) G ⟨G,G,G,G,U⟩ Gz Zq G G G G) G (JLh (.agg [I64 0,E2 [0,1]]) (Jq (cs:=[I64 0,E2 [0,1]]) [(0,1),(1,1)] [I64 0,E2 ([]:List Int)] [E0,.slice none 0 0] zY tP ⟨.inl G,.inr ⟨_,G,G⟩,U⟩ G G) G (JLh (E5 ([(H3.mk 0 [0,1])])) (Hf (xs:=[.agg [I64 0,E2 [0,1]]]) G ⟨G,G,U⟩ J1 fF G G G G) G (JLh (.agg N9) (Jq (cs:=N9) [(0,1),(1,1),(2,4),(6,1),(7,1),(8,1),(9,4)] Nh [.slice none 0 0,.slice none 0 0,E0,E0,E0,E0,.slice none 0 0,.slice none 0 0,.slice none 0 0,E0,E0,E0,E0] GB oQ ⟨.inr ⟨_,G,G⟩,.inr ⟨_,G,G⟩,.inl G,.inl G,.inl G,.inl G,.inr ⟨_,G,G⟩,.inr ⟨_,G,G⟩,.inr ⟨_,G,G⟩,.inl G,.inl G,.inl G,.inl G,U⟩ G G) G (J7 (u:=.junk) (Hv (u:=.agg N9) (ds:=N9) oS G G G G G G G G) (G5 (b ?_)))))))))))))
 refine Gs (⟨[.agg N9],[],U,G,⟨⟨_,⟨_,_,_,_,G,G,G,.inl ⟨J4,G⟩⟩,.conv (.same G)⟩,U⟩,G,congrArg (fun r:Gq=>(.agg (Gq.cs r):AV)) (Pc h)⟩)

def Q7 (box:Int) (column:Int) (tier:Int):Option G2:=
 some (G2.mk box (Slot.mk column tier 0))
theorem Qb (box:Int) (column:Int) (tier:Int) (r:G2) (h:Q7 box column tier=some r):Pure Ek 34 [I64 box,I64 column,I64 tier] (·=.agg (G2.cs r)):=by
 unfold Q7 at h
 refine Gy [.cell 6 83] Tryz.func34 G G (Jr fun a=>(JLh (.ptr 1047 0) (Rn 1047 [I64 0,I64 0,I64 0,U8 0] [E0,E0,E0,.int .u8 0] tO (zzQ G) G G) G (G5 (a ?_))))
 refine Jr fun b=>(JLm (I64 box) G (JLm (I64 column) G (JLm (I64 tier) G (JLh (.agg [I64 column,I64 tier,U8 0]) (Jq (cs:=[I64 column,I64 tier,U8 0]) [(0,1),(1,1),(2,1)] [I64 0,I64 0,U8 0] [E0,E0,.int .u8 0] nN lE (zzQ G) G G) G (JLh (.agg [I64 box,I64 column,I64 tier,U8 0]) (Jq (cs:=[I64 box,I64 column,I64 tier,U8 0]) [(0,1),(1,3)] [I64 0,I64 0,I64 0,U8 0] [E0,E0,E0,.int .u8 0] zX tO (zzQ G) G G) G (J7 (u:=.junk) (Hv (u:=.agg [I64 box,I64 column,I64 tier,U8 0]) (ds:=[I64 box,I64 column,I64 tier,U8 0]) eH G G G G G G G G) (G5 (b (Gs ?_)))))))))
 exact⟨[.agg [I64 box,I64 column,I64 tier,U8 0]],[],U,G,⟨⟨_,⟨_,_,_,_,G,G,G,.inl ⟨Zt,G⟩⟩,.conv (.same G)⟩,U⟩,G,congrArg (fun r:G2=>(.agg (G2.cs r):AV)) (Pc h)⟩

def mC (F:Nat) (s:Gq) (bx:List Box) (bf:List G2) (af:List G2):Option ((List Int)×Int):=
 bnd (cW s bx bf) fun a=>
 bnd (bif (!(!a)) then cW s bx af else some default) fun b=>
 bif ((!a)||(!b)) then
 (some ([],2))
 else
 (bnd (Zm F s bf af) fun c=>
  some (c,0))
theorem vD (F:Nat) (s:Gq) (bx:List Box) (bf:List G2) (af:List G2) (r:(List Int)×Int) (h:mC F s bx bf af=some r):Pure Ek 33 [.agg (Gq.cs s),E3 bx,E1 bf,E1 af] (·=.tup [E2 r.1,I64 r.2]):=by
 unfold mC at h
 refine Gy [.tmp 8,.tmp 9] Tryz.func33 G G (Jr fun e=>(JLh (.ptr 1046 0) (Jy (cs:=(Gq.cs s)) 1046 G G G G G) G (JLh (E2 ([]:List Int)) (Qd 1 G G) G (JLm (I64 0) G (G5 (e (fzQ [(1,E3 bx),(2,E1 bf),(3,E1 af),(4,Ed s)] [] 1046 rfl rfl rfl U rfl (Js fun f=>Jr fun g=>(JLh (.agg (Gq.cs s)) (Gj J4 G G G) G (JLm (E3 bx) G (JLm (E1 bf) G ?_)))))))))))
 obtain⟨a,i,h⟩:=Gd h
 refine JLh (BL a) (Gi G (pX s bx bf a i) yV ⟨G,G,G,G,G,G,U⟩) G (JLh (BL (!a)) (Qj (b:=a) G G) G (JLm (BL (!a)) G (JLo (.agg (Gq.cs s)) [] G .scf U (fun hc=>Gj J4 G G G) G (JLo (E3 bx) [] G .scf U (fun hc=>G3 G G) G (JLo (E1 af) [] G .scf U (fun hc=>G3 G G) G ?_)))))
 obtain⟨c,j,h⟩:=Gd h
 refine JLo (BL c) [16,17,18] G .scf ⟨Ua,Ua,Ua,U⟩ (fun hc=>Gi (args:=[.agg (Gq.cs s),E3 bx,E1 af]) G (pX s bx af c (Gv hc j)) yV ⟨G,G,G,G,G,G,U⟩) G (JLo (BL (!c)) [19] G .scf ⟨Ua,U⟩ (fun hc=>Qj (b:=c) G G) G (JLh (BL ((!a)||(!c))) (Rm G G G G) G (G5 (g (JCc G h (fun h hb=>?_) (fun h hb=>?_))))))
 ·
  refine Jr fun k=>(JLh (E2 ([]:List Int)) (Qd 1 G G) G (JLm (I64 2) G (G5 (k (Gs (⟨[E2 ([]:List Int),I64 2],[],U,G,⟨⟨_,G,.conv (.same G)⟩,⟨_,G,.conv (.same G)⟩,U⟩,G,congrArg (fun r:(List Int)×Int=>(.tup [E2 r.1,I64 r.2]:AV)) (Pc h)⟩))))))
 ·
  refine Gn (f (Jr fun l=>(JLh (.agg (Gq.cs s)) (Gj J4 G G G) G (JLm (E1 bf) G (JLm (E1 af) G ?_)))))
  obtain⟨d,m,h⟩:=Gd h
  refine JLh (E2 d) (Gi G (YK F s bf af d m) ZP ⟨G,G,G,G,G,G,U⟩) G (JLm (E2 d) G (JLm (I64 0) G (G5 (l (Gs (⟨[E2 d,I64 0],[],U,G,⟨⟨_,G,.conv (.same G)⟩,⟨_,G,.conv (.same G)⟩,U⟩,G,congrArg (fun r:(List Int)×Int=>(.tup [E2 r.1,I64 r.2]:AV)) (Pc h)⟩))))))

def aR (F:Nat) :Option Bool:=
 bnd (eO) fun h=>
 bnd (Q7 1 4 0) fun z=>
 bnd (Q7 2 4 1) fun r7=>
 bnd (Q7 2 4 1) fun r8=>
 bnd (Q7 3 4 0) fun r9=>
 bnd (mC F h [(Box.mk 1 ByteArray.empty 40 false 0 0 1 0 false),(Box.mk 2 ByteArray.empty 40 false 0 0 2 0 false),(Box.mk 3 ByteArray.empty 40 false 0 1 2 0 false)] [z,r7] [r8,r9]) fun n=>
 bnd (Q7 1 0 0) fun p=>
 bnd (Q7 2 3 0) fun q=>
 bnd (Q7 2 3 0) fun r=>
 bnd (mC F h [(Box.mk 1 ByteArray.empty 40 false 0 0 1 0 false),(Box.mk 2 ByteArray.empty 40 false 0 0 2 0 false),(Box.mk 3 ByteArray.empty 40 false 0 1 2 0 false)] [p,q] [r]) fun o=>
 bnd (Q7 1 4 0) fun i=>
 bnd (Q7 2 4 1) fun j=>
 bnd (Q7 2 4 1) fun k=>
 bnd (Q7 3 4 0) fun l=>
 bnd (aX F h [(Box.mk 1 ByteArray.empty 40 false 0 0 1 0 false),(Box.mk 2 ByteArray.empty 40 false 0 0 2 0 false),(Box.mk 3 ByteArray.empty 40 false 0 1 2 0 false)] 3 (Ya.mk ([[i,j],[k,l],[]]) [])) fun a=>
 bnd (eG F h [(Box.mk 1 ByteArray.empty 40 false 0 0 1 0 false),(Box.mk 2 ByteArray.empty 40 false 0 0 2 0 false),(Box.mk 3 ByteArray.empty 40 false 0 1 2 0 false)] 3 (Ya.mk ([[i,j],[k,l],[]]) [])) fun d=>
 bnd (bW h [(Box.mk 1 ByteArray.empty 40 false 0 0 1 0 false),(Box.mk 2 ByteArray.empty 40 false 0 0 2 0 false),(Box.mk 3 ByteArray.empty 40 false 0 1 2 0 false)] 4 (Ya.mk ([[i,j],[k,l],[]]) [])) fun b=>
 chk (n.2+o.2) fun s=>
 chk (s+a.2) fun t=>
 chk (t+d.2) fun c=>
 bnd (bif ((decide (c=0))&&(decide (b.2=231))) then Ja n.1 [1,2,3] else some default) fun e=>
 bnd (bif (((decide (c=0))&&(decide (b.2=231)))&&e) then Ja o.1 [1,2] else some default) fun f=>
 bnd (bif ((((((decide (c=0))&&(decide (b.2=231)))&&e)&&f)&&(decide (d.1=1)))&&(decide ((a.1.length:Int)=3))) then Jo a.1 0 some else some default) fun u=>
 bnd (bif ((((((decide (c=0))&&(decide (b.2=231)))&&e)&&f)&&(decide (d.1=1)))&&(decide ((a.1.length:Int)=3))) then Jo a.1 2 some else some default) fun v=>
 bnd (bif ((((((decide (c=0))&&(decide (b.2=231)))&&e)&&f)&&(decide (d.1=1)))&&(decide ((a.1.length:Int)=3))) then chk ((u.length:Int)+(v.length:Int)) some else some 0) fun g=>
 bnd (bif (((((((decide (c=0))&&(decide (b.2=231)))&&e)&&f)&&(decide (d.1=1)))&&(decide ((a.1.length:Int)=3)))&&(decide (g=0))) then Jo a.1 1 some else some default) fun w=>
 bnd (bif (((((((decide (c=0))&&(decide (b.2=231)))&&e)&&f)&&(decide (d.1=1)))&&(decide ((a.1.length:Int)=3)))&&(decide (g=0))) then Ja w [2] else some default) fun m=>
 bnd (bif ((((((((decide (c=0))&&(decide (b.2=231)))&&e)&&f)&&(decide (d.1=1)))&&(decide ((a.1.length:Int)=3)))&&(decide (g=0)))&&m) then dD [(Box.mk 1 ByteArray.empty 40 false 0 0 1 0 false),(Box.mk 2 ByteArray.empty 40 false 0 0 2 0 false),(Box.mk 3 ByteArray.empty 40 false 0 1 2 0 false)] 1 else some default) fun x=>
 bnd (bif ((((((((decide (c=0))&&(decide (b.2=231)))&&e)&&f)&&(decide (d.1=1)))&&(decide ((a.1.length:Int)=3)))&&(decide (g=0)))&&m) then Ja x [2,3] else some default) fun y=>
 some (((((((((decide (c=0))&&(decide (b.2=231)))&&e)&&f)&&(decide (d.1=1)))&&(decide ((a.1.length:Int)=3)))&&(decide (g=0)))&&m)&&y)
abbrev Ni:List Box:=[(Box.mk 1 ByteArray.empty 40 false 0 0 1 0 false),(Box.mk 2 ByteArray.empty 40 false 0 0 2 0 false),(Box.mk 3 ByteArray.empty 40 false 0 1 2 0 false)]
abbrev Nj (a:Int) (b:Int×Int):Bool:=((decide (a=0))&&(decide (b.2=231)))
abbrev Nk (a:G2) (b:G2) (c:G2) (d:G2):List AV:=[LS 1 (E1) ([[a,b],[c,d],[]]),LS 1 (E2) ([]:List (List Int))]
abbrev Nm:List AV:=[I64 3,ST P5,U8 40,BL false,I64 0,I64 1,I64 2,U8 0,BL false]
abbrev Nn:List AV:=[I64 2,ST P5,U8 40,BL false,I64 0,I64 0,I64 2,U8 0,BL false]
abbrev Np:List AV:=[I64 1,ST P5,U8 40,BL false,I64 0,I64 0,I64 1,U8 0,BL false]
abbrev Nq:List AV:=[I64 0,ST P5,U8 0,BL false,I64 0,I64 0,I64 0,U8 0,BL false]
theorem iU (F:Nat)  (r:Bool) (h:aR F =some r):Pure Ek 7 [] (·=BL r):=by
 unfold aR at h
 refine Gy [.tmp 0] Tryz.func7 G G (Jr fun d6=>(JLm (BL false) G (G5 (d6 (Jr fun d7=>?_)))))
 obtain⟨o,d8,h⟩:=Gd h
 refine JLh (.agg (Gq.cs o)) (Gi G (pO  o d8) H6e U) G (JLh (.ptr 1009 0) (Jp 1009 13 vK G G) G (J7 (u:=.junk) (Hv (u:=.agg (Gq.cs o)) (ds:=(Gq.cs o)) oS G G G G G G G G) (G5 (d7 (Gw [(1,Ed o)] [] 1009 rfl rfl rfl U rfl (by exact⟨.ptr,U⟩) ?_)))))
 refine Jr fun d9=>(JLh (.agg Np) (Jq (cs:=Np) [(0,1),(1,1),(2,1),(3,1),(4,1),(5,1),(6,1),(7,1),(8,1)] Nq [E0,.string ByteArray.empty,.int .u8 0,.bool false,E0,E0,E0,.int .u8 0,.bool false] hY fG (zzQ G) G G) G (JLh (.agg Nn) (Jq (cs:=Nn) [(0,1),(1,1),(2,1),(3,1),(4,1),(5,1),(6,1),(7,1),(8,1)] Nq [E0,.string ByteArray.empty,.int .u8 0,.bool false,E0,E0,E0,.int .u8 0,.bool false] hY fG (zzQ G) G G) G (JLh (.agg Nm) (Jq (cs:=Nm) [(0,1),(1,1),(2,1),(3,1),(4,1),(5,1),(6,1),(7,1),(8,1)] Nq [E0,.string ByteArray.empty,.int .u8 0,.bool false,E0,E0,E0,.int .u8 0,.bool false] hY fG (zzQ G) G G) G (JLh (E3 Ni) (Hf (xs:=[.agg Np,.agg Nn,.agg Nm]) G ⟨G,G,G,G,G,G,U⟩ J3 dX G G G G) G (JLm (E3 Ni) G (G5 (d9 ?_)))))))
 refine Js fun e0=>?_
 obtain⟨r6,e1,h⟩:=Gd h
 obtain⟨r7,e2,h⟩:=Gd h
 obtain⟨r8,e3,h⟩:=Gd h
 obtain⟨r9,e4,h⟩:=Gd h
 obtain⟨l,a6,h⟩:=Gd h
 refine JC_d0 Jd (by kernel_rfl) (Dq (.agg (Gq.cs o)) (Gj J4 G G G) G (Dq (E3 Ni) (G3 G G) G (Dq (.agg (G2.cs r6)) (Gi (args:=[I64 1,I64 4,I64 0]) G (Qb 1 4 0 r6 e1) dH ⟨G,G,G,G,G,G,U⟩) G (Dq (.agg (G2.cs r7)) (Gi (args:=[I64 2,I64 4,I64 1]) G (Qb 2 4 1 r7 e2) dH ⟨G,G,G,G,G,G,U⟩) G (Dq (E1 [r6,r7]) (Hf (xs:=[.agg (G2.cs r6),.agg (G2.cs r7)]) G ⟨G,G,G,G,U⟩ H5 Yd G G G G) G (Dq (.agg (G2.cs r8)) (Gi (args:=[I64 2,I64 4,I64 1]) G (Qb 2 4 1 r8 e3) dH ⟨G,G,G,G,G,G,U⟩) G (Dq (.agg (G2.cs r9)) (Gi (args:=[I64 3,I64 4,I64 0]) G (Qb 3 4 0 r9 e4) dH ⟨G,G,G,G,G,G,U⟩) G (Dq (E1 [r8,r9]) (Hf (xs:=[.agg (G2.cs r8),.agg (G2.cs r9)]) G ⟨G,G,G,G,U⟩ H5 Yd G G G G) G (Dq (.tup [E2 l.1,I64 l.2]) (Gi (args:=[.agg (Gq.cs o),E3 Ni,E1 [r6,r7],E1 [r8,r9]]) G (vD F o Ni [r6,r7] [r8,r9] l a6) ZT ⟨G,G,G,G,G,G,G,G,U⟩) G (Dq (.tup [E2 l.1,I64 l.2]) (G3 G G) G (Dq (E2 l.1) (Hx G G G) G (Dq (I64 l.2) (Hx G G G) G (Dq (E2 l.1) (G7 G G) G ?_)))))))))))))
 refine Dq (I64 l.2) (G7 G G) G (Dnil (e0 (Js fun a7=>?_)))
 obtain⟨q,a8,h⟩:=Gd h
 obtain⟨s,a9,h⟩:=Gd h
 obtain⟨t,b0,h⟩:=Gd h
 obtain⟨m,b1,h⟩:=Gd h
 refine JC_d0 Jd (by kernel_rfl) (Dq (.agg (Gq.cs o)) (Gj J4 G G G) G (Dq (E3 Ni) (G3 G G) G (Dq (.agg (G2.cs q)) (Gi (args:=[I64 1,I64 0,I64 0]) G (Qb 1 0 0 q a8) dH ⟨G,G,G,G,G,G,U⟩) G (Dq (.agg (G2.cs s)) (Gi (args:=[I64 2,I64 3,I64 0]) G (Qb 2 3 0 s a9) dH ⟨G,G,G,G,G,G,U⟩) G (Dq (E1 [q,s]) (Hf (xs:=[.agg (G2.cs q),.agg (G2.cs s)]) G ⟨G,G,G,G,U⟩ H5 Yd G G G G) G (Dq (.agg (G2.cs t)) (Gi (args:=[I64 2,I64 3,I64 0]) G (Qb 2 3 0 t b0) dH ⟨G,G,G,G,G,G,U⟩) G (Dq (E1 [t]) (Hf (xs:=[.agg (G2.cs t)]) G ⟨G,G,U⟩ H5 Yd G G G G) G (Dq (.tup [E2 m.1,I64 m.2]) (Gi (args:=[.agg (Gq.cs o),E3 Ni,E1 [q,s],E1 [t]]) G (vD F o Ni [q,s] [t] m b1) ZT ⟨G,G,G,G,G,G,G,G,U⟩) G (Dq (.tup [E2 m.1,I64 m.2]) (G3 G G) G (Dq (E2 m.1) (Hx G G G) G (Dq (I64 m.2) (Hx G G G) G (Dq (E2 m.1) (G7 G G) G (Dq (I64 m.2) (G7 G G) G (Dnil ?_))))))))))))))
 refine a7 (Jr fun b2=>?_)
 obtain⟨e,b3,h⟩:=Gd h
 refine JLh (.agg (G2.cs e)) (Gi G (Qb 1 4 0 e b3) dH ⟨G,G,G,G,G,G,U⟩) G ?_
 obtain⟨g,b4,h⟩:=Gd h
 refine JLh (.agg (G2.cs g)) (Gi G (Qb 2 4 1 g b4) dH ⟨G,G,G,G,G,G,U⟩) G (JLh (E1 [e,g]) (Hf (xs:=[.agg (G2.cs e),.agg (G2.cs g)]) G ⟨G,G,G,G,U⟩ H5 Yd G G G G) G ?_)
 obtain⟨i,b5,h⟩:=Gd h
 refine JLh (.agg (G2.cs i)) (Gi G (Qb 2 4 1 i b5) dH ⟨G,G,G,G,G,G,U⟩) G ?_
 obtain⟨j,b6,h⟩:=Gd h
 refine JLh (.agg (G2.cs j)) (Gi G (Qb 3 4 0 j b6) dH ⟨G,G,G,G,G,G,U⟩) G (JLh (E1 [i,j]) (Hf (xs:=[.agg (G2.cs i),.agg (G2.cs j)]) G ⟨G,G,G,G,U⟩ H5 Yd G G G G) G (JLh (LS 1 (E1) ([[e,g],[i,j],[]])) (G6f (xs:=[E1 [e,g],E1 [i,j],E1 ([]:List G2)]) G ⟨.inl G,G,.inl G,G,.inr ⟨_,G,G⟩,G,U⟩ Hn gN G G G G) G (JLh (.agg (Nk e g i j)) (Jq (cs:=(Nk e g i j)) [(0,1),(1,1)] [LS 1 (E1) ([]:List (List G2)),LS 1 (E2) ([]:List (List Int))] [.slice none 0 0,.slice none 0 0] GA tQ ⟨.inr ⟨_,G,G⟩,.inr ⟨_,G,G⟩,U⟩ G G) G (JLh (.ptr 1010 0) (Jp 1010 2 vJ G G) G (J7 (u:=.junk) (Hv (u:=.agg (Nk e g i j)) (ds:=(Nk e g i j)) tU G G G G G G G G) (G5 (b2 ?_)))))))
 refine fzQ [(1,Ed o),(2,E3 Ni),(3,E2 l.1),(4,I64 l.2),(5,E2 m.1),(6,I64 m.2),(7,.dptr (Nk e g i j))] [] 1010 rfl rfl rfl U rfl (Jr fun b7=>(JLh (.agg (Gq.cs o)) (Gj J4 G G G) G (JLm (E3 Ni) G (JLh (.agg (Nk e g i j)) (Gj R5 G G G) G ?_))))
 obtain⟨a,b8,h⟩:=Gd h
 refine JLh (.tup [LS 1 (E2) a.1,I64 a.2]) (Gi G (tG F o Ni 3 (Ya.mk ([[e,g],[i,j],[]]) []) a b8) yW ⟨G,G,G,G,G,G,G,G,U⟩) G (JLm (.tup [LS 1 (E2) a.1,I64 a.2]) G (JLh (LS 1 (E2) a.1) (Hx G G G) G (JLh (I64 a.2) (Hx G G G) G (JLm (LS 1 (E2) a.1) G (JLm (I64 a.2) G (G5 (b7 ?_)))))))
 refine Jr fun b9=>(JLh (.agg (Gq.cs o)) (Gj J4 G G G) G (JLm (E3 Ni) G (JLh (.agg (Nk e g i j)) (Gj R5 G G G) G ?_)))
 obtain⟨c,c0,h⟩:=Gd h
 refine JLh (.tup [I64 c.1,I64 c.2]) (Gi G (wY F o Ni 3 (Ya.mk ([[e,g],[i,j],[]]) []) c c0) ZU ⟨G,G,G,G,G,G,G,G,U⟩) G (JLm (.tup [I64 c.1,I64 c.2]) G (JLh (I64 c.1) (Hx G G G) G (JLh (I64 c.2) (Hx G G G) G (JLm (I64 c.1) G (JLm (I64 c.2) G (G5 (b9 (Jr fun c1=>(JLh (.agg (Gq.cs o)) (Gj J4 G G G) G (JLm (E3 Ni) G (JLh (.agg (Nk e g i j)) (Gj R5 G G G) G ?_)))))))))))
 obtain⟨b,c2,h⟩:=Gd h
 refine JLh (.tup [I64 b.1,I64 b.2]) (Gi G (pY o Ni 4 (Ya.mk ([[e,g],[i,j],[]]) []) b c2) yY ⟨G,G,G,G,G,G,G,G,U⟩) G (JLm (.tup [I64 b.1,I64 b.2]) G (JLh (I64 b.1) (Hx G G G) G (JLh (I64 b.2) (Hx G G G) G (JLm (I64 b.1) G (JLm (I64 b.2) G (G5 (c1 (Js fun c3=>?_))))))))
 obtain⟨e5,c4,h⟩:=R2 h
 obtain⟨e6,c5,h⟩:=R2 h
 obtain⟨d,c6,h⟩:=R2 h
 obtain⟨k,c7,h⟩:=Gd h
 obtain⟨n,c8,h⟩:=Gd h
 obtain⟨w,c9,h⟩:=Gd h
 obtain⟨x,d0,h⟩:=Gd h
 obtain⟨p,d1,h⟩:=Gd h
 obtain⟨z,d2,h⟩:=Gd h
 obtain⟨v,d3,h⟩:=Gd h
 obtain⟨a0,d4,h⟩:=Gd h
 obtain⟨a1,d5,h⟩:=Gd h
 refine JC_d0 Jd (by kernel_rfl) (Dq (I64 l.2) (G3 G G) G (Dq (I64 m.2) (G3 G G) G (Dq (I64 e5) (Hs c4 G G G) G (Dq (I64 a.2) (G3 G G) G (Dq (I64 e6) (Hs c5 G G G) G (Dq (I64 c.2) (G3 G G) G (Dq (I64 d) (Hs c6 G G G) G (Dq (BL (decide (d=0))) (Qc G G G) G (Dq (BL (decide (d=0))) (G3 G G) G (Do (I64 b.2) [] G .sct U (fun hc=>G3 G G) G (Do (BL (decide (b.2=231))) [80] G .sct ⟨Ua,U⟩ (fun hc=>Qc G G G) G (Dq (BL (Nj d b)) (J9 G G G G) G (Dq (BL (Nj d b)) (G3 G G) G ?_)))))))))))))
 refine Do (E2 l.1) [] G .sct U (fun hc=>G3 G G) G (Do (E2 [1,2,3]) [] G .sct U (fun hc=>Hf (xs:=[I64 1,I64 2,I64 3]) G ⟨G,G,G,G,G,G,U⟩ Gz Zq G G G G) G (Do (BL k) [84,85] G .sct ⟨Ua,Ua,U⟩ (fun hc=>Gi (args:=[E2 l.1,E2 [1,2,3]]) G (Jv l.1 [1,2,3] k (Gv hc c7)) dI ⟨G,G,G,G,U⟩) G (Dq (BL ((Nj d b)&&k)) (J9 G G G G) G (Dq (BL ((Nj d b)&&k)) (G3 G G) G (Do (E2 m.1) [] G .sct U (fun hc=>G3 G G) G (Do (E2 [1,2]) [] G .sct U (fun hc=>Hf (xs:=[I64 1,I64 2]) G ⟨G,G,G,G,U⟩ Gz Zq G G G G) G (Do (BL n) [89,90] G .sct ⟨Ua,Ua,U⟩ (fun hc=>Gi (args:=[E2 m.1,E2 [1,2]]) G (Jv m.1 [1,2] n (Gv hc c8)) dI ⟨G,G,G,G,U⟩) G (Dq (BL (((Nj d b)&&k)&&n)) (J9 G G G G) G (Dq (BL (((Nj d b)&&k)&&n)) (G3 G G) G (Do (I64 c.1) [] G .sct U (fun hc=>G3 G G) G (Do (BL (decide (c.1=1))) [94] G .sct ⟨Ua,U⟩ (fun hc=>Qc G G G) G (Dq (BL ((((Nj d b)&&k)&&n)&&(decide (c.1=1)))) (J9 G G G G) G (Dq (BL ((((Nj d b)&&k)&&n)&&(decide (c.1=1)))) (G3 G G) G ?_)))))))))))))
 refine Do (LS 1 (E2) a.1) [] G .sct U (fun hc=>G3 G G) G (Do (Ej a.1.length) [98] G .sct ⟨Ua,U⟩ (fun hc=>Q8 (f:=(E2)) (xs:=a.1) Hz G G) G (Do (BL (decide ((a.1.length:Int)=3))) [99] G .sct ⟨Ua,U⟩ (fun hc=>Qc G G G) G (Dq (BL (((((Nj d b)&&k)&&n)&&(decide (c.1=1)))&&(decide ((a.1.length:Int)=3)))) (J9 G G G G) G (Dq (BL (((((Nj d b)&&k)&&n)&&(decide (c.1=1)))&&(decide ((a.1.length:Int)=3)))) (G3 G G) G (Do (LS 1 (E2) a.1) [] G .sct U (fun hc=>G3 G G) G (Do (.dptr [E2 w]) [103] G .sct ⟨Ua,U⟩ (fun hc=>(match Jt (Gv hc c9) with | ⟨_,hm_,hy_⟩=>Gr (f:=(E2)) (xs:=a.1) (y:=w) G G G Hz hy_ hm_)) G (Do (E2 w) [104] G .sct ⟨Ua,U⟩ (fun hc=>Ge He G G G) G (Do (Ej w.length) [105] G .sct ⟨Ua,U⟩ (fun hc=>Q8 (f:=I64) (xs:=w) Gz G G) G (Do (LS 1 (E2) a.1) [] G .sct U (fun hc=>G3 G G) G (Do (.dptr [E2 x]) [107] G .sct ⟨Ua,U⟩ (fun hc=>(match Jt (Gv hc d0) with | ⟨_,hm_,hy_⟩=>Gr (f:=(E2)) (xs:=a.1) (y:=x) G G G Hz hy_ hm_)) G (Do (E2 x) [108] G .sct ⟨Ua,U⟩ (fun hc=>Ge He G G G) G (Do (Ej x.length) [109] G .sct ⟨Ua,U⟩ (fun hc=>Q8 (f:=I64) (xs:=x) Gz G G) G (Do (I64 p) [106,110] G .sct ⟨Ua,Ua,U⟩ (fun hc=>Hs (aM (Gv hc d1)) G G G) G ?_)))))))))))))
 refine Do (BL (decide (p=0))) [111] G .sct ⟨Ua,U⟩ (fun hc=>Qc G G G) G (Dq (BL ((((((Nj d b)&&k)&&n)&&(decide (c.1=1)))&&(decide ((a.1.length:Int)=3)))&&(decide (p=0)))) (J9 G G G G) G (Dq (BL ((((((Nj d b)&&k)&&n)&&(decide (c.1=1)))&&(decide ((a.1.length:Int)=3)))&&(decide (p=0)))) (G3 G G) G (Do (LS 1 (E2) a.1) [] G .sct U (fun hc=>G3 G G) G (Do (.dptr [E2 z]) [115] G .sct ⟨Ua,U⟩ (fun hc=>(match Jt (Gv hc d2) with | ⟨_,hm_,hy_⟩=>Gr (f:=(E2)) (xs:=a.1) (y:=z) G G G Hz hy_ hm_)) G (Do (E2 z) [116] G .sct ⟨Ua,U⟩ (fun hc=>Ge He G G G) G (Do (E2 [2]) [] G .sct U (fun hc=>Hf (xs:=[I64 2]) G ⟨G,G,U⟩ Gz Zq G G G G) G (Do (BL v) [117,118] G .sct ⟨Ua,Ua,U⟩ (fun hc=>Gi (args:=[E2 z,E2 [2]]) G (Jv z [2] v (Gv hc d3)) dI ⟨G,G,G,G,U⟩) G (Dq (BL (((((((Nj d b)&&k)&&n)&&(decide (c.1=1)))&&(decide ((a.1.length:Int)=3)))&&(decide (p=0)))&&v)) (J9 G G G G) G (Dq (BL (((((((Nj d b)&&k)&&n)&&(decide (c.1=1)))&&(decide ((a.1.length:Int)=3)))&&(decide (p=0)))&&v)) (G3 G G) G (Do (E3 Ni) [] G .sct U (fun hc=>G3 G G) G (Do (E2 a0) [122] G .sct ⟨Ua,U⟩ (fun hc=>Gi (args:=[E3 Ni,I64 1]) G (nE Ni 1 a0 (Gv hc d4)) yX ⟨G,G,G,G,U⟩) G (Do (E2 [2,3]) [] G .sct U (fun hc=>Hf (xs:=[I64 2,I64 3]) G ⟨G,G,G,G,U⟩ Gz Zq G G G G) G (Do (BL a1) [123,124] G .sct ⟨Ua,Ua,U⟩ (fun hc=>Gi (args:=[E2 a0,E2 [2,3]]) G (Jv a0 [2,3] a1 (Gv hc d5)) dI ⟨G,G,G,G,U⟩) G ?_)))))))))))))
 refine Dq (BL ((((((((Nj d b)&&k)&&n)&&(decide (c.1=1)))&&(decide ((a.1.length:Int)=3)))&&(decide (p=0)))&&v)&&a1)) (J9 G G G G) G (Dq (BL ((((((((Nj d b)&&k)&&n)&&(decide (c.1=1)))&&(decide ((a.1.length:Int)=3)))&&(decide (p=0)))&&v)&&a1)) (G7 G G) G (Dnil (c3 (Gs (fin1 BL h)))))

def aS (F:Nat) (s:Gq) (bx:List Box) (calls:Int) (call:Int) (p:Ya):Option Bool:=
 bnd (cF s bx) fun r=>
 bnd (bif (!(!r)) then aQ p else some default) fun r5=>
 bif ((!r)||(!r5)) then
 (bnd (aR F) fun r7=>
  some r7)
 else
 (bnd (aB s) fun a=>
  bnd (Zj bx) fun e=>
  bnd (aD p) fun d=>
  bnd (bW (Gq.mk (a.Columns.1.map Gx.pl) (a.Covers.1.map Ha.pl) a.Light a.Rows.1 a.Frames.1 (a.Tanks.1.map Hj.pl) a.Gk) e.1 calls (Ya.mk (d.States.1.map Prod.fst) (d.Water.1.map Prod.fst))) fun b=>
  bnd (Qy F s bx calls p) fun c=>
  bnd (bif (!((decide (b.1≠c.1))||(decide (b.2≠c.2)))) then fJ e.1 calls else some default) fun g=>
  bnd (bif (!((decide (b.1≠c.1))||(decide (b.2≠c.2)))) then Y5 bx calls else some default) fun h=>
  bnd (bif (!(((decide (b.1≠c.1))||(decide (b.2≠c.2)))||(!(g==h)))) then dD e.1 call else some default) fun t=>
  bnd (bif (!(((decide (b.1≠c.1))||(decide (b.2≠c.2)))||(!(g==h)))) then Yi bx call else some default) fun u=>
  bnd (bif (!(((decide (b.1≠c.1))||(decide (b.2≠c.2)))||(!(g==h)))) then Ja t u else some default) fun v=>
  bif ((((decide (b.1≠c.1))||(decide (b.2≠c.2)))||(!(g==h)))||(!v)) then
  (some false)
  else
  (bnd (aX F (Gq.mk (a.Columns.1.map Gx.pl) (a.Covers.1.map Ha.pl) a.Light a.Rows.1 a.Frames.1 (a.Tanks.1.map Hj.pl) a.Gk) e.1 calls (Ya.mk (d.States.1.map Prod.fst) (d.Water.1.map Prod.fst))) fun i=>
   bnd (Re F s bx calls p) fun k=>
   bnd (eG F (Gq.mk (a.Columns.1.map Gx.pl) (a.Covers.1.map Ha.pl) a.Light a.Rows.1 a.Frames.1 (a.Tanks.1.map Hj.pl) a.Gk) e.1 calls (Ya.mk (d.States.1.map Prod.fst) (d.Water.1.map Prod.fst))) fun m=>
   bnd (aN F s bx calls p) fun n=>
   bif ((((decide (i.2≠k.2))||(decide (m.2≠n.2)))||(decide (m.1≠n.1)))||(decide ((i.1.length:Int)≠(k.1.length:Int)))) then
   (some false)
   else
   (each (fun w x (y:Unit) q=>
     Jo k.1 (x:Int) fun z=>
     bnd (Ja w z) fun a0=>
     bif (!a0) then
     (some false)
     else
     (q ()))
    (fun(y:Unit)=>
     bnd (aE a s) fun f=>
     bnd (bif f then Zk e bx else some default) fun j=>
     bnd (bif (f&&j) then aF d p else some default) fun l=>
     bnd (bif ((f&&j)&&l) then eM i.1 else some default) fun o=>
     bnd (bif (((f&&j)&&l)&&o) then aR F else some default) fun a1=>
     some ((((f&&j)&&l)&&o)&&a1)) i.1 0 ())))
theorem Je3 (s:Gq) (bx:List Box) (calls call:Int) (p:Ya):∀ u∈([.agg (Gq.cs s),E3 bx,I64 calls,I64 call,.agg [LS 1 (E1) p.States,LS 1 (E2) p.Water]]:List AV),Pl u:=by
 have I:∀ xs:List Int,Pl (E2 xs):=fun xs=>.ls fun x u hu=>by rcases Pu.1 hu with rfl; exact .sc
 intro u hu
 repeat (first
  | exact Pl.sc
  | exact I _
  | refine Pl.ls (fun x u hu=>?_)
  | refine Pl.agg (fun u hu=>?_)
  | (rcases Pv.1 hu with rfl | hu)
  | (rcases Ps.1 hu with hu | hu)
  | (cases hu))
abbrev Nr (a:Yh):List AV:=[E4 (a.Columns.1.map Gx.pl),E5 (a.Covers.1.map Ha.pl),I64 a.Light.Kilos,I64 a.Light.X,I64 a.Light.Y,I64 a.Light.Z,E8 a.Rows.1,E7 a.Frames.1,E9 (a.Tanks.1.map Hj.pl),I64 a.Gk.Tolerance,I64 a.Gk.Trim,I64 a.Gk.List_,I64 a.Gk.Stability]
abbrev Ns (a:iO):List AV:=[LS 1 (E1) (a.States.1.map Prod.fst),LS 1 (E2) (a.Water.1.map Prod.fst)]
abbrev Nt (a:Int×Int) (b:Int×Int):Bool:=((decide (a.1≠b.1))||(decide (a.2≠b.2)))
abbrev Nu:Nat×Jn:=(1003,.box 32 [.junk,.junk,.junk,.junk,.junk,.junk,.junk,.junk,.junk,.junk,.junk,.junk,.junk])
abbrev Nv:Nat×Jn:=(1004,.box 37 [.junk,.junk])
abbrev Nw (a:iO):Nat×Jn:=(1004,.box 37 [LT 1 (LT 4 G2.av) a.States,LT 1 (LT 1 I64) a.Water])
theorem mV (F:Nat) (s:Gq) (bx:List Box) (calls:Int) (call:Int) (p:Ya) (h:aS F s bx calls call p=some true):Pure Ek 3 [.agg (Gq.cs s),E3 bx,I64 calls,I64 call,.agg [LS 1 (E1) p.States,LS 1 (E2) p.Water]] (·=BL true):=by
 unfold aS at h
 refine Gb7 Tryz.func3 G G (fun u hu=>?_) ?_
 .exact Je3 s bx calls call p u hu
 refine jJ (fun K1 hF1=>G1 (JLh (.ptr 1001 0) (Jy (cs:=(Gq.cs s)) 1001 G G G G G) G (JLh (.ptr 1002 0) (Jy (cs:=(N8 p)) 1002 G G G G G) G (JLm (BL false) G (G5 (hF1 _ _ (uX [(1,E3 bx),(2,I64 calls),(3,I64 call),(5,Ed s),(9,.ptr 1002 0)] [(1002,.box 37 (N8 p))] 1001 rfl rfl rfl ⟨⟨_,rfl,.boxEq rfl rfl⟩,U⟩ rfl (by repeat' (first | exact .ptr | constructor)) ?_)))))))
 refine uX [(1,E3 bx),(2,I64 calls),(3,I64 call),(5,Ed s),(9,.dptr (N8 p))] [] 1002 rfl rfl rfl U rfl (by repeat' (first | exact .ptr | constructor)) (jJ (fun K2 hF2=>Jr fun f0=>(JLh (.agg (Gq.cs s)) (Gj J4 G G G) G (JLm (E3 bx) G ?_))))
 obtain⟨r4,f1,h⟩:=Gd h
 refine JLh (BL r4) (Gi G (uS s bx r4 f1) He0 ⟨G,G,G,G,U⟩) G (JLh (BL (!r4)) (Qj (b:=r4) G G) G (JLm (BL (!r4)) G (JLo (.agg (N8 p)) [] G .scf U (fun hc=>Gj R5 G G G) G ?_)))
 obtain⟨r5,f2,h⟩:=Gd h
 refine JLo (BL r5) [32] G .scf ⟨Ua,U⟩ (fun hc=>Gi (args:=[.agg (N8 p)]) G (sC p r5 (Gv hc f2)) Hdf ⟨G,G,U⟩) G (JLo (BL (!r5)) [33] G .scf ⟨Ua,U⟩ (fun hc=>Qj (b:=r5) G G) G (JLh (BL ((!r4)||(!r5))) (Rm G G G G) G (G5 (f0 (JCc G h (fun h hb=>?_) (fun h hb=>?_))))))
 ·
  refine Jr fun f3=>?_
  obtain⟨r7,f4,h⟩:=Gd h
  refine JLh (BL r7) (Gi G (iU F r7 f4) G72 U) G (JLm (BL r7) G (G5 (f3 (Gs (congrArg BL (Pc h))))))
 ·
  refine Gn (hF2 _ _ (jJ (fun K8 hF8=>?_)))
  obtain⟨c,a4,h⟩:=Gd h
  obtain⟨i,z,h⟩:=Gd h
  obtain⟨a,a0,h⟩:=Gd h
  refine J4e [6,7,8,10] [[[false,false,false,false],[true,false,false,false],[false,true,false,false],[true,true,false,false]],[[false,false,false,false],[true,false,false,false],[false,true,false,false],[true,true,false,false]],[[false,false,false,false],[true,false,false,false],[false,true,false,false],[true,true,false,false]],[[false,false,false,false],[true,false,false,false],[false,true,false,false],[true,true,false,false]],[[false,false,false,false],[true,false,false,false],[false,true,false,false],[true,true,false,false]],[[false,false,false,false],[true,false,false,false],[false,true,false,false],[true,true,false,false]],[[false,false,false,false],[false,true,false,false]],[[false,false,false,false],[true,false,false,false]],[[true,true,false,false]],[[true,true,true,false]],[[true,true,true,false]]] [([false,false,false,false],[]),([true,false,false,false],[Nu]),([false,true,false,false],[Nv]),([true,true,false,false],[Nu,Nv]),([true,true,true,false],[(1003,.box 32 (Yh.cs c)),Nv]),([true,true,true,true],[(1003,.box 32 (Yh.cs c)),(Nw a)])] Jd (by kernel_rfl) rfl rfl ?_
  refine HG (u:=.agg (Gq.cs s)) G ⟨.ro G G (Gp (Gj J4 G G G) G),.ro G G (Gp (Gj J4 G G G) G),.ro G G (Gp (Gj J4 G G G) G),.ro G G (Gp (Gj J4 G G G) G),U⟩ ?_ G
  refine HG (u:=.agg (Yh.cs c)) G ⟨.ro G G (Gp (Gi G (bB s c a4) xF ⟨G,G,U⟩) G),.ro G G (Gp (Gi G (bB s c a4) xF ⟨G,G,U⟩) G),.ro G G (Gp (Gi G (bB s c a4) xF ⟨G,G,U⟩) G),.ro G G (Gp (Gi G (bB s c a4) xF ⟨G,G,U⟩) G),U⟩ ?_ G
  refine HG (u:=E3 bx) G ⟨.ro G G (Gp (G3 G G) G),.ro G G (Gp (G3 G G) G),.ro G G (Gp (G3 G G) G),.ro G G (Gp (G3 G G) G),U⟩ ?_ G
  refine HG (u:=LT 9 Box.av i) G ⟨.ro G G (Gp (Gi G (aT bx i z) xE ⟨G,G,U⟩) G),.ro G G (Gp (Gi G (aT bx i z) xE ⟨G,G,U⟩) G),.ro G G (Gp (Gi G (aT bx i z) xE ⟨G,G,U⟩) G),.ro G G (Gp (Gi G (aT bx i z) xE ⟨G,G,U⟩) G),U⟩ ?_ G
  refine HG (u:=.agg (N8 p)) G ⟨.ro G G (Gp (Gj R5 G G G) G),.ro G G (Gp (Gj R5 G G G) G),.ro G G (Gp (Gj R5 G G G) G),.ro G G (Gp (Gj R5 G G G) G),U⟩ ?_ G
  refine HG (u:=.agg [LT 1 (LT 4 G2.av) a.States,LT 1 (LT 1 I64) a.Water]) G ⟨.ro G G (Gp (Gi G (bC p a a0) tW ⟨G,G,U⟩) G),.ro G G (Gp (Gi G (bC p a a0) tW ⟨G,G,U⟩) G),.ro G G (Gp (Gi G (bC p a a0) tW ⟨G,G,U⟩) G),.ro G G (Gp (Gi G (bC p a a0) tW ⟨G,G,U⟩) G),U⟩ ?_ G
  refine HG (u:=.ptr 1003 0) G ⟨.w [1003] G G (Gp (Jp 1003 13 vK G G) G) G G ⟨G,U⟩,.w [1004,1003] G G (Gp (Jp 1003 13 vK G G) G) G G ⟨G,G,U⟩,U⟩ ?_ G
  refine HG (u:=.ptr 1004 0) G ⟨.w [1004] G G (Gp (Jp 1004 2 vJ G G) G) G G ⟨G,U⟩,.w [1003,1004] G G (Gp (Jp 1004 2 vJ G G) G) G G ⟨G,G,U⟩,U⟩ ?_ G
  refine J52 (u:=.junk) G ⟨.w [1003,1004] G G (Gp (Hv (u:=.agg (Yh.cs c)) (ds:=(Yh.cs c)) oS G G G G G G G G) G) G G ⟨G,G,U⟩,U⟩ (HG (u:=LT 9 Box.av i) G ⟨.ro G G (Gp (G7 G G) G),U⟩ ?_ G)
  refine J52 (u:=.junk) G ⟨.w [1003,1004] G G (Gp (Hv (u:=.agg [LT 1 (LT 4 G2.av) a.States,LT 1 (LT 1 I64) a.Water]) (ds:=[LT 1 (LT 4 G2.av) a.States,LT 1 (LT 1 I64) a.Water]) tU G G G G G G G G) G) G G ⟨G,G,U⟩,U⟩ (Jfa (hF8 _ _ (uX [(1,E3 bx),(2,I64 calls),(3,I64 call),(5,Ed s),(9,.dptr (N8 p)),(11,.dptr (Yh.cs c)),(12,LT 9 Box.av i),(13,.ptr 1004 0)] [(Nw a)] 1003 rfl rfl rfl ⟨⟨_,rfl,.boxEq rfl rfl⟩,U⟩ rfl (by repeat' (first | exact .ptr | constructor)) ?_)))
  refine uX [(1,E3 bx),(2,I64 calls),(3,I64 call),(5,Ed s),(9,.dptr (N8 p)),(11,.dptr (Yh.cs c)),(12,LT 9 Box.av i),(13,.dptr [LT 1 (LT 4 G2.av) a.States,LT 1 (LT 1 I64) a.Water])] [] 1004 rfl rfl rfl U rfl (by repeat' (first | exact .ptr | constructor)) (jJ (fun f8 hF12=>G1 ?_))
  refine JLh (.agg (Nr c)) (H2.cv (Cv.aggL (cs:=(Yh.cs c)) ⟨Cv.lstM (f:=Gx.av) (g:=G6.av) Gx.pl Gx.cvl c.Columns,Cv.lstM (f:=Ha.av) (g:=H3.av) Ha.pl Ha.cvl c.Covers,.same,.same,.same,.same,Cv.lst0 c.Rows,Cv.lst0 c.Frames,Cv.lstM (f:=Hj.av) (g:=Hg.av) Hj.pl Hj.cvl c.Tanks,.same,.same,.same,.same,U⟩) (Gj J4 G G G)) G (JLh (E3 i.1) (H2.cv (Cv.lst0 i) (G3 G G)) G (JLm (I64 calls) G (JLh (.agg (Ns a)) (H2.cv (Cv.aggL (cs:=[LT 1 (LT 4 G2.av) a.States,LT 1 (LT 1 I64) a.Water]) ⟨Cv.lstM (f:=(LT 4 G2.av)) (g:=(E1)) Prod.fst (fun x=>⟨Cv.lst0 x,U⟩) a.States,Cv.lstM (f:=(LT 1 I64)) (g:=(E2)) Prod.fst (fun x=>⟨Cv.lst0 x,U⟩) a.Water,U⟩) (Gj R5 G G G)) G ?_)))
  obtain⟨o,b6,h⟩:=Gd h
  refine JLh (.tup [I64 o.1,I64 o.2]) (Gi G (pY (Gq.mk (c.Columns.1.map Gx.pl) (c.Covers.1.map Ha.pl) c.Light c.Rows.1 c.Frames.1 (c.Tanks.1.map Hj.pl) c.Gk) i.1 calls (Ya.mk (a.States.1.map Prod.fst) (a.Water.1.map Prod.fst)) o b6) yY ⟨G,G,G,G,G,G,G,G,U⟩) G (JLm (.tup [I64 o.1,I64 o.2]) G (JLh (I64 o.1) (Hx G G G) G (JLh (I64 o.2) (Hx G G G) G (JLm (I64 o.1) G (JLm (I64 o.2) G (G5 (hF12 _ _ (jJ (fun f9 hF14=>G1 (JLh (.agg (Gq.cs s)) (Gj J4 G G G) G (JLm (E3 bx) G (JLm (I64 calls) G (JLh (.agg (N8 p)) (Gj R5 G G G) G ?_)))))))))))))
  obtain⟨q,b7,h⟩:=Gd h
  refine JLh (.tup [I64 q.1,I64 q.2]) (Gi G (iR F s bx calls p q b7) ZZ ⟨G,G,G,G,G,G,G,G,U⟩) G (JLm (.tup [I64 q.1,I64 q.2]) G (JLh (I64 q.1) (Hx G G G) G (JLh (I64 q.2) (Hx G G G) G (JLm (I64 q.1) G (JLm (I64 q.2) G (G5 (hF14 _ _ (jJ (fun g0 hF16=>?_)))))))))
  refine Jr fun b8=>(JLm (I64 o.1) G (JLm (I64 q.1) G (JLh (BL (decide (o.1≠q.1))) (aH G G G) G (JLm (BL (decide (o.1≠q.1))) G (JLo (I64 o.2) [] G .scf U (fun hc=>G3 G G) G (JLo (I64 q.2) [] G .scf U (fun hc=>G3 G G) G (JLo (BL (decide (o.2≠q.2))) [63,64] G .scf ⟨Ua,Ua,U⟩ (fun hc=>aH G G G) G (JLh (BL (Nt o q)) (Rm G G G G) G (JLm (BL (Nt o q)) G (JLo (E3 i.1) [] G .scf U (fun hc=>H2.cv (Cv.lst0 i) (G3 G G)) G (JLo (I64 calls) [] G .scf U (fun hc=>G3 G G) G ?_)))))))))))
  obtain⟨t,b9,h⟩:=Gd h
  refine JLo (BL t) [68,69] G .scf ⟨Ua,Ua,U⟩ (fun hc=>Gi (args:=[E3 i.1,I64 calls]) G (xA i.1 calls t (Gv hc b9)) ZY ⟨G,G,G,G,U⟩) G (JLo (E3 bx) [] G .scf U (fun hc=>G3 G G) G (JLo (I64 calls) [] G .scf U (fun hc=>G3 G G) G ?_))
  obtain⟨v,c0,h⟩:=Gd h
  refine JLo (BL v) [71,72] G .scf ⟨Ua,Ua,U⟩ (fun hc=>Gi (args:=[E3 bx,I64 calls]) G (iS bx calls v (Gv hc c0)) ZX ⟨G,G,G,G,U⟩) G (JLo (BL (!(t==v))) [70,73] G .scf ⟨Ua,Ua,U⟩ (fun hc=>G40 sI G G G) G (JLh (BL ((Nt o q)||(!(t==v)))) (Rm G G G G) G (JLm (BL ((Nt o q)||(!(t==v)))) G (JLo (E3 i.1) [] G .scf U (fun hc=>H2.cv (Cv.lst0 i) (G3 G G)) G (JLo (I64 call) [] G .scf U (fun hc=>G3 G G) G ?_)))))
  obtain⟨a5,c1,h⟩:=Gd h
  refine JLo (E2 a5) [77,78] G .scf ⟨Ua,Ua,U⟩ (fun hc=>Gi (args:=[E3 i.1,I64 call]) G (nE i.1 call a5 (Gv hc c1)) yX ⟨G,G,G,G,U⟩) G (JLo (E3 bx) [] G .scf U (fun hc=>G3 G G) G (JLo (I64 call) [] G .scf U (fun hc=>G3 G G) G ?_))
  obtain⟨a6,c2,h⟩:=Gd h
  refine JLo (E2 a6) [80,81] G .scf ⟨Ua,Ua,U⟩ (fun hc=>Gi (args:=[E3 bx,I64 call]) G (iE bx call a6 (Gv hc c2)) ZW ⟨G,G,G,G,U⟩) G ?_
  obtain⟨a1,c3,h⟩:=Gd h
  refine JLo (BL a1) [79,82] G .scf ⟨Ua,Ua,U⟩ (fun hc=>Gi (args:=[E2 a5,E2 a6]) G (Jv a5 a6 a1 (Gv hc c3)) dI ⟨G,G,G,G,U⟩) G (JLo (BL (!a1)) [83] G .scf ⟨Ua,U⟩ (fun hc=>Qj (b:=a1) G G) G (JLh (BL (((Nt o q)||(!(t==v)))||(!a1))) (Rm G G G G) G (G5 (b8 (JCc G h (fun h hb=>?_) (fun h hb=>?_))))))
  ·
   refine Jr fun c4=>(JLm (BL false) G (G5 (c4 (Gs (congrArg BL (Pc h))))))
  ·
   refine Gn (hF16 _ _ (jJ (fun g6 hF24=>G1 ?_)))
   refine JLh (.agg (Nr c)) (H2.cv (Cv.aggL (cs:=(Yh.cs c)) ⟨Cv.lstM (f:=Gx.av) (g:=G6.av) Gx.pl Gx.cvl c.Columns,Cv.lstM (f:=Ha.av) (g:=H3.av) Ha.pl Ha.cvl c.Covers,.same,.same,.same,.same,Cv.lst0 c.Rows,Cv.lst0 c.Frames,Cv.lstM (f:=Hj.av) (g:=Hg.av) Hj.pl Hj.cvl c.Tanks,.same,.same,.same,.same,U⟩) (Gj J4 G G G)) G (JLh (E3 i.1) (H2.cv (Cv.lst0 i) (G3 G G)) G (JLm (I64 calls) G (JLh (.agg (Ns a)) (H2.cv (Cv.aggL (cs:=[LT 1 (LT 4 G2.av) a.States,LT 1 (LT 1 I64) a.Water]) ⟨Cv.lstM (f:=(LT 4 G2.av)) (g:=(E1)) Prod.fst (fun x=>⟨Cv.lst0 x,U⟩) a.States,Cv.lstM (f:=(LT 1 I64)) (g:=(E2)) Prod.fst (fun x=>⟨Cv.lst0 x,U⟩) a.Water,U⟩) (Gj R5 G G G)) G ?_)))
   obtain⟨d,c5,h⟩:=Gd h
   refine JLh (.tup [.frz 3 1 (LS 1 (E2) d.1),I64 d.2]) (Gi G (tF F (Gq.mk (c.Columns.1.map Gx.pl) (c.Covers.1.map Ha.pl) c.Light c.Rows.1 c.Frames.1 (c.Tanks.1.map Hj.pl) c.Gk) i.1 calls (Ya.mk (a.States.1.map Prod.fst) (a.Water.1.map Prod.fst)) d c5) yW ⟨G,G,G,G,G,G,G,G,U⟩) G (JLm (.tup [.frz 3 1 (LS 1 (E2) d.1),I64 d.2]) G (JLh (.frz 3 1 (LS 1 (E2) d.1)) (Hx G G G) G (JLh (I64 d.2) (Hx G G G) G (JLm (.frz 3 1 (LS 1 (E2) d.1)) G (JLm (I64 d.2) G (G5 (hF24 _ _ (jJ (fun g7 hF26=>G1 (JLh (.agg (Gq.cs s)) (Gj J4 G G G) G (JLm (E3 bx) G (JLm (I64 calls) G (JLh (.agg (N8 p)) (Gj R5 G G G) G ?_)))))))))))))
   obtain⟨k,c6,h⟩:=Gd h
   refine JLh (.tup [LS 1 (E2) k.1,I64 k.2]) (Gi G (gT F s bx calls p k c6) ZV ⟨G,G,G,G,G,G,G,G,U⟩) G (JLm (.tup [LS 1 (E2) k.1,I64 k.2]) G (JLh (LS 1 (E2) k.1) (Hx G G G) G (JLh (I64 k.2) (Hx G G G) G (JLm (LS 1 (E2) k.1) G (JLm (I64 k.2) G (G5 (hF26 _ _ (jJ (fun g8 hF28=>G1 ?_)))))))))
   refine JLh (.agg (Nr c)) (H2.cv (Cv.aggL (cs:=(Yh.cs c)) ⟨Cv.lstM (f:=Gx.av) (g:=G6.av) Gx.pl Gx.cvl c.Columns,Cv.lstM (f:=Ha.av) (g:=H3.av) Ha.pl Ha.cvl c.Covers,.same,.same,.same,.same,Cv.lst0 c.Rows,Cv.lst0 c.Frames,Cv.lstM (f:=Hj.av) (g:=Hg.av) Hj.pl Hj.cvl c.Tanks,.same,.same,.same,.same,U⟩) (Gj J4 G G G)) G (JLh (E3 i.1) (H2.cv (Cv.lst0 i) (G3 G G)) G (JLm (I64 calls) G (JLh (.agg (Ns a)) (H2.cv (Cv.aggL (cs:=[LT 1 (LT 4 G2.av) a.States,LT 1 (LT 1 I64) a.Water]) ⟨Cv.lstM (f:=(LT 4 G2.av)) (g:=(E1)) Prod.fst (fun x=>⟨Cv.lst0 x,U⟩) a.States,Cv.lstM (f:=(LT 1 I64)) (g:=(E2)) Prod.fst (fun x=>⟨Cv.lst0 x,U⟩) a.Water,U⟩) (Gj R5 G G G)) G ?_)))
   obtain⟨l,c7,h⟩:=Gd h
   refine JLh (.tup [I64 l.1,I64 l.2]) (Gi G (wY F (Gq.mk (c.Columns.1.map Gx.pl) (c.Covers.1.map Ha.pl) c.Light c.Rows.1 c.Frames.1 (c.Tanks.1.map Hj.pl) c.Gk) i.1 calls (Ya.mk (a.States.1.map Prod.fst) (a.Water.1.map Prod.fst)) l c7) ZU ⟨G,G,G,G,G,G,G,G,U⟩) G (JLm (.tup [I64 l.1,I64 l.2]) G (JLh (I64 l.1) (Hx G G G) G (JLh (I64 l.2) (Hx G G G) G (JLm (I64 l.1) G (JLm (I64 l.2) G (G5 (hF28 _ _ (jJ (fun g9 hF30=>G1 (JLh (.agg (Gq.cs s)) (Gj J4 G G G) G (JLm (E3 bx) G (JLm (I64 calls) G (JLh (.agg (N8 p)) (Gj R5 G G G) G ?_)))))))))))))
   obtain⟨n,c8,h⟩:=Gd h
   refine JLh (.tup [I64 n.1,I64 n.2]) (Gi G (rY F s bx calls p n c8) H73 ⟨G,G,G,G,G,G,G,G,U⟩) G (JLm (.tup [I64 n.1,I64 n.2]) G (JLh (I64 n.1) (Hx G G G) G (JLh (I64 n.2) (Hx G G G) G (JLm (I64 n.1) G (JLm (I64 n.2) G (G5 (hF30 _ _ (jJ (fun h0 hF32=>?_)))))))))
   refine Jr fun c9=>(JLm (I64 d.2) G (JLm (I64 k.2) G (JLh (BL (decide (d.2≠k.2))) (aH G G G) G (JLm (BL (decide (d.2≠k.2))) G (JLo (I64 l.2) [] G .scf U (fun hc=>G3 G G) G (JLo (I64 n.2) [] G .scf U (fun hc=>G3 G G) G (JLo (BL (decide (l.2≠n.2))) [122,123] G .scf ⟨Ua,Ua,U⟩ (fun hc=>aH G G G) G (JLh (BL ((decide (d.2≠k.2))||(decide (l.2≠n.2)))) (Rm G G G G) G (JLm (BL ((decide (d.2≠k.2))||(decide (l.2≠n.2)))) G (JLo (I64 l.1) [] G .scf U (fun hc=>G3 G G) G (JLo (I64 n.1) [] G .scf U (fun hc=>G3 G G) G (JLo (BL (decide (l.1≠n.1))) [127,128] G .scf ⟨Ua,Ua,U⟩ (fun hc=>aH G G G) G (JLh (BL (((decide (d.2≠k.2))||(decide (l.2≠n.2)))||(decide (l.1≠n.1)))) (Rm G G G G) G ?_)))))))))))))
   refine JLm (BL (((decide (d.2≠k.2))||(decide (l.2≠n.2)))||(decide (l.1≠n.1)))) G (JLo (.frz 3 1 (LS 1 (E2) d.1)) [] G .scf U (fun hc=>G3 G G) G (JLo (Ej d.1.length) [132] G .scf ⟨Ua,U⟩ (fun hc=>Q8 (f:=(E2)) (xs:=d.1) Hz G G) G (JLo (LS 1 (E2) k.1) [] G .scf U (fun hc=>G3 G G) G (JLo (Ej k.1.length) [134] G .scf ⟨Ua,U⟩ (fun hc=>Q8 (f:=(E2)) (xs:=k.1) Hz G G) G (JLo (BL (decide ((d.1.length:Int)≠(k.1.length:Int)))) [133,135] G .scf ⟨Ua,Ua,U⟩ (fun hc=>aH G G G) G (JLh (BL ((((decide (d.2≠k.2))||(decide (l.2≠n.2)))||(decide (l.1≠n.1)))||(decide ((d.1.length:Int)≠(k.1.length:Int))))) (Rm G G G G) G (G5 (c9 (JCc G h (fun h hb=>?_) (fun h hb=>?_))))))))))
   ·
    refine Jr fun d0=>(JLm (BL false) G (G5 (d0 (Gs (congrArg BL (Pc h))))))
   ·
    refine Gn (hF32 _ _ (jJ (fun h1 hF35=>Jr fun d1=>(JLm (.frz 3 1 (LS 1 (E2) d.1)) G (JLl Hz G G G fun b3=>(JLm (I64 0) G (G5 (d1 (Gf ?_)))))))))
    obtain⟨f5,d2,d3,b4,h⟩:=Hy h
    refine H8 (fun r (a7:Unit)=>each f5 d2 (List.drop r d.1) r a7=some true) (fun r a7=>[(1,E3 bx),(5,Ed s),(9,.dptr (N8 p)),(11,.dptr (Yh.cs c)),(12,LT 9 Box.av i),(13,.dptr [LT 1 (LT 4 G2.av) a.States,LT 1 (LT 1 I64) a.Water]),(18,.frz 3 1 (LS 1 (E2) d.1)),(20,LS 1 (E2) k.1),(139,Ej d.1.length),(140,Ej r)]) (fun r a7=>[]) (fun r=>d.1.length - r) 0 () h ⟨(.sm G G),U,rfl⟩ ?_
    clear h
    intro r a7 b1 h2 f6
    refine Jr fun d4=>(JLh (BL (decide ((r:Int) < (d.1.length:Int)))) (Hr G G G) G (G5 (d4 (Js fun d5=>Gg G (fun hb=>?_) (fun hb=>?_)))))
    ·
     have b2:=Je hb
     obtain⟨a2,f7,d6,d7,h⟩:=Hh b1 b2
     replace h:=Rx d3 h
     refine Gn (d5 (Js fun d8=>Gf (Jr fun d9=>(JLm (Ej r) G (JLm (Ej r) G (G5 (d9 (Js fun e0=>?_))))))))
     obtain⟨h3,a3,e1,e2,h⟩:=R0 h
     obtain⟨a8,e3,h⟩:=Gd h
     refine JC_d0 Jd (by kernel_rfl) (Dq (.frz 3 1 (LS 1 (E2) d.1)) (G3 G G) G (Dq (Ej r) (G3 G G) G (Dq (.dptr [E2 a2]) (Gr (f:=(E2)) (xs:=d.1) (y:=a2) G G G Hz d6 G) G (Dq (E2 a2) (Ge He G G G) G (Dq (LS 1 (E2) k.1) (G3 G G) G (Dq (Ej r) (G3 G G) G (Dq (.dptr [E2 a3]) (Gr (f:=(E2)) (xs:=k.1) (y:=a3) G G G Hz e2 e1) G (Dq (E2 a3) (Ge He G G G) G (Dq (BL a8) (Gi (args:=[E2 a2,E2 a3]) G (Jv a2 a3 a8 e3) dI ⟨G,G,G,G,U⟩) G (Dq (BL (!a8)) (Qj (b:=a8) G G) G (Dnil (e0 (JCc G h (fun h hb=>?_) (fun h hb=>?_))))))))))))))
     ·
      refine Jr fun e4=>(JLm (BL false) G (G5 (e4 (Gs (congrArg BL (Pc h))))))
     ·
      refine Gn (d8 (G1 (JLh (I64 ((r+1:Nat):Int)) (Hs (Hb b2 b3) G G G) G (JLm (I64 ((r+1:Nat):Int)) G (G5 (f6 _ _ (r+1) () (app1 d7 h) (by omega) ⟨(.sm G G),U,rfl⟩))))))
    ·
     have h:=app1 b4 (Hi b1 (H6 hb))
     refine H9 (hF35 _ _ (J49 (fun h4 hF67=>Ha0 ?_)))
     obtain⟨h5,e5,h⟩:=Gd h
     obtain⟨h6,e6,h⟩:=Gd h
     obtain⟨h7,e7,h⟩:=Gd h
     obtain⟨h8,e8,h⟩:=Gd h
     obtain⟨h9,e9,h⟩:=Gd h
     have hr:=Pc h
     simp only [Pp] at hr
     obtain⟨⟨⟨⟨rfl,rfl⟩,rfl⟩,rfl⟩,rfl⟩:=hr
     obtain⟨hba,_⟩:=J5 (Gv rfl e8)
     rw [Pp,Pq,List.all_eq_true] at hba
     refine Ja7 15 (fun KC hKC=>?_)
     simp only [List.take_succ_cons,List.take_zero,List.drop_succ_cons,List.drop_zero] at hKC ⊢
     refine JLh (.agg (Yh.cs c)) (Gj J4 G G G) G (JLh (.agg (Gq.cs s)) (Gj J4 G G G) G (JLh (BL true) (Gi G (qL c s true e5) H72 ⟨G,G,G,G,U⟩) G (JLm (BL true) G (gG (u:=LT 9 Box.av i) G G G (.sct (b:=true)) (G3 G G) ?_ G G G))))
     refine gG (u:=E3 bx) G G G (.sct (b:=true)) (G3 G G) ?_ G G G
     refine gG (u:=BL true) G G G (.sct (b:=true)) (Gi G (pW i bx true (Gv G e6)) H71 ⟨G,G,G,G,U⟩) ?_ G G G
     refine JLh (BL true) (rP true G G G) G (JLm (BL true) G (gG (u:=.agg [LT 1 (LT 4 G2.av) a.States,LT 1 (LT 1 I64) a.Water]) G G G (.sct (b:=true)) (Gj R5 G G G) ?_ G G G))
     refine gG (u:=.agg (N8 p)) G G G (.sct (b:=true)) (Gj R5 G G G) ?_ G G G
     refine gG (u:=BL true) G G G (.sct (b:=true)) (Gi G (qN a p true (Gv G e7)) H70 ⟨G,G,G,G,U⟩) ?_ G G G
     refine JLh (BL true) (rP true G G G) G (JLm (BL true) G (gG (u:=.frz 3 1 (LS 1 (E2) d.1)) G G G (.sct (b:=true)) (G3 G G) ?_ G G G))
     refine G5 (hKC _ _ (J43 (tt:=168) (us:=d.1.map (E2)) 1000000000000 [(167,BL true)] rfl ⟨⟨_,rfl,rfl⟩,trivial⟩ (fun u hu=>by obtain⟨m,_,rfl⟩:=Pt.1 hu; rfl) (fun es H0 O0 g1 g2 g3 g4 g5=>?_)))
     rw [Pr] at g1
     refine J45 rfl rfl rfl (.sct (b:=true)) (JV rfl (H9a es H0 O0 (by omega) (fun j e he=>?_) g3 g4 g5) H6f ⟨rfl,U⟩) ?_ rfl rfl rfl
     .obtain⟨m,hm⟩:∃ m,d.1[j]? = some m:=⟨_,Pb (by have:=(Pa he).1; omega)⟩
      have hn:=g2 j e 1 (m.map I64) he (by rw [Pj,hm]; rfl)
      rw [Pr] at hn
      have:=P6 (hba.2 m (Pd hm))
      omega
     rintro _ _ ⟨rfl,H',rfl,hn',hB'⟩
     refine JLh (BL true) (rP true G G G) G (JLm (BL true) G (gG (u:=BL true) G G G (.sct (b:=true)) (Gi G (iU F true (Gv G e9)) G72 U) ?_ G G G))
     refine JLh (BL true) (rP true G G G) G (JLm (BL true) G (G5 (hF67 _ _ (Gs (G)))))
end
end Go.Proofs.YthkihfoleenlmaaGreat
