/- Walks of functions. -/
import Derived.Test.YtmfhaflabpnaoaaGreatXT
set_option maxRecDepth 100000
set_option maxHeartbeats 1000000
set_option linter.unusedVariables false
set_option linter.unusedSimpArgs false
namespace Go.Proofs.YtmfhaflabpnaoaaGreat
open Go.RowKit
noncomputable section
structure G3 where
 Box:Int
 Slot:Slot
 deriving DecidableEq,Inhabited
def G3.cs (x:G3):List AV:=[I64 x.Box,I64 x.Slot.G1,I64 x.Slot.Tier,U8 x.Slot.Half]
def G3.av (x:G3):AV:=.agg x.cs
abbrev Ef (x:G3):AV:=.dptr (G3.cs x)
abbrev E2:=LS 4 G3.av
def G3.vs (x:G3):List Value:=[.int .i64 x.Box,.int .i64 x.Slot.G1,.int .i64 x.Slot.Tier,.int .u8 x.Slot.Half]
namespace XUF
open XAF
open XLF
open XCF
open XSF
open XKF
open XTF
theorem G32:H10 Ek 70 4=true:=by kernel_rfl
theorem J9a:H9 Ek 106=true:=by kernel_rfl
theorem Qe2:H9 Ek 138=true:=by kernel_rfl
theorem Q05:H9 Ek 23=true:=by kernel_rfl
theorem Q04:H9 Ek 24=true:=by kernel_rfl
theorem Q03:H9 Ek 25=true:=by kernel_rfl
theorem Q02:H9 Ek 26=true:=by kernel_rfl
theorem H9d:H9 Ek 27=true:=by kernel_rfl
theorem Q01:H9 Ek 28=true:=by kernel_rfl
theorem Q00:H9 Ek 29=true:=by kernel_rfl
theorem H9b:H9 Ek 45=true:=by kernel_rfl
theorem Jfb:H9 Ek 46=true:=by kernel_rfl
theorem Jfa:H9 Ek 47=true:=by kernel_rfl
theorem Jf9:H9 Ek 48=true:=by kernel_rfl
theorem Jf8:H9 Ek 49=true:=by kernel_rfl
theorem R4c:H9 Ek 50=true:=by kernel_rfl
theorem R4b:H9 Ek 51=true:=by kernel_rfl
theorem R4a:H9 Ek 52=true:=by kernel_rfl
theorem R49:H9 Ek 57=true:=by kernel_rfl
theorem R48:H9 Ek 58=true:=by kernel_rfl
theorem Jea:H9 Ek 93=true:=by kernel_rfl
theorem Je9:H9 Ek 94=true:=by kernel_rfl
theorem Je8:H9 Ek 97=true:=by kernel_rfl
theorem Ge7:Zd Ek 70 4 32=true:=by kernel_rfl
theorem Je6:Zd Ek 74 2 32=true:=by kernel_rfl
theorem Q1:Jz Ek 70 0 0=true:=by kernel_rfl
theorem J1:Jz Ek 70 1 1=true:=by kernel_rfl
theorem H99:placesOf Ek 32=some [(0,1),(1,1),(2,4),(6,1),(7,1),(8,1),(9,4)]:=by kernel_rfl
theorem G5a:placesOf Ek 70=some [(0,1),(1,3)]:=by kernel_rfl
theorem J3a:placesOf Ek 79=some [(0,13),(13,1),(14,1),(15,1),(16,1)]:=by kernel_rfl
theorem H34:Zh Ek 32 13=true:=by kernel_rfl
theorem H33:Zh Ek 70 4=true:=by kernel_rfl
theorem H6:sliceB Ek 34 70 4=true:=by kernel_rfl
theorem H32:(Ek.info? 32).bind (fun i=>i.zero.map Value.cells)=some (List.toArray [.slice none 0 0,.slice none 0 0,E0,E0,E0,E0,.slice none 0 0,.slice none 0 0,.slice none 0 0,E0,E0,E0,E0]):=by kernel_rfl
theorem Gbd:(Ek.info? 70).bind (fun i=>i.zero.map Value.cells)=some (List.toArray [E0,E0,E0,.int .u8 0]):=by kernel_rfl
theorem Jde:(Ek.info? 79).bind (fun i=>i.zero.map Value.cells)=some (List.toArray [.slice none 0 0,.slice none 0 0,E0,E0,E0,E0,.slice none 0 0,.slice none 0 0,.slice none 0 0,E0,E0,E0,E0,.map none,.map none,.map none,E0]):=by kernel_rfl
theorem Yv:Yb Ek 70 4=true:=by kernel_rfl
end XUF
open XAF
open XLF
open XCF
open XSF
open XKF
open XTF
open XUF

def G6c (x:Int):Option Bool:=
 some (decide (x≠x))
theorem H5d (x:Int) (r:Bool) (h:G6c x=some r):Pure Ek 97 [I64 x] (·=BL r):=by
 unfold G6c at h
 refine H3 [.tmp 2] Tryz.func97 O O (Jr fun a=>(JLm (BL false) O (G8 (a (Jr fun b=>(JLm (I64 x) O (JLm (I64 x) O (JLh (BL (decide (x≠x))) (G2c O O O) O (JLm (BL (decide (x≠x))) O (G8 (b (Gs (fin1 BL h)))))))))))))

def G41 (x:Int) (y:Int):Option Int:=
 bnd (G6c x) fun b=>
 bnd (G6c y) fun a=>
 bif b then
 (bif a then
  (some 0)
  else
  (some (-1)))
 else
 (bif a then
  (some 1)
  else
  (bif decide (x < y) then
   (some (-1))
   else
   (bif decide (y < x) then
    (some 1)
    else
    (some 0))))
theorem J07 (x:Int) (y:Int) (r:Int) (h:G41 x y=some r):Pure Ek 50 [I64 x,I64 y] (·=I64 r):=by
 unfold G41 at h
 refine H3 [.tmp 4] Tryz.func50 O O (Jr fun p=>(JLm (I64 0) O (G8 (p (Jr fun q=>(JLm (I64 x) O ?_))))))
 obtain⟨b,s,h⟩:=Gj h
 refine JLh (BL b) (Gw O (H5d x b s) Je8 ⟨O,O,G⟩) O (JLm (BL b) O (G8 (q (Jr fun t=>(JLm (I64 y) O ?_)))))
 obtain⟨a,u,h⟩:=Gj h
 refine JLh (BL a) (Gw O (H5d y a u) Je8 ⟨O,O,G⟩) O (JLm (BL a) O (G8 (t (Js fun v=>Jr fun w=>(JLm (BL b) O (G8 (w (JCc O h (fun h hb=>?_) (fun h hb=>?_)))))))))
 ·
  refine Js fun z=>Jr fun a0=>(JLm (BL a) O (G8 (a0 (JCc O h (fun h hb=>?_) (fun h hb=>?_)))))
  ·
   refine Jr fun c=>(JLm (I64 0) O (G8 (c (Gs (fin1 I64 h)))))
  ·
   refine Gn (z (Jr fun d=>(JLm (I64 (-1)) O (G8 (d (Gs (fin1 I64 h)))))))
 ·
  refine Gn (v (Js fun e=>Jr fun f=>(JLm (BL a) O (G8 (f (JCc O h (fun h hb=>?_) (fun h hb=>?_)))))))
  ·
   refine Jr fun g=>(JLm (I64 1) O (G8 (g (Gs (fin1 I64 h)))))
  ·
   refine Gn (e (Js fun i=>Jr fun j=>(JLm (I64 x) O (JLm (I64 y) O (JLh (BL (decide (x < y))) (Jq O O O) O (G8 (j (JCc O h (fun h hb=>?_) (fun h hb=>?_)))))))))
   ·
    refine Jr fun k=>(JLm (I64 (-1)) O (G8 (k (Gs (fin1 I64 h)))))
   ·
    refine Gn (i (Js fun l=>Jr fun m=>(JLm (I64 x) O (JLm (I64 y) O (JLh (BL (decide (y < x))) (G08 O O O) O (G8 (m (JCc O h (fun h hb=>?_) (fun h hb=>?_)))))))))
    ·
     refine Jr fun n=>(JLm (I64 1) O (G8 (n (Gs (fin1 I64 h)))))
    ·
     refine Gn (l (Jr fun o=>(JLm (I64 0) O (G8 (o (Gs (fin1 I64 h)))))))

def Rz (a:G3) (b:G3):Option Int:=
 bnd (G41 a.Box b.Box) fun c=>
 some c
abbrev Ey (a:G3):List AV:=[I64 a.Box,I64 a.Slot.G1,I64 a.Slot.Tier,U8 a.Slot.Half]
theorem H1a (a:G3) (b:G3) (r:Int) (h:Rz a b=some r):Pure Ek 49 [.agg [I64 a.Box,I64 a.Slot.G1,I64 a.Slot.Tier,U8 a.Slot.Half],.agg (G3.cs b)] (·=I64 r):=by
 unfold Rz at h
 refine H3 [.tmp 4] Tryz.func49 O O (Jr fun d=>(JLh (.ptr 1073 0) (Ju (cs:=(Ey a)) 1073 O O O O O) O (JLh (.ptr 1074 0) (Ju (cs:=[I64 b.Box,I64 b.Slot.G1,I64 b.Slot.Tier,U8 b.Slot.Half]) 1074 O O O O O) O (JLm (I64 0) O (G8 (d (Gu [(2,.dptr (Ey a)),(3,.ptr 1074 0)] [(1074,.box 70 [I64 b.Box,I64 b.Slot.G1,I64 b.Slot.Tier,U8 b.Slot.Half])] 1073 rfl rfl rfl ⟨⟨_,rfl,.boxEq rfl rfl⟩,G⟩ rfl (by exact⟨.ptr,.conv (.same rfl),G⟩) (Gu [(2,.dptr (Ey a)),(3,Ef b)] [] 1074 rfl rfl rfl G rfl (by exact⟨.conv (.same rfl),.ptr,G⟩) ?_))))))))
 refine Jr fun e=>(JLh (.dptr (Ey a)) (Gb Q1 O O O) O (JLh (I64 a.Box) (Ge Gd O O O) O (JLh (Ef b) (Gb Q1 O O O) O (JLh (I64 b.Box) (Ge Gd O O O) O ?_))))
 obtain⟨c,f,h⟩:=Gj h
 refine JLh (I64 c) (Gw O (J07 a.Box b.Box c f) R4c ⟨O,O,O,O,G⟩) O (JLm (I64 c) O (G8 (e (Gs (fin1 I64 h)))))

def G0e (m:Gh) (Rp:(List G3)→Prop):Option Prop:=
 Hbc (fun(a:Slot×Box) (b:(List G3)) c=>
  need (decide ((b.length+[(G3.mk a.2.ID a.1)].length)*32≤140737488355328∧b.length+[(G3.mk a.2.ID a.1)].length≤maxLen)) <|
  c (b++[(G3.mk a.2.ID a.1)]))
 (fun(b:(List G3))=>
  bnd (Ja1 (fun z0 z1=>Rz z0 z1) b) fun d=>
  some (Rp d)) (Gv.Hc m.on) []
theorem J5f (m:Gh) (Rp:(List G3)→Prop) (p:Prop) (h:G0e m Rp=some p) (hp:p):Pure Ek 22 [.dptr (Gh.cs m)] (fun av=>∃ r,Rp r∧av=E2 r):=by
 unfold G0e at h
 refine H3 [.tmp 2] Tryz.func22 O O (Jr fun a4=>(JLh (E2 ([]:List G3)) (Jb 4 O O) O (G8 (a4 (Js fun a5=>Jr fun a6=>(JLm (Ed m) O (JLh (BL true) (Gw O (Ry m true O) G5b ⟨O,O,G⟩) O (JLh (BL false) (R2 (b:=true) O O) O (G8 (a6 (G42 O (Gn (a5 (Jr fun a7=>(JLh (.vec 1028 (([]:List G3).length) 4 (([]:List G3).length)) (H49 1028 70 4 O O O) O (G8 (a7 (Js fun a8=>Jr fun a9=>(JLm (Ed m) O (JLh (Ed m) (G61 O O) O (JLh (.dptr ((Gh.cs m).drop 13)) (Gb Y3 O O O) O (JLh (DM Slot.kv Box.av m.on) (Ge Y5 O O O) O (JLh (.it 1031) (H4a 1031 (kv:=Slot.kv) (av:=Box.av) (m:=m.on) O O .data O G4e) O (G8 (a9 (Gx ?_))))))))))))))))))))))))))
 obtain⟨b0,v,w,t,h⟩:=H05 h
 refine He7 (m.on.l.length) (fun d (c:(List G3))=>Gb5 b0 v (Gv.l m.on) d c) (fun d c=>[(3,.vec 1028 c.length 4 c.length),(13,.it 1031)]) (fun d c=>[(1028,.vec 70 4 c.length (c.map G3.av)),(1031,.iter (DM Slot.kv Box.av m.on) m.on.l.length d)]) [] (Gb5.start h hp) ⟨(.sm O O),⟨⟨_,O,.vec⟩,⟨_,O,.iter O⟩,G⟩,O⟩ ?_
 clear h hp
 intro d c k b4 b1
 refine Jr fun n=>G18 O O O (Hb8 (kv:=Slot.kv) (av:=Box.av) (m:=m.on) (fun _=>O) O O O .data) ?_
 intro u_ L_ hn_
 rcases hn_ with ⟨i,a,g,o,rfl,rfl⟩ | ⟨x,rfl,rfl⟩
 ·
  obtain⟨b5,h,b2,s⟩:=k.step g o
  replace h:=Jbd w h
  refine JLh (BL true) (H4 O O O) O (G8 (n (Js fun y=>He8 O (Gn (y (Gx ?_))))))
  refine Jr fun z=>(JLh (.tup [.agg (Slot.cs a.1),.agg (Box.cs a.2)]) (J34 (kv:=Slot.kv) (av:=Box.av) (m:=m.on) (q:=i) (seen:=d) (e:=a) (fun _=>O) O O O .data g) O (JLh (.agg (Slot.cs a.1)) (H4 O O O) O (JLh (.agg (Box.cs a.2)) (H4 O O O) O (JLh (.ptr 1029 0) (Jn 1029 3 G19 O O) O (JLh (.ptr 1030 0) (Jn 1030 9 Y1 O O) O (J9 (u:=.junk) (He (u:=.agg (Slot.cs a.1)) (ds:=[I64 a.1.G1,I64 a.1.Tier,U8 a.1.Half]) G7b O O O O O O O O) (J9 (u:=.junk) (He (u:=.agg (Box.cs a.2)) (ds:=(Box.cs a.2)) Rk O O O O O O O O) (G8 (z ?_)))))))))
  refine fzQ [(3,.vec 1028 c.length 4 c.length),(4,Ei a.1),(5,.ptr 1030 0),(13,.it 1031)] [(1028,.vec 70 4 c.length (c.map G3.av)),(1031,.iter (DM Slot.kv Box.av m.on) m.on.l.length (d++[i])),(1030,.box 84 (Box.cs a.2))] 1029 rfl rfl rfl ⟨⟨_,rfl,.vec⟩,⟨_,rfl,.iter rfl⟩,⟨_,rfl,.boxEq rfl rfl⟩,G⟩ rfl ?_
  refine fzQ [(3,.vec 1028 c.length 4 c.length),(4,Ei a.1),(5,Eg a.2),(13,.it 1031)] [(1028,.vec 70 4 c.length (c.map G3.av)),(1031,.iter (DM Slot.kv Box.av m.on) m.on.l.length (d++[i]))] 1030 rfl rfl rfl ⟨⟨_,rfl,.vec⟩,⟨_,rfl,.iter rfl⟩,G⟩ rfl (G2 ?_)
  refine JLm (.vec 1028 c.length 4 c.length) O (JLh (Eg a.2) (Gb G6e O O O) O (JLh (I64 a.2.ID) (Ge Gd O O O) O (JLh (.agg (Slot.cs a.1)) (Gt Hx O O O) O (JLh (.agg [I64 a.2.ID,I64 a.1.G1,I64 a.1.Tier,U8 a.1.Half]) (Hj (cs:=[I64 a.2.ID,I64 a.1.G1,I64 a.1.Tier,U8 a.1.Half]) [(0,1),(1,3)] [I64 0,I64 0,I64 0,U8 0] [E0,E0,E0,.int .u8 0] G5a Gbd (zzQ O) O O) O (JLh (E2 [(G3.mk a.2.ID a.1)]) (J2 (xs:=[.agg [I64 a.2.ID,I64 a.1.G1,I64 a.1.Tier,U8 a.1.Half]]) O ⟨O,O,G⟩ H6 Yv O O O O) O ?_)))))
  obtain⟨a0,h⟩:=Qa h
  refine JLh (.vec 1028 ((c++[(G3.mk a.2.ID a.1)]).length) 4 ((c++[(G3.mk a.2.ID a.1)]).length)) (Gf3 (f:=G3.av) (xs:=c) (ys:=[(G3.mk a.2.ID a.1)]) (ver:=c.length) (ver1:=(c++[(G3.mk a.2.ID a.1)]).length) rfl rfl rfl rfl H6 Ge7 a0 (fun _=>rfl) (.inl rfl) (by simp)) O (JLm (.vec 1028 ((c++[(G3.mk a.2.ID a.1)]).length) 4 ((c++[(G3.mk a.2.ID a.1)]).length)) O (G8 (b1 _ _ (d++[i]) (c++[(G3.mk a.2.ID a.1)]) (s _ (M2 h).symm) (G90 (M0 g).1 o) ⟨(.sm O O),⟨⟨_,O,.vec⟩,⟨_,O,.iter O⟩,G⟩,O⟩)))
 ·
  obtain⟨p_,h,hp⟩:=k.done x
  replace h:=app1 t h
  refine JLh (BL false) (H4 O O O) O (G8 (n (Js fun b3=>G42 O (Hy (a8 (Jr fun a1=>(JLm (.vec 1028 c.length 4 c.length) O ?_)))))))
  obtain⟨j,a2,h⟩:=Gj h
  refine JLh (.tup []) (Rbc (f:=G3.av) (cmp:=(fun z0 z1=>Rz z0 z1)) (xs:=c) (r:=j) G3.vs O Q13 Ja0 (fun _=>O) (fun _=>O) (fun _=>Y2a O) Jf9 Jf8 O O O O O a2 (fun z0 z1 q hq=>H1a z0 z1 q hq) O) O (G8 (a1 (Jr fun a3=>(JLm (.vec 1028 c.length 4 c.length) O (JLm (.vec 1028 c.length 4 c.length) O (G8 (a3 (Q53 [(2,E2 j)] [] 1028 rfl rfl G rfl (by exact⟨.vec,G⟩) (Gs (⟨[E2 j],[],G,O,⟨⟨_,O,.conv (.same O)⟩,G⟩,O,j,Eq.mpr (M2 h) hp,O⟩))))))))))
theorem J60 (S_:(Gh)→Option (List G3)) (hS_:∀ m r,S_ m=some r→∃ p:Prop,G0e m (fun r_=>r_=r)=some p∧p) (m:Gh) (r:(List G3)) (h:S_ m=some r):Pure Ek 22 [.dptr (Gh.cs m)] (·=E2 r):=by
 obtain⟨p,a,b⟩:=hS_ m r h
 exact(J5f m _ p a b).monoP (fun av hh=>by obtain⟨r_,rfl,ha⟩:=hh; exact ha)

def Z0 (m:Gh):Option (List Int):=
 bnd (G4a m.quay) fun b=>
 bnd (Yd (Gv.keys m.quay)) fun a=>
 some a
theorem J2f (m:Gh) (r:(List Int)) (h:Z0 m=some r):Pure Ek 19 [.dptr (Gh.cs m)] (·=E1 r):=by
 unfold Z0 at h
 refine H3 [.tmp 2] Tryz.func19 O O (Jr fun c=>(JLh (E1 ([]:List Int)) (Jb 1 O O) O (G8 (c (Js fun d=>Jr fun e=>(JLm (Ed m) O (JLh (BL true) (Gw O (Ry m true O) G5b ⟨O,O,G⟩) O (JLh (BL false) (R2 (b:=true) O O) O (G8 (e (G42 O (Gn (d (Jr fun f=>(JLm (Ed m) O (JLh (Ed m) (G61 O O) O (JLh (.dptr ((Gh.cs m).drop 14)) (Gb G1b O O O) O (JLh (DM Kn Box.av m.quay) (Ge G14 O O O) O ?_))))))))))))))))))
 obtain⟨j,g,h⟩:=Gj h
 refine JLh (.fn 93 [.dptr [DM Kn Box.av m.quay]]) (Gw O (G8d m.quay j g) Jfb ⟨O,O,G⟩) O ?_
 obtain⟨a,i,h⟩:=Gj h
 refine JLh (E1 a) (Gw O (Ge0.down (Gv.keys m.quay) 93 [.dptr [DM Kn Box.av m.quay]] Jea O (G6b m.quay) a i) H9b ⟨O,O,G⟩) O (JLm (E1 a) O (G8 (f (Gs (fin1 (fun r:(List Int)=>(E1 r:AV)) h)))))

def G03 (m:Gh):Option (List Int):=
 bnd (G75 m.open_) fun b=>
 bnd (Yd (Gv.keys m.open_)) fun a=>
 some a
theorem J88 (m:Gh) (r:(List Int)) (h:G03 m=some r):Pure Ek 20 [.dptr (Gh.cs m)] (·=E1 r):=by
 unfold G03 at h
 refine H3 [.tmp 2] Tryz.func20 O O (Jr fun c=>(JLh (E1 ([]:List Int)) (Jb 1 O O) O (G8 (c (Js fun d=>Jr fun e=>(JLm (Ed m) O (JLh (BL true) (Gw O (Ry m true O) G5b ⟨O,O,G⟩) O (JLh (BL false) (R2 (b:=true) O O) O (G8 (e (G42 O (Gn (d (Jr fun f=>(JLm (Ed m) O (JLh (Ed m) (G61 O O) O (JLh (.dptr ((Gh.cs m).drop 15)) (Gb G6f O O O) O (JLh (DM Kn I64 m.open_) (Ge G59 O O O) O ?_))))))))))))))))))
 obtain⟨j,g,h⟩:=Gj h
 refine JLh (.fn 94 [.dptr [DM Kn I64 m.open_]]) (Gw O (Gcd m.open_ j g) Jfa ⟨O,O,G⟩) O ?_
 obtain⟨a,i,h⟩:=Gj h
 refine JLh (E1 a) (Gw O (Ge0.down (Gv.keys m.open_) 94 [.dptr [DM Kn I64 m.open_]] Je9 O (Ga0 m.open_) a i) H9b ⟨O,O,G⟩) O (JLm (E1 a) O (G8 (f (Gs (fin1 (fun r:(List Int)=>(E1 r:AV)) h)))))


theorem J2e (m:Gh) (Rp:(List G3)→Prop) (p:Prop) (h:G0e m Rp=some p) (hp:p):Jx Ek 22 [.dptr (Gh.cs m)] [] (fun av L'=>∃ p:Nat,∃ r,Rp r∧av=.vec 1028 p 4 r.length∧L'=[(1028,.vec 70 4 p (r.map G3.av))]):=by
 unfold G0e at h
 refine Ye [] [.tmp 2] Tryz.func22 O O (H18 O) (Jr fun a4=>(JLh (.vec 1027 (([]:List G3).length) 4 (([]:List G3).length)) (H49 1027 70 4 O O O) O (G8 (a4 (Js fun a5=>Jr fun a6=>(JLm (Ed m) O (JLh (BL true) (Gw O (Ry m true O) G5b ⟨O,O,G⟩) O (JLh (BL false) (R2 (b:=true) O O) O (G8 (a6 (G42 O (Gn (a5 (Jr fun a7=>(JLh (.vec 1028 (([]:List G3).length) 4 (([]:List G3).length)) (H49 1028 70 4 O O O) O (G8 (a7 (Js fun a8=>?_))))))))))))))))))
 refine Jr fun a9=>(JLm (Ed m) O (JLh (Ed m) (G61 O O) O (JLh (.dptr ((Gh.cs m).drop 13)) (Gb Y3 O O O) O (JLh (DM Slot.kv Box.av m.on) (Ge Y5 O O O) O (JLh (.it 1031) (H4a 1031 (kv:=Slot.kv) (av:=Box.av) (m:=m.on) O O .data O G4e) O (G8 (a9 (Gx ?_))))))))
 obtain⟨b0,v,w,t,h⟩:=H05 h
 refine He7 (m.on.l.length) (fun d (c:(List G3))=>Gb5 b0 v (Gv.l m.on) d c) (fun d c=>[(3,.vec 1028 c.length 4 c.length),(13,.it 1031)]) (fun d c=>[(1027,.vec 70 4 (([]:List G3).length) (([]:List G3).map G3.av)),(1028,.vec 70 4 c.length (c.map G3.av)),(1031,.iter (DM Slot.kv Box.av m.on) m.on.l.length d)]) [] (Gb5.start h hp) ⟨(.sm O O),⟨⟨_,O,.vec⟩,⟨_,O,.vec⟩,⟨_,O,.iter O⟩,G⟩,O⟩ ?_
 clear h hp
 intro d c j b4 b1
 refine Jr fun k=>G18 O O O (Hb8 (kv:=Slot.kv) (av:=Box.av) (m:=m.on) (fun _=>O) O O O .data) ?_
 intro u_ L_ hn_
 rcases hn_ with ⟨i,a,g,n,rfl,rfl⟩ | ⟨x,rfl,rfl⟩
 ·
  obtain⟨b5,h,b2,o⟩:=j.step g n
  replace h:=Jbd w h
  refine JLh (BL true) (H4 O O O) O (G8 (k (Js fun y=>He8 O (Gn (y (Gx ?_))))))
  refine Jr fun z=>(JLh (.tup [.agg (Slot.cs a.1),.agg (Box.cs a.2)]) (J34 (kv:=Slot.kv) (av:=Box.av) (m:=m.on) (q:=i) (seen:=d) (e:=a) (fun _=>O) O O O .data g) O (JLh (.agg (Slot.cs a.1)) (H4 O O O) O (JLh (.agg (Box.cs a.2)) (H4 O O O) O (JLh (.ptr 1029 0) (Jn 1029 3 G19 O O) O (JLh (.ptr 1030 0) (Jn 1030 9 Y1 O O) O (J9 (u:=.junk) (He (u:=.agg (Slot.cs a.1)) (ds:=[I64 a.1.G1,I64 a.1.Tier,U8 a.1.Half]) G7b O O O O O O O O) (J9 (u:=.junk) (He (u:=.agg (Box.cs a.2)) (ds:=(Box.cs a.2)) Rk O O O O O O O O) (G8 (z ?_)))))))))
  refine fzQ [(3,.vec 1028 c.length 4 c.length),(4,Ei a.1),(5,.ptr 1030 0),(13,.it 1031)] [(1027,.vec 70 4 (([]:List G3).length) (([]:List G3).map G3.av)),(1028,.vec 70 4 c.length (c.map G3.av)),(1031,.iter (DM Slot.kv Box.av m.on) m.on.l.length (d++[i])),(1030,.box 84 (Box.cs a.2))] 1029 rfl rfl rfl ⟨⟨_,rfl,.vec⟩,⟨_,rfl,.vec⟩,⟨_,rfl,.iter rfl⟩,⟨_,rfl,.boxEq rfl rfl⟩,G⟩ rfl ?_
  refine fzQ [(3,.vec 1028 c.length 4 c.length),(4,Ei a.1),(5,Eg a.2),(13,.it 1031)] [(1027,.vec 70 4 (([]:List G3).length) (([]:List G3).map G3.av)),(1028,.vec 70 4 c.length (c.map G3.av)),(1031,.iter (DM Slot.kv Box.av m.on) m.on.l.length (d++[i]))] 1030 rfl rfl rfl ⟨⟨_,rfl,.vec⟩,⟨_,rfl,.vec⟩,⟨_,rfl,.iter rfl⟩,G⟩ rfl (G2 ?_)
  refine JLm (.vec 1028 c.length 4 c.length) O (JLh (Eg a.2) (Gb G6e O O O) O (JLh (I64 a.2.ID) (Ge Gd O O O) O (JLh (.agg (Slot.cs a.1)) (Gt Hx O O O) O (JLh (.agg [I64 a.2.ID,I64 a.1.G1,I64 a.1.Tier,U8 a.1.Half]) (Hj (cs:=[I64 a.2.ID,I64 a.1.G1,I64 a.1.Tier,U8 a.1.Half]) [(0,1),(1,3)] [I64 0,I64 0,I64 0,U8 0] [E0,E0,E0,.int .u8 0] G5a Gbd (zzQ O) O O) O (JLh (E2 [(G3.mk a.2.ID a.1)]) (J2 (xs:=[.agg [I64 a.2.ID,I64 a.1.G1,I64 a.1.Tier,U8 a.1.Half]]) O ⟨O,O,G⟩ H6 Yv O O O O) O ?_)))))
  obtain⟨a0,h⟩:=Qa h
  refine JLh (.vec 1028 ((c++[(G3.mk a.2.ID a.1)]).length) 4 ((c++[(G3.mk a.2.ID a.1)]).length)) (Gf3 (f:=G3.av) (xs:=c) (ys:=[(G3.mk a.2.ID a.1)]) (ver:=c.length) (ver1:=(c++[(G3.mk a.2.ID a.1)]).length) rfl rfl rfl rfl H6 Ge7 a0 (fun _=>rfl) (.inl rfl) (by simp)) O (JLm (.vec 1028 ((c++[(G3.mk a.2.ID a.1)]).length) 4 ((c++[(G3.mk a.2.ID a.1)]).length)) O (G8 (b1 _ _ (d++[i]) (c++[(G3.mk a.2.ID a.1)]) (o _ (M2 h).symm) (G90 (M0 g).1 n) ⟨(.sm O O),⟨⟨_,O,.vec⟩,⟨_,O,.vec⟩,⟨_,O,.iter O⟩,G⟩,O⟩)))
 ·
  obtain⟨p_,h,hp⟩:=j.done x
  replace h:=app1 t h
  refine JLh (BL false) (H4 O O O) O (G8 (k (Js fun b3=>G42 O (Hy (a8 (Jr fun a1=>(JLm (.vec 1028 c.length 4 c.length) O ?_)))))))
  obtain⟨s,a2,h⟩:=Gj h
  refine JLh (.tup []) (Rbc (f:=G3.av) (cmp:=(fun z0 z1=>Rz z0 z1)) (xs:=c) (r:=s) G3.vs O Q13 Ja0 (fun _=>O) (fun _=>O) (fun _=>Y2a O) Jf9 Jf8 O O O O O a2 (fun z0 z1 q hq=>H1a z0 z1 q hq) O) O (G8 (a1 (Jr fun a3=>(JLm (.vec 1028 c.length 4 c.length) O (JLm (.vec 1028 c.length 4 c.length) O (G8 (a3 (Gbb 2 O O (fun hn_=>Gs (⟨[.vec 1028 c.length 4 c.length],[(1028,.vec 70 4 c.length (s.map G3.av))],⟨⟨_,O,.vec⟩,G⟩,O,⟨⟨_,O,.conv (.same O)⟩,G⟩,c.length,s,Eq.mpr (M2 h) hp,congrArg (fun n_:Nat=>(.vec 1028 c.length 4 n_:AV)) (hn_.trans (Mg _)),O⟩))))))))))
theorem J2d (S_:(Gh)→Option (List G3)) (hS_:∀ m r,S_ m=some r→∃ p:Prop,G0e m (fun r_=>r_=r)=some p∧p) (m:Gh) (r:(List G3)) (h:S_ m=some r):Jx Ek 22 [.dptr (Gh.cs m)] [] (fun av L'=>∃ p:Nat,av=.vec 1028 p 4 r.length∧L'=[(1028,.vec 70 4 p (r.map G3.av))]):=by
 obtain⟨p,a,b⟩:=hS_ m r h
 exact(J2e m _ p a b).mono (fun av L hh=>by obtain⟨q,r_,rfl,ha,hb⟩:=hh; exact⟨q,ha,hb⟩)


theorem J30 (m:Gh) (r:(List Int)) (h:Z0 m=some r):Jx Ek 19 [.dptr (Gh.cs m)] [] (fun av L'=>∃ p:Nat,av=.vec 1151 p 1 r.length∧L'=[(1151,.vec 3 1 p (r.map I64))]):=by
 unfold Z0 at h
 refine Ye [] [.tmp 2] Tryz.func19 O O (H18 O) (Jr fun d=>(JLh (.vec 1025 (([]:List Int).length) 1 (([]:List Int).length)) (H49 1025 3 1 O O O) O (G8 (d (Js fun e=>Jr fun f=>(JLm (Ed m) O (JLh (BL true) (Gw O (Ry m true O) G5b ⟨O,O,G⟩) O (JLh (BL false) (R2 (b:=true) O O) O (G8 (f (G42 O (Gn (e (Jr fun g=>(JLm (Ed m) O (JLh (Ed m) (G61 O O) O (JLh (.dptr ((Gh.cs m).drop 14)) (Gb G1b O O O) O (JLh (DM Kn Box.av m.quay) (Ge G14 O O O) O ?_))))))))))))))))))
 obtain⟨k,i,h⟩:=Gj h
 refine JLh (.fn 93 [.dptr [DM Kn Box.av m.quay]]) (Gw O (G8d m.quay k i) Jfb ⟨O,O,G⟩) O ?_
 obtain⟨a,j,h⟩:=Gj h
 refine G18 O O O (Q5c (args:=[.fn 93 [.dptr [DM Kn Box.av m.quay]]]) (L0:=[]) (u:=fun p=>.vec 1151 p 1 a.length) (Lr:=fun p=>[(1151,.vec 3 1 p (a.map I64))]) O (Ge1.down (Gv.keys m.quay) 93 [.dptr [DM Kn Box.av m.quay]] Jea O (G6b m.quay) a j) H9b ⟨.inl O,O,G⟩ G O (fun _=>O)) ?_
 rintro u_ L_ ⟨c,rfl,rfl⟩
 refine JLm (.vec 1151 c 1 a.length) O (G8 (g (Gbb 2 O O (fun hn_=>Gs ?_))))
 obtain rfl:=M2 h
 exact⟨[.vec 1151 c 1 a.length],[(1151,.vec 3 1 c (a.map I64))],⟨⟨_,O,.vec⟩,G⟩,O,⟨⟨_,O,.conv (.same O)⟩,G⟩,c,congrArg (fun n_:Nat=>(.vec 1151 c 1 n_:AV)) (hn_.trans (Mg _)),O⟩


theorem J89 (m:Gh) (r:(List Int)) (h:G03 m=some r):Jx Ek 20 [.dptr (Gh.cs m)] [] (fun av L'=>∃ p:Nat,av=.vec 1151 p 1 r.length∧L'=[(1151,.vec 3 1 p (r.map I64))]):=by
 unfold G03 at h
 refine Ye [] [.tmp 2] Tryz.func20 O O (H18 O) (Jr fun d=>(JLh (.vec 1026 (([]:List Int).length) 1 (([]:List Int).length)) (H49 1026 3 1 O O O) O (G8 (d (Js fun e=>Jr fun f=>(JLm (Ed m) O (JLh (BL true) (Gw O (Ry m true O) G5b ⟨O,O,G⟩) O (JLh (BL false) (R2 (b:=true) O O) O (G8 (f (G42 O (Gn (e (Jr fun g=>(JLm (Ed m) O (JLh (Ed m) (G61 O O) O (JLh (.dptr ((Gh.cs m).drop 15)) (Gb G6f O O O) O (JLh (DM Kn I64 m.open_) (Ge G59 O O O) O ?_))))))))))))))))))
 obtain⟨k,i,h⟩:=Gj h
 refine JLh (.fn 94 [.dptr [DM Kn I64 m.open_]]) (Gw O (Gcd m.open_ k i) Jfa ⟨O,O,G⟩) O ?_
 obtain⟨a,j,h⟩:=Gj h
 refine G18 O O O (Q5c (args:=[.fn 94 [.dptr [DM Kn I64 m.open_]]]) (L0:=[]) (u:=fun p=>.vec 1151 p 1 a.length) (Lr:=fun p=>[(1151,.vec 3 1 p (a.map I64))]) O (Ge1.down (Gv.keys m.open_) 94 [.dptr [DM Kn I64 m.open_]] Je9 O (Ga0 m.open_) a j) H9b ⟨.inl O,O,G⟩ G O (fun _=>O)) ?_
 rintro u_ L_ ⟨c,rfl,rfl⟩
 refine JLm (.vec 1151 c 1 a.length) O (G8 (g (Gbb 2 O O (fun hn_=>Gs ?_))))
 obtain rfl:=M2 h
 exact⟨[.vec 1151 c 1 a.length],[(1151,.vec 3 1 c (a.map I64))],⟨⟨_,O,.vec⟩,G⟩,O,⟨⟨_,O,.conv (.same O)⟩,G⟩,c,congrArg (fun n_:Nat=>(.vec 1151 c 1 n_:AV)) (hn_.trans (Mg _)),O⟩

def Gd8 (l:List G3):Option (List Slot):=
 each (fun b d (a:(List Slot)) c=>
  need (decide ((a.length+[b.Slot].length)*24≤140737488355328∧a.length+[b.Slot].length≤maxLen)) <|
  c (a++[b.Slot]))
 (fun(a:(List Slot))=>
  some a) l 0 []
theorem Q45 (l:List G3) (r:(List Slot)) (h:Gd8 l=some r):Pure Ek 52 [E2 l] (·=E9 r):=by
 unfold Gd8 at h
 refine H3 [.tmp 2] Tryz.func52 O O (Jr fun v=>(JLh (E9 ([]:List Slot)) (Jb 3 O O) O (G8 (v (Jr fun w=>(JLh (OW 1080 3 Slot.av ([]:List Slot)) (Gb9 1080 50 3 O O O) O (G8 (w (Js fun x=>Jr fun z=>(JLm (E2 l) O (JLl H6 O O O fun a0=>(JLm (I64 0) O (G8 (z (Gx ?_)))))))))))))))
 obtain⟨a1,i,j,g,h⟩:=Jf h
 refine Hs (fun c (a:(List Slot))=>each a1 i (List.drop c l) c a=some r) (fun c a=>[(3,OW 1080 3 Slot.av a),(6,E2 l),(7,Ej l.length),(8,Ej c)]) (fun c a=>[(1080,.spare 50 3 a.length a.length)]) (fun c=>l.length - c) 0 [] h ⟨(.sm O O),⟨⟨_,rfl,.same⟩,G⟩,rfl⟩ ?_
 clear h
 intro c a d a4 a2
 refine Jr fun k=>(JLh (BL (decide ((c:Int) < (l.length:Int)))) (Jq O O O) O (G8 (k (Js fun m=>Gp O (fun hb=>?_) (fun hb=>?_)))))
 ·
  have e:=Q4 hb
  obtain⟨b,a3,n,o,h⟩:=Hz d e
  replace h:=Zi j h
  refine Gn (m (Js fun p=>Gx (Jr fun q=>(JLh (Ef b) (H0 (f:=G3.av) (xs:=l) (y:=b) O O O H6 n O) O (JLh (.agg (G3.cs b)) (Gt G32 O O O) O (JLh (.ptr 1081 0) (Jn 1081 4 Yv O O) O (J9 (u:=.junk) (He (u:=.agg (G3.cs b)) (ds:=[I64 b.Box,I64 b.Slot.G1,I64 b.Slot.Tier,U8 b.Slot.Half]) H33 O O O O O O O O) (G8 (q (fzQ [(3,OW 1080 3 Slot.av a),(5,Ef b),(6,E2 l),(7,Ej l.length),(8,Ej c)] [(1080,.spare 50 3 a.length a.length)] 1081 rfl rfl rfl ⟨⟨_,rfl,.same⟩,G⟩ rfl (G2 ?_)))))))))))
  refine JLm (OW 1080 3 Slot.av a) O (JLh (.dptr ((G3.cs b).drop 1)) (Gb J1 O O O) O (JLh (.agg ((G3.cs b).drop 1)) (Gt Hx O O O) O (JLh (E9 [b.Slot]) (J2 (xs:=[.agg ((G3.cs b).drop 1)]) O ⟨O,O,G⟩ Rj G19 O O O O) O ?_)))
  obtain⟨s,h⟩:=Qa h
  refine JLh (OW 1080 3 Slot.av (a++[b.Slot])) (Z1 (f:=Slot.av) (xs:=a) (ys:=[b.Slot]) O O O O Rj J18 s (fun _=>O) (.inl O) O) O (JLm (OW 1080 3 Slot.av (a++[b.Slot])) O (G8 (p (G2 (JLh (I64 ((c+1:Nat):Int)) (Jo (Hw e a0) O O O) O (JLm (I64 ((c+1:Nat):Int)) O (G8 (a2 _ _ (c+1) (a++[b.Slot]) (app1 o h) (by omega) ⟨(.sm O O),⟨⟨_,rfl,.same⟩,G⟩,rfl⟩))))))))
 ·
  have h:=app1 g (J0 d (Hd hb))
  refine Hy (x (Jr fun t=>(JLm (OW 1080 3 Slot.av a) O (JLm (OW 1080 3 Slot.av a) O (G8 (t (Gs (fin1l (fun r:(List Slot)=>(E9 r:AV)) h))))))))

def H09 (b:Box):Option Int:=
 bif b.High then
 (some 2896)
 else
 (some 2591)
theorem Q69 (b:Box) (r:Int) (h:H09 b=some r):Pure Ek 138 [.agg (Box.cs b)] (·=I64 r):=by
 unfold H09 at h
 refine H3 [.tmp 2] Tryz.func138 O O (Jr fun a=>(JLh (.ptr 1154 0) (Ju (cs:=(Box.cs b)) 1154 O O O O O) O (JLm (I64 0) O (G8 (a (Gu [(1,Eg b)] [] 1154 rfl rfl rfl G rfl (by exact⟨.ptr,G⟩) (Js fun c=>Jr fun d=>(JLh (.dptr ((Box.cs b).drop 3)) (Gb H63 O O O) O (JLh (BL b.High) (Ge Re O O O) O (G8 (d (JCc O h (fun h hb=>?_) (fun h hb=>?_)))))))))))))
 ·
  refine Jr fun e=>(JLm (I64 2896) O (G8 (e (Gs (fin1 I64 h)))))
 ·
  refine Gn (c (Jr fun f=>(JLm (I64 2591) O (G8 (f (Gs (fin1 I64 h)))))))

def G73 (boxes:List Box) (l:List G3) (column:Int) (half:Int):Option Int:=
 each (fun c i (a:Int) e=>
  jp (fun b=>
   bif ((decide (c.Slot.G1=column))&&((decide (c.Slot.Half=half))||(decide (c.Slot.Half=0)))) then
   (bnd (G84 boxes c.Box) fun d=>
    bif d.2 then
    (bnd (H09 d.1) fun f=>
     chk (a+f) fun g=>
     b g)
    else
    (b a))
   else
   (b a)) fun(h:Int)=>
  e h)
 (fun(a:Int)=>
  some a) l 0 0
theorem Hbe (boxes:List Box) (l:List G3) (column:Int) (half:Int) (r:Int) (h:G73 boxes l column half=some r):Pure Ek 106 [E8 boxes,E2 l,I64 column,U8 half] (·=I64 r):=by
 unfold G73 at h
 refine H3 [.tmp 8] Tryz.func106 O O (Jr fun a7=>(JLm (I64 0) O (G8 (a7 (Jr fun a8=>(JLm (I64 0) O (G8 (a8 (Js fun a9=>Jr fun b0=>(JLm (E2 l) O (JLl H6 O O O fun o=>(JLm (I64 0) O (G8 (b0 (Gx ?_)))))))))))))))
 obtain⟨b1,p,q,k,h⟩:=Jf h
 refine Hs (fun b (d:Int)=>each b1 p (List.drop b l) b d=some r) (fun b d=>[(0,E8 boxes),(2,I64 column),(3,U8 half),(9,I64 d),(14,E2 l),(15,Ej l.length),(16,Ej b)]) (fun b d=>[]) (fun b=>l.length - b) 0 0 h ⟨(.sm O O),G,rfl⟩ ?_
 clear h
 intro b d g b4 b2
 refine Jr fun s=>(JLh (BL (decide ((b:Int) < (l.length:Int)))) (Jq O O O) O (G8 (s (Js fun t=>Gp O (fun hb=>?_) (fun hb=>?_)))))
 ·
  have i:=Q4 hb
  obtain⟨a,b3,v,w,h⟩:=Hz g i
  replace h:=Zi q h
  refine Gn (t ?_)
  obtain⟨x,m,h⟩:=Ga2 h
  refine G4d (fun e:Int=>x e=some r) (fun e=>[(0,E8 boxes),(2,I64 column),(3,U8 half),(9,I64 e),(14,E2 l),(15,Ej l.length),(16,Ej b)]) (fun e=>[]) (fun Kj30 ej30=>?_) ?_
  ·
   refine Gx (Jr fun z=>(JLh (Ef a) (H0 (f:=G3.av) (xs:=l) (y:=a) O O O H6 v O) O (JLh (.agg (G3.cs a)) (Gt G32 O O O) O (JLh (.ptr 1130 0) (Jn 1130 4 Yv O O) O (J9 (u:=.junk) (He (u:=.agg (G3.cs a)) (ds:=[I64 a.Box,I64 a.Slot.G1,I64 a.Slot.Tier,U8 a.Slot.Half]) H33 O O O O O O O O) (G8 (z (fzQ [(0,E8 boxes),(2,I64 column),(3,U8 half),(9,I64 d),(11,Ef a),(14,E2 l),(15,Ej l.length),(16,Ej b)] [] 1130 rfl rfl rfl G rfl ?_))))))))
   refine Jr fun a0=>(JLh (.dptr ((G3.cs a).drop 1)) (Gb J1 O O O) O (JLh (.dptr ((G3.cs a).drop 1)) (Gb Hu O O O) O (JLh (I64 a.Slot.G1) (Ge Gd O O O) O (JLm (I64 column) O (JLh (BL (decide (a.Slot.G1=column))) (Jk O O O) O (JLm (BL (decide (a.Slot.G1=column))) O (JLo (.dptr ((G3.cs a).drop 1)) [] O .sct G (fun hc=>Gb J1 O O O) O (JLo (.dptr [U8 a.Slot.Half]) [26] O .sct ⟨Ua,G⟩ (fun hc=>Gb Je O O O) O (JLo (U8 a.Slot.Half) [27] O .sct ⟨Ua,G⟩ (fun hc=>Ge Hm O O O) O (JLo (U8 half) [] O .sct G (fun hc=>G7 O O) O (JLo (BL (decide (a.Slot.Half=half))) [28,29] O .sct ⟨Ua,Ua,G⟩ (fun hc=>Jk O O O) O (JLo (BL (decide (a.Slot.Half=half))) [30] O .sct ⟨Ua,G⟩ (fun hc=>G7 O O) O (JLo (.dptr ((G3.cs a).drop 1)) [] O .optf G (fun hc=>Gb J1 O O O) O ?_)))))))))))))
   refine JLo (.dptr [U8 a.Slot.Half]) [32] O .optf ⟨Ua,G⟩ (fun hc=>Gb Je O O O) O (JLo (U8 a.Slot.Half) [33] O .optf ⟨Ua,G⟩ (fun hc=>Ge Hm O O O) O (JLo (BL (decide (a.Slot.Half=0))) [34] O .optf ⟨Ua,G⟩ (fun hc=>Jk O O O) O (Gf (u:=BL ((decide (a.Slot.Half=half))||(decide (a.Slot.Half=0)))) [(31,BL (decide (a.Slot.Half=half))),(35,_)] O O O .sct ⟨.all id,.part,G⟩ (fun hc=>Ya O O O O) ?_)))
   refine JLh (BL ((decide (a.Slot.G1=column))&&((decide (a.Slot.Half=half))||(decide (a.Slot.Half=0))))) (Jv O O O O) O (G8 (a0 (JCc O h (fun h hb=>?_) (fun h hb=>?_))))
   ·
    refine Jr fun a1=>(JLm (E8 boxes) O (JLh (Ef a) (Gb Q1 O O O) O (JLh (I64 a.Box) (Ge Gd O O O) O ?_)))
    obtain⟨c,a2,h⟩:=Gj h
    refine JLh (.tup [.agg (Box.cs c.1),BL c.2]) (Gw O (H71 boxes a.Box c a2) J1d ⟨O,O,O,O,G⟩) O (JLm (.tup [.agg (Box.cs c.1),BL c.2]) O (JLh (.agg (Box.cs c.1)) (H4 O O O) O (JLh (BL c.2) (H4 O O O) O (JLh (.ptr 1131 0) (Jn 1131 9 Y1 O O) O (J9 (u:=.junk) (He (u:=.agg (Box.cs c.1)) (ds:=(Box.cs c.1)) Rk O O O O O O O O) (JLm (BL c.2) O (G8 (a1 ?_))))))))
    refine fzQ [(0,E8 boxes),(2,I64 column),(3,U8 half),(9,I64 d),(12,Eg c.1),(13,BL c.2),(14,E2 l),(15,Ej l.length),(16,Ej b)] [] 1131 rfl rfl rfl G rfl (Jr fun a3=>(JLm (BL c.2) O (G8 (a3 (JCc O h (fun h hb=>?_) (fun h hb=>?_))))))
    ·
     refine G2 (JLm (I64 d) O (JLh (.agg (Box.cs c.1)) (Gt Yf O O O) O ?_))
     obtain⟨n,a4,h⟩:=Gj h
     refine JLh (I64 n) (Gw O (Q69 c.1 n a4) Qe2 ⟨O,O,G⟩) O ?_
     obtain⟨j,a5,h⟩:=Zw h
     refine JLh (I64 j) (Jo a5 O O O) O (JLm (I64 j) O (G8 (ej30 _ _ j h ⟨(.sm O O),G,rfl⟩)))
    ·
     refine Gn (ej30 _ _ d h ⟨(.sm O O),G,rfl⟩)
   ·
    refine Gn (ej30 _ _ d h ⟨(.sm O O),G,rfl⟩)
  ·intro e h
   replace h:=app1 m h
   refine G2 (JLh (I64 ((b+1:Nat):Int)) (Jo (Hw i o) O O O) O (JLm (I64 ((b+1:Nat):Int)) O (G8 (b2 _ _ (b+1) e (app1 w h) (by omega) ⟨(.sm O O),G,rfl⟩))))
 ·
  have h:=app1 k (J0 g (Hd hb))
  refine Hy (a9 (Jr fun a6=>(JLm (I64 d) O (JLm (I64 d) O (G8 (a6 (Gs (fin1 I64 h))))))))

def H0a (s:G6) (boxes:List Box) (l:List G3) (column:Int):Option Bool:=
 Qr s.Columns column fun a=>
 bnd (bif (!(decide (a.Height≤0))) then G73 boxes l column 1 else some default) fun b=>
 bnd (bif ((!(decide (a.Height≤0)))&&(decide (b≤a.Height))) then G73 boxes l column 2 else some default) fun c=>
 some ((decide (a.Height≤0))||((decide (b≤a.Height))&&(decide (c≤a.Height))))
theorem Q6a (s:G6) (boxes:List Box) (l:List G3) (column:Int) (r:Bool) (h:H0a s boxes l column=some r):Pure Ek 57 [.agg (G6.cs s),E8 boxes,E2 l,I64 column] (·=BL r):=by
 unfold H0a at h
 refine H3 [.tmp 8] Tryz.func57 O O (Jr fun d=>(JLh (.ptr 1090 0) (Ju (cs:=(G6.cs s)) 1090 O O O O O) O (JLm (BL false) O (G8 (d (fzQ [(1,E8 boxes),(2,E2 l),(3,I64 column),(4,Ee s)] [] 1090 rfl rfl rfl G rfl (Jr fun e=>(JLh (Ee s) (Gb Hh O O O) O (JLh (E3 s.Columns) (Ge Hn O O O) O (JLm (I64 column) O ?_))))))))))
 obtain⟨n,a,g,i,h⟩:=Rr h
 refine JLh (Eh a) (H0 (f:=G1.av) (xs:=s.Columns) (y:=a) O O O Hk i g) O (JLh (.dptr ((G1.cs a).drop 4)) (Gb G44 O O O) O (JLh (I64 a.Height) (Ge Gd O O O) O (JLm (I64 a.Height) O (G8 (e (Jr fun j=>(JLm (I64 a.Height) O (JLh (BL (decide (a.Height≤0))) (H61 O O O) O (JLm (BL (decide (a.Height≤0))) O (JLo (E8 boxes) [] O .scf G (fun hc=>G7 O O) O (JLo (E2 l) [] O .scf G (fun hc=>G7 O O) O (JLo (I64 column) [] O .scf G (fun hc=>G7 O O) O ?_))))))))))))
 obtain⟨b,k,h⟩:=Gj h
 refine JLo (I64 b) [19,20,21] O .scf ⟨Ua,Ua,Ua,G⟩ (fun hc=>Gw (args:=[E8 boxes,E2 l,I64 column,U8 1]) O (Hbe boxes l column 1 b (H1 hc k)) J9a ⟨O,O,O,O,O,O,O,O,G⟩) O (JLo (I64 a.Height) [] O .scf G (fun hc=>G7 O O) O (JLo (BL (decide (b≤a.Height))) [22,23] O .scf ⟨Ua,Ua,G⟩ (fun hc=>H61 O O O) O (JLo (BL (decide (b≤a.Height))) [24] O .scf ⟨Ua,G⟩ (fun hc=>G7 O O) O (JLo (E8 boxes) [] O .optt G (fun hc=>G7 O O) O (JLo (E2 l) [] O .optt G (fun hc=>G7 O O) O (JLo (I64 column) [] O .optt G (fun hc=>G7 O O) O ?_))))))
 obtain⟨c,m,h⟩:=Gj h
 refine JLo (I64 c) [26,27,28] O .optt ⟨Ua,Ua,Ua,G⟩ (fun hc=>Gw (args:=[E8 boxes,E2 l,I64 column,U8 2]) O (Hbe boxes l column 2 c (H1 hc m)) J9a ⟨O,O,O,O,O,O,O,O,G⟩) O (JLo (I64 a.Height) [] O .optt G (fun hc=>G7 O O) O (JLo (BL (decide (c≤a.Height))) [29,30] O .optt ⟨Ua,Ua,G⟩ (fun hc=>H61 O O O) O (Gf (u:=BL ((decide (b≤a.Height))&&(decide (c≤a.Height)))) [(25,BL (decide (b≤a.Height))),(31,_)] O O O .scf ⟨.all id,.part,G⟩ (fun hc=>Jv O O O O) ?_)))
 refine JLh (BL ((decide (a.Height≤0))||((decide (b≤a.Height))&&(decide (c≤a.Height))))) (Ya O O O O) O (JLm (BL ((decide (a.Height≤0))||((decide (b≤a.Height))&&(decide (c≤a.Height))))) O (G8 (j (Gs (fin1 BL h)))))

def G3d (s:G6) (boxes:List Box) (l:List G3):Option Bool:=
 bnd (G96 s) fun v=>
 bif (!v) then
 (some false)
 else
 (bnd (Gd8 l) fun f=>
  each (fun a b (j:Unit) g=>
   bnd (G84 boxes a.Box) fun c=>
   bnd (bif ((!(!c.2))&&(decide (0 < (b:Int)))) then chk ((b:Int) - 1) some else some 0) fun k=>
   bnd (bif ((!(!c.2))&&(decide (0 < (b:Int)))) then Qr l k some else some default) fun d=>
   bnd (bif (!((!c.2)||((decide (0 < (b:Int)))&&(decide (a.Box≤d.Box))))) then G5d s a.Slot c.1.Size else some default) fun e=>
   bnd (bif (!(((!c.2)||((decide (0 < (b:Int)))&&(decide (a.Box≤d.Box))))||(!e))) then G3e a.Slot f else some default) fun m=>
   bif ((((!c.2)||((decide (0 < (b:Int)))&&(decide (a.Box≤d.Box))))||(!e))||(!m)) then
   (some false)
   else
   (bnd (H79 (b:Int) f.length) fun n=>
    each (fun o w (p:Unit) h=>
     bnd (Gcc a.Slot o) fun q=>
     bif q then
     (some false)
     else
     (h ()))
    (fun(p:Unit)=>
     g ()) (f.take n) 0 ()))
  (fun(j:Unit)=>
   each (fun x r (t:Unit) i=>
    bnd (H0a s boxes l (r:Int)) fun u=>
    bif (!u) then
    (some false)
    else
    (i ()))
   (fun(t:Unit)=>
    some true) s.Columns 0 ()) l 0 ())
theorem He4 (s:G6) (boxes:List Box) (l:List G3) (r:Bool) (h:G3d s boxes l=some r):Pure Ek 23 [.agg (G6.cs s),E8 boxes,E2 l] (·=BL r):=by
 unfold G3d at h
 refine H3 [.tmp 6] Tryz.func23 O O (Jr fun f4=>(JLh (.ptr 1032 0) (Ju (cs:=(G6.cs s)) 1032 O O O O O) O (JLm (BL false) O (G8 (f4 (Gu [(1,E8 boxes),(2,E2 l),(3,Ee s)] [] 1032 rfl rfl rfl G rfl (by exact⟨.conv (.same rfl),.conv (.same rfl),.ptr,G⟩) (Js fun f5=>Jr fun f6=>(JLh (.agg (G6.cs s)) (Gt Jm O O O) O ?_))))))))
 obtain⟨r4,f7,h⟩:=Gj h
 refine JLh (BL r4) (Gw O (Q43.down s r4 f7) R4b ⟨O,O,G⟩) O (JLh (BL (!r4)) (R2 (b:=r4) O O) O (G8 (f6 (JCc O h (fun h hb=>?_) (fun h hb=>?_)))))
 ·
  refine Jr fun f8=>(JLm (BL false) O (G8 (f8 (Gs (fin1 BL h)))))
 ·
  refine Gn (f5 (Jr fun f9=>(JLm (E2 l) O ?_)))
  obtain⟨g,g0,h⟩:=Gj h
  refine JLh (E9 g) (Gw O (Q45 l g g0) R4a ⟨O,O,G⟩) O (JLm (E9 g) O (G8 (f9 (Js fun g1=>Jr fun g2=>(JLm (E2 l) O (JLl H6 O O O fun a8=>(JLm (I64 0) O (G8 (g2 (Gx ?_))))))))))
  obtain⟨g3,a9,b0,a4,h⟩:=Jf h
  refine Hs (fun c (p:Unit)=>each g3 a9 (List.drop c l) c p=some r) (fun c p=>[(1,E8 boxes),(2,E2 l),(3,Ee s),(7,E9 g),(20,E2 l),(21,Ej l.length),(22,Ej c)]) (fun c p=>[]) (fun c=>l.length - c) 0 () h ⟨(.sm O O),G,rfl⟩ ?_
  clear h
  intro c p w h4 g4
  refine Jr fun b1=>(JLh (BL (decide ((c:Int) < (l.length:Int)))) (Jq O O O) O (G8 (b1 (Js fun b2=>Gp O (fun hb=>?_) (fun hb=>?_)))))
  ·
   have x:=Q4 hb
   obtain⟨a,h0,b3,b4,h⟩:=Hz w x
   replace h:=Zi b0 h
   refine Gn (b2 (Js fun b5=>Gx (Jr fun b6=>(JLm (Ej c) O (JLh (Ef a) (H0 (f:=G3.av) (xs:=l) (y:=a) O O O H6 b3 O) O (JLh (.agg (G3.cs a)) (Gt G32 O O O) O (JLh (.ptr 1033 0) (Jn 1033 4 Yv O O) O (JLm (Ej c) O (J9 (u:=.junk) (He (u:=.agg (G3.cs a)) (ds:=[I64 a.Box,I64 a.Slot.G1,I64 a.Slot.Tier,U8 a.Slot.Half]) H33 O O O O O O O O) (G8 (b6 (fzQ [(1,E8 boxes),(2,E2 l),(3,Ee s),(7,E9 g),(8,Ej c),(9,Ef a),(20,E2 l),(21,Ej l.length),(22,Ej c)] [] 1033 rfl rfl rfl G rfl ?_))))))))))))
   refine Jr fun b7=>(JLm (E8 boxes) O (JLh (Ef a) (Gb Q1 O O O) O (JLh (I64 a.Box) (Ge Gd O O O) O ?_)))
   obtain⟨d,b8,h⟩:=Gj h
   refine JLh (.tup [.agg (Box.cs d.1),BL d.2]) (Gw O (H71 boxes a.Box d b8) J1d ⟨O,O,O,O,G⟩) O (JLm (.tup [.agg (Box.cs d.1),BL d.2]) O (JLh (.agg (Box.cs d.1)) (H4 O O O) O (JLh (BL d.2) (H4 O O O) O (JLh (.ptr 1034 0) (Jn 1034 9 Y1 O O) O (J9 (u:=.junk) (He (u:=.agg (Box.cs d.1)) (ds:=(Box.cs d.1)) Rk O O O O O O O O) (JLm (BL d.2) O (G8 (b7 ?_))))))))
   refine fzQ [(1,E8 boxes),(2,E2 l),(3,Ee s),(7,E9 g),(8,Ej c),(9,Ef a),(10,Eg d.1),(11,BL d.2),(20,E2 l),(21,Ej l.length),(22,Ej c)] [] 1034 rfl rfl rfl G rfl (Js fun b9=>Js fun c0=>?_)
   obtain⟨g5,c1,h⟩:=Gj h
   obtain⟨j,c2,h⟩:=Gj h
   obtain⟨n,c3,h⟩:=Gj h
   obtain⟨o,c4,h⟩:=Gj h
   refine JC_d0 Ho (by kernel_rfl) (Dq (BL d.2) (G7 O O) O (Dq (BL (!d.2)) (R2 (b:=d.2) O O) O (Dq (BL (!d.2)) (G7 O O) O (Do (Ej c) [] O .scf G (fun hc=>G7 O O) O (Do (BL (decide (0 < (c:Int)))) [37] O .scf ⟨Ua,G⟩ (fun hc=>G08 O O O) O (Do (BL (decide (0 < (c:Int)))) [38] O .scf ⟨Ua,G⟩ (fun hc=>G7 O O) O (Do (Ef a) [] O .optt G (fun hc=>Gb Q1 O O O) O (Do (I64 a.Box) [40] O .optt ⟨Ua,G⟩ (fun hc=>Ge Gd O O O) O (Do (E2 l) [] O .optt G (fun hc=>G7 O O) O (Do (Ej c) [] O .optt G (fun hc=>G7 O O) O (Do (I64 g5) [43] O .optt ⟨Ua,G⟩ (fun hc=>H90 (G65 (H1 hc c1)) O O O) O (Do (Ef j) [42,44] O .optt ⟨Ua,Ua,G⟩ (fun hc=>(match R1 (H1 hc c2) with | ⟨_,hm_,hy_⟩=>H0 (f:=G3.av) (xs:=l) (y:=j) O O O H6 hy_ hm_)) O (Do (Ef j) [45] O .optt ⟨Ua,G⟩ (fun hc=>Gb Q1 O O O) O ?_)))))))))))))
   refine Do (I64 j.Box) [46] O .optt ⟨Ua,G⟩ (fun hc=>Ge Gd O O O) O (Do (BL (decide (a.Box≤j.Box))) [41,47] O .optt ⟨Ua,Ua,G⟩ (fun hc=>H61 O O O) O (Dg (.opt (!(!d.2)) (BL ((decide (0 < (c:Int)))&&(decide (a.Box≤j.Box))))) (Gk [(39,BL (decide (0 < (c:Int)))),(48,_)] O O O .scf ⟨.all id,.part,G⟩ (fun hc=>Jv O O O O) O) O (Dq (BL ((!d.2)||((decide (0 < (c:Int)))&&(decide (a.Box≤j.Box))))) (Ya O O O O) O (Dq (BL ((!d.2)||((decide (0 < (c:Int)))&&(decide (a.Box≤j.Box))))) (G7 O O) O (Do (.agg (G6.cs s)) [] O .scf G (fun hc=>Gt Jm O O O) O (Do (.dptr ((G3.cs a).drop 1)) [] O .scf G (fun hc=>Gb J1 O O O) O (Do (.agg ((G3.cs a).drop 1)) [53] O .scf ⟨Ua,G⟩ (fun hc=>Gt Hx O O O) O (Do (.dptr ((Box.cs d.1).drop 2)) [] O .scf G (fun hc=>Gb Ym O O O) O (Do (U8 d.1.Size) [55] O .scf ⟨Ua,G⟩ (fun hc=>Ge Hm O O O) O (Do (BL n) [52,54,56] O .scf ⟨Ua,Ua,Ua,G⟩ (fun hc=>Gw (args:=[.agg (G6.cs s),.agg ((G3.cs a).drop 1),U8 d.1.Size]) O (He5 s a.Slot d.1.Size n (H1 hc c3)) Jf7 ⟨O,O,O,O,O,O,G⟩) O (Do (BL (!n)) [57] O .scf ⟨Ua,G⟩ (fun hc=>R2 (b:=n) O O) O (Dq (BL (((!d.2)||((decide (0 < (c:Int)))&&(decide (a.Box≤j.Box))))||(!n))) (Ya O O O O) O (Dq (BL (((!d.2)||((decide (0 < (c:Int)))&&(decide (a.Box≤j.Box))))||(!n))) (G7 O O) O ?_)))))))))))))
   refine Do (.dptr ((G3.cs a).drop 1)) [] O .scf G (fun hc=>Gb J1 O O O) O (Do (.agg ((G3.cs a).drop 1)) [61] O .scf ⟨Ua,G⟩ (fun hc=>Gt Hx O O O) O (Do (E9 g) [] O .scf G (fun hc=>G7 O O) O (Do (BL o) [62,63] O .scf ⟨Ua,Ua,G⟩ (fun hc=>Gw (args:=[.agg ((G3.cs a).drop 1),E9 g]) O (J13 a.Slot g o (H1 hc c4)) Jf6 ⟨O,O,O,O,G⟩) O (Do (BL (!o)) [64] O .scf ⟨Ua,G⟩ (fun hc=>R2 (b:=o) O O) O (Dq (BL ((((!d.2)||((decide (0 < (c:Int)))&&(decide (a.Box≤j.Box))))||(!n))||(!o))) (Ya O O O O) O (Dnil (c0 (JCc O h (fun h hb=>?_) (fun h hb=>?_)))))))))
   ·
    refine Jr fun c5=>(JLm (BL false) O (G8 (c5 (Gs (fin1 BL h)))))
   ·
    refine Gn (b9 (Jr fun c6=>(JLm (E9 g) O (JLm (Ej c) O ?_))))
    obtain⟨m,c7,h⟩:=Gj h
    refine JLh (E9 (g.take m)) (R8f (f:=Slot.av) (xs:=g) O O O Rj (J72 c7)) O (JLl Rj O O O fun c8=>(JLm (I64 0) O (G8 (c6 (Gx ?_)))))
    obtain⟨g6,c9,d0,a5,h⟩:=Jf h
    refine Hs (fun i (q:Unit)=>each g6 c9 (List.drop i (g.take m)) i q=some r) (fun i q=>[(1,E8 boxes),(2,E2 l),(3,Ee s),(7,E9 g),(9,Ef a),(20,E2 l),(21,Ej l.length),(22,Ej c),(69,E9 (g.take m)),(70,I64 ((g.take m).length:Int)),(71,Ej i)]) (fun i q=>[]) (fun i=>(g.take m).length - i) 0 () h ⟨(.sm O O),G,rfl⟩ ?_
    clear h
    intro i q z h5 g7
    refine Jr fun d1=>(JLh (BL (decide ((i:Int) < ((g.take m).length:Int)))) (Jq O O O) O (G8 (d1 (Js fun d2=>Gp O (fun hb=>?_) (fun hb=>?_)))))
    ·
     have a0:=Q4 hb
     obtain⟨k,h1,d3,d4,h⟩:=Hz z a0
     replace h:=Zi d0 h
     refine Gn (d2 (Js fun d5=>Gx (Jr fun d6=>(JLh (Ei k) (H0 (f:=Slot.av) (xs:=(g.take m)) (y:=k) O O O Rj d3 O) O (JLh (.agg (Slot.cs k)) (Gt Hx O O O) O (JLh (.ptr 1035 0) (Jn 1035 3 G19 O O) O (J9 (u:=.junk) (He (u:=.agg (Slot.cs k)) (ds:=[I64 k.G1,I64 k.Tier,U8 k.Half]) G7b O O O O O O O O) (G8 (d6 (fzQ [(1,E8 boxes),(2,E2 l),(3,Ee s),(7,E9 g),(9,Ef a),(13,Ei k),(20,E2 l),(21,Ej l.length),(22,Ej c),(69,E9 (g.take m)),(70,I64 ((g.take m).length:Int)),(71,Ej i)] [] 1035 rfl rfl rfl G rfl ?_))))))))))
     refine Jr fun d7=>(JLh (.dptr ((G3.cs a).drop 1)) (Gb J1 O O O) O (JLh (.agg ((G3.cs a).drop 1)) (Gt Hx O O O) O (JLh (.agg (Slot.cs k)) (Gt Hx O O O) O ?_)))
     obtain⟨a7,d8,h⟩:=Gj h
     refine JLh (BL a7) (Gw O (J12 a.Slot k a7 d8) Jf5 ⟨O,O,O,O,G⟩) O (G8 (d7 (JCc O h (fun h hb=>?_) (fun h hb=>?_))))
     ·
      refine Jr fun d9=>(JLm (BL false) O (G8 (d9 (Gs (fin1 BL h)))))
     ·
      refine Gn (d5 (G2 (JLh (I64 ((i+1:Nat):Int)) (Jo (Hw a0 c8) O O O) O (JLm (I64 ((i+1:Nat):Int)) O (G8 (g7 _ _ (i+1) () (app1 d4 h) (by omega) ⟨(.sm O O),G,rfl⟩))))))
    ·
     have h:=app1 a5 (J0 z (Hd hb))
     refine Hy (b5 (G2 (JLh (I64 ((c+1:Nat):Int)) (Jo (Hw x a8) O O O) O (JLm (I64 ((c+1:Nat):Int)) O (G8 (g4 _ _ (c+1) () (app1 b4 h) (by omega) ⟨(.sm O O),G,rfl⟩))))))
  ·
   have h:=app1 a4 (J0 w (Hd hb))
   refine Hy (g1 (Js fun e0=>Jr fun e1=>(JLh (Ee s) (Gb Hh O O O) O (JLh (E3 s.Columns) (Ge Hn O O O) O (JLl Hk O O O fun e2=>(JLm (I64 0) O (G8 (e1 (Gx ?_)))))))))
   obtain⟨g8,e3,e4,a6,h⟩:=Jf h
   refine Hs (fun e (t:Unit)=>each g8 e3 (List.drop e s.Columns) e t=some r) (fun e t=>[(1,E8 boxes),(2,E2 l),(3,Ee s),(83,Ej s.Columns.length),(84,Ej e)]) (fun e t=>[]) (fun e=>s.Columns.length - e) 0 () h ⟨(.sm O O),G,rfl⟩ ?_
   clear h
   intro e t a1 h6 g9
   refine Jr fun e5=>(JLh (BL (decide ((e:Int) < (s.Columns.length:Int)))) (Jq O O O) O (G8 (e5 (Js fun e6=>Gp O (fun hb=>?_) (fun hb=>?_)))))
   ·
    have a2:=Q4 hb
    obtain⟨h7,h2,h3,e7,h⟩:=Hz a1 a2
    replace h:=Zi e4 h
    refine Gn (e6 (Js fun e8=>Gx (Jr fun e9=>(JLm (Ej e) O (JLm (Ej e) O (G8 (e9 (Jr fun f0=>(JLh (.agg (G6.cs s)) (Gt Jm O O O) O (JLm (E8 boxes) O (JLm (E2 l) O (JLm (Ej e) O ?_))))))))))))
    obtain⟨v,f1,h⟩:=Gj h
    refine JLh (BL v) (Gw O (Q6a s boxes l (e:Int) v f1) R49 ⟨O,O,O,O,O,O,O,O,G⟩) O (JLh (BL (!v)) (R2 (b:=v) O O) O (G8 (f0 (JCc O h (fun h hb=>?_) (fun h hb=>?_)))))
    ·
     refine Jr fun f2=>(JLm (BL false) O (G8 (f2 (Gs (fin1 BL h)))))
    ·
     refine Gn (e8 (G2 (JLh (I64 ((e+1:Nat):Int)) (Jo (Hw a2 e2) O O O) O (JLm (I64 ((e+1:Nat):Int)) O (G8 (g9 _ _ (e+1) () (app1 e7 h) (by omega) ⟨(.sm O O),G,rfl⟩))))))
   ·
    have h:=app1 a6 (J0 a1 (Hd hb))
    refine Hy (e0 (Jr fun f3=>(JLm (BL true) O (G8 (f3 (Gs (fin1 BL h)))))))

def R8 (s:List Ga):Option (List Ga):=
 R76 s fun a=>
 bif a then
 (some [])
 else
 (need (decide ((([]:List Ga).length+s.length)*32≤140737488355328∧([]:List Ga).length+s.length≤maxLen)) <|
  some (([]:List Ga)++s))
def Yo (x:G3) (a:Int):Option Bool:=
 some (decide (x.Box=a))
theorem Hc0 (x:G3) (a:Int) (r:Bool) (h:Yo x a=some r):Pure Ek 29 [.agg (G3.cs x),.dptr [I64 a]] (·=BL r):=by
 unfold Yo at h
 refine H3 [.tmp 3] Tryz.func29 O O (Jr fun b=>(JLh (.ptr 1041 0) (Ju (cs:=[I64 x.Box,I64 x.Slot.G1,I64 x.Slot.Tier,U8 x.Slot.Half]) 1041 O O O O O) O (JLm (BL false) O (G8 (b (Gu [(1,.dptr [I64 a]),(2,Ef x)] [] 1041 rfl rfl rfl G rfl (by exact⟨.conv (.same rfl),.ptr,G⟩) (Jr fun c=>(JLh (Ef x) (Gb Q1 O O O) O (JLh (I64 x.Box) (Ge Gd O O O) O (JLh (I64 a) (Ge Gd O O O) O (JLh (BL (decide (x.Box=a))) (Jk O O O) O (JLm (BL (decide (x.Box=a))) O (G8 (c (Gs (fin1 BL h))))))))))))))))

def Yq (s:List G3) (f:G3→Option Bool):Option Int:=
 each (fun b c (d:Unit) a=>
  bnd (f b) fun e=>
  bif e then
  (some (c:Int))
  else
  (a ()))
 (fun(d:Unit)=>
  some (-1)) s 0 ()
theorem Gee (s:List G3) (f:G3→Option Bool) (f_f:FuncId) (f_c:List AV) (f_B:H9 Ek f_f=true) (f_d:Qs (fun _=>false) f_c=true) (f_w:∀ a0 q,f a0=some q→Pure Ek f_f ([.agg (G3.cs a0)]++f_c) (·=BL q)) (r:Int) (h:Yq s f=some r):Pure Ek 58 [E2 s,.fn f_f f_c] (·=I64 r):=by
 unfold Yq at h
 refine H3 [.tmp 4] Tryz.func58 O O (Jr fun x=>(JLm (I64 0) O (G8 (x (Js fun z=>Jr fun a1=>(JLm (E2 s) O (JLl H6 O O O fun a2=>(JLm (I64 0) O (G8 (a1 (Gx ?_)))))))))))
 obtain⟨a3,i,j,g,h⟩:=Jf h
 refine Hs (fun a (c:Unit)=>each a3 i (List.drop a s) a c=some r) (fun a c=>[(0,E2 s),(1,.fn f_f f_c),(7,Ej s.length),(8,Ej a)]) (fun a c=>[]) (fun a=>s.length - a) 0 () h ⟨⟨.same O,.same (Q7 _ _ f_d),.same O,.same O,G⟩,G,O⟩ ?_
 clear h
 intro a c d a7 a4
 refine Jr fun k=>(JLh (BL (decide ((a:Int) < (s.length:Int)))) (Jq O O O) O (G8 (k (Js fun l=>Gp O (fun hb=>?_) (fun hb=>?_)))))
 ·
  have e:=Q4 hb
  obtain⟨b,a6,m,n,h⟩:=Hz d e
  replace h:=Zi j h
  refine Gn (l (Js fun o=>Gx (Jr fun p=>(JLm (Ej a) O (JLm (Ej a) O (G8 (p (Jr fun t=>(JLm (.fn f_f f_c) O (JLm (E2 s) O (JLm (Ej a) O (JLh (Ef b) (H0 (f:=G3.av) (xs:=s) (y:=b) O O O H6 m O) O (JLh (.agg (G3.cs b)) (Gt G32 O O O) O ?_)))))))))))))
  obtain⟨a5,u,h⟩:=Gj h
  refine JLh (BL a5) (G56 (args:=[.agg (G3.cs b)]) (caps:=f_c) O O (f_w b _ u) f_B ⟨O,O,G⟩ f_d) O (G8 (t (JCc O h (fun h hb=>?_) (fun h hb=>?_))))
  ·
   refine Jr fun v=>(JLm (Ej a) O (JLm (Ej a) O (G8 (v (Gs (fin1 I64 h))))))
  ·
   refine Gn (o (G2 (JLh (I64 ((a+1:Nat):Int)) (Jo (Hw e a2) O O O) O (JLm (I64 ((a+1:Nat):Int)) O (G8 (a4 _ _ (a+1) () (app1 n h) (by omega) ⟨⟨.same rfl,.same (Q7 _ _ f_d),.same rfl,.same rfl,G⟩,G,rfl⟩))))))
 ·
  have h:=app1 g (J0 d (Hd hb))
  refine Hy (z (Jr fun w=>(JLm (I64 (-1)) O (G8 (w (Gs (fin1 I64 h)))))))

def Jd (s:List G3) (f:G3→Option Bool):Option Bool:=
 bnd (Yq s f) fun a=>
 some (decide (0≤a))
theorem G2f (s:List G3) (f:G3→Option Bool) (f_f:FuncId) (f_c:List AV) (f_B:H9 Ek f_f=true) (f_d:Qs (fun _=>false) f_c=true) (f_w:∀ a0 q,f a0=some q→Pure Ek f_f ([.agg (G3.cs a0)]++f_c) (·=BL q)) (r:Bool) (h:Jd s f=some r):Pure Ek 28 [E2 s,.fn f_f f_c] (·=BL r):=by
 unfold Jd at h
 refine H3 [.tmp 4] Tryz.func28 O O (Jr fun b=>(JLm (BL false) O (G8 (b (Jr fun c=>(JLm (E2 s) O (JLm (.fn f_f f_c) O ?_)))))))
 obtain⟨a,d,h⟩:=Gj h
 refine JLh (I64 a) (Gw O (Gee s f f_f f_c f_B f_d f_w a d) R48 ⟨O,O,O,f_d,G⟩) O (JLh (BL (decide (0≤a))) (G4b O O O) O (JLm (BL (decide (0≤a))) O (G8 (c (Gs (fin1 BL h))))))


theorem G9e (s:List Ga) (r:(List Ga)) (h:R8 s=some r):Jx Ek 25 [E7 s] [] (fun av L'=>∃ p:Nat,av=.vec 1037 p 2 r.length∧L'=[(1037,.vec 74 2 p (r.map Ga.av))]):=by
 unfold R8 at h
 refine Ye [] [.tmp 2] Tryz.func25 O O (H18 O) (Jr fun a=>(JLh (.vec 1037 (([]:List Ga).length) 2 (([]:List Ga).length)) (H49 1037 74 2 O O O) O (G8 (a (Js fun b=>Jr fun c=>(JLm (E7 s) O (G18 O O O (J00 J7 O O) ?_)))))))
 rintro u_ L_ ⟨j,d,rfl,rfl⟩
 replace h:=H78 h j d
 refine G8 (c (JCc O h (fun h hb=>?_) (fun h hb=>?_)))
 ·
  refine Jr fun e=>(JLh (.vec 1037 ((([]:List Ga).length)+1) 2 (([]:List Ga).length)) (Qce 1037 74 2 O O O) O (G8 (e (Gbb 2 O O (fun hn_=>Gs ?_)))))
  obtain rfl:=M2 h
  exact⟨[.vec 1037 ((([]:List Ga).length)+1) 2 (([]:List Ga).length)],[(1037,.vec 74 2 ((([]:List Ga).length)+1) (([]:List Ga).map Ga.av))],⟨⟨_,O,.vec⟩,G⟩,O,⟨⟨_,O,.conv (.same O)⟩,G⟩,((([]:List Ga).length)+1),congrArg (fun n_:Nat=>(.vec 1037 ((([]:List Ga).length)+1) 2 n_:AV)) (hn_.trans O),O⟩
 ·
  refine Gn (b (Jr fun g=>(JLh (.vec 1037 ((([]:List Ga).length)+1) 2 (([]:List Ga).length)) (Qcf 1037 74 2 O O J7) O (JLm (E7 s) O ?_))))
  obtain⟨i,h⟩:=Qa h
  refine JLh (.vec 1037 (((([]:List Ga).length)+1)+((([]:List Ga)++s).length+1)) 2 ((([]:List Ga)++s).length)) (Gf3 (f:=Ga.av) (xs:=([]:List Ga)) (ys:=s) (ver:=((([]:List Ga).length)+1)) (ver1:=(((([]:List Ga).length)+1)+((([]:List Ga)++s).length+1))) rfl rfl rfl rfl J7 Je6 i (fun _=>rfl) (.inl rfl) (by simp)) O (JLm (.vec 1037 (((([]:List Ga).length)+1)+((([]:List Ga)++s).length+1)) 2 ((([]:List Ga)++s).length)) O (G8 (g (Gbb 2 O O (fun hn_=>Gs ?_)))))
  obtain rfl:=M2 h
  exact⟨[.vec 1037 (((([]:List Ga).length)+1)+((([]:List Ga)++s).length+1)) 2 ((([]:List Ga)++s).length)],[(1037,.vec 74 2 (((([]:List Ga).length)+1)+((([]:List Ga)++s).length+1)) ((([]:List Ga)++s).map Ga.av))],⟨⟨_,O,.vec⟩,G⟩,O,⟨⟨_,O,.conv (.same O)⟩,G⟩,(((([]:List Ga).length)+1)+((([]:List Ga)++s).length+1)),congrArg (fun n_:Nat=>(.vec 1037 (((([]:List Ga).length)+1)+((([]:List Ga)++s).length+1)) 2 n_:AV)) (hn_.trans (Mg _)),O⟩

def G22 (s:G6) (boxes:List Box) (state:List G3) (ashore:List Int):Option (Gh×Int):=
 bnd (G3d s boxes state) fun u=>
 bif (!u) then
 (none)
 else
 (bnd (Qz s.Columns) fun v=>
  bnd (R8 s.Covers) fun o=>
  each (fun w f (e:(List Ga)) k=>
   Qr s.Covers (f:Int) fun p=>
   bnd (Qy p.Rows) fun q=>
   Qr e (f:Int) fun r=>
   k (e.set (f:Int).toNat (Ga.mk r.Bay q)))
  (fun(e:(List Ga))=>
   each (fun j x (g:(Gv Slot Box)) l=>
    bnd (G2a boxes j.Box) fun t=>
    l (Gv.put g j.Slot t.1))
   (fun(g:(Gv Slot Box))=>
    each (fun a b (d:(Gv Int Box)) i=>
     bnd (G2a boxes a) fun c=>
     bnd (bif ((!(!c.2))&&(decide (0 < (b:Int)))) then chk ((b:Int) - 1) some else some 0) fun m=>
     bnd (bif ((!(!c.2))&&(decide (0 < (b:Int)))) then Qr ashore m some else some default) fun h=>
     bnd (bif (!((!c.2)||((decide (0 < (b:Int)))&&(decide (a≤h))))) then Jd state (fun z0=>Yo z0 a) else some default) fun n=>
     bif (((!c.2)||((decide (0 < (b:Int)))&&(decide (a≤h))))||n) then
     (none)
     else
     (i (Gv.put d a c.1)))
    (fun(d:(Gv Int Box))=>
     some ((Gh.mk (G6.mk v e (Light.mk 0 0 0 0) [] [] [] (G5.mk 0 0 0 0)) g d (Gv.empty:Gv Int Int) 0),0)) ashore 0 (Gv.empty:Gv Int Box)) state 0 (Gv.empty:Gv Slot Box)) o 0 o)
abbrev Ez:List AV:=[E3 ([]:List G1),E7 ([]:List Ga),I64 0,I64 0,I64 0,I64 0,E4 ([]:List Row),E5 ([]:List Frame),E6 ([]:List Gr),I64 0,I64 0,I64 0,I64 0,.mp 1159,.mp 1160,.mp 1161,I64 0]
theorem J14 (s:G6) (boxes:List Box) (state:List G3) (ashore:List Int) (r:Gh×Int) (h:G22 s boxes state ashore=some r):Jx Ek 7 [.agg (G6.cs s),E8 boxes,E2 state,E1 ashore] [] (fun av L'=>av=.tup [.ptr 1158 0,I64 r.2]∧L'=[(1158,.box 79 [E3 r.1.ship.Columns,E7 r.1.ship.Covers,I64 r.1.ship.Light.Kilos,I64 r.1.ship.Light.X,I64 r.1.ship.Light.Y,I64 r.1.ship.Light.Z,E4 r.1.ship.Rows,E5 r.1.ship.Frames,E6 r.1.ship.Tanks,I64 r.1.ship.G5.Tolerance,I64 r.1.ship.G5.Trim,I64 r.1.ship.G5.List_,I64 r.1.ship.G5.Stability,.mp 1159,.mp 1160,.mp 1161,I64 r.1.lifts]),(1159,TP 75 Slot.kv Box.av r.1.on),(1160,TP 76 Kn Box.av r.1.quay),(1161,TP 77 Kn I64 r.1.open_)]):=by
 unfold G22 at h
 refine Ye [] [.tmp 8,.tmp 9] Tryz.func7 O O (H18 O) (Jr fun g4=>(JLh (.ptr 1009 0) (Ju (cs:=(G6.cs s)) 1009 O O O O O) O (JLm (.sc (.pointer none)) O (JLm (I64 0) O (G8 (g4 (fzQ [(1,E8 boxes),(2,E2 state),(3,E1 ashore),(4,Ee s)] [] 1009 rfl rfl rfl G rfl (Js fun g5=>Jr fun g6=>(JLh (.agg (G6.cs s)) (Gt Jm O O O) O (JLm (E8 boxes) O (JLm (E2 state) O ?_)))))))))))
 obtain⟨r4,g7,h⟩:=Gj h
 refine JLh (BL r4) (Gw O (He4 s boxes state r4 g7) Q05 ⟨O,O,O,O,O,O,G⟩) O (JLh (BL (!r4)) (R2 (b:=r4) O O) O (G8 (g6 (JCc O h (fun h hb=>?_) (fun h hb=>?_)))))
 ·
  refine Jr fun g8=>(JLm (.sc (.pointer none)) O (JLm (I64 2) O (G8 (g8 (Gs ?_)))))
  cases h
 ·
  refine Gn (g5 ?_)
  refine Jr fun g9=>(JLh (.mp 1159) (Gf4 1159 Slot.kv Box.av O O) O (JLh (.mp 1160) (Gf4 1160 Kn Box.av O O) O (JLh (.mp 1161) (Gf4 1161 Kn I64 O O) O (JLh (.agg Ez) (Hj (cs:=Ez) [(0,13),(13,1),(14,1),(15,1),(16,1)] [E3 ([]:List G1),E7 ([]:List Ga),I64 0,I64 0,I64 0,I64 0,E4 ([]:List Row),E5 ([]:List Frame),E6 ([]:List Gr),I64 0,I64 0,I64 0,I64 0,.sc (.map none),.sc (.map none),.sc (.map none),I64 0] [.slice none 0 0,.slice none 0 0,E0,E0,E0,E0,.slice none 0 0,.slice none 0 0,.slice none 0 0,E0,E0,E0,E0,.map none,.map none,.map none,E0] J3a Jde ⟨.inr ⟨_,O,O⟩,.inr ⟨_,O,O⟩,.inl O,.inl O,.inl O,.inl O,.inr ⟨_,O,O⟩,.inr ⟨_,O,O⟩,.inr ⟨_,O,O⟩,.inl O,.inl O,.inl O,.inl O,.inl O,.inl O,.inl O,.inl O,G⟩ O O) O (JLh (.ptr 1158 0) (Ju (cs:=Ez) 1158 O O O O O) O (JLm (.ptr 1158 0) O (G8 (g9 ?_))))))))
  refine Js fun h0=>Qw (l':=[(1,E8 boxes),(2,E2 state),(3,E1 ashore),(4,Ee s),(10,.ptr 1158 0)]) (L':=[(1159,TP 75 Slot.kv Box.av (Gv.empty:Gv Slot Box)),(1160,TP 76 Kn Box.av (Gv.empty:Gv Int Box)),(1161,TP 77 Kn I64 (Gv.empty:Gv Int Int)),(1158,.box 79 Ez)]) ⟨(.sm O O),⟨fmQ O,fmQ O,fmQ O,fbQ O (.sm O O),G⟩,rfl⟩ ?_
  obtain⟨p,h1,h⟩:=Gj h
  obtain⟨j,h2,h⟩:=Gj h
  refine J4 [6,10] [0,0,0,0,0,0,0,1,1,1,0] [1,0,0,0,0,0,0,1,1,1,0] [[(1159,TP 75 Slot.kv Box.av (Gv.empty:Gv Slot Box)),(1160,TP 76 Kn Box.av (Gv.empty:Gv Int Box)),(1161,TP 77 Kn I64 (Gv.empty:Gv Int Int)),(1158,.box 79 Ez)],((1037,.vec 74 2 0 (j.map Ga.av))::[(1159,TP 75 Slot.kv Box.av (Gv.empty:Gv Slot Box)),(1160,TP 76 Kn Box.av (Gv.empty:Gv Int Box)),(1161,TP 77 Kn I64 (Gv.empty:Gv Int Int)),(1158,.box 79 Ez)]),((1158,.box 79 [E3 p,.vec 1037 0 2 j.length,I64 0,I64 0,I64 0,I64 0,E4 ([]:List Row),E5 ([]:List Frame),E6 ([]:List Gr),I64 0,I64 0,I64 0,I64 0,.mp 1159,.mp 1160,.mp 1161,I64 0])::((1037,.vec 74 2 0 (j.map Ga.av))::[(1159,TP 75 Slot.kv Box.av (Gv.empty:Gv Slot Box)),(1160,TP 76 Kn Box.av (Gv.empty:Gv Int Box)),(1161,TP 77 Kn I64 (Gv.empty:Gv Int Int)),(1158,.box 79 Ez)]))] Ho (by kernel_rfl) rfl rfl ?_
  refine Gc (u:=.ptr 1158 0) O O ⟨Gi (G7 O O) O,Gi (G7 O O) O,G⟩ (Gc (u:=Ee s) O O ⟨Gi (Gb Hh O O O) O,G⟩ (Gc (u:=E3 s.Columns) O O ⟨Gi (Ge Hn O O O) O,G⟩ (Gc (u:=E3 p) O O ⟨Gi (Gw O (G86 s.Columns p h1) Q04 ⟨O,O,G⟩) O,G⟩ (Gc (u:=.dptr ((G6.cs s).drop 1)) O O ⟨Gi (Gb Jc O O O) O,G⟩ (Gc (u:=E7 s.Covers) O O ⟨Gi (Ge Ji O O O) O,G⟩ (D_w (u:=.vec 1037 0 2 j.length) O O O O (Gi (Gbc (args:=[E7 s.Covers]) (L0:=[]) (Lr:=[(1037,.vec 74 2 0 (j.map Ga.av))]) O (Jx.fresh0 (G9e s.Covers j h2)) Q03 ⟨.inl O,O,G⟩ G O O O) O) (Gc (u:=.agg [E3 p,.vec 1037 0 2 j.length,I64 0,I64 0,I64 0,I64 0,E4 ([]:List Row),E5 ([]:List Frame),E6 ([]:List Gr),I64 0,I64 0,I64 0,I64 0]) O O ⟨Gi (Hj (cs:=[E3 p,.vec 1037 0 2 j.length,I64 0,I64 0,I64 0,I64 0,E4 ([]:List Row),E5 ([]:List Frame),E6 ([]:List Gr),I64 0,I64 0,I64 0,I64 0]) [(0,1),(1,1),(2,4),(6,1),(7,1),(8,1),(9,4)] [E3 ([]:List G1),E7 ([]:List Ga),I64 0,I64 0,I64 0,I64 0,E4 ([]:List Row),E5 ([]:List Frame),E6 ([]:List Gr),I64 0,I64 0,I64 0,I64 0] [.slice none 0 0,.slice none 0 0,E0,E0,E0,E0,.slice none 0 0,.slice none 0 0,.slice none 0 0,E0,E0,E0,E0] H99 H32 ⟨.inr ⟨_,O,O⟩,.inr ⟨_,O,O⟩,.inl O,.inl O,.inl O,.inl O,.inr ⟨_,O,O⟩,.inr ⟨_,O,O⟩,.inr ⟨_,O,O⟩,.inl O,.inl O,.inl O,.inl O,G⟩ O O) O,G⟩ (Gc (u:=.ptr 1158 0) O O ⟨Gi (Ri O O) O,G⟩ (Gc (u:=.ptr 1158 0) O O ⟨Gi (Ht Rb O O) O,G⟩ (Gf2 (u:=.junk) O O O O (Gi (He (u:=.agg [E3 p,.vec 1037 0 2 j.length,I64 0,I64 0,I64 0,I64 0,E4 ([]:List Row),E5 ([]:List Frame),E6 ([]:List Gr),I64 0,I64 0,I64 0,I64 0]) (ds:=[E3 p,.vec 1037 0 2 j.length,I64 0,I64 0,I64 0,I64 0,E4 ([]:List Row),E5 ([]:List Frame),E6 ([]:List Gr),I64 0,I64 0,I64 0,I64 0,.mp 1159,.mp 1160,.mp 1161,I64 0]) H34 O O O O O O O O) O) (Qp ?_)))))))))))
  refine h0 (Js fun d3=>Jr fun d4=>(JLm (.ptr 1158 0) O (JLh (.ptr 1158 0) (Ri O O) O (JLh (.ptr 1158 0) (Ht Rb O O) O (JLh (.ptr 1158 1) (Ht Jc O O) O (JLh (.vec 1037 0 2 j.length) (J8 Ji O O O O) O (R21 (f:=Ga.av) (xs:=j) J7 O O O (fun d5=>?_) O O O)))))))
  refine JLm (I64 0) O (G8 (d4 (Gx ?_)))
  obtain⟨h3,d6,d7,b3,h⟩:=Jf h
  refine Hs (fun k (i:(List Ga))=>each h3 d6 (List.drop k j) k i=some r) (fun k i=>[(1,E8 boxes),(2,E2 state),(3,E1 ashore),(4,Ee s),(10,.ptr 1158 0),(43,Ej j.length),(44,Ej k)]) (fun k i=>[(1159,TP 75 Slot.kv Box.av (Gv.empty:Gv Slot Box)),(1160,TP 76 Kn Box.av (Gv.empty:Gv Int Box)),(1161,TP 77 Kn I64 (Gv.empty:Gv Int Int)),(1037,.vec 74 2 0 (i.map Ga.av)),(1158,.box 79 [E3 p,.vec 1037 0 2 j.length,I64 0,I64 0,I64 0,I64 0,E4 ([]:List Row),E5 ([]:List Frame),E6 ([]:List Gr),I64 0,I64 0,I64 0,I64 0,.mp 1159,.mp 1160,.mp 1161,I64 0])]) (fun k=>j.length - k) 0 j h ⟨(.sm O O),⟨fmQ O,fmQ O,fmQ O,⟨_,rfl,.vec⟩,fbQ O (.sm O O),G⟩,rfl⟩ ?_
  clear h
  intro k i a6 i2 h4
  refine Jr fun d8=>(JLh (BL (decide ((k:Int) < (j.length:Int)))) (Jq O O O) O (G8 (d8 (Js fun d9=>Gp O (fun hb=>?_) (fun hb=>?_)))))
  ·
   have a7:=Q4 hb
   obtain⟨i3,h8,h9,e0,h⟩:=Hz a6 a7
   replace h:=Zi d7 h
   refine Gn (d9 (Js fun e1=>Gx (Jr fun e2=>(JLm (Ej k) O (JLm (Ej k) O (G8 (e2 ?_)))))))
   refine Qw (l':=[(1,E8 boxes),(2,E2 state),(3,E1 ashore),(4,Ee s),(10,.ptr 1158 0),(11,Ej k),(43,Ej j.length),(44,Ej k)]) (L':=[(1159,TP 75 Slot.kv Box.av (Gv.empty:Gv Slot Box)),(1160,TP 76 Kn Box.av (Gv.empty:Gv Int Box)),(1161,TP 77 Kn I64 (Gv.empty:Gv Int Int)),(1037,.vec 74 2 0 (i.map Ga.av)),(1158,.box 79 [E3 p,.vec 1037 0 2 j.length,I64 0,I64 0,I64 0,I64 0,E4 ([]:List Row),E5 ([]:List Frame),E6 ([]:List Gr),I64 0,I64 0,I64 0,I64 0,.mp 1159,.mp 1160,.mp 1161,I64 0])]) ⟨(.sm O O),⟨fmQ O,fmQ O,fmQ O,⟨_,rfl,.vec⟩,fbQ O (.sm O O),G⟩,rfl⟩ ?_
   obtain⟨i4,a0,e3,e4,h⟩:=Rr h
   obtain⟨a1,e5,h⟩:=Gj h
   obtain⟨a2,b4,a8,h⟩:=Q90 h
   refine J4 [15] (.replicate 16 0) (.replicate 16 0) [[(1159,TP 75 Slot.kv Box.av (Gv.empty:Gv Slot Box)),(1160,TP 76 Kn Box.av (Gv.empty:Gv Int Box)),(1161,TP 77 Kn I64 (Gv.empty:Gv Int Int)),(1037,.vec 74 2 0 (i.map Ga.av)),(1158,.box 79 [E3 p,.vec 1037 0 2 j.length,I64 0,I64 0,I64 0,I64 0,E4 ([]:List Row),E5 ([]:List Frame),E6 ([]:List Gr),I64 0,I64 0,I64 0,I64 0,.mp 1159,.mp 1160,.mp 1161,I64 0])],((1037,.vec 74 2 0 ((i.set (k:Int).toNat (Ga.mk a2.Bay a1)).map Ga.av))::[(1159,TP 75 Slot.kv Box.av (Gv.empty:Gv Slot Box)),(1160,TP 76 Kn Box.av (Gv.empty:Gv Int Box)),(1161,TP 77 Kn I64 (Gv.empty:Gv Int Int)),(1037,.vec 74 2 0 (i.map Ga.av)),(1158,.box 79 [E3 p,.vec 1037 0 2 j.length,I64 0,I64 0,I64 0,I64 0,E4 ([]:List Row),E5 ([]:List Frame),E6 ([]:List Gr),I64 0,I64 0,I64 0,I64 0,.mp 1159,.mp 1160,.mp 1161,I64 0])])] Ho (by kernel_rfl) rfl rfl ?_
   refine Gc (u:=.ptr 1158 0) O O ⟨Gi (G7 O O) O,G⟩ (Gc (u:=.ptr 1158 0) O O ⟨Gi (Ri O O) O,G⟩ (Gc (u:=.ptr 1158 0) O O ⟨Gi (Ht Rb O O) O,G⟩ (Gc (u:=.ptr 1158 1) O O ⟨Gi (Ht Jc O O) O,G⟩ (Gc (u:=.vec 1037 0 2 j.length) O O ⟨Gi (J8 Ji O O O O) O,G⟩ (Gc (u:=Ej k) O O ⟨Gi (G7 O O) O,G⟩ (Gc (u:=.dptr ((G6.cs s).drop 1)) O O ⟨Gi (Gb Jc O O O) O,G⟩ (Gc (u:=E7 s.Covers) O O ⟨Gi (Ge Ji O O O) O,G⟩ (Gc (u:=Ej k) O O ⟨Gi (G7 O O) O,G⟩ (Gc (u:=.dptr [I64 a0.Bay,E1 a0.Rows]) O O ⟨Gi (H0 (f:=Ga.av) (xs:=s.Covers) (y:=a0) O O O J7 e4 e3) O,G⟩ (Gc (u:=.dptr [E1 a0.Rows]) O O ⟨Gi (Gb Qk O O O) O,G⟩ (Gc (u:=E1 a0.Rows) O O ⟨Gi (Ge Hq O O O) O,G⟩ (Gc (u:=E1 a1) O O ⟨Gi (Gw O (H0c a0.Rows a1 e5) Q02 ⟨O,O,G⟩) O,G⟩ (Gc (u:=.vptr 1037 0 ((k:Int).toNat) 0) O O ⟨Gi (Rbb (f:=Ga.av) (xs:=i) (y:=a2) O O O O J7 a8 b4) O,G⟩ ?_)))))))))))))
   refine Gc (u:=.vptr 1037 0 ((k:Int).toNat) 1) O O ⟨Gi (R25 Qk O O O) O,G⟩ (Gf2 (u:=.junk) O O O O (Gi (Qa1 (f:=Ga.av) (xs:=i) (e:=a2) (z:=(Ga.mk a2.Bay a1)) (u:=E1 a1) G7c O O O O a8 O O O O O) O) (Qp (e1 (G2 (JLh (I64 ((k+1:Nat):Int)) (Jo (Hw a7 d5) O O O) O (JLm (I64 ((k+1:Nat):Int)) O (G8 (h4 _ _ (k+1) (i.set (k:Int).toNat (Ga.mk a2.Bay a1)) (app1 e0 h) (by omega) ⟨(.sm O O),⟨fmQ O,fmQ O,fmQ O,⟨_,rfl,.vec⟩,fbQ O (.sm O O),G⟩,rfl⟩))))))))
  ·
   have h:=app1 b3 (J0 a6 (Hd hb))
   refine Hy (d3 (Js fun e6=>Jr fun e7=>(JLm (E2 state) O (JLl H6 O O O fun e8=>(JLm (I64 0) O (G8 (e7 (Gx ?_))))))))
   obtain⟨h5,e9,f0,b5,h⟩:=Jf h
   refine Hs (fun t (n:(Gv Slot Box))=>each h5 e9 (List.drop t state) t n=some r) (fun t n=>[(1,E8 boxes),(2,E2 state),(3,E1 ashore),(10,.ptr 1158 0),(63,E2 state),(64,Ej state.length),(65,Ej t)]) (fun t n=>[(1159,TP 75 Slot.kv Box.av n),(1160,TP 76 Kn Box.av (Gv.empty:Gv Int Box)),(1161,TP 77 Kn I64 (Gv.empty:Gv Int Int)),(1037,.vec 74 2 0 (i.map Ga.av)),(1158,.box 79 [E3 p,.vec 1037 0 2 j.length,I64 0,I64 0,I64 0,I64 0,E4 ([]:List Row),E5 ([]:List Frame),E6 ([]:List Gr),I64 0,I64 0,I64 0,I64 0,.mp 1159,.mp 1160,.mp 1161,I64 0])]) (fun t=>state.length - t) 0 (Gv.empty:Gv Slot Box) h ⟨(.sm O O),⟨fmQ O,fmQ O,fmQ O,⟨_,rfl,.vec⟩,fbQ O (.sm O O),G⟩,rfl⟩ ?_
   clear h
   intro t n a9 i5 h6
   refine Jr fun f1=>(JLh (BL (decide ((t:Int) < (state.length:Int)))) (Jq O O O) O (G8 (f1 (Js fun f2=>Gp O (fun hb=>?_) (fun hb=>?_)))))
   ·
    have b0:=Q4 hb
    obtain⟨o,i0,f3,f4,h⟩:=Hz a9 b0
    replace h:=Zi f0 h
    refine Gn (f2 (Js fun f5=>Gx (Jr fun f6=>(JLh (Ef o) (H0 (f:=G3.av) (xs:=state) (y:=o) O O O H6 f3 O) O (JLh (.agg (G3.cs o)) (Gt G32 O O O) O (JLh (.ptr 1010 0) (Jn 1010 4 Yv O O) O (J9 (u:=.junk) (He (u:=.agg (G3.cs o)) (ds:=[I64 o.Box,I64 o.Slot.G1,I64 o.Slot.Tier,U8 o.Slot.Half]) H33 O O O O O O O O) (G8 (f6 ?_)))))))))
    refine fzQ [(1,E8 boxes),(2,E2 state),(3,E1 ashore),(10,.ptr 1158 0),(13,Ef o),(63,E2 state),(64,Ej state.length),(65,Ej t)] [(1159,TP 75 Slot.kv Box.av n),(1160,TP 76 Kn Box.av (Gv.empty:Gv Int Box)),(1161,TP 77 Kn I64 (Gv.empty:Gv Int Int)),(1037,.vec 74 2 0 (i.map Ga.av)),(1158,.box 79 [E3 p,.vec 1037 0 2 j.length,I64 0,I64 0,I64 0,I64 0,E4 ([]:List Row),E5 ([]:List Frame),E6 ([]:List Gr),I64 0,I64 0,I64 0,I64 0,.mp 1159,.mp 1160,.mp 1161,I64 0])] 1010 rfl rfl rfl ⟨fmQ O,fmQ O,fmQ O,⟨_,rfl,.vec⟩,⟨_,rfl,.boxEq rfl rfl⟩,G⟩ rfl ?_
    refine Qw (l':=[(1,E8 boxes),(2,E2 state),(3,E1 ashore),(10,.ptr 1158 0),(13,Ef o),(63,E2 state),(64,Ej state.length),(65,Ej t)]) (L':=[(1159,TP 75 Slot.kv Box.av n),(1160,TP 76 Kn Box.av (Gv.empty:Gv Int Box)),(1161,TP 77 Kn I64 (Gv.empty:Gv Int Int)),(1037,.vec 74 2 0 (i.map Ga.av)),(1158,.box 79 [E3 p,.vec 1037 0 2 j.length,I64 0,I64 0,I64 0,I64 0,E4 ([]:List Row),E5 ([]:List Frame),E6 ([]:List Gr),I64 0,I64 0,I64 0,I64 0,.mp 1159,.mp 1160,.mp 1161,I64 0])]) ⟨(.sm O O),⟨fmQ O,fmQ O,fmQ O,⟨_,rfl,.vec⟩,fbQ O (.sm O O),G⟩,rfl⟩ ?_
    obtain⟨x,f7,h⟩:=Gj h
    refine J4 [13] (.replicate 14 0) [0,0,0,0,0,0,0,0,0,0,0,0,1,0] [[(1159,TP 75 Slot.kv Box.av n),(1160,TP 76 Kn Box.av (Gv.empty:Gv Int Box)),(1161,TP 77 Kn I64 (Gv.empty:Gv Int Int)),(1037,.vec 74 2 0 (i.map Ga.av)),(1158,.box 79 [E3 p,.vec 1037 0 2 j.length,I64 0,I64 0,I64 0,I64 0,E4 ([]:List Row),E5 ([]:List Frame),E6 ([]:List Gr),I64 0,I64 0,I64 0,I64 0,.mp 1159,.mp 1160,.mp 1161,I64 0])],((1159,TP 75 Slot.kv Box.av (Gv.put n o.Slot x.1))::[(1159,TP 75 Slot.kv Box.av n),(1160,TP 76 Kn Box.av (Gv.empty:Gv Int Box)),(1161,TP 77 Kn I64 (Gv.empty:Gv Int Int)),(1037,.vec 74 2 0 (i.map Ga.av)),(1158,.box 79 [E3 p,.vec 1037 0 2 j.length,I64 0,I64 0,I64 0,I64 0,E4 ([]:List Row),E5 ([]:List Frame),E6 ([]:List Gr),I64 0,I64 0,I64 0,I64 0,.mp 1159,.mp 1160,.mp 1161,I64 0])])] Ho (by kernel_rfl) rfl rfl ?_
    refine Gc (u:=.ptr 1158 0) O O ⟨Gi (G7 O O) O,G⟩ (Gc (u:=.ptr 1158 0) O O ⟨Gi (Ri O O) O,G⟩ (Gc (u:=.ptr 1158 13) O O ⟨Gi (Ht Y3 O O) O,G⟩ (Gc (u:=.mp 1159) O O ⟨Gi (J8 Y5 O O O O) O,G⟩ (Gc (u:=.dptr ((G3.cs o).drop 1)) O O ⟨Gi (Gb J1 O O O) O,G⟩ (Gc (u:=.agg ((G3.cs o).drop 1)) O O ⟨Gi (Gt Hx O O O) O,G⟩ (Gc (u:=E8 boxes) O O ⟨Gi (G7 O O) O,G⟩ (Gc (u:=Ef o) O O ⟨Gi (Gb Q1 O O O) O,G⟩ (Gc (u:=I64 o.Box) O O ⟨Gi (Ge Gd O O O) O,G⟩ (Gc (u:=.tup [.agg (Box.cs x.1),BL x.2]) O O ⟨Gi (Gw O (H29 boxes o.Box x f7) H9d ⟨O,O,O,O,G⟩) O,G⟩ (Gc (u:=.tup [.agg (Box.cs x.1),BL x.2]) O O ⟨Gi (G7 O O) O,G⟩ (Gc (u:=.agg (Box.cs x.1)) O O ⟨Gi (H4 O O O) O,G⟩ (Gc (u:=BL x.2) O O ⟨Gi (H4 O O O) O,Gi (H4 O O O) O,G⟩ (Gf2 (u:=.junk) O O O O (Gi (G62 (m:=n) (a:=o.Slot) (v:=x.1) (fun _=>O) O O O O O O Q70 G4e) O) (Qp ?_))))))))))))))
    refine f5 (G2 (JLh (I64 ((t+1:Nat):Int)) (Jo (Hw b0 e8) O O O) O (JLm (I64 ((t+1:Nat):Int)) O (G8 (h6 _ _ (t+1) (Gv.put n o.Slot x.1) (app1 f4 h) (by omega) ⟨(.sm O O),⟨fmQ O,fmQ O,fmQ O,⟨_,rfl,.vec⟩,fbQ O (.sm O O),G⟩,rfl⟩)))))
   ·
    have h:=app1 b5 (J0 a9 (Hd hb))
    refine Hy (e6 (Js fun f8=>Jr fun f9=>(JLm (E1 ashore) O (JLl Gz O O O fun g0=>(JLm (I64 0) O (G8 (f9 (Gx ?_))))))))
    obtain⟨g1,b6,b7,b1,h⟩:=Jf h
    refine Hs (fun c (l:(Gv Int Box))=>each g1 b6 (List.drop c ashore) c l=some r) (fun c l=>[(1,E8 boxes),(2,E2 state),(3,E1 ashore),(10,.ptr 1158 0),(83,E1 ashore),(84,Ej ashore.length),(85,Ej c)]) (fun c l=>[(1159,TP 75 Slot.kv Box.av n),(1160,TP 76 Kn Box.av l),(1161,TP 77 Kn I64 (Gv.empty:Gv Int Int)),(1037,.vec 74 2 0 (i.map Ga.av)),(1158,.box 79 [E3 p,.vec 1037 0 2 j.length,I64 0,I64 0,I64 0,I64 0,E4 ([]:List Row),E5 ([]:List Frame),E6 ([]:List Gr),I64 0,I64 0,I64 0,I64 0,.mp 1159,.mp 1160,.mp 1161,I64 0])]) (fun c=>ashore.length - c) 0 (Gv.empty:Gv Int Box) h ⟨(.sm O O),⟨fmQ O,fmQ O,fmQ O,⟨_,rfl,.vec⟩,fbQ O (.sm O O),G⟩,rfl⟩ ?_
    clear h
    intro c l a4 i1 g2
    refine Jr fun b8=>(JLh (BL (decide ((c:Int) < (ashore.length:Int)))) (Jq O O O) O (G8 (b8 (Js fun b9=>Gp O (fun hb=>?_) (fun hb=>?_)))))
    ·
     have a5:=Q4 hb
     obtain⟨d,h7,c0,c1,h⟩:=Hz a4 a5
     replace h:=Zi b7 h
     refine Gn (b9 (Js fun c2=>Gx (Jr fun c3=>(JLm (Ej c) O (JLh (.dptr [I64 d]) (H0 (f:=I64) (xs:=ashore) (y:=d) O O O Gz c0 O) O (JLh (I64 d) (Ge Gd O O O) O (JLh (.ptr 1011 0) (Jn 1011 1 Yr O O) O (JLm (Ej c) O (J9 (u:=.junk) (He (u:=I64 d) (ds:=[I64 d]) H2b O O O O O O O O) (G8 (c3 ?_)))))))))))
     refine fzQ [(1,E8 boxes),(2,E2 state),(3,E1 ashore),(10,.ptr 1158 0),(14,Ej c),(15,.dptr [I64 d]),(83,E1 ashore),(84,Ej ashore.length),(85,Ej c)] [(1159,TP 75 Slot.kv Box.av n),(1160,TP 76 Kn Box.av l),(1161,TP 77 Kn I64 (Gv.empty:Gv Int Int)),(1037,.vec 74 2 0 (i.map Ga.av)),(1158,.box 79 [E3 p,.vec 1037 0 2 j.length,I64 0,I64 0,I64 0,I64 0,E4 ([]:List Row),E5 ([]:List Frame),E6 ([]:List Gr),I64 0,I64 0,I64 0,I64 0,.mp 1159,.mp 1160,.mp 1161,I64 0])] 1011 rfl rfl rfl ⟨fmQ O,fmQ O,fmQ O,⟨_,rfl,.vec⟩,⟨_,rfl,.boxEq rfl rfl⟩,G⟩ rfl ?_
     refine Jr fun c4=>(JLm (E8 boxes) O (JLh (I64 d) (Ge Gd O O O) O ?_))
     obtain⟨g,c5,h⟩:=Gj h
     refine JLh (.tup [.agg (Box.cs g.1),BL g.2]) (Gw O (H29 boxes d g c5) H9d ⟨O,O,O,O,G⟩) O (JLm (.tup [.agg (Box.cs g.1),BL g.2]) O (JLh (.agg (Box.cs g.1)) (H4 O O O) O (JLh (BL g.2) (H4 O O O) O (JLh (.ptr 1012 0) (Jn 1012 9 Y1 O O) O (J9 (u:=.junk) (He (u:=.agg (Box.cs g.1)) (ds:=(Box.cs g.1)) Rk O O O O O O O O) (JLm (BL g.2) O (G8 (c4 ?_))))))))
     refine fzQ [(1,E8 boxes),(2,E2 state),(3,E1 ashore),(10,.ptr 1158 0),(14,Ej c),(15,.dptr [I64 d]),(16,Eg g.1),(17,BL g.2),(83,E1 ashore),(84,Ej ashore.length),(85,Ej c)] [(1159,TP 75 Slot.kv Box.av n),(1160,TP 76 Kn Box.av l),(1161,TP 77 Kn I64 (Gv.empty:Gv Int Int)),(1037,.vec 74 2 0 (i.map Ga.av)),(1158,.box 79 [E3 p,.vec 1037 0 2 j.length,I64 0,I64 0,I64 0,I64 0,E4 ([]:List Row),E5 ([]:List Frame),E6 ([]:List Gr),I64 0,I64 0,I64 0,I64 0,.mp 1159,.mp 1160,.mp 1161,I64 0])] 1012 rfl rfl rfl ⟨fmQ O,fmQ O,fmQ O,⟨_,rfl,.vec⟩,⟨_,rfl,.boxEq rfl rfl⟩,G⟩ rfl ?_
     refine Js fun c6=>Js fun c7=>?_
     refine Qw (l':=[(1,E8 boxes),(2,E2 state),(3,E1 ashore),(10,.ptr 1158 0),(14,Ej c),(15,.dptr [I64 d]),(16,Eg g.1),(17,BL g.2),(83,E1 ashore),(84,Ej ashore.length),(85,Ej c)]) (L':=[(1159,TP 75 Slot.kv Box.av n),(1160,TP 76 Kn Box.av l),(1161,TP 77 Kn I64 (Gv.empty:Gv Int Int)),(1037,.vec 74 2 0 (i.map Ga.av)),(1158,.box 79 [E3 p,.vec 1037 0 2 j.length,I64 0,I64 0,I64 0,I64 0,E4 ([]:List Row),E5 ([]:List Frame),E6 ([]:List Gr),I64 0,I64 0,I64 0,I64 0,.mp 1159,.mp 1160,.mp 1161,I64 0])]) ⟨(.sm O O),⟨fmQ O,fmQ O,fmQ O,⟨_,rfl,.vec⟩,fbQ O (.sm O O),G⟩,rfl⟩ ?_
     obtain⟨g3,c8,h⟩:=Gj h
     obtain⟨w,c9,h⟩:=Gj h
     obtain⟨a3,d0,h⟩:=Gj h
     refine JC_d0 Ho (by kernel_rfl) (Dq (BL g.2) (G7 O O) O (Dq (BL (!g.2)) (R2 (b:=g.2) O O) O (Dq (BL (!g.2)) (G7 O O) O (Do (Ej c) [] O .scf G (fun hc=>G7 O O) O (Do (BL (decide (0 < (c:Int)))) [99] O .scf ⟨Ua,G⟩ (fun hc=>G08 O O O) O (Do (BL (decide (0 < (c:Int)))) [100] O .scf ⟨Ua,G⟩ (fun hc=>G7 O O) O (Do (I64 d) [] O .optt G (fun hc=>Ge Gd O O O) O (Do (E1 ashore) [] O .optt G (fun hc=>G7 O O) O (Do (Ej c) [] O .optt G (fun hc=>G7 O O) O (Do (I64 g3) [104] O .optt ⟨Ua,G⟩ (fun hc=>H90 (G65 (H1 hc c8)) O O O) O (Do (.dptr [I64 w]) [103,105] O .optt ⟨Ua,Ua,G⟩ (fun hc=>(match R1 (H1 hc c9) with | ⟨_,hm_,hy_⟩=>H0 (f:=I64) (xs:=ashore) (y:=w) O O O Gz hy_ hm_)) O (Do (I64 w) [106] O .optt ⟨Ua,G⟩ (fun hc=>Ge Gd O O O) O (Do (BL (decide (d≤w))) [102,107] O .optt ⟨Ua,Ua,G⟩ (fun hc=>H61 O O O) O ?_)))))))))))))
     refine Dg (.opt (!(!g.2)) (BL ((decide (0 < (c:Int)))&&(decide (d≤w))))) (Gk [(101,BL (decide (0 < (c:Int)))),(108,_)] O O O .scf ⟨.all id,.part,G⟩ (fun hc=>Jv O O O O) O) O (Dq (BL ((!g.2)||((decide (0 < (c:Int)))&&(decide (d≤w))))) (Ya O O O O) O (Dq (BL ((!g.2)||((decide (0 < (c:Int)))&&(decide (d≤w))))) (G7 O O) O (Do (E2 state) [] O .scf G (fun hc=>G7 O O) O (Do (.fn 29 [.dptr [I64 d]]) [] O .scf G (fun hc=>R0 (cs:=[.dptr [I64 d]]) O O) O (Do (BL a3) [112,113] O .scf ⟨Ua,Ua,G⟩ (fun hc=>Gw (args:=[E2 state,.fn 29 [.dptr [I64 d]]]) O (G2f state (fun z0=>Yo z0 d) 29 [.dptr [I64 d]] Q00 O (fun z0 q hq=>Hc0 z0 d q hq) a3 (H1 hc d0)) Q01 ⟨O,O,O,O,G⟩) O (Dq (BL (((!g.2)||((decide (0 < (c:Int)))&&(decide (d≤w))))||a3)) (Ya O O O O) O (Dnil ?_)))))))
     refine c7 (JCc O h (fun h hb=>?_) (fun h hb=>?_))
     ·
      refine Jr fun d1=>(JLm (.sc (.pointer none)) O (JLm (I64 2) O (G8 (d1 (Gs ?_)))))
      cases h
     ·
      refine Gn (c6 ?_)
      refine Qw (l':=[(1,E8 boxes),(2,E2 state),(3,E1 ashore),(10,.ptr 1158 0),(15,.dptr [I64 d]),(16,Eg g.1),(83,E1 ashore),(84,Ej ashore.length),(85,Ej c)]) (L':=[(1159,TP 75 Slot.kv Box.av n),(1160,TP 76 Kn Box.av l),(1161,TP 77 Kn I64 (Gv.empty:Gv Int Int)),(1037,.vec 74 2 0 (i.map Ga.av)),(1158,.box 79 [E3 p,.vec 1037 0 2 j.length,I64 0,I64 0,I64 0,I64 0,E4 ([]:List Row),E5 ([]:List Frame),E6 ([]:List Gr),I64 0,I64 0,I64 0,I64 0,.mp 1159,.mp 1160,.mp 1161,I64 0])]) ⟨(.sm O O),⟨fmQ O,fmQ O,fmQ O,⟨_,rfl,.vec⟩,fbQ O (.sm O O),G⟩,rfl⟩ ?_
      refine J4 [6] [0,0,0,0,0,0,0] [0,0,0,0,0,0,0] [[(1159,TP 75 Slot.kv Box.av n),(1160,TP 76 Kn Box.av l),(1161,TP 77 Kn I64 (Gv.empty:Gv Int Int)),(1037,.vec 74 2 0 (i.map Ga.av)),(1158,.box 79 [E3 p,.vec 1037 0 2 j.length,I64 0,I64 0,I64 0,I64 0,E4 ([]:List Row),E5 ([]:List Frame),E6 ([]:List Gr),I64 0,I64 0,I64 0,I64 0,.mp 1159,.mp 1160,.mp 1161,I64 0])],((1160,TP 76 Kn Box.av (Gv.put l d g.1))::[(1159,TP 75 Slot.kv Box.av n),(1160,TP 76 Kn Box.av l),(1161,TP 77 Kn I64 (Gv.empty:Gv Int Int)),(1037,.vec 74 2 0 (i.map Ga.av)),(1158,.box 79 [E3 p,.vec 1037 0 2 j.length,I64 0,I64 0,I64 0,I64 0,E4 ([]:List Row),E5 ([]:List Frame),E6 ([]:List Gr),I64 0,I64 0,I64 0,I64 0,.mp 1159,.mp 1160,.mp 1161,I64 0])])] Ho (by kernel_rfl) rfl rfl ?_
      refine Gc (u:=.ptr 1158 0) O O ⟨Gi (G7 O O) O,G⟩ (Gc (u:=.ptr 1158 0) O O ⟨Gi (Ri O O) O,G⟩ (Gc (u:=.ptr 1158 14) O O ⟨Gi (Ht G1b O O) O,G⟩ (Gc (u:=.mp 1160) O O ⟨Gi (J8 G14 O O O O) O,G⟩ (Gc (u:=I64 d) O O ⟨Gi (Ge Gd O O O) O,G⟩ (Gc (u:=.agg (Box.cs g.1)) O O ⟨Gi (Gt Yf O O O) O,G⟩ (Gf2 (u:=.junk) O O O O (Gi (G62 (m:=l) (a:=d) (v:=g.1) (fun _=>O) O O O O O O Jdc Ge6) O) (Qp (c2 (G2 (JLh (I64 ((c+1:Nat):Int)) (Jo (Hw a5 g0) O O O) O (JLm (I64 ((c+1:Nat):Int)) O (G8 ?_))))))))))))
      exact g2 _ _ (c+1) (Gv.put l d g.1) (app1 c1 h) (by omega) ⟨(.sm O O),⟨fmQ O,fmQ O,fmQ O,⟨_,rfl,.vec⟩,fbQ O (.sm O O),G⟩,rfl⟩
    ·
     have h:=app1 b1 (J0 a4 (Hd hb))
     refine Hy (f8 (Jr fun d2=>(JLm (.ptr 1158 0) O (JLm (.ptr 1158 0) O (JLm (I64 0) O (G8 (d2 (Qa0 1158 1 (0+1) O O O (Nat.lt_succ_self _) (cs':=[E3 p,E7 i,I64 0,I64 0,I64 0,I64 0,E4 ([]:List Row),E5 ([]:List Frame),E6 ([]:List Gr),I64 0,I64 0,I64 0,I64 0,.mp 1159,.mp 1160,.mp 1161,I64 0]) O (Gs ?_)))))))))
     obtain rfl:=M2 h
     exact⟨[.ptr 1158 0,I64 0],[(1158,.box 79 [E3 p,E7 i,I64 0,I64 0,I64 0,I64 0,E4 ([]:List Row),E5 ([]:List Frame),E6 ([]:List Gr),I64 0,I64 0,I64 0,I64 0,.mp 1159,.mp 1160,.mp 1161,I64 0]),(1159,TP 75 Slot.kv Box.av n),(1160,TP 76 Kn Box.av l),(1161,TP 77 Kn I64 (Gv.empty:Gv Int Int))],⟨fbQ O (.sm O O),fmQ O,fmQ O,fmQ O,G⟩,rfl,⟨⟨_,rfl,.conv (.same rfl)⟩,⟨_,rfl,.conv (.same rfl)⟩,G⟩,rfl,rfl⟩

def Gb2 (s:G6) (boxes:List Box) (state:List G3) (ashore:List Int):Option Int:=
 bnd (G3d s boxes state) fun u=>
 bif (!u) then
 (some 2)
 else
 (bnd (Qz s.Columns) fun x=>
  bnd (R8 s.Covers) fun o=>
  each (fun v d (e:(List Ga)) k=>
   Qr s.Covers (d:Int) fun p=>
   bnd (Qy p.Rows) fun q=>
   Qr e (d:Int) fun r=>
   k (e.set (d:Int).toNat (Ga.mk r.Bay q)))
  (fun(e:(List Ga))=>
   each (fun i w (j:(Gv Slot Box)) l=>
    bnd (G2a boxes i.Box) fun t=>
    l (Gv.put j i.Slot t.1))
   (fun(j:(Gv Slot Box))=>
    each (fun a b (f:(Gv Int Box)) h=>
     bnd (G2a boxes a) fun c=>
     bnd (bif ((!(!c.2))&&(decide (0 < (b:Int)))) then chk ((b:Int) - 1) some else some 0) fun m=>
     bnd (bif ((!(!c.2))&&(decide (0 < (b:Int)))) then Qr ashore m some else some default) fun g=>
     bnd (bif (!((!c.2)||((decide (0 < (b:Int)))&&(decide (a≤g))))) then Jd state (fun z0=>Yo z0 a) else some default) fun n=>
     bif (((!c.2)||((decide (0 < (b:Int)))&&(decide (a≤g))))||n) then
     (some 2)
     else
     (h (Gv.put f a c.1)))
    (fun(f:(Gv Int Box))=>
     none) ashore 0 (Gv.empty:Gv Int Box)) state 0 (Gv.empty:Gv Slot Box)) o 0 o)
abbrev K0:List AV:=[E3 ([]:List G1),E7 ([]:List Ga),I64 0,I64 0,I64 0,I64 0,E4 ([]:List Row),E5 ([]:List Frame),E6 ([]:List Gr),I64 0,I64 0,I64 0,I64 0,.mp 1159,.mp 1160,.mp 1161,I64 0]
theorem Jc1 (s:G6) (boxes:List Box) (state:List G3) (ashore:List Int) (r:Int) (h:Gb2 s boxes state ashore=some r):Pure Ek 7 [.agg (G6.cs s),E8 boxes,E2 state,E1 ashore] (·=.tup [.sc (.pointer none),I64 r]):=by
 unfold Gb2 at h
 refine H3 [.tmp 8,.tmp 9] Tryz.func7 O O (Jr fun g4=>(JLh (.ptr 1009 0) (Ju (cs:=(G6.cs s)) 1009 O O O O O) O (JLm (.sc (.pointer none)) O (JLm (I64 0) O (G8 (g4 (fzQ [(1,E8 boxes),(2,E2 state),(3,E1 ashore),(4,Ee s)] [] 1009 rfl rfl rfl G rfl (Js fun g5=>Jr fun g6=>(JLh (.agg (G6.cs s)) (Gt Jm O O O) O (JLm (E8 boxes) O (JLm (E2 state) O ?_)))))))))))
 obtain⟨r4,g7,h⟩:=Gj h
 refine JLh (BL r4) (Gw O (He4 s boxes state r4 g7) Q05 ⟨O,O,O,O,O,O,G⟩) O (JLh (BL (!r4)) (R2 (b:=r4) O O) O (G8 (g6 (JCc O h (fun h hb=>?_) (fun h hb=>?_)))))
 ·
  refine Jr fun g8=>(JLm (.sc (.pointer none)) O (JLm (I64 2) O (G8 (g8 (Gs (⟨[.sc (.pointer none),I64 2],[],G,O,⟨⟨_,O,.conv (.same O)⟩,⟨_,O,.conv (.same O)⟩,G⟩,O,congrArg (fun r:Int=>(.tup [.sc (.pointer none),I64 r]:AV)) (M2 h)⟩))))))
 ·
  refine Gn (g5 ?_)
  refine Jr fun g9=>(JLh (.mp 1159) (Gf4 1159 Slot.kv Box.av O O) O (JLh (.mp 1160) (Gf4 1160 Kn Box.av O O) O (JLh (.mp 1161) (Gf4 1161 Kn I64 O O) O (JLh (.agg K0) (Hj (cs:=K0) [(0,13),(13,1),(14,1),(15,1),(16,1)] [E3 ([]:List G1),E7 ([]:List Ga),I64 0,I64 0,I64 0,I64 0,E4 ([]:List Row),E5 ([]:List Frame),E6 ([]:List Gr),I64 0,I64 0,I64 0,I64 0,.sc (.map none),.sc (.map none),.sc (.map none),I64 0] [.slice none 0 0,.slice none 0 0,E0,E0,E0,E0,.slice none 0 0,.slice none 0 0,.slice none 0 0,E0,E0,E0,E0,.map none,.map none,.map none,E0] J3a Jde ⟨.inr ⟨_,O,O⟩,.inr ⟨_,O,O⟩,.inl O,.inl O,.inl O,.inl O,.inr ⟨_,O,O⟩,.inr ⟨_,O,O⟩,.inr ⟨_,O,O⟩,.inl O,.inl O,.inl O,.inl O,.inl O,.inl O,.inl O,.inl O,G⟩ O O) O (JLh (.ptr 1158 0) (Ju (cs:=K0) 1158 O O O O O) O (JLm (.ptr 1158 0) O (G8 (g9 ?_))))))))
  refine Js fun h0=>Qw (l':=[(1,E8 boxes),(2,E2 state),(3,E1 ashore),(4,Ee s),(10,.ptr 1158 0)]) (L':=[(1159,TP 75 Slot.kv Box.av (Gv.empty:Gv Slot Box)),(1160,TP 76 Kn Box.av (Gv.empty:Gv Int Box)),(1161,TP 77 Kn I64 (Gv.empty:Gv Int Int)),(1158,.box 79 K0)]) ⟨(.sm O O),⟨fmQ O,fmQ O,fmQ O,fbQ O (.sm O O),G⟩,rfl⟩ ?_
  obtain⟨p,h1,h⟩:=Gj h
  obtain⟨j,h2,h⟩:=Gj h
  refine J4 [6,10] [0,0,0,0,0,0,0,1,1,1,0] [1,0,0,0,0,0,0,1,1,1,0] [[(1159,TP 75 Slot.kv Box.av (Gv.empty:Gv Slot Box)),(1160,TP 76 Kn Box.av (Gv.empty:Gv Int Box)),(1161,TP 77 Kn I64 (Gv.empty:Gv Int Int)),(1158,.box 79 K0)],((1037,.vec 74 2 0 (j.map Ga.av))::[(1159,TP 75 Slot.kv Box.av (Gv.empty:Gv Slot Box)),(1160,TP 76 Kn Box.av (Gv.empty:Gv Int Box)),(1161,TP 77 Kn I64 (Gv.empty:Gv Int Int)),(1158,.box 79 K0)]),((1158,.box 79 [E3 p,.vec 1037 0 2 j.length,I64 0,I64 0,I64 0,I64 0,E4 ([]:List Row),E5 ([]:List Frame),E6 ([]:List Gr),I64 0,I64 0,I64 0,I64 0,.mp 1159,.mp 1160,.mp 1161,I64 0])::((1037,.vec 74 2 0 (j.map Ga.av))::[(1159,TP 75 Slot.kv Box.av (Gv.empty:Gv Slot Box)),(1160,TP 76 Kn Box.av (Gv.empty:Gv Int Box)),(1161,TP 77 Kn I64 (Gv.empty:Gv Int Int)),(1158,.box 79 K0)]))] Ho (by kernel_rfl) rfl rfl ?_
  refine Gc (u:=.ptr 1158 0) O O ⟨Gi (G7 O O) O,Gi (G7 O O) O,G⟩ (Gc (u:=Ee s) O O ⟨Gi (Gb Hh O O O) O,G⟩ (Gc (u:=E3 s.Columns) O O ⟨Gi (Ge Hn O O O) O,G⟩ (Gc (u:=E3 p) O O ⟨Gi (Gw O (G86 s.Columns p h1) Q04 ⟨O,O,G⟩) O,G⟩ (Gc (u:=.dptr ((G6.cs s).drop 1)) O O ⟨Gi (Gb Jc O O O) O,G⟩ (Gc (u:=E7 s.Covers) O O ⟨Gi (Ge Ji O O O) O,G⟩ (D_w (u:=.vec 1037 0 2 j.length) O O O O (Gi (Gbc (args:=[E7 s.Covers]) (L0:=[]) (Lr:=[(1037,.vec 74 2 0 (j.map Ga.av))]) O (Jx.fresh0 (G9e s.Covers j h2)) Q03 ⟨.inl O,O,G⟩ G O O O) O) (Gc (u:=.agg [E3 p,.vec 1037 0 2 j.length,I64 0,I64 0,I64 0,I64 0,E4 ([]:List Row),E5 ([]:List Frame),E6 ([]:List Gr),I64 0,I64 0,I64 0,I64 0]) O O ⟨Gi (Hj (cs:=[E3 p,.vec 1037 0 2 j.length,I64 0,I64 0,I64 0,I64 0,E4 ([]:List Row),E5 ([]:List Frame),E6 ([]:List Gr),I64 0,I64 0,I64 0,I64 0]) [(0,1),(1,1),(2,4),(6,1),(7,1),(8,1),(9,4)] [E3 ([]:List G1),E7 ([]:List Ga),I64 0,I64 0,I64 0,I64 0,E4 ([]:List Row),E5 ([]:List Frame),E6 ([]:List Gr),I64 0,I64 0,I64 0,I64 0] [.slice none 0 0,.slice none 0 0,E0,E0,E0,E0,.slice none 0 0,.slice none 0 0,.slice none 0 0,E0,E0,E0,E0] H99 H32 ⟨.inr ⟨_,O,O⟩,.inr ⟨_,O,O⟩,.inl O,.inl O,.inl O,.inl O,.inr ⟨_,O,O⟩,.inr ⟨_,O,O⟩,.inr ⟨_,O,O⟩,.inl O,.inl O,.inl O,.inl O,G⟩ O O) O,G⟩ (Gc (u:=.ptr 1158 0) O O ⟨Gi (Ri O O) O,G⟩ (Gc (u:=.ptr 1158 0) O O ⟨Gi (Ht Rb O O) O,G⟩ (Gf2 (u:=.junk) O O O O (Gi (He (u:=.agg [E3 p,.vec 1037 0 2 j.length,I64 0,I64 0,I64 0,I64 0,E4 ([]:List Row),E5 ([]:List Frame),E6 ([]:List Gr),I64 0,I64 0,I64 0,I64 0]) (ds:=[E3 p,.vec 1037 0 2 j.length,I64 0,I64 0,I64 0,I64 0,E4 ([]:List Row),E5 ([]:List Frame),E6 ([]:List Gr),I64 0,I64 0,I64 0,I64 0,.mp 1159,.mp 1160,.mp 1161,I64 0]) H34 O O O O O O O O) O) (Qp ?_)))))))))))
  refine h0 (Js fun d3=>Jr fun d4=>(JLm (.ptr 1158 0) O (JLh (.ptr 1158 0) (Ri O O) O (JLh (.ptr 1158 0) (Ht Rb O O) O (JLh (.ptr 1158 1) (Ht Jc O O) O (JLh (.vec 1037 0 2 j.length) (J8 Ji O O O O) O (R21 (f:=Ga.av) (xs:=j) J7 O O O (fun d5=>?_) O O O)))))))
  refine JLm (I64 0) O (G8 (d4 (Gx ?_)))
  obtain⟨h3,d6,d7,b3,h⟩:=Jf h
  refine Hs (fun k (i:(List Ga))=>each h3 d6 (List.drop k j) k i=some r) (fun k i=>[(1,E8 boxes),(2,E2 state),(3,E1 ashore),(4,Ee s),(10,.ptr 1158 0),(43,Ej j.length),(44,Ej k)]) (fun k i=>[(1159,TP 75 Slot.kv Box.av (Gv.empty:Gv Slot Box)),(1160,TP 76 Kn Box.av (Gv.empty:Gv Int Box)),(1161,TP 77 Kn I64 (Gv.empty:Gv Int Int)),(1037,.vec 74 2 0 (i.map Ga.av)),(1158,.box 79 [E3 p,.vec 1037 0 2 j.length,I64 0,I64 0,I64 0,I64 0,E4 ([]:List Row),E5 ([]:List Frame),E6 ([]:List Gr),I64 0,I64 0,I64 0,I64 0,.mp 1159,.mp 1160,.mp 1161,I64 0])]) (fun k=>j.length - k) 0 j h ⟨(.sm O O),⟨fmQ O,fmQ O,fmQ O,⟨_,rfl,.vec⟩,fbQ O (.sm O O),G⟩,rfl⟩ ?_
  clear h
  intro k i a6 i2 h4
  refine Jr fun d8=>(JLh (BL (decide ((k:Int) < (j.length:Int)))) (Jq O O O) O (G8 (d8 (Js fun d9=>Gp O (fun hb=>?_) (fun hb=>?_)))))
  ·
   have a7:=Q4 hb
   obtain⟨i3,h8,h9,e0,h⟩:=Hz a6 a7
   replace h:=Zi d7 h
   refine Gn (d9 (Js fun e1=>Gx (Jr fun e2=>(JLm (Ej k) O (JLm (Ej k) O (G8 (e2 ?_)))))))
   refine Qw (l':=[(1,E8 boxes),(2,E2 state),(3,E1 ashore),(4,Ee s),(10,.ptr 1158 0),(11,Ej k),(43,Ej j.length),(44,Ej k)]) (L':=[(1159,TP 75 Slot.kv Box.av (Gv.empty:Gv Slot Box)),(1160,TP 76 Kn Box.av (Gv.empty:Gv Int Box)),(1161,TP 77 Kn I64 (Gv.empty:Gv Int Int)),(1037,.vec 74 2 0 (i.map Ga.av)),(1158,.box 79 [E3 p,.vec 1037 0 2 j.length,I64 0,I64 0,I64 0,I64 0,E4 ([]:List Row),E5 ([]:List Frame),E6 ([]:List Gr),I64 0,I64 0,I64 0,I64 0,.mp 1159,.mp 1160,.mp 1161,I64 0])]) ⟨(.sm O O),⟨fmQ O,fmQ O,fmQ O,⟨_,rfl,.vec⟩,fbQ O (.sm O O),G⟩,rfl⟩ ?_
   obtain⟨i4,a0,e3,e4,h⟩:=Rr h
   obtain⟨a1,e5,h⟩:=Gj h
   obtain⟨a2,b4,a8,h⟩:=Q90 h
   refine J4 [15] (.replicate 16 0) (.replicate 16 0) [[(1159,TP 75 Slot.kv Box.av (Gv.empty:Gv Slot Box)),(1160,TP 76 Kn Box.av (Gv.empty:Gv Int Box)),(1161,TP 77 Kn I64 (Gv.empty:Gv Int Int)),(1037,.vec 74 2 0 (i.map Ga.av)),(1158,.box 79 [E3 p,.vec 1037 0 2 j.length,I64 0,I64 0,I64 0,I64 0,E4 ([]:List Row),E5 ([]:List Frame),E6 ([]:List Gr),I64 0,I64 0,I64 0,I64 0,.mp 1159,.mp 1160,.mp 1161,I64 0])],((1037,.vec 74 2 0 ((i.set (k:Int).toNat (Ga.mk a2.Bay a1)).map Ga.av))::[(1159,TP 75 Slot.kv Box.av (Gv.empty:Gv Slot Box)),(1160,TP 76 Kn Box.av (Gv.empty:Gv Int Box)),(1161,TP 77 Kn I64 (Gv.empty:Gv Int Int)),(1037,.vec 74 2 0 (i.map Ga.av)),(1158,.box 79 [E3 p,.vec 1037 0 2 j.length,I64 0,I64 0,I64 0,I64 0,E4 ([]:List Row),E5 ([]:List Frame),E6 ([]:List Gr),I64 0,I64 0,I64 0,I64 0,.mp 1159,.mp 1160,.mp 1161,I64 0])])] Ho (by kernel_rfl) rfl rfl ?_
   refine Gc (u:=.ptr 1158 0) O O ⟨Gi (G7 O O) O,G⟩ (Gc (u:=.ptr 1158 0) O O ⟨Gi (Ri O O) O,G⟩ (Gc (u:=.ptr 1158 0) O O ⟨Gi (Ht Rb O O) O,G⟩ (Gc (u:=.ptr 1158 1) O O ⟨Gi (Ht Jc O O) O,G⟩ (Gc (u:=.vec 1037 0 2 j.length) O O ⟨Gi (J8 Ji O O O O) O,G⟩ (Gc (u:=Ej k) O O ⟨Gi (G7 O O) O,G⟩ (Gc (u:=.dptr ((G6.cs s).drop 1)) O O ⟨Gi (Gb Jc O O O) O,G⟩ (Gc (u:=E7 s.Covers) O O ⟨Gi (Ge Ji O O O) O,G⟩ (Gc (u:=Ej k) O O ⟨Gi (G7 O O) O,G⟩ (Gc (u:=.dptr [I64 a0.Bay,E1 a0.Rows]) O O ⟨Gi (H0 (f:=Ga.av) (xs:=s.Covers) (y:=a0) O O O J7 e4 e3) O,G⟩ (Gc (u:=.dptr [E1 a0.Rows]) O O ⟨Gi (Gb Qk O O O) O,G⟩ (Gc (u:=E1 a0.Rows) O O ⟨Gi (Ge Hq O O O) O,G⟩ (Gc (u:=E1 a1) O O ⟨Gi (Gw O (H0c a0.Rows a1 e5) Q02 ⟨O,O,G⟩) O,G⟩ (Gc (u:=.vptr 1037 0 ((k:Int).toNat) 0) O O ⟨Gi (Rbb (f:=Ga.av) (xs:=i) (y:=a2) O O O O J7 a8 b4) O,G⟩ ?_)))))))))))))
   refine Gc (u:=.vptr 1037 0 ((k:Int).toNat) 1) O O ⟨Gi (R25 Qk O O O) O,G⟩ (Gf2 (u:=.junk) O O O O (Gi (Qa1 (f:=Ga.av) (xs:=i) (e:=a2) (z:=(Ga.mk a2.Bay a1)) (u:=E1 a1) G7c O O O O a8 O O O O O) O) (Qp (e1 (G2 (JLh (I64 ((k+1:Nat):Int)) (Jo (Hw a7 d5) O O O) O (JLm (I64 ((k+1:Nat):Int)) O (G8 (h4 _ _ (k+1) (i.set (k:Int).toNat (Ga.mk a2.Bay a1)) (app1 e0 h) (by omega) ⟨(.sm O O),⟨fmQ O,fmQ O,fmQ O,⟨_,rfl,.vec⟩,fbQ O (.sm O O),G⟩,rfl⟩))))))))
  ·
   have h:=app1 b3 (J0 a6 (Hd hb))
   refine Hy (d3 (Js fun e6=>Jr fun e7=>(JLm (E2 state) O (JLl H6 O O O fun e8=>(JLm (I64 0) O (G8 (e7 (Gx ?_))))))))
   obtain⟨h5,e9,f0,b5,h⟩:=Jf h
   refine Hs (fun t (l:(Gv Slot Box))=>each h5 e9 (List.drop t state) t l=some r) (fun t l=>[(1,E8 boxes),(2,E2 state),(3,E1 ashore),(10,.ptr 1158 0),(63,E2 state),(64,Ej state.length),(65,Ej t)]) (fun t l=>[(1159,TP 75 Slot.kv Box.av l),(1160,TP 76 Kn Box.av (Gv.empty:Gv Int Box)),(1161,TP 77 Kn I64 (Gv.empty:Gv Int Int)),(1037,.vec 74 2 0 (i.map Ga.av)),(1158,.box 79 [E3 p,.vec 1037 0 2 j.length,I64 0,I64 0,I64 0,I64 0,E4 ([]:List Row),E5 ([]:List Frame),E6 ([]:List Gr),I64 0,I64 0,I64 0,I64 0,.mp 1159,.mp 1160,.mp 1161,I64 0])]) (fun t=>state.length - t) 0 (Gv.empty:Gv Slot Box) h ⟨(.sm O O),⟨fmQ O,fmQ O,fmQ O,⟨_,rfl,.vec⟩,fbQ O (.sm O O),G⟩,rfl⟩ ?_
   clear h
   intro t l a9 i5 h6
   refine Jr fun f1=>(JLh (BL (decide ((t:Int) < (state.length:Int)))) (Jq O O O) O (G8 (f1 (Js fun f2=>Gp O (fun hb=>?_) (fun hb=>?_)))))
   ·
    have b0:=Q4 hb
    obtain⟨o,i0,f3,f4,h⟩:=Hz a9 b0
    replace h:=Zi f0 h
    refine Gn (f2 (Js fun f5=>Gx (Jr fun f6=>(JLh (Ef o) (H0 (f:=G3.av) (xs:=state) (y:=o) O O O H6 f3 O) O (JLh (.agg (G3.cs o)) (Gt G32 O O O) O (JLh (.ptr 1010 0) (Jn 1010 4 Yv O O) O (J9 (u:=.junk) (He (u:=.agg (G3.cs o)) (ds:=[I64 o.Box,I64 o.Slot.G1,I64 o.Slot.Tier,U8 o.Slot.Half]) H33 O O O O O O O O) (G8 (f6 ?_)))))))))
    refine fzQ [(1,E8 boxes),(2,E2 state),(3,E1 ashore),(10,.ptr 1158 0),(13,Ef o),(63,E2 state),(64,Ej state.length),(65,Ej t)] [(1159,TP 75 Slot.kv Box.av l),(1160,TP 76 Kn Box.av (Gv.empty:Gv Int Box)),(1161,TP 77 Kn I64 (Gv.empty:Gv Int Int)),(1037,.vec 74 2 0 (i.map Ga.av)),(1158,.box 79 [E3 p,.vec 1037 0 2 j.length,I64 0,I64 0,I64 0,I64 0,E4 ([]:List Row),E5 ([]:List Frame),E6 ([]:List Gr),I64 0,I64 0,I64 0,I64 0,.mp 1159,.mp 1160,.mp 1161,I64 0])] 1010 rfl rfl rfl ⟨fmQ O,fmQ O,fmQ O,⟨_,rfl,.vec⟩,⟨_,rfl,.boxEq rfl rfl⟩,G⟩ rfl ?_
    refine Qw (l':=[(1,E8 boxes),(2,E2 state),(3,E1 ashore),(10,.ptr 1158 0),(13,Ef o),(63,E2 state),(64,Ej state.length),(65,Ej t)]) (L':=[(1159,TP 75 Slot.kv Box.av l),(1160,TP 76 Kn Box.av (Gv.empty:Gv Int Box)),(1161,TP 77 Kn I64 (Gv.empty:Gv Int Int)),(1037,.vec 74 2 0 (i.map Ga.av)),(1158,.box 79 [E3 p,.vec 1037 0 2 j.length,I64 0,I64 0,I64 0,I64 0,E4 ([]:List Row),E5 ([]:List Frame),E6 ([]:List Gr),I64 0,I64 0,I64 0,I64 0,.mp 1159,.mp 1160,.mp 1161,I64 0])]) ⟨(.sm O O),⟨fmQ O,fmQ O,fmQ O,⟨_,rfl,.vec⟩,fbQ O (.sm O O),G⟩,rfl⟩ ?_
    obtain⟨x,f7,h⟩:=Gj h
    refine J4 [13] (.replicate 14 0) [0,0,0,0,0,0,0,0,0,0,0,0,1,0] [[(1159,TP 75 Slot.kv Box.av l),(1160,TP 76 Kn Box.av (Gv.empty:Gv Int Box)),(1161,TP 77 Kn I64 (Gv.empty:Gv Int Int)),(1037,.vec 74 2 0 (i.map Ga.av)),(1158,.box 79 [E3 p,.vec 1037 0 2 j.length,I64 0,I64 0,I64 0,I64 0,E4 ([]:List Row),E5 ([]:List Frame),E6 ([]:List Gr),I64 0,I64 0,I64 0,I64 0,.mp 1159,.mp 1160,.mp 1161,I64 0])],((1159,TP 75 Slot.kv Box.av (Gv.put l o.Slot x.1))::[(1159,TP 75 Slot.kv Box.av l),(1160,TP 76 Kn Box.av (Gv.empty:Gv Int Box)),(1161,TP 77 Kn I64 (Gv.empty:Gv Int Int)),(1037,.vec 74 2 0 (i.map Ga.av)),(1158,.box 79 [E3 p,.vec 1037 0 2 j.length,I64 0,I64 0,I64 0,I64 0,E4 ([]:List Row),E5 ([]:List Frame),E6 ([]:List Gr),I64 0,I64 0,I64 0,I64 0,.mp 1159,.mp 1160,.mp 1161,I64 0])])] Ho (by kernel_rfl) rfl rfl ?_
    refine Gc (u:=.ptr 1158 0) O O ⟨Gi (G7 O O) O,G⟩ (Gc (u:=.ptr 1158 0) O O ⟨Gi (Ri O O) O,G⟩ (Gc (u:=.ptr 1158 13) O O ⟨Gi (Ht Y3 O O) O,G⟩ (Gc (u:=.mp 1159) O O ⟨Gi (J8 Y5 O O O O) O,G⟩ (Gc (u:=.dptr ((G3.cs o).drop 1)) O O ⟨Gi (Gb J1 O O O) O,G⟩ (Gc (u:=.agg ((G3.cs o).drop 1)) O O ⟨Gi (Gt Hx O O O) O,G⟩ (Gc (u:=E8 boxes) O O ⟨Gi (G7 O O) O,G⟩ (Gc (u:=Ef o) O O ⟨Gi (Gb Q1 O O O) O,G⟩ (Gc (u:=I64 o.Box) O O ⟨Gi (Ge Gd O O O) O,G⟩ (Gc (u:=.tup [.agg (Box.cs x.1),BL x.2]) O O ⟨Gi (Gw O (H29 boxes o.Box x f7) H9d ⟨O,O,O,O,G⟩) O,G⟩ (Gc (u:=.tup [.agg (Box.cs x.1),BL x.2]) O O ⟨Gi (G7 O O) O,G⟩ (Gc (u:=.agg (Box.cs x.1)) O O ⟨Gi (H4 O O O) O,G⟩ (Gc (u:=BL x.2) O O ⟨Gi (H4 O O O) O,Gi (H4 O O O) O,G⟩ (Gf2 (u:=.junk) O O O O (Gi (G62 (m:=l) (a:=o.Slot) (v:=x.1) (fun _=>O) O O O O O O Q70 G4e) O) (Qp ?_))))))))))))))
    refine f5 (G2 (JLh (I64 ((t+1:Nat):Int)) (Jo (Hw b0 e8) O O O) O (JLm (I64 ((t+1:Nat):Int)) O (G8 (h6 _ _ (t+1) (Gv.put l o.Slot x.1) (app1 f4 h) (by omega) ⟨(.sm O O),⟨fmQ O,fmQ O,fmQ O,⟨_,rfl,.vec⟩,fbQ O (.sm O O),G⟩,rfl⟩)))))
   ·
    have h:=app1 b5 (J0 a9 (Hd hb))
    refine Hy (e6 (Js fun f8=>Jr fun f9=>(JLm (E1 ashore) O (JLl Gz O O O fun g0=>(JLm (I64 0) O (G8 (f9 (Gx ?_))))))))
    obtain⟨g1,b6,b7,b1,h⟩:=Jf h
    refine Hs (fun c (n:(Gv Int Box))=>each g1 b6 (List.drop c ashore) c n=some r) (fun c n=>[(1,E8 boxes),(2,E2 state),(3,E1 ashore),(10,.ptr 1158 0),(83,E1 ashore),(84,Ej ashore.length),(85,Ej c)]) (fun c n=>[(1159,TP 75 Slot.kv Box.av l),(1160,TP 76 Kn Box.av n),(1161,TP 77 Kn I64 (Gv.empty:Gv Int Int)),(1037,.vec 74 2 0 (i.map Ga.av)),(1158,.box 79 [E3 p,.vec 1037 0 2 j.length,I64 0,I64 0,I64 0,I64 0,E4 ([]:List Row),E5 ([]:List Frame),E6 ([]:List Gr),I64 0,I64 0,I64 0,I64 0,.mp 1159,.mp 1160,.mp 1161,I64 0])]) (fun c=>ashore.length - c) 0 (Gv.empty:Gv Int Box) h ⟨(.sm O O),⟨fmQ O,fmQ O,fmQ O,⟨_,rfl,.vec⟩,fbQ O (.sm O O),G⟩,rfl⟩ ?_
    clear h
    intro c n a4 i1 g2
    refine Jr fun b8=>(JLh (BL (decide ((c:Int) < (ashore.length:Int)))) (Jq O O O) O (G8 (b8 (Js fun b9=>Gp O (fun hb=>?_) (fun hb=>?_)))))
    ·
     have a5:=Q4 hb
     obtain⟨d,h7,c0,c1,h⟩:=Hz a4 a5
     replace h:=Zi b7 h
     refine Gn (b9 (Js fun c2=>Gx (Jr fun c3=>(JLm (Ej c) O (JLh (.dptr [I64 d]) (H0 (f:=I64) (xs:=ashore) (y:=d) O O O Gz c0 O) O (JLh (I64 d) (Ge Gd O O O) O (JLh (.ptr 1011 0) (Jn 1011 1 Yr O O) O (JLm (Ej c) O (J9 (u:=.junk) (He (u:=I64 d) (ds:=[I64 d]) H2b O O O O O O O O) (G8 (c3 ?_)))))))))))
     refine fzQ [(1,E8 boxes),(2,E2 state),(3,E1 ashore),(10,.ptr 1158 0),(14,Ej c),(15,.dptr [I64 d]),(83,E1 ashore),(84,Ej ashore.length),(85,Ej c)] [(1159,TP 75 Slot.kv Box.av l),(1160,TP 76 Kn Box.av n),(1161,TP 77 Kn I64 (Gv.empty:Gv Int Int)),(1037,.vec 74 2 0 (i.map Ga.av)),(1158,.box 79 [E3 p,.vec 1037 0 2 j.length,I64 0,I64 0,I64 0,I64 0,E4 ([]:List Row),E5 ([]:List Frame),E6 ([]:List Gr),I64 0,I64 0,I64 0,I64 0,.mp 1159,.mp 1160,.mp 1161,I64 0])] 1011 rfl rfl rfl ⟨fmQ O,fmQ O,fmQ O,⟨_,rfl,.vec⟩,⟨_,rfl,.boxEq rfl rfl⟩,G⟩ rfl ?_
     refine Jr fun c4=>(JLm (E8 boxes) O (JLh (I64 d) (Ge Gd O O O) O ?_))
     obtain⟨g,c5,h⟩:=Gj h
     refine JLh (.tup [.agg (Box.cs g.1),BL g.2]) (Gw O (H29 boxes d g c5) H9d ⟨O,O,O,O,G⟩) O (JLm (.tup [.agg (Box.cs g.1),BL g.2]) O (JLh (.agg (Box.cs g.1)) (H4 O O O) O (JLh (BL g.2) (H4 O O O) O (JLh (.ptr 1012 0) (Jn 1012 9 Y1 O O) O (J9 (u:=.junk) (He (u:=.agg (Box.cs g.1)) (ds:=(Box.cs g.1)) Rk O O O O O O O O) (JLm (BL g.2) O (G8 (c4 ?_))))))))
     refine fzQ [(1,E8 boxes),(2,E2 state),(3,E1 ashore),(10,.ptr 1158 0),(14,Ej c),(15,.dptr [I64 d]),(16,Eg g.1),(17,BL g.2),(83,E1 ashore),(84,Ej ashore.length),(85,Ej c)] [(1159,TP 75 Slot.kv Box.av l),(1160,TP 76 Kn Box.av n),(1161,TP 77 Kn I64 (Gv.empty:Gv Int Int)),(1037,.vec 74 2 0 (i.map Ga.av)),(1158,.box 79 [E3 p,.vec 1037 0 2 j.length,I64 0,I64 0,I64 0,I64 0,E4 ([]:List Row),E5 ([]:List Frame),E6 ([]:List Gr),I64 0,I64 0,I64 0,I64 0,.mp 1159,.mp 1160,.mp 1161,I64 0])] 1012 rfl rfl rfl ⟨fmQ O,fmQ O,fmQ O,⟨_,rfl,.vec⟩,⟨_,rfl,.boxEq rfl rfl⟩,G⟩ rfl ?_
     refine Js fun c6=>Js fun c7=>?_
     refine Qw (l':=[(1,E8 boxes),(2,E2 state),(3,E1 ashore),(10,.ptr 1158 0),(14,Ej c),(15,.dptr [I64 d]),(16,Eg g.1),(17,BL g.2),(83,E1 ashore),(84,Ej ashore.length),(85,Ej c)]) (L':=[(1159,TP 75 Slot.kv Box.av l),(1160,TP 76 Kn Box.av n),(1161,TP 77 Kn I64 (Gv.empty:Gv Int Int)),(1037,.vec 74 2 0 (i.map Ga.av)),(1158,.box 79 [E3 p,.vec 1037 0 2 j.length,I64 0,I64 0,I64 0,I64 0,E4 ([]:List Row),E5 ([]:List Frame),E6 ([]:List Gr),I64 0,I64 0,I64 0,I64 0,.mp 1159,.mp 1160,.mp 1161,I64 0])]) ⟨(.sm O O),⟨fmQ O,fmQ O,fmQ O,⟨_,rfl,.vec⟩,fbQ O (.sm O O),G⟩,rfl⟩ ?_
     obtain⟨g3,c8,h⟩:=Gj h
     obtain⟨w,c9,h⟩:=Gj h
     obtain⟨a3,d0,h⟩:=Gj h
     refine JC_d0 Ho (by kernel_rfl) (Dq (BL g.2) (G7 O O) O (Dq (BL (!g.2)) (R2 (b:=g.2) O O) O (Dq (BL (!g.2)) (G7 O O) O (Do (Ej c) [] O .scf G (fun hc=>G7 O O) O (Do (BL (decide (0 < (c:Int)))) [99] O .scf ⟨Ua,G⟩ (fun hc=>G08 O O O) O (Do (BL (decide (0 < (c:Int)))) [100] O .scf ⟨Ua,G⟩ (fun hc=>G7 O O) O (Do (I64 d) [] O .optt G (fun hc=>Ge Gd O O O) O (Do (E1 ashore) [] O .optt G (fun hc=>G7 O O) O (Do (Ej c) [] O .optt G (fun hc=>G7 O O) O (Do (I64 g3) [104] O .optt ⟨Ua,G⟩ (fun hc=>H90 (G65 (H1 hc c8)) O O O) O (Do (.dptr [I64 w]) [103,105] O .optt ⟨Ua,Ua,G⟩ (fun hc=>(match R1 (H1 hc c9) with | ⟨_,hm_,hy_⟩=>H0 (f:=I64) (xs:=ashore) (y:=w) O O O Gz hy_ hm_)) O (Do (I64 w) [106] O .optt ⟨Ua,G⟩ (fun hc=>Ge Gd O O O) O (Do (BL (decide (d≤w))) [102,107] O .optt ⟨Ua,Ua,G⟩ (fun hc=>H61 O O O) O ?_)))))))))))))
     refine Dg (.opt (!(!g.2)) (BL ((decide (0 < (c:Int)))&&(decide (d≤w))))) (Gk [(101,BL (decide (0 < (c:Int)))),(108,_)] O O O .scf ⟨.all id,.part,G⟩ (fun hc=>Jv O O O O) O) O (Dq (BL ((!g.2)||((decide (0 < (c:Int)))&&(decide (d≤w))))) (Ya O O O O) O (Dq (BL ((!g.2)||((decide (0 < (c:Int)))&&(decide (d≤w))))) (G7 O O) O (Do (E2 state) [] O .scf G (fun hc=>G7 O O) O (Do (.fn 29 [.dptr [I64 d]]) [] O .scf G (fun hc=>R0 (cs:=[.dptr [I64 d]]) O O) O (Do (BL a3) [112,113] O .scf ⟨Ua,Ua,G⟩ (fun hc=>Gw (args:=[E2 state,.fn 29 [.dptr [I64 d]]]) O (G2f state (fun z0=>Yo z0 d) 29 [.dptr [I64 d]] Q00 O (fun z0 q hq=>Hc0 z0 d q hq) a3 (H1 hc d0)) Q01 ⟨O,O,O,O,G⟩) O (Dq (BL (((!g.2)||((decide (0 < (c:Int)))&&(decide (d≤w))))||a3)) (Ya O O O O) O (Dnil ?_)))))))
     refine c7 (JCc O h (fun h hb=>?_) (fun h hb=>?_))
     ·
      refine Jr fun d1=>(JLm (.sc (.pointer none)) O (JLm (I64 2) O (G8 (d1 (Gs (⟨[.sc (.pointer none),I64 2],[],G,O,⟨⟨_,O,.conv (.same O)⟩,⟨_,O,.conv (.same O)⟩,G⟩,O,congrArg (fun r:Int=>(.tup [.sc (.pointer none),I64 r]:AV)) (M2 h)⟩))))))
     ·
      refine Gn (c6 ?_)
      refine Qw (l':=[(1,E8 boxes),(2,E2 state),(3,E1 ashore),(10,.ptr 1158 0),(15,.dptr [I64 d]),(16,Eg g.1),(83,E1 ashore),(84,Ej ashore.length),(85,Ej c)]) (L':=[(1159,TP 75 Slot.kv Box.av l),(1160,TP 76 Kn Box.av n),(1161,TP 77 Kn I64 (Gv.empty:Gv Int Int)),(1037,.vec 74 2 0 (i.map Ga.av)),(1158,.box 79 [E3 p,.vec 1037 0 2 j.length,I64 0,I64 0,I64 0,I64 0,E4 ([]:List Row),E5 ([]:List Frame),E6 ([]:List Gr),I64 0,I64 0,I64 0,I64 0,.mp 1159,.mp 1160,.mp 1161,I64 0])]) ⟨(.sm O O),⟨fmQ O,fmQ O,fmQ O,⟨_,rfl,.vec⟩,fbQ O (.sm O O),G⟩,rfl⟩ ?_
      refine J4 [6] [0,0,0,0,0,0,0] [0,0,0,0,0,0,0] [[(1159,TP 75 Slot.kv Box.av l),(1160,TP 76 Kn Box.av n),(1161,TP 77 Kn I64 (Gv.empty:Gv Int Int)),(1037,.vec 74 2 0 (i.map Ga.av)),(1158,.box 79 [E3 p,.vec 1037 0 2 j.length,I64 0,I64 0,I64 0,I64 0,E4 ([]:List Row),E5 ([]:List Frame),E6 ([]:List Gr),I64 0,I64 0,I64 0,I64 0,.mp 1159,.mp 1160,.mp 1161,I64 0])],((1160,TP 76 Kn Box.av (Gv.put n d g.1))::[(1159,TP 75 Slot.kv Box.av l),(1160,TP 76 Kn Box.av n),(1161,TP 77 Kn I64 (Gv.empty:Gv Int Int)),(1037,.vec 74 2 0 (i.map Ga.av)),(1158,.box 79 [E3 p,.vec 1037 0 2 j.length,I64 0,I64 0,I64 0,I64 0,E4 ([]:List Row),E5 ([]:List Frame),E6 ([]:List Gr),I64 0,I64 0,I64 0,I64 0,.mp 1159,.mp 1160,.mp 1161,I64 0])])] Ho (by kernel_rfl) rfl rfl ?_
      refine Gc (u:=.ptr 1158 0) O O ⟨Gi (G7 O O) O,G⟩ (Gc (u:=.ptr 1158 0) O O ⟨Gi (Ri O O) O,G⟩ (Gc (u:=.ptr 1158 14) O O ⟨Gi (Ht G1b O O) O,G⟩ (Gc (u:=.mp 1160) O O ⟨Gi (J8 G14 O O O O) O,G⟩ (Gc (u:=I64 d) O O ⟨Gi (Ge Gd O O O) O,G⟩ (Gc (u:=.agg (Box.cs g.1)) O O ⟨Gi (Gt Yf O O O) O,G⟩ (Gf2 (u:=.junk) O O O O (Gi (G62 (m:=n) (a:=d) (v:=g.1) (fun _=>O) O O O O O O Jdc Ge6) O) (Qp (c2 (G2 (JLh (I64 ((c+1:Nat):Int)) (Jo (Hw a5 g0) O O O) O (JLm (I64 ((c+1:Nat):Int)) O (G8 ?_))))))))))))
      exact g2 _ _ (c+1) (Gv.put n d g.1) (app1 c1 h) (by omega) ⟨(.sm O O),⟨fmQ O,fmQ O,fmQ O,⟨_,rfl,.vec⟩,fbQ O (.sm O O),G⟩,rfl⟩
    ·
     have h:=app1 b1 (J0 a4 (Hd hb))
     refine Hy (f8 (Jr fun d2=>(JLm (.ptr 1158 0) O (JLm (.ptr 1158 0) O (JLm (I64 0) O (G8 (d2 (Qa0 1158 1 (0+1) O O O (Nat.lt_succ_self _) (cs':=[E3 p,E7 i,I64 0,I64 0,I64 0,I64 0,E4 ([]:List Row),E5 ([]:List Frame),E6 ([]:List Gr),I64 0,I64 0,I64 0,I64 0,.mp 1159,.mp 1160,.mp 1161,I64 0]) O (Gs ?_)))))))))
     cases h
end
end Go.Proofs.YtmfhaflabpnaoaaGreat
