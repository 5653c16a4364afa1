/- Walks of functions. -/
import Derived.Test.YtgcpimpnpcdmmaaGreatXT
set_option maxRecDepth 100000
set_option maxHeartbeats 1000000
set_option linter.unusedVariables false
set_option linter.unusedSimpArgs false
namespace Go.Proofs.YtgcpimpnpcdmmaaGreat
open Go.RowKit
noncomputable section
structure G1 where
 Box:Int
 Slot:Slot
 deriving DecidableEq,Inhabited
def G1.cs (x:G1):List AV:=[I64 x.Box,I64 x.Slot.G3,I64 x.Slot.Tier,U8 x.Slot.Half]
def G1.av (x:G1):AV:=.agg x.cs
abbrev Eh (x:G1):AV:=.dptr (G1.cs x)
abbrev E1:=LS 4 G1.av
def G1.vs (x:G1):List Value:=[.int .i64 x.Box,.int .i64 x.Slot.G3,.int .i64 x.Slot.Tier,.int .u8 x.Slot.Half]
namespace XUF
open XAF
open XCF
open XSF
open XKF
open XTF
theorem Qd:H35 En 64 4=true:=by kernel_rfl
theorem Q38:H0 En 117=true:=by kernel_rfl
theorem Ja4:H0 En 14=true:=by kernel_rfl
theorem Ra0:H0 En 145=true:=by kernel_rfl
theorem H85:H0 En 31=true:=by kernel_rfl
theorem Y27:H0 En 33=true:=by kernel_rfl
theorem Y26:H0 En 34=true:=by kernel_rfl
theorem Y25:H0 En 35=true:=by kernel_rfl
theorem Qa9:H0 En 36=true:=by kernel_rfl
theorem Y24:H0 En 37=true:=by kernel_rfl
theorem Qa8:H0 En 44=true:=by kernel_rfl
theorem Ja2:H0 En 45=true:=by kernel_rfl
theorem Qa7:H0 En 46=true:=by kernel_rfl
theorem H29:H0 En 47=true:=by kernel_rfl
theorem Hfc:H0 En 48=true:=by kernel_rfl
theorem Qa6:H0 En 49=true:=by kernel_rfl
theorem Qa5:H0 En 50=true:=by kernel_rfl
theorem Y1b:H0 En 60=true:=by kernel_rfl
theorem Y1a:H0 En 61=true:=by kernel_rfl
theorem Y19:H0 En 66=true:=by kernel_rfl
theorem Q9a:H0 En 93=true:=by kernel_rfl
theorem Q98:H0 En 95=true:=by kernel_rfl
theorem Q97:H0 En 96=true:=by kernel_rfl
theorem Hb2:Z9 En 100 2 32=true:=by kernel_rfl
theorem Ge6:Z9 En 64 4 32=true:=by kernel_rfl
theorem J6:Ju En 64 0 0=true:=by kernel_rfl
theorem Jn:Ju En 64 1 1=true:=by kernel_rfl
theorem Jc5:placesOf En 36=some [(0,1),(1,1),(2,4),(6,1),(7,1),(8,1),(9,4)]:=by kernel_rfl
theorem G37:placesOf En 64=some [(0,1),(1,3)]:=by kernel_rfl
theorem R5c:placesOf En 94=some [(0,13),(13,1),(14,1),(15,1),(16,1)]:=by kernel_rfl
theorem G6d:Y7 En 36 13=true:=by kernel_rfl
theorem Rk:Y7 En 64 4=true:=by kernel_rfl
theorem H3:sliceB En 44 64 4=true:=by kernel_rfl
theorem Ge4:(En.info? 36).bind (fun i=>i.zero.map Value.cells)=some (List.toArray [.slice none 0 0,.slice none 0 0,E0,E0,E0,E0,.slice none 0 0,.slice none 0 0,.slice none 0 0,E0,E0,E0,E0]):=by kernel_rfl
theorem G99:(En.info? 64).bind (fun i=>i.zero.map Value.cells)=some (List.toArray [E0,E0,E0,.int .u8 0]):=by kernel_rfl
theorem Y01:(En.info? 94).bind (fun i=>i.zero.map Value.cells)=some (List.toArray [.slice none 0 0,.slice none 0 0,E0,E0,E0,E0,.slice none 0 0,.slice none 0 0,.slice none 0 0,E0,E0,E0,E0,.map none,.map none,.map none,E0]):=by kernel_rfl
theorem Jy:R1 En 64 4=true:=by kernel_rfl
end XUF
open XAF
open XCF
open XSF
open XKF
open XTF
open XUF

def G81 (x:Int):Option Bool:=
 some (decide (x≠x))
theorem Hc0 (x:Int) (r:Bool) (h:G81 x=some r):Pure En 93 [I64 x] (·=BL r):=by
 unfold G81 at h
 refine Gx [.tmp 2] Tryz.func93 O O (Jr fun a=>(JLm (BL false) O (G5 (a (Jr fun b=>(JLm (I64 x) O (JLm (I64 x) O (JLh (BL (decide (x≠x))) (Gca O O O) O (JLm (BL (decide (x≠x))) O (G5 (b (Gs (fin1 BL h)))))))))))))

def Qr (x:Int) (y:Int):Option Int:=
 bnd (G81 x) fun b=>
 bnd (G81 y) fun a=>
 bif b then
 (bif a then
  (some 0)
  else
  (some (-1)))
 else
 (bif a then
  (some 1)
  else
  (bif decide (x < y) then
   (some (-1))
   else
   (bif decide (y < x) then
    (some 1)
    else
    (some 0))))
theorem Zm (x:Int) (y:Int) (r:Int) (h:Qr x y=some r):Pure En 47 [I64 x,I64 y] (·=I64 r):=by
 unfold Qr at h
 refine Gx [.tmp 4] Tryz.func47 O O (Jr fun p=>(JLm (I64 0) O (G5 (p (Jr fun q=>(JLm (I64 x) O ?_))))))
 obtain⟨b,s,h⟩:=Ge h
 refine JLh (BL b) (Gu O (Hc0 x b s) Q9a ⟨O,O,ø⟩) O (JLm (BL b) O (G5 (q (Jr fun t=>(JLm (I64 y) O ?_)))))
 obtain⟨a,u,h⟩:=Ge h
 refine JLh (BL a) (Gu O (Hc0 y a u) Q9a ⟨O,O,ø⟩) O (JLm (BL a) O (G5 (t (Js fun v=>Jr fun w=>(JLm (BL b) O (G5 (w (JCc O h (fun h hb=>?_) (fun h hb=>?_)))))))))
 ·
  refine Js fun z=>Jr fun a0=>(JLm (BL a) O (G5 (a0 (JCc O h (fun h hb=>?_) (fun h hb=>?_)))))
  ·
   refine Jr fun c=>(JLm (I64 0) O (G5 (c (Gs (fin1 I64 h)))))
  ·
   refine Gm (z (Jr fun d=>(JLm (I64 (-1)) O (G5 (d (Gs (fin1 I64 h)))))))
 ·
  refine Gm (v (Js fun e=>Jr fun f=>(JLm (BL a) O (G5 (f (JCc O h (fun h hb=>?_) (fun h hb=>?_)))))))
  ·
   refine Jr fun g=>(JLm (I64 1) O (G5 (g (Gs (fin1 I64 h)))))
  ·
   refine Gm (e (Js fun i=>Jr fun j=>(JLm (I64 x) O (JLm (I64 y) O (JLh (BL (decide (x < y))) (Jo O O O) O (G5 (j (JCc O h (fun h hb=>?_) (fun h hb=>?_)))))))))
   ·
    refine Jr fun k=>(JLm (I64 (-1)) O (G5 (k (Gs (fin1 I64 h)))))
   ·
    refine Gm (i (Js fun l=>Jr fun m=>(JLm (I64 x) O (JLm (I64 y) O (JLh (BL (decide (y < x))) (H01 O O O) O (G5 (m (JCc O h (fun h hb=>?_) (fun h hb=>?_)))))))))
    ·
     refine Jr fun n=>(JLm (I64 1) O (G5 (n (Gs (fin1 I64 h)))))
    ·
     refine Gm (l (Jr fun o=>(JLm (I64 0) O (G5 (o (Gs (fin1 I64 h)))))))

def Rt (a:G1) (b:G1):Option Int:=
 bnd (Qr a.Box b.Box) fun c=>
 some c
abbrev K0 (a:G1):List AV:=[I64 a.Box,I64 a.Slot.G3,I64 a.Slot.Tier,U8 a.Slot.Half]
theorem H6c (a:G1) (b:G1) (r:Int) (h:Rt a b=some r):Pure En 46 [.agg [I64 a.Box,I64 a.Slot.G3,I64 a.Slot.Tier,U8 a.Slot.Half],.agg (G1.cs b)] (·=I64 r):=by
 unfold Rt at h
 refine Gx [.tmp 4] Tryz.func46 O O (Jr fun d=>(JLh (.ptr 1085 0) (Q4 (cs:=(K0 a)) 1085 O O O O O) O (JLh (.ptr 1086 0) (Q4 (cs:=[I64 b.Box,I64 b.Slot.G3,I64 b.Slot.Tier,U8 b.Slot.Half]) 1086 O O O O O) O (JLm (I64 0) O (G5 (d (Gn [(2,.dptr (K0 a)),(3,.ptr 1086 0)] [(1086,.box 64 [I64 b.Box,I64 b.Slot.G3,I64 b.Slot.Tier,U8 b.Slot.Half])] 1085 rfl rfl rfl ⟨⟨_,rfl,.boxEq rfl rfl⟩,ø⟩ rfl (by exact⟨.ptr,.conv (.same rfl),ø⟩) (Gn [(2,.dptr (K0 a)),(3,Eh b)] [] 1086 rfl rfl rfl ø rfl (by exact⟨.conv (.same rfl),.ptr,ø⟩) ?_))))))))
 refine Jr fun e=>(JLh (.dptr (K0 a)) (Ga J6 O O O) O (JLh (I64 a.Box) (Gg Gb O O O) O (JLh (Eh b) (Ga J6 O O O) O (JLh (I64 b.Box) (Gg Gb O O O) O ?_))))
 obtain⟨c,f,h⟩:=Ge h
 refine JLh (I64 c) (Gu O (Zm a.Box b.Box c f) H29 ⟨O,O,O,O,ø⟩) O (JLm (I64 c) O (G5 (e (Gs (fin1 I64 h)))))

def G13 (m:Gc) (Rp:(List G1)→Prop):Option Prop:=
 J1f (fun(a:Slot×Box) (b:(List G1)) c=>
  need (decide ((b.length+[(G1.mk a.2.ID a.1)].length)*32≤140737488355328∧b.length+[(G1.mk a.2.ID a.1)].length≤maxLen)) <|
  c (b++[(G1.mk a.2.ID a.1)]))
 (fun(b:(List G1))=>
  bnd (Q43 (fun z0 z1=>Rt z0 z1) b) fun d=>
  some (Rp d)) (Gv.Hc m.on) []
def Z5 (m:Gc):Option (List Int):=
 bnd (G4e m.quay) fun b=>
 bnd (Ye (Gv.keys m.quay)) fun a=>
 some a
def G04 (m:Gc):Option (List Int):=
 bnd (G92 m.open_) fun b=>
 bnd (Ye (Gv.keys m.open_)) fun a=>
 some a
theorem Jb9 (m:Gc) (Rp:(List G1)→Prop) (p:Prop) (h:G13 m Rp=some p) (hp:p):J5 En 19 [.dptr (Gc.cs m)] [] (fun av L'=>∃ p:Nat,∃ r,Rp r∧av=.vec 1025 p 4 r.length∧L'=[(1025,.vec 64 4 p (r.map G1.av))]):=by
 unfold G13 at h
 refine Jk [] [.tmp 2] Tryz.func19 O O (G18 O) (Jr fun a4=>(JLh (.vec 1024 (([]:List G1).length) 4 (([]:List G1).length)) (G93 1024 64 4 O O O) O (G5 (a4 (Js fun a5=>Jr fun a6=>(JLm (Eg m) O (JLh (BL true) (Gu O (Rs m true O) G70 ⟨O,O,ø⟩) O (JLh (BL false) (Y8 (b:=true) O O) O (G5 (a6 (G2d O (Gm (a5 (Jr fun a7=>(JLh (.vec 1025 (([]:List G1).length) 4 (([]:List G1).length)) (G93 1025 64 4 O O O) O (G5 (a7 (Js fun a8=>?_))))))))))))))))))
 refine Jr fun a9=>(JLm (Eg m) O (JLh (Eg m) (G78 O O) O (JLh (.dptr ((Gc.cs m).drop 13)) (Ga Yk O O O) O (JLh (DM Slot.kv Box.av m.on) (Gg Yr O O O) O (JLh (.it 1028) (Ha3 1028 (kv:=Slot.kv) (av:=Box.av) (m:=m.on) O O .data O G86) O (G5 (a9 (Gq ?_))))))))
 obtain⟨b0,v,w,t,h⟩:=H56 h
 refine J5a (m.on.l.length) (fun d (c:(List G1))=>Gdd b0 v (Gv.l m.on) d c) (fun d c=>[(3,.vec 1025 c.length 4 c.length),(13,.it 1028)]) (fun d c=>[(1024,.vec 64 4 (([]:List G1).length) (([]:List G1).map G1.av)),(1025,.vec 64 4 c.length (c.map G1.av)),(1028,.iter (DM Slot.kv Box.av m.on) m.on.l.length d)]) [] (Gdd.start h hp) ⟨(.sm O O),⟨⟨_,O,.vec⟩,⟨_,O,.vec⟩,⟨_,O,.iter O⟩,ø⟩,O⟩ ?_
 clear h hp
 intro d c j b4 b1
 refine Jr fun k=>Yf O O O (J19 (kv:=Slot.kv) (av:=Box.av) (m:=m.on) (fun _=>O) O O O .data) ?_
 intro u_ L_ hn_
 rcases hn_ with ⟨i,a,g,n,rfl,rfl⟩ | ⟨x,rfl,rfl⟩
 ·
  obtain⟨b5,h,b2,o⟩:=j.step g n
  replace h:=Jb4 w h
  refine JLh (BL true) (Gz O O O) O (G5 (k (Js fun y=>J5b O (Gm (y (Gq ?_))))))
  refine Jr fun z=>(JLh (.tup [.agg (Slot.cs a.1),.agg (Box.cs a.2)]) (Jc1 (kv:=Slot.kv) (av:=Box.av) (m:=m.on) (q:=i) (seen:=d) (e:=a) (fun _=>O) O O O .data g) O (JLh (.agg (Slot.cs a.1)) (Gz O O O) O (JLh (.agg (Box.cs a.2)) (Gz O O O) O (JLh (.ptr 1026 0) (Hk 1026 3 Rg O O) O (JLh (.ptr 1027 0) (Hk 1027 9 Qx O O) O (Ho (u:=.junk) (H7 (u:=.agg (Slot.cs a.1)) (ds:=[I64 a.1.G3,I64 a.1.Tier,U8 a.1.Half]) Yd O O O O O O O O) (Ho (u:=.junk) (H7 (u:=.agg (Box.cs a.2)) (ds:=(Box.cs a.2)) Rh O O O O O O O O) (G5 (z ?_)))))))))
  refine fzQ [(3,.vec 1025 c.length 4 c.length),(4,Ek a.1),(5,.ptr 1027 0),(13,.it 1028)] [(1024,.vec 64 4 (([]:List G1).length) (([]:List G1).map G1.av)),(1025,.vec 64 4 c.length (c.map G1.av)),(1028,.iter (DM Slot.kv Box.av m.on) m.on.l.length (d++[i])),(1027,.box 103 (Box.cs a.2))] 1026 rfl rfl rfl ⟨⟨_,rfl,.vec⟩,⟨_,rfl,.vec⟩,⟨_,rfl,.iter rfl⟩,⟨_,rfl,.boxEq rfl rfl⟩,ø⟩ rfl ?_
  refine fzQ [(3,.vec 1025 c.length 4 c.length),(4,Ek a.1),(5,Ei a.2),(13,.it 1028)] [(1024,.vec 64 4 (([]:List G1).length) (([]:List G1).map G1.av)),(1025,.vec 64 4 c.length (c.map G1.av)),(1028,.iter (DM Slot.kv Box.av m.on) m.on.l.length (d++[i]))] 1027 rfl rfl rfl ⟨⟨_,rfl,.vec⟩,⟨_,rfl,.vec⟩,⟨_,rfl,.iter rfl⟩,ø⟩ rfl (G2 ?_)
  refine JLm (.vec 1025 c.length 4 c.length) O (JLh (Ei a.2) (Ga Qp O O O) O (JLh (I64 a.2.ID) (Gg Gb O O O) O (JLh (.agg (Slot.cs a.1)) (Gk J2 O O O) O (JLh (.agg [I64 a.2.ID,I64 a.1.G3,I64 a.1.Tier,U8 a.1.Half]) (Hg (cs:=[I64 a.2.ID,I64 a.1.G3,I64 a.1.Tier,U8 a.1.Half]) [(0,1),(1,3)] [I64 0,I64 0,I64 0,U8 0] [E0,E0,E0,.int .u8 0] G37 G99 (zzQ O) O O) O (JLh (E1 [(G1.mk a.2.ID a.1)]) (He (xs:=[.agg [I64 a.2.ID,I64 a.1.G3,I64 a.1.Tier,U8 a.1.Half]]) O ⟨O,O,ø⟩ H3 Jy O O O O) O ?_)))))
  obtain⟨a0,h⟩:=Ji h
  refine JLh (.vec 1025 ((c++[(G1.mk a.2.ID a.1)]).length) 4 ((c++[(G1.mk a.2.ID a.1)]).length)) (G4f (f:=G1.av) (xs:=c) (ys:=[(G1.mk a.2.ID a.1)]) (ver:=c.length) (ver1:=(c++[(G1.mk a.2.ID a.1)]).length) rfl rfl rfl rfl H3 Ge6 a0 (fun _=>rfl) (.inl rfl) (by simp)) O (JLm (.vec 1025 ((c++[(G1.mk a.2.ID a.1)]).length) 4 ((c++[(G1.mk a.2.ID a.1)]).length)) O (G5 (b1 _ _ (d++[i]) (c++[(G1.mk a.2.ID a.1)]) (o _ (M7 h).symm) (Gb1 (M5 g).1 n) ⟨(.sm O O),⟨⟨_,O,.vec⟩,⟨_,O,.vec⟩,⟨_,O,.iter O⟩,ø⟩,O⟩)))
 ·
  obtain⟨p_,h,hp⟩:=j.done x
  replace h:=app1 t h
  refine JLh (BL false) (Gz O O O) O (G5 (k (Js fun b3=>G2d O (Hr (a8 (Jr fun a1=>(JLm (.vec 1025 c.length 4 c.length) O ?_)))))))
  obtain⟨s,a2,h⟩:=Ge h
  refine JLh (.tup []) (Y99 (f:=G1.av) (cmp:=(fun z0 z1=>Rt z0 z1)) (xs:=c) (r:=s) G1.vs O Qb6 Q42 (fun _=>O) (fun _=>O) (fun _=>Z11 O) Ja2 Qa7 O O O O O a2 (fun z0 z1 q hq=>H6c z0 z1 q hq) O) O (G5 (a1 (Jr fun a3=>(JLm (.vec 1025 c.length 4 c.length) O (JLm (.vec 1025 c.length 4 c.length) O (G5 (a3 (G52 2 O O (fun hn_=>Gs (⟨[.vec 1025 c.length 4 c.length],[(1025,.vec 64 4 c.length (s.map G1.av))],⟨⟨_,O,.vec⟩,ø⟩,O,⟨⟨_,O,.conv (.same O)⟩,ø⟩,c.length,s,Eq.mpr (M7 h) hp,congrArg (fun n_:Nat=>(.vec 1025 c.length 4 n_:AV)) (hn_.trans (Mm _)),O⟩))))))))))
theorem Jb8 (S_:(Gc)→Option (List G1)) (hS_:∀ m r,S_ m=some r→∃ p:Prop,G13 m (fun r_=>r_=r)=some p∧p) (m:Gc) (r:(List G1)) (h:S_ m=some r):J5 En 19 [.dptr (Gc.cs m)] [] (fun av L'=>∃ p:Nat,av=.vec 1025 p 4 r.length∧L'=[(1025,.vec 64 4 p (r.map G1.av))]):=by
 obtain⟨p,a,b⟩:=hS_ m r h
 exact(Jb9 m _ p a b).mono (fun av L hh=>by obtain⟨q,r_,rfl,ha,hb⟩:=hh; exact⟨q,ha,hb⟩)


theorem H9d (m:Gc) (r:(List Int)) (h:Z5 m=some r):J5 En 22 [.dptr (Gc.cs m)] [] (fun av L'=>∃ p:Nat,av=.vec 1199 p 1 r.length∧L'=[(1199,.vec 3 1 p (r.map I64))]):=by
 unfold Z5 at h
 refine Jk [] [.tmp 2] Tryz.func22 O O (G18 O) (Jr fun d=>(JLh (.vec 1030 (([]:List Int).length) 1 (([]:List Int).length)) (G93 1030 3 1 O O O) O (G5 (d (Js fun e=>Jr fun f=>(JLm (Eg m) O (JLh (BL true) (Gu O (Rs m true O) G70 ⟨O,O,ø⟩) O (JLh (BL false) (Y8 (b:=true) O O) O (G5 (f (G2d O (Gm (e (Jr fun g=>(JLm (Eg m) O (JLh (Eg m) (G78 O O) O (JLh (.dptr ((Gc.cs m).drop 14)) (Ga G48 O O O) O (JLh (DM Ks Box.av m.quay) (Gg G36 O O O) O ?_))))))))))))))))))
 obtain⟨k,i,h⟩:=Ge h
 refine JLh (.fn 96 [.dptr [DM Ks Box.av m.quay]]) (Gu O (Gb0 m.quay k i) Qa5 ⟨O,O,ø⟩) O ?_
 obtain⟨a,j,h⟩:=Ge h
 refine Yf O O O (Ge1 (args:=[.fn 96 [.dptr [DM Ks Box.av m.quay]]]) (L0:=[]) (u:=fun p=>.vec 1199 p 1 a.length) (Lr:=fun p=>[(1199,.vec 3 1 p (a.map I64))]) O (H21.down (Gv.keys m.quay) 96 [.dptr [DM Ks Box.av m.quay]] Q97 O (G80 m.quay) a j) Hfc ⟨.inl O,O,ø⟩ ø O (fun _=>O)) ?_
 rintro u_ L_ ⟨c,rfl,rfl⟩
 refine JLm (.vec 1199 c 1 a.length) O (G5 (g (G52 2 O O (fun hn_=>Gs ?_))))
 obtain rfl:=M7 h
 exact⟨[.vec 1199 c 1 a.length],[(1199,.vec 3 1 c (a.map I64))],⟨⟨_,O,.vec⟩,ø⟩,O,⟨⟨_,O,.conv (.same O)⟩,ø⟩,c,congrArg (fun n_:Nat=>(.vec 1199 c 1 n_:AV)) (hn_.trans (Mm _)),O⟩


theorem Heb (m:Gc) (r:(List Int)) (h:G04 m=some r):J5 En 20 [.dptr (Gc.cs m)] [] (fun av L'=>∃ p:Nat,av=.vec 1199 p 1 r.length∧L'=[(1199,.vec 3 1 p (r.map I64))]):=by
 unfold G04 at h
 refine Jk [] [.tmp 2] Tryz.func20 O O (G18 O) (Jr fun d=>(JLh (.vec 1029 (([]:List Int).length) 1 (([]:List Int).length)) (G93 1029 3 1 O O O) O (G5 (d (Js fun e=>Jr fun f=>(JLm (Eg m) O (JLh (BL true) (Gu O (Rs m true O) G70 ⟨O,O,ø⟩) O (JLh (BL false) (Y8 (b:=true) O O) O (G5 (f (G2d O (Gm (e (Jr fun g=>(JLm (Eg m) O (JLh (Eg m) (G78 O O) O (JLh (.dptr ((Gc.cs m).drop 15)) (Ga G88 O O O) O (JLh (DM Ks I64 m.open_) (Gg G6e O O O) O ?_))))))))))))))))))
 obtain⟨k,i,h⟩:=Ge h
 refine JLh (.fn 95 [.dptr [DM Ks I64 m.open_]]) (Gu O (Gff m.open_ k i) Qa6 ⟨O,O,ø⟩) O ?_
 obtain⟨a,j,h⟩:=Ge h
 refine Yf O O O (Ge1 (args:=[.fn 95 [.dptr [DM Ks I64 m.open_]]]) (L0:=[]) (u:=fun p=>.vec 1199 p 1 a.length) (Lr:=fun p=>[(1199,.vec 3 1 p (a.map I64))]) O (H21.down (Gv.keys m.open_) 95 [.dptr [DM Ks I64 m.open_]] Q98 O (Gc8 m.open_) a j) Hfc ⟨.inl O,O,ø⟩ ø O (fun _=>O)) ?_
 rintro u_ L_ ⟨c,rfl,rfl⟩
 refine JLm (.vec 1199 c 1 a.length) O (G5 (g (G52 2 O O (fun hn_=>Gs ?_))))
 obtain rfl:=M7 h
 exact⟨[.vec 1199 c 1 a.length],[(1199,.vec 3 1 c (a.map I64))],⟨⟨_,O,.vec⟩,ø⟩,O,⟨⟨_,O,.conv (.same O)⟩,ø⟩,c,congrArg (fun n_:Nat=>(.vec 1199 c 1 n_:AV)) (hn_.trans (Mm _)),O⟩

def H13 (l:List G1):Option (List Slot):=
 each (fun b d (a:(List Slot)) c=>
  need (decide ((a.length+[b.Slot].length)*24≤140737488355328∧a.length+[b.Slot].length≤maxLen)) <|
  c (a++[b.Slot]))
 (fun(a:(List Slot))=>
  some a) l 0 []
theorem Qef (l:List G1) (r:(List Slot)) (h:H13 l=some r):Pure En 61 [E1 l] (·=E9 r):=by
 unfold H13 at h
 refine Gx [.tmp 2] Tryz.func61 O O (Jr fun v=>(JLh (E9 ([]:List Slot)) (Jh 3 O O) O (G5 (v (Jr fun w=>(JLh (OW 1121 3 Slot.av ([]:List Slot)) (H5f 1121 57 3 O O O) O (G5 (w (Js fun x=>Jr fun z=>(JLm (E1 l) O (JLl H3 O O O fun a0=>(JLm (I64 0) O (G5 (z (Gq ?_)))))))))))))))
 obtain⟨a1,i,j,g,h⟩:=Jc h
 refine Hn (fun c (a:(List Slot))=>each a1 i (List.drop c l) c a=some r) (fun c a=>[(3,OW 1121 3 Slot.av a),(6,E1 l),(7,Em l.length),(8,Em c)]) (fun c a=>[(1121,.spare 57 3 a.length a.length)]) (fun c=>l.length - c) 0 [] h ⟨(.sm O O),⟨⟨_,rfl,.same⟩,ø⟩,rfl⟩ ?_
 clear h
 intro c a d a4 a2
 refine Jr fun k=>(JLh (BL (decide ((c:Int) < (l.length:Int)))) (Jo O O O) O (G5 (k (Js fun m=>Gr O (fun hb=>?_) (fun hb=>?_)))))
 ·
  have e:=Q1 hb
  obtain⟨b,a3,n,o,h⟩:=Ht d e
  replace h:=Zn j h
  refine Gm (m (Js fun p=>Gq (Jr fun q=>(JLh (Eh b) (Hb (f:=G1.av) (xs:=l) (y:=b) O O O H3 n O) O (JLh (.agg (G1.cs b)) (Gk Qd O O O) O (JLh (.ptr 1122 0) (Hk 1122 4 Jy O O) O (Ho (u:=.junk) (H7 (u:=.agg (G1.cs b)) (ds:=[I64 b.Box,I64 b.Slot.G3,I64 b.Slot.Tier,U8 b.Slot.Half]) Rk O O O O O O O O) (G5 (q (fzQ [(3,OW 1121 3 Slot.av a),(5,Eh b),(6,E1 l),(7,Em l.length),(8,Em c)] [(1121,.spare 57 3 a.length a.length)] 1122 rfl rfl rfl ⟨⟨_,rfl,.same⟩,ø⟩ rfl (G2 ?_)))))))))))
  refine JLm (OW 1121 3 Slot.av a) O (JLh (.dptr ((G1.cs b).drop 1)) (Ga Jn O O O) O (JLh (.agg ((G1.cs b).drop 1)) (Gk J2 O O O) O (JLh (E9 [b.Slot]) (He (xs:=[.agg ((G1.cs b).drop 1)]) O ⟨O,O,ø⟩ Y9 Rg O O O O) O ?_)))
  obtain⟨s,h⟩:=Ji h
  refine JLh (OW 1121 3 Slot.av (a++[b.Slot])) (Yb (f:=Slot.av) (xs:=a) (ys:=[b.Slot]) O O O O Y9 J9b s (fun _=>O) (.inl O) O) O (JLm (OW 1121 3 Slot.av (a++[b.Slot])) O (G5 (p (G2 (JLh (I64 ((c+1:Nat):Int)) (Ja (Hp e a0) O O O) O (JLm (I64 ((c+1:Nat):Int)) O (G5 (a2 _ _ (c+1) (a++[b.Slot]) (app1 o h) (by omega) ⟨(.sm O O),⟨⟨_,rfl,.same⟩,ø⟩,rfl⟩))))))))
 ·
  have h:=app1 g (Hu d (Hh hb))
  refine Hr (x (Jr fun t=>(JLm (OW 1121 3 Slot.av a) O (JLm (OW 1121 3 Slot.av a) O (G5 (t (Gs (fin1l (fun r:(List Slot)=>(E9 r:AV)) h))))))))

def H59 (b:Box):Option Int:=
 bif b.High then
 (some 2896)
 else
 (some 2591)
theorem R13 (b:Box) (r:Int) (h:H59 b=some r):Pure En 145 [.agg (Box.cs b)] (·=I64 r):=by
 unfold H59 at h
 refine Gx [.tmp 2] Tryz.func145 O O (Jr fun a=>(JLh (.ptr 1204 0) (Q4 (cs:=(Box.cs b)) 1204 O O O O O) O (JLm (I64 0) O (G5 (a (Gn [(1,Ei b)] [] 1204 rfl rfl rfl ø rfl (by exact⟨.ptr,ø⟩) (Js fun c=>Jr fun d=>(JLh (.dptr ((Box.cs b).drop 3)) (Ga H82 O O O) O (JLh (BL b.High) (Gg Qb O O O) O (G5 (d (JCc O h (fun h hb=>?_) (fun h hb=>?_)))))))))))))
 ·
  refine Jr fun e=>(JLm (I64 2896) O (G5 (e (Gs (fin1 I64 h)))))
 ·
  refine Gm (c (Jr fun f=>(JLm (I64 2591) O (G5 (f (Gs (fin1 I64 h)))))))

def G8c (boxes:List Box) (l:List G1) (column:Int) (half:Int):Option Int:=
 each (fun c i (a:Int) e=>
  jp (fun b=>
   bif ((decide (c.Slot.G3=column))&&((decide (c.Slot.Half=half))||(decide (c.Slot.Half=0)))) then
   (bnd (Ga2 boxes c.Box) fun d=>
    bif d.2 then
    (bnd (H59 d.1) fun f=>
     chk (a+f) fun g=>
     b g)
    else
    (b a))
   else
   (b a)) fun(h:Int)=>
  e h)
 (fun(a:Int)=>
  some a) l 0 0
theorem J21 (boxes:List Box) (l:List G1) (column:Int) (half:Int) (r:Int) (h:G8c boxes l column half=some r):Pure En 117 [E7 boxes,E1 l,I64 column,U8 half] (·=I64 r):=by
 unfold G8c at h
 refine Gx [.tmp 8] Tryz.func117 O O (Jr fun a7=>(JLm (I64 0) O (G5 (a7 (Jr fun a8=>(JLm (I64 0) O (G5 (a8 (Js fun a9=>Jr fun b0=>(JLm (E1 l) O (JLl H3 O O O fun o=>(JLm (I64 0) O (G5 (b0 (Gq ?_)))))))))))))))
 obtain⟨b1,p,q,k,h⟩:=Jc h
 refine Hn (fun b (d:Int)=>each b1 p (List.drop b l) b d=some r) (fun b d=>[(0,E7 boxes),(2,I64 column),(3,U8 half),(9,I64 d),(14,E1 l),(15,Em l.length),(16,Em b)]) (fun b d=>[]) (fun b=>l.length - b) 0 0 h ⟨(.sm O O),ø,rfl⟩ ?_
 clear h
 intro b d g b4 b2
 refine Jr fun s=>(JLh (BL (decide ((b:Int) < (l.length:Int)))) (Jo O O O) O (G5 (s (Js fun t=>Gr O (fun hb=>?_) (fun hb=>?_)))))
 ·
  have i:=Q1 hb
  obtain⟨a,b3,v,w,h⟩:=Ht g i
  replace h:=Zn q h
  refine Gm (t ?_)
  obtain⟨x,m,h⟩:=Rm h
  refine Qi (fun e:Int=>x e=some r) (fun e=>[(0,E7 boxes),(2,I64 column),(3,U8 half),(9,I64 e),(14,E1 l),(15,Em l.length),(16,Em b)]) (fun e=>[]) (fun Kj30 ej30=>?_) ?_
  ·
   refine Gq (Jr fun z=>(JLh (Eh a) (Hb (f:=G1.av) (xs:=l) (y:=a) O O O H3 v O) O (JLh (.agg (G1.cs a)) (Gk Qd O O O) O (JLh (.ptr 1183 0) (Hk 1183 4 Jy O O) O (Ho (u:=.junk) (H7 (u:=.agg (G1.cs a)) (ds:=[I64 a.Box,I64 a.Slot.G3,I64 a.Slot.Tier,U8 a.Slot.Half]) Rk O O O O O O O O) (G5 (z (fzQ [(0,E7 boxes),(2,I64 column),(3,U8 half),(9,I64 d),(11,Eh a),(14,E1 l),(15,Em l.length),(16,Em b)] [] 1183 rfl rfl rfl ø rfl ?_))))))))
   refine Jr fun a0=>(JLh (.dptr ((G1.cs a).drop 1)) (Ga Jn O O O) O (JLh (.dptr ((G1.cs a).drop 1)) (Ga J7 O O O) O (JLh (I64 a.Slot.G3) (Gg Gb O O O) O (JLm (I64 column) O (JLh (BL (decide (a.Slot.G3=column))) (Qk O O O) O (JLm (BL (decide (a.Slot.G3=column))) O (JLo (.dptr ((G1.cs a).drop 1)) [] O .sct ø (fun hc=>Ga Jn O O O) O (JLo (.dptr [U8 a.Slot.Half]) [26] O .sct ⟨Ua,ø⟩ (fun hc=>Ga Qu O O O) O (JLo (U8 a.Slot.Half) [27] O .sct ⟨Ua,ø⟩ (fun hc=>Gg Hx O O O) O (JLo (U8 half) [] O .sct ø (fun hc=>G6 O O) O (JLo (BL (decide (a.Slot.Half=half))) [28,29] O .sct ⟨Ua,Ua,ø⟩ (fun hc=>Qk O O O) O (JLo (BL (decide (a.Slot.Half=half))) [30] O .sct ⟨Ua,ø⟩ (fun hc=>G6 O O) O (JLo (.dptr ((G1.cs a).drop 1)) [] O .optf ø (fun hc=>Ga Jn O O O) O ?_)))))))))))))
   refine JLo (.dptr [U8 a.Slot.Half]) [32] O .optf ⟨Ua,ø⟩ (fun hc=>Ga Qu O O O) O (JLo (U8 a.Slot.Half) [33] O .optf ⟨Ua,ø⟩ (fun hc=>Gg Hx O O O) O (JLo (BL (decide (a.Slot.Half=0))) [34] O .optf ⟨Ua,ø⟩ (fun hc=>Qk O O O) O (Gj (u:=BL ((decide (a.Slot.Half=half))||(decide (a.Slot.Half=0)))) [(31,BL (decide (a.Slot.Half=half))),(35,_)] O O O .sct ⟨.all id,.part,ø⟩ (fun hc=>G94 O O O O) ?_)))
   refine JLh (BL ((decide (a.Slot.G3=column))&&((decide (a.Slot.Half=half))||(decide (a.Slot.Half=0))))) (Y4 O O O O) O (G5 (a0 (JCc O h (fun h hb=>?_) (fun h hb=>?_))))
   ·
    refine Jr fun a1=>(JLm (E7 boxes) O (JLh (Eh a) (Ga J6 O O O) O (JLh (I64 a.Box) (Gg Gb O O O) O ?_)))
    obtain⟨c,a2,h⟩:=Ge h
    refine JLh (.tup [.agg (Box.cs c.1),BL c.2]) (Gu O (Hd3 boxes a.Box c a2) Ja1 ⟨O,O,O,O,ø⟩) O (JLm (.tup [.agg (Box.cs c.1),BL c.2]) O (JLh (.agg (Box.cs c.1)) (Gz O O O) O (JLh (BL c.2) (Gz O O O) O (JLh (.ptr 1184 0) (Hk 1184 9 Qx O O) O (Ho (u:=.junk) (H7 (u:=.agg (Box.cs c.1)) (ds:=(Box.cs c.1)) Rh O O O O O O O O) (JLm (BL c.2) O (G5 (a1 ?_))))))))
    refine fzQ [(0,E7 boxes),(2,I64 column),(3,U8 half),(9,I64 d),(12,Ei c.1),(13,BL c.2),(14,E1 l),(15,Em l.length),(16,Em b)] [] 1184 rfl rfl rfl ø rfl (Jr fun a3=>(JLm (BL c.2) O (G5 (a3 (JCc O h (fun h hb=>?_) (fun h hb=>?_))))))
    ·
     refine G2 (JLm (I64 d) O (JLh (.agg (Box.cs c.1)) (Gk R4 O O O) O ?_))
     obtain⟨n,a4,h⟩:=Ge h
     refine JLh (I64 n) (Gu O (R13 c.1 n a4) Ra0 ⟨O,O,ø⟩) O ?_
     obtain⟨j,a5,h⟩:=J0 h
     refine JLh (I64 j) (Ja a5 O O O) O (JLm (I64 j) O (G5 (ej30 _ _ j h ⟨(.sm O O),ø,rfl⟩)))
    ·
     refine Gm (ej30 _ _ d h ⟨(.sm O O),ø,rfl⟩)
   ·
    refine Gm (ej30 _ _ d h ⟨(.sm O O),ø,rfl⟩)
  ·intro e h
   replace h:=app1 m h
   refine G2 (JLh (I64 ((b+1:Nat):Int)) (Ja (Hp i o) O O O) O (JLm (I64 ((b+1:Nat):Int)) O (G5 (b2 _ _ (b+1) e (app1 w h) (by omega) ⟨(.sm O O),ø,rfl⟩))))
 ·
  have h:=app1 k (Hu g (Hh hb))
  refine Hr (a9 (Jr fun a6=>(JLm (I64 d) O (JLm (I64 d) O (G5 (a6 (Gs (fin1 I64 h))))))))

def H5a (s:Gi) (boxes:List Box) (l:List G1) (column:Int):Option Bool:=
 Qw s.Columns column fun a=>
 bnd (bif (!(decide (a.Height≤0))) then G8c boxes l column 1 else some default) fun b=>
 bnd (bif ((!(decide (a.Height≤0)))&&(decide (b≤a.Height))) then G8c boxes l column 2 else some default) fun c=>
 some ((decide (a.Height≤0))||((decide (b≤a.Height))&&(decide (c≤a.Height))))
theorem R14 (s:Gi) (boxes:List Box) (l:List G1) (column:Int) (r:Bool) (h:H5a s boxes l column=some r):Pure En 66 [.agg (Gi.cs s),E7 boxes,E1 l,I64 column] (·=BL r):=by
 unfold H5a at h
 refine Gx [.tmp 8] Tryz.func66 O O (Jr fun d=>(JLh (.ptr 1131 0) (Q4 (cs:=(Gi.cs s)) 1131 O O O O O) O (JLm (BL false) O (G5 (d (fzQ [(1,E7 boxes),(2,E1 l),(3,I64 column),(4,Ee s)] [] 1131 rfl rfl rfl ø rfl (Jr fun e=>(JLh (Ee s) (Ga J8 O O O) O (JLh (E3 s.Columns) (Gg Jp O O O) O (JLm (I64 column) O ?_))))))))))
 obtain⟨n,a,g,i,h⟩:=Yc h
 refine JLh (Ej a) (Hb (f:=G3.av) (xs:=s.Columns) (y:=a) O O O Hy i g) O (JLh (.dptr ((G3.cs a).drop 4)) (Ga Hc8 O O O) O (JLh (I64 a.Height) (Gg Gb O O O) O (JLm (I64 a.Height) O (G5 (e (Jr fun j=>(JLm (I64 a.Height) O (JLh (BL (decide (a.Height≤0))) (Hc5 O O O) O (JLm (BL (decide (a.Height≤0))) O (JLo (E7 boxes) [] O .scf ø (fun hc=>G6 O O) O (JLo (E1 l) [] O .scf ø (fun hc=>G6 O O) O (JLo (I64 column) [] O .scf ø (fun hc=>G6 O O) O ?_))))))))))))
 obtain⟨b,k,h⟩:=Ge h
 refine JLo (I64 b) [19,20,21] O .scf ⟨Ua,Ua,Ua,ø⟩ (fun hc=>Gu (args:=[E7 boxes,E1 l,I64 column,U8 1]) O (J21 boxes l column 1 b (H4 hc k)) Q38 ⟨O,O,O,O,O,O,O,O,ø⟩) O (JLo (I64 a.Height) [] O .scf ø (fun hc=>G6 O O) O (JLo (BL (decide (b≤a.Height))) [22,23] O .scf ⟨Ua,Ua,ø⟩ (fun hc=>Hc5 O O O) O (JLo (BL (decide (b≤a.Height))) [24] O .scf ⟨Ua,ø⟩ (fun hc=>G6 O O) O (JLo (E7 boxes) [] O .optt ø (fun hc=>G6 O O) O (JLo (E1 l) [] O .optt ø (fun hc=>G6 O O) O (JLo (I64 column) [] O .optt ø (fun hc=>G6 O O) O ?_))))))
 obtain⟨c,m,h⟩:=Ge h
 refine JLo (I64 c) [26,27,28] O .optt ⟨Ua,Ua,Ua,ø⟩ (fun hc=>Gu (args:=[E7 boxes,E1 l,I64 column,U8 2]) O (J21 boxes l column 2 c (H4 hc m)) Q38 ⟨O,O,O,O,O,O,O,O,ø⟩) O (JLo (I64 a.Height) [] O .optt ø (fun hc=>G6 O O) O (JLo (BL (decide (c≤a.Height))) [29,30] O .optt ⟨Ua,Ua,ø⟩ (fun hc=>Hc5 O O O) O (Gj (u:=BL ((decide (b≤a.Height))&&(decide (c≤a.Height)))) [(25,BL (decide (b≤a.Height))),(31,_)] O O O .scf ⟨.all id,.part,ø⟩ (fun hc=>Y4 O O O O) ?_)))
 refine JLh (BL ((decide (a.Height≤0))||((decide (b≤a.Height))&&(decide (c≤a.Height))))) (G94 O O O O) O (JLm (BL ((decide (a.Height≤0))||((decide (b≤a.Height))&&(decide (c≤a.Height))))) O (G5 (j (Gs (fin1 BL h)))))

def Yu (s:Gi) (boxes:List Box) (l:List G1):Option Bool:=
 bnd (Gbc s) fun v=>
 bif (!v) then
 (some false)
 else
 (bnd (H13 l) fun f=>
  each (fun a b (j:Unit) g=>
   bnd (Ga2 boxes a.Box) fun c=>
   bnd (bif ((!(!c.2))&&(decide (0 < (b:Int)))) then chk ((b:Int) - 1) some else some 0) fun k=>
   bnd (bif ((!(!c.2))&&(decide (0 < (b:Int)))) then Qw l k some else some default) fun d=>
   bnd (bif (!((!c.2)||((decide (0 < (b:Int)))&&(decide (a.Box≤d.Box))))) then G73 s a.Slot c.1.Size else some default) fun e=>
   bnd (bif (!(((!c.2)||((decide (0 < (b:Int)))&&(decide (a.Box≤d.Box))))||(!e))) then G43 a.Slot f else some default) fun m=>
   bif ((((!c.2)||((decide (0 < (b:Int)))&&(decide (a.Box≤d.Box))))||(!e))||(!m)) then
   (some false)
   else
   (bnd (Jd7 (b:Int) f.length) fun n=>
    each (fun o w (p:Unit) h=>
     bnd (Gfe a.Slot o) fun q=>
     bif q then
     (some false)
     else
     (h ()))
    (fun(p:Unit)=>
     g ()) (f.take n) 0 ()))
  (fun(j:Unit)=>
   each (fun x r (t:Unit) i=>
    bnd (H5a s boxes l (r:Int)) fun u=>
    bif (!u) then
    (some false)
    else
    (i ()))
   (fun(t:Unit)=>
    some true) s.Columns 0 ()) l 0 ())
theorem Ga1 (s:Gi) (boxes:List Box) (l:List G1) (r:Bool) (h:Yu s boxes l=some r):Pure En 31 [.agg (Gi.cs s),E7 boxes,E1 l] (·=BL r):=by
 unfold Yu at h
 refine Gx [.tmp 6] Tryz.func31 O O (Jr fun f4=>(JLh (.ptr 1052 0) (Q4 (cs:=(Gi.cs s)) 1052 O O O O O) O (JLm (BL false) O (G5 (f4 (Gn [(1,E7 boxes),(2,E1 l),(3,Ee s)] [] 1052 rfl rfl rfl ø rfl (by exact⟨.conv (.same rfl),.conv (.same rfl),.ptr,ø⟩) (Js fun f5=>Jr fun f6=>(JLh (.agg (Gi.cs s)) (Gk Jd O O O) O ?_))))))))
 obtain⟨r4,f7,h⟩:=Ge h
 refine JLh (BL r4) (Gu O (Qed.down s r4 f7) Y1b ⟨O,O,ø⟩) O (JLh (BL (!r4)) (Y8 (b:=r4) O O) O (G5 (f6 (JCc O h (fun h hb=>?_) (fun h hb=>?_)))))
 ·
  refine Jr fun f8=>(JLm (BL false) O (G5 (f8 (Gs (fin1 BL h)))))
 ·
  refine Gm (f5 (Jr fun f9=>(JLm (E1 l) O ?_)))
  obtain⟨g,g0,h⟩:=Ge h
  refine JLh (E9 g) (Gu O (Qef l g g0) Y1a ⟨O,O,ø⟩) O (JLm (E9 g) O (G5 (f9 (Js fun g1=>Jr fun g2=>(JLm (E1 l) O (JLl H3 O O O fun a8=>(JLm (I64 0) O (G5 (g2 (Gq ?_))))))))))
  obtain⟨g3,a9,b0,a4,h⟩:=Jc h
  refine Hn (fun c (p:Unit)=>each g3 a9 (List.drop c l) c p=some r) (fun c p=>[(1,E7 boxes),(2,E1 l),(3,Ee s),(7,E9 g),(20,E1 l),(21,Em l.length),(22,Em c)]) (fun c p=>[]) (fun c=>l.length - c) 0 () h ⟨(.sm O O),ø,rfl⟩ ?_
  clear h
  intro c p w h4 g4
  refine Jr fun b1=>(JLh (BL (decide ((c:Int) < (l.length:Int)))) (Jo O O O) O (G5 (b1 (Js fun b2=>Gr O (fun hb=>?_) (fun hb=>?_)))))
  ·
   have x:=Q1 hb
   obtain⟨a,h0,b3,b4,h⟩:=Ht w x
   replace h:=Zn b0 h
   refine Gm (b2 (Js fun b5=>Gq (Jr fun b6=>(JLm (Em c) O (JLh (Eh a) (Hb (f:=G1.av) (xs:=l) (y:=a) O O O H3 b3 O) O (JLh (.agg (G1.cs a)) (Gk Qd O O O) O (JLh (.ptr 1053 0) (Hk 1053 4 Jy O O) O (JLm (Em c) O (Ho (u:=.junk) (H7 (u:=.agg (G1.cs a)) (ds:=[I64 a.Box,I64 a.Slot.G3,I64 a.Slot.Tier,U8 a.Slot.Half]) Rk O O O O O O O O) (G5 (b6 (fzQ [(1,E7 boxes),(2,E1 l),(3,Ee s),(7,E9 g),(8,Em c),(9,Eh a),(20,E1 l),(21,Em l.length),(22,Em c)] [] 1053 rfl rfl rfl ø rfl ?_))))))))))))
   refine Jr fun b7=>(JLm (E7 boxes) O (JLh (Eh a) (Ga J6 O O O) O (JLh (I64 a.Box) (Gg Gb O O O) O ?_)))
   obtain⟨d,b8,h⟩:=Ge h
   refine JLh (.tup [.agg (Box.cs d.1),BL d.2]) (Gu O (Hd3 boxes a.Box d b8) Ja1 ⟨O,O,O,O,ø⟩) O (JLm (.tup [.agg (Box.cs d.1),BL d.2]) O (JLh (.agg (Box.cs d.1)) (Gz O O O) O (JLh (BL d.2) (Gz O O O) O (JLh (.ptr 1054 0) (Hk 1054 9 Qx O O) O (Ho (u:=.junk) (H7 (u:=.agg (Box.cs d.1)) (ds:=(Box.cs d.1)) Rh O O O O O O O O) (JLm (BL d.2) O (G5 (b7 ?_))))))))
   refine fzQ [(1,E7 boxes),(2,E1 l),(3,Ee s),(7,E9 g),(8,Em c),(9,Eh a),(10,Ei d.1),(11,BL d.2),(20,E1 l),(21,Em l.length),(22,Em c)] [] 1054 rfl rfl rfl ø rfl (Js fun b9=>Js fun c0=>?_)
   obtain⟨g5,c1,h⟩:=Ge h
   obtain⟨j,c2,h⟩:=Ge h
   obtain⟨n,c3,h⟩:=Ge h
   obtain⟨o,c4,h⟩:=Ge h
   refine JC_d0 J9 (by kernel_rfl) (Dq (BL d.2) (G6 O O) O (Dq (BL (!d.2)) (Y8 (b:=d.2) O O) O (Dq (BL (!d.2)) (G6 O O) O (Do (Em c) [] O .scf ø (fun hc=>G6 O O) O (Do (BL (decide (0 < (c:Int)))) [37] O .scf ⟨Ua,ø⟩ (fun hc=>H01 O O O) O (Do (BL (decide (0 < (c:Int)))) [38] O .scf ⟨Ua,ø⟩ (fun hc=>G6 O O) O (Do (Eh a) [] O .optt ø (fun hc=>Ga J6 O O O) O (Do (I64 a.Box) [40] O .optt ⟨Ua,ø⟩ (fun hc=>Gg Gb O O O) O (Do (E1 l) [] O .optt ø (fun hc=>G6 O O) O (Do (Em c) [] O .optt ø (fun hc=>G6 O O) O (Do (I64 g5) [43] O .optt ⟨Ua,ø⟩ (fun hc=>G84 (He6 (H4 hc c1)) O O O) O (Do (Eh j) [42,44] O .optt ⟨Ua,Ua,ø⟩ (fun hc=>(match Gba (H4 hc c2) with | ⟨_,hm_,hy_⟩=>Hb (f:=G1.av) (xs:=l) (y:=j) O O O H3 hy_ hm_)) O (Do (Eh j) [45] O .optt ⟨Ua,ø⟩ (fun hc=>Ga J6 O O O) O ?_)))))))))))))
   refine Do (I64 j.Box) [46] O .optt ⟨Ua,ø⟩ (fun hc=>Gg Gb O O O) O (Do (BL (decide (a.Box≤j.Box))) [41,47] O .optt ⟨Ua,Ua,ø⟩ (fun hc=>Hc5 O O O) O (Dg (.opt (!(!d.2)) (BL ((decide (0 < (c:Int)))&&(decide (a.Box≤j.Box))))) (Ha [(39,BL (decide (0 < (c:Int)))),(48,_)] O O O .scf ⟨.all id,.part,ø⟩ (fun hc=>Y4 O O O O) O) O (Dq (BL ((!d.2)||((decide (0 < (c:Int)))&&(decide (a.Box≤j.Box))))) (G94 O O O O) O (Dq (BL ((!d.2)||((decide (0 < (c:Int)))&&(decide (a.Box≤j.Box))))) (G6 O O) O (Do (.agg (Gi.cs s)) [] O .scf ø (fun hc=>Gk Jd O O O) O (Do (.dptr ((G1.cs a).drop 1)) [] O .scf ø (fun hc=>Ga Jn O O O) O (Do (.agg ((G1.cs a).drop 1)) [53] O .scf ⟨Ua,ø⟩ (fun hc=>Gk J2 O O O) O (Do (.dptr ((Box.cs d.1).drop 2)) [] O .scf ø (fun hc=>Ga G28 O O O) O (Do (U8 d.1.Size) [55] O .scf ⟨Ua,ø⟩ (fun hc=>Gg Hx O O O) O (Do (BL n) [52,54,56] O .scf ⟨Ua,Ua,Ua,ø⟩ (fun hc=>Gu (args:=[.agg (Gi.cs s),.agg ((G1.cs a).drop 1),U8 d.1.Size]) O (J53 s a.Slot d.1.Size n (H4 hc c3)) Qa1 ⟨O,O,O,O,O,O,ø⟩) O (Do (BL (!n)) [57] O .scf ⟨Ua,ø⟩ (fun hc=>Y8 (b:=n) O O) O (Dq (BL (((!d.2)||((decide (0 < (c:Int)))&&(decide (a.Box≤j.Box))))||(!n))) (G94 O O O O) O (Dq (BL (((!d.2)||((decide (0 < (c:Int)))&&(decide (a.Box≤j.Box))))||(!n))) (G6 O O) O ?_)))))))))))))
   refine Do (.dptr ((G1.cs a).drop 1)) [] O .scf ø (fun hc=>Ga Jn O O O) O (Do (.agg ((G1.cs a).drop 1)) [61] O .scf ⟨Ua,ø⟩ (fun hc=>Gk J2 O O O) O (Do (E9 g) [] O .scf ø (fun hc=>G6 O O) O (Do (BL o) [62,63] O .scf ⟨Ua,Ua,ø⟩ (fun hc=>Gu (args:=[.agg ((G1.cs a).drop 1),E9 g]) O (J92 a.Slot g o (H4 hc c4)) Qa0 ⟨O,O,O,O,ø⟩) O (Do (BL (!o)) [64] O .scf ⟨Ua,ø⟩ (fun hc=>Y8 (b:=o) O O) O (Dq (BL ((((!d.2)||((decide (0 < (c:Int)))&&(decide (a.Box≤j.Box))))||(!n))||(!o))) (G94 O O O O) O (Dnil (c0 (JCc O h (fun h hb=>?_) (fun h hb=>?_)))))))))
   ·
    refine Jr fun c5=>(JLm (BL false) O (G5 (c5 (Gs (fin1 BL h)))))
   ·
    refine Gm (b9 (Jr fun c6=>(JLm (E9 g) O (JLm (Em c) O ?_))))
    obtain⟨m,c7,h⟩:=Ge h
    refine JLh (E9 (g.take m)) (Jbc (f:=Slot.av) (xs:=g) O O O Y9 (Hdc c7)) O (JLl Y9 O O O fun c8=>(JLm (I64 0) O (G5 (c6 (Gq ?_)))))
    obtain⟨g6,c9,d0,a5,h⟩:=Jc h
    refine Hn (fun i (q:Unit)=>each g6 c9 (List.drop i (g.take m)) i q=some r) (fun i q=>[(1,E7 boxes),(2,E1 l),(3,Ee s),(7,E9 g),(9,Eh a),(20,E1 l),(21,Em l.length),(22,Em c),(69,E9 (g.take m)),(70,I64 ((g.take m).length:Int)),(71,Em i)]) (fun i q=>[]) (fun i=>(g.take m).length - i) 0 () h ⟨(.sm O O),ø,rfl⟩ ?_
    clear h
    intro i q z h5 g7
    refine Jr fun d1=>(JLh (BL (decide ((i:Int) < ((g.take m).length:Int)))) (Jo O O O) O (G5 (d1 (Js fun d2=>Gr O (fun hb=>?_) (fun hb=>?_)))))
    ·
     have a0:=Q1 hb
     obtain⟨k,h1,d3,d4,h⟩:=Ht z a0
     replace h:=Zn d0 h
     refine Gm (d2 (Js fun d5=>Gq (Jr fun d6=>(JLh (Ek k) (Hb (f:=Slot.av) (xs:=(g.take m)) (y:=k) O O O Y9 d3 O) O (JLh (.agg (Slot.cs k)) (Gk J2 O O O) O (JLh (.ptr 1055 0) (Hk 1055 3 Rg O O) O (Ho (u:=.junk) (H7 (u:=.agg (Slot.cs k)) (ds:=[I64 k.G3,I64 k.Tier,U8 k.Half]) Yd O O O O O O O O) (G5 (d6 (fzQ [(1,E7 boxes),(2,E1 l),(3,Ee s),(7,E9 g),(9,Eh a),(13,Ek k),(20,E1 l),(21,Em l.length),(22,Em c),(69,E9 (g.take m)),(70,I64 ((g.take m).length:Int)),(71,Em i)] [] 1055 rfl rfl rfl ø rfl ?_))))))))))
     refine Jr fun d7=>(JLh (.dptr ((G1.cs a).drop 1)) (Ga Jn O O O) O (JLh (.agg ((G1.cs a).drop 1)) (Gk J2 O O O) O (JLh (.agg (Slot.cs k)) (Gk J2 O O O) O ?_)))
     obtain⟨a7,d8,h⟩:=Ge h
     refine JLh (BL a7) (Gu O (J91 a.Slot k a7 d8) Q9f ⟨O,O,O,O,ø⟩) O (G5 (d7 (JCc O h (fun h hb=>?_) (fun h hb=>?_))))
     ·
      refine Jr fun d9=>(JLm (BL false) O (G5 (d9 (Gs (fin1 BL h)))))
     ·
      refine Gm (d5 (G2 (JLh (I64 ((i+1:Nat):Int)) (Ja (Hp a0 c8) O O O) O (JLm (I64 ((i+1:Nat):Int)) O (G5 (g7 _ _ (i+1) () (app1 d4 h) (by omega) ⟨(.sm O O),ø,rfl⟩))))))
    ·
     have h:=app1 a5 (Hu z (Hh hb))
     refine Hr (b5 (G2 (JLh (I64 ((c+1:Nat):Int)) (Ja (Hp x a8) O O O) O (JLm (I64 ((c+1:Nat):Int)) O (G5 (g4 _ _ (c+1) () (app1 b4 h) (by omega) ⟨(.sm O O),ø,rfl⟩))))))
  ·
   have h:=app1 a4 (Hu w (Hh hb))
   refine Hr (g1 (Js fun e0=>Jr fun e1=>(JLh (Ee s) (Ga J8 O O O) O (JLh (E3 s.Columns) (Gg Jp O O O) O (JLl Hy O O O fun e2=>(JLm (I64 0) O (G5 (e1 (Gq ?_)))))))))
   obtain⟨g8,e3,e4,a6,h⟩:=Jc h
   refine Hn (fun e (t:Unit)=>each g8 e3 (List.drop e s.Columns) e t=some r) (fun e t=>[(1,E7 boxes),(2,E1 l),(3,Ee s),(83,Em s.Columns.length),(84,Em e)]) (fun e t=>[]) (fun e=>s.Columns.length - e) 0 () h ⟨(.sm O O),ø,rfl⟩ ?_
   clear h
   intro e t a1 h6 g9
   refine Jr fun e5=>(JLh (BL (decide ((e:Int) < (s.Columns.length:Int)))) (Jo O O O) O (G5 (e5 (Js fun e6=>Gr O (fun hb=>?_) (fun hb=>?_)))))
   ·
    have a2:=Q1 hb
    obtain⟨h7,h2,h3,e7,h⟩:=Ht a1 a2
    replace h:=Zn e4 h
    refine Gm (e6 (Js fun e8=>Gq (Jr fun e9=>(JLm (Em e) O (JLm (Em e) O (G5 (e9 (Jr fun f0=>(JLh (.agg (Gi.cs s)) (Gk Jd O O O) O (JLm (E7 boxes) O (JLm (E1 l) O (JLm (Em e) O ?_))))))))))))
    obtain⟨v,f1,h⟩:=Ge h
    refine JLh (BL v) (Gu O (R14 s boxes l (e:Int) v f1) Y19 ⟨O,O,O,O,O,O,O,O,ø⟩) O (JLh (BL (!v)) (Y8 (b:=v) O O) O (G5 (f0 (JCc O h (fun h hb=>?_) (fun h hb=>?_)))))
    ·
     refine Jr fun f2=>(JLm (BL false) O (G5 (f2 (Gs (fin1 BL h)))))
    ·
     refine Gm (e8 (G2 (JLh (I64 ((e+1:Nat):Int)) (Ja (Hp a2 e2) O O O) O (JLm (I64 ((e+1:Nat):Int)) O (G5 (g9 _ _ (e+1) () (app1 e7 h) (by omega) ⟨(.sm O O),ø,rfl⟩))))))
   ·
    have h:=app1 a6 (Hu a1 (Hh hb))
    refine Hr (e0 (Jr fun f3=>(JLm (BL true) O (G5 (f3 (Gs (fin1 BL h)))))))

def Rw (s:List G9):Option (List G9):=
 Y4e s fun a=>
 bif a then
 (some [])
 else
 (need (decide ((([]:List G9).length+s.length)*32≤140737488355328∧([]:List G9).length+s.length≤maxLen)) <|
  some (([]:List G9)++s))
def G8e (x:G1) (a:Int):Option Bool:=
 some (decide (x.Box=a))
theorem Q6a (x:G1) (a:Int) (r:Bool) (h:G8e x a=some r):Pure En 37 [.agg (G1.cs x),.dptr [I64 a]] (·=BL r):=by
 unfold G8e at h
 refine Gx [.tmp 3] Tryz.func37 O O (Jr fun b=>(JLh (.ptr 1071 0) (Q4 (cs:=[I64 x.Box,I64 x.Slot.G3,I64 x.Slot.Tier,U8 x.Slot.Half]) 1071 O O O O O) O (JLm (BL false) O (G5 (b (Gn [(1,.dptr [I64 a]),(2,Eh x)] [] 1071 rfl rfl rfl ø rfl (by exact⟨.conv (.same rfl),.ptr,ø⟩) (Jr fun c=>(JLh (Eh x) (Ga J6 O O O) O (JLh (I64 x.Box) (Gg Gb O O O) O (JLh (I64 a) (Gg Gb O O O) O (JLh (BL (decide (x.Box=a))) (Qk O O O) O (JLm (BL (decide (x.Box=a))) O (G5 (c (Gs (fin1 BL h))))))))))))))))

def Qa (s:List G1) (f:G1→Option Bool):Option Int:=
 each (fun b c (d:Unit) a=>
  bnd (f b) fun e=>
  bif e then
  (some (c:Int))
  else
  (a ()))
 (fun(d:Unit)=>
  some (-1)) s 0 ()
theorem G5a (s:List G1) (f:G1→Option Bool) (f_f:FuncId) (f_c:List AV) (f_B:H0 En f_f=true) (f_d:Q9 (fun _=>false) f_c=true) (f_w:∀ a0 q,f a0=some q→Pure En f_f ([.agg (G1.cs a0)]++f_c) (·=BL q)) (r:Int) (h:Qa s f=some r):Pure En 44 [E1 s,.fn f_f f_c] (·=I64 r):=by
 unfold Qa at h
 refine Gx [.tmp 4] Tryz.func44 O O (Jr fun x=>(JLm (I64 0) O (G5 (x (Js fun z=>Jr fun a1=>(JLm (E1 s) O (JLl H3 O O O fun a2=>(JLm (I64 0) O (G5 (a1 (Gq ?_)))))))))))
 obtain⟨a3,i,j,g,h⟩:=Jc h
 refine Hn (fun a (c:Unit)=>each a3 i (List.drop a s) a c=some r) (fun a c=>[(0,E1 s),(1,.fn f_f f_c),(7,Em s.length),(8,Em a)]) (fun a c=>[]) (fun a=>s.length - a) 0 () h ⟨⟨.same O,.same (Hi _ _ f_d),.same O,.same O,ø⟩,ø,O⟩ ?_
 clear h
 intro a c d a7 a4
 refine Jr fun k=>(JLh (BL (decide ((a:Int) < (s.length:Int)))) (Jo O O O) O (G5 (k (Js fun l=>Gr O (fun hb=>?_) (fun hb=>?_)))))
 ·
  have e:=Q1 hb
  obtain⟨b,a6,m,n,h⟩:=Ht d e
  replace h:=Zn j h
  refine Gm (l (Js fun o=>Gq (Jr fun p=>(JLm (Em a) O (JLm (Em a) O (G5 (p (Jr fun t=>(JLm (.fn f_f f_c) O (JLm (E1 s) O (JLm (Em a) O (JLh (Eh b) (Hb (f:=G1.av) (xs:=s) (y:=b) O O O H3 m O) O (JLh (.agg (G1.cs b)) (Gk Qd O O O) O ?_)))))))))))))
  obtain⟨a5,u,h⟩:=Ge h
  refine JLh (BL a5) (G1b (args:=[.agg (G1.cs b)]) (caps:=f_c) O O (f_w b _ u) f_B ⟨O,O,ø⟩ f_d) O (G5 (t (JCc O h (fun h hb=>?_) (fun h hb=>?_))))
  ·
   refine Jr fun v=>(JLm (Em a) O (JLm (Em a) O (G5 (v (Gs (fin1 I64 h))))))
  ·
   refine Gm (o (G2 (JLh (I64 ((a+1:Nat):Int)) (Ja (Hp e a2) O O O) O (JLm (I64 ((a+1:Nat):Int)) O (G5 (a4 _ _ (a+1) () (app1 n h) (by omega) ⟨⟨.same rfl,.same (Hi _ _ f_d),.same rfl,.same rfl,ø⟩,ø,rfl⟩))))))
 ·
  have h:=app1 g (Hu d (Hh hb))
  refine Hr (z (Jr fun w=>(JLm (I64 (-1)) O (G5 (w (Gs (fin1 I64 h)))))))

def Hw (s:List G1) (f:G1→Option Bool):Option Bool:=
 bnd (Qa s f) fun a=>
 some (decide (0≤a))
theorem Z8 (s:List G1) (f:G1→Option Bool) (f_f:FuncId) (f_c:List AV) (f_B:H0 En f_f=true) (f_d:Q9 (fun _=>false) f_c=true) (f_w:∀ a0 q,f a0=some q→Pure En f_f ([.agg (G1.cs a0)]++f_c) (·=BL q)) (r:Bool) (h:Hw s f=some r):Pure En 14 [E1 s,.fn f_f f_c] (·=BL r):=by
 unfold Hw at h
 refine Gx [.tmp 4] Tryz.func14 O O (Jr fun b=>(JLm (BL false) O (G5 (b (Jr fun c=>(JLm (E1 s) O (JLm (.fn f_f f_c) O ?_)))))))
 obtain⟨a,d,h⟩:=Ge h
 refine JLh (I64 a) (Gu O (G5a s f f_f f_c f_B f_d f_w a d) Qa8 ⟨O,O,O,f_d,ø⟩) O (JLh (BL (decide (0≤a))) (H24 O O O) O (JLm (BL (decide (0≤a))) O (G5 (c (Gs (fin1 BL h))))))


theorem Haa (s:List G9) (r:(List G9)) (h:Rw s=some r):J5 En 34 [E8 s] [] (fun av L'=>∃ p:Nat,av=.vec 1067 p 2 r.length∧L'=[(1067,.vec 100 2 p (r.map G9.av))]):=by
 unfold Rw at h
 refine Jk [] [.tmp 2] Tryz.func34 O O (G18 O) (Jr fun a=>(JLh (.vec 1067 (([]:List G9).length) 2 (([]:List G9).length)) (G93 1067 100 2 O O O) O (G5 (a (Js fun b=>Jr fun c=>(JLm (E8 s) O (Yf O O O (J7b Qj O O) ?_)))))))
 rintro u_ L_ ⟨j,d,rfl,rfl⟩
 replace h:=Hdb h j d
 refine G5 (c (JCc O h (fun h hb=>?_) (fun h hb=>?_)))
 ·
  refine Jr fun e=>(JLh (.vec 1067 ((([]:List G9).length)+1) 2 (([]:List G9).length)) (R84 1067 100 2 O O O) O (G5 (e (G52 2 O O (fun hn_=>Gs ?_)))))
  obtain rfl:=M7 h
  exact⟨[.vec 1067 ((([]:List G9).length)+1) 2 (([]:List G9).length)],[(1067,.vec 100 2 ((([]:List G9).length)+1) (([]:List G9).map G9.av))],⟨⟨_,O,.vec⟩,ø⟩,O,⟨⟨_,O,.conv (.same O)⟩,ø⟩,((([]:List G9).length)+1),congrArg (fun n_:Nat=>(.vec 1067 ((([]:List G9).length)+1) 2 n_:AV)) (hn_.trans O),O⟩
 ·
  refine Gm (b (Jr fun g=>(JLh (.vec 1067 ((([]:List G9).length)+1) 2 (([]:List G9).length)) (R85 1067 100 2 O O Qj) O (JLm (E8 s) O ?_))))
  obtain⟨i,h⟩:=Ji h
  refine JLh (.vec 1067 (((([]:List G9).length)+1)+((([]:List G9)++s).length+1)) 2 ((([]:List G9)++s).length)) (G4f (f:=G9.av) (xs:=([]:List G9)) (ys:=s) (ver:=((([]:List G9).length)+1)) (ver1:=(((([]:List G9).length)+1)+((([]:List G9)++s).length+1))) rfl rfl rfl rfl Qj Hb2 i (fun _=>rfl) (.inl rfl) (by simp)) O (JLm (.vec 1067 (((([]:List G9).length)+1)+((([]:List G9)++s).length+1)) 2 ((([]:List G9)++s).length)) O (G5 (g (G52 2 O O (fun hn_=>Gs ?_)))))
  obtain rfl:=M7 h
  exact⟨[.vec 1067 (((([]:List G9).length)+1)+((([]:List G9)++s).length+1)) 2 ((([]:List G9)++s).length)],[(1067,.vec 100 2 (((([]:List G9).length)+1)+((([]:List G9)++s).length+1)) ((([]:List G9)++s).map G9.av))],⟨⟨_,O,.vec⟩,ø⟩,O,⟨⟨_,O,.conv (.same O)⟩,ø⟩,(((([]:List G9).length)+1)+((([]:List G9)++s).length+1)),congrArg (fun n_:Nat=>(.vec 1067 (((([]:List G9).length)+1)+((([]:List G9)++s).length+1)) 2 n_:AV)) (hn_.trans (Mm _)),O⟩

def Ga7 (s:Gi) (boxes:List Box) (state:List G1) (ashore:List Int):Option (Gc×Int):=
 bnd (Yu s boxes state) fun u=>
 bif (!u) then
 (none)
 else
 (bnd (Rf s.Columns) fun v=>
  bnd (Rw s.Covers) fun o=>
  each (fun w f (e:(List G9)) k=>
   Qw s.Covers (f:Int) fun p=>
   bnd (Yw p.Rows) fun q=>
   Qw e (f:Int) fun r=>
   k (e.set (f:Int).toNat (G9.mk r.Bay q)))
  (fun(e:(List G9))=>
   each (fun j x (g:(Gv Slot Box)) l=>
    bnd (Gee boxes j.Box) fun t=>
    l (Gv.put g j.Slot t.1))
   (fun(g:(Gv Slot Box))=>
    each (fun a b (d:(Gv Int Box)) i=>
     bnd (Gee boxes a) fun c=>
     bnd (bif ((!(!c.2))&&(decide (0 < (b:Int)))) then chk ((b:Int) - 1) some else some 0) fun m=>
     bnd (bif ((!(!c.2))&&(decide (0 < (b:Int)))) then Qw ashore m some else some default) fun h=>
     bnd (bif (!((!c.2)||((decide (0 < (b:Int)))&&(decide (a≤h))))) then Hw state (fun z0=>G8e z0 a) else some default) fun n=>
     bif (((!c.2)||((decide (0 < (b:Int)))&&(decide (a≤h))))||n) then
     (none)
     else
     (i (Gv.put d a c.1)))
    (fun(d:(Gv Int Box))=>
     some ((Gc.mk (Gi.mk v e (Light.mk 0 0 0 0) [] [] [] (G8.mk 0 0 0 0)) g d (Gv.empty:Gv Int Int) 0),0)) ashore 0 (Gv.empty:Gv Int Box)) state 0 (Gv.empty:Gv Slot Box)) o 0 o)
abbrev Ka:List AV:=[E3 ([]:List G3),E8 ([]:List G9),I64 0,I64 0,I64 0,I64 0,E4 ([]:List Row),E5 ([]:List Frame),E6 ([]:List H2),I64 0,I64 0,I64 0,I64 0,.mp 1208,.mp 1209,.mp 1210,I64 0]
theorem Hd5 (s:Gi) (boxes:List Box) (state:List G1) (ashore:List Int) (r:Gc×Int) (h:Ga7 s boxes state ashore=some r):J5 En 10 [.agg (Gi.cs s),E7 boxes,E1 state,E2 ashore] [] (fun av L'=>av=.tup [.ptr 1207 0,I64 r.2]∧L'=[(1207,.box 94 [E3 r.1.ship.Columns,E8 r.1.ship.Covers,I64 r.1.ship.Light.Kilos,I64 r.1.ship.Light.X,I64 r.1.ship.Light.Y,I64 r.1.ship.Light.Z,E4 r.1.ship.Rows,E5 r.1.ship.Frames,E6 r.1.ship.Tanks,I64 r.1.ship.G8.Tolerance,I64 r.1.ship.G8.Trim,I64 r.1.ship.G8.List_,I64 r.1.ship.G8.Stability,.mp 1208,.mp 1209,.mp 1210,I64 r.1.lifts]),(1208,TP 90 Slot.kv Box.av r.1.on),(1209,TP 91 Ks Box.av r.1.quay),(1210,TP 92 Ks I64 r.1.open_)]):=by
 unfold Ga7 at h
 refine Jk [] [.tmp 8,.tmp 9] Tryz.func10 O O (G18 O) (Jr fun g4=>(JLh (.ptr 1015 0) (Q4 (cs:=(Gi.cs s)) 1015 O O O O O) O (JLm (.sc (.pointer none)) O (JLm (I64 0) O (G5 (g4 (fzQ [(1,E7 boxes),(2,E1 state),(3,E2 ashore),(4,Ee s)] [] 1015 rfl rfl rfl ø rfl (Js fun g5=>Jr fun g6=>(JLh (.agg (Gi.cs s)) (Gk Jd O O O) O (JLm (E7 boxes) O (JLm (E1 state) O ?_)))))))))))
 obtain⟨r4,g7,h⟩:=Ge h
 refine JLh (BL r4) (Gu O (Ga1 s boxes state r4 g7) H85 ⟨O,O,O,O,O,O,ø⟩) O (JLh (BL (!r4)) (Y8 (b:=r4) O O) O (G5 (g6 (JCc O h (fun h hb=>?_) (fun h hb=>?_)))))
 ·
  refine Jr fun g8=>(JLm (.sc (.pointer none)) O (JLm (I64 2) O (G5 (g8 (Gs ?_)))))
  cases h
 ·
  refine Gm (g5 ?_)
  refine Jr fun g9=>(JLh (.mp 1208) (Jbe 1208 Slot.kv Box.av O O) O (JLh (.mp 1209) (Jbe 1209 Ks Box.av O O) O (JLh (.mp 1210) (Jbe 1210 Ks I64 O O) O (JLh (.agg Ka) (Hg (cs:=Ka) [(0,13),(13,1),(14,1),(15,1),(16,1)] [E3 ([]:List G3),E8 ([]:List G9),I64 0,I64 0,I64 0,I64 0,E4 ([]:List Row),E5 ([]:List Frame),E6 ([]:List H2),I64 0,I64 0,I64 0,I64 0,.sc (.map none),.sc (.map none),.sc (.map none),I64 0] [.slice none 0 0,.slice none 0 0,E0,E0,E0,E0,.slice none 0 0,.slice none 0 0,.slice none 0 0,E0,E0,E0,E0,.map none,.map none,.map none,E0] R5c Y01 ⟨.inr ⟨_,O,O⟩,.inr ⟨_,O,O⟩,.inl O,.inl O,.inl O,.inl O,.inr ⟨_,O,O⟩,.inr ⟨_,O,O⟩,.inr ⟨_,O,O⟩,.inl O,.inl O,.inl O,.inl O,.inl O,.inl O,.inl O,.inl O,ø⟩ O O) O (JLh (.ptr 1207 0) (Q4 (cs:=Ka) 1207 O O O O O) O (JLm (.ptr 1207 0) O (G5 (g9 ?_))))))))
  refine Js fun h0=>Qs (l':=[(1,E7 boxes),(2,E1 state),(3,E2 ashore),(4,Ee s),(10,.ptr 1207 0)]) (L':=[(1208,TP 90 Slot.kv Box.av (Gv.empty:Gv Slot Box)),(1209,TP 91 Ks Box.av (Gv.empty:Gv Int Box)),(1210,TP 92 Ks I64 (Gv.empty:Gv Int Int)),(1207,.box 94 Ka)]) ⟨(.sm O O),⟨fmQ O,fmQ O,fmQ O,fbQ O (.sm O O),ø⟩,rfl⟩ ?_
  obtain⟨p,h1,h⟩:=Ge h
  obtain⟨j,h2,h⟩:=Ge h
  refine Jq [6,10] [0,0,0,0,0,0,0,1,1,1,0] [1,0,0,0,0,0,0,1,1,1,0] [[(1208,TP 90 Slot.kv Box.av (Gv.empty:Gv Slot Box)),(1209,TP 91 Ks Box.av (Gv.empty:Gv Int Box)),(1210,TP 92 Ks I64 (Gv.empty:Gv Int Int)),(1207,.box 94 Ka)],((1067,.vec 100 2 0 (j.map G9.av))::[(1208,TP 90 Slot.kv Box.av (Gv.empty:Gv Slot Box)),(1209,TP 91 Ks Box.av (Gv.empty:Gv Int Box)),(1210,TP 92 Ks I64 (Gv.empty:Gv Int Int)),(1207,.box 94 Ka)]),((1207,.box 94 [E3 p,.vec 1067 0 2 j.length,I64 0,I64 0,I64 0,I64 0,E4 ([]:List Row),E5 ([]:List Frame),E6 ([]:List H2),I64 0,I64 0,I64 0,I64 0,.mp 1208,.mp 1209,.mp 1210,I64 0])::((1067,.vec 100 2 0 (j.map G9.av))::[(1208,TP 90 Slot.kv Box.av (Gv.empty:Gv Slot Box)),(1209,TP 91 Ks Box.av (Gv.empty:Gv Int Box)),(1210,TP 92 Ks I64 (Gv.empty:Gv Int Int)),(1207,.box 94 Ka)]))] J9 (by kernel_rfl) rfl rfl ?_
  refine Gd (u:=.ptr 1207 0) O O ⟨Gh (G6 O O) O,Gh (G6 O O) O,ø⟩ (Gd (u:=Ee s) O O ⟨Gh (Ga J8 O O O) O,ø⟩ (Gd (u:=E3 s.Columns) O O ⟨Gh (Gg Jp O O O) O,ø⟩ (Gd (u:=E3 p) O O ⟨Gh (Gu O (H9a s.Columns p h1) Y27 ⟨O,O,ø⟩) O,ø⟩ (Gd (u:=.dptr ((Gi.cs s).drop 1)) O O ⟨Gh (Ga Y5 O O O) O,ø⟩ (Gd (u:=E8 s.Covers) O O ⟨Gh (Gg Zt O O O) O,ø⟩ (D_w (u:=.vec 1067 0 2 j.length) O O O O (Gh (Yv (args:=[E8 s.Covers]) (L0:=[]) (Lr:=[(1067,.vec 100 2 0 (j.map G9.av))]) O (J5.fresh0 (Haa s.Covers j h2)) Y26 ⟨.inl O,O,ø⟩ ø O O O) O) (Gd (u:=.agg [E3 p,.vec 1067 0 2 j.length,I64 0,I64 0,I64 0,I64 0,E4 ([]:List Row),E5 ([]:List Frame),E6 ([]:List H2),I64 0,I64 0,I64 0,I64 0]) O O ⟨Gh (Hg (cs:=[E3 p,.vec 1067 0 2 j.length,I64 0,I64 0,I64 0,I64 0,E4 ([]:List Row),E5 ([]:List Frame),E6 ([]:List H2),I64 0,I64 0,I64 0,I64 0]) [(0,1),(1,1),(2,4),(6,1),(7,1),(8,1),(9,4)] [E3 ([]:List G3),E8 ([]:List G9),I64 0,I64 0,I64 0,I64 0,E4 ([]:List Row),E5 ([]:List Frame),E6 ([]:List H2),I64 0,I64 0,I64 0,I64 0] [.slice none 0 0,.slice none 0 0,E0,E0,E0,E0,.slice none 0 0,.slice none 0 0,.slice none 0 0,E0,E0,E0,E0] Jc5 Ge4 ⟨.inr ⟨_,O,O⟩,.inr ⟨_,O,O⟩,.inl O,.inl O,.inl O,.inl O,.inr ⟨_,O,O⟩,.inr ⟨_,O,O⟩,.inr ⟨_,O,O⟩,.inl O,.inl O,.inl O,.inl O,ø⟩ O O) O,ø⟩ (Gd (u:=.ptr 1207 0) O O ⟨Gh (Yp O O) O,ø⟩ (Gd (u:=.ptr 1207 0) O O ⟨Gh (J4 Ym O O) O,ø⟩ (H3a (u:=.junk) O O O O (Gh (H7 (u:=.agg [E3 p,.vec 1067 0 2 j.length,I64 0,I64 0,I64 0,I64 0,E4 ([]:List Row),E5 ([]:List Frame),E6 ([]:List H2),I64 0,I64 0,I64 0,I64 0]) (ds:=[E3 p,.vec 1067 0 2 j.length,I64 0,I64 0,I64 0,I64 0,E4 ([]:List Row),E5 ([]:List Frame),E6 ([]:List H2),I64 0,I64 0,I64 0,I64 0,.mp 1208,.mp 1209,.mp 1210,I64 0]) G6d O O O O O O O O) O) (Rj ?_)))))))))))
  refine h0 (Js fun d3=>Jr fun d4=>(JLm (.ptr 1207 0) O (JLh (.ptr 1207 0) (Yp O O) O (JLh (.ptr 1207 0) (J4 Ym O O) O (JLh (.ptr 1207 1) (J4 Y5 O O) O (JLh (.vec 1067 0 2 j.length) (J1 Zt O O O O) O (Jf5 (f:=G9.av) (xs:=j) Qj O O O (fun d5=>?_) O O O)))))))
  refine JLm (I64 0) O (G5 (d4 (Gq ?_)))
  obtain⟨h3,d6,d7,b3,h⟩:=Jc h
  refine Hn (fun k (i:(List G9))=>each h3 d6 (List.drop k j) k i=some r) (fun k i=>[(1,E7 boxes),(2,E1 state),(3,E2 ashore),(4,Ee s),(10,.ptr 1207 0),(43,Em j.length),(44,Em k)]) (fun k i=>[(1208,TP 90 Slot.kv Box.av (Gv.empty:Gv Slot Box)),(1209,TP 91 Ks Box.av (Gv.empty:Gv Int Box)),(1210,TP 92 Ks I64 (Gv.empty:Gv Int Int)),(1067,.vec 100 2 0 (i.map G9.av)),(1207,.box 94 [E3 p,.vec 1067 0 2 j.length,I64 0,I64 0,I64 0,I64 0,E4 ([]:List Row),E5 ([]:List Frame),E6 ([]:List H2),I64 0,I64 0,I64 0,I64 0,.mp 1208,.mp 1209,.mp 1210,I64 0])]) (fun k=>j.length - k) 0 j h ⟨(.sm O O),⟨fmQ O,fmQ O,fmQ O,⟨_,rfl,.vec⟩,fbQ O (.sm O O),ø⟩,rfl⟩ ?_
  clear h
  intro k i a6 i2 h4
  refine Jr fun d8=>(JLh (BL (decide ((k:Int) < (j.length:Int)))) (Jo O O O) O (G5 (d8 (Js fun d9=>Gr O (fun hb=>?_) (fun hb=>?_)))))
  ·
   have a7:=Q1 hb
   obtain⟨i3,h8,h9,e0,h⟩:=Ht a6 a7
   replace h:=Zn d7 h
   refine Gm (d9 (Js fun e1=>Gq (Jr fun e2=>(JLm (Em k) O (JLm (Em k) O (G5 (e2 ?_)))))))
   refine Qs (l':=[(1,E7 boxes),(2,E1 state),(3,E2 ashore),(4,Ee s),(10,.ptr 1207 0),(11,Em k),(43,Em j.length),(44,Em k)]) (L':=[(1208,TP 90 Slot.kv Box.av (Gv.empty:Gv Slot Box)),(1209,TP 91 Ks Box.av (Gv.empty:Gv Int Box)),(1210,TP 92 Ks I64 (Gv.empty:Gv Int Int)),(1067,.vec 100 2 0 (i.map G9.av)),(1207,.box 94 [E3 p,.vec 1067 0 2 j.length,I64 0,I64 0,I64 0,I64 0,E4 ([]:List Row),E5 ([]:List Frame),E6 ([]:List H2),I64 0,I64 0,I64 0,I64 0,.mp 1208,.mp 1209,.mp 1210,I64 0])]) ⟨(.sm O O),⟨fmQ O,fmQ O,fmQ O,⟨_,rfl,.vec⟩,fbQ O (.sm O O),ø⟩,rfl⟩ ?_
   obtain⟨i4,a0,e3,e4,h⟩:=Yc h
   obtain⟨a1,e5,h⟩:=Ge h
   obtain⟨a2,b4,a8,h⟩:=Gbb h
   refine Jq [15] (.replicate 16 0) (.replicate 16 0) [[(1208,TP 90 Slot.kv Box.av (Gv.empty:Gv Slot Box)),(1209,TP 91 Ks Box.av (Gv.empty:Gv Int Box)),(1210,TP 92 Ks I64 (Gv.empty:Gv Int Int)),(1067,.vec 100 2 0 (i.map G9.av)),(1207,.box 94 [E3 p,.vec 1067 0 2 j.length,I64 0,I64 0,I64 0,I64 0,E4 ([]:List Row),E5 ([]:List Frame),E6 ([]:List H2),I64 0,I64 0,I64 0,I64 0,.mp 1208,.mp 1209,.mp 1210,I64 0])],((1067,.vec 100 2 0 ((i.set (k:Int).toNat (G9.mk a2.Bay a1)).map G9.av))::[(1208,TP 90 Slot.kv Box.av (Gv.empty:Gv Slot Box)),(1209,TP 91 Ks Box.av (Gv.empty:Gv Int Box)),(1210,TP 92 Ks I64 (Gv.empty:Gv Int Int)),(1067,.vec 100 2 0 (i.map G9.av)),(1207,.box 94 [E3 p,.vec 1067 0 2 j.length,I64 0,I64 0,I64 0,I64 0,E4 ([]:List Row),E5 ([]:List Frame),E6 ([]:List H2),I64 0,I64 0,I64 0,I64 0,.mp 1208,.mp 1209,.mp 1210,I64 0])])] J9 (by kernel_rfl) rfl rfl ?_
   refine Gd (u:=.ptr 1207 0) O O ⟨Gh (G6 O O) O,ø⟩ (Gd (u:=.ptr 1207 0) O O ⟨Gh (Yp O O) O,ø⟩ (Gd (u:=.ptr 1207 0) O O ⟨Gh (J4 Ym O O) O,ø⟩ (Gd (u:=.ptr 1207 1) O O ⟨Gh (J4 Y5 O O) O,ø⟩ (Gd (u:=.vec 1067 0 2 j.length) O O ⟨Gh (J1 Zt O O O O) O,ø⟩ (Gd (u:=Em k) O O ⟨Gh (G6 O O) O,ø⟩ (Gd (u:=.dptr ((Gi.cs s).drop 1)) O O ⟨Gh (Ga Y5 O O O) O,ø⟩ (Gd (u:=E8 s.Covers) O O ⟨Gh (Gg Zt O O O) O,ø⟩ (Gd (u:=Em k) O O ⟨Gh (G6 O O) O,ø⟩ (Gd (u:=.dptr [I64 a0.Bay,E2 a0.Rows]) O O ⟨Gh (Hb (f:=G9.av) (xs:=s.Covers) (y:=a0) O O O Qj e4 e3) O,ø⟩ (Gd (u:=.dptr [E2 a0.Rows]) O O ⟨Gh (Ga G54 O O O) O,ø⟩ (Gd (u:=E2 a0.Rows) O O ⟨Gh (Gg Rn O O O) O,ø⟩ (Gd (u:=E2 a1) O O ⟨Gh (Gu O (J55 a0.Rows a1 e5) Y25 ⟨O,O,ø⟩) O,ø⟩ (Gd (u:=.vptr 1067 0 ((k:Int).toNat) 0) O O ⟨Gh (Gc2 (f:=G9.av) (xs:=i) (y:=a2) O O O O Qj a8 b4) O,ø⟩ ?_)))))))))))))
   refine Gd (u:=.vptr 1067 0 ((k:Int).toNat) 1) O O ⟨Gh (Z28 G54 O O O) O,ø⟩ (H3a (u:=.junk) O O O O (Gh (Yd4 (f:=G9.av) (xs:=i) (e:=a2) (z:=(G9.mk a2.Bay a1)) (u:=E2 a1) Hf8 O O O O a8 O O O O O) O) (Rj (e1 (G2 (JLh (I64 ((k+1:Nat):Int)) (Ja (Hp a7 d5) O O O) O (JLm (I64 ((k+1:Nat):Int)) O (G5 (h4 _ _ (k+1) (i.set (k:Int).toNat (G9.mk a2.Bay a1)) (app1 e0 h) (by omega) ⟨(.sm O O),⟨fmQ O,fmQ O,fmQ O,⟨_,rfl,.vec⟩,fbQ O (.sm O O),ø⟩,rfl⟩))))))))
  ·
   have h:=app1 b3 (Hu a6 (Hh hb))
   refine Hr (d3 (Js fun e6=>Jr fun e7=>(JLm (E1 state) O (JLl H3 O O O fun e8=>(JLm (I64 0) O (G5 (e7 (Gq ?_))))))))
   obtain⟨h5,e9,f0,b5,h⟩:=Jc h
   refine Hn (fun t (n:(Gv Slot Box))=>each h5 e9 (List.drop t state) t n=some r) (fun t n=>[(1,E7 boxes),(2,E1 state),(3,E2 ashore),(10,.ptr 1207 0),(63,E1 state),(64,Em state.length),(65,Em t)]) (fun t n=>[(1208,TP 90 Slot.kv Box.av n),(1209,TP 91 Ks Box.av (Gv.empty:Gv Int Box)),(1210,TP 92 Ks I64 (Gv.empty:Gv Int Int)),(1067,.vec 100 2 0 (i.map G9.av)),(1207,.box 94 [E3 p,.vec 1067 0 2 j.length,I64 0,I64 0,I64 0,I64 0,E4 ([]:List Row),E5 ([]:List Frame),E6 ([]:List H2),I64 0,I64 0,I64 0,I64 0,.mp 1208,.mp 1209,.mp 1210,I64 0])]) (fun t=>state.length - t) 0 (Gv.empty:Gv Slot Box) h ⟨(.sm O O),⟨fmQ O,fmQ O,fmQ O,⟨_,rfl,.vec⟩,fbQ O (.sm O O),ø⟩,rfl⟩ ?_
   clear h
   intro t n a9 i5 h6
   refine Jr fun f1=>(JLh (BL (decide ((t:Int) < (state.length:Int)))) (Jo O O O) O (G5 (f1 (Js fun f2=>Gr O (fun hb=>?_) (fun hb=>?_)))))
   ·
    have b0:=Q1 hb
    obtain⟨o,i0,f3,f4,h⟩:=Ht a9 b0
    replace h:=Zn f0 h
    refine Gm (f2 (Js fun f5=>Gq (Jr fun f6=>(JLh (Eh o) (Hb (f:=G1.av) (xs:=state) (y:=o) O O O H3 f3 O) O (JLh (.agg (G1.cs o)) (Gk Qd O O O) O (JLh (.ptr 1016 0) (Hk 1016 4 Jy O O) O (Ho (u:=.junk) (H7 (u:=.agg (G1.cs o)) (ds:=[I64 o.Box,I64 o.Slot.G3,I64 o.Slot.Tier,U8 o.Slot.Half]) Rk O O O O O O O O) (G5 (f6 ?_)))))))))
    refine fzQ [(1,E7 boxes),(2,E1 state),(3,E2 ashore),(10,.ptr 1207 0),(13,Eh o),(63,E1 state),(64,Em state.length),(65,Em t)] [(1208,TP 90 Slot.kv Box.av n),(1209,TP 91 Ks Box.av (Gv.empty:Gv Int Box)),(1210,TP 92 Ks I64 (Gv.empty:Gv Int Int)),(1067,.vec 100 2 0 (i.map G9.av)),(1207,.box 94 [E3 p,.vec 1067 0 2 j.length,I64 0,I64 0,I64 0,I64 0,E4 ([]:List Row),E5 ([]:List Frame),E6 ([]:List H2),I64 0,I64 0,I64 0,I64 0,.mp 1208,.mp 1209,.mp 1210,I64 0])] 1016 rfl rfl rfl ⟨fmQ O,fmQ O,fmQ O,⟨_,rfl,.vec⟩,⟨_,rfl,.boxEq rfl rfl⟩,ø⟩ rfl ?_
    refine Qs (l':=[(1,E7 boxes),(2,E1 state),(3,E2 ashore),(10,.ptr 1207 0),(13,Eh o),(63,E1 state),(64,Em state.length),(65,Em t)]) (L':=[(1208,TP 90 Slot.kv Box.av n),(1209,TP 91 Ks Box.av (Gv.empty:Gv Int Box)),(1210,TP 92 Ks I64 (Gv.empty:Gv Int Int)),(1067,.vec 100 2 0 (i.map G9.av)),(1207,.box 94 [E3 p,.vec 1067 0 2 j.length,I64 0,I64 0,I64 0,I64 0,E4 ([]:List Row),E5 ([]:List Frame),E6 ([]:List H2),I64 0,I64 0,I64 0,I64 0,.mp 1208,.mp 1209,.mp 1210,I64 0])]) ⟨(.sm O O),⟨fmQ O,fmQ O,fmQ O,⟨_,rfl,.vec⟩,fbQ O (.sm O O),ø⟩,rfl⟩ ?_
    obtain⟨x,f7,h⟩:=Ge h
    refine Jq [13] (.replicate 14 0) [0,0,0,0,0,0,0,0,0,0,0,0,1,0] [[(1208,TP 90 Slot.kv Box.av n),(1209,TP 91 Ks Box.av (Gv.empty:Gv Int Box)),(1210,TP 92 Ks I64 (Gv.empty:Gv Int Int)),(1067,.vec 100 2 0 (i.map G9.av)),(1207,.box 94 [E3 p,.vec 1067 0 2 j.length,I64 0,I64 0,I64 0,I64 0,E4 ([]:List Row),E5 ([]:List Frame),E6 ([]:List H2),I64 0,I64 0,I64 0,I64 0,.mp 1208,.mp 1209,.mp 1210,I64 0])],((1208,TP 90 Slot.kv Box.av (Gv.put n o.Slot x.1))::[(1208,TP 90 Slot.kv Box.av n),(1209,TP 91 Ks Box.av (Gv.empty:Gv Int Box)),(1210,TP 92 Ks I64 (Gv.empty:Gv Int Int)),(1067,.vec 100 2 0 (i.map G9.av)),(1207,.box 94 [E3 p,.vec 1067 0 2 j.length,I64 0,I64 0,I64 0,I64 0,E4 ([]:List Row),E5 ([]:List Frame),E6 ([]:List H2),I64 0,I64 0,I64 0,I64 0,.mp 1208,.mp 1209,.mp 1210,I64 0])])] J9 (by kernel_rfl) rfl rfl ?_
    refine Gd (u:=.ptr 1207 0) O O ⟨Gh (G6 O O) O,ø⟩ (Gd (u:=.ptr 1207 0) O O ⟨Gh (Yp O O) O,ø⟩ (Gd (u:=.ptr 1207 13) O O ⟨Gh (J4 Yk O O) O,ø⟩ (Gd (u:=.mp 1208) O O ⟨Gh (J1 Yr O O O O) O,ø⟩ (Gd (u:=.dptr ((G1.cs o).drop 1)) O O ⟨Gh (Ga Jn O O O) O,ø⟩ (Gd (u:=.agg ((G1.cs o).drop 1)) O O ⟨Gh (Gk J2 O O O) O,ø⟩ (Gd (u:=E7 boxes) O O ⟨Gh (G6 O O) O,ø⟩ (Gd (u:=Eh o) O O ⟨Gh (Ga J6 O O O) O,ø⟩ (Gd (u:=I64 o.Box) O O ⟨Gh (Gg Gb O O O) O,ø⟩ (Gd (u:=.tup [.agg (Box.cs x.1),BL x.2]) O O ⟨Gh (Gu O (Jec boxes o.Box x f7) Qa9 ⟨O,O,O,O,ø⟩) O,ø⟩ (Gd (u:=.tup [.agg (Box.cs x.1),BL x.2]) O O ⟨Gh (G6 O O) O,ø⟩ (Gd (u:=.agg (Box.cs x.1)) O O ⟨Gh (Gz O O O) O,ø⟩ (Gd (u:=BL x.2) O O ⟨Gh (Gz O O O) O,Gh (Gz O O O) O,ø⟩ (H3a (u:=.junk) O O O O (Gh (H1e (m:=n) (a:=o.Slot) (v:=x.1) (fun _=>O) O O O O O O R90 G86) O) (Rj ?_))))))))))))))
    refine f5 (G2 (JLh (I64 ((t+1:Nat):Int)) (Ja (Hp b0 e8) O O O) O (JLm (I64 ((t+1:Nat):Int)) O (G5 (h6 _ _ (t+1) (Gv.put n o.Slot x.1) (app1 f4 h) (by omega) ⟨(.sm O O),⟨fmQ O,fmQ O,fmQ O,⟨_,rfl,.vec⟩,fbQ O (.sm O O),ø⟩,rfl⟩)))))
   ·
    have h:=app1 b5 (Hu a9 (Hh hb))
    refine Hr (e6 (Js fun f8=>Jr fun f9=>(JLm (E2 ashore) O (JLl H1 O O O fun g0=>(JLm (I64 0) O (G5 (f9 (Gq ?_))))))))
    obtain⟨g1,b6,b7,b1,h⟩:=Jc h
    refine Hn (fun c (l:(Gv Int Box))=>each g1 b6 (List.drop c ashore) c l=some r) (fun c l=>[(1,E7 boxes),(2,E1 state),(3,E2 ashore),(10,.ptr 1207 0),(83,E2 ashore),(84,Em ashore.length),(85,Em c)]) (fun c l=>[(1208,TP 90 Slot.kv Box.av n),(1209,TP 91 Ks Box.av l),(1210,TP 92 Ks I64 (Gv.empty:Gv Int Int)),(1067,.vec 100 2 0 (i.map G9.av)),(1207,.box 94 [E3 p,.vec 1067 0 2 j.length,I64 0,I64 0,I64 0,I64 0,E4 ([]:List Row),E5 ([]:List Frame),E6 ([]:List H2),I64 0,I64 0,I64 0,I64 0,.mp 1208,.mp 1209,.mp 1210,I64 0])]) (fun c=>ashore.length - c) 0 (Gv.empty:Gv Int Box) h ⟨(.sm O O),⟨fmQ O,fmQ O,fmQ O,⟨_,rfl,.vec⟩,fbQ O (.sm O O),ø⟩,rfl⟩ ?_
    clear h
    intro c l a4 i1 g2
    refine Jr fun b8=>(JLh (BL (decide ((c:Int) < (ashore.length:Int)))) (Jo O O O) O (G5 (b8 (Js fun b9=>Gr O (fun hb=>?_) (fun hb=>?_)))))
    ·
     have a5:=Q1 hb
     obtain⟨d,h7,c0,c1,h⟩:=Ht a4 a5
     replace h:=Zn b7 h
     refine Gm (b9 (Js fun c2=>Gq (Jr fun c3=>(JLm (Em c) O (JLh (.dptr [I64 d]) (Hb (f:=I64) (xs:=ashore) (y:=d) O O O H1 c0 O) O (JLh (I64 d) (Gg Gb O O O) O (JLh (.ptr 1017 0) (Hk 1017 1 Y0 O O) O (JLm (Em c) O (Ho (u:=.junk) (H7 (u:=I64 d) (ds:=[I64 d]) G53 O O O O O O O O) (G5 (c3 ?_)))))))))))
     refine fzQ [(1,E7 boxes),(2,E1 state),(3,E2 ashore),(10,.ptr 1207 0),(14,Em c),(15,.dptr [I64 d]),(83,E2 ashore),(84,Em ashore.length),(85,Em c)] [(1208,TP 90 Slot.kv Box.av n),(1209,TP 91 Ks Box.av l),(1210,TP 92 Ks I64 (Gv.empty:Gv Int Int)),(1067,.vec 100 2 0 (i.map G9.av)),(1207,.box 94 [E3 p,.vec 1067 0 2 j.length,I64 0,I64 0,I64 0,I64 0,E4 ([]:List Row),E5 ([]:List Frame),E6 ([]:List H2),I64 0,I64 0,I64 0,I64 0,.mp 1208,.mp 1209,.mp 1210,I64 0])] 1017 rfl rfl rfl ⟨fmQ O,fmQ O,fmQ O,⟨_,rfl,.vec⟩,⟨_,rfl,.boxEq rfl rfl⟩,ø⟩ rfl ?_
     refine Jr fun c4=>(JLm (E7 boxes) O (JLh (I64 d) (Gg Gb O O O) O ?_))
     obtain⟨g,c5,h⟩:=Ge h
     refine JLh (.tup [.agg (Box.cs g.1),BL g.2]) (Gu O (Jec boxes d g c5) Qa9 ⟨O,O,O,O,ø⟩) O (JLm (.tup [.agg (Box.cs g.1),BL g.2]) O (JLh (.agg (Box.cs g.1)) (Gz O O O) O (JLh (BL g.2) (Gz O O O) O (JLh (.ptr 1018 0) (Hk 1018 9 Qx O O) O (Ho (u:=.junk) (H7 (u:=.agg (Box.cs g.1)) (ds:=(Box.cs g.1)) Rh O O O O O O O O) (JLm (BL g.2) O (G5 (c4 ?_))))))))
     refine fzQ [(1,E7 boxes),(2,E1 state),(3,E2 ashore),(10,.ptr 1207 0),(14,Em c),(15,.dptr [I64 d]),(16,Ei g.1),(17,BL g.2),(83,E2 ashore),(84,Em ashore.length),(85,Em c)] [(1208,TP 90 Slot.kv Box.av n),(1209,TP 91 Ks Box.av l),(1210,TP 92 Ks I64 (Gv.empty:Gv Int Int)),(1067,.vec 100 2 0 (i.map G9.av)),(1207,.box 94 [E3 p,.vec 1067 0 2 j.length,I64 0,I64 0,I64 0,I64 0,E4 ([]:List Row),E5 ([]:List Frame),E6 ([]:List H2),I64 0,I64 0,I64 0,I64 0,.mp 1208,.mp 1209,.mp 1210,I64 0])] 1018 rfl rfl rfl ⟨fmQ O,fmQ O,fmQ O,⟨_,rfl,.vec⟩,⟨_,rfl,.boxEq rfl rfl⟩,ø⟩ rfl ?_
     refine Js fun c6=>Js fun c7=>?_
     refine Qs (l':=[(1,E7 boxes),(2,E1 state),(3,E2 ashore),(10,.ptr 1207 0),(14,Em c),(15,.dptr [I64 d]),(16,Ei g.1),(17,BL g.2),(83,E2 ashore),(84,Em ashore.length),(85,Em c)]) (L':=[(1208,TP 90 Slot.kv Box.av n),(1209,TP 91 Ks Box.av l),(1210,TP 92 Ks I64 (Gv.empty:Gv Int Int)),(1067,.vec 100 2 0 (i.map G9.av)),(1207,.box 94 [E3 p,.vec 1067 0 2 j.length,I64 0,I64 0,I64 0,I64 0,E4 ([]:List Row),E5 ([]:List Frame),E6 ([]:List H2),I64 0,I64 0,I64 0,I64 0,.mp 1208,.mp 1209,.mp 1210,I64 0])]) ⟨(.sm O O),⟨fmQ O,fmQ O,fmQ O,⟨_,rfl,.vec⟩,fbQ O (.sm O O),ø⟩,rfl⟩ ?_
     obtain⟨g3,c8,h⟩:=Ge h
     obtain⟨w,c9,h⟩:=Ge h
     obtain⟨a3,d0,h⟩:=Ge h
     refine JC_d0 J9 (by kernel_rfl) (Dq (BL g.2) (G6 O O) O (Dq (BL (!g.2)) (Y8 (b:=g.2) O O) O (Dq (BL (!g.2)) (G6 O O) O (Do (Em c) [] O .scf ø (fun hc=>G6 O O) O (Do (BL (decide (0 < (c:Int)))) [99] O .scf ⟨Ua,ø⟩ (fun hc=>H01 O O O) O (Do (BL (decide (0 < (c:Int)))) [100] O .scf ⟨Ua,ø⟩ (fun hc=>G6 O O) O (Do (I64 d) [] O .optt ø (fun hc=>Gg Gb O O O) O (Do (E2 ashore) [] O .optt ø (fun hc=>G6 O O) O (Do (Em c) [] O .optt ø (fun hc=>G6 O O) O (Do (I64 g3) [104] O .optt ⟨Ua,ø⟩ (fun hc=>G84 (He6 (H4 hc c8)) O O O) O (Do (.dptr [I64 w]) [103,105] O .optt ⟨Ua,Ua,ø⟩ (fun hc=>(match Gba (H4 hc c9) with | ⟨_,hm_,hy_⟩=>Hb (f:=I64) (xs:=ashore) (y:=w) O O O H1 hy_ hm_)) O (Do (I64 w) [106] O .optt ⟨Ua,ø⟩ (fun hc=>Gg Gb O O O) O (Do (BL (decide (d≤w))) [102,107] O .optt ⟨Ua,Ua,ø⟩ (fun hc=>Hc5 O O O) O ?_)))))))))))))
     refine Dg (.opt (!(!g.2)) (BL ((decide (0 < (c:Int)))&&(decide (d≤w))))) (Ha [(101,BL (decide (0 < (c:Int)))),(108,_)] O O O .scf ⟨.all id,.part,ø⟩ (fun hc=>Y4 O O O O) O) O (Dq (BL ((!g.2)||((decide (0 < (c:Int)))&&(decide (d≤w))))) (G94 O O O O) O (Dq (BL ((!g.2)||((decide (0 < (c:Int)))&&(decide (d≤w))))) (G6 O O) O (Do (E1 state) [] O .scf ø (fun hc=>G6 O O) O (Do (.fn 37 [.dptr [I64 d]]) [] O .scf ø (fun hc=>Q2 (cs:=[.dptr [I64 d]]) O O) O (Do (BL a3) [112,113] O .scf ⟨Ua,Ua,ø⟩ (fun hc=>Gu (args:=[E1 state,.fn 37 [.dptr [I64 d]]]) O (Z8 state (fun z0=>G8e z0 d) 37 [.dptr [I64 d]] Y24 O (fun z0 q hq=>Q6a z0 d q hq) a3 (H4 hc d0)) Ja4 ⟨O,O,O,O,ø⟩) O (Dq (BL (((!g.2)||((decide (0 < (c:Int)))&&(decide (d≤w))))||a3)) (G94 O O O O) O (Dnil ?_)))))))
     refine c7 (JCc O h (fun h hb=>?_) (fun h hb=>?_))
     ·
      refine Jr fun d1=>(JLm (.sc (.pointer none)) O (JLm (I64 2) O (G5 (d1 (Gs ?_)))))
      cases h
     ·
      refine Gm (c6 ?_)
      refine Qs (l':=[(1,E7 boxes),(2,E1 state),(3,E2 ashore),(10,.ptr 1207 0),(15,.dptr [I64 d]),(16,Ei g.1),(83,E2 ashore),(84,Em ashore.length),(85,Em c)]) (L':=[(1208,TP 90 Slot.kv Box.av n),(1209,TP 91 Ks Box.av l),(1210,TP 92 Ks I64 (Gv.empty:Gv Int Int)),(1067,.vec 100 2 0 (i.map G9.av)),(1207,.box 94 [E3 p,.vec 1067 0 2 j.length,I64 0,I64 0,I64 0,I64 0,E4 ([]:List Row),E5 ([]:List Frame),E6 ([]:List H2),I64 0,I64 0,I64 0,I64 0,.mp 1208,.mp 1209,.mp 1210,I64 0])]) ⟨(.sm O O),⟨fmQ O,fmQ O,fmQ O,⟨_,rfl,.vec⟩,fbQ O (.sm O O),ø⟩,rfl⟩ ?_
      refine Jq [6] [0,0,0,0,0,0,0] [0,0,0,0,0,0,0] [[(1208,TP 90 Slot.kv Box.av n),(1209,TP 91 Ks Box.av l),(1210,TP 92 Ks I64 (Gv.empty:Gv Int Int)),(1067,.vec 100 2 0 (i.map G9.av)),(1207,.box 94 [E3 p,.vec 1067 0 2 j.length,I64 0,I64 0,I64 0,I64 0,E4 ([]:List Row),E5 ([]:List Frame),E6 ([]:List H2),I64 0,I64 0,I64 0,I64 0,.mp 1208,.mp 1209,.mp 1210,I64 0])],((1209,TP 91 Ks Box.av (Gv.put l d g.1))::[(1208,TP 90 Slot.kv Box.av n),(1209,TP 91 Ks Box.av l),(1210,TP 92 Ks I64 (Gv.empty:Gv Int Int)),(1067,.vec 100 2 0 (i.map G9.av)),(1207,.box 94 [E3 p,.vec 1067 0 2 j.length,I64 0,I64 0,I64 0,I64 0,E4 ([]:List Row),E5 ([]:List Frame),E6 ([]:List H2),I64 0,I64 0,I64 0,I64 0,.mp 1208,.mp 1209,.mp 1210,I64 0])])] J9 (by kernel_rfl) rfl rfl ?_
      refine Gd (u:=.ptr 1207 0) O O ⟨Gh (G6 O O) O,ø⟩ (Gd (u:=.ptr 1207 0) O O ⟨Gh (Yp O O) O,ø⟩ (Gd (u:=.ptr 1207 14) O O ⟨Gh (J4 G48 O O) O,ø⟩ (Gd (u:=.mp 1209) O O ⟨Gh (J1 G36 O O O O) O,ø⟩ (Gd (u:=I64 d) O O ⟨Gh (Gg Gb O O O) O,ø⟩ (Gd (u:=.agg (Box.cs g.1)) O O ⟨Gh (Gk R4 O O O) O,ø⟩ (H3a (u:=.junk) O O O O (Gh (H1e (m:=l) (a:=d) (v:=g.1) (fun _=>O) O O O O O O J7c H7a) O) (Rj (c2 (G2 (JLh (I64 ((c+1:Nat):Int)) (Ja (Hp a5 g0) O O O) O (JLm (I64 ((c+1:Nat):Int)) O (G5 ?_))))))))))))
      exact g2 _ _ (c+1) (Gv.put l d g.1) (app1 c1 h) (by omega) ⟨(.sm O O),⟨fmQ O,fmQ O,fmQ O,⟨_,rfl,.vec⟩,fbQ O (.sm O O),ø⟩,rfl⟩
    ·
     have h:=app1 b1 (Hu a4 (Hh hb))
     refine Hr (f8 (Jr fun d2=>(JLm (.ptr 1207 0) O (JLm (.ptr 1207 0) O (JLm (I64 0) O (G5 (d2 (Yd3 1207 1 (0+1) O O O (Nat.lt_succ_self _) (cs':=[E3 p,E8 i,I64 0,I64 0,I64 0,I64 0,E4 ([]:List Row),E5 ([]:List Frame),E6 ([]:List H2),I64 0,I64 0,I64 0,I64 0,.mp 1208,.mp 1209,.mp 1210,I64 0]) O (Gs ?_)))))))))
     obtain rfl:=M7 h
     exact⟨[.ptr 1207 0,I64 0],[(1207,.box 94 [E3 p,E8 i,I64 0,I64 0,I64 0,I64 0,E4 ([]:List Row),E5 ([]:List Frame),E6 ([]:List H2),I64 0,I64 0,I64 0,I64 0,.mp 1208,.mp 1209,.mp 1210,I64 0]),(1208,TP 90 Slot.kv Box.av n),(1209,TP 91 Ks Box.av l),(1210,TP 92 Ks I64 (Gv.empty:Gv Int Int))],⟨fbQ O (.sm O O),fmQ O,fmQ O,fmQ O,ø⟩,rfl,⟨⟨_,rfl,.conv (.same rfl)⟩,⟨_,rfl,.conv (.same rfl)⟩,ø⟩,rfl,rfl⟩
end
end Go.Proofs.YtgcpimpnpcdmmaaGreat
