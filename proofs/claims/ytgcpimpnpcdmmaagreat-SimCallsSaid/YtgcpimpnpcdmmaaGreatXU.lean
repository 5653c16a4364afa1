/- Walks of functions. -/
import Derived.Test.YtgcpimpnpcdmmaaGreatXT
set_option maxRecDepth 100000
set_option maxHeartbeats 1000000
set_option linter.unusedVariables false
set_option linter.unusedSimpArgs false
namespace Go.Proofs.YtgcpimpnpcdmmaaGreat
open Go.RowKit
noncomputable section
structure G1 where
 Box:Int
 Slot:Slot
 deriving DecidableEq,Inhabited
def G1.cs (x:G1):List AV:=[I64 x.Box,I64 x.Slot.G3,I64 x.Slot.Tier,U8 x.Slot.Half]
def G1.av (x:G1):AV:=.agg x.cs
abbrev Eh (x:G1):AV:=.dptr (G1.cs x)
abbrev E1:=LS 4 G1.av
def G1.vs (x:G1):List Value:=[.int .i64 x.Box,.int .i64 x.Slot.G3,.int .i64 x.Slot.Tier,.int .u8 x.Slot.Half]
namespace XUF
open XAF
open XCF
open XSF
open XKF
open XTF
theorem Qd:H25 En 64 4=true:=by kernel_rfl
theorem Q17:Gz En 117=true:=by kernel_rfl
theorem Q8e:Gz En 14=true:=by kernel_rfl
theorem R7d:Gz En 145=true:=by kernel_rfl
theorem H71:Gz En 31=true:=by kernel_rfl
theorem Y00:Gz En 33=true:=by kernel_rfl
theorem Rff:Gz En 34=true:=by kernel_rfl
theorem Rfe:Gz En 35=true:=by kernel_rfl
theorem Q87:Gz En 36=true:=by kernel_rfl
theorem Rfd:Gz En 37=true:=by kernel_rfl
theorem Q86:Gz En 44=true:=by kernel_rfl
theorem J8c:Gz En 45=true:=by kernel_rfl
theorem Q85:Gz En 46=true:=by kernel_rfl
theorem H18:Gz En 47=true:=by kernel_rfl
theorem Hea:Gz En 48=true:=by kernel_rfl
theorem Q84:Gz En 49=true:=by kernel_rfl
theorem Q83:Gz En 50=true:=by kernel_rfl
theorem Rf4:Gz En 60=true:=by kernel_rfl
theorem Rf3:Gz En 61=true:=by kernel_rfl
theorem Rf2:Gz En 66=true:=by kernel_rfl
theorem Q78:Gz En 93=true:=by kernel_rfl
theorem Q76:Gz En 95=true:=by kernel_rfl
theorem Q75:Gz En 96=true:=by kernel_rfl
theorem H9f:Z0 En 100 2 32=true:=by kernel_rfl
theorem Gd4:Z0 En 64 4 32=true:=by kernel_rfl
theorem J7:Jp En 64 0 0=true:=by kernel_rfl
theorem Jm:Jp En 64 1 1=true:=by kernel_rfl
theorem Jab:placesOf En 36=some [(0,1),(1,1),(2,4),(6,1),(7,1),(8,1),(9,4)]:=by kernel_rfl
theorem G2b:placesOf En 64=some [(0,1),(1,3)]:=by kernel_rfl
theorem R3b:placesOf En 94=some [(0,13),(13,1),(14,1),(15,1),(16,1)]:=by kernel_rfl
theorem G88:Y2 En 36 13=true:=by kernel_rfl
theorem Rh:Y2 En 64 4=true:=by kernel_rfl
theorem H1:sliceB En 44 64 4=true:=by kernel_rfl
theorem Gd2:(En.info? 36).bind (fun i=>i.zero.map Value.cells)=some (List.toArray [.slice none 0 0,.slice none 0 0,E0,E0,E0,E0,.slice none 0 0,.slice none 0 0,.slice none 0 0,E0,E0,E0,E0]):=by kernel_rfl
theorem G86:(En.info? 64).bind (fun i=>i.zero.map Value.cells)=some (List.toArray [E0,E0,E0,.int .u8 0]):=by kernel_rfl
theorem Rda:(En.info? 94).bind (fun i=>i.zero.map Value.cells)=some (List.toArray [.slice none 0 0,.slice none 0 0,E0,E0,E0,E0,.slice none 0 0,.slice none 0 0,.slice none 0 0,E0,E0,E0,E0,.map none,.map none,.map none,E0]):=by kernel_rfl
theorem Jx:Qz En 64 4=true:=by kernel_rfl
end XUF
open XAF
open XCF
open XSF
open XKF
open XTF
open XUF

def G6d (x:Int):Option Bool:=
 some (decide (x≠x))
theorem Hae (x:Int) (r:Bool) (h:G6d x=some r):Pure En 93 [I64 x] (·=BL r):=by
 unfold G6d at h
 refine Gx [.tmp 2] Tryz.func93 O O (Jr fun a=>(JLm (BL false) O (G5 (a (Jr fun b=>(JLm (I64 x) O (JLm (I64 x) O (JLh (BL (decide (x≠x))) (H0a O O O) O (JLm (BL (decide (x≠x))) O (G5 (b (Gs (fin1 BL h)))))))))))))

def Qq (x:Int) (y:Int):Option Int:=
 bnd (G6d x) fun b=>
 bnd (G6d y) fun a=>
 bif b then
 (bif a then
  (some 0)
  else
  (some (-1)))
 else
 (bif a then
  (some 1)
  else
  (bif decide (x < y) then
   (some (-1))
   else
   (bif decide (y < x) then
    (some 1)
    else
    (some 0))))
theorem Za (x:Int) (y:Int) (r:Int) (h:Qq x y=some r):Pure En 47 [I64 x,I64 y] (·=I64 r):=by
 unfold Qq at h
 refine Gx [.tmp 4] Tryz.func47 O O (Jr fun p=>(JLm (I64 0) O (G5 (p (Jr fun q=>(JLm (I64 x) O ?_))))))
 obtain⟨b,s,h⟩:=Ge h
 refine JLh (BL b) (Gw O (Hae x b s) Q78 ⟨O,O,ø⟩) O (JLm (BL b) O (G5 (q (Jr fun t=>(JLm (I64 y) O ?_)))))
 obtain⟨a,u,h⟩:=Ge h
 refine JLh (BL a) (Gw O (Hae y a u) Q78 ⟨O,O,ø⟩) O (JLm (BL a) O (G5 (t (Js fun v=>Jr fun w=>(JLm (BL b) O (G5 (w (JCc O h (fun h hb=>?_) (fun h hb=>?_)))))))))
 ·
  refine Js fun z=>Jr fun a0=>(JLm (BL a) O (G5 (a0 (JCc O h (fun h hb=>?_) (fun h hb=>?_)))))
  ·
   refine Jr fun c=>(JLm (I64 0) O (G5 (c (Gs (fin1 I64 h)))))
  ·
   refine Gn (z (Jr fun d=>(JLm (I64 (-1)) O (G5 (d (Gs (fin1 I64 h)))))))
 ·
  refine Gn (v (Js fun e=>Jr fun f=>(JLm (BL a) O (G5 (f (JCc O h (fun h hb=>?_) (fun h hb=>?_)))))))
  ·
   refine Jr fun g=>(JLm (I64 1) O (G5 (g (Gs (fin1 I64 h)))))
  ·
   refine Gn (e (Js fun i=>Jr fun j=>(JLm (I64 x) O (JLm (I64 y) O (JLh (BL (decide (x < y))) (Jq O O O) O (G5 (j (JCc O h (fun h hb=>?_) (fun h hb=>?_)))))))))
   ·
    refine Jr fun k=>(JLm (I64 (-1)) O (G5 (k (Gs (fin1 I64 h)))))
   ·
    refine Gn (i (Js fun l=>Jr fun m=>(JLm (I64 x) O (JLm (I64 y) O (JLh (BL (decide (y < x))) (H0c O O O) O (G5 (m (JCc O h (fun h hb=>?_) (fun h hb=>?_)))))))))
    ·
     refine Jr fun n=>(JLm (I64 1) O (G5 (n (Gs (fin1 I64 h)))))
    ·
     refine Gn (l (Jr fun o=>(JLm (I64 0) O (G5 (o (Gs (fin1 I64 h)))))))

def Rn (a:G1) (b:G1):Option Int:=
 bnd (Qq a.Box b.Box) fun c=>
 some c
abbrev K0 (a:G1):List AV:=[I64 a.Box,I64 a.Slot.G3,I64 a.Slot.Tier,U8 a.Slot.Half]
theorem H58 (a:G1) (b:G1) (r:Int) (h:Rn a b=some r):Pure En 46 [.agg [I64 a.Box,I64 a.Slot.G3,I64 a.Slot.Tier,U8 a.Slot.Half],.agg (G1.cs b)] (·=I64 r):=by
 unfold Rn at h
 refine Gx [.tmp 4] Tryz.func46 O O (Jr fun d=>(JLh (.ptr 1080 0) (Q2 (cs:=(K0 a)) 1080 O O O O O) O (JLh (.ptr 1081 0) (Q2 (cs:=[I64 b.Box,I64 b.Slot.G3,I64 b.Slot.Tier,U8 b.Slot.Half]) 1081 O O O O O) O (JLm (I64 0) O (G5 (d (Gp [(2,.dptr (K0 a)),(3,.ptr 1081 0)] [(1081,.box 64 [I64 b.Box,I64 b.Slot.G3,I64 b.Slot.Tier,U8 b.Slot.Half])] 1080 rfl rfl rfl ⟨⟨_,rfl,.boxEq rfl rfl⟩,ø⟩ rfl (by exact⟨.ptr,.conv (.same rfl),ø⟩) (Gp [(2,.dptr (K0 a)),(3,Eh b)] [] 1081 rfl rfl rfl ø rfl (by exact⟨.conv (.same rfl),.ptr,ø⟩) ?_))))))))
 refine Jr fun e=>(JLh (.dptr (K0 a)) (Ga J7 O O O) O (JLh (I64 a.Box) (Gg Gb O O O) O (JLh (Eh b) (Ga J7 O O O) O (JLh (I64 b.Box) (Gg Gb O O O) O ?_))))
 obtain⟨c,f,h⟩:=Ge h
 refine JLh (I64 c) (Gw O (Za a.Box b.Box c f) H18 ⟨O,O,O,O,ø⟩) O (JLm (I64 c) O (G5 (e (Gs (fin1 I64 h)))))

def G08 (m:Gc) (Rp:(List G1)→Prop):Option Prop:=
 J09 (fun(a:Slot×Box) (b:(List G1)) c=>
  need (decide ((b.length+[(G1.mk a.2.ID a.1)].length)*32≤140737488355328∧b.length+[(G1.mk a.2.ID a.1)].length≤maxLen)) <|
  c (b++[(G1.mk a.2.ID a.1)]))
 (fun(b:(List G1))=>
  bnd (Q22 (fun z0 z1=>Rn z0 z1) b) fun d=>
  some (Rp d)) (Gu.Ha m.on) []
def Yx (m:Gc):Option (List Int):=
 bnd (G40 m.quay) fun b=>
 bnd (Ya (Gu.keys m.quay)) fun a=>
 some a
def Zu (m:Gc):Option (List Int):=
 bnd (G7c m.open_) fun b=>
 bnd (Ya (Gu.keys m.open_)) fun a=>
 some a
theorem J9f (m:Gc) (Rp:(List G1)→Prop) (p:Prop) (h:G08 m Rp=some p) (hp:p):J3 En 19 [.dptr (Gc.cs m)] [] (fun av L'=>∃ p:Nat,∃ r,Rp r∧av=.vec 1020 p 4 r.length∧L'=[(1020,.vec 64 4 p (r.map G1.av))]):=by
 unfold G08 at h
 refine Jj [] [.tmp 2] Tryz.func19 O O (G0d O) (Jr fun a4=>(JLh (.vec 1019 (([]:List G1).length) 4 (([]:List G1).length)) (G7d 1019 64 4 O O O) O (G5 (a4 (Js fun a5=>Jr fun a6=>(JLm (Eg m) O (JLh (BL true) (Gw O (Rm m true O) G5d ⟨O,O,ø⟩) O (JLh (BL false) (Yc (b:=true) O O) O (G5 (a6 (G24 O (Gn (a5 (Jr fun a7=>(JLh (.vec 1020 (([]:List G1).length) 4 (([]:List G1).length)) (G7d 1020 64 4 O O O) O (G5 (a7 (Js fun a8=>?_))))))))))))))))))
 refine Jr fun a9=>(JLm (Eg m) O (JLh (Eg m) (G63 O O) O (JLh (.dptr ((Gc.cs m).drop 13)) (Ga Yg O O O) O (JLh (DM Slot.kv Box.av m.on) (Gg Yk O O O) O (JLh (.it 1023) (H92 1023 (kv:=Slot.kv) (av:=Box.av) (m:=m.on) O O .data O G72) O (G5 (a9 (Gq ?_))))))))
 obtain⟨b0,v,w,t,h⟩:=H42 h
 refine J48 (m.on.l.length) (fun d (c:(List G1))=>Gcb b0 v (Gu.l m.on) d c) (fun d c=>[(3,.vec 1020 c.length 4 c.length),(13,.it 1023)]) (fun d c=>[(1019,.vec 64 4 (([]:List G1).length) (([]:List G1).map G1.av)),(1020,.vec 64 4 c.length (c.map G1.av)),(1023,.iter (DM Slot.kv Box.av m.on) m.on.l.length d)]) [] (Gcb.start h hp) ⟨(.sm O O),⟨⟨_,O,.vec⟩,⟨_,O,.vec⟩,⟨_,O,.iter O⟩,ø⟩,O⟩ ?_
 clear h hp
 intro d c j b4 b1
 refine Jr fun k=>Yb O O O (J04 (kv:=Slot.kv) (av:=Box.av) (m:=m.on) (fun _=>O) O O O .data) ?_
 intro u_ L_ hn_
 rcases hn_ with ⟨i,a,g,n,rfl,rfl⟩ | ⟨x,rfl,rfl⟩
 ·
  obtain⟨b5,h,b2,o⟩:=j.step g n
  replace h:=J9a w h
  refine JLh (BL true) (H3 O O O) O (G5 (k (Js fun y=>J49 O (Gn (y (Gq ?_))))))
  refine Jr fun z=>(JLh (.tup [.agg (Slot.cs a.1),.agg (Box.cs a.2)]) (Ja7 (kv:=Slot.kv) (av:=Box.av) (m:=m.on) (q:=i) (seen:=d) (e:=a) (fun _=>O) O O O .data g) O (JLh (.agg (Slot.cs a.1)) (H3 O O O) O (JLh (.agg (Box.cs a.2)) (H3 O O O) O (JLh (.ptr 1021 0) (Hm 1021 3 Rc O O) O (JLh (.ptr 1022 0) (Hm 1022 9 Qw O O) O (Ho (u:=.junk) (H7 (u:=.agg (Slot.cs a.1)) (ds:=[I64 a.1.G3,I64 a.1.Tier,U8 a.1.Half]) Y9 O O O O O O O O) (Ho (u:=.junk) (H7 (u:=.agg (Box.cs a.2)) (ds:=(Box.cs a.2)) Rf O O O O O O O O) (G5 (z ?_)))))))))
  refine fzQ [(3,.vec 1020 c.length 4 c.length),(4,Ek a.1),(5,.ptr 1022 0),(13,.it 1023)] [(1019,.vec 64 4 (([]:List G1).length) (([]:List G1).map G1.av)),(1020,.vec 64 4 c.length (c.map G1.av)),(1023,.iter (DM Slot.kv Box.av m.on) m.on.l.length (d++[i])),(1022,.box 103 (Box.cs a.2))] 1021 rfl rfl rfl ⟨⟨_,rfl,.vec⟩,⟨_,rfl,.vec⟩,⟨_,rfl,.iter rfl⟩,⟨_,rfl,.boxEq rfl rfl⟩,ø⟩ rfl ?_
  refine fzQ [(3,.vec 1020 c.length 4 c.length),(4,Ek a.1),(5,Ei a.2),(13,.it 1023)] [(1019,.vec 64 4 (([]:List G1).length) (([]:List G1).map G1.av)),(1020,.vec 64 4 c.length (c.map G1.av)),(1023,.iter (DM Slot.kv Box.av m.on) m.on.l.length (d++[i]))] 1022 rfl rfl rfl ⟨⟨_,rfl,.vec⟩,⟨_,rfl,.vec⟩,⟨_,rfl,.iter rfl⟩,ø⟩ rfl (G2 ?_)
  refine JLm (.vec 1020 c.length 4 c.length) O (JLh (Ei a.2) (Ga Qo O O O) O (JLh (I64 a.2.ID) (Gg Gb O O O) O (JLh (.agg (Slot.cs a.1)) (Gk J0 O O O) O (JLh (.agg [I64 a.2.ID,I64 a.1.G3,I64 a.1.Tier,U8 a.1.Half]) (He (cs:=[I64 a.2.ID,I64 a.1.G3,I64 a.1.Tier,U8 a.1.Half]) [(0,1),(1,3)] [I64 0,I64 0,I64 0,U8 0] [E0,E0,E0,.int .u8 0] G2b G86 (zzQ O) O O) O (JLh (E1 [(G1.mk a.2.ID a.1)]) (Hd (xs:=[.agg [I64 a.2.ID,I64 a.1.G3,I64 a.1.Tier,U8 a.1.Half]]) O ⟨O,O,ø⟩ H1 Jx O O O O) O ?_)))))
  obtain⟨a0,h⟩:=Jf h
  refine JLh (.vec 1020 ((c++[(G1.mk a.2.ID a.1)]).length) 4 ((c++[(G1.mk a.2.ID a.1)]).length)) (G41 (f:=G1.av) (xs:=c) (ys:=[(G1.mk a.2.ID a.1)]) (ver:=c.length) (ver1:=(c++[(G1.mk a.2.ID a.1)]).length) rfl rfl rfl rfl H1 Gd4 a0 (fun _=>rfl) (.inl rfl) (by simp)) O (JLm (.vec 1020 ((c++[(G1.mk a.2.ID a.1)]).length) 4 ((c++[(G1.mk a.2.ID a.1)]).length)) O (G5 (b1 _ _ (d++[i]) (c++[(G1.mk a.2.ID a.1)]) (o _ (M7 h).symm) (Ga1 (M5 g).1 n) ⟨(.sm O O),⟨⟨_,O,.vec⟩,⟨_,O,.vec⟩,⟨_,O,.iter O⟩,ø⟩,O⟩)))
 ·
  obtain⟨p_,h,hp⟩:=j.done x
  replace h:=app1 t h
  refine JLh (BL false) (H3 O O O) O (G5 (k (Js fun b3=>G24 O (Hq (a8 (Jr fun a1=>(JLm (.vec 1020 c.length 4 c.length) O ?_)))))))
  obtain⟨s,a2,h⟩:=Ge h
  refine JLh (.tup []) (Y71 (f:=G1.av) (cmp:=(fun z0 z1=>Rn z0 z1)) (xs:=c) (r:=s) G1.vs O Q9a Q21 (fun _=>O) (fun _=>O) (fun _=>Yeb O) J8c Q85 O O O O O a2 (fun z0 z1 q hq=>H58 z0 z1 q hq) O) O (G5 (a1 (Jr fun a3=>(JLm (.vec 1020 c.length 4 c.length) O (JLm (.vec 1020 c.length 4 c.length) O (G5 (a3 (G43 2 O O (fun hn_=>Gs (⟨[.vec 1020 c.length 4 c.length],[(1020,.vec 64 4 c.length (s.map G1.av))],⟨⟨_,O,.vec⟩,ø⟩,O,⟨⟨_,O,.conv (.same O)⟩,ø⟩,c.length,s,Eq.mpr (M7 h) hp,congrArg (fun n_:Nat=>(.vec 1020 c.length 4 n_:AV)) (hn_.trans (Mm _)),O⟩))))))))))
theorem J9e (S_:(Gc)→Option (List G1)) (hS_:∀ m r,S_ m=some r→∃ p:Prop,G08 m (fun r_=>r_=r)=some p∧p) (m:Gc) (r:(List G1)) (h:S_ m=some r):J3 En 19 [.dptr (Gc.cs m)] [] (fun av L'=>∃ p:Nat,av=.vec 1020 p 4 r.length∧L'=[(1020,.vec 64 4 p (r.map G1.av))]):=by
 obtain⟨p,a,b⟩:=hS_ m r h
 exact(J9f m _ p a b).mono (fun av L hh=>by obtain⟨q,r_,rfl,ha,hb⟩:=hh; exact⟨q,ha,hb⟩)


theorem H8c (m:Gc) (r:(List Int)) (h:Yx m=some r):J3 En 22 [.dptr (Gc.cs m)] [] (fun av L'=>∃ p:Nat,av=.vec 1194 p 1 r.length∧L'=[(1194,.vec 3 1 p (r.map I64))]):=by
 unfold Yx at h
 refine Jj [] [.tmp 2] Tryz.func22 O O (G0d O) (Jr fun d=>(JLh (.vec 1025 (([]:List Int).length) 1 (([]:List Int).length)) (G7d 1025 3 1 O O O) O (G5 (d (Js fun e=>Jr fun f=>(JLm (Eg m) O (JLh (BL true) (Gw O (Rm m true O) G5d ⟨O,O,ø⟩) O (JLh (BL false) (Yc (b:=true) O O) O (G5 (f (G24 O (Gn (e (Jr fun g=>(JLm (Eg m) O (JLh (Eg m) (G63 O O) O (JLh (.dptr ((Gc.cs m).drop 14)) (Ga G3c O O O) O (JLh (DM Ks Box.av m.quay) (Gg G2a O O O) O ?_))))))))))))))))))
 obtain⟨k,i,h⟩:=Ge h
 refine JLh (.fn 96 [.dptr [DM Ks Box.av m.quay]]) (Gw O (G9f m.quay k i) Q83 ⟨O,O,ø⟩) O ?_
 obtain⟨a,j,h⟩:=Ge h
 refine Yb O O O (Gcf (args:=[.fn 96 [.dptr [DM Ks Box.av m.quay]]]) (L0:=[]) (u:=fun p=>.vec 1194 p 1 a.length) (Lr:=fun p=>[(1194,.vec 3 1 p (a.map I64))]) O (H10.down (Gu.keys m.quay) 96 [.dptr [DM Ks Box.av m.quay]] Q75 O (G6c m.quay) a j) Hea ⟨.inl O,O,ø⟩ ø O (fun _=>O)) ?_
 rintro u_ L_ ⟨c,rfl,rfl⟩
 refine JLm (.vec 1194 c 1 a.length) O (G5 (g (G43 2 O O (fun hn_=>Gs ?_))))
 obtain rfl:=M7 h
 exact⟨[.vec 1194 c 1 a.length],[(1194,.vec 3 1 c (a.map I64))],⟨⟨_,O,.vec⟩,ø⟩,O,⟨⟨_,O,.conv (.same O)⟩,ø⟩,c,congrArg (fun n_:Nat=>(.vec 1194 c 1 n_:AV)) (hn_.trans (Mm _)),O⟩


theorem Hda (m:Gc) (r:(List Int)) (h:Zu m=some r):J3 En 20 [.dptr (Gc.cs m)] [] (fun av L'=>∃ p:Nat,av=.vec 1194 p 1 r.length∧L'=[(1194,.vec 3 1 p (r.map I64))]):=by
 unfold Zu at h
 refine Jj [] [.tmp 2] Tryz.func20 O O (G0d O) (Jr fun d=>(JLh (.vec 1024 (([]:List Int).length) 1 (([]:List Int).length)) (G7d 1024 3 1 O O O) O (G5 (d (Js fun e=>Jr fun f=>(JLm (Eg m) O (JLh (BL true) (Gw O (Rm m true O) G5d ⟨O,O,ø⟩) O (JLh (BL false) (Yc (b:=true) O O) O (G5 (f (G24 O (Gn (e (Jr fun g=>(JLm (Eg m) O (JLh (Eg m) (G63 O O) O (JLh (.dptr ((Gc.cs m).drop 15)) (Ga G74 O O O) O (JLh (DM Ks I64 m.open_) (Gg G5b O O O) O ?_))))))))))))))))))
 obtain⟨k,i,h⟩:=Ge h
 refine JLh (.fn 95 [.dptr [DM Ks I64 m.open_]]) (Gw O (Gec m.open_ k i) Q84 ⟨O,O,ø⟩) O ?_
 obtain⟨a,j,h⟩:=Ge h
 refine Yb O O O (Gcf (args:=[.fn 95 [.dptr [DM Ks I64 m.open_]]]) (L0:=[]) (u:=fun p=>.vec 1194 p 1 a.length) (Lr:=fun p=>[(1194,.vec 3 1 p (a.map I64))]) O (H10.down (Gu.keys m.open_) 95 [.dptr [DM Ks I64 m.open_]] Q76 O (Gb7 m.open_) a j) Hea ⟨.inl O,O,ø⟩ ø O (fun _=>O)) ?_
 rintro u_ L_ ⟨c,rfl,rfl⟩
 refine JLm (.vec 1194 c 1 a.length) O (G5 (g (G43 2 O O (fun hn_=>Gs ?_))))
 obtain rfl:=M7 h
 exact⟨[.vec 1194 c 1 a.length],[(1194,.vec 3 1 c (a.map I64))],⟨⟨_,O,.vec⟩,ø⟩,O,⟨⟨_,O,.conv (.same O)⟩,ø⟩,c,congrArg (fun n_:Nat=>(.vec 1194 c 1 n_:AV)) (hn_.trans (Mm _)),O⟩

def H00 (l:List G1):Option (List Slot):=
 each (fun b d (a:(List Slot)) c=>
  need (decide ((a.length+[b.Slot].length)*24≤140737488355328∧a.length+[b.Slot].length≤maxLen)) <|
  c (a++[b.Slot]))
 (fun(a:(List Slot))=>
  some a) l 0 []
theorem Qd5 (l:List G1) (r:(List Slot)) (h:H00 l=some r):Pure En 61 [E1 l] (·=E9 r):=by
 unfold H00 at h
 refine Gx [.tmp 2] Tryz.func61 O O (Jr fun v=>(JLh (E9 ([]:List Slot)) (Ji 3 O O) O (G5 (v (Jr fun w=>(JLh (OW 1116 3 Slot.av ([]:List Slot)) (H4b 1116 57 3 O O O) O (G5 (w (Js fun x=>Jr fun z=>(JLm (E1 l) O (JLl H1 O O O fun a0=>(JLm (I64 0) O (G5 (z (Gq ?_)))))))))))))))
 obtain⟨a1,i,j,g,h⟩:=Jd h
 refine Hn (fun c (a:(List Slot))=>each a1 i (List.drop c l) c a=some r) (fun c a=>[(3,OW 1116 3 Slot.av a),(6,E1 l),(7,Em l.length),(8,Em c)]) (fun c a=>[(1116,.spare 57 3 a.length a.length)]) (fun c=>l.length - c) 0 [] h ⟨(.sm O O),⟨⟨_,rfl,.same⟩,ø⟩,rfl⟩ ?_
 clear h
 intro c a d a4 a2
 refine Jr fun k=>(JLh (BL (decide ((c:Int) < (l.length:Int)))) (Jq O O O) O (G5 (k (Js fun m=>Gr O (fun hb=>?_) (fun hb=>?_)))))
 ·
  have e:=Q5 hb
  obtain⟨b,a3,n,o,h⟩:=Hu d e
  replace h:=Zg j h
  refine Gn (m (Js fun p=>Gq (Jr fun q=>(JLh (Eh b) (Hg (f:=G1.av) (xs:=l) (y:=b) O O O H1 n O) O (JLh (.agg (G1.cs b)) (Gk Qd O O O) O (JLh (.ptr 1117 0) (Hm 1117 4 Jx O O) O (Ho (u:=.junk) (H7 (u:=.agg (G1.cs b)) (ds:=[I64 b.Box,I64 b.Slot.G3,I64 b.Slot.Tier,U8 b.Slot.Half]) Rh O O O O O O O O) (G5 (q (fzQ [(3,OW 1116 3 Slot.av a),(5,Eh b),(6,E1 l),(7,Em l.length),(8,Em c)] [(1116,.spare 57 3 a.length a.length)] 1117 rfl rfl rfl ⟨⟨_,rfl,.same⟩,ø⟩ rfl (G2 ?_)))))))))))
  refine JLm (OW 1116 3 Slot.av a) O (JLh (.dptr ((G1.cs b).drop 1)) (Ga Jm O O O) O (JLh (.agg ((G1.cs b).drop 1)) (Gk J0 O O O) O (JLh (E9 [b.Slot]) (Hd (xs:=[.agg ((G1.cs b).drop 1)]) O ⟨O,O,ø⟩ Y4 Rc O O O O) O ?_)))
  obtain⟨s,h⟩:=Jf h
  refine JLh (OW 1116 3 Slot.av (a++[b.Slot])) (Y7 (f:=Slot.av) (xs:=a) (ys:=[b.Slot]) O O O O Y4 J85 s (fun _=>O) (.inl O) O) O (JLm (OW 1116 3 Slot.av (a++[b.Slot])) O (G5 (p (G2 (JLh (I64 ((c+1:Nat):Int)) (Jb (Hp e a0) O O O) O (JLm (I64 ((c+1:Nat):Int)) O (G5 (a2 _ _ (c+1) (a++[b.Slot]) (app1 o h) (by omega) ⟨(.sm O O),⟨⟨_,rfl,.same⟩,ø⟩,rfl⟩))))))))
 ·
  have h:=app1 g (Hv d (Hj hb))
  refine Hq (x (Jr fun t=>(JLm (OW 1116 3 Slot.av a) O (JLm (OW 1116 3 Slot.av a) O (G5 (t (Gs (fin1l (fun r:(List Slot)=>(E9 r:AV)) h))))))))

def H45 (b:Box):Option Int:=
 bif b.High then
 (some 2896)
 else
 (some 2591)
theorem Qfa (b:Box) (r:Int) (h:H45 b=some r):Pure En 145 [.agg (Box.cs b)] (·=I64 r):=by
 unfold H45 at h
 refine Gx [.tmp 2] Tryz.func145 O O (Jr fun a=>(JLh (.ptr 1199 0) (Q2 (cs:=(Box.cs b)) 1199 O O O O O) O (JLm (I64 0) O (G5 (a (Gp [(1,Ei b)] [] 1199 rfl rfl rfl ø rfl (by exact⟨.ptr,ø⟩) (Js fun c=>Jr fun d=>(JLh (.dptr ((Box.cs b).drop 3)) (Ga H6e O O O) O (JLh (BL b.High) (Gg Qb O O O) O (G5 (d (JCc O h (fun h hb=>?_) (fun h hb=>?_)))))))))))))
 ·
  refine Jr fun e=>(JLm (I64 2896) O (G5 (e (Gs (fin1 I64 h)))))
 ·
  refine Gn (c (Jr fun f=>(JLm (I64 2591) O (G5 (f (Gs (fin1 I64 h)))))))

def G77 (boxes:List Box) (l:List G1) (column:Int) (half:Int):Option Int:=
 each (fun c i (a:Int) e=>
  jp (fun b=>
   bif ((decide (c.Slot.G3=column))&&((decide (c.Slot.Half=half))||(decide (c.Slot.Half=0)))) then
   (bnd (G92 boxes c.Box) fun d=>
    bif d.2 then
    (bnd (H45 d.1) fun f=>
     chk (a+f) fun g=>
     b g)
    else
    (b a))
   else
   (b a)) fun(h:Int)=>
  e h)
 (fun(a:Int)=>
  some a) l 0 0
theorem J0b (boxes:List Box) (l:List G1) (column:Int) (half:Int) (r:Int) (h:G77 boxes l column half=some r):Pure En 117 [E7 boxes,E1 l,I64 column,U8 half] (·=I64 r):=by
 unfold G77 at h
 refine Gx [.tmp 8] Tryz.func117 O O (Jr fun a7=>(JLm (I64 0) O (G5 (a7 (Jr fun a8=>(JLm (I64 0) O (G5 (a8 (Js fun a9=>Jr fun b0=>(JLm (E1 l) O (JLl H1 O O O fun o=>(JLm (I64 0) O (G5 (b0 (Gq ?_)))))))))))))))
 obtain⟨b1,p,q,k,h⟩:=Jd h
 refine Hn (fun b (d:Int)=>each b1 p (List.drop b l) b d=some r) (fun b d=>[(0,E7 boxes),(2,I64 column),(3,U8 half),(9,I64 d),(14,E1 l),(15,Em l.length),(16,Em b)]) (fun b d=>[]) (fun b=>l.length - b) 0 0 h ⟨(.sm O O),ø,rfl⟩ ?_
 clear h
 intro b d g b4 b2
 refine Jr fun s=>(JLh (BL (decide ((b:Int) < (l.length:Int)))) (Jq O O O) O (G5 (s (Js fun t=>Gr O (fun hb=>?_) (fun hb=>?_)))))
 ·
  have i:=Q5 hb
  obtain⟨a,b3,v,w,h⟩:=Hu g i
  replace h:=Zg q h
  refine Gn (t ?_)
  obtain⟨x,m,h⟩:=Rv h
  refine Qr (fun e:Int=>x e=some r) (fun e=>[(0,E7 boxes),(2,I64 column),(3,U8 half),(9,I64 e),(14,E1 l),(15,Em l.length),(16,Em b)]) (fun e=>[]) (fun Kj30 ej30=>?_) ?_
  ·
   refine Gq (Jr fun z=>(JLh (Eh a) (Hg (f:=G1.av) (xs:=l) (y:=a) O O O H1 v O) O (JLh (.agg (G1.cs a)) (Gk Qd O O O) O (JLh (.ptr 1178 0) (Hm 1178 4 Jx O O) O (Ho (u:=.junk) (H7 (u:=.agg (G1.cs a)) (ds:=[I64 a.Box,I64 a.Slot.G3,I64 a.Slot.Tier,U8 a.Slot.Half]) Rh O O O O O O O O) (G5 (z (fzQ [(0,E7 boxes),(2,I64 column),(3,U8 half),(9,I64 d),(11,Eh a),(14,E1 l),(15,Em l.length),(16,Em b)] [] 1178 rfl rfl rfl ø rfl ?_))))))))
   refine Jr fun a0=>(JLh (.dptr ((G1.cs a).drop 1)) (Ga Jm O O O) O (JLh (.dptr ((G1.cs a).drop 1)) (Ga J4 O O O) O (JLh (I64 a.Slot.G3) (Gg Gb O O O) O (JLm (I64 column) O (JLh (BL (decide (a.Slot.G3=column))) (Qm O O O) O (JLm (BL (decide (a.Slot.G3=column))) O (JLo (.dptr ((G1.cs a).drop 1)) [] O .sct ø (fun hc=>Ga Jm O O O) O (JLo (.dptr [U8 a.Slot.Half]) [26] O .sct ⟨Ua,ø⟩ (fun hc=>Ga Qu O O O) O (JLo (U8 a.Slot.Half) [27] O .sct ⟨Ua,ø⟩ (fun hc=>Gg Ht O O O) O (JLo (U8 half) [] O .sct ø (fun hc=>G6 O O) O (JLo (BL (decide (a.Slot.Half=half))) [28,29] O .sct ⟨Ua,Ua,ø⟩ (fun hc=>Qm O O O) O (JLo (BL (decide (a.Slot.Half=half))) [30] O .sct ⟨Ua,ø⟩ (fun hc=>G6 O O) O (JLo (.dptr ((G1.cs a).drop 1)) [] O .optf ø (fun hc=>Ga Jm O O O) O ?_)))))))))))))
   refine JLo (.dptr [U8 a.Slot.Half]) [32] O .optf ⟨Ua,ø⟩ (fun hc=>Ga Qu O O O) O (JLo (U8 a.Slot.Half) [33] O .optf ⟨Ua,ø⟩ (fun hc=>Gg Ht O O O) O (JLo (BL (decide (a.Slot.Half=0))) [34] O .optf ⟨Ua,ø⟩ (fun hc=>Qm O O O) O (Gj (u:=BL ((decide (a.Slot.Half=half))||(decide (a.Slot.Half=0)))) [(31,BL (decide (a.Slot.Half=half))),(35,_)] O O O .sct ⟨.all id,.part,ø⟩ (fun hc=>G7e O O O O) ?_)))
   refine JLh (BL ((decide (a.Slot.G3=column))&&((decide (a.Slot.Half=half))||(decide (a.Slot.Half=0))))) (Y3 O O O O) O (G5 (a0 (JCc O h (fun h hb=>?_) (fun h hb=>?_))))
   ·
    refine Jr fun a1=>(JLm (E7 boxes) O (JLh (Eh a) (Ga J7 O O O) O (JLh (I64 a.Box) (Gg Gb O O O) O ?_)))
    obtain⟨c,a2,h⟩:=Ge h
    refine JLh (.tup [.agg (Box.cs c.1),BL c.2]) (Gw O (Hc1 boxes a.Box c a2) J8b ⟨O,O,O,O,ø⟩) O (JLm (.tup [.agg (Box.cs c.1),BL c.2]) O (JLh (.agg (Box.cs c.1)) (H3 O O O) O (JLh (BL c.2) (H3 O O O) O (JLh (.ptr 1179 0) (Hm 1179 9 Qw O O) O (Ho (u:=.junk) (H7 (u:=.agg (Box.cs c.1)) (ds:=(Box.cs c.1)) Rf O O O O O O O O) (JLm (BL c.2) O (G5 (a1 ?_))))))))
    refine fzQ [(0,E7 boxes),(2,I64 column),(3,U8 half),(9,I64 d),(12,Ei c.1),(13,BL c.2),(14,E1 l),(15,Em l.length),(16,Em b)] [] 1179 rfl rfl rfl ø rfl (Jr fun a3=>(JLm (BL c.2) O (G5 (a3 (JCc O h (fun h hb=>?_) (fun h hb=>?_))))))
    ·
     refine G2 (JLm (I64 d) O (JLh (.agg (Box.cs c.1)) (Gk R3 O O O) O ?_))
     obtain⟨n,a4,h⟩:=Ge h
     refine JLh (I64 n) (Gw O (Qfa c.1 n a4) R7d ⟨O,O,ø⟩) O ?_
     obtain⟨j,a5,h⟩:=J6 h
     refine JLh (I64 j) (Jb a5 O O O) O (JLm (I64 j) O (G5 (ej30 _ _ j h ⟨(.sm O O),ø,rfl⟩)))
    ·
     refine Gn (ej30 _ _ d h ⟨(.sm O O),ø,rfl⟩)
   ·
    refine Gn (ej30 _ _ d h ⟨(.sm O O),ø,rfl⟩)
  ·intro e h
   replace h:=app1 m h
   refine G2 (JLh (I64 ((b+1:Nat):Int)) (Jb (Hp i o) O O O) O (JLm (I64 ((b+1:Nat):Int)) O (G5 (b2 _ _ (b+1) e (app1 w h) (by omega) ⟨(.sm O O),ø,rfl⟩))))
 ·
  have h:=app1 k (Hv g (Hj hb))
  refine Hq (a9 (Jr fun a6=>(JLm (I64 d) O (JLm (I64 d) O (G5 (a6 (Gs (fin1 I64 h))))))))

def H46 (s:Gh) (boxes:List Box) (l:List G1) (column:Int):Option Bool:=
 Qy s.Columns column fun a=>
 bnd (bif (!(decide (a.Height≤0))) then G77 boxes l column 1 else some default) fun b=>
 bnd (bif ((!(decide (a.Height≤0)))&&(decide (b≤a.Height))) then G77 boxes l column 2 else some default) fun c=>
 some ((decide (a.Height≤0))||((decide (b≤a.Height))&&(decide (c≤a.Height))))
theorem Qfb (s:Gh) (boxes:List Box) (l:List G1) (column:Int) (r:Bool) (h:H46 s boxes l column=some r):Pure En 66 [.agg (Gh.cs s),E7 boxes,E1 l,I64 column] (·=BL r):=by
 unfold H46 at h
 refine Gx [.tmp 8] Tryz.func66 O O (Jr fun d=>(JLh (.ptr 1126 0) (Q2 (cs:=(Gh.cs s)) 1126 O O O O O) O (JLm (BL false) O (G5 (d (fzQ [(1,E7 boxes),(2,E1 l),(3,I64 column),(4,Ee s)] [] 1126 rfl rfl rfl ø rfl (Jr fun e=>(JLh (Ee s) (Ga J5 O O O) O (JLh (E3 s.Columns) (Gg Jn O O O) O (JLm (I64 column) O ?_))))))))))
 obtain⟨n,a,g,i,h⟩:=Zs h
 refine JLh (Ej a) (Hg (f:=G3.av) (xs:=s.Columns) (y:=a) O O O Hx i g) O (JLh (.dptr ((G3.cs a).drop 4)) (Ga Hb8 O O O) O (JLh (I64 a.Height) (Gg Gb O O O) O (JLm (I64 a.Height) O (G5 (e (Jr fun j=>(JLm (I64 a.Height) O (JLh (BL (decide (a.Height≤0))) (Hb5 O O O) O (JLm (BL (decide (a.Height≤0))) O (JLo (E7 boxes) [] O .scf ø (fun hc=>G6 O O) O (JLo (E1 l) [] O .scf ø (fun hc=>G6 O O) O (JLo (I64 column) [] O .scf ø (fun hc=>G6 O O) O ?_))))))))))))
 obtain⟨b,k,h⟩:=Ge h
 refine JLo (I64 b) [19,20,21] O .scf ⟨Ua,Ua,Ua,ø⟩ (fun hc=>Gw (args:=[E7 boxes,E1 l,I64 column,U8 1]) O (J0b boxes l column 1 b (H5 hc k)) Q17 ⟨O,O,O,O,O,O,O,O,ø⟩) O (JLo (I64 a.Height) [] O .scf ø (fun hc=>G6 O O) O (JLo (BL (decide (b≤a.Height))) [22,23] O .scf ⟨Ua,Ua,ø⟩ (fun hc=>Hb5 O O O) O (JLo (BL (decide (b≤a.Height))) [24] O .scf ⟨Ua,ø⟩ (fun hc=>G6 O O) O (JLo (E7 boxes) [] O .optt ø (fun hc=>G6 O O) O (JLo (E1 l) [] O .optt ø (fun hc=>G6 O O) O (JLo (I64 column) [] O .optt ø (fun hc=>G6 O O) O ?_))))))
 obtain⟨c,m,h⟩:=Ge h
 refine JLo (I64 c) [26,27,28] O .optt ⟨Ua,Ua,Ua,ø⟩ (fun hc=>Gw (args:=[E7 boxes,E1 l,I64 column,U8 2]) O (J0b boxes l column 2 c (H5 hc m)) Q17 ⟨O,O,O,O,O,O,O,O,ø⟩) O (JLo (I64 a.Height) [] O .optt ø (fun hc=>G6 O O) O (JLo (BL (decide (c≤a.Height))) [29,30] O .optt ⟨Ua,Ua,ø⟩ (fun hc=>Hb5 O O O) O (Gj (u:=BL ((decide (b≤a.Height))&&(decide (c≤a.Height)))) [(25,BL (decide (b≤a.Height))),(31,_)] O O O .scf ⟨.all id,.part,ø⟩ (fun hc=>Y3 O O O O) ?_)))
 refine JLh (BL ((decide (a.Height≤0))||((decide (b≤a.Height))&&(decide (c≤a.Height))))) (G7e O O O O) O (JLm (BL ((decide (a.Height≤0))||((decide (b≤a.Height))&&(decide (c≤a.Height))))) O (G5 (j (Gs (fin1 BL h)))))

def Yn (s:Gh) (boxes:List Box) (l:List G1):Option Bool:=
 bnd (Gab s) fun v=>
 bif (!v) then
 (some false)
 else
 (bnd (H00 l) fun f=>
  each (fun a b (j:Unit) g=>
   bnd (G92 boxes a.Box) fun c=>
   bnd (bif ((!(!c.2))&&(decide (0 < (b:Int)))) then chk ((b:Int) - 1) some else some 0) fun k=>
   bnd (bif ((!(!c.2))&&(decide (0 < (b:Int)))) then Qy l k some else some default) fun d=>
   bnd (bif (!((!c.2)||((decide (0 < (b:Int)))&&(decide (a.Box≤d.Box))))) then G5f s a.Slot c.1.Size else some default) fun e=>
   bnd (bif (!(((!c.2)||((decide (0 < (b:Int)))&&(decide (a.Box≤d.Box))))||(!e))) then G37 a.Slot f else some default) fun m=>
   bif ((((!c.2)||((decide (0 < (b:Int)))&&(decide (a.Box≤d.Box))))||(!e))||(!m)) then
   (some false)
   else
   (bnd (Jbb (b:Int) f.length) fun n=>
    each (fun o w (p:Unit) h=>
     bnd (Gea a.Slot o) fun q=>
     bif q then
     (some false)
     else
     (h ()))
    (fun(p:Unit)=>
     g ()) (f.take n) 0 ()))
  (fun(j:Unit)=>
   each (fun x r (t:Unit) i=>
    bnd (H46 s boxes l (r:Int)) fun u=>
    bif (!u) then
    (some false)
    else
    (i ()))
   (fun(t:Unit)=>
    some true) s.Columns 0 ()) l 0 ())
theorem G91 (s:Gh) (boxes:List Box) (l:List G1) (r:Bool) (h:Yn s boxes l=some r):Pure En 31 [.agg (Gh.cs s),E7 boxes,E1 l] (·=BL r):=by
 unfold Yn at h
 refine Gx [.tmp 6] Tryz.func31 O O (Jr fun f4=>(JLh (.ptr 1047 0) (Q2 (cs:=(Gh.cs s)) 1047 O O O O O) O (JLm (BL false) O (G5 (f4 (Gp [(1,E7 boxes),(2,E1 l),(3,Ee s)] [] 1047 rfl rfl rfl ø rfl (by exact⟨.conv (.same rfl),.conv (.same rfl),.ptr,ø⟩) (Js fun f5=>Jr fun f6=>(JLh (.agg (Gh.cs s)) (Gk Jh O O O) O ?_))))))))
 obtain⟨r4,f7,h⟩:=Ge h
 refine JLh (BL r4) (Gw O (Qd3.down s r4 f7) Rf4 ⟨O,O,ø⟩) O (JLh (BL (!r4)) (Yc (b:=r4) O O) O (G5 (f6 (JCc O h (fun h hb=>?_) (fun h hb=>?_)))))
 ·
  refine Jr fun f8=>(JLm (BL false) O (G5 (f8 (Gs (fin1 BL h)))))
 ·
  refine Gn (f5 (Jr fun f9=>(JLm (E1 l) O ?_)))
  obtain⟨g,g0,h⟩:=Ge h
  refine JLh (E9 g) (Gw O (Qd5 l g g0) Rf3 ⟨O,O,ø⟩) O (JLm (E9 g) O (G5 (f9 (Js fun g1=>Jr fun g2=>(JLm (E1 l) O (JLl H1 O O O fun a8=>(JLm (I64 0) O (G5 (g2 (Gq ?_))))))))))
  obtain⟨g3,a9,b0,a4,h⟩:=Jd h
  refine Hn (fun c (p:Unit)=>each g3 a9 (List.drop c l) c p=some r) (fun c p=>[(1,E7 boxes),(2,E1 l),(3,Ee s),(7,E9 g),(20,E1 l),(21,Em l.length),(22,Em c)]) (fun c p=>[]) (fun c=>l.length - c) 0 () h ⟨(.sm O O),ø,rfl⟩ ?_
  clear h
  intro c p w h4 g4
  refine Jr fun b1=>(JLh (BL (decide ((c:Int) < (l.length:Int)))) (Jq O O O) O (G5 (b1 (Js fun b2=>Gr O (fun hb=>?_) (fun hb=>?_)))))
  ·
   have x:=Q5 hb
   obtain⟨a,h0,b3,b4,h⟩:=Hu w x
   replace h:=Zg b0 h
   refine Gn (b2 (Js fun b5=>Gq (Jr fun b6=>(JLm (Em c) O (JLh (Eh a) (Hg (f:=G1.av) (xs:=l) (y:=a) O O O H1 b3 O) O (JLh (.agg (G1.cs a)) (Gk Qd O O O) O (JLh (.ptr 1048 0) (Hm 1048 4 Jx O O) O (JLm (Em c) O (Ho (u:=.junk) (H7 (u:=.agg (G1.cs a)) (ds:=[I64 a.Box,I64 a.Slot.G3,I64 a.Slot.Tier,U8 a.Slot.Half]) Rh O O O O O O O O) (G5 (b6 (fzQ [(1,E7 boxes),(2,E1 l),(3,Ee s),(7,E9 g),(8,Em c),(9,Eh a),(20,E1 l),(21,Em l.length),(22,Em c)] [] 1048 rfl rfl rfl ø rfl ?_))))))))))))
   refine Jr fun b7=>(JLm (E7 boxes) O (JLh (Eh a) (Ga J7 O O O) O (JLh (I64 a.Box) (Gg Gb O O O) O ?_)))
   obtain⟨d,b8,h⟩:=Ge h
   refine JLh (.tup [.agg (Box.cs d.1),BL d.2]) (Gw O (Hc1 boxes a.Box d b8) J8b ⟨O,O,O,O,ø⟩) O (JLm (.tup [.agg (Box.cs d.1),BL d.2]) O (JLh (.agg (Box.cs d.1)) (H3 O O O) O (JLh (BL d.2) (H3 O O O) O (JLh (.ptr 1049 0) (Hm 1049 9 Qw O O) O (Ho (u:=.junk) (H7 (u:=.agg (Box.cs d.1)) (ds:=(Box.cs d.1)) Rf O O O O O O O O) (JLm (BL d.2) O (G5 (b7 ?_))))))))
   refine fzQ [(1,E7 boxes),(2,E1 l),(3,Ee s),(7,E9 g),(8,Em c),(9,Eh a),(10,Ei d.1),(11,BL d.2),(20,E1 l),(21,Em l.length),(22,Em c)] [] 1049 rfl rfl rfl ø rfl (Js fun b9=>Js fun c0=>?_)
   obtain⟨g5,c1,h⟩:=Ge h
   obtain⟨j,c2,h⟩:=Ge h
   obtain⟨n,c3,h⟩:=Ge h
   obtain⟨o,c4,h⟩:=Ge h
   refine JC_d0 Ja (by kernel_rfl) (Dq (BL d.2) (G6 O O) O (Dq (BL (!d.2)) (Yc (b:=d.2) O O) O (Dq (BL (!d.2)) (G6 O O) O (Do (Em c) [] O .scf ø (fun hc=>G6 O O) O (Do (BL (decide (0 < (c:Int)))) [37] O .scf ⟨Ua,ø⟩ (fun hc=>H0c O O O) O (Do (BL (decide (0 < (c:Int)))) [38] O .scf ⟨Ua,ø⟩ (fun hc=>G6 O O) O (Do (Eh a) [] O .optt ø (fun hc=>Ga J7 O O O) O (Do (I64 a.Box) [40] O .optt ⟨Ua,ø⟩ (fun hc=>Gg Gb O O O) O (Do (E1 l) [] O .optt ø (fun hc=>G6 O O) O (Do (Em c) [] O .optt ø (fun hc=>G6 O O) O (Do (I64 g5) [43] O .optt ⟨Ua,ø⟩ (fun hc=>G85 (Hd5 (H5 hc c1)) O O O) O (Do (Eh j) [42,44] O .optt ⟨Ua,Ua,ø⟩ (fun hc=>(match Ga9 (H5 hc c2) with | ⟨_,hm_,hy_⟩=>Hg (f:=G1.av) (xs:=l) (y:=j) O O O H1 hy_ hm_)) O (Do (Eh j) [45] O .optt ⟨Ua,ø⟩ (fun hc=>Ga J7 O O O) O ?_)))))))))))))
   refine Do (I64 j.Box) [46] O .optt ⟨Ua,ø⟩ (fun hc=>Gg Gb O O O) O (Do (BL (decide (a.Box≤j.Box))) [41,47] O .optt ⟨Ua,Ua,ø⟩ (fun hc=>Hb5 O O O) O (Dg (.opt (!(!d.2)) (BL ((decide (0 < (c:Int)))&&(decide (a.Box≤j.Box))))) (H9 [(39,BL (decide (0 < (c:Int)))),(48,_)] O O O .scf ⟨.all id,.part,ø⟩ (fun hc=>Y3 O O O O) O) O (Dq (BL ((!d.2)||((decide (0 < (c:Int)))&&(decide (a.Box≤j.Box))))) (G7e O O O O) O (Dq (BL ((!d.2)||((decide (0 < (c:Int)))&&(decide (a.Box≤j.Box))))) (G6 O O) O (Do (.agg (Gh.cs s)) [] O .scf ø (fun hc=>Gk Jh O O O) O (Do (.dptr ((G1.cs a).drop 1)) [] O .scf ø (fun hc=>Ga Jm O O O) O (Do (.agg ((G1.cs a).drop 1)) [53] O .scf ⟨Ua,ø⟩ (fun hc=>Gk J0 O O O) O (Do (.dptr ((Box.cs d.1).drop 2)) [] O .scf ø (fun hc=>Ga G1e O O O) O (Do (U8 d.1.Size) [55] O .scf ⟨Ua,ø⟩ (fun hc=>Gg Ht O O O) O (Do (BL n) [52,54,56] O .scf ⟨Ua,Ua,Ua,ø⟩ (fun hc=>Gw (args:=[.agg (Gh.cs s),.agg ((G1.cs a).drop 1),U8 d.1.Size]) O (J41 s a.Slot d.1.Size n (H5 hc c3)) Q7f ⟨O,O,O,O,O,O,ø⟩) O (Do (BL (!n)) [57] O .scf ⟨Ua,ø⟩ (fun hc=>Yc (b:=n) O O) O (Dq (BL (((!d.2)||((decide (0 < (c:Int)))&&(decide (a.Box≤j.Box))))||(!n))) (G7e O O O O) O (Dq (BL (((!d.2)||((decide (0 < (c:Int)))&&(decide (a.Box≤j.Box))))||(!n))) (G6 O O) O ?_)))))))))))))
   refine Do (.dptr ((G1.cs a).drop 1)) [] O .scf ø (fun hc=>Ga Jm O O O) O (Do (.agg ((G1.cs a).drop 1)) [61] O .scf ⟨Ua,ø⟩ (fun hc=>Gk J0 O O O) O (Do (E9 g) [] O .scf ø (fun hc=>G6 O O) O (Do (BL o) [62,63] O .scf ⟨Ua,Ua,ø⟩ (fun hc=>Gw (args:=[.agg ((G1.cs a).drop 1),E9 g]) O (J7c a.Slot g o (H5 hc c4)) Q7e ⟨O,O,O,O,ø⟩) O (Do (BL (!o)) [64] O .scf ⟨Ua,ø⟩ (fun hc=>Yc (b:=o) O O) O (Dq (BL ((((!d.2)||((decide (0 < (c:Int)))&&(decide (a.Box≤j.Box))))||(!n))||(!o))) (G7e O O O O) O (Dnil (c0 (JCc O h (fun h hb=>?_) (fun h hb=>?_)))))))))
   ·
    refine Jr fun c5=>(JLm (BL false) O (G5 (c5 (Gs (fin1 BL h)))))
   ·
    refine Gn (b9 (Jr fun c6=>(JLm (E9 g) O (JLm (Em c) O ?_))))
    obtain⟨m,c7,h⟩:=Ge h
    refine JLh (E9 (g.take m)) (Ja2 (f:=Slot.av) (xs:=g) O O O Y4 (Hca c7)) O (JLl Y4 O O O fun c8=>(JLm (I64 0) O (G5 (c6 (Gq ?_)))))
    obtain⟨g6,c9,d0,a5,h⟩:=Jd h
    refine Hn (fun i (q:Unit)=>each g6 c9 (List.drop i (g.take m)) i q=some r) (fun i q=>[(1,E7 boxes),(2,E1 l),(3,Ee s),(7,E9 g),(9,Eh a),(20,E1 l),(21,Em l.length),(22,Em c),(69,E9 (g.take m)),(70,I64 ((g.take m).length:Int)),(71,Em i)]) (fun i q=>[]) (fun i=>(g.take m).length - i) 0 () h ⟨(.sm O O),ø,rfl⟩ ?_
    clear h
    intro i q z h5 g7
    refine Jr fun d1=>(JLh (BL (decide ((i:Int) < ((g.take m).length:Int)))) (Jq O O O) O (G5 (d1 (Js fun d2=>Gr O (fun hb=>?_) (fun hb=>?_)))))
    ·
     have a0:=Q5 hb
     obtain⟨k,h1,d3,d4,h⟩:=Hu z a0
     replace h:=Zg d0 h
     refine Gn (d2 (Js fun d5=>Gq (Jr fun d6=>(JLh (Ek k) (Hg (f:=Slot.av) (xs:=(g.take m)) (y:=k) O O O Y4 d3 O) O (JLh (.agg (Slot.cs k)) (Gk J0 O O O) O (JLh (.ptr 1050 0) (Hm 1050 3 Rc O O) O (Ho (u:=.junk) (H7 (u:=.agg (Slot.cs k)) (ds:=[I64 k.G3,I64 k.Tier,U8 k.Half]) Y9 O O O O O O O O) (G5 (d6 (fzQ [(1,E7 boxes),(2,E1 l),(3,Ee s),(7,E9 g),(9,Eh a),(13,Ek k),(20,E1 l),(21,Em l.length),(22,Em c),(69,E9 (g.take m)),(70,I64 ((g.take m).length:Int)),(71,Em i)] [] 1050 rfl rfl rfl ø rfl ?_))))))))))
     refine Jr fun d7=>(JLh (.dptr ((G1.cs a).drop 1)) (Ga Jm O O O) O (JLh (.agg ((G1.cs a).drop 1)) (Gk J0 O O O) O (JLh (.agg (Slot.cs k)) (Gk J0 O O O) O ?_)))
     obtain⟨a7,d8,h⟩:=Ge h
     refine JLh (BL a7) (Gw O (J7b a.Slot k a7 d8) Q7d ⟨O,O,O,O,ø⟩) O (G5 (d7 (JCc O h (fun h hb=>?_) (fun h hb=>?_))))
     ·
      refine Jr fun d9=>(JLm (BL false) O (G5 (d9 (Gs (fin1 BL h)))))
     ·
      refine Gn (d5 (G2 (JLh (I64 ((i+1:Nat):Int)) (Jb (Hp a0 c8) O O O) O (JLm (I64 ((i+1:Nat):Int)) O (G5 (g7 _ _ (i+1) () (app1 d4 h) (by omega) ⟨(.sm O O),ø,rfl⟩))))))
    ·
     have h:=app1 a5 (Hv z (Hj hb))
     refine Hq (b5 (G2 (JLh (I64 ((c+1:Nat):Int)) (Jb (Hp x a8) O O O) O (JLm (I64 ((c+1:Nat):Int)) O (G5 (g4 _ _ (c+1) () (app1 b4 h) (by omega) ⟨(.sm O O),ø,rfl⟩))))))
  ·
   have h:=app1 a4 (Hv w (Hj hb))
   refine Hq (g1 (Js fun e0=>Jr fun e1=>(JLh (Ee s) (Ga J5 O O O) O (JLh (E3 s.Columns) (Gg Jn O O O) O (JLl Hx O O O fun e2=>(JLm (I64 0) O (G5 (e1 (Gq ?_)))))))))
   obtain⟨g8,e3,e4,a6,h⟩:=Jd h
   refine Hn (fun e (t:Unit)=>each g8 e3 (List.drop e s.Columns) e t=some r) (fun e t=>[(1,E7 boxes),(2,E1 l),(3,Ee s),(83,Em s.Columns.length),(84,Em e)]) (fun e t=>[]) (fun e=>s.Columns.length - e) 0 () h ⟨(.sm O O),ø,rfl⟩ ?_
   clear h
   intro e t a1 h6 g9
   refine Jr fun e5=>(JLh (BL (decide ((e:Int) < (s.Columns.length:Int)))) (Jq O O O) O (G5 (e5 (Js fun e6=>Gr O (fun hb=>?_) (fun hb=>?_)))))
   ·
    have a2:=Q5 hb
    obtain⟨h7,h2,h3,e7,h⟩:=Hu a1 a2
    replace h:=Zg e4 h
    refine Gn (e6 (Js fun e8=>Gq (Jr fun e9=>(JLm (Em e) O (JLm (Em e) O (G5 (e9 (Jr fun f0=>(JLh (.agg (Gh.cs s)) (Gk Jh O O O) O (JLm (E7 boxes) O (JLm (E1 l) O (JLm (Em e) O ?_))))))))))))
    obtain⟨v,f1,h⟩:=Ge h
    refine JLh (BL v) (Gw O (Qfb s boxes l (e:Int) v f1) Rf2 ⟨O,O,O,O,O,O,O,O,ø⟩) O (JLh (BL (!v)) (Yc (b:=v) O O) O (G5 (f0 (JCc O h (fun h hb=>?_) (fun h hb=>?_)))))
    ·
     refine Jr fun f2=>(JLm (BL false) O (G5 (f2 (Gs (fin1 BL h)))))
    ·
     refine Gn (e8 (G2 (JLh (I64 ((e+1:Nat):Int)) (Jb (Hp a2 e2) O O O) O (JLm (I64 ((e+1:Nat):Int)) O (G5 (g9 _ _ (e+1) () (app1 e7 h) (by omega) ⟨(.sm O O),ø,rfl⟩))))))
   ·
    have h:=app1 a6 (Hv a1 (Hj hb))
    refine Hq (e0 (Jr fun f3=>(JLm (BL true) O (G5 (f3 (Gs (fin1 BL h)))))))

def Rq (s:List G9):Option (List G9):=
 Y28 s fun a=>
 bif a then
 (some [])
 else
 (need (decide ((([]:List G9).length+s.length)*32≤140737488355328∧([]:List G9).length+s.length≤maxLen)) <|
  some (([]:List G9)++s))
def G79 (x:G1) (a:Int):Option Bool:=
 some (decide (x.Box=a))
theorem Q4a (x:G1) (a:Int) (r:Bool) (h:G79 x a=some r):Pure En 37 [.agg (G1.cs x),.dptr [I64 a]] (·=BL r):=by
 unfold G79 at h
 refine Gx [.tmp 3] Tryz.func37 O O (Jr fun b=>(JLh (.ptr 1066 0) (Q2 (cs:=[I64 x.Box,I64 x.Slot.G3,I64 x.Slot.Tier,U8 x.Slot.Half]) 1066 O O O O O) O (JLm (BL false) O (G5 (b (Gp [(1,.dptr [I64 a]),(2,Eh x)] [] 1066 rfl rfl rfl ø rfl (by exact⟨.conv (.same rfl),.ptr,ø⟩) (Jr fun c=>(JLh (Eh x) (Ga J7 O O O) O (JLh (I64 x.Box) (Gg Gb O O O) O (JLh (I64 a) (Gg Gb O O O) O (JLh (BL (decide (x.Box=a))) (Qm O O O) O (JLm (BL (decide (x.Box=a))) O (G5 (c (Gs (fin1 BL h))))))))))))))))

def Qa (s:List G1) (f:G1→Option Bool):Option Int:=
 each (fun b c (d:Unit) a=>
  bnd (f b) fun e=>
  bif e then
  (some (c:Int))
  else
  (a ()))
 (fun(d:Unit)=>
  some (-1)) s 0 ()
theorem G4c (s:List G1) (f:G1→Option Bool) (f_f:FuncId) (f_c:List AV) (f_B:Gz En f_f=true) (f_d:Q9 (fun _=>false) f_c=true) (f_w:∀ a0 q,f a0=some q→Pure En f_f ([.agg (G1.cs a0)]++f_c) (·=BL q)) (r:Int) (h:Qa s f=some r):Pure En 44 [E1 s,.fn f_f f_c] (·=I64 r):=by
 unfold Qa at h
 refine Gx [.tmp 4] Tryz.func44 O O (Jr fun x=>(JLm (I64 0) O (G5 (x (Js fun z=>Jr fun a1=>(JLm (E1 s) O (JLl H1 O O O fun a2=>(JLm (I64 0) O (G5 (a1 (Gq ?_)))))))))))
 obtain⟨a3,i,j,g,h⟩:=Jd h
 refine Hn (fun a (c:Unit)=>each a3 i (List.drop a s) a c=some r) (fun a c=>[(0,E1 s),(1,.fn f_f f_c),(7,Em s.length),(8,Em a)]) (fun a c=>[]) (fun a=>s.length - a) 0 () h ⟨⟨.same O,.same (Hf _ _ f_d),.same O,.same O,ø⟩,ø,O⟩ ?_
 clear h
 intro a c d a7 a4
 refine Jr fun k=>(JLh (BL (decide ((a:Int) < (s.length:Int)))) (Jq O O O) O (G5 (k (Js fun l=>Gr O (fun hb=>?_) (fun hb=>?_)))))
 ·
  have e:=Q5 hb
  obtain⟨b,a6,m,n,h⟩:=Hu d e
  replace h:=Zg j h
  refine Gn (l (Js fun o=>Gq (Jr fun p=>(JLm (Em a) O (JLm (Em a) O (G5 (p (Jr fun t=>(JLm (.fn f_f f_c) O (JLm (E1 s) O (JLm (Em a) O (JLh (Eh b) (Hg (f:=G1.av) (xs:=s) (y:=b) O O O H1 m O) O (JLh (.agg (G1.cs b)) (Gk Qd O O O) O ?_)))))))))))))
  obtain⟨a5,u,h⟩:=Ge h
  refine JLh (BL a5) (G11 (args:=[.agg (G1.cs b)]) (caps:=f_c) O O (f_w b _ u) f_B ⟨O,O,ø⟩ f_d) O (G5 (t (JCc O h (fun h hb=>?_) (fun h hb=>?_))))
  ·
   refine Jr fun v=>(JLm (Em a) O (JLm (Em a) O (G5 (v (Gs (fin1 I64 h))))))
  ·
   refine Gn (o (G2 (JLh (I64 ((a+1:Nat):Int)) (Jb (Hp e a2) O O O) O (JLm (I64 ((a+1:Nat):Int)) O (G5 (a4 _ _ (a+1) () (app1 n h) (by omega) ⟨⟨.same rfl,.same (Hf _ _ f_d),.same rfl,.same rfl,ø⟩,ø,rfl⟩))))))
 ·
  have h:=app1 g (Hv d (Hj hb))
  refine Hq (z (Jr fun w=>(JLm (I64 (-1)) O (G5 (w (Gs (fin1 I64 h)))))))

def J9 (s:List G1) (f:G1→Option Bool):Option Bool:=
 bnd (Qa s f) fun a=>
 some (decide (0≤a))
theorem G25 (s:List G1) (f:G1→Option Bool) (f_f:FuncId) (f_c:List AV) (f_B:Gz En f_f=true) (f_d:Q9 (fun _=>false) f_c=true) (f_w:∀ a0 q,f a0=some q→Pure En f_f ([.agg (G1.cs a0)]++f_c) (·=BL q)) (r:Bool) (h:J9 s f=some r):Pure En 14 [E1 s,.fn f_f f_c] (·=BL r):=by
 unfold J9 at h
 refine Gx [.tmp 4] Tryz.func14 O O (Jr fun b=>(JLm (BL false) O (G5 (b (Jr fun c=>(JLm (E1 s) O (JLm (.fn f_f f_c) O ?_)))))))
 obtain⟨a,d,h⟩:=Ge h
 refine JLh (I64 a) (Gw O (G4c s f f_f f_c f_B f_d f_w a d) Q86 ⟨O,O,O,f_d,ø⟩) O (JLh (BL (decide (0≤a))) (H13 O O O) O (JLm (BL (decide (0≤a))) O (G5 (c (Gs (fin1 BL h))))))


theorem H99 (s:List G9) (r:(List G9)) (h:Rq s=some r):J3 En 34 [E8 s] [] (fun av L'=>∃ p:Nat,av=.vec 1062 p 2 r.length∧L'=[(1062,.vec 100 2 p (r.map G9.av))]):=by
 unfold Rq at h
 refine Jj [] [.tmp 2] Tryz.func34 O O (G0d O) (Jr fun a=>(JLh (.vec 1062 (([]:List G9).length) 2 (([]:List G9).length)) (G7d 1062 100 2 O O O) O (G5 (a (Js fun b=>Jr fun c=>(JLm (E8 s) O (Yb O O O (J67 Qi O O) ?_)))))))
 rintro u_ L_ ⟨j,d,rfl,rfl⟩
 replace h:=Hc9 h j d
 refine G5 (c (JCc O h (fun h hb=>?_) (fun h hb=>?_)))
 ·
  refine Jr fun e=>(JLh (.vec 1062 ((([]:List G9).length)+1) 2 (([]:List G9).length)) (R62 1062 100 2 O O O) O (G5 (e (G43 2 O O (fun hn_=>Gs ?_)))))
  obtain rfl:=M7 h
  exact⟨[.vec 1062 ((([]:List G9).length)+1) 2 (([]:List G9).length)],[(1062,.vec 100 2 ((([]:List G9).length)+1) (([]:List G9).map G9.av))],⟨⟨_,O,.vec⟩,ø⟩,O,⟨⟨_,O,.conv (.same O)⟩,ø⟩,((([]:List G9).length)+1),congrArg (fun n_:Nat=>(.vec 1062 ((([]:List G9).length)+1) 2 n_:AV)) (hn_.trans O),O⟩
 ·
  refine Gn (b (Jr fun g=>(JLh (.vec 1062 ((([]:List G9).length)+1) 2 (([]:List G9).length)) (R63 1062 100 2 O O Qi) O (JLm (E8 s) O ?_))))
  obtain⟨i,h⟩:=Jf h
  refine JLh (.vec 1062 (((([]:List G9).length)+1)+((([]:List G9)++s).length+1)) 2 ((([]:List G9)++s).length)) (G41 (f:=G9.av) (xs:=([]:List G9)) (ys:=s) (ver:=((([]:List G9).length)+1)) (ver1:=(((([]:List G9).length)+1)+((([]:List G9)++s).length+1))) rfl rfl rfl rfl Qi H9f i (fun _=>rfl) (.inl rfl) (by simp)) O (JLm (.vec 1062 (((([]:List G9).length)+1)+((([]:List G9)++s).length+1)) 2 ((([]:List G9)++s).length)) O (G5 (g (G43 2 O O (fun hn_=>Gs ?_)))))
  obtain rfl:=M7 h
  exact⟨[.vec 1062 (((([]:List G9).length)+1)+((([]:List G9)++s).length+1)) 2 ((([]:List G9)++s).length)],[(1062,.vec 100 2 (((([]:List G9).length)+1)+((([]:List G9)++s).length+1)) ((([]:List G9)++s).map G9.av))],⟨⟨_,O,.vec⟩,ø⟩,O,⟨⟨_,O,.conv (.same O)⟩,ø⟩,(((([]:List G9).length)+1)+((([]:List G9)++s).length+1)),congrArg (fun n_:Nat=>(.vec 1062 (((([]:List G9).length)+1)+((([]:List G9)++s).length+1)) 2 n_:AV)) (hn_.trans (Mm _)),O⟩

def Geb (s:Gh) (boxes:List Box) (state:List G1) (ashore:List Int):Option (Gc×Int):=
 bnd (Yn s boxes state) fun u=>
 bif (!u) then
 (none)
 else
 (bnd (Rb s.Columns) fun v=>
  bnd (Rq s.Covers) fun o=>
  each (fun w f (e:(List G9)) k=>
   Qy s.Covers (f:Int) fun p=>
   bnd (Yo p.Rows) fun q=>
   Qy e (f:Int) fun r=>
   k (e.set (f:Int).toNat (G9.mk r.Bay q)))
  (fun(e:(List G9))=>
   each (fun j x (g:(Gu Slot Box)) l=>
    bnd (Gdb boxes j.Box) fun t=>
    l (Gu.put g j.Slot t.1))
   (fun(g:(Gu Slot Box))=>
    each (fun a b (d:(Gu Int Box)) i=>
     bnd (Gdb boxes a) fun c=>
     bnd (bif ((!(!c.2))&&(decide (0 < (b:Int)))) then chk ((b:Int) - 1) some else some 0) fun m=>
     bnd (bif ((!(!c.2))&&(decide (0 < (b:Int)))) then Qy ashore m some else some default) fun h=>
     bnd (bif (!((!c.2)||((decide (0 < (b:Int)))&&(decide (a≤h))))) then J9 state (fun z0=>G79 z0 a) else some default) fun n=>
     bif (((!c.2)||((decide (0 < (b:Int)))&&(decide (a≤h))))||n) then
     (none)
     else
     (i (Gu.put d a c.1)))
    (fun(d:(Gu Int Box))=>
     some ((Gc.mk (Gh.mk v e (Light.mk 0 0 0 0) [] [] [] (G8.mk 0 0 0 0)) g d (Gu.empty:Gu Int Int) 0),0)) ashore 0 (Gu.empty:Gu Int Box)) state 0 (Gu.empty:Gu Slot Box)) o 0 o)
abbrev Ka:List AV:=[E3 ([]:List G3),E8 ([]:List G9),I64 0,I64 0,I64 0,I64 0,E4 ([]:List Row),E5 ([]:List Frame),E6 ([]:List H4),I64 0,I64 0,I64 0,I64 0,.mp 1203,.mp 1204,.mp 1205,I64 0]
theorem J7d (s:Gh) (boxes:List Box) (state:List G1) (ashore:List Int) (r:Gc×Int) (h:Geb s boxes state ashore=some r):J3 En 10 [.agg (Gh.cs s),E7 boxes,E1 state,E2 ashore] [] (fun av L'=>av=.tup [.ptr 1202 0,I64 r.2]∧L'=[(1202,.box 94 [E3 r.1.ship.Columns,E8 r.1.ship.Covers,I64 r.1.ship.Light.Kilos,I64 r.1.ship.Light.X,I64 r.1.ship.Light.Y,I64 r.1.ship.Light.Z,E4 r.1.ship.Rows,E5 r.1.ship.Frames,E6 r.1.ship.Tanks,I64 r.1.ship.G8.Tolerance,I64 r.1.ship.G8.Trim,I64 r.1.ship.G8.List_,I64 r.1.ship.G8.Stability,.mp 1203,.mp 1204,.mp 1205,I64 r.1.lifts]),(1203,TP 90 Slot.kv Box.av r.1.on),(1204,TP 91 Ks Box.av r.1.quay),(1205,TP 92 Ks I64 r.1.open_)]):=by
 unfold Geb at h
 refine Jj [] [.tmp 8,.tmp 9] Tryz.func10 O O (G0d O) (Jr fun g4=>(JLh (.ptr 1011 0) (Q2 (cs:=(Gh.cs s)) 1011 O O O O O) O (JLm (.sc (.pointer none)) O (JLm (I64 0) O (G5 (g4 (fzQ [(1,E7 boxes),(2,E1 state),(3,E2 ashore),(4,Ee s)] [] 1011 rfl rfl rfl ø rfl (Js fun g5=>Jr fun g6=>(JLh (.agg (Gh.cs s)) (Gk Jh O O O) O (JLm (E7 boxes) O (JLm (E1 state) O ?_)))))))))))
 obtain⟨r4,g7,h⟩:=Ge h
 refine JLh (BL r4) (Gw O (G91 s boxes state r4 g7) H71 ⟨O,O,O,O,O,O,ø⟩) O (JLh (BL (!r4)) (Yc (b:=r4) O O) O (G5 (g6 (JCc O h (fun h hb=>?_) (fun h hb=>?_)))))
 ·
  refine Jr fun g8=>(JLm (.sc (.pointer none)) O (JLm (I64 2) O (G5 (g8 (Gs ?_)))))
  cases h
 ·
  refine Gn (g5 ?_)
  refine Jr fun g9=>(JLh (.mp 1203) (Ja4 1203 Slot.kv Box.av O O) O (JLh (.mp 1204) (Ja4 1204 Ks Box.av O O) O (JLh (.mp 1205) (Ja4 1205 Ks I64 O O) O (JLh (.agg Ka) (He (cs:=Ka) [(0,13),(13,1),(14,1),(15,1),(16,1)] [E3 ([]:List G3),E8 ([]:List G9),I64 0,I64 0,I64 0,I64 0,E4 ([]:List Row),E5 ([]:List Frame),E6 ([]:List H4),I64 0,I64 0,I64 0,I64 0,.sc (.map none),.sc (.map none),.sc (.map none),I64 0] [.slice none 0 0,.slice none 0 0,E0,E0,E0,E0,.slice none 0 0,.slice none 0 0,.slice none 0 0,E0,E0,E0,E0,.map none,.map none,.map none,E0] R3b Rda ⟨.inr ⟨_,O,O⟩,.inr ⟨_,O,O⟩,.inl O,.inl O,.inl O,.inl O,.inr ⟨_,O,O⟩,.inr ⟨_,O,O⟩,.inr ⟨_,O,O⟩,.inl O,.inl O,.inl O,.inl O,.inl O,.inl O,.inl O,.inl O,ø⟩ O O) O (JLh (.ptr 1202 0) (Q2 (cs:=Ka) 1202 O O O O O) O (JLm (.ptr 1202 0) O (G5 (g9 ?_))))))))
  refine Js fun h0=>Qs (l':=[(1,E7 boxes),(2,E1 state),(3,E2 ashore),(4,Ee s),(10,.ptr 1202 0)]) (L':=[(1203,TP 90 Slot.kv Box.av (Gu.empty:Gu Slot Box)),(1204,TP 91 Ks Box.av (Gu.empty:Gu Int Box)),(1205,TP 92 Ks I64 (Gu.empty:Gu Int Int)),(1202,.box 94 Ka)]) ⟨(.sm O O),⟨fmQ O,fmQ O,fmQ O,fbQ O (.sm O O),ø⟩,rfl⟩ ?_
  obtain⟨p,h1,h⟩:=Ge h
  obtain⟨j,h2,h⟩:=Ge h
  refine Ju [6,10] [0,0,0,0,0,0,0,1,1,1,0] [1,0,0,0,0,0,0,1,1,1,0] [[(1203,TP 90 Slot.kv Box.av (Gu.empty:Gu Slot Box)),(1204,TP 91 Ks Box.av (Gu.empty:Gu Int Box)),(1205,TP 92 Ks I64 (Gu.empty:Gu Int Int)),(1202,.box 94 Ka)],((1062,.vec 100 2 0 (j.map G9.av))::[(1203,TP 90 Slot.kv Box.av (Gu.empty:Gu Slot Box)),(1204,TP 91 Ks Box.av (Gu.empty:Gu Int Box)),(1205,TP 92 Ks I64 (Gu.empty:Gu Int Int)),(1202,.box 94 Ka)]),((1202,.box 94 [E3 p,.vec 1062 0 2 j.length,I64 0,I64 0,I64 0,I64 0,E4 ([]:List Row),E5 ([]:List Frame),E6 ([]:List H4),I64 0,I64 0,I64 0,I64 0,.mp 1203,.mp 1204,.mp 1205,I64 0])::((1062,.vec 100 2 0 (j.map G9.av))::[(1203,TP 90 Slot.kv Box.av (Gu.empty:Gu Slot Box)),(1204,TP 91 Ks Box.av (Gu.empty:Gu Int Box)),(1205,TP 92 Ks I64 (Gu.empty:Gu Int Int)),(1202,.box 94 Ka)]))] Ja (by kernel_rfl) rfl rfl ?_
  refine Gf (u:=.ptr 1202 0) O O ⟨Gi (G6 O O) O,Gi (G6 O O) O,ø⟩ (Gf (u:=Ee s) O O ⟨Gi (Ga J5 O O O) O,ø⟩ (Gf (u:=E3 s.Columns) O O ⟨Gi (Gg Jn O O O) O,ø⟩ (Gf (u:=E3 p) O O ⟨Gi (Gw O (H8a s.Columns p h1) Y00 ⟨O,O,ø⟩) O,ø⟩ (Gf (u:=.dptr ((Gh.cs s).drop 1)) O O ⟨Gi (Ga Y0 O O O) O,ø⟩ (Gf (u:=E8 s.Covers) O O ⟨Gi (Gg Zi O O O) O,ø⟩ (D_w (u:=.vec 1062 0 2 j.length) O O O O (Gi (Z7 (args:=[E8 s.Covers]) (L0:=[]) (Lr:=[(1062,.vec 100 2 0 (j.map G9.av))]) O (J3.fresh0 (H99 s.Covers j h2)) Rff ⟨.inl O,O,ø⟩ ø O O O) O) (Gf (u:=.agg [E3 p,.vec 1062 0 2 j.length,I64 0,I64 0,I64 0,I64 0,E4 ([]:List Row),E5 ([]:List Frame),E6 ([]:List H4),I64 0,I64 0,I64 0,I64 0]) O O ⟨Gi (He (cs:=[E3 p,.vec 1062 0 2 j.length,I64 0,I64 0,I64 0,I64 0,E4 ([]:List Row),E5 ([]:List Frame),E6 ([]:List H4),I64 0,I64 0,I64 0,I64 0]) [(0,1),(1,1),(2,4),(6,1),(7,1),(8,1),(9,4)] [E3 ([]:List G3),E8 ([]:List G9),I64 0,I64 0,I64 0,I64 0,E4 ([]:List Row),E5 ([]:List Frame),E6 ([]:List H4),I64 0,I64 0,I64 0,I64 0] [.slice none 0 0,.slice none 0 0,E0,E0,E0,E0,.slice none 0 0,.slice none 0 0,.slice none 0 0,E0,E0,E0,E0] Jab Gd2 ⟨.inr ⟨_,O,O⟩,.inr ⟨_,O,O⟩,.inl O,.inl O,.inl O,.inl O,.inr ⟨_,O,O⟩,.inr ⟨_,O,O⟩,.inr ⟨_,O,O⟩,.inl O,.inl O,.inl O,.inl O,ø⟩ O O) O,ø⟩ (Gf (u:=.ptr 1202 0) O O ⟨Gi (Yj O O) O,ø⟩ (Gf (u:=.ptr 1202 0) O O ⟨Gi (J2 Yh O O) O,ø⟩ (H29 (u:=.junk) O O O O (Gi (H7 (u:=.agg [E3 p,.vec 1062 0 2 j.length,I64 0,I64 0,I64 0,I64 0,E4 ([]:List Row),E5 ([]:List Frame),E6 ([]:List H4),I64 0,I64 0,I64 0,I64 0]) (ds:=[E3 p,.vec 1062 0 2 j.length,I64 0,I64 0,I64 0,I64 0,E4 ([]:List Row),E5 ([]:List Frame),E6 ([]:List H4),I64 0,I64 0,I64 0,I64 0,.mp 1203,.mp 1204,.mp 1205,I64 0]) G88 O O O O O O O O) O) (Rz ?_)))))))))))
  refine h0 (Js fun d3=>Jr fun d4=>(JLm (.ptr 1202 0) O (JLh (.ptr 1202 0) (Yj O O) O (JLh (.ptr 1202 0) (J2 Yh O O) O (JLh (.ptr 1202 1) (J2 Y0 O O) O (JLh (.vec 1062 0 2 j.length) (Hz Zi O O O O) O (Jd5 (f:=G9.av) (xs:=j) Qi O O O (fun d5=>?_) O O O)))))))
  refine JLm (I64 0) O (G5 (d4 (Gq ?_)))
  obtain⟨h3,d6,d7,b3,h⟩:=Jd h
  refine Hn (fun k (i:(List G9))=>each h3 d6 (List.drop k j) k i=some r) (fun k i=>[(1,E7 boxes),(2,E1 state),(3,E2 ashore),(4,Ee s),(10,.ptr 1202 0),(43,Em j.length),(44,Em k)]) (fun k i=>[(1203,TP 90 Slot.kv Box.av (Gu.empty:Gu Slot Box)),(1204,TP 91 Ks Box.av (Gu.empty:Gu Int Box)),(1205,TP 92 Ks I64 (Gu.empty:Gu Int Int)),(1062,.vec 100 2 0 (i.map G9.av)),(1202,.box 94 [E3 p,.vec 1062 0 2 j.length,I64 0,I64 0,I64 0,I64 0,E4 ([]:List Row),E5 ([]:List Frame),E6 ([]:List H4),I64 0,I64 0,I64 0,I64 0,.mp 1203,.mp 1204,.mp 1205,I64 0])]) (fun k=>j.length - k) 0 j h ⟨(.sm O O),⟨fmQ O,fmQ O,fmQ O,⟨_,rfl,.vec⟩,fbQ O (.sm O O),ø⟩,rfl⟩ ?_
  clear h
  intro k i a6 i2 h4
  refine Jr fun d8=>(JLh (BL (decide ((k:Int) < (j.length:Int)))) (Jq O O O) O (G5 (d8 (Js fun d9=>Gr O (fun hb=>?_) (fun hb=>?_)))))
  ·
   have a7:=Q5 hb
   obtain⟨i3,h8,h9,e0,h⟩:=Hu a6 a7
   replace h:=Zg d7 h
   refine Gn (d9 (Js fun e1=>Gq (Jr fun e2=>(JLm (Em k) O (JLm (Em k) O (G5 (e2 ?_)))))))
   refine Qs (l':=[(1,E7 boxes),(2,E1 state),(3,E2 ashore),(4,Ee s),(10,.ptr 1202 0),(11,Em k),(43,Em j.length),(44,Em k)]) (L':=[(1203,TP 90 Slot.kv Box.av (Gu.empty:Gu Slot Box)),(1204,TP 91 Ks Box.av (Gu.empty:Gu Int Box)),(1205,TP 92 Ks I64 (Gu.empty:Gu Int Int)),(1062,.vec 100 2 0 (i.map G9.av)),(1202,.box 94 [E3 p,.vec 1062 0 2 j.length,I64 0,I64 0,I64 0,I64 0,E4 ([]:List Row),E5 ([]:List Frame),E6 ([]:List H4),I64 0,I64 0,I64 0,I64 0,.mp 1203,.mp 1204,.mp 1205,I64 0])]) ⟨(.sm O O),⟨fmQ O,fmQ O,fmQ O,⟨_,rfl,.vec⟩,fbQ O (.sm O O),ø⟩,rfl⟩ ?_
   obtain⟨i4,a0,e3,e4,h⟩:=Zs h
   obtain⟨a1,e5,h⟩:=Ge h
   obtain⟨a2,b4,a8,h⟩:=Gaa h
   refine Ju [15] (.replicate 16 0) (.replicate 16 0) [[(1203,TP 90 Slot.kv Box.av (Gu.empty:Gu Slot Box)),(1204,TP 91 Ks Box.av (Gu.empty:Gu Int Box)),(1205,TP 92 Ks I64 (Gu.empty:Gu Int Int)),(1062,.vec 100 2 0 (i.map G9.av)),(1202,.box 94 [E3 p,.vec 1062 0 2 j.length,I64 0,I64 0,I64 0,I64 0,E4 ([]:List Row),E5 ([]:List Frame),E6 ([]:List H4),I64 0,I64 0,I64 0,I64 0,.mp 1203,.mp 1204,.mp 1205,I64 0])],((1062,.vec 100 2 0 ((i.set (k:Int).toNat (G9.mk a2.Bay a1)).map G9.av))::[(1203,TP 90 Slot.kv Box.av (Gu.empty:Gu Slot Box)),(1204,TP 91 Ks Box.av (Gu.empty:Gu Int Box)),(1205,TP 92 Ks I64 (Gu.empty:Gu Int Int)),(1062,.vec 100 2 0 (i.map G9.av)),(1202,.box 94 [E3 p,.vec 1062 0 2 j.length,I64 0,I64 0,I64 0,I64 0,E4 ([]:List Row),E5 ([]:List Frame),E6 ([]:List H4),I64 0,I64 0,I64 0,I64 0,.mp 1203,.mp 1204,.mp 1205,I64 0])])] Ja (by kernel_rfl) rfl rfl ?_
   refine Gf (u:=.ptr 1202 0) O O ⟨Gi (G6 O O) O,ø⟩ (Gf (u:=.ptr 1202 0) O O ⟨Gi (Yj O O) O,ø⟩ (Gf (u:=.ptr 1202 0) O O ⟨Gi (J2 Yh O O) O,ø⟩ (Gf (u:=.ptr 1202 1) O O ⟨Gi (J2 Y0 O O) O,ø⟩ (Gf (u:=.vec 1062 0 2 j.length) O O ⟨Gi (Hz Zi O O O O) O,ø⟩ (Gf (u:=Em k) O O ⟨Gi (G6 O O) O,ø⟩ (Gf (u:=.dptr ((Gh.cs s).drop 1)) O O ⟨Gi (Ga Y0 O O O) O,ø⟩ (Gf (u:=E8 s.Covers) O O ⟨Gi (Gg Zi O O O) O,ø⟩ (Gf (u:=Em k) O O ⟨Gi (G6 O O) O,ø⟩ (Gf (u:=.dptr [I64 a0.Bay,E2 a0.Rows]) O O ⟨Gi (Hg (f:=G9.av) (xs:=s.Covers) (y:=a0) O O O Qi e4 e3) O,ø⟩ (Gf (u:=.dptr [E2 a0.Rows]) O O ⟨Gi (Ga G46 O O O) O,ø⟩ (Gf (u:=E2 a0.Rows) O O ⟨Gi (Gg Ri O O O) O,ø⟩ (Gf (u:=E2 a1) O O ⟨Gi (Gw O (J43 a0.Rows a1 e5) Rfe ⟨O,O,ø⟩) O,ø⟩ (Gf (u:=.vptr 1062 0 ((k:Int).toNat) 0) O O ⟨Gi (Gb2 (f:=G9.av) (xs:=i) (y:=a2) O O O O Qi a8 b4) O,ø⟩ ?_)))))))))))))
   refine Gf (u:=.vptr 1062 0 ((k:Int).toNat) 1) O O ⟨Gi (Z02 G46 O O O) O,ø⟩ (H29 (u:=.junk) O O O O (Gi (Yae (f:=G9.av) (xs:=i) (e:=a2) (z:=(G9.mk a2.Bay a1)) (u:=E2 a1) He6 O O O O a8 O O O O O) O) (Rz (e1 (G2 (JLh (I64 ((k+1:Nat):Int)) (Jb (Hp a7 d5) O O O) O (JLm (I64 ((k+1:Nat):Int)) O (G5 (h4 _ _ (k+1) (i.set (k:Int).toNat (G9.mk a2.Bay a1)) (app1 e0 h) (by omega) ⟨(.sm O O),⟨fmQ O,fmQ O,fmQ O,⟨_,rfl,.vec⟩,fbQ O (.sm O O),ø⟩,rfl⟩))))))))
  ·
   have h:=app1 b3 (Hv a6 (Hj hb))
   refine Hq (d3 (Js fun e6=>Jr fun e7=>(JLm (E1 state) O (JLl H1 O O O fun e8=>(JLm (I64 0) O (G5 (e7 (Gq ?_))))))))
   obtain⟨h5,e9,f0,b5,h⟩:=Jd h
   refine Hn (fun t (n:(Gu Slot Box))=>each h5 e9 (List.drop t state) t n=some r) (fun t n=>[(1,E7 boxes),(2,E1 state),(3,E2 ashore),(10,.ptr 1202 0),(63,E1 state),(64,Em state.length),(65,Em t)]) (fun t n=>[(1203,TP 90 Slot.kv Box.av n),(1204,TP 91 Ks Box.av (Gu.empty:Gu Int Box)),(1205,TP 92 Ks I64 (Gu.empty:Gu Int Int)),(1062,.vec 100 2 0 (i.map G9.av)),(1202,.box 94 [E3 p,.vec 1062 0 2 j.length,I64 0,I64 0,I64 0,I64 0,E4 ([]:List Row),E5 ([]:List Frame),E6 ([]:List H4),I64 0,I64 0,I64 0,I64 0,.mp 1203,.mp 1204,.mp 1205,I64 0])]) (fun t=>state.length - t) 0 (Gu.empty:Gu Slot Box) h ⟨(.sm O O),⟨fmQ O,fmQ O,fmQ O,⟨_,rfl,.vec⟩,fbQ O (.sm O O),ø⟩,rfl⟩ ?_
   clear h
   intro t n a9 i5 h6
   refine Jr fun f1=>(JLh (BL (decide ((t:Int) < (state.length:Int)))) (Jq O O O) O (G5 (f1 (Js fun f2=>Gr O (fun hb=>?_) (fun hb=>?_)))))
   ·
    have b0:=Q5 hb
    obtain⟨o,i0,f3,f4,h⟩:=Hu a9 b0
    replace h:=Zg f0 h
    refine Gn (f2 (Js fun f5=>Gq (Jr fun f6=>(JLh (Eh o) (Hg (f:=G1.av) (xs:=state) (y:=o) O O O H1 f3 O) O (JLh (.agg (G1.cs o)) (Gk Qd O O O) O (JLh (.ptr 1012 0) (Hm 1012 4 Jx O O) O (Ho (u:=.junk) (H7 (u:=.agg (G1.cs o)) (ds:=[I64 o.Box,I64 o.Slot.G3,I64 o.Slot.Tier,U8 o.Slot.Half]) Rh O O O O O O O O) (G5 (f6 ?_)))))))))
    refine fzQ [(1,E7 boxes),(2,E1 state),(3,E2 ashore),(10,.ptr 1202 0),(13,Eh o),(63,E1 state),(64,Em state.length),(65,Em t)] [(1203,TP 90 Slot.kv Box.av n),(1204,TP 91 Ks Box.av (Gu.empty:Gu Int Box)),(1205,TP 92 Ks I64 (Gu.empty:Gu Int Int)),(1062,.vec 100 2 0 (i.map G9.av)),(1202,.box 94 [E3 p,.vec 1062 0 2 j.length,I64 0,I64 0,I64 0,I64 0,E4 ([]:List Row),E5 ([]:List Frame),E6 ([]:List H4),I64 0,I64 0,I64 0,I64 0,.mp 1203,.mp 1204,.mp 1205,I64 0])] 1012 rfl rfl rfl ⟨fmQ O,fmQ O,fmQ O,⟨_,rfl,.vec⟩,⟨_,rfl,.boxEq rfl rfl⟩,ø⟩ rfl ?_
    refine Qs (l':=[(1,E7 boxes),(2,E1 state),(3,E2 ashore),(10,.ptr 1202 0),(13,Eh o),(63,E1 state),(64,Em state.length),(65,Em t)]) (L':=[(1203,TP 90 Slot.kv Box.av n),(1204,TP 91 Ks Box.av (Gu.empty:Gu Int Box)),(1205,TP 92 Ks I64 (Gu.empty:Gu Int Int)),(1062,.vec 100 2 0 (i.map G9.av)),(1202,.box 94 [E3 p,.vec 1062 0 2 j.length,I64 0,I64 0,I64 0,I64 0,E4 ([]:List Row),E5 ([]:List Frame),E6 ([]:List H4),I64 0,I64 0,I64 0,I64 0,.mp 1203,.mp 1204,.mp 1205,I64 0])]) ⟨(.sm O O),⟨fmQ O,fmQ O,fmQ O,⟨_,rfl,.vec⟩,fbQ O (.sm O O),ø⟩,rfl⟩ ?_
    obtain⟨x,f7,h⟩:=Ge h
    refine Ju [13] (.replicate 14 0) [0,0,0,0,0,0,0,0,0,0,0,0,1,0] [[(1203,TP 90 Slot.kv Box.av n),(1204,TP 91 Ks Box.av (Gu.empty:Gu Int Box)),(1205,TP 92 Ks I64 (Gu.empty:Gu Int Int)),(1062,.vec 100 2 0 (i.map G9.av)),(1202,.box 94 [E3 p,.vec 1062 0 2 j.length,I64 0,I64 0,I64 0,I64 0,E4 ([]:List Row),E5 ([]:List Frame),E6 ([]:List H4),I64 0,I64 0,I64 0,I64 0,.mp 1203,.mp 1204,.mp 1205,I64 0])],((1203,TP 90 Slot.kv Box.av (Gu.put n o.Slot x.1))::[(1203,TP 90 Slot.kv Box.av n),(1204,TP 91 Ks Box.av (Gu.empty:Gu Int Box)),(1205,TP 92 Ks I64 (Gu.empty:Gu Int Int)),(1062,.vec 100 2 0 (i.map G9.av)),(1202,.box 94 [E3 p,.vec 1062 0 2 j.length,I64 0,I64 0,I64 0,I64 0,E4 ([]:List Row),E5 ([]:List Frame),E6 ([]:List H4),I64 0,I64 0,I64 0,I64 0,.mp 1203,.mp 1204,.mp 1205,I64 0])])] Ja (by kernel_rfl) rfl rfl ?_
    refine Gf (u:=.ptr 1202 0) O O ⟨Gi (G6 O O) O,ø⟩ (Gf (u:=.ptr 1202 0) O O ⟨Gi (Yj O O) O,ø⟩ (Gf (u:=.ptr 1202 13) O O ⟨Gi (J2 Yg O O) O,ø⟩ (Gf (u:=.mp 1203) O O ⟨Gi (Hz Yk O O O O) O,ø⟩ (Gf (u:=.dptr ((G1.cs o).drop 1)) O O ⟨Gi (Ga Jm O O O) O,ø⟩ (Gf (u:=.agg ((G1.cs o).drop 1)) O O ⟨Gi (Gk J0 O O O) O,ø⟩ (Gf (u:=E7 boxes) O O ⟨Gi (G6 O O) O,ø⟩ (Gf (u:=Eh o) O O ⟨Gi (Ga J7 O O O) O,ø⟩ (Gf (u:=I64 o.Box) O O ⟨Gi (Gg Gb O O O) O,ø⟩ (Gf (u:=.tup [.agg (Box.cs x.1),BL x.2]) O O ⟨Gi (Gw O (Jcc boxes o.Box x f7) Q87 ⟨O,O,O,O,ø⟩) O,ø⟩ (Gf (u:=.tup [.agg (Box.cs x.1),BL x.2]) O O ⟨Gi (G6 O O) O,ø⟩ (Gf (u:=.agg (Box.cs x.1)) O O ⟨Gi (H3 O O O) O,ø⟩ (Gf (u:=BL x.2) O O ⟨Gi (H3 O O O) O,Gi (H3 O O O) O,ø⟩ (H29 (u:=.junk) O O O O (Gi (H0b (m:=n) (a:=o.Slot) (v:=x.1) (fun _=>O) O O O O O O R6d G72) O) (Rz ?_))))))))))))))
    refine f5 (G2 (JLh (I64 ((t+1:Nat):Int)) (Jb (Hp b0 e8) O O O) O (JLm (I64 ((t+1:Nat):Int)) O (G5 (h6 _ _ (t+1) (Gu.put n o.Slot x.1) (app1 f4 h) (by omega) ⟨(.sm O O),⟨fmQ O,fmQ O,fmQ O,⟨_,rfl,.vec⟩,fbQ O (.sm O O),ø⟩,rfl⟩)))))
   ·
    have h:=app1 b5 (Hv a9 (Hj hb))
    refine Hq (e6 (Js fun f8=>Jr fun f9=>(JLm (E2 ashore) O (JLl H0 O O O fun g0=>(JLm (I64 0) O (G5 (f9 (Gq ?_))))))))
    obtain⟨g1,b6,b7,b1,h⟩:=Jd h
    refine Hn (fun c (l:(Gu Int Box))=>each g1 b6 (List.drop c ashore) c l=some r) (fun c l=>[(1,E7 boxes),(2,E1 state),(3,E2 ashore),(10,.ptr 1202 0),(83,E2 ashore),(84,Em ashore.length),(85,Em c)]) (fun c l=>[(1203,TP 90 Slot.kv Box.av n),(1204,TP 91 Ks Box.av l),(1205,TP 92 Ks I64 (Gu.empty:Gu Int Int)),(1062,.vec 100 2 0 (i.map G9.av)),(1202,.box 94 [E3 p,.vec 1062 0 2 j.length,I64 0,I64 0,I64 0,I64 0,E4 ([]:List Row),E5 ([]:List Frame),E6 ([]:List H4),I64 0,I64 0,I64 0,I64 0,.mp 1203,.mp 1204,.mp 1205,I64 0])]) (fun c=>ashore.length - c) 0 (Gu.empty:Gu Int Box) h ⟨(.sm O O),⟨fmQ O,fmQ O,fmQ O,⟨_,rfl,.vec⟩,fbQ O (.sm O O),ø⟩,rfl⟩ ?_
    clear h
    intro c l a4 i1 g2
    refine Jr fun b8=>(JLh (BL (decide ((c:Int) < (ashore.length:Int)))) (Jq O O O) O (G5 (b8 (Js fun b9=>Gr O (fun hb=>?_) (fun hb=>?_)))))
    ·
     have a5:=Q5 hb
     obtain⟨d,h7,c0,c1,h⟩:=Hu a4 a5
     replace h:=Zg b7 h
     refine Gn (b9 (Js fun c2=>Gq (Jr fun c3=>(JLm (Em c) O (JLh (.dptr [I64 d]) (Hg (f:=I64) (xs:=ashore) (y:=d) O O O H0 c0 O) O (JLh (I64 d) (Gg Gb O O O) O (JLh (.ptr 1013 0) (Hm 1013 1 Y8 O O) O (JLm (Em c) O (Ho (u:=.junk) (H7 (u:=I64 d) (ds:=[I64 d]) G70 O O O O O O O O) (G5 (c3 ?_)))))))))))
     refine fzQ [(1,E7 boxes),(2,E1 state),(3,E2 ashore),(10,.ptr 1202 0),(14,Em c),(15,.dptr [I64 d]),(83,E2 ashore),(84,Em ashore.length),(85,Em c)] [(1203,TP 90 Slot.kv Box.av n),(1204,TP 91 Ks Box.av l),(1205,TP 92 Ks I64 (Gu.empty:Gu Int Int)),(1062,.vec 100 2 0 (i.map G9.av)),(1202,.box 94 [E3 p,.vec 1062 0 2 j.length,I64 0,I64 0,I64 0,I64 0,E4 ([]:List Row),E5 ([]:List Frame),E6 ([]:List H4),I64 0,I64 0,I64 0,I64 0,.mp 1203,.mp 1204,.mp 1205,I64 0])] 1013 rfl rfl rfl ⟨fmQ O,fmQ O,fmQ O,⟨_,rfl,.vec⟩,⟨_,rfl,.boxEq rfl rfl⟩,ø⟩ rfl ?_
     refine Jr fun c4=>(JLm (E7 boxes) O (JLh (I64 d) (Gg Gb O O O) O ?_))
     obtain⟨g,c5,h⟩:=Ge h
     refine JLh (.tup [.agg (Box.cs g.1),BL g.2]) (Gw O (Jcc boxes d g c5) Q87 ⟨O,O,O,O,ø⟩) O (JLm (.tup [.agg (Box.cs g.1),BL g.2]) O (JLh (.agg (Box.cs g.1)) (H3 O O O) O (JLh (BL g.2) (H3 O O O) O (JLh (.ptr 1014 0) (Hm 1014 9 Qw O O) O (Ho (u:=.junk) (H7 (u:=.agg (Box.cs g.1)) (ds:=(Box.cs g.1)) Rf O O O O O O O O) (JLm (BL g.2) O (G5 (c4 ?_))))))))
     refine fzQ [(1,E7 boxes),(2,E1 state),(3,E2 ashore),(10,.ptr 1202 0),(14,Em c),(15,.dptr [I64 d]),(16,Ei g.1),(17,BL g.2),(83,E2 ashore),(84,Em ashore.length),(85,Em c)] [(1203,TP 90 Slot.kv Box.av n),(1204,TP 91 Ks Box.av l),(1205,TP 92 Ks I64 (Gu.empty:Gu Int Int)),(1062,.vec 100 2 0 (i.map G9.av)),(1202,.box 94 [E3 p,.vec 1062 0 2 j.length,I64 0,I64 0,I64 0,I64 0,E4 ([]:List Row),E5 ([]:List Frame),E6 ([]:List H4),I64 0,I64 0,I64 0,I64 0,.mp 1203,.mp 1204,.mp 1205,I64 0])] 1014 rfl rfl rfl ⟨fmQ O,fmQ O,fmQ O,⟨_,rfl,.vec⟩,⟨_,rfl,.boxEq rfl rfl⟩,ø⟩ rfl ?_
     refine Js fun c6=>Js fun c7=>?_
     refine Qs (l':=[(1,E7 boxes),(2,E1 state),(3,E2 ashore),(10,.ptr 1202 0),(14,Em c),(15,.dptr [I64 d]),(16,Ei g.1),(17,BL g.2),(83,E2 ashore),(84,Em ashore.length),(85,Em c)]) (L':=[(1203,TP 90 Slot.kv Box.av n),(1204,TP 91 Ks Box.av l),(1205,TP 92 Ks I64 (Gu.empty:Gu Int Int)),(1062,.vec 100 2 0 (i.map G9.av)),(1202,.box 94 [E3 p,.vec 1062 0 2 j.length,I64 0,I64 0,I64 0,I64 0,E4 ([]:List Row),E5 ([]:List Frame),E6 ([]:List H4),I64 0,I64 0,I64 0,I64 0,.mp 1203,.mp 1204,.mp 1205,I64 0])]) ⟨(.sm O O),⟨fmQ O,fmQ O,fmQ O,⟨_,rfl,.vec⟩,fbQ O (.sm O O),ø⟩,rfl⟩ ?_
     obtain⟨g3,c8,h⟩:=Ge h
     obtain⟨w,c9,h⟩:=Ge h
     obtain⟨a3,d0,h⟩:=Ge h
     refine JC_d0 Ja (by kernel_rfl) (Dq (BL g.2) (G6 O O) O (Dq (BL (!g.2)) (Yc (b:=g.2) O O) O (Dq (BL (!g.2)) (G6 O O) O (Do (Em c) [] O .scf ø (fun hc=>G6 O O) O (Do (BL (decide (0 < (c:Int)))) [99] O .scf ⟨Ua,ø⟩ (fun hc=>H0c O O O) O (Do (BL (decide (0 < (c:Int)))) [100] O .scf ⟨Ua,ø⟩ (fun hc=>G6 O O) O (Do (I64 d) [] O .optt ø (fun hc=>Gg Gb O O O) O (Do (E2 ashore) [] O .optt ø (fun hc=>G6 O O) O (Do (Em c) [] O .optt ø (fun hc=>G6 O O) O (Do (I64 g3) [104] O .optt ⟨Ua,ø⟩ (fun hc=>G85 (Hd5 (H5 hc c8)) O O O) O (Do (.dptr [I64 w]) [103,105] O .optt ⟨Ua,Ua,ø⟩ (fun hc=>(match Ga9 (H5 hc c9) with | ⟨_,hm_,hy_⟩=>Hg (f:=I64) (xs:=ashore) (y:=w) O O O H0 hy_ hm_)) O (Do (I64 w) [106] O .optt ⟨Ua,ø⟩ (fun hc=>Gg Gb O O O) O (Do (BL (decide (d≤w))) [102,107] O .optt ⟨Ua,Ua,ø⟩ (fun hc=>Hb5 O O O) O ?_)))))))))))))
     refine Dg (.opt (!(!g.2)) (BL ((decide (0 < (c:Int)))&&(decide (d≤w))))) (H9 [(101,BL (decide (0 < (c:Int)))),(108,_)] O O O .scf ⟨.all id,.part,ø⟩ (fun hc=>Y3 O O O O) O) O (Dq (BL ((!g.2)||((decide (0 < (c:Int)))&&(decide (d≤w))))) (G7e O O O O) O (Dq (BL ((!g.2)||((decide (0 < (c:Int)))&&(decide (d≤w))))) (G6 O O) O (Do (E1 state) [] O .scf ø (fun hc=>G6 O O) O (Do (.fn 37 [.dptr [I64 d]]) [] O .scf ø (fun hc=>Q4 (cs:=[.dptr [I64 d]]) O O) O (Do (BL a3) [112,113] O .scf ⟨Ua,Ua,ø⟩ (fun hc=>Gw (args:=[E1 state,.fn 37 [.dptr [I64 d]]]) O (G25 state (fun z0=>G79 z0 d) 37 [.dptr [I64 d]] Rfd O (fun z0 q hq=>Q4a z0 d q hq) a3 (H5 hc d0)) Q8e ⟨O,O,O,O,ø⟩) O (Dq (BL (((!g.2)||((decide (0 < (c:Int)))&&(decide (d≤w))))||a3)) (G7e O O O O) O (Dnil ?_)))))))
     refine c7 (JCc O h (fun h hb=>?_) (fun h hb=>?_))
     ·
      refine Jr fun d1=>(JLm (.sc (.pointer none)) O (JLm (I64 2) O (G5 (d1 (Gs ?_)))))
      cases h
     ·
      refine Gn (c6 ?_)
      refine Qs (l':=[(1,E7 boxes),(2,E1 state),(3,E2 ashore),(10,.ptr 1202 0),(15,.dptr [I64 d]),(16,Ei g.1),(83,E2 ashore),(84,Em ashore.length),(85,Em c)]) (L':=[(1203,TP 90 Slot.kv Box.av n),(1204,TP 91 Ks Box.av l),(1205,TP 92 Ks I64 (Gu.empty:Gu Int Int)),(1062,.vec 100 2 0 (i.map G9.av)),(1202,.box 94 [E3 p,.vec 1062 0 2 j.length,I64 0,I64 0,I64 0,I64 0,E4 ([]:List Row),E5 ([]:List Frame),E6 ([]:List H4),I64 0,I64 0,I64 0,I64 0,.mp 1203,.mp 1204,.mp 1205,I64 0])]) ⟨(.sm O O),⟨fmQ O,fmQ O,fmQ O,⟨_,rfl,.vec⟩,fbQ O (.sm O O),ø⟩,rfl⟩ ?_
      refine Ju [6] [0,0,0,0,0,0,0] [0,0,0,0,0,0,0] [[(1203,TP 90 Slot.kv Box.av n),(1204,TP 91 Ks Box.av l),(1205,TP 92 Ks I64 (Gu.empty:Gu Int Int)),(1062,.vec 100 2 0 (i.map G9.av)),(1202,.box 94 [E3 p,.vec 1062 0 2 j.length,I64 0,I64 0,I64 0,I64 0,E4 ([]:List Row),E5 ([]:List Frame),E6 ([]:List H4),I64 0,I64 0,I64 0,I64 0,.mp 1203,.mp 1204,.mp 1205,I64 0])],((1204,TP 91 Ks Box.av (Gu.put l d g.1))::[(1203,TP 90 Slot.kv Box.av n),(1204,TP 91 Ks Box.av l),(1205,TP 92 Ks I64 (Gu.empty:Gu Int Int)),(1062,.vec 100 2 0 (i.map G9.av)),(1202,.box 94 [E3 p,.vec 1062 0 2 j.length,I64 0,I64 0,I64 0,I64 0,E4 ([]:List Row),E5 ([]:List Frame),E6 ([]:List H4),I64 0,I64 0,I64 0,I64 0,.mp 1203,.mp 1204,.mp 1205,I64 0])])] Ja (by kernel_rfl) rfl rfl ?_
      refine Gf (u:=.ptr 1202 0) O O ⟨Gi (G6 O O) O,ø⟩ (Gf (u:=.ptr 1202 0) O O ⟨Gi (Yj O O) O,ø⟩ (Gf (u:=.ptr 1202 14) O O ⟨Gi (J2 G3c O O) O,ø⟩ (Gf (u:=.mp 1204) O O ⟨Gi (Hz G2a O O O O) O,ø⟩ (Gf (u:=I64 d) O O ⟨Gi (Gg Gb O O O) O,ø⟩ (Gf (u:=.agg (Box.cs g.1)) O O ⟨Gi (Gk R3 O O O) O,ø⟩ (H29 (u:=.junk) O O O O (Gi (H0b (m:=l) (a:=d) (v:=g.1) (fun _=>O) O O O O O O J68 H67) O) (Rz (c2 (G2 (JLh (I64 ((c+1:Nat):Int)) (Jb (Hp a5 g0) O O O) O (JLm (I64 ((c+1:Nat):Int)) O (G5 ?_))))))))))))
      exact g2 _ _ (c+1) (Gu.put l d g.1) (app1 c1 h) (by omega) ⟨(.sm O O),⟨fmQ O,fmQ O,fmQ O,⟨_,rfl,.vec⟩,fbQ O (.sm O O),ø⟩,rfl⟩
    ·
     have h:=app1 b1 (Hv a4 (Hj hb))
     refine Hq (f8 (Jr fun d2=>(JLm (.ptr 1202 0) O (JLm (.ptr 1202 0) O (JLm (I64 0) O (G5 (d2 (Yad 1202 1 (0+1) O O O (Nat.lt_succ_self _) (cs':=[E3 p,E8 i,I64 0,I64 0,I64 0,I64 0,E4 ([]:List Row),E5 ([]:List Frame),E6 ([]:List H4),I64 0,I64 0,I64 0,I64 0,.mp 1203,.mp 1204,.mp 1205,I64 0]) O (Gs ?_)))))))))
     obtain rfl:=M7 h
     exact⟨[.ptr 1202 0,I64 0],[(1202,.box 94 [E3 p,E8 i,I64 0,I64 0,I64 0,I64 0,E4 ([]:List Row),E5 ([]:List Frame),E6 ([]:List H4),I64 0,I64 0,I64 0,I64 0,.mp 1203,.mp 1204,.mp 1205,I64 0]),(1203,TP 90 Slot.kv Box.av n),(1204,TP 91 Ks Box.av l),(1205,TP 92 Ks I64 (Gu.empty:Gu Int Int))],⟨fbQ O (.sm O O),fmQ O,fmQ O,fmQ O,ø⟩,rfl,⟨⟨_,rfl,.conv (.same rfl)⟩,⟨_,rfl,.conv (.same rfl)⟩,ø⟩,rfl,rfl⟩
end
end Go.Proofs.YtgcpimpnpcdmmaaGreat
