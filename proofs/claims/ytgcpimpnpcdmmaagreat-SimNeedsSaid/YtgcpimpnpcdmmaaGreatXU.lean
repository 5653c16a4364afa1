/- Walks of functions. -/
import Derived.Test.YtgcpimpnpcdmmaaGreatXT
set_option maxRecDepth 100000
set_option maxHeartbeats 1000000
set_option linter.unusedVariables false
set_option linter.unusedSimpArgs false
namespace Go.Proofs.YtgcpimpnpcdmmaaGreat
open Go.RowKit
noncomputable section
structure G1 where
 Box:Int
 Slot:Slot
 deriving DecidableEq,Inhabited
def G1.cs (x:G1):List AV:=[I64 x.Box,I64 x.Slot.G3,I64 x.Slot.Tier,U8 x.Slot.Half]
def G1.av (x:G1):AV:=.agg x.cs
abbrev Eh (x:G1):AV:=.dptr (G1.cs x)
abbrev E1:=LS 4 G1.av
def G1.vs (x:G1):List Value:=[.int .i64 x.Box,.int .i64 x.Slot.G3,.int .i64 x.Slot.Tier,.int .u8 x.Slot.Half]
namespace XUF
open XAF
open XCF
open XSF
open XKF
open XTF
theorem Qh:H3e En 64 4=true:=by kernel_rfl
theorem Q47:H1 En 117=true:=by kernel_rfl
theorem Jb7:H1 En 14=true:=by kernel_rfl
theorem Ra9:H1 En 145=true:=by kernel_rfl
theorem H92:H1 En 31=true:=by kernel_rfl
theorem Y34:H1 En 33=true:=by kernel_rfl
theorem Y33:H1 En 34=true:=by kernel_rfl
theorem Y32:H1 En 35=true:=by kernel_rfl
theorem Qb6:H1 En 36=true:=by kernel_rfl
theorem Y31:H1 En 37=true:=by kernel_rfl
theorem Qb5:H1 En 44=true:=by kernel_rfl
theorem Jb5:H1 En 45=true:=by kernel_rfl
theorem Qb4:H1 En 46=true:=by kernel_rfl
theorem H31:H1 En 47=true:=by kernel_rfl
theorem J0c:H1 En 48=true:=by kernel_rfl
theorem Qb3:H1 En 49=true:=by kernel_rfl
theorem Qb2:H1 En 50=true:=by kernel_rfl
theorem Y27:H1 En 60=true:=by kernel_rfl
theorem Y26:H1 En 61=true:=by kernel_rfl
theorem Y25:H1 En 66=true:=by kernel_rfl
theorem Qa7:H1 En 93=true:=by kernel_rfl
theorem Qa5:H1 En 95=true:=by kernel_rfl
theorem Qa4:H1 En 96=true:=by kernel_rfl
theorem Hc1:Yy En 100 2 32=true:=by kernel_rfl
theorem Geb:Yy En 64 4 32=true:=by kernel_rfl
theorem Ja:Jw En 64 0 0=true:=by kernel_rfl
theorem Jt:Jw En 64 1 1=true:=by kernel_rfl
theorem Jd8:placesOf En 36=some [(0,1),(1,1),(2,4),(6,1),(7,1),(8,1),(9,4)]:=by kernel_rfl
theorem G44:placesOf En 64=some [(0,1),(1,3)]:=by kernel_rfl
theorem R66:placesOf En 94=some [(0,13),(13,1),(14,1),(15,1),(16,1)]:=by kernel_rfl
theorem G57:Yg En 36 13=true:=by kernel_rfl
theorem Ru:Yg En 64 4=true:=by kernel_rfl
theorem H5:sliceB En 44 64 4=true:=by kernel_rfl
theorem Ge9:(En.info? 36).bind (fun i=>i.zero.map Value.cells)=some (List.toArray [.slice none 0 0,.slice none 0 0,E0,E0,E0,E0,.slice none 0 0,.slice none 0 0,.slice none 0 0,E0,E0,E0,E0]):=by kernel_rfl
theorem Ga5:(En.info? 64).bind (fun i=>i.zero.map Value.cells)=some (List.toArray [E0,E0,E0,.int .u8 0]):=by kernel_rfl
theorem Y0d:(En.info? 94).bind (fun i=>i.zero.map Value.cells)=some (List.toArray [.slice none 0 0,.slice none 0 0,E0,E0,E0,E0,.slice none 0 0,.slice none 0 0,.slice none 0 0,E0,E0,E0,E0,.map none,.map none,.map none,E0]):=by kernel_rfl
theorem Q3:R1 En 64 4=true:=by kernel_rfl
end XUF
open XAF
open XCF
open XSF
open XKF
open XTF
open XUF

def G8b (x:Int):Option Bool:=
 some (decide (x≠x))
theorem Hd0 (x:Int) (r:Bool) (h:G8b x=some r):Pure En 93 [I64 x] (·=BL r):=by
 unfold G8b at h
 refine Gz [.tmp 2] Tryz.func93 O O (Jr fun a=>(JLm (BL false) O (G6 (a (Jr fun b=>(JLm (I64 x) O (JLm (I64 x) O (JLh (BL (decide (x≠x))) (G8e O O O) O (JLm (BL (decide (x≠x))) O (G6 (b (Gs (fin1 BL h)))))))))))))

def Qw (x:Int) (y:Int):Option Int:=
 bnd (G8b x) fun b=>
 bnd (G8b y) fun a=>
 bif b then
 (bif a then
  (some 0)
  else
  (some (-1)))
 else
 (bif a then
  (some 1)
  else
  (bif decide (x < y) then
   (some (-1))
   else
   (bif decide (y < x) then
    (some 1)
    else
    (some 0))))
theorem Zs (x:Int) (y:Int) (r:Int) (h:Qw x y=some r):Pure En 47 [I64 x,I64 y] (·=I64 r):=by
 unfold Qw at h
 refine Gz [.tmp 4] Tryz.func47 O O (Jr fun p=>(JLm (I64 0) O (G6 (p (Jr fun q=>(JLm (I64 x) O ?_))))))
 obtain⟨b,s,h⟩:=Gd h
 refine JLh (BL b) (Gu O (Hd0 x b s) Qa7 ⟨O,O,ø⟩) O (JLm (BL b) O (G6 (q (Jr fun t=>(JLm (I64 y) O ?_)))))
 obtain⟨a,u,h⟩:=Gd h
 refine JLh (BL a) (Gu O (Hd0 y a u) Qa7 ⟨O,O,ø⟩) O (JLm (BL a) O (G6 (t (Js fun v=>Jr fun w=>(JLm (BL b) O (G6 (w (JCc O h (fun h hb=>?_) (fun h hb=>?_)))))))))
 ·
  refine Js fun z=>Jr fun a0=>(JLm (BL a) O (G6 (a0 (JCc O h (fun h hb=>?_) (fun h hb=>?_)))))
  ·
   refine Jr fun c=>(JLm (I64 0) O (G6 (c (Gs (fin1 I64 h)))))
  ·
   refine Gk (z (Jr fun d=>(JLm (I64 (-1)) O (G6 (d (Gs (fin1 I64 h)))))))
 ·
  refine Gk (v (Js fun e=>Jr fun f=>(JLm (BL a) O (G6 (f (JCc O h (fun h hb=>?_) (fun h hb=>?_)))))))
  ·
   refine Jr fun g=>(JLm (I64 1) O (G6 (g (Gs (fin1 I64 h)))))
  ·
   refine Gk (e (Js fun i=>Jr fun j=>(JLm (I64 x) O (JLm (I64 y) O (JLh (BL (decide (x < y))) (Jn O O O) O (G6 (j (JCc O h (fun h hb=>?_) (fun h hb=>?_)))))))))
   ·
    refine Jr fun k=>(JLm (I64 (-1)) O (G6 (k (Gs (fin1 I64 h)))))
   ·
    refine Gk (i (Js fun l=>Jr fun m=>(JLm (I64 x) O (JLm (I64 y) O (JLh (BL (decide (y < x))) (Gd1 O O O) O (G6 (m (JCc O h (fun h hb=>?_) (fun h hb=>?_)))))))))
    ·
     refine Jr fun n=>(JLm (I64 1) O (G6 (n (Gs (fin1 I64 h)))))
    ·
     refine Gk (l (Jr fun o=>(JLm (I64 0) O (G6 (o (Gs (fin1 I64 h)))))))

def Y0 (a:G1) (b:G1):Option Int:=
 bnd (Qw a.Box b.Box) fun c=>
 some c
abbrev K0 (a:G1):List AV:=[I64 a.Box,I64 a.Slot.G3,I64 a.Slot.Tier,U8 a.Slot.Half]
theorem H76 (a:G1) (b:G1) (r:Int) (h:Y0 a b=some r):Pure En 46 [.agg [I64 a.Box,I64 a.Slot.G3,I64 a.Slot.Tier,U8 a.Slot.Half],.agg (G1.cs b)] (·=I64 r):=by
 unfold Y0 at h
 refine Gz [.tmp 4] Tryz.func46 O O (Jr fun d=>(JLh (.ptr 1088 0) (Q6 (cs:=(K0 a)) 1088 O O O O O) O (JLh (.ptr 1089 0) (Q6 (cs:=[I64 b.Box,I64 b.Slot.G3,I64 b.Slot.Tier,U8 b.Slot.Half]) 1089 O O O O O) O (JLm (I64 0) O (G6 (d (Gr [(2,.dptr (K0 a)),(3,.ptr 1089 0)] [(1089,.box 64 [I64 b.Box,I64 b.Slot.G3,I64 b.Slot.Tier,U8 b.Slot.Half])] 1088 rfl rfl rfl ⟨⟨_,rfl,.boxEq rfl rfl⟩,ø⟩ rfl (by exact⟨.ptr,.conv (.same rfl),ø⟩) (Gr [(2,.dptr (K0 a)),(3,Eh b)] [] 1089 rfl rfl rfl ø rfl (by exact⟨.conv (.same rfl),.ptr,ø⟩) ?_))))))))
 refine Jr fun e=>(JLh (.dptr (K0 a)) (Ga Ja O O O) O (JLh (I64 a.Box) (Gg Gb O O O) O (JLh (Eh b) (Ga Ja O O O) O (JLh (I64 b.Box) (Gg Gb O O O) O ?_))))
 obtain⟨c,f,h⟩:=Gd h
 refine JLh (I64 c) (Gu O (Zs a.Box b.Box c f) H31 ⟨O,O,O,O,ø⟩) O (JLm (I64 c) O (G6 (e (Gs (fin1 I64 h)))))

def G1c (m:Ge) (Rp:(List G1)→Prop):Option Prop:=
 J32 (fun(a:Slot×Box) (b:(List G1)) c=>
  need (decide ((b.length+[(G1.mk a.2.ID a.1)].length)*32≤140737488355328∧b.length+[(G1.mk a.2.ID a.1)].length≤maxLen)) <|
  c (b++[(G1.mk a.2.ID a.1)]))
 (fun(b:(List G1))=>
  bnd (Q52 (fun z0 z1=>Y0 z0 z1) b) fun d=>
  some (Rp d)) (Gw.Hd m.on) []
def Zg (m:Ge):Option (List Int):=
 bnd (G5f m.quay) fun b=>
 bnd (Yr (Gw.keys m.quay)) fun a=>
 some a
def Ya (m:Ge):Option (List Int):=
 bnd (G9b m.open_) fun b=>
 bnd (Yr (Gw.keys m.open_)) fun a=>
 some a
theorem Jcc (m:Ge) (Rp:(List G1)→Prop) (p:Prop) (h:G1c m Rp=some p) (hp:p):Hx En 19 [.dptr (Ge.cs m)] [] (fun av L'=>∃ p:Nat,∃ r,Rp r∧av=.vec 1027 p 4 r.length∧L'=[(1027,.vec 64 4 p (r.map G1.av))]):=by
 unfold G1c at h
 refine Ji [] [.tmp 2] Tryz.func19 O O (G0c O) (Jr fun a4=>(JLh (.vec 1026 (([]:List G1).length) 4 (([]:List G1).length)) (G73 1026 64 4 O O O) O (G6 (a4 (Js fun a5=>Jr fun a6=>(JLm (Eg m) O (JLh (BL true) (Gu O (Rz m true O) G7c ⟨O,O,ø⟩) O (JLh (BL false) (Yc (b:=true) O O) O (G6 (a6 (G3b O (Gk (a5 (Jr fun a7=>(JLh (.vec 1027 (([]:List G1).length) 4 (([]:List G1).length)) (G73 1027 64 4 O O O) O (G6 (a7 (Js fun a8=>?_))))))))))))))))))
 refine Jr fun a9=>(JLm (Eg m) O (JLh (Eg m) (G83 O O) O (JLh (.dptr ((Ge.cs m).drop 13)) (Ga Yv O O O) O (JLh (DM Slot.kv Box.av m.on) (Gg Z2 O O O) O (JLh (.it 1030) (Hb4 1030 (kv:=Slot.kv) (av:=Box.av) (m:=m.on) O O .data O G91) O (G6 (a9 (Gq ?_))))))))
 obtain⟨b0,v,w,t,h⟩:=H60 h
 refine J71 (m.on.l.length) (fun d (c:(List G1))=>Ge3 b0 v (Gw.l m.on) d c) (fun d c=>[(3,.vec 1027 c.length 4 c.length),(13,.it 1030)]) (fun d c=>[(1026,.vec 64 4 (([]:List G1).length) (([]:List G1).map G1.av)),(1027,.vec 64 4 c.length (c.map G1.av)),(1030,.iter (DM Slot.kv Box.av m.on) m.on.l.length d)]) [] (Ge3.start h hp) ⟨(.sm O O),⟨⟨_,O,.vec⟩,⟨_,O,.vec⟩,⟨_,O,.iter O⟩,ø⟩,O⟩ ?_
 clear h hp
 intro d c j b4 b1
 refine Jr fun k=>Rn O O O (J2d (kv:=Slot.kv) (av:=Box.av) (m:=m.on) (fun _=>O) O O O .data) ?_
 intro u_ L_ hn_
 rcases hn_ with ⟨i,a,g,n,rfl,rfl⟩ | ⟨x,rfl,rfl⟩
 ·
  obtain⟨b5,h,b2,o⟩:=j.step g n
  replace h:=Jc7 w h
  refine JLh (BL true) (Gv O O O) O (G6 (k (Js fun y=>J72 O (Gk (y (Gq ?_))))))
  refine Jr fun z=>(JLh (.tup [.agg (Slot.cs a.1),.agg (Box.cs a.2)]) (Jd4 (kv:=Slot.kv) (av:=Box.av) (m:=m.on) (q:=i) (seen:=d) (e:=a) (fun _=>O) O O O .data g) O (JLh (.agg (Slot.cs a.1)) (Gv O O O) O (JLh (.agg (Box.cs a.2)) (Gv O O O) O (JLh (.ptr 1028 0) (Hj 1028 3 Rr O O) O (JLh (.ptr 1029 0) (Hj 1029 9 R0 O O) O (Hq (u:=.junk) (H7 (u:=.agg (Slot.cs a.1)) (ds:=[I64 a.1.G3,I64 a.1.Tier,U8 a.1.Half]) Yq O O O O O O O O) (Hq (u:=.junk) (H7 (u:=.agg (Box.cs a.2)) (ds:=(Box.cs a.2)) Rs O O O O O O O O) (G6 (z ?_)))))))))
  refine fzQ [(3,.vec 1027 c.length 4 c.length),(4,Ek a.1),(5,.ptr 1029 0),(13,.it 1030)] [(1026,.vec 64 4 (([]:List G1).length) (([]:List G1).map G1.av)),(1027,.vec 64 4 c.length (c.map G1.av)),(1030,.iter (DM Slot.kv Box.av m.on) m.on.l.length (d++[i])),(1029,.box 103 (Box.cs a.2))] 1028 rfl rfl rfl ⟨⟨_,rfl,.vec⟩,⟨_,rfl,.vec⟩,⟨_,rfl,.iter rfl⟩,⟨_,rfl,.boxEq rfl rfl⟩,ø⟩ rfl ?_
  refine fzQ [(3,.vec 1027 c.length 4 c.length),(4,Ek a.1),(5,Ei a.2),(13,.it 1030)] [(1026,.vec 64 4 (([]:List G1).length) (([]:List G1).map G1.av)),(1027,.vec 64 4 c.length (c.map G1.av)),(1030,.iter (DM Slot.kv Box.av m.on) m.on.l.length (d++[i]))] 1029 rfl rfl rfl ⟨⟨_,rfl,.vec⟩,⟨_,rfl,.vec⟩,⟨_,rfl,.iter rfl⟩,ø⟩ rfl (G2 ?_)
  refine JLm (.vec 1027 c.length 4 c.length) O (JLh (Ei a.2) (Ga Qu O O O) O (JLh (I64 a.2.ID) (Gg Gb O O O) O (JLh (.agg (Slot.cs a.1)) (Gm J4 O O O) O (JLh (.agg [I64 a.2.ID,I64 a.1.G3,I64 a.1.Tier,U8 a.1.Half]) (Hi (cs:=[I64 a.2.ID,I64 a.1.G3,I64 a.1.Tier,U8 a.1.Half]) [(0,1),(1,3)] [I64 0,I64 0,I64 0,U8 0] [E0,E0,E0,.int .u8 0] G44 Ga5 (zzQ O) O O) O (JLh (E1 [(G1.mk a.2.ID a.1)]) (He (xs:=[.agg [I64 a.2.ID,I64 a.1.G3,I64 a.1.Tier,U8 a.1.Half]]) O ⟨O,O,ø⟩ H5 Q3 O O O O) O ?_)))))
  obtain⟨a0,h⟩:=Jf h
  refine JLh (.vec 1027 ((c++[(G1.mk a.2.ID a.1)]).length) 4 ((c++[(G1.mk a.2.ID a.1)]).length)) (G1f (f:=G1.av) (xs:=c) (ys:=[(G1.mk a.2.ID a.1)]) (ver:=c.length) (ver1:=(c++[(G1.mk a.2.ID a.1)]).length) rfl rfl rfl rfl H5 Geb a0 (fun _=>rfl) (.inl rfl) (by simp)) O (JLm (.vec 1027 ((c++[(G1.mk a.2.ID a.1)]).length) 4 ((c++[(G1.mk a.2.ID a.1)]).length)) O (G6 (b1 _ _ (d++[i]) (c++[(G1.mk a.2.ID a.1)]) (o _ (M8 h).symm) (Gbd (M6 g).1 n) ⟨(.sm O O),⟨⟨_,O,.vec⟩,⟨_,O,.vec⟩,⟨_,O,.iter O⟩,ø⟩,O⟩)))
 ·
  obtain⟨p_,h,hp⟩:=j.done x
  replace h:=app1 t h
  refine JLh (BL false) (Gv O O O) O (G6 (k (Js fun b3=>G3b O (Hr (a8 (Jr fun a1=>(JLm (.vec 1027 c.length 4 c.length) O ?_)))))))
  obtain⟨s,a2,h⟩:=Gd h
  refine JLh (.tup []) (Yaa (f:=G1.av) (cmp:=(fun z0 z1=>Y0 z0 z1)) (xs:=c) (r:=s) G1.vs O Qc1 Q51 (fun _=>O) (fun _=>O) (fun _=>Z1a O) Jb5 Qb4 O O O O O a2 (fun z0 z1 q hq=>H76 z0 z1 q hq) O) O (G6 (a1 (Jr fun a3=>(JLm (.vec 1027 c.length 4 c.length) O (JLm (.vec 1027 c.length 4 c.length) O (G6 (a3 (G3c 2 O O (fun hn_=>Gs (⟨[.vec 1027 c.length 4 c.length],[(1027,.vec 64 4 c.length (s.map G1.av))],⟨⟨_,O,.vec⟩,ø⟩,O,⟨⟨_,O,.conv (.same O)⟩,ø⟩,c.length,s,Eq.mpr (M8 h) hp,congrArg (fun n_:Nat=>(.vec 1027 c.length 4 n_:AV)) (hn_.trans (Mn _)),O⟩))))))))))
theorem Jcb (S_:(Ge)→Option (List G1)) (hS_:∀ m r,S_ m=some r→∃ p:Prop,G1c m (fun r_=>r_=r)=some p∧p) (m:Ge) (r:(List G1)) (h:S_ m=some r):Hx En 19 [.dptr (Ge.cs m)] [] (fun av L'=>∃ p:Nat,av=.vec 1027 p 4 r.length∧L'=[(1027,.vec 64 4 p (r.map G1.av))]):=by
 obtain⟨p,a,b⟩:=hS_ m r h
 exact(Jcc m _ p a b).mono (fun av L hh=>by obtain⟨q,r_,rfl,ha,hb⟩:=hh; exact⟨q,ha,hb⟩)


theorem Hae (m:Ge) (r:(List Int)) (h:Zg m=some r):Hx En 22 [.dptr (Ge.cs m)] [] (fun av L'=>∃ p:Nat,av=.vec 1203 p 1 r.length∧L'=[(1203,.vec 3 1 p (r.map I64))]):=by
 unfold Zg at h
 refine Ji [] [.tmp 2] Tryz.func22 O O (G0c O) (Jr fun d=>(JLh (.vec 1032 (([]:List Int).length) 1 (([]:List Int).length)) (G73 1032 3 1 O O O) O (G6 (d (Js fun e=>Jr fun f=>(JLm (Eg m) O (JLh (BL true) (Gu O (Rz m true O) G7c ⟨O,O,ø⟩) O (JLh (BL false) (Yc (b:=true) O O) O (G6 (f (G3b O (Gk (e (Jr fun g=>(JLm (Eg m) O (JLh (Eg m) (G83 O O) O (JLh (.dptr ((Ge.cs m).drop 14)) (Ga G58 O O O) O (JLh (DM Ks Box.av m.quay) (Gg G43 O O O) O ?_))))))))))))))))))
 obtain⟨k,i,h⟩:=Gd h
 refine JLh (.fn 96 [.dptr [DM Ks Box.av m.quay]]) (Gu O (Gbc m.quay k i) Qb2 ⟨O,O,ø⟩) O ?_
 obtain⟨a,j,h⟩:=Gd h
 refine Rn O O O (G8f (args:=[.fn 96 [.dptr [DM Ks Box.av m.quay]]]) (L0:=[]) (u:=fun p=>.vec 1203 p 1 a.length) (Lr:=fun p=>[(1203,.vec 3 1 p (a.map I64))]) O (H29.down (Gw.keys m.quay) 96 [.dptr [DM Ks Box.av m.quay]] Qa4 O (G8a m.quay) a j) J0c ⟨.inl O,O,ø⟩ ø O (fun _=>O)) ?_
 rintro u_ L_ ⟨c,rfl,rfl⟩
 refine JLm (.vec 1203 c 1 a.length) O (G6 (g (G3c 2 O O (fun hn_=>Gs ?_))))
 obtain rfl:=M8 h
 exact⟨[.vec 1203 c 1 a.length],[(1203,.vec 3 1 c (a.map I64))],⟨⟨_,O,.vec⟩,ø⟩,O,⟨⟨_,O,.conv (.same O)⟩,ø⟩,c,congrArg (fun n_:Nat=>(.vec 1203 c 1 n_:AV)) (hn_.trans (Mn _)),O⟩


theorem Gc7 (m:Ge) (r:(List Int)) (h:Ya m=some r):Hx En 20 [.dptr (Ge.cs m)] [] (fun av L'=>∃ p:Nat,av=.vec 1203 p 1 r.length∧L'=[(1203,.vec 3 1 p (r.map I64))]):=by
 unfold Ya at h
 refine Ji [] [.tmp 2] Tryz.func20 O O (G0c O) (Jr fun d=>(JLh (.vec 1031 (([]:List Int).length) 1 (([]:List Int).length)) (G73 1031 3 1 O O O) O (G6 (d (Js fun e=>Jr fun f=>(JLm (Eg m) O (JLh (BL true) (Gu O (Rz m true O) G7c ⟨O,O,ø⟩) O (JLh (BL false) (Yc (b:=true) O O) O (G6 (f (G3b O (Gk (e (Jr fun g=>(JLm (Eg m) O (JLh (Eg m) (G83 O O) O (JLh (.dptr ((Ge.cs m).drop 15)) (Ga G93 O O O) O (JLh (DM Ks I64 m.open_) (Gg G7a O O O) O ?_))))))))))))))))))
 obtain⟨k,i,h⟩:=Gd h
 refine JLh (.fn 95 [.dptr [DM Ks I64 m.open_]]) (Gu O (H03 m.open_ k i) Qb3 ⟨O,O,ø⟩) O ?_
 obtain⟨a,j,h⟩:=Gd h
 refine Rn O O O (G8f (args:=[.fn 95 [.dptr [DM Ks I64 m.open_]]]) (L0:=[]) (u:=fun p=>.vec 1203 p 1 a.length) (Lr:=fun p=>[(1203,.vec 3 1 p (a.map I64))]) O (H29.down (Gw.keys m.open_) 95 [.dptr [DM Ks I64 m.open_]] Qa5 O (Gcf m.open_) a j) J0c ⟨.inl O,O,ø⟩ ø O (fun _=>O)) ?_
 rintro u_ L_ ⟨c,rfl,rfl⟩
 refine JLm (.vec 1203 c 1 a.length) O (G6 (g (G3c 2 O O (fun hn_=>Gs ?_))))
 obtain rfl:=M8 h
 exact⟨[.vec 1203 c 1 a.length],[(1203,.vec 3 1 c (a.map I64))],⟨⟨_,O,.vec⟩,ø⟩,O,⟨⟨_,O,.conv (.same O)⟩,ø⟩,c,congrArg (fun n_:Nat=>(.vec 1203 c 1 n_:AV)) (hn_.trans (Mn _)),O⟩

def H19 (l:List G1):Option (List Slot):=
 each (fun b d (a:(List Slot)) c=>
  need (decide ((a.length+[b.Slot].length)*24≤140737488355328∧a.length+[b.Slot].length≤maxLen)) <|
  c (a++[b.Slot]))
 (fun(a:(List Slot))=>
  some a) l 0 []
theorem Qff (l:List G1) (r:(List Slot)) (h:H19 l=some r):Pure En 61 [E1 l] (·=Ea r):=by
 unfold H19 at h
 refine Gz [.tmp 2] Tryz.func61 O O (Jr fun v=>(JLh (Ea ([]:List Slot)) (Jd 3 O O) O (G6 (v (Jr fun w=>(JLh (OW 1125 3 Slot.av ([]:List Slot)) (H69 1125 57 3 O O O) O (G6 (w (Js fun x=>Jr fun z=>(JLm (E1 l) O (JLl H5 O O O fun a0=>(JLm (I64 0) O (G6 (z (Gq ?_)))))))))))))))
 obtain⟨a1,i,j,g,h⟩:=Je h
 refine Hm (fun c (a:(List Slot))=>each a1 i (List.drop c l) c a=some r) (fun c a=>[(3,OW 1125 3 Slot.av a),(6,E1 l),(7,Em l.length),(8,Em c)]) (fun c a=>[(1125,.spare 57 3 a.length a.length)]) (fun c=>l.length - c) 0 [] h ⟨(.sm O O),⟨⟨_,rfl,.same⟩,ø⟩,rfl⟩ ?_
 clear h
 intro c a d a4 a2
 refine Jr fun k=>(JLh (BL (decide ((c:Int) < (l.length:Int)))) (Jn O O O) O (G6 (k (Js fun m=>Gp O (fun hb=>?_) (fun hb=>?_)))))
 ·
  have e:=Jz hb
  obtain⟨b,a3,n,o,h⟩:=Hv d e
  replace h:=Zm j h
  refine Gk (m (Js fun p=>Gq (Jr fun q=>(JLh (Eh b) (Hb (f:=G1.av) (xs:=l) (y:=b) O O O H5 n O) O (JLh (.agg (G1.cs b)) (Gm Qh O O O) O (JLh (.ptr 1126 0) (Hj 1126 4 Q3 O O) O (Hq (u:=.junk) (H7 (u:=.agg (G1.cs b)) (ds:=[I64 b.Box,I64 b.Slot.G3,I64 b.Slot.Tier,U8 b.Slot.Half]) Ru O O O O O O O O) (G6 (q (fzQ [(3,OW 1125 3 Slot.av a),(5,Eh b),(6,E1 l),(7,Em l.length),(8,Em c)] [(1125,.spare 57 3 a.length a.length)] 1126 rfl rfl rfl ⟨⟨_,rfl,.same⟩,ø⟩ rfl (G2 ?_)))))))))))
  refine JLm (OW 1125 3 Slot.av a) O (JLh (.dptr ((G1.cs b).drop 1)) (Ga Jt O O O) O (JLh (.agg ((G1.cs b).drop 1)) (Gm J4 O O O) O (JLh (Ea [b.Slot]) (He (xs:=[.agg ((G1.cs b).drop 1)]) O ⟨O,O,ø⟩ Yi Rr O O O O) O ?_)))
  obtain⟨s,h⟩:=Jf h
  refine JLh (OW 1125 3 Slot.av (a++[b.Slot])) (Yo (f:=Slot.av) (xs:=a) (ys:=[b.Slot]) O O O O Yi Jae s (fun _=>O) (.inl O) O) O (JLm (OW 1125 3 Slot.av (a++[b.Slot])) O (G6 (p (G2 (JLh (I64 ((c+1:Nat):Int)) (J3 (Hp e a0) O O O) O (JLm (I64 ((c+1:Nat):Int)) O (G6 (a2 _ _ (c+1) (a++[b.Slot]) (app1 o h) (by omega) ⟨(.sm O O),⟨⟨_,rfl,.same⟩,ø⟩,rfl⟩))))))))
 ·
  have h:=app1 g (Hw d (Hf hb))
  refine Hr (x (Jr fun t=>(JLm (OW 1125 3 Slot.av a) O (JLm (OW 1125 3 Slot.av a) O (G6 (t (Gs (fin1l (fun r:(List Slot)=>(Ea r:AV)) h))))))))

def H63 (b:Box):Option Int:=
 bif b.High then
 (some 2896)
 else
 (some 2591)
theorem R22 (b:Box) (r:Int) (h:H63 b=some r):Pure En 145 [.agg (Box.cs b)] (·=I64 r):=by
 unfold H63 at h
 refine Gz [.tmp 2] Tryz.func145 O O (Jr fun a=>(JLh (.ptr 1208 0) (Q6 (cs:=(Box.cs b)) 1208 O O O O O) O (JLm (I64 0) O (G6 (a (Gr [(1,Ei b)] [] 1208 rfl rfl rfl ø rfl (by exact⟨.ptr,ø⟩) (Js fun c=>Jr fun d=>(JLh (.dptr ((Box.cs b).drop 3)) (Ga H8e O O O) O (JLh (BL b.High) (Gg Qe O O O) O (G6 (d (JCc O h (fun h hb=>?_) (fun h hb=>?_)))))))))))))
 ·
  refine Jr fun e=>(JLm (I64 2896) O (G6 (e (Gs (fin1 I64 h)))))
 ·
  refine Gk (c (Jr fun f=>(JLm (I64 2591) O (G6 (f (Gs (fin1 I64 h)))))))

def G96 (boxes:List Box) (l:List G1) (column:Int) (half:Int):Option Int:=
 each (fun c i (a:Int) e=>
  jp (fun b=>
   bif ((decide (c.Slot.G3=column))&&((decide (c.Slot.Half=half))||(decide (c.Slot.Half=0)))) then
   (bnd (Gb0 boxes c.Box) fun d=>
    bif d.2 then
    (bnd (H63 d.1) fun f=>
     chk (a+f) fun g=>
     b g)
    else
    (b a))
   else
   (b a)) fun(h:Int)=>
  e h)
 (fun(a:Int)=>
  some a) l 0 0
theorem J34 (boxes:List Box) (l:List G1) (column:Int) (half:Int) (r:Int) (h:G96 boxes l column half=some r):Pure En 117 [E8 boxes,E1 l,I64 column,U8 half] (·=I64 r):=by
 unfold G96 at h
 refine Gz [.tmp 8] Tryz.func117 O O (Jr fun a7=>(JLm (I64 0) O (G6 (a7 (Jr fun a8=>(JLm (I64 0) O (G6 (a8 (Js fun a9=>Jr fun b0=>(JLm (E1 l) O (JLl H5 O O O fun o=>(JLm (I64 0) O (G6 (b0 (Gq ?_)))))))))))))))
 obtain⟨b1,p,q,k,h⟩:=Je h
 refine Hm (fun b (d:Int)=>each b1 p (List.drop b l) b d=some r) (fun b d=>[(0,E8 boxes),(2,I64 column),(3,U8 half),(9,I64 d),(14,E1 l),(15,Em l.length),(16,Em b)]) (fun b d=>[]) (fun b=>l.length - b) 0 0 h ⟨(.sm O O),ø,rfl⟩ ?_
 clear h
 intro b d g b4 b2
 refine Jr fun s=>(JLh (BL (decide ((b:Int) < (l.length:Int)))) (Jn O O O) O (G6 (s (Js fun t=>Gp O (fun hb=>?_) (fun hb=>?_)))))
 ·
  have i:=Jz hb
  obtain⟨a,b3,v,w,h⟩:=Hv g i
  replace h:=Zm q h
  refine Gk (t ?_)
  obtain⟨x,m,h⟩:=Rc h
  refine Qk (fun e:Int=>x e=some r) (fun e=>[(0,E8 boxes),(2,I64 column),(3,U8 half),(9,I64 e),(14,E1 l),(15,Em l.length),(16,Em b)]) (fun e=>[]) (fun Kj30 ej30=>?_) ?_
  ·
   refine Gq (Jr fun z=>(JLh (Eh a) (Hb (f:=G1.av) (xs:=l) (y:=a) O O O H5 v O) O (JLh (.agg (G1.cs a)) (Gm Qh O O O) O (JLh (.ptr 1187 0) (Hj 1187 4 Q3 O O) O (Hq (u:=.junk) (H7 (u:=.agg (G1.cs a)) (ds:=[I64 a.Box,I64 a.Slot.G3,I64 a.Slot.Tier,U8 a.Slot.Half]) Ru O O O O O O O O) (G6 (z (fzQ [(0,E8 boxes),(2,I64 column),(3,U8 half),(9,I64 d),(11,Eh a),(14,E1 l),(15,Em l.length),(16,Em b)] [] 1187 rfl rfl rfl ø rfl ?_))))))))
   refine Jr fun a0=>(JLh (.dptr ((G1.cs a).drop 1)) (Ga Jt O O O) O (JLh (.dptr ((G1.cs a).drop 1)) (Ga Jb O O O) O (JLh (I64 a.Slot.G3) (Gg Gb O O O) O (JLm (I64 column) O (JLh (BL (decide (a.Slot.G3=column))) (Qg O O O) O (JLm (BL (decide (a.Slot.G3=column))) O (JLo (.dptr ((G1.cs a).drop 1)) [] O .sct ø (fun hc=>Ga Jt O O O) O (JLo (.dptr [U8 a.Slot.Half]) [26] O .sct ⟨Ua,ø⟩ (fun hc=>Ga Qy O O O) O (JLo (U8 a.Slot.Half) [27] O .sct ⟨Ua,ø⟩ (fun hc=>Gg Hy O O O) O (JLo (U8 half) [] O .sct ø (fun hc=>G5 O O) O (JLo (BL (decide (a.Slot.Half=half))) [28,29] O .sct ⟨Ua,Ua,ø⟩ (fun hc=>Qg O O O) O (JLo (BL (decide (a.Slot.Half=half))) [30] O .sct ⟨Ua,ø⟩ (fun hc=>G5 O O) O (JLo (.dptr ((G1.cs a).drop 1)) [] O .optf ø (fun hc=>Ga Jt O O O) O ?_)))))))))))))
   refine JLo (.dptr [U8 a.Slot.Half]) [32] O .optf ⟨Ua,ø⟩ (fun hc=>Ga Qy O O O) O (JLo (U8 a.Slot.Half) [33] O .optf ⟨Ua,ø⟩ (fun hc=>Gg Hy O O O) O (JLo (BL (decide (a.Slot.Half=0))) [34] O .optf ⟨Ua,ø⟩ (fun hc=>Qg O O O) O (Gi (u:=BL ((decide (a.Slot.Half=half))||(decide (a.Slot.Half=0)))) [(31,BL (decide (a.Slot.Half=half))),(35,_)] O O O .sct ⟨.all id,.part,ø⟩ (fun hc=>G82 O O O O) ?_)))
   refine JLh (BL ((decide (a.Slot.G3=column))&&((decide (a.Slot.Half=half))||(decide (a.Slot.Half=0))))) (Ri O O O O) O (G6 (a0 (JCc O h (fun h hb=>?_) (fun h hb=>?_))))
   ·
    refine Jr fun a1=>(JLm (E8 boxes) O (JLh (Eh a) (Ga Ja O O O) O (JLh (I64 a.Box) (Gg Gb O O O) O ?_)))
    obtain⟨c,a2,h⟩:=Gd h
    refine JLh (.tup [.agg (Box.cs c.1),BL c.2]) (Gu O (He2 boxes a.Box c a2) Jb4 ⟨O,O,O,O,ø⟩) O (JLm (.tup [.agg (Box.cs c.1),BL c.2]) O (JLh (.agg (Box.cs c.1)) (Gv O O O) O (JLh (BL c.2) (Gv O O O) O (JLh (.ptr 1188 0) (Hj 1188 9 R0 O O) O (Hq (u:=.junk) (H7 (u:=.agg (Box.cs c.1)) (ds:=(Box.cs c.1)) Rs O O O O O O O O) (JLm (BL c.2) O (G6 (a1 ?_))))))))
    refine fzQ [(0,E8 boxes),(2,I64 column),(3,U8 half),(9,I64 d),(12,Ei c.1),(13,BL c.2),(14,E1 l),(15,Em l.length),(16,Em b)] [] 1188 rfl rfl rfl ø rfl (Jr fun a3=>(JLm (BL c.2) O (G6 (a3 (JCc O h (fun h hb=>?_) (fun h hb=>?_))))))
    ·
     refine G2 (JLm (I64 d) O (JLh (.agg (Box.cs c.1)) (Gm Ra O O O) O ?_))
     obtain⟨n,a4,h⟩:=Gd h
     refine JLh (I64 n) (Gu O (R22 c.1 n a4) Ra9 ⟨O,O,ø⟩) O ?_
     obtain⟨j,a5,h⟩:=Ht h
     refine JLh (I64 j) (J3 a5 O O O) O (JLm (I64 j) O (G6 (ej30 _ _ j h ⟨(.sm O O),ø,rfl⟩)))
    ·
     refine Gk (ej30 _ _ d h ⟨(.sm O O),ø,rfl⟩)
   ·
    refine Gk (ej30 _ _ d h ⟨(.sm O O),ø,rfl⟩)
  ·intro e h
   replace h:=app1 m h
   refine G2 (JLh (I64 ((b+1:Nat):Int)) (J3 (Hp i o) O O O) O (JLm (I64 ((b+1:Nat):Int)) O (G6 (b2 _ _ (b+1) e (app1 w h) (by omega) ⟨(.sm O O),ø,rfl⟩))))
 ·
  have h:=app1 k (Hw g (Hf hb))
  refine Hr (a9 (Jr fun a6=>(JLm (I64 d) O (JLm (I64 d) O (G6 (a6 (Gs (fin1 I64 h))))))))

def H64 (s:Gj) (boxes:List Box) (l:List G1) (column:Int):Option Bool:=
 Qm s.Columns column fun a=>
 bnd (bif (!(decide (a.Height≤0))) then G96 boxes l column 1 else some default) fun b=>
 bnd (bif ((!(decide (a.Height≤0)))&&(decide (b≤a.Height))) then G96 boxes l column 2 else some default) fun c=>
 some ((decide (a.Height≤0))||((decide (b≤a.Height))&&(decide (c≤a.Height))))
theorem R23 (s:Gj) (boxes:List Box) (l:List G1) (column:Int) (r:Bool) (h:H64 s boxes l column=some r):Pure En 66 [.agg (Gj.cs s),E8 boxes,E1 l,I64 column] (·=BL r):=by
 unfold H64 at h
 refine Gz [.tmp 8] Tryz.func66 O O (Jr fun d=>(JLh (.ptr 1135 0) (Q6 (cs:=(Gj.cs s)) 1135 O O O O O) O (JLm (BL false) O (G6 (d (fzQ [(1,E8 boxes),(2,E1 l),(3,I64 column),(4,Ee s)] [] 1135 rfl rfl rfl ø rfl (Jr fun e=>(JLh (Ee s) (Ga Jc O O O) O (JLh (E3 s.Columns) (Gg Jv O O O) O (JLm (I64 column) O ?_))))))))))
 obtain⟨n,a,g,i,h⟩:=Rw h
 refine JLh (Ej a) (Hb (f:=G3.av) (xs:=s.Columns) (y:=a) O O O Hz i g) O (JLh (.dptr ((G3.cs a).drop 4)) (Ga Hda O O O) O (JLh (I64 a.Height) (Gg Gb O O O) O (JLm (I64 a.Height) O (G6 (e (Jr fun j=>(JLm (I64 a.Height) O (JLh (BL (decide (a.Height≤0))) (Hd6 O O O) O (JLm (BL (decide (a.Height≤0))) O (JLo (E8 boxes) [] O .scf ø (fun hc=>G5 O O) O (JLo (E1 l) [] O .scf ø (fun hc=>G5 O O) O (JLo (I64 column) [] O .scf ø (fun hc=>G5 O O) O ?_))))))))))))
 obtain⟨b,k,h⟩:=Gd h
 refine JLo (I64 b) [19,20,21] O .scf ⟨Ua,Ua,Ua,ø⟩ (fun hc=>Gu (args:=[E8 boxes,E1 l,I64 column,U8 1]) O (J34 boxes l column 1 b (H2 hc k)) Q47 ⟨O,O,O,O,O,O,O,O,ø⟩) O (JLo (I64 a.Height) [] O .scf ø (fun hc=>G5 O O) O (JLo (BL (decide (b≤a.Height))) [22,23] O .scf ⟨Ua,Ua,ø⟩ (fun hc=>Hd6 O O O) O (JLo (BL (decide (b≤a.Height))) [24] O .scf ⟨Ua,ø⟩ (fun hc=>G5 O O) O (JLo (E8 boxes) [] O .optt ø (fun hc=>G5 O O) O (JLo (E1 l) [] O .optt ø (fun hc=>G5 O O) O (JLo (I64 column) [] O .optt ø (fun hc=>G5 O O) O ?_))))))
 obtain⟨c,m,h⟩:=Gd h
 refine JLo (I64 c) [26,27,28] O .optt ⟨Ua,Ua,Ua,ø⟩ (fun hc=>Gu (args:=[E8 boxes,E1 l,I64 column,U8 2]) O (J34 boxes l column 2 c (H2 hc m)) Q47 ⟨O,O,O,O,O,O,O,O,ø⟩) O (JLo (I64 a.Height) [] O .optt ø (fun hc=>G5 O O) O (JLo (BL (decide (c≤a.Height))) [29,30] O .optt ⟨Ua,Ua,ø⟩ (fun hc=>Hd6 O O O) O (Gi (u:=BL ((decide (b≤a.Height))&&(decide (c≤a.Height)))) [(25,BL (decide (b≤a.Height))),(31,_)] O O O .scf ⟨.all id,.part,ø⟩ (fun hc=>Ri O O O O) ?_)))
 refine JLh (BL ((decide (a.Height≤0))||((decide (b≤a.Height))&&(decide (c≤a.Height))))) (G82 O O O O) O (JLm (BL ((decide (a.Height≤0))||((decide (b≤a.Height))&&(decide (c≤a.Height))))) O (G6 (j (Gs (fin1 BL h)))))

def Z6 (s:Gj) (boxes:List Box) (l:List G1):Option Bool:=
 bnd (Gc5 s) fun v=>
 bif (!v) then
 (some false)
 else
 (bnd (H19 l) fun f=>
  each (fun a b (j:Unit) g=>
   bnd (Gb0 boxes a.Box) fun c=>
   bnd (bif ((!(!c.2))&&(decide (0 < (b:Int)))) then chk ((b:Int) - 1) some else some 0) fun k=>
   bnd (bif ((!(!c.2))&&(decide (0 < (b:Int)))) then Qm l k some else some default) fun d=>
   bnd (bif (!((!c.2)||((decide (0 < (b:Int)))&&(decide (a.Box≤d.Box))))) then G7f s a.Slot c.1.Size else some default) fun e=>
   bnd (bif (!(((!c.2)||((decide (0 < (b:Int)))&&(decide (a.Box≤d.Box))))||(!e))) then G4c a.Slot f else some default) fun m=>
   bif ((((!c.2)||((decide (0 < (b:Int)))&&(decide (a.Box≤d.Box))))||(!e))||(!m)) then
   (some false)
   else
   (bnd (J5b (b:Int) f.length) fun n=>
    each (fun o w (p:Unit) h=>
     bnd (H02 a.Slot o) fun q=>
     bif q then
     (some false)
     else
     (h ()))
    (fun(p:Unit)=>
     g ()) (f.take n) 0 ()))
  (fun(j:Unit)=>
   each (fun x r (t:Unit) i=>
    bnd (H64 s boxes l (r:Int)) fun u=>
    bif (!u) then
    (some false)
    else
    (i ()))
   (fun(t:Unit)=>
    some true) s.Columns 0 ()) l 0 ())
theorem Gaf (s:Gj) (boxes:List Box) (l:List G1) (r:Bool) (h:Z6 s boxes l=some r):Pure En 31 [.agg (Gj.cs s),E8 boxes,E1 l] (·=BL r):=by
 unfold Z6 at h
 refine Gz [.tmp 6] Tryz.func31 O O (Jr fun f4=>(JLh (.ptr 1055 0) (Q6 (cs:=(Gj.cs s)) 1055 O O O O O) O (JLm (BL false) O (G6 (f4 (Gr [(1,E8 boxes),(2,E1 l),(3,Ee s)] [] 1055 rfl rfl rfl ø rfl (by exact⟨.conv (.same rfl),.conv (.same rfl),.ptr,ø⟩) (Js fun f5=>Jr fun f6=>(JLh (.agg (Gj.cs s)) (Gm J8 O O O) O ?_))))))))
 obtain⟨r4,f7,h⟩:=Gd h
 refine JLh (BL r4) (Gu O (Qfd.down s r4 f7) Y27 ⟨O,O,ø⟩) O (JLh (BL (!r4)) (Yc (b:=r4) O O) O (G6 (f6 (JCc O h (fun h hb=>?_) (fun h hb=>?_)))))
 ·
  refine Jr fun f8=>(JLm (BL false) O (G6 (f8 (Gs (fin1 BL h)))))
 ·
  refine Gk (f5 (Jr fun f9=>(JLm (E1 l) O ?_)))
  obtain⟨g,g0,h⟩:=Gd h
  refine JLh (Ea g) (Gu O (Qff l g g0) Y26 ⟨O,O,ø⟩) O (JLm (Ea g) O (G6 (f9 (Js fun g1=>Jr fun g2=>(JLm (E1 l) O (JLl H5 O O O fun a8=>(JLm (I64 0) O (G6 (g2 (Gq ?_))))))))))
  obtain⟨g3,a9,b0,a4,h⟩:=Je h
  refine Hm (fun c (p:Unit)=>each g3 a9 (List.drop c l) c p=some r) (fun c p=>[(1,E8 boxes),(2,E1 l),(3,Ee s),(7,Ea g),(20,E1 l),(21,Em l.length),(22,Em c)]) (fun c p=>[]) (fun c=>l.length - c) 0 () h ⟨(.sm O O),ø,rfl⟩ ?_
  clear h
  intro c p w h4 g4
  refine Jr fun b1=>(JLh (BL (decide ((c:Int) < (l.length:Int)))) (Jn O O O) O (G6 (b1 (Js fun b2=>Gp O (fun hb=>?_) (fun hb=>?_)))))
  ·
   have x:=Jz hb
   obtain⟨a,h0,b3,b4,h⟩:=Hv w x
   replace h:=Zm b0 h
   refine Gk (b2 (Js fun b5=>Gq (Jr fun b6=>(JLm (Em c) O (JLh (Eh a) (Hb (f:=G1.av) (xs:=l) (y:=a) O O O H5 b3 O) O (JLh (.agg (G1.cs a)) (Gm Qh O O O) O (JLh (.ptr 1056 0) (Hj 1056 4 Q3 O O) O (JLm (Em c) O (Hq (u:=.junk) (H7 (u:=.agg (G1.cs a)) (ds:=[I64 a.Box,I64 a.Slot.G3,I64 a.Slot.Tier,U8 a.Slot.Half]) Ru O O O O O O O O) (G6 (b6 (fzQ [(1,E8 boxes),(2,E1 l),(3,Ee s),(7,Ea g),(8,Em c),(9,Eh a),(20,E1 l),(21,Em l.length),(22,Em c)] [] 1056 rfl rfl rfl ø rfl ?_))))))))))))
   refine Jr fun b7=>(JLm (E8 boxes) O (JLh (Eh a) (Ga Ja O O O) O (JLh (I64 a.Box) (Gg Gb O O O) O ?_)))
   obtain⟨d,b8,h⟩:=Gd h
   refine JLh (.tup [.agg (Box.cs d.1),BL d.2]) (Gu O (He2 boxes a.Box d b8) Jb4 ⟨O,O,O,O,ø⟩) O (JLm (.tup [.agg (Box.cs d.1),BL d.2]) O (JLh (.agg (Box.cs d.1)) (Gv O O O) O (JLh (BL d.2) (Gv O O O) O (JLh (.ptr 1057 0) (Hj 1057 9 R0 O O) O (Hq (u:=.junk) (H7 (u:=.agg (Box.cs d.1)) (ds:=(Box.cs d.1)) Rs O O O O O O O O) (JLm (BL d.2) O (G6 (b7 ?_))))))))
   refine fzQ [(1,E8 boxes),(2,E1 l),(3,Ee s),(7,Ea g),(8,Em c),(9,Eh a),(10,Ei d.1),(11,BL d.2),(20,E1 l),(21,Em l.length),(22,Em c)] [] 1057 rfl rfl rfl ø rfl (Js fun b9=>Js fun c0=>?_)
   obtain⟨g5,c1,h⟩:=Gd h
   obtain⟨j,c2,h⟩:=Gd h
   obtain⟨n,c3,h⟩:=Gd h
   obtain⟨o,c4,h⟩:=Gd h
   refine JC_d0 J1 (by kernel_rfl) (Dq (BL d.2) (G5 O O) O (Dq (BL (!d.2)) (Yc (b:=d.2) O O) O (Dq (BL (!d.2)) (G5 O O) O (Do (Em c) [] O .scf ø (fun hc=>G5 O O) O (Do (BL (decide (0 < (c:Int)))) [37] O .scf ⟨Ua,ø⟩ (fun hc=>Gd1 O O O) O (Do (BL (decide (0 < (c:Int)))) [38] O .scf ⟨Ua,ø⟩ (fun hc=>G5 O O) O (Do (Eh a) [] O .optt ø (fun hc=>Ga Ja O O O) O (Do (I64 a.Box) [40] O .optt ⟨Ua,ø⟩ (fun hc=>Gg Gb O O O) O (Do (E1 l) [] O .optt ø (fun hc=>G5 O O) O (Do (Em c) [] O .optt ø (fun hc=>G5 O O) O (Do (I64 g5) [43] O .optt ⟨Ua,ø⟩ (fun hc=>G62 (Hf5 (H2 hc c1)) O O O) O (Do (Eh j) [42,44] O .optt ⟨Ua,Ua,ø⟩ (fun hc=>(match Gc4 (H2 hc c2) with | ⟨_,hm_,hy_⟩=>Hb (f:=G1.av) (xs:=l) (y:=j) O O O H5 hy_ hm_)) O (Do (Eh j) [45] O .optt ⟨Ua,ø⟩ (fun hc=>Ga Ja O O O) O ?_)))))))))))))
   refine Do (I64 j.Box) [46] O .optt ⟨Ua,ø⟩ (fun hc=>Gg Gb O O O) O (Do (BL (decide (a.Box≤j.Box))) [41,47] O .optt ⟨Ua,Ua,ø⟩ (fun hc=>Hd6 O O O) O (Dg (.opt (!(!d.2)) (BL ((decide (0 < (c:Int)))&&(decide (a.Box≤j.Box))))) (Hc [(39,BL (decide (0 < (c:Int)))),(48,_)] O O O .scf ⟨.all id,.part,ø⟩ (fun hc=>Ri O O O O) O) O (Dq (BL ((!d.2)||((decide (0 < (c:Int)))&&(decide (a.Box≤j.Box))))) (G82 O O O O) O (Dq (BL ((!d.2)||((decide (0 < (c:Int)))&&(decide (a.Box≤j.Box))))) (G5 O O) O (Do (.agg (Gj.cs s)) [] O .scf ø (fun hc=>Gm J8 O O O) O (Do (.dptr ((G1.cs a).drop 1)) [] O .scf ø (fun hc=>Ga Jt O O O) O (Do (.agg ((G1.cs a).drop 1)) [53] O .scf ⟨Ua,ø⟩ (fun hc=>Gm J4 O O O) O (Do (.dptr ((Box.cs d.1).drop 2)) [] O .scf ø (fun hc=>Ga G35 O O O) O (Do (U8 d.1.Size) [55] O .scf ⟨Ua,ø⟩ (fun hc=>Gg Hy O O O) O (Do (BL n) [52,54,56] O .scf ⟨Ua,Ua,Ua,ø⟩ (fun hc=>Gu (args:=[.agg (Gj.cs s),.agg ((G1.cs a).drop 1),U8 d.1.Size]) O (J6b s a.Slot d.1.Size n (H2 hc c3)) Qae ⟨O,O,O,O,O,O,ø⟩) O (Do (BL (!n)) [57] O .scf ⟨Ua,ø⟩ (fun hc=>Yc (b:=n) O O) O (Dq (BL (((!d.2)||((decide (0 < (c:Int)))&&(decide (a.Box≤j.Box))))||(!n))) (G82 O O O O) O (Dq (BL (((!d.2)||((decide (0 < (c:Int)))&&(decide (a.Box≤j.Box))))||(!n))) (G5 O O) O ?_)))))))))))))
   refine Do (.dptr ((G1.cs a).drop 1)) [] O .scf ø (fun hc=>Ga Jt O O O) O (Do (.agg ((G1.cs a).drop 1)) [61] O .scf ⟨Ua,ø⟩ (fun hc=>Gm J4 O O O) O (Do (Ea g) [] O .scf ø (fun hc=>G5 O O) O (Do (BL o) [62,63] O .scf ⟨Ua,Ua,ø⟩ (fun hc=>Gu (args:=[.agg ((G1.cs a).drop 1),Ea g]) O (Ja7 a.Slot g o (H2 hc c4)) Qad ⟨O,O,O,O,ø⟩) O (Do (BL (!o)) [64] O .scf ⟨Ua,ø⟩ (fun hc=>Yc (b:=o) O O) O (Dq (BL ((((!d.2)||((decide (0 < (c:Int)))&&(decide (a.Box≤j.Box))))||(!n))||(!o))) (G82 O O O O) O (Dnil (c0 (JCc O h (fun h hb=>?_) (fun h hb=>?_)))))))))
   ·
    refine Jr fun c5=>(JLm (BL false) O (G6 (c5 (Gs (fin1 BL h)))))
   ·
    refine Gk (b9 (Jr fun c6=>(JLm (Ea g) O (JLm (Em c) O ?_))))
    obtain⟨m,c7,h⟩:=Gd h
    refine JLh (Ea (g.take m)) (J2c (f:=Slot.av) (xs:=g) O O O Yi (H36 c7)) O (JLl Yi O O O fun c8=>(JLm (I64 0) O (G6 (c6 (Gq ?_)))))
    obtain⟨g6,c9,d0,a5,h⟩:=Je h
    refine Hm (fun i (q:Unit)=>each g6 c9 (List.drop i (g.take m)) i q=some r) (fun i q=>[(1,E8 boxes),(2,E1 l),(3,Ee s),(7,Ea g),(9,Eh a),(20,E1 l),(21,Em l.length),(22,Em c),(69,Ea (g.take m)),(70,I64 ((g.take m).length:Int)),(71,Em i)]) (fun i q=>[]) (fun i=>(g.take m).length - i) 0 () h ⟨(.sm O O),ø,rfl⟩ ?_
    clear h
    intro i q z h5 g7
    refine Jr fun d1=>(JLh (BL (decide ((i:Int) < ((g.take m).length:Int)))) (Jn O O O) O (G6 (d1 (Js fun d2=>Gp O (fun hb=>?_) (fun hb=>?_)))))
    ·
     have a0:=Jz hb
     obtain⟨k,h1,d3,d4,h⟩:=Hv z a0
     replace h:=Zm d0 h
     refine Gk (d2 (Js fun d5=>Gq (Jr fun d6=>(JLh (Ek k) (Hb (f:=Slot.av) (xs:=(g.take m)) (y:=k) O O O Yi d3 O) O (JLh (.agg (Slot.cs k)) (Gm J4 O O O) O (JLh (.ptr 1058 0) (Hj 1058 3 Rr O O) O (Hq (u:=.junk) (H7 (u:=.agg (Slot.cs k)) (ds:=[I64 k.G3,I64 k.Tier,U8 k.Half]) Yq O O O O O O O O) (G6 (d6 (fzQ [(1,E8 boxes),(2,E1 l),(3,Ee s),(7,Ea g),(9,Eh a),(13,Ek k),(20,E1 l),(21,Em l.length),(22,Em c),(69,Ea (g.take m)),(70,I64 ((g.take m).length:Int)),(71,Em i)] [] 1058 rfl rfl rfl ø rfl ?_))))))))))
     refine Jr fun d7=>(JLh (.dptr ((G1.cs a).drop 1)) (Ga Jt O O O) O (JLh (.agg ((G1.cs a).drop 1)) (Gm J4 O O O) O (JLh (.agg (Slot.cs k)) (Gm J4 O O O) O ?_)))
     obtain⟨a7,d8,h⟩:=Gd h
     refine JLh (BL a7) (Gu O (Ja6 a.Slot k a7 d8) Qac ⟨O,O,O,O,ø⟩) O (G6 (d7 (JCc O h (fun h hb=>?_) (fun h hb=>?_))))
     ·
      refine Jr fun d9=>(JLm (BL false) O (G6 (d9 (Gs (fin1 BL h)))))
     ·
      refine Gk (d5 (G2 (JLh (I64 ((i+1:Nat):Int)) (J3 (Hp a0 c8) O O O) O (JLm (I64 ((i+1:Nat):Int)) O (G6 (g7 _ _ (i+1) () (app1 d4 h) (by omega) ⟨(.sm O O),ø,rfl⟩))))))
    ·
     have h:=app1 a5 (Hw z (Hf hb))
     refine Hr (b5 (G2 (JLh (I64 ((c+1:Nat):Int)) (J3 (Hp x a8) O O O) O (JLm (I64 ((c+1:Nat):Int)) O (G6 (g4 _ _ (c+1) () (app1 b4 h) (by omega) ⟨(.sm O O),ø,rfl⟩))))))
  ·
   have h:=app1 a4 (Hw w (Hf hb))
   refine Hr (g1 (Js fun e0=>Jr fun e1=>(JLh (Ee s) (Ga Jc O O O) O (JLh (E3 s.Columns) (Gg Jv O O O) O (JLl Hz O O O fun e2=>(JLm (I64 0) O (G6 (e1 (Gq ?_)))))))))
   obtain⟨g8,e3,e4,a6,h⟩:=Je h
   refine Hm (fun e (t:Unit)=>each g8 e3 (List.drop e s.Columns) e t=some r) (fun e t=>[(1,E8 boxes),(2,E1 l),(3,Ee s),(83,Em s.Columns.length),(84,Em e)]) (fun e t=>[]) (fun e=>s.Columns.length - e) 0 () h ⟨(.sm O O),ø,rfl⟩ ?_
   clear h
   intro e t a1 h6 g9
   refine Jr fun e5=>(JLh (BL (decide ((e:Int) < (s.Columns.length:Int)))) (Jn O O O) O (G6 (e5 (Js fun e6=>Gp O (fun hb=>?_) (fun hb=>?_)))))
   ·
    have a2:=Jz hb
    obtain⟨h7,h2,h3,e7,h⟩:=Hv a1 a2
    replace h:=Zm e4 h
    refine Gk (e6 (Js fun e8=>Gq (Jr fun e9=>(JLm (Em e) O (JLm (Em e) O (G6 (e9 (Jr fun f0=>(JLh (.agg (Gj.cs s)) (Gm J8 O O O) O (JLm (E8 boxes) O (JLm (E1 l) O (JLm (Em e) O ?_))))))))))))
    obtain⟨v,f1,h⟩:=Gd h
    refine JLh (BL v) (Gu O (R23 s boxes l (e:Int) v f1) Y25 ⟨O,O,O,O,O,O,O,O,ø⟩) O (JLh (BL (!v)) (Yc (b:=v) O O) O (G6 (f0 (JCc O h (fun h hb=>?_) (fun h hb=>?_)))))
    ·
     refine Jr fun f2=>(JLm (BL false) O (G6 (f2 (Gs (fin1 BL h)))))
    ·
     refine Gk (e8 (G2 (JLh (I64 ((e+1:Nat):Int)) (J3 (Hp a2 e2) O O O) O (JLm (I64 ((e+1:Nat):Int)) O (G6 (g9 _ _ (e+1) () (app1 e7 h) (by omega) ⟨(.sm O O),ø,rfl⟩))))))
   ·
    have h:=app1 a6 (Hw a1 (Hf hb))
    refine Hr (e0 (Jr fun f3=>(JLm (BL true) O (G6 (f3 (Gs (fin1 BL h)))))))

def Y3 (s:List G9):Option (List G9):=
 Rd7 s fun a=>
 bif a then
 (some [])
 else
 (need (decide ((([]:List G9).length+s.length)*32≤140737488355328∧([]:List G9).length+s.length≤maxLen)) <|
  some (([]:List G9)++s))
def G98 (x:G1) (a:Int):Option Bool:=
 some (decide (x.Box=a))
theorem Q7a (x:G1) (a:Int) (r:Bool) (h:G98 x a=some r):Pure En 37 [.agg (G1.cs x),.dptr [I64 a]] (·=BL r):=by
 unfold G98 at h
 refine Gz [.tmp 3] Tryz.func37 O O (Jr fun b=>(JLh (.ptr 1074 0) (Q6 (cs:=[I64 x.Box,I64 x.Slot.G3,I64 x.Slot.Tier,U8 x.Slot.Half]) 1074 O O O O O) O (JLm (BL false) O (G6 (b (Gr [(1,.dptr [I64 a]),(2,Eh x)] [] 1074 rfl rfl rfl ø rfl (by exact⟨.conv (.same rfl),.ptr,ø⟩) (Jr fun c=>(JLh (Eh x) (Ga Ja O O O) O (JLh (I64 x.Box) (Gg Gb O O O) O (JLh (I64 a) (Gg Gb O O O) O (JLh (BL (decide (x.Box=a))) (Qg O O O) O (JLm (BL (decide (x.Box=a))) O (G6 (c (Gs (fin1 BL h))))))))))))))))

def Qd (s:List G1) (f:G1→Option Bool):Option Int:=
 each (fun b c (d:Unit) a=>
  bnd (f b) fun e=>
  bif e then
  (some (c:Int))
  else
  (a ()))
 (fun(d:Unit)=>
  some (-1)) s 0 ()
theorem G6b (s:List G1) (f:G1→Option Bool) (f_f:FuncId) (f_c:List AV) (f_B:H1 En f_f=true) (f_d:Qb (fun _=>false) f_c=true) (f_w:∀ a0 q,f a0=some q→Pure En f_f ([.agg (G1.cs a0)]++f_c) (·=BL q)) (r:Int) (h:Qd s f=some r):Pure En 44 [E1 s,.fn f_f f_c] (·=I64 r):=by
 unfold Qd at h
 refine Gz [.tmp 4] Tryz.func44 O O (Jr fun x=>(JLm (I64 0) O (G6 (x (Js fun z=>Jr fun a1=>(JLm (E1 s) O (JLl H5 O O O fun a2=>(JLm (I64 0) O (G6 (a1 (Gq ?_)))))))))))
 obtain⟨a3,i,j,g,h⟩:=Je h
 refine Hm (fun a (c:Unit)=>each a3 i (List.drop a s) a c=some r) (fun a c=>[(0,E1 s),(1,.fn f_f f_c),(7,Em s.length),(8,Em a)]) (fun a c=>[]) (fun a=>s.length - a) 0 () h ⟨⟨.same O,.same (Hk _ _ f_d),.same O,.same O,ø⟩,ø,O⟩ ?_
 clear h
 intro a c d a7 a4
 refine Jr fun k=>(JLh (BL (decide ((a:Int) < (s.length:Int)))) (Jn O O O) O (G6 (k (Js fun l=>Gp O (fun hb=>?_) (fun hb=>?_)))))
 ·
  have e:=Jz hb
  obtain⟨b,a6,m,n,h⟩:=Hv d e
  replace h:=Zm j h
  refine Gk (l (Js fun o=>Gq (Jr fun p=>(JLm (Em a) O (JLm (Em a) O (G6 (p (Jr fun t=>(JLm (.fn f_f f_c) O (JLm (E1 s) O (JLm (Em a) O (JLh (Eh b) (Hb (f:=G1.av) (xs:=s) (y:=b) O O O H5 m O) O (JLh (.agg (G1.cs b)) (Gm Qh O O O) O ?_)))))))))))))
  obtain⟨a5,u,h⟩:=Gd h
  refine JLh (BL a5) (G29 (args:=[.agg (G1.cs b)]) (caps:=f_c) O O (f_w b _ u) f_B ⟨O,O,ø⟩ f_d) O (G6 (t (JCc O h (fun h hb=>?_) (fun h hb=>?_))))
  ·
   refine Jr fun v=>(JLm (Em a) O (JLm (Em a) O (G6 (v (Gs (fin1 I64 h))))))
  ·
   refine Gk (o (G2 (JLh (I64 ((a+1:Nat):Int)) (J3 (Hp e a2) O O O) O (JLm (I64 ((a+1:Nat):Int)) O (G6 (a4 _ _ (a+1) () (app1 n h) (by omega) ⟨⟨.same rfl,.same (Hk _ _ f_d),.same rfl,.same rfl,ø⟩,ø,rfl⟩))))))
 ·
  have h:=app1 g (Hw d (Hf hb))
  refine Hr (z (Jr fun w=>(JLm (I64 (-1)) O (G6 (w (Gs (fin1 I64 h)))))))

def J7 (s:List G1) (f:G1→Option Bool):Option Bool:=
 bnd (Qd s f) fun a=>
 some (decide (0≤a))
theorem Zj (s:List G1) (f:G1→Option Bool) (f_f:FuncId) (f_c:List AV) (f_B:H1 En f_f=true) (f_d:Qb (fun _=>false) f_c=true) (f_w:∀ a0 q,f a0=some q→Pure En f_f ([.agg (G1.cs a0)]++f_c) (·=BL q)) (r:Bool) (h:J7 s f=some r):Pure En 14 [E1 s,.fn f_f f_c] (·=BL r):=by
 unfold J7 at h
 refine Gz [.tmp 4] Tryz.func14 O O (Jr fun b=>(JLm (BL false) O (G6 (b (Jr fun c=>(JLm (E1 s) O (JLm (.fn f_f f_c) O ?_)))))))
 obtain⟨a,d,h⟩:=Gd h
 refine JLh (I64 a) (Gu O (G6b s f f_f f_c f_B f_d f_w a d) Qb5 ⟨O,O,O,f_d,ø⟩) O (JLh (BL (decide (0≤a))) (H2c O O O) O (JLm (BL (decide (0≤a))) O (G6 (c (Gs (fin1 BL h))))))


theorem Hbb (s:List G9) (r:(List G9)) (h:Y3 s=some r):Hx En 34 [E7 s] [] (fun av L'=>∃ p:Nat,av=.vec 1070 p 2 r.length∧L'=[(1070,.vec 100 2 p (r.map G9.av))]):=by
 unfold Y3 at h
 refine Ji [] [.tmp 2] Tryz.func34 O O (G0c O) (Jr fun a=>(JLh (.vec 1070 (([]:List G9).length) 2 (([]:List G9).length)) (G73 1070 100 2 O O O) O (G6 (a (Js fun b=>Jr fun c=>(JLm (E7 s) O (Rn O O O (Hd7 Qr O O) ?_)))))))
 rintro u_ L_ ⟨j,d,rfl,rfl⟩
 replace h:=H5b h j d
 refine G6 (c (JCc O h (fun h hb=>?_) (fun h hb=>?_)))
 ·
  refine Jr fun e=>(JLh (.vec 1070 ((([]:List G9).length)+1) 2 (([]:List G9).length)) (Q8b 1070 100 2 O O O) O (G6 (e (G3c 2 O O (fun hn_=>Gs ?_)))))
  obtain rfl:=M8 h
  exact⟨[.vec 1070 ((([]:List G9).length)+1) 2 (([]:List G9).length)],[(1070,.vec 100 2 ((([]:List G9).length)+1) (([]:List G9).map G9.av))],⟨⟨_,O,.vec⟩,ø⟩,O,⟨⟨_,O,.conv (.same O)⟩,ø⟩,((([]:List G9).length)+1),congrArg (fun n_:Nat=>(.vec 1070 ((([]:List G9).length)+1) 2 n_:AV)) (hn_.trans O),O⟩
 ·
  refine Gk (b (Jr fun g=>(JLh (.vec 1070 ((([]:List G9).length)+1) 2 (([]:List G9).length)) (Q8c 1070 100 2 O O Qr) O (JLm (E7 s) O ?_))))
  obtain⟨i,h⟩:=Jf h
  refine JLh (.vec 1070 (((([]:List G9).length)+1)+((([]:List G9)++s).length+1)) 2 ((([]:List G9)++s).length)) (G1f (f:=G9.av) (xs:=([]:List G9)) (ys:=s) (ver:=((([]:List G9).length)+1)) (ver1:=(((([]:List G9).length)+1)+((([]:List G9)++s).length+1))) rfl rfl rfl rfl Qr Hc1 i (fun _=>rfl) (.inl rfl) (by simp)) O (JLm (.vec 1070 (((([]:List G9).length)+1)+((([]:List G9)++s).length+1)) 2 ((([]:List G9)++s).length)) O (G6 (g (G3c 2 O O (fun hn_=>Gs ?_)))))
  obtain rfl:=M8 h
  exact⟨[.vec 1070 (((([]:List G9).length)+1)+((([]:List G9)++s).length+1)) 2 ((([]:List G9)++s).length)],[(1070,.vec 100 2 (((([]:List G9).length)+1)+((([]:List G9)++s).length+1)) ((([]:List G9)++s).map G9.av))],⟨⟨_,O,.vec⟩,ø⟩,O,⟨⟨_,O,.conv (.same O)⟩,ø⟩,(((([]:List G9).length)+1)+((([]:List G9)++s).length+1)),congrArg (fun n_:Nat=>(.vec 1070 (((([]:List G9).length)+1)+((([]:List G9)++s).length+1)) 2 n_:AV)) (hn_.trans (Mn _)),O⟩

def G4d (s:Gj) (boxes:List Box) (state:List G1) (ashore:List Int):Option (Ge×Int):=
 bnd (Z6 s boxes state) fun u=>
 bif (!u) then
 (none)
 else
 (bnd (Rq s.Columns) fun v=>
  bnd (Y3 s.Covers) fun o=>
  each (fun w f (e:(List G9)) k=>
   Qm s.Covers (f:Int) fun p=>
   bnd (Z7 p.Rows) fun q=>
   Qm e (f:Int) fun r=>
   k (e.set (f:Int).toNat (G9.mk r.Bay q)))
  (fun(e:(List G9))=>
   each (fun j x (g:(Gw Slot Box)) l=>
    bnd (Gf3 boxes j.Box) fun t=>
    l (Gw.put g j.Slot t.1))
   (fun(g:(Gw Slot Box))=>
    each (fun a b (d:(Gw Int Box)) i=>
     bnd (Gf3 boxes a) fun c=>
     bnd (bif ((!(!c.2))&&(decide (0 < (b:Int)))) then chk ((b:Int) - 1) some else some 0) fun m=>
     bnd (bif ((!(!c.2))&&(decide (0 < (b:Int)))) then Qm ashore m some else some default) fun h=>
     bnd (bif (!((!c.2)||((decide (0 < (b:Int)))&&(decide (a≤h))))) then J7 state (fun z0=>G98 z0 a) else some default) fun n=>
     bif (((!c.2)||((decide (0 < (b:Int)))&&(decide (a≤h))))||n) then
     (none)
     else
     (i (Gw.put d a c.1)))
    (fun(d:(Gw Int Box))=>
     some ((Ge.mk (Gj.mk v e (Light.mk 0 0 0 0) [] [] [] (G8.mk 0 0 0 0)) g d (Gw.empty:Gw Int Int) 0),0)) ashore 0 (Gw.empty:Gw Int Box)) state 0 (Gw.empty:Gw Slot Box)) o 0 o)
abbrev Ka:List AV:=[E3 ([]:List G3),E7 ([]:List G9),I64 0,I64 0,I64 0,I64 0,E4 ([]:List Row),E5 ([]:List Frame),E6 ([]:List H0),I64 0,I64 0,I64 0,I64 0,.mp 7001,.mp 7002,.mp 7003,I64 0]
theorem Gdf (s:Gj) (boxes:List Box) (state:List G1) (ashore:List Int) (r:Ge×Int) (h:G4d s boxes state ashore=some r):Hx En 10 [.agg (Gj.cs s),E8 boxes,E1 state,E2 ashore] [] (fun av L'=>av=.tup [.ptr 7000 0,I64 r.2]∧L'=[(7000,.box 94 [E3 r.1.ship.Columns,E7 r.1.ship.Covers,I64 r.1.ship.Light.Kilos,I64 r.1.ship.Light.X,I64 r.1.ship.Light.Y,I64 r.1.ship.Light.Z,E4 r.1.ship.Rows,E5 r.1.ship.Frames,E6 r.1.ship.Tanks,I64 r.1.ship.G8.Tolerance,I64 r.1.ship.G8.Trim,I64 r.1.ship.G8.List_,I64 r.1.ship.G8.Stability,.mp 7001,.mp 7002,.mp 7003,I64 r.1.lifts]),(7001,TP 90 Slot.kv Box.av r.1.on),(7002,TP 91 Ks Box.av r.1.quay),(7003,TP 92 Ks I64 r.1.open_)]):=by
 unfold G4d at h
 refine Ji [] [.tmp 8,.tmp 9] Tryz.func10 O O (G0c O) (Jr fun g4=>(JLh (.ptr 1017 0) (Q6 (cs:=(Gj.cs s)) 1017 O O O O O) O (JLm (.sc (.pointer none)) O (JLm (I64 0) O (G6 (g4 (fzQ [(1,E8 boxes),(2,E1 state),(3,E2 ashore),(4,Ee s)] [] 1017 rfl rfl rfl ø rfl (Js fun g5=>Jr fun g6=>(JLh (.agg (Gj.cs s)) (Gm J8 O O O) O (JLm (E8 boxes) O (JLm (E1 state) O ?_)))))))))))
 obtain⟨r4,g7,h⟩:=Gd h
 refine JLh (BL r4) (Gu O (Gaf s boxes state r4 g7) H92 ⟨O,O,O,O,O,O,ø⟩) O (JLh (BL (!r4)) (Yc (b:=r4) O O) O (G6 (g6 (JCc O h (fun h hb=>?_) (fun h hb=>?_)))))
 ·
  refine Jr fun g8=>(JLm (.sc (.pointer none)) O (JLm (I64 2) O (G6 (g8 (Gs ?_)))))
  cases h
 ·
  refine Gk (g5 ?_)
  refine Jr fun g9=>(JLh (.mp 7001) (Jd1 7001 Slot.kv Box.av O O) O (JLh (.mp 7002) (Jd1 7002 Ks Box.av O O) O (JLh (.mp 7003) (Jd1 7003 Ks I64 O O) O (JLh (.agg Ka) (Hi (cs:=Ka) [(0,13),(13,1),(14,1),(15,1),(16,1)] [E3 ([]:List G3),E7 ([]:List G9),I64 0,I64 0,I64 0,I64 0,E4 ([]:List Row),E5 ([]:List Frame),E6 ([]:List H0),I64 0,I64 0,I64 0,I64 0,.sc (.map none),.sc (.map none),.sc (.map none),I64 0] [.slice none 0 0,.slice none 0 0,E0,E0,E0,E0,.slice none 0 0,.slice none 0 0,.slice none 0 0,E0,E0,E0,E0,.map none,.map none,.map none,E0] R66 Y0d ⟨.inr ⟨_,O,O⟩,.inr ⟨_,O,O⟩,.inl O,.inl O,.inl O,.inl O,.inr ⟨_,O,O⟩,.inr ⟨_,O,O⟩,.inr ⟨_,O,O⟩,.inl O,.inl O,.inl O,.inl O,.inl O,.inl O,.inl O,.inl O,ø⟩ O O) O (JLh (.ptr 7000 0) (Q6 (cs:=Ka) 7000 O O O O O) O (JLm (.ptr 7000 0) O (G6 (g9 ?_))))))))
  refine Js fun h0=>Qn (l':=[(1,E8 boxes),(2,E1 state),(3,E2 ashore),(4,Ee s),(10,.ptr 7000 0)]) (L':=[(7001,TP 90 Slot.kv Box.av (Gw.empty:Gw Slot Box)),(7002,TP 91 Ks Box.av (Gw.empty:Gw Int Box)),(7003,TP 92 Ks I64 (Gw.empty:Gw Int Int)),(7000,.box 94 Ka)]) ⟨(.sm O O),⟨fmQ O,fmQ O,fmQ O,fbQ O (.sm O O),ø⟩,rfl⟩ ?_
  obtain⟨p,h1,h⟩:=Gd h
  obtain⟨j,h2,h⟩:=Gd h
  refine Jm [6,10] [0,0,0,0,0,0,0,1,1,1,0] [1,0,0,0,0,0,0,1,1,1,0] [[(7001,TP 90 Slot.kv Box.av (Gw.empty:Gw Slot Box)),(7002,TP 91 Ks Box.av (Gw.empty:Gw Int Box)),(7003,TP 92 Ks I64 (Gw.empty:Gw Int Int)),(7000,.box 94 Ka)],((1070,.vec 100 2 0 (j.map G9.av))::[(7001,TP 90 Slot.kv Box.av (Gw.empty:Gw Slot Box)),(7002,TP 91 Ks Box.av (Gw.empty:Gw Int Box)),(7003,TP 92 Ks I64 (Gw.empty:Gw Int Int)),(7000,.box 94 Ka)]),((7000,.box 94 [E3 p,.vec 1070 0 2 j.length,I64 0,I64 0,I64 0,I64 0,E4 ([]:List Row),E5 ([]:List Frame),E6 ([]:List H0),I64 0,I64 0,I64 0,I64 0,.mp 7001,.mp 7002,.mp 7003,I64 0])::((1070,.vec 100 2 0 (j.map G9.av))::[(7001,TP 90 Slot.kv Box.av (Gw.empty:Gw Slot Box)),(7002,TP 91 Ks Box.av (Gw.empty:Gw Int Box)),(7003,TP 92 Ks I64 (Gw.empty:Gw Int Int)),(7000,.box 94 Ka)]))] J1 (by kernel_rfl) rfl rfl ?_
  refine Gc (u:=.ptr 7000 0) O O ⟨Gf (G5 O O) O,Gf (G5 O O) O,ø⟩ (Gc (u:=Ee s) O O ⟨Gf (Ga Jc O O O) O,ø⟩ (Gc (u:=E3 s.Columns) O O ⟨Gf (Gg Jv O O O) O,ø⟩ (Gc (u:=E3 p) O O ⟨Gf (Gu O (Hab s.Columns p h1) Y34 ⟨O,O,ø⟩) O,ø⟩ (Gc (u:=.dptr ((Gj.cs s).drop 1)) O O ⟨Gf (Ga Yd O O O) O,ø⟩ (Gc (u:=E7 s.Covers) O O ⟨Gf (Gg G02 O O O) O,ø⟩ (D_w (u:=.vec 1070 0 2 j.length) O O O O (Gf (Y1 (args:=[E7 s.Covers]) (L0:=[]) (Lr:=[(1070,.vec 100 2 0 (j.map G9.av))]) O (Hx.fresh0 (Hbb s.Covers j h2)) Y33 ⟨.inl O,O,ø⟩ ø O O O) O) (Gc (u:=.agg [E3 p,.vec 1070 0 2 j.length,I64 0,I64 0,I64 0,I64 0,E4 ([]:List Row),E5 ([]:List Frame),E6 ([]:List H0),I64 0,I64 0,I64 0,I64 0]) O O ⟨Gf (Hi (cs:=[E3 p,.vec 1070 0 2 j.length,I64 0,I64 0,I64 0,I64 0,E4 ([]:List Row),E5 ([]:List Frame),E6 ([]:List H0),I64 0,I64 0,I64 0,I64 0]) [(0,1),(1,1),(2,4),(6,1),(7,1),(8,1),(9,4)] [E3 ([]:List G3),E7 ([]:List G9),I64 0,I64 0,I64 0,I64 0,E4 ([]:List Row),E5 ([]:List Frame),E6 ([]:List H0),I64 0,I64 0,I64 0,I64 0] [.slice none 0 0,.slice none 0 0,E0,E0,E0,E0,.slice none 0 0,.slice none 0 0,.slice none 0 0,E0,E0,E0,E0] Jd8 Ge9 ⟨.inr ⟨_,O,O⟩,.inr ⟨_,O,O⟩,.inl O,.inl O,.inl O,.inl O,.inr ⟨_,O,O⟩,.inr ⟨_,O,O⟩,.inr ⟨_,O,O⟩,.inl O,.inl O,.inl O,.inl O,ø⟩ O O) O,ø⟩ (Gc (u:=.ptr 7000 0) O O ⟨Gf (Z1 O O) O,ø⟩ (Gc (u:=.ptr 7000 0) O O ⟨Gf (J9 Yw O O) O,ø⟩ (H22 (u:=.junk) O O O O (Gf (H7 (u:=.agg [E3 p,.vec 1070 0 2 j.length,I64 0,I64 0,I64 0,I64 0,E4 ([]:List Row),E5 ([]:List Frame),E6 ([]:List H0),I64 0,I64 0,I64 0,I64 0]) (ds:=[E3 p,.vec 1070 0 2 j.length,I64 0,I64 0,I64 0,I64 0,E4 ([]:List Row),E5 ([]:List Frame),E6 ([]:List H0),I64 0,I64 0,I64 0,I64 0,.mp 7001,.mp 7002,.mp 7003,I64 0]) G57 O O O O O O O O) O) (R4 ?_)))))))))))
  refine h0 (Js fun d3=>Jr fun d4=>(JLm (.ptr 7000 0) O (JLh (.ptr 7000 0) (Z1 O O) O (JLh (.ptr 7000 0) (J9 Yw O O) O (JLh (.ptr 7000 1) (J9 Yd O O) O (JLh (.vec 1070 0 2 j.length) (J2 G02 O O O O) O (Q04 (f:=G9.av) (xs:=j) Qr O O O (fun d5=>?_) O O O)))))))
  refine JLm (I64 0) O (G6 (d4 (Gq ?_)))
  obtain⟨h3,d6,d7,b3,h⟩:=Je h
  refine Hm (fun k (i:(List G9))=>each h3 d6 (List.drop k j) k i=some r) (fun k i=>[(1,E8 boxes),(2,E1 state),(3,E2 ashore),(4,Ee s),(10,.ptr 7000 0),(43,Em j.length),(44,Em k)]) (fun k i=>[(7001,TP 90 Slot.kv Box.av (Gw.empty:Gw Slot Box)),(7002,TP 91 Ks Box.av (Gw.empty:Gw Int Box)),(7003,TP 92 Ks I64 (Gw.empty:Gw Int Int)),(1070,.vec 100 2 0 (i.map G9.av)),(7000,.box 94 [E3 p,.vec 1070 0 2 j.length,I64 0,I64 0,I64 0,I64 0,E4 ([]:List Row),E5 ([]:List Frame),E6 ([]:List H0),I64 0,I64 0,I64 0,I64 0,.mp 7001,.mp 7002,.mp 7003,I64 0])]) (fun k=>j.length - k) 0 j h ⟨(.sm O O),⟨fmQ O,fmQ O,fmQ O,⟨_,rfl,.vec⟩,fbQ O (.sm O O),ø⟩,rfl⟩ ?_
  clear h
  intro k i a6 i2 h4
  refine Jr fun d8=>(JLh (BL (decide ((k:Int) < (j.length:Int)))) (Jn O O O) O (G6 (d8 (Js fun d9=>Gp O (fun hb=>?_) (fun hb=>?_)))))
  ·
   have a7:=Jz hb
   obtain⟨i3,h8,h9,e0,h⟩:=Hv a6 a7
   replace h:=Zm d7 h
   refine Gk (d9 (Js fun e1=>Gq (Jr fun e2=>(JLm (Em k) O (JLm (Em k) O (G6 (e2 ?_)))))))
   refine Qn (l':=[(1,E8 boxes),(2,E1 state),(3,E2 ashore),(4,Ee s),(10,.ptr 7000 0),(11,Em k),(43,Em j.length),(44,Em k)]) (L':=[(7001,TP 90 Slot.kv Box.av (Gw.empty:Gw Slot Box)),(7002,TP 91 Ks Box.av (Gw.empty:Gw Int Box)),(7003,TP 92 Ks I64 (Gw.empty:Gw Int Int)),(1070,.vec 100 2 0 (i.map G9.av)),(7000,.box 94 [E3 p,.vec 1070 0 2 j.length,I64 0,I64 0,I64 0,I64 0,E4 ([]:List Row),E5 ([]:List Frame),E6 ([]:List H0),I64 0,I64 0,I64 0,I64 0,.mp 7001,.mp 7002,.mp 7003,I64 0])]) ⟨(.sm O O),⟨fmQ O,fmQ O,fmQ O,⟨_,rfl,.vec⟩,fbQ O (.sm O O),ø⟩,rfl⟩ ?_
   obtain⟨i4,a0,e3,e4,h⟩:=Rw h
   obtain⟨a1,e5,h⟩:=Gd h
   obtain⟨a2,b4,a8,h⟩:=G33 h
   refine Jm [15] (.replicate 16 0) (.replicate 16 0) [[(7001,TP 90 Slot.kv Box.av (Gw.empty:Gw Slot Box)),(7002,TP 91 Ks Box.av (Gw.empty:Gw Int Box)),(7003,TP 92 Ks I64 (Gw.empty:Gw Int Int)),(1070,.vec 100 2 0 (i.map G9.av)),(7000,.box 94 [E3 p,.vec 1070 0 2 j.length,I64 0,I64 0,I64 0,I64 0,E4 ([]:List Row),E5 ([]:List Frame),E6 ([]:List H0),I64 0,I64 0,I64 0,I64 0,.mp 7001,.mp 7002,.mp 7003,I64 0])],((1070,.vec 100 2 0 ((i.set (k:Int).toNat (G9.mk a2.Bay a1)).map G9.av))::[(7001,TP 90 Slot.kv Box.av (Gw.empty:Gw Slot Box)),(7002,TP 91 Ks Box.av (Gw.empty:Gw Int Box)),(7003,TP 92 Ks I64 (Gw.empty:Gw Int Int)),(1070,.vec 100 2 0 (i.map G9.av)),(7000,.box 94 [E3 p,.vec 1070 0 2 j.length,I64 0,I64 0,I64 0,I64 0,E4 ([]:List Row),E5 ([]:List Frame),E6 ([]:List H0),I64 0,I64 0,I64 0,I64 0,.mp 7001,.mp 7002,.mp 7003,I64 0])])] J1 (by kernel_rfl) rfl rfl ?_
   refine Gc (u:=.ptr 7000 0) O O ⟨Gf (G5 O O) O,ø⟩ (Gc (u:=.ptr 7000 0) O O ⟨Gf (Z1 O O) O,ø⟩ (Gc (u:=.ptr 7000 0) O O ⟨Gf (J9 Yw O O) O,ø⟩ (Gc (u:=.ptr 7000 1) O O ⟨Gf (J9 Yd O O) O,ø⟩ (Gc (u:=.vec 1070 0 2 j.length) O O ⟨Gf (J2 G02 O O O O) O,ø⟩ (Gc (u:=Em k) O O ⟨Gf (G5 O O) O,ø⟩ (Gc (u:=.dptr ((Gj.cs s).drop 1)) O O ⟨Gf (Ga Yd O O O) O,ø⟩ (Gc (u:=E7 s.Covers) O O ⟨Gf (Gg G02 O O O) O,ø⟩ (Gc (u:=Em k) O O ⟨Gf (G5 O O) O,ø⟩ (Gc (u:=.dptr [I64 a0.Bay,E2 a0.Rows]) O O ⟨Gf (Hb (f:=G9.av) (xs:=s.Covers) (y:=a0) O O O Qr e4 e3) O,ø⟩ (Gc (u:=.dptr [E2 a0.Rows]) O O ⟨Gf (Ga G64 O O O) O,ø⟩ (Gc (u:=E2 a0.Rows) O O ⟨Gf (Gg Rv O O O) O,ø⟩ (Gc (u:=E2 a1) O O ⟨Gf (Gu O (J6d a0.Rows a1 e5) Y32 ⟨O,O,ø⟩) O,ø⟩ (Gc (u:=.vptr 1070 0 ((k:Int).toNat) 0) O O ⟨Gf (G53 (f:=G9.av) (xs:=i) (y:=a2) O O O O Qr a8 b4) O,ø⟩ ?_)))))))))))))
   refine Gc (u:=.vptr 1070 0 ((k:Int).toNat) 1) O O ⟨Gf (Z31 G64 O O O) O,ø⟩ (H22 (u:=.junk) O O O O (Gf (Ye1 (f:=G9.av) (xs:=i) (e:=a2) (z:=(G9.mk a2.Bay a1)) (u:=E2 a1) J09 O O O O a8 O O O O O) O) (R4 (e1 (G2 (JLh (I64 ((k+1:Nat):Int)) (J3 (Hp a7 d5) O O O) O (JLm (I64 ((k+1:Nat):Int)) O (G6 (h4 _ _ (k+1) (i.set (k:Int).toNat (G9.mk a2.Bay a1)) (app1 e0 h) (by omega) ⟨(.sm O O),⟨fmQ O,fmQ O,fmQ O,⟨_,rfl,.vec⟩,fbQ O (.sm O O),ø⟩,rfl⟩))))))))
  ·
   have h:=app1 b3 (Hw a6 (Hf hb))
   refine Hr (d3 (Js fun e6=>Jr fun e7=>(JLm (E1 state) O (JLl H5 O O O fun e8=>(JLm (I64 0) O (G6 (e7 (Gq ?_))))))))
   obtain⟨h5,e9,f0,b5,h⟩:=Je h
   refine Hm (fun t (n:(Gw Slot Box))=>each h5 e9 (List.drop t state) t n=some r) (fun t n=>[(1,E8 boxes),(2,E1 state),(3,E2 ashore),(10,.ptr 7000 0),(63,E1 state),(64,Em state.length),(65,Em t)]) (fun t n=>[(7001,TP 90 Slot.kv Box.av n),(7002,TP 91 Ks Box.av (Gw.empty:Gw Int Box)),(7003,TP 92 Ks I64 (Gw.empty:Gw Int Int)),(1070,.vec 100 2 0 (i.map G9.av)),(7000,.box 94 [E3 p,.vec 1070 0 2 j.length,I64 0,I64 0,I64 0,I64 0,E4 ([]:List Row),E5 ([]:List Frame),E6 ([]:List H0),I64 0,I64 0,I64 0,I64 0,.mp 7001,.mp 7002,.mp 7003,I64 0])]) (fun t=>state.length - t) 0 (Gw.empty:Gw Slot Box) h ⟨(.sm O O),⟨fmQ O,fmQ O,fmQ O,⟨_,rfl,.vec⟩,fbQ O (.sm O O),ø⟩,rfl⟩ ?_
   clear h
   intro t n a9 i5 h6
   refine Jr fun f1=>(JLh (BL (decide ((t:Int) < (state.length:Int)))) (Jn O O O) O (G6 (f1 (Js fun f2=>Gp O (fun hb=>?_) (fun hb=>?_)))))
   ·
    have b0:=Jz hb
    obtain⟨o,i0,f3,f4,h⟩:=Hv a9 b0
    replace h:=Zm f0 h
    refine Gk (f2 (Js fun f5=>Gq (Jr fun f6=>(JLh (Eh o) (Hb (f:=G1.av) (xs:=state) (y:=o) O O O H5 f3 O) O (JLh (.agg (G1.cs o)) (Gm Qh O O O) O (JLh (.ptr 1018 0) (Hj 1018 4 Q3 O O) O (Hq (u:=.junk) (H7 (u:=.agg (G1.cs o)) (ds:=[I64 o.Box,I64 o.Slot.G3,I64 o.Slot.Tier,U8 o.Slot.Half]) Ru O O O O O O O O) (G6 (f6 ?_)))))))))
    refine fzQ [(1,E8 boxes),(2,E1 state),(3,E2 ashore),(10,.ptr 7000 0),(13,Eh o),(63,E1 state),(64,Em state.length),(65,Em t)] [(7001,TP 90 Slot.kv Box.av n),(7002,TP 91 Ks Box.av (Gw.empty:Gw Int Box)),(7003,TP 92 Ks I64 (Gw.empty:Gw Int Int)),(1070,.vec 100 2 0 (i.map G9.av)),(7000,.box 94 [E3 p,.vec 1070 0 2 j.length,I64 0,I64 0,I64 0,I64 0,E4 ([]:List Row),E5 ([]:List Frame),E6 ([]:List H0),I64 0,I64 0,I64 0,I64 0,.mp 7001,.mp 7002,.mp 7003,I64 0])] 1018 rfl rfl rfl ⟨fmQ O,fmQ O,fmQ O,⟨_,rfl,.vec⟩,⟨_,rfl,.boxEq rfl rfl⟩,ø⟩ rfl ?_
    refine Qn (l':=[(1,E8 boxes),(2,E1 state),(3,E2 ashore),(10,.ptr 7000 0),(13,Eh o),(63,E1 state),(64,Em state.length),(65,Em t)]) (L':=[(7001,TP 90 Slot.kv Box.av n),(7002,TP 91 Ks Box.av (Gw.empty:Gw Int Box)),(7003,TP 92 Ks I64 (Gw.empty:Gw Int Int)),(1070,.vec 100 2 0 (i.map G9.av)),(7000,.box 94 [E3 p,.vec 1070 0 2 j.length,I64 0,I64 0,I64 0,I64 0,E4 ([]:List Row),E5 ([]:List Frame),E6 ([]:List H0),I64 0,I64 0,I64 0,I64 0,.mp 7001,.mp 7002,.mp 7003,I64 0])]) ⟨(.sm O O),⟨fmQ O,fmQ O,fmQ O,⟨_,rfl,.vec⟩,fbQ O (.sm O O),ø⟩,rfl⟩ ?_
    obtain⟨x,f7,h⟩:=Gd h
    refine Jm [13] (.replicate 14 0) [0,0,0,0,0,0,0,0,0,0,0,0,1,0] [[(7001,TP 90 Slot.kv Box.av n),(7002,TP 91 Ks Box.av (Gw.empty:Gw Int Box)),(7003,TP 92 Ks I64 (Gw.empty:Gw Int Int)),(1070,.vec 100 2 0 (i.map G9.av)),(7000,.box 94 [E3 p,.vec 1070 0 2 j.length,I64 0,I64 0,I64 0,I64 0,E4 ([]:List Row),E5 ([]:List Frame),E6 ([]:List H0),I64 0,I64 0,I64 0,I64 0,.mp 7001,.mp 7002,.mp 7003,I64 0])],((7001,TP 90 Slot.kv Box.av (Gw.put n o.Slot x.1))::[(7001,TP 90 Slot.kv Box.av n),(7002,TP 91 Ks Box.av (Gw.empty:Gw Int Box)),(7003,TP 92 Ks I64 (Gw.empty:Gw Int Int)),(1070,.vec 100 2 0 (i.map G9.av)),(7000,.box 94 [E3 p,.vec 1070 0 2 j.length,I64 0,I64 0,I64 0,I64 0,E4 ([]:List Row),E5 ([]:List Frame),E6 ([]:List H0),I64 0,I64 0,I64 0,I64 0,.mp 7001,.mp 7002,.mp 7003,I64 0])])] J1 (by kernel_rfl) rfl rfl ?_
    refine Gc (u:=.ptr 7000 0) O O ⟨Gf (G5 O O) O,ø⟩ (Gc (u:=.ptr 7000 0) O O ⟨Gf (Z1 O O) O,ø⟩ (Gc (u:=.ptr 7000 13) O O ⟨Gf (J9 Yv O O) O,ø⟩ (Gc (u:=.mp 7001) O O ⟨Gf (J2 Z2 O O O O) O,ø⟩ (Gc (u:=.dptr ((G1.cs o).drop 1)) O O ⟨Gf (Ga Jt O O O) O,ø⟩ (Gc (u:=.agg ((G1.cs o).drop 1)) O O ⟨Gf (Gm J4 O O O) O,ø⟩ (Gc (u:=E8 boxes) O O ⟨Gf (G5 O O) O,ø⟩ (Gc (u:=Eh o) O O ⟨Gf (Ga Ja O O O) O,ø⟩ (Gc (u:=I64 o.Box) O O ⟨Gf (Gg Gb O O O) O,ø⟩ (Gc (u:=.tup [.agg (Box.cs x.1),BL x.2]) O O ⟨Gf (Gu O (Jfb boxes o.Box x f7) Qb6 ⟨O,O,O,O,ø⟩) O,ø⟩ (Gc (u:=.tup [.agg (Box.cs x.1),BL x.2]) O O ⟨Gf (G5 O O) O,ø⟩ (Gc (u:=.agg (Box.cs x.1)) O O ⟨Gf (Gv O O O) O,ø⟩ (Gc (u:=BL x.2) O O ⟨Gf (Gv O O O) O,Gf (Gv O O O) O,ø⟩ (H22 (u:=.junk) O O O O (Gf (H24 (m:=n) (a:=o.Slot) (v:=x.1) (fun _=>O) O O O O O O R98 G91) O) (R4 ?_))))))))))))))
    refine f5 (G2 (JLh (I64 ((t+1:Nat):Int)) (J3 (Hp b0 e8) O O O) O (JLm (I64 ((t+1:Nat):Int)) O (G6 (h6 _ _ (t+1) (Gw.put n o.Slot x.1) (app1 f4 h) (by omega) ⟨(.sm O O),⟨fmQ O,fmQ O,fmQ O,⟨_,rfl,.vec⟩,fbQ O (.sm O O),ø⟩,rfl⟩)))))
   ·
    have h:=app1 b5 (Hw a9 (Hf hb))
    refine Hr (e6 (Js fun f8=>Jr fun f9=>(JLm (E2 ashore) O (JLl H3 O O O fun g0=>(JLm (I64 0) O (G6 (f9 (Gq ?_))))))))
    obtain⟨g1,b6,b7,b1,h⟩:=Je h
    refine Hm (fun c (l:(Gw Int Box))=>each g1 b6 (List.drop c ashore) c l=some r) (fun c l=>[(1,E8 boxes),(2,E1 state),(3,E2 ashore),(10,.ptr 7000 0),(83,E2 ashore),(84,Em ashore.length),(85,Em c)]) (fun c l=>[(7001,TP 90 Slot.kv Box.av n),(7002,TP 91 Ks Box.av l),(7003,TP 92 Ks I64 (Gw.empty:Gw Int Int)),(1070,.vec 100 2 0 (i.map G9.av)),(7000,.box 94 [E3 p,.vec 1070 0 2 j.length,I64 0,I64 0,I64 0,I64 0,E4 ([]:List Row),E5 ([]:List Frame),E6 ([]:List H0),I64 0,I64 0,I64 0,I64 0,.mp 7001,.mp 7002,.mp 7003,I64 0])]) (fun c=>ashore.length - c) 0 (Gw.empty:Gw Int Box) h ⟨(.sm O O),⟨fmQ O,fmQ O,fmQ O,⟨_,rfl,.vec⟩,fbQ O (.sm O O),ø⟩,rfl⟩ ?_
    clear h
    intro c l a4 i1 g2
    refine Jr fun b8=>(JLh (BL (decide ((c:Int) < (ashore.length:Int)))) (Jn O O O) O (G6 (b8 (Js fun b9=>Gp O (fun hb=>?_) (fun hb=>?_)))))
    ·
     have a5:=Jz hb
     obtain⟨d,h7,c0,c1,h⟩:=Hv a4 a5
     replace h:=Zm b7 h
     refine Gk (b9 (Js fun c2=>Gq (Jr fun c3=>(JLm (Em c) O (JLh (.dptr [I64 d]) (Hb (f:=I64) (xs:=ashore) (y:=d) O O O H3 c0 O) O (JLh (I64 d) (Gg Gb O O O) O (JLh (.ptr 1019 0) (Hj 1019 1 Y6 O O) O (JLm (Em c) O (Hq (u:=.junk) (H7 (u:=I64 d) (ds:=[I64 d]) G63 O O O O O O O O) (G6 (c3 ?_)))))))))))
     refine fzQ [(1,E8 boxes),(2,E1 state),(3,E2 ashore),(10,.ptr 7000 0),(14,Em c),(15,.dptr [I64 d]),(83,E2 ashore),(84,Em ashore.length),(85,Em c)] [(7001,TP 90 Slot.kv Box.av n),(7002,TP 91 Ks Box.av l),(7003,TP 92 Ks I64 (Gw.empty:Gw Int Int)),(1070,.vec 100 2 0 (i.map G9.av)),(7000,.box 94 [E3 p,.vec 1070 0 2 j.length,I64 0,I64 0,I64 0,I64 0,E4 ([]:List Row),E5 ([]:List Frame),E6 ([]:List H0),I64 0,I64 0,I64 0,I64 0,.mp 7001,.mp 7002,.mp 7003,I64 0])] 1019 rfl rfl rfl ⟨fmQ O,fmQ O,fmQ O,⟨_,rfl,.vec⟩,⟨_,rfl,.boxEq rfl rfl⟩,ø⟩ rfl ?_
     refine Jr fun c4=>(JLm (E8 boxes) O (JLh (I64 d) (Gg Gb O O O) O ?_))
     obtain⟨g,c5,h⟩:=Gd h
     refine JLh (.tup [.agg (Box.cs g.1),BL g.2]) (Gu O (Jfb boxes d g c5) Qb6 ⟨O,O,O,O,ø⟩) O (JLm (.tup [.agg (Box.cs g.1),BL g.2]) O (JLh (.agg (Box.cs g.1)) (Gv O O O) O (JLh (BL g.2) (Gv O O O) O (JLh (.ptr 1020 0) (Hj 1020 9 R0 O O) O (Hq (u:=.junk) (H7 (u:=.agg (Box.cs g.1)) (ds:=(Box.cs g.1)) Rs O O O O O O O O) (JLm (BL g.2) O (G6 (c4 ?_))))))))
     refine fzQ [(1,E8 boxes),(2,E1 state),(3,E2 ashore),(10,.ptr 7000 0),(14,Em c),(15,.dptr [I64 d]),(16,Ei g.1),(17,BL g.2),(83,E2 ashore),(84,Em ashore.length),(85,Em c)] [(7001,TP 90 Slot.kv Box.av n),(7002,TP 91 Ks Box.av l),(7003,TP 92 Ks I64 (Gw.empty:Gw Int Int)),(1070,.vec 100 2 0 (i.map G9.av)),(7000,.box 94 [E3 p,.vec 1070 0 2 j.length,I64 0,I64 0,I64 0,I64 0,E4 ([]:List Row),E5 ([]:List Frame),E6 ([]:List H0),I64 0,I64 0,I64 0,I64 0,.mp 7001,.mp 7002,.mp 7003,I64 0])] 1020 rfl rfl rfl ⟨fmQ O,fmQ O,fmQ O,⟨_,rfl,.vec⟩,⟨_,rfl,.boxEq rfl rfl⟩,ø⟩ rfl ?_
     refine Js fun c6=>Js fun c7=>?_
     refine Qn (l':=[(1,E8 boxes),(2,E1 state),(3,E2 ashore),(10,.ptr 7000 0),(14,Em c),(15,.dptr [I64 d]),(16,Ei g.1),(17,BL g.2),(83,E2 ashore),(84,Em ashore.length),(85,Em c)]) (L':=[(7001,TP 90 Slot.kv Box.av n),(7002,TP 91 Ks Box.av l),(7003,TP 92 Ks I64 (Gw.empty:Gw Int Int)),(1070,.vec 100 2 0 (i.map G9.av)),(7000,.box 94 [E3 p,.vec 1070 0 2 j.length,I64 0,I64 0,I64 0,I64 0,E4 ([]:List Row),E5 ([]:List Frame),E6 ([]:List H0),I64 0,I64 0,I64 0,I64 0,.mp 7001,.mp 7002,.mp 7003,I64 0])]) ⟨(.sm O O),⟨fmQ O,fmQ O,fmQ O,⟨_,rfl,.vec⟩,fbQ O (.sm O O),ø⟩,rfl⟩ ?_
     obtain⟨g3,c8,h⟩:=Gd h
     obtain⟨w,c9,h⟩:=Gd h
     obtain⟨a3,d0,h⟩:=Gd h
     refine JC_d0 J1 (by kernel_rfl) (Dq (BL g.2) (G5 O O) O (Dq (BL (!g.2)) (Yc (b:=g.2) O O) O (Dq (BL (!g.2)) (G5 O O) O (Do (Em c) [] O .scf ø (fun hc=>G5 O O) O (Do (BL (decide (0 < (c:Int)))) [99] O .scf ⟨Ua,ø⟩ (fun hc=>Gd1 O O O) O (Do (BL (decide (0 < (c:Int)))) [100] O .scf ⟨Ua,ø⟩ (fun hc=>G5 O O) O (Do (I64 d) [] O .optt ø (fun hc=>Gg Gb O O O) O (Do (E2 ashore) [] O .optt ø (fun hc=>G5 O O) O (Do (Em c) [] O .optt ø (fun hc=>G5 O O) O (Do (I64 g3) [104] O .optt ⟨Ua,ø⟩ (fun hc=>G62 (Hf5 (H2 hc c8)) O O O) O (Do (.dptr [I64 w]) [103,105] O .optt ⟨Ua,Ua,ø⟩ (fun hc=>(match Gc4 (H2 hc c9) with | ⟨_,hm_,hy_⟩=>Hb (f:=I64) (xs:=ashore) (y:=w) O O O H3 hy_ hm_)) O (Do (I64 w) [106] O .optt ⟨Ua,ø⟩ (fun hc=>Gg Gb O O O) O (Do (BL (decide (d≤w))) [102,107] O .optt ⟨Ua,Ua,ø⟩ (fun hc=>Hd6 O O O) O ?_)))))))))))))
     refine Dg (.opt (!(!g.2)) (BL ((decide (0 < (c:Int)))&&(decide (d≤w))))) (Hc [(101,BL (decide (0 < (c:Int)))),(108,_)] O O O .scf ⟨.all id,.part,ø⟩ (fun hc=>Ri O O O O) O) O (Dq (BL ((!g.2)||((decide (0 < (c:Int)))&&(decide (d≤w))))) (G82 O O O O) O (Dq (BL ((!g.2)||((decide (0 < (c:Int)))&&(decide (d≤w))))) (G5 O O) O (Do (E1 state) [] O .scf ø (fun hc=>G5 O O) O (Do (.fn 37 [.dptr [I64 d]]) [] O .scf ø (fun hc=>Q4 (cs:=[.dptr [I64 d]]) O O) O (Do (BL a3) [112,113] O .scf ⟨Ua,Ua,ø⟩ (fun hc=>Gu (args:=[E1 state,.fn 37 [.dptr [I64 d]]]) O (Zj state (fun z0=>G98 z0 d) 37 [.dptr [I64 d]] Y31 O (fun z0 q hq=>Q7a z0 d q hq) a3 (H2 hc d0)) Jb7 ⟨O,O,O,O,ø⟩) O (Dq (BL (((!g.2)||((decide (0 < (c:Int)))&&(decide (d≤w))))||a3)) (G82 O O O O) O (Dnil ?_)))))))
     refine c7 (JCc O h (fun h hb=>?_) (fun h hb=>?_))
     ·
      refine Jr fun d1=>(JLm (.sc (.pointer none)) O (JLm (I64 2) O (G6 (d1 (Gs ?_)))))
      cases h
     ·
      refine Gk (c6 ?_)
      refine Qn (l':=[(1,E8 boxes),(2,E1 state),(3,E2 ashore),(10,.ptr 7000 0),(15,.dptr [I64 d]),(16,Ei g.1),(83,E2 ashore),(84,Em ashore.length),(85,Em c)]) (L':=[(7001,TP 90 Slot.kv Box.av n),(7002,TP 91 Ks Box.av l),(7003,TP 92 Ks I64 (Gw.empty:Gw Int Int)),(1070,.vec 100 2 0 (i.map G9.av)),(7000,.box 94 [E3 p,.vec 1070 0 2 j.length,I64 0,I64 0,I64 0,I64 0,E4 ([]:List Row),E5 ([]:List Frame),E6 ([]:List H0),I64 0,I64 0,I64 0,I64 0,.mp 7001,.mp 7002,.mp 7003,I64 0])]) ⟨(.sm O O),⟨fmQ O,fmQ O,fmQ O,⟨_,rfl,.vec⟩,fbQ O (.sm O O),ø⟩,rfl⟩ ?_
      refine Jm [6] [0,0,0,0,0,0,0] [0,0,0,0,0,0,0] [[(7001,TP 90 Slot.kv Box.av n),(7002,TP 91 Ks Box.av l),(7003,TP 92 Ks I64 (Gw.empty:Gw Int Int)),(1070,.vec 100 2 0 (i.map G9.av)),(7000,.box 94 [E3 p,.vec 1070 0 2 j.length,I64 0,I64 0,I64 0,I64 0,E4 ([]:List Row),E5 ([]:List Frame),E6 ([]:List H0),I64 0,I64 0,I64 0,I64 0,.mp 7001,.mp 7002,.mp 7003,I64 0])],((7002,TP 91 Ks Box.av (Gw.put l d g.1))::[(7001,TP 90 Slot.kv Box.av n),(7002,TP 91 Ks Box.av l),(7003,TP 92 Ks I64 (Gw.empty:Gw Int Int)),(1070,.vec 100 2 0 (i.map G9.av)),(7000,.box 94 [E3 p,.vec 1070 0 2 j.length,I64 0,I64 0,I64 0,I64 0,E4 ([]:List Row),E5 ([]:List Frame),E6 ([]:List H0),I64 0,I64 0,I64 0,I64 0,.mp 7001,.mp 7002,.mp 7003,I64 0])])] J1 (by kernel_rfl) rfl rfl ?_
      refine Gc (u:=.ptr 7000 0) O O ⟨Gf (G5 O O) O,ø⟩ (Gc (u:=.ptr 7000 0) O O ⟨Gf (Z1 O O) O,ø⟩ (Gc (u:=.ptr 7000 14) O O ⟨Gf (J9 G58 O O) O,ø⟩ (Gc (u:=.mp 7002) O O ⟨Gf (J2 G43 O O O O) O,ø⟩ (Gc (u:=I64 d) O O ⟨Gf (Gg Gb O O O) O,ø⟩ (Gc (u:=.agg (Box.cs g.1)) O O ⟨Gf (Gm Ra O O O) O,ø⟩ (H22 (u:=.junk) O O O O (Gf (H24 (m:=l) (a:=d) (v:=g.1) (fun _=>O) O O O O O O J92 H84) O) (R4 (c2 (G2 (JLh (I64 ((c+1:Nat):Int)) (J3 (Hp a5 g0) O O O) O (JLm (I64 ((c+1:Nat):Int)) O (G6 ?_))))))))))))
      exact g2 _ _ (c+1) (Gw.put l d g.1) (app1 c1 h) (by omega) ⟨(.sm O O),⟨fmQ O,fmQ O,fmQ O,⟨_,rfl,.vec⟩,fbQ O (.sm O O),ø⟩,rfl⟩
    ·
     have h:=app1 b1 (Hw a4 (Hf hb))
     refine Hr (f8 (Jr fun d2=>(JLm (.ptr 7000 0) O (JLm (.ptr 7000 0) O (JLm (I64 0) O (G6 (d2 (Ye0 7000 1 (0+1) O O O (Nat.lt_succ_self _) (cs':=[E3 p,E7 i,I64 0,I64 0,I64 0,I64 0,E4 ([]:List Row),E5 ([]:List Frame),E6 ([]:List H0),I64 0,I64 0,I64 0,I64 0,.mp 7001,.mp 7002,.mp 7003,I64 0]) O (Gs ?_)))))))))
     obtain rfl:=M8 h
     exact⟨[.ptr 7000 0,I64 0],[(7000,.box 94 [E3 p,E7 i,I64 0,I64 0,I64 0,I64 0,E4 ([]:List Row),E5 ([]:List Frame),E6 ([]:List H0),I64 0,I64 0,I64 0,I64 0,.mp 7001,.mp 7002,.mp 7003,I64 0]),(7001,TP 90 Slot.kv Box.av n),(7002,TP 91 Ks Box.av l),(7003,TP 92 Ks I64 (Gw.empty:Gw Int Int))],⟨fbQ O (.sm O O),fmQ O,fmQ O,fmQ O,ø⟩,rfl,⟨⟨_,rfl,.conv (.same rfl)⟩,⟨_,rfl,.conv (.same rfl)⟩,ø⟩,rfl,rfl⟩
end
end Go.Proofs.YtgcpimpnpcdmmaaGreat
