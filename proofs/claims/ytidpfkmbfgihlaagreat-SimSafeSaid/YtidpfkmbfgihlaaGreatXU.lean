/- Walks of functions. -/
import Derived.Test.YtidpfkmbfgihlaaGreatXT
set_option maxRecDepth 100000
set_option maxHeartbeats 1000000
set_option linter.unusedVariables false
set_option linter.unusedSimpArgs false
namespace Go.Proofs.YtidpfkmbfgihlaaGreat
open Go.RowKit
noncomputable section
def Stowed.vs (x:Stowed):List Value:=[.int .i64 x.Box,.int .i64 x.Slot.G2,.int .i64 x.Slot.Tier,.int .u8 x.Slot.Half]
namespace XUF
open XAF
open XCF
open XSF
open XKF
open XTF
theorem R3:Gf6 Eo 55 4=true:=by kernel_rfl
theorem Q0b:H7 Eo 101=true:=by kernel_rfl
theorem Q0a:H7 Eo 104=true:=by kernel_rfl
theorem Q04:H7 Eo 129=true:=by kernel_rfl
theorem J72:H7 Eo 13=true:=by kernel_rfl
theorem R59:H7 Eo 156=true:=by kernel_rfl
theorem G8c:H7 Eo 31=true:=by kernel_rfl
theorem H0c:H7 Eo 32=true:=by kernel_rfl
theorem Q6f:H7 Eo 38=true:=by kernel_rfl
theorem Q6e:H7 Eo 39=true:=by kernel_rfl
theorem Rd8:H7 Eo 40=true:=by kernel_rfl
theorem Hdc:H7 Eo 41=true:=by kernel_rfl
theorem Q6d:H7 Eo 42=true:=by kernel_rfl
theorem Q6c:H7 Eo 43=true:=by kernel_rfl
theorem Hdb:H7 Eo 44=true:=by kernel_rfl
theorem Hda:H7 Eo 45=true:=by kernel_rfl
theorem Q6b:H7 Eo 46=true:=by kernel_rfl
theorem Q6a:H7 Eo 49=true:=by kernel_rfl
theorem Rc8:H7 Eo 71=true:=by kernel_rfl
theorem Q66:H7 Eo 72=true:=by kernel_rfl
theorem Q65:H7 Eo 75=true:=by kernel_rfl
theorem Q64:H7 Eo 76=true:=by kernel_rfl
theorem Hd7:H7 Eo 98=true:=by kernel_rfl
theorem H98:Z8 Eo 107 2 32=true:=by kernel_rfl
theorem Jn:Jk Eo 55 0 0=true:=by kernel_rfl
theorem Jo:Jk Eo 55 1 1=true:=by kernel_rfl
theorem Hd5:placesOf Eo 36=some [(0,1),(1,1),(2,4),(6,1),(7,1),(8,1),(9,4)]:=by kernel_rfl
theorem Rt:placesOf Eo 55=some [(0,1),(1,3)]:=by kernel_rfl
theorem J9a:placesOf Eo 97=some [(0,13),(13,1),(14,1),(15,1),(16,1)]:=by kernel_rfl
theorem Zw:Yx Eo 36 13=true:=by kernel_rfl
theorem G11:Yx Eo 55 4=true:=by kernel_rfl
theorem G64:(Eo.info? 36).bind (fun i=>i.zero.map Value.cells)=some (List.toArray [.slice none 0 0,.slice none 0 0,E0,E0,E0,E0,.slice none 0 0,.slice none 0 0,.slice none 0 0,E0,E0,E0,E0]):=by kernel_rfl
theorem Z4:(Eo.info? 55).bind (fun i=>i.zero.map Value.cells)=some (List.toArray [E0,E0,E0,.int .u8 0]):=by kernel_rfl
theorem Q52:(Eo.info? 97).bind (fun i=>i.zero.map Value.cells)=some (List.toArray [.slice none 0 0,.slice none 0 0,E0,E0,E0,E0,.slice none 0 0,.slice none 0 0,.slice none 0 0,E0,E0,E0,E0,.map none,.map none,.map none,E0]):=by kernel_rfl
theorem Jx:Y4 Eo 55 4=true:=by kernel_rfl
end XUF
open XAF
open XCF
open XSF
open XKF
open XTF
open XUF

def Zp (x:Int):Option Bool:=
 some (decide (x≠x))
theorem G85 (x:Int) (r:Bool) (h:Zp x=some r):Pure Eo 98 [I64 x] (·=BL r):=by
 unfold Zp at h
 refine H0 [.tmp 2] Tryz.func98 O O (Jr fun a=>(JLm (BL false) O (G5 (a (Jr fun b=>(JLm (I64 x) O (JLm (I64 x) O (JLh (BL (decide (x≠x))) (Gec O O O) O (JLm (BL (decide (x≠x))) O (G5 (b (Gq (fin1 BL h)))))))))))))

def G46 (x:Int) (y:Int):Option Int:=
 bnd (Zp x) fun b=>
 bnd (Zp y) fun a=>
 bif b then
 (bif a then
  (some 0)
  else
  (some (-1)))
 else
 (bif a then
  (some 1)
  else
  (bif decide (x < y) then
   (some (-1))
   else
   (bif decide (y < x) then
    (some 1)
    else
    (some 0))))
theorem J58 (x:Int) (y:Int) (r:Int) (h:G46 x y=some r):Pure Eo 40 [I64 x,I64 y] (·=I64 r):=by
 unfold G46 at h
 refine H0 [.tmp 4] Tryz.func40 O O (Jr fun p=>(JLm (I64 0) O (G5 (p (Jr fun q=>(JLm (I64 x) O ?_))))))
 obtain⟨b,s,h⟩:=Ga h
 refine JLh (BL b) (Gt O (G85 x b s) Hd7 ⟨O,O,G⟩) O (JLm (BL b) O (G5 (q (Jr fun t=>(JLm (I64 y) O ?_)))))
 obtain⟨a,u,h⟩:=Ga h
 refine JLh (BL a) (Gt O (G85 y a u) Hd7 ⟨O,O,G⟩) O (JLm (BL a) O (G5 (t (Js fun v=>Jr fun w=>(JLm (BL b) O (G5 (w (JCc O h (fun h hb=>?_) (fun h hb=>?_)))))))))
 ·
  refine Js fun z=>Jr fun a0=>(JLm (BL a) O (G5 (a0 (JCc O h (fun h hb=>?_) (fun h hb=>?_)))))
  ·
   refine Jr fun c=>(JLm (I64 0) O (G5 (c (Gq (fin1 I64 h)))))
  ·
   refine Gr (z (Jr fun d=>(JLm (I64 (-1)) O (G5 (d (Gq (fin1 I64 h)))))))
 ·
  refine Gr (v (Js fun e=>Jr fun f=>(JLm (BL a) O (G5 (f (JCc O h (fun h hb=>?_) (fun h hb=>?_)))))))
  ·
   refine Jr fun g=>(JLm (I64 1) O (G5 (g (Gq (fin1 I64 h)))))
  ·
   refine Gr (e (Js fun i=>Jr fun j=>(JLm (I64 x) O (JLm (I64 y) O (JLh (BL (decide (x < y))) (Qg O O O) O (G5 (j (JCc O h (fun h hb=>?_) (fun h hb=>?_)))))))))
   ·
    refine Jr fun k=>(JLm (I64 (-1)) O (G5 (k (Gq (fin1 I64 h)))))
   ·
    refine Gr (i (Js fun l=>Jr fun m=>(JLm (I64 x) O (JLm (I64 y) O (JLh (BL (decide (y < x))) (Gbe O O O) O (G5 (m (JCc O h (fun h hb=>?_) (fun h hb=>?_)))))))))
    ·
     refine Jr fun n=>(JLm (I64 1) O (G5 (n (Gq (fin1 I64 h)))))
    ·
     refine Gr (l (Jr fun o=>(JLm (I64 0) O (G5 (o (Gq (fin1 I64 h)))))))

def Y8 (a:Stowed) (b:Stowed):Option Int:=
 bnd (G46 a.Box b.Box) fun c=>
 some c
theorem H4c (a:Stowed) (b:Stowed) (r:Int) (h:Y8 a b=some r):Pure Eo 39 [.agg (Stowed.cs a),.agg (Stowed.cs b)] (·=I64 r):=by
 unfold Y8 at h
 refine H0 [.tmp 4] Tryz.func39 O O (Jr fun d=>(JLh (.ptr 1085 0) (Jm (cs:=[I64 a.Box,I64 a.Slot.G2,I64 a.Slot.Tier,U8 a.Slot.Half]) 1085 O O O O O) O (JLh (.ptr 1086 0) (Jm (cs:=[I64 b.Box,I64 b.Slot.G2,I64 b.Slot.Tier,U8 b.Slot.Half]) 1086 O O O O O) O (JLm (I64 0) O (G5 (d (Gm [(2,Eg a),(3,.ptr 1086 0)] [(1086,.box 55 [I64 b.Box,I64 b.Slot.G2,I64 b.Slot.Tier,U8 b.Slot.Half])] 1085 rfl rfl rfl ⟨⟨_,rfl,.boxEq rfl rfl⟩,G⟩ rfl (by exact⟨.ptr,.conv (.same rfl),G⟩) (Gm [(2,Eg a),(3,Eg b)] [] 1086 rfl rfl rfl G rfl (by exact⟨.conv (.same rfl),.ptr,G⟩) ?_))))))))
 refine Jr fun e=>(JLh (Eg a) (G9 Jn O O O) O (JLh (I64 a.Box) (Gh Gc O O O) O (JLh (Eg b) (G9 Jn O O O) O (JLh (I64 b.Box) (Gh Gc O O O) O ?_))))
 obtain⟨c,f,h⟩:=Ga h
 refine JLh (I64 c) (Gt O (J58 a.Box b.Box c f) Rd8 ⟨O,O,O,O,G⟩) O (JLm (I64 c) O (G5 (e (Gq (fin1 I64 h)))))

def G15 (m:Gb) (Rp:(List Stowed)→Prop):Option Prop:=
 J00 (fun(a:Slot×Box) (b:(List Stowed)) c=>
  need (decide ((b.length+[(Stowed.mk a.2.ID a.1)].length)*32≤140737488355328∧b.length+[(Stowed.mk a.2.ID a.1)].length≤maxLen)) <|
  c (b++[(Stowed.mk a.2.ID a.1)]))
 (fun(b:(List Stowed))=>
  bnd (Q13 (fun z0 z1=>Y8 z0 z1) b) fun d=>
  some (Rp d)) (Gu.Hf m.on) []
theorem Jc1 (m:Gb) (Rp:(List Stowed)→Prop) (p:Prop) (h:G15 m Rp=some p) (hp:p):Pure Eo 10 [.dptr (Gb.cs m)] (fun av=>∃ r,Rp r∧av=E2 r):=by
 unfold G15 at h
 refine H0 [.tmp 2] Tryz.func10 O O (Jr fun a4=>(JLh (E2 ([]:List Stowed)) (Hm 4 O O) O (G5 (a4 (Js fun a5=>Jr fun a6=>(JLm (Ee m) O (JLh (BL true) (Gt O (Yr m true O) G8b ⟨O,O,G⟩) O (JLh (BL false) (Qx (b:=true) O O) O (G5 (a6 (G2e O (Gr (a5 (Jr fun a7=>(JLh (.vec 1023 (([]:List Stowed).length) 4 (([]:List Stowed).length)) (H49 1023 55 4 O O O) O (G5 (a7 (Js fun a8=>Jr fun a9=>(JLm (Ee m) O (JLh (Ee m) (G6e O O) O (JLh (.dptr ((Gb.cs m).drop 13)) (G9 Yh O O O) O (JLh (DM Slot.kv Box.av m.on) (Gh Yj O O O) O (JLh (.it 1026) (H8f 1026 (kv:=Slot.kv) (av:=Box.av) (m:=m.on) O O .data O G52) O (G5 (a9 (Gx ?_))))))))))))))))))))))))))
 obtain⟨b0,v,w,t,h⟩:=H2f h
 refine J34 (m.on.l.length) (fun d (c:(List Stowed))=>Gcc b0 v (Gu.l m.on) d c) (fun d c=>[(3,.vec 1023 c.length 4 c.length),(13,.it 1026)]) (fun d c=>[(1023,.vec 55 4 c.length (c.map Stowed.av)),(1026,.iter (DM Slot.kv Box.av m.on) m.on.l.length d)]) [] (Gcc.start h hp) ⟨(.sm O O),⟨⟨_,O,.vec⟩,⟨_,O,.iter O⟩,G⟩,O⟩ ?_
 clear h hp
 intro d c k b4 b1
 refine Jr fun n=>Zu O O O (Hfd (kv:=Slot.kv) (av:=Box.av) (m:=m.on) (fun _=>O) O O O .data) ?_
 intro u_ L_ hn_
 rcases hn_ with ⟨i,a,g,o,rfl,rfl⟩ | ⟨x,rfl,rfl⟩
 ·
  obtain⟨b5,h,b2,s⟩:=k.step g o
  replace h:=Qa7 w h
  refine JLh (BL true) (H1 O O O) O (G5 (n (Js fun y=>J35 O (Gr (y (Gx ?_))))))
  refine Jr fun z=>(JLh (.tup [.agg (Slot.cs a.1),.agg (Box.cs a.2)]) (J90 (kv:=Slot.kv) (av:=Box.av) (m:=m.on) (q:=i) (seen:=d) (e:=a) (fun _=>O) O O O .data g) O (JLh (.agg (Slot.cs a.1)) (H1 O O O) O (JLh (.agg (Box.cs a.2)) (H1 O O O) O (JLh (.ptr 1024 0) (Hq 1024 3 Z7 O O) O (JLh (.ptr 1025 0) (Hq 1025 9 Qt O O) O (Hp (u:=.junk) (Hc (u:=.agg (Slot.cs a.1)) (ds:=[I64 a.1.G2,I64 a.1.Tier,U8 a.1.Half]) Zv O O O O O O O O) (Hp (u:=.junk) (Hc (u:=.agg (Box.cs a.2)) (ds:=(Box.cs a.2)) Rs O O O O O O O O) (G5 (z ?_)))))))))
  refine fzQ [(3,.vec 1023 c.length 4 c.length),(4,Ej a.1),(5,.ptr 1025 0),(13,.it 1026)] [(1023,.vec 55 4 c.length (c.map Stowed.av)),(1026,.iter (DM Slot.kv Box.av m.on) m.on.l.length (d++[i])),(1025,.box 60 (Box.cs a.2))] 1024 rfl rfl rfl ⟨⟨_,rfl,.vec⟩,⟨_,rfl,.iter rfl⟩,⟨_,rfl,.boxEq rfl rfl⟩,G⟩ rfl ?_
  refine fzQ [(3,.vec 1023 c.length 4 c.length),(4,Ej a.1),(5,Eh a.2),(13,.it 1026)] [(1023,.vec 55 4 c.length (c.map Stowed.av)),(1026,.iter (DM Slot.kv Box.av m.on) m.on.l.length (d++[i]))] 1025 rfl rfl rfl ⟨⟨_,rfl,.vec⟩,⟨_,rfl,.iter rfl⟩,G⟩ rfl (G1 ?_)
  refine JLm (.vec 1023 c.length 4 c.length) O (JLh (Eh a.2) (G9 Rf O O O) O (JLh (I64 a.2.ID) (Gh Gc O O O) O (JLh (.agg (Slot.cs a.1)) (Gj Hu O O O) O (JLh (.agg [I64 a.2.ID,I64 a.1.G2,I64 a.1.Tier,U8 a.1.Half]) (Hb (cs:=[I64 a.2.ID,I64 a.1.G2,I64 a.1.Tier,U8 a.1.Half]) [(0,1),(1,3)] [I64 0,I64 0,I64 0,U8 0] [E0,E0,E0,.int .u8 0] Rt Z4 (zzQ O) O O) O (JLh (E2 [(Stowed.mk a.2.ID a.1)]) (H9 (xs:=[.agg [I64 a.2.ID,I64 a.1.G2,I64 a.1.Tier,U8 a.1.Half]]) O ⟨O,O,G⟩ H4 Jx O O O O) O ?_)))))
  obtain⟨a0,h⟩:=J8 h
  refine JLh (.vec 1023 ((c++[(Stowed.mk a.2.ID a.1)]).length) 4 ((c++[(Stowed.mk a.2.ID a.1)]).length)) (G6d (f:=Stowed.av) (xs:=c) (ys:=[(Stowed.mk a.2.ID a.1)]) (ver:=c.length) (ver1:=(c++[(Stowed.mk a.2.ID a.1)]).length) rfl rfl rfl rfl H4 G29 a0 (fun _=>rfl) (.inl rfl) (by simp)) O (JLm (.vec 1023 ((c++[(Stowed.mk a.2.ID a.1)]).length) 4 ((c++[(Stowed.mk a.2.ID a.1)]).length)) O (G5 (b1 _ _ (d++[i]) (c++[(Stowed.mk a.2.ID a.1)]) (s _ (M5 h).symm) (Gaa (M3 g).1 o) ⟨(.sm O O),⟨⟨_,O,.vec⟩,⟨_,O,.iter O⟩,G⟩,O⟩)))
 ·
  obtain⟨p_,h,hp⟩:=k.done x
  replace h:=app1 t h
  refine JLh (BL false) (H1 O O O) O (G5 (n (Js fun b3=>G2e O (Jf (a8 (Jr fun a1=>(JLm (.vec 1023 c.length 4 c.length) O ?_)))))))
  obtain⟨j,a2,h⟩:=Ga h
  refine JLh (.tup []) (Y47 (f:=Stowed.av) (cmp:=(fun z0 z1=>Y8 z0 z1)) (xs:=c) (r:=j) Stowed.vs O Q7d Q12 (fun _=>O) (fun _=>O) (fun _=>Yad O) Q6f Q6e O O O O O a2 (fun z0 z1 q hq=>H4c z0 z1 q hq) O) O (G5 (a1 (Jr fun a3=>(JLm (.vec 1023 c.length 4 c.length) O (JLm (.vec 1023 c.length 4 c.length) O (G5 (a3 (Qc7 [(2,E2 j)] [] 1023 rfl rfl G rfl (by exact⟨.vec,G⟩) (Gq (⟨[E2 j],[],G,O,⟨⟨_,O,.conv (.same O)⟩,G⟩,O,j,Eq.mpr (M5 h) hp,O⟩))))))))))
theorem Jc2 (S_:(Gb)→Option (List Stowed)) (hS_:∀ m r,S_ m=some r→∃ p:Prop,G15 m (fun r_=>r_=r)=some p∧p) (m:Gb) (r:(List Stowed)) (h:S_ m=some r):Pure Eo 10 [.dptr (Gb.cs m)] (·=E2 r):=by
 obtain⟨p,a,b⟩:=hS_ m r h
 exact(Jc1 m _ p a b).monoP (fun av hh=>by obtain⟨r_,rfl,ha⟩:=hh; exact ha)

def Qp (m:Gb):Option (List Int):=
 bnd (G4e m.quay) fun b=>
 bnd (Yq (Gu.keys m.quay)) fun a=>
 some a
theorem Gd6 (m:Gb) (r:(List Int)) (h:Qp m=some r):Pure Eo 11 [.dptr (Gb.cs m)] (·=E1 r):=by
 unfold Qp at h
 refine H0 [.tmp 2] Tryz.func11 O O (Jr fun c=>(JLh (E1 ([]:List Int)) (Hm 1 O O) O (G5 (c (Js fun d=>Jr fun e=>(JLm (Ee m) O (JLh (BL true) (Gt O (Yr m true O) G8b ⟨O,O,G⟩) O (JLh (BL false) (Qx (b:=true) O O) O (G5 (e (G2e O (Gr (d (Jr fun f=>(JLm (Ee m) O (JLh (Ee m) (G6e O O) O (JLh (.dptr ((Gb.cs m).drop 14)) (G9 G22 O O O) O (JLh (DM Kq Box.av m.quay) (Gh G1b O O O) O ?_))))))))))))))))))
 obtain⟨j,g,h⟩:=Ga h
 refine JLh (.fn 101 [.dptr [DM Kq Box.av m.quay]]) (Gt O (Ga5 m.quay j g) Q6d ⟨O,O,G⟩) O ?_
 obtain⟨a,i,h⟩:=Ga h
 refine JLh (E1 a) (Gt O (H04.down (Gu.keys m.quay) 101 [.dptr [DM Kq Box.av m.quay]] Q0b O (G76 m.quay) a i) Hdc ⟨O,O,G⟩) O (JLm (E1 a) O (G5 (f (Gq (fin1 (fun r:(List Int)=>(E1 r:AV)) h)))))

def Ry (m:Gb):Option (List Int):=
 bnd (G81 m.open_) fun b=>
 bnd (Yq (Gu.keys m.open_)) fun a=>
 some a
theorem Jf2 (m:Gb) (r:(List Int)) (h:Ry m=some r):Pure Eo 18 [.dptr (Gb.cs m)] (·=E1 r):=by
 unfold Ry at h
 refine H0 [.tmp 2] Tryz.func18 O O (Jr fun c=>(JLh (E1 ([]:List Int)) (Hm 1 O O) O (G5 (c (Js fun d=>Jr fun e=>(JLm (Ee m) O (JLh (BL true) (Gt O (Yr m true O) G8b ⟨O,O,G⟩) O (JLh (BL false) (Qx (b:=true) O O) O (G5 (e (G2e O (Gr (d (Jr fun f=>(JLm (Ee m) O (JLh (Ee m) (G6e O O) O (JLh (.dptr ((Gb.cs m).drop 15)) (G9 G78 O O O) O (JLh (DM Kq I64 m.open_) (Gh G65 O O O) O ?_))))))))))))))))))
 obtain⟨j,g,h⟩:=Ga h
 refine JLh (.fn 104 [.dptr [DM Kq I64 m.open_]]) (Gt O (Ge9 m.open_ j g) Q6a ⟨O,O,G⟩) O ?_
 obtain⟨a,i,h⟩:=Ga h
 refine JLh (E1 a) (Gt O (H04.down (Gu.keys m.open_) 104 [.dptr [DM Kq I64 m.open_]] Q0a O (Gbc m.open_) a i) Hdc ⟨O,O,G⟩) O (JLm (E1 a) O (G5 (f (Gq (fin1 (fun r:(List Int)=>(E1 r:AV)) h)))))


theorem J8a (m:Gb) (Rp:(List Stowed)→Prop) (p:Prop) (h:G15 m Rp=some p) (hp:p):Jh Eo 10 [.dptr (Gb.cs m)] [] (fun av L'=>∃ p:Nat,∃ r,Rp r∧av=.vec 1023 p 4 r.length∧L'=[(1023,.vec 55 4 p (r.map Stowed.av))]):=by
 unfold G15 at h
 refine Q9 [] [.tmp 2] Tryz.func10 O O (G56 O) (Jr fun a4=>(JLh (.vec 1022 (([]:List Stowed).length) 4 (([]:List Stowed).length)) (H49 1022 55 4 O O O) O (G5 (a4 (Js fun a5=>Jr fun a6=>(JLm (Ee m) O (JLh (BL true) (Gt O (Yr m true O) G8b ⟨O,O,G⟩) O (JLh (BL false) (Qx (b:=true) O O) O (G5 (a6 (G2e O (Gr (a5 (Jr fun a7=>(JLh (.vec 1023 (([]:List Stowed).length) 4 (([]:List Stowed).length)) (H49 1023 55 4 O O O) O (G5 (a7 (Js fun a8=>?_))))))))))))))))))
 refine Jr fun a9=>(JLm (Ee m) O (JLh (Ee m) (G6e O O) O (JLh (.dptr ((Gb.cs m).drop 13)) (G9 Yh O O O) O (JLh (DM Slot.kv Box.av m.on) (Gh Yj O O O) O (JLh (.it 1026) (H8f 1026 (kv:=Slot.kv) (av:=Box.av) (m:=m.on) O O .data O G52) O (G5 (a9 (Gx ?_))))))))
 obtain⟨b0,v,w,t,h⟩:=H2f h
 refine J34 (m.on.l.length) (fun d (c:(List Stowed))=>Gcc b0 v (Gu.l m.on) d c) (fun d c=>[(3,.vec 1023 c.length 4 c.length),(13,.it 1026)]) (fun d c=>[(1022,.vec 55 4 (([]:List Stowed).length) (([]:List Stowed).map Stowed.av)),(1023,.vec 55 4 c.length (c.map Stowed.av)),(1026,.iter (DM Slot.kv Box.av m.on) m.on.l.length d)]) [] (Gcc.start h hp) ⟨(.sm O O),⟨⟨_,O,.vec⟩,⟨_,O,.vec⟩,⟨_,O,.iter O⟩,G⟩,O⟩ ?_
 clear h hp
 intro d c j b4 b1
 refine Jr fun k=>Zu O O O (Hfd (kv:=Slot.kv) (av:=Box.av) (m:=m.on) (fun _=>O) O O O .data) ?_
 intro u_ L_ hn_
 rcases hn_ with ⟨i,a,g,n,rfl,rfl⟩ | ⟨x,rfl,rfl⟩
 ·
  obtain⟨b5,h,b2,o⟩:=j.step g n
  replace h:=Qa7 w h
  refine JLh (BL true) (H1 O O O) O (G5 (k (Js fun y=>J35 O (Gr (y (Gx ?_))))))
  refine Jr fun z=>(JLh (.tup [.agg (Slot.cs a.1),.agg (Box.cs a.2)]) (J90 (kv:=Slot.kv) (av:=Box.av) (m:=m.on) (q:=i) (seen:=d) (e:=a) (fun _=>O) O O O .data g) O (JLh (.agg (Slot.cs a.1)) (H1 O O O) O (JLh (.agg (Box.cs a.2)) (H1 O O O) O (JLh (.ptr 1024 0) (Hq 1024 3 Z7 O O) O (JLh (.ptr 1025 0) (Hq 1025 9 Qt O O) O (Hp (u:=.junk) (Hc (u:=.agg (Slot.cs a.1)) (ds:=[I64 a.1.G2,I64 a.1.Tier,U8 a.1.Half]) Zv O O O O O O O O) (Hp (u:=.junk) (Hc (u:=.agg (Box.cs a.2)) (ds:=(Box.cs a.2)) Rs O O O O O O O O) (G5 (z ?_)))))))))
  refine fzQ [(3,.vec 1023 c.length 4 c.length),(4,Ej a.1),(5,.ptr 1025 0),(13,.it 1026)] [(1022,.vec 55 4 (([]:List Stowed).length) (([]:List Stowed).map Stowed.av)),(1023,.vec 55 4 c.length (c.map Stowed.av)),(1026,.iter (DM Slot.kv Box.av m.on) m.on.l.length (d++[i])),(1025,.box 60 (Box.cs a.2))] 1024 rfl rfl rfl ⟨⟨_,rfl,.vec⟩,⟨_,rfl,.vec⟩,⟨_,rfl,.iter rfl⟩,⟨_,rfl,.boxEq rfl rfl⟩,G⟩ rfl ?_
  refine fzQ [(3,.vec 1023 c.length 4 c.length),(4,Ej a.1),(5,Eh a.2),(13,.it 1026)] [(1022,.vec 55 4 (([]:List Stowed).length) (([]:List Stowed).map Stowed.av)),(1023,.vec 55 4 c.length (c.map Stowed.av)),(1026,.iter (DM Slot.kv Box.av m.on) m.on.l.length (d++[i]))] 1025 rfl rfl rfl ⟨⟨_,rfl,.vec⟩,⟨_,rfl,.vec⟩,⟨_,rfl,.iter rfl⟩,G⟩ rfl (G1 ?_)
  refine JLm (.vec 1023 c.length 4 c.length) O (JLh (Eh a.2) (G9 Rf O O O) O (JLh (I64 a.2.ID) (Gh Gc O O O) O (JLh (.agg (Slot.cs a.1)) (Gj Hu O O O) O (JLh (.agg [I64 a.2.ID,I64 a.1.G2,I64 a.1.Tier,U8 a.1.Half]) (Hb (cs:=[I64 a.2.ID,I64 a.1.G2,I64 a.1.Tier,U8 a.1.Half]) [(0,1),(1,3)] [I64 0,I64 0,I64 0,U8 0] [E0,E0,E0,.int .u8 0] Rt Z4 (zzQ O) O O) O (JLh (E2 [(Stowed.mk a.2.ID a.1)]) (H9 (xs:=[.agg [I64 a.2.ID,I64 a.1.G2,I64 a.1.Tier,U8 a.1.Half]]) O ⟨O,O,G⟩ H4 Jx O O O O) O ?_)))))
  obtain⟨a0,h⟩:=J8 h
  refine JLh (.vec 1023 ((c++[(Stowed.mk a.2.ID a.1)]).length) 4 ((c++[(Stowed.mk a.2.ID a.1)]).length)) (G6d (f:=Stowed.av) (xs:=c) (ys:=[(Stowed.mk a.2.ID a.1)]) (ver:=c.length) (ver1:=(c++[(Stowed.mk a.2.ID a.1)]).length) rfl rfl rfl rfl H4 G29 a0 (fun _=>rfl) (.inl rfl) (by simp)) O (JLm (.vec 1023 ((c++[(Stowed.mk a.2.ID a.1)]).length) 4 ((c++[(Stowed.mk a.2.ID a.1)]).length)) O (G5 (b1 _ _ (d++[i]) (c++[(Stowed.mk a.2.ID a.1)]) (o _ (M5 h).symm) (Gaa (M3 g).1 n) ⟨(.sm O O),⟨⟨_,O,.vec⟩,⟨_,O,.vec⟩,⟨_,O,.iter O⟩,G⟩,O⟩)))
 ·
  obtain⟨p_,h,hp⟩:=j.done x
  replace h:=app1 t h
  refine JLh (BL false) (H1 O O O) O (G5 (k (Js fun b3=>G2e O (Jf (a8 (Jr fun a1=>(JLm (.vec 1023 c.length 4 c.length) O ?_)))))))
  obtain⟨s,a2,h⟩:=Ga h
  refine JLh (.tup []) (Y47 (f:=Stowed.av) (cmp:=(fun z0 z1=>Y8 z0 z1)) (xs:=c) (r:=s) Stowed.vs O Q7d Q12 (fun _=>O) (fun _=>O) (fun _=>Yad O) Q6f Q6e O O O O O a2 (fun z0 z1 q hq=>H4c z0 z1 q hq) O) O (G5 (a1 (Jr fun a3=>(JLm (.vec 1023 c.length 4 c.length) O (JLm (.vec 1023 c.length 4 c.length) O (G5 (a3 (G87 2 O O (fun hn_=>Gq (⟨[.vec 1023 c.length 4 c.length],[(1023,.vec 55 4 c.length (s.map Stowed.av))],⟨⟨_,O,.vec⟩,G⟩,O,⟨⟨_,O,.conv (.same O)⟩,G⟩,c.length,s,Eq.mpr (M5 h) hp,congrArg (fun n_:Nat=>(.vec 1023 c.length 4 n_:AV)) (hn_.trans (Mj _)),O⟩))))))))))
theorem J89 (S_:(Gb)→Option (List Stowed)) (hS_:∀ m r,S_ m=some r→∃ p:Prop,G15 m (fun r_=>r_=r)=some p∧p) (m:Gb) (r:(List Stowed)) (h:S_ m=some r):Jh Eo 10 [.dptr (Gb.cs m)] [] (fun av L'=>∃ p:Nat,av=.vec 1023 p 4 r.length∧L'=[(1023,.vec 55 4 p (r.map Stowed.av))]):=by
 obtain⟨p,a,b⟩:=hS_ m r h
 exact(J8a m _ p a b).mono (fun av L hh=>by obtain⟨q,r_,rfl,ha,hb⟩:=hh; exact⟨q,ha,hb⟩)


theorem G6b (m:Gb) (r:(List Int)) (h:Qp m=some r):Jh Eo 11 [.dptr (Gb.cs m)] [] (fun av L'=>∃ p:Nat,av=.vec 1186 p 1 r.length∧L'=[(1186,.vec 3 1 p (r.map I64))]):=by
 unfold Qp at h
 refine Q9 [] [.tmp 2] Tryz.func11 O O (G56 O) (Jr fun d=>(JLh (.vec 1027 (([]:List Int).length) 1 (([]:List Int).length)) (H49 1027 3 1 O O O) O (G5 (d (Js fun e=>Jr fun f=>(JLm (Ee m) O (JLh (BL true) (Gt O (Yr m true O) G8b ⟨O,O,G⟩) O (JLh (BL false) (Qx (b:=true) O O) O (G5 (f (G2e O (Gr (e (Jr fun g=>(JLm (Ee m) O (JLh (Ee m) (G6e O O) O (JLh (.dptr ((Gb.cs m).drop 14)) (G9 G22 O O O) O (JLh (DM Kq Box.av m.quay) (Gh G1b O O O) O ?_))))))))))))))))))
 obtain⟨k,i,h⟩:=Ga h
 refine JLh (.fn 101 [.dptr [DM Kq Box.av m.quay]]) (Gt O (Ga5 m.quay k i) Q6d ⟨O,O,G⟩) O ?_
 obtain⟨a,j,h⟩:=Ga h
 refine Zu O O O (Qd0 (args:=[.fn 101 [.dptr [DM Kq Box.av m.quay]]]) (L0:=[]) (u:=fun p=>.vec 1186 p 1 a.length) (Lr:=fun p=>[(1186,.vec 3 1 p (a.map I64))]) O (H05.down (Gu.keys m.quay) 101 [.dptr [DM Kq Box.av m.quay]] Q0b O (G76 m.quay) a j) Hdc ⟨.inl O,O,G⟩ G O (fun _=>O)) ?_
 rintro u_ L_ ⟨c,rfl,rfl⟩
 refine JLm (.vec 1186 c 1 a.length) O (G5 (g (G87 2 O O (fun hn_=>Gq ?_))))
 obtain rfl:=M5 h
 exact⟨[.vec 1186 c 1 a.length],[(1186,.vec 3 1 c (a.map I64))],⟨⟨_,O,.vec⟩,G⟩,O,⟨⟨_,O,.conv (.same O)⟩,G⟩,c,congrArg (fun n_:Nat=>(.vec 1186 c 1 n_:AV)) (hn_.trans (Mj _)),O⟩


theorem G5b (m:Gb) (r:(List Int)) (h:Ry m=some r):Jh Eo 18 [.dptr (Gb.cs m)] [] (fun av L'=>∃ p:Nat,av=.vec 1186 p 1 r.length∧L'=[(1186,.vec 3 1 p (r.map I64))]):=by
 unfold Ry at h
 refine Q9 [] [.tmp 2] Tryz.func18 O O (G56 O) (Jr fun d=>(JLh (.vec 1043 (([]:List Int).length) 1 (([]:List Int).length)) (H49 1043 3 1 O O O) O (G5 (d (Js fun e=>Jr fun f=>(JLm (Ee m) O (JLh (BL true) (Gt O (Yr m true O) G8b ⟨O,O,G⟩) O (JLh (BL false) (Qx (b:=true) O O) O (G5 (f (G2e O (Gr (e (Jr fun g=>(JLm (Ee m) O (JLh (Ee m) (G6e O O) O (JLh (.dptr ((Gb.cs m).drop 15)) (G9 G78 O O O) O (JLh (DM Kq I64 m.open_) (Gh G65 O O O) O ?_))))))))))))))))))
 obtain⟨k,i,h⟩:=Ga h
 refine JLh (.fn 104 [.dptr [DM Kq I64 m.open_]]) (Gt O (Ge9 m.open_ k i) Q6a ⟨O,O,G⟩) O ?_
 obtain⟨a,j,h⟩:=Ga h
 refine Zu O O O (Qd0 (args:=[.fn 104 [.dptr [DM Kq I64 m.open_]]]) (L0:=[]) (u:=fun p=>.vec 1186 p 1 a.length) (Lr:=fun p=>[(1186,.vec 3 1 p (a.map I64))]) O (H05.down (Gu.keys m.open_) 104 [.dptr [DM Kq I64 m.open_]] Q0a O (Gbc m.open_) a j) Hdc ⟨.inl O,O,G⟩ G O (fun _=>O)) ?_
 rintro u_ L_ ⟨c,rfl,rfl⟩
 refine JLm (.vec 1186 c 1 a.length) O (G5 (g (G87 2 O O (fun hn_=>Gq ?_))))
 obtain rfl:=M5 h
 exact⟨[.vec 1186 c 1 a.length],[(1186,.vec 3 1 c (a.map I64))],⟨⟨_,O,.vec⟩,G⟩,O,⟨⟨_,O,.conv (.same O)⟩,G⟩,c,congrArg (fun n_:Nat=>(.vec 1186 c 1 n_:AV)) (hn_.trans (Mj _)),O⟩

def Gb2 (l:List Stowed):Option (List Slot):=
 each (fun b d (a:(List Slot)) c=>
  need (decide ((a.length+[b.Slot].length)*24≤140737488355328∧a.length+[b.Slot].length≤maxLen)) <|
  c (a++[b.Slot]))
 (fun(a:(List Slot))=>
  some a) l 0 []
theorem J31 (l:List Stowed) (r:(List Slot)) (h:Gb2 l=some r):Pure Eo 72 [E2 l] (·=E9 r):=by
 unfold Gb2 at h
 refine H0 [.tmp 2] Tryz.func72 O O (Jr fun v=>(JLh (E9 ([]:List Slot)) (Hm 3 O O) O (G5 (v (Jr fun w=>(JLh (OW 1129 3 Slot.av ([]:List Slot)) (G5e 1129 43 3 O O O) O (G5 (w (Js fun x=>Jr fun z=>(JLm (E2 l) O (JLl H4 O O O fun a0=>(JLm (I64 0) O (G5 (z (Gx ?_)))))))))))))))
 obtain⟨a1,i,j,g,h⟩:=Jy h
 refine Jc (fun c (a:(List Slot))=>each a1 i (List.drop c l) c a=some r) (fun c a=>[(3,OW 1129 3 Slot.av a),(6,E2 l),(7,En l.length),(8,En c)]) (fun c a=>[(1129,.spare 43 3 a.length a.length)]) (fun c=>l.length - c) 0 [] h ⟨(.sm O O),⟨⟨_,rfl,.same⟩,G⟩,rfl⟩ ?_
 clear h
 intro c a d a4 a2
 refine Jr fun k=>(JLh (BL (decide ((c:Int) < (l.length:Int)))) (Qg O O O) O (G5 (k (Js fun m=>Gn O (fun hb=>?_) (fun hb=>?_)))))
 ·
  have e:=Qr hb
  obtain⟨b,a3,n,o,h⟩:=Ja d e
  replace h:=G1d j h
  refine Gr (m (Js fun p=>Gx (Jr fun q=>(JLh (Eg b) (Hg (f:=Stowed.av) (xs:=l) (y:=b) O O O H4 n O) O (JLh (.agg (Stowed.cs b)) (Gj R3 O O O) O (JLh (.ptr 1130 0) (Hq 1130 4 Jx O O) O (Hp (u:=.junk) (Hc (u:=.agg (Stowed.cs b)) (ds:=[I64 b.Box,I64 b.Slot.G2,I64 b.Slot.Tier,U8 b.Slot.Half]) G11 O O O O O O O O) (G5 (q (fzQ [(3,OW 1129 3 Slot.av a),(5,Eg b),(6,E2 l),(7,En l.length),(8,En c)] [(1129,.spare 43 3 a.length a.length)] 1130 rfl rfl rfl ⟨⟨_,rfl,.same⟩,G⟩ rfl (G1 ?_)))))))))))
  refine JLm (OW 1129 3 Slot.av a) O (JLh (.dptr ((Stowed.cs b).drop 1)) (G9 Jo O O O) O (JLh (.agg ((Stowed.cs b).drop 1)) (Gj Hu O O O) O (JLh (E9 [b.Slot]) (H9 (xs:=[.agg ((Stowed.cs b).drop 1)]) O ⟨O,O,G⟩ Rr Z7 O O O O) O ?_)))
  obtain⟨s,h⟩:=J8 h
  refine JLh (OW 1129 3 Slot.av (a++[b.Slot])) (Qk (f:=Slot.av) (xs:=a) (ys:=[b.Slot]) O O O O Rr J6c s (fun _=>O) (.inl O) O) O (JLm (OW 1129 3 Slot.av (a++[b.Slot])) O (G5 (p (G1 (JLh (I64 ((c+1:Nat):Int)) (Jg (J7 e a0) O O O) O (JLm (I64 ((c+1:Nat):Int)) O (G5 (a2 _ _ (c+1) (a++[b.Slot]) (app1 o h) (by omega) ⟨(.sm O O),⟨⟨_,rfl,.same⟩,G⟩,rfl⟩))))))))
 ·
  have h:=app1 g (Jb d (Hs hb))
  refine Jf (x (Jr fun t=>(JLm (OW 1129 3 Slot.av a) O (JLm (OW 1129 3 Slot.av a) O (G5 (t (Gq (fin1l (fun r:(List Slot)=>(E9 r:AV)) h))))))))

def H35 (b:Box):Option Int:=
 bif b.High then
 (some 2896)
 else
 (some 2591)
theorem Qe0 (b:Box) (r:Int) (h:H35 b=some r):Pure Eo 156 [.agg (Box.cs b)] (·=I64 r):=by
 unfold H35 at h
 refine H0 [.tmp 2] Tryz.func156 O O (Jr fun a=>(JLh (.ptr 1194 0) (Jm (cs:=(Box.cs b)) 1194 O O O O O) O (JLm (I64 0) O (G5 (a (Gm [(1,Eh b)] [] 1194 rfl rfl rfl G rfl (by exact⟨.ptr,G⟩) (Js fun c=>Jr fun d=>(JLh (.dptr ((Box.cs b).drop 3)) (G9 H1d O O O) O (JLh (BL b.High) (Gh Q1 O O O) O (G5 (d (JCc O h (fun h hb=>?_) (fun h hb=>?_)))))))))))))
 ·
  refine Jr fun e=>(JLm (I64 2896) O (G5 (e (Gq (fin1 I64 h)))))
 ·
  refine Gr (c (Jr fun f=>(JLm (I64 2591) O (G5 (f (Gq (fin1 I64 h)))))))

def G7e (boxes:List Box) (l:List Stowed) (column:Int) (half:Int):Option Int:=
 each (fun c i (a:Int) e=>
  jp (fun b=>
   bif ((decide (c.Slot.G2=column))&&((decide (c.Slot.Half=half))||(decide (c.Slot.Half=0)))) then
   (bnd (G40 boxes c.Box) fun d=>
    bif d.2 then
    (bnd (H35 d.1) fun f=>
     chk (a+f) fun g=>
     b g)
    else
    (b a))
   else
   (b a)) fun(h:Int)=>
  e h)
 (fun(a:Int)=>
  some a) l 0 0
theorem J01 (boxes:List Box) (l:List Stowed) (column:Int) (half:Int) (r:Int) (h:G7e boxes l column half=some r):Pure Eo 129 [E8 boxes,E2 l,I64 column,U8 half] (·=I64 r):=by
 unfold G7e at h
 refine H0 [.tmp 8] Tryz.func129 O O (Jr fun a7=>(JLm (I64 0) O (G5 (a7 (Jr fun a8=>(JLm (I64 0) O (G5 (a8 (Js fun a9=>Jr fun b0=>(JLm (E2 l) O (JLl H4 O O O fun o=>(JLm (I64 0) O (G5 (b0 (Gx ?_)))))))))))))))
 obtain⟨b1,p,q,k,h⟩:=Jy h
 refine Jc (fun b (d:Int)=>each b1 p (List.drop b l) b d=some r) (fun b d=>[(0,E8 boxes),(2,I64 column),(3,U8 half),(9,I64 d),(14,E2 l),(15,En l.length),(16,En b)]) (fun b d=>[]) (fun b=>l.length - b) 0 0 h ⟨(.sm O O),G,rfl⟩ ?_
 clear h
 intro b d g b4 b2
 refine Jr fun s=>(JLh (BL (decide ((b:Int) < (l.length:Int)))) (Qg O O O) O (G5 (s (Js fun t=>Gn O (fun hb=>?_) (fun hb=>?_)))))
 ·
  have i:=Qr hb
  obtain⟨a,b3,v,w,h⟩:=Ja g i
  replace h:=G1d q h
  refine Gr (t ?_)
  obtain⟨x,m,h⟩:=Yy h
  refine Ri (fun e:Int=>x e=some r) (fun e=>[(0,E8 boxes),(2,I64 column),(3,U8 half),(9,I64 e),(14,E2 l),(15,En l.length),(16,En b)]) (fun e=>[]) (fun Kj30 ej30=>?_) ?_
  ·
   refine Gx (Jr fun z=>(JLh (Eg a) (Hg (f:=Stowed.av) (xs:=l) (y:=a) O O O H4 v O) O (JLh (.agg (Stowed.cs a)) (Gj R3 O O O) O (JLh (.ptr 1176 0) (Hq 1176 4 Jx O O) O (Hp (u:=.junk) (Hc (u:=.agg (Stowed.cs a)) (ds:=[I64 a.Box,I64 a.Slot.G2,I64 a.Slot.Tier,U8 a.Slot.Half]) G11 O O O O O O O O) (G5 (z (fzQ [(0,E8 boxes),(2,I64 column),(3,U8 half),(9,I64 d),(11,Eg a),(14,E2 l),(15,En l.length),(16,En b)] [] 1176 rfl rfl rfl G rfl ?_))))))))
   refine Jr fun a0=>(JLh (.dptr ((Stowed.cs a).drop 1)) (G9 Jo O O O) O (JLh (.dptr ((Stowed.cs a).drop 1)) (G9 Jd O O O) O (JLh (I64 a.Slot.G2) (Gh Gc O O O) O (JLm (I64 column) O (JLh (BL (decide (a.Slot.G2=column))) (Q0 O O O) O (JLm (BL (decide (a.Slot.G2=column))) O (JLo (.dptr ((Stowed.cs a).drop 1)) [] O .sct G (fun hc=>G9 Jo O O O) O (JLo (.dptr [U8 a.Slot.Half]) [26] O .sct ⟨Ua,G⟩ (fun hc=>G9 Rg O O O) O (JLo (U8 a.Slot.Half) [27] O .sct ⟨Ua,G⟩ (fun hc=>Gh Ho O O O) O (JLo (U8 half) [] O .sct G (fun hc=>G6 O O) O (JLo (BL (decide (a.Slot.Half=half))) [28,29] O .sct ⟨Ua,Ua,G⟩ (fun hc=>Q0 O O O) O (JLo (BL (decide (a.Slot.Half=half))) [30] O .sct ⟨Ua,G⟩ (fun hc=>G6 O O) O (JLo (.dptr ((Stowed.cs a).drop 1)) [] O .optf G (fun hc=>G9 Jo O O O) O ?_)))))))))))))
   refine JLo (.dptr [U8 a.Slot.Half]) [32] O .optf ⟨Ua,G⟩ (fun hc=>G9 Rg O O O) O (JLo (U8 a.Slot.Half) [33] O .optf ⟨Ua,G⟩ (fun hc=>Gh Ho O O O) O (JLo (BL (decide (a.Slot.Half=0))) [34] O .optf ⟨Ua,G⟩ (fun hc=>Q0 O O O) O (Gf (u:=BL ((decide (a.Slot.Half=half))||(decide (a.Slot.Half=0)))) [(31,BL (decide (a.Slot.Half=half))),(35,_)] O O O .sct ⟨.all id,.part,G⟩ (fun hc=>G2f O O O O) ?_)))
   refine JLh (BL ((decide (a.Slot.G2=column))&&((decide (a.Slot.Half=half))||(decide (a.Slot.Half=0))))) (Ro O O O O) O (G5 (a0 (JCc O h (fun h hb=>?_) (fun h hb=>?_))))
   ·
    refine Jr fun a1=>(JLm (E8 boxes) O (JLh (Eg a) (G9 Jn O O O) O (JLh (I64 a.Box) (Gh Gc O O O) O ?_)))
    obtain⟨c,a2,h⟩:=Ga h
    refine JLh (.tup [.agg (Box.cs c.1),BL c.2]) (Gt O (Gc8 boxes a.Box c a2) H6d ⟨O,O,O,O,G⟩) O (JLm (.tup [.agg (Box.cs c.1),BL c.2]) O (JLh (.agg (Box.cs c.1)) (H1 O O O) O (JLh (BL c.2) (H1 O O O) O (JLh (.ptr 1177 0) (Hq 1177 9 Qt O O) O (Hp (u:=.junk) (Hc (u:=.agg (Box.cs c.1)) (ds:=(Box.cs c.1)) Rs O O O O O O O O) (JLm (BL c.2) O (G5 (a1 ?_))))))))
    refine fzQ [(0,E8 boxes),(2,I64 column),(3,U8 half),(9,I64 d),(12,Eh c.1),(13,BL c.2),(14,E2 l),(15,En l.length),(16,En b)] [] 1177 rfl rfl rfl G rfl (Jr fun a3=>(JLm (BL c.2) O (G5 (a3 (JCc O h (fun h hb=>?_) (fun h hb=>?_))))))
    ·
     refine G1 (JLm (I64 d) O (JLh (.agg (Box.cs c.1)) (Gj Ym O O O) O ?_))
     obtain⟨n,a4,h⟩:=Ga h
     refine JLh (I64 n) (Gt O (Qe0 c.1 n a4) R59 ⟨O,O,G⟩) O ?_
     obtain⟨j,a5,h⟩:=Je h
     refine JLh (I64 j) (Jg a5 O O O) O (JLm (I64 j) O (G5 (ej30 _ _ j h ⟨(.sm O O),G,rfl⟩)))
    ·
     refine Gr (ej30 _ _ d h ⟨(.sm O O),G,rfl⟩)
   ·
    refine Gr (ej30 _ _ d h ⟨(.sm O O),G,rfl⟩)
  ·intro e h
   replace h:=app1 m h
   refine G1 (JLh (I64 ((b+1:Nat):Int)) (Jg (J7 i o) O O O) O (JLm (I64 ((b+1:Nat):Int)) O (G5 (b2 _ _ (b+1) e (app1 w h) (by omega) ⟨(.sm O O),G,rfl⟩))))
 ·
  have h:=app1 k (Jb g (Hs hb))
  refine Jf (a9 (Jr fun a6=>(JLm (I64 d) O (JLm (I64 d) O (G5 (a6 (Gq (fin1 I64 h))))))))

def G97 (s:Gk) (boxes:List Box) (l:List Stowed) (column:Int):Option Bool:=
 Z3 s.Columns column fun a=>
 bnd (bif (!(decide (a.Height≤0))) then G7e boxes l column 1 else some default) fun b=>
 bnd (bif ((!(decide (a.Height≤0)))&&(decide (b≤a.Height))) then G7e boxes l column 2 else some default) fun c=>
 some ((decide (a.Height≤0))||((decide (b≤a.Height))&&(decide (c≤a.Height))))
theorem J65 (s:Gk) (boxes:List Box) (l:List Stowed) (column:Int) (r:Bool) (h:G97 s boxes l column=some r):Pure Eo 75 [.agg (Gk.cs s),E8 boxes,E2 l,I64 column] (·=BL r):=by
 unfold G97 at h
 refine H0 [.tmp 8] Tryz.func75 O O (Jr fun d=>(JLh (.ptr 1135 0) (Jm (cs:=(Gk.cs s)) 1135 O O O O O) O (JLm (BL false) O (G5 (d (fzQ [(1,E8 boxes),(2,E2 l),(3,I64 column),(4,Ef s)] [] 1135 rfl rfl rfl G rfl (Jr fun e=>(JLh (Ef s) (G9 Hv O O O) O (JLh (E3 s.Columns) (Gh J9 O O O) O (JLm (I64 column) O ?_))))))))))
 obtain⟨n,a,g,i,h⟩:=Yc h
 refine JLh (Ei a) (Hg (f:=G2.av) (xs:=s.Columns) (y:=a) O O O Ht i g) O (JLh (.dptr ((G2.cs a).drop 4)) (G9 Haa O O O) O (JLh (I64 a.Height) (Gh Gc O O O) O (JLm (I64 a.Height) O (G5 (e (Jr fun j=>(JLm (I64 a.Height) O (JLh (BL (decide (a.Height≤0))) (J0b O O O) O (JLm (BL (decide (a.Height≤0))) O (JLo (E8 boxes) [] O .scf G (fun hc=>G6 O O) O (JLo (E2 l) [] O .scf G (fun hc=>G6 O O) O (JLo (I64 column) [] O .scf G (fun hc=>G6 O O) O ?_))))))))))))
 obtain⟨b,k,h⟩:=Ga h
 refine JLo (I64 b) [19,20,21] O .scf ⟨Ua,Ua,Ua,G⟩ (fun hc=>Gt (args:=[E8 boxes,E2 l,I64 column,U8 1]) O (J01 boxes l column 1 b (H3 hc k)) Q04 ⟨O,O,O,O,O,O,O,O,G⟩) O (JLo (I64 a.Height) [] O .scf G (fun hc=>G6 O O) O (JLo (BL (decide (b≤a.Height))) [22,23] O .scf ⟨Ua,Ua,G⟩ (fun hc=>J0b O O O) O (JLo (BL (decide (b≤a.Height))) [24] O .scf ⟨Ua,G⟩ (fun hc=>G6 O O) O (JLo (E8 boxes) [] O .optt G (fun hc=>G6 O O) O (JLo (E2 l) [] O .optt G (fun hc=>G6 O O) O (JLo (I64 column) [] O .optt G (fun hc=>G6 O O) O ?_))))))
 obtain⟨c,m,h⟩:=Ga h
 refine JLo (I64 c) [26,27,28] O .optt ⟨Ua,Ua,Ua,G⟩ (fun hc=>Gt (args:=[E8 boxes,E2 l,I64 column,U8 2]) O (J01 boxes l column 2 c (H3 hc m)) Q04 ⟨O,O,O,O,O,O,O,O,G⟩) O (JLo (I64 a.Height) [] O .optt G (fun hc=>G6 O O) O (JLo (BL (decide (c≤a.Height))) [29,30] O .optt ⟨Ua,Ua,G⟩ (fun hc=>J0b O O O) O (Gf (u:=BL ((decide (b≤a.Height))&&(decide (c≤a.Height)))) [(25,BL (decide (b≤a.Height))),(31,_)] O O O .scf ⟨.all id,.part,G⟩ (fun hc=>Ro O O O O) ?_)))
 refine JLh (BL ((decide (a.Height≤0))||((decide (b≤a.Height))&&(decide (c≤a.Height))))) (G2f O O O O) O (JLm (BL ((decide (a.Height≤0))||((decide (b≤a.Height))&&(decide (c≤a.Height))))) O (G5 (j (Gq (fin1 BL h)))))

def Yo (s:Gk) (boxes:List Box) (l:List Stowed):Option Bool:=
 bnd (Gb1 s) fun v=>
 bif (!v) then
 (some false)
 else
 (bnd (Gb2 l) fun f=>
  each (fun a b (j:Unit) g=>
   bnd (G40 boxes a.Box) fun c=>
   bnd (bif ((!(!c.2))&&(decide (0 < (b:Int)))) then chk ((b:Int) - 1) some else some 0) fun k=>
   bnd (bif ((!(!c.2))&&(decide (0 < (b:Int)))) then Z3 l k some else some default) fun d=>
   bnd (bif (!((!c.2)||((decide (0 < (b:Int)))&&(decide (a.Box≤d.Box))))) then G41 s a.Slot c.1.Size else some default) fun e=>
   bnd (bif (!(((!c.2)||((decide (0 < (b:Int)))&&(decide (a.Box≤d.Box))))||(!e))) then G25 a.Slot f else some default) fun m=>
   bif ((((!c.2)||((decide (0 < (b:Int)))&&(decide (a.Box≤d.Box))))||(!e))||(!m)) then
   (some false)
   else
   (bnd (J21 (b:Int) f.length) fun n=>
    each (fun o w (p:Unit) h=>
     bnd (G9a a.Slot o) fun q=>
     bif q then
     (some false)
     else
     (h ()))
    (fun(p:Unit)=>
     g ()) (f.take n) 0 ()))
  (fun(j:Unit)=>
   each (fun x r (t:Unit) i=>
    bnd (G97 s boxes l (r:Int)) fun u=>
    bif (!u) then
    (some false)
    else
    (i ()))
   (fun(t:Unit)=>
    some true) s.Columns 0 ()) l 0 ())
theorem G0a (s:Gk) (boxes:List Box) (l:List Stowed) (r:Bool) (h:Yo s boxes l=some r):Pure Eo 31 [.agg (Gk.cs s),E8 boxes,E2 l] (·=BL r):=by
 unfold Yo at h
 refine H0 [.tmp 6] Tryz.func31 O O (Jr fun f4=>(JLh (.ptr 1068 0) (Jm (cs:=(Gk.cs s)) 1068 O O O O O) O (JLm (BL false) O (G5 (f4 (Gm [(1,E8 boxes),(2,E2 l),(3,Ef s)] [] 1068 rfl rfl rfl G rfl (by exact⟨.conv (.same rfl),.conv (.same rfl),.ptr,G⟩) (Js fun f5=>Jr fun f6=>(JLh (.agg (Gk.cs s)) (Gj Hr O O O) O ?_))))))))
 obtain⟨r4,f7,h⟩:=Ga h
 refine JLh (BL r4) (Gt O (Qb1.down s r4 f7) Rc8 ⟨O,O,G⟩) O (JLh (BL (!r4)) (Qx (b:=r4) O O) O (G5 (f6 (JCc O h (fun h hb=>?_) (fun h hb=>?_)))))
 ·
  refine Jr fun f8=>(JLm (BL false) O (G5 (f8 (Gq (fin1 BL h)))))
 ·
  refine Gr (f5 (Jr fun f9=>(JLm (E2 l) O ?_)))
  obtain⟨g,g0,h⟩:=Ga h
  refine JLh (E9 g) (Gt O (J31 l g g0) Q66 ⟨O,O,G⟩) O (JLm (E9 g) O (G5 (f9 (Js fun g1=>Jr fun g2=>(JLm (E2 l) O (JLl H4 O O O fun a8=>(JLm (I64 0) O (G5 (g2 (Gx ?_))))))))))
  obtain⟨g3,a9,b0,a4,h⟩:=Jy h
  refine Jc (fun c (p:Unit)=>each g3 a9 (List.drop c l) c p=some r) (fun c p=>[(1,E8 boxes),(2,E2 l),(3,Ef s),(7,E9 g),(20,E2 l),(21,En l.length),(22,En c)]) (fun c p=>[]) (fun c=>l.length - c) 0 () h ⟨(.sm O O),G,rfl⟩ ?_
  clear h
  intro c p w h4 g4
  refine Jr fun b1=>(JLh (BL (decide ((c:Int) < (l.length:Int)))) (Qg O O O) O (G5 (b1 (Js fun b2=>Gn O (fun hb=>?_) (fun hb=>?_)))))
  ·
   have x:=Qr hb
   obtain⟨a,h0,b3,b4,h⟩:=Ja w x
   replace h:=G1d b0 h
   refine Gr (b2 (Js fun b5=>Gx (Jr fun b6=>(JLm (En c) O (JLh (Eg a) (Hg (f:=Stowed.av) (xs:=l) (y:=a) O O O H4 b3 O) O (JLh (.agg (Stowed.cs a)) (Gj R3 O O O) O (JLh (.ptr 1069 0) (Hq 1069 4 Jx O O) O (JLm (En c) O (Hp (u:=.junk) (Hc (u:=.agg (Stowed.cs a)) (ds:=[I64 a.Box,I64 a.Slot.G2,I64 a.Slot.Tier,U8 a.Slot.Half]) G11 O O O O O O O O) (G5 (b6 (fzQ [(1,E8 boxes),(2,E2 l),(3,Ef s),(7,E9 g),(8,En c),(9,Eg a),(20,E2 l),(21,En l.length),(22,En c)] [] 1069 rfl rfl rfl G rfl ?_))))))))))))
   refine Jr fun b7=>(JLm (E8 boxes) O (JLh (Eg a) (G9 Jn O O O) O (JLh (I64 a.Box) (Gh Gc O O O) O ?_)))
   obtain⟨d,b8,h⟩:=Ga h
   refine JLh (.tup [.agg (Box.cs d.1),BL d.2]) (Gt O (Gc8 boxes a.Box d b8) H6d ⟨O,O,O,O,G⟩) O (JLm (.tup [.agg (Box.cs d.1),BL d.2]) O (JLh (.agg (Box.cs d.1)) (H1 O O O) O (JLh (BL d.2) (H1 O O O) O (JLh (.ptr 1070 0) (Hq 1070 9 Qt O O) O (Hp (u:=.junk) (Hc (u:=.agg (Box.cs d.1)) (ds:=(Box.cs d.1)) Rs O O O O O O O O) (JLm (BL d.2) O (G5 (b7 ?_))))))))
   refine fzQ [(1,E8 boxes),(2,E2 l),(3,Ef s),(7,E9 g),(8,En c),(9,Eg a),(10,Eh d.1),(11,BL d.2),(20,E2 l),(21,En l.length),(22,En c)] [] 1070 rfl rfl rfl G rfl (Js fun b9=>Js fun c0=>?_)
   obtain⟨g5,c1,h⟩:=Ga h
   obtain⟨j,c2,h⟩:=Ga h
   obtain⟨n,c3,h⟩:=Ga h
   obtain⟨o,c4,h⟩:=Ga h
   refine JC_d0 J0 (by kernel_rfl) (Dq (BL d.2) (G6 O O) O (Dq (BL (!d.2)) (Qx (b:=d.2) O O) O (Dq (BL (!d.2)) (G6 O O) O (Do (En c) [] O .scf G (fun hc=>G6 O O) O (Do (BL (decide (0 < (c:Int)))) [37] O .scf ⟨Ua,G⟩ (fun hc=>Gbe O O O) O (Do (BL (decide (0 < (c:Int)))) [38] O .scf ⟨Ua,G⟩ (fun hc=>G6 O O) O (Do (Eg a) [] O .optt G (fun hc=>G9 Jn O O O) O (Do (I64 a.Box) [40] O .optt ⟨Ua,G⟩ (fun hc=>Gh Gc O O O) O (Do (E2 l) [] O .optt G (fun hc=>G6 O O) O (Do (En c) [] O .optt G (fun hc=>G6 O O) O (Do (I64 g5) [43] O .optt ⟨Ua,G⟩ (fun hc=>H4d (H30 (H3 hc c1)) O O O) O (Do (Eg j) [42,44] O .optt ⟨Ua,Ua,G⟩ (fun hc=>(match Zn (H3 hc c2) with | ⟨_,hm_,hy_⟩=>Hg (f:=Stowed.av) (xs:=l) (y:=j) O O O H4 hy_ hm_)) O (Do (Eg j) [45] O .optt ⟨Ua,G⟩ (fun hc=>G9 Jn O O O) O ?_)))))))))))))
   refine Do (I64 j.Box) [46] O .optt ⟨Ua,G⟩ (fun hc=>Gh Gc O O O) O (Do (BL (decide (a.Box≤j.Box))) [41,47] O .optt ⟨Ua,Ua,G⟩ (fun hc=>J0b O O O) O (Dg (.opt (!(!d.2)) (BL ((decide (0 < (c:Int)))&&(decide (a.Box≤j.Box))))) (H6 [(39,BL (decide (0 < (c:Int)))),(48,_)] O O O .scf ⟨.all id,.part,G⟩ (fun hc=>Ro O O O O) O) O (Dq (BL ((!d.2)||((decide (0 < (c:Int)))&&(decide (a.Box≤j.Box))))) (G2f O O O O) O (Dq (BL ((!d.2)||((decide (0 < (c:Int)))&&(decide (a.Box≤j.Box))))) (G6 O O) O (Do (.agg (Gk.cs s)) [] O .scf G (fun hc=>Gj Hr O O O) O (Do (.dptr ((Stowed.cs a).drop 1)) [] O .scf G (fun hc=>G9 Jo O O O) O (Do (.agg ((Stowed.cs a).drop 1)) [53] O .scf ⟨Ua,G⟩ (fun hc=>Gj Hu O O O) O (Do (.dptr ((Box.cs d.1).drop 2)) [] O .scf G (fun hc=>G9 Y0 O O O) O (Do (U8 d.1.Size) [55] O .scf ⟨Ua,G⟩ (fun hc=>Gh Ho O O O) O (Do (BL n) [52,54,56] O .scf ⟨Ua,Ua,Ua,G⟩ (fun hc=>Gt (args:=[.agg (Gk.cs s),.agg ((Stowed.cs a).drop 1),U8 d.1.Size]) O (H86 s a.Slot d.1.Size n (H3 hc c3)) J71 ⟨O,O,O,O,O,O,G⟩) O (Do (BL (!n)) [57] O .scf ⟨Ua,G⟩ (fun hc=>Qx (b:=n) O O) O (Dq (BL (((!d.2)||((decide (0 < (c:Int)))&&(decide (a.Box≤j.Box))))||(!n))) (G2f O O O O) O (Dq (BL (((!d.2)||((decide (0 < (c:Int)))&&(decide (a.Box≤j.Box))))||(!n))) (G6 O O) O ?_)))))))))))))
   refine Do (.dptr ((Stowed.cs a).drop 1)) [] O .scf G (fun hc=>G9 Jo O O O) O (Do (.agg ((Stowed.cs a).drop 1)) [61] O .scf ⟨Ua,G⟩ (fun hc=>Gj Hu O O O) O (Do (E9 g) [] O .scf G (fun hc=>G6 O O) O (Do (BL o) [62,63] O .scf ⟨Ua,Ua,G⟩ (fun hc=>Gt (args:=[.agg ((Stowed.cs a).drop 1),E9 g]) O (Haf a.Slot g o (H3 hc c4)) J70 ⟨O,O,O,O,G⟩) O (Do (BL (!o)) [64] O .scf ⟨Ua,G⟩ (fun hc=>Qx (b:=o) O O) O (Dq (BL ((((!d.2)||((decide (0 < (c:Int)))&&(decide (a.Box≤j.Box))))||(!n))||(!o))) (G2f O O O O) O (Dnil (c0 (JCc O h (fun h hb=>?_) (fun h hb=>?_)))))))))
   ·
    refine Jr fun c5=>(JLm (BL false) O (G5 (c5 (Gq (fin1 BL h)))))
   ·
    refine Gr (b9 (Jr fun c6=>(JLm (E9 g) O (JLm (En c) O ?_))))
    obtain⟨m,c7,h⟩:=Ga h
    refine JLh (E9 (g.take m)) (H1a (f:=Slot.av) (xs:=g) O O O Rr (Gdd c7)) O (JLl Rr O O O fun c8=>(JLm (I64 0) O (G5 (c6 (Gx ?_)))))
    obtain⟨g6,c9,d0,a5,h⟩:=Jy h
    refine Jc (fun i (q:Unit)=>each g6 c9 (List.drop i (g.take m)) i q=some r) (fun i q=>[(1,E8 boxes),(2,E2 l),(3,Ef s),(7,E9 g),(9,Eg a),(20,E2 l),(21,En l.length),(22,En c),(69,E9 (g.take m)),(70,I64 ((g.take m).length:Int)),(71,En i)]) (fun i q=>[]) (fun i=>(g.take m).length - i) 0 () h ⟨(.sm O O),G,rfl⟩ ?_
    clear h
    intro i q z h5 g7
    refine Jr fun d1=>(JLh (BL (decide ((i:Int) < ((g.take m).length:Int)))) (Qg O O O) O (G5 (d1 (Js fun d2=>Gn O (fun hb=>?_) (fun hb=>?_)))))
    ·
     have a0:=Qr hb
     obtain⟨k,h1,d3,d4,h⟩:=Ja z a0
     replace h:=G1d d0 h
     refine Gr (d2 (Js fun d5=>Gx (Jr fun d6=>(JLh (Ej k) (Hg (f:=Slot.av) (xs:=(g.take m)) (y:=k) O O O Rr d3 O) O (JLh (.agg (Slot.cs k)) (Gj Hu O O O) O (JLh (.ptr 1071 0) (Hq 1071 3 Z7 O O) O (Hp (u:=.junk) (Hc (u:=.agg (Slot.cs k)) (ds:=[I64 k.G2,I64 k.Tier,U8 k.Half]) Zv O O O O O O O O) (G5 (d6 (fzQ [(1,E8 boxes),(2,E2 l),(3,Ef s),(7,E9 g),(9,Eg a),(13,Ej k),(20,E2 l),(21,En l.length),(22,En c),(69,E9 (g.take m)),(70,I64 ((g.take m).length:Int)),(71,En i)] [] 1071 rfl rfl rfl G rfl ?_))))))))))
     refine Jr fun d7=>(JLh (.dptr ((Stowed.cs a).drop 1)) (G9 Jo O O O) O (JLh (.agg ((Stowed.cs a).drop 1)) (Gj Hu O O O) O (JLh (.agg (Slot.cs k)) (Gj Hu O O O) O ?_)))
     obtain⟨a7,d8,h⟩:=Ga h
     refine JLh (BL a7) (Gt O (Hae a.Slot k a7 d8) J6f ⟨O,O,O,O,G⟩) O (G5 (d7 (JCc O h (fun h hb=>?_) (fun h hb=>?_))))
     ·
      refine Jr fun d9=>(JLm (BL false) O (G5 (d9 (Gq (fin1 BL h)))))
     ·
      refine Gr (d5 (G1 (JLh (I64 ((i+1:Nat):Int)) (Jg (J7 a0 c8) O O O) O (JLm (I64 ((i+1:Nat):Int)) O (G5 (g7 _ _ (i+1) () (app1 d4 h) (by omega) ⟨(.sm O O),G,rfl⟩))))))
    ·
     have h:=app1 a5 (Jb z (Hs hb))
     refine Jf (b5 (G1 (JLh (I64 ((c+1:Nat):Int)) (Jg (J7 x a8) O O O) O (JLm (I64 ((c+1:Nat):Int)) O (G5 (g4 _ _ (c+1) () (app1 b4 h) (by omega) ⟨(.sm O O),G,rfl⟩))))))
  ·
   have h:=app1 a4 (Jb w (Hs hb))
   refine Jf (g1 (Js fun e0=>Jr fun e1=>(JLh (Ef s) (G9 Hv O O O) O (JLh (E3 s.Columns) (Gh J9 O O O) O (JLl Ht O O O fun e2=>(JLm (I64 0) O (G5 (e1 (Gx ?_)))))))))
   obtain⟨g8,e3,e4,a6,h⟩:=Jy h
   refine Jc (fun e (t:Unit)=>each g8 e3 (List.drop e s.Columns) e t=some r) (fun e t=>[(1,E8 boxes),(2,E2 l),(3,Ef s),(83,En s.Columns.length),(84,En e)]) (fun e t=>[]) (fun e=>s.Columns.length - e) 0 () h ⟨(.sm O O),G,rfl⟩ ?_
   clear h
   intro e t a1 h6 g9
   refine Jr fun e5=>(JLh (BL (decide ((e:Int) < (s.Columns.length:Int)))) (Qg O O O) O (G5 (e5 (Js fun e6=>Gn O (fun hb=>?_) (fun hb=>?_)))))
   ·
    have a2:=Qr hb
    obtain⟨h7,h2,h3,e7,h⟩:=Ja a1 a2
    replace h:=G1d e4 h
    refine Gr (e6 (Js fun e8=>Gx (Jr fun e9=>(JLm (En e) O (JLm (En e) O (G5 (e9 (Jr fun f0=>(JLh (.agg (Gk.cs s)) (Gj Hr O O O) O (JLm (E8 boxes) O (JLm (E2 l) O (JLm (En e) O ?_))))))))))))
    obtain⟨v,f1,h⟩:=Ga h
    refine JLh (BL v) (Gt O (J65 s boxes l (e:Int) v f1) Q65 ⟨O,O,O,O,O,O,O,O,G⟩) O (JLh (BL (!v)) (Qx (b:=v) O O) O (G5 (f0 (JCc O h (fun h hb=>?_) (fun h hb=>?_)))))
    ·
     refine Jr fun f2=>(JLm (BL false) O (G5 (f2 (Gq (fin1 BL h)))))
    ·
     refine Gr (e8 (G1 (JLh (I64 ((e+1:Nat):Int)) (Jg (J7 a2 e2) O O O) O (JLm (I64 ((e+1:Nat):Int)) O (G5 (g9 _ _ (e+1) () (app1 e7 h) (by omega) ⟨(.sm O O),G,rfl⟩))))))
   ·
    have h:=app1 a6 (Jb a1 (Hs hb))
    refine Jf (e0 (Jr fun f3=>(JLm (BL true) O (G5 (f3 (Gq (fin1 BL h)))))))

def R9 (s:List G8):Option (List G8):=
 R83 s fun a=>
 bif a then
 (some [])
 else
 (need (decide ((([]:List G8).length+s.length)*32≤140737488355328∧([]:List G8).length+s.length≤maxLen)) <|
  some (([]:List G8)++s))
def G26 (x:Stowed) (a:Int):Option Bool:=
 some (decide (x.Box=a))
theorem J04 (x:Stowed) (a:Int) (r:Bool) (h:G26 x a=some r):Pure Eo 46 [.agg (Stowed.cs x),.dptr [I64 a]] (·=BL r):=by
 unfold G26 at h
 refine H0 [.tmp 3] Tryz.func46 O O (Jr fun b=>(JLh (.ptr 1093 0) (Jm (cs:=[I64 x.Box,I64 x.Slot.G2,I64 x.Slot.Tier,U8 x.Slot.Half]) 1093 O O O O O) O (JLm (BL false) O (G5 (b (Gm [(1,.dptr [I64 a]),(2,Eg x)] [] 1093 rfl rfl rfl G rfl (by exact⟨.conv (.same rfl),.ptr,G⟩) (Jr fun c=>(JLh (Eg x) (G9 Jn O O O) O (JLh (I64 x.Box) (Gh Gc O O O) O (JLh (I64 a) (Gh Gc O O O) O (JLh (BL (decide (x.Box=a))) (Q0 O O O) O (JLm (BL (decide (x.Box=a))) O (G5 (c (Gq (fin1 BL h))))))))))))))))

def R1 (s:List Stowed) (f:Stowed→Option Bool):Option Int:=
 each (fun b c (d:Unit) a=>
  bnd (f b) fun e=>
  bif e then
  (some (c:Int))
  else
  (a ()))
 (fun(d:Unit)=>
  some (-1)) s 0 ()
theorem G57 (s:List Stowed) (f:Stowed→Option Bool) (f_f:FuncId) (f_c:List AV) (f_B:H7 Eo f_f=true) (f_d:Qz (fun _=>false) f_c=true) (f_w:∀ a0 q,f a0=some q→Pure Eo f_f ([.agg (Stowed.cs a0)]++f_c) (·=BL q)) (r:Int) (h:R1 s f=some r):Pure Eo 76 [E2 s,.fn f_f f_c] (·=I64 r):=by
 unfold R1 at h
 refine H0 [.tmp 4] Tryz.func76 O O (Jr fun x=>(JLm (I64 0) O (G5 (x (Js fun z=>Jr fun a1=>(JLm (E2 s) O (JLl H4 O O O fun a2=>(JLm (I64 0) O (G5 (a1 (Gx ?_)))))))))))
 obtain⟨a3,i,j,g,h⟩:=Jy h
 refine Jc (fun a (c:Unit)=>each a3 i (List.drop a s) a c=some r) (fun a c=>[(0,E2 s),(1,.fn f_f f_c),(7,En s.length),(8,En a)]) (fun a c=>[]) (fun a=>s.length - a) 0 () h ⟨⟨.same O,.same (Jt _ _ f_d),.same O,.same O,G⟩,G,O⟩ ?_
 clear h
 intro a c d a7 a4
 refine Jr fun k=>(JLh (BL (decide ((a:Int) < (s.length:Int)))) (Qg O O O) O (G5 (k (Js fun l=>Gn O (fun hb=>?_) (fun hb=>?_)))))
 ·
  have e:=Qr hb
  obtain⟨b,a6,m,n,h⟩:=Ja d e
  replace h:=G1d j h
  refine Gr (l (Js fun o=>Gx (Jr fun p=>(JLm (En a) O (JLm (En a) O (G5 (p (Jr fun t=>(JLm (.fn f_f f_c) O (JLm (E2 s) O (JLm (En a) O (JLh (Eg b) (Hg (f:=Stowed.av) (xs:=s) (y:=b) O O O H4 m O) O (JLh (.agg (Stowed.cs b)) (Gj R3 O O O) O ?_)))))))))))))
  obtain⟨a5,u,h⟩:=Ga h
  refine JLh (BL a5) (G48 (args:=[.agg (Stowed.cs b)]) (caps:=f_c) O O (f_w b _ u) f_B ⟨O,O,G⟩ f_d) O (G5 (t (JCc O h (fun h hb=>?_) (fun h hb=>?_))))
  ·
   refine Jr fun v=>(JLm (En a) O (JLm (En a) O (G5 (v (Gq (fin1 I64 h))))))
  ·
   refine Gr (o (G1 (JLh (I64 ((a+1:Nat):Int)) (Jg (J7 e a2) O O O) O (JLm (I64 ((a+1:Nat):Int)) O (G5 (a4 _ _ (a+1) () (app1 n h) (by omega) ⟨⟨.same rfl,.same (Jt _ _ f_d),.same rfl,.same rfl,G⟩,G,rfl⟩))))))
 ·
  have h:=app1 g (Jb d (Hs hb))
  refine Jf (z (Jr fun w=>(JLm (I64 (-1)) O (G5 (w (Gq (fin1 I64 h)))))))

def Hy (s:List Stowed) (f:Stowed→Option Bool):Option Bool:=
 bnd (R1 s f) fun a=>
 some (decide (0≤a))
theorem Qd (s:List Stowed) (f:Stowed→Option Bool) (f_f:FuncId) (f_c:List AV) (f_B:H7 Eo f_f=true) (f_d:Qz (fun _=>false) f_c=true) (f_w:∀ a0 q,f a0=some q→Pure Eo f_f ([.agg (Stowed.cs a0)]++f_c) (·=BL q)) (r:Bool) (h:Hy s f=some r):Pure Eo 32 [E2 s,.fn f_f f_c] (·=BL r):=by
 unfold Hy at h
 refine H0 [.tmp 4] Tryz.func32 O O (Jr fun b=>(JLm (BL false) O (G5 (b (Jr fun c=>(JLm (E2 s) O (JLm (.fn f_f f_c) O ?_)))))))
 obtain⟨a,d,h⟩:=Ga h
 refine JLh (I64 a) (Gt O (G57 s f f_f f_c f_B f_d f_w a d) Q64 ⟨O,O,O,f_d,G⟩) O (JLh (BL (decide (0≤a))) (H01 O O O) O (JLm (BL (decide (0≤a))) O (G5 (c (Gq (fin1 BL h))))))


theorem Gb9 (s:List G8) (r:(List G8)) (h:R9 s=some r):Jh Eo 43 [E7 s] [] (fun av L'=>∃ p:Nat,av=.vec 1089 p 2 r.length∧L'=[(1089,.vec 107 2 p (r.map G8.av))]):=by
 unfold R9 at h
 refine Q9 [] [.tmp 2] Tryz.func43 O O (G56 O) (Jr fun a=>(JLh (.vec 1089 (([]:List G8).length) 2 (([]:List G8).length)) (H49 1089 107 2 O O O) O (G5 (a (Js fun b=>Jr fun c=>(JLm (E7 s) O (Zu O O O (Ha8 Jj O O) ?_)))))))
 rintro u_ L_ ⟨j,d,rfl,rfl⟩
 replace h:=H2b h j d
 refine G5 (c (JCc O h (fun h hb=>?_) (fun h hb=>?_)))
 ·
  refine Jr fun e=>(JLh (.vec 1089 ((([]:List G8).length)+1) 2 (([]:List G8).length)) (Q49 1089 107 2 O O O) O (G5 (e (G87 2 O O (fun hn_=>Gq ?_)))))
  obtain rfl:=M5 h
  exact⟨[.vec 1089 ((([]:List G8).length)+1) 2 (([]:List G8).length)],[(1089,.vec 107 2 ((([]:List G8).length)+1) (([]:List G8).map G8.av))],⟨⟨_,O,.vec⟩,G⟩,O,⟨⟨_,O,.conv (.same O)⟩,G⟩,((([]:List G8).length)+1),congrArg (fun n_:Nat=>(.vec 1089 ((([]:List G8).length)+1) 2 n_:AV)) (hn_.trans O),O⟩
 ·
  refine Gr (b (Jr fun g=>(JLh (.vec 1089 ((([]:List G8).length)+1) 2 (([]:List G8).length)) (Q4a 1089 107 2 O O Jj) O (JLm (E7 s) O ?_))))
  obtain⟨i,h⟩:=J8 h
  refine JLh (.vec 1089 (((([]:List G8).length)+1)+((([]:List G8)++s).length+1)) 2 ((([]:List G8)++s).length)) (G6d (f:=G8.av) (xs:=([]:List G8)) (ys:=s) (ver:=((([]:List G8).length)+1)) (ver1:=(((([]:List G8).length)+1)+((([]:List G8)++s).length+1))) rfl rfl rfl rfl Jj H98 i (fun _=>rfl) (.inl rfl) (by simp)) O (JLm (.vec 1089 (((([]:List G8).length)+1)+((([]:List G8)++s).length+1)) 2 ((([]:List G8)++s).length)) O (G5 (g (G87 2 O O (fun hn_=>Gq ?_)))))
  obtain rfl:=M5 h
  exact⟨[.vec 1089 (((([]:List G8).length)+1)+((([]:List G8)++s).length+1)) 2 ((([]:List G8)++s).length)],[(1089,.vec 107 2 (((([]:List G8).length)+1)+((([]:List G8)++s).length+1)) ((([]:List G8)++s).map G8.av))],⟨⟨_,O,.vec⟩,G⟩,O,⟨⟨_,O,.conv (.same O)⟩,G⟩,(((([]:List G8).length)+1)+((([]:List G8)++s).length+1)),congrArg (fun n_:Nat=>(.vec 1089 (((([]:List G8).length)+1)+((([]:List G8)++s).length+1)) 2 n_:AV)) (hn_.trans (Mj _)),O⟩

def Ge8 (s:Gk) (boxes:List Box) (state:List Stowed) (ashore:List Int):Option (Gb×Int):=
 bnd (Yo s boxes state) fun u=>
 bif (!u) then
 (none)
 else
 (bnd (Qo s.Columns) fun v=>
  bnd (R9 s.Covers) fun o=>
  each (fun w f (e:(List G8)) k=>
   Z3 s.Covers (f:Int) fun p=>
   bnd (Q4 p.Rows) fun q=>
   Z3 e (f:Int) fun r=>
   k (e.set (f:Int).toNat (G8.mk r.Bay q)))
  (fun(e:(List G8))=>
   each (fun j x (g:(Gu Slot Box)) l=>
    bnd (G6a boxes j.Box) fun t=>
    l (Gu.put g j.Slot t.1))
   (fun(g:(Gu Slot Box))=>
    each (fun a b (d:(Gu Int Box)) i=>
     bnd (G6a boxes a) fun c=>
     bnd (bif ((!(!c.2))&&(decide (0 < (b:Int)))) then chk ((b:Int) - 1) some else some 0) fun m=>
     bnd (bif ((!(!c.2))&&(decide (0 < (b:Int)))) then Z3 ashore m some else some default) fun h=>
     bnd (bif (!((!c.2)||((decide (0 < (b:Int)))&&(decide (a≤h))))) then Hy state (fun z0=>G26 z0 a) else some default) fun n=>
     bif (((!c.2)||((decide (0 < (b:Int)))&&(decide (a≤h))))||n) then
     (none)
     else
     (i (Gu.put d a c.1)))
    (fun(d:(Gu Int Box))=>
     some ((Gb.mk (Gk.mk v e (Light.mk 0 0 0 0) [] [] [] (G4.mk 0 0 0 0)) g d (Gu.empty:Gu Int Int) 0),0)) ashore 0 (Gu.empty:Gu Int Box)) state 0 (Gu.empty:Gu Slot Box)) o 0 o)
abbrev Ka:List AV:=[E3 ([]:List G2),E7 ([]:List G8),I64 0,I64 0,I64 0,I64 0,E4 ([]:List Row),E5 ([]:List Frame),E6 ([]:List Gp),I64 0,I64 0,I64 0,I64 0,.mp 1197,.mp 1198,.mp 1199,I64 0]
theorem Hb1 (s:Gk) (boxes:List Box) (state:List Stowed) (ashore:List Int) (r:Gb×Int) (h:Ge8 s boxes state ashore=some r):Jh Eo 14 [.agg (Gk.cs s),E8 boxes,E2 state,E1 ashore] [] (fun av L'=>av=.tup [.ptr 1196 0,I64 r.2]∧L'=[(1196,.box 97 [E3 r.1.ship.Columns,E7 r.1.ship.Covers,I64 r.1.ship.Light.Kilos,I64 r.1.ship.Light.X,I64 r.1.ship.Light.Y,I64 r.1.ship.Light.Z,E4 r.1.ship.Rows,E5 r.1.ship.Frames,E6 r.1.ship.Tanks,I64 r.1.ship.G4.Tolerance,I64 r.1.ship.G4.Trim,I64 r.1.ship.G4.List_,I64 r.1.ship.G4.Stability,.mp 1197,.mp 1198,.mp 1199,I64 r.1.lifts]),(1197,TP 93 Slot.kv Box.av r.1.on),(1198,TP 94 Kq Box.av r.1.quay),(1199,TP 95 Kq I64 r.1.open_)]):=by
 unfold Ge8 at h
 refine Q9 [] [.tmp 8,.tmp 9] Tryz.func14 O O (G56 O) (Jr fun g4=>(JLh (.ptr 1032 0) (Jm (cs:=(Gk.cs s)) 1032 O O O O O) O (JLm (.sc (.pointer none)) O (JLm (I64 0) O (G5 (g4 (fzQ [(1,E8 boxes),(2,E2 state),(3,E1 ashore),(4,Ef s)] [] 1032 rfl rfl rfl G rfl (Js fun g5=>Jr fun g6=>(JLh (.agg (Gk.cs s)) (Gj Hr O O O) O (JLm (E8 boxes) O (JLm (E2 state) O ?_)))))))))))
 obtain⟨r4,g7,h⟩:=Ga h
 refine JLh (BL r4) (Gt O (G0a s boxes state r4 g7) G8c ⟨O,O,O,O,O,O,G⟩) O (JLh (BL (!r4)) (Qx (b:=r4) O O) O (G5 (g6 (JCc O h (fun h hb=>?_) (fun h hb=>?_)))))
 ·
  refine Jr fun g8=>(JLm (.sc (.pointer none)) O (JLm (I64 2) O (G5 (g8 (Gq ?_)))))
  cases h
 ·
  refine Gr (g5 ?_)
  refine Jr fun g9=>(JLh (.mp 1197) (H1b 1197 Slot.kv Box.av O O) O (JLh (.mp 1198) (H1b 1198 Kq Box.av O O) O (JLh (.mp 1199) (H1b 1199 Kq I64 O O) O (JLh (.agg Ka) (Hb (cs:=Ka) [(0,13),(13,1),(14,1),(15,1),(16,1)] [E3 ([]:List G2),E7 ([]:List G8),I64 0,I64 0,I64 0,I64 0,E4 ([]:List Row),E5 ([]:List Frame),E6 ([]:List Gp),I64 0,I64 0,I64 0,I64 0,.sc (.map none),.sc (.map none),.sc (.map none),I64 0] [.slice none 0 0,.slice none 0 0,E0,E0,E0,E0,.slice none 0 0,.slice none 0 0,.slice none 0 0,E0,E0,E0,E0,.map none,.map none,.map none,E0] J9a Q52 ⟨.inr ⟨_,O,O⟩,.inr ⟨_,O,O⟩,.inl O,.inl O,.inl O,.inl O,.inr ⟨_,O,O⟩,.inr ⟨_,O,O⟩,.inr ⟨_,O,O⟩,.inl O,.inl O,.inl O,.inl O,.inl O,.inl O,.inl O,.inl O,G⟩ O O) O (JLh (.ptr 1196 0) (Jm (cs:=Ka) 1196 O O O O O) O (JLm (.ptr 1196 0) O (G5 (g9 ?_))))))))
  refine Js fun h0=>Qc (l':=[(1,E8 boxes),(2,E2 state),(3,E1 ashore),(4,Ef s),(10,.ptr 1196 0)]) (L':=[(1197,TP 93 Slot.kv Box.av (Gu.empty:Gu Slot Box)),(1198,TP 94 Kq Box.av (Gu.empty:Gu Int Box)),(1199,TP 95 Kq I64 (Gu.empty:Gu Int Int)),(1196,.box 97 Ka)]) ⟨(.sm O O),⟨fmQ O,fmQ O,fmQ O,fbQ O (.sm O O),G⟩,rfl⟩ ?_
  obtain⟨p,h1,h⟩:=Ga h
  obtain⟨j,h2,h⟩:=Ga h
  refine J5 [6,10] [0,0,0,0,0,0,0,1,1,1,0] [1,0,0,0,0,0,0,1,1,1,0] [[(1197,TP 93 Slot.kv Box.av (Gu.empty:Gu Slot Box)),(1198,TP 94 Kq Box.av (Gu.empty:Gu Int Box)),(1199,TP 95 Kq I64 (Gu.empty:Gu Int Int)),(1196,.box 97 Ka)],((1089,.vec 107 2 0 (j.map G8.av))::[(1197,TP 93 Slot.kv Box.av (Gu.empty:Gu Slot Box)),(1198,TP 94 Kq Box.av (Gu.empty:Gu Int Box)),(1199,TP 95 Kq I64 (Gu.empty:Gu Int Int)),(1196,.box 97 Ka)]),((1196,.box 97 [E3 p,.vec 1089 0 2 j.length,I64 0,I64 0,I64 0,I64 0,E4 ([]:List Row),E5 ([]:List Frame),E6 ([]:List Gp),I64 0,I64 0,I64 0,I64 0,.mp 1197,.mp 1198,.mp 1199,I64 0])::((1089,.vec 107 2 0 (j.map G8.av))::[(1197,TP 93 Slot.kv Box.av (Gu.empty:Gu Slot Box)),(1198,TP 94 Kq Box.av (Gu.empty:Gu Int Box)),(1199,TP 95 Kq I64 (Gu.empty:Gu Int Int)),(1196,.box 97 Ka)]))] J0 (by kernel_rfl) rfl rfl ?_
  refine Gd (u:=.ptr 1196 0) O O ⟨Ge (G6 O O) O,Ge (G6 O O) O,G⟩ (Gd (u:=Ef s) O O ⟨Ge (G9 Hv O O O) O,G⟩ (Gd (u:=E3 s.Columns) O O ⟨Ge (Gh J9 O O O) O,G⟩ (Gd (u:=E3 p) O O ⟨Ge (Gt O (G9c s.Columns p h1) J72 ⟨O,O,G⟩) O,G⟩ (Gd (u:=.dptr ((Gk.cs s).drop 1)) O O ⟨Ge (G9 Jp O O O) O,G⟩ (Gd (u:=E7 s.Covers) O O ⟨Ge (Gh Qa O O O) O,G⟩ (D_w (u:=.vec 1089 0 2 j.length) O O O O (Ge (Ru (args:=[E7 s.Covers]) (L0:=[]) (Lr:=[(1089,.vec 107 2 0 (j.map G8.av))]) O (Jh.fresh0 (Gb9 s.Covers j h2)) Q6c ⟨.inl O,O,G⟩ G O O O) O) (Gd (u:=.agg [E3 p,.vec 1089 0 2 j.length,I64 0,I64 0,I64 0,I64 0,E4 ([]:List Row),E5 ([]:List Frame),E6 ([]:List Gp),I64 0,I64 0,I64 0,I64 0]) O O ⟨Ge (Hb (cs:=[E3 p,.vec 1089 0 2 j.length,I64 0,I64 0,I64 0,I64 0,E4 ([]:List Row),E5 ([]:List Frame),E6 ([]:List Gp),I64 0,I64 0,I64 0,I64 0]) [(0,1),(1,1),(2,4),(6,1),(7,1),(8,1),(9,4)] [E3 ([]:List G2),E7 ([]:List G8),I64 0,I64 0,I64 0,I64 0,E4 ([]:List Row),E5 ([]:List Frame),E6 ([]:List Gp),I64 0,I64 0,I64 0,I64 0] [.slice none 0 0,.slice none 0 0,E0,E0,E0,E0,.slice none 0 0,.slice none 0 0,.slice none 0 0,E0,E0,E0,E0] Hd5 G64 ⟨.inr ⟨_,O,O⟩,.inr ⟨_,O,O⟩,.inl O,.inl O,.inl O,.inl O,.inr ⟨_,O,O⟩,.inr ⟨_,O,O⟩,.inr ⟨_,O,O⟩,.inl O,.inl O,.inl O,.inl O,G⟩ O O) O,G⟩ (Gd (u:=.ptr 1196 0) O O ⟨Ge (Rn O O) O,G⟩ (Gd (u:=.ptr 1196 0) O O ⟨Ge (Hi Re O O) O,G⟩ (H8d (u:=.junk) O O O O (Ge (Hc (u:=.agg [E3 p,.vec 1089 0 2 j.length,I64 0,I64 0,I64 0,I64 0,E4 ([]:List Row),E5 ([]:List Frame),E6 ([]:List Gp),I64 0,I64 0,I64 0,I64 0]) (ds:=[E3 p,.vec 1089 0 2 j.length,I64 0,I64 0,I64 0,I64 0,E4 ([]:List Row),E5 ([]:List Frame),E6 ([]:List Gp),I64 0,I64 0,I64 0,I64 0,.mp 1197,.mp 1198,.mp 1199,I64 0]) Zw O O O O O O O O) O) (Qw ?_)))))))))))
  refine h0 (Js fun d3=>Jr fun d4=>(JLm (.ptr 1196 0) O (JLh (.ptr 1196 0) (Rn O O) O (JLh (.ptr 1196 0) (Hi Re O O) O (JLh (.ptr 1196 1) (Hi Jp O O) O (JLh (.vec 1089 0 2 j.length) (Hx Qa O O O O) O (Ra1 (f:=G8.av) (xs:=j) Jj O O O (fun d5=>?_) O O O)))))))
  refine JLm (I64 0) O (G5 (d4 (Gx ?_)))
  obtain⟨h3,d6,d7,b3,h⟩:=Jy h
  refine Jc (fun k (i:(List G8))=>each h3 d6 (List.drop k j) k i=some r) (fun k i=>[(1,E8 boxes),(2,E2 state),(3,E1 ashore),(4,Ef s),(10,.ptr 1196 0),(43,En j.length),(44,En k)]) (fun k i=>[(1197,TP 93 Slot.kv Box.av (Gu.empty:Gu Slot Box)),(1198,TP 94 Kq Box.av (Gu.empty:Gu Int Box)),(1199,TP 95 Kq I64 (Gu.empty:Gu Int Int)),(1089,.vec 107 2 0 (i.map G8.av)),(1196,.box 97 [E3 p,.vec 1089 0 2 j.length,I64 0,I64 0,I64 0,I64 0,E4 ([]:List Row),E5 ([]:List Frame),E6 ([]:List Gp),I64 0,I64 0,I64 0,I64 0,.mp 1197,.mp 1198,.mp 1199,I64 0])]) (fun k=>j.length - k) 0 j h ⟨(.sm O O),⟨fmQ O,fmQ O,fmQ O,⟨_,rfl,.vec⟩,fbQ O (.sm O O),G⟩,rfl⟩ ?_
  clear h
  intro k i a6 i2 h4
  refine Jr fun d8=>(JLh (BL (decide ((k:Int) < (j.length:Int)))) (Qg O O O) O (G5 (d8 (Js fun d9=>Gn O (fun hb=>?_) (fun hb=>?_)))))
  ·
   have a7:=Qr hb
   obtain⟨i3,h8,h9,e0,h⟩:=Ja a6 a7
   replace h:=G1d d7 h
   refine Gr (d9 (Js fun e1=>Gx (Jr fun e2=>(JLm (En k) O (JLm (En k) O (G5 (e2 ?_)))))))
   refine Qc (l':=[(1,E8 boxes),(2,E2 state),(3,E1 ashore),(4,Ef s),(10,.ptr 1196 0),(11,En k),(43,En j.length),(44,En k)]) (L':=[(1197,TP 93 Slot.kv Box.av (Gu.empty:Gu Slot Box)),(1198,TP 94 Kq Box.av (Gu.empty:Gu Int Box)),(1199,TP 95 Kq I64 (Gu.empty:Gu Int Int)),(1089,.vec 107 2 0 (i.map G8.av)),(1196,.box 97 [E3 p,.vec 1089 0 2 j.length,I64 0,I64 0,I64 0,I64 0,E4 ([]:List Row),E5 ([]:List Frame),E6 ([]:List Gp),I64 0,I64 0,I64 0,I64 0,.mp 1197,.mp 1198,.mp 1199,I64 0])]) ⟨(.sm O O),⟨fmQ O,fmQ O,fmQ O,⟨_,rfl,.vec⟩,fbQ O (.sm O O),G⟩,rfl⟩ ?_
   obtain⟨i4,a0,e3,e4,h⟩:=Yc h
   obtain⟨a1,e5,h⟩:=Ga h
   obtain⟨a2,b4,a8,h⟩:=R07 h
   refine J5 [15] (.replicate 16 0) (.replicate 16 0) [[(1197,TP 93 Slot.kv Box.av (Gu.empty:Gu Slot Box)),(1198,TP 94 Kq Box.av (Gu.empty:Gu Int Box)),(1199,TP 95 Kq I64 (Gu.empty:Gu Int Int)),(1089,.vec 107 2 0 (i.map G8.av)),(1196,.box 97 [E3 p,.vec 1089 0 2 j.length,I64 0,I64 0,I64 0,I64 0,E4 ([]:List Row),E5 ([]:List Frame),E6 ([]:List Gp),I64 0,I64 0,I64 0,I64 0,.mp 1197,.mp 1198,.mp 1199,I64 0])],((1089,.vec 107 2 0 ((i.set (k:Int).toNat (G8.mk a2.Bay a1)).map G8.av))::[(1197,TP 93 Slot.kv Box.av (Gu.empty:Gu Slot Box)),(1198,TP 94 Kq Box.av (Gu.empty:Gu Int Box)),(1199,TP 95 Kq I64 (Gu.empty:Gu Int Int)),(1089,.vec 107 2 0 (i.map G8.av)),(1196,.box 97 [E3 p,.vec 1089 0 2 j.length,I64 0,I64 0,I64 0,I64 0,E4 ([]:List Row),E5 ([]:List Frame),E6 ([]:List Gp),I64 0,I64 0,I64 0,I64 0,.mp 1197,.mp 1198,.mp 1199,I64 0])])] J0 (by kernel_rfl) rfl rfl ?_
   refine Gd (u:=.ptr 1196 0) O O ⟨Ge (G6 O O) O,G⟩ (Gd (u:=.ptr 1196 0) O O ⟨Ge (Rn O O) O,G⟩ (Gd (u:=.ptr 1196 0) O O ⟨Ge (Hi Re O O) O,G⟩ (Gd (u:=.ptr 1196 1) O O ⟨Ge (Hi Jp O O) O,G⟩ (Gd (u:=.vec 1089 0 2 j.length) O O ⟨Ge (Hx Qa O O O O) O,G⟩ (Gd (u:=En k) O O ⟨Ge (G6 O O) O,G⟩ (Gd (u:=.dptr ((Gk.cs s).drop 1)) O O ⟨Ge (G9 Jp O O O) O,G⟩ (Gd (u:=E7 s.Covers) O O ⟨Ge (Gh Qa O O O) O,G⟩ (Gd (u:=En k) O O ⟨Ge (G6 O O) O,G⟩ (Gd (u:=.dptr [I64 a0.Bay,E1 a0.Rows]) O O ⟨Ge (Hg (f:=G8.av) (xs:=s.Covers) (y:=a0) O O O Jj e4 e3) O,G⟩ (Gd (u:=.dptr [E1 a0.Rows]) O O ⟨Ge (G9 G09 O O O) O,G⟩ (Gd (u:=E1 a0.Rows) O O ⟨Ge (Gh Yk O O O) O,G⟩ (Gd (u:=E1 a1) O O ⟨Ge (Gt O (G42 a0.Rows a1 e5) Hdb ⟨O,O,G⟩) O,G⟩ (Gd (u:=.vptr 1089 0 ((k:Int).toNat) 0) O O ⟨Ge (Y46 (f:=G8.av) (xs:=i) (y:=a2) O O O O Jj a8 b4) O,G⟩ ?_)))))))))))))
   refine Gd (u:=.vptr 1089 0 ((k:Int).toNat) 1) O O ⟨Ge (Ra7 G09 O O O) O,G⟩ (H8d (u:=.junk) O O O O (Ge (R1a (f:=G8.av) (xs:=i) (e:=a2) (z:=(G8.mk a2.Bay a1)) (u:=E1 a1) Hd3 O O O O a8 O O O O O) O) (Qw (e1 (G1 (JLh (I64 ((k+1:Nat):Int)) (Jg (J7 a7 d5) O O O) O (JLm (I64 ((k+1:Nat):Int)) O (G5 (h4 _ _ (k+1) (i.set (k:Int).toNat (G8.mk a2.Bay a1)) (app1 e0 h) (by omega) ⟨(.sm O O),⟨fmQ O,fmQ O,fmQ O,⟨_,rfl,.vec⟩,fbQ O (.sm O O),G⟩,rfl⟩))))))))
  ·
   have h:=app1 b3 (Jb a6 (Hs hb))
   refine Jf (d3 (Js fun e6=>Jr fun e7=>(JLm (E2 state) O (JLl H4 O O O fun e8=>(JLm (I64 0) O (G5 (e7 (Gx ?_))))))))
   obtain⟨h5,e9,f0,b5,h⟩:=Jy h
   refine Jc (fun t (n:(Gu Slot Box))=>each h5 e9 (List.drop t state) t n=some r) (fun t n=>[(1,E8 boxes),(2,E2 state),(3,E1 ashore),(10,.ptr 1196 0),(63,E2 state),(64,En state.length),(65,En t)]) (fun t n=>[(1197,TP 93 Slot.kv Box.av n),(1198,TP 94 Kq Box.av (Gu.empty:Gu Int Box)),(1199,TP 95 Kq I64 (Gu.empty:Gu Int Int)),(1089,.vec 107 2 0 (i.map G8.av)),(1196,.box 97 [E3 p,.vec 1089 0 2 j.length,I64 0,I64 0,I64 0,I64 0,E4 ([]:List Row),E5 ([]:List Frame),E6 ([]:List Gp),I64 0,I64 0,I64 0,I64 0,.mp 1197,.mp 1198,.mp 1199,I64 0])]) (fun t=>state.length - t) 0 (Gu.empty:Gu Slot Box) h ⟨(.sm O O),⟨fmQ O,fmQ O,fmQ O,⟨_,rfl,.vec⟩,fbQ O (.sm O O),G⟩,rfl⟩ ?_
   clear h
   intro t n a9 i5 h6
   refine Jr fun f1=>(JLh (BL (decide ((t:Int) < (state.length:Int)))) (Qg O O O) O (G5 (f1 (Js fun f2=>Gn O (fun hb=>?_) (fun hb=>?_)))))
   ·
    have b0:=Qr hb
    obtain⟨o,i0,f3,f4,h⟩:=Ja a9 b0
    replace h:=G1d f0 h
    refine Gr (f2 (Js fun f5=>Gx (Jr fun f6=>(JLh (Eg o) (Hg (f:=Stowed.av) (xs:=state) (y:=o) O O O H4 f3 O) O (JLh (.agg (Stowed.cs o)) (Gj R3 O O O) O (JLh (.ptr 1033 0) (Hq 1033 4 Jx O O) O (Hp (u:=.junk) (Hc (u:=.agg (Stowed.cs o)) (ds:=[I64 o.Box,I64 o.Slot.G2,I64 o.Slot.Tier,U8 o.Slot.Half]) G11 O O O O O O O O) (G5 (f6 ?_)))))))))
    refine fzQ [(1,E8 boxes),(2,E2 state),(3,E1 ashore),(10,.ptr 1196 0),(13,Eg o),(63,E2 state),(64,En state.length),(65,En t)] [(1197,TP 93 Slot.kv Box.av n),(1198,TP 94 Kq Box.av (Gu.empty:Gu Int Box)),(1199,TP 95 Kq I64 (Gu.empty:Gu Int Int)),(1089,.vec 107 2 0 (i.map G8.av)),(1196,.box 97 [E3 p,.vec 1089 0 2 j.length,I64 0,I64 0,I64 0,I64 0,E4 ([]:List Row),E5 ([]:List Frame),E6 ([]:List Gp),I64 0,I64 0,I64 0,I64 0,.mp 1197,.mp 1198,.mp 1199,I64 0])] 1033 rfl rfl rfl ⟨fmQ O,fmQ O,fmQ O,⟨_,rfl,.vec⟩,⟨_,rfl,.boxEq rfl rfl⟩,G⟩ rfl ?_
    refine Qc (l':=[(1,E8 boxes),(2,E2 state),(3,E1 ashore),(10,.ptr 1196 0),(13,Eg o),(63,E2 state),(64,En state.length),(65,En t)]) (L':=[(1197,TP 93 Slot.kv Box.av n),(1198,TP 94 Kq Box.av (Gu.empty:Gu Int Box)),(1199,TP 95 Kq I64 (Gu.empty:Gu Int Int)),(1089,.vec 107 2 0 (i.map G8.av)),(1196,.box 97 [E3 p,.vec 1089 0 2 j.length,I64 0,I64 0,I64 0,I64 0,E4 ([]:List Row),E5 ([]:List Frame),E6 ([]:List Gp),I64 0,I64 0,I64 0,I64 0,.mp 1197,.mp 1198,.mp 1199,I64 0])]) ⟨(.sm O O),⟨fmQ O,fmQ O,fmQ O,⟨_,rfl,.vec⟩,fbQ O (.sm O O),G⟩,rfl⟩ ?_
    obtain⟨x,f7,h⟩:=Ga h
    refine J5 [13] (.replicate 14 0) [0,0,0,0,0,0,0,0,0,0,0,0,1,0] [[(1197,TP 93 Slot.kv Box.av n),(1198,TP 94 Kq Box.av (Gu.empty:Gu Int Box)),(1199,TP 95 Kq I64 (Gu.empty:Gu Int Int)),(1089,.vec 107 2 0 (i.map G8.av)),(1196,.box 97 [E3 p,.vec 1089 0 2 j.length,I64 0,I64 0,I64 0,I64 0,E4 ([]:List Row),E5 ([]:List Frame),E6 ([]:List Gp),I64 0,I64 0,I64 0,I64 0,.mp 1197,.mp 1198,.mp 1199,I64 0])],((1197,TP 93 Slot.kv Box.av (Gu.put n o.Slot x.1))::[(1197,TP 93 Slot.kv Box.av n),(1198,TP 94 Kq Box.av (Gu.empty:Gu Int Box)),(1199,TP 95 Kq I64 (Gu.empty:Gu Int Int)),(1089,.vec 107 2 0 (i.map G8.av)),(1196,.box 97 [E3 p,.vec 1089 0 2 j.length,I64 0,I64 0,I64 0,I64 0,E4 ([]:List Row),E5 ([]:List Frame),E6 ([]:List Gp),I64 0,I64 0,I64 0,I64 0,.mp 1197,.mp 1198,.mp 1199,I64 0])])] J0 (by kernel_rfl) rfl rfl ?_
    refine Gd (u:=.ptr 1196 0) O O ⟨Ge (G6 O O) O,G⟩ (Gd (u:=.ptr 1196 0) O O ⟨Ge (Rn O O) O,G⟩ (Gd (u:=.ptr 1196 13) O O ⟨Ge (Hi Yh O O) O,G⟩ (Gd (u:=.mp 1197) O O ⟨Ge (Hx Yj O O O O) O,G⟩ (Gd (u:=.dptr ((Stowed.cs o).drop 1)) O O ⟨Ge (G9 Jo O O O) O,G⟩ (Gd (u:=.agg ((Stowed.cs o).drop 1)) O O ⟨Ge (Gj Hu O O O) O,G⟩ (Gd (u:=E8 boxes) O O ⟨Ge (G6 O O) O,G⟩ (Gd (u:=Eg o) O O ⟨Ge (G9 Jn O O O) O,G⟩ (Gd (u:=I64 o.Box) O O ⟨Ge (Gh Gc O O O) O,G⟩ (Gd (u:=.tup [.agg (Box.cs x.1),BL x.2]) O O ⟨Ge (Gt O (H5d boxes o.Box x f7) Hda ⟨O,O,O,O,G⟩) O,G⟩ (Gd (u:=.tup [.agg (Box.cs x.1),BL x.2]) O O ⟨Ge (G6 O O) O,G⟩ (Gd (u:=.agg (Box.cs x.1)) O O ⟨Ge (H1 O O O) O,G⟩ (Gd (u:=BL x.2) O O ⟨Ge (H1 O O O) O,Ge (H1 O O O) O,G⟩ (H8d (u:=.junk) O O O O (Ge (G6f (m:=n) (a:=o.Slot) (v:=x.1) (fun _=>O) O O O O O O Qeb G52) O) (Qw ?_))))))))))))))
    refine f5 (G1 (JLh (I64 ((t+1:Nat):Int)) (Jg (J7 b0 e8) O O O) O (JLm (I64 ((t+1:Nat):Int)) O (G5 (h6 _ _ (t+1) (Gu.put n o.Slot x.1) (app1 f4 h) (by omega) ⟨(.sm O O),⟨fmQ O,fmQ O,fmQ O,⟨_,rfl,.vec⟩,fbQ O (.sm O O),G⟩,rfl⟩)))))
   ·
    have h:=app1 b5 (Jb a9 (Hs hb))
    refine Jf (e6 (Js fun f8=>Jr fun f9=>(JLm (E1 ashore) O (JLl Gz O O O fun g0=>(JLm (I64 0) O (G5 (f9 (Gx ?_))))))))
    obtain⟨g1,b6,b7,b1,h⟩:=Jy h
    refine Jc (fun c (l:(Gu Int Box))=>each g1 b6 (List.drop c ashore) c l=some r) (fun c l=>[(1,E8 boxes),(2,E2 state),(3,E1 ashore),(10,.ptr 1196 0),(83,E1 ashore),(84,En ashore.length),(85,En c)]) (fun c l=>[(1197,TP 93 Slot.kv Box.av n),(1198,TP 94 Kq Box.av l),(1199,TP 95 Kq I64 (Gu.empty:Gu Int Int)),(1089,.vec 107 2 0 (i.map G8.av)),(1196,.box 97 [E3 p,.vec 1089 0 2 j.length,I64 0,I64 0,I64 0,I64 0,E4 ([]:List Row),E5 ([]:List Frame),E6 ([]:List Gp),I64 0,I64 0,I64 0,I64 0,.mp 1197,.mp 1198,.mp 1199,I64 0])]) (fun c=>ashore.length - c) 0 (Gu.empty:Gu Int Box) h ⟨(.sm O O),⟨fmQ O,fmQ O,fmQ O,⟨_,rfl,.vec⟩,fbQ O (.sm O O),G⟩,rfl⟩ ?_
    clear h
    intro c l a4 i1 g2
    refine Jr fun b8=>(JLh (BL (decide ((c:Int) < (ashore.length:Int)))) (Qg O O O) O (G5 (b8 (Js fun b9=>Gn O (fun hb=>?_) (fun hb=>?_)))))
    ·
     have a5:=Qr hb
     obtain⟨d,h7,c0,c1,h⟩:=Ja a4 a5
     replace h:=G1d b7 h
     refine Gr (b9 (Js fun c2=>Gx (Jr fun c3=>(JLm (En c) O (JLh (.dptr [I64 d]) (Hg (f:=I64) (xs:=ashore) (y:=d) O O O Gz c0 O) O (JLh (I64 d) (Gh Gc O O O) O (JLh (.ptr 1034 0) (Hq 1034 1 R6 O O) O (JLm (En c) O (Hp (u:=.junk) (Hc (u:=I64 d) (ds:=[I64 d]) G32 O O O O O O O O) (G5 (c3 ?_)))))))))))
     refine fzQ [(1,E8 boxes),(2,E2 state),(3,E1 ashore),(10,.ptr 1196 0),(14,En c),(15,.dptr [I64 d]),(83,E1 ashore),(84,En ashore.length),(85,En c)] [(1197,TP 93 Slot.kv Box.av n),(1198,TP 94 Kq Box.av l),(1199,TP 95 Kq I64 (Gu.empty:Gu Int Int)),(1089,.vec 107 2 0 (i.map G8.av)),(1196,.box 97 [E3 p,.vec 1089 0 2 j.length,I64 0,I64 0,I64 0,I64 0,E4 ([]:List Row),E5 ([]:List Frame),E6 ([]:List Gp),I64 0,I64 0,I64 0,I64 0,.mp 1197,.mp 1198,.mp 1199,I64 0])] 1034 rfl rfl rfl ⟨fmQ O,fmQ O,fmQ O,⟨_,rfl,.vec⟩,⟨_,rfl,.boxEq rfl rfl⟩,G⟩ rfl ?_
     refine Jr fun c4=>(JLm (E8 boxes) O (JLh (I64 d) (Gh Gc O O O) O ?_))
     obtain⟨g,c5,h⟩:=Ga h
     refine JLh (.tup [.agg (Box.cs g.1),BL g.2]) (Gt O (H5d boxes d g c5) Hda ⟨O,O,O,O,G⟩) O (JLm (.tup [.agg (Box.cs g.1),BL g.2]) O (JLh (.agg (Box.cs g.1)) (H1 O O O) O (JLh (BL g.2) (H1 O O O) O (JLh (.ptr 1035 0) (Hq 1035 9 Qt O O) O (Hp (u:=.junk) (Hc (u:=.agg (Box.cs g.1)) (ds:=(Box.cs g.1)) Rs O O O O O O O O) (JLm (BL g.2) O (G5 (c4 ?_))))))))
     refine fzQ [(1,E8 boxes),(2,E2 state),(3,E1 ashore),(10,.ptr 1196 0),(14,En c),(15,.dptr [I64 d]),(16,Eh g.1),(17,BL g.2),(83,E1 ashore),(84,En ashore.length),(85,En c)] [(1197,TP 93 Slot.kv Box.av n),(1198,TP 94 Kq Box.av l),(1199,TP 95 Kq I64 (Gu.empty:Gu Int Int)),(1089,.vec 107 2 0 (i.map G8.av)),(1196,.box 97 [E3 p,.vec 1089 0 2 j.length,I64 0,I64 0,I64 0,I64 0,E4 ([]:List Row),E5 ([]:List Frame),E6 ([]:List Gp),I64 0,I64 0,I64 0,I64 0,.mp 1197,.mp 1198,.mp 1199,I64 0])] 1035 rfl rfl rfl ⟨fmQ O,fmQ O,fmQ O,⟨_,rfl,.vec⟩,⟨_,rfl,.boxEq rfl rfl⟩,G⟩ rfl ?_
     refine Js fun c6=>Js fun c7=>?_
     refine Qc (l':=[(1,E8 boxes),(2,E2 state),(3,E1 ashore),(10,.ptr 1196 0),(14,En c),(15,.dptr [I64 d]),(16,Eh g.1),(17,BL g.2),(83,E1 ashore),(84,En ashore.length),(85,En c)]) (L':=[(1197,TP 93 Slot.kv Box.av n),(1198,TP 94 Kq Box.av l),(1199,TP 95 Kq I64 (Gu.empty:Gu Int Int)),(1089,.vec 107 2 0 (i.map G8.av)),(1196,.box 97 [E3 p,.vec 1089 0 2 j.length,I64 0,I64 0,I64 0,I64 0,E4 ([]:List Row),E5 ([]:List Frame),E6 ([]:List Gp),I64 0,I64 0,I64 0,I64 0,.mp 1197,.mp 1198,.mp 1199,I64 0])]) ⟨(.sm O O),⟨fmQ O,fmQ O,fmQ O,⟨_,rfl,.vec⟩,fbQ O (.sm O O),G⟩,rfl⟩ ?_
     obtain⟨g3,c8,h⟩:=Ga h
     obtain⟨w,c9,h⟩:=Ga h
     obtain⟨a3,d0,h⟩:=Ga h
     refine JC_d0 J0 (by kernel_rfl) (Dq (BL g.2) (G6 O O) O (Dq (BL (!g.2)) (Qx (b:=g.2) O O) O (Dq (BL (!g.2)) (G6 O O) O (Do (En c) [] O .scf G (fun hc=>G6 O O) O (Do (BL (decide (0 < (c:Int)))) [99] O .scf ⟨Ua,G⟩ (fun hc=>Gbe O O O) O (Do (BL (decide (0 < (c:Int)))) [100] O .scf ⟨Ua,G⟩ (fun hc=>G6 O O) O (Do (I64 d) [] O .optt G (fun hc=>Gh Gc O O O) O (Do (E1 ashore) [] O .optt G (fun hc=>G6 O O) O (Do (En c) [] O .optt G (fun hc=>G6 O O) O (Do (I64 g3) [104] O .optt ⟨Ua,G⟩ (fun hc=>H4d (H30 (H3 hc c8)) O O O) O (Do (.dptr [I64 w]) [103,105] O .optt ⟨Ua,Ua,G⟩ (fun hc=>(match Zn (H3 hc c9) with | ⟨_,hm_,hy_⟩=>Hg (f:=I64) (xs:=ashore) (y:=w) O O O Gz hy_ hm_)) O (Do (I64 w) [106] O .optt ⟨Ua,G⟩ (fun hc=>Gh Gc O O O) O (Do (BL (decide (d≤w))) [102,107] O .optt ⟨Ua,Ua,G⟩ (fun hc=>J0b O O O) O ?_)))))))))))))
     refine Dg (.opt (!(!g.2)) (BL ((decide (0 < (c:Int)))&&(decide (d≤w))))) (H6 [(101,BL (decide (0 < (c:Int)))),(108,_)] O O O .scf ⟨.all id,.part,G⟩ (fun hc=>Ro O O O O) O) O (Dq (BL ((!g.2)||((decide (0 < (c:Int)))&&(decide (d≤w))))) (G2f O O O O) O (Dq (BL ((!g.2)||((decide (0 < (c:Int)))&&(decide (d≤w))))) (G6 O O) O (Do (E2 state) [] O .scf G (fun hc=>G6 O O) O (Do (.fn 46 [.dptr [I64 d]]) [] O .scf G (fun hc=>Jz (cs:=[.dptr [I64 d]]) O O) O (Do (BL a3) [112,113] O .scf ⟨Ua,Ua,G⟩ (fun hc=>Gt (args:=[E2 state,.fn 46 [.dptr [I64 d]]]) O (Qd state (fun z0=>G26 z0 d) 46 [.dptr [I64 d]] Q6b O (fun z0 q hq=>J04 z0 d q hq) a3 (H3 hc d0)) H0c ⟨O,O,O,O,G⟩) O (Dq (BL (((!g.2)||((decide (0 < (c:Int)))&&(decide (d≤w))))||a3)) (G2f O O O O) O (Dnil ?_)))))))
     refine c7 (JCc O h (fun h hb=>?_) (fun h hb=>?_))
     ·
      refine Jr fun d1=>(JLm (.sc (.pointer none)) O (JLm (I64 2) O (G5 (d1 (Gq ?_)))))
      cases h
     ·
      refine Gr (c6 ?_)
      refine Qc (l':=[(1,E8 boxes),(2,E2 state),(3,E1 ashore),(10,.ptr 1196 0),(15,.dptr [I64 d]),(16,Eh g.1),(83,E1 ashore),(84,En ashore.length),(85,En c)]) (L':=[(1197,TP 93 Slot.kv Box.av n),(1198,TP 94 Kq Box.av l),(1199,TP 95 Kq I64 (Gu.empty:Gu Int Int)),(1089,.vec 107 2 0 (i.map G8.av)),(1196,.box 97 [E3 p,.vec 1089 0 2 j.length,I64 0,I64 0,I64 0,I64 0,E4 ([]:List Row),E5 ([]:List Frame),E6 ([]:List Gp),I64 0,I64 0,I64 0,I64 0,.mp 1197,.mp 1198,.mp 1199,I64 0])]) ⟨(.sm O O),⟨fmQ O,fmQ O,fmQ O,⟨_,rfl,.vec⟩,fbQ O (.sm O O),G⟩,rfl⟩ ?_
      refine J5 [6] [0,0,0,0,0,0,0] [0,0,0,0,0,0,0] [[(1197,TP 93 Slot.kv Box.av n),(1198,TP 94 Kq Box.av l),(1199,TP 95 Kq I64 (Gu.empty:Gu Int Int)),(1089,.vec 107 2 0 (i.map G8.av)),(1196,.box 97 [E3 p,.vec 1089 0 2 j.length,I64 0,I64 0,I64 0,I64 0,E4 ([]:List Row),E5 ([]:List Frame),E6 ([]:List Gp),I64 0,I64 0,I64 0,I64 0,.mp 1197,.mp 1198,.mp 1199,I64 0])],((1198,TP 94 Kq Box.av (Gu.put l d g.1))::[(1197,TP 93 Slot.kv Box.av n),(1198,TP 94 Kq Box.av l),(1199,TP 95 Kq I64 (Gu.empty:Gu Int Int)),(1089,.vec 107 2 0 (i.map G8.av)),(1196,.box 97 [E3 p,.vec 1089 0 2 j.length,I64 0,I64 0,I64 0,I64 0,E4 ([]:List Row),E5 ([]:List Frame),E6 ([]:List Gp),I64 0,I64 0,I64 0,I64 0,.mp 1197,.mp 1198,.mp 1199,I64 0])])] J0 (by kernel_rfl) rfl rfl ?_
      refine Gd (u:=.ptr 1196 0) O O ⟨Ge (G6 O O) O,G⟩ (Gd (u:=.ptr 1196 0) O O ⟨Ge (Rn O O) O,G⟩ (Gd (u:=.ptr 1196 14) O O ⟨Ge (Hi G22 O O) O,G⟩ (Gd (u:=.mp 1198) O O ⟨Ge (Hx G1b O O O O) O,G⟩ (Gd (u:=I64 d) O O ⟨Ge (Gh Gc O O O) O,G⟩ (Gd (u:=.agg (Box.cs g.1)) O O ⟨Ge (Gj Ym O O O) O,G⟩ (H8d (u:=.junk) O O O O (Ge (G6f (m:=l) (a:=d) (v:=g.1) (fun _=>O) O O O O O O Q50 H0a) O) (Qw (c2 (G1 (JLh (I64 ((c+1:Nat):Int)) (Jg (J7 a5 g0) O O O) O (JLm (I64 ((c+1:Nat):Int)) O (G5 ?_))))))))))))
      exact g2 _ _ (c+1) (Gu.put l d g.1) (app1 c1 h) (by omega) ⟨(.sm O O),⟨fmQ O,fmQ O,fmQ O,⟨_,rfl,.vec⟩,fbQ O (.sm O O),G⟩,rfl⟩
    ·
     have h:=app1 b1 (Jb a4 (Hs hb))
     refine Jf (f8 (Jr fun d2=>(JLm (.ptr 1196 0) O (JLm (.ptr 1196 0) O (JLm (I64 0) O (G5 (d2 (R17 1196 1 (0+1) O O O (Nat.lt_succ_self _) (cs':=[E3 p,E7 i,I64 0,I64 0,I64 0,I64 0,E4 ([]:List Row),E5 ([]:List Frame),E6 ([]:List Gp),I64 0,I64 0,I64 0,I64 0,.mp 1197,.mp 1198,.mp 1199,I64 0]) O (Gq ?_)))))))))
     obtain rfl:=M5 h
     exact⟨[.ptr 1196 0,I64 0],[(1196,.box 97 [E3 p,E7 i,I64 0,I64 0,I64 0,I64 0,E4 ([]:List Row),E5 ([]:List Frame),E6 ([]:List Gp),I64 0,I64 0,I64 0,I64 0,.mp 1197,.mp 1198,.mp 1199,I64 0]),(1197,TP 93 Slot.kv Box.av n),(1198,TP 94 Kq Box.av l),(1199,TP 95 Kq I64 (Gu.empty:Gu Int Int))],⟨fbQ O (.sm O O),fmQ O,fmQ O,fmQ O,G⟩,rfl,⟨⟨_,rfl,.conv (.same rfl)⟩,⟨_,rfl,.conv (.same rfl)⟩,G⟩,rfl,rfl⟩

end
end Go.Proofs.YtidpfkmbfgihlaaGreat
