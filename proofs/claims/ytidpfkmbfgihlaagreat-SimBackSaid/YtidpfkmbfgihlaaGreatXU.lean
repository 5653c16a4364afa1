/-
 Models of functions of the program,and that they return what the models say.
-/
import Derived.Test.YtidpfkmbfgihlaaGreatXT
set_option maxRecDepth 100000
set_option maxHeartbeats 1000000
set_option linter.unusedVariables false
set_option linter.unusedSimpArgs false
namespace Go.Proofs.YtidpfkmbfgihlaaGreat
open Go.RowKit
noncomputable section
def Stowed.vs (x:Stowed):List Value:=[.int .i64 x.Box,.int .i64 x.Slot.G2,.int .i64 x.Slot.Tier,.int .u8 x.Slot.Half]
namespace XUF
open XAF
open XCF
open XSF
open XKF
open XTF
theorem R3:Gf2 Eo 55 4=true:=by kernel_rfl
theorem Jff:H7 Eo 101=true:=by kernel_rfl
theorem Jfe:H7 Eo 104=true:=by kernel_rfl
theorem Jf8:H7 Eo 129=true:=by kernel_rfl
theorem J6a:H7 Eo 13=true:=by kernel_rfl
theorem R4b:H7 Eo 156=true:=by kernel_rfl
theorem G87:H7 Eo 31=true:=by kernel_rfl
theorem H06:H7 Eo 32=true:=by kernel_rfl
theorem Q63:H7 Eo 38=true:=by kernel_rfl
theorem Q62:H7 Eo 39=true:=by kernel_rfl
theorem Rca:H7 Eo 40=true:=by kernel_rfl
theorem Hd3:H7 Eo 41=true:=by kernel_rfl
theorem Q61:H7 Eo 42=true:=by kernel_rfl
theorem Q60:H7 Eo 43=true:=by kernel_rfl
theorem Hd2:H7 Eo 44=true:=by kernel_rfl
theorem Hd1:H7 Eo 45=true:=by kernel_rfl
theorem Q5f:H7 Eo 46=true:=by kernel_rfl
theorem Q5e:H7 Eo 49=true:=by kernel_rfl
theorem Rba:H7 Eo 71=true:=by kernel_rfl
theorem Q5a:H7 Eo 72=true:=by kernel_rfl
theorem Q59:H7 Eo 75=true:=by kernel_rfl
theorem Q58:H7 Eo 76=true:=by kernel_rfl
theorem Hce:H7 Eo 98=true:=by kernel_rfl
theorem H90:Z5 Eo 107 2 32=true:=by kernel_rfl
theorem Jm:Jj Eo 55 0 0=true:=by kernel_rfl
theorem Jn:Jj Eo 55 1 1=true:=by kernel_rfl
theorem Hcc:placesOf Eo 36=some [(0,1),(1,1),(2,4),(6,1),(7,1),(8,1),(9,4)]:=by kernel_rfl
theorem Rr:placesOf Eo 55=some [(0,1),(1,3)]:=by kernel_rfl
theorem J8f:placesOf Eo 97=some [(0,13),(13,1),(14,1),(15,1),(16,1)]:=by kernel_rfl
theorem Zs:Yt Eo 36 13=true:=by kernel_rfl
theorem G0b:Yt Eo 55 4=true:=by kernel_rfl
theorem G5d:(Eo.info? 36).bind (fun i=>i.zero.map Value.cells)=some (List.toArray [.slice none 0 0,.slice none 0 0,E0,E0,E0,E0,.slice none 0 0,.slice none 0 0,.slice none 0 0,E0,E0,E0,E0]):=by kernel_rfl
theorem Z1:(Eo.info? 55).bind (fun i=>i.zero.map Value.cells)=some (List.toArray [E0,E0,E0,.int .u8 0]):=by kernel_rfl
theorem Q46:(Eo.info? 97).bind (fun i=>i.zero.map Value.cells)=some (List.toArray [.slice none 0 0,.slice none 0 0,E0,E0,E0,E0,.slice none 0 0,.slice none 0 0,.slice none 0 0,E0,E0,E0,E0,.map none,.map none,.map none,E0]):=by kernel_rfl
theorem Jw:Y1 Eo 55 4=true:=by kernel_rfl
end XUF
open XAF
open XCF
open XSF
open XKF
open XTF
open XUF

def Zk (x:Int):Option Bool:=
 some (decide (x≠x))
theorem G7f (x:Int) (r:Bool) (h:Zk x=some r):Pure Eo 98 [I64 x] (·=BL r):=by
 unfold Zk at h
 refine Gy [.tmp 2] Tryz.func98 O O (Jr fun hK1=>(JLm (BL false) O (G5 (hK1 (Jr fun hK2=>(JLm (I64 x) O (JLm (I64 x) O (JLh (BL (decide (x≠x))) (Ge8 O O O) O (JLm (BL (decide (x≠x))) O (G5 (hK2 (Gq (fin1 BL h)))))))))))))

def G3e (x:Int) (y:Int):Option Int:=
 bnd (Zk x) fun r3=>
 bnd (Zk y) fun r5=>
 bif r3 then
 (bif r5 then
  (some 0)
  else
  (some (-1)))
 else
 (bif r5 then
  (some 1)
  else
  (bif decide (x < y) then
   (some (-1))
   else
   (bif decide (y < x) then
    (some 1)
    else
    (some 0))))
theorem J50 (x:Int) (y:Int) (r:Int) (h:G3e x y=some r):Pure Eo 40 [I64 x,I64 y] (·=I64 r):=by
 unfold G3e at h
 refine Gy [.tmp 4] Tryz.func40 O O (Jr fun hK1=>(JLm (I64 0) O (G5 (hK1 (Jr fun hK2=>(JLm (I64 x) O ?_))))))
 obtain⟨r3,hr3,h⟩:=Ga h
 refine JLh (BL r3) (Gs O (G7f x r3 hr3) Hce ⟨O,O,G⟩) O (JLm (BL r3) O (G5 (hK2 (Jr fun hK4=>(JLm (I64 y) O ?_)))))
 obtain⟨r5,hr5,h⟩:=Ga h
 refine JLh (BL r5) (Gs O (G7f y r5 hr5) Hce ⟨O,O,G⟩) O (JLm (BL r5) O (G5 (hK4 (Js fun hK6=>Jr fun hK7=>(JLm (BL r3) O (G5 (hK7 (JCc O h (fun h hb=>?_) (fun h hb=>?_)))))))))
 ·
  refine Js fun hK8=>Jr fun hK9=>(JLm (BL r5) O (G5 (hK9 (JCc O h (fun h hb=>?_) (fun h hb=>?_)))))
  ·
   refine Jr fun hK10=>(JLm (I64 0) O (G5 (hK10 (Gq (fin1 I64 h)))))
  ·
   refine Gr (hK8 (Jr fun hK11=>(JLm (I64 (-1)) O (G5 (hK11 (Gq (fin1 I64 h)))))))
 ·
  refine Gr (hK6 (Js fun hK12=>Jr fun hK13=>(JLm (BL r5) O (G5 (hK13 (JCc O h (fun h hb=>?_) (fun h hb=>?_)))))))
  ·
   refine Jr fun hK14=>(JLm (I64 1) O (G5 (hK14 (Gq (fin1 I64 h)))))
  ·
   refine Gr (hK12 (Js fun hK15=>Jr fun hK16=>(JLm (I64 x) O (JLm (I64 y) O (JLh (BL (decide (x < y))) (Qg O O O) O (G5 (hK16 (JCc O h (fun h hb=>?_) (fun h hb=>?_)))))))))
   ·
    refine Jr fun hK17=>(JLm (I64 (-1)) O (G5 (hK17 (Gq (fin1 I64 h)))))
   ·
    refine Gr (hK15 (Js fun hK18=>Jr fun hK19=>(JLm (I64 x) O (JLm (I64 y) O (JLh (BL (decide (y < x))) (Gb9 O O O) O (G5 (hK19 (JCc O h (fun h hb=>?_) (fun h hb=>?_)))))))))
    ·
     refine Jr fun hK20=>(JLm (I64 1) O (G5 (hK20 (Gq (fin1 I64 h)))))
    ·
     refine Gr (hK18 (Jr fun hK21=>(JLm (I64 0) O (G5 (hK21 (Gq (fin1 I64 h)))))))

def Y6 (a:Stowed) (b:Stowed):Option Int:=
 bnd (G3e a.Box b.Box) fun r3=>
 some r3
theorem H48 (a:Stowed) (b:Stowed) (r:Int) (h:Y6 a b=some r):Pure Eo 39 [.agg (Stowed.cs a),.agg (Stowed.cs b)] (·=I64 r):=by
 unfold Y6 at h
 refine Gy [.tmp 4] Tryz.func39 O O (Jr fun hK1=>(JLh (.ptr 1085 0) (Jk (cs:=[I64 a.Box,I64 a.Slot.G2,I64 a.Slot.Tier,U8 a.Slot.Half]) 1085 O O O O O) O (JLh (.ptr 1086 0) (Jk (cs:=[I64 b.Box,I64 b.Slot.G2,I64 b.Slot.Tier,U8 b.Slot.Half]) 1086 O O O O O) O (JLm (I64 0) O (G5 (hK1 (Gm [(2,Ei a),(3,.ptr 1086 0)] [(1086,.box 55 [I64 b.Box,I64 b.Slot.G2,I64 b.Slot.Tier,U8 b.Slot.Half])] 1085 rfl rfl rfl ⟨⟨_,rfl,.boxEq rfl rfl⟩,G⟩ rfl (by exact⟨.ptr,.conv (.same rfl),G⟩) (Gm [(2,Ei a),(3,Ei b)] [] 1086 rfl rfl rfl G rfl (by exact⟨.conv (.same rfl),.ptr,G⟩) ?_))))))))
 refine Jr fun hK2=>(JLh (Ei a) (G9 Jm O O O) O (JLh (I64 a.Box) (Gg Gc O O O) O (JLh (Ei b) (G9 Jm O O O) O (JLh (I64 b.Box) (Gg Gc O O O) O ?_))))
 obtain⟨r3,hr3,h⟩:=Ga h
 refine JLh (I64 r3) (Gs O (J50 a.Box b.Box r3 hr3) Rca ⟨O,O,O,O,G⟩) O (JLm (I64 r3) O (G5 (hK2 (Gq (fin1 I64 h)))))

def G0f (m:Gb) (Rp:(List Stowed)→Prop):Option Prop:=
 Hfb (fun(x16:Slot×Box) (s16:(List Stowed)) nx16=>
  need (decide ((s16.length+[(Stowed.mk x16.2.ID x16.1)].length)*32≤140737488355328∧s16.length+[(Stowed.mk x16.2.ID x16.1)].length≤maxLen)) <|
  nx16 (s16++[(Stowed.mk x16.2.ID x16.1)]))
 (fun(s16:(List Stowed))=>
  bnd (Q07 (fun z0 z1=>Y6 z0 z1) s16) fun r23=>
  some (Rp r23)) (Gt.He m.on) []
theorem Jb6 (m:Gb) (Rp:(List Stowed)→Prop) (p:Prop) (h:G0f m Rp=some p) (hp:p):Pure Eo 10 [.dptr (Gb.cs m)] (fun av=>∃ r,Rp r∧av=E6 r):=by
 unfold G0f at h
 refine Gy [.tmp 2] Tryz.func10 O O (Jr fun hK1=>(JLh (E6 ([]:List Stowed)) (Hk 4 O O) O (G5 (hK1 (Js fun hK2=>Jr fun hK3=>(JLm (Ef m) O (JLh (BL true) (Gs O (Yo m true O) G86 ⟨O,O,G⟩) O (JLh (BL false) (Qx (b:=true) O O) O (G5 (hK3 (G27 O (Gr (hK2 (Jr fun hK5=>(JLh (.vec 1023 (([]:List Stowed).length) 4 (([]:List Stowed).length)) (H44 1023 55 4 O O O) O (G5 (hK5 (Js fun hK6=>Jr fun hK7=>(JLm (Ef m) O (JLh (Ef m) (G68 O O) O (JLh (.dptr ((Gb.cs m).drop 13)) (G9 Ye O O O) O (JLh (DM Slot.kv Box.av m.on) (Gg Yh O O O) O (JLh (.it 1026) (H87 1026 (kv:=Slot.kv) (av:=Box.av) (m:=m.on) O O .data O G4a) O (G5 (hK7 (Gw ?_))))))))))))))))))))))))))
 obtain⟨b16,kx16,hb16,hkx16,h⟩:=H28 h
 refine J30 (m.on.l.length) (fun i16 (s16:(List Stowed))=>Gc8 b16 kx16 (Gt.l m.on) i16 s16) (fun i16 s16=>[(3,.vec 1023 s16.length 4 s16.length),(13,.it 1026)]) (fun i16 s16=>[(1023,.vec 55 4 s16.length (s16.map Stowed.av)),(1026,.iter (DM Slot.kv Box.av m.on) m.on.l.length i16)]) [] (Gc8.start h hp) ⟨(.sm O O),⟨⟨_,O,.vec⟩,⟨_,O,.iter O⟩,G⟩,O⟩ ?_
 clear h hp
 intro i16 s16 hi16 K16 e16
 refine Jr fun hK17=>Zq O O O (Hf8 (kv:=Slot.kv) (av:=Box.av) (m:=m.on) (fun _=>O) O O O .data) ?_
 intro u_ L_ hn_
 rcases hn_ with ⟨q16,x16,he16,hs16,rfl,rfl⟩ | ⟨ha16,rfl,rfl⟩
 ·
  obtain⟨o16,h,ho1_16,ho2_16⟩:=hi16.step he16 hs16
  replace h:=Q9b hb16 h
  refine JLh (BL true) (Gz O O O) O (G5 (hK17 (Js fun hK18=>J31 O (Gr (hK18 (Gw ?_))))))
  refine Jr fun hK19=>(JLh (.tup [.agg (Slot.cs x16.1),.agg (Box.cs x16.2)]) (J85 (kv:=Slot.kv) (av:=Box.av) (m:=m.on) (q:=q16) (seen:=i16) (e:=x16) (fun _=>O) O O O .data he16) O (JLh (.agg (Slot.cs x16.1)) (Gz O O O) O (JLh (.agg (Box.cs x16.2)) (Gz O O O) O (JLh (.ptr 1024 0) (Hp 1024 3 Z4 O O) O (JLh (.ptr 1025 0) (Hp 1025 9 Qt O O) O (Ho (u:=.junk) (Hc (u:=.agg (Slot.cs x16.1)) (ds:=[I64 x16.1.G2,I64 x16.1.Tier,U8 x16.1.Half]) Zr O O O O O O O O) (Ho (u:=.junk) (Hc (u:=.agg (Box.cs x16.2)) (ds:=(Box.cs x16.2)) Rq O O O O O O O O) (G5 (hK19 ?_)))))))))
  refine Gm [(3,.vec 1023 s16.length 4 s16.length),(4,Ek x16.1),(5,.ptr 1025 0),(13,.it 1026)] [(1023,.vec 55 4 s16.length (s16.map Stowed.av)),(1026,.iter (DM Slot.kv Box.av m.on) m.on.l.length (i16++[q16])),(1025,.box 60 (Box.cs x16.2))] 1024 rfl rfl rfl ⟨⟨_,rfl,.vec⟩,⟨_,rfl,.iter rfl⟩,⟨_,rfl,.boxEq rfl rfl⟩,G⟩ rfl (by repeat' (first | exact .ptr | constructor)) ?_
  refine Gm [(3,.vec 1023 s16.length 4 s16.length),(4,Ek x16.1),(5,Eh x16.2),(13,.it 1026)] [(1023,.vec 55 4 s16.length (s16.map Stowed.av)),(1026,.iter (DM Slot.kv Box.av m.on) m.on.l.length (i16++[q16]))] 1025 rfl rfl rfl ⟨⟨_,rfl,.vec⟩,⟨_,rfl,.iter rfl⟩,G⟩ rfl (by repeat' (first | exact .ptr | constructor)) (G1 ?_)
  refine JLm (.vec 1023 s16.length 4 s16.length) O (JLh (Eh x16.2) (G9 Rc O O O) O (JLh (I64 x16.2.ID) (Gg Gc O O O) O (JLh (.agg (Slot.cs x16.1)) (Gi Hu O O O) O (JLh (.agg [I64 x16.2.ID,I64 x16.1.G2,I64 x16.1.Tier,U8 x16.1.Half]) (Hb (cs:=[I64 x16.2.ID,I64 x16.1.G2,I64 x16.1.Tier,U8 x16.1.Half]) [(0,1),(1,3)] [I64 0,I64 0,I64 0,U8 0] [E0,E0,E0,.int .u8 0] Rr Z1 ⟨.inl O,.inl O,.inl O,.inl O,G⟩ O O) O (JLh (E6 [(Stowed.mk x16.2.ID x16.1)]) (H8 (xs:=[.agg [I64 x16.2.ID,I64 x16.1.G2,I64 x16.1.Tier,U8 x16.1.Half]]) O ⟨O,O,G⟩ H3 Jw O O O O) O ?_)))))
  obtain⟨ha20,h⟩:=J7 h
  refine JLh (.vec 1023 ((s16++[(Stowed.mk x16.2.ID x16.1)]).length) 4 ((s16++[(Stowed.mk x16.2.ID x16.1)]).length)) (G67 (f:=Stowed.av) (xs:=s16) (ys:=[(Stowed.mk x16.2.ID x16.1)]) (ver:=s16.length) (ver1:=(s16++[(Stowed.mk x16.2.ID x16.1)]).length) rfl rfl rfl rfl H3 G22 ha20 (fun _=>rfl) (.inl rfl) (by simp)) O (JLm (.vec 1023 ((s16++[(Stowed.mk x16.2.ID x16.1)]).length) 4 ((s16++[(Stowed.mk x16.2.ID x16.1)]).length)) O (G5 (e16 _ _ (i16++[q16]) (s16++[(Stowed.mk x16.2.ID x16.1)]) (ho2_16 _ (Option.some.inj h).symm) (Ga4 (List.getElem?_eq_some_iff.1 he16).1 hs16) ⟨(.sm O O),⟨⟨_,O,.vec⟩,⟨_,O,.iter O⟩,G⟩,O⟩)))
 ·
  obtain⟨p_,h,hp⟩:=hi16.done ha16
  replace h:=app1 hkx16 h
  refine JLh (BL false) (Gz O O O) O (G5 (hK17 (Js fun hK21=>G27 O (Je (hK6 (Jr fun hK22=>(JLm (.vec 1023 s16.length 4 s16.length) O ?_)))))))
  obtain⟨r23,hr23,h⟩:=Ga h
  refine JLh (.tup []) (Y38 (f:=Stowed.av) (cmp:=(fun z0 z1=>Y6 z0 z1)) (xs:=s16) (r:=r23) Stowed.vs O Q71 Q06 (fun _=>O) (fun _=>O) (fun _=>Y97 O) Q63 Q62 O O O O O hr23 (fun z0 z1 q hq=>H48 z0 z1 q hq) O) O (G5 (hK22 (Jr fun hK24=>(JLm (.vec 1023 s16.length 4 s16.length) O (JLm (.vec 1023 s16.length 4 s16.length) O (G5 (hK24 (Qbb [(2,E6 r23)] [] 1023 rfl rfl G rfl (by exact⟨.vec,G⟩) (Gq (⟨[E6 r23],[],G,O,⟨⟨_,O,.conv (.same O)⟩,G⟩,O,r23,Eq.mpr (Option.some.inj h) hp,O⟩))))))))))
theorem Jb7 (S_:(Gb)→Option (List Stowed)) (hS_:∀ m r,S_ m=some r→∃ p:Prop,G0f m (fun r_=>r_=r)=some p∧p) (m:Gb) (r:(List Stowed)) (h:S_ m=some r):Pure Eo 10 [.dptr (Gb.cs m)] (·=E6 r):=by
 obtain⟨p,h1,h2⟩:=hS_ m r h
 exact(Jb6 m _ p h1 h2).monoP (fun av hh=>by obtain⟨r_,rfl,ha⟩:=hh; exact ha)

def Qp (m:Gb):Option (List Int):=
 bnd (G47 m.quay) fun r6=>
 bnd (Yn (Gt.keys m.quay)) fun r7=>
 some r7
theorem Gd2 (m:Gb) (r:(List Int)) (h:Qp m=some r):Pure Eo 11 [.dptr (Gb.cs m)] (·=E2 r):=by
 unfold Qp at h
 refine Gy [.tmp 2] Tryz.func11 O O (Jr fun hK1=>(JLh (E2 ([]:List Int)) (Hk 1 O O) O (G5 (hK1 (Js fun hK2=>Jr fun hK3=>(JLm (Ef m) O (JLh (BL true) (Gs O (Yo m true O) G86 ⟨O,O,G⟩) O (JLh (BL false) (Qx (b:=true) O O) O (G5 (hK3 (G27 O (Gr (hK2 (Jr fun hK5=>(JLm (Ef m) O (JLh (Ef m) (G68 O O) O (JLh (.dptr ((Gb.cs m).drop 14)) (G9 G1c O O O) O (JLh (DM (fun n:Int=>Value.int .i64 n) Box.av m.quay) (Gg G15 O O O) O ?_))))))))))))))))))
 obtain⟨r6,hr6,h⟩:=Ga h
 refine JLh (.fn 101 [.dptr [DM (fun n:Int=>Value.int .i64 n) Box.av m.quay]]) (Gs O (G9f m.quay r6 hr6) Q61 ⟨O,O,G⟩) O ?_
 obtain⟨r7,hr7,h⟩:=Ga h
 refine JLh (E2 r7) (Gs O (Gfe.down (Gt.keys m.quay) 101 [.dptr [DM (fun n:Int=>Value.int .i64 n) Box.av m.quay]] Jff O (G6f m.quay) r7 hr7) Hd3 ⟨O,O,G⟩) O (JLm (E2 r7) O (G5 (hK5 (Gq (fin1 (fun r:(List Int)=>(E2 r:AV)) h)))))

def Rw (m:Gb):Option (List Int):=
 bnd (G7b m.open_) fun r6=>
 bnd (Yn (Gt.keys m.open_)) fun r7=>
 some r7
theorem J80 (m:Gb) (Rp:(List Stowed)→Prop) (p:Prop) (h:G0f m Rp=some p) (hp:p):Jg Eo 10 [.dptr (Gb.cs m)] [] (fun av L'=>∃ p:Nat,∃ r,Rp r∧av=.vec 1023 p 4 r.length∧L'=[(1023,.vec 55 4 p (r.map Stowed.av))]):=by
 unfold G0f at h
 refine Q9 [] [.tmp 2] Tryz.func10 O O (G4e O) (Jr fun hK1=>(JLh (.vec 1022 (([]:List Stowed).length) 4 (([]:List Stowed).length)) (H44 1022 55 4 O O O) O (G5 (hK1 (Js fun hK2=>Jr fun hK3=>(JLm (Ef m) O (JLh (BL true) (Gs O (Yo m true O) G86 ⟨O,O,G⟩) O (JLh (BL false) (Qx (b:=true) O O) O (G5 (hK3 (G27 O (Gr (hK2 (Jr fun hK5=>(JLh (.vec 1023 (([]:List Stowed).length) 4 (([]:List Stowed).length)) (H44 1023 55 4 O O O) O (G5 (hK5 (Js fun hK6=>?_))))))))))))))))))
 refine Jr fun hK7=>(JLm (Ef m) O (JLh (Ef m) (G68 O O) O (JLh (.dptr ((Gb.cs m).drop 13)) (G9 Ye O O O) O (JLh (DM Slot.kv Box.av m.on) (Gg Yh O O O) O (JLh (.it 1026) (H87 1026 (kv:=Slot.kv) (av:=Box.av) (m:=m.on) O O .data O G4a) O (G5 (hK7 (Gw ?_))))))))
 obtain⟨b16,kx16,hb16,hkx16,h⟩:=H28 h
 refine J30 (m.on.l.length) (fun i16 (s16:(List Stowed))=>Gc8 b16 kx16 (Gt.l m.on) i16 s16) (fun i16 s16=>[(3,.vec 1023 s16.length 4 s16.length),(13,.it 1026)]) (fun i16 s16=>[(1022,.vec 55 4 (([]:List Stowed).length) (([]:List Stowed).map Stowed.av)),(1023,.vec 55 4 s16.length (s16.map Stowed.av)),(1026,.iter (DM Slot.kv Box.av m.on) m.on.l.length i16)]) [] (Gc8.start h hp) ⟨(.sm O O),⟨⟨_,O,.vec⟩,⟨_,O,.vec⟩,⟨_,O,.iter O⟩,G⟩,O⟩ ?_
 clear h hp
 intro i16 s16 hi16 K16 e16
 refine Jr fun hK17=>Zq O O O (Hf8 (kv:=Slot.kv) (av:=Box.av) (m:=m.on) (fun _=>O) O O O .data) ?_
 intro u_ L_ hn_
 rcases hn_ with ⟨q16,x16,he16,hs16,rfl,rfl⟩ | ⟨ha16,rfl,rfl⟩
 ·
  obtain⟨o16,h,ho1_16,ho2_16⟩:=hi16.step he16 hs16
  replace h:=Q9b hb16 h
  refine JLh (BL true) (Gz O O O) O (G5 (hK17 (Js fun hK18=>J31 O (Gr (hK18 (Gw ?_))))))
  refine Jr fun hK19=>(JLh (.tup [.agg (Slot.cs x16.1),.agg (Box.cs x16.2)]) (J85 (kv:=Slot.kv) (av:=Box.av) (m:=m.on) (q:=q16) (seen:=i16) (e:=x16) (fun _=>O) O O O .data he16) O (JLh (.agg (Slot.cs x16.1)) (Gz O O O) O (JLh (.agg (Box.cs x16.2)) (Gz O O O) O (JLh (.ptr 1024 0) (Hp 1024 3 Z4 O O) O (JLh (.ptr 1025 0) (Hp 1025 9 Qt O O) O (Ho (u:=.junk) (Hc (u:=.agg (Slot.cs x16.1)) (ds:=[I64 x16.1.G2,I64 x16.1.Tier,U8 x16.1.Half]) Zr O O O O O O O O) (Ho (u:=.junk) (Hc (u:=.agg (Box.cs x16.2)) (ds:=(Box.cs x16.2)) Rq O O O O O O O O) (G5 (hK19 ?_)))))))))
  refine Gm [(3,.vec 1023 s16.length 4 s16.length),(4,Ek x16.1),(5,.ptr 1025 0),(13,.it 1026)] [(1022,.vec 55 4 (([]:List Stowed).length) (([]:List Stowed).map Stowed.av)),(1023,.vec 55 4 s16.length (s16.map Stowed.av)),(1026,.iter (DM Slot.kv Box.av m.on) m.on.l.length (i16++[q16])),(1025,.box 60 (Box.cs x16.2))] 1024 rfl rfl rfl ⟨⟨_,rfl,.vec⟩,⟨_,rfl,.vec⟩,⟨_,rfl,.iter rfl⟩,⟨_,rfl,.boxEq rfl rfl⟩,G⟩ rfl (by repeat' (first | exact .ptr | constructor)) ?_
  refine Gm [(3,.vec 1023 s16.length 4 s16.length),(4,Ek x16.1),(5,Eh x16.2),(13,.it 1026)] [(1022,.vec 55 4 (([]:List Stowed).length) (([]:List Stowed).map Stowed.av)),(1023,.vec 55 4 s16.length (s16.map Stowed.av)),(1026,.iter (DM Slot.kv Box.av m.on) m.on.l.length (i16++[q16]))] 1025 rfl rfl rfl ⟨⟨_,rfl,.vec⟩,⟨_,rfl,.vec⟩,⟨_,rfl,.iter rfl⟩,G⟩ rfl (by repeat' (first | exact .ptr | constructor)) (G1 ?_)
  refine JLm (.vec 1023 s16.length 4 s16.length) O (JLh (Eh x16.2) (G9 Rc O O O) O (JLh (I64 x16.2.ID) (Gg Gc O O O) O (JLh (.agg (Slot.cs x16.1)) (Gi Hu O O O) O (JLh (.agg [I64 x16.2.ID,I64 x16.1.G2,I64 x16.1.Tier,U8 x16.1.Half]) (Hb (cs:=[I64 x16.2.ID,I64 x16.1.G2,I64 x16.1.Tier,U8 x16.1.Half]) [(0,1),(1,3)] [I64 0,I64 0,I64 0,U8 0] [E0,E0,E0,.int .u8 0] Rr Z1 ⟨.inl O,.inl O,.inl O,.inl O,G⟩ O O) O (JLh (E6 [(Stowed.mk x16.2.ID x16.1)]) (H8 (xs:=[.agg [I64 x16.2.ID,I64 x16.1.G2,I64 x16.1.Tier,U8 x16.1.Half]]) O ⟨O,O,G⟩ H3 Jw O O O O) O ?_)))))
  obtain⟨ha20,h⟩:=J7 h
  refine JLh (.vec 1023 ((s16++[(Stowed.mk x16.2.ID x16.1)]).length) 4 ((s16++[(Stowed.mk x16.2.ID x16.1)]).length)) (G67 (f:=Stowed.av) (xs:=s16) (ys:=[(Stowed.mk x16.2.ID x16.1)]) (ver:=s16.length) (ver1:=(s16++[(Stowed.mk x16.2.ID x16.1)]).length) rfl rfl rfl rfl H3 G22 ha20 (fun _=>rfl) (.inl rfl) (by simp)) O (JLm (.vec 1023 ((s16++[(Stowed.mk x16.2.ID x16.1)]).length) 4 ((s16++[(Stowed.mk x16.2.ID x16.1)]).length)) O (G5 (e16 _ _ (i16++[q16]) (s16++[(Stowed.mk x16.2.ID x16.1)]) (ho2_16 _ (Option.some.inj h).symm) (Ga4 (List.getElem?_eq_some_iff.1 he16).1 hs16) ⟨(.sm O O),⟨⟨_,O,.vec⟩,⟨_,O,.vec⟩,⟨_,O,.iter O⟩,G⟩,O⟩)))
 ·
  obtain⟨p_,h,hp⟩:=hi16.done ha16
  replace h:=app1 hkx16 h
  refine JLh (BL false) (Gz O O O) O (G5 (hK17 (Js fun hK21=>G27 O (Je (hK6 (Jr fun hK22=>(JLm (.vec 1023 s16.length 4 s16.length) O ?_)))))))
  obtain⟨r23,hr23,h⟩:=Ga h
  refine JLh (.tup []) (Y38 (f:=Stowed.av) (cmp:=(fun z0 z1=>Y6 z0 z1)) (xs:=s16) (r:=r23) Stowed.vs O Q71 Q06 (fun _=>O) (fun _=>O) (fun _=>Y97 O) Q63 Q62 O O O O O hr23 (fun z0 z1 q hq=>H48 z0 z1 q hq) O) O (G5 (hK22 (Jr fun hK24=>(JLm (.vec 1023 s16.length 4 s16.length) O (JLm (.vec 1023 s16.length 4 s16.length) O (G5 (hK24 (G81 2 O O (fun hn_=>Gq (⟨[.vec 1023 s16.length 4 s16.length],[(1023,.vec 55 4 s16.length (r23.map Stowed.av))],⟨⟨_,O,.vec⟩,G⟩,O,⟨⟨_,O,.conv (.same O)⟩,G⟩,s16.length,r23,Eq.mpr (Option.some.inj h) hp,congrArg (fun n_:Nat=>(.vec 1023 s16.length 4 n_:AV)) (hn_.trans (List.length_map _)),O⟩))))))))))
theorem J7f (S_:(Gb)→Option (List Stowed)) (hS_:∀ m r,S_ m=some r→∃ p:Prop,G0f m (fun r_=>r_=r)=some p∧p) (m:Gb) (r:(List Stowed)) (h:S_ m=some r):Jg Eo 10 [.dptr (Gb.cs m)] [] (fun av L'=>∃ p:Nat,av=.vec 1023 p 4 r.length∧L'=[(1023,.vec 55 4 p (r.map Stowed.av))]):=by
 obtain⟨p,h1,h2⟩:=hS_ m r h
 exact(J80 m _ p h1 h2).mono (fun av L hh=>by obtain⟨q,r_,rfl,ha,hb⟩:=hh; exact⟨q,ha,hb⟩)


theorem G65 (m:Gb) (r:(List Int)) (h:Qp m=some r):Jg Eo 11 [.dptr (Gb.cs m)] [] (fun av L'=>∃ p:Nat,av=.vec 1186 p 1 r.length∧L'=[(1186,.vec 3 1 p (r.map I64))]):=by
 unfold Qp at h
 refine Q9 [] [.tmp 2] Tryz.func11 O O (G4e O) (Jr fun hK1=>(JLh (.vec 1027 (([]:List Int).length) 1 (([]:List Int).length)) (H44 1027 3 1 O O O) O (G5 (hK1 (Js fun hK2=>Jr fun hK3=>(JLm (Ef m) O (JLh (BL true) (Gs O (Yo m true O) G86 ⟨O,O,G⟩) O (JLh (BL false) (Qx (b:=true) O O) O (G5 (hK3 (G27 O (Gr (hK2 (Jr fun hK5=>(JLm (Ef m) O (JLh (Ef m) (G68 O O) O (JLh (.dptr ((Gb.cs m).drop 14)) (G9 G1c O O O) O (JLh (DM (fun n:Int=>Value.int .i64 n) Box.av m.quay) (Gg G15 O O O) O ?_))))))))))))))))))
 obtain⟨r6,hr6,h⟩:=Ga h
 refine JLh (.fn 101 [.dptr [DM (fun n:Int=>Value.int .i64 n) Box.av m.quay]]) (Gs O (G9f m.quay r6 hr6) Q61 ⟨O,O,G⟩) O ?_
 obtain⟨r7,hr7,h⟩:=Ga h
 refine Zq O O O (Qc5 (args:=[.fn 101 [.dptr [DM (fun n:Int=>Value.int .i64 n) Box.av m.quay]]]) (L0:=[]) (u:=fun p=>.vec 1186 p 1 r7.length) (Lr:=fun p=>[(1186,.vec 3 1 p (r7.map I64))]) O (Gff.down (Gt.keys m.quay) 101 [.dptr [DM (fun n:Int=>Value.int .i64 n) Box.av m.quay]] Jff O (G6f m.quay) r7 hr7) Hd3 ⟨.inl O,O,G⟩ G O (fun _=>O)) ?_
 rintro u_ L_ ⟨v8,rfl,rfl⟩
 refine JLm (.vec 1186 v8 1 r7.length) O (G5 (hK5 (G81 2 O O (fun hn_=>Gq ?_))))
 obtain rfl:=Option.some.inj h
 exact⟨[.vec 1186 v8 1 r7.length],[(1186,.vec 3 1 v8 (r7.map I64))],⟨⟨_,O,.vec⟩,G⟩,O,⟨⟨_,O,.conv (.same O)⟩,G⟩,v8,congrArg (fun n_:Nat=>(.vec 1186 v8 1 n_:AV)) (hn_.trans (List.length_map _)),O⟩


theorem G54 (m:Gb) (r:(List Int)) (h:Rw m=some r):Jg Eo 18 [.dptr (Gb.cs m)] [] (fun av L'=>∃ p:Nat,av=.vec 1186 p 1 r.length∧L'=[(1186,.vec 3 1 p (r.map I64))]):=by
 unfold Rw at h
 refine Q9 [] [.tmp 2] Tryz.func18 O O (G4e O) (Jr fun hK1=>(JLh (.vec 1043 (([]:List Int).length) 1 (([]:List Int).length)) (H44 1043 3 1 O O O) O (G5 (hK1 (Js fun hK2=>Jr fun hK3=>(JLm (Ef m) O (JLh (BL true) (Gs O (Yo m true O) G86 ⟨O,O,G⟩) O (JLh (BL false) (Qx (b:=true) O O) O (G5 (hK3 (G27 O (Gr (hK2 (Jr fun hK5=>(JLm (Ef m) O (JLh (Ef m) (G68 O O) O (JLh (.dptr ((Gb.cs m).drop 15)) (G9 G71 O O O) O (JLh (DM (fun n:Int=>Value.int .i64 n) I64 m.open_) (Gg G5e O O O) O ?_))))))))))))))))))
 obtain⟨r6,hr6,h⟩:=Ga h
 refine JLh (.fn 104 [.dptr [DM (fun n:Int=>Value.int .i64 n) I64 m.open_]]) (Gs O (Ge5 m.open_ r6 hr6) Q5e ⟨O,O,G⟩) O ?_
 obtain⟨r7,hr7,h⟩:=Ga h
 refine Zq O O O (Qc5 (args:=[.fn 104 [.dptr [DM (fun n:Int=>Value.int .i64 n) I64 m.open_]]]) (L0:=[]) (u:=fun p=>.vec 1186 p 1 r7.length) (Lr:=fun p=>[(1186,.vec 3 1 p (r7.map I64))]) O (Gff.down (Gt.keys m.open_) 104 [.dptr [DM (fun n:Int=>Value.int .i64 n) I64 m.open_]] Jfe O (Gb7 m.open_) r7 hr7) Hd3 ⟨.inl O,O,G⟩ G O (fun _=>O)) ?_
 rintro u_ L_ ⟨v8,rfl,rfl⟩
 refine JLm (.vec 1186 v8 1 r7.length) O (G5 (hK5 (G81 2 O O (fun hn_=>Gq ?_))))
 obtain rfl:=Option.some.inj h
 exact⟨[.vec 1186 v8 1 r7.length],[(1186,.vec 3 1 v8 (r7.map I64))],⟨⟨_,O,.vec⟩,G⟩,O,⟨⟨_,O,.conv (.same O)⟩,G⟩,v8,congrArg (fun n_:Nat=>(.vec 1186 v8 1 n_:AV)) (hn_.trans (List.length_map _)),O⟩

def Gad (l:List Stowed):Option (List Slot):=
 each (fun y17 i17 (s17:(List Slot)) nx17=>
  need (decide ((s17.length+[y17.Slot].length)*24≤140737488355328∧s17.length+[y17.Slot].length≤maxLen)) <|
  nx17 (s17++[y17.Slot]))
 (fun(s17:(List Slot))=>
  some s17) l 0 []
theorem J2d (l:List Stowed) (r:(List Slot)) (h:Gad l=some r):Pure Eo 72 [E6 l] (·=E9 r):=by
 unfold Gad at h
 refine Gy [.tmp 2] Tryz.func72 O O (Jr fun hK1=>(JLh (E9 ([]:List Slot)) (Hk 3 O O) O (G5 (hK1 (Jr fun hK2=>(JLh (OW 1129 3 Slot.av ([]:List Slot)) (G57 1129 43 3 O O O) O (G5 (hK2 (Js fun hK3=>Jr fun hK4=>(JLm (E6 l) O (JLl H3 O O O fun hm7=>(JLm (I64 0) O (G5 (hK4 (Gw ?_)))))))))))))))
 obtain⟨b17,kx17,hb17,hkx17,h⟩:=Jx h
 refine Jb (fun i17 (s17:(List Slot))=>each b17 kx17 (List.drop i17 l) i17 s17=some r) (fun i17 s17=>[(3,OW 1129 3 Slot.av s17),(6,E6 l),(7,En l.length),(8,En i17)]) (fun i17 s17=>[(1129,.spare 43 3 s17.length s17.length)]) (fun i17=>l.length - i17) 0 [] h ⟨(.sm O O),⟨⟨_,rfl,.same⟩,G⟩,rfl⟩ ?_
 clear h
 intro i17 s17 hi17 K17 e17
 refine Jr fun hK18=>(JLh (BL (decide ((i17:Int) < (l.length:Int)))) (Qg O O O) O (G5 (hK18 (Js fun hK19=>Gn O (fun hb=>?_) (fun hb=>?_)))))
 ·
  have hk17:=Qr hb
  obtain⟨y17,nx17,hy17,hn17,h⟩:=J9 hi17 hk17
  replace h:=G17 hb17 h
  refine Gr (hK19 (Js fun hK20=>Gw (Jr fun hK21=>(JLh (Ei y17) (Hf (f:=Stowed.av) (xs:=l) (y:=y17) O O O H3 hy17 O) O (JLh (.agg (Stowed.cs y17)) (Gi R3 O O O) O (JLh (.ptr 1130 0) (Hp 1130 4 Jw O O) O (Ho (u:=.junk) (Hc (u:=.agg (Stowed.cs y17)) (ds:=[I64 y17.Box,I64 y17.Slot.G2,I64 y17.Slot.Tier,U8 y17.Slot.Half]) G0b O O O O O O O O) (G5 (hK21 (Gm [(3,OW 1129 3 Slot.av s17),(5,Ei y17),(6,E6 l),(7,En l.length),(8,En i17)] [(1129,.spare 43 3 s17.length s17.length)] 1130 rfl rfl rfl ⟨⟨_,rfl,.same⟩,G⟩ rfl (by repeat' (first | exact .ptr | constructor)) (G1 ?_)))))))))))
  refine JLm (OW 1129 3 Slot.av s17) O (JLh (.dptr ((Stowed.cs y17).drop 1)) (G9 Jn O O O) O (JLh (.agg ((Stowed.cs y17).drop 1)) (Gi Hu O O O) O (JLh (E9 [y17.Slot]) (H8 (xs:=[.agg ((Stowed.cs y17).drop 1)]) O ⟨O,O,G⟩ Ro Z4 O O O O) O ?_)))
  obtain⟨ha22,h⟩:=J7 h
  refine JLh (OW 1129 3 Slot.av (s17++[y17.Slot])) (Qk (f:=Slot.av) (xs:=s17) (ys:=[y17.Slot]) O O O O Ro J64 ha22 (fun _=>O) (.inl O) O) O (JLm (OW 1129 3 Slot.av (s17++[y17.Slot])) O (G5 (hK20 (G1 (JLh (I64 ((i17+1:Nat):Int)) (Jf (J6 hk17 hm7) O O O) O (JLm (I64 ((i17+1:Nat):Int)) O (G5 (e17 _ _ (i17+1) (s17++[y17.Slot]) (app1 hn17 h) (by omega) ⟨(.sm O O),⟨⟨_,rfl,.same⟩,G⟩,rfl⟩))))))))
 ·
  have h:=app1 hkx17 (Ja hi17 (Hs hb))
  refine Je (hK3 (Jr fun hK23=>(JLm (OW 1129 3 Slot.av s17) O (JLm (OW 1129 3 Slot.av s17) O (G5 (hK23 (Gq (fin1l (fun r:(List Slot)=>(E9 r:AV)) h))))))))

def H2f (b:Box):Option Int:=
 bif b.High then
 (some 2896)
 else
 (some 2591)
theorem Qd5 (b:Box) (r:Int) (h:H2f b=some r):Pure Eo 156 [.agg (Box.cs b)] (·=I64 r):=by
 unfold H2f at h
 refine Gy [.tmp 2] Tryz.func156 O O (Jr fun hK1=>(JLh (.ptr 1194 0) (Jk (cs:=(Box.cs b)) 1194 O O O O O) O (JLm (I64 0) O (G5 (hK1 (Gm [(1,Eh b)] [] 1194 rfl rfl rfl G rfl (by exact⟨.ptr,G⟩) (Js fun hK2=>Jr fun hK3=>(JLh (.dptr ((Box.cs b).drop 3)) (G9 H17 O O O) O (JLh (BL b.High) (Gg Q1 O O O) O (G5 (hK3 (JCc O h (fun h hb=>?_) (fun h hb=>?_)))))))))))))
 ·
  refine Jr fun hK4=>(JLm (I64 2896) O (G5 (hK4 (Gq (fin1 I64 h)))))
 ·
  refine Gr (hK2 (Jr fun hK5=>(JLm (I64 2591) O (G5 (hK5 (Gq (fin1 I64 h)))))))

def G78 (boxes:List Box) (l:List Stowed) (column:Int) (half:Int):Option Int:=
 each (fun y27 i27 (s27:Int) nx27=>
  jp (fun kj30=>
   bif ((decide (y27.Slot.G2=column))&&((decide (y27.Slot.Half=half))||(decide (y27.Slot.Half=0)))) then
   (bnd (G38 boxes y27.Box) fun r34=>
    bif r34.2 then
    (bnd (H2f r34.1) fun r36=>
     chk (s27+r36) fun v37=>
     kj30 v37)
    else
    (kj30 s27))
   else
   (kj30 s27)) fun(j30:Int)=>
  nx27 j30)
 (fun(s27:Int)=>
  some s27) l 0 0
theorem Hfc (boxes:List Box) (l:List Stowed) (column:Int) (half:Int) (r:Int) (h:G78 boxes l column half=some r):Pure Eo 129 [E8 boxes,E6 l,I64 column,U8 half] (·=I64 r):=by
 unfold G78 at h
 refine Gy [.tmp 8] Tryz.func129 O O (Jr fun hK1=>(JLm (I64 0) O (G5 (hK1 (Jr fun hK2=>(JLm (I64 0) O (G5 (hK2 (Js fun hK3=>Jr fun hK4=>(JLm (E6 l) O (JLl H3 O O O fun hm15=>(JLm (I64 0) O (G5 (hK4 (Gw ?_)))))))))))))))
 obtain⟨b27,kx27,hb27,hkx27,h⟩:=Jx h
 refine Jb (fun i27 (s27:Int)=>each b27 kx27 (List.drop i27 l) i27 s27=some r) (fun i27 s27=>[(0,E8 boxes),(2,I64 column),(3,U8 half),(9,I64 s27),(14,E6 l),(15,En l.length),(16,En i27)]) (fun i27 s27=>[]) (fun i27=>l.length - i27) 0 0 h ⟨(.sm O O),G,rfl⟩ ?_
 clear h
 intro i27 s27 hi27 K27 e27
 refine Jr fun hK28=>(JLh (BL (decide ((i27:Int) < (l.length:Int)))) (Qg O O O) O (G5 (hK28 (Js fun hK29=>Gn O (fun hb=>?_) (fun hb=>?_)))))
 ·
  have hk27:=Qr hb
  obtain⟨y27,nx27,hy27,hn27,h⟩:=J9 hi27 hk27
  replace h:=G17 hb27 h
  refine Gr (hK29 ?_)
  obtain⟨kj30,hkj30,h⟩:=Yu h
  refine Rg (fun j30:Int=>kj30 j30=some r) (fun j30=>[(0,E8 boxes),(2,I64 column),(3,U8 half),(9,I64 j30),(14,E6 l),(15,En l.length),(16,En i27)]) (fun j30=>[]) (fun Kj30 ej30=>?_) ?_
  ·
   refine Gw (Jr fun hK31=>(JLh (Ei y27) (Hf (f:=Stowed.av) (xs:=l) (y:=y27) O O O H3 hy27 O) O (JLh (.agg (Stowed.cs y27)) (Gi R3 O O O) O (JLh (.ptr 1176 0) (Hp 1176 4 Jw O O) O (Ho (u:=.junk) (Hc (u:=.agg (Stowed.cs y27)) (ds:=[I64 y27.Box,I64 y27.Slot.G2,I64 y27.Slot.Tier,U8 y27.Slot.Half]) G0b O O O O O O O O) (G5 (hK31 (Gm [(0,E8 boxes),(2,I64 column),(3,U8 half),(9,I64 s27),(11,Ei y27),(14,E6 l),(15,En l.length),(16,En i27)] [] 1176 rfl rfl rfl G rfl (by repeat' (first | exact .ptr | constructor)) ?_))))))))
   refine Jr fun hK32=>(JLh (.dptr ((Stowed.cs y27).drop 1)) (G9 Jn O O O) O (JLh (.dptr ((Stowed.cs y27).drop 1)) (G9 Jc O O O) O (JLh (I64 y27.Slot.G2) (Gg Gc O O O) O (JLm (I64 column) O (JLh (BL (decide (y27.Slot.G2=column))) (Q0 O O O) O (JLm (BL (decide (y27.Slot.G2=column))) O (JLo (.dptr ((Stowed.cs y27).drop 1)) [] O .sct G (fun hc=>G9 Jn O O O) O (JLo (.dptr [U8 y27.Slot.Half]) [26] O .sct ⟨Ua,G⟩ (fun hc=>G9 Re O O O) O (JLo (U8 y27.Slot.Half) [27] O .sct ⟨Ua,G⟩ (fun hc=>Gg Hn O O O) O (JLo (U8 half) [] O .sct G (fun hc=>G6 O O) O (JLo (BL (decide (y27.Slot.Half=half))) [28,29] O .sct ⟨Ua,Ua,G⟩ (fun hc=>Q0 O O O) O (JLo (BL (decide (y27.Slot.Half=half))) [30] O .sct ⟨Ua,G⟩ (fun hc=>G6 O O) O (JLo (.dptr ((Stowed.cs y27).drop 1)) [] O .optf G (fun hc=>G9 Jn O O O) O ?_)))))))))))))
   refine JLo (.dptr [U8 y27.Slot.Half]) [32] O .optf ⟨Ua,G⟩ (fun hc=>G9 Re O O O) O (JLo (U8 y27.Slot.Half) [33] O .optf ⟨Ua,G⟩ (fun hc=>Gg Hn O O O) O (JLo (BL (decide (y27.Slot.Half=0))) [34] O .optf ⟨Ua,G⟩ (fun hc=>Q0 O O O) O (Gf (u:=BL ((decide (y27.Slot.Half=half))||(decide (y27.Slot.Half=0)))) [(31,BL (decide (y27.Slot.Half=half))),(35,_)] O O O .sct ⟨.all id,.part,G⟩ (fun hc=>G28 O O O O) ?_)))
   refine JLh (BL ((decide (y27.Slot.G2=column))&&((decide (y27.Slot.Half=half))||(decide (y27.Slot.Half=0))))) (Rm O O O O) O (G5 (hK32 (JCc O h (fun h hb=>?_) (fun h hb=>?_))))
   ·
    refine Jr fun hK33=>(JLm (E8 boxes) O (JLh (Ei y27) (G9 Jm O O O) O (JLh (I64 y27.Box) (Gg Gc O O O) O ?_)))
    obtain⟨r34,hr34,h⟩:=Ga h
    refine JLh (.tup [.agg (Box.cs r34.1),BL r34.2]) (Gs O (Gc4 boxes y27.Box r34 hr34) H64 ⟨O,O,O,O,G⟩) O (JLm (.tup [.agg (Box.cs r34.1),BL r34.2]) O (JLh (.agg (Box.cs r34.1)) (Gz O O O) O (JLh (BL r34.2) (Gz O O O) O (JLh (.ptr 1177 0) (Hp 1177 9 Qt O O) O (Ho (u:=.junk) (Hc (u:=.agg (Box.cs r34.1)) (ds:=(Box.cs r34.1)) Rq O O O O O O O O) (JLm (BL r34.2) O (G5 (hK33 ?_))))))))
    refine Gm [(0,E8 boxes),(2,I64 column),(3,U8 half),(9,I64 s27),(12,Eh r34.1),(13,BL r34.2),(14,E6 l),(15,En l.length),(16,En i27)] [] 1177 rfl rfl rfl G rfl (by repeat' (first | exact .ptr | constructor)) (Jr fun hK35=>(JLm (BL r34.2) O (G5 (hK35 (JCc O h (fun h hb=>?_) (fun h hb=>?_))))))
    ·
     refine G1 (JLm (I64 s27) O (JLh (.agg (Box.cs r34.1)) (Gi Yj O O O) O ?_))
     obtain⟨r36,hr36,h⟩:=Ga h
     refine JLh (I64 r36) (Gs O (Qd5 r34.1 r36 hr36) R4b ⟨O,O,G⟩) O ?_
     obtain⟨v37,hv37,h⟩:=Jd h
     refine JLh (I64 v37) (Jf hv37 O O O) O (JLm (I64 v37) O (G5 (ej30 _ _ v37 h ⟨(.sm O O),G,rfl⟩)))
    ·
     refine Gr (ej30 _ _ s27 h ⟨(.sm O O),G,rfl⟩)
   ·
    refine Gr (ej30 _ _ s27 h ⟨(.sm O O),G,rfl⟩)
  ·intro j30 h
   replace h:=app1 hkj30 h
   refine G1 (JLh (I64 ((i27+1:Nat):Int)) (Jf (J6 hk27 hm15) O O O) O (JLm (I64 ((i27+1:Nat):Int)) O (G5 (e27 _ _ (i27+1) j30 (app1 hn27 h) (by omega) ⟨(.sm O O),G,rfl⟩))))
 ·
  have h:=app1 hkx27 (Ja hi27 (Hs hb))
  refine Je (hK3 (Jr fun hK38=>(JLm (I64 s27) O (JLm (I64 s27) O (G5 (hK38 (Gq (fin1 I64 h))))))))

def G93 (s:Gk) (boxes:List Box) (l:List Stowed) (column:Int):Option Bool:=
 Yy s.Columns column fun y3=>
 bnd (bif (!(decide (y3.Height≤0))) then G78 boxes l column 1 else some default) fun r6=>
 bnd (bif ((!(decide (y3.Height≤0)))&&(decide (r6≤y3.Height))) then G78 boxes l column 2 else some default) fun r7=>
 some ((decide (y3.Height≤0))||((decide (r6≤y3.Height))&&(decide (r7≤y3.Height))))
theorem J5d (s:Gk) (boxes:List Box) (l:List Stowed) (column:Int) (r:Bool) (h:G93 s boxes l column=some r):Pure Eo 75 [.agg (Gk.cs s),E8 boxes,E6 l,I64 column] (·=BL r):=by
 unfold G93 at h
 refine Gy [.tmp 8] Tryz.func75 O O (Jr fun hK1=>(JLh (.ptr 1135 0) (Jk (cs:=(Gk.cs s)) 1135 O O O O O) O (JLm (BL false) O (G5 (hK1 (Gm [(1,E8 boxes),(2,E6 l),(3,I64 column),(4,Eg s)] [] 1135 rfl rfl rfl G rfl (by repeat' (first | exact .ptr | constructor)) (Jr fun hK2=>(JLh (Eg s) (G9 Hv O O O) O (JLh (E1 s.Columns) (Gg J8 O O O) O (JLm (I64 column) O ?_))))))))))
 obtain⟨m4,y3,hm4,hy3,h⟩:=Y9 h
 refine JLh (Ej y3) (Hf (f:=G2.av) (xs:=s.Columns) (y:=y3) O O O Ht hy3 hm4) O (JLh (.dptr ((G2.cs y3).drop 4)) (G9 Ha3 O O O) O (JLh (I64 y3.Height) (Gg Gc O O O) O (JLm (I64 y3.Height) O (G5 (hK2 (Jr fun hK5=>(JLm (I64 y3.Height) O (JLh (BL (decide (y3.Height≤0))) (J06 O O O) O (JLm (BL (decide (y3.Height≤0))) O (JLo (E8 boxes) [] O .scf G (fun hc=>G6 O O) O (JLo (E6 l) [] O .scf G (fun hc=>G6 O O) O (JLo (I64 column) [] O .scf G (fun hc=>G6 O O) O ?_))))))))))))
 obtain⟨r6,hr6,h⟩:=Ga h
 refine JLo (I64 r6) [19,20,21] O .scf ⟨Ua,Ua,Ua,G⟩ (fun hc=>Gs (args:=[E8 boxes,E6 l,I64 column,U8 1]) O (Hfc boxes l column 1 r6 (H1 hc hr6)) Jf8 ⟨O,O,O,O,O,O,O,O,G⟩) O (JLo (I64 y3.Height) [] O .scf G (fun hc=>G6 O O) O (JLo (BL (decide (r6≤y3.Height))) [22,23] O .scf ⟨Ua,Ua,G⟩ (fun hc=>J06 O O O) O (JLo (BL (decide (r6≤y3.Height))) [24] O .scf ⟨Ua,G⟩ (fun hc=>G6 O O) O (JLo (E8 boxes) [] O .optt G (fun hc=>G6 O O) O (JLo (E6 l) [] O .optt G (fun hc=>G6 O O) O (JLo (I64 column) [] O .optt G (fun hc=>G6 O O) O ?_))))))
 obtain⟨r7,hr7,h⟩:=Ga h
 refine JLo (I64 r7) [26,27,28] O .optt ⟨Ua,Ua,Ua,G⟩ (fun hc=>Gs (args:=[E8 boxes,E6 l,I64 column,U8 2]) O (Hfc boxes l column 2 r7 (H1 hc hr7)) Jf8 ⟨O,O,O,O,O,O,O,O,G⟩) O (JLo (I64 y3.Height) [] O .optt G (fun hc=>G6 O O) O (JLo (BL (decide (r7≤y3.Height))) [29,30] O .optt ⟨Ua,Ua,G⟩ (fun hc=>J06 O O O) O (Gf (u:=BL ((decide (r6≤y3.Height))&&(decide (r7≤y3.Height)))) [(25,BL (decide (r6≤y3.Height))),(31,_)] O O O .scf ⟨.all id,.part,G⟩ (fun hc=>Rm O O O O) ?_)))
 refine JLh (BL ((decide (y3.Height≤0))||((decide (r6≤y3.Height))&&(decide (r7≤y3.Height))))) (G28 O O O O) O (JLm (BL ((decide (y3.Height≤0))||((decide (r6≤y3.Height))&&(decide (r7≤y3.Height))))) O (G5 (hK5 (Gq (fin1 BL h)))))

def Yz (s:Gk) (boxes:List Box) (l:List Stowed):Option Bool:=
 bnd (Gac s) fun r4=>
 bif (!r4) then
 (some false)
 else
 (bnd (Gad l) fun r7=>
  each (fun y10 i10 (s10:Unit) nx10=>
   bnd (G38 boxes y10.Box) fun r16=>
   bnd (bif ((!(!r16.2))&&(decide (0 < (i10:Int)))) then chk ((i10:Int) - 1) some else some 0) fun v19=>
   bnd (bif ((!(!r16.2))&&(decide (0 < (i10:Int)))) then Yy l v19 some else some default) fun y20=>
   bnd (bif (!((!r16.2)||((decide (0 < (i10:Int)))&&(decide (y10.Box≤y20.Box))))) then G39 s y10.Slot r16.1.Size else some default) fun r21=>
   bnd (bif (!(((!r16.2)||((decide (0 < (i10:Int)))&&(decide (y10.Box≤y20.Box))))||(!r21))) then G1f y10.Slot r7 else some default) fun r22=>
   bif ((((!r16.2)||((decide (0 < (i10:Int)))&&(decide (y10.Box≤y20.Box))))||(!r21))||(!r22)) then
   (some false)
   else
   (bnd (J1c (i10:Int) r7.length) fun m25=>
    each (fun y42 i42 (s42:Unit) nx42=>
     bnd (G94 y10.Slot y42) fun r48=>
     bif r48 then
     (some false)
     else
     (nx42 ()))
    (fun(s42:Unit)=>
     nx10 ()) (r7.take m25) 0 ()))
  (fun(s10:Unit)=>
   each (fun y64 i64 (s64:Unit) nx64=>
    bnd (G93 s boxes l (i64:Int)) fun r70=>
    bif (!r70) then
    (some false)
    else
    (nx64 ()))
   (fun(s64:Unit)=>
    some true) s.Columns 0 ()) l 0 ())
theorem G03 (s:Gk) (boxes:List Box) (l:List Stowed) (r:Bool) (h:Yz s boxes l=some r):Pure Eo 31 [.agg (Gk.cs s),E8 boxes,E6 l] (·=BL r):=by
 unfold Yz at h
 refine Gy [.tmp 6] Tryz.func31 O O (Jr fun hK1=>(JLh (.ptr 1068 0) (Jk (cs:=(Gk.cs s)) 1068 O O O O O) O (JLm (BL false) O (G5 (hK1 (Gm [(1,E8 boxes),(2,E6 l),(3,Eg s)] [] 1068 rfl rfl rfl G rfl (by exact⟨.conv (.same rfl),.conv (.same rfl),.ptr,G⟩) (Js fun hK2=>Jr fun hK3=>(JLh (.agg (Gk.cs s)) (Gi Hq O O O) O ?_))))))))
 obtain⟨r4,hr4,h⟩:=Ga h
 refine JLh (BL r4) (Gs O (Qa5.down s r4 hr4) Rba ⟨O,O,G⟩) O (JLh (BL (!r4)) (Qx (b:=r4) O O) O (G5 (hK3 (JCc O h (fun h hb=>?_) (fun h hb=>?_)))))
 ·
  refine Jr fun hK5=>(JLm (BL false) O (G5 (hK5 (Gq (fin1 BL h)))))
 ·
  refine Gr (hK2 (Jr fun hK6=>(JLm (E6 l) O ?_)))
  obtain⟨r7,hr7,h⟩:=Ga h
  refine JLh (E9 r7) (Gs O (J2d l r7 hr7) Q5a ⟨O,O,G⟩) O (JLm (E9 r7) O (G5 (hK6 (Js fun hK8=>Jr fun hK9=>(JLm (E6 l) O (JLl H3 O O O fun hm21=>(JLm (I64 0) O (G5 (hK9 (Gw ?_))))))))))
  obtain⟨b10,kx10,hb10,hkx10,h⟩:=Jx h
  refine Jb (fun i10 (s10:Unit)=>each b10 kx10 (List.drop i10 l) i10 s10=some r) (fun i10 s10=>[(1,E8 boxes),(2,E6 l),(3,Eg s),(7,E9 r7),(20,E6 l),(21,En l.length),(22,En i10)]) (fun i10 s10=>[]) (fun i10=>l.length - i10) 0 () h ⟨(.sm O O),G,rfl⟩ ?_
  clear h
  intro i10 s10 hi10 K10 e10
  refine Jr fun hK11=>(JLh (BL (decide ((i10:Int) < (l.length:Int)))) (Qg O O O) O (G5 (hK11 (Js fun hK12=>Gn O (fun hb=>?_) (fun hb=>?_)))))
  ·
   have hk10:=Qr hb
   obtain⟨y10,nx10,hy10,hn10,h⟩:=J9 hi10 hk10
   replace h:=G17 hb10 h
   refine Gr (hK12 (Js fun hK13=>Gw (Jr fun hK14=>(JLm (En i10) O (JLh (Ei y10) (Hf (f:=Stowed.av) (xs:=l) (y:=y10) O O O H3 hy10 O) O (JLh (.agg (Stowed.cs y10)) (Gi R3 O O O) O (JLh (.ptr 1069 0) (Hp 1069 4 Jw O O) O (JLm (En i10) O (Ho (u:=.junk) (Hc (u:=.agg (Stowed.cs y10)) (ds:=[I64 y10.Box,I64 y10.Slot.G2,I64 y10.Slot.Tier,U8 y10.Slot.Half]) G0b O O O O O O O O) (G5 (hK14 (Gm [(1,E8 boxes),(2,E6 l),(3,Eg s),(7,E9 r7),(8,En i10),(9,Ei y10),(20,E6 l),(21,En l.length),(22,En i10)] [] 1069 rfl rfl rfl G rfl (by repeat' (first | exact .ptr | constructor)) ?_))))))))))))
   refine Jr fun hK15=>(JLm (E8 boxes) O (JLh (Ei y10) (G9 Jm O O O) O (JLh (I64 y10.Box) (Gg Gc O O O) O ?_)))
   obtain⟨r16,hr16,h⟩:=Ga h
   refine JLh (.tup [.agg (Box.cs r16.1),BL r16.2]) (Gs O (Gc4 boxes y10.Box r16 hr16) H64 ⟨O,O,O,O,G⟩) O (JLm (.tup [.agg (Box.cs r16.1),BL r16.2]) O (JLh (.agg (Box.cs r16.1)) (Gz O O O) O (JLh (BL r16.2) (Gz O O O) O (JLh (.ptr 1070 0) (Hp 1070 9 Qt O O) O (Ho (u:=.junk) (Hc (u:=.agg (Box.cs r16.1)) (ds:=(Box.cs r16.1)) Rq O O O O O O O O) (JLm (BL r16.2) O (G5 (hK15 ?_))))))))
   refine Gm [(1,E8 boxes),(2,E6 l),(3,Eg s),(7,E9 r7),(8,En i10),(9,Ei y10),(10,Eh r16.1),(11,BL r16.2),(20,E6 l),(21,En l.length),(22,En i10)] [] 1070 rfl rfl rfl G rfl (by repeat' (first | exact .ptr | constructor)) (Js fun hK17=>Js fun hK18=>?_)
   obtain⟨v19,hv19,h⟩:=Ga h
   obtain⟨y20,hy20,h⟩:=Ga h
   obtain⟨r21,hr21,h⟩:=Ga h
   obtain⟨r22,hr22,h⟩:=Ga h
   refine JC_d0 J0 (by kernel_rfl) (Dq (BL r16.2) (G6 O O) O (Dq (BL (!r16.2)) (Qx (b:=r16.2) O O) O (Dq (BL (!r16.2)) (G6 O O) O (Do (En i10) [] O .scf G (fun hc=>G6 O O) O (Do (BL (decide (0 < (i10:Int)))) [37] O .scf ⟨Ua,G⟩ (fun hc=>Gb9 O O O) O (Do (BL (decide (0 < (i10:Int)))) [38] O .scf ⟨Ua,G⟩ (fun hc=>G6 O O) O (Do (Ei y10) [] O .optt G (fun hc=>G9 Jm O O O) O (Do (I64 y10.Box) [40] O .optt ⟨Ua,G⟩ (fun hc=>Gg Gc O O O) O (Do (E6 l) [] O .optt G (fun hc=>G6 O O) O (Do (En i10) [] O .optt G (fun hc=>G6 O O) O (Do (I64 v19) [43] O .optt ⟨Ua,G⟩ (fun hc=>H49 (H29 (H1 hc hv19)) O O O) O (Do (Ei y20) [42,44] O .optt ⟨Ua,Ua,G⟩ (fun hc=>(match Zi (H1 hc hy20) with | ⟨_,hm_,hy_⟩=>Hf (f:=Stowed.av) (xs:=l) (y:=y20) O O O H3 hy_ hm_)) O (Do (Ei y20) [45] O .optt ⟨Ua,G⟩ (fun hc=>G9 Jm O O O) O ?_)))))))))))))
   refine Do (I64 y20.Box) [46] O .optt ⟨Ua,G⟩ (fun hc=>Gg Gc O O O) O (Do (BL (decide (y10.Box≤y20.Box))) [41,47] O .optt ⟨Ua,Ua,G⟩ (fun hc=>J06 O O O) O (Dg (.opt (!(!r16.2)) (BL ((decide (0 < (i10:Int)))&&(decide (y10.Box≤y20.Box))))) (H6 [(39,BL (decide (0 < (i10:Int)))),(48,_)] O O O .scf ⟨.all id,.part,G⟩ (fun hc=>Rm O O O O) O) O (Dq (BL ((!r16.2)||((decide (0 < (i10:Int)))&&(decide (y10.Box≤y20.Box))))) (G28 O O O O) O (Dq (BL ((!r16.2)||((decide (0 < (i10:Int)))&&(decide (y10.Box≤y20.Box))))) (G6 O O) O (Do (.agg (Gk.cs s)) [] O .scf G (fun hc=>Gi Hq O O O) O (Do (.dptr ((Stowed.cs y10).drop 1)) [] O .scf G (fun hc=>G9 Jn O O O) O (Do (.agg ((Stowed.cs y10).drop 1)) [53] O .scf ⟨Ua,G⟩ (fun hc=>Gi Hu O O O) O (Do (.dptr ((Box.cs r16.1).drop 2)) [] O .scf G (fun hc=>G9 Rx O O O) O (Do (U8 r16.1.Size) [55] O .scf ⟨Ua,G⟩ (fun hc=>Gg Hn O O O) O (Do (BL r21) [52,54,56] O .scf ⟨Ua,Ua,Ua,G⟩ (fun hc=>Gs (args:=[.agg (Gk.cs s),.agg ((Stowed.cs y10).drop 1),U8 r16.1.Size]) O (H7e s y10.Slot r16.1.Size r21 (H1 hc hr21)) J69 ⟨O,O,O,O,O,O,G⟩) O (Do (BL (!r21)) [57] O .scf ⟨Ua,G⟩ (fun hc=>Qx (b:=r21) O O) O (Dq (BL (((!r16.2)||((decide (0 < (i10:Int)))&&(decide (y10.Box≤y20.Box))))||(!r21))) (G28 O O O O) O (Dq (BL (((!r16.2)||((decide (0 < (i10:Int)))&&(decide (y10.Box≤y20.Box))))||(!r21))) (G6 O O) O ?_)))))))))))))
   refine Do (.dptr ((Stowed.cs y10).drop 1)) [] O .scf G (fun hc=>G9 Jn O O O) O (Do (.agg ((Stowed.cs y10).drop 1)) [61] O .scf ⟨Ua,G⟩ (fun hc=>Gi Hu O O O) O (Do (E9 r7) [] O .scf G (fun hc=>G6 O O) O (Do (BL r22) [62,63] O .scf ⟨Ua,Ua,G⟩ (fun hc=>Gs (args:=[.agg ((Stowed.cs y10).drop 1),E9 r7]) O (Ha8 y10.Slot r7 r22 (H1 hc hr22)) J68 ⟨O,O,O,O,G⟩) O (Do (BL (!r22)) [64] O .scf ⟨Ua,G⟩ (fun hc=>Qx (b:=r22) O O) O (Dq (BL ((((!r16.2)||((decide (0 < (i10:Int)))&&(decide (y10.Box≤y20.Box))))||(!r21))||(!r22))) (G28 O O O O) O (Dnil (hK18 (JCc O h (fun h hb=>?_) (fun h hb=>?_)))))))))
   ·
    refine Jr fun hK23=>(JLm (BL false) O (G5 (hK23 (Gq (fin1 BL h)))))
   ·
    refine Gr (hK17 (Jr fun hK24=>(JLm (E9 r7) O (JLm (En i10) O ?_))))
    obtain⟨m25,hm25,h⟩:=Ga h
    refine JLh (E9 (r7.take m25)) (H14 (f:=Slot.av) (xs:=r7) O O O Ro (Gd9 hm25)) O (JLl Ro O O O fun hm70=>(JLm (I64 0) O (G5 (hK24 (Gw ?_)))))
    obtain⟨b42,kx42,hb42,hkx42,h⟩:=Jx h
    refine Jb (fun i42 (s42:Unit)=>each b42 kx42 (List.drop i42 (r7.take m25)) i42 s42=some r) (fun i42 s42=>[(1,E8 boxes),(2,E6 l),(3,Eg s),(7,E9 r7),(9,Ei y10),(20,E6 l),(21,En l.length),(22,En i10),(69,E9 (r7.take m25)),(70,I64 ((r7.take m25).length:Int)),(71,En i42)]) (fun i42 s42=>[]) (fun i42=>(r7.take m25).length - i42) 0 () h ⟨(.sm O O),G,rfl⟩ ?_
    clear h
    intro i42 s42 hi42 K42 e42
    refine Jr fun hK43=>(JLh (BL (decide ((i42:Int) < ((r7.take m25).length:Int)))) (Qg O O O) O (G5 (hK43 (Js fun hK44=>Gn O (fun hb=>?_) (fun hb=>?_)))))
    ·
     have hk42:=Qr hb
     obtain⟨y42,nx42,hy42,hn42,h⟩:=J9 hi42 hk42
     replace h:=G17 hb42 h
     refine Gr (hK44 (Js fun hK45=>Gw (Jr fun hK46=>(JLh (Ek y42) (Hf (f:=Slot.av) (xs:=(r7.take m25)) (y:=y42) O O O Ro hy42 O) O (JLh (.agg (Slot.cs y42)) (Gi Hu O O O) O (JLh (.ptr 1071 0) (Hp 1071 3 Z4 O O) O (Ho (u:=.junk) (Hc (u:=.agg (Slot.cs y42)) (ds:=[I64 y42.G2,I64 y42.Tier,U8 y42.Half]) Zr O O O O O O O O) (G5 (hK46 (Gm [(1,E8 boxes),(2,E6 l),(3,Eg s),(7,E9 r7),(9,Ei y10),(13,Ek y42),(20,E6 l),(21,En l.length),(22,En i10),(69,E9 (r7.take m25)),(70,I64 ((r7.take m25).length:Int)),(71,En i42)] [] 1071 rfl rfl rfl G rfl (by repeat' (first | exact .ptr | constructor)) ?_))))))))))
     refine Jr fun hK47=>(JLh (.dptr ((Stowed.cs y10).drop 1)) (G9 Jn O O O) O (JLh (.agg ((Stowed.cs y10).drop 1)) (Gi Hu O O O) O (JLh (.agg (Slot.cs y42)) (Gi Hu O O O) O ?_)))
     obtain⟨r48,hr48,h⟩:=Ga h
     refine JLh (BL r48) (Gs O (Ha7 y10.Slot y42 r48 hr48) J67 ⟨O,O,O,O,G⟩) O (G5 (hK47 (JCc O h (fun h hb=>?_) (fun h hb=>?_))))
     ·
      refine Jr fun hK49=>(JLm (BL false) O (G5 (hK49 (Gq (fin1 BL h)))))
     ·
      refine Gr (hK45 (G1 (JLh (I64 ((i42+1:Nat):Int)) (Jf (J6 hk42 hm70) O O O) O (JLm (I64 ((i42+1:Nat):Int)) O (G5 (e42 _ _ (i42+1) () (app1 hn42 h) (by omega) ⟨(.sm O O),G,rfl⟩))))))
    ·
     have h:=app1 hkx42 (Ja hi42 (Hs hb))
     refine Je (hK13 (G1 (JLh (I64 ((i10+1:Nat):Int)) (Jf (J6 hk10 hm21) O O O) O (JLm (I64 ((i10+1:Nat):Int)) O (G5 (e10 _ _ (i10+1) () (app1 hn10 h) (by omega) ⟨(.sm O O),G,rfl⟩))))))
  ·
   have h:=app1 hkx10 (Ja hi10 (Hs hb))
   refine Je (hK8 (Js fun hK50=>Jr fun hK51=>(JLh (Eg s) (G9 Hv O O O) O (JLh (E1 s.Columns) (Gg J8 O O O) O (JLl Ht O O O fun hm83=>(JLm (I64 0) O (G5 (hK51 (Gw ?_)))))))))
   obtain⟨b64,kx64,hb64,hkx64,h⟩:=Jx h
   refine Jb (fun i64 (s64:Unit)=>each b64 kx64 (List.drop i64 s.Columns) i64 s64=some r) (fun i64 s64=>[(1,E8 boxes),(2,E6 l),(3,Eg s),(83,En s.Columns.length),(84,En i64)]) (fun i64 s64=>[]) (fun i64=>s.Columns.length - i64) 0 () h ⟨(.sm O O),G,rfl⟩ ?_
   clear h
   intro i64 s64 hi64 K64 e64
   refine Jr fun hK65=>(JLh (BL (decide ((i64:Int) < (s.Columns.length:Int)))) (Qg O O O) O (G5 (hK65 (Js fun hK66=>Gn O (fun hb=>?_) (fun hb=>?_)))))
   ·
    have hk64:=Qr hb
    obtain⟨y64,nx64,hy64,hn64,h⟩:=J9 hi64 hk64
    replace h:=G17 hb64 h
    refine Gr (hK66 (Js fun hK67=>Gw (Jr fun hK68=>(JLm (En i64) O (JLm (En i64) O (G5 (hK68 (Jr fun hK69=>(JLh (.agg (Gk.cs s)) (Gi Hq O O O) O (JLm (E8 boxes) O (JLm (E6 l) O (JLm (En i64) O ?_))))))))))))
    obtain⟨r70,hr70,h⟩:=Ga h
    refine JLh (BL r70) (Gs O (J5d s boxes l (i64:Int) r70 hr70) Q59 ⟨O,O,O,O,O,O,O,O,G⟩) O (JLh (BL (!r70)) (Qx (b:=r70) O O) O (G5 (hK69 (JCc O h (fun h hb=>?_) (fun h hb=>?_)))))
    ·
     refine Jr fun hK71=>(JLm (BL false) O (G5 (hK71 (Gq (fin1 BL h)))))
    ·
     refine Gr (hK67 (G1 (JLh (I64 ((i64+1:Nat):Int)) (Jf (J6 hk64 hm83) O O O) O (JLm (I64 ((i64+1:Nat):Int)) O (G5 (e64 _ _ (i64+1) () (app1 hn64 h) (by omega) ⟨(.sm O O),G,rfl⟩))))))
   ·
    have h:=app1 hkx64 (Ja hi64 (Hs hb))
    refine Je (hK50 (Jr fun hK72=>(JLm (BL true) O (G5 (hK72 (Gq (fin1 BL h)))))))

def R8 (s:List G8):Option (List G8):=
 R76 s fun b4=>
 bif b4 then
 (some [])
 else
 (need (decide ((([]:List G8).length+s.length)*32≤140737488355328∧([]:List G8).length+s.length≤maxLen)) <|
  some (([]:List G8)++s))
def G20 (x:Stowed) (p1:Int):Option Bool:=
 some (decide (x.Box=p1))
theorem Hff (x:Stowed) (p1:Int) (r:Bool) (h:G20 x p1=some r):Pure Eo 46 [.agg (Stowed.cs x),.dptr [I64 p1]] (·=BL r):=by
 unfold G20 at h
 refine Gy [.tmp 3] Tryz.func46 O O (Jr fun hK1=>(JLh (.ptr 1093 0) (Jk (cs:=[I64 x.Box,I64 x.Slot.G2,I64 x.Slot.Tier,U8 x.Slot.Half]) 1093 O O O O O) O (JLm (BL false) O (G5 (hK1 (Gm [(1,.dptr [I64 p1]),(2,Ei x)] [] 1093 rfl rfl rfl G rfl (by exact⟨.conv (.same rfl),.ptr,G⟩) (Jr fun hK2=>(JLh (Ei x) (G9 Jm O O O) O (JLh (I64 x.Box) (Gg Gc O O O) O (JLh (I64 p1) (Gg Gc O O O) O (JLh (BL (decide (x.Box=p1))) (Q0 O O O) O (JLm (BL (decide (x.Box=p1))) O (G5 (hK2 (Gq (fin1 BL h))))))))))))))))

def R0 (s:List Stowed) (f:Stowed→Option Bool):Option Int:=
 each (fun y20 i20 (s20:Unit) nx20=>
  bnd (f y20) fun r26=>
  bif r26 then
  (some (i20:Int))
  else
  (nx20 ()))
 (fun(s20:Unit)=>
  some (-1)) s 0 ()
theorem G50 (s:List Stowed) (f:Stowed→Option Bool) (f_f:FuncId) (f_c:List AV) (f_B:H7 Eo f_f=true) (f_d:Qy (fun _=>false) f_c=true) (f_w:∀ a0 q,f a0=some q→Pure Eo f_f ([.agg (Stowed.cs a0)]++f_c) (·=BL q)) (r:Int) (h:R0 s f=some r):Pure Eo 76 [E6 s,.fn f_f f_c] (·=I64 r):=by
 unfold R0 at h
 refine Gy [.tmp 4] Tryz.func76 O O (Jr fun hK1=>(JLm (I64 0) O (G5 (hK1 (Js fun hK2=>Jr fun hK3=>(JLm (E6 s) O (JLl H3 O O O fun hm7=>(JLm (I64 0) O (G5 (hK3 (Gw ?_)))))))))))
 obtain⟨b20,kx20,hb20,hkx20,h⟩:=Jx h
 refine Jb (fun i20 (s20:Unit)=>each b20 kx20 (List.drop i20 s) i20 s20=some r) (fun i20 s20=>[(0,E6 s),(1,.fn f_f f_c),(7,En s.length),(8,En i20)]) (fun i20 s20=>[]) (fun i20=>s.length - i20) 0 () h ⟨⟨.same O,.same (Jq _ _ f_d),.same O,.same O,G⟩,G,O⟩ ?_
 clear h
 intro i20 s20 hi20 K20 e20
 refine Jr fun hK21=>(JLh (BL (decide ((i20:Int) < (s.length:Int)))) (Qg O O O) O (G5 (hK21 (Js fun hK22=>Gn O (fun hb=>?_) (fun hb=>?_)))))
 ·
  have hk20:=Qr hb
  obtain⟨y20,nx20,hy20,hn20,h⟩:=J9 hi20 hk20
  replace h:=G17 hb20 h
  refine Gr (hK22 (Js fun hK23=>Gw (Jr fun hK24=>(JLm (En i20) O (JLm (En i20) O (G5 (hK24 (Jr fun hK25=>(JLm (.fn f_f f_c) O (JLm (E6 s) O (JLm (En i20) O (JLh (Ei y20) (Hf (f:=Stowed.av) (xs:=s) (y:=y20) O O O H3 hy20 O) O (JLh (.agg (Stowed.cs y20)) (Gi R3 O O O) O ?_)))))))))))))
  obtain⟨r26,hr26,h⟩:=Ga h
  refine JLh (BL r26) (G40 (args:=[.agg (Stowed.cs y20)]) (caps:=f_c) O O (f_w y20 _ hr26) f_B ⟨O,O,G⟩ f_d) O (G5 (hK25 (JCc O h (fun h hb=>?_) (fun h hb=>?_))))
  ·
   refine Jr fun hK27=>(JLm (En i20) O (JLm (En i20) O (G5 (hK27 (Gq (fin1 I64 h))))))
  ·
   refine Gr (hK23 (G1 (JLh (I64 ((i20+1:Nat):Int)) (Jf (J6 hk20 hm7) O O O) O (JLm (I64 ((i20+1:Nat):Int)) O (G5 (e20 _ _ (i20+1) () (app1 hn20 h) (by omega) ⟨⟨.same rfl,.same (Jq _ _ f_d),.same rfl,.same rfl,G⟩,G,rfl⟩))))))
 ·
  have h:=app1 hkx20 (Ja hi20 (Hs hb))
  refine Je (hK2 (Jr fun hK28=>(JLm (I64 (-1)) O (G5 (hK28 (Gq (fin1 I64 h)))))))

def Hy (s:List Stowed) (f:Stowed→Option Bool):Option Bool:=
 bnd (R0 s f) fun r3=>
 some (decide (0≤r3))
theorem Qd (s:List Stowed) (f:Stowed→Option Bool) (f_f:FuncId) (f_c:List AV) (f_B:H7 Eo f_f=true) (f_d:Qy (fun _=>false) f_c=true) (f_w:∀ a0 q,f a0=some q→Pure Eo f_f ([.agg (Stowed.cs a0)]++f_c) (·=BL q)) (r:Bool) (h:Hy s f=some r):Pure Eo 32 [E6 s,.fn f_f f_c] (·=BL r):=by
 unfold Hy at h
 refine Gy [.tmp 4] Tryz.func32 O O (Jr fun hK1=>(JLm (BL false) O (G5 (hK1 (Jr fun hK2=>(JLm (E6 s) O (JLm (.fn f_f f_c) O ?_)))))))
 obtain⟨r3,hr3,h⟩:=Ga h
 refine JLh (I64 r3) (Gs O (G50 s f f_f f_c f_B f_d f_w r3 hr3) Q58 ⟨O,O,O,f_d,G⟩) O (JLh (BL (decide (0≤r3))) (Gfb O O O) O (JLm (BL (decide (0≤r3))) O (G5 (hK2 (Gq (fin1 BL h))))))


theorem Gb4 (s:List G8) (r:(List G8)) (h:R8 s=some r):Jg Eo 43 [E7 s] [] (fun av L'=>∃ p:Nat,av=.vec 1089 p 2 r.length∧L'=[(1089,.vec 107 2 p (r.map G8.av))]):=by
 unfold R8 at h
 refine Q9 [] [.tmp 2] Tryz.func43 O O (G4e O) (Jr fun hK1=>(JLh (.vec 1089 (([]:List G8).length) 2 (([]:List G8).length)) (H44 1089 107 2 O O O) O (G5 (hK1 (Js fun hK2=>Jr fun hK3=>(JLm (E7 s) O (Zq O O O (Ha1 Ji O O) ?_)))))))
 rintro u_ L_ ⟨b4,hb4,rfl,rfl⟩
 replace h:=H25 h b4 hb4
 refine G5 (hK3 (JCc O h (fun h hb=>?_) (fun h hb=>?_)))
 ·
  refine Jr fun hK5=>(JLh (.vec 1089 ((([]:List G8).length)+1) 2 (([]:List G8).length)) (Q3d 1089 107 2 O O O) O (G5 (hK5 (G81 2 O O (fun hn_=>Gq ?_)))))
  obtain rfl:=Option.some.inj h
  exact⟨[.vec 1089 ((([]:List G8).length)+1) 2 (([]:List G8).length)],[(1089,.vec 107 2 ((([]:List G8).length)+1) (([]:List G8).map G8.av))],⟨⟨_,O,.vec⟩,G⟩,O,⟨⟨_,O,.conv (.same O)⟩,G⟩,((([]:List G8).length)+1),congrArg (fun n_:Nat=>(.vec 1089 ((([]:List G8).length)+1) 2 n_:AV)) (hn_.trans O),O⟩
 ·
  refine Gr (hK2 (Jr fun hK6=>(JLh (.vec 1089 ((([]:List G8).length)+1) 2 (([]:List G8).length)) (Q3e 1089 107 2 O O Ji) O (JLm (E7 s) O ?_))))
  obtain⟨ha7,h⟩:=J7 h
  refine JLh (.vec 1089 (((([]:List G8).length)+1)+((([]:List G8)++s).length+1)) 2 ((([]:List G8)++s).length)) (G67 (f:=G8.av) (xs:=([]:List G8)) (ys:=s) (ver:=((([]:List G8).length)+1)) (ver1:=(((([]:List G8).length)+1)+((([]:List G8)++s).length+1))) rfl rfl rfl rfl Ji H90 ha7 (fun _=>rfl) (.inl rfl) (by simp)) O (JLm (.vec 1089 (((([]:List G8).length)+1)+((([]:List G8)++s).length+1)) 2 ((([]:List G8)++s).length)) O (G5 (hK6 (G81 2 O O (fun hn_=>Gq ?_)))))
  obtain rfl:=Option.some.inj h
  exact⟨[.vec 1089 (((([]:List G8).length)+1)+((([]:List G8)++s).length+1)) 2 ((([]:List G8)++s).length)],[(1089,.vec 107 2 (((([]:List G8).length)+1)+((([]:List G8)++s).length+1)) ((([]:List G8)++s).map G8.av))],⟨⟨_,O,.vec⟩,G⟩,O,⟨⟨_,O,.conv (.same O)⟩,G⟩,(((([]:List G8).length)+1)+((([]:List G8)++s).length+1)),congrArg (fun n_:Nat=>(.vec 1089 (((([]:List G8).length)+1)+((([]:List G8)++s).length+1)) 2 n_:AV)) (hn_.trans (List.length_map _)),O⟩

def Ge4 (s:Gk) (boxes:List Box) (state:List Stowed) (ashore:List Int):Option (Gb×Int):=
 bnd (Yz s boxes state) fun r4=>
 bif (!r4) then
 (none)
 else
 (bnd (Qo s.Columns) fun r8=>
  bnd (R8 s.Covers) fun r9=>
  each (fun y41 i41 (s41:(List G8)) nx41=>
   Yy s.Covers (i41:Int) fun y46=>
   bnd (Q4 y46.Rows) fun r48=>
   Yy s41 (i41:Int) fun y49=>
   nx41 (s41.set (i41:Int).toNat (G8.mk y49.Bay r48)))
  (fun(s41:(List G8))=>
   each (fun y76 i76 (s76:(Gt Slot Box)) nx76=>
    bnd (G64 boxes y76.Box) fun r81=>
    nx76 (Gt.put s76 y76.Slot r81.1))
   (fun(s76:(Gt Slot Box))=>
    each (fun y156 i156 (s156:(Gt Int Box)) nx156=>
     bnd (G64 boxes y156) fun r162=>
     bnd (bif ((!(!r162.2))&&(decide (0 < (i156:Int)))) then chk ((i156:Int) - 1) some else some 0) fun v165=>
     bnd (bif ((!(!r162.2))&&(decide (0 < (i156:Int)))) then Yy ashore v165 some else some default) fun y166=>
     bnd (bif (!((!r162.2)||((decide (0 < (i156:Int)))&&(decide (y156≤y166))))) then Hy state (fun z0=>G20 z0 y156) else some default) fun r167=>
     bif (((!r162.2)||((decide (0 < (i156:Int)))&&(decide (y156≤y166))))||r167) then
     (none)
     else
     (nx156 (Gt.put s156 y156 r162.1)))
    (fun(s156:(Gt Int Box))=>
     some ((Gb.mk (Gk.mk r8 s41 (Light.mk 0 0 0 0) [] [] [] (G4.mk 0 0 0 0)) s76 s156 (Gt.empty:Gt Int Int) 0),0)) ashore 0 (Gt.empty:Gt Int Box)) state 0 (Gt.empty:Gt Slot Box)) r9 0 r9)
abbrev Ka:List AV:=[E1 ([]:List G2),E7 ([]:List G8),I64 0,I64 0,I64 0,I64 0,E3 ([]:List Row),E4 ([]:List Frame),E5 ([]:List Gp),I64 0,I64 0,I64 0,I64 0,.mp 1197,.mp 1198,.mp 1199,I64 0]
theorem Haa (s:Gk) (boxes:List Box) (state:List Stowed) (ashore:List Int) (r:Gb×Int) (h:Ge4 s boxes state ashore=some r):Jg Eo 14 [.agg (Gk.cs s),E8 boxes,E6 state,E2 ashore] [] (fun av L'=>av=.tup [.ptr 1196 0,I64 r.2]∧L'=[(1196,.box 97 [E1 r.1.ship.Columns,E7 r.1.ship.Covers,I64 r.1.ship.Light.Kilos,I64 r.1.ship.Light.X,I64 r.1.ship.Light.Y,I64 r.1.ship.Light.Z,E3 r.1.ship.Rows,E4 r.1.ship.Frames,E5 r.1.ship.Tanks,I64 r.1.ship.G4.Tolerance,I64 r.1.ship.G4.Trim,I64 r.1.ship.G4.List_,I64 r.1.ship.G4.Stability,.mp 1197,.mp 1198,.mp 1199,I64 r.1.lifts]),(1197,TP 93 Slot.kv Box.av r.1.on),(1198,TP 94 (fun n:Int=>Value.int .i64 n) Box.av r.1.quay),(1199,TP 95 (fun n:Int=>Value.int .i64 n) I64 r.1.open_)]):=by
 unfold Ge4 at h
 refine Q9 [] [.tmp 8,.tmp 9] Tryz.func14 O O (G4e O) (Jr fun hK1=>(JLh (.ptr 1032 0) (Jk (cs:=(Gk.cs s)) 1032 O O O O O) O (JLm (.sc (.pointer none)) O (JLm (I64 0) O (G5 (hK1 (Gm [(1,E8 boxes),(2,E6 state),(3,E2 ashore),(4,Eg s)] [] 1032 rfl rfl rfl G rfl (by repeat' (first | exact .ptr | constructor)) (Js fun hK2=>Jr fun hK3=>(JLh (.agg (Gk.cs s)) (Gi Hq O O O) O (JLm (E8 boxes) O (JLm (E6 state) O ?_)))))))))))
 obtain⟨r4,hr4,h⟩:=Ga h
 refine JLh (BL r4) (Gs O (G03 s boxes state r4 hr4) G87 ⟨O,O,O,O,O,O,G⟩) O (JLh (BL (!r4)) (Qx (b:=r4) O O) O (G5 (hK3 (JCc O h (fun h hb=>?_) (fun h hb=>?_)))))
 ·
  refine Jr fun hK5=>(JLm (.sc (.pointer none)) O (JLm (I64 2) O (G5 (hK5 (Gq ?_)))))
  cases h
 ·
  refine Gr (hK2 ?_)
  refine Jr fun hK6=>(JLh (.mp 1197) (H15 1197 Slot.kv Box.av O O) O (JLh (.mp 1198) (H15 1198 (fun n:Int=>Value.int .i64 n) Box.av O O) O (JLh (.mp 1199) (H15 1199 (fun n:Int=>Value.int .i64 n) I64 O O) O (JLh (.agg Ka) (Hb (cs:=Ka) [(0,13),(13,1),(14,1),(15,1),(16,1)] [E1 ([]:List G2),E7 ([]:List G8),I64 0,I64 0,I64 0,I64 0,E3 ([]:List Row),E4 ([]:List Frame),E5 ([]:List Gp),I64 0,I64 0,I64 0,I64 0,.sc (.map none),.sc (.map none),.sc (.map none),I64 0] [.slice none 0 0,.slice none 0 0,E0,E0,E0,E0,.slice none 0 0,.slice none 0 0,.slice none 0 0,E0,E0,E0,E0,.map none,.map none,.map none,E0] J8f Q46 ⟨.inr ⟨_,O,O⟩,.inr ⟨_,O,O⟩,.inl O,.inl O,.inl O,.inl O,.inr ⟨_,O,O⟩,.inr ⟨_,O,O⟩,.inr ⟨_,O,O⟩,.inl O,.inl O,.inl O,.inl O,.inl O,.inl O,.inl O,.inl O,G⟩ O O) O (JLh (.ptr 1196 0) (Jk (cs:=Ka) 1196 O O O O O) O (JLm (.ptr 1196 0) O (G5 (hK6 ?_))))))))
  refine Js fun hK7=>Qc (l':=[(1,E8 boxes),(2,E6 state),(3,E2 ashore),(4,Eg s),(10,.ptr 1196 0)]) (L':=[(1197,TP 93 Slot.kv Box.av (Gt.empty:Gt Slot Box)),(1198,TP 94 (fun n:Int=>Value.int .i64 n) Box.av (Gt.empty:Gt Int Box)),(1199,TP 95 (fun n:Int=>Value.int .i64 n) I64 (Gt.empty:Gt Int Int)),(1196,.box 97 Ka)]) ⟨(.sm O O),⟨⟨_,rfl,.map⟩,⟨_,rfl,.map⟩,⟨_,rfl,.map⟩,⟨_,rfl,.boxL rfl (.sm O O)⟩,G⟩,rfl⟩ ?_
  obtain⟨r8,hr8,h⟩:=Ga h
  obtain⟨r9,hr9,h⟩:=Ga h
  refine J4 [6,10] [0,0,0,0,0,0,0,1,1,1,0] [1,0,0,0,0,0,0,1,1,1,0] [[(1197,TP 93 Slot.kv Box.av (Gt.empty:Gt Slot Box)),(1198,TP 94 (fun n:Int=>Value.int .i64 n) Box.av (Gt.empty:Gt Int Box)),(1199,TP 95 (fun n:Int=>Value.int .i64 n) I64 (Gt.empty:Gt Int Int)),(1196,.box 97 Ka)],((1089,.vec 107 2 0 (r9.map G8.av))::[(1197,TP 93 Slot.kv Box.av (Gt.empty:Gt Slot Box)),(1198,TP 94 (fun n:Int=>Value.int .i64 n) Box.av (Gt.empty:Gt Int Box)),(1199,TP 95 (fun n:Int=>Value.int .i64 n) I64 (Gt.empty:Gt Int Int)),(1196,.box 97 Ka)]),((1196,.box 97 [E1 r8,.vec 1089 0 2 r9.length,I64 0,I64 0,I64 0,I64 0,E3 ([]:List Row),E4 ([]:List Frame),E5 ([]:List Gp),I64 0,I64 0,I64 0,I64 0,.mp 1197,.mp 1198,.mp 1199,I64 0])::((1089,.vec 107 2 0 (r9.map G8.av))::[(1197,TP 93 Slot.kv Box.av (Gt.empty:Gt Slot Box)),(1198,TP 94 (fun n:Int=>Value.int .i64 n) Box.av (Gt.empty:Gt Int Box)),(1199,TP 95 (fun n:Int=>Value.int .i64 n) I64 (Gt.empty:Gt Int Int)),(1196,.box 97 Ka)]))] J0 (by kernel_rfl) rfl rfl ?_
  refine Gd (u:=.ptr 1196 0) O O ⟨Ge (G6 O O) O,Ge (G6 O O) O,G⟩ (Gd (u:=Eg s) O O ⟨Ge (G9 Hv O O O) O,G⟩ (Gd (u:=E1 s.Columns) O O ⟨Ge (Gg J8 O O O) O,G⟩ (Gd (u:=E1 r8) O O ⟨Ge (Gs O (G96 s.Columns r8 hr8) J6a ⟨O,O,G⟩) O,G⟩ (Gd (u:=.dptr ((Gk.cs s).drop 1)) O O ⟨Ge (G9 Jo O O O) O,G⟩ (Gd (u:=E7 s.Covers) O O ⟨Ge (Gg Qa O O O) O,G⟩ (D_w (u:=.vec 1089 0 2 r9.length) O O O O (Ge (Rs (args:=[E7 s.Covers]) (L0:=[]) (Lr:=[(1089,.vec 107 2 0 (r9.map G8.av))]) O (Jg.fresh0 (Gb4 s.Covers r9 hr9)) Q60 ⟨.inl O,O,G⟩ G O O O) O) (Gd (u:=.agg [E1 r8,.vec 1089 0 2 r9.length,I64 0,I64 0,I64 0,I64 0,E3 ([]:List Row),E4 ([]:List Frame),E5 ([]:List Gp),I64 0,I64 0,I64 0,I64 0]) O O ⟨Ge (Hb (cs:=[E1 r8,.vec 1089 0 2 r9.length,I64 0,I64 0,I64 0,I64 0,E3 ([]:List Row),E4 ([]:List Frame),E5 ([]:List Gp),I64 0,I64 0,I64 0,I64 0]) [(0,1),(1,1),(2,4),(6,1),(7,1),(8,1),(9,4)] [E1 ([]:List G2),E7 ([]:List G8),I64 0,I64 0,I64 0,I64 0,E3 ([]:List Row),E4 ([]:List Frame),E5 ([]:List Gp),I64 0,I64 0,I64 0,I64 0] [.slice none 0 0,.slice none 0 0,E0,E0,E0,E0,.slice none 0 0,.slice none 0 0,.slice none 0 0,E0,E0,E0,E0] Hcc G5d ⟨.inr ⟨_,O,O⟩,.inr ⟨_,O,O⟩,.inl O,.inl O,.inl O,.inl O,.inr ⟨_,O,O⟩,.inr ⟨_,O,O⟩,.inr ⟨_,O,O⟩,.inl O,.inl O,.inl O,.inl O,G⟩ O O) O,G⟩ (Gd (u:=.ptr 1196 0) O O ⟨Ge (Rk O O) O,G⟩ (Gd (u:=.ptr 1196 0) O O ⟨Ge (Hh Rb O O) O,G⟩ (H85 (u:=.junk) O O O O (Ge (Hc (u:=.agg [E1 r8,.vec 1089 0 2 r9.length,I64 0,I64 0,I64 0,I64 0,E3 ([]:List Row),E4 ([]:List Frame),E5 ([]:List Gp),I64 0,I64 0,I64 0,I64 0]) (ds:=[E1 r8,.vec 1089 0 2 r9.length,I64 0,I64 0,I64 0,I64 0,E3 ([]:List Row),E4 ([]:List Frame),E5 ([]:List Gp),I64 0,I64 0,I64 0,I64 0,.mp 1197,.mp 1198,.mp 1199,I64 0]) Zs O O O O O O O O) O) (Qw ?_)))))))))))
  refine hK7 (Js fun hK11=>Jr fun hK12=>(JLm (.ptr 1196 0) O (JLh (.ptr 1196 0) (Rk O O) O (JLh (.ptr 1196 0) (Hh Rb O O) O (JLh (.ptr 1196 1) (Hh Jo O O) O (JLh (.vec 1089 0 2 r9.length) (Hx Qa O O O O) O (R92 (f:=G8.av) (xs:=r9) Ji O O O (fun hm43=>?_) O O O)))))))
  refine JLm (I64 0) O (G5 (hK12 (Gw ?_)))
  obtain⟨b41,kx41,hb41,hkx41,h⟩:=Jx h
  refine Jb (fun i41 (s41:(List G8))=>each b41 kx41 (List.drop i41 r9) i41 s41=some r) (fun i41 s41=>[(1,E8 boxes),(2,E6 state),(3,E2 ashore),(4,Eg s),(10,.ptr 1196 0),(43,En r9.length),(44,En i41)]) (fun i41 s41=>[(1197,TP 93 Slot.kv Box.av (Gt.empty:Gt Slot Box)),(1198,TP 94 (fun n:Int=>Value.int .i64 n) Box.av (Gt.empty:Gt Int Box)),(1199,TP 95 (fun n:Int=>Value.int .i64 n) I64 (Gt.empty:Gt Int Int)),(1089,.vec 107 2 0 (s41.map G8.av)),(1196,.box 97 [E1 r8,.vec 1089 0 2 r9.length,I64 0,I64 0,I64 0,I64 0,E3 ([]:List Row),E4 ([]:List Frame),E5 ([]:List Gp),I64 0,I64 0,I64 0,I64 0,.mp 1197,.mp 1198,.mp 1199,I64 0])]) (fun i41=>r9.length - i41) 0 r9 h ⟨(.sm O O),⟨⟨_,rfl,.map⟩,⟨_,rfl,.map⟩,⟨_,rfl,.map⟩,⟨_,rfl,.vec⟩,⟨_,rfl,.boxL rfl (.sm O O)⟩,G⟩,rfl⟩ ?_
  clear h
  intro i41 s41 hi41 K41 e41
  refine Jr fun hK42=>(JLh (BL (decide ((i41:Int) < (r9.length:Int)))) (Qg O O O) O (G5 (hK42 (Js fun hK43=>Gn O (fun hb=>?_) (fun hb=>?_)))))
  ·
   have hk41:=Qr hb
   obtain⟨y41,nx41,hy41,hn41,h⟩:=J9 hi41 hk41
   replace h:=G17 hb41 h
   refine Gr (hK43 (Js fun hK44=>Gw (Jr fun hK45=>(JLm (En i41) O (JLm (En i41) O (G5 (hK45 ?_)))))))
   refine Qc (l':=[(1,E8 boxes),(2,E6 state),(3,E2 ashore),(4,Eg s),(10,.ptr 1196 0),(11,En i41),(43,En r9.length),(44,En i41)]) (L':=[(1197,TP 93 Slot.kv Box.av (Gt.empty:Gt Slot Box)),(1198,TP 94 (fun n:Int=>Value.int .i64 n) Box.av (Gt.empty:Gt Int Box)),(1199,TP 95 (fun n:Int=>Value.int .i64 n) I64 (Gt.empty:Gt Int Int)),(1089,.vec 107 2 0 (s41.map G8.av)),(1196,.box 97 [E1 r8,.vec 1089 0 2 r9.length,I64 0,I64 0,I64 0,I64 0,E3 ([]:List Row),E4 ([]:List Frame),E5 ([]:List Gp),I64 0,I64 0,I64 0,I64 0,.mp 1197,.mp 1198,.mp 1199,I64 0])]) ⟨(.sm O O),⟨⟨_,rfl,.map⟩,⟨_,rfl,.map⟩,⟨_,rfl,.map⟩,⟨_,rfl,.vec⟩,⟨_,rfl,.boxL rfl (.sm O O)⟩,G⟩,rfl⟩ ?_
   obtain⟨m47,y46,hm47,hy46,h⟩:=Y9 h
   obtain⟨r48,hr48,h⟩:=Ga h
   obtain⟨y49,hmy49,hy49,h⟩:=Qfa h
   refine J4 [15] [0,0,0,0,0,0,0,0,0,0,0,0,0,0,0,0] [0,0,0,0,0,0,0,0,0,0,0,0,0,0,0,0] [[(1197,TP 93 Slot.kv Box.av (Gt.empty:Gt Slot Box)),(1198,TP 94 (fun n:Int=>Value.int .i64 n) Box.av (Gt.empty:Gt Int Box)),(1199,TP 95 (fun n:Int=>Value.int .i64 n) I64 (Gt.empty:Gt Int Int)),(1089,.vec 107 2 0 (s41.map G8.av)),(1196,.box 97 [E1 r8,.vec 1089 0 2 r9.length,I64 0,I64 0,I64 0,I64 0,E3 ([]:List Row),E4 ([]:List Frame),E5 ([]:List Gp),I64 0,I64 0,I64 0,I64 0,.mp 1197,.mp 1198,.mp 1199,I64 0])],((1089,.vec 107 2 0 ((s41.set (i41:Int).toNat (G8.mk y49.Bay r48)).map G8.av))::[(1197,TP 93 Slot.kv Box.av (Gt.empty:Gt Slot Box)),(1198,TP 94 (fun n:Int=>Value.int .i64 n) Box.av (Gt.empty:Gt Int Box)),(1199,TP 95 (fun n:Int=>Value.int .i64 n) I64 (Gt.empty:Gt Int Int)),(1089,.vec 107 2 0 (s41.map G8.av)),(1196,.box 97 [E1 r8,.vec 1089 0 2 r9.length,I64 0,I64 0,I64 0,I64 0,E3 ([]:List Row),E4 ([]:List Frame),E5 ([]:List Gp),I64 0,I64 0,I64 0,I64 0,.mp 1197,.mp 1198,.mp 1199,I64 0])])] J0 (by kernel_rfl) rfl rfl ?_
   refine Gd (u:=.ptr 1196 0) O O ⟨Ge (G6 O O) O,G⟩ (Gd (u:=.ptr 1196 0) O O ⟨Ge (Rk O O) O,G⟩ (Gd (u:=.ptr 1196 0) O O ⟨Ge (Hh Rb O O) O,G⟩ (Gd (u:=.ptr 1196 1) O O ⟨Ge (Hh Jo O O) O,G⟩ (Gd (u:=.vec 1089 0 2 r9.length) O O ⟨Ge (Hx Qa O O O O) O,G⟩ (Gd (u:=En i41) O O ⟨Ge (G6 O O) O,G⟩ (Gd (u:=.dptr ((Gk.cs s).drop 1)) O O ⟨Ge (G9 Jo O O O) O,G⟩ (Gd (u:=E7 s.Covers) O O ⟨Ge (Gg Qa O O O) O,G⟩ (Gd (u:=En i41) O O ⟨Ge (G6 O O) O,G⟩ (Gd (u:=.dptr [I64 y46.Bay,E2 y46.Rows]) O O ⟨Ge (Hf (f:=G8.av) (xs:=s.Covers) (y:=y46) O O O Ji hy46 hm47) O,G⟩ (Gd (u:=.dptr [E2 y46.Rows]) O O ⟨Ge (G9 G02 O O O) O,G⟩ (Gd (u:=E2 y46.Rows) O O ⟨Ge (Gg Yi O O O) O,G⟩ (Gd (u:=E2 r48) O O ⟨Ge (Gs O (G3a y46.Rows r48 hr48) Hd2 ⟨O,O,G⟩) O,G⟩ (Gd (u:=.vptr 1089 0 ((i41:Int).toNat) 0) O O ⟨Ge (Y37 (f:=G8.av) (xs:=s41) (y:=y49) O O O O Ji hy49 hmy49) O,G⟩ ?_)))))))))))))
   refine Gd (u:=.vptr 1089 0 ((i41:Int).toNat) 1) O O ⟨Ge (R99 G02 O O O) O,G⟩ (H85 (u:=.junk) O O O O (Ge (R0c (f:=G8.av) (xs:=s41) (e:=y49) (z:=(G8.mk y49.Bay r48)) (u:=E2 r48) Hca O O O O hy49 O O O O O) O) (Qw (hK44 (G1 (JLh (I64 ((i41+1:Nat):Int)) (Jf (J6 hk41 hm43) O O O) O (JLm (I64 ((i41+1:Nat):Int)) O (G5 (e41 _ _ (i41+1) (s41.set (i41:Int).toNat (G8.mk y49.Bay r48)) (app1 hn41 h) (by omega) ⟨(.sm O O),⟨⟨_,rfl,.map⟩,⟨_,rfl,.map⟩,⟨_,rfl,.map⟩,⟨_,rfl,.vec⟩,⟨_,rfl,.boxL rfl (.sm O O)⟩,G⟩,rfl⟩))))))))
  ·
   have h:=app1 hkx41 (Ja hi41 (Hs hb))
   refine Je (hK11 (Js fun hK50=>Jr fun hK51=>(JLm (E6 state) O (JLl H3 O O O fun hm64=>(JLm (I64 0) O (G5 (hK51 (Gw ?_))))))))
   obtain⟨b76,kx76,hb76,hkx76,h⟩:=Jx h
   refine Jb (fun i76 (s76:(Gt Slot Box))=>each b76 kx76 (List.drop i76 state) i76 s76=some r) (fun i76 s76=>[(1,E8 boxes),(2,E6 state),(3,E2 ashore),(10,.ptr 1196 0),(63,E6 state),(64,En state.length),(65,En i76)]) (fun i76 s76=>[(1197,TP 93 Slot.kv Box.av s76),(1198,TP 94 (fun n:Int=>Value.int .i64 n) Box.av (Gt.empty:Gt Int Box)),(1199,TP 95 (fun n:Int=>Value.int .i64 n) I64 (Gt.empty:Gt Int Int)),(1089,.vec 107 2 0 (s41.map G8.av)),(1196,.box 97 [E1 r8,.vec 1089 0 2 r9.length,I64 0,I64 0,I64 0,I64 0,E3 ([]:List Row),E4 ([]:List Frame),E5 ([]:List Gp),I64 0,I64 0,I64 0,I64 0,.mp 1197,.mp 1198,.mp 1199,I64 0])]) (fun i76=>state.length - i76) 0 (Gt.empty:Gt Slot Box) h ⟨(.sm O O),⟨⟨_,rfl,.map⟩,⟨_,rfl,.map⟩,⟨_,rfl,.map⟩,⟨_,rfl,.vec⟩,⟨_,rfl,.boxL rfl (.sm O O)⟩,G⟩,rfl⟩ ?_
   clear h
   intro i76 s76 hi76 K76 e76
   refine Jr fun hK77=>(JLh (BL (decide ((i76:Int) < (state.length:Int)))) (Qg O O O) O (G5 (hK77 (Js fun hK78=>Gn O (fun hb=>?_) (fun hb=>?_)))))
   ·
    have hk76:=Qr hb
    obtain⟨y76,nx76,hy76,hn76,h⟩:=J9 hi76 hk76
    replace h:=G17 hb76 h
    refine Gr (hK78 (Js fun hK79=>Gw (Jr fun hK80=>(JLh (Ei y76) (Hf (f:=Stowed.av) (xs:=state) (y:=y76) O O O H3 hy76 O) O (JLh (.agg (Stowed.cs y76)) (Gi R3 O O O) O (JLh (.ptr 1033 0) (Hp 1033 4 Jw O O) O (Ho (u:=.junk) (Hc (u:=.agg (Stowed.cs y76)) (ds:=[I64 y76.Box,I64 y76.Slot.G2,I64 y76.Slot.Tier,U8 y76.Slot.Half]) G0b O O O O O O O O) (G5 (hK80 ?_)))))))))
    refine Gm [(1,E8 boxes),(2,E6 state),(3,E2 ashore),(10,.ptr 1196 0),(13,Ei y76),(63,E6 state),(64,En state.length),(65,En i76)] [(1197,TP 93 Slot.kv Box.av s76),(1198,TP 94 (fun n:Int=>Value.int .i64 n) Box.av (Gt.empty:Gt Int Box)),(1199,TP 95 (fun n:Int=>Value.int .i64 n) I64 (Gt.empty:Gt Int Int)),(1089,.vec 107 2 0 (s41.map G8.av)),(1196,.box 97 [E1 r8,.vec 1089 0 2 r9.length,I64 0,I64 0,I64 0,I64 0,E3 ([]:List Row),E4 ([]:List Frame),E5 ([]:List Gp),I64 0,I64 0,I64 0,I64 0,.mp 1197,.mp 1198,.mp 1199,I64 0])] 1033 rfl rfl rfl ⟨⟨_,rfl,.map⟩,⟨_,rfl,.map⟩,⟨_,rfl,.map⟩,⟨_,rfl,.vec⟩,⟨_,rfl,.boxEq rfl rfl⟩,G⟩ rfl (by repeat' (first | exact .ptr | constructor)) ?_
    refine Qc (l':=[(1,E8 boxes),(2,E6 state),(3,E2 ashore),(10,.ptr 1196 0),(13,Ei y76),(63,E6 state),(64,En state.length),(65,En i76)]) (L':=[(1197,TP 93 Slot.kv Box.av s76),(1198,TP 94 (fun n:Int=>Value.int .i64 n) Box.av (Gt.empty:Gt Int Box)),(1199,TP 95 (fun n:Int=>Value.int .i64 n) I64 (Gt.empty:Gt Int Int)),(1089,.vec 107 2 0 (s41.map G8.av)),(1196,.box 97 [E1 r8,.vec 1089 0 2 r9.length,I64 0,I64 0,I64 0,I64 0,E3 ([]:List Row),E4 ([]:List Frame),E5 ([]:List Gp),I64 0,I64 0,I64 0,I64 0,.mp 1197,.mp 1198,.mp 1199,I64 0])]) ⟨(.sm O O),⟨⟨_,rfl,.map⟩,⟨_,rfl,.map⟩,⟨_,rfl,.map⟩,⟨_,rfl,.vec⟩,⟨_,rfl,.boxL rfl (.sm O O)⟩,G⟩,rfl⟩ ?_
    obtain⟨r81,hr81,h⟩:=Ga h
    refine J4 [13] [0,0,0,0,0,0,0,0,0,0,0,0,0,0] [0,0,0,0,0,0,0,0,0,0,0,0,1,0] [[(1197,TP 93 Slot.kv Box.av s76),(1198,TP 94 (fun n:Int=>Value.int .i64 n) Box.av (Gt.empty:Gt Int Box)),(1199,TP 95 (fun n:Int=>Value.int .i64 n) I64 (Gt.empty:Gt Int Int)),(1089,.vec 107 2 0 (s41.map G8.av)),(1196,.box 97 [E1 r8,.vec 1089 0 2 r9.length,I64 0,I64 0,I64 0,I64 0,E3 ([]:List Row),E4 ([]:List Frame),E5 ([]:List Gp),I64 0,I64 0,I64 0,I64 0,.mp 1197,.mp 1198,.mp 1199,I64 0])],((1197,TP 93 Slot.kv Box.av (Gt.put s76 y76.Slot r81.1))::[(1197,TP 93 Slot.kv Box.av s76),(1198,TP 94 (fun n:Int=>Value.int .i64 n) Box.av (Gt.empty:Gt Int Box)),(1199,TP 95 (fun n:Int=>Value.int .i64 n) I64 (Gt.empty:Gt Int Int)),(1089,.vec 107 2 0 (s41.map G8.av)),(1196,.box 97 [E1 r8,.vec 1089 0 2 r9.length,I64 0,I64 0,I64 0,I64 0,E3 ([]:List Row),E4 ([]:List Frame),E5 ([]:List Gp),I64 0,I64 0,I64 0,I64 0,.mp 1197,.mp 1198,.mp 1199,I64 0])])] J0 (by kernel_rfl) rfl rfl ?_
    refine Gd (u:=.ptr 1196 0) O O ⟨Ge (G6 O O) O,G⟩ (Gd (u:=.ptr 1196 0) O O ⟨Ge (Rk O O) O,G⟩ (Gd (u:=.ptr 1196 13) O O ⟨Ge (Hh Ye O O) O,G⟩ (Gd (u:=.mp 1197) O O ⟨Ge (Hx Yh O O O O) O,G⟩ (Gd (u:=.dptr ((Stowed.cs y76).drop 1)) O O ⟨Ge (G9 Jn O O O) O,G⟩ (Gd (u:=.agg ((Stowed.cs y76).drop 1)) O O ⟨Ge (Gi Hu O O O) O,G⟩ (Gd (u:=E8 boxes) O O ⟨Ge (G6 O O) O,G⟩ (Gd (u:=Ei y76) O O ⟨Ge (G9 Jm O O O) O,G⟩ (Gd (u:=I64 y76.Box) O O ⟨Ge (Gg Gc O O O) O,G⟩ (Gd (u:=.tup [.agg (Box.cs r81.1),BL r81.2]) O O ⟨Ge (Gs O (H55 boxes y76.Box r81 hr81) Hd1 ⟨O,O,O,O,G⟩) O,G⟩ (Gd (u:=.tup [.agg (Box.cs r81.1),BL r81.2]) O O ⟨Ge (G6 O O) O,G⟩ (Gd (u:=.agg (Box.cs r81.1)) O O ⟨Ge (Gz O O O) O,G⟩ (Gd (u:=BL r81.2) O O ⟨Ge (Gz O O O) O,Ge (Gz O O O) O,G⟩ (H85 (u:=.junk) O O O O (Ge (G69 (m:=s76) (a:=y76.Slot) (v:=r81.1) (fun _=>O) O O O O O O Qe0 G4a) O) (Qw ?_))))))))))))))
    refine hK79 (G1 (JLh (I64 ((i76+1:Nat):Int)) (Jf (J6 hk76 hm64) O O O) O (JLm (I64 ((i76+1:Nat):Int)) O (G5 (e76 _ _ (i76+1) (Gt.put s76 y76.Slot r81.1) (app1 hn76 h) (by omega) ⟨(.sm O O),⟨⟨_,rfl,.map⟩,⟨_,rfl,.map⟩,⟨_,rfl,.map⟩,⟨_,rfl,.vec⟩,⟨_,rfl,.boxL rfl (.sm O O)⟩,G⟩,rfl⟩)))))
   ·
    have h:=app1 hkx76 (Ja hi76 (Hs hb))
    refine Je (hK50 (Js fun hK82=>Jr fun hK83=>(JLm (E2 ashore) O (JLl Gx O O O fun hm84=>(JLm (I64 0) O (G5 (hK83 (Gw ?_))))))))
    obtain⟨b156,kx156,hb156,hkx156,h⟩:=Jx h
    refine Jb (fun i156 (s156:(Gt Int Box))=>each b156 kx156 (List.drop i156 ashore) i156 s156=some r) (fun i156 s156=>[(1,E8 boxes),(2,E6 state),(3,E2 ashore),(10,.ptr 1196 0),(83,E2 ashore),(84,En ashore.length),(85,En i156)]) (fun i156 s156=>[(1197,TP 93 Slot.kv Box.av s76),(1198,TP 94 (fun n:Int=>Value.int .i64 n) Box.av s156),(1199,TP 95 (fun n:Int=>Value.int .i64 n) I64 (Gt.empty:Gt Int Int)),(1089,.vec 107 2 0 (s41.map G8.av)),(1196,.box 97 [E1 r8,.vec 1089 0 2 r9.length,I64 0,I64 0,I64 0,I64 0,E3 ([]:List Row),E4 ([]:List Frame),E5 ([]:List Gp),I64 0,I64 0,I64 0,I64 0,.mp 1197,.mp 1198,.mp 1199,I64 0])]) (fun i156=>ashore.length - i156) 0 (Gt.empty:Gt Int Box) h ⟨(.sm O O),⟨⟨_,rfl,.map⟩,⟨_,rfl,.map⟩,⟨_,rfl,.map⟩,⟨_,rfl,.vec⟩,⟨_,rfl,.boxL rfl (.sm O O)⟩,G⟩,rfl⟩ ?_
    clear h
    intro i156 s156 hi156 K156 e156
    refine Jr fun hK157=>(JLh (BL (decide ((i156:Int) < (ashore.length:Int)))) (Qg O O O) O (G5 (hK157 (Js fun hK158=>Gn O (fun hb=>?_) (fun hb=>?_)))))
    ·
     have hk156:=Qr hb
     obtain⟨y156,nx156,hy156,hn156,h⟩:=J9 hi156 hk156
     replace h:=G17 hb156 h
     refine Gr (hK158 (Js fun hK159=>Gw (Jr fun hK160=>(JLm (En i156) O (JLh (.dptr [I64 y156]) (Hf (f:=I64) (xs:=ashore) (y:=y156) O O O Gx hy156 O) O (JLh (I64 y156) (Gg Gc O O O) O (JLh (.ptr 1034 0) (Hp 1034 1 R5 O O) O (JLm (En i156) O (Ho (u:=.junk) (Hc (u:=I64 y156) (ds:=[I64 y156]) G2b O O O O O O O O) (G5 (hK160 ?_)))))))))))
     refine Gm [(1,E8 boxes),(2,E6 state),(3,E2 ashore),(10,.ptr 1196 0),(14,En i156),(15,.dptr [I64 y156]),(83,E2 ashore),(84,En ashore.length),(85,En i156)] [(1197,TP 93 Slot.kv Box.av s76),(1198,TP 94 (fun n:Int=>Value.int .i64 n) Box.av s156),(1199,TP 95 (fun n:Int=>Value.int .i64 n) I64 (Gt.empty:Gt Int Int)),(1089,.vec 107 2 0 (s41.map G8.av)),(1196,.box 97 [E1 r8,.vec 1089 0 2 r9.length,I64 0,I64 0,I64 0,I64 0,E3 ([]:List Row),E4 ([]:List Frame),E5 ([]:List Gp),I64 0,I64 0,I64 0,I64 0,.mp 1197,.mp 1198,.mp 1199,I64 0])] 1034 rfl rfl rfl ⟨⟨_,rfl,.map⟩,⟨_,rfl,.map⟩,⟨_,rfl,.map⟩,⟨_,rfl,.vec⟩,⟨_,rfl,.boxEq rfl rfl⟩,G⟩ rfl (by repeat' (first | exact .ptr | constructor)) ?_
     refine Jr fun hK161=>(JLm (E8 boxes) O (JLh (I64 y156) (Gg Gc O O O) O ?_))
     obtain⟨r162,hr162,h⟩:=Ga h
     refine JLh (.tup [.agg (Box.cs r162.1),BL r162.2]) (Gs O (H55 boxes y156 r162 hr162) Hd1 ⟨O,O,O,O,G⟩) O (JLm (.tup [.agg (Box.cs r162.1),BL r162.2]) O (JLh (.agg (Box.cs r162.1)) (Gz O O O) O (JLh (BL r162.2) (Gz O O O) O (JLh (.ptr 1035 0) (Hp 1035 9 Qt O O) O (Ho (u:=.junk) (Hc (u:=.agg (Box.cs r162.1)) (ds:=(Box.cs r162.1)) Rq O O O O O O O O) (JLm (BL r162.2) O (G5 (hK161 ?_))))))))
     refine Gm [(1,E8 boxes),(2,E6 state),(3,E2 ashore),(10,.ptr 1196 0),(14,En i156),(15,.dptr [I64 y156]),(16,Eh r162.1),(17,BL r162.2),(83,E2 ashore),(84,En ashore.length),(85,En i156)] [(1197,TP 93 Slot.kv Box.av s76),(1198,TP 94 (fun n:Int=>Value.int .i64 n) Box.av s156),(1199,TP 95 (fun n:Int=>Value.int .i64 n) I64 (Gt.empty:Gt Int Int)),(1089,.vec 107 2 0 (s41.map G8.av)),(1196,.box 97 [E1 r8,.vec 1089 0 2 r9.length,I64 0,I64 0,I64 0,I64 0,E3 ([]:List Row),E4 ([]:List Frame),E5 ([]:List Gp),I64 0,I64 0,I64 0,I64 0,.mp 1197,.mp 1198,.mp 1199,I64 0])] 1035 rfl rfl rfl ⟨⟨_,rfl,.map⟩,⟨_,rfl,.map⟩,⟨_,rfl,.map⟩,⟨_,rfl,.vec⟩,⟨_,rfl,.boxEq rfl rfl⟩,G⟩ rfl (by repeat' (first | exact .ptr | constructor)) ?_
     refine Js fun hK163=>Js fun hK164=>?_
     refine Qc (l':=[(1,E8 boxes),(2,E6 state),(3,E2 ashore),(10,.ptr 1196 0),(14,En i156),(15,.dptr [I64 y156]),(16,Eh r162.1),(17,BL r162.2),(83,E2 ashore),(84,En ashore.length),(85,En i156)]) (L':=[(1197,TP 93 Slot.kv Box.av s76),(1198,TP 94 (fun n:Int=>Value.int .i64 n) Box.av s156),(1199,TP 95 (fun n:Int=>Value.int .i64 n) I64 (Gt.empty:Gt Int Int)),(1089,.vec 107 2 0 (s41.map G8.av)),(1196,.box 97 [E1 r8,.vec 1089 0 2 r9.length,I64 0,I64 0,I64 0,I64 0,E3 ([]:List Row),E4 ([]:List Frame),E5 ([]:List Gp),I64 0,I64 0,I64 0,I64 0,.mp 1197,.mp 1198,.mp 1199,I64 0])]) ⟨(.sm O O),⟨⟨_,rfl,.map⟩,⟨_,rfl,.map⟩,⟨_,rfl,.map⟩,⟨_,rfl,.vec⟩,⟨_,rfl,.boxL rfl (.sm O O)⟩,G⟩,rfl⟩ ?_
     obtain⟨v165,hv165,h⟩:=Ga h
     obtain⟨y166,hy166,h⟩:=Ga h
     obtain⟨r167,hr167,h⟩:=Ga h
     refine JC_d0 J0 (by kernel_rfl) (Dq (BL r162.2) (G6 O O) O (Dq (BL (!r162.2)) (Qx (b:=r162.2) O O) O (Dq (BL (!r162.2)) (G6 O O) O (Do (En i156) [] O .scf G (fun hc=>G6 O O) O (Do (BL (decide (0 < (i156:Int)))) [99] O .scf ⟨Ua,G⟩ (fun hc=>Gb9 O O O) O (Do (BL (decide (0 < (i156:Int)))) [100] O .scf ⟨Ua,G⟩ (fun hc=>G6 O O) O (Do (I64 y156) [] O .optt G (fun hc=>Gg Gc O O O) O (Do (E2 ashore) [] O .optt G (fun hc=>G6 O O) O (Do (En i156) [] O .optt G (fun hc=>G6 O O) O (Do (I64 v165) [104] O .optt ⟨Ua,G⟩ (fun hc=>H49 (H29 (H1 hc hv165)) O O O) O (Do (.dptr [I64 y166]) [103,105] O .optt ⟨Ua,Ua,G⟩ (fun hc=>(match Zi (H1 hc hy166) with | ⟨_,hm_,hy_⟩=>Hf (f:=I64) (xs:=ashore) (y:=y166) O O O Gx hy_ hm_)) O (Do (I64 y166) [106] O .optt ⟨Ua,G⟩ (fun hc=>Gg Gc O O O) O (Do (BL (decide (y156≤y166))) [102,107] O .optt ⟨Ua,Ua,G⟩ (fun hc=>J06 O O O) O ?_)))))))))))))
     refine Dg (.opt (!(!r162.2)) (BL ((decide (0 < (i156:Int)))&&(decide (y156≤y166))))) (H6 [(101,BL (decide (0 < (i156:Int)))),(108,_)] O O O .scf ⟨.all id,.part,G⟩ (fun hc=>Rm O O O O) O) O (Dq (BL ((!r162.2)||((decide (0 < (i156:Int)))&&(decide (y156≤y166))))) (G28 O O O O) O (Dq (BL ((!r162.2)||((decide (0 < (i156:Int)))&&(decide (y156≤y166))))) (G6 O O) O (Do (E6 state) [] O .scf G (fun hc=>G6 O O) O (Do (.fn 46 [.dptr [I64 y156]]) [] O .scf G (fun hc=>Jy (cs:=[.dptr [I64 y156]]) O O) O (Do (BL r167) [112,113] O .scf ⟨Ua,Ua,G⟩ (fun hc=>Gs (args:=[E6 state,.fn 46 [.dptr [I64 y156]]]) O (Qd state (fun z0=>G20 z0 y156) 46 [.dptr [I64 y156]] Q5f O (fun z0 q hq=>Hff z0 y156 q hq) r167 (H1 hc hr167)) H06 ⟨O,O,O,O,G⟩) O (Dq (BL (((!r162.2)||((decide (0 < (i156:Int)))&&(decide (y156≤y166))))||r167)) (G28 O O O O) O (Dnil ?_)))))))
     refine hK164 (JCc O h (fun h hb=>?_) (fun h hb=>?_))
     ·
      refine Jr fun hK168=>(JLm (.sc (.pointer none)) O (JLm (I64 2) O (G5 (hK168 (Gq ?_)))))
      cases h
     ·
      refine Gr (hK163 ?_)
      refine Qc (l':=[(1,E8 boxes),(2,E6 state),(3,E2 ashore),(10,.ptr 1196 0),(15,.dptr [I64 y156]),(16,Eh r162.1),(83,E2 ashore),(84,En ashore.length),(85,En i156)]) (L':=[(1197,TP 93 Slot.kv Box.av s76),(1198,TP 94 (fun n:Int=>Value.int .i64 n) Box.av s156),(1199,TP 95 (fun n:Int=>Value.int .i64 n) I64 (Gt.empty:Gt Int Int)),(1089,.vec 107 2 0 (s41.map G8.av)),(1196,.box 97 [E1 r8,.vec 1089 0 2 r9.length,I64 0,I64 0,I64 0,I64 0,E3 ([]:List Row),E4 ([]:List Frame),E5 ([]:List Gp),I64 0,I64 0,I64 0,I64 0,.mp 1197,.mp 1198,.mp 1199,I64 0])]) ⟨(.sm O O),⟨⟨_,rfl,.map⟩,⟨_,rfl,.map⟩,⟨_,rfl,.map⟩,⟨_,rfl,.vec⟩,⟨_,rfl,.boxL rfl (.sm O O)⟩,G⟩,rfl⟩ ?_
      refine J4 [6] [0,0,0,0,0,0,0] [0,0,0,0,0,0,0] [[(1197,TP 93 Slot.kv Box.av s76),(1198,TP 94 (fun n:Int=>Value.int .i64 n) Box.av s156),(1199,TP 95 (fun n:Int=>Value.int .i64 n) I64 (Gt.empty:Gt Int Int)),(1089,.vec 107 2 0 (s41.map G8.av)),(1196,.box 97 [E1 r8,.vec 1089 0 2 r9.length,I64 0,I64 0,I64 0,I64 0,E3 ([]:List Row),E4 ([]:List Frame),E5 ([]:List Gp),I64 0,I64 0,I64 0,I64 0,.mp 1197,.mp 1198,.mp 1199,I64 0])],((1198,TP 94 (fun n:Int=>Value.int .i64 n) Box.av (Gt.put s156 y156 r162.1))::[(1197,TP 93 Slot.kv Box.av s76),(1198,TP 94 (fun n:Int=>Value.int .i64 n) Box.av s156),(1199,TP 95 (fun n:Int=>Value.int .i64 n) I64 (Gt.empty:Gt Int Int)),(1089,.vec 107 2 0 (s41.map G8.av)),(1196,.box 97 [E1 r8,.vec 1089 0 2 r9.length,I64 0,I64 0,I64 0,I64 0,E3 ([]:List Row),E4 ([]:List Frame),E5 ([]:List Gp),I64 0,I64 0,I64 0,I64 0,.mp 1197,.mp 1198,.mp 1199,I64 0])])] J0 (by kernel_rfl) rfl rfl ?_
      refine Gd (u:=.ptr 1196 0) O O ⟨Ge (G6 O O) O,G⟩ (Gd (u:=.ptr 1196 0) O O ⟨Ge (Rk O O) O,G⟩ (Gd (u:=.ptr 1196 14) O O ⟨Ge (Hh G1c O O) O,G⟩ (Gd (u:=.mp 1198) O O ⟨Ge (Hx G15 O O O O) O,G⟩ (Gd (u:=I64 y156) O O ⟨Ge (Gg Gc O O O) O,G⟩ (Gd (u:=.agg (Box.cs r162.1)) O O ⟨Ge (Gi Yj O O O) O,G⟩ (H85 (u:=.junk) O O O O (Ge (G69 (m:=s156) (a:=y156) (v:=r162.1) (fun _=>O) O O O O O O Q44 H04) O) (Qw (hK159 (G1 (JLh (I64 ((i156+1:Nat):Int)) (Jf (J6 hk156 hm84) O O O) O (JLm (I64 ((i156+1:Nat):Int)) O (G5 ?_))))))))))))
      exact e156 _ _ (i156+1) (Gt.put s156 y156 r162.1) (app1 hn156 h) (by omega) ⟨(.sm O O),⟨⟨_,rfl,.map⟩,⟨_,rfl,.map⟩,⟨_,rfl,.map⟩,⟨_,rfl,.vec⟩,⟨_,rfl,.boxL rfl (.sm O O)⟩,G⟩,rfl⟩
    ·
     have h:=app1 hkx156 (Ja hi156 (Hs hb))
     refine Je (hK82 (Jr fun hK169=>(JLm (.ptr 1196 0) O (JLm (.ptr 1196 0) O (JLm (I64 0) O (G5 (hK169 (R09 1196 1 (0+1) O O O (Nat.lt_succ_self _) (cs':=[E1 r8,E7 s41,I64 0,I64 0,I64 0,I64 0,E3 ([]:List Row),E4 ([]:List Frame),E5 ([]:List Gp),I64 0,I64 0,I64 0,I64 0,.mp 1197,.mp 1198,.mp 1199,I64 0]) O (Gq ?_)))))))))
     obtain rfl:=Option.some.inj h
     exact⟨[.ptr 1196 0,I64 0],[(1196,.box 97 [E1 r8,E7 s41,I64 0,I64 0,I64 0,I64 0,E3 ([]:List Row),E4 ([]:List Frame),E5 ([]:List Gp),I64 0,I64 0,I64 0,I64 0,.mp 1197,.mp 1198,.mp 1199,I64 0]),(1197,TP 93 Slot.kv Box.av s76),(1198,TP 94 (fun n:Int=>Value.int .i64 n) Box.av s156),(1199,TP 95 (fun n:Int=>Value.int .i64 n) I64 (Gt.empty:Gt Int Int))],⟨⟨_,rfl,.boxL rfl (.sm O O)⟩,⟨_,rfl,.map⟩,⟨_,rfl,.map⟩,⟨_,rfl,.map⟩,G⟩,rfl,⟨⟨_,rfl,.conv (.same rfl)⟩,⟨_,rfl,.conv (.same rfl)⟩,G⟩,rfl,rfl⟩

end
end Go.Proofs.YtidpfkmbfgihlaaGreat
