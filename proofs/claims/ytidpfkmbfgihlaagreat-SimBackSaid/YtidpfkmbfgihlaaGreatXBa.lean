/-
 Models of functions of the program,and that they return what the models say.
-/
import Derived.Test.YtidpfkmbfgihlaaGreatSpecU
set_option maxRecDepth 100000
set_option maxHeartbeats 1000000
set_option linter.unusedVariables false
set_option linter.unusedSimpArgs false
namespace Go.Proofs.YtidpfkmbfgihlaaGreat
open Go.RowKit
noncomputable section
structure Gu where
 G2:Int
 Kilos:Int
 Small:Bool
 High:Bool
 deriving DecidableEq,Inhabited
def Gu.cs (x:Gu):List AV:=[U8 x.G2,U8 x.Kilos,BL x.Small,BL x.High]
def Gu.av (x:Gu):AV:=.agg x.cs
abbrev Em (x:Gu):AV:=.dptr (Gu.cs x)
abbrev Eb:=LS 4 Gu.av
structure Ha where
 Bay:Int
 Row:Int
 Tiers:Int
 Deck:Bool
 deriving DecidableEq,Inhabited
def Ha.cs (x:Ha):List AV:=[U8 x.Bay,U8 x.Row,U8 x.Tiers,BL x.Deck]
def Ha.av (x:Ha):AV:=.agg x.cs
abbrev Ed:=LS 4 Ha.av
structure Hd where
 Kind:Int
 Box:Int
 G2:Int
 Tier:Int
 Half:Int
 G8:Int
 deriving DecidableEq,Inhabited
def Hd.cs (x:Hd):List AV:=[U8 x.Kind,U8 x.Box,U8 x.G2,U8 x.Tier,U8 x.Half,U8 x.G8]
def Hd.av (x:Hd):AV:=.agg x.cs
namespace XBF
open XAF
open XCF
open XSF
open XKF
open XTF
open XUF
theorem Rd7:Gf2 Eo 132 4=true:=by kernel_rfl
theorem Q6b:Gf2 Eo 135 4=true:=by kernel_rfl
theorem G89:H7 Eo 10=true:=by kernel_rfl
theorem Gcf:H7 Eo 11=true:=by kernel_rfl
theorem J6b:H7 Eo 12=true:=by kernel_rfl
theorem Jfa:H7 Eo 122=true:=by kernel_rfl
theorem R57:H7 Eo 123=true:=by kernel_rfl
theorem R56:H7 Eo 124=true:=by kernel_rfl
theorem Hd5:H7 Eo 14=true:=by kernel_rfl
theorem R4d:H7 Eo 153=true:=by kernel_rfl
theorem H07:H7 Eo 18=true:=by kernel_rfl
theorem Q66:H7 Eo 29=true:=by kernel_rfl
theorem Q65:H7 Eo 30=true:=by kernel_rfl
theorem Q64:H7 Eo 33=true:=by kernel_rfl
theorem Rbb:H7 Eo 69=true:=by kernel_rfl
theorem Q5b:H7 Eo 70=true:=by kernel_rfl
theorem J63:Z5 Eo 60 9 64=true:=by kernel_rfl
theorem Q51:Jj Eo 132 0 0=true:=by kernel_rfl
theorem Q50:Jj Eo 132 1 1=true:=by kernel_rfl
theorem Q4f:Jj Eo 132 2 2=true:=by kernel_rfl
theorem Q4e:Jj Eo 132 3 3=true:=by kernel_rfl
theorem J14:Jj Eo 135 0 0=true:=by kernel_rfl
theorem J13:Jj Eo 135 1 1=true:=by kernel_rfl
theorem J12:Jj Eo 135 2 2=true:=by kernel_rfl
theorem J11:Jj Eo 135 3 3=true:=by kernel_rfl
theorem Qcd:Jj Eo 66 0 0=true:=by kernel_rfl
theorem J54:Jj Eo 66 1 1=true:=by kernel_rfl
theorem Qcc:Jj Eo 66 2 2=true:=by kernel_rfl
theorem Qcb:Jj Eo 66 3 3=true:=by kernel_rfl
theorem J53:Jj Eo 66 4 4=true:=by kernel_rfl
theorem Qca:Jj Eo 66 5 5=true:=by kernel_rfl
theorem Zd:Ja4 Eo 3 .i64=true:=by kernel_rfl
theorem G01:Ja4 Eo 5 .u8=true:=by kernel_rfl
theorem Ha2:placesOf Eo 107=some [(0,1),(1,1)]:=by kernel_rfl
theorem Qn:placesOf Eo 45=some [(0,1),(1,1),(2,3),(5,1)]:=by kernel_rfl
theorem G60:placesOf Eo 58=some [(0,1),(1,1),(2,1),(3,1),(4,1),(5,1),(6,1),(7,1),(8,1),(9,1),(10,1),(11,1)]:=by kernel_rfl
theorem R48:Yt Eo 132 4=true:=by kernel_rfl
theorem Jf3:Yt Eo 135 4=true:=by kernel_rfl
theorem J62:Yt Eo 26 1=true:=by kernel_rfl
theorem Q48:Yt Eo 27 1=true:=by kernel_rfl
theorem H60:Yt Eo 45 6=true:=by kernel_rfl
theorem J33:Yt Eo 5 1=true:=by kernel_rfl
theorem H8f:sliceB Eo 22 132 4=true:=by kernel_rfl
theorem G5a:sliceB Eo 24 135 4=true:=by kernel_rfl
theorem J0d:(Eo.info? 107).bind (fun i=>i.zero.map Value.cells)=some (List.toArray [E0,.slice none 0 0]):=by kernel_rfl
theorem R44:(Eo.info? 136).bind (fun i=>i.zero.map Value.cells)=some (List.toArray [.slice none 0 0]):=by kernel_rfl
theorem R6:(Eo.info? 45).bind (fun i=>i.zero.map Value.cells)=some (List.toArray [.int .u8 0,E0,E0,E0,.int .u8 0,E0]):=by kernel_rfl
theorem Gcc:(Eo.info? 58).bind (fun i=>i.zero.map Value.cells)=some (List.toArray [E0,E0,.bool false,E0,E0,E0,E0,E0,.slice none 0 0,E0,E0,E0]):=by kernel_rfl
theorem R16:Y1 Eo 132 4=true:=by kernel_rfl
theorem J8d:Y1 Eo 135 4=true:=by kernel_rfl
theorem Gd6:Y1 Eo 36 13=true:=by kernel_rfl
theorem Gd5:Y1 Eo 45 6=true:=by kernel_rfl
end XBF
open XAF
open XCF
open XSF
open XKF
open XTF
open XUF
open XBF

def H51 (s:Gk) (size:Int):Option Unit:=
 some ()
theorem Qac (s:Gk) (size:Int) (r:Unit) (h:H51 s size=some r):Pure Eo 124 [.agg (Gk.cs s),U8 size] (·=.fn 153 [.dptr (Gk.cs s),.dptr [U8 size]]):=by
 unfold H51 at h
 refine Gy [.tmp 4] Tryz.func124 O O (Jr fun hK1=>(JLh (.ptr 1172 0) (Jk (cs:=(Gk.cs s)) 1172 O O O O O) O (JLh (.ptr 1173 0) (Jk (cs:=[U8 size]) 1173 O O O O O) O (JLm (.sc .nilFunc) O (G5 (hK1 (Gm [(2,Eg s),(3,.ptr 1173 0)] [(1173,.box 5 [U8 size])] 1172 rfl rfl rfl ⟨⟨_,rfl,.boxEq rfl rfl⟩,G⟩ rfl (by exact⟨.ptr,.conv (.same rfl),G⟩) (Gm [(2,Eg s),(3,.dptr [U8 size])] [] 1173 rfl rfl rfl G rfl (by exact⟨.conv (.same rfl),.ptr,G⟩) ?_))))))))
 refine Jr fun hK2=>(JLh (.fn 153 [.dptr (Gk.cs s),.dptr [U8 size]]) (Jy (cs:=[.dptr (Gk.cs s),.dptr [U8 size]]) O O) O (JLm (.fn 153 [.dptr (Gk.cs s),.dptr [U8 size]]) O (G5 (hK2 (Gq (⟨[.fn 153 [.dptr (Gk.cs s),.dptr [U8 size]]],[],G,O,⟨⟨_,O,.conv (.same O)⟩,G⟩,O,congrArg (fun _:Unit=>(.fn 153 [.dptr (Gk.cs s),.dptr [U8 size]]:AV)) (Option.some.inj h)⟩))))))

def H7f (s:Gk) (size:Int):Option (List Slot):=
 bnd (H51 s size) fun r5=>
 bnd (Gf3 s size) fun ys8=>
 each (fun y8 i8 (s8:(List Slot)) nx8=>
  need (decide ((s8.length+[y8].length)*24≤140737488355328∧s8.length+[y8].length≤maxLen)) <|
  nx8 (s8++[y8]))
 (fun(s8:(List Slot))=>
  some s8) ys8 0 []
theorem Jb1 (s:Gk) (size:Int) (r:(List Slot)) (h:H7f s size=some r):Pure Eo 70 [.agg (Gk.cs s),U8 size] (·=E9 r):=by
 unfold H7f at h
 refine Gy [.tmp 4] Tryz.func70 O O (Jr fun hK1=>(JLh (.ptr 1120 0) (Jk (cs:=(Gk.cs s)) 1120 O O O O O) O (JLh (E9 ([]:List Slot)) (Hk 3 O O) O (G5 (hK1 (Gm [(1,U8 size),(2,Eg s)] [] 1120 rfl rfl rfl G rfl (by exact⟨.conv (.same rfl),.ptr,G⟩) (Jr fun hK2=>(JLh (.ptr 1121 0) (G58 1121 [.sc (.slice none 0 0)] [.slice none 0 0] R44 ⟨.inl O,G⟩ O O) O (H84 1121 0 1123 43 3 O O O (cs':=[OW 1123 3 Slot.av ([]:List Slot)]) O (G5 (hK2 (Js fun hK3=>?_))))))))))))
 refine Jr fun hK4=>(JLh (.agg (Gk.cs s)) (Gi Hq O O O) O (JLm (U8 size) O ?_))
 obtain⟨r5,hr5,h⟩:=Ga h
 refine JLh (.fn 153 [.dptr (Gk.cs s),.dptr [U8 size]]) (Gs O (Qac s size r5 hr5) R56 ⟨O,O,O,O,G⟩) O (G5 (hK4 (Gw ?_)))
 obtain⟨ys8,hy_8,h⟩:=Ga h
 obtain⟨b8,kx8,hb8,hkx8,h⟩:=Jx h
 refine Jba (ps:=[10]) [(5,.ptr 1121 0),(9,.fn 153 [.dptr (Gk.cs s),.dptr [U8 size]])] (ys8.map (fun y:Slot=>[.agg [I64 y.G2,I64 y.Tier,U8 y.Half]])) (fun i8 (s8:(List Slot))=>each b8 kx8 (List.drop i8 ys8) i8 s8=some r) (fun s8=>[(1123,.spare 43 3 s8.length s8.length),(1121,.box 136 [OW 1123 3 Slot.av s8])]) [] rfl rfl rfl R4d (Jdd.down s size ys8 hy_8) h ⟨(.sm O O),⟨⟨_,rfl,.same⟩,⟨_,rfl,.boxL rfl ⟨.same rfl,trivial⟩⟩,trivial⟩,rfl⟩ rfl (fun us_ hus_=>by obtain⟨_,_,rfl⟩:=List.mem_map.1 hus_; rfl) (fun p_ hp_=>Nat.blt_eq.mp (by revert p_; decide)) (fun _=>(.sm O O)) (fun _=>rfl) ?_ ?_
 ·
  intro i8 us_ s8 hu_ hi8 lr_ K8 e8
  obtain⟨hk8,rfl⟩:=Y1e hu_
  obtain⟨y8,nx8,hy8,hn8,h⟩:=J9 hi8 hk8
  replace h:=G17 hb8 h
  obtain⟨_,rfl⟩:=List.getElem?_eq_some_iff.1 hy8
  generalize ys8[i8]=y8 at h ⊢
  change JC _ _ _ _ [(10,.agg [I64 y8.G2,I64 y8.Tier,U8 y8.Half]),(5,.ptr 1121 0),(9,.fn 153 [.dptr (Gk.cs s),.dptr [U8 size]])] [(1123,.spare 43 3 s8.length s8.length),(1121,.box 136 [OW 1123 3 Slot.av s8])]
  refine G1 (JLh (.ptr 1122 0) (Hp 1122 3 Z4 O O) O (Ho (u:=.junk) (Hc (u:=.agg [I64 y8.G2,I64 y8.Tier,U8 y8.Half]) (ds:=[I64 y8.G2,I64 y8.Tier,U8 y8.Half]) Zr O O O O O O O O) (G5 (Qa7 [(5,.ptr 1121 0),(6,.dptr [I64 y8.G2,I64 y8.Tier,U8 y8.Half])] [(1123,.spare 43 3 s8.length s8.length),(1121,.box 136 [OW 1123 3 Slot.av s8])] 1122 rfl rfl rfl ⟨⟨_,rfl,.same⟩,⟨_,rfl,.boxEq rfl rfl⟩,G⟩ rfl (by exact⟨.conv (.same rfl),.ptr,G⟩) (Qa6 (Gw (G1 (JLh (OW 1123 3 Slot.av s8) (Hx Gbb O O O O) O (JLh (.agg [I64 y8.G2,I64 y8.Tier,U8 y8.Half]) (Gi Hu O O O) O (JLh (E9 [y8]) (H8 (xs:=[.agg [I64 y8.G2,I64 y8.Tier,U8 y8.Half]]) O ⟨O,O,G⟩ Ro Z4 O O O O) O ?_))))))))))
  obtain⟨ha9,h⟩:=J7 h
  refine JLh (OW 1123 3 Slot.av (s8++[y8])) (Qk (f:=Slot.av) (xs:=s8) (ys:=[y8]) O O O O Ro J64 ha9 (fun _=>O) (.inl O) O) O (Ho (u:=.junk) (Hc (u:=OW 1123 3 Slot.av (s8++[y8])) (ds:=[OW 1123 3 Slot.av (s8++[y8])]) Jf2 O O O O O O O O) (G5 (e8 _ _ (s8++[y8]) (app1 hn8 h) ⟨G,⟨⟨_,O,.same⟩,⟨_,O,.boxL O ⟨.same O,G⟩⟩,G⟩,O⟩)))
 ·
  intro s8 h
  rw [List.length_map] at h
  replace h:=app1 hkx8 (Ja h (Nat.lt_irrefl _))
  refine hK3 (Jr fun hK10=>(JLh (OW 1123 3 Slot.av s8) (Hx Gbb O O O O) O (JLm (OW 1123 3 Slot.av s8) O (G5 (hK10 (Qc (l':=[(4,E9 s8)]) (L':=[(1121,.box 136 [E9 s8])]) ⟨⟨.list O,G⟩,⟨⟨_,O,.boxL O ⟨.list O,G⟩⟩,G⟩,O⟩ (Gm [(4,E9 s8)] [] 1121 rfl rfl rfl G rfl (by exact⟨.conv (.same rfl),G⟩) (Gq (fin1 (fun r:(List Slot)=>(E9 r:AV)) h)))))))))

def R7 (s:Gk) (l:List Gu) (most:Int):Option ((List Box)×(List Stowed)):=
 bnd (J1c (min (l.length:Int) most) l.length) fun m6=>
 each (fun y7 i7 (s7:(List Box)×(List Stowed)) nx7=>
  jp (fun kj10=>
   chk (5*((i7+1:Nat):Int)) fun v13=>
   chk (y7.Kilos) fun v14=>
   chk (100*v14) fun v15=>
   chk (1000+v15) fun v16=>
   jp (fun kj17=>
    bif y7.Small then
    (kj17 (20,false))
    else
    (kj17 (40,y7.High))) fun(j17:Int×Bool)=>
   need (decide ((s7.1.length+[(Box.mk v13 ByteArray.empty j17.1 j17.2 v16 0 1 0 false)].length)*64≤140737488355328∧s7.1.length+[(Box.mk v13 ByteArray.empty j17.1 j17.2 v16 0 1 0 false)].length≤maxLen)) <|
   bnd (H7f s j17.1) fun r22=>
   each (fun y49 i49 (s49:(List Stowed)) nx49=>
    need (decide ((([]:List Stowed).length+s49.length)*32≤140737488355328∧([]:List Stowed).length+s49.length≤maxLen)) <|
    need (decide (((([]:List Stowed)++s49).length+[(Stowed.mk v13 y49)].length)*32≤140737488355328∧(([]:List Stowed)++s49).length+[(Stowed.mk v13 y49)].length≤maxLen)) <|
    chk (y7.G2) fun v58=>
    bnd (Gd8 v58 (s.Columns.length:Int)) fun v59=>
    bnd (bif decide (y49.G2=v59) then Yz s (s7.1++[(Box.mk v13 ByteArray.empty j17.1 j17.2 v16 0 1 0 false)]) ((([]:List Stowed)++s49)++[(Stowed.mk v13 y49)]) else some default) fun r60=>
    bif ((decide (y49.G2=v59))&&r60) then
    (kj10 ((s7.1++[(Box.mk v13 ByteArray.empty j17.1 j17.2 v16 0 1 0 false)]),((([]:List Stowed)++s49)++[(Stowed.mk v13 y49)])))
    else
    (nx49 s49))
   (fun(s49:(List Stowed))=>
    kj10 ((s7.1++[(Box.mk v13 ByteArray.empty j17.1 j17.2 v16 0 1 0 false)]),s49)) r22 0 s7.2) fun(j10:(List Box)×(List Stowed))=>
  nx7 (j10.1,j10.2))
 (fun(s7:(List Box)×(List Stowed))=>
  some (s7.1,s7.2)) (l.take m6) 0 ([],[])
theorem H8b (s:Gk) (l:List Gu) (most:Int) (r:(List Box)×(List Stowed)) (h:R7 s l most=some r):Pure Eo 30 [.agg (Gk.cs s),Eb l,I64 most] (·=.tup [E8 r.1,E6 r.2]):=by
 unfold R7 at h
 refine Gy [.tmp 6,.tmp 7] Tryz.func30 O O (Jr fun hK1=>(JLh (.ptr 1062 0) (Jk (cs:=(Gk.cs s)) 1062 O O O O O) O (JLh (E8 ([]:List Box)) (Hk 9 O O) O (JLh (E6 ([]:List Stowed)) (Hk 4 O O) O (G5 (hK1 (Gm [(1,Eb l),(2,I64 most),(3,Eg s)] [] 1062 rfl rfl rfl G rfl (by exact⟨.conv (.same rfl),.conv (.same rfl),.ptr,G⟩) (Jr fun hK2=>(JLh (OW 1063 9 Box.av ([]:List Box)) (G57 1063 60 9 O O O) O (G5 (hK2 ?_)))))))))))
 refine Jr fun hK3=>(JLh (E6 ([]:List Stowed)) (Hk 4 O O) O (G5 (hK3 (Js fun hK4=>Jr fun hK5=>(JLm (Eb l) O (JLm (Eb l) O (JLl G5a O O O fun hm18=>(JLm (I64 most) O (JLh (I64 (min (l.length:Int) most)) (R0f O O O) O ?_)))))))))
 obtain⟨m6,hm6,h⟩:=Ga h
 refine JLh (Eb (l.take m6)) (H14 (f:=Gu.av) (xs:=l) O O O G5a (Gd9 hm6)) O (JLl G5a O O O fun hm22=>(JLm (I64 0) O (G5 (hK5 (Gw ?_)))))
 obtain⟨b7,kx7,hb7,hkx7,h⟩:=Jx h
 refine Jb (fun i7 (s7:(List Box)×(List Stowed))=>each b7 kx7 (List.drop i7 (l.take m6)) i7 s7=some r) (fun i7 s7=>[(3,Eg s),(8,OW 1063 9 Box.av s7.1),(9,E6 s7.2),(21,Eb (l.take m6)),(22,I64 ((l.take m6).length:Int)),(23,En i7)]) (fun i7 s7=>[(1063,.spare 60 9 s7.1.length s7.1.length)]) (fun i7=>(l.take m6).length - i7) 0 ([],[]) h ⟨(.sm O O),⟨⟨_,rfl,.same⟩,G⟩,rfl⟩ ?_
 clear h
 intro i7 s7 hi7 K7 e7
 refine Jr fun hK8=>(JLh (BL (decide ((i7:Int) < ((l.take m6).length:Int)))) (Qg O O O) O (G5 (hK8 (Js fun hK9=>Gn O (fun hb=>?_) (fun hb=>?_)))))
 ·
  have hk7:=Qr hb
  obtain⟨y7,nx7,hy7,hn7,h⟩:=J9 hi7 hk7
  replace h:=G17 hb7 h
  refine Gr (hK9 ?_)
  obtain⟨kj10,hkj10,h⟩:=Yu h
  refine Rg (fun j10:(List Box)×(List Stowed)=>kj10 j10=some r) (fun j10=>[(3,Eg s),(8,OW 1063 9 Box.av j10.1),(9,E6 j10.2),(21,Eb (l.take m6)),(22,I64 ((l.take m6).length:Int)),(23,En i7)]) (fun j10=>[(1063,.spare 60 9 j10.1.length j10.1.length)]) (fun Kj10 ej10=>?_) ?_
  ·
   refine Gw (Jr fun hK11=>(JLm (En i7) O (JLh (Em y7) (Hf (f:=Gu.av) (xs:=(l.take m6)) (y:=y7) O O O G5a hy7 O) O (JLh (.agg (Gu.cs y7)) (Gi Q6b O O O) O (JLh (.ptr 1064 0) (Hp 1064 4 J8d O O) O (JLm (En i7) O (Ho (u:=.junk) (Hc (u:=.agg (Gu.cs y7)) (ds:=[U8 y7.G2,U8 y7.Kilos,BL y7.Small,BL y7.High]) Jf3 O O O O O O O O) (G5 (hK11 ?_)))))))))
   refine Gm [(3,Eg s),(8,OW 1063 9 Box.av s7.1),(9,E6 s7.2),(10,En i7),(11,Em y7),(21,Eb (l.take m6)),(22,I64 ((l.take m6).length:Int)),(23,En i7)] [(1063,.spare 60 9 s7.1.length s7.1.length)] 1064 rfl rfl rfl ⟨⟨_,rfl,.same⟩,G⟩ rfl (by repeat' (first | exact .ptr | constructor)) (Jr fun hK12=>(JLm (En i7) O (JLh (I64 ((i7+1:Nat):Int)) (Jf (J6 hk7 hm22) O O O) O ?_)))
   obtain⟨v13,hv13,h⟩:=Jd h
   refine JLh (I64 v13) (Jc2 hv13 O O O) O (JLh (.dptr [BL y7.High]) (G9 J11 O O O) O (JLh (BL y7.High) (Gg Q1 O O O) O (JLh (.dptr [U8 y7.Kilos,BL y7.Small,BL y7.High]) (G9 J13 O O O) O (JLh (U8 y7.Kilos) (Gg Hn O O O) O ?_))))
   obtain⟨v14,hv14,h⟩:=Jd h
   refine JLh (I64 v14) (G6a Zd G01 hv14 O O) O ?_
   obtain⟨v15,hv15,h⟩:=Jd h
   refine JLh (I64 v15) (Jc2 hv15 O O O) O ?_
   obtain⟨v16,hv16,h⟩:=Jd h
   refine JLh (I64 v16) (Jf hv16 O O O) O (JLh (.agg [I64 v13,ST ByteArray.empty,U8 40,BL y7.High,I64 v16,I64 0,I64 1,U8 0,BL false]) (Hb (cs:=[I64 v13,ST ByteArray.empty,U8 40,BL y7.High,I64 v16,I64 0,I64 1,U8 0,BL false]) [(0,1),(1,1),(2,1),(3,1),(4,1),(5,1),(6,1),(7,1),(8,1)] [I64 0,ST ByteArray.empty,U8 0,BL false,I64 0,I64 0,I64 0,U8 0,BL false] [E0,.string ByteArray.empty,.int .u8 0,.bool false,E0,E0,E0,.int .u8 0,.bool false] G5f G5c ⟨.inl O,.inl O,.inl O,.inl O,.inl O,.inl O,.inl O,.inl O,.inl O,G⟩ O O) O (JLh (.ptr 1065 0) (Hp 1065 9 Qt O O) O (Ho (u:=.junk) (Hc (u:=.agg [I64 v13,ST ByteArray.empty,U8 40,BL y7.High,I64 v16,I64 0,I64 1,U8 0,BL false]) (ds:=[I64 v13,ST ByteArray.empty,U8 40,BL y7.High,I64 v16,I64 0,I64 1,U8 0,BL false]) Rq O O O O O O O O) (G5 (hK12 ?_)))))
   obtain⟨kj17,hkj17,h⟩:=Yu h
   refine Rg (fun j17:Int×Bool=>kj17 j17=some r) (fun j17=>[(3,Eg s),(8,OW 1063 9 Box.av s7.1),(9,E6 s7.2),(11,Em y7),(12,.ptr 1065 0),(21,Eb (l.take m6)),(22,I64 ((l.take m6).length:Int)),(23,En i7)]) (fun j17=>[(1063,.spare 60 9 s7.1.length s7.1.length),(1065,.box 60 [I64 v13,ST ByteArray.empty,U8 j17.1,BL j17.2,I64 v16,I64 0,I64 1,U8 0,BL false])]) (fun Kj17 ej17=>?_) ?_
   ·
    refine Jr fun hK18=>(JLh (.dptr [BL y7.Small,BL y7.High]) (G9 J12 O O O) O (JLh (BL y7.Small) (Gg Q1 O O O) O (G5 (hK18 (JCc O h (fun h hb=>?_) (fun h hb=>?_))))))
    ·
     refine G1 (JLh (.ptr 1065 2) (Hh Rx O O) O (Ho (u:=.junk) (Hc (u:=U8 20) (ds:=[I64 v13,ST ByteArray.empty,U8 20,BL y7.High,I64 v16,I64 0,I64 1,U8 0,BL false]) J33 O O O O O O O O) (JLh (.ptr 1065 3) (Hh H17 O O) O (Ho (u:=.junk) (Hc (u:=BL false) (ds:=[I64 v13,ST ByteArray.empty,U8 20,BL false,I64 v16,I64 0,I64 1,U8 0,BL false]) H58 O O O O O O O O) (G5 (ej17 _ _ (20,false) h ⟨(.sm O O),⟨⟨_,rfl,.same⟩,⟨_,rfl,.boxL rfl (.sm O O)⟩,G⟩,rfl⟩))))))
    ·
     refine Gr (ej17 _ _ (40,y7.High) h ⟨(.sm O O),⟨⟨_,rfl,.same⟩,⟨_,rfl,.boxL rfl (.sm O O)⟩,G⟩,rfl⟩)
   ·intro j17 h
    replace h:=app1 hkj17 h
    refine Jr fun hK19=>(JLm (OW 1063 9 Box.av s7.1) O (JLh (.agg [I64 v13,ST ByteArray.empty,U8 j17.1,BL j17.2,I64 v16,I64 0,I64 1,U8 0,BL false]) (Ga3 Yj O O O O) O (JLh (E8 [(Box.mk v13 ByteArray.empty j17.1 j17.2 v16 0 1 0 false)]) (H8 (xs:=[.agg [I64 v13,ST ByteArray.empty,U8 j17.1,BL j17.2,I64 v16,I64 0,I64 1,U8 0,BL false]]) O ⟨O,O,G⟩ Y8 Qt O O O O) O ?_)))
    obtain⟨ha20,h⟩:=J7 h
    refine JLh (OW 1063 9 Box.av (s7.1++[(Box.mk v13 ByteArray.empty j17.1 j17.2 v16 0 1 0 false)])) (Qk (f:=Box.av) (xs:=s7.1) (ys:=[(Box.mk v13 ByteArray.empty j17.1 j17.2 v16 0 1 0 false)]) O O O O Y8 J63 ha20 (fun _=>O) (.inl O) O) O (JLm (OW 1063 9 Box.av (s7.1++[(Box.mk v13 ByteArray.empty j17.1 j17.2 v16 0 1 0 false)])) O (G5 (hK19 ?_)))
    refine Gm [(3,Eg s),(8,OW 1063 9 Box.av (s7.1++[(Box.mk v13 ByteArray.empty j17.1 j17.2 v16 0 1 0 false)])),(9,E6 s7.2),(11,Em y7),(12,.dptr [I64 v13,ST ByteArray.empty,U8 j17.1,BL j17.2,I64 v16,I64 0,I64 1,U8 0,BL false]),(21,Eb (l.take m6)),(22,I64 ((l.take m6).length:Int)),(23,En i7)] [(1063,.spare 60 9 (s7.1++[(Box.mk v13 ByteArray.empty j17.1 j17.2 v16 0 1 0 false)]).length (s7.1++[(Box.mk v13 ByteArray.empty j17.1 j17.2 v16 0 1 0 false)]).length)] 1065 rfl rfl rfl ⟨⟨_,rfl,.same⟩,G⟩ rfl (by repeat' (first | exact .ptr | constructor)) ?_
    refine Jr fun hK21=>(JLh (.agg (Gk.cs s)) (Gi Hq O O O) O (JLh (.dptr [U8 j17.1,BL j17.2,I64 v16,I64 0,I64 1,U8 0,BL false]) (G9 Rx O O O) O (JLh (U8 j17.1) (Gg Hn O O O) O ?_)))
    obtain⟨r22,hr22,h⟩:=Ga h
    refine JLh (E9 r22) (Gs O (Jb1 s j17.1 r22 hr22) Q5b ⟨O,O,O,O,G⟩) O (JLl Ro O O O fun hm51=>(JLm (I64 0) O (G5 (hK21 (Gw ?_)))))
    obtain⟨b49,kx49,hb49,hkx49,h⟩:=Jx h
    refine Jb (fun i49 (s49:(List Stowed))=>each b49 kx49 (List.drop i49 r22) i49 s49=some r) (fun i49 s49=>[(3,Eg s),(8,OW 1063 9 Box.av (s7.1++[(Box.mk v13 ByteArray.empty j17.1 j17.2 v16 0 1 0 false)])),(9,E6 s49),(11,Em y7),(12,.dptr [I64 v13,ST ByteArray.empty,U8 j17.1,BL j17.2,I64 v16,I64 0,I64 1,U8 0,BL false]),(21,Eb (l.take m6)),(22,I64 ((l.take m6).length:Int)),(23,En i7),(50,E9 r22),(51,En r22.length),(52,En i49)]) (fun i49 s49=>[(1063,.spare 60 9 (s7.1++[(Box.mk v13 ByteArray.empty j17.1 j17.2 v16 0 1 0 false)]).length (s7.1++[(Box.mk v13 ByteArray.empty j17.1 j17.2 v16 0 1 0 false)]).length)]) (fun i49=>r22.length - i49) 0 s7.2 h ⟨(.sm O O),⟨⟨_,rfl,.same⟩,G⟩,rfl⟩ ?_
    clear h
    intro i49 s49 hi49 K49 e49
    refine Jr fun hK50=>(JLh (BL (decide ((i49:Int) < (r22.length:Int)))) (Qg O O O) O (G5 (hK50 (Js fun hK51=>Gn O (fun hb=>?_) (fun hb=>?_)))))
    ·
     have hk49:=Qr hb
     obtain⟨y49,nx49,hy49,hn49,h⟩:=J9 hi49 hk49
     replace h:=G17 hb49 h
     refine Gr (hK51 (Js fun hK52=>Gw (Jr fun hK53=>(JLh (Ek y49) (Hf (f:=Slot.av) (xs:=r22) (y:=y49) O O O Ro hy49 O) O (JLh (.agg (Slot.cs y49)) (Gi Hu O O O) O (JLh (.ptr 1066 0) (Hp 1066 3 Z4 O O) O (Ho (u:=.junk) (Hc (u:=.agg (Slot.cs y49)) (ds:=[I64 y49.G2,I64 y49.Tier,U8 y49.Half]) Zr O O O O O O O O) (G5 (hK53 ?_)))))))))
     refine Gm [(3,Eg s),(8,OW 1063 9 Box.av (s7.1++[(Box.mk v13 ByteArray.empty j17.1 j17.2 v16 0 1 0 false)])),(9,E6 s49),(11,Em y7),(12,.dptr [I64 v13,ST ByteArray.empty,U8 j17.1,BL j17.2,I64 v16,I64 0,I64 1,U8 0,BL false]),(14,Ek y49),(21,Eb (l.take m6)),(22,I64 ((l.take m6).length:Int)),(23,En i7),(50,E9 r22),(51,En r22.length),(52,En i49)] [(1063,.spare 60 9 (s7.1++[(Box.mk v13 ByteArray.empty j17.1 j17.2 v16 0 1 0 false)]).length (s7.1++[(Box.mk v13 ByteArray.empty j17.1 j17.2 v16 0 1 0 false)]).length)] 1066 rfl rfl rfl ⟨⟨_,rfl,.same⟩,G⟩ rfl (by repeat' (first | exact .ptr | constructor)) (Js fun hK54=>?_)
     refine Qc (l':=[(3,Eg s),(8,OW 1063 9 Box.av (s7.1++[(Box.mk v13 ByteArray.empty j17.1 j17.2 v16 0 1 0 false)])),(9,E6 s49),(11,Em y7),(12,.dptr [I64 v13,ST ByteArray.empty,U8 j17.1,BL j17.2,I64 v16,I64 0,I64 1,U8 0,BL false]),(14,Ek y49),(21,Eb (l.take m6)),(22,I64 ((l.take m6).length:Int)),(23,En i7),(50,E9 r22),(51,En r22.length),(52,En i49)]) (L':=[(1063,.spare 60 9 (s7.1++[(Box.mk v13 ByteArray.empty j17.1 j17.2 v16 0 1 0 false)]).length (s7.1++[(Box.mk v13 ByteArray.empty j17.1 j17.2 v16 0 1 0 false)]).length)]) ⟨(.sm O O),⟨⟨_,rfl,.same⟩,G⟩,rfl⟩ ?_
     obtain⟨ha55,h⟩:=J7 h
     obtain⟨ha56,h⟩:=J7 h
     refine J4 [0,2,8] [0,0,0,0,0,0,0,0,0,3] [0,1,0,2,2,2,2,2,0,3] [[(1063,.spare 60 9 (s7.1++[(Box.mk v13 ByteArray.empty j17.1 j17.2 v16 0 1 0 false)]).length (s7.1++[(Box.mk v13 ByteArray.empty j17.1 j17.2 v16 0 1 0 false)]).length)],((1067,.spare 55 4 ([]:List Stowed).length ([]:List Stowed).length)::[(1063,.spare 60 9 (s7.1++[(Box.mk v13 ByteArray.empty j17.1 j17.2 v16 0 1 0 false)]).length (s7.1++[(Box.mk v13 ByteArray.empty j17.1 j17.2 v16 0 1 0 false)]).length)]),((1067,.spare 55 4 (([]:List Stowed)++s49).length (([]:List Stowed)++s49).length)::((1067,.spare 55 4 ([]:List Stowed).length ([]:List Stowed).length)::[(1063,.spare 60 9 (s7.1++[(Box.mk v13 ByteArray.empty j17.1 j17.2 v16 0 1 0 false)]).length (s7.1++[(Box.mk v13 ByteArray.empty j17.1 j17.2 v16 0 1 0 false)]).length)])),((1067,.spare 55 4 ((([]:List Stowed)++s49)++[(Stowed.mk v13 y49)]).length ((([]:List Stowed)++s49)++[(Stowed.mk v13 y49)]).length)::((1067,.spare 55 4 (([]:List Stowed)++s49).length (([]:List Stowed)++s49).length)::((1067,.spare 55 4 ([]:List Stowed).length ([]:List Stowed).length)::[(1063,.spare 60 9 (s7.1++[(Box.mk v13 ByteArray.empty j17.1 j17.2 v16 0 1 0 false)]).length (s7.1++[(Box.mk v13 ByteArray.empty j17.1 j17.2 v16 0 1 0 false)]).length)])))] J0 (by kernel_rfl) rfl rfl ?_
     refine D_w (u:=OW 1067 4 Stowed.av ([]:List Stowed)) O O O O (Ge (Hc4 1067 55 4 O O H3) O) (Gd (u:=E6 s49) O O ⟨Ge (G6 O O) O,Ge (G6 O O) O,G⟩ (D_w (u:=OW 1067 4 Stowed.av (([]:List Stowed)++s49)) O O O O (Ge (H5e (f:=Stowed.av) (xs:=([]:List Stowed)) (ys:=s49) O O O O H3 G22 ha55 (fun _=>O) (.inl O)) O) (Gd (u:=.dptr [I64 v13,ST ByteArray.empty,U8 j17.1,BL j17.2,I64 v16,I64 0,I64 1,U8 0,BL false]) O O ⟨Ge (G9 Rc O O O) O,Ge (G9 Rc O O O) O,Ge (G9 Rc O O O) O,G⟩ (Gd (u:=I64 v13) O O ⟨Ge (Gg Gc O O O) O,Ge (Gg Gc O O O) O,Ge (Gg Gc O O O) O,G⟩ (Gd (u:=.agg (Slot.cs y49)) O O ⟨Ge (Gi Hu O O O) O,Ge (Gi Hu O O O) O,Ge (Gi Hu O O O) O,G⟩ (Gd (u:=.agg [I64 v13,I64 y49.G2,I64 y49.Tier,U8 y49.Half]) O O ⟨Ge (Hb (cs:=[I64 v13,I64 y49.G2,I64 y49.Tier,U8 y49.Half]) [(0,1),(1,3)] [I64 0,I64 0,I64 0,U8 0] [E0,E0,E0,.int .u8 0] Rr Z1 ⟨.inl O,.inl O,.inl O,.inl O,G⟩ O O) O,Ge (Hb (cs:=[I64 v13,I64 y49.G2,I64 y49.Tier,U8 y49.Half]) [(0,1),(1,3)] [I64 0,I64 0,I64 0,U8 0] [E0,E0,E0,.int .u8 0] Rr Z1 ⟨.inl O,.inl O,.inl O,.inl O,G⟩ O O) O,Ge (Hb (cs:=[I64 v13,I64 y49.G2,I64 y49.Tier,U8 y49.Half]) [(0,1),(1,3)] [I64 0,I64 0,I64 0,U8 0] [E0,E0,E0,.int .u8 0] Rr Z1 ⟨.inl O,.inl O,.inl O,.inl O,G⟩ O O) O,G⟩ (Gd (u:=E6 [(Stowed.mk v13 y49)]) O O ⟨Ge (H8 (xs:=[.agg [I64 v13,I64 y49.G2,I64 y49.Tier,U8 y49.Half]]) O ⟨O,O,G⟩ H3 Jw O O O O) O,Ge (H8 (xs:=[.agg [I64 v13,I64 y49.G2,I64 y49.Tier,U8 y49.Half]]) O ⟨O,O,G⟩ H3 Jw O O O O) O,Ge (H8 (xs:=[.agg [I64 v13,I64 y49.G2,I64 y49.Tier,U8 y49.Half]]) O ⟨O,O,G⟩ H3 Jw O O O O) O,G⟩ (D_w (u:=OW 1067 4 Stowed.av ((([]:List Stowed)++s49)++[(Stowed.mk v13 y49)])) O O O O (Ge (Qk (f:=Stowed.av) (xs:=(([]:List Stowed)++s49)) (ys:=[(Stowed.mk v13 y49)]) O O O O H3 G22 ha56 (fun _=>O) (.inl O) O) O) (Gd (u:=OW 1067 4 Stowed.av ((([]:List Stowed)++s49)++[(Stowed.mk v13 y49)])) O O ⟨Ge (G7 O O) O,G⟩ (Qw ?_))))))))))
     refine hK54 (Js fun hK57=>?_)
     refine Qc (l':=[(3,Eg s),(8,OW 1063 9 Box.av (s7.1++[(Box.mk v13 ByteArray.empty j17.1 j17.2 v16 0 1 0 false)])),(9,E6 s49),(11,Em y7),(12,.dptr [I64 v13,ST ByteArray.empty,U8 j17.1,BL j17.2,I64 v16,I64 0,I64 1,U8 0,BL false]),(14,Ek y49),(15,OW 1067 4 Stowed.av ((([]:List Stowed)++s49)++[(Stowed.mk v13 y49)])),(21,Eb (l.take m6)),(22,I64 ((l.take m6).length:Int)),(23,En i7),(50,E9 r22),(51,En r22.length),(52,En i49)]) (L':=[(1063,.spare 60 9 (s7.1++[(Box.mk v13 ByteArray.empty j17.1 j17.2 v16 0 1 0 false)]).length (s7.1++[(Box.mk v13 ByteArray.empty j17.1 j17.2 v16 0 1 0 false)]).length),(1067,.spare 55 4 ((([]:List Stowed)++s49)++[(Stowed.mk v13 y49)]).length ((([]:List Stowed)++s49)++[(Stowed.mk v13 y49)]).length)]) ⟨(.sm O O),⟨⟨_,rfl,.same⟩,⟨_,rfl,.same⟩,G⟩,rfl⟩ ?_
     obtain⟨v58,hv58,h⟩:=Jd h
     obtain⟨v59,hv59,h⟩:=Ga h
     obtain⟨r60,hr60,h⟩:=Ga h
     refine JC_d0 J0 (by kernel_rfl) (Dq (Ek y49) (G9 Jc O O O) O (Dq (I64 y49.G2) (Gg Gc O O O) O (Dq (Em y7) (G9 J14 O O O) O (Dq (U8 y7.G2) (Gg Hn O O O) O (Dq (I64 v58) (G6a Zd G01 hv58 O O) O (Dq (Eg s) (G9 Hv O O O) O (Dq (E1 s.Columns) (Gg J8 O O O) O (Dq (En s.Columns.length) (G1a (f:=G2.av) (xs:=s.Columns) Ht O O) O (Dq (I64 v59) (H02 (Jp hv59).1 (Jp hv59).2 O O O) O (Dq (BL (decide (y49.G2=v59))) (Q0 O O O) O (Dq (BL (decide (y49.G2=v59))) (G6 O O) O (Do (.agg (Gk.cs s)) [] O .sct G (fun hc=>Gi Hq O O O) O (Do (OW 1063 9 Box.av (s7.1++[(Box.mk v13 ByteArray.empty j17.1 j17.2 v16 0 1 0 false)])) [] O .sct G (fun hc=>G6 O O) O ?_)))))))))))))
     refine Do (OW 1067 4 Stowed.av ((([]:List Stowed)++s49)++[(Stowed.mk v13 y49)])) [] O .sct G (fun hc=>G6 O O) O (Do (BL r60) [76,77,78] O .sct ⟨Ua,Ua,Ua,G⟩ (fun hc=>Gs (args:=[.agg (Gk.cs s),E8 (s7.1++[(Box.mk v13 ByteArray.empty j17.1 j17.2 v16 0 1 0 false)]),E6 ((([]:List Stowed)++s49)++[(Stowed.mk v13 y49)])]) O (G03 s (s7.1++[(Box.mk v13 ByteArray.empty j17.1 j17.2 v16 0 1 0 false)]) ((([]:List Stowed)++s49)++[(Stowed.mk v13 y49)]) r60 (H1 hc hr60)) G87 ⟨O,O,O,O,O,O,G⟩) O (Dq (BL ((decide (y49.G2=v59))&&r60)) (Rm O O O O) O (Dnil (hK57 (JCc O h (fun h hb=>?_) (fun h hb=>?_))))))
     ·
      refine Jr fun hK61=>(JLm (OW 1067 4 Stowed.av ((([]:List Stowed)++s49)++[(Stowed.mk v13 y49)])) O (JLm (OW 1067 4 Stowed.av ((([]:List Stowed)++s49)++[(Stowed.mk v13 y49)])) O (G5 (hK61 (Je (ej10 _ _ ((s7.1++[(Box.mk v13 ByteArray.empty j17.1 j17.2 v16 0 1 0 false)]),((([]:List Stowed)++s49)++[(Stowed.mk v13 y49)])) h ⟨⟨.same O,.same O,.list O,.same O,.same O,.same O,G⟩,⟨⟨_,O,.same⟩,G⟩,O⟩))))))
     ·
      refine Gr (hK52 (G1 (JLh (I64 ((i49+1:Nat):Int)) (Jf (J6 hk49 hm51) O O O) O (JLm (I64 ((i49+1:Nat):Int)) O (G5 (e49 _ _ (i49+1) s49 (app1 hn49 h) (by omega) ⟨(.sm O O),⟨⟨_,rfl,.same⟩,G⟩,rfl⟩))))))
    ·
     have h:=app1 hkx49 (Ja hi49 (Hs hb))
     refine Je (ej10 _ _ ((s7.1++[(Box.mk v13 ByteArray.empty j17.1 j17.2 v16 0 1 0 false)]),s49) h ⟨(.sm O O),⟨⟨_,rfl,.same⟩,G⟩,rfl⟩)
  ·intro j10 h
   replace h:=app1 hkj10 h
   refine G1 (JLh (I64 ((i7+1:Nat):Int)) (Jf (J6 hk7 hm22) O O O) O (JLm (I64 ((i7+1:Nat):Int)) O (G5 (e7 _ _ (i7+1) (j10.1,j10.2) (app1 hn7 h) (by omega) ⟨(.sm O O),⟨⟨_,rfl,.same⟩,G⟩,rfl⟩))))
 ·
  have h:=app1 hkx7 (Ja hi7 (Hs hb))
  refine Je (hK4 (Jr fun hK62=>(JLm (OW 1063 9 Box.av s7.1) O (JLm (E6 s7.2) O (JLm (OW 1063 9 Box.av s7.1) O (JLm (E6 s7.2) O (G5 (hK62 (Gq (⟨[E8 s7.1,E6 s7.2],[],G,O,⟨⟨_,O,.conv (.list O)⟩,⟨_,O,.conv (.same O)⟩,G⟩,O,congrArg (fun r:(List Box)×(List Stowed)=>(.tup [E8 r.1,E6 r.2]:AV)) (Option.some.inj h)⟩))))))))))


def H20 (c:G2) (p1:Int) (p2:Int) (p3:Bool):Option Bool:=
 some (((decide (c.Bay=p1))&&(decide (c.Row=p2)))&&(c.Deck==p3))
theorem Q2f (c:G2) (p1:Int) (p2:Int) (p3:Bool) (r:Bool) (h:H20 c p1 p2 p3=some r):Pure Eo 123 [.agg (G2.cs c),.dptr [I64 p1],.dptr [I64 p2],.dptr [BL p3]] (·=BL r):=by
 unfold H20 at h
 refine Gy [.tmp 5] Tryz.func123 O O (Jr fun hK1=>(JLh (.ptr 1171 0) (Jk (cs:=(G2.cs c)) 1171 O O O O O) O (JLm (BL false) O (G5 (hK1 (Gm [(1,.dptr [I64 p1]),(2,.dptr [I64 p2]),(3,.dptr [BL p3]),(4,Ej c)] [] 1171 rfl rfl rfl G rfl (by repeat' (first | exact .ptr | constructor)) ?_))))))
 refine Jr fun hK2=>(JLh (Ej c) (G9 G73 O O O) O (JLh (I64 c.Bay) (Gg Gc O O O) O (JLh (I64 p1) (Gg Gc O O O) O (JLh (BL (decide (c.Bay=p1))) (Q0 O O O) O (JLm (BL (decide (c.Bay=p1))) O (JLo (.dptr ((G2.cs c).drop 1)) [] O .sct G (fun hc=>G9 G72 O O O) O (JLo (I64 c.Row) [11] O .sct ⟨Ua,G⟩ (fun hc=>Gg Gc O O O) O (JLo (I64 p2) [] O .sct G (fun hc=>Gg Gc O O O) O (JLo (BL (decide (c.Row=p2))) [12,13] O .sct ⟨Ua,Ua,G⟩ (fun hc=>Q0 O O O) O (JLh (BL ((decide (c.Bay=p1))&&(decide (c.Row=p2)))) (Rm O O O O) O (JLm (BL ((decide (c.Bay=p1))&&(decide (c.Row=p2)))) O (JLo (.dptr ((G2.cs c).drop 2)) [] O .sct G (fun hc=>G9 Ys O O O) O (JLo (BL c.Deck) [17] O .sct ⟨Ua,G⟩ (fun hc=>Gg Q1 O O O) O ?_)))))))))))))
 refine JLo (BL p3) [] O .sct G (fun hc=>Gg Q1 O O O) O (JLo (BL (c.Deck==p3)) [18,19] O .sct ⟨Ua,Ua,G⟩ (fun hc=>Jc4 H5b O O O) O (JLh (BL (((decide (c.Bay=p1))&&(decide (c.Row=p2)))&&(c.Deck==p3))) (Rm O O O O) O (JLm (BL (((decide (c.Bay=p1))&&(decide (c.Row=p2)))&&(c.Deck==p3))) O (G5 (hK2 (Gq (fin1 BL h)))))))

def Ra (l:List G2) (wanted:G2→Option Bool):Option (List Int):=
 each (fun y21 i21 (s21:(List Int)) nx21=>
  jp (fun kj24=>
   bnd (wanted y21) fun r27=>
   bif r27 then
   (need (decide ((s21.length+[(i21:Int)].length)*8≤140737488355328∧s21.length+[(i21:Int)].length≤maxLen)) <|
    kj24 (s21++[(i21:Int)]))
   else
   (kj24 s21)) fun(j24:(List Int))=>
  nx21 j24)
 (fun(s21:(List Int))=>
  some s21) l 0 []
theorem Gb6 (l:List G2) (wanted:G2→Option Bool) (wanted_f:FuncId) (wanted_c:List AV) (wanted_B:H7 Eo wanted_f=true) (wanted_d:Qy (fun _=>false) wanted_c=true) (wanted_w:∀ a0 q,wanted a0=some q→Pure Eo wanted_f ([.agg (G2.cs a0)]++wanted_c) (·=BL q)) (r:(List Int)) (h:Ra l wanted=some r):Pure Eo 122 [E1 l,.fn wanted_f wanted_c] (·=E2 r):=by
 unfold Ra at h
 refine Gy [.tmp 4] Tryz.func122 O O (Jr fun hK1=>(JLh (E2 ([]:List Int)) (Hk 1 O O) O (G5 (hK1 (Jr fun hK2=>(JLh (OW 1169 1 I64 ([]:List Int)) (G57 1169 3 1 O O O) O (G5 (hK2 (Js fun hK3=>Jr fun hK4=>(JLm (E1 l) O (JLl Ht O O O fun hm9=>(JLm (I64 0) O (G5 (hK4 (Gw ?_)))))))))))))))
 obtain⟨b21,kx21,hb21,hkx21,h⟩:=Jx h
 refine Jb (fun i21 (s21:(List Int))=>each b21 kx21 (List.drop i21 l) i21 s21=some r) (fun i21 s21=>[(1,.fn wanted_f wanted_c),(5,OW 1169 1 I64 s21),(8,E1 l),(9,En l.length),(10,En i21)]) (fun i21 s21=>[(1169,.spare 3 1 s21.length s21.length)]) (fun i21=>l.length - i21) 0 [] h ⟨⟨.same (Jq _ _ wanted_d),.same O,.same O,.same O,.same O,G⟩,⟨⟨_,O,.same⟩,G⟩,O⟩ ?_
 clear h
 intro i21 s21 hi21 K21 e21
 refine Jr fun hK22=>(JLh (BL (decide ((i21:Int) < (l.length:Int)))) (Qg O O O) O (G5 (hK22 (Js fun hK23=>Gn O (fun hb=>?_) (fun hb=>?_)))))
 ·
  have hk21:=Qr hb
  obtain⟨y21,nx21,hy21,hn21,h⟩:=J9 hi21 hk21
  replace h:=G17 hb21 h
  refine Gr (hK23 ?_)
  obtain⟨kj24,hkj24,h⟩:=Yu h
  refine Rg (fun j24:(List Int)=>kj24 j24=some r) (fun j24=>[(1,.fn wanted_f wanted_c),(5,OW 1169 1 I64 j24),(8,E1 l),(9,En l.length),(10,En i21)]) (fun j24=>[(1169,.spare 3 1 j24.length j24.length)]) (fun Kj24 ej24=>?_) ?_
  ·
   refine Gw (Jr fun hK25=>(JLm (En i21) O (JLh (Ej y21) (Hf (f:=G2.av) (xs:=l) (y:=y21) O O O Ht hy21 O) O (JLh (.agg (G2.cs y21)) (Gi G75 O O O) O (JLh (.ptr 1170 0) (Hp 1170 12 G2e O O) O (JLm (En i21) O (Ho (u:=.junk) (Hc (u:=.agg (G2.cs y21)) (ds:=(G2.cs y21)) Hc9 O O O O O O O O) (G5 (hK25 ?_)))))))))
   refine Gm [(1,.fn wanted_f wanted_c),(5,OW 1169 1 I64 s21),(6,En i21),(7,Ej y21),(8,E1 l),(9,En l.length),(10,En i21)] [(1169,.spare 3 1 s21.length s21.length)] 1170 rfl rfl rfl ⟨⟨_,rfl,.same⟩,G⟩ rfl (by exact⟨.conv (.same (Jq _ _ wanted_d)),.conv (.same rfl),.conv (.same rfl),.ptr,.conv (.same rfl),.conv (.same rfl),.conv (.same rfl),G⟩) (Jr fun hK26=>(JLm (.fn wanted_f wanted_c) O (JLh (.agg (G2.cs y21)) (Gi G75 O O O) O ?_)))
   obtain⟨r27,hr27,h⟩:=Ga h
   refine JLh (BL r27) (G40 (args:=[.agg (G2.cs y21)]) (caps:=wanted_c) O O (wanted_w y21 _ hr27) wanted_B ⟨O,O,G⟩ wanted_d) O (G5 (hK26 (JCc O h (fun h hb=>?_) (fun h hb=>?_))))
   ·
    refine G1 (JLm (OW 1169 1 I64 s21) O (JLm (En i21) O (JLh (E2 [(i21:Int)]) (H8 (xs:=[En i21]) O ⟨O,O,G⟩ Gx R5 O O O O) O ?_)))
    obtain⟨ha28,h⟩:=J7 h
    refine JLh (OW 1169 1 I64 (s21++[(i21:Int)])) (Qk (f:=I64) (xs:=s21) (ys:=[(i21:Int)]) O O O O Gx Zt ha28 (fun _=>O) (.inl O) O) O (JLm (OW 1169 1 I64 (s21++[(i21:Int)])) O (G5 (ej24 _ _ (s21++[(i21:Int)]) h ⟨⟨.same (Jq _ _ wanted_d),.same O,.same O,.same O,.same O,G⟩,⟨⟨_,O,.same⟩,G⟩,O⟩)))
   ·
    refine Gr (ej24 _ _ s21 h ⟨⟨.same (Jq _ _ wanted_d),.same O,.same O,.same O,.same O,G⟩,⟨⟨_,O,.same⟩,G⟩,O⟩)
  ·intro j24 h
   replace h:=app1 hkj24 h
   refine G1 (JLh (I64 ((i21+1:Nat):Int)) (Jf (J6 hk21 hm9) O O O) O (JLm (I64 ((i21+1:Nat):Int)) O (G5 (e21 _ _ (i21+1) j24 (app1 hn21 h) (by omega) ⟨⟨.same (Jq _ _ wanted_d),.same rfl,.same rfl,.same rfl,.same rfl,G⟩,⟨⟨_,rfl,.same⟩,G⟩,rfl⟩))))
 ·
  have h:=app1 hkx21 (Ja hi21 (Hs hb))
  refine Je (hK3 (Jr fun hK29=>(JLm (OW 1169 1 I64 s21) O (JLm (OW 1169 1 I64 s21) O (G5 (hK29 (Gq (fin1l (fun r:(List Int)=>(E2 r:AV)) h))))))))

def H39 (s:Gk) (bay:Int) (row:Int) (deck:Bool):Option (Int×Bool):=
 bnd (Ra s.Columns (fun z0=>H20 z0 bay row deck)) fun r3=>
 bif decide ((r3.length:Int)=0) then
 (some (0,false))
 else
 (Yy r3 0 fun y8=>
  some (y8,true))
theorem Qdb (s:Gk) (bay:Int) (row:Int) (deck:Bool) (r:Int×Bool) (h:H39 s bay row deck=some r):Pure Eo 69 [.agg (Gk.cs s),I64 bay,I64 row,BL deck] (·=.tup [I64 r.1,BL r.2]):=by
 unfold H39 at h
 refine Gy [.tmp 8,.tmp 9] Tryz.func69 O O (Jr fun hK1=>(JLh (.ptr 1116 0) (Jk (cs:=(Gk.cs s)) 1116 O O O O O) O (JLh (.ptr 1117 0) (Jk (cs:=[I64 bay]) 1117 O O O O O) O (JLh (.ptr 1118 0) (Jk (cs:=[I64 row]) 1118 O O O O O) O (JLh (.ptr 1119 0) (Jk (cs:=[BL deck]) 1119 O O O O O) O (JLm (I64 0) O (JLm (BL false) O (G5 (hK1 ?_)))))))))
 refine Gm [(4,Eg s),(5,.ptr 1117 0),(6,.ptr 1118 0),(7,.ptr 1119 0)] [(1117,.box 3 [I64 bay]),(1118,.box 3 [I64 row]),(1119,.box 4 [BL deck])] 1116 rfl rfl rfl ⟨⟨_,rfl,.boxEq rfl rfl⟩,⟨_,rfl,.boxEq rfl rfl⟩,⟨_,rfl,.boxEq rfl rfl⟩,G⟩ rfl (by repeat' (first | exact .ptr | constructor)) (Gm [(4,Eg s),(5,.dptr [I64 bay]),(6,.ptr 1118 0),(7,.ptr 1119 0)] [(1118,.box 3 [I64 row]),(1119,.box 4 [BL deck])] 1117 rfl rfl rfl ⟨⟨_,rfl,.boxEq rfl rfl⟩,⟨_,rfl,.boxEq rfl rfl⟩,G⟩ rfl (by repeat' (first | exact .ptr | constructor)) ?_)
 refine Gm [(4,Eg s),(5,.dptr [I64 bay]),(6,.dptr [I64 row]),(7,.ptr 1119 0)] [(1119,.box 4 [BL deck])] 1118 rfl rfl rfl ⟨⟨_,rfl,.boxEq rfl rfl⟩,G⟩ rfl (by repeat' (first | exact .ptr | constructor)) (Gm [(4,Eg s),(5,.dptr [I64 bay]),(6,.dptr [I64 row]),(7,.dptr [BL deck])] [] 1119 rfl rfl rfl G rfl (by repeat' (first | exact .ptr | constructor)) (Jr fun hK2=>(JLh (Eg s) (G9 Hv O O O) O (JLh (E1 s.Columns) (Gg J8 O O O) O (JLh (.fn 123 [.dptr [I64 bay],.dptr [I64 row],.dptr [BL deck]]) (Jy (cs:=[.dptr [I64 bay],.dptr [I64 row],.dptr [BL deck]]) O O) O ?_)))))
 obtain⟨r3,hr3,h⟩:=Ga h
 refine JLh (E2 r3) (Gs O (Gb6 s.Columns (fun z0=>H20 z0 bay row deck) 123 [.dptr [I64 bay],.dptr [I64 row],.dptr [BL deck]] R57 O (fun z0 q hq=>Q2f z0 bay row deck q hq) r3 hr3) Jfa ⟨O,O,O,O,G⟩) O (JLm (E2 r3) O (G5 (hK2 (Js fun hK4=>Jr fun hK5=>(JLm (E2 r3) O (JLl Gx O O O fun hm16=>(JLh (BL (decide ((r3.length:Int)=0))) (Q0 O O O) O (G5 (hK5 (JCc O h (fun h hb=>?_) (fun h hb=>?_)))))))))))
 ·
  refine Jr fun hK6=>(JLm (I64 0) O (JLm (BL false) O (G5 (hK6 (Gq (⟨[I64 0,BL false],[],G,O,⟨⟨_,O,.conv (.same O)⟩,⟨_,O,.conv (.same O)⟩,G⟩,O,congrArg (fun r:Int×Bool=>(.tup [I64 r.1,BL r.2]:AV)) (Option.some.inj h)⟩))))))
 ·
  refine Gr (hK4 (Jr fun hK7=>(JLm (E2 r3) O ?_)))
  obtain⟨m9,y8,hm9,hy8,h⟩:=Y9 h
  refine JLh (.dptr [I64 y8]) (Hf (f:=I64) (xs:=r3) (y:=y8) O O O Gx hy8 hm9) O (JLh (I64 y8) (Gg Gc O O O) O (JLm (I64 y8) O (JLm (BL true) O (G5 (hK7 (Gq (⟨[I64 y8,BL true],[],G,O,⟨⟨_,O,.conv (.same O)⟩,⟨_,O,.conv (.same O)⟩,G⟩,O,congrArg (fun r:Int×Bool=>(.tup [I64 r.1,BL r.2]:AV)) (Option.some.inj h)⟩)))))))

def Zf (l:List Ha) (covers:Int):Option Gk:=
 bnd (J1c (min (l.length:Int) 12) l.length) fun m5=>
 each (fun y106 i106 (s106:(List G2)×(List G8)×Int×Int×Int×Int×(List Row)×(List Frame)×(List Gp)×Int×Int×Int×Int) nx106=>
  jp (fun kj109=>
   chk (y106.Bay) fun v112=>
   bnd (Gd8 v112 5) fun v113=>
   chk (y106.Row) fun v114=>
   bnd (Gd8 v114 5) fun v115=>
   chk (y106.Tiers) fun v116=>
   bnd (Gd8 v116 4) fun v117=>
   chk (2+v117) fun v118=>
   chk (13000*v113) fun v120=>
   chk (v120 - 26000) fun v121=>
   chk (2500*v115) fun v122=>
   chk (v122 - 5000) fun v123=>
   jp (fun kj124=>
    bif y106.Deck then
    (kj124 20000)
    else
    (kj124 2000)) fun(j124:Int)=>
   bnd (H39 (Gk.mk s106.1 s106.2.1 (Light.mk s106.2.2.1 s106.2.2.2.1 s106.2.2.2.2.1 s106.2.2.2.2.2.1) s106.2.2.2.2.2.2.1 s106.2.2.2.2.2.2.2.1 s106.2.2.2.2.2.2.2.2.1 (G4.mk s106.2.2.2.2.2.2.2.2.2.1 s106.2.2.2.2.2.2.2.2.2.2.1 s106.2.2.2.2.2.2.2.2.2.2.2.1 s106.2.2.2.2.2.2.2.2.2.2.2.2)) v113 v115 y106.Deck) fun r127=>
   bif (!r127.2) then
   (need (decide ((s106.1.length+[(G2.mk v113 v115 y106.Deck v118 0 500000000 500000000 0 [] v121 v123 j124)].length)*112≤140737488355328∧s106.1.length+[(G2.mk v113 v115 y106.Deck v118 0 500000000 500000000 0 [] v121 v123 j124)].length≤maxLen)) <|
    kj109 (s106.1++[(G2.mk v113 v115 y106.Deck v118 0 500000000 500000000 0 [] v121 v123 j124)]))
   else
   (kj109 s106.1)) fun(j109:(List G2))=>
  nx106 (j109,s106.2.1,s106.2.2.1,s106.2.2.2.1,s106.2.2.2.2.1,s106.2.2.2.2.2.1,s106.2.2.2.2.2.2.1,s106.2.2.2.2.2.2.2.1,s106.2.2.2.2.2.2.2.2.1,s106.2.2.2.2.2.2.2.2.2.1,s106.2.2.2.2.2.2.2.2.2.2.1,s106.2.2.2.2.2.2.2.2.2.2.2.1,s106.2.2.2.2.2.2.2.2.2.2.2.2))
 (fun(s106:(List G2)×(List G8)×Int×Int×Int×Int×(List Row)×(List Frame)×(List Gp)×Int×Int×Int×Int)=>
  jp (fun kj130=>
   bif decide ((s106.1.length:Int)=0) then
   (kj130 ([(G2.mk 0 0 false 3 0 500000000 500000000 0 [] 0 0 2000)]))
   else
   (kj130 s106.1)) fun(j130:(List G2))=>
  need (decide (5≤9223372036854775807)) <|
  upto (fun i200 (s200:(List G2)×(List G8)×Int×Int×Int×Int×(List Row)×(List Frame)×(List Gp)×Int×Int×Int×Int) nx200=>
   jp (fun kj203=>
    jp (fun kj204=>
     chk (2*(i200:Int)) fun v206=>
     bnd (J1c v206 4294967295) fun m207=>
     bif decide ((R89 .u32 (Jd0 .u32 covers m207) 1)=1) then
     (need (decide ((s200.2.1.length+[(G8.mk (i200:Int) [0,1])].length)*32≤140737488355328∧s200.2.1.length+[(G8.mk (i200:Int) [0,1])].length≤maxLen)) <|
      kj204 (s200.2.1++[(G8.mk (i200:Int) [0,1])]))
     else
     (kj204 s200.2.1)) fun(j204:(List G8))=>
    chk (2*(i200:Int)) fun v210=>
    chk (v210+1) fun v211=>
    bnd (J1c v211 4294967295) fun m212=>
    bif decide ((R89 .u32 (Jd0 .u32 covers m212) 1)=1) then
    (need (decide ((j204.length+[(G8.mk (i200:Int) [2,3,4])].length)*32≤140737488355328∧j204.length+[(G8.mk (i200:Int) [2,3,4])].length≤maxLen)) <|
     kj203 (j204++[(G8.mk (i200:Int) [2,3,4])]))
    else
    (kj203 j204)) fun(j203:(List G8))=>
   nx200 (s200.1,j203,s200.2.2.1,s200.2.2.2.1,s200.2.2.2.2.1,s200.2.2.2.2.2.1,s200.2.2.2.2.2.2.1,s200.2.2.2.2.2.2.2.1,s200.2.2.2.2.2.2.2.2.1,s200.2.2.2.2.2.2.2.2.2.1,s200.2.2.2.2.2.2.2.2.2.2.1,s200.2.2.2.2.2.2.2.2.2.2.2.1,s200.2.2.2.2.2.2.2.2.2.2.2.2))
  (fun(s200:(List G2)×(List G8)×Int×Int×Int×Int×(List Row)×(List Frame)×(List Gp)×Int×Int×Int×Int)=>
   some (Gk.mk s200.1 s200.2.1 (Light.mk s200.2.2.1 s200.2.2.2.1 s200.2.2.2.2.1 s200.2.2.2.2.2.1) s200.2.2.2.2.2.2.1 s200.2.2.2.2.2.2.2.1 s200.2.2.2.2.2.2.2.2.1 (G4.mk s200.2.2.2.2.2.2.2.2.2.1 s200.2.2.2.2.2.2.2.2.2.2.1 s200.2.2.2.2.2.2.2.2.2.2.2.1 s200.2.2.2.2.2.2.2.2.2.2.2.2))) (5:Int).toNat 0 (j130,s106.2.1,s106.2.2.1,s106.2.2.2.1,s106.2.2.2.2.1,s106.2.2.2.2.2.1,s106.2.2.2.2.2.2.1,s106.2.2.2.2.2.2.2.1,s106.2.2.2.2.2.2.2.2.1,s106.2.2.2.2.2.2.2.2.2.1,s106.2.2.2.2.2.2.2.2.2.2.1,s106.2.2.2.2.2.2.2.2.2.2.2.1,s106.2.2.2.2.2.2.2.2.2.2.2.2)) (l.take m5) 0 ([],[],0,0,0,0,[],[],[],0,0,0,0)
abbrev Kb:List AV:=[E1 ([]:List G2),E7 ([]:List G8),I64 0,I64 0,I64 0,I64 0,E3 ([]:List Row),E4 ([]:List Frame),E5 ([]:List Gp),I64 0,I64 0,I64 0,I64 0]
abbrev Kc (s106:(List G2)×(List G8)×Int×Int×Int×Int×(List Row)×(List Frame)×(List Gp)×Int×Int×Int×Int):List AV:=[OW 1060 12 G2.av s106.1,OW 1061 2 G8.av s106.2.1,I64 s106.2.2.1,I64 s106.2.2.2.1,I64 s106.2.2.2.2.1,I64 s106.2.2.2.2.2.1,E3 s106.2.2.2.2.2.2.1,E4 s106.2.2.2.2.2.2.2.1,E5 s106.2.2.2.2.2.2.2.2.1,I64 s106.2.2.2.2.2.2.2.2.2.1,I64 s106.2.2.2.2.2.2.2.2.2.2.1,I64 s106.2.2.2.2.2.2.2.2.2.2.2.1,I64 s106.2.2.2.2.2.2.2.2.2.2.2.2]
abbrev Kd (s200:(List G2)×(List G8)×Int×Int×Int×Int×(List Row)×(List Frame)×(List Gp)×Int×Int×Int×Int):List AV:=[E1 s200.1,OW 1061 2 G8.av s200.2.1,I64 s200.2.2.1,I64 s200.2.2.2.1,I64 s200.2.2.2.2.1,I64 s200.2.2.2.2.2.1,E3 s200.2.2.2.2.2.2.1,E4 s200.2.2.2.2.2.2.2.1,E5 s200.2.2.2.2.2.2.2.2.1,I64 s200.2.2.2.2.2.2.2.2.2.1,I64 s200.2.2.2.2.2.2.2.2.2.2.1,I64 s200.2.2.2.2.2.2.2.2.2.2.2.1,I64 s200.2.2.2.2.2.2.2.2.2.2.2.2]
theorem Gc2 (l:List Ha) (covers:Int) (r:Gk) (h:Zf l covers=some r):Pure Eo 29 [Ed l,.sc (.int .u32 covers)] (·=.agg (Gk.cs r)):=by
 unfold Zf at h
 refine Gy [.cell 4 36] Tryz.func29 O O (Jr fun hK1=>(JLh (.ptr 1056 0) (G58 1056 Kb [.slice none 0 0,.slice none 0 0,E0,E0,E0,E0,.slice none 0 0,.slice none 0 0,.slice none 0 0,E0,E0,E0,E0] G5d ⟨.inr ⟨_,O,O⟩,.inr ⟨_,O,O⟩,.inl O,.inl O,.inl O,.inl O,.inr ⟨_,O,O⟩,.inr ⟨_,O,O⟩,.inr ⟨_,O,O⟩,.inl O,.inl O,.inl O,.inl O,G⟩ O O) O (G5 (hK1 ?_))))
 refine Jr fun hK2=>(JLh (.ptr 1057 0) (G58 1057 [.sc (.slice none 0 0),.sc (.slice none 0 0),I64 0,I64 0,I64 0,I64 0,E3 ([]:List Row),E4 ([]:List Frame),E5 ([]:List Gp),I64 0,I64 0,I64 0,I64 0] [.slice none 0 0,.slice none 0 0,E0,E0,E0,E0,.slice none 0 0,.slice none 0 0,.slice none 0 0,E0,E0,E0,E0] G5d ⟨.inl O,.inl O,.inl O,.inl O,.inl O,.inl O,.inr ⟨_,O,O⟩,.inr ⟨_,O,O⟩,.inr ⟨_,O,O⟩,.inl O,.inl O,.inl O,.inl O,G⟩ O O) O (H84 1057 0 1060 58 12 O O O (cs':=[OW 1060 12 G2.av ([]:List G2),.sc (.slice none 0 0),I64 0,I64 0,I64 0,I64 0,E3 ([]:List Row),E4 ([]:List Frame),E5 ([]:List Gp),I64 0,I64 0,I64 0,I64 0]) O ?_))
 refine H84 1057 1 1061 107 2 O O O (cs':=[OW 1060 12 G2.av ([]:List G2),OW 1061 2 G8.av ([]:List G8),I64 0,I64 0,I64 0,I64 0,E3 ([]:List Row),E4 ([]:List Frame),E5 ([]:List Gp),I64 0,I64 0,I64 0,I64 0]) O (G5 (hK2 (Js fun hK3=>Jr fun hK4=>(JLm (Ed l) O (JLm (Ed l) O (JLl H8f O O O fun hm14=>(JLh (I64 (min (l.length:Int) 12)) (R0f O O O) O ?_)))))))
 obtain⟨m5,hm5,h⟩:=Ga h
 refine JLh (Ed (l.take m5)) (H14 (f:=Ha.av) (xs:=l) O O O H8f (Gd9 hm5)) O (JLl H8f O O O fun hm17=>(JLm (I64 0) O (G5 (hK4 (Gw ?_)))))
 obtain⟨b106,kx106,hb106,hkx106,h⟩:=Jx h
 refine Jb (fun i106 (s106:(List G2)×(List G8)×Int×Int×Int×Int×(List Row)×(List Frame)×(List Gp)×Int×Int×Int×Int)=>each b106 kx106 (List.drop i106 (l.take m5)) i106 s106=some r) (fun i106 s106=>[(1,.sc (.int .u32 covers)),(4,.ptr 1056 0),(5,.ptr 1057 0),(16,Ed (l.take m5)),(17,I64 ((l.take m5).length:Int)),(18,En i106)]) (fun i106 s106=>[(1060,.spare 58 12 s106.1.length s106.1.length),(1061,.spare 107 2 s106.2.1.length s106.2.1.length),(1056,.box 36 Kb),(1057,.box 36 (Kc s106))]) (fun i106=>(l.take m5).length - i106) 0 ([],[],0,0,0,0,[],[],[],0,0,0,0) h ⟨(.sm O O),⟨⟨_,rfl,.same⟩,⟨_,rfl,.same⟩,⟨_,rfl,.boxL rfl (.sm O O)⟩,⟨_,rfl,.boxL rfl (.sm O O)⟩,G⟩,rfl⟩ ?_
 clear h
 intro i106 s106 hi106 K106 e106
 refine Jr fun hK107=>(JLh (BL (decide ((i106:Int) < ((l.take m5).length:Int)))) (Qg O O O) O (G5 (hK107 (Js fun hK108=>Gn O (fun hb=>?_) (fun hb=>?_)))))
 ·
  have hk106:=Qr hb
  obtain⟨y106,nx106,hy106,hn106,h⟩:=J9 hi106 hk106
  replace h:=G17 hb106 h
  refine Gr (hK108 ?_)
  obtain⟨kj109,hkj109,h⟩:=Yu h
  refine Rg (fun j109:(List G2)=>kj109 j109=some r) (fun j109=>[(1,.sc (.int .u32 covers)),(4,.ptr 1056 0),(5,.ptr 1057 0),(16,Ed (l.take m5)),(17,I64 ((l.take m5).length:Int)),(18,En i106)]) (fun j109=>[(1060,.spare 58 12 j109.length j109.length),(1061,.spare 107 2 s106.2.1.length s106.2.1.length),(1056,.box 36 Kb),(1057,.box 36 [OW 1060 12 G2.av j109,OW 1061 2 G8.av s106.2.1,I64 s106.2.2.1,I64 s106.2.2.2.1,I64 s106.2.2.2.2.1,I64 s106.2.2.2.2.2.1,E3 s106.2.2.2.2.2.2.1,E4 s106.2.2.2.2.2.2.2.1,E5 s106.2.2.2.2.2.2.2.2.1,I64 s106.2.2.2.2.2.2.2.2.2.1,I64 s106.2.2.2.2.2.2.2.2.2.2.1,I64 s106.2.2.2.2.2.2.2.2.2.2.2.1,I64 s106.2.2.2.2.2.2.2.2.2.2.2.2])]) (fun Kj109 ej109=>?_) ?_
  ·
   refine Gw (Jr fun hK110=>(JLh (.dptr (Ha.cs y106)) (Hf (f:=Ha.av) (xs:=(l.take m5)) (y:=y106) O O O H8f hy106 O) O (JLh (.agg (Ha.cs y106)) (Gi Rd7 O O O) O (JLh (.ptr 1058 0) (Hp 1058 4 R16 O O) O (Ho (u:=.junk) (Hc (u:=.agg (Ha.cs y106)) (ds:=[U8 y106.Bay,U8 y106.Row,U8 y106.Tiers,BL y106.Deck]) R48 O O O O O O O O) (G5 (hK110 ?_)))))))
   refine Gm [(1,.sc (.int .u32 covers)),(4,.ptr 1056 0),(5,.ptr 1057 0),(7,.dptr (Ha.cs y106)),(16,Ed (l.take m5)),(17,I64 ((l.take m5).length:Int)),(18,En i106)] [(1060,.spare 58 12 s106.1.length s106.1.length),(1061,.spare 107 2 s106.2.1.length s106.2.1.length),(1056,.box 36 Kb),(1057,.box 36 (Kc s106))] 1058 rfl rfl rfl ⟨⟨_,rfl,.same⟩,⟨_,rfl,.same⟩,⟨_,rfl,.boxEq rfl rfl⟩,⟨_,rfl,.boxEq rfl rfl⟩,G⟩ rfl (by repeat' (first | exact .ptr | constructor)) ?_
   refine Jr fun hK111=>(JLh (.dptr (Ha.cs y106)) (G9 Q51 O O O) O (JLh (U8 y106.Bay) (Gg Hn O O O) O ?_))
   obtain⟨v112,hv112,h⟩:=Jd h
   refine JLh (I64 v112) (G6a Zd G01 hv112 O O) O ?_
   obtain⟨v113,hv113,h⟩:=Ga h
   refine JLh (I64 v113) (H02 (Jp hv113).1 (Jp hv113).2 O O O) O (JLh (.dptr ((Ha.cs y106).drop 1)) (G9 Q50 O O O) O (JLh (U8 y106.Row) (Gg Hn O O O) O ?_))
   obtain⟨v114,hv114,h⟩:=Jd h
   refine JLh (I64 v114) (G6a Zd G01 hv114 O O) O ?_
   obtain⟨v115,hv115,h⟩:=Ga h
   refine JLh (I64 v115) (H02 (Jp hv115).1 (Jp hv115).2 O O O) O (JLh (.dptr [BL y106.Deck]) (G9 Q4e O O O) O (JLh (BL y106.Deck) (Gg Q1 O O O) O (JLh (.dptr [U8 y106.Tiers,BL y106.Deck]) (G9 Q4f O O O) O (JLh (U8 y106.Tiers) (Gg Hn O O O) O ?_))))
   obtain⟨v116,hv116,h⟩:=Jd h
   refine JLh (I64 v116) (G6a Zd G01 hv116 O O) O ?_
   obtain⟨v117,hv117,h⟩:=Ga h
   refine JLh (I64 v117) (H02 (Jp hv117).1 (Jp hv117).2 O O O) O ?_
   obtain⟨v118,hv118,h⟩:=Jd h
   refine JLh (I64 v118) (Jf hv118 O O O) O (JLh (.agg [I64 v113,I64 v115,BL y106.Deck,I64 v118,I64 0,I64 500000000,I64 500000000,I64 0,E2 ([]:List Int),I64 0,I64 0,I64 0]) (Hb (cs:=[I64 v113,I64 v115,BL y106.Deck,I64 v118,I64 0,I64 500000000,I64 500000000,I64 0,E2 ([]:List Int),I64 0,I64 0,I64 0]) [(0,1),(1,1),(2,1),(3,1),(4,1),(5,1),(6,1),(7,1),(8,1),(9,1),(10,1),(11,1)] [I64 0,I64 0,BL false,I64 0,I64 0,I64 0,I64 0,I64 0,E2 ([]:List Int),I64 0,I64 0,I64 0] [E0,E0,.bool false,E0,E0,E0,E0,E0,.slice none 0 0,E0,E0,E0] G60 Gcc ⟨.inl O,.inl O,.inl O,.inl O,.inl O,.inl O,.inl O,.inl O,.inr ⟨_,O,O⟩,.inl O,.inl O,.inl O,G⟩ O O) O (JLh (.ptr 1059 0) (Hp 1059 12 G2e O O) O (Ho (u:=.junk) (Hc (u:=.agg [I64 v113,I64 v115,BL y106.Deck,I64 v118,I64 0,I64 500000000,I64 500000000,I64 0,E2 ([]:List Int),I64 0,I64 0,I64 0]) (ds:=[I64 v113,I64 v115,BL y106.Deck,I64 v118,I64 0,I64 500000000,I64 500000000,I64 0,E2 ([]:List Int),I64 0,I64 0,I64 0]) Hc9 O O O O O O O O) (G5 (hK111 ?_)))))
   refine Jr fun hK119=>(JLh (.ptr 1059 0) (Hh G73 O O) O (JLh (I64 v113) (Hx Gc O O O O) O ?_))
   obtain⟨v120,hv120,h⟩:=Jd h
   refine JLh (I64 v120) (Jc2 hv120 O O O) O ?_
   obtain⟨v121,hv121,h⟩:=Jd h
   refine JLh (I64 v121) (H49 hv121 O O O) O (JLh (.ptr 1059 1) (Hh G72 O O) O (JLh (I64 v115) (Hx Gc O O O O) O ?_))
   obtain⟨v122,hv122,h⟩:=Jd h
   refine JLh (I64 v122) (Jc2 hv122 O O O) O ?_
   obtain⟨v123,hv123,h⟩:=Jd h
   refine JLh (I64 v123) (H49 hv123 O O O) O (JLh (.ptr 1059 9) (Hh J55 O O) O (Ho (u:=.junk) (Hc (u:=I64 v121) (ds:=[I64 v113,I64 v115,BL y106.Deck,I64 v118,I64 0,I64 500000000,I64 500000000,I64 0,E2 ([]:List Int),I64 v121,I64 0,I64 0]) G2b O O O O O O O O) (JLh (.ptr 1059 10) (Hh J0f O O) O (Ho (u:=.junk) (Hc (u:=I64 v123) (ds:=[I64 v113,I64 v115,BL y106.Deck,I64 v118,I64 0,I64 500000000,I64 500000000,I64 0,E2 ([]:List Int),I64 v121,I64 v123,I64 0]) G2b O O O O O O O O) (JLh (.ptr 1059 11) (Hh H61 O O) O (Ho (u:=.junk) (Hc (u:=I64 2000) (ds:=[I64 v113,I64 v115,BL y106.Deck,I64 v118,I64 0,I64 500000000,I64 500000000,I64 0,E2 ([]:List Int),I64 v121,I64 v123,I64 2000]) G2b O O O O O O O O) (G5 (hK119 ?_))))))))
   obtain⟨kj124,hkj124,h⟩:=Yu h
   refine Rg (fun j124:Int=>kj124 j124=some r) (fun j124=>[(1,.sc (.int .u32 covers)),(4,.ptr 1056 0),(5,.ptr 1057 0),(8,.ptr 1059 0),(16,Ed (l.take m5)),(17,I64 ((l.take m5).length:Int)),(18,En i106)]) (fun j124=>[(1060,.spare 58 12 s106.1.length s106.1.length),(1061,.spare 107 2 s106.2.1.length s106.2.1.length),(1056,.box 36 Kb),(1057,.box 36 (Kc s106)),(1059,.box 58 [I64 v113,I64 v115,BL y106.Deck,I64 v118,I64 0,I64 500000000,I64 500000000,I64 0,E2 ([]:List Int),I64 v121,I64 v123,I64 j124])]) (fun Kj124 ej124=>?_) ?_
   ·
    refine Jr fun hK125=>(JLh (.ptr 1059 2) (Hh Ys O O) O (JLh (BL y106.Deck) (Hx Q1 O O O O) O (G5 (hK125 (JCc O h (fun h hb=>?_) (fun h hb=>?_))))))
    ·
     refine G1 (JLh (.ptr 1059 11) (Hh H61 O O) O (Ho (u:=.junk) (Hc (u:=I64 20000) (ds:=[I64 v113,I64 v115,BL y106.Deck,I64 v118,I64 0,I64 500000000,I64 500000000,I64 0,E2 ([]:List Int),I64 v121,I64 v123,I64 20000]) G2b O O O O O O O O) (G5 (ej124 _ _ 20000 h ⟨(.sm O O),⟨⟨_,rfl,.same⟩,⟨_,rfl,.same⟩,⟨_,rfl,.boxL rfl (.sm O O)⟩,⟨_,rfl,.boxL rfl (.sm O O)⟩,⟨_,rfl,.boxL rfl (.sm O O)⟩,G⟩,rfl⟩))))
    ·
     refine Gr (ej124 _ _ 2000 h ⟨(.sm O O),⟨⟨_,rfl,.same⟩,⟨_,rfl,.same⟩,⟨_,rfl,.boxL rfl (.sm O O)⟩,⟨_,rfl,.boxL rfl (.sm O O)⟩,⟨_,rfl,.boxL rfl (.sm O O)⟩,G⟩,rfl⟩)
   ·intro j124 h
    replace h:=app1 hkj124 h
    refine Jr fun hK126=>(JLh (.agg (Kc s106)) (Ga3 Hq O O O O) O (JLh (.ptr 1059 0) (Hh G73 O O) O (JLh (I64 v113) (Hx Gc O O O O) O (JLh (.ptr 1059 1) (Hh G72 O O) O (JLh (I64 v115) (Hx Gc O O O O) O (JLh (.ptr 1059 2) (Hh Ys O O) O (JLh (BL y106.Deck) (Hx Q1 O O O O) O ?_)))))))
    obtain⟨r127,hr127,h⟩:=Ga h
    refine JLh (.tup [I64 r127.1,BL r127.2]) (Gs O (Qdb (Gk.mk s106.1 s106.2.1 (Light.mk s106.2.2.1 s106.2.2.2.1 s106.2.2.2.2.1 s106.2.2.2.2.2.1) s106.2.2.2.2.2.2.1 s106.2.2.2.2.2.2.2.1 s106.2.2.2.2.2.2.2.2.1 (G4.mk s106.2.2.2.2.2.2.2.2.2.1 s106.2.2.2.2.2.2.2.2.2.2.1 s106.2.2.2.2.2.2.2.2.2.2.2.1 s106.2.2.2.2.2.2.2.2.2.2.2.2)) v113 v115 y106.Deck r127 hr127) Rbb ⟨O,O,O,O,O,O,O,O,G⟩) O (JLm (.tup [I64 r127.1,BL r127.2]) O (JLh (I64 r127.1) (Gz O O O) O (JLh (BL r127.2) (Gz O O O) O (JLm (I64 r127.1) O (JLm (BL r127.2) O (G5 (hK126 ?_)))))))
    refine Gm [(1,.sc (.int .u32 covers)),(4,.ptr 1056 0),(5,.ptr 1057 0),(8,.dptr [I64 v113,I64 v115,BL y106.Deck,I64 v118,I64 0,I64 500000000,I64 500000000,I64 0,E2 ([]:List Int),I64 v121,I64 v123,I64 j124]),(10,BL r127.2),(16,Ed (l.take m5)),(17,I64 ((l.take m5).length:Int)),(18,En i106)] [(1060,.spare 58 12 s106.1.length s106.1.length),(1061,.spare 107 2 s106.2.1.length s106.2.1.length),(1056,.box 36 Kb),(1057,.box 36 (Kc s106))] 1059 rfl rfl rfl ⟨⟨_,rfl,.same⟩,⟨_,rfl,.same⟩,⟨_,rfl,.boxEq rfl rfl⟩,⟨_,rfl,.boxEq rfl rfl⟩,G⟩ rfl (by repeat' (first | exact .ptr | constructor)) ?_
    refine Jr fun hK128=>(JLm (BL r127.2) O (JLh (BL (!r127.2)) (Qx (b:=r127.2) O O) O (G5 (hK128 (JCc O h (fun h hb=>?_) (fun h hb=>?_))))))
    ·
     refine G1 (JLh (.ptr 1057 0) (Hh Hv O O) O (JLh (OW 1060 12 G2.av s106.1) (Hx J8 O O O O) O (JLh (.agg [I64 v113,I64 v115,BL y106.Deck,I64 v118,I64 0,I64 500000000,I64 500000000,I64 0,E2 ([]:List Int),I64 v121,I64 v123,I64 j124]) (Gi G75 O O O) O (JLh (E1 ([(G2.mk v113 v115 y106.Deck v118 0 500000000 500000000 0 [] v121 v123 j124)])) (H8 (xs:=[.agg [I64 v113,I64 v115,BL y106.Deck,I64 v118,I64 0,I64 500000000,I64 500000000,I64 0,E2 ([]:List Int),I64 v121,I64 v123,I64 j124]]) O ⟨O,O,G⟩ Ht G2e O O O O) O ?_))))
     obtain⟨ha129,h⟩:=J7 h
     refine JLh (OW 1060 12 G2.av (s106.1++[(G2.mk v113 v115 y106.Deck v118 0 500000000 500000000 0 [] v121 v123 j124)])) (Qk (f:=G2.av) (xs:=s106.1) (ys:=[(G2.mk v113 v115 y106.Deck v118 0 500000000 500000000 0 [] v121 v123 j124)]) O O O O Ht Hcd ha129 (fun _=>O) (.inl O) O) O (JLh (.ptr 1057 0) (Hh Hv O O) O (Ho (u:=.junk) (Hc (u:=OW 1060 12 G2.av (s106.1++[(G2.mk v113 v115 y106.Deck v118 0 500000000 500000000 0 [] v121 v123 j124)])) (ds:=[OW 1060 12 G2.av (s106.1++[(G2.mk v113 v115 y106.Deck v118 0 500000000 500000000 0 [] v121 v123 j124)]),OW 1061 2 G8.av s106.2.1,I64 s106.2.2.1,I64 s106.2.2.2.1,I64 s106.2.2.2.2.1,I64 s106.2.2.2.2.2.1,E3 s106.2.2.2.2.2.2.1,E4 s106.2.2.2.2.2.2.2.1,E5 s106.2.2.2.2.2.2.2.2.1,I64 s106.2.2.2.2.2.2.2.2.2.1,I64 s106.2.2.2.2.2.2.2.2.2.2.1,I64 s106.2.2.2.2.2.2.2.2.2.2.2.1,I64 s106.2.2.2.2.2.2.2.2.2.2.2.2]) J62 O O O O O O O O) (G5 ?_)))
     exact ej109 _ _ (s106.1++[(G2.mk v113 v115 y106.Deck v118 0 500000000 500000000 0 [] v121 v123 j124)]) h ⟨(.sm O O),⟨⟨_,rfl,.same⟩,⟨_,rfl,.same⟩,⟨_,rfl,.boxL rfl (.sm O O)⟩,⟨_,rfl,.boxL rfl (.sm O O)⟩,G⟩,rfl⟩
    ·
     refine Gr (ej109 _ _ s106.1 h ⟨(.sm O O),⟨⟨_,rfl,.same⟩,⟨_,rfl,.same⟩,⟨_,rfl,.boxL rfl (.sm O O)⟩,⟨_,rfl,.boxL rfl (.sm O O)⟩,G⟩,rfl⟩)
  ·intro j109 h
   replace h:=app1 hkj109 h
   refine G1 (JLh (I64 ((i106+1:Nat):Int)) (Jf (J6 hk106 hm17) O O O) O (JLm (I64 ((i106+1:Nat):Int)) O (G5 (e106 _ _ (i106+1) (j109,s106.2.1,s106.2.2.1,s106.2.2.2.1,s106.2.2.2.2.1,s106.2.2.2.2.2.1,s106.2.2.2.2.2.2.1,s106.2.2.2.2.2.2.2.1,s106.2.2.2.2.2.2.2.2.1,s106.2.2.2.2.2.2.2.2.2.1,s106.2.2.2.2.2.2.2.2.2.2.1,s106.2.2.2.2.2.2.2.2.2.2.2.1,s106.2.2.2.2.2.2.2.2.2.2.2.2) (app1 hn106 h) (by omega) ⟨(.sm O O),⟨⟨_,rfl,.same⟩,⟨_,rfl,.same⟩,⟨_,rfl,.boxL rfl (.sm O O)⟩,⟨_,rfl,.boxL rfl (.sm O O)⟩,G⟩,rfl⟩))))
 ·
  have h:=app1 hkx106 (Ja hi106 (Hs hb))
  refine Je (hK3 ?_)
  obtain⟨kj130,hkj130,h⟩:=Yu h
  refine Rg (fun j130:(List G2)=>kj130 j130=some r) (fun j130=>[(1,.sc (.int .u32 covers)),(4,.ptr 1056 0),(5,.ptr 1057 0)]) (fun j130=>[(1061,.spare 107 2 s106.2.1.length s106.2.1.length),(1056,.box 36 Kb),(1057,.box 36 [E1 j130,OW 1061 2 G8.av s106.2.1,I64 s106.2.2.1,I64 s106.2.2.2.1,I64 s106.2.2.2.2.1,I64 s106.2.2.2.2.2.1,E3 s106.2.2.2.2.2.2.1,E4 s106.2.2.2.2.2.2.2.1,E5 s106.2.2.2.2.2.2.2.2.1,I64 s106.2.2.2.2.2.2.2.2.2.1,I64 s106.2.2.2.2.2.2.2.2.2.2.1,I64 s106.2.2.2.2.2.2.2.2.2.2.2.1,I64 s106.2.2.2.2.2.2.2.2.2.2.2.2])]) (fun Kj130 ej130=>?_) ?_
  ·
   refine Jr fun hK131=>(JLh (.ptr 1057 0) (Hh Hv O O) O (JLh (OW 1060 12 G2.av s106.1) (Hx J8 O O O O) O (JLl Ht O O O fun hm74=>(JLh (BL (decide ((s106.1.length:Int)=0))) (Q0 O O O) O (G5 (hK131 (JCc O h (fun h hb=>?_) (fun h hb=>?_))))))))
   ·
    refine G1 ?_
    refine JLh (.agg [I64 0,I64 0,BL false,I64 3,I64 0,I64 500000000,I64 500000000,I64 0,E2 ([]:List Int),I64 0,I64 0,I64 2000]) (Hb (cs:=[I64 0,I64 0,BL false,I64 3,I64 0,I64 500000000,I64 500000000,I64 0,E2 ([]:List Int),I64 0,I64 0,I64 2000]) [(0,1),(1,1),(2,1),(3,1),(4,1),(5,1),(6,1),(7,1),(8,1),(9,1),(10,1),(11,1)] [I64 0,I64 0,BL false,I64 0,I64 0,I64 0,I64 0,I64 0,E2 ([]:List Int),I64 0,I64 0,I64 0] [E0,E0,.bool false,E0,E0,E0,E0,E0,.slice none 0 0,E0,E0,E0] G60 Gcc ⟨.inl O,.inl O,.inl O,.inl O,.inl O,.inl O,.inl O,.inl O,.inr ⟨_,O,O⟩,.inl O,.inl O,.inl O,G⟩ O O) O (JLh (E1 ([(G2.mk 0 0 false 3 0 500000000 500000000 0 [] 0 0 2000)])) (H8 (xs:=[.agg [I64 0,I64 0,BL false,I64 3,I64 0,I64 500000000,I64 500000000,I64 0,E2 ([]:List Int),I64 0,I64 0,I64 2000]]) O ⟨O,O,G⟩ Ht G2e O O O O) O (JLh (.ptr 1057 0) (Hh Hv O O) O (Ho (u:=.junk) (Hc (u:=E1 ([(G2.mk 0 0 false 3 0 500000000 500000000 0 [] 0 0 2000)])) (ds:=[E1 ([(G2.mk 0 0 false 3 0 500000000 500000000 0 [] 0 0 2000)]),OW 1061 2 G8.av s106.2.1,I64 s106.2.2.1,I64 s106.2.2.2.1,I64 s106.2.2.2.2.1,I64 s106.2.2.2.2.2.1,E3 s106.2.2.2.2.2.2.1,E4 s106.2.2.2.2.2.2.2.1,E5 s106.2.2.2.2.2.2.2.2.1,I64 s106.2.2.2.2.2.2.2.2.2.1,I64 s106.2.2.2.2.2.2.2.2.2.2.1,I64 s106.2.2.2.2.2.2.2.2.2.2.2.1,I64 s106.2.2.2.2.2.2.2.2.2.2.2.2]) J62 O O O O O O O O) (G5 ?_))))
    exact ej130 _ _ ([(G2.mk 0 0 false 3 0 500000000 500000000 0 [] 0 0 2000)]) h ⟨(.sm O O),⟨⟨_,rfl,.same⟩,⟨_,rfl,.boxL rfl (.sm O O)⟩,⟨_,rfl,.boxL rfl (.sm O O)⟩,G⟩,rfl⟩
   ·
    refine Gr (ej130 _ _ s106.1 h ⟨(.sm O O),⟨⟨_,rfl,.same⟩,⟨_,rfl,.boxL rfl (.sm O O)⟩,⟨_,rfl,.boxL rfl ⟨.list rfl,.same rfl,.same rfl,.same rfl,.same rfl,.same rfl,.same rfl,.same rfl,.same rfl,.same rfl,.same rfl,.same rfl,.same rfl,G⟩⟩,G⟩,rfl⟩)
  ·intro j130 h
   replace h:=app1 hkj130 h
   refine Js fun hK132=>Jr fun hK133=>(JLm (I64 0) O (G5 (hK133 (Gw ?_))))
   obtain⟨hx200,h⟩:=J7 h
   obtain⟨b200,kx200,hb200,hkx200,h⟩:=R13 h
   refine Jb (fun i200 (s200:(List G2)×(List G8)×Int×Int×Int×Int×(List Row)×(List Frame)×(List Gp)×Int×Int×Int×Int)=>upto b200 kx200 ((5:Int).toNat - i200) i200 s200=some r) (fun i200 s200=>[(1,.sc (.int .u32 covers)),(4,.ptr 1056 0),(5,.ptr 1057 0),(11,En i200)]) (fun i200 s200=>[(1061,.spare 107 2 s200.2.1.length s200.2.1.length),(1056,.box 36 Kb),(1057,.box 36 (Kd s200))]) (fun i200=>(5:Int).toNat - i200) 0 (j130,s106.2.1,s106.2.2.1,s106.2.2.2.1,s106.2.2.2.2.1,s106.2.2.2.2.2.1,s106.2.2.2.2.2.2.1,s106.2.2.2.2.2.2.2.1,s106.2.2.2.2.2.2.2.2.1,s106.2.2.2.2.2.2.2.2.2.1,s106.2.2.2.2.2.2.2.2.2.2.1,s106.2.2.2.2.2.2.2.2.2.2.2.1,s106.2.2.2.2.2.2.2.2.2.2.2.2) h ⟨(.sm O O),⟨⟨_,rfl,.same⟩,⟨_,rfl,.boxL rfl (.sm O O)⟩,⟨_,rfl,.boxL rfl (.sm O O)⟩,G⟩,rfl⟩ ?_
   clear h
   intro i200 s200 hi200 K200 e200
   refine Js fun hK201=>Jr fun hK202=>(JLm (En i200) O (JLh (BL (decide ((i200:Int) < 5))) (Qg O O O) O (G5 (hK202 (Gn O (fun hb=>?_) (fun hb=>?_))))))
   ·
    have hk200:=Q85 hb
    obtain⟨nx200,hn200,h⟩:=Q40 hi200 hk200
    replace h:=Q9b hb200 h
    refine Gr (hK201 ?_)
    obtain⟨kj203,hkj203,h⟩:=Yu h
    refine Rg (fun j203:(List G8)=>kj203 j203=some r) (fun j203=>[(1,.sc (.int .u32 covers)),(4,.ptr 1056 0),(5,.ptr 1057 0),(11,En i200)]) (fun j203=>[(1061,.spare 107 2 j203.length j203.length),(1056,.box 36 Kb),(1057,.box 36 [E1 s200.1,OW 1061 2 G8.av j203,I64 s200.2.2.1,I64 s200.2.2.2.1,I64 s200.2.2.2.2.1,I64 s200.2.2.2.2.2.1,E3 s200.2.2.2.2.2.2.1,E4 s200.2.2.2.2.2.2.2.1,E5 s200.2.2.2.2.2.2.2.2.1,I64 s200.2.2.2.2.2.2.2.2.2.1,I64 s200.2.2.2.2.2.2.2.2.2.2.1,I64 s200.2.2.2.2.2.2.2.2.2.2.2.1,I64 s200.2.2.2.2.2.2.2.2.2.2.2.2])]) (fun Kj203 ej203=>?_) ?_
    ·
     refine Gw ?_
     obtain⟨kj204,hkj204,h⟩:=Yu h
     refine Rg (fun j204:(List G8)=>kj204 j204=some r) (fun j204=>[(1,.sc (.int .u32 covers)),(4,.ptr 1056 0),(5,.ptr 1057 0),(11,En i200)]) (fun j204=>[(1061,.spare 107 2 j204.length j204.length),(1056,.box 36 Kb),(1057,.box 36 [E1 s200.1,OW 1061 2 G8.av j204,I64 s200.2.2.1,I64 s200.2.2.2.1,I64 s200.2.2.2.2.1,I64 s200.2.2.2.2.2.1,E3 s200.2.2.2.2.2.2.1,E4 s200.2.2.2.2.2.2.2.1,E5 s200.2.2.2.2.2.2.2.2.1,I64 s200.2.2.2.2.2.2.2.2.2.1,I64 s200.2.2.2.2.2.2.2.2.2.2.1,I64 s200.2.2.2.2.2.2.2.2.2.2.2.1,I64 s200.2.2.2.2.2.2.2.2.2.2.2.2])]) (fun Kj204 ej204=>?_) ?_
     ·
      refine Jr fun hK205=>(JLm (.sc (.int .u32 covers)) O (JLm (En i200) O ?_))
      obtain⟨v206,hv206,h⟩:=Jd h
      refine JLh (I64 v206) (Jc2 hv206 O O O) O ?_
      obtain⟨m207,hm207,h⟩:=Ga h
      refine JLh (.sc (.int .u32 (Jd0 .u32 covers m207))) (Y06 (s:=m207) (Gd9 hm207).1 O O O) O (JLh (.sc (.int .u32 (R89 .u32 (Jd0 .u32 covers m207) 1))) (Yb8 O O O) O (JLh (BL (decide ((R89 .u32 (Jd0 .u32 covers m207) 1)=1))) (Q0 O O O) O (G5 (hK205 (JCc O h (fun h hb=>?_) (fun h hb=>?_))))))
      ·
       refine G1 (JLh (.ptr 1057 1) (Hh Jo O O) O (JLh (OW 1061 2 G8.av s200.2.1) (Hx Qa O O O O) O (JLm (En i200) O (JLh (E2 [0,1]) (H8 (xs:=[I64 0,I64 1]) O ⟨O,O,O,O,G⟩ Gx R5 O O O O) O (JLh (.agg [En i200,E2 [0,1]]) (Hb (cs:=[En i200,E2 [0,1]]) [(0,1),(1,1)] [I64 0,E2 ([]:List Int)] [E0,.slice none 0 0] Ha2 J0d ⟨.inl O,.inr ⟨_,O,O⟩,G⟩ O O) O (JLh (E7 ([(G8.mk (i200:Int) [0,1])])) (H8 (xs:=[.agg [En i200,E2 [0,1]]]) O ⟨O,O,G⟩ Ji Ge9 O O O O) O ?_))))))
       obtain⟨ha208,h⟩:=J7 h
       refine JLh (OW 1061 2 G8.av (s200.2.1++[(G8.mk (i200:Int) [0,1])])) (Qk (f:=G8.av) (xs:=s200.2.1) (ys:=[(G8.mk (i200:Int) [0,1])]) O O O O Ji H90 ha208 (fun _=>O) (.inl O) O) O (JLh (.ptr 1057 1) (Hh Jo O O) O (Ho (u:=.junk) (Hc (u:=OW 1061 2 G8.av (s200.2.1++[(G8.mk (i200:Int) [0,1])])) (ds:=[E1 s200.1,OW 1061 2 G8.av (s200.2.1++[(G8.mk (i200:Int) [0,1])]),I64 s200.2.2.1,I64 s200.2.2.2.1,I64 s200.2.2.2.2.1,I64 s200.2.2.2.2.2.1,E3 s200.2.2.2.2.2.2.1,E4 s200.2.2.2.2.2.2.2.1,E5 s200.2.2.2.2.2.2.2.2.1,I64 s200.2.2.2.2.2.2.2.2.2.1,I64 s200.2.2.2.2.2.2.2.2.2.2.1,I64 s200.2.2.2.2.2.2.2.2.2.2.2.1,I64 s200.2.2.2.2.2.2.2.2.2.2.2.2]) Q48 O O O O O O O O) (G5 ?_)))
       exact ej204 _ _ (s200.2.1++[(G8.mk (i200:Int) [0,1])]) h ⟨(.sm O O),⟨⟨_,rfl,.same⟩,⟨_,rfl,.boxL rfl (.sm O O)⟩,⟨_,rfl,.boxL rfl (.sm O O)⟩,G⟩,rfl⟩
      ·
       refine Gr (ej204 _ _ s200.2.1 h ⟨(.sm O O),⟨⟨_,rfl,.same⟩,⟨_,rfl,.boxL rfl (.sm O O)⟩,⟨_,rfl,.boxL rfl (.sm O O)⟩,G⟩,rfl⟩)
     ·intro j204 h
      replace h:=app1 hkj204 h
      refine Jr fun hK209=>(JLm (.sc (.int .u32 covers)) O (JLm (En i200) O ?_))
      obtain⟨v210,hv210,h⟩:=Jd h
      refine JLh (I64 v210) (Jc2 hv210 O O O) O ?_
      obtain⟨v211,hv211,h⟩:=Jd h
      refine JLh (I64 v211) (Jf hv211 O O O) O ?_
      obtain⟨m212,hm212,h⟩:=Ga h
      refine JLh (.sc (.int .u32 (Jd0 .u32 covers m212))) (Y06 (s:=m212) (Gd9 hm212).1 O O O) O (JLh (.sc (.int .u32 (R89 .u32 (Jd0 .u32 covers m212) 1))) (Yb8 O O O) O (JLh (BL (decide ((R89 .u32 (Jd0 .u32 covers m212) 1)=1))) (Q0 O O O) O (G5 (hK209 (JCc O h (fun h hb=>?_) (fun h hb=>?_))))))
      ·
       refine G1 (JLh (.ptr 1057 1) (Hh Jo O O) O (JLh (OW 1061 2 G8.av j204) (Hx Qa O O O O) O (JLm (En i200) O (JLh (E2 [2,3,4]) (H8 (xs:=[I64 2,I64 3,I64 4]) O ⟨O,O,O,O,O,O,G⟩ Gx R5 O O O O) O (JLh (.agg [En i200,E2 [2,3,4]]) (Hb (cs:=[En i200,E2 [2,3,4]]) [(0,1),(1,1)] [I64 0,E2 ([]:List Int)] [E0,.slice none 0 0] Ha2 J0d ⟨.inl O,.inr ⟨_,O,O⟩,G⟩ O O) O (JLh (E7 ([(G8.mk (i200:Int) [2,3,4])])) (H8 (xs:=[.agg [En i200,E2 [2,3,4]]]) O ⟨O,O,G⟩ Ji Ge9 O O O O) O ?_))))))
       obtain⟨ha213,h⟩:=J7 h
       refine JLh (OW 1061 2 G8.av (j204++[(G8.mk (i200:Int) [2,3,4])])) (Qk (f:=G8.av) (xs:=j204) (ys:=[(G8.mk (i200:Int) [2,3,4])]) O O O O Ji H90 ha213 (fun _=>O) (.inl O) O) O (JLh (.ptr 1057 1) (Hh Jo O O) O (Ho (u:=.junk) (Hc (u:=OW 1061 2 G8.av (j204++[(G8.mk (i200:Int) [2,3,4])])) (ds:=[E1 s200.1,OW 1061 2 G8.av (j204++[(G8.mk (i200:Int) [2,3,4])]),I64 s200.2.2.1,I64 s200.2.2.2.1,I64 s200.2.2.2.2.1,I64 s200.2.2.2.2.2.1,E3 s200.2.2.2.2.2.2.1,E4 s200.2.2.2.2.2.2.2.1,E5 s200.2.2.2.2.2.2.2.2.1,I64 s200.2.2.2.2.2.2.2.2.2.1,I64 s200.2.2.2.2.2.2.2.2.2.2.1,I64 s200.2.2.2.2.2.2.2.2.2.2.2.1,I64 s200.2.2.2.2.2.2.2.2.2.2.2.2]) Q48 O O O O O O O O) (G5 ?_)))
       exact ej203 _ _ (j204++[(G8.mk (i200:Int) [2,3,4])]) h ⟨(.sm O O),⟨⟨_,rfl,.same⟩,⟨_,rfl,.boxL rfl (.sm O O)⟩,⟨_,rfl,.boxL rfl (.sm O O)⟩,G⟩,rfl⟩
      ·
       refine Gr (ej203 _ _ j204 h ⟨(.sm O O),⟨⟨_,rfl,.same⟩,⟨_,rfl,.boxL rfl (.sm O O)⟩,⟨_,rfl,.boxL rfl (.sm O O)⟩,G⟩,rfl⟩)
    ·intro j203 h
     replace h:=app1 hkj203 h
     refine G1 (JLm (En i200) O (JLh (I64 ((i200+1:Nat):Int)) (Jf (J6 hk200 (Jc6 hx200)) O O O) O (JLm (I64 ((i200+1:Nat):Int)) O (G5 (e200 _ _ (i200+1) (s200.1,j203,s200.2.2.1,s200.2.2.2.1,s200.2.2.2.2.1,s200.2.2.2.2.2.1,s200.2.2.2.2.2.2.1,s200.2.2.2.2.2.2.2.1,s200.2.2.2.2.2.2.2.2.1,s200.2.2.2.2.2.2.2.2.2.1,s200.2.2.2.2.2.2.2.2.2.2.1,s200.2.2.2.2.2.2.2.2.2.2.2.1,s200.2.2.2.2.2.2.2.2.2.2.2.2) (app1 hn200 h) (by omega) ⟨(.sm O O),⟨⟨_,rfl,.same⟩,⟨_,rfl,.boxL rfl (.sm O O)⟩,⟨_,rfl,.boxL rfl (.sm O O)⟩,G⟩,rfl⟩)))))
   ·
    have h:=app1 hkx200 (Q41 hi200 (He0 hb))
    refine Je (hK132 ?_)
    refine Jr fun hK214=>(JLh (.agg (Kd s200)) (Ga3 Hq O O O O) O (Ho (u:=.junk) (Hc (u:=.agg (Kd s200)) (ds:=(Kd s200)) Zs O O O O O O O O) (G5 (hK214 ?_))))
    refine Gq (⟨[.agg [E1 s200.1,E7 s200.2.1,I64 s200.2.2.1,I64 s200.2.2.2.1,I64 s200.2.2.2.2.1,I64 s200.2.2.2.2.2.1,E3 s200.2.2.2.2.2.2.1,E4 s200.2.2.2.2.2.2.2.1,E5 s200.2.2.2.2.2.2.2.2.1,I64 s200.2.2.2.2.2.2.2.2.2.1,I64 s200.2.2.2.2.2.2.2.2.2.2.1,I64 s200.2.2.2.2.2.2.2.2.2.2.2.1,I64 s200.2.2.2.2.2.2.2.2.2.2.2.2]],[],G,O,⟨⟨_,⟨_,_,_,_,O,O,O,.inl ⟨Hq,O⟩⟩,.agg ⟨.same O,.list O,.same O,.same O,.same O,.same O,.same O,.same O,.same O,.same O,.same O,.same O,.same O,G⟩⟩,G⟩,O,congrArg (fun r:Gk=>(.agg (Gk.cs r):AV)) (Option.some.inj h)⟩)

def Z6 (x:Stowed) (p1:Box):Option Bool:=
 some (decide (x.Box=p1.ID))
theorem Gb2 (x:Stowed) (p1:Box) (r:Bool) (h:Z6 x p1=some r):Pure Eo 33 [.agg (Stowed.cs x),Eh p1] (·=BL r):=by
 unfold Z6 at h
 refine Gy [.tmp 3] Tryz.func33 O O (Jr fun hK1=>(JLh (.ptr 1072 0) (Jk (cs:=[I64 x.Box,I64 x.Slot.G2,I64 x.Slot.Tier,U8 x.Slot.Half]) 1072 O O O O O) O (JLm (BL false) O (G5 (hK1 (Gm [(1,Eh p1),(2,Ei x)] [] 1072 rfl rfl rfl G rfl (by exact⟨.conv (.same rfl),.ptr,G⟩) (Jr fun hK2=>(JLh (Ei x) (G9 Jm O O O) O (JLh (I64 x.Box) (Gg Gc O O O) O (JLh (Eh p1) (G9 Rc O O O) O (JLh (I64 p1.ID) (Gg Gc O O O) O (JLh (BL (decide (x.Box=p1.ID))) (Q0 O O O) O (JLm (BL (decide (x.Box=p1.ID))) O (G5 (hK2 (Gq (fin1 BL h)))))))))))))))))

def Qs (places:List Ha) (covers:Int) (drops:List Gu):Option (Gk×(List Box)×(List Stowed)×Gb):=
 bnd (Zf places covers) fun r3=>
 bnd (R7 r3 drops 8) fun r5=>
 each (fun y31 i31 (s31:(List Stowed)) nx31=>
  jp (fun kj34=>
   bnd (Qb s31) fun r37=>
   need (decide ((r37.length+[y31].length)*32≤140737488355328∧r37.length+[y31].length≤maxLen)) <|
   bnd (Gd8 y31.Box 10) fun v40=>
   bnd (bif decide (v40=0) then Yz r3 r5.1 (r37++[y31]) else some default) fun r41=>
   bif ((decide (v40=0))&&r41) then
   (kj34 (r37++[y31]))
   else
   (kj34 s31)) fun(j34:(List Stowed))=>
  nx31 j34)
 (fun(s31:(List Stowed))=>
  each (fun y61 i61 (s61:(List Int)) nx61=>
   jp (fun kj64=>
    bnd (Hy s31 (fun z0=>Z6 z0 y61)) fun r67=>
    bif (!r67) then
    (need (decide ((s61.length+[y61.ID].length)*8≤140737488355328∧s61.length+[y61.ID].length≤maxLen)) <|
     kj64 (s61++[y61.ID]))
    else
    (kj64 s61)) fun(j64:(List Int))=>
   nx61 j64)
  (fun(s61:(List Int))=>
   bnd (Ge4 r3 r5.1 s31 s61) fun r70=>
   some (r3,r5.1,s31,r70.1)) r5.1 0 []) r5.2 0 []
abbrev Ke:List AV:=[E1 ([]:List G2),E7 ([]:List G8),I64 0,I64 0,I64 0,I64 0,E3 ([]:List Row),E4 ([]:List Frame),E5 ([]:List Gp),I64 0,I64 0,I64 0,I64 0]
theorem Ge0 (places:List Ha) (covers:Int) (drops:List Gu) (r:Gk×(List Box)×(List Stowed)×Gb) (h:Qs places covers drops=some r):Jg Eo 7 [Ed places,.sc (.int .u32 covers),Eb drops] [] (fun av L'=>av=.tup [.agg (Gk.cs r.1),E8 r.2.1,E6 r.2.2.1,.ptr 1196 0]∧L'=[(1196,.box 97 [E1 r.2.2.2.ship.Columns,E7 r.2.2.2.ship.Covers,I64 r.2.2.2.ship.Light.Kilos,I64 r.2.2.2.ship.Light.X,I64 r.2.2.2.ship.Light.Y,I64 r.2.2.2.ship.Light.Z,E3 r.2.2.2.ship.Rows,E4 r.2.2.2.ship.Frames,E5 r.2.2.2.ship.Tanks,I64 r.2.2.2.ship.G4.Tolerance,I64 r.2.2.2.ship.G4.Trim,I64 r.2.2.2.ship.G4.List_,I64 r.2.2.2.ship.G4.Stability,.mp 1197,.mp 1198,.mp 1199,I64 r.2.2.2.lifts]),(1197,TP 93 Slot.kv Box.av r.2.2.2.on),(1198,TP 94 (fun n:Int=>Value.int .i64 n) Box.av r.2.2.2.quay),(1199,TP 95 (fun n:Int=>Value.int .i64 n) I64 r.2.2.2.open_)]):=by
 unfold Qs at h
 refine Q9 [] [.cell 6 36,.tmp 7,.tmp 8,.tmp 9] Tryz.func7 O O (G4e O) (Jr fun hK1=>(JLh (.ptr 1015 0) (G58 1015 Ke [.slice none 0 0,.slice none 0 0,E0,E0,E0,E0,.slice none 0 0,.slice none 0 0,.slice none 0 0,E0,E0,E0,E0] G5d ⟨.inr ⟨_,O,O⟩,.inr ⟨_,O,O⟩,.inl O,.inl O,.inl O,.inl O,.inr ⟨_,O,O⟩,.inr ⟨_,O,O⟩,.inr ⟨_,O,O⟩,.inl O,.inl O,.inl O,.inl O,G⟩ O O) O (JLh (E8 ([]:List Box)) (Hk 9 O O) O (JLh (E6 ([]:List Stowed)) (Hk 4 O O) O (JLm (.sc (.pointer none)) O (G5 (hK1 ?_)))))))
 refine Jr fun hK2=>(JLm (Ed places) O (JLm (.sc (.int .u32 covers)) O ?_))
 obtain⟨r3,hr3,h⟩:=Ga h
 refine JLh (.agg (Gk.cs r3)) (Gs O (Gc2 places covers r3 hr3) Q66 ⟨O,O,O,O,G⟩) O (JLh (.ptr 1017 0) (Hp 1017 13 Gd6 O O) O (Ho (u:=.junk) (Hc (u:=.agg (Gk.cs r3)) (ds:=(Gk.cs r3)) Zs O O O O O O O O) (G5 (hK2 ?_))))
 refine Gm [(2,Eb drops),(6,.ptr 1015 0),(10,Eg r3)] [(1015,.box 36 Ke)] 1017 rfl rfl rfl ⟨⟨_,rfl,.boxEq rfl rfl⟩,G⟩ rfl (by exact⟨.conv (.same rfl),.conv (.same rfl),.ptr,G⟩) (Jr fun hK4=>(JLh (.agg (Gk.cs r3)) (Gi Hq O O O) O (JLm (Eb drops) O ?_)))
 obtain⟨r5,hr5,h⟩:=Ga h
 refine JLh (.tup [E8 r5.1,E6 r5.2]) (Gs O (H8b r3 drops 8 r5 hr5) Q65 ⟨O,O,O,O,O,O,G⟩) O (JLm (.tup [E8 r5.1,E6 r5.2]) O (JLh (E8 r5.1) (Gz O O O) O (JLh (E6 r5.2) (Gz O O O) O (JLm (E8 r5.1) O (JLm (E6 r5.2) O (G5 (hK4 (Jr fun hK6=>(JLh (E6 ([]:List Stowed)) (Hk 4 O O) O (G5 (hK6 (Js fun hK7=>Jr fun hK8=>(JLm (E6 r5.2) O (JLl H3 O O O fun hm32=>(JLm (I64 0) O (G5 (hK8 (Gw ?_))))))))))))))))))
 obtain⟨b31,kx31,hb31,hkx31,h⟩:=Jx h
 refine Jb (fun i31 (s31:(List Stowed))=>each b31 kx31 (List.drop i31 r5.2) i31 s31=some r) (fun i31 s31=>[(6,.ptr 1015 0),(10,Eg r3),(11,E8 r5.1),(13,E6 s31),(31,E6 r5.2),(32,En r5.2.length),(33,En i31)]) (fun i31 s31=>[(1015,.box 36 Ke)]) (fun i31=>r5.2.length - i31) 0 [] h ⟨(.sm O O),⟨⟨_,rfl,.boxL rfl (.sm O O)⟩,G⟩,rfl⟩ ?_
 clear h
 intro i31 s31 hi31 K31 e31
 refine Jr fun hK32=>(JLh (BL (decide ((i31:Int) < (r5.2.length:Int)))) (Qg O O O) O (G5 (hK32 (Js fun hK33=>Gn O (fun hb=>?_) (fun hb=>?_)))))
 ·
  have hk31:=Qr hb
  obtain⟨y31,nx31,hy31,hn31,h⟩:=J9 hi31 hk31
  replace h:=G17 hb31 h
  refine Gr (hK33 ?_)
  obtain⟨kj34,hkj34,h⟩:=Yu h
  refine Rg (fun j34:(List Stowed)=>kj34 j34=some r) (fun j34=>[(6,.ptr 1015 0),(10,Eg r3),(11,E8 r5.1),(13,E6 j34),(31,E6 r5.2),(32,En r5.2.length),(33,En i31)]) (fun j34=>[(1015,.box 36 Ke)]) (fun Kj34 ej34=>?_) ?_
  ·
   refine Gw (Jr fun hK35=>(JLh (Ei y31) (Hf (f:=Stowed.av) (xs:=r5.2) (y:=y31) O O O H3 hy31 O) O (JLh (.agg (Stowed.cs y31)) (Gi R3 O O O) O (JLh (.ptr 1018 0) (Hp 1018 4 Jw O O) O (Ho (u:=.junk) (Hc (u:=.agg (Stowed.cs y31)) (ds:=[I64 y31.Box,I64 y31.Slot.G2,I64 y31.Slot.Tier,U8 y31.Slot.Half]) G0b O O O O O O O O) (G5 (hK35 ?_)))))))
   refine Gm [(6,.ptr 1015 0),(10,Eg r3),(11,E8 r5.1),(13,E6 s31),(15,Ei y31),(31,E6 r5.2),(32,En r5.2.length),(33,En i31)] [(1015,.box 36 Ke)] 1018 rfl rfl rfl ⟨⟨_,rfl,.boxEq rfl rfl⟩,G⟩ rfl (by repeat' (first | exact .ptr | constructor)) (Js fun hK36=>?_)
   refine Qc (l':=[(6,.ptr 1015 0),(10,Eg r3),(11,E8 r5.1),(13,E6 s31),(15,Ei y31),(31,E6 r5.2),(32,En r5.2.length),(33,En i31)]) (L':=[(1015,.box 36 Ke)]) ⟨(.sm O O),⟨⟨_,rfl,.boxL rfl (.sm O O)⟩,G⟩,rfl⟩ ?_
   obtain⟨r37,hr37,h⟩:=Ga h
   obtain⟨ha38,h⟩:=J7 h
   refine J4 [1,4] [0,0,0,0,0,2] [0,0,1,1,0,2] [[(1015,.box 36 Ke)],((1029,.spare 55 4 r37.length r37.length)::[(1015,.box 36 Ke)]),((1029,.spare 55 4 (r37++[y31]).length (r37++[y31]).length)::((1029,.spare 55 4 r37.length r37.length)::[(1015,.box 36 Ke)]))] J0 (by kernel_rfl) rfl rfl ?_
   refine Gd (u:=E6 s31) O O ⟨Ge (G6 O O) O,G⟩ (D_w (u:=OW 1029 4 Stowed.av r37) O O O O (Ge (Rs (args:=[E6 s31]) (L0:=[]) (Lr:=[(1029,.spare 55 4 r37.length r37.length)]) O ((Yb s31 r37 hr37).toOwn 1029 O) J6b ⟨.inl O,O,G⟩ G O O O) O) (Gd (u:=.agg (Stowed.cs y31)) O O ⟨Ge (Gi R3 O O O) O,Ge (Gi R3 O O O) O,G⟩ (Gd (u:=E6 [y31]) O O ⟨Ge (H8 (xs:=[.agg (Stowed.cs y31)]) O ⟨O,O,G⟩ H3 Jw O O O O) O,Ge (H8 (xs:=[.agg (Stowed.cs y31)]) O ⟨O,O,G⟩ H3 Jw O O O O) O,G⟩ (D_w (u:=OW 1029 4 Stowed.av (r37++[y31])) O O O O (Ge (Qk (f:=Stowed.av) (xs:=r37) (ys:=[y31]) O O O O H3 G22 ha38 (fun _=>O) (.inl O) O) O) (Gd (u:=OW 1029 4 Stowed.av (r37++[y31])) O O ⟨Ge (G7 O O) O,G⟩ (Qw ?_))))))
   refine hK36 (Jr fun hK39=>(JLh (Ei y31) (G9 Jm O O O) O (JLh (I64 y31.Box) (Gg Gc O O O) O ?_)))
   obtain⟨v40,hv40,h⟩:=Ga h
   refine JLh (I64 v40) (H02 (Jp hv40).1 (Jp hv40).2 O O O) O (JLh (BL (decide (v40=0))) (Q0 O O O) O (JLm (BL (decide (v40=0))) O (JLo (.agg (Gk.cs r3)) [] O .sct G (fun hc=>Gi Hq O O O) O (JLo (E8 r5.1) [] O .sct G (fun hc=>G6 O O) O (JLo (OW 1029 4 Stowed.av (r37++[y31])) [] O .sct G (fun hc=>G6 O O) O ?_)))))
   obtain⟨r41,hr41,h⟩:=Ga h
   refine JLo (BL r41) [47,48,49] O .sct ⟨Ua,Ua,Ua,G⟩ (fun hc=>Gs (args:=[.agg (Gk.cs r3),E8 r5.1,E6 (r37++[y31])]) O (G03 r3 r5.1 (r37++[y31]) r41 (H1 hc hr41)) G87 ⟨O,O,O,O,O,O,G⟩) O (JLh (BL ((decide (v40=0))&&r41)) (Rm O O O O) O (G5 (hK39 (JCc O h (fun h hb=>?_) (fun h hb=>?_)))))
   ·
    refine G1 (JLm (OW 1029 4 Stowed.av (r37++[y31])) O (JLm (OW 1029 4 Stowed.av (r37++[y31])) O (G5 (ej34 _ _ (r37++[y31]) h ⟨⟨.same rfl,.same rfl,.same rfl,.list rfl,.same rfl,.same rfl,.same rfl,G⟩,⟨⟨_,rfl,.boxL rfl (.sm O O)⟩,G⟩,rfl⟩))))
   ·
    refine Gr (ej34 _ _ s31 h ⟨(.sm O O),⟨⟨_,rfl,.boxL rfl (.sm O O)⟩,G⟩,rfl⟩)
  ·intro j34 h
   replace h:=app1 hkj34 h
   refine G1 (JLh (I64 ((i31+1:Nat):Int)) (Jf (J6 hk31 hm32) O O O) O (JLm (I64 ((i31+1:Nat):Int)) O (G5 (e31 _ _ (i31+1) j34 (app1 hn31 h) (by omega) ⟨(.sm O O),⟨⟨_,rfl,.boxL rfl (.sm O O)⟩,G⟩,rfl⟩))))
 ·
  have h:=app1 hkx31 (Ja hi31 (Hs hb))
  refine Je (hK7 (Jr fun hK42=>(JLh (OW 1019 1 I64 ([]:List Int)) (G57 1019 3 1 O O O) O (G5 (hK42 (Js fun hK43=>Jr fun hK44=>(JLm (E8 r5.1) O (JLl Y8 O O O fun hm55=>(JLm (I64 0) O (G5 (hK44 (Gw ?_))))))))))))
  obtain⟨b61,kx61,hb61,hkx61,h⟩:=Jx h
  refine Jb (fun i61 (s61:(List Int))=>each b61 kx61 (List.drop i61 r5.1) i61 s61=some r) (fun i61 s61=>[(6,.ptr 1015 0),(10,Eg r3),(11,E8 r5.1),(13,E6 s31),(17,OW 1019 1 I64 s61),(54,E8 r5.1),(55,En r5.1.length),(56,En i61)]) (fun i61 s61=>[(1019,.spare 3 1 s61.length s61.length),(1015,.box 36 Ke)]) (fun i61=>r5.1.length - i61) 0 [] h ⟨(.sm O O),⟨⟨_,rfl,.same⟩,⟨_,rfl,.boxL rfl (.sm O O)⟩,G⟩,rfl⟩ ?_
  clear h
  intro i61 s61 hi61 K61 e61
  refine Jr fun hK62=>(JLh (BL (decide ((i61:Int) < (r5.1.length:Int)))) (Qg O O O) O (G5 (hK62 (Js fun hK63=>Gn O (fun hb=>?_) (fun hb=>?_)))))
  ·
   have hk61:=Qr hb
   obtain⟨y61,nx61,hy61,hn61,h⟩:=J9 hi61 hk61
   replace h:=G17 hb61 h
   refine Gr (hK63 ?_)
   obtain⟨kj64,hkj64,h⟩:=Yu h
   refine Rg (fun j64:(List Int)=>kj64 j64=some r) (fun j64=>[(6,.ptr 1015 0),(10,Eg r3),(11,E8 r5.1),(13,E6 s31),(17,OW 1019 1 I64 j64),(54,E8 r5.1),(55,En r5.1.length),(56,En i61)]) (fun j64=>[(1019,.spare 3 1 j64.length j64.length),(1015,.box 36 Ke)]) (fun Kj64 ej64=>?_) ?_
   ·
    refine Gw (Jr fun hK65=>(JLh (Eh y61) (Hf (f:=Box.av) (xs:=r5.1) (y:=y61) O O O Y8 hy61 O) O (JLh (.agg (Box.cs y61)) (Gi Yj O O O) O (JLh (.ptr 1020 0) (Hp 1020 9 Qt O O) O (Ho (u:=.junk) (Hc (u:=.agg (Box.cs y61)) (ds:=(Box.cs y61)) Rq O O O O O O O O) (G5 (hK65 ?_)))))))
    refine Gm [(6,.ptr 1015 0),(10,Eg r3),(11,E8 r5.1),(13,E6 s31),(17,OW 1019 1 I64 s61),(19,Eh y61),(54,E8 r5.1),(55,En r5.1.length),(56,En i61)] [(1019,.spare 3 1 s61.length s61.length),(1015,.box 36 Ke)] 1020 rfl rfl rfl ⟨⟨_,rfl,.same⟩,⟨_,rfl,.boxEq rfl rfl⟩,G⟩ rfl (by repeat' (first | exact .ptr | constructor)) (Jr fun hK66=>(JLm (E6 s31) O (JLh (.fn 33 [.dptr (Box.cs y61)]) (Jy (cs:=[.dptr (Box.cs y61)]) O O) O ?_)))
    obtain⟨r67,hr67,h⟩:=Ga h
    refine JLh (BL r67) (Gs O (Qd s31 (fun z0=>Z6 z0 y61) 33 [.dptr (Box.cs y61)] Q64 O (fun z0 q hq=>Gb2 z0 y61 q hq) r67 hr67) H06 ⟨O,O,O,O,G⟩) O (JLh (BL (!r67)) (Qx (b:=r67) O O) O (G5 (hK66 (JCc O h (fun h hb=>?_) (fun h hb=>?_)))))
    ·
     refine G1 (JLm (OW 1019 1 I64 s61) O (JLh (Eh y61) (G9 Rc O O O) O (JLh (I64 y61.ID) (Gg Gc O O O) O (JLh (E2 [y61.ID]) (H8 (xs:=[I64 y61.ID]) O ⟨O,O,G⟩ Gx R5 O O O O) O ?_))))
     obtain⟨ha68,h⟩:=J7 h
     refine JLh (OW 1019 1 I64 (s61++[y61.ID])) (Qk (f:=I64) (xs:=s61) (ys:=[y61.ID]) O O O O Gx Zt ha68 (fun _=>O) (.inl O) O) O (JLm (OW 1019 1 I64 (s61++[y61.ID])) O (G5 (ej64 _ _ (s61++[y61.ID]) h ⟨(.sm O O),⟨⟨_,rfl,.same⟩,⟨_,rfl,.boxL rfl (.sm O O)⟩,G⟩,rfl⟩)))
    ·
     refine Gr (ej64 _ _ s61 h ⟨(.sm O O),⟨⟨_,rfl,.same⟩,⟨_,rfl,.boxL rfl (.sm O O)⟩,G⟩,rfl⟩)
   ·intro j64 h
    replace h:=app1 hkj64 h
    refine G1 (JLh (I64 ((i61+1:Nat):Int)) (Jf (J6 hk61 hm55) O O O) O (JLm (I64 ((i61+1:Nat):Int)) O (G5 (e61 _ _ (i61+1) j64 (app1 hn61 h) (by omega) ⟨(.sm O O),⟨⟨_,rfl,.same⟩,⟨_,rfl,.boxL rfl (.sm O O)⟩,G⟩,rfl⟩))))
  ·
   have h:=app1 hkx61 (Ja hi61 (Hs hb))
   refine Je (hK43 (Jr fun hK69=>(JLh (.agg (Gk.cs r3)) (Gi Hq O O O) O (JLm (E8 r5.1) O (JLm (E6 s31) O (JLm (OW 1019 1 I64 s61) O ?_))))))
   obtain⟨r70,hr70,h⟩:=Ga h
   refine JLh (.tup [.ptr 1196 0,I64 r70.2]) (Rs (args:=[.agg (Gk.cs r3),E8 r5.1,E6 s31,E2 s61]) (L0:=[]) (Lr:=[(1196,.box 97 [E1 r70.1.ship.Columns,E7 r70.1.ship.Covers,I64 r70.1.ship.Light.Kilos,I64 r70.1.ship.Light.X,I64 r70.1.ship.Light.Y,I64 r70.1.ship.Light.Z,E3 r70.1.ship.Rows,E4 r70.1.ship.Frames,E5 r70.1.ship.Tanks,I64 r70.1.ship.G4.Tolerance,I64 r70.1.ship.G4.Trim,I64 r70.1.ship.G4.List_,I64 r70.1.ship.G4.Stability,.mp 1197,.mp 1198,.mp 1199,I64 r70.1.lifts]),(1197,TP 93 Slot.kv Box.av r70.1.on),(1198,TP 94 (fun n:Int=>Value.int .i64 n) Box.av r70.1.quay),(1199,TP 95 (fun n:Int=>Value.int .i64 n) I64 r70.1.open_)]) O (Haa r3 r5.1 s31 s61 r70 hr70) Hd5 ⟨.inl O,O,.inl O,O,.inl O,O,.inr O,O,G⟩ G O O O) O (JLm (.tup [.ptr 1196 0,I64 r70.2]) O (JLh (.ptr 1196 0) (Gz O O O) O (JLh (I64 r70.2) (Gz O O O) O (JLm (.ptr 1196 0) O (JLm (I64 r70.2) O (G5 (hK69 ?_)))))))
   refine Jr fun hK71=>(JLh (.agg (Gk.cs r3)) (Gi Hq O O O) O (JLm (E8 r5.1) O (JLm (E6 s31) O (JLm (.ptr 1196 0) O (Ho (u:=.junk) (Hc (u:=.agg (Gk.cs r3)) (ds:=(Gk.cs r3)) Zs O O O O O O O O) (JLm (E8 r5.1) O (JLm (E6 s31) O (JLm (.ptr 1196 0) O (G5 (hK71 (Gq ?_)))))))))))
   obtain rfl:=Option.some.inj h
   exact⟨[.agg (Gk.cs r3),E8 r5.1,E6 s31,.ptr 1196 0],[(1196,.box 97 [E1 r70.1.ship.Columns,E7 r70.1.ship.Covers,I64 r70.1.ship.Light.Kilos,I64 r70.1.ship.Light.X,I64 r70.1.ship.Light.Y,I64 r70.1.ship.Light.Z,E3 r70.1.ship.Rows,E4 r70.1.ship.Frames,E5 r70.1.ship.Tanks,I64 r70.1.ship.G4.Tolerance,I64 r70.1.ship.G4.Trim,I64 r70.1.ship.G4.List_,I64 r70.1.ship.G4.Stability,.mp 1197,.mp 1198,.mp 1199,I64 r70.1.lifts]),(1197,TP 93 Slot.kv Box.av r70.1.on),(1198,TP 94 (fun n:Int=>Value.int .i64 n) Box.av r70.1.quay),(1199,TP 95 (fun n:Int=>Value.int .i64 n) I64 r70.1.open_)],⟨⟨_,rfl,.boxL rfl (.sm O O)⟩,⟨_,rfl,.map⟩,⟨_,rfl,.map⟩,⟨_,rfl,.map⟩,G⟩,rfl,⟨⟨_,⟨_,_,_,_,rfl,rfl,rfl,.inl ⟨Hq,rfl⟩⟩,.conv (.same rfl)⟩,⟨_,rfl,.conv (.same rfl)⟩,⟨_,rfl,.conv (.same rfl)⟩,⟨_,rfl,.conv (.same rfl)⟩,G⟩,rfl,rfl⟩


end
end Go.Proofs.YtidpfkmbfgihlaaGreat
