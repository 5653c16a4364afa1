/-
 Models of functions of the program,and that they return what the models say.
-/
import Derived.Test.YtbljcmgjmieffaaGreatXR
set_option linter.unnecessarySimpa false
set_option maxRecDepth 100000
set_option linter.unusedVariables false
set_option linter.unusedSimpArgs false
namespace Go.Proofs.YtbljcmgjmieffaaGreat
open Go.RowKit
noncomputable section

namespace XTF
open XAF
open XCF
open XGF
open XBF
open XPF
open XQF
open XRF
theorem tq_47 (a b:Stowed):H6f Ek 4 47 [.int .i64 a.Ga,.int .i64 a.Slot.G3,.int .i64 a.Slot.Tier,.int .u8 a.Slot.Half] [.int .i64 b.Ga,.int .i64 b.Slot.G3,.int .i64 b.Slot.Tier,.int .u8 b.Slot.Half]=some (decide (a=b)):=by
 refine(show _=some ((a.Ga==b.Ga)&&(((a.Slot.G3==b.Slot.G3)&&((a.Slot.Tier==b.Slot.Tier)&&((a.Slot.Half==b.Slot.Half)&&true)))&&true)) by kernel_rfl).trans (congrArg some ?_)
 rw [Bool.eq_iff_iff]
 simp only [Bool.and_eq_true,beq_iff_eq,decide_eq_true_eq,Bool.and_true]
 constructor
 ·intro h; obtain⟨_,⟨_,_,_⟩⟩:=a; obtain⟨_,⟨_,_,_⟩⟩:=b; simp_all
 ·intro h; subst h; simp
theorem J82:Zq Ek 47=true:=by kernel_rfl
theorem J20:Hf Ek 14=true:=by kernel_rfl
theorem J1f:Hf Ek 18=true:=by kernel_rfl
theorem tf_eqg_47:Ek.eqGuardType Ek.depth 47=false:=by kernel_rfl
end XTF
open XAF
open XCF
open XGF
open XBF
open XPF
open XQF
open XRF
open XTF

def Q9 (a:List Stowed) (b:List Stowed):Option Bool:=
 bif decide ((a.length:Int)≠(b.length:Int)) then
 (some false)
 else
 (each (fun y24 i24 (s24:Unit) nx24=>
   Ym b (i24:Int) fun y29=>
   bif (!decide (y24=y29)) then
   (some false)
   else
   (nx24 ()))
  (fun(s24:Unit)=>
   some true) a 0 ())
theorem G09 (a:List Stowed) (b:List Stowed) (r:Bool) (h:Q9 a b=some r):Pure Ek 18 [E1 a,E1 b] (·=BL r):=by
 unfold Q9 at h
 refine H4 [.tmp 4] Tryz.func18 O O (Jr fun hK1=>(Rc (BL false) O (G7 (hK1 (Js fun hK2=>Jr fun hK3=>(Rc (E1 a) O (JLl H0 O O O fun hm7=>(Rc (E1 b) O (JLl H0 O O O fun hm9=>(JLh (BL (decide ((a.length:Int)≠(b.length:Int)))) (G36 O O O) O (G7 (hK3 (JCc O h (fun h hb=>?_) (fun h hb=>?_))))))))))))))
 ·
  refine Jr fun hK4=>(Rc (BL false) O (G7 (hK4 (Gv (fin1 BL h)))))
 ·
  refine Gr (hK2 (Js fun hK5=>Jr fun hK6=>(Rc (G0 0) O (G7 (hK6 (Gx ?_))))))
  obtain⟨b24,kx24,hb24,hkx24,h⟩:=Jf h
  refine Hy (fun i24 (s24:Unit)=>each b24 kx24 (List.drop i24 a) i24 s24=some r) (fun i24 s24=>[(0,E1 a),(1,E1 b),(5,Ej i24)]) (fun i24 s24=>[]) (fun i24=>a.length - i24) 0 () h ⟨⟨.same O,.same O,.same O,G⟩,G,O⟩ ?_
  clear h
  intro i24 s24 hi24 K24 e24
  refine Js fun hK25=>Jr fun hK26=>(Rc (Ej i24) O (Rc (E1 a) O (JLl H0 O O O fun hm13=>(JLh (BL (decide ((i24:Int) < (a.length:Int)))) (Jp O O O) O (G7 (hK26 (Gp O (fun hb=>?_) (fun hb=>?_))))))))
  ·
   have hk24:=Q7 hb
   obtain⟨y24,nx24,hy24,hn24,h⟩:=J0 hi24 hk24
   replace h:=Zi hb24 h
   refine Gr (hK25 (Js fun hK27=>Gx (Js fun hK28=>?_)))
   obtain⟨m30,y29,hm30,hy29,h⟩:=Rh h
   refine JC_d0 Jx (by kernel_rfl) (Dq (E1 a) (G5 O O) O (Dq (Ej i24) (G5 O O) O (Dq (Ed y24) (H9 (f:=Stowed.av) (xs:=a) (y:=y24) O O O H0 hy24 O) O (Dq (.agg (Stowed.cs y24)) (Gh Qw O O O) O (Dq (E1 b) (G5 O O) O (Dq (Ej i24) (G5 O O) O (Dq (Ed y29) (H9 (f:=Stowed.av) (xs:=b) (y:=y29) O O O H0 hy29 hm30) O (Dq (.agg (Stowed.cs y29)) (Gh Qw O O O) O (Dq (BL (!decide (y24=y29))) (A_neAgg (vs:=[.int .i64 y24.Ga,.int .i64 y24.Slot.G3,.int .i64 y24.Slot.Tier,.int .u8 y24.Slot.Half]) (us:=[.int .i64 y29.Ga,.int .i64 y29.Slot.G3,.int .i64 y29.Slot.Tier,.int .u8 y29.Slot.Half]) 4 O (tq_47 y24 y29) J82 tf_eqg_47 O O O) O (Dnil (hK28 (JCc O h (fun h hb=>?_) (fun h hb=>?_)))))))))))))
   ·
    refine Jr fun hK31=>(Rc (BL false) O (G7 (hK31 (Gv (fin1 BL h)))))
   ·
    refine Gr (hK27 (G4 (Rc (Ej i24) O (JLh (G0 ((i24+1:Nat):Int)) (Hv (Hr hk24 hm13) O O O) O (Rc (G0 ((i24+1:Nat):Int)) O (G7 (e24 _ _ (i24+1) () (app1 hn24 h) (by omega) ⟨⟨.same rfl,.same rfl,.same rfl,G⟩,G,rfl⟩)))))))
  ·
   have h:=app1 hkx24 (J1 hi24 (Hg hb))
   refine J5 (hK5 (Jr fun hK32=>(Rc (BL true) O (G7 (hK32 (Gv (fin1 BL h)))))))

def Qt (F:Nat) (l:List Gz) (covers:Int) (drops:List Gg) (opened:Int) (more:Gg) (tier:Int):Option Bool:=
 bnd (Q1 l covers) fun r3=>
 bnd (Jj r3 drops 9) fun r5=>
 each (fun y23 i23 (s23:(List Int)) nx23=>
  jp (fun kj26=>
   bnd (G01 F r3 r5.1 r5.2 s23 (i23:Int)) fun r29=>
   bnd (bif decide (r29.2=0) then Gea (i23:Int) 4294967295 else some 0) fun m31=>
   bif ((decide (r29.2=0))&&(decide ((H10 .u16 (G69 .u16 opened m31) 1)=1))) then
   (kj26 r29.1)
   else
   (kj26 s23)) fun(j26:(List Int))=>
  nx23 j26)
 (fun(s23:(List Int))=>
  each (fun y82 i82 (s82:Unit) nx82=>
   jp (fun kj85=>
    bnd (G55 r3 r5.1 r5.2 s23 y82.Ga) fun r88=>
    bnd (Rq r3 r5.1 r5.2 s23 y82.Ga) fun r91=>
    bif decide (r88.2≠r91) then
    (some false)
    else
    (bif decide (r88.2≠0) then
     (kj85 ())
     else
     (bnd (Z1 F r3 r5.1 r88.1 s23 y82) fun r96=>
      bnd (bif (!(decide (r96.2≠0))) then Qr r3 r5.1 r88.1 else some default) fun r98=>
      bnd (bif (!((decide (r96.2≠0))||(!r98))) then G07 ((r5.2.length:Int) - 1) some else some 0) fun v99=>
      bnd (bif (!(((decide (r96.2≠0))||(!r98))||(decide ((r88.1.length:Int)≠v99)))) then Q9 r96.1 r5.2 else some default) fun r100=>
      bif ((((decide (r96.2≠0))||(!r98))||(decide ((r88.1.length:Int)≠v99)))||(!r100)) then
      (some false)
      else
      (kj85 ())))) fun(j85:Unit)=>
   nx82 ())
  (fun(s82:Unit)=>
   G07 (more.G3) fun v104=>
   bnd (Gcf v104 (r3.Columns.length:Int)) fun v105=>
   G07 (tier) fun v106=>
   bnd (Gcf v106 5) fun v107=>
   jp (fun kj108=>
    bif more.Small then
    (bnd (Gcf more.Kilos 2) fun v110=>
     kj108 (20,false,IntKind.u8.wrap (1+v110)))
    else
    (kj108 (40,more.High,0))) fun(j108:Int×Bool×Int)=>
   need (decide ((r5.1.length+[(Ga.mk 3 ByteArray.empty j108.1 j108.2.1 0 0 0 0 false)].length)*64≤140737488355328∧r5.1.length+[(Ga.mk 3 ByteArray.empty j108.1 j108.2.1 0 0 0 0 false)].length≤maxLen)) <|
   bnd (Z1 F r3 (r5.1++[(Ga.mk 3 ByteArray.empty j108.1 j108.2.1 0 0 0 0 false)]) r5.2 s23 (Stowed.mk 3 (Slot.mk v105 v107 j108.2.2))) fun r114=>
   bif decide (r114.2≠0) then
   (bnd (bif decide ((r114.1.length:Int)=0) then J4 F else some default) fun r118=>
    some ((decide ((r114.1.length:Int)=0))&&r118))
   else
   (bnd (G55 r3 (r5.1++[(Ga.mk 3 ByteArray.empty j108.1 j108.2.1 0 0 0 0 false)]) r114.1 s23 3) fun r120=>
    bnd (bif decide (r120.2=0) then Qr r3 (r5.1++[(Ga.mk 3 ByteArray.empty j108.1 j108.2.1 0 0 0 0 false)]) r114.1 else some default) fun r122=>
    bnd (bif ((decide (r120.2=0))&&r122) then G07 ((r5.2.length:Int)+1) some else some 0) fun v123=>
    bnd (bif (((decide (r120.2=0))&&r122)&&(decide ((r114.1.length:Int)=v123))) then Q9 r120.1 r5.2 else some default) fun r124=>
    bnd (bif ((((decide (r120.2=0))&&r122)&&(decide ((r114.1.length:Int)=v123)))&&r124) then J4 F else some default) fun r125=>
    some (((((decide (r120.2=0))&&r122)&&(decide ((r114.1.length:Int)=v123)))&&r124)&&r125))) r5.2 0 ()) r3.Covers 0 []
theorem Ga5 (F:Nat) (l:List Gz) (covers:Int) (drops:List Gg) (opened:Int) (more:Gg) (tier:Int) (r:Bool) (h:Qt F l covers drops opened more tier=some r):Pure Ek 4 [Eb l,.sc (.int .u32 covers),Ea drops,.sc (.int .u16 opened),.agg (Gg.cs more),U8 tier] (·=BL r):=by
 unfold Qt at h
 refine H4 [.tmp 12] Tryz.func4 O O (Jr fun hK1=>(JLh (.ptr 1008 0) (Jz (cs:=[U8 more.G3,U8 more.Kilos,BL more.Small,BL more.High]) 1008 O O O O O) O (Rc (BL false) O (G7 (hK1 (Gs [(0,Eb l),(1,.sc (.int .u32 covers)),(2,Ea drops),(3,.sc (.int .u16 opened)),(5,U8 tier),(10,Ef more)] [] 1008 rfl rfl rfl G rfl (by repeat' (first | exact .ptr | constructor)) (Jr fun hK2=>(Rc (Eb l) O (Rc (.sc (.int .u32 covers)) O ?_)))))))))
 obtain⟨r3,hr3,h⟩:=Gf h
 refine JLh (.agg (Gt.cs r3)) (Gu O (Yz l covers r3 hr3) Ha7 ⟨O,O,O,O,G⟩) O (JLh (.ptr 1009 0) (Hs 1009 13 G86 O O) O (Hz (u:=.junk) (Hh (u:=.agg (Gt.cs r3)) (ds:=(Gt.cs r3)) G19 O O O O O O O O) (G7 (hK2 (Gs [(2,Ea drops),(3,.sc (.int .u16 opened)),(5,U8 tier),(10,Ef more),(13,Ec r3)] [] 1009 rfl rfl rfl G rfl (by repeat' (first | exact .ptr | constructor)) ?_)))))
 refine Jr fun hK4=>(JLh (.agg (Gt.cs r3)) (Gh H6 O O O) O (Rc (Ea drops) O ?_))
 obtain⟨r5,hr5,h⟩:=Gf h
 refine JLh (.tup [OW 1024 9 Ga.av r5.1,E1 r5.2]) (G46 (args:=[.agg (Gt.cs r3),Ea drops,G0 9]) (L0:=[]) (Lr:=[(1024,.spare 67 9 r5.1.length r5.1.length)]) O (G34 r3 drops 9 r5 hr5) Ha6 ⟨.inl O,O,.inl O,O,.inl O,O,G⟩ G O O O) O (Rc (.tup [OW 1024 9 Ga.av r5.1,E1 r5.2]) O (JLh (OW 1024 9 Ga.av r5.1) (H2 O O O) O (JLh (E1 r5.2) (H2 O O O) O (Rc (OW 1024 9 Ga.av r5.1) O (Rc (E1 r5.2) O (G7 (hK4 (Jr fun hK6=>(JLh (E0 ([]:List Int)) (Hi 1 O O) O (G7 (hK6 (Js fun hK7=>Jr fun hK8=>(JLh (.dptr ((Gt.cs r3).drop 1)) (Gb Hu O O O) O (JLh (E6 r3.Covers) (Gi J9 O O O) O (JLl J7 O O O fun hm43=>(Rc (G0 0) O (G7 (hK8 (Gx ?_)))))))))))))))))))
 obtain⟨b23,kx23,hb23,hkx23,h⟩:=Jf h
 refine Hy (fun i23 (s23:(List Int))=>each b23 kx23 (List.drop i23 r3.Covers) i23 s23=some r) (fun i23 s23=>[(3,.sc (.int .u16 opened)),(5,U8 tier),(10,Ef more),(13,Ec r3),(14,OW 1024 9 Ga.av r5.1),(15,E1 r5.2),(16,E0 s23),(43,Ej r3.Covers.length),(44,Ej i23)]) (fun i23 s23=>[(1024,.spare 67 9 r5.1.length r5.1.length)]) (fun i23=>r3.Covers.length - i23) 0 [] h ⟨(by repeat' constructor),⟨⟨_,rfl,.same⟩,G⟩,rfl⟩ ?_
 clear h
 intro i23 s23 hi23 K23 e23
 refine Jr fun hK24=>(JLh (BL (decide ((i23:Int) < (r3.Covers.length:Int)))) (Jp O O O) O (G7 (hK24 (Js fun hK25=>Gp O (fun hb=>?_) (fun hb=>?_)))))
 ·
  have hk23:=Q7 hb
  obtain⟨y23,nx23,hy23,hn23,h⟩:=J0 hi23 hk23
  replace h:=Zi hb23 h
  refine Gr (hK25 ?_)
  obtain⟨kj26,hkj26,h⟩:=Yf h
  refine R4 (fun j26:(List Int)=>kj26 j26=some r) (fun j26=>[(3,.sc (.int .u16 opened)),(5,U8 tier),(10,Ef more),(13,Ec r3),(14,OW 1024 9 Ga.av r5.1),(15,E1 r5.2),(16,E0 j26),(43,Ej r3.Covers.length),(44,Ej i23)]) (fun j26=>[(1024,.spare 67 9 r5.1.length r5.1.length)]) (fun Kj26 ej26=>?_) ?_
  ·
   refine Gx (Jr fun hK27=>(Rc (Ej i23) O (Rc (Ej i23) O (G7 (hK27 (Jr fun hK28=>(JLh (.agg (Gt.cs r3)) (Gh H6 O O O) O (Rc (OW 1024 9 Ga.av r5.1) O (Rc (E1 r5.2) O (Rc (E0 s23) O (Rc (Ej i23) O ?_)))))))))))
   obtain⟨r29,hr29,h⟩:=Gf h
   refine JLh (.tup [E0 r29.1,G0 r29.2]) (Gu O (G81 F r3 r5.1 r5.2 s23 (i23:Int) r29 hr29) H04 ⟨O,O,O,O,O,O,O,O,O,O,G⟩) O (Rc (.tup [E0 r29.1,G0 r29.2]) O (JLh (E0 r29.1) (H2 O O O) O (JLh (G0 r29.2) (H2 O O O) O (Rc (E0 r29.1) O (Rc (G0 r29.2) O (G7 (hK28 (Jr fun hK30=>(Rc (G0 r29.2) O (JLh (BL (decide (r29.2=0))) (Jv O O O) O (Rc (BL (decide (r29.2=0))) O (JLo (.sc (.int .u16 opened)) [] O .sct G (fun hc=>G5 O O) O (JLo (Ej i23) [] O .sct G (fun hc=>G5 O O) O ?_)))))))))))))
   obtain⟨m31,hm31,h⟩:=Gf h
   refine JLo (.sc (.int .u16 (G69 .u16 opened m31))) [59,60] O .sct ⟨Ua,Ua,G⟩ (fun hc=>Hc1 (s:=m31) (G29 (H3 hc hm31)).1 O O O) O (JLo (.sc (.int .u16 (H10 .u16 (G69 .u16 opened m31) 1))) [61] O .sct ⟨Ua,G⟩ (fun hc=>J61 O O O) O (JLo (BL (decide ((H10 .u16 (G69 .u16 opened m31) 1)=1))) [62] O .sct ⟨Ua,G⟩ (fun hc=>Jv O O O) O (JLh (BL ((decide (r29.2=0))&&(decide ((H10 .u16 (G69 .u16 opened m31) 1)=1)))) (Q6 O O O O) O (G7 (hK30 (JCc O h (fun h hb=>?_) (fun h hb=>?_)))))))
   ·
    refine G4 (Rc (E0 r29.1) O (Rc (E0 r29.1) O (G7 (ej26 _ _ r29.1 h ⟨(by repeat' constructor),⟨⟨_,rfl,.same⟩,G⟩,rfl⟩))))
   ·
    refine Gr (ej26 _ _ s23 h ⟨(by repeat' constructor),⟨⟨_,rfl,.same⟩,G⟩,rfl⟩)
  ·intro j26 h
   replace h:=app1 hkj26 h
   refine G4 (JLh (G0 ((i23+1:Nat):Int)) (Hv (Hr hk23 hm43) O O O) O (Rc (G0 ((i23+1:Nat):Int)) O (G7 (e23 _ _ (i23+1) j26 (app1 hn23 h) (by omega) ⟨(by repeat' constructor),⟨⟨_,rfl,.same⟩,G⟩,rfl⟩))))
 ·
  have h:=app1 hkx23 (J1 hi23 (Hg hb))
  refine J5 (hK7 (Js fun hK32=>Jr fun hK33=>(Rc (E1 r5.2) O (JLl H0 O O O fun hm68=>(Rc (G0 0) O (G7 (hK33 (Gx ?_))))))))
  obtain⟨b82,kx82,hb82,hkx82,h⟩:=Jf h
  refine Hy (fun i82 (s82:Unit)=>each b82 kx82 (List.drop i82 r5.2) i82 s82=some r) (fun i82 s82=>[(5,U8 tier),(10,Ef more),(13,Ec r3),(14,OW 1024 9 Ga.av r5.1),(15,E1 r5.2),(16,E0 s23),(67,E1 r5.2),(68,Ej r5.2.length),(69,Ej i82)]) (fun i82 s82=>[(1024,.spare 67 9 r5.1.length r5.1.length)]) (fun i82=>r5.2.length - i82) 0 () h ⟨(by repeat' constructor),⟨⟨_,rfl,.same⟩,G⟩,rfl⟩ ?_
  clear h
  intro i82 s82 hi82 K82 e82
  refine Jr fun hK83=>(JLh (BL (decide ((i82:Int) < (r5.2.length:Int)))) (Jp O O O) O (G7 (hK83 (Js fun hK84=>Gp O (fun hb=>?_) (fun hb=>?_)))))
  ·
   have hk82:=Q7 hb
   obtain⟨y82,nx82,hy82,hn82,h⟩:=J0 hi82 hk82
   replace h:=Zi hb82 h
   refine Gr (hK84 ?_)
   obtain⟨kj85,hkj85,h⟩:=Yf h
   refine R4 (fun j85:Unit=>kj85 j85=some r) (fun j85=>[(5,U8 tier),(10,Ef more),(13,Ec r3),(14,OW 1024 9 Ga.av r5.1),(15,E1 r5.2),(16,E0 s23),(67,E1 r5.2),(68,Ej r5.2.length),(69,Ej i82)]) (fun j85=>[(1024,.spare 67 9 r5.1.length r5.1.length)]) (fun Kj85 ej85=>?_) ?_
   ·
    refine Gx (Jr fun hK86=>(JLh (Ed y82) (H9 (f:=Stowed.av) (xs:=r5.2) (y:=y82) O O O H0 hy82 O) O (JLh (.agg (Stowed.cs y82)) (Gh Qw O O O) O (JLh (.ptr 1010 0) (Hs 1010 4 Q8 O O) O (Hz (u:=.junk) (Hh (u:=.agg (Stowed.cs y82)) (ds:=[G0 y82.Ga,G0 y82.Slot.G3,G0 y82.Slot.Tier,U8 y82.Slot.Half]) Ye O O O O O O O O) (G7 (hK86 (Gs [(5,U8 tier),(10,Ef more),(13,Ec r3),(14,OW 1024 9 Ga.av r5.1),(15,E1 r5.2),(16,E0 s23),(21,Ed y82),(67,E1 r5.2),(68,Ej r5.2.length),(69,Ej i82)] [(1024,.spare 67 9 r5.1.length r5.1.length)] 1010 rfl rfl rfl ⟨⟨_,rfl,.same⟩,G⟩ rfl (by repeat' (first | exact .ptr | constructor)) ?_))))))))
    refine Jr fun hK87=>(JLh (.agg (Gt.cs r3)) (Gh H6 O O O) O (Rc (OW 1024 9 Ga.av r5.1) O (Rc (E1 r5.2) O (Rc (E0 s23) O (JLh (Ed y82) (Gb Ht O O O) O (JLh (G0 y82.Ga) (Gi Gd O O O) O ?_))))))
    obtain⟨r88,hr88,h⟩:=Gf h
    refine JLh (.tup [E1 r88.1,G0 r88.2]) (Gu O (H59 r3 r5.1 r5.2 s23 y82.Ga r88 hr88) J20 ⟨O,O,O,O,O,O,O,O,O,O,G⟩) O (Rc (.tup [E1 r88.1,G0 r88.2]) O (JLh (E1 r88.1) (H2 O O O) O (JLh (G0 r88.2) (H2 O O O) O (Rc (E1 r88.1) O (Rc (G0 r88.2) O (G7 (hK87 (Js fun hK89=>Jr fun hK90=>(Rc (G0 r88.2) O (JLh (.agg (Gt.cs r3)) (Gh H6 O O O) O (Rc (OW 1024 9 Ga.av r5.1) O (Rc (E1 r5.2) O (Rc (E0 s23) O (JLh (Ed y82) (Gb Ht O O O) O (JLh (G0 y82.Ga) (Gi Gd O O O) O ?_)))))))))))))))
    obtain⟨r91,hr91,h⟩:=Gf h
    refine JLh (G0 r91) (Gu O (Zk r3 r5.1 r5.2 s23 y82.Ga r91 hr91) G4b ⟨O,O,O,O,O,O,O,O,O,O,G⟩) O (JLh (BL (decide (r88.2≠r91))) (G36 O O O) O (G7 (hK90 (JCc O h (fun h hb=>?_) (fun h hb=>?_)))))
    ·
     refine Jr fun hK92=>(Rc (BL false) O (G7 (hK92 (Gv (fin1 BL h)))))
    ·
     refine Gr (hK89 (Js fun hK93=>Jr fun hK94=>(Rc (G0 r88.2) O (JLh (BL (decide (r88.2≠0))) (G36 O O O) O (G7 (hK94 (JCc O h (fun h hb=>?_) (fun h hb=>?_))))))))
     ·
      refine J5 (ej85 _ _ () h ⟨(by repeat' constructor),⟨⟨_,rfl,.same⟩,G⟩,rfl⟩)
     ·
      refine Gr (hK93 (Jr fun hK95=>(JLh (.agg (Gt.cs r3)) (Gh H6 O O O) O (Rc (OW 1024 9 Ga.av r5.1) O (Rc (E1 r88.1) O (Rc (E0 s23) O (JLh (.agg (Stowed.cs y82)) (Gh Qw O O O) O ?_)))))))
      obtain⟨r96,hr96,h⟩:=Gf h
      refine JLh (.tup [E1 r96.1,G0 r96.2]) (Gu O (G2f F r3 r5.1 r88.1 s23 y82 r96 hr96) G70 ⟨O,O,O,O,O,O,O,O,O,O,G⟩) O (Rc (.tup [E1 r96.1,G0 r96.2]) O (JLh (E1 r96.1) (H2 O O O) O (JLh (G0 r96.2) (H2 O O O) O (Rc (E1 r96.1) O (Rc (G0 r96.2) O (G7 (hK95 (Jr fun hK97=>(Rc (G0 r96.2) O (JLh (BL (decide (r96.2≠0))) (G36 O O O) O (Rc (BL (decide (r96.2≠0))) O (JLo (.agg (Gt.cs r3)) [] O .scf G (fun hc=>Gh H6 O O O) O (JLo (OW 1024 9 Ga.av r5.1) [] O .scf G (fun hc=>G5 O O) O (JLo (E1 r88.1) [] O .scf G (fun hc=>G5 O O) O ?_))))))))))))))
      obtain⟨r98,hr98,h⟩:=Gf h
      refine JLo (BL r98) [106,107,108] O .scf ⟨Ua,Ua,Ua,G⟩ (fun hc=>Gu (args:=[.agg (Gt.cs r3),E2 r5.1,E1 r88.1]) O (Zu r3 r5.1 r88.1 r98 (H3 hc hr98)) G6f ⟨O,O,O,O,O,O,G⟩) O (JLo (BL (!r98)) [109] O .scf ⟨Ua,G⟩ (fun hc=>Zd (b:=r98) O O) O (JLh (BL ((decide (r96.2≠0))||(!r98))) (G25 O O O O) O (Rc (BL ((decide (r96.2≠0))||(!r98))) O (JLo (E1 r88.1) [] O .scf G (fun hc=>G5 O O) O (JLo (Ej r88.1.length) [113] O .scf ⟨Ua,G⟩ (fun hc=>Yn (f:=Stowed.av) (xs:=r88.1) H0 O O) O (JLo (E1 r5.2) [] O .scf G (fun hc=>G5 O O) O (JLo (Ej r5.2.length) [115] O .scf ⟨Ua,G⟩ (fun hc=>Yn (f:=Stowed.av) (xs:=r5.2) H0 O O) O ?_)))))))
      obtain⟨v99,hv99,h⟩:=Gf h
      refine JLo (G0 v99) [116] O .scf ⟨Ua,G⟩ (fun hc=>H3e (G62 (H3 hc hv99)) O O O) O (JLo (BL (decide ((r88.1.length:Int)≠v99))) [114,117] O .scf ⟨Ua,Ua,G⟩ (fun hc=>G36 O O O) O (JLh (BL (((decide (r96.2≠0))||(!r98))||(decide ((r88.1.length:Int)≠v99)))) (G25 O O O O) O (Rc (BL (((decide (r96.2≠0))||(!r98))||(decide ((r88.1.length:Int)≠v99)))) O (JLo (E1 r96.1) [] O .scf G (fun hc=>G5 O O) O (JLo (E1 r5.2) [] O .scf G (fun hc=>G5 O O) O ?_)))))
      obtain⟨r100,hr100,h⟩:=Gf h
      refine JLo (BL r100) [121,122] O .scf ⟨Ua,Ua,G⟩ (fun hc=>Gu (args:=[E1 r96.1,E1 r5.2]) O (G09 r96.1 r5.2 r100 (H3 hc hr100)) J1f ⟨O,O,O,O,G⟩) O (JLo (BL (!r100)) [123] O .scf ⟨Ua,G⟩ (fun hc=>Zd (b:=r100) O O) O (JLh (BL ((((decide (r96.2≠0))||(!r98))||(decide ((r88.1.length:Int)≠v99)))||(!r100))) (G25 O O O O) O (G7 (hK97 (JCc O h (fun h hb=>?_) (fun h hb=>?_))))))
      ·
       refine Jr fun hK101=>(Rc (BL false) O (G7 (hK101 (Gv (fin1 BL h)))))
      ·
       refine Gr (ej85 _ _ () h ⟨(by repeat' constructor),⟨⟨_,rfl,.same⟩,G⟩,rfl⟩)
   ·intro j85 h
    replace h:=app1 hkj85 h
    refine G4 (JLh (G0 ((i82+1:Nat):Int)) (Hv (Hr hk82 hm68) O O O) O (Rc (G0 ((i82+1:Nat):Int)) O (G7 (e82 _ _ (i82+1) () (app1 hn82 h) (by omega) ⟨(by repeat' constructor),⟨⟨_,rfl,.same⟩,G⟩,rfl⟩))))
  ·
   have h:=app1 hkx82 (J1 hi82 (Hg hb))
   refine J5 (hK32 ?_)
   refine Jr fun hK102=>(JLh (.dptr [BL more.High]) (Gb Gdb O O O) O (JLh (BL more.High) (Gi Jn O O O) O (JLh (.agg [G0 3,ST ByteArray.empty,U8 40,BL more.High,G0 0,G0 0,G0 0,U8 0,BL false]) (Hp (cs:=[G0 3,ST ByteArray.empty,U8 40,BL more.High,G0 0,G0 0,G0 0,U8 0,BL false]) [(0,1),(1,1),(2,1),(3,1),(4,1),(5,1),(6,1),(7,1),(8,1)] [G0 0,ST ByteArray.empty,U8 0,BL false,G0 0,G0 0,G0 0,U8 0,BL false] [.int .i64 0,.string ByteArray.empty,.int .u8 0,.bool false,.int .i64 0,.int .i64 0,.int .i64 0,.int .u8 0,.bool false] R3 Rv ⟨.inl O,.inl O,.inl O,.inl O,.inl O,.inl O,.inl O,.inl O,.inl O,G⟩ O O) O (JLh (.ptr 1011 0) (Hs 1011 9 Y4 O O) O (Hz (u:=.junk) (Hh (u:=.agg [G0 3,ST ByteArray.empty,U8 40,BL more.High,G0 0,G0 0,G0 0,U8 0,BL false]) (ds:=[G0 3,ST ByteArray.empty,U8 40,BL more.High,G0 0,G0 0,G0 0,U8 0,BL false]) G18 O O O O O O O O) (G7 (hK102 ?_)))))))
   refine Jr fun hK103=>(JLh (Ef more) (Gb Gdd O O O) O (JLh (U8 more.G3) (Gi Hw O O O) O ?_))
   obtain⟨v104,hv104,h⟩:=Jb h
   refine JLh (G0 v104) (G79 Zs G1a hv104 O O) O (JLh (Ec r3) (Gb Hm O O O) O (JLh (E7 r3.Columns) (Gi J3 O O O) O (JLl Hq O O O fun hm135=>?_)))
   obtain⟨v105,hv105,h⟩:=Gf h
   refine JLh (G0 v105) (Gf6 (Ju hv105).1 (Ju hv105).2 O O O) O (Rc (U8 tier) O ?_)
   obtain⟨v106,hv106,h⟩:=Jb h
   refine JLh (G0 v106) (G79 Zs G1a hv106 O O) O ?_
   obtain⟨v107,hv107,h⟩:=Gf h
   refine JLh (G0 v107) (Gf6 (Ju hv107).1 (Ju hv107).2 O O O) O (JLh (.agg [G0 v105,G0 v107,U8 0]) (Hp (cs:=[G0 v105,G0 v107,U8 0]) [(0,1),(1,1),(2,1)] [G0 0,G0 0,U8 0] [.int .i64 0,.int .i64 0,.int .u8 0] G9d Gfd ⟨.inl O,.inl O,.inl O,G⟩ O O) O (JLh (.agg [G0 3,G0 v105,G0 v107,U8 0]) (Hp (cs:=[G0 3,G0 v105,G0 v107,U8 0]) [(0,1),(1,3)] [G0 0,G0 0,G0 0,U8 0] [.int .i64 0,.int .i64 0,.int .i64 0,.int .u8 0] Z5 G02 ⟨.inl O,.inl O,.inl O,.inl O,G⟩ O O) O (JLh (.ptr 1012 0) (Hs 1012 4 Q8 O O) O (Hz (u:=.junk) (Hh (u:=.agg [G0 3,G0 v105,G0 v107,U8 0]) (ds:=[G0 3,G0 v105,G0 v107,U8 0]) Ye O O O O O O O O) (G7 (hK103 ?_))))))
   obtain⟨kj108,hkj108,h⟩:=Yf h
   refine R4 (fun j108:Int×Bool×Int=>kj108 j108=some r) (fun j108=>[(13,Ec r3),(14,OW 1024 9 Ga.av r5.1),(15,E1 r5.2),(16,E0 s23),(26,.ptr 1011 0),(27,.ptr 1012 0)]) (fun j108=>[(1024,.spare 67 9 r5.1.length r5.1.length),(1011,.box 67 [G0 3,ST ByteArray.empty,U8 j108.1,BL j108.2.1,G0 0,G0 0,G0 0,U8 0,BL false]),(1012,.box 47 [G0 3,G0 v105,G0 v107,U8 j108.2.2])]) (fun Kj108 ej108=>?_) ?_
   ·
    refine Jr fun hK109=>(JLh (.dptr [BL more.Small,BL more.High]) (Gb Gdc O O O) O (JLh (BL more.Small) (Gi Jn O O O) O (G7 (hK109 (JCc O h (fun h hb=>?_) (fun h hb=>?_))))))
    ·
     refine Rm (l':=[(10,Ef more),(13,Ec r3),(14,OW 1024 9 Ga.av r5.1),(15,E1 r5.2),(16,E0 s23),(26,.ptr 1011 0),(27,.ptr 1012 0)]) (L':=[(1024,.spare 67 9 r5.1.length r5.1.length),(1011,.box 67 [G0 3,ST ByteArray.empty,U8 40,BL more.High,G0 0,G0 0,G0 0,U8 0,BL false]),(1012,.box 47 [G0 3,G0 v105,G0 v107,U8 0])]) ⟨(by repeat' constructor),⟨⟨_,rfl,.same⟩,⟨_,rfl,.boxL rfl (by repeat' constructor)⟩,⟨_,rfl,.boxL rfl (by repeat' constructor)⟩,G⟩,rfl⟩ ?_
     obtain⟨v110,hv110,h⟩:=Gf h
     refine Jw [5,7,10] [0,0,0,0,0,0,1,0,2,2,0] [2,2,2,2,0,0,1,0,2,2,0] [[(1024,.spare 67 9 r5.1.length r5.1.length),(1011,.box 67 [G0 3,ST ByteArray.empty,U8 40,BL more.High,G0 0,G0 0,G0 0,U8 0,BL false]),(1012,.box 47 [G0 3,G0 v105,G0 v107,U8 0])],((1011,.box 67 [G0 3,ST ByteArray.empty,U8 20,BL more.High,G0 0,G0 0,G0 0,U8 0,BL false])::[(1024,.spare 67 9 r5.1.length r5.1.length),(1011,.box 67 [G0 3,ST ByteArray.empty,U8 40,BL more.High,G0 0,G0 0,G0 0,U8 0,BL false]),(1012,.box 47 [G0 3,G0 v105,G0 v107,U8 0])]),((1011,.box 67 [G0 3,ST ByteArray.empty,U8 20,BL false,G0 0,G0 0,G0 0,U8 0,BL false])::((1011,.box 67 [G0 3,ST ByteArray.empty,U8 20,BL more.High,G0 0,G0 0,G0 0,U8 0,BL false])::[(1024,.spare 67 9 r5.1.length r5.1.length),(1011,.box 67 [G0 3,ST ByteArray.empty,U8 40,BL more.High,G0 0,G0 0,G0 0,U8 0,BL false]),(1012,.box 47 [G0 3,G0 v105,G0 v107,U8 0])])),((1012,.box 47 [G0 3,G0 v105,G0 v107,U8 (IntKind.u8.wrap (1+v110))])::((1011,.box 67 [G0 3,ST ByteArray.empty,U8 20,BL false,G0 0,G0 0,G0 0,U8 0,BL false])::((1011,.box 67 [G0 3,ST ByteArray.empty,U8 20,BL more.High,G0 0,G0 0,G0 0,U8 0,BL false])::[(1024,.spare 67 9 r5.1.length r5.1.length),(1011,.box 67 [G0 3,ST ByteArray.empty,U8 40,BL more.High,G0 0,G0 0,G0 0,U8 0,BL false]),(1012,.box 47 [G0 3,G0 v105,G0 v107,U8 0])])))] Jx (by kernel_rfl) rfl rfl ?_
     refine Gn (u:=.dptr ((Gg.cs more).drop 1)) O O ⟨Gj (Gb G3b O O O) O,Gj (Gb G3b O O O) O,Gj (Gb G3b O O O) O,G⟩ (Gn (u:=U8 more.Kilos) O O ⟨Gj (Gi Hw O O O) O,Gj (Gi Hw O O O) O,Gj (Gi Hw O O O) O,G⟩ (Gn (u:=U8 v110) O O ⟨Gj (Gf6 (Ju hv110).1 (Ju hv110).2 O O O) O,Gj (Gf6 (Ju hv110).1 (Ju hv110).2 O O O) O,Gj (Gf6 (Ju hv110).1 (Ju hv110).2 O O O) O,G⟩ (Gn (u:=U8 (IntKind.u8.wrap (1+v110))) O O ⟨Gj (Hv O O O O) O,Gj (Hv O O O O) O,Gj (Hv O O O O) O,G⟩ (Gn (u:=.ptr 1011 2) O O ⟨Gj (Jy Rz O O) O,G⟩ (D_w0 (u:=.junk) O O O O (Gj (Hh (u:=U8 20) (ds:=[G0 3,ST ByteArray.empty,U8 20,BL more.High,G0 0,G0 0,G0 0,U8 0,BL false]) H3f O O O O O O O O) O) (Gn (u:=.ptr 1011 3) O O ⟨Gj (Jy G7b O O) O,G⟩ (D_w0 (u:=.junk) O O O O (Gj (Hh (u:=BL false) (ds:=[G0 3,ST ByteArray.empty,U8 20,BL false,G0 0,G0 0,G0 0,U8 0,BL false]) Ha3 O O O O O O O O) O) (Gn (u:=.ptr 1012 1) O O ⟨Gj (Jy J6 O O) O,G⟩ (Gn (u:=.ptr 1012 3) O O ⟨Gj (Jy Rf O O) O,G⟩ (D_w0 (u:=.junk) O O O O (Gj (Hh (u:=U8 (IntKind.u8.wrap (1+v110))) (ds:=[G0 3,G0 v105,G0 v107,U8 (IntKind.u8.wrap (1+v110))]) H3f O O O O O O O O) O) (Y9 ?_)))))))))))
     exact ej108 _ _ (20,false,IntKind.u8.wrap (1+v110)) h ⟨(by repeat' constructor),⟨⟨_,rfl,.same⟩,⟨_,rfl,.boxL rfl (by repeat' constructor)⟩,⟨_,rfl,.boxL rfl (by repeat' constructor)⟩,G⟩,rfl⟩
    ·
     refine Gr (ej108 _ _ (40,more.High,0) h ⟨(by repeat' constructor),⟨⟨_,rfl,.same⟩,⟨_,rfl,.boxL rfl (by repeat' constructor)⟩,⟨_,rfl,.boxL rfl (by repeat' constructor)⟩,G⟩,rfl⟩)
   ·intro j108 h
    replace h:=app1 hkj108 h
    refine Jr fun hK111=>(Rc (OW 1024 9 Ga.av r5.1) O (JLh (.agg [G0 3,ST ByteArray.empty,U8 j108.1,BL j108.2.1,G0 0,G0 0,G0 0,U8 0,BL false]) (G78 G50 O O O O) O (JLh (E2 [(Ga.mk 3 ByteArray.empty j108.1 j108.2.1 0 0 0 0 false)]) (H5 (xs:=[.agg [G0 3,ST ByteArray.empty,U8 j108.1,BL j108.2.1,G0 0,G0 0,G0 0,U8 0,BL false]]) O ⟨O,O,G⟩ Ro Y4 O O O O) O ?_)))
    obtain⟨ha112,h⟩:=Ji h
    refine JLh (OW 1024 9 Ga.av (r5.1++[(Ga.mk 3 ByteArray.empty j108.1 j108.2.1 0 0 0 0 false)])) (Rn (f:=Ga.av) (xs:=r5.1) (ys:=[(Ga.mk 3 ByteArray.empty j108.1 j108.2.1 0 0 0 0 false)]) O O O O Ro H03 ha112 (fun _=>O) (.inl O) O) O (Rc (OW 1024 9 Ga.av (r5.1++[(Ga.mk 3 ByteArray.empty j108.1 j108.2.1 0 0 0 0 false)])) O (G7 (hK111 ?_)))
    refine Gs [(13,Ec r3),(14,OW 1024 9 Ga.av (r5.1++[(Ga.mk 3 ByteArray.empty j108.1 j108.2.1 0 0 0 0 false)])),(15,E1 r5.2),(16,E0 s23),(27,.ptr 1012 0)] [(1024,.spare 67 9 (r5.1++[(Ga.mk 3 ByteArray.empty j108.1 j108.2.1 0 0 0 0 false)]).length (r5.1++[(Ga.mk 3 ByteArray.empty j108.1 j108.2.1 0 0 0 0 false)]).length),(1012,.box 47 [G0 3,G0 v105,G0 v107,U8 j108.2.2])] 1011 rfl rfl rfl ⟨⟨_,rfl,.same⟩,⟨_,rfl,.boxEq rfl rfl⟩,G⟩ rfl (by repeat' (first | exact .ptr | constructor)) ?_
    refine Gs [(13,Ec r3),(14,OW 1024 9 Ga.av (r5.1++[(Ga.mk 3 ByteArray.empty j108.1 j108.2.1 0 0 0 0 false)])),(15,E1 r5.2),(16,E0 s23),(27,.dptr [G0 3,G0 v105,G0 v107,U8 j108.2.2])] [(1024,.spare 67 9 (r5.1++[(Ga.mk 3 ByteArray.empty j108.1 j108.2.1 0 0 0 0 false)]).length (r5.1++[(Ga.mk 3 ByteArray.empty j108.1 j108.2.1 0 0 0 0 false)]).length)] 1012 rfl rfl rfl ⟨⟨_,rfl,.same⟩,G⟩ rfl (by repeat' (first | exact .ptr | constructor)) (Jr fun hK113=>(JLh (.agg (Gt.cs r3)) (Gh H6 O O O) O (Rc (OW 1024 9 Ga.av (r5.1++[(Ga.mk 3 ByteArray.empty j108.1 j108.2.1 0 0 0 0 false)])) O (Rc (E1 r5.2) O (Rc (E0 s23) O (JLh (.agg [G0 3,G0 v105,G0 v107,U8 j108.2.2]) (Gh Qw O O O) O ?_))))))
    obtain⟨r114,hr114,h⟩:=Gf h
    refine JLh (.tup [E1 r114.1,G0 r114.2]) (Gu O (G2f F r3 (r5.1++[(Ga.mk 3 ByteArray.empty j108.1 j108.2.1 0 0 0 0 false)]) r5.2 s23 (Stowed.mk 3 (Slot.mk v105 v107 j108.2.2)) r114 hr114) G70 ⟨O,O,O,O,O,O,O,O,O,O,G⟩) O (Rc (.tup [E1 r114.1,G0 r114.2]) O (JLh (E1 r114.1) (H2 O O O) O (JLh (G0 r114.2) (H2 O O O) O (Rc (E1 r114.1) O (Rc (G0 r114.2) O (G7 (hK113 (Js fun hK115=>Jr fun hK116=>(Rc (G0 r114.2) O (JLh (BL (decide (r114.2≠0))) (G36 O O O) O (G7 (hK116 (JCc O h (fun h hb=>?_) (fun h hb=>?_))))))))))))))
    ·
     refine Jr fun hK117=>(Rc (E1 r114.1) O (JLl H0 O O O fun hm168=>(JLh (BL (decide ((r114.1.length:Int)=0))) (Jv O O O) O (Rc (BL (decide ((r114.1.length:Int)=0))) O ?_))))
     obtain⟨r118,hr118,h⟩:=Gf h
     refine JLo (BL r118) [] O .sct G (fun hc=>Gu (args:=[]) O (Q2 F r118 (H3 hc hr118)) G6d G) O (JLh (BL ((decide ((r114.1.length:Int)=0))&&r118)) (Q6 O O O O) O (Rc (BL ((decide ((r114.1.length:Int)=0))&&r118)) O (G7 (hK117 (Gv (fin1 BL h))))))
    ·
     refine Gr (hK115 (Jr fun hK119=>(JLh (.agg (Gt.cs r3)) (Gh H6 O O O) O (Rc (OW 1024 9 Ga.av (r5.1++[(Ga.mk 3 ByteArray.empty j108.1 j108.2.1 0 0 0 0 false)])) O (Rc (E1 r114.1) O (Rc (E0 s23) O ?_))))))
     obtain⟨r120,hr120,h⟩:=Gf h
     refine JLh (.tup [E1 r120.1,G0 r120.2]) (Gu O (H59 r3 (r5.1++[(Ga.mk 3 ByteArray.empty j108.1 j108.2.1 0 0 0 0 false)]) r114.1 s23 3 r120 hr120) J20 ⟨O,O,O,O,O,O,O,O,O,O,G⟩) O (Rc (.tup [E1 r120.1,G0 r120.2]) O (JLh (E1 r120.1) (H2 O O O) O (JLh (G0 r120.2) (H2 O O O) O (Rc (E1 r120.1) O (Rc (G0 r120.2) O (G7 (hK119 (Jr fun hK121=>(Rc (G0 r120.2) O (JLh (BL (decide (r120.2=0))) (Jv O O O) O (Rc (BL (decide (r120.2=0))) O (JLo (.agg (Gt.cs r3)) [] O .sct G (fun hc=>Gh H6 O O O) O (JLo (OW 1024 9 Ga.av (r5.1++[(Ga.mk 3 ByteArray.empty j108.1 j108.2.1 0 0 0 0 false)])) [] O .sct G (fun hc=>G5 O O) O (JLo (E1 r114.1) [] O .sct G (fun hc=>G5 O O) O ?_))))))))))))))
     obtain⟨r122,hr122,h⟩:=Gf h
     refine JLo (BL r122) [184,185,186] O .sct ⟨Ua,Ua,Ua,G⟩ (fun hc=>Gu (args:=[.agg (Gt.cs r3),E2 (r5.1++[(Ga.mk 3 ByteArray.empty j108.1 j108.2.1 0 0 0 0 false)]),E1 r114.1]) O (Zu r3 (r5.1++[(Ga.mk 3 ByteArray.empty j108.1 j108.2.1 0 0 0 0 false)]) r114.1 r122 (H3 hc hr122)) G6f ⟨O,O,O,O,O,O,G⟩) O (JLh (BL ((decide (r120.2=0))&&r122)) (Q6 O O O O) O (Rc (BL ((decide (r120.2=0))&&r122)) O (JLo (E1 r114.1) [] O .sct G (fun hc=>G5 O O) O (JLo (Ej r114.1.length) [190] O .sct ⟨Ua,G⟩ (fun hc=>Yn (f:=Stowed.av) (xs:=r114.1) H0 O O) O (JLo (E1 r5.2) [] O .sct G (fun hc=>G5 O O) O (JLo (Ej r5.2.length) [192] O .sct ⟨Ua,G⟩ (fun hc=>Yn (f:=Stowed.av) (xs:=r5.2) H0 O O) O ?_))))))
     obtain⟨v123,hv123,h⟩:=Gf h
     refine JLo (G0 v123) [193] O .sct ⟨Ua,G⟩ (fun hc=>Hv (G62 (H3 hc hv123)) O O O) O (JLo (BL (decide ((r114.1.length:Int)=v123))) [191,194] O .sct ⟨Ua,Ua,G⟩ (fun hc=>Jv O O O) O (JLh (BL (((decide (r120.2=0))&&r122)&&(decide ((r114.1.length:Int)=v123)))) (Q6 O O O O) O (Rc (BL (((decide (r120.2=0))&&r122)&&(decide ((r114.1.length:Int)=v123)))) O (JLo (E1 r120.1) [] O .sct G (fun hc=>G5 O O) O (JLo (E1 r5.2) [] O .sct G (fun hc=>G5 O O) O ?_)))))
     obtain⟨r124,hr124,h⟩:=Gf h
     refine JLo (BL r124) [198,199] O .sct ⟨Ua,Ua,G⟩ (fun hc=>Gu (args:=[E1 r120.1,E1 r5.2]) O (G09 r120.1 r5.2 r124 (H3 hc hr124)) J1f ⟨O,O,O,O,G⟩) O (JLh (BL ((((decide (r120.2=0))&&r122)&&(decide ((r114.1.length:Int)=v123)))&&r124)) (Q6 O O O O) O (Rc (BL ((((decide (r120.2=0))&&r122)&&(decide ((r114.1.length:Int)=v123)))&&r124)) O ?_))
     obtain⟨r125,hr125,h⟩:=Gf h
     refine JLo (BL r125) [] O .sct G (fun hc=>Gu (args:=[]) O (Q2 F r125 (H3 hc hr125)) G6d G) O (JLh (BL (((((decide (r120.2=0))&&r122)&&(decide ((r114.1.length:Int)=v123)))&&r124)&&r125)) (Q6 O O O O) O (Rc (BL (((((decide (r120.2=0))&&r122)&&(decide ((r114.1.length:Int)=v123)))&&r124)&&r125)) O (G7 (hK121 (Gv (fin1 BL h))))))
end
end Go.Proofs.YtbljcmgjmieffaaGreat
