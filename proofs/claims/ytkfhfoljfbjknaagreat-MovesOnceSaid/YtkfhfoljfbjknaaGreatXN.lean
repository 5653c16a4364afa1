/-
 Models of functions of the program,and that they return what the models say.
-/
import Derived.Test.YtkfhfoljfbjknaaGreatProg
import Derived.Test.YtkfhfoljfbjknaaGreatSortM
import Derived.Test.YtkfhfoljfbjknaaGreatSortLay
import Derived.Test.YtkfhfoljfbjknaaGreatRel
import Derived.Test.YtkfhfoljfbjknaaGreatLit0
import Derived.Test.YtkfhfoljfbjknaaGreatXA
import Derived.Test.YtkfhfoljfbjknaaGreatSpecA
import Derived.Test.YtkfhfoljfbjknaaGreatSpecI
import Derived.Test.YtkfhfoljfbjknaaGreatSpecJ
import Derived.Test.YtkfhfoljfbjknaaGreatXVa
import Derived.Test.YtkfhfoljfbjknaaGreatXVb
import Derived.Test.YtkfhfoljfbjknaaGreatXVc
import Derived.Test.YtkfhfoljfbjknaaGreatXV
import Derived.Test.YtkfhfoljfbjknaaGreatXMa
import Derived.Test.YtkfhfoljfbjknaaGreatXM
import Derived.Test.YtkfhfoljfbjknaaGreatSpecT
set_option maxRecDepth 100000
set_option linter.unusedVariables false
set_option linter.unusedSimpArgs false
namespace Go.Proofs.YtkfhfoljfbjknaaGreat
open Go.RowKit
noncomputable section

namespace XNF
open XAF
open XVF
open XMF
theorem tq_59 (a b:Move):eqAt Tryz.prog 4 59 [.int .u8 a.Kind,.int .i64 a.Gp,.int .i64 a.Slot.G5,.int .i64 a.Slot.Tier,.int .u8 a.Slot.Half,.int .i64 a.Ga] [.int .u8 b.Kind,.int .i64 b.Gp,.int .i64 b.Slot.G5,.int .i64 b.Slot.Tier,.int .u8 b.Slot.Half,.int .i64 b.Ga]=some (decide (a=b)):=by
 refine(show _=some ((a.Kind==b.Kind)&&((a.Gp==b.Gp)&&(((a.Slot.G5==b.Slot.G5)&&((a.Slot.Tier==b.Slot.Tier)&&((a.Slot.Half==b.Slot.Half)&&true)))&&((a.Ga==b.Ga)&&true)))) by kernel_rfl).trans (congrArg some ?_)
 rw [Bool.eq_iff_iff]
 simp only [Bool.and_eq_true,beq_iff_eq,decide_eq_true_eq,Bool.and_true]
 constructor
 ·intro h; obtain⟨_,_,⟨_,_,_⟩,_⟩:=a; obtain⟨_,_,⟨_,_,_⟩,_⟩:=b; simp_all
 ·intro h; subst h; simp
theorem tq_94 (a b:H6):eqAt Tryz.prog 4 94 [.int .i64 a.Bay,.int .i64 a.Phase,.int .i64 a.Lifts,.int .i64 a.Covers] [.int .i64 b.Bay,.int .i64 b.Phase,.int .i64 b.Lifts,.int .i64 b.Covers]=some (decide (a=b)):=by
 refine(show _=some ((a.Bay==b.Bay)&&((a.Phase==b.Phase)&&((a.Lifts==b.Lifts)&&((a.Covers==b.Covers)&&true)))) by kernel_rfl).trans (congrArg some ?_)
 rw [Bool.eq_iff_iff]
 simp only [Bool.and_eq_true,beq_iff_eq,decide_eq_true_eq,Bool.and_true]
 constructor
 ·intro h; obtain⟨_,_,_,_⟩:=a; obtain⟨_,_,_,_⟩:=b; simp_all
 ·intro h; subst h; simp
theorem tf_aggof_59:aggOf Tryz.prog 59=true:=by kernel_rfl
theorem tf_aggof_94:aggOf Tryz.prog 94=true:=by kernel_rfl
theorem tf_call_10:Hb Tryz.prog 10=true:=by kernel_rfl
theorem tf_call_11:Hb Tryz.prog 11=true:=by kernel_rfl
theorem tf_call_12:Hb Tryz.prog 12=true:=by kernel_rfl
theorem tf_call_20:Hb Tryz.prog 20=true:=by kernel_rfl
theorem tf_call_21:Hb Tryz.prog 21=true:=by kernel_rfl
theorem tf_call_22:Hb Tryz.prog 22=true:=by kernel_rfl
theorem tf_call_23:Hb Tryz.prog 23=true:=by kernel_rfl
theorem tf_call_4:Hb Tryz.prog 4=true:=by kernel_rfl
theorem tf_call_5:Hb Tryz.prog 5=true:=by kernel_rfl
theorem tf_call_54:Hb Tryz.prog 54=true:=by kernel_rfl
theorem tf_call_6:Hb Tryz.prog 6=true:=by kernel_rfl
theorem tf_call_7:Hb Tryz.prog 7=true:=by kernel_rfl
theorem tf_call_9:Hb Tryz.prog 9=true:=by kernel_rfl
theorem tf_eqg_59:Tryz.prog.eqGuardType Tryz.prog.depth 59=false:=by kernel_rfl
theorem tf_eqg_94:Tryz.prog.eqGuardType Tryz.prog.depth 94=false:=by kernel_rfl
theorem tf_field_59_1:Jh Tryz.prog 59 1 1=true:=by kernel_rfl
theorem tf_places_35:placesOf Tryz.prog 35=some [(0,1),(1,1),(2,4),(6,1),(7,1),(8,1),(9,4)]:=by kernel_rfl
theorem tf_zsize_35:zsizeB Tryz.prog 35 13=true:=by kernel_rfl
end XNF
open XAF
open XVF
open XMF
open XNF

def M_twistlocklaw30_count (l:List G2) (id_:Int):Option Int:=
 each (fun y19 i19 (s19:Int) nx19=>
  jp (fun kj22=>
   bif decide (y19.Gp=id_) then
   (chk (s19+1) fun v25=>
    kj22 v25)
   else
   (kj22 s19)) fun(j22:Int)=>
  nx19 j22)
 (fun(s19:Int)=>
  some s19) l 0 0
theorem M_twistlocklaw30_count_w (l:List G2) (id_:Int) (r:Int) (h:M_twistlocklaw30_count l id_=some r):Pure Tryz.prog 9 [E0 l,G0 id_] (·=G0 r):=by
 unfold M_twistlocklaw30_count at h
 refine H9 [.tmp 4] Tryz.func9 O O ?_
 refine G6 fun K1 hK1=>G3 ?_
 refine JLg (G0 0) (G9 O O) ?_
 refine G8 (hK1 _ _ ?_)
 refine G6 fun K2 hK2=>G3 ?_
 refine JLg (G0 0) (G9 O O) ?_
 refine G8 (hK2 _ _ ?_)
 refine G6 (fun K3 hK3=>?_)
 refine G6 fun K4 hK4=>G3 ?_
 refine JLg (E0 l) (G7 O O) ?_
 refine Hs (f:=G2.av) (xs:=l) Gx O O (fun hm9=>?_) O O O
 refine JLg (G0 0) (G7 O O) ?_
 refine G8 (hK4 _ _ ?_)
 refine Gg ?_
 obtain⟨b19,kx19,hb19,hkx19,h⟩:=Hu h
 refine H7 (fun i19 (s19:Int)=>each b19 kx19 (List.drop i19 l) i19 s19=some r) (fun i19 s19=>[(1,G0 id_),(5,G0 s19),(8,E0 l),(9,Em l.length),(10,Em i19)]) (fun i19 s19=>[]) (fun i19=>l.length - i19) 0 0 h ⟨(by repeat' constructor),G,rfl⟩ ?_
 clear h
 intro i19 s19 hi19 K19 e19
 refine G6 fun K20 hK20=>G3 ?_
 refine JLg (BL (decide ((i19:Int) < (l.length:Int)))) (Hy O O O) ?_
 refine G8 (hK20 _ _ ?_)
 refine G6 (fun K21 hK21=>?_)
 refine Gh O (fun hb=>?_) (fun hb=>?_)
 ·
  have hk19:=J9 hb
  obtain⟨y19,nx19,hy19,hn19,h⟩:=Hn hi19 hk19
  replace h:=app4 hb19 h
  refine Gj ?_
  refine hK21 _ _ ?_
  obtain⟨kj22,hkj22,h⟩:=Qd h
  refine Jq (fun j22:Int=>kj22 j22=some r) (fun j22=>[(1,G0 id_),(5,G0 j22),(8,E0 l),(9,Em l.length),(10,Em i19)]) (fun j22=>[]) (fun Kj22 ej22=>?_) ?_
  ·
   refine Gg ?_
   refine G6 fun K23 hK23=>G3 ?_
   refine JLg (Ef y19) (H0 (f:=G2.av) (xs:=l) (y:=y19) O O O Gx hy19 O) ?_
   refine JLg (.agg (G2.cs y19)) (Gi Jf O O O) ?_
   refine JLg (.ptr 1030 0) (Hi 1030 4 Jb O O) ?_
   refine Hj (u:=.junk) (H2 (u:=.agg (G2.cs y19)) (ds:=[G0 y19.Gp,G0 y19.Slot.G5,G0 y19.Slot.Tier,U8 y19.Slot.Half]) Jz O O O O O O O O) ?_
   refine G8 (hK23 _ _ ?_)
   refine Gk [(1,G0 id_),(5,G0 s19),(7,Ef y19),(8,E0 l),(9,Em l.length),(10,Em i19)] [] 1030 rfl rfl rfl G rfl (by repeat' (first | exact .ptr | constructor)) ?_
   refine G6 fun K24 hK24=>G3 ?_
   refine JLg (Ef y19) (Gc J5 O O O) ?_
   refine JLg (G0 y19.Gp) (Gf Gb O O O) ?_
   refine JLg (G0 id_) (G7 O O) ?_
   refine JLg (BL (decide (y19.Gp=id_))) (Qb O O O) ?_
   refine G8 (hK24 _ _ ?_)
   refine Gh O (fun hb=>?_) (fun hb=>?_)
   ·
    replace h:=Gv hb h
    refine G3 ?_
    refine JLg (G0 s19) (G7 O O) ?_
    obtain⟨v25,hv25,h⟩:=Hm h
    refine JLg (G0 v25) (Ht hv25 O O O) ?_
    refine JLg (G0 v25) (G9 O O) ?_
    refine G8 ?_
    exact ej22 _ _ v25 h ⟨(by repeat' constructor),G,rfl⟩
   ·
    replace h:=Hp hb h
    refine Gj ?_
    exact ej22 _ _ s19 h ⟨(by repeat' constructor),G,rfl⟩
  ·intro j22 h
   replace h:=app1 hkj22 h
   refine G3 ?_
   refine JLg (G0 ((i19+1:Nat):Int)) (Ht (Hc hk19 hm9) O O O) ?_
   refine JLg (G0 ((i19+1:Nat):Int)) (G7 O O) ?_
   refine G8 ?_
   exact e19 _ _ (i19+1) j22 (app1 hn19 h) (by omega) ⟨(by repeat' constructor),G,rfl⟩
 ·
  have h:=app1 hkx19 (Ho hi19 (H3 hb))
  refine Hk ?_
  refine hK3 _ _ ?_
  refine G6 fun K26 hK26=>G3 ?_
  refine JLg (G0 s19) (G7 O O) ?_
  refine JLg (G0 s19) (G9 O O) ?_
  refine G8 (hK26 _ _ ?_)
  refine Gu ?_
  exact⟨[G0 s19],[],G,O,⟨⟨_,O,.conv (.same O)⟩,G⟩,O,congrArg (fun r:Int=>(G0 r:AV)) (Option.some.inj h)⟩

def M_twistlocklaw30_under (s:Gz) (before:List G2) (after:List G2) (lifted:List Int) (cover:Int):Option Bool:=
 need (decide ((([]:List G2).length+before.length)*32≤140737488355328∧([]:List G2).length+before.length≤maxLen)) <|
 need (decide (((([]:List G2)++before).length+after.length)*32≤140737488355328∧(([]:List G2)++before).length+after.length≤maxLen)) <|
 each (fun y6 i6 (s6:Unit) nx6=>
  Jy s.Columns y6.Slot.G5 fun y12=>
  Jy s.Covers cover fun y15=>
  each (fun y17 i17 (s17:Unit) nx17=>
   each (fun y39 i39 (s39:Unit) nx39=>
    bnd (bif ((decide (y39=y6.Gp))&&(!y12.Deck)) then Jy s.Covers cover some else some default) fun y45=>
    bif ((((decide (y39=y6.Gp))&&(!y12.Deck))&&(decide (y12.Bay=y45.Bay)))&&(decide (y12.Row=y17))) then
    (some true)
    else
    (nx39 ()))
   (fun(s39:Unit)=>
    nx17 ()) lifted 0 ())
  (fun(s17:Unit)=>
   nx6 ()) y15.Rows 0 ())
 (fun(s6:Unit)=>
  some false) ((([]:List G2)++before)++after) 0 ()
theorem M_twistlocklaw30_under_w (s:Gz) (before:List G2) (after:List G2) (lifted:List Int) (cover:Int) (r:Bool) (h:M_twistlocklaw30_under s before after lifted cover=some r):Pure Tryz.prog 10 [.agg (Gz.cs s),E0 before,E0 after,E1 lifted,G0 cover] (·=BL r):=by
 unfold M_twistlocklaw30_under at h
 refine H9 [.tmp 10] Tryz.func10 O O ?_
 refine G6 fun K1 hK1=>G3 ?_
 refine JLg (.ptr 1031 0) (Q1 (u:=.agg (Gz.cs s)) (cs:=(Gz.cs s)) 1031 O O O O O) ?_
 refine JLg (BL false) (G9 O O) ?_
 refine G8 (hK1 _ _ ?_)
 refine Gk [(1,E0 before),(2,E0 after),(3,E1 lifted),(4,G0 cover),(5,Ee s)] [] 1031 rfl rfl rfl G rfl (by repeat' (first | exact .ptr | constructor)) ?_
 refine G6 (fun K2 hK2=>?_)
 refine G6 fun K3 hK3=>G3 ?_
 refine JLg (OW 1034 4 G2.av ([]:List G2)) (A_ownLit 1034 86 4 O O Gx) ?_
 refine JLg (E0 before) (G7 O O) ?_
 obtain⟨ha4,h⟩:=Je h
 refine JLg (OW 1034 4 G2.av (([]:List G2)++before)) (A_appendS (f:=G2.av) (xs:=([]:List G2)) (ys:=before) O O O O Gx Yo ha4 (fun _=>O) (.inl O)) ?_
 refine JLg (E0 after) (G7 O O) ?_
 obtain⟨ha5,h⟩:=Je h
 refine JLg (OW 1034 4 G2.av ((([]:List G2)++before)++after)) (A_appendS (f:=G2.av) (xs:=(([]:List G2)++before)) (ys:=after) O O O O Gx Yo ha5 (fun _=>O) (.inl O)) ?_
 refine Hs (f:=G2.av) (xs:=((([]:List G2)++before)++after)) Gx O O (fun hm23=>?_) O O O
 refine JLg (G0 0) (G7 O O) ?_
 refine G8 (hK3 _ _ ?_)
 refine Gg ?_
 obtain⟨b6,kx6,hb6,hkx6,h⟩:=Hu h
 refine H7 (fun i6 (s6:Unit)=>each b6 kx6 (List.drop i6 ((([]:List G2)++before)++after)) i6 s6=some r) (fun i6 s6=>[(3,E1 lifted),(4,G0 cover),(5,Ee s),(22,OW 1034 4 G2.av ((([]:List G2)++before)++after)),(23,G0 (((([]:List G2)++before)++after).length:Int)),(24,Em i6)]) (fun i6 s6=>[(1034,.spare 86 4 ((([]:List G2)++before)++after).length ((([]:List G2)++before)++after).length)]) (fun i6=>((([]:List G2)++before)++after).length - i6) 0 () h ⟨(by repeat' constructor),⟨⟨_,rfl,.same⟩,G⟩,rfl⟩ ?_
 clear h
 intro i6 s6 hi6 K6 e6
 refine G6 fun K7 hK7=>G3 ?_
 refine JLg (BL (decide ((i6:Int) < (((([]:List G2)++before)++after).length:Int)))) (Hy O O O) ?_
 refine G8 (hK7 _ _ ?_)
 refine G6 (fun K8 hK8=>?_)
 refine Gh O (fun hb=>?_) (fun hb=>?_)
 ·
  have hk6:=J9 hb
  obtain⟨y6,nx6,hy6,hn6,h⟩:=Hn hi6 hk6
  replace h:=app4 hb6 h
  refine Gj ?_
  refine hK8 _ _ ?_
  refine G6 (fun K9 hK9=>?_)
  refine Gg ?_
  refine G6 fun K10 hK10=>G3 ?_
  refine JLg (Ef y6) (H0 (f:=G2.av) (xs:=((([]:List G2)++before)++after)) (y:=y6) O O O Gx hy6 O) ?_
  refine JLg (.agg (G2.cs y6)) (Gi Jf O O O) ?_
  refine JLg (.ptr 1032 0) (Hi 1032 4 Jb O O) ?_
  refine Hj (u:=.junk) (H2 (u:=.agg (G2.cs y6)) (ds:=[G0 y6.Gp,G0 y6.Slot.G5,G0 y6.Slot.Tier,U8 y6.Slot.Half]) Jz O O O O O O O O) ?_
  refine G8 (hK10 _ _ ?_)
  refine Gk [(3,E1 lifted),(4,G0 cover),(5,Ee s),(12,Ef y6),(22,OW 1034 4 G2.av ((([]:List G2)++before)++after)),(23,G0 (((([]:List G2)++before)++after).length:Int)),(24,Em i6)] [(1034,.spare 86 4 ((([]:List G2)++before)++after).length ((([]:List G2)++before)++after).length)] 1032 rfl rfl rfl ⟨⟨_,rfl,.same⟩,G⟩ rfl (by repeat' (first | exact .ptr | constructor)) ?_
  refine G6 fun K11 hK11=>G3 ?_
  refine JLg (Ee s) (Gc J6 O O O) ?_
  refine JLg (E4 s.Columns) (Gf Jd O O O) ?_
  refine JLg (Eg y6.Slot) (Gc J1 O O O) ?_
  refine JLg (Eg y6.Slot) (Gc J8 O O O) ?_
  refine JLg (G0 y6.Slot.G5) (Gf Gb O O O) ?_
  obtain⟨m13,y12,hm13,hy12,h⟩:=R3 h
  refine JLg (Ei y12) (H0 (f:=G5.av) (xs:=s.Columns) (y:=y12) O O O J7 hy12 hm13) ?_
  refine JLg (.agg (G5.cs y12)) (Gi Ya O O O) ?_
  refine JLg (.ptr 1033 0) (Hi 1033 12 Rn O O) ?_
  refine Hj (u:=.junk) (H2 (u:=.agg (G5.cs y12)) (ds:=(G5.cs y12)) Ym O O O O O O O O) ?_
  refine G8 (hK11 _ _ ?_)
  refine Gk [(3,E1 lifted),(4,G0 cover),(5,Ee s),(12,Ef y6),(13,Ei y12),(22,OW 1034 4 G2.av ((([]:List G2)++before)++after)),(23,G0 (((([]:List G2)++before)++after).length:Int)),(24,Em i6)] [(1034,.spare 86 4 ((([]:List G2)++before)++after).length ((([]:List G2)++before)++after).length)] 1033 rfl rfl rfl ⟨⟨_,rfl,.same⟩,G⟩ rfl (by repeat' (first | exact .ptr | constructor)) ?_
  refine G6 fun K14 hK14=>G3 ?_
  refine JLg (.dptr [E6 s.Covers,G0 s.Light.Kilos,G0 s.Light.X,G0 s.Light.Y,G0 s.Light.Z,E7 s.Rows,E8 s.Frames,E9 s.Tanks,G0 s.G4.Tolerance,G0 s.G4.Trim,G0 s.G4.List_,G0 s.G4.Stability]) (Gc Qs O O O) ?_
  refine JLg (E6 s.Covers) (Gf Ra O O O) ?_
  refine JLg (G0 cover) (G7 O O) ?_
  obtain⟨m16,y15,hm16,hy15,h⟩:=R3 h
  refine JLg (.dptr [G0 y15.Bay,E1 y15.Rows]) (H0 (f:=Ga.av) (xs:=s.Covers) (y:=y15) O O O Qq hy15 hm16) ?_
  refine JLg (.dptr [E1 y15.Rows]) (Gc Yf O O O) ?_
  refine JLg (E1 y15.Rows) (Gf Qt O O O) ?_
  refine Hs (f:=G0) (xs:=y15.Rows) Gy O O (fun hm41=>?_) O O O
  refine JLg (G0 0) (G7 O O) ?_
  refine G8 (hK14 _ _ ?_)
  refine Gg ?_
  obtain⟨b17,kx17,hb17,hkx17,h⟩:=Hu h
  refine H7 (fun i17 (s17:Unit)=>each b17 kx17 (List.drop i17 y15.Rows) i17 s17=some r) (fun i17 s17=>[(3,E1 lifted),(4,G0 cover),(5,Ee s),(12,Ef y6),(13,Ei y12),(22,OW 1034 4 G2.av ((([]:List G2)++before)++after)),(23,G0 (((([]:List G2)++before)++after).length:Int)),(24,Em i6),(40,E1 y15.Rows),(41,Em y15.Rows.length),(42,Em i17)]) (fun i17 s17=>[(1034,.spare 86 4 ((([]:List G2)++before)++after).length ((([]:List G2)++before)++after).length)]) (fun i17=>y15.Rows.length - i17) 0 () h ⟨(by repeat' constructor),⟨⟨_,rfl,.same⟩,G⟩,rfl⟩ ?_
  clear h
  intro i17 s17 hi17 K17 e17
  refine G6 fun K18 hK18=>G3 ?_
  refine JLg (BL (decide ((i17:Int) < (y15.Rows.length:Int)))) (Hy O O O) ?_
  refine G8 (hK18 _ _ ?_)
  refine G6 (fun K19 hK19=>?_)
  refine Gh O (fun hb=>?_) (fun hb=>?_)
  ·
   have hk17:=J9 hb
   obtain⟨y17,nx17,hy17,hn17,h⟩:=Hn hi17 hk17
   replace h:=app4 hb17 h
   refine Gj ?_
   refine hK19 _ _ ?_
   refine G6 (fun K20 hK20=>?_)
   refine Gg ?_
   refine G6 fun K21 hK21=>G3 ?_
   refine JLg (.dptr [G0 y17]) (H0 (f:=G0) (xs:=y15.Rows) (y:=y17) O O O Gy hy17 O) ?_
   refine JLg (G0 y17) (Gf Gb O O O) ?_
   refine JLg (G0 y17) (G9 O O) ?_
   refine G8 (hK21 _ _ ?_)
   refine G6 fun K22 hK22=>G3 ?_
   refine JLg (E1 lifted) (G7 O O) ?_
   refine Hs (f:=G0) (xs:=lifted) Gy O O (fun hm47=>?_) O O O
   refine JLg (G0 0) (G7 O O) ?_
   refine G8 (hK22 _ _ ?_)
   refine Gg ?_
   obtain⟨b39,kx39,hb39,hkx39,h⟩:=Hu h
   refine H7 (fun i39 (s39:Unit)=>each b39 kx39 (List.drop i39 lifted) i39 s39=some r) (fun i39 s39=>[(3,E1 lifted),(4,G0 cover),(5,Ee s),(12,Ef y6),(13,Ei y12),(15,G0 y17),(22,OW 1034 4 G2.av ((([]:List G2)++before)++after)),(23,G0 (((([]:List G2)++before)++after).length:Int)),(24,Em i6),(40,E1 y15.Rows),(41,Em y15.Rows.length),(42,Em i17),(46,E1 lifted),(47,Em lifted.length),(48,Em i39)]) (fun i39 s39=>[(1034,.spare 86 4 ((([]:List G2)++before)++after).length ((([]:List G2)++before)++after).length)]) (fun i39=>lifted.length - i39) 0 () h ⟨(by repeat' constructor),⟨⟨_,rfl,.same⟩,G⟩,rfl⟩ ?_
   clear h
   intro i39 s39 hi39 K39 e39
   refine G6 fun K40 hK40=>G3 ?_
   refine JLg (BL (decide ((i39:Int) < (lifted.length:Int)))) (Hy O O O) ?_
   refine G8 (hK40 _ _ ?_)
   refine G6 (fun K41 hK41=>?_)
   refine Gh O (fun hb=>?_) (fun hb=>?_)
   ·
    have hk39:=J9 hb
    obtain⟨y39,nx39,hy39,hn39,h⟩:=Hn hi39 hk39
    replace h:=app4 hb39 h
    refine Gj ?_
    refine hK41 _ _ ?_
    refine G6 (fun K42 hK42=>?_)
    refine Gg ?_
    refine G6 fun K43 hK43=>G3 ?_
    refine JLg (.dptr [G0 y39]) (H0 (f:=G0) (xs:=lifted) (y:=y39) O O O Gy hy39 O) ?_
    refine JLg (G0 y39) (Gf Gb O O O) ?_
    refine JLg (G0 y39) (G9 O O) ?_
    refine G8 (hK43 _ _ ?_)
    refine G6 (fun K44 hK44=>?_)
    refine R0 (l':=[(3,E1 lifted),(4,G0 cover),(5,Ee s),(12,Ef y6),(13,Ei y12),(15,G0 y17),(17,G0 y39),(22,OW 1034 4 G2.av ((([]:List G2)++before)++after)),(23,G0 (((([]:List G2)++before)++after).length:Int)),(24,Em i6),(40,E1 y15.Rows),(41,Em y15.Rows.length),(42,Em i17),(46,E1 lifted),(47,Em lifted.length),(48,Em i39)]) (L':=[(1034,.spare 86 4 ((([]:List G2)++before)++after).length ((([]:List G2)++before)++after).length)]) ⟨(by repeat' constructor),⟨⟨_,rfl,.same⟩,G⟩,rfl⟩ ?_
    obtain⟨y45,hy45,h⟩:=Ge h
    refine Qp [] [0,0,0,0,0,0,0,0,0,0,0,0,0,0,0,0,0,0,0,0,0,0,0,0,0,0] [0,0,0,0,0,0,0,0,0,0,0,0,0,0,0,0,0,0,0,0,0,0,0,0,0,0] [[(1034,.spare 86 4 ((([]:List G2)++before)++after).length ((([]:List G2)++before)++after).length)]] Q5 (by kernel_rfl) rfl rfl ?_
    refine Gn (u:=G0 y39) O O ⟨Gs (G7 O O) O,G⟩ ?_
    refine Gn (u:=Ef y6) O O ⟨Gs (Gc J5 O O O) O,G⟩ ?_
    refine Gn (u:=G0 y6.Gp) O O ⟨Gs (Gf Gb O O O) O,G⟩ ?_
    refine Gn (u:=BL (decide (y39=y6.Gp))) O O ⟨Gs (Qb O O O) O,G⟩ ?_
    refine Gn (u:=BL (decide (y39=y6.Gp))) O O ⟨Gs (G7 O O) O,G⟩ ?_
    refine Gn (u:=.opt (decide (y39=y6.Gp)) (.dptr ((G5.cs y12).drop 2))) O O ⟨Hf [] O O O .sct G (fun hc=>Gc Rb O O O) O,G⟩ ?_
    refine Gn (u:=.opt (decide (y39=y6.Gp)) (BL y12.Deck)) O O ⟨Hf [(57,.dptr ((G5.cs y12).drop 2))] O O O .sct ⟨.all id,G⟩ (fun hc=>Gf Qj O O O) O,G⟩ ?_
    refine Gn (u:=.opt (decide (y39=y6.Gp)) (BL (!y12.Deck))) O O ⟨Hf [(58,BL y12.Deck)] O O O .sct ⟨.all id,G⟩ (fun hc=>Rj (b:=y12.Deck) O O) O,G⟩ ?_
    refine Gn (u:=BL ((decide (y39=y6.Gp))&&(!y12.Deck))) O O ⟨Gs (Qr O O O O) O,G⟩ ?_
    refine Gn (u:=BL ((decide (y39=y6.Gp))&&(!y12.Deck))) O O ⟨Gs (G7 O O) O,G⟩ ?_
    refine Gn (u:=.opt ((decide (y39=y6.Gp))&&(!y12.Deck)) (Ei y12)) O O ⟨Hf [] O O O .sct G (fun hc=>Gc R1 O O O) O,G⟩ ?_
    refine Gn (u:=.opt ((decide (y39=y6.Gp))&&(!y12.Deck)) (G0 y12.Bay)) O O ⟨Hf [(62,Ei y12)] O O O .sct ⟨.all id,G⟩ (fun hc=>Gf Gb O O O) O,G⟩ ?_
    refine Gn (u:=.opt ((decide (y39=y6.Gp))&&(!y12.Deck)) (.dptr [E6 s.Covers,G0 s.Light.Kilos,G0 s.Light.X,G0 s.Light.Y,G0 s.Light.Z,E7 s.Rows,E8 s.Frames,E9 s.Tanks,G0 s.G4.Tolerance,G0 s.G4.Trim,G0 s.G4.List_,G0 s.G4.Stability])) O O ⟨Hf [] O O O .sct G (fun hc=>Gc Qs O O O) O,G⟩ ?_
    refine Gn (u:=.opt ((decide (y39=y6.Gp))&&(!y12.Deck)) (E6 s.Covers)) O O ⟨Hf [(64,.dptr [E6 s.Covers,G0 s.Light.Kilos,G0 s.Light.X,G0 s.Light.Y,G0 s.Light.Z,E7 s.Rows,E8 s.Frames,E9 s.Tanks,G0 s.G4.Tolerance,G0 s.G4.Trim,G0 s.G4.List_,G0 s.G4.Stability])] O O O .sct ⟨.all id,G⟩ (fun hc=>Gf Ra O O O) O,G⟩ ?_
    refine Gn (u:=.opt ((decide (y39=y6.Gp))&&(!y12.Deck)) (G0 cover)) O O ⟨Hf [] O O O .sct G (fun hc=>G7 O O) O,G⟩ ?_
    refine Gn (u:=.opt ((decide (y39=y6.Gp))&&(!y12.Deck)) (.dptr [G0 y45.Bay,E1 y45.Rows])) O O ⟨Hf [(65,E6 s.Covers),(66,G0 cover)] O O O .sct ⟨.all id,.all id,G⟩ (fun hc=>(match Rv (Gv hc hy45) with | ⟨_,hm_,hy_⟩=>H0 (f:=Ga.av) (xs:=s.Covers) (y:=y45) O O O Qq hy_ hm_)) O,G⟩ ?_
    refine Gn (u:=.opt ((decide (y39=y6.Gp))&&(!y12.Deck)) (.dptr [G0 y45.Bay,E1 y45.Rows])) O O ⟨Hf [(67,.dptr [G0 y45.Bay,E1 y45.Rows])] O O O .sct ⟨.all id,G⟩ (fun hc=>Gc Y8 O O O) O,G⟩ ?_
    refine Gn (u:=.opt ((decide (y39=y6.Gp))&&(!y12.Deck)) (G0 y45.Bay)) O O ⟨Hf [(68,.dptr [G0 y45.Bay,E1 y45.Rows])] O O O .sct ⟨.all id,G⟩ (fun hc=>Gf Gb O O O) O,G⟩ ?_
    refine Gn (u:=.opt ((decide (y39=y6.Gp))&&(!y12.Deck)) (BL (decide (y12.Bay=y45.Bay)))) O O ⟨Hf [(63,G0 y12.Bay),(69,G0 y45.Bay)] O O O .sct ⟨.all id,.all id,G⟩ (fun hc=>Qb O O O) O,G⟩ ?_
    refine Gn (u:=BL (((decide (y39=y6.Gp))&&(!y12.Deck))&&(decide (y12.Bay=y45.Bay)))) O O ⟨Gs (Qr O O O O) O,G⟩ ?_
    refine Gn (u:=BL (((decide (y39=y6.Gp))&&(!y12.Deck))&&(decide (y12.Bay=y45.Bay)))) O O ⟨Gs (G7 O O) O,G⟩ ?_
    refine Gn (u:=.opt (((decide (y39=y6.Gp))&&(!y12.Deck))&&(decide (y12.Bay=y45.Bay))) (.dptr ((G5.cs y12).drop 1))) O O ⟨Hf [] O O O .sct G (fun hc=>Gc Y2 O O O) O,G⟩ ?_
    refine Gn (u:=.opt (((decide (y39=y6.Gp))&&(!y12.Deck))&&(decide (y12.Bay=y45.Bay))) (G0 y12.Row)) O O ⟨Hf [(73,.dptr ((G5.cs y12).drop 1))] O O O .sct ⟨.all id,G⟩ (fun hc=>Gf Gb O O O) O,G⟩ ?_
    refine Gn (u:=.opt (((decide (y39=y6.Gp))&&(!y12.Deck))&&(decide (y12.Bay=y45.Bay))) (G0 y17)) O O ⟨Hf [] O O O .sct G (fun hc=>G7 O O) O,G⟩ ?_
    refine Gn (u:=.opt (((decide (y39=y6.Gp))&&(!y12.Deck))&&(decide (y12.Bay=y45.Bay))) (BL (decide (y12.Row=y17)))) O O ⟨Hf [(74,G0 y12.Row),(75,G0 y17)] O O O .sct ⟨.all id,.all id,G⟩ (fun hc=>Qb O O O) O,G⟩ ?_
    refine Gn (u:=BL ((((decide (y39=y6.Gp))&&(!y12.Deck))&&(decide (y12.Bay=y45.Bay)))&&(decide (y12.Row=y17)))) O O ⟨Gs (Qr O O O O) O,G⟩ ?_
    refine Ry ?_
    refine hK44 _ _ ?_
    refine Gh O (fun hb=>?_) (fun hb=>?_)
    ·
     replace h:=Gv hb h
     refine G6 fun K46 hK46=>G3 ?_
     refine JLg (BL true) (G9 O O) ?_
     refine G8 (hK46 _ _ ?_)
     refine Gu ?_
     exact⟨[BL true],[],G,O,⟨⟨_,O,.conv (.same O)⟩,G⟩,O,congrArg (fun r:Bool=>(BL r:AV)) (Option.some.inj h)⟩
    ·
     replace h:=Hp hb h
     refine Gj ?_
     refine hK42 _ _ ?_
     refine G3 ?_
     refine JLg (G0 ((i39+1:Nat):Int)) (Ht (Hc hk39 hm47) O O O) ?_
     refine JLg (G0 ((i39+1:Nat):Int)) (G7 O O) ?_
     refine G8 ?_
     exact e39 _ _ (i39+1) () (app1 hn39 h) (by omega) ⟨(by repeat' constructor),⟨⟨_,rfl,.same⟩,G⟩,rfl⟩
   ·
    have h:=app1 hkx39 (Ho hi39 (H3 hb))
    refine Hk ?_
    refine hK20 _ _ ?_
    refine G3 ?_
    refine JLg (G0 ((i17+1:Nat):Int)) (Ht (Hc hk17 hm41) O O O) ?_
    refine JLg (G0 ((i17+1:Nat):Int)) (G7 O O) ?_
    refine G8 ?_
    exact e17 _ _ (i17+1) () (app1 hn17 h) (by omega) ⟨(by repeat' constructor),⟨⟨_,rfl,.same⟩,G⟩,rfl⟩
  ·
   have h:=app1 hkx17 (Ho hi17 (H3 hb))
   refine Hk ?_
   refine hK9 _ _ ?_
   refine G3 ?_
   refine JLg (G0 ((i6+1:Nat):Int)) (Ht (Hc hk6 hm23) O O O) ?_
   refine JLg (G0 ((i6+1:Nat):Int)) (G7 O O) ?_
   refine G8 ?_
   exact e6 _ _ (i6+1) () (app1 hn6 h) (by omega) ⟨(by repeat' constructor),⟨⟨_,rfl,.same⟩,G⟩,rfl⟩
 ·
  have h:=app1 hkx6 (Ho hi6 (H3 hb))
  refine Hk ?_
  refine hK2 _ _ ?_
  refine G6 fun K47 hK47=>G3 ?_
  refine JLg (BL false) (G9 O O) ?_
  refine G8 (hK47 _ _ ?_)
  refine Gu ?_
  exact⟨[BL false],[],G,O,⟨⟨_,O,.conv (.same O)⟩,G⟩,O,congrArg (fun r:Bool=>(BL r:AV)) (Option.some.inj h)⟩

def M_twistlocklaw07_Example :Option Gz:=
 some (Gz.mk ([(G5.mk 0 0 false 2 0 0 0 0 [] 0 0 0),(G5.mk 0 1 false 2 0 0 0 0 [] 0 0 0),(G5.mk 0 0 true 3 0 0 0 0 [] 0 0 0),(G5.mk 0 1 true 3 0 0 0 0 [] 0 0 0),(G5.mk 1 1 true 4 0 0 0 0 [] 0 0 0)]) ([(Ga.mk 0 [0,1])]) (Light.mk 0 0 0 0) [] [] [] (G4.mk 0 0 0 0))
theorem M_twistlocklaw07_Example_w  (r:Gz) (h:M_twistlocklaw07_Example =some r):Pure Tryz.prog 20 [] (·=.agg (Gz.cs r)):=by
 unfold M_twistlocklaw07_Example at h
 refine H9 [.cell 0 35] Tryz.func20 O O ?_
 refine G6 fun K1 hK1=>G3 ?_
 refine JLg (.ptr 1078 0) (Y1 1078 [E4 ([]:List G5),E6 ([]:List Ga),G0 0,G0 0,G0 0,G0 0,E7 ([]:List Row),E8 ([]:List Frame),E9 ([]:List Gq),G0 0,G0 0,G0 0,G0 0] [.slice none 0 0,.slice none 0 0,.int .i64 0,.int .i64 0,.int .i64 0,.int .i64 0,.slice none 0 0,.slice none 0 0,.slice none 0 0,.int .i64 0,.int .i64 0,.int .i64 0,.int .i64 0] tf_zero_35 ⟨.inr ⟨_,O,O⟩,.inr ⟨_,O,O⟩,.inl O,.inl O,.inl O,.inl O,.inr ⟨_,O,O⟩,.inr ⟨_,O,O⟩,.inr ⟨_,O,O⟩,.inl O,.inl O,.inl O,.inl O,G⟩ O O) ?_
 refine G8 (hK1 _ _ ?_)
 refine G6 fun K2 hK2=>G3 ?_
 refine JLg (.agg [G0 0,G0 0,BL false,G0 2,G0 0,G0 0,G0 0,G0 0,E1 ([]:List Int),G0 0,G0 0,G0 0]) (J4 (cs:=[G0 0,G0 0,BL false,G0 2,G0 0,G0 0,G0 0,G0 0,E1 ([]:List Int),G0 0,G0 0,G0 0]) [(0,1),(1,1),(2,1),(3,1),(4,1),(5,1),(6,1),(7,1),(8,1),(9,1),(10,1),(11,1)] [G0 0,G0 0,BL false,G0 0,G0 0,G0 0,G0 0,G0 0,E1 ([]:List Int),G0 0,G0 0,G0 0] [.int .i64 0,.int .i64 0,.bool false,.int .i64 0,.int .i64 0,.int .i64 0,.int .i64 0,.int .i64 0,.slice none 0 0,.int .i64 0,.int .i64 0,.int .i64 0] Y6 Yj ⟨.inl O,.inl O,.inl O,.inl O,.inl O,.inl O,.inl O,.inl O,.inr ⟨_,O,O⟩,.inl O,.inl O,.inl O,G⟩ O O) ?_
 refine JLg (.agg [G0 0,G0 1,BL false,G0 2,G0 0,G0 0,G0 0,G0 0,E1 ([]:List Int),G0 0,G0 0,G0 0]) (J4 (cs:=[G0 0,G0 1,BL false,G0 2,G0 0,G0 0,G0 0,G0 0,E1 ([]:List Int),G0 0,G0 0,G0 0]) [(0,1),(1,1),(2,1),(3,1),(4,1),(5,1),(6,1),(7,1),(8,1),(9,1),(10,1),(11,1)] [G0 0,G0 0,BL false,G0 0,G0 0,G0 0,G0 0,G0 0,E1 ([]:List Int),G0 0,G0 0,G0 0] [.int .i64 0,.int .i64 0,.bool false,.int .i64 0,.int .i64 0,.int .i64 0,.int .i64 0,.int .i64 0,.slice none 0 0,.int .i64 0,.int .i64 0,.int .i64 0] Y6 Yj ⟨.inl O,.inl O,.inl O,.inl O,.inl O,.inl O,.inl O,.inl O,.inr ⟨_,O,O⟩,.inl O,.inl O,.inl O,G⟩ O O) ?_
 refine JLg (.agg [G0 0,G0 0,BL true,G0 3,G0 0,G0 0,G0 0,G0 0,E1 ([]:List Int),G0 0,G0 0,G0 0]) (J4 (cs:=[G0 0,G0 0,BL true,G0 3,G0 0,G0 0,G0 0,G0 0,E1 ([]:List Int),G0 0,G0 0,G0 0]) [(0,1),(1,1),(2,1),(3,1),(4,1),(5,1),(6,1),(7,1),(8,1),(9,1),(10,1),(11,1)] [G0 0,G0 0,BL false,G0 0,G0 0,G0 0,G0 0,G0 0,E1 ([]:List Int),G0 0,G0 0,G0 0] [.int .i64 0,.int .i64 0,.bool false,.int .i64 0,.int .i64 0,.int .i64 0,.int .i64 0,.int .i64 0,.slice none 0 0,.int .i64 0,.int .i64 0,.int .i64 0] Y6 Yj ⟨.inl O,.inl O,.inl O,.inl O,.inl O,.inl O,.inl O,.inl O,.inr ⟨_,O,O⟩,.inl O,.inl O,.inl O,G⟩ O O) ?_
 refine JLg (.agg [G0 0,G0 1,BL true,G0 3,G0 0,G0 0,G0 0,G0 0,E1 ([]:List Int),G0 0,G0 0,G0 0]) (J4 (cs:=[G0 0,G0 1,BL true,G0 3,G0 0,G0 0,G0 0,G0 0,E1 ([]:List Int),G0 0,G0 0,G0 0]) [(0,1),(1,1),(2,1),(3,1),(4,1),(5,1),(6,1),(7,1),(8,1),(9,1),(10,1),(11,1)] [G0 0,G0 0,BL false,G0 0,G0 0,G0 0,G0 0,G0 0,E1 ([]:List Int),G0 0,G0 0,G0 0] [.int .i64 0,.int .i64 0,.bool false,.int .i64 0,.int .i64 0,.int .i64 0,.int .i64 0,.int .i64 0,.slice none 0 0,.int .i64 0,.int .i64 0,.int .i64 0] Y6 Yj ⟨.inl O,.inl O,.inl O,.inl O,.inl O,.inl O,.inl O,.inl O,.inr ⟨_,O,O⟩,.inl O,.inl O,.inl O,G⟩ O O) ?_
 refine JLg (.agg [G0 1,G0 1,BL true,G0 4,G0 0,G0 0,G0 0,G0 0,E1 ([]:List Int),G0 0,G0 0,G0 0]) (J4 (cs:=[G0 1,G0 1,BL true,G0 4,G0 0,G0 0,G0 0,G0 0,E1 ([]:List Int),G0 0,G0 0,G0 0]) [(0,1),(1,1),(2,1),(3,1),(4,1),(5,1),(6,1),(7,1),(8,1),(9,1),(10,1),(11,1)] [G0 0,G0 0,BL false,G0 0,G0 0,G0 0,G0 0,G0 0,E1 ([]:List Int),G0 0,G0 0,G0 0] [.int .i64 0,.int .i64 0,.bool false,.int .i64 0,.int .i64 0,.int .i64 0,.int .i64 0,.int .i64 0,.slice none 0 0,.int .i64 0,.int .i64 0,.int .i64 0] Y6 Yj ⟨.inl O,.inl O,.inl O,.inl O,.inl O,.inl O,.inl O,.inl O,.inr ⟨_,O,O⟩,.inl O,.inl O,.inl O,G⟩ O O) ?_
 refine JLg (E4 ([(G5.mk 0 0 false 2 0 0 0 0 [] 0 0 0),(G5.mk 0 1 false 2 0 0 0 0 [] 0 0 0),(G5.mk 0 0 true 3 0 0 0 0 [] 0 0 0),(G5.mk 0 1 true 3 0 0 0 0 [] 0 0 0),(G5.mk 1 1 true 4 0 0 0 0 [] 0 0 0)])) (Hd (xs:=[.agg [G0 0,G0 0,BL false,G0 2,G0 0,G0 0,G0 0,G0 0,E1 ([]:List Int),G0 0,G0 0,G0 0],.agg [G0 0,G0 1,BL false,G0 2,G0 0,G0 0,G0 0,G0 0,E1 ([]:List Int),G0 0,G0 0,G0 0],.agg [G0 0,G0 0,BL true,G0 3,G0 0,G0 0,G0 0,G0 0,E1 ([]:List Int),G0 0,G0 0,G0 0],.agg [G0 0,G0 1,BL true,G0 3,G0 0,G0 0,G0 0,G0 0,E1 ([]:List Int),G0 0,G0 0,G0 0],.agg [G0 1,G0 1,BL true,G0 4,G0 0,G0 0,G0 0,G0 0,E1 ([]:List Int),G0 0,G0 0,G0 0]]) O ⟨O,O,O,O,O,O,O,O,O,O,G⟩ J7 Rn O O O O) ?_
 refine JLg (E1 [0,1]) (Hd (xs:=[G0 0,G0 1]) O ⟨O,O,O,O,G⟩ Gy Rh O O O O) ?_
 refine JLg (.agg [G0 0,E1 [0,1]]) (J4 (cs:=[G0 0,E1 [0,1]]) [(0,1),(1,1)] [G0 0,E1 ([]:List Int)] [.int .i64 0,.slice none 0 0] tf_places_74 tf_zero_74 ⟨.inl O,.inr ⟨_,O,O⟩,G⟩ O O) ?_
 refine JLg (E6 ([(Ga.mk 0 [0,1])])) (Hd (xs:=[.agg [G0 0,E1 [0,1]]]) O ⟨O,O,G⟩ Qq tf_zsize_74 O O O O) ?_
 refine JLg (.agg [E4 ([(G5.mk 0 0 false 2 0 0 0 0 [] 0 0 0),(G5.mk 0 1 false 2 0 0 0 0 [] 0 0 0),(G5.mk 0 0 true 3 0 0 0 0 [] 0 0 0),(G5.mk 0 1 true 3 0 0 0 0 [] 0 0 0),(G5.mk 1 1 true 4 0 0 0 0 [] 0 0 0)]),E6 ([(Ga.mk 0 [0,1])]),G0 0,G0 0,G0 0,G0 0,E7 ([]:List Row),E8 ([]:List Frame),E9 ([]:List Gq),G0 0,G0 0,G0 0,G0 0]) (J4 (cs:=[E4 ([(G5.mk 0 0 false 2 0 0 0 0 [] 0 0 0),(G5.mk 0 1 false 2 0 0 0 0 [] 0 0 0),(G5.mk 0 0 true 3 0 0 0 0 [] 0 0 0),(G5.mk 0 1 true 3 0 0 0 0 [] 0 0 0),(G5.mk 1 1 true 4 0 0 0 0 [] 0 0 0)]),E6 ([(Ga.mk 0 [0,1])]),G0 0,G0 0,G0 0,G0 0,E7 ([]:List Row),E8 ([]:List Frame),E9 ([]:List Gq),G0 0,G0 0,G0 0,G0 0]) [(0,1),(1,1),(2,4),(6,1),(7,1),(8,1),(9,4)] [E4 ([]:List G5),E6 ([]:List Ga),G0 0,G0 0,G0 0,G0 0,E7 ([]:List Row),E8 ([]:List Frame),E9 ([]:List Gq),G0 0,G0 0,G0 0,G0 0] [.slice none 0 0,.slice none 0 0,.int .i64 0,.int .i64 0,.int .i64 0,.int .i64 0,.slice none 0 0,.slice none 0 0,.slice none 0 0,.int .i64 0,.int .i64 0,.int .i64 0,.int .i64 0] tf_places_35 tf_zero_35 ⟨.inr ⟨_,O,O⟩,.inr ⟨_,O,O⟩,.inl O,.inl O,.inl O,.inl O,.inr ⟨_,O,O⟩,.inr ⟨_,O,O⟩,.inr ⟨_,O,O⟩,.inl O,.inl O,.inl O,.inl O,G⟩ O O) ?_
 refine Hj (u:=.junk) (H2 (u:=.agg [E4 ([(G5.mk 0 0 false 2 0 0 0 0 [] 0 0 0),(G5.mk 0 1 false 2 0 0 0 0 [] 0 0 0),(G5.mk 0 0 true 3 0 0 0 0 [] 0 0 0),(G5.mk 0 1 true 3 0 0 0 0 [] 0 0 0),(G5.mk 1 1 true 4 0 0 0 0 [] 0 0 0)]),E6 ([(Ga.mk 0 [0,1])]),G0 0,G0 0,G0 0,G0 0,E7 ([]:List Row),E8 ([]:List Frame),E9 ([]:List Gq),G0 0,G0 0,G0 0,G0 0]) (ds:=[E4 ([(G5.mk 0 0 false 2 0 0 0 0 [] 0 0 0),(G5.mk 0 1 false 2 0 0 0 0 [] 0 0 0),(G5.mk 0 0 true 3 0 0 0 0 [] 0 0 0),(G5.mk 0 1 true 3 0 0 0 0 [] 0 0 0),(G5.mk 1 1 true 4 0 0 0 0 [] 0 0 0)]),E6 ([(Ga.mk 0 [0,1])]),G0 0,G0 0,G0 0,G0 0,E7 ([]:List Row),E8 ([]:List Frame),E9 ([]:List Gq),G0 0,G0 0,G0 0,G0 0]) tf_size_35 O O O O O O O O) ?_
 refine G8 (hK2 _ _ ?_)
 refine Gu ?_
 exact⟨[.agg [E4 ([(G5.mk 0 0 false 2 0 0 0 0 [] 0 0 0),(G5.mk 0 1 false 2 0 0 0 0 [] 0 0 0),(G5.mk 0 0 true 3 0 0 0 0 [] 0 0 0),(G5.mk 0 1 true 3 0 0 0 0 [] 0 0 0),(G5.mk 1 1 true 4 0 0 0 0 [] 0 0 0)]),E6 ([(Ga.mk 0 [0,1])]),G0 0,G0 0,G0 0,G0 0,E7 ([]:List Row),E8 ([]:List Frame),E9 ([]:List Gq),G0 0,G0 0,G0 0,G0 0]],[],G,O,⟨⟨_,⟨_,_,_,_,O,O,O,.inl ⟨J0,O⟩⟩,.conv (.same O)⟩,G⟩,O,congrArg (fun r:Gz=>(.agg (Gz.cs r):AV)) (Option.some.inj h)⟩

def M_twistlocklaw30_at (box:Int) (column:Int) (tier:Int):Option G2:=
 some (G2.mk box (Slot.mk column tier 0))
theorem M_twistlocklaw30_at_w (box:Int) (column:Int) (tier:Int) (r:G2) (h:M_twistlocklaw30_at box column tier=some r):Pure Tryz.prog 21 [G0 box,G0 column,G0 tier] (·=.agg (G2.cs r)):=by
 unfold M_twistlocklaw30_at at h
 refine H9 [.cell 6 86] Tryz.func21 O O ?_
 refine G6 fun K1 hK1=>G3 ?_
 refine JLg (.ptr 1079 0) (Y1 1079 [G0 0,G0 0,G0 0,U8 0] [.int .i64 0,.int .i64 0,.int .i64 0,.int .u8 0] tf_zero_86 ⟨.inl O,.inl O,.inl O,.inl O,G⟩ O O) ?_
 refine G8 (hK1 _ _ ?_)
 refine G6 fun K2 hK2=>G3 ?_
 refine JLg (G0 box) (G7 O O) ?_
 refine JLg (G0 column) (G7 O O) ?_
 refine JLg (G0 tier) (G7 O O) ?_
 refine JLg (.agg [G0 column,G0 tier,U8 0]) (J4 (cs:=[G0 column,G0 tier,U8 0]) [(0,1),(1,1),(2,1)] [G0 0,G0 0,U8 0] [.int .i64 0,.int .i64 0,.int .u8 0] tf_places_57 tf_zero_57 ⟨.inl O,.inl O,.inl O,G⟩ O O) ?_
 refine JLg (.agg [G0 box,G0 column,G0 tier,U8 0]) (J4 (cs:=[G0 box,G0 column,G0 tier,U8 0]) [(0,1),(1,3)] [G0 0,G0 0,G0 0,U8 0] [.int .i64 0,.int .i64 0,.int .i64 0,.int .u8 0] tf_places_86 tf_zero_86 ⟨.inl O,.inl O,.inl O,.inl O,G⟩ O O) ?_
 refine Hj (u:=.junk) (H2 (u:=.agg [G0 box,G0 column,G0 tier,U8 0]) (ds:=[G0 box,G0 column,G0 tier,U8 0]) Jz O O O O O O O O) ?_
 refine G8 (hK2 _ _ ?_)
 refine Gu ?_
 exact⟨[.agg [G0 box,G0 column,G0 tier,U8 0]],[],G,O,⟨⟨_,⟨_,_,_,_,O,O,O,.inl ⟨Jf,O⟩⟩,.conv (.same O)⟩,G⟩,O,congrArg (fun r:G2=>(.agg (G2.cs r):AV)) (Option.some.inj h)⟩

def M_twistlockkit_SameMoves (a:List Move) (b:List Move):Option Bool:=
 bif decide ((a.length:Int)≠(b.length:Int)) then
 (some false)
 else
 (each (fun y24 i24 (s24:Unit) nx24=>
   Jy b (i24:Int) fun y29=>
   bif (!decide (y24=y29)) then
   (some false)
   else
   (nx24 ()))
  (fun(s24:Unit)=>
   some true) a 0 ())
theorem M_twistlockkit_SameMoves_w (a:List Move) (b:List Move) (r:Bool) (h:M_twistlockkit_SameMoves a b=some r):Pure Tryz.prog 54 [E3 a,E3 b] (·=BL r):=by
 unfold M_twistlockkit_SameMoves at h
 refine H9 [.tmp 4] Tryz.func54 O O ?_
 refine G6 fun K1 hK1=>G3 ?_
 refine JLg (BL false) (G9 O O) ?_
 refine G8 (hK1 _ _ ?_)
 refine G6 (fun K2 hK2=>?_)
 refine G6 fun K3 hK3=>G3 ?_
 refine JLg (E3 a) (G7 O O) ?_
 refine Hs (f:=Move.av) (xs:=a) Qi O O (fun hm7=>?_) O O O
 refine JLg (E3 b) (G7 O O) ?_
 refine Hs (f:=Move.av) (xs:=b) Qi O O (fun hm9=>?_) O O O
 refine JLg (BL (decide ((a.length:Int)≠(b.length:Int)))) (Yy O O O) ?_
 refine G8 (hK3 _ _ ?_)
 refine Gh O (fun hb=>?_) (fun hb=>?_)
 ·
  replace h:=Gv hb h
  refine G6 fun K4 hK4=>G3 ?_
  refine JLg (BL false) (G9 O O) ?_
  refine G8 (hK4 _ _ ?_)
  refine Gu ?_
  exact⟨[BL false],[],G,O,⟨⟨_,O,.conv (.same O)⟩,G⟩,O,congrArg (fun r:Bool=>(BL r:AV)) (Option.some.inj h)⟩
 ·
  replace h:=Hp hb h
  refine Gj ?_
  refine hK2 _ _ ?_
  refine G6 (fun K5 hK5=>?_)
  refine G6 fun K6 hK6=>G3 ?_
  refine JLg (G0 0) (G9 O O) ?_
  refine G8 (hK6 _ _ ?_)
  refine Gg ?_
  obtain⟨b24,kx24,hb24,hkx24,h⟩:=Hu h
  refine H7 (fun i24 (s24:Unit)=>each b24 kx24 (List.drop i24 a) i24 s24=some r) (fun i24 s24=>[(0,E3 a),(1,E3 b),(5,Em i24)]) (fun i24 s24=>[]) (fun i24=>a.length - i24) 0 () h ⟨⟨.same O,.same O,.same O,G⟩,G,O⟩ ?_
  clear h
  intro i24 s24 hi24 K24 e24
  refine G6 (fun K25 hK25=>?_)
  refine G6 fun K26 hK26=>G3 ?_
  refine JLg (Em i24) (G7 O O) ?_
  refine JLg (E3 a) (G7 O O) ?_
  refine Hs (f:=Move.av) (xs:=a) Qi O O (fun hm13=>?_) O O O
  refine JLg (BL (decide ((i24:Int) < (a.length:Int)))) (Hy O O O) ?_
  refine G8 (hK26 _ _ ?_)
  refine Gh O (fun hb=>?_) (fun hb=>?_)
  ·
   have hk24:=J9 hb
   obtain⟨y24,nx24,hy24,hn24,h⟩:=Hn hi24 hk24
   replace h:=app4 hb24 h
   refine Gj ?_
   refine hK25 _ _ ?_
   refine G6 (fun K27 hK27=>?_)
   refine Gg ?_
   refine G6 (fun K28 hK28=>?_)
   obtain⟨m30,y29,hm30,hy29,h⟩:=R3 h
   refine Qp [] [0,0,0,0,0,0,0,0,0] [0,0,0,0,0,0,0,0,0] [[]] Q5 (by kernel_rfl) rfl rfl ?_
   refine Gn (u:=E3 a) O O ⟨Gs (G7 O O) O,G⟩ ?_
   refine Gn (u:=Em i24) O O ⟨Gs (G7 O O) O,G⟩ ?_
   refine Gn (u:=Ej y24) O O ⟨Gs (H0 (f:=Move.av) (xs:=a) (y:=y24) O O O Qi hy24 O) O,G⟩ ?_
   refine Gn (u:=.agg (Move.cs y24)) O O ⟨Gs (Gi tf_agg_59 O O O) O,G⟩ ?_
   refine Gn (u:=E3 b) O O ⟨Gs (G7 O O) O,G⟩ ?_
   refine Gn (u:=Em i24) O O ⟨Gs (G7 O O) O,G⟩ ?_
   refine Gn (u:=Ej y29) O O ⟨Gs (H0 (f:=Move.av) (xs:=b) (y:=y29) O O O Qi hy29 hm30) O,G⟩ ?_
   refine Gn (u:=.agg (Move.cs y29)) O O ⟨Gs (Gi tf_agg_59 O O O) O,G⟩ ?_
   refine Gn (u:=BL (!decide (y24=y29))) O O ⟨Gs (A_neAgg (vs:=[.int .u8 y24.Kind,.int .i64 y24.Gp,.int .i64 y24.Slot.G5,.int .i64 y24.Slot.Tier,.int .u8 y24.Slot.Half,.int .i64 y24.Ga]) (us:=[.int .u8 y29.Kind,.int .i64 y29.Gp,.int .i64 y29.Slot.G5,.int .i64 y29.Slot.Tier,.int .u8 y29.Slot.Half,.int .i64 y29.Ga]) 4 O (tq_59 y24 y29) tf_aggof_59 tf_eqg_59 O O O) O,G⟩ ?_
   refine Ry ?_
   refine hK28 _ _ ?_
   refine Gh O (fun hb=>?_) (fun hb=>?_)
   ·
    replace h:=Gv hb h
    refine G6 fun K31 hK31=>G3 ?_
    refine JLg (BL false) (G9 O O) ?_
    refine G8 (hK31 _ _ ?_)
    refine Gu ?_
    exact⟨[BL false],[],G,O,⟨⟨_,O,.conv (.same O)⟩,G⟩,O,congrArg (fun r:Bool=>(BL r:AV)) (Option.some.inj h)⟩
   ·
    replace h:=Hp hb h
    refine Gj ?_
    refine hK27 _ _ ?_
    refine G3 ?_
    refine JLg (Em i24) (G7 O O) ?_
    refine JLg (G0 ((i24+1:Nat):Int)) (Ht (Hc hk24 hm13) O O O) ?_
    refine JLg (G0 ((i24+1:Nat):Int)) (G9 O O) ?_
    refine G8 ?_
    exact e24 _ _ (i24+1) () (app1 hn24 h) (by omega) ⟨⟨.same rfl,.same rfl,.same rfl,G⟩,G,rfl⟩
  ·
   have h:=app1 hkx24 (Ho hi24 (H3 hb))
   refine Hk ?_
   refine hK5 _ _ ?_
   refine G6 fun K32 hK32=>G3 ?_
   refine JLg (BL true) (G9 O O) ?_
   refine G8 (hK32 _ _ ?_)
   refine Gu ?_
   exact⟨[BL true],[],G,O,⟨⟨_,O,.conv (.same O)⟩,G⟩,O,congrArg (fun r:Bool=>(BL r:AV)) (Option.some.inj h)⟩

def M_twistlocklaw30_is (a:List Move) (b:List Move):Option Bool:=
 bnd (M_twistlockkit_SameMoves a b) fun r3=>
 some r3
theorem M_twistlocklaw30_is_w (a:List Move) (b:List Move) (r:Bool) (h:M_twistlocklaw30_is a b=some r):Pure Tryz.prog 23 [E3 a,E3 b] (·=BL r):=by
 unfold M_twistlocklaw30_is at h
 refine H9 [.tmp 4] Tryz.func23 O O ?_
 refine G6 fun K1 hK1=>G3 ?_
 refine JLg (BL false) (G9 O O) ?_
 refine G8 (hK1 _ _ ?_)
 refine G6 fun K2 hK2=>G3 ?_
 refine JLg (E3 a) (G7 O O) ?_
 refine JLg (E3 b) (G7 O O) ?_
 obtain⟨r3,hr3,h⟩:=Ge h
 refine JLg (BL r3) (H1 (args:=[E3 a,E3 b]) O (M_twistlockkit_SameMoves_w a b r3 hr3) tf_call_54 ⟨O,O,O,O,G⟩) ?_
 refine JLg (BL r3) (G9 O O) ?_
 refine G8 (hK2 _ _ ?_)
 refine Gu ?_
 exact⟨[BL r3],[],G,O,⟨⟨_,O,.conv (.same O)⟩,G⟩,O,congrArg (fun r:Bool=>(BL r:AV)) (Option.some.inj h)⟩

def M_twistlocklaw30_awake (F:Nat) :Option Bool:=
 bnd (M_twistlocklaw07_Example) fun r3=>
 bnd (M_twistlocklaw30_at 1 0 0) fun r6=>
 bnd (M_twistlocklaw30_at 2 3 0) fun r7=>
 bnd (M_moves_Call F r3 [(Gp.mk 1 ByteArray.empty 40 false 0 0 0 0 false),(Gp.mk 2 ByteArray.empty 40 false 0 0 0 0 false)] [r6,r7] [r7]) fun r9=>
 bnd (S_moves_Tasks F r3 r9.1) fun r11=>
 chk (r9.2+r11.2) fun v13=>
 bnd (bif decide (v13=0) then M_twistlocklaw30_is r9.1 [(Move.mk 2 2 r7.Slot 0),(Move.mk 1 0 (Slot.mk 0 0 0) 0),(Move.mk 2 1 r6.Slot 0),(Move.mk 4 0 (Slot.mk 0 0 0) 0),(Move.mk 3 2 r7.Slot 0)] else some default) fun r14=>
 bnd (bif ((decide (v13=0))&&r14) then M_moves_Lifts r9.1 else some default) fun r15=>
 bnd (bif ((((decide (v13=0))&&r14)&&(decide (r15=3)))&&(decide ((r11.1.length:Int)=2))) then Jy r11.1 0 some else some default) fun y16=>
 bnd (bif (((((decide (v13=0))&&r14)&&(decide (r15=3)))&&(decide ((r11.1.length:Int)=2)))&&(decide (y16=(H6.mk 0 1 2 1)))) then Jy r11.1 1 some else some default) fun y17=>
 some ((((((decide (v13=0))&&r14)&&(decide (r15=3)))&&(decide ((r11.1.length:Int)=2)))&&(decide (y16=(H6.mk 0 1 2 1))))&&(decide (y17=(H6.mk 0 2 1 1))))
theorem M_twistlocklaw30_awake_w (F:Nat)  (r:Bool) (h:M_twistlocklaw30_awake F =some r):Pure Tryz.prog 12 [] (·=BL r):=by
 unfold M_twistlocklaw30_awake at h
 refine H9 [.tmp 0] Tryz.func12 O O ?_
 refine G6 fun K1 hK1=>G3 ?_
 refine JLg (BL false) (G9 O O) ?_
 refine G8 (hK1 _ _ ?_)
 refine G6 fun K2 hK2=>G3 ?_
 obtain⟨r3,hr3,h⟩:=Ge h
 refine JLg (.agg (Gz.cs r3)) (H1 (args:=[]) O (M_twistlocklaw07_Example_w  r3 hr3) tf_call_20 G) ?_
 refine JLg (.ptr 1036 0) (Hi 1036 13 tf_zsize_35 O O) ?_
 refine Hj (u:=.junk) (H2 (u:=.agg (Gz.cs r3)) (ds:=(Gz.cs r3)) tf_size_35 O O O O O O O O) ?_
 refine G8 (hK2 _ _ ?_)
 refine Gk [(1,Ee r3)] [] 1036 rfl rfl rfl G rfl (by exact⟨.ptr,G⟩) ?_
 refine G6 fun K4 hK4=>G3 ?_
 refine JLg (.agg [G0 1,ST ByteArray.empty,U8 40,BL false,G0 0,G0 0,G0 0,U8 0,BL false]) (J4 (cs:=[G0 1,ST ByteArray.empty,U8 40,BL false,G0 0,G0 0,G0 0,U8 0,BL false]) [(0,1),(1,1),(2,1),(3,1),(4,1),(5,1),(6,1),(7,1),(8,1)] [G0 0,ST ByteArray.empty,U8 0,BL false,G0 0,G0 0,G0 0,U8 0,BL false] [.int .i64 0,.string ByteArray.empty,.int .u8 0,.bool false,.int .i64 0,.int .i64 0,.int .i64 0,.int .u8 0,.bool false] Yv tf_zero_61 ⟨.inl O,.inl O,.inl O,.inl O,.inl O,.inl O,.inl O,.inl O,.inl O,G⟩ O O) ?_
 refine JLg (.agg [G0 2,ST ByteArray.empty,U8 40,BL false,G0 0,G0 0,G0 0,U8 0,BL false]) (J4 (cs:=[G0 2,ST ByteArray.empty,U8 40,BL false,G0 0,G0 0,G0 0,U8 0,BL false]) [(0,1),(1,1),(2,1),(3,1),(4,1),(5,1),(6,1),(7,1),(8,1)] [G0 0,ST ByteArray.empty,U8 0,BL false,G0 0,G0 0,G0 0,U8 0,BL false] [.int .i64 0,.string ByteArray.empty,.int .u8 0,.bool false,.int .i64 0,.int .i64 0,.int .i64 0,.int .u8 0,.bool false] Yv tf_zero_61 ⟨.inl O,.inl O,.inl O,.inl O,.inl O,.inl O,.inl O,.inl O,.inl O,G⟩ O O) ?_
 refine JLg (E2 [(Gp.mk 1 ByteArray.empty 40 false 0 0 0 0 false),(Gp.mk 2 ByteArray.empty 40 false 0 0 0 0 false)]) (Hd (xs:=[.agg [G0 1,ST ByteArray.empty,U8 40,BL false,G0 0,G0 0,G0 0,U8 0,BL false],.agg [G0 2,ST ByteArray.empty,U8 40,BL false,G0 0,G0 0,G0 0,U8 0,BL false]]) O ⟨O,O,O,O,G⟩ Jm R6 O O O O) ?_
 refine JLg (E2 [(Gp.mk 1 ByteArray.empty 40 false 0 0 0 0 false),(Gp.mk 2 ByteArray.empty 40 false 0 0 0 0 false)]) (G9 O O) ?_
 refine G8 (hK4 _ _ ?_)
 refine G6 fun K5 hK5=>G3 ?_
 obtain⟨r6,hr6,h⟩:=Ge h
 refine JLg (.agg (G2.cs r6)) (H1 (args:=[G0 1,G0 0,G0 0]) O (M_twistlocklaw30_at_w 1 0 0 r6 hr6) tf_call_21 ⟨O,O,O,O,O,O,G⟩) ?_
 obtain⟨r7,hr7,h⟩:=Ge h
 refine JLg (.agg (G2.cs r7)) (H1 (args:=[G0 2,G0 3,G0 0]) O (M_twistlocklaw30_at_w 2 3 0 r7 hr7) tf_call_21 ⟨O,O,O,O,O,O,G⟩) ?_
 refine JLg (.ptr 1037 0) (Hi 1037 4 Jb O O) ?_
 refine JLg (.ptr 1038 0) (Hi 1038 4 Jb O O) ?_
 refine Hj (u:=.junk) (H2 (u:=.agg (G2.cs r6)) (ds:=[G0 r6.Gp,G0 r6.Slot.G5,G0 r6.Slot.Tier,U8 r6.Slot.Half]) Jz O O O O O O O O) ?_
 refine Hj (u:=.junk) (H2 (u:=.agg (G2.cs r7)) (ds:=[G0 r7.Gp,G0 r7.Slot.G5,G0 r7.Slot.Tier,U8 r7.Slot.Half]) Jz O O O O O O O O) ?_
 refine G8 (hK5 _ _ ?_)
 refine Gk [(1,Ee r3),(2,E2 [(Gp.mk 1 ByteArray.empty 40 false 0 0 0 0 false),(Gp.mk 2 ByteArray.empty 40 false 0 0 0 0 false)]),(3,Ef r6),(4,.ptr 1038 0)] [(1038,.box 86 [G0 r7.Gp,G0 r7.Slot.G5,G0 r7.Slot.Tier,U8 r7.Slot.Half])] 1037 rfl rfl rfl ⟨⟨_,rfl,.boxEq rfl rfl⟩,G⟩ rfl (by repeat' (first | exact .ptr | constructor)) ?_
 refine Gk [(1,Ee r3),(2,E2 [(Gp.mk 1 ByteArray.empty 40 false 0 0 0 0 false),(Gp.mk 2 ByteArray.empty 40 false 0 0 0 0 false)]),(3,Ef r6),(4,Ef r7)] [] 1038 rfl rfl rfl G rfl (by repeat' (first | exact .ptr | constructor)) ?_
 refine G6 fun K8 hK8=>G3 ?_
 refine JLg (.agg (Gz.cs r3)) (Gi J0 O O O) ?_
 refine JLg (E2 [(Gp.mk 1 ByteArray.empty 40 false 0 0 0 0 false),(Gp.mk 2 ByteArray.empty 40 false 0 0 0 0 false)]) (G7 O O) ?_
 refine JLg (.agg (G2.cs r6)) (Gi Jf O O O) ?_
 refine JLg (.agg (G2.cs r7)) (Gi Jf O O O) ?_
 refine JLg (E0 [r6,r7]) (Hd (xs:=[.agg (G2.cs r6),.agg (G2.cs r7)]) O ⟨O,O,O,O,G⟩ Gx Jb O O O O) ?_
 refine JLg (.agg (G2.cs r7)) (Gi Jf O O O) ?_
 refine JLg (E0 [r7]) (Hd (xs:=[.agg (G2.cs r7)]) O ⟨O,O,G⟩ Gx Jb O O O O) ?_
 obtain⟨r9,hr9,h⟩:=Ge h
 refine JLg (.tup [E3 r9.1,G0 r9.2]) (H1 (args:=[.agg (Gz.cs r3),E2 [(Gp.mk 1 ByteArray.empty 40 false 0 0 0 0 false),(Gp.mk 2 ByteArray.empty 40 false 0 0 0 0 false)],E0 [r6,r7],E0 [r7]]) O (M_moves_Call_w F r3 [(Gp.mk 1 ByteArray.empty 40 false 0 0 0 0 false),(Gp.mk 2 ByteArray.empty 40 false 0 0 0 0 false)] [r6,r7] [r7] r9 hr9) tf_call_16 ⟨O,O,O,O,O,O,O,O,G⟩) ?_
 refine JLg (.tup [E3 r9.1,G0 r9.2]) (G7 O O) ?_
 refine JLg (E3 r9.1) (Hq O O O) ?_
 refine JLg (G0 r9.2) (Hq O O O) ?_
 refine JLg (E3 r9.1) (G9 O O) ?_
 refine JLg (G0 r9.2) (G9 O O) ?_
 refine G8 (hK8 _ _ ?_)
 refine G6 fun K10 hK10=>G3 ?_
 refine JLg (.agg (Gz.cs r3)) (Gi J0 O O O) ?_
 refine JLg (E3 r9.1) (G7 O O) ?_
 obtain⟨r11,hr11,h⟩:=Ge h
 refine JLg (.tup [Eb r11.1,G0 r11.2]) (H1 (args:=[.agg (Gz.cs r3),E3 r9.1]) O (S_moves_Tasks_w.down F r3 r9.1 r11 hr11) tf_call_22 ⟨O,O,O,O,G⟩) ?_
 refine JLg (.tup [Eb r11.1,G0 r11.2]) (G7 O O) ?_
 refine JLg (Eb r11.1) (Hq O O O) ?_
 refine JLg (G0 r11.2) (Hq O O O) ?_
 refine JLg (Eb r11.1) (G9 O O) ?_
 refine JLg (G0 r11.2) (G9 O O) ?_
 refine G8 (hK10 _ _ ?_)
 refine G6 fun K12 hK12=>G3 ?_
 refine JLg (G0 r9.2) (G7 O O) ?_
 refine JLg (G0 r11.2) (G7 O O) ?_
 obtain⟨v13,hv13,h⟩:=Hm h
 refine JLg (G0 v13) (Ht hv13 O O O) ?_
 refine JLg (BL (decide (v13=0))) (Qb O O O) ?_
 refine JLg (BL (decide (v13=0))) (G7 O O) ?_
 refine Gd (u:=E3 r9.1) [] O O O .sct G (fun hc=>G7 O O) ?_
 refine Gd (u:=Eg r7.Slot) [] O O O .sct G (fun hc=>Gc J1 O O O) ?_
 refine Gd (u:=.agg (Slot.cs r7.Slot)) [(38,Eg r7.Slot)] O O O .sct ⟨.all id,G⟩ (fun hc=>Gi Jp O O O) ?_
 refine Gd (u:=.agg [U8 2,G0 2,G0 r7.Slot.G5,G0 r7.Slot.Tier,U8 r7.Slot.Half,G0 0]) [(39,.agg (Slot.cs r7.Slot))] O O O .sct ⟨.all id,G⟩ (fun hc=>J4 (cs:=[U8 2,G0 2,G0 r7.Slot.G5,G0 r7.Slot.Tier,U8 r7.Slot.Half,G0 0]) [(0,1),(1,1),(2,3),(5,1)] [U8 0,G0 0,G0 0,G0 0,U8 0,G0 0] [.int .u8 0,.int .i64 0,.int .i64 0,.int .i64 0,.int .u8 0,.int .i64 0] Y7 Yk ⟨.inl O,.inl O,.inl O,.inl O,.inl O,.inl O,G⟩ O O) ?_
 refine Gd (u:=.agg [U8 1,G0 0,G0 0,G0 0,U8 0,G0 0]) [] O O O .sct G (fun hc=>J4 (cs:=[U8 1,G0 0,G0 0,G0 0,U8 0,G0 0]) [(0,1),(1,1),(2,3),(5,1)] [U8 0,G0 0,G0 0,G0 0,U8 0,G0 0] [.int .u8 0,.int .i64 0,.int .i64 0,.int .i64 0,.int .u8 0,.int .i64 0] Y7 Yk ⟨.inl O,.inl O,.inl O,.inl O,.inl O,.inl O,G⟩ O O) ?_
 refine Gd (u:=Eg r6.Slot) [] O O O .sct G (fun hc=>Gc J1 O O O) ?_
 refine Gd (u:=.agg (Slot.cs r6.Slot)) [(42,Eg r6.Slot)] O O O .sct ⟨.all id,G⟩ (fun hc=>Gi Jp O O O) ?_
 refine Gd (u:=.agg [U8 2,G0 1,G0 r6.Slot.G5,G0 r6.Slot.Tier,U8 r6.Slot.Half,G0 0]) [(43,.agg (Slot.cs r6.Slot))] O O O .sct ⟨.all id,G⟩ (fun hc=>J4 (cs:=[U8 2,G0 1,G0 r6.Slot.G5,G0 r6.Slot.Tier,U8 r6.Slot.Half,G0 0]) [(0,1),(1,1),(2,3),(5,1)] [U8 0,G0 0,G0 0,G0 0,U8 0,G0 0] [.int .u8 0,.int .i64 0,.int .i64 0,.int .i64 0,.int .u8 0,.int .i64 0] Y7 Yk ⟨.inl O,.inl O,.inl O,.inl O,.inl O,.inl O,G⟩ O O) ?_
 refine Gd (u:=.agg [U8 4,G0 0,G0 0,G0 0,U8 0,G0 0]) [] O O O .sct G (fun hc=>J4 (cs:=[U8 4,G0 0,G0 0,G0 0,U8 0,G0 0]) [(0,1),(1,1),(2,3),(5,1)] [U8 0,G0 0,G0 0,G0 0,U8 0,G0 0] [.int .u8 0,.int .i64 0,.int .i64 0,.int .i64 0,.int .u8 0,.int .i64 0] Y7 Yk ⟨.inl O,.inl O,.inl O,.inl O,.inl O,.inl O,G⟩ O O) ?_
 refine Gd (u:=Eg r7.Slot) [] O O O .sct G (fun hc=>Gc J1 O O O) ?_
 refine Gd (u:=.agg (Slot.cs r7.Slot)) [(46,Eg r7.Slot)] O O O .sct ⟨.all id,G⟩ (fun hc=>Gi Jp O O O) ?_
 refine Gd (u:=.agg [U8 3,G0 2,G0 r7.Slot.G5,G0 r7.Slot.Tier,U8 r7.Slot.Half,G0 0]) [(47,.agg (Slot.cs r7.Slot))] O O O .sct ⟨.all id,G⟩ (fun hc=>J4 (cs:=[U8 3,G0 2,G0 r7.Slot.G5,G0 r7.Slot.Tier,U8 r7.Slot.Half,G0 0]) [(0,1),(1,1),(2,3),(5,1)] [U8 0,G0 0,G0 0,G0 0,U8 0,G0 0] [.int .u8 0,.int .i64 0,.int .i64 0,.int .i64 0,.int .u8 0,.int .i64 0] Y7 Yk ⟨.inl O,.inl O,.inl O,.inl O,.inl O,.inl O,G⟩ O O) ?_
 refine Gd (u:=E3 [(Move.mk 2 2 r7.Slot 0),(Move.mk 1 0 (Slot.mk 0 0 0) 0),(Move.mk 2 1 r6.Slot 0),(Move.mk 4 0 (Slot.mk 0 0 0) 0),(Move.mk 3 2 r7.Slot 0)]) [(40,.agg [U8 2,G0 2,G0 r7.Slot.G5,G0 r7.Slot.Tier,U8 r7.Slot.Half,G0 0]),(41,.agg [U8 1,G0 0,G0 0,G0 0,U8 0,G0 0]),(44,.agg [U8 2,G0 1,G0 r6.Slot.G5,G0 r6.Slot.Tier,U8 r6.Slot.Half,G0 0]),(45,.agg [U8 4,G0 0,G0 0,G0 0,U8 0,G0 0]),(48,.agg [U8 3,G0 2,G0 r7.Slot.G5,G0 r7.Slot.Tier,U8 r7.Slot.Half,G0 0])] O O O .sct ⟨.all id,.all id,.all id,.all id,.all id,G⟩ (fun hc=>Hd (xs:=[.agg [U8 2,G0 2,G0 r7.Slot.G5,G0 r7.Slot.Tier,U8 r7.Slot.Half,G0 0],.agg [U8 1,G0 0,G0 0,G0 0,U8 0,G0 0],.agg [U8 2,G0 1,G0 r6.Slot.G5,G0 r6.Slot.Tier,U8 r6.Slot.Half,G0 0],.agg [U8 4,G0 0,G0 0,G0 0,U8 0,G0 0],.agg [U8 3,G0 2,G0 r7.Slot.G5,G0 r7.Slot.Tier,U8 r7.Slot.Half,G0 0]]) O ⟨O,O,O,O,O,O,O,O,O,O,G⟩ Qi Yr O O O O) ?_
 obtain⟨r14,hr14,h⟩:=Ge h
 refine Gd (u:=BL r14) [(37,E3 r9.1),(49,E3 [(Move.mk 2 2 r7.Slot 0),(Move.mk 1 0 (Slot.mk 0 0 0) 0),(Move.mk 2 1 r6.Slot 0),(Move.mk 4 0 (Slot.mk 0 0 0) 0),(Move.mk 3 2 r7.Slot 0)])] O O O .sct ⟨.all id,.all id,G⟩ (fun hc=>H1 (args:=[E3 r9.1,E3 [(Move.mk 2 2 r7.Slot 0),(Move.mk 1 0 (Slot.mk 0 0 0) 0),(Move.mk 2 1 r6.Slot 0),(Move.mk 4 0 (Slot.mk 0 0 0) 0),(Move.mk 3 2 r7.Slot 0)]]) O (M_twistlocklaw30_is_w r9.1 [(Move.mk 2 2 r7.Slot 0),(Move.mk 1 0 (Slot.mk 0 0 0) 0),(Move.mk 2 1 r6.Slot 0),(Move.mk 4 0 (Slot.mk 0 0 0) 0),(Move.mk 3 2 r7.Slot 0)] r14 (Gv hc hr14)) tf_call_23 ⟨O,O,O,O,G⟩) ?_
 refine JLg (BL ((decide (v13=0))&&r14)) (Qr O O O O) ?_
 refine JLg (BL ((decide (v13=0))&&r14)) (G7 O O) ?_
 refine Gd (u:=E3 r9.1) [] O O O .sct G (fun hc=>G7 O O) ?_
 obtain⟨r15,hr15,h⟩:=Ge h
 refine Gd (u:=G0 r15) [(53,E3 r9.1)] O O O .sct ⟨.all id,G⟩ (fun hc=>H1 (args:=[E3 r9.1]) O (M_moves_Lifts_w r9.1 r15 (Gv hc hr15)) tf_call_11 ⟨O,O,G⟩) ?_
 refine Gd (u:=BL (decide (r15=3))) [(54,G0 r15)] O O O .sct ⟨.all id,G⟩ (fun hc=>Qb O O O) ?_
 refine JLg (BL (((decide (v13=0))&&r14)&&(decide (r15=3)))) (Qr O O O O) ?_
 refine JLg (BL (((decide (v13=0))&&r14)&&(decide (r15=3)))) (G7 O O) ?_
 refine Gd (u:=Eb r11.1) [] O O O .sct G (fun hc=>G7 O O) ?_
 refine Gd (u:=Em r11.1.length) [(58,Eb r11.1)] O O O .sct ⟨.all id,G⟩ (fun hc=>Yz (f:=H6.av) (xs:=r11.1) R7 O O) ?_
 refine Gd (u:=BL (decide ((r11.1.length:Int)=2))) [(59,Em r11.1.length)] O O O .sct ⟨.all id,G⟩ (fun hc=>Qb O O O) ?_
 refine JLg (BL ((((decide (v13=0))&&r14)&&(decide (r15=3)))&&(decide ((r11.1.length:Int)=2)))) (Qr O O O O) ?_
 refine JLg (BL ((((decide (v13=0))&&r14)&&(decide (r15=3)))&&(decide ((r11.1.length:Int)=2)))) (G7 O O) ?_
 refine Gd (u:=Eb r11.1) [] O O O .sct G (fun hc=>G7 O O) ?_
 obtain⟨y16,hy16,h⟩:=Ge h
 refine Gd (u:=Ek y16) [(63,Eb r11.1)] O O O .sct ⟨.all id,G⟩ (fun hc=>(match Rv (Gv hc hy16) with | ⟨_,hm_,hy_⟩=>H0 (f:=H6.av) (xs:=r11.1) (y:=y16) O O O R7 hy_ hm_)) ?_
 refine Gd (u:=.agg (H6.cs y16)) [(64,Ek y16)] O O O .sct ⟨.all id,G⟩ (fun hc=>Gi Yt O O O) ?_
 refine Gd (u:=.agg [G0 0,G0 1,G0 2,G0 1]) [] O O O .sct G (fun hc=>J4 (cs:=[G0 0,G0 1,G0 2,G0 1]) [(0,1),(1,1),(2,1),(3,1)] [G0 0,G0 0,G0 0,G0 0] [.int .i64 0,.int .i64 0,.int .i64 0,.int .i64 0] tf_places_94 tf_zero_94 ⟨.inl O,.inl O,.inl O,.inl O,G⟩ O O) ?_
 refine Gd (u:=BL (decide (y16=(H6.mk 0 1 2 1)))) [(65,.agg (H6.cs y16)),(66,.agg [G0 0,G0 1,G0 2,G0 1])] O O O .sct ⟨.all id,.all id,G⟩ (fun hc=>A_eqAgg (vs:=[.int .i64 y16.Bay,.int .i64 y16.Phase,.int .i64 y16.Lifts,.int .i64 y16.Covers]) (us:=[.int .i64 0,.int .i64 1,.int .i64 2,.int .i64 1]) 4 O (tq_94 y16 (H6.mk 0 1 2 1)) tf_aggof_94 tf_eqg_94 O O O) ?_
 refine JLg (BL (((((decide (v13=0))&&r14)&&(decide (r15=3)))&&(decide ((r11.1.length:Int)=2)))&&(decide (y16=(H6.mk 0 1 2 1))))) (Qr O O O O) ?_
 refine JLg (BL (((((decide (v13=0))&&r14)&&(decide (r15=3)))&&(decide ((r11.1.length:Int)=2)))&&(decide (y16=(H6.mk 0 1 2 1))))) (G7 O O) ?_
 refine Gd (u:=Eb r11.1) [] O O O .sct G (fun hc=>G7 O O) ?_
 obtain⟨y17,hy17,h⟩:=Ge h
 refine Gd (u:=Ek y17) [(70,Eb r11.1)] O O O .sct ⟨.all id,G⟩ (fun hc=>(match Rv (Gv hc hy17) with | ⟨_,hm_,hy_⟩=>H0 (f:=H6.av) (xs:=r11.1) (y:=y17) O O O R7 hy_ hm_)) ?_
 refine Gd (u:=.agg (H6.cs y17)) [(71,Ek y17)] O O O .sct ⟨.all id,G⟩ (fun hc=>Gi Yt O O O) ?_
 refine Gd (u:=.agg [G0 0,G0 2,G0 1,G0 1]) [] O O O .sct G (fun hc=>J4 (cs:=[G0 0,G0 2,G0 1,G0 1]) [(0,1),(1,1),(2,1),(3,1)] [G0 0,G0 0,G0 0,G0 0] [.int .i64 0,.int .i64 0,.int .i64 0,.int .i64 0] tf_places_94 tf_zero_94 ⟨.inl O,.inl O,.inl O,.inl O,G⟩ O O) ?_
 refine Gd (u:=BL (decide (y17=(H6.mk 0 2 1 1)))) [(72,.agg (H6.cs y17)),(73,.agg [G0 0,G0 2,G0 1,G0 1])] O O O .sct ⟨.all id,.all id,G⟩ (fun hc=>A_eqAgg (vs:=[.int .i64 y17.Bay,.int .i64 y17.Phase,.int .i64 y17.Lifts,.int .i64 y17.Covers]) (us:=[.int .i64 0,.int .i64 2,.int .i64 1,.int .i64 1]) 4 O (tq_94 y17 (H6.mk 0 2 1 1)) tf_aggof_94 tf_eqg_94 O O O) ?_
 refine JLg (BL ((((((decide (v13=0))&&r14)&&(decide (r15=3)))&&(decide ((r11.1.length:Int)=2)))&&(decide (y16=(H6.mk 0 1 2 1))))&&(decide (y17=(H6.mk 0 2 1 1))))) (Qr O O O O) ?_
 refine JLg (BL ((((((decide (v13=0))&&r14)&&(decide (r15=3)))&&(decide ((r11.1.length:Int)=2)))&&(decide (y16=(H6.mk 0 1 2 1))))&&(decide (y17=(H6.mk 0 2 1 1))))) (G9 O O) ?_
 refine G8 (hK12 _ _ ?_)
 refine Gu ?_
 exact⟨[BL ((((((decide (v13=0))&&r14)&&(decide (r15=3)))&&(decide ((r11.1.length:Int)=2)))&&(decide (y16=(H6.mk 0 1 2 1))))&&(decide (y17=(H6.mk 0 2 1 1))))],[],G,O,⟨⟨_,O,.conv (.same O)⟩,G⟩,O,congrArg (fun r:Bool=>(BL r:AV)) (Option.some.inj h)⟩

def M_twistlocklaw30_MovesOnce (F:Nat) (l:List Hr) (covers:Int) (items:List Hh) (n:Int):Option Bool:=
 bnd (M_twistlocklaw07_Built l covers) fun r3=>
 chk (n) fun v4=>
 bnd (rem64 v4 5) fun v5=>
 chk (2+v5) fun v6=>
 bnd (M_twistlocklaw23_Voyage F r3 items v6 8) fun r8=>
 bnd (M_moves_Voyage F r3 r8.1 v6 r8.2) fun r10=>
 bnd (M_plan_Count F r3 r8.1 v6 r8.2) fun r12=>
 chk (r10.2+r12.2) fun v15=>
 bif (((decide (v15≠0))||(decide ((r10.1.length:Int)≠v6)))||(decide ((r8.2.States.length:Int)≠v6))) then
 (some false)
 else
 (each (fun y21 i21 (s21:Int×(List G2)) nx21=>
   Jy r8.2.States (i21:Int) fun y27=>
   bnd (Qh F r3 r8.1 s21.2 y27) fun r29=>
   each (fun y105 i105 (s105:(Gr Int Int)×(Gr Int Int)×(Gr Int Int)×(Gr Int Int)) nx105=>
    jp (fun kj108=>
     bif decide (y105.Kind=2) then
     (bnd (some (Gr.get s105.1 y105.Gp 0)) fun v112=>
      chk (v112+1) fun v113=>
      kj108 ((Gr.put s105.1 y105.Gp v113),s105.2.1,s105.2.2.1,s105.2.2.2))
     else
     (bif decide (y105.Kind=3) then
      (bnd (some (Gr.get s105.2.1 y105.Gp 0)) fun v115=>
       chk (v115+1) fun v116=>
       kj108 (s105.1,(Gr.put s105.2.1 y105.Gp v116),s105.2.2.1,s105.2.2.2))
      else
      (bif decide (y105.Kind=1) then
       (bnd (some (Gr.get s105.2.2.1 y105.Ga 0)) fun v118=>
        chk (v118+1) fun v119=>
        kj108 (s105.1,s105.2.1,(Gr.put s105.2.2.1 y105.Ga v119),s105.2.2.2))
       else
       (bif decide (y105.Kind=4) then
        (bnd (some (Gr.get s105.2.2.2 y105.Ga 0)) fun v121=>
         chk (v121+1) fun v122=>
         kj108 (s105.1,s105.2.1,s105.2.2.1,(Gr.put s105.2.2.2 y105.Ga v122)))
        else
        (kj108 (s105.1,s105.2.1,s105.2.2.1,s105.2.2.2)))))) fun(j108:(Gr Int Int)×(Gr Int Int)×(Gr Int Int)×(Gr Int Int))=>
    nx105 (j108.1,j108.2.1,j108.2.2.1,j108.2.2.2))
   (fun(s105:(Gr Int Int)×(Gr Int Int)×(Gr Int Int)×(Gr Int Int))=>
    bif decide (r29.2≠0) then
    (some false)
    else
    (each (fun y128 i128 (s128:Unit) nx128=>
      each (fun y148 i148 (s148:Int) nx148=>
       jp (fun kj151=>
        bif decide (y148=y128.ID) then
        (kj151 1)
        else
        (kj151 s148)) fun(j151:Int)=>
       nx148 j151)
      (fun(s148:Int)=>
       bnd (some (Gr.get s105.1 y128.ID 0)) fun v155=>
       bnd (M_twistlocklaw30_count s21.2 y128.ID) fun r156=>
       chk (s148*r156) fun v157=>
       bnd (bif (!(decide (v155≠v157))) then some (Gr.get s105.2.1 y128.ID 0) else some 0) fun v158=>
       bnd (bif (!(decide (v155≠v157))) then Jy r8.2.States (i21:Int) some else some default) fun y159=>
       bnd (bif (!(decide (v155≠v157))) then M_twistlocklaw30_count y159 y128.ID else some default) fun r160=>
       bnd (bif (!(decide (v155≠v157))) then chk (s148*r160) some else some 0) fun v161=>
       bif ((decide (v155≠v157))||(decide (v158≠v161))) then
       (some false)
       else
       (nx128 ())) r29.1 0 0)
     (fun(s128:Unit)=>
      each (fun y187 i187 (s187:Unit) nx187=>
       bnd (some (Gr.get s105.2.2.1 (i187:Int) 0)) fun v193=>
       bnd (bif (!(decide (1 < v193))) then some (Gr.get s105.2.2.1 (i187:Int) 0) else some 0) fun v194=>
       bnd (bif (!(decide (1 < v193))) then some (Gr.get s105.2.2.2 (i187:Int) 0) else some 0) fun v195=>
       bnd (bif (!((decide (1 < v193))||(decide (v194≠v195)))) then some (Gr.get s105.2.2.1 (i187:Int) 0) else some 0) fun v196=>
       bnd (bif ((!((decide (1 < v193))||(decide (v194≠v195))))&&(decide (v196=1))) then Jy r8.2.States (i21:Int) some else some default) fun y197=>
       bnd (bif ((!((decide (1 < v193))||(decide (v194≠v195))))&&(decide (v196=1))) then M_twistlocklaw30_under r3 s21.2 y197 r29.1 (i187:Int) else some default) fun r198=>
       bif (((decide (1 < v193))||(decide (v194≠v195)))||((decide (v196=1))&&(!r198))) then
       (some false)
       else
       (nx187 ()))
      (fun(s187:Unit)=>
       bnd (M_moves_Lifts y21) fun r201=>
       chk (s21.1+r201) fun v202=>
       Jy r8.2.States (i21:Int) fun y203=>
       nx21 (v202,y203)) r3.Covers 0 ()) r8.1 0 ())) y21 0 ((Gr.empty:Gr Int Int),(Gr.empty:Gr Int Int),(Gr.empty:Gr Int Int),(Gr.empty:Gr Int Int)))
  (fun(s21:Int×(List G2))=>
   chk (2*(r8.1.length:Int)) fun v206=>
   chk (2*r12.1) fun v207=>
   chk (v206+v207) fun v208=>
   bnd (bif decide (s21.1=v208) then M_twistlocklaw30_awake F else some default) fun r209=>
   some ((decide (s21.1=v208))&&r209)) r10.1 0 (0,[]))
theorem M_twistlocklaw30_MovesOnce_w (F:Nat) (l:List Hr) (covers:Int) (items:List Hh) (n:Int) (r:Bool) (h:M_twistlocklaw30_MovesOnce F l covers items n=some r):Pure Tryz.prog 3 [Ed l,.sc (.int .u32 covers),Ec items,U8 n] (·=BL r):=by
 unfold M_twistlocklaw30_MovesOnce at h
 refine H9 [.tmp 8] Tryz.func3 O O ?_
 refine G6 fun K1 hK1=>G3 ?_
 refine JLg (BL false) (G9 O O) ?_
 refine G8 (hK1 _ _ ?_)
 refine G6 fun K2 hK2=>G3 ?_
 refine JLg (Ed l) (G7 O O) ?_
 refine JLg (.sc (.int .u32 covers)) (G7 O O) ?_
 obtain⟨r3,hr3,h⟩:=Ge h
 refine JLg (.agg (Gz.cs r3)) (H1 (args:=[Ed l,.sc (.int .u32 covers)]) O (M_twistlocklaw07_Built_w l covers r3 hr3) tf_call_4 ⟨O,O,O,O,G⟩) ?_
 refine JLg (U8 n) (G7 O O) ?_
 obtain⟨v4,hv4,h⟩:=Hm h
 refine JLg (G0 v4) (Yb Rs Rx hv4 O O) ?_
 obtain⟨v5,hv5,h⟩:=Ge h
 refine JLg (G0 v5) (A_rem (rem64_out hv5).1 (rem64_out hv5).2 O O O) ?_
 obtain⟨v6,hv6,h⟩:=Hm h
 refine JLg (G0 v6) (Ht hv6 O O O) ?_
 refine JLg (.ptr 1001 0) (Hi 1001 13 tf_zsize_35 O O) ?_
 refine Hj (u:=.junk) (H2 (u:=.agg (Gz.cs r3)) (ds:=(Gz.cs r3)) tf_size_35 O O O O O O O O) ?_
 refine JLg (G0 v6) (G9 O O) ?_
 refine G8 (hK2 _ _ ?_)
 refine Gk [(2,Ec items),(9,Ee r3),(10,G0 v6)] [] 1001 rfl rfl rfl G rfl (by exact⟨.conv (.same rfl),.ptr,.conv (.same rfl),G⟩) ?_
 refine G6 fun K7 hK7=>G3 ?_
 refine JLg (.agg (Gz.cs r3)) (Gi J0 O O O) ?_
 refine JLg (Ec items) (G7 O O) ?_
 refine JLg (G0 v6) (G7 O O) ?_
 obtain⟨r8,hr8,h⟩:=Ge h
 refine JLg (.tup [E2 r8.1,.agg [LS 1 (E0) r8.2.States,LS 1 (E1) r8.2.Water]]) (H1 (args:=[.agg (Gz.cs r3),Ec items,G0 v6,G0 8]) O (M_twistlocklaw23_Voyage_w F r3 items v6 8 r8 hr8) tf_call_5 ⟨O,O,O,O,O,O,O,O,G⟩) ?_
 refine JLg (.tup [E2 r8.1,.agg [LS 1 (E0) r8.2.States,LS 1 (E1) r8.2.Water]]) (G7 O O) ?_
 refine JLg (E2 r8.1) (Hq O O O) ?_
 refine JLg (.agg [LS 1 (E0) r8.2.States,LS 1 (E1) r8.2.Water]) (Hq O O O) ?_
 refine JLg (.ptr 1002 0) (Hi 1002 2 tf_zsize_41 O O) ?_
 refine JLg (E2 r8.1) (G9 O O) ?_
 refine Hj (u:=.junk) (H2 (u:=.agg [LS 1 (E0) r8.2.States,LS 1 (E1) r8.2.Water]) (ds:=[LS 1 (E0) r8.2.States,LS 1 (E1) r8.2.Water]) tf_size_41 O O O O O O O O) ?_
 refine G8 (hK7 _ _ ?_)
 refine Gk [(9,Ee r3),(10,G0 v6),(11,E2 r8.1),(12,.dptr [LS 1 (E0) r8.2.States,LS 1 (E1) r8.2.Water])] [] 1002 rfl rfl rfl G rfl (by repeat' (first | exact .ptr | constructor)) ?_
 refine G6 fun K9 hK9=>G3 ?_
 refine JLg (.agg (Gz.cs r3)) (Gi J0 O O O) ?_
 refine JLg (E2 r8.1) (G7 O O) ?_
 refine JLg (G0 v6) (G7 O O) ?_
 refine JLg (.agg [LS 1 (E0) r8.2.States,LS 1 (E1) r8.2.Water]) (Gi Ru O O O) ?_
 obtain⟨r10,hr10,h⟩:=Ge h
 refine JLg (.tup [LS 1 (E3) r10.1,G0 r10.2]) (H1 (args:=[.agg (Gz.cs r3),E2 r8.1,G0 v6,.agg [LS 1 (E0) r8.2.States,LS 1 (E1) r8.2.Water]]) O (M_moves_Voyage_w F r3 r8.1 v6 r8.2 r10 hr10) tf_call_6 ⟨O,O,O,O,O,O,O,O,G⟩) ?_
 refine JLg (.tup [LS 1 (E3) r10.1,G0 r10.2]) (G7 O O) ?_
 refine JLg (LS 1 (E3) r10.1) (Hq O O O) ?_
 refine JLg (G0 r10.2) (Hq O O O) ?_
 refine JLg (LS 1 (E3) r10.1) (G9 O O) ?_
 refine JLg (G0 r10.2) (G9 O O) ?_
 refine G8 (hK9 _ _ ?_)
 refine G6 fun K11 hK11=>G3 ?_
 refine JLg (.agg (Gz.cs r3)) (Gi J0 O O O) ?_
 refine JLg (E2 r8.1) (G7 O O) ?_
 refine JLg (G0 v6) (G7 O O) ?_
 refine JLg (.agg [LS 1 (E0) r8.2.States,LS 1 (E1) r8.2.Water]) (Gi Ru O O O) ?_
 obtain⟨r12,hr12,h⟩:=Ge h
 refine JLg (.tup [G0 r12.1,G0 r12.2]) (H1 (args:=[.agg (Gz.cs r3),E2 r8.1,G0 v6,.agg [LS 1 (E0) r8.2.States,LS 1 (E1) r8.2.Water]]) O (M_plan_Count_w F r3 r8.1 v6 r8.2 r12 hr12) tf_call_7 ⟨O,O,O,O,O,O,O,O,G⟩) ?_
 refine JLg (.tup [G0 r12.1,G0 r12.2]) (G7 O O) ?_
 refine JLg (G0 r12.1) (Hq O O O) ?_
 refine JLg (G0 r12.2) (Hq O O O) ?_
 refine JLg (G0 r12.1) (G9 O O) ?_
 refine JLg (G0 r12.2) (G9 O O) ?_
 refine G8 (hK11 _ _ ?_)
 refine G6 (fun K13 hK13=>?_)
 refine G6 fun K14 hK14=>G3 ?_
 refine JLg (G0 r10.2) (G7 O O) ?_
 refine JLg (G0 r12.2) (G7 O O) ?_
 obtain⟨v15,hv15,h⟩:=Hm h
 refine JLg (G0 v15) (Ht hv15 O O O) ?_
 refine JLg (BL (decide (v15≠0))) (Yy O O O) ?_
 refine JLg (BL (decide (v15≠0))) (G7 O O) ?_
 refine Gd (u:=LS 1 (E3) r10.1) [] O O O .scf G (fun hc=>G7 O O) ?_
 refine Gd (u:=Em r10.1.length) [(70,LS 1 (E3) r10.1)] O O O .scf ⟨.all id,G⟩ (fun hc=>Yz (f:=(E3)) (xs:=r10.1) tf_slice_44 O O) ?_
 refine Gd (u:=G0 v6) [] O O O .scf G (fun hc=>G7 O O) ?_
 refine Gd (u:=BL (decide ((r10.1.length:Int)≠v6))) [(71,Em r10.1.length),(72,G0 v6)] O O O .scf ⟨.all id,.all id,G⟩ (fun hc=>Yy O O O) ?_
 refine JLg (BL ((decide (v15≠0))||(decide ((r10.1.length:Int)≠v6)))) (Y4 O O O O) ?_
 refine JLg (BL ((decide (v15≠0))||(decide ((r10.1.length:Int)≠v6)))) (G7 O O) ?_
 refine Gd (u:=.dptr [LS 1 (E0) r8.2.States,LS 1 (E1) r8.2.Water]) [] O O O .scf G (fun hc=>Gc Qy O O O) ?_
 refine Gd (u:=LS 1 (E0) r8.2.States) [(76,.dptr [LS 1 (E0) r8.2.States,LS 1 (E1) r8.2.Water])] O O O .scf ⟨.all id,G⟩ (fun hc=>Gf Qk O O O) ?_
 refine Gd (u:=Em r8.2.States.length) [(77,LS 1 (E0) r8.2.States)] O O O .scf ⟨.all id,G⟩ (fun hc=>Yz (f:=(E0)) (xs:=r8.2.States) Ja O O) ?_
 refine Gd (u:=G0 v6) [] O O O .scf G (fun hc=>G7 O O) ?_
 refine Gd (u:=BL (decide ((r8.2.States.length:Int)≠v6))) [(78,Em r8.2.States.length),(79,G0 v6)] O O O .scf ⟨.all id,.all id,G⟩ (fun hc=>Yy O O O) ?_
 refine JLg (BL (((decide (v15≠0))||(decide ((r10.1.length:Int)≠v6)))||(decide ((r8.2.States.length:Int)≠v6)))) (Y4 O O O O) ?_
 refine G8 (hK14 _ _ ?_)
 refine Gh O (fun hb=>?_) (fun hb=>?_)
 ·
  replace h:=Gv hb h
  refine G6 fun K16 hK16=>G3 ?_
  refine JLg (BL false) (G9 O O) ?_
  refine G8 (hK16 _ _ ?_)
  refine Gu ?_
  exact⟨[BL false],[],G,O,⟨⟨_,O,.conv (.same O)⟩,G⟩,O,congrArg (fun r:Bool=>(BL r:AV)) (Option.some.inj h)⟩
 ·
  replace h:=Hp hb h
  refine Gj ?_
  refine hK13 _ _ ?_
  refine G6 fun K17 hK17=>G3 ?_
  refine JLg (G0 0) (G9 O O) ?_
  refine G8 (hK17 _ _ ?_)
  refine G6 fun K18 hK18=>G3 ?_
  refine JLg (E0 ([]:List G2)) (Jj 4 O O) ?_
  refine G8 (hK18 _ _ ?_)
  refine G6 (fun K19 hK19=>?_)
  refine G6 fun K20 hK20=>G3 ?_
  refine JLg (LS 1 (E3) r10.1) (G7 O O) ?_
  refine Hs (f:=(E3)) (xs:=r10.1) tf_slice_44 O O (fun hm83=>?_) O O O
  refine JLg (G0 0) (G7 O O) ?_
  refine G8 (hK20 _ _ ?_)
  refine Gg ?_
  obtain⟨b21,kx21,hb21,hkx21,h⟩:=Hu h
  refine H7 (fun i21 (s21:Int×(List G2))=>each b21 kx21 (List.drop i21 r10.1) i21 s21=some r) (fun i21 s21=>[(9,Ee r3),(11,E2 r8.1),(12,.dptr [LS 1 (E0) r8.2.States,LS 1 (E1) r8.2.Water]),(15,G0 r12.1),(17,G0 s21.1),(18,E0 s21.2),(82,LS 1 (E3) r10.1),(83,Em r10.1.length),(84,Em i21)]) (fun i21 s21=>[]) (fun i21=>r10.1.length - i21) 0 (0,[]) h ⟨(by repeat' constructor),G,rfl⟩ ?_
  clear h
  intro i21 s21 hi21 K21 e21
  refine G6 fun K22 hK22=>G3 ?_
  refine JLg (BL (decide ((i21:Int) < (r10.1.length:Int)))) (Hy O O O) ?_
  refine G8 (hK22 _ _ ?_)
  refine G6 (fun K23 hK23=>?_)
  refine Gh O (fun hb=>?_) (fun hb=>?_)
  ·
   have hk21:=J9 hb
   obtain⟨y21,nx21,hy21,hn21,h⟩:=Hn hi21 hk21
   replace h:=app4 hb21 h
   refine Gj ?_
   refine hK23 _ _ ?_
   refine G6 (fun K24 hK24=>?_)
   refine Gg ?_
   refine G6 fun K25 hK25=>G3 ?_
   refine JLg (Em i21) (G7 O O) ?_
   refine JLg (.dptr [E3 y21]) (H0 (f:=(E3)) (xs:=r10.1) (y:=y21) O O O tf_slice_44 hy21 O) ?_
   refine JLg (E3 y21) (Gf tf_scalar_51 O O O) ?_
   refine JLg (Em i21) (G9 O O) ?_
   refine JLg (E3 y21) (G9 O O) ?_
   refine G8 (hK25 _ _ ?_)
   refine G6 (fun K26 hK26=>?_)
   obtain⟨m28,y27,hm28,hy27,h⟩:=R3 h
   obtain⟨r29,hr29,h⟩:=Ge h
   refine Qp [] [0,0,0,0,0,0,0,0,0,0,0,0,0,0] [0,0,0,0,0,0,0,0,0,0,0,0,0,0] [[]] Q5 (by kernel_rfl) rfl rfl ?_
   refine Gn (u:=.agg (Gz.cs r3)) O O ⟨Gs (Gi J0 O O O) O,G⟩ ?_
   refine Gn (u:=E2 r8.1) O O ⟨Gs (G7 O O) O,G⟩ ?_
   refine Gn (u:=E0 s21.2) O O ⟨Gs (G7 O O) O,G⟩ ?_
   refine Gn (u:=.dptr [LS 1 (E0) r8.2.States,LS 1 (E1) r8.2.Water]) O O ⟨Gs (Gc Qy O O O) O,G⟩ ?_
   refine Gn (u:=LS 1 (E0) r8.2.States) O O ⟨Gs (Gf Qk O O O) O,G⟩ ?_
   refine Gn (u:=Em i21) O O ⟨Gs (G7 O O) O,G⟩ ?_
   refine Gn (u:=.dptr [E0 y27]) O O ⟨Gs (H0 (f:=(E0)) (xs:=r8.2.States) (y:=y27) O O O Ja hy27 hm28) O,G⟩ ?_
   refine Gn (u:=E0 y27) O O ⟨Gs (Gf Qc O O O) O,G⟩ ?_
   refine Gn (u:=.tup [E1 r29.1,G0 r29.2]) O O ⟨Gs (H1 (args:=[.agg (Gz.cs r3),E2 r8.1,E0 s21.2,E0 y27]) O (M_plan_Lifted_w F r3 r8.1 s21.2 y27 r29 hr29) tf_call_8 ⟨O,O,O,O,O,O,O,O,G⟩) O,G⟩ ?_
   refine Gn (u:=.tup [E1 r29.1,G0 r29.2]) O O ⟨Gs (G7 O O) O,G⟩ ?_
   refine Gn (u:=E1 r29.1) O O ⟨Gs (Hq O O O) O,G⟩ ?_
   refine Gn (u:=G0 r29.2) O O ⟨Gs (Hq O O O) O,G⟩ ?_
   refine Gn (u:=E1 r29.1) O O ⟨Gs (G9 O O) O,G⟩ ?_
   refine Gn (u:=G0 r29.2) O O ⟨Gs (G9 O O) O,G⟩ ?_
   refine Ry ?_
   refine hK26 _ _ ?_
   refine G6 fun K30 hK30=>G3 ?_
   refine JLg (.mp 1005) (Rt 1005 (fun n:Int=>Value.int .i64 n) G0 O O) ?_
   refine JLg (.mp 1006) (Rt 1006 (fun n:Int=>Value.int .i64 n) G0 O O) ?_
   refine JLg (.mp 1007) (Rt 1007 (fun n:Int=>Value.int .i64 n) G0 O O) ?_
   refine JLg (.mp 1008) (Rt 1008 (fun n:Int=>Value.int .i64 n) G0 O O) ?_
   refine JLg (.mp 1005) (G9 O O) ?_
   refine JLg (.mp 1006) (G9 O O) ?_
   refine JLg (.mp 1007) (G9 O O) ?_
   refine JLg (.mp 1008) (G9 O O) ?_
   refine G8 (hK30 _ _ ?_)
   refine G6 (fun K31 hK31=>?_)
   refine G6 fun K32 hK32=>G3 ?_
   refine JLg (E3 y21) (G7 O O) ?_
   refine Hs (f:=Move.av) (xs:=y21) Qi O O (fun hm106=>?_) O O O
   refine JLg (G0 0) (G7 O O) ?_
   refine G8 (hK32 _ _ ?_)
   refine Gg ?_
   obtain⟨b105,kx105,hb105,hkx105,h⟩:=Hu h
   refine H7 (fun i105 (s105:(Gr Int Int)×(Gr Int Int)×(Gr Int Int)×(Gr Int Int))=>each b105 kx105 (List.drop i105 y21) i105 s105=some r) (fun i105 s105=>[(9,Ee r3),(11,E2 r8.1),(12,.dptr [LS 1 (E0) r8.2.States,LS 1 (E1) r8.2.Water]),(15,G0 r12.1),(17,G0 s21.1),(18,E0 s21.2),(19,Em i21),(20,E3 y21),(21,E1 r29.1),(22,G0 r29.2),(23,.mp 1005),(24,.mp 1006),(25,.mp 1007),(26,.mp 1008),(82,LS 1 (E3) r10.1),(83,Em r10.1.length),(84,Em i21),(105,E3 y21),(106,Em y21.length),(107,Em i105)]) (fun i105 s105=>[(1005,MP 55 (fun n:Int=>Value.int .i64 n) G0 s105.1),(1006,MP 55 (fun n:Int=>Value.int .i64 n) G0 s105.2.1),(1007,MP 55 (fun n:Int=>Value.int .i64 n) G0 s105.2.2.1),(1008,MP 55 (fun n:Int=>Value.int .i64 n) G0 s105.2.2.2)]) (fun i105=>y21.length - i105) 0 ((Gr.empty:Gr Int Int),(Gr.empty:Gr Int Int),(Gr.empty:Gr Int Int),(Gr.empty:Gr Int Int)) h ⟨(by repeat' constructor),⟨⟨_,rfl,.map⟩,⟨_,rfl,.map⟩,⟨_,rfl,.map⟩,⟨_,rfl,.map⟩,G⟩,rfl⟩ ?_
   clear h
   intro i105 s105 hi105 K105 e105
   refine G6 fun K106 hK106=>G3 ?_
   refine JLg (BL (decide ((i105:Int) < (y21.length:Int)))) (Hy O O O) ?_
   refine G8 (hK106 _ _ ?_)
   refine G6 (fun K107 hK107=>?_)
   refine Gh O (fun hb=>?_) (fun hb=>?_)
   ·
    have hk105:=J9 hb
    obtain⟨y105,nx105,hy105,hn105,h⟩:=Hn hi105 hk105
    replace h:=app4 hb105 h
    refine Gj ?_
    refine hK107 _ _ ?_
    obtain⟨kj108,hkj108,h⟩:=Qd h
    refine Jq (fun j108:(Gr Int Int)×(Gr Int Int)×(Gr Int Int)×(Gr Int Int)=>kj108 j108=some r) (fun j108=>[(9,Ee r3),(11,E2 r8.1),(12,.dptr [LS 1 (E0) r8.2.States,LS 1 (E1) r8.2.Water]),(15,G0 r12.1),(17,G0 s21.1),(18,E0 s21.2),(19,Em i21),(20,E3 y21),(21,E1 r29.1),(22,G0 r29.2),(23,.mp 1005),(24,.mp 1006),(25,.mp 1007),(26,.mp 1008),(82,LS 1 (E3) r10.1),(83,Em r10.1.length),(84,Em i21),(105,E3 y21),(106,Em y21.length),(107,Em i105)]) (fun j108=>[(1005,MP 55 (fun n:Int=>Value.int .i64 n) G0 j108.1),(1006,MP 55 (fun n:Int=>Value.int .i64 n) G0 j108.2.1),(1007,MP 55 (fun n:Int=>Value.int .i64 n) G0 j108.2.2.1),(1008,MP 55 (fun n:Int=>Value.int .i64 n) G0 j108.2.2.2)]) (fun Kj108 ej108=>?_) ?_
    ·
     refine Gg ?_
     refine G6 fun K109 hK109=>G3 ?_
     refine JLg (Ej y105) (H0 (f:=Move.av) (xs:=y21) (y:=y105) O O O Qi hy105 O) ?_
     refine JLg (.agg (Move.cs y105)) (Gi tf_agg_59 O O O) ?_
     refine JLg (.ptr 1003 0) (Hi 1003 6 Yr O O) ?_
     refine Hj (u:=.junk) (H2 (u:=.agg (Move.cs y105)) (ds:=[U8 y105.Kind,G0 y105.Gp,G0 y105.Slot.G5,G0 y105.Slot.Tier,U8 y105.Slot.Half,G0 y105.Ga]) tf_size_59 O O O O O O O O) ?_
     refine G8 (hK109 _ _ ?_)
     refine Gk [(9,Ee r3),(11,E2 r8.1),(12,.dptr [LS 1 (E0) r8.2.States,LS 1 (E1) r8.2.Water]),(15,G0 r12.1),(17,G0 s21.1),(18,E0 s21.2),(19,Em i21),(20,E3 y21),(21,E1 r29.1),(22,G0 r29.2),(23,.mp 1005),(24,.mp 1006),(25,.mp 1007),(26,.mp 1008),(28,Ej y105),(82,LS 1 (E3) r10.1),(83,Em r10.1.length),(84,Em i21),(105,E3 y21),(106,Em y21.length),(107,Em i105)] [(1005,MP 55 (fun n:Int=>Value.int .i64 n) G0 s105.1),(1006,MP 55 (fun n:Int=>Value.int .i64 n) G0 s105.2.1),(1007,MP 55 (fun n:Int=>Value.int .i64 n) G0 s105.2.2.1),(1008,MP 55 (fun n:Int=>Value.int .i64 n) G0 s105.2.2.2)] 1003 rfl rfl rfl ⟨⟨_,rfl,.map⟩,⟨_,rfl,.map⟩,⟨_,rfl,.map⟩,⟨_,rfl,.map⟩,G⟩ rfl (by repeat' (first | exact .ptr | constructor)) ?_
     refine G6 fun K110 hK110=>G3 ?_
     refine JLg (Ej y105) (Gc Ro O O O) ?_
     refine JLg (U8 y105.Kind) (Gf Hx O O O) ?_
     refine G8 (hK110 _ _ ?_)
     refine Gg ?_
     refine G6 fun K111 hK111=>G3 ?_
     refine JLg (BL (decide (y105.Kind=2))) (Qb O O O) ?_
     refine JLg (BL (decide (y105.Kind=2))) (G9 O O) ?_
     refine G8 (hK111 _ _ ?_)
     refine Gh O (fun hb=>?_) (fun hb=>?_)
     ·
      replace h:=Gv hb h
      refine G3 ?_
      refine JLg (.mp 1005) (G7 O O) ?_
      refine JLg (.dptr ((Move.cs y105).drop 1)) (Gc tf_field_59_1 O O O) ?_
      refine JLg (G0 y105.Gp) (Gf Gb O O O) ?_
      obtain⟨v112,hv112,h⟩:=Ge h
      refine JLg (G0 v112) (((Option.some.inj hv112) ▸ Qv (av:=G0) (m:=s105.1) (a:=y105.Gp) 0 (.int .i64 0) O O O O tk_3 R5 Rw O)) ?_
      obtain⟨v113,hv113,h⟩:=Hm h
      refine JLg (G0 v113) (Ht hv113 O O O) ?_
      refine Hj (u:=.junk) (Y0 (m:=s105.1) (a:=y105.Gp) (v:=v113) O O O O O O tk_3 R5) ?_
      refine G8 ?_
      exact ej108 _ _ ((Gr.put s105.1 y105.Gp v113),s105.2.1,s105.2.2.1,s105.2.2.2) h ⟨(by repeat' constructor),⟨⟨_,rfl,.map⟩,⟨_,rfl,.map⟩,⟨_,rfl,.map⟩,⟨_,rfl,.map⟩,G⟩,rfl⟩
     ·
      replace h:=Hp hb h
      refine G6 fun K114 hK114=>G3 ?_
      refine JLg (BL (decide (y105.Kind=3))) (Qb O O O) ?_
      refine JLg (BL (decide (y105.Kind=3))) (G9 O O) ?_
      refine G8 (hK114 _ _ ?_)
      refine Gh O (fun hb=>?_) (fun hb=>?_)
      ·
       replace h:=Gv hb h
       refine G3 ?_
       refine JLg (.mp 1006) (G7 O O) ?_
       refine JLg (.dptr ((Move.cs y105).drop 1)) (Gc tf_field_59_1 O O O) ?_
       refine JLg (G0 y105.Gp) (Gf Gb O O O) ?_
       obtain⟨v115,hv115,h⟩:=Ge h
       refine JLg (G0 v115) (((Option.some.inj hv115) ▸ Qv (av:=G0) (m:=s105.2.1) (a:=y105.Gp) 0 (.int .i64 0) O O O O tk_3 R5 Rw O)) ?_
       obtain⟨v116,hv116,h⟩:=Hm h
       refine JLg (G0 v116) (Ht hv116 O O O) ?_
       refine Hj (u:=.junk) (Y0 (m:=s105.2.1) (a:=y105.Gp) (v:=v116) O O O O O O tk_3 R5) ?_
       refine G8 ?_
       exact ej108 _ _ (s105.1,(Gr.put s105.2.1 y105.Gp v116),s105.2.2.1,s105.2.2.2) h ⟨(by repeat' constructor),⟨⟨_,rfl,.map⟩,⟨_,rfl,.map⟩,⟨_,rfl,.map⟩,⟨_,rfl,.map⟩,G⟩,rfl⟩
      ·
       replace h:=Hp hb h
       refine G6 fun K117 hK117=>G3 ?_
       refine JLg (BL (decide (y105.Kind=1))) (Qb O O O) ?_
       refine JLg (BL (decide (y105.Kind=1))) (G9 O O) ?_
       refine G8 (hK117 _ _ ?_)
       refine Gh O (fun hb=>?_) (fun hb=>?_)
       ·
        replace h:=Gv hb h
        refine G3 ?_
        refine JLg (.mp 1007) (G7 O O) ?_
        refine JLg (.dptr [G0 y105.Ga]) (Gc Yh O O O) ?_
        refine JLg (G0 y105.Ga) (Gf Gb O O O) ?_
        obtain⟨v118,hv118,h⟩:=Ge h
        refine JLg (G0 v118) (((Option.some.inj hv118) ▸ Qv (av:=G0) (m:=s105.2.2.1) (a:=y105.Ga) 0 (.int .i64 0) O O O O tk_3 R5 Rw O)) ?_
        obtain⟨v119,hv119,h⟩:=Hm h
        refine JLg (G0 v119) (Ht hv119 O O O) ?_
        refine Hj (u:=.junk) (Y0 (m:=s105.2.2.1) (a:=y105.Ga) (v:=v119) O O O O O O tk_3 R5) ?_
        refine G8 ?_
        exact ej108 _ _ (s105.1,s105.2.1,(Gr.put s105.2.2.1 y105.Ga v119),s105.2.2.2) h ⟨(by repeat' constructor),⟨⟨_,rfl,.map⟩,⟨_,rfl,.map⟩,⟨_,rfl,.map⟩,⟨_,rfl,.map⟩,G⟩,rfl⟩
       ·
        replace h:=Hp hb h
        refine G6 fun K120 hK120=>G3 ?_
        refine JLg (BL (decide (y105.Kind=4))) (Qb O O O) ?_
        refine JLg (BL (decide (y105.Kind=4))) (G9 O O) ?_
        refine G8 (hK120 _ _ ?_)
        refine Gh O (fun hb=>?_) (fun hb=>?_)
        ·
         replace h:=Gv hb h
         refine G3 ?_
         refine JLg (.mp 1008) (G7 O O) ?_
         refine JLg (.dptr [G0 y105.Ga]) (Gc Yh O O O) ?_
         refine JLg (G0 y105.Ga) (Gf Gb O O O) ?_
         obtain⟨v121,hv121,h⟩:=Ge h
         refine JLg (G0 v121) (((Option.some.inj hv121) ▸ Qv (av:=G0) (m:=s105.2.2.2) (a:=y105.Ga) 0 (.int .i64 0) O O O O tk_3 R5 Rw O)) ?_
         obtain⟨v122,hv122,h⟩:=Hm h
         refine JLg (G0 v122) (Ht hv122 O O O) ?_
         refine Hj (u:=.junk) (Y0 (m:=s105.2.2.2) (a:=y105.Ga) (v:=v122) O O O O O O tk_3 R5) ?_
         refine G8 ?_
         exact ej108 _ _ (s105.1,s105.2.1,s105.2.2.1,(Gr.put s105.2.2.2 y105.Ga v122)) h ⟨(by repeat' constructor),⟨⟨_,rfl,.map⟩,⟨_,rfl,.map⟩,⟨_,rfl,.map⟩,⟨_,rfl,.map⟩,G⟩,rfl⟩
        ·
         replace h:=Hp hb h
         refine Gj ?_
         exact ej108 _ _ (s105.1,s105.2.1,s105.2.2.1,s105.2.2.2) h ⟨(by repeat' constructor),⟨⟨_,rfl,.map⟩,⟨_,rfl,.map⟩,⟨_,rfl,.map⟩,⟨_,rfl,.map⟩,G⟩,rfl⟩
    ·intro j108 h
     replace h:=app1 hkj108 h
     refine G3 ?_
     refine JLg (G0 ((i105+1:Nat):Int)) (Ht (Hc hk105 hm106) O O O) ?_
     refine JLg (G0 ((i105+1:Nat):Int)) (G7 O O) ?_
     refine G8 ?_
     exact e105 _ _ (i105+1) (j108.1,j108.2.1,j108.2.2.1,j108.2.2.2) (app1 hn105 h) (by omega) ⟨(by repeat' constructor),⟨⟨_,rfl,.map⟩,⟨_,rfl,.map⟩,⟨_,rfl,.map⟩,⟨_,rfl,.map⟩,G⟩,rfl⟩
   ·
    have h:=app1 hkx105 (Ho hi105 (H3 hb))
    refine Hk ?_
    refine hK31 _ _ ?_
    refine G6 (fun K123 hK123=>?_)
    refine G6 fun K124 hK124=>G3 ?_
    refine JLg (G0 r29.2) (G7 O O) ?_
    refine JLg (BL (decide (r29.2≠0))) (Yy O O O) ?_
    refine G8 (hK124 _ _ ?_)
    refine Gh O (fun hb=>?_) (fun hb=>?_)
    ·
     replace h:=Gv hb h
     refine G6 fun K125 hK125=>G3 ?_
     refine JLg (BL false) (G9 O O) ?_
     refine G8 (hK125 _ _ ?_)
     refine Gu ?_
     exact⟨[BL false],[],G,O,⟨⟨_,O,.conv (.same O)⟩,G⟩,O,congrArg (fun r:Bool=>(BL r:AV)) (Option.some.inj h)⟩
    ·
     replace h:=Hp hb h
     refine Gj ?_
     refine hK123 _ _ ?_
     refine G6 (fun K126 hK126=>?_)
     refine G6 fun K127 hK127=>G3 ?_
     refine JLg (E2 r8.1) (G7 O O) ?_
     refine Hs (f:=Gp.av) (xs:=r8.1) Jm O O (fun hm145=>?_) O O O
     refine JLg (G0 0) (G7 O O) ?_
     refine G8 (hK127 _ _ ?_)
     refine Gg ?_
     obtain⟨b128,kx128,hb128,hkx128,h⟩:=Hu h
     refine H7 (fun i128 (s128:Unit)=>each b128 kx128 (List.drop i128 r8.1) i128 s128=some r) (fun i128 s128=>[(9,Ee r3),(11,E2 r8.1),(12,.dptr [LS 1 (E0) r8.2.States,LS 1 (E1) r8.2.Water]),(15,G0 r12.1),(17,G0 s21.1),(18,E0 s21.2),(19,Em i21),(20,E3 y21),(21,E1 r29.1),(23,.mp 1005),(24,.mp 1006),(25,.mp 1007),(26,.mp 1008),(82,LS 1 (E3) r10.1),(83,Em r10.1.length),(84,Em i21),(144,E2 r8.1),(145,Em r8.1.length),(146,Em i128)]) (fun i128 s128=>[(1005,MP 55 (fun n:Int=>Value.int .i64 n) G0 s105.1),(1006,MP 55 (fun n:Int=>Value.int .i64 n) G0 s105.2.1),(1007,MP 55 (fun n:Int=>Value.int .i64 n) G0 s105.2.2.1),(1008,MP 55 (fun n:Int=>Value.int .i64 n) G0 s105.2.2.2)]) (fun i128=>r8.1.length - i128) 0 () h ⟨(by repeat' constructor),⟨⟨_,rfl,.map⟩,⟨_,rfl,.map⟩,⟨_,rfl,.map⟩,⟨_,rfl,.map⟩,G⟩,rfl⟩ ?_
     clear h
     intro i128 s128 hi128 K128 e128
     refine G6 fun K129 hK129=>G3 ?_
     refine JLg (BL (decide ((i128:Int) < (r8.1.length:Int)))) (Hy O O O) ?_
     refine G8 (hK129 _ _ ?_)
     refine G6 (fun K130 hK130=>?_)
     refine Gh O (fun hb=>?_) (fun hb=>?_)
     ·
      have hk128:=J9 hb
      obtain⟨y128,nx128,hy128,hn128,h⟩:=Hn hi128 hk128
      replace h:=app4 hb128 h
      refine Gj ?_
      refine hK130 _ _ ?_
      refine G6 (fun K131 hK131=>?_)
      refine Gg ?_
      refine G6 fun K132 hK132=>G3 ?_
      refine JLg (Eh y128) (H0 (f:=Gp.av) (xs:=r8.1) (y:=y128) O O O Jm hy128 O) ?_
      refine JLg (.agg (Gp.cs y128)) (Gi Rq O O O) ?_
      refine JLg (.ptr 1004 0) (Hi 1004 9 R6 O O) ?_
      refine Hj (u:=.junk) (H2 (u:=.agg (Gp.cs y128)) (ds:=(Gp.cs y128)) Rr O O O O O O O O) ?_
      refine G8 (hK132 _ _ ?_)
      refine Gk [(9,Ee r3),(11,E2 r8.1),(12,.dptr [LS 1 (E0) r8.2.States,LS 1 (E1) r8.2.Water]),(15,G0 r12.1),(17,G0 s21.1),(18,E0 s21.2),(19,Em i21),(20,E3 y21),(21,E1 r29.1),(23,.mp 1005),(24,.mp 1006),(25,.mp 1007),(26,.mp 1008),(30,Eh y128),(82,LS 1 (E3) r10.1),(83,Em r10.1.length),(84,Em i21),(144,E2 r8.1),(145,Em r8.1.length),(146,Em i128)] [(1005,MP 55 (fun n:Int=>Value.int .i64 n) G0 s105.1),(1006,MP 55 (fun n:Int=>Value.int .i64 n) G0 s105.2.1),(1007,MP 55 (fun n:Int=>Value.int .i64 n) G0 s105.2.2.1),(1008,MP 55 (fun n:Int=>Value.int .i64 n) G0 s105.2.2.2)] 1004 rfl rfl rfl ⟨⟨_,rfl,.map⟩,⟨_,rfl,.map⟩,⟨_,rfl,.map⟩,⟨_,rfl,.map⟩,G⟩ rfl (by repeat' (first | exact .ptr | constructor)) ?_
      refine G6 fun K133 hK133=>G3 ?_
      refine JLg (G0 0) (G9 O O) ?_
      refine G8 (hK133 _ _ ?_)
      refine G6 (fun K134 hK134=>?_)
      refine G6 fun K135 hK135=>G3 ?_
      refine JLg (E1 r29.1) (G7 O O) ?_
      refine Hs (f:=G0) (xs:=r29.1) Gy O O (fun hm151=>?_) O O O
      refine JLg (G0 0) (G7 O O) ?_
      refine G8 (hK135 _ _ ?_)
      refine Gg ?_
      obtain⟨b148,kx148,hb148,hkx148,h⟩:=Hu h
      refine H7 (fun i148 (s148:Int)=>each b148 kx148 (List.drop i148 r29.1) i148 s148=some r) (fun i148 s148=>[(9,Ee r3),(11,E2 r8.1),(12,.dptr [LS 1 (E0) r8.2.States,LS 1 (E1) r8.2.Water]),(15,G0 r12.1),(17,G0 s21.1),(18,E0 s21.2),(19,Em i21),(20,E3 y21),(21,E1 r29.1),(23,.mp 1005),(24,.mp 1006),(25,.mp 1007),(26,.mp 1008),(30,Eh y128),(31,G0 s148),(82,LS 1 (E3) r10.1),(83,Em r10.1.length),(84,Em i21),(144,E2 r8.1),(145,Em r8.1.length),(146,Em i128),(150,E1 r29.1),(151,Em r29.1.length),(152,Em i148)]) (fun i148 s148=>[(1005,MP 55 (fun n:Int=>Value.int .i64 n) G0 s105.1),(1006,MP 55 (fun n:Int=>Value.int .i64 n) G0 s105.2.1),(1007,MP 55 (fun n:Int=>Value.int .i64 n) G0 s105.2.2.1),(1008,MP 55 (fun n:Int=>Value.int .i64 n) G0 s105.2.2.2)]) (fun i148=>r29.1.length - i148) 0 0 h ⟨(by repeat' constructor),⟨⟨_,rfl,.map⟩,⟨_,rfl,.map⟩,⟨_,rfl,.map⟩,⟨_,rfl,.map⟩,G⟩,rfl⟩ ?_
      clear h
      intro i148 s148 hi148 K148 e148
      refine G6 fun K149 hK149=>G3 ?_
      refine JLg (BL (decide ((i148:Int) < (r29.1.length:Int)))) (Hy O O O) ?_
      refine G8 (hK149 _ _ ?_)
      refine G6 (fun K150 hK150=>?_)
      refine Gh O (fun hb=>?_) (fun hb=>?_)
      ·
       have hk148:=J9 hb
       obtain⟨y148,nx148,hy148,hn148,h⟩:=Hn hi148 hk148
       replace h:=app4 hb148 h
       refine Gj ?_
       refine hK150 _ _ ?_
       obtain⟨kj151,hkj151,h⟩:=Qd h
       refine Jq (fun j151:Int=>kj151 j151=some r) (fun j151=>[(9,Ee r3),(11,E2 r8.1),(12,.dptr [LS 1 (E0) r8.2.States,LS 1 (E1) r8.2.Water]),(15,G0 r12.1),(17,G0 s21.1),(18,E0 s21.2),(19,Em i21),(20,E3 y21),(21,E1 r29.1),(23,.mp 1005),(24,.mp 1006),(25,.mp 1007),(26,.mp 1008),(30,Eh y128),(31,G0 j151),(82,LS 1 (E3) r10.1),(83,Em r10.1.length),(84,Em i21),(144,E2 r8.1),(145,Em r8.1.length),(146,Em i128),(150,E1 r29.1),(151,Em r29.1.length),(152,Em i148)]) (fun j151=>[(1005,MP 55 (fun n:Int=>Value.int .i64 n) G0 s105.1),(1006,MP 55 (fun n:Int=>Value.int .i64 n) G0 s105.2.1),(1007,MP 55 (fun n:Int=>Value.int .i64 n) G0 s105.2.2.1),(1008,MP 55 (fun n:Int=>Value.int .i64 n) G0 s105.2.2.2)]) (fun Kj151 ej151=>?_) ?_
       ·
        refine Gg ?_
        refine G6 fun K152 hK152=>G3 ?_
        refine JLg (.dptr [G0 y148]) (H0 (f:=G0) (xs:=r29.1) (y:=y148) O O O Gy hy148 O) ?_
        refine JLg (G0 y148) (Gf Gb O O O) ?_
        refine JLg (G0 y148) (G9 O O) ?_
        refine G8 (hK152 _ _ ?_)
        refine G6 fun K153 hK153=>G3 ?_
        refine JLg (G0 y148) (G7 O O) ?_
        refine JLg (Eh y128) (Gc Ji O O O) ?_
        refine JLg (G0 y128.ID) (Gf Gb O O O) ?_
        refine JLg (BL (decide (y148=y128.ID))) (Qb O O O) ?_
        refine G8 (hK153 _ _ ?_)
        refine Gh O (fun hb=>?_) (fun hb=>?_)
        ·
         replace h:=Gv hb h
         refine G3 ?_
         refine JLg (G0 1) (G9 O O) ?_
         refine G8 ?_
         exact ej151 _ _ 1 h ⟨(by repeat' constructor),⟨⟨_,rfl,.map⟩,⟨_,rfl,.map⟩,⟨_,rfl,.map⟩,⟨_,rfl,.map⟩,G⟩,rfl⟩
        ·
         replace h:=Hp hb h
         refine Gj ?_
         exact ej151 _ _ s148 h ⟨(by repeat' constructor),⟨⟨_,rfl,.map⟩,⟨_,rfl,.map⟩,⟨_,rfl,.map⟩,⟨_,rfl,.map⟩,G⟩,rfl⟩
       ·intro j151 h
        replace h:=app1 hkj151 h
        refine G3 ?_
        refine JLg (G0 ((i148+1:Nat):Int)) (Ht (Hc hk148 hm151) O O O) ?_
        refine JLg (G0 ((i148+1:Nat):Int)) (G7 O O) ?_
        refine G8 ?_
        exact e148 _ _ (i148+1) j151 (app1 hn148 h) (by omega) ⟨(by repeat' constructor),⟨⟨_,rfl,.map⟩,⟨_,rfl,.map⟩,⟨_,rfl,.map⟩,⟨_,rfl,.map⟩,G⟩,rfl⟩
      ·
       have h:=app1 hkx148 (Ho hi148 (H3 hb))
       refine Hk ?_
       refine hK134 _ _ ?_
       refine G6 (fun K154 hK154=>?_)
       refine R0 (l':=[(9,Ee r3),(11,E2 r8.1),(12,.dptr [LS 1 (E0) r8.2.States,LS 1 (E1) r8.2.Water]),(15,G0 r12.1),(17,G0 s21.1),(18,E0 s21.2),(19,Em i21),(20,E3 y21),(21,E1 r29.1),(23,.mp 1005),(24,.mp 1006),(25,.mp 1007),(26,.mp 1008),(30,Eh y128),(31,G0 s148),(82,LS 1 (E3) r10.1),(83,Em r10.1.length),(84,Em i21),(144,E2 r8.1),(145,Em r8.1.length),(146,Em i128)]) (L':=[(1005,MP 55 (fun n:Int=>Value.int .i64 n) G0 s105.1),(1006,MP 55 (fun n:Int=>Value.int .i64 n) G0 s105.2.1),(1007,MP 55 (fun n:Int=>Value.int .i64 n) G0 s105.2.2.1),(1008,MP 55 (fun n:Int=>Value.int .i64 n) G0 s105.2.2.2)]) ⟨(by repeat' constructor),⟨⟨_,rfl,.map⟩,⟨_,rfl,.map⟩,⟨_,rfl,.map⟩,⟨_,rfl,.map⟩,G⟩,rfl⟩ ?_
       obtain⟨v155,hv155,h⟩:=Ge h
       obtain⟨r156,hr156,h⟩:=Ge h
       obtain⟨v157,hv157,h⟩:=Hm h
       obtain⟨v158,hv158,h⟩:=Ge h
       obtain⟨y159,hy159,h⟩:=Ge h
       obtain⟨r160,hr160,h⟩:=Ge h
       obtain⟨v161,hv161,h⟩:=Ge h
       refine Qp [] [0,0,0,0,0,0,0,0,0,0,0,0,0,0,0,0,0,0,0,0,0,0,0,0,0,0,0,0] [0,0,0,0,0,0,0,0,0,0,0,0,0,0,0,0,0,0,0,0,0,0,0,0,0,0,0,0] [[(1005,MP 55 (fun n:Int=>Value.int .i64 n) G0 s105.1),(1006,MP 55 (fun n:Int=>Value.int .i64 n) G0 s105.2.1),(1007,MP 55 (fun n:Int=>Value.int .i64 n) G0 s105.2.2.1),(1008,MP 55 (fun n:Int=>Value.int .i64 n) G0 s105.2.2.2)]] Q5 (by kernel_rfl) rfl rfl ?_
       refine Gn (u:=.mp 1005) O O ⟨Gs (G7 O O) O,G⟩ ?_
       refine Gn (u:=Eh y128) O O ⟨Gs (Gc Ji O O O) O,G⟩ ?_
       refine Gn (u:=G0 y128.ID) O O ⟨Gs (Gf Gb O O O) O,G⟩ ?_
       refine Gn (u:=G0 v155) O O ⟨Gs (((Option.some.inj hv155) ▸ Qv (av:=G0) (m:=s105.1) (a:=y128.ID) 0 (.int .i64 0) O O O O tk_3 R5 Rw O)) O,G⟩ ?_
       refine Gn (u:=G0 s148) O O ⟨Gs (G7 O O) O,G⟩ ?_
       refine Gn (u:=E0 s21.2) O O ⟨Gs (G7 O O) O,G⟩ ?_
       refine Gn (u:=Eh y128) O O ⟨Gs (Gc Ji O O O) O,G⟩ ?_
       refine Gn (u:=G0 y128.ID) O O ⟨Gs (Gf Gb O O O) O,G⟩ ?_
       refine Gn (u:=G0 r156) O O ⟨Gs (H1 (args:=[E0 s21.2,G0 y128.ID]) O (M_twistlocklaw30_count_w s21.2 y128.ID r156 hr156) tf_call_9 ⟨O,O,O,O,G⟩) O,G⟩ ?_
       refine Gn (u:=G0 v157) O O ⟨Gs (A_mul hv157 O O O) O,G⟩ ?_
       refine Gn (u:=BL (decide (v155≠v157))) O O ⟨Gs (Yy O O O) O,G⟩ ?_
       refine Gn (u:=BL (decide (v155≠v157))) O O ⟨Gs (G7 O O) O,G⟩ ?_
       refine Gn (u:=.opt (!(decide (v155≠v157))) (.mp 1006)) O O ⟨Hf [] O O O .scf G (fun hc=>G7 O O) O,G⟩ ?_
       refine Gn (u:=.opt (!(decide (v155≠v157))) (Eh y128)) O O ⟨Hf [] O O O .scf G (fun hc=>Gc Ji O O O) O,G⟩ ?_
       refine Gn (u:=.opt (!(decide (v155≠v157))) (G0 y128.ID)) O O ⟨Hf [(174,Eh y128)] O O O .scf ⟨.all id,G⟩ (fun hc=>Gf Gb O O O) O,G⟩ ?_
       refine Gn (u:=.opt (!(decide (v155≠v157))) (G0 v158)) O O ⟨Hf [(173,.mp 1006),(175,G0 y128.ID)] O O O .scf ⟨.all id,.all id,G⟩ (fun hc=>((Option.some.inj (Gv hc hv158)) ▸ Qv (av:=G0) (m:=s105.2.1) (a:=y128.ID) 0 (.int .i64 0) O O O O tk_3 R5 Rw O)) O,G⟩ ?_
       refine Gn (u:=.opt (!(decide (v155≠v157))) (G0 s148)) O O ⟨Hf [] O O O .scf G (fun hc=>G7 O O) O,G⟩ ?_
       refine Gn (u:=.opt (!(decide (v155≠v157))) (.dptr [LS 1 (E0) r8.2.States,LS 1 (E1) r8.2.Water])) O O ⟨Hf [] O O O .scf G (fun hc=>Gc Qy O O O) O,G⟩ ?_
       refine Gn (u:=.opt (!(decide (v155≠v157))) (LS 1 (E0) r8.2.States)) O O ⟨Hf [(178,.dptr [LS 1 (E0) r8.2.States,LS 1 (E1) r8.2.Water])] O O O .scf ⟨.all id,G⟩ (fun hc=>Gf Qk O O O) O,G⟩ ?_
       refine Gn (u:=.opt (!(decide (v155≠v157))) (Em i21)) O O ⟨Hf [] O O O .scf G (fun hc=>G7 O O) O,G⟩ ?_
       refine Gn (u:=.opt (!(decide (v155≠v157))) (.dptr [E0 y159])) O O ⟨Hf [(179,LS 1 (E0) r8.2.States),(180,Em i21)] O O O .scf ⟨.all id,.all id,G⟩ (fun hc=>(match Rv (Gv hc hy159) with | ⟨_,hm_,hy_⟩=>H0 (f:=(E0)) (xs:=r8.2.States) (y:=y159) O O O Ja hy_ hm_)) O,G⟩ ?_
       refine Gn (u:=.opt (!(decide (v155≠v157))) (E0 y159)) O O ⟨Hf [(181,.dptr [E0 y159])] O O O .scf ⟨.all id,G⟩ (fun hc=>Gf Qc O O O) O,G⟩ ?_
       refine Gn (u:=.opt (!(decide (v155≠v157))) (Eh y128)) O O ⟨Hf [] O O O .scf G (fun hc=>Gc Ji O O O) O,G⟩ ?_
       refine Gn (u:=.opt (!(decide (v155≠v157))) (G0 y128.ID)) O O ⟨Hf [(183,Eh y128)] O O O .scf ⟨.all id,G⟩ (fun hc=>Gf Gb O O O) O,G⟩ ?_
       refine Gn (u:=.opt (!(decide (v155≠v157))) (G0 r160)) O O ⟨Hf [(182,E0 y159),(184,G0 y128.ID)] O O O .scf ⟨.all id,.all id,G⟩ (fun hc=>H1 (args:=[E0 y159,G0 y128.ID]) O (M_twistlocklaw30_count_w y159 y128.ID r160 (Gv hc hr160)) tf_call_9 ⟨O,O,O,O,G⟩) O,G⟩ ?_
       refine Gn (u:=.opt (!(decide (v155≠v157))) (G0 v161)) O O ⟨Hf [(177,G0 s148),(185,G0 r160)] O O O .scf ⟨.all id,.all id,G⟩ (fun hc=>A_mul (chk_some (Gv hc hv161)) O O O) O,G⟩ ?_
       refine Gn (u:=.opt (!(decide (v155≠v157))) (BL (decide (v158≠v161)))) O O ⟨Hf [(176,G0 v158),(186,G0 v161)] O O O .scf ⟨.all id,.all id,G⟩ (fun hc=>Yy O O O) O,G⟩ ?_
       refine Gn (u:=BL ((decide (v155≠v157))||(decide (v158≠v161)))) O O ⟨Gs (Y4 O O O O) O,G⟩ ?_
       refine Ry ?_
       refine hK154 _ _ ?_
       refine Gh O (fun hb=>?_) (fun hb=>?_)
       ·
        replace h:=Gv hb h
        refine G6 fun K162 hK162=>G3 ?_
        refine JLg (BL false) (G9 O O) ?_
        refine G8 (hK162 _ _ ?_)
        refine Gu ?_
        exact⟨[BL false],[],G,O,⟨⟨_,O,.conv (.same O)⟩,G⟩,O,congrArg (fun r:Bool=>(BL r:AV)) (Option.some.inj h)⟩
       ·
        replace h:=Hp hb h
        refine Gj ?_
        refine hK131 _ _ ?_
        refine G3 ?_
        refine JLg (G0 ((i128+1:Nat):Int)) (Ht (Hc hk128 hm145) O O O) ?_
        refine JLg (G0 ((i128+1:Nat):Int)) (G7 O O) ?_
        refine G8 ?_
        exact e128 _ _ (i128+1) () (app1 hn128 h) (by omega) ⟨(by repeat' constructor),⟨⟨_,rfl,.map⟩,⟨_,rfl,.map⟩,⟨_,rfl,.map⟩,⟨_,rfl,.map⟩,G⟩,rfl⟩
     ·
      have h:=app1 hkx128 (Ho hi128 (H3 hb))
      refine Hk ?_
      refine hK126 _ _ ?_
      refine G6 (fun K163 hK163=>?_)
      refine G6 fun K164 hK164=>G3 ?_
      refine JLg (.dptr ((Gz.cs r3).drop 1)) (Gc Qs O O O) ?_
      refine JLg (E6 r3.Covers) (Gf Ra O O O) ?_
      refine Hs (f:=Ga.av) (xs:=r3.Covers) Qq O O (fun hm192=>?_) O O O
      refine JLg (G0 0) (G7 O O) ?_
      refine G8 (hK164 _ _ ?_)
      refine Gg ?_
      obtain⟨b187,kx187,hb187,hkx187,h⟩:=Hu h
      refine H7 (fun i187 (s187:Unit)=>each b187 kx187 (List.drop i187 r3.Covers) i187 s187=some r) (fun i187 s187=>[(9,Ee r3),(11,E2 r8.1),(12,.dptr [LS 1 (E0) r8.2.States,LS 1 (E1) r8.2.Water]),(15,G0 r12.1),(17,G0 s21.1),(18,E0 s21.2),(19,Em i21),(20,E3 y21),(21,E1 r29.1),(25,.mp 1007),(26,.mp 1008),(82,LS 1 (E3) r10.1),(83,Em r10.1.length),(84,Em i21),(192,Em r3.Covers.length),(193,Em i187)]) (fun i187 s187=>[(1005,MP 55 (fun n:Int=>Value.int .i64 n) G0 s105.1),(1006,MP 55 (fun n:Int=>Value.int .i64 n) G0 s105.2.1),(1007,MP 55 (fun n:Int=>Value.int .i64 n) G0 s105.2.2.1),(1008,MP 55 (fun n:Int=>Value.int .i64 n) G0 s105.2.2.2)]) (fun i187=>r3.Covers.length - i187) 0 () h ⟨(by repeat' constructor),⟨⟨_,rfl,.map⟩,⟨_,rfl,.map⟩,⟨_,rfl,.map⟩,⟨_,rfl,.map⟩,G⟩,rfl⟩ ?_
      clear h
      intro i187 s187 hi187 K187 e187
      refine G6 fun K188 hK188=>G3 ?_
      refine JLg (BL (decide ((i187:Int) < (r3.Covers.length:Int)))) (Hy O O O) ?_
      refine G8 (hK188 _ _ ?_)
      refine G6 (fun K189 hK189=>?_)
      refine Gh O (fun hb=>?_) (fun hb=>?_)
      ·
       have hk187:=J9 hb
       obtain⟨y187,nx187,hy187,hn187,h⟩:=Hn hi187 hk187
       replace h:=app4 hb187 h
       refine Gj ?_
       refine hK189 _ _ ?_
       refine G6 (fun K190 hK190=>?_)
       refine Gg ?_
       refine G6 fun K191 hK191=>G3 ?_
       refine JLg (Em i187) (G7 O O) ?_
       refine JLg (Em i187) (G9 O O) ?_
       refine G8 (hK191 _ _ ?_)
       refine G6 (fun K192 hK192=>?_)
       refine R0 (l':=[(9,Ee r3),(11,E2 r8.1),(12,.dptr [LS 1 (E0) r8.2.States,LS 1 (E1) r8.2.Water]),(15,G0 r12.1),(17,G0 s21.1),(18,E0 s21.2),(19,Em i21),(20,E3 y21),(21,E1 r29.1),(25,.mp 1007),(26,.mp 1008),(34,Em i187),(82,LS 1 (E3) r10.1),(83,Em r10.1.length),(84,Em i21),(192,Em r3.Covers.length),(193,Em i187)]) (L':=[(1005,MP 55 (fun n:Int=>Value.int .i64 n) G0 s105.1),(1006,MP 55 (fun n:Int=>Value.int .i64 n) G0 s105.2.1),(1007,MP 55 (fun n:Int=>Value.int .i64 n) G0 s105.2.2.1),(1008,MP 55 (fun n:Int=>Value.int .i64 n) G0 s105.2.2.2)]) ⟨(by repeat' constructor),⟨⟨_,rfl,.map⟩,⟨_,rfl,.map⟩,⟨_,rfl,.map⟩,⟨_,rfl,.map⟩,G⟩,rfl⟩ ?_
       obtain⟨v193,hv193,h⟩:=Ge h
       obtain⟨v194,hv194,h⟩:=Ge h
       obtain⟨v195,hv195,h⟩:=Ge h
       obtain⟨v196,hv196,h⟩:=Ge h
       obtain⟨y197,hy197,h⟩:=Ge h
       obtain⟨r198,hr198,h⟩:=Ge h
       refine Qp [] [0,0,0,0,0,0,0,0,0,0,0,0,0,0,0,0,0,0,0,0,0,0,0,0,0,0,0,0,0,0,0,0] [0,0,0,0,0,0,0,0,0,0,0,0,0,0,0,0,0,0,0,0,0,0,0,0,0,0,0,0,0,0,0,0] [[(1005,MP 55 (fun n:Int=>Value.int .i64 n) G0 s105.1),(1006,MP 55 (fun n:Int=>Value.int .i64 n) G0 s105.2.1),(1007,MP 55 (fun n:Int=>Value.int .i64 n) G0 s105.2.2.1),(1008,MP 55 (fun n:Int=>Value.int .i64 n) G0 s105.2.2.2)]] Q5 (by kernel_rfl) rfl rfl ?_
       refine Gn (u:=.mp 1007) O O ⟨Gs (G7 O O) O,G⟩ ?_
       refine Gn (u:=Em i187) O O ⟨Gs (G7 O O) O,G⟩ ?_
       refine Gn (u:=G0 v193) O O ⟨Gs (((Option.some.inj hv193) ▸ Qv (av:=G0) (m:=s105.2.2.1) (a:=(i187:Int)) 0 (.int .i64 0) O O O O tk_3 R5 Rw O)) O,G⟩ ?_
       refine Gn (u:=BL (decide (1 < v193))) O O ⟨Gs (Yd O O O) O,G⟩ ?_
       refine Gn (u:=BL (decide (1 < v193))) O O ⟨Gs (G7 O O) O,G⟩ ?_
       refine Gn (u:=.opt (!(decide (1 < v193))) (.mp 1007)) O O ⟨Hf [] O O O .scf G (fun hc=>G7 O O) O,G⟩ ?_
       refine Gn (u:=.opt (!(decide (1 < v193))) (Em i187)) O O ⟨Hf [] O O O .scf G (fun hc=>G7 O O) O,G⟩ ?_
       refine Gn (u:=.opt (!(decide (1 < v193))) (G0 v194)) O O ⟨Hf [(201,.mp 1007),(202,Em i187)] O O O .scf ⟨.all id,.all id,G⟩ (fun hc=>((Option.some.inj (Gv hc hv194)) ▸ Qv (av:=G0) (m:=s105.2.2.1) (a:=(i187:Int)) 0 (.int .i64 0) O O O O tk_3 R5 Rw O)) O,G⟩ ?_
       refine Gn (u:=.opt (!(decide (1 < v193))) (.mp 1008)) O O ⟨Hf [] O O O .scf G (fun hc=>G7 O O) O,G⟩ ?_
       refine Gn (u:=.opt (!(decide (1 < v193))) (Em i187)) O O ⟨Hf [] O O O .scf G (fun hc=>G7 O O) O,G⟩ ?_
       refine Gn (u:=.opt (!(decide (1 < v193))) (G0 v195)) O O ⟨Hf [(204,.mp 1008),(205,Em i187)] O O O .scf ⟨.all id,.all id,G⟩ (fun hc=>((Option.some.inj (Gv hc hv195)) ▸ Qv (av:=G0) (m:=s105.2.2.2) (a:=(i187:Int)) 0 (.int .i64 0) O O O O tk_3 R5 Rw O)) O,G⟩ ?_
       refine Gn (u:=.opt (!(decide (1 < v193))) (BL (decide (v194≠v195)))) O O ⟨Hf [(203,G0 v194),(206,G0 v195)] O O O .scf ⟨.all id,.all id,G⟩ (fun hc=>Yy O O O) O,G⟩ ?_
       refine Gn (u:=BL ((decide (1 < v193))||(decide (v194≠v195)))) O O ⟨Gs (Y4 O O O O) O,G⟩ ?_
       refine Gn (u:=BL ((decide (1 < v193))||(decide (v194≠v195)))) O O ⟨Gs (G7 O O) O,G⟩ ?_
       refine Gn (u:=.opt (!((decide (1 < v193))||(decide (v194≠v195)))) (.mp 1007)) O O ⟨Hf [] O O O .scf G (fun hc=>G7 O O) O,G⟩ ?_
       refine Gn (u:=.opt (!((decide (1 < v193))||(decide (v194≠v195)))) (Em i187)) O O ⟨Hf [] O O O .scf G (fun hc=>G7 O O) O,G⟩ ?_
       refine Gn (u:=.opt (!((decide (1 < v193))||(decide (v194≠v195)))) (G0 v196)) O O ⟨Hf [(210,.mp 1007),(211,Em i187)] O O O .scf ⟨.all id,.all id,G⟩ (fun hc=>((Option.some.inj (Gv hc hv196)) ▸ Qv (av:=G0) (m:=s105.2.2.1) (a:=(i187:Int)) 0 (.int .i64 0) O O O O tk_3 R5 Rw O)) O,G⟩ ?_
       refine Gn (u:=.opt (!((decide (1 < v193))||(decide (v194≠v195)))) (BL (decide (v196=1)))) O O ⟨Hf [(212,G0 v196)] O O O .scf ⟨.all id,G⟩ (fun hc=>Qb O O O) O,G⟩ ?_
       refine Gn (u:=.opt (!((decide (1 < v193))||(decide (v194≠v195)))) (BL (decide (v196=1)))) O O ⟨Hf [(213,BL (decide (v196=1)))] O O O .scf ⟨.all id,G⟩ (fun hc=>G7 O O) O,G⟩ ?_
       refine Gn (u:=.opt ((!((decide (1 < v193))||(decide (v194≠v195))))&&(decide (v196=1))) (.agg (Gz.cs r3))) O O ⟨Hf [] O O O .optt G (fun hc=>Gi J0 O O O) O,G⟩ ?_
       refine Gn (u:=.opt ((!((decide (1 < v193))||(decide (v194≠v195))))&&(decide (v196=1))) (E0 s21.2)) O O ⟨Hf [] O O O .optt G (fun hc=>G7 O O) O,G⟩ ?_
       refine Gn (u:=.opt ((!((decide (1 < v193))||(decide (v194≠v195))))&&(decide (v196=1))) (.dptr [LS 1 (E0) r8.2.States,LS 1 (E1) r8.2.Water])) O O ⟨Hf [] O O O .optt G (fun hc=>Gc Qy O O O) O,G⟩ ?_
       refine Gn (u:=.opt ((!((decide (1 < v193))||(decide (v194≠v195))))&&(decide (v196=1))) (LS 1 (E0) r8.2.States)) O O ⟨Hf [(217,.dptr [LS 1 (E0) r8.2.States,LS 1 (E1) r8.2.Water])] O O O .optt ⟨.all id,G⟩ (fun hc=>Gf Qk O O O) O,G⟩ ?_
       refine Gn (u:=.opt ((!((decide (1 < v193))||(decide (v194≠v195))))&&(decide (v196=1))) (Em i21)) O O ⟨Hf [] O O O .optt G (fun hc=>G7 O O) O,G⟩ ?_
       refine Gn (u:=.opt ((!((decide (1 < v193))||(decide (v194≠v195))))&&(decide (v196=1))) (.dptr [E0 y197])) O O ⟨Hf [(218,LS 1 (E0) r8.2.States),(219,Em i21)] O O O .optt ⟨.all id,.all id,G⟩ (fun hc=>(match Rv (Gv hc hy197) with | ⟨_,hm_,hy_⟩=>H0 (f:=(E0)) (xs:=r8.2.States) (y:=y197) O O O Ja hy_ hm_)) O,G⟩ ?_
       refine Gn (u:=.opt ((!((decide (1 < v193))||(decide (v194≠v195))))&&(decide (v196=1))) (E0 y197)) O O ⟨Hf [(220,.dptr [E0 y197])] O O O .optt ⟨.all id,G⟩ (fun hc=>Gf Qc O O O) O,G⟩ ?_
       refine Gn (u:=.opt ((!((decide (1 < v193))||(decide (v194≠v195))))&&(decide (v196=1))) (E1 r29.1)) O O ⟨Hf [] O O O .optt G (fun hc=>G7 O O) O,G⟩ ?_
       refine Gn (u:=.opt ((!((decide (1 < v193))||(decide (v194≠v195))))&&(decide (v196=1))) (Em i187)) O O ⟨Hf [] O O O .optt G (fun hc=>G7 O O) O,G⟩ ?_
       refine Gn (u:=.opt ((!((decide (1 < v193))||(decide (v194≠v195))))&&(decide (v196=1))) (BL r198)) O O ⟨Hf [(215,.agg (Gz.cs r3)),(216,E0 s21.2),(221,E0 y197),(222,E1 r29.1),(223,Em i187)] O O O .optt ⟨.all id,.all id,.all id,.all id,.all id,G⟩ (fun hc=>H1 (args:=[.agg (Gz.cs r3),E0 s21.2,E0 y197,E1 r29.1,Em i187]) O (M_twistlocklaw30_under_w r3 s21.2 y197 r29.1 (i187:Int) r198 (Gv hc hr198)) tf_call_10 ⟨O,O,O,O,O,O,O,O,O,O,G⟩) O,G⟩ ?_
       refine Gn (u:=.opt ((!((decide (1 < v193))||(decide (v194≠v195))))&&(decide (v196=1))) (BL (!r198))) O O ⟨Hf [(224,BL r198)] O O O .optt ⟨.all id,G⟩ (fun hc=>Rj (b:=r198) O O) O,G⟩ ?_
       refine Gn (u:=.opt (!((decide (1 < v193))||(decide (v194≠v195)))) (BL ((decide (v196=1))&&(!r198)))) O O ⟨Hf [(214,BL (decide (v196=1))),(225,_)] O O O .scf ⟨.all id,.part,G⟩ (fun hc=>Qr O O O O) O,G⟩ ?_
       refine Gn (u:=BL (((decide (1 < v193))||(decide (v194≠v195)))||((decide (v196=1))&&(!r198)))) O O ⟨Gs (Y4 O O O O) O,G⟩ ?_
       refine Ry ?_
       refine hK192 _ _ ?_
       refine Gh O (fun hb=>?_) (fun hb=>?_)
       ·
        replace h:=Gv hb h
        refine G6 fun K199 hK199=>G3 ?_
        refine JLg (BL false) (G9 O O) ?_
        refine G8 (hK199 _ _ ?_)
        refine Gu ?_
        exact⟨[BL false],[],G,O,⟨⟨_,O,.conv (.same O)⟩,G⟩,O,congrArg (fun r:Bool=>(BL r:AV)) (Option.some.inj h)⟩
       ·
        replace h:=Hp hb h
        refine Gj ?_
        refine hK190 _ _ ?_
        refine G3 ?_
        refine JLg (G0 ((i187+1:Nat):Int)) (Ht (Hc hk187 hm192) O O O) ?_
        refine JLg (G0 ((i187+1:Nat):Int)) (G7 O O) ?_
        refine G8 ?_
        exact e187 _ _ (i187+1) () (app1 hn187 h) (by omega) ⟨(by repeat' constructor),⟨⟨_,rfl,.map⟩,⟨_,rfl,.map⟩,⟨_,rfl,.map⟩,⟨_,rfl,.map⟩,G⟩,rfl⟩
      ·
       have h:=app1 hkx187 (Ho hi187 (H3 hb))
       refine Hk ?_
       refine hK163 _ _ ?_
       refine G6 fun K200 hK200=>G3 ?_
       refine JLg (G0 s21.1) (G7 O O) ?_
       refine JLg (E3 y21) (G7 O O) ?_
       obtain⟨r201,hr201,h⟩:=Ge h
       refine JLg (G0 r201) (H1 (args:=[E3 y21]) O (M_moves_Lifts_w y21 r201 hr201) tf_call_11 ⟨O,O,G⟩) ?_
       obtain⟨v202,hv202,h⟩:=Hm h
       refine JLg (G0 v202) (Ht hv202 O O O) ?_
       refine JLg (G0 v202) (G9 O O) ?_
       refine G8 (hK200 _ _ ?_)
       refine G3 ?_
       refine JLg (.dptr [LS 1 (E0) r8.2.States,LS 1 (E1) r8.2.Water]) (Gc Qy O O O) ?_
       refine JLg (LS 1 (E0) r8.2.States) (Gf Qk O O O) ?_
       refine JLg (Em i21) (G7 O O) ?_
       obtain⟨m204,y203,hm204,hy203,h⟩:=R3 h
       refine JLg (.dptr [E0 y203]) (H0 (f:=(E0)) (xs:=r8.2.States) (y:=y203) O O O Ja hy203 hm204) ?_
       refine JLg (E0 y203) (Gf Qc O O O) ?_
       refine JLg (E0 y203) (G9 O O) ?_
       refine G8 (hK24 _ _ ?_)
       refine G3 ?_
       refine JLg (G0 ((i21+1:Nat):Int)) (Ht (Hc hk21 hm83) O O O) ?_
       refine JLg (G0 ((i21+1:Nat):Int)) (G7 O O) ?_
       refine G8 ?_
       exact e21 _ _ (i21+1) (v202,y203) (app1 hn21 h) (by omega) ⟨(by repeat' constructor),G,rfl⟩
  ·
   have h:=app1 hkx21 (Ho hi21 (H3 hb))
   refine Hk ?_
   refine hK19 _ _ ?_
   refine G6 fun K205 hK205=>G3 ?_
   refine JLg (G0 s21.1) (G7 O O) ?_
   refine JLg (E2 r8.1) (G7 O O) ?_
   refine Hs (f:=Gp.av) (xs:=r8.1) Jm O O (fun hm241=>?_) O O O
   obtain⟨v206,hv206,h⟩:=Hm h
   refine JLg (G0 v206) (A_mul hv206 O O O) ?_
   refine JLg (G0 r12.1) (G7 O O) ?_
   obtain⟨v207,hv207,h⟩:=Hm h
   refine JLg (G0 v207) (A_mul hv207 O O O) ?_
   obtain⟨v208,hv208,h⟩:=Hm h
   refine JLg (G0 v208) (Ht hv208 O O O) ?_
   refine JLg (BL (decide (s21.1=v208))) (Qb O O O) ?_
   refine JLg (BL (decide (s21.1=v208))) (G7 O O) ?_
   obtain⟨r209,hr209,h⟩:=Ge h
   refine Gd (u:=BL r209) [] O O O .sct G (fun hc=>H1 (args:=[]) O (M_twistlocklaw30_awake_w F r209 (Gv hc hr209)) tf_call_12 G) ?_
   refine JLg (BL ((decide (s21.1=v208))&&r209)) (Qr O O O O) ?_
   refine JLg (BL ((decide (s21.1=v208))&&r209)) (G9 O O) ?_
   refine G8 (hK205 _ _ ?_)
   refine Gu ?_
   exact⟨[BL ((decide (s21.1=v208))&&r209)],[],G,O,⟨⟨_,O,.conv (.same O)⟩,G⟩,O,congrArg (fun r:Bool=>(BL r:AV)) (Option.some.inj h)⟩
end
end Go.Proofs.YtkfhfoljfbjknaaGreat
