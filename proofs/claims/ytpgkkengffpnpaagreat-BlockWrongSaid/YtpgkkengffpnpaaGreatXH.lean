/-
 Models of functions of the program,and that they return what the models say.
-/
import Derived.Test.YtpgkkengffpnpaaGreatSpecR
set_option linter.unnecessarySimpa false
set_option maxRecDepth 100000
set_option maxHeartbeats 1000000
set_option linter.unusedVariables false
set_option linter.unusedSimpArgs false
namespace Go.Proofs.YtpgkkengffpnpaaGreat
open Go.RowKit
noncomputable section
structure Hi where
 s:Gp
 boxes:List G9
 l:List Stowed
 open_:List Int
 x:Stowed
 deriving DecidableEq,Inhabited
def Hi.cs (x:Hi):List AV:=[E3 x.s.Columns,E8 x.s.Covers,G0 x.s.Light.Kilos,G0 x.s.Light.X,G0 x.s.Light.Y,G0 x.s.Light.Z,E5 x.s.Rows,E6 x.s.Frames,E7 x.s.Tanks,G0 x.s.G2.Tolerance,G0 x.s.G2.Trim,G0 x.s.G2.List_,G0 x.s.G2.Stability,E2 x.boxes,E1 x.l,E0 x.open_,G0 x.x.G9,G0 x.x.Slot.G4,G0 x.x.Slot.Tier,U8 x.x.Slot.Half]
def Hi.av (x:Hi):AV:=.agg x.cs
abbrev Eg (x:Hi):AV:=.dptr (Hi.cs x)
namespace XHF
open XAF
open XCF
open XGF
theorem Gd0:Gba Ek 97 20=true:=by kernel_rfl
theorem H6b:arr1B Ek 98 4=true:=by kernel_rfl
theorem tf_arr_98:arrB Ek 98 54 1=true:=by kernel_rfl
theorem J0e:Hk Ek 108=true:=by kernel_rfl
theorem Jd5:Hk Ek 111=true:=by kernel_rfl
theorem J67:Hk Ek 17=true:=by kernel_rfl
theorem J66:Hk Ek 19=true:=by kernel_rfl
theorem H9b:Hk Ek 23=true:=by kernel_rfl
theorem G38:Hk Ek 24=true:=by kernel_rfl
theorem Q06:Hk Ek 41=true:=by kernel_rfl
theorem Q05:Hk Ek 42=true:=by kernel_rfl
theorem Q04:Hk Ek 43=true:=by kernel_rfl
theorem Q03:Hk Ek 44=true:=by kernel_rfl
theorem J5b:Hk Ek 45=true:=by kernel_rfl
theorem Q02:Hk Ek 47=true:=by kernel_rfl
theorem Q01:Hk Ek 48=true:=by kernel_rfl
theorem Q00:Hk Ek 49=true:=by kernel_rfl
theorem J59:Hk Ek 53=true:=by kernel_rfl
theorem J56:Hk Ek 59=true:=by kernel_rfl
theorem Jf3:Hk Ek 76=true:=by kernel_rfl
theorem Jf2:Hk Ek 77=true:=by kernel_rfl
theorem Jf0:Hk Ek 79=true:=by kernel_rfl
theorem J51:Hk Ek 80=true:=by kernel_rfl
theorem Jee:Hk Ek 86=true:=by kernel_rfl
theorem Ga1:Jt Ek 61 6 6=true:=by kernel_rfl
theorem H03:Jt Ek 97 0 0=true:=by kernel_rfl
theorem Jb5:Jt Ek 97 1 13=true:=by kernel_rfl
theorem G5a:Jt Ek 97 2 14=true:=by kernel_rfl
theorem Jb4:Jt Ek 97 3 15=true:=by kernel_rfl
theorem G26:Jt Ek 97 4 16=true:=by kernel_rfl
theorem J45:Hcb Ek 122 .u64=true:=by kernel_rfl
theorem Ga6:Hcb Ek 3 .i64=true:=by kernel_rfl
theorem Hed:G7b Ek 75 3 3=true:=by kernel_rfl
theorem Zr:placesOf Ek 49=some [(0,1),(1,3)]:=by kernel_rfl
theorem Jc1:placesOf Ek 97=some [(0,13),(13,1),(14,1),(15,1),(16,4)]:=by kernel_rfl
theorem Yh:Rs Ek 36=true:=by kernel_rfl
theorem H94:Rt Ek 62 1=true:=by kernel_rfl
theorem Je9:Rt Ek 97 20=true:=by kernel_rfl
theorem G18:(Ek.info? 49).bind (fun i=>i.zero.map Value.cells)=some (List.toArray [.int .i64 0,.int .i64 0,.int .i64 0,.int .u8 0]):=by kernel_rfl
theorem J41:(Ek.info? 62).bind (fun i=>i.zero.map Value.cells)=some (List.toArray [.slice none 0 0]):=by kernel_rfl
theorem Je8:(Ek.info? 97).bind (fun i=>i.zero.map Value.cells)=some (List.toArray [.slice none 0 0,.slice none 0 0,.int .i64 0,.int .i64 0,.int .i64 0,.int .i64 0,.slice none 0 0,.slice none 0 0,.slice none 0 0,.int .i64 0,.int .i64 0,.int .i64 0,.int .i64 0,.slice none 0 0,.slice none 0 0,.slice none 0 0,.int .i64 0,.int .i64 0,.int .i64 0,.int .u8 0]):=by kernel_rfl
theorem Je7:(Ek.info? 98).bind (fun i=>i.zero.map Value.cells)=some (List.toArray [.nilFunc,.nilFunc,.nilFunc,.nilFunc]):=by kernel_rfl
theorem Jc9:Re Ek 97 20=true:=by kernel_rfl
end XHF
open XAF
open XCF
open XGF
open XHF

def J6 (boxes:List G9) (id_:Int):Option Int:=
 bnd (Zw boxes id_) fun r3=>
 some r3.1.Discharge
theorem Qw (boxes:List G9) (id_:Int) (r:Int) (h:J6 boxes id_=some r):Pure Ek 24 [E2 boxes,G0 id_] (·=G0 r):=by
 unfold J6 at h
 refine H6 [.tmp 4] Tryz.func24 O O (Jr fun hK1=>(Yv (G0 0) O (G7 (hK1 (Jr fun hK2=>(Yv (E2 boxes) O (Yv (G0 id_) O ?_)))))))
 obtain⟨r3,hr3,h⟩:=Gd h
 refine JLh (.tup [.agg (G9.cs r3.1),BL r3.2]) (Gu O (G61 boxes id_ r3 hr3) Gd4 ⟨O,O,O,O,G⟩) O (Yv (.tup [.agg (G9.cs r3.1),BL r3.2]) O (JLh (.agg (G9.cs r3.1)) (Gn O O O) O (JLh (BL r3.2) (Gn O O O) O (JLh (.ptr 1075 0) (Hu 1075 9 Y5 O O) O (Hw (u:=.junk) (Hj (u:=.agg (G9.cs r3.1)) (ds:=(G9.cs r3.1)) G00 O O O O O O O O) (Yv (BL r3.2) O (G7 (hK2 (Gt [(5,Ef r3.1)] [] 1075 rfl rfl rfl G rfl (by exact⟨.ptr,G⟩) (Jr fun hK4=>(JLh (.dptr ((G9.cs r3.1).drop 6)) (Gf Ga1 O O O) O (JLh (G0 r3.1.Discharge) (Gj Gb O O O) O (Yv (G0 r3.1.Discharge) O (G7 (hK4 (Gx (fin1 G0 h)))))))))))))))))

def G13 (F:Nat) (s:Gp) (boxes:List G9) (l:List Stowed) (Rp:((List Int)×Int)→Prop):Option Prop:=
 bnd (Q2 s boxes l) fun r4=>
 bif (!r4) then
 (some (Rp ([],2)))
 else
 (each (fun y9 i9 (s9:(H8 Int Int)) nx9=>
   bnd (Ry F s boxes l [y9.G9]) fun r15=>
   each (fun y57 i57 (s57:(H8 Int Int)) nx57=>
    jp (fun kj60=>
     bnd (J6 boxes y57) fun r63=>
     bnd (J6 boxes y9.G9) fun r64=>
     bif decide (r64 < r63) then
     (bnd (some (H8.get s57 y57 0)) fun v65=>
      G0d (v65+1) fun v66=>
      kj60 (H8.put s57 y57 v66))
     else
     (kj60 s57)) fun(j60:(H8 Int Int))=>
    nx57 j60)
   (fun(s57:(H8 Int Int))=>
    nx9 s57) r15.1 0 s9)
  (fun(s9:(H8 Int Int))=>
   J89 (fun(x78:Int×Int) (s78:(List Int)) nx78=>
    need (decide ((s78.length+[x78.1].length)*8≤140737488355328∧s78.length+[x78.1].length≤maxLen)) <|
    nx78 (s78++[x78.1]))
   (fun(s78:(List Int))=>
    bnd (G3b s78) fun r85=>
    some (Rp (r85,0))) (H8.l s9) []) l 0 (H8.empty:H8 Int Int))
theorem Hab (F:Nat) (s:Gp) (boxes:List G9) (l:List Stowed) (Rp:((List Int)×Int)→Prop) (p:Prop) (h:G13 F s boxes l Rp=some p) (hp:p):Pure Ek 9 [.agg (Gp.cs s),E2 boxes,E1 l] (fun av=>∃ r,Rp r∧av=.tup [E0 r.1,G0 r.2]):=by
 unfold G13 at h
 refine H6 [.tmp 6,.tmp 7] Tryz.func9 O O (Jr fun hK1=>(JLh (.ptr 1024 0) (Jn (cs:=(Gp.cs s)) 1024 O O O O O) O (JLh (E0 ([]:List Int)) (Hf 1 O O) O (Yv (G0 0) O (G7 (hK1 ?_))))))
 refine Gt [(1,E2 boxes),(2,E1 l),(3,Ec s)] [] 1024 rfl rfl rfl G rfl (by exact⟨.conv (.same rfl),.conv (.same rfl),.ptr,G⟩) (Js fun hK2=>Jr fun hK3=>(JLh (.agg (Gp.cs s)) (Gh H5 O O O) O (Yv (E2 boxes) O (Yv (E1 l) O ?_))))
 obtain⟨r4,hr4,h⟩:=Gd h
 refine JLh (BL r4) (Gu O (Yr s boxes l r4 hr4) G39 ⟨O,O,O,O,O,O,G⟩) O (JLh (BL (!r4)) (Ru (b:=r4) O O) O (G7 (hK3 (JCc O h (fun h hb=>?_) (fun h hb=>?_)))))
 ·
  refine Jr fun hK5=>(JLh (E0 ([]:List Int)) (Hf 1 O O) O (Yv (G0 2) O (G7 (hK5 (Gx (⟨[E0 ([]:List Int),G0 2],[],G,O,⟨⟨_,O,.conv (.same O)⟩,⟨_,O,.conv (.same O)⟩,G⟩,O,([],2),Eq.mpr (Option.some.inj h) hp,O⟩))))))
 ·
  refine Gr (hK2 (Jr fun hK6=>(JLh (.mp 1027) (H33 1027 (fun n:Int=>Value.int .i64 n) G0 O O) O (Yv (.mp 1027) O (G7 (hK6 (Js fun hK7=>Jr fun hK8=>(Yv (E1 l) O (JLl H2 O O O fun hm24=>(Yv (G0 0) O (G7 (hK8 (Gw ?_)))))))))))))
  obtain⟨b9,kx9,hb9,hkx9,h⟩:=J0 h
  refine Hp (fun i9 (s9:(H8 Int Int))=>each b9 kx9 (List.drop i9 l) i9 s9=some p) (fun i9 s9=>[(1,E2 boxes),(2,E1 l),(3,Ec s),(8,.mp 1027),(23,E1 l),(24,Ej l.length),(25,Ej i9)]) (fun i9 s9=>[(1027,MP 75 (fun n:Int=>Value.int .i64 n) G0 s9)]) (fun i9=>l.length - i9) 0 (H8.empty:H8 Int Int) h ⟨(by repeat' constructor),⟨⟨_,rfl,.map⟩,G⟩,rfl⟩ ?_
  clear h
  intro i9 s9 hi9 K9 e9
  refine Jr fun hK10=>(JLh (BL (decide ((i9:Int) < (l.length:Int)))) (Jb O O O) O (G7 (hK10 (Js fun hK11=>Gm O (fun hb=>?_) (fun hb=>?_)))))
  ·
   have hk9:=Jk hb
   obtain⟨y9,nx9,hy9,hn9,h⟩:=Hq hi9 hk9
   replace h:=Ya hb9 h
   refine Gr (hK11 (Js fun hK12=>Gw (Jr fun hK13=>(JLh (Ed y9) (Hb (f:=Stowed.av) (xs:=l) (y:=y9) O O O H2 hy9 O) O (JLh (.agg (Stowed.cs y9)) (Gh R4 O O O) O (JLh (.ptr 1025 0) (Hu 1025 4 Jx O O) O (Hw (u:=.junk) (Hj (u:=.agg (Stowed.cs y9)) (ds:=[G0 y9.G9,G0 y9.Slot.G4,G0 y9.Slot.Tier,U8 y9.Slot.Half]) Rk O O O O O O O O) (G7 (hK13 ?_)))))))))
   refine Gt [(1,E2 boxes),(2,E1 l),(3,Ec s),(8,.mp 1027),(10,Ed y9),(23,E1 l),(24,Ej l.length),(25,Ej i9)] [(1027,MP 75 (fun n:Int=>Value.int .i64 n) G0 s9)] 1025 rfl rfl rfl ⟨⟨_,rfl,.map⟩,G⟩ rfl (by repeat' (first | exact .ptr | constructor)) ?_
   refine Jr fun hK14=>(JLh (.agg (Gp.cs s)) (Gh H5 O O O) O (Yv (E2 boxes) O (Yv (E1 l) O (JLh (Ed y9) (Gf Hg O O O) O (JLh (G0 y9.G9) (Gj Gb O O O) O (JLh (E0 [y9.G9]) (H9 (xs:=[G0 y9.G9]) O ⟨O,O,G⟩ Gq Q1 O O O O) O ?_))))))
   obtain⟨r15,hr15,h⟩:=Gd h
   refine JLh (.tup [E0 r15.1,G0 r15.2]) (Gu O (Ge5.down F s boxes l [y9.G9] r15 hr15) H9b ⟨O,O,O,O,O,O,O,O,G⟩) O (Yv (.tup [E0 r15.1,G0 r15.2]) O (JLh (E0 r15.1) (Gn O O O) O (JLh (G0 r15.2) (Gn O O O) O (Yv (E0 r15.1) O (Yv (G0 r15.2) O (G7 (hK14 (Jr fun hK16=>(Yv (E0 r15.1) O (JLl Gq O O O fun hm40=>(Yv (G0 0) O (G7 (hK16 (Gw ?_))))))))))))))
   obtain⟨b57,kx57,hb57,hkx57,h⟩:=J0 h
   refine Hp (fun i57 (s57:(H8 Int Int))=>each b57 kx57 (List.drop i57 r15.1) i57 s57=some p) (fun i57 s57=>[(1,E2 boxes),(2,E1 l),(3,Ec s),(8,.mp 1027),(10,Ed y9),(23,E1 l),(24,Ej l.length),(25,Ej i9),(39,E0 r15.1),(40,Ej r15.1.length),(41,Ej i57)]) (fun i57 s57=>[(1027,MP 75 (fun n:Int=>Value.int .i64 n) G0 s57)]) (fun i57=>r15.1.length - i57) 0 s9 h ⟨(by repeat' constructor),⟨⟨_,rfl,.map⟩,G⟩,rfl⟩ ?_
   clear h
   intro i57 s57 hi57 K57 e57
   refine Jr fun hK58=>(JLh (BL (decide ((i57:Int) < (r15.1.length:Int)))) (Jb O O O) O (G7 (hK58 (Js fun hK59=>Gm O (fun hb=>?_) (fun hb=>?_)))))
   ·
    have hk57:=Jk hb
    obtain⟨y57,nx57,hy57,hn57,h⟩:=Hq hi57 hk57
    replace h:=Ya hb57 h
    refine Gr (hK59 ?_)
    obtain⟨kj60,hkj60,h⟩:=Rm h
    refine Qr (fun j60:(H8 Int Int)=>kj60 j60=some p) (fun j60=>[(1,E2 boxes),(2,E1 l),(3,Ec s),(8,.mp 1027),(10,Ed y9),(23,E1 l),(24,Ej l.length),(25,Ej i9),(39,E0 r15.1),(40,Ej r15.1.length),(41,Ej i57)]) (fun j60=>[(1027,MP 75 (fun n:Int=>Value.int .i64 n) G0 j60)]) (fun Kj60 ej60=>?_) ?_
    ·
     refine Gw (Jr fun hK61=>(JLh (.dptr [G0 y57]) (Hb (f:=G0) (xs:=r15.1) (y:=y57) O O O Gq hy57 O) O (JLh (G0 y57) (Gj Gb O O O) O (Yv (G0 y57) O (G7 (hK61 (Js fun hK62=>?_)))))))
     refine Yk (l':=[(1,E2 boxes),(2,E1 l),(3,Ec s),(8,.mp 1027),(10,Ed y9),(14,G0 y57),(23,E1 l),(24,Ej l.length),(25,Ej i9),(39,E0 r15.1),(40,Ej r15.1.length),(41,Ej i57)]) (L':=[(1027,MP 75 (fun n:Int=>Value.int .i64 n) G0 s57)]) ⟨(by repeat' constructor),⟨⟨_,rfl,.map⟩,G⟩,rfl⟩ ?_
     obtain⟨r63,hr63,h⟩:=Gd h
     obtain⟨r64,hr64,h⟩:=Gd h
     refine JC_d0 Qg (by kernel_rfl) (Dq (E2 boxes) (G5 O O) O (Dq (G0 y57) (G5 O O) O (Dq (G0 r63) (Gu (args:=[E2 boxes,G0 y57]) O (Qw boxes y57 r63 hr63) G38 ⟨O,O,O,O,G⟩) O (Dq (E2 boxes) (G5 O O) O (Dq (Ed y9) (Gf Hg O O O) O (Dq (G0 y9.G9) (Gj Gb O O O) O (Dq (G0 r64) (Gu (args:=[E2 boxes,G0 y9.G9]) O (Qw boxes y9.G9 r64 hr64) G38 ⟨O,O,O,O,G⟩) O (Dq (BL (decide (r64 < r63))) (G35 O O O) O (Dnil (hK62 (JCc O h (fun h hb=>?_) (fun h hb=>?_))))))))))))
     ·
      refine G3 (Yv (.mp 1027) O (Yv (G0 y57) O ?_))
      obtain⟨v65,hv65,h⟩:=Gd h
      refine JLh (G0 v65) (((Option.some.inj hv65) ▸ Geb (av:=G0) (m:=s57) (a:=y57) 0 (.int .i64 0) O O O O tk_3 Hed G7d O)) O ?_
      obtain⟨v66,hv66,h⟩:=Jp h
      refine JLh (G0 v66) (Hx hv66 O O O) O (Hw (u:=.junk) (He4 (m:=s57) (a:=y57) (v:=v66) O O O O O O tk_3 Hed) (G7 (ej60 _ _ (H8.put s57 y57 v66) h ⟨(by repeat' constructor),⟨⟨_,rfl,.map⟩,G⟩,rfl⟩)))
     ·
      refine Gr (ej60 _ _ s57 h ⟨(by repeat' constructor),⟨⟨_,rfl,.map⟩,G⟩,rfl⟩)
    ·intro j60 h
     replace h:=app1 hkj60 h
     refine G3 (JLh (G0 ((i57+1:Nat):Int)) (Hx (Ho hk57 hm40) O O O) O (Yv (G0 ((i57+1:Nat):Int)) O (G7 (e57 _ _ (i57+1) j60 (app1 hn57 h) (by omega) ⟨(by repeat' constructor),⟨⟨_,rfl,.map⟩,G⟩,rfl⟩))))
   ·
    have h:=app1 hkx57 (Hr hi57 (Hc hb))
    refine Ht (hK12 (G3 (JLh (G0 ((i9+1:Nat):Int)) (Hx (Ho hk9 hm24) O O O) O (Yv (G0 ((i9+1:Nat):Int)) O (G7 (e9 _ _ (i9+1) s57 (app1 hn9 h) (by omega) ⟨(by repeat' constructor),⟨⟨_,rfl,.map⟩,G⟩,rfl⟩))))))
  ·
   have h:=app1 hkx9 (Hr hi9 (Hc hb))
   refine Ht (hK7 (Jr fun hK67=>(JLh (.vec 1026 (([]:List Int).length) 1 (([]:List Int).length)) (Haf 1026 3 1 O O O) O (G7 (hK67 (Js fun hK68=>Jr fun hK69=>(Yv (.mp 1027) O (JLh (.it 1028) (Jac 1028 (m:=s9) O O O O Hed) O (G7 (hK69 (Gw ?_)))))))))))
   obtain⟨b78,kx78,hb78,hkx78,h⟩:=J88 h
   refine Ja4 (H8.size s9) (fun i78 (s78:(List Int))=>MInv b78 kx78 (H8.l s9) i78 s78) (fun i78 s78=>[(15,.vec 1026 s78.length 1 s78.length),(60,.it 1028)]) (fun i78 s78=>[(1027,MP 75 (fun n:Int=>Value.int .i64 n) G0 s9),(1026,.vec 3 1 s78.length (s78.map G0)),(1028,.iter 1027 (H8.size s9) i78)]) [] (MInv.start h hp) ⟨⟨.same O,.same O,G⟩,⟨⟨_,O,.map⟩,⟨_,O,.vec⟩,⟨_,O,.iter O⟩,G⟩,O⟩ ?_
   clear h hp
   intro i78 s78 hi78 K78 e78
   refine Jr fun hK79=>G68 O O O (Jc5 (m:=s9) O O O O) ?_
   intro u_ L_ hn_
   rcases hn_ with ⟨q78,x78,he78,hs78,rfl,rfl⟩ | ⟨ha78,rfl,rfl⟩
   ·
    obtain⟨o78,h,ho1_78,ho2_78⟩:=hi78.step he78 hs78
    replace h:=app3 hb78 h
    refine JLh (BL true) (Gn O O O) O (G7 (hK79 (Js fun hK80=>Ja5 O (Gr (hK80 (Gw (Jr fun hK81=>(JLh (.tup [G0 x78.1,G0 x78.2]) (Jb0 (kv:=(fun n:Int=>Value.int .i64 n)) (av:=G0) (m:=s9) (q:=q78) (seen:=i78) (e:=x78) O O O O he78) O (JLh (G0 x78.1) (Gn O O O) O (Yv (G0 x78.1) O (G7 (hK81 (G3 (Yv (.vec 1026 s78.length 1 s78.length) O (Yv (G0 x78.1) O (JLh (E0 [x78.1]) (H9 (xs:=[G0 x78.1]) O ⟨O,O,G⟩ Gq Q1 O O O O) O ?_))))))))))))))))
    obtain⟨ha82,h⟩:=J7 h
    refine JLh (.vec 1026 ((s78++[x78.1]).length) 1 ((s78++[x78.1]).length)) (G44 (f:=G0) (xs:=s78) (ys:=[x78.1]) (ver:=s78.length) (ver1:=(s78++[x78.1]).length) rfl rfl rfl rfl Gq Zp ha82 (fun _=>rfl) (.inl rfl) (by simp)) O (Yv (.vec 1026 ((s78++[x78.1]).length) 1 ((s78++[x78.1]).length)) O (G7 (e78 _ _ (i78++[q78]) (s78++[x78.1]) (ho2_78 _ (Option.some.inj h).symm) (Hea (List.getElem?_eq_some_iff.1 he78).1 hs78) ⟨⟨.same O,.same O,G⟩,⟨⟨_,O,.map⟩,⟨_,O,.vec⟩,⟨_,O,.iter O⟩,G⟩,O⟩)))
   ·
    obtain⟨p_,h,hp⟩:=hi78.done ha78
    replace h:=app1 hkx78 h
    refine JLh (BL false) (Gn O O O) O (G7 (hK79 (Js fun hK83=>Ja6 O (Ht (hK68 (Jr fun hK84=>(Yv (.vec 1026 s78.length 1 s78.length) O ?_)))))))
    obtain⟨r85,hr85,h⟩:=Gd h
    refine JLh (.tup []) (A_sortI (F:=25) (xs:=s78) (r:=r85) O J13 Hbd J63 O O O hr85 O) O (G7 (hK84 (Jr fun hK86=>(Yv (.vec 1026 s78.length 1 s78.length) O (Yv (.vec 1026 s78.length 1 s78.length) O (Yv (G0 0) O (G7 (hK86 (Had [(6,E0 r85),(7,G0 0)] [] 1026 rfl rfl G rfl (by exact⟨.vec,.conv (.same rfl),G⟩) (Gx (⟨[E0 r85,G0 0],[],G,O,⟨⟨_,O,.conv (.same O)⟩,⟨_,O,.conv (.same O)⟩,G⟩,O,(r85,0),Eq.mpr (Option.some.inj h) hp,O⟩)))))))))))
theorem Hac (S_:Nat→(Gp)→(List G9)→(List Stowed)→Option ((List Int)×Int)) (hS_:∀ F s boxes l r,S_ F s boxes l=some r→∃ p:Prop,G13 F s boxes l (fun r_=>r_=r)=some p∧p) (F:Nat) (s:Gp) (boxes:List G9) (l:List Stowed) (r:(List Int)×Int) (h:S_ F s boxes l=some r):Pure Ek 9 [.agg (Gp.cs s),E2 boxes,E1 l] (·=.tup [E0 r.1,G0 r.2]):=by
 obtain⟨p,h1,h2⟩:=hS_ F s boxes l r h
 exact(Hab F s boxes l _ p h1 h2).monoP (fun av hh=>by obtain⟨r_,rfl,ha⟩:=hh; exact ha)

def Z7 (p:Hi):Option Bool:=
 bnd (Y2 p.s p.x.Slot.G4) fun r4=>
 bnd (bif decide (0≤r4) then Z2 p.s.Columns p.x.Slot.G4 some else some default) fun y6=>
 bnd (bif decide (0≤r4) then Qc p.open_ r4 else some default) fun r7=>
 some ((decide (0≤r4))&&(y6.Deck==r7))
theorem H3e (p:Hi) (r:Bool) (h:Z7 p=some r):Pure Ek 41 [.agg (Hi.cs p)] (·=BL r):=by
 unfold Z7 at h
 refine H6 [.tmp 2] Tryz.func41 O O (Jr fun hK1=>(JLh (.ptr 1108 0) (Jn (cs:=(Hi.cs p)) 1108 O O O O O) O (Yv (BL false) O (G7 (hK1 ?_)))))
 refine Gt [(1,Eg p)] [] 1108 rfl rfl rfl G rfl (by exact⟨.ptr,G⟩) (Jr fun hK2=>(JLh (Ed p.x) (Gf G26 O O O) O (JLh (.dptr ((Stowed.cs p.x).drop 1)) (Gf Jq O O O) O (JLh (.dptr ((Stowed.cs p.x).drop 1)) (Gf Jy O O O) O (JLh (G0 p.x.Slot.G4) (Gj Gb O O O) O (Yv (G0 p.x.Slot.G4) O (G7 (hK2 ?_))))))))
 refine Jr fun hK3=>(JLh (Eg p) (Gf H03 O O O) O (JLh (.agg (Gp.cs p.s)) (Gh H5 O O O) O (Yv (G0 p.x.Slot.G4) O ?_)))
 obtain⟨r4,hr4,h⟩:=Gd h
 refine JLh (G0 r4) (Gu O (G9c p.s p.x.Slot.G4 r4 hr4) H98 ⟨O,O,O,O,G⟩) O (Yv (G0 r4) O (G7 (hK3 (Js fun hK5=>?_))))
 obtain⟨y6,hy6,h⟩:=Gd h
 obtain⟨r7,hr7,h⟩:=Gd h
 refine JC_d0 Qg (by kernel_rfl) (Dq (G0 r4) (G5 O O) O (Dq (BL (decide (0≤r4))) (Gb4 O O O) O (Dq (BL (decide (0≤r4))) (G5 O O) O (Do (Eg p) [] O .sct G (fun hc=>Gf H03 O O O) O (Do (Eg p) [16] O .sct ⟨Ua,G⟩ (fun hc=>Gf Jc O O O) O (Do (E3 p.s.Columns) [17] O .sct ⟨Ua,G⟩ (fun hc=>Gj Jv O O O) O (Do (G0 p.x.Slot.G4) [] O .sct G (fun hc=>G5 O O) O (Do (Ee y6) [18,19] O .sct ⟨Ua,Ua,G⟩ (fun hc=>(match Yd (H4 hc hy6) with | ⟨_,hm_,hy_⟩=>Hb (f:=G4.av) (xs:=p.s.Columns) (y:=y6) O O O Ji hy_ hm_)) O (Do (.dptr ((G4.cs y6).drop 2)) [20] O .sct ⟨Ua,G⟩ (fun hc=>Gf Yo O O O) O (Do (BL y6.Deck) [21] O .sct ⟨Ua,G⟩ (fun hc=>Gj Qv O O O) O (Do (.dptr [E0 p.open_,G0 p.x.G9,G0 p.x.Slot.G4,G0 p.x.Slot.Tier,U8 p.x.Slot.Half]) [] O .sct G (fun hc=>Gf Jb4 O O O) O (Do (E0 p.open_) [23] O .sct ⟨Ua,G⟩ (fun hc=>Gj G1a O O O) O (Do (G0 r4) [] O .sct G (fun hc=>G5 O O) O ?_)))))))))))))
 refine Do (BL r7) [24,25] O .sct ⟨Ua,Ua,G⟩ (fun hc=>Gu (args:=[E0 p.open_,G0 r4]) O (Yy p.open_ r4 r7 (H4 hc hr7)) H1e ⟨O,O,O,O,G⟩) O (Do (BL (y6.Deck==r7)) [22,26] O .sct ⟨Ua,Ua,G⟩ (fun hc=>Jaf G97 O O O) O (Dq (BL ((decide (0≤r4))&&(y6.Deck==r7))) (Qd O O O O) O (Dq (BL ((decide (0≤r4))&&(y6.Deck==r7))) (G8 O O) O (Dnil (hK5 (Gx (fin1 BL h)))))))

def R2 (y:Stowed) (p1:Hi):Option Bool:=
 bnd (G77 p1.x.Slot y.Slot) fun r3=>
 some r3
theorem H2e (y:Stowed) (p1:Hi) (r:Bool) (h:R2 y p1=some r):Pure Ek 76 [.agg (Stowed.cs y),Eg p1] (·=BL r):=by
 unfold R2 at h
 refine H6 [.tmp 3] Tryz.func76 O O (Jr fun hK1=>(JLh (.ptr 1140 0) (Jn (cs:=[G0 y.G9,G0 y.Slot.G4,G0 y.Slot.Tier,U8 y.Slot.Half]) 1140 O O O O O) O (Yv (BL false) O (G7 (hK1 (Gt [(1,Eg p1),(2,Ed y)] [] 1140 rfl rfl rfl G rfl (by exact⟨.conv (.same rfl),.ptr,G⟩) (Jr fun hK2=>(JLh (.dptr ((Hi.cs p1).drop 16)) (Gf G26 O O O) O (JLh (.dptr ((Hi.cs p1).drop 17)) (Gf Jq O O O) O (JLh (.agg ((Hi.cs p1).drop 17)) (Gh J9 O O O) O (JLh (.dptr ((Stowed.cs y).drop 1)) (Gf Jq O O O) O (JLh (.agg ((Stowed.cs y).drop 1)) (Gh J9 O O O) O ?_))))))))))))
 obtain⟨r3,hr3,h⟩:=Gd h
 refine JLh (BL r3) (Gu O (H8f p1.x.Slot y.Slot r3 hr3) J5d ⟨O,O,O,O,G⟩) O (Yv (BL r3) O (G7 (hK2 (Gx (fin1 BL h)))))

def Ju (s:List Stowed) (f:Stowed→Option Bool):Option Bool:=
 bnd (Q5 s f) fun r3=>
 some (decide (0≤r3))
theorem Zo (s:List Stowed) (f:Stowed→Option Bool) (f_f:FuncId) (f_c:List AV) (f_B:Hk Ek f_f=true) (f_d:Yp (fun _=>false) f_c=true) (f_w:∀ a0 q,f a0=some q→Pure Ek f_f ([.agg (Stowed.cs a0)]++f_c) (·=BL q)) (r:Bool) (h:Ju s f=some r):Pure Ek 59 [E1 s,.fn f_f f_c] (·=BL r):=by
 unfold Ju at h
 refine H6 [.tmp 4] Tryz.func59 O O (Jr fun hK1=>(Yv (BL false) O (G7 (hK1 (Jr fun hK2=>(Yv (E1 s) O (Yv (.fn f_f f_c) O ?_)))))))
 obtain⟨r3,hr3,h⟩:=Gd h
 refine JLh (G0 r3) (Gu O (G11 s f f_f f_c f_B f_d f_w r3 hr3) J52 ⟨O,O,O,f_d,G⟩) O (JLh (BL (decide (0≤r3))) (Gb4 O O O) O (Yv (BL (decide (0≤r3))) O (G7 (hK2 (Gx (fin1 BL h))))))

def Zh (p:Hi):Option Bool:=
 bnd (Ju p.l (fun z0=>R2 z0 p)) fun r3=>
 some r3
theorem H5d (p:Hi) (r:Bool) (h:Zh p=some r):Pure Ek 42 [.agg (Hi.cs p)] (·=BL r):=by
 unfold Zh at h
 refine H6 [.tmp 2] Tryz.func42 O O (Jr fun hK1=>(JLh (.ptr 1109 0) (Jn (cs:=(Hi.cs p)) 1109 O O O O O) O (Yv (BL false) O (G7 (hK1 ?_)))))
 refine Gt [(1,Eg p)] [] 1109 rfl rfl rfl G rfl (by exact⟨.ptr,G⟩) ?_
 refine Jr fun hK2=>(JLh (.dptr [E1 p.l,E0 p.open_,G0 p.x.G9,G0 p.x.Slot.G4,G0 p.x.Slot.Tier,U8 p.x.Slot.Half]) (Gf G5a O O O) O (JLh (E1 p.l) (Gj Qk O O O) O (JLh (.fn 76 [.dptr (Hi.cs p)]) (Yg (cs:=[.dptr (Hi.cs p)]) O O) O ?_)))
 obtain⟨r3,hr3,h⟩:=Gd h
 refine JLh (BL r3) (Gu O (Zo p.l (fun z0=>R2 z0 p) 76 [.dptr (Hi.cs p)] Jf3 O (fun z0 q hq=>H2e z0 p q hq) r3 hr3) J56 ⟨O,O,O,O,G⟩) O (Yv (BL r3) O (G7 (hK2 (Gx (fin1 BL h)))))

def Zv (p:Hi):Option Bool:=
 bnd (G4e p.l) fun r3=>
 bnd (G78 p.x.Slot r3) fun r4=>
 some (!r4)
theorem H2f (p:Hi) (r:Bool) (h:Zv p=some r):Pure Ek 43 [.agg (Hi.cs p)] (·=BL r):=by
 unfold Zv at h
 refine H6 [.tmp 2] Tryz.func43 O O (Jr fun hK1=>(JLh (.ptr 1110 0) (Jn (cs:=(Hi.cs p)) 1110 O O O O O) O (Yv (BL false) O (G7 (hK1 ?_)))))
 refine Gt [(1,Eg p)] [] 1110 rfl rfl rfl G rfl (by exact⟨.ptr,G⟩) (Js fun hK2=>?_)
 obtain⟨r3,hr3,h⟩:=Gd h
 obtain⟨r4,hr4,h⟩:=Gd h
 refine JC_d0 Qg (by kernel_rfl) (Dq (Ed p.x) (Gf G26 O O O) O (Dq (.dptr ((Stowed.cs p.x).drop 1)) (Gf Jq O O O) O (Dq (.agg ((Stowed.cs p.x).drop 1)) (Gh J9 O O O) O (Dq (.dptr [E1 p.l,E0 p.open_,G0 p.x.G9,G0 p.x.Slot.G4,G0 p.x.Slot.Tier,U8 p.x.Slot.Half]) (Gf G5a O O O) O (Dq (E1 p.l) (Gj Qk O O O) O (Dq (E4 r3) (Gu (args:=[E1 p.l]) O (H5c p.l r3 hr3) J60 ⟨O,O,G⟩) O (Dq (BL r4) (Gu (args:=[.agg ((Stowed.cs p.x).drop 1),E4 r3]) O (H90 p.x.Slot r3 r4 hr4) J5e ⟨O,O,O,O,G⟩) O (Dq (BL (!r4)) (Ru (b:=r4) O O) O (Dq (BL (!r4)) (G8 O O) O (Dnil (hK2 (Gx (fin1 BL h)))))))))))))

def Rb (F:Nat) (p:Hi):Option (List Stowed):=
 loop (fun nx10 (s10:Int)=>
  bnd (bif decide (s10 < (p.l.length:Int)) then Z2 p.l s10 some else some default) fun y13=>
  bif ((decide (s10 < (p.l.length:Int)))&&(decide (y13.G9 < p.x.G9))) then
  (G0d (s10+1) fun v14=>
   nx10 v14)
  else
  (bnd (Ra p.l s10 p.x) fun r16=>
   some r16)) F 0
theorem G75 (F:Nat) (p:Hi) (r:(List Stowed)) (h:Rb F p=some r):Pure Ek 45 [.agg (Hi.cs p)] (·=E1 r):=by
 unfold Rb at h
 refine H6 [.tmp 2] Tryz.func45 O O (Jr fun hK1=>(JLh (.ptr 1112 0) (Jn (cs:=(Hi.cs p)) 1112 O O O O O) O (JLh (E1 ([]:List Stowed)) (Hf 4 O O) O (G7 (hK1 ?_)))))
 refine Gt [(1,Eg p)] [] 1112 rfl rfl rfl G rfl (by exact⟨.ptr,G⟩) (Jr fun hK2=>(Yv (G0 0) O (G7 (hK2 (Js fun hK3=>Gw ?_)))))
 obtain⟨b10,hb10,h⟩:=loop_in h
 refine Hp (fun i10 (s10:Int)=>loop b10 i10 s10=some r) (fun i10 s10=>[(1,Eg p),(3,G0 s10)]) (fun i10 s10=>[]) (fun i10=>i10) F 0 h ⟨⟨.same O,.same O,G⟩,G,O⟩ ?_
 clear h
 intro i10 s10 hi10 K10 e10
 obtain⟨m10,nx10,hm_10,hn10,h⟩:=J7f hi10
 replace h:=app2 hb10 h
 refine Js fun hK11=>Js fun hK12=>?_
 obtain⟨y13,hy13,h⟩:=Gd h
 refine JC_d0 Qg (by kernel_rfl) (Dq (G0 s10) (G5 O O) O (Dq (.dptr [E1 p.l,E0 p.open_,G0 p.x.G9,G0 p.x.Slot.G4,G0 p.x.Slot.Tier,U8 p.x.Slot.Half]) (Gf G5a O O O) O (Dq (E1 p.l) (Gj Qk O O O) O (Dq (Ej p.l.length) (Zj (f:=Stowed.av) (xs:=p.l) H2 O O) O (Dq (BL (decide (s10 < (p.l.length:Int)))) (Jb O O O) O (Dq (BL (decide (s10 < (p.l.length:Int)))) (G5 O O) O (Do (.dptr [E1 p.l,E0 p.open_,G0 p.x.G9,G0 p.x.Slot.G4,G0 p.x.Slot.Tier,U8 p.x.Slot.Half]) [] O .sct G (fun hc=>Gf G5a O O O) O (Do (E1 p.l) [10] O .sct ⟨Ua,G⟩ (fun hc=>Gj Qk O O O) O (Do (G0 s10) [] O .sct G (fun hc=>G5 O O) O (Do (Ed y13) [11,12] O .sct ⟨Ua,Ua,G⟩ (fun hc=>(match Yd (H4 hc hy13) with | ⟨_,hm_,hy_⟩=>Hb (f:=Stowed.av) (xs:=p.l) (y:=y13) O O O H2 hy_ hm_)) O (Do (Ed y13) [13] O .sct ⟨Ua,G⟩ (fun hc=>Gf Hg O O O) O (Do (G0 y13.G9) [14] O .sct ⟨Ua,G⟩ (fun hc=>Gj Gb O O O) O (Do (Ed p.x) [] O .sct G (fun hc=>Gf G26 O O O) O ?_)))))))))))))
 refine Do (Ed p.x) [16] O .sct ⟨Ua,G⟩ (fun hc=>Gf Hg O O O) O (Do (G0 p.x.G9) [17] O .sct ⟨Ua,G⟩ (fun hc=>Gj Gb O O O) O (Do (BL (decide (y13.G9 < p.x.G9))) [15,18] O .sct ⟨Ua,Ua,G⟩ (fun hc=>Jb O O O) O (Dq (BL ((decide (s10 < (p.l.length:Int)))&&(decide (y13.G9 < p.x.G9)))) (Qd O O O O) O (Dnil (hK12 (JCc O h (fun h hb=>?_) (fun h hb=>?_)))))))
 ·
  refine Gr (hK11 (Gw (G3 (Yv (G0 s10) O ?_))))
  obtain⟨v14,hv14,h⟩:=Jp h
  refine JLh (G0 v14) (Hx hv14 O O O) O (Yv (G0 v14) O (G7 (e10 _ _ m10 v14 (app1 hn10 h) (by omega) ⟨⟨.same rfl,.same rfl,G⟩,G,rfl⟩)))
 ·
  refine Ht (hK3 (Jr fun hK15=>(JLh (.dptr [E1 p.l,E0 p.open_,G0 p.x.G9,G0 p.x.Slot.G4,G0 p.x.Slot.Tier,U8 p.x.Slot.Half]) (Gf G5a O O O) O (JLh (E1 p.l) (Gj Qk O O O) O (Yv (G0 s10) O (JLh (Ed p.x) (Gf G26 O O O) O (JLh (.agg (Stowed.cs p.x)) (Gh R4 O O O) O ?_)))))))
  obtain⟨r16,hr16,h⟩:=Gd h
  refine JLh (E1 r16) (Gu O (H14.down p.l s10 p.x r16 hr16) Jf2 ⟨O,O,O,O,O,O,G⟩) O (Yv (E1 r16) O (G7 (hK15 (Gx (fin1 (fun r:(List Stowed)=>(E1 r:AV)) h)))))

def G0a (F:Nat) (p:Hi):Option Bool:=
 bnd (Rb F p) fun r3=>
 bnd (G3e p.s p.boxes r3 p.x.Slot.G4) fun r4=>
 some (!r4)
theorem H3f (F:Nat) (p:Hi) (r:Bool) (h:G0a F p=some r):Pure Ek 44 [.agg (Hi.cs p)] (·=BL r):=by
 unfold G0a at h
 refine H6 [.tmp 2] Tryz.func44 O O (Jr fun hK1=>(JLh (.ptr 1111 0) (Jn (cs:=(Hi.cs p)) 1111 O O O O O) O (Yv (BL false) O (G7 (hK1 ?_)))))
 refine Gt [(1,Eg p)] [] 1111 rfl rfl rfl G rfl (by exact⟨.ptr,G⟩) (Js fun hK2=>?_)
 obtain⟨r3,hr3,h⟩:=Gd h
 obtain⟨r4,hr4,h⟩:=Gd h
 refine JC_d0 Qg (by kernel_rfl) (Dq (Eg p) (Gf H03 O O O) O (Dq (.agg (Gp.cs p.s)) (Gh H5 O O O) O (Dq (.dptr [E2 p.boxes,E1 p.l,E0 p.open_,G0 p.x.G9,G0 p.x.Slot.G4,G0 p.x.Slot.Tier,U8 p.x.Slot.Half]) (Gf Jb5 O O O) O (Dq (E2 p.boxes) (Gj Yh O O O) O (Dq (.agg (Hi.cs p)) (Gh Gd0 O O O) O (Dq (E1 r3) (Gu (args:=[.agg (Hi.cs p)]) O (G75 F p r3 hr3) J5b ⟨O,O,G⟩) O (Dq (Ed p.x) (Gf G26 O O O) O (Dq (.dptr ((Stowed.cs p.x).drop 1)) (Gf Jq O O O) O (Dq (.dptr ((Stowed.cs p.x).drop 1)) (Gf Jy O O O) O (Dq (G0 p.x.Slot.G4) (Gj Gb O O O) O (Dq (BL r4) (Gu (args:=[.agg (Gp.cs p.s),E2 p.boxes,E1 r3,G0 p.x.Slot.G4]) O (H8d p.s p.boxes r3 p.x.Slot.G4 r4 hr4) J5c ⟨O,O,O,O,O,O,O,O,G⟩) O (Dq (BL (!r4)) (Ru (b:=r4) O O) O (Dq (BL (!r4)) (G8 O O) O (Dnil ?_))))))))))))))
 refine hK2 (Gx (fin1 BL h))

def G06 (F:Nat) (s:Gp) (boxes:List G9) (l:List Stowed) (open_:List Int) (x:Stowed):Option ((List Stowed)×Int):=
 bnd (Qp s boxes l open_) fun r4=>
 bif (!r4) then
 (some ([],2))
 else
 (bnd (Zw boxes x.G9) fun r7=>
  bif ((!r7.2)||((decide (r7.1.Size≠20))&&(decide (r7.1.Size≠40)))) then
  (some ([],6))
  else
  (bnd (Rq l x.G9) fun r12=>
   bif decide (0≤r12) then
   (some ([],96))
   else
   (bnd (G51 s x.Slot r7.1.Size) fun r15=>
    bif (!r15) then
    (some ([],97))
    else
    (need (decide (4≤9223372036854775807)) <|
     upto (fun i60 (s60:Unit) nx60=>
      jp (fun kj63=>
       bif decide ((i60:Int)=0) then
       (bnd (Z7 (Hi.mk s boxes l open_ x)) fun r67=>
        bif r67 then
        (G0d (91+(i60:Int)) fun v69=>
         some ([],v69))
        else
        (kj63 ()))
       else
       (bif decide ((i60:Int)=1) then
        (bnd (Zh (Hi.mk s boxes l open_ x)) fun r71=>
         bif r71 then
         (G0d (91+(i60:Int)) fun v73=>
          some ([],v73))
         else
         (kj63 ()))
        else
        (bif decide ((i60:Int)=2) then
         (bnd (Zv (Hi.mk s boxes l open_ x)) fun r75=>
          bif r75 then
          (G0d (91+(i60:Int)) fun v77=>
           some ([],v77))
          else
          (kj63 ()))
         else
         (bif decide ((i60:Int)=3) then
          (bnd (G0a F (Hi.mk s boxes l open_ x)) fun r79=>
           bif r79 then
           (G0d (91+(i60:Int)) fun v81=>
            some ([],v81))
           else
           (kj63 ()))
          else
          (none))))) fun(j63:Unit)=>
      nx60 ())
     (fun(s60:Unit)=>
      bnd (Rb F (Hi.mk s boxes l open_ x)) fun r83=>
      some (r83,0)) (4:Int).toNat 0 ()))))
theorem Hd8 (F:Nat) (s:Gp) (boxes:List G9) (l:List Stowed) (open_:List Int) (x:Stowed) (r:(List Stowed)×Int) (h:G06 F s boxes l open_ x=some r):Pure Ek 17 [.agg (Gp.cs s),E2 boxes,E1 l,E0 open_,.agg (Stowed.cs x)] (·=.tup [E1 r.1,G0 r.2]):=by
 unfold G06 at h
 refine H6 [.tmp 10,.tmp 11] Tryz.func17 O O (Jr fun hK1=>(JLh (.ptr 1049 0) (Jn (cs:=(Gp.cs s)) 1049 O O O O O) O (JLh (.ptr 1050 0) (Jn (cs:=[G0 x.G9,G0 x.Slot.G4,G0 x.Slot.Tier,U8 x.Slot.Half]) 1050 O O O O O) O (JLh (E1 ([]:List Stowed)) (Hf 4 O O) O (Yv (G0 0) O (G7 (hK1 ?_)))))))
 refine Gt [(1,E2 boxes),(2,E1 l),(3,E0 open_),(5,Ec s),(9,.ptr 1050 0)] [(1050,.box 49 [G0 x.G9,G0 x.Slot.G4,G0 x.Slot.Tier,U8 x.Slot.Half])] 1049 rfl rfl rfl ⟨⟨_,rfl,.boxEq rfl rfl⟩,G⟩ rfl (by repeat' (first | exact .ptr | constructor)) ?_
 refine Gt [(1,E2 boxes),(2,E1 l),(3,E0 open_),(5,Ec s),(9,Ed x)] [] 1050 rfl rfl rfl G rfl (by repeat' (first | exact .ptr | constructor)) (Js fun hK2=>?_)
 refine Jr fun hK3=>(JLh (.agg (Gp.cs s)) (Gh H5 O O O) O (Yv (E2 boxes) O (Yv (E1 l) O (Yv (E0 open_) O ?_))))
 obtain⟨r4,hr4,h⟩:=Gd h
 refine JLh (BL r4) (Gu O (G50 s boxes l open_ r4 hr4) H1f ⟨O,O,O,O,O,O,O,O,G⟩) O (JLh (BL (!r4)) (Ru (b:=r4) O O) O (G7 (hK3 (JCc O h (fun h hb=>?_) (fun h hb=>?_)))))
 ·
  refine Jr fun hK5=>(JLh (E1 ([]:List Stowed)) (Hf 4 O O) O (Yv (G0 2) O (G7 (hK5 (Gx (⟨[E1 ([]:List Stowed),G0 2],[],G,O,⟨⟨_,O,.conv (.same O)⟩,⟨_,O,.conv (.same O)⟩,G⟩,O,congrArg (fun r:(List Stowed)×Int=>(.tup [E1 r.1,G0 r.2]:AV)) (Option.some.inj h)⟩))))))
 ·
  refine Gr (hK2 (Jr fun hK6=>(Yv (E2 boxes) O (JLh (Ed x) (Gf Hg O O O) O (JLh (G0 x.G9) (Gj Gb O O O) O ?_)))))
  obtain⟨r7,hr7,h⟩:=Gd h
  refine JLh (.tup [.agg (G9.cs r7.1),BL r7.2]) (Gu O (G61 boxes x.G9 r7 hr7) Gd4 ⟨O,O,O,O,G⟩) O (Yv (.tup [.agg (G9.cs r7.1),BL r7.2]) O (JLh (.agg (G9.cs r7.1)) (Gn O O O) O (JLh (BL r7.2) (Gn O O O) O (JLh (.ptr 1051 0) (Hu 1051 9 Y5 O O) O (Hw (u:=.junk) (Hj (u:=.agg (G9.cs r7.1)) (ds:=(G9.cs r7.1)) G00 O O O O O O O O) (Yv (BL r7.2) O (G7 (hK6 ?_))))))))
  refine Gt [(1,E2 boxes),(2,E1 l),(3,E0 open_),(5,Ec s),(9,Ed x),(12,Ef r7.1),(13,BL r7.2)] [] 1051 rfl rfl rfl G rfl (by repeat' (first | exact .ptr | constructor)) (Js fun hK8=>Gw ?_)
  refine Jr fun hK9=>(Yv (BL r7.2) O (JLh (BL (!r7.2)) (Ru (b:=r7.2) O O) O (Yv (BL (!r7.2)) O (JLo (.dptr ((G9.cs r7.1).drop 2)) [] O .scf G (fun hc=>Gf Rv O O O) O (JLo (U8 r7.1.Size) [34] O .scf ⟨Ua,G⟩ (fun hc=>Gj Ja O O O) O (JLo (BL (decide (r7.1.Size≠20))) [35] O .scf ⟨Ua,G⟩ (fun hc=>Zy O O O) O (JLo (BL (decide (r7.1.Size≠20))) [36] O .scf ⟨Ua,G⟩ (fun hc=>G5 O O) O (JLo (.dptr ((G9.cs r7.1).drop 2)) [] O .optt G (fun hc=>Gf Rv O O O) O (JLo (U8 r7.1.Size) [38] O .optt ⟨Ua,G⟩ (fun hc=>Gj Ja O O O) O (JLo (BL (decide (r7.1.Size≠40))) [39] O .optt ⟨Ua,G⟩ (fun hc=>Zy O O O) O (Gc (u:=BL ((decide (r7.1.Size≠20))&&(decide (r7.1.Size≠40)))) [(37,BL (decide (r7.1.Size≠20))),(40,_)] O O O .scf ⟨.all id,.part,G⟩ (fun hc=>Qd O O O O) ?_)))))))))))
  refine JLh (BL ((!r7.2)||((decide (r7.1.Size≠20))&&(decide (r7.1.Size≠40))))) (Zn O O O O) O (Yv (BL ((!r7.2)||((decide (r7.1.Size≠20))&&(decide (r7.1.Size≠40))))) O (G7 (hK9 (JCc O h (fun h hb=>?_) (fun h hb=>?_)))))
  ·
   refine Jr fun hK10=>(JLh (E1 ([]:List Stowed)) (Hf 4 O O) O (Yv (G0 6) O (G7 (hK10 (Gx (⟨[E1 ([]:List Stowed),G0 6],[],G,O,⟨⟨_,O,.conv (.same O)⟩,⟨_,O,.conv (.same O)⟩,G⟩,O,congrArg (fun r:(List Stowed)×Int=>(.tup [E1 r.1,G0 r.2]:AV)) (Option.some.inj h)⟩))))))
  ·
   refine Jr fun hK11=>(Yv (E1 l) O (JLh (Ed x) (Gf Hg O O O) O (JLh (G0 x.G9) (Gj Gb O O O) O ?_)))
   obtain⟨r12,hr12,h⟩:=Gd h
   refine JLh (G0 r12) (Gu O (G29 l x.G9 r12 hr12) G93 ⟨O,O,O,O,G⟩) O (JLh (BL (decide (0≤r12))) (Gb4 O O O) O (Yv (BL (decide (0≤r12))) O (G7 (hK11 (JCc O h (fun h hb=>?_) (fun h hb=>?_))))))
   ·
    refine Jr fun hK13=>(JLh (E1 ([]:List Stowed)) (Hf 4 O O) O (Yv (G0 96) O (G7 (hK13 (Gx (⟨[E1 ([]:List Stowed),G0 96],[],G,O,⟨⟨_,O,.conv (.same O)⟩,⟨_,O,.conv (.same O)⟩,G⟩,O,congrArg (fun r:(List Stowed)×Int=>(.tup [E1 r.1,G0 r.2]:AV)) (Option.some.inj h)⟩))))))
   ·
    refine Jr fun hK14=>(JLh (.agg (Gp.cs s)) (Gh H5 O O O) O (JLh (.dptr ((Stowed.cs x).drop 1)) (Gf Jq O O O) O (JLh (.agg ((Stowed.cs x).drop 1)) (Gh J9 O O O) O (JLh (.dptr ((G9.cs r7.1).drop 2)) (Gf Rv O O O) O (JLh (U8 r7.1.Size) (Gj Ja O O O) O ?_)))))
    obtain⟨r15,hr15,h⟩:=Gd h
    refine JLh (BL r15) (Gu O (H60 s x.Slot r7.1.Size r15 hr15) J5f ⟨O,O,O,O,O,O,G⟩) O (JLh (BL (!r15)) (Ru (b:=r15) O O) O (Yv (BL (!r15)) O (G7 (hK14 (JCc O h (fun h hb=>?_) (fun h hb=>?_))))))
    ·
     refine Jr fun hK16=>(JLh (E1 ([]:List Stowed)) (Hf 4 O O) O (Yv (G0 97) O (G7 (hK16 (Gx (⟨[E1 ([]:List Stowed),G0 97],[],G,O,⟨⟨_,O,.conv (.same O)⟩,⟨_,O,.conv (.same O)⟩,G⟩,O,congrArg (fun r:(List Stowed)×Int=>(.tup [E1 r.1,G0 r.2]:AV)) (Option.some.inj h)⟩))))))
    ·
     refine Gr (hK8 ?_)
     refine Jr fun hK17=>(JLh (.agg (Gp.cs s)) (Gh H5 O O O) O (Yv (E2 boxes) O (Yv (E1 l) O (Yv (E0 open_) O (JLh (.agg (Stowed.cs x)) (Gh R4 O O O) O (JLh (.agg [E3 s.Columns,E8 s.Covers,G0 s.Light.Kilos,G0 s.Light.X,G0 s.Light.Y,G0 s.Light.Z,E5 s.Rows,E6 s.Frames,E7 s.Tanks,G0 s.G2.Tolerance,G0 s.G2.Trim,G0 s.G2.List_,G0 s.G2.Stability,E2 boxes,E1 l,E0 open_,G0 x.G9,G0 x.Slot.G4,G0 x.Slot.Tier,U8 x.Slot.Half]) (Hz (cs:=[E3 s.Columns,E8 s.Covers,G0 s.Light.Kilos,G0 s.Light.X,G0 s.Light.Y,G0 s.Light.Z,E5 s.Rows,E6 s.Frames,E7 s.Tanks,G0 s.G2.Tolerance,G0 s.G2.Trim,G0 s.G2.List_,G0 s.G2.Stability,E2 boxes,E1 l,E0 open_,G0 x.G9,G0 x.Slot.G4,G0 x.Slot.Tier,U8 x.Slot.Half]) [(0,13),(13,1),(14,1),(15,1),(16,4)] [E3 ([]:List G4),E8 ([]:List Ga),G0 0,G0 0,G0 0,G0 0,E5 ([]:List Row),E6 ([]:List Frame),E7 ([]:List Gk),G0 0,G0 0,G0 0,G0 0,E2 ([]:List G9),E1 ([]:List Stowed),E0 ([]:List Int),G0 0,G0 0,G0 0,U8 0] [.slice none 0 0,.slice none 0 0,.int .i64 0,.int .i64 0,.int .i64 0,.int .i64 0,.slice none 0 0,.slice none 0 0,.slice none 0 0,.int .i64 0,.int .i64 0,.int .i64 0,.int .i64 0,.slice none 0 0,.slice none 0 0,.slice none 0 0,.int .i64 0,.int .i64 0,.int .i64 0,.int .u8 0] Jc1 Je8 ⟨.inr ⟨_,O,O⟩,.inr ⟨_,O,O⟩,.inl O,.inl O,.inl O,.inl O,.inr ⟨_,O,O⟩,.inr ⟨_,O,O⟩,.inr ⟨_,O,O⟩,.inl O,.inl O,.inl O,.inl O,.inr ⟨_,O,O⟩,.inr ⟨_,O,O⟩,.inr ⟨_,O,O⟩,.inl O,.inl O,.inl O,.inl O,G⟩ O O) O (JLh (.ptr 1052 0) (Hu 1052 20 Jc9 O O) O (Hw (u:=.junk) (Hj (u:=.agg [E3 s.Columns,E8 s.Covers,G0 s.Light.Kilos,G0 s.Light.X,G0 s.Light.Y,G0 s.Light.Z,E5 s.Rows,E6 s.Frames,E7 s.Tanks,G0 s.G2.Tolerance,G0 s.G2.Trim,G0 s.G2.List_,G0 s.G2.Stability,E2 boxes,E1 l,E0 open_,G0 x.G9,G0 x.Slot.G4,G0 x.Slot.Tier,U8 x.Slot.Half]) (ds:=[E3 s.Columns,E8 s.Covers,G0 s.Light.Kilos,G0 s.Light.X,G0 s.Light.Y,G0 s.Light.Z,E5 s.Rows,E6 s.Frames,E7 s.Tanks,G0 s.G2.Tolerance,G0 s.G2.Trim,G0 s.G2.List_,G0 s.G2.Stability,E2 boxes,E1 l,E0 open_,G0 x.G9,G0 x.Slot.G4,G0 x.Slot.Tier,U8 x.Slot.Half]) Je9 O O O O O O O O) (G7 (hK17 ?_))))))))))
     refine Gt [(14,.dptr [E3 s.Columns,E8 s.Covers,G0 s.Light.Kilos,G0 s.Light.X,G0 s.Light.Y,G0 s.Light.Z,E5 s.Rows,E6 s.Frames,E7 s.Tanks,G0 s.G2.Tolerance,G0 s.G2.Trim,G0 s.G2.List_,G0 s.G2.Stability,E2 boxes,E1 l,E0 open_,G0 x.G9,G0 x.Slot.G4,G0 x.Slot.Tier,U8 x.Slot.Half])] [] 1052 rfl rfl rfl G rfl (by exact⟨.ptr,G⟩) (Js fun hK18=>?_)
     refine Jr fun hK19=>(JLh (.agg [E3 s.Columns,E8 s.Covers,G0 s.Light.Kilos,G0 s.Light.X,G0 s.Light.Y,G0 s.Light.Z,E5 s.Rows,E6 s.Frames,E7 s.Tanks,G0 s.G2.Tolerance,G0 s.G2.Trim,G0 s.G2.List_,G0 s.G2.Stability,E2 boxes,E1 l,E0 open_,G0 x.G9,G0 x.Slot.G4,G0 x.Slot.Tier,U8 x.Slot.Half]) (Gh Gd0 O O O) O (JLh (.bfn 41 [.agg [E3 s.Columns,E8 s.Covers,G0 s.Light.Kilos,G0 s.Light.X,G0 s.Light.Y,G0 s.Light.Z,E5 s.Rows,E6 s.Frames,E7 s.Tanks,G0 s.G2.Tolerance,G0 s.G2.Trim,G0 s.G2.List_,G0 s.G2.Stability,E2 boxes,E1 l,E0 open_,G0 x.G9,G0 x.Slot.G4,G0 x.Slot.Tier,U8 x.Slot.Half]]) (Gff (cs:=[.agg [E3 s.Columns,E8 s.Covers,G0 s.Light.Kilos,G0 s.Light.X,G0 s.Light.Y,G0 s.Light.Z,E5 s.Rows,E6 s.Frames,E7 s.Tanks,G0 s.G2.Tolerance,G0 s.G2.Trim,G0 s.G2.List_,G0 s.G2.Stability,E2 boxes,E1 l,E0 open_,G0 x.G9,G0 x.Slot.G4,G0 x.Slot.Tier,U8 x.Slot.Half]]) O O) O (JLh (.agg [E3 s.Columns,E8 s.Covers,G0 s.Light.Kilos,G0 s.Light.X,G0 s.Light.Y,G0 s.Light.Z,E5 s.Rows,E6 s.Frames,E7 s.Tanks,G0 s.G2.Tolerance,G0 s.G2.Trim,G0 s.G2.List_,G0 s.G2.Stability,E2 boxes,E1 l,E0 open_,G0 x.G9,G0 x.Slot.G4,G0 x.Slot.Tier,U8 x.Slot.Half]) (Gh Gd0 O O O) O (JLh (.bfn 42 [.agg [E3 s.Columns,E8 s.Covers,G0 s.Light.Kilos,G0 s.Light.X,G0 s.Light.Y,G0 s.Light.Z,E5 s.Rows,E6 s.Frames,E7 s.Tanks,G0 s.G2.Tolerance,G0 s.G2.Trim,G0 s.G2.List_,G0 s.G2.Stability,E2 boxes,E1 l,E0 open_,G0 x.G9,G0 x.Slot.G4,G0 x.Slot.Tier,U8 x.Slot.Half]]) (Gff (cs:=[.agg [E3 s.Columns,E8 s.Covers,G0 s.Light.Kilos,G0 s.Light.X,G0 s.Light.Y,G0 s.Light.Z,E5 s.Rows,E6 s.Frames,E7 s.Tanks,G0 s.G2.Tolerance,G0 s.G2.Trim,G0 s.G2.List_,G0 s.G2.Stability,E2 boxes,E1 l,E0 open_,G0 x.G9,G0 x.Slot.G4,G0 x.Slot.Tier,U8 x.Slot.Half]]) O O) O (JLh (.agg [E3 s.Columns,E8 s.Covers,G0 s.Light.Kilos,G0 s.Light.X,G0 s.Light.Y,G0 s.Light.Z,E5 s.Rows,E6 s.Frames,E7 s.Tanks,G0 s.G2.Tolerance,G0 s.G2.Trim,G0 s.G2.List_,G0 s.G2.Stability,E2 boxes,E1 l,E0 open_,G0 x.G9,G0 x.Slot.G4,G0 x.Slot.Tier,U8 x.Slot.Half]) (Gh Gd0 O O O) O (JLh (.bfn 43 [.agg [E3 s.Columns,E8 s.Covers,G0 s.Light.Kilos,G0 s.Light.X,G0 s.Light.Y,G0 s.Light.Z,E5 s.Rows,E6 s.Frames,E7 s.Tanks,G0 s.G2.Tolerance,G0 s.G2.Trim,G0 s.G2.List_,G0 s.G2.Stability,E2 boxes,E1 l,E0 open_,G0 x.G9,G0 x.Slot.G4,G0 x.Slot.Tier,U8 x.Slot.Half]]) (Gff (cs:=[.agg [E3 s.Columns,E8 s.Covers,G0 s.Light.Kilos,G0 s.Light.X,G0 s.Light.Y,G0 s.Light.Z,E5 s.Rows,E6 s.Frames,E7 s.Tanks,G0 s.G2.Tolerance,G0 s.G2.Trim,G0 s.G2.List_,G0 s.G2.Stability,E2 boxes,E1 l,E0 open_,G0 x.G9,G0 x.Slot.G4,G0 x.Slot.Tier,U8 x.Slot.Half]]) O O) O (JLh (.agg [E3 s.Columns,E8 s.Covers,G0 s.Light.Kilos,G0 s.Light.X,G0 s.Light.Y,G0 s.Light.Z,E5 s.Rows,E6 s.Frames,E7 s.Tanks,G0 s.G2.Tolerance,G0 s.G2.Trim,G0 s.G2.List_,G0 s.G2.Stability,E2 boxes,E1 l,E0 open_,G0 x.G9,G0 x.Slot.G4,G0 x.Slot.Tier,U8 x.Slot.Half]) (Gh Gd0 O O O) O (JLh (.bfn 44 [.agg [E3 s.Columns,E8 s.Covers,G0 s.Light.Kilos,G0 s.Light.X,G0 s.Light.Y,G0 s.Light.Z,E5 s.Rows,E6 s.Frames,E7 s.Tanks,G0 s.G2.Tolerance,G0 s.G2.Trim,G0 s.G2.List_,G0 s.G2.Stability,E2 boxes,E1 l,E0 open_,G0 x.G9,G0 x.Slot.G4,G0 x.Slot.Tier,U8 x.Slot.Half]]) (Gff (cs:=[.agg [E3 s.Columns,E8 s.Covers,G0 s.Light.Kilos,G0 s.Light.X,G0 s.Light.Y,G0 s.Light.Z,E5 s.Rows,E6 s.Frames,E7 s.Tanks,G0 s.G2.Tolerance,G0 s.G2.Trim,G0 s.G2.List_,G0 s.G2.Stability,E2 boxes,E1 l,E0 open_,G0 x.G9,G0 x.Slot.G4,G0 x.Slot.Tier,U8 x.Slot.Half]]) O O) O (JLh (.agg [.bfn 41 [.agg [E3 s.Columns,E8 s.Covers,G0 s.Light.Kilos,G0 s.Light.X,G0 s.Light.Y,G0 s.Light.Z,E5 s.Rows,E6 s.Frames,E7 s.Tanks,G0 s.G2.Tolerance,G0 s.G2.Trim,G0 s.G2.List_,G0 s.G2.Stability,E2 boxes,E1 l,E0 open_,G0 x.G9,G0 x.Slot.G4,G0 x.Slot.Tier,U8 x.Slot.Half]],.bfn 42 [.agg [E3 s.Columns,E8 s.Covers,G0 s.Light.Kilos,G0 s.Light.X,G0 s.Light.Y,G0 s.Light.Z,E5 s.Rows,E6 s.Frames,E7 s.Tanks,G0 s.G2.Tolerance,G0 s.G2.Trim,G0 s.G2.List_,G0 s.G2.Stability,E2 boxes,E1 l,E0 open_,G0 x.G9,G0 x.Slot.G4,G0 x.Slot.Tier,U8 x.Slot.Half]],.bfn 43 [.agg [E3 s.Columns,E8 s.Covers,G0 s.Light.Kilos,G0 s.Light.X,G0 s.Light.Y,G0 s.Light.Z,E5 s.Rows,E6 s.Frames,E7 s.Tanks,G0 s.G2.Tolerance,G0 s.G2.Trim,G0 s.G2.List_,G0 s.G2.Stability,E2 boxes,E1 l,E0 open_,G0 x.G9,G0 x.Slot.G4,G0 x.Slot.Tier,U8 x.Slot.Half]],.bfn 44 [.agg [E3 s.Columns,E8 s.Covers,G0 s.Light.Kilos,G0 s.Light.X,G0 s.Light.Y,G0 s.Light.Z,E5 s.Rows,E6 s.Frames,E7 s.Tanks,G0 s.G2.Tolerance,G0 s.G2.Trim,G0 s.G2.List_,G0 s.G2.Stability,E2 boxes,E1 l,E0 open_,G0 x.G9,G0 x.Slot.G4,G0 x.Slot.Tier,U8 x.Slot.Half]]]) (Gec (cs:=[.bfn 41 [.agg [E3 s.Columns,E8 s.Covers,G0 s.Light.Kilos,G0 s.Light.X,G0 s.Light.Y,G0 s.Light.Z,E5 s.Rows,E6 s.Frames,E7 s.Tanks,G0 s.G2.Tolerance,G0 s.G2.Trim,G0 s.G2.List_,G0 s.G2.Stability,E2 boxes,E1 l,E0 open_,G0 x.G9,G0 x.Slot.G4,G0 x.Slot.Tier,U8 x.Slot.Half]],.bfn 42 [.agg [E3 s.Columns,E8 s.Covers,G0 s.Light.Kilos,G0 s.Light.X,G0 s.Light.Y,G0 s.Light.Z,E5 s.Rows,E6 s.Frames,E7 s.Tanks,G0 s.G2.Tolerance,G0 s.G2.Trim,G0 s.G2.List_,G0 s.G2.Stability,E2 boxes,E1 l,E0 open_,G0 x.G9,G0 x.Slot.G4,G0 x.Slot.Tier,U8 x.Slot.Half]],.bfn 43 [.agg [E3 s.Columns,E8 s.Covers,G0 s.Light.Kilos,G0 s.Light.X,G0 s.Light.Y,G0 s.Light.Z,E5 s.Rows,E6 s.Frames,E7 s.Tanks,G0 s.G2.Tolerance,G0 s.G2.Trim,G0 s.G2.List_,G0 s.G2.Stability,E2 boxes,E1 l,E0 open_,G0 x.G9,G0 x.Slot.G4,G0 x.Slot.Tier,U8 x.Slot.Half]],.bfn 44 [.agg [E3 s.Columns,E8 s.Covers,G0 s.Light.Kilos,G0 s.Light.X,G0 s.Light.Y,G0 s.Light.Z,E5 s.Rows,E6 s.Frames,E7 s.Tanks,G0 s.G2.Tolerance,G0 s.G2.Trim,G0 s.G2.List_,G0 s.G2.Stability,E2 boxes,E1 l,E0 open_,G0 x.G9,G0 x.Slot.G4,G0 x.Slot.Tier,U8 x.Slot.Half]]]) [.nilFunc,.nilFunc,.nilFunc,.nilFunc] tf_arr_98 Je7 O O) O (Yv (G0 0) O (G7 (hK19 ?_))))))))))))
     refine Gw ?_
     obtain⟨hx60,h⟩:=J7 h
     obtain⟨b60,kx60,hb60,hkx60,h⟩:=J33 h
     refine Hp (fun i60 (s60:Unit)=>upto b60 kx60 ((4:Int).toNat - i60) i60 s60=some r) (fun i60 s60=>[(14,.dptr [E3 s.Columns,E8 s.Covers,G0 s.Light.Kilos,G0 s.Light.X,G0 s.Light.Y,G0 s.Light.Z,E5 s.Rows,E6 s.Frames,E7 s.Tanks,G0 s.G2.Tolerance,G0 s.G2.Trim,G0 s.G2.List_,G0 s.G2.Stability,E2 boxes,E1 l,E0 open_,G0 x.G9,G0 x.Slot.G4,G0 x.Slot.Tier,U8 x.Slot.Half]),(71,.agg [.bfn 41 [.agg [E3 s.Columns,E8 s.Covers,G0 s.Light.Kilos,G0 s.Light.X,G0 s.Light.Y,G0 s.Light.Z,E5 s.Rows,E6 s.Frames,E7 s.Tanks,G0 s.G2.Tolerance,G0 s.G2.Trim,G0 s.G2.List_,G0 s.G2.Stability,E2 boxes,E1 l,E0 open_,G0 x.G9,G0 x.Slot.G4,G0 x.Slot.Tier,U8 x.Slot.Half]],.bfn 42 [.agg [E3 s.Columns,E8 s.Covers,G0 s.Light.Kilos,G0 s.Light.X,G0 s.Light.Y,G0 s.Light.Z,E5 s.Rows,E6 s.Frames,E7 s.Tanks,G0 s.G2.Tolerance,G0 s.G2.Trim,G0 s.G2.List_,G0 s.G2.Stability,E2 boxes,E1 l,E0 open_,G0 x.G9,G0 x.Slot.G4,G0 x.Slot.Tier,U8 x.Slot.Half]],.bfn 43 [.agg [E3 s.Columns,E8 s.Covers,G0 s.Light.Kilos,G0 s.Light.X,G0 s.Light.Y,G0 s.Light.Z,E5 s.Rows,E6 s.Frames,E7 s.Tanks,G0 s.G2.Tolerance,G0 s.G2.Trim,G0 s.G2.List_,G0 s.G2.Stability,E2 boxes,E1 l,E0 open_,G0 x.G9,G0 x.Slot.G4,G0 x.Slot.Tier,U8 x.Slot.Half]],.bfn 44 [.agg [E3 s.Columns,E8 s.Covers,G0 s.Light.Kilos,G0 s.Light.X,G0 s.Light.Y,G0 s.Light.Z,E5 s.Rows,E6 s.Frames,E7 s.Tanks,G0 s.G2.Tolerance,G0 s.G2.Trim,G0 s.G2.List_,G0 s.G2.Stability,E2 boxes,E1 l,E0 open_,G0 x.G9,G0 x.Slot.G4,G0 x.Slot.Tier,U8 x.Slot.Half]]]),(72,Ej i60)]) (fun i60 s60=>[]) (fun i60=>(4:Int).toNat - i60) 0 () h ⟨⟨.same O,.same O,.same O,G⟩,G,O⟩ ?_
     clear h
     intro i60 s60 hi60 K60 e60
     refine Jr fun hK61=>(JLh (BL (decide ((i60:Int) < 4))) (Jb O O O) O (G7 (hK61 (Js fun hK62=>Gm O (fun hb=>?_) (fun hb=>?_)))))
     ·
      have hk60:=Hc9 hb
      obtain⟨nx60,hn60,h⟩:=Hb8 hi60 hk60
      replace h:=app3 hb60 h
      refine Gr (hK62 ?_)
      obtain⟨kj63,hkj63,h⟩:=Rm h
      refine Qr (fun j63:Unit=>kj63 j63=some r) (fun j63=>[(14,.dptr [E3 s.Columns,E8 s.Covers,G0 s.Light.Kilos,G0 s.Light.X,G0 s.Light.Y,G0 s.Light.Z,E5 s.Rows,E6 s.Frames,E7 s.Tanks,G0 s.G2.Tolerance,G0 s.G2.Trim,G0 s.G2.List_,G0 s.G2.Stability,E2 boxes,E1 l,E0 open_,G0 x.G9,G0 x.Slot.G4,G0 x.Slot.Tier,U8 x.Slot.Half]),(71,.agg [.bfn 41 [.agg [E3 s.Columns,E8 s.Covers,G0 s.Light.Kilos,G0 s.Light.X,G0 s.Light.Y,G0 s.Light.Z,E5 s.Rows,E6 s.Frames,E7 s.Tanks,G0 s.G2.Tolerance,G0 s.G2.Trim,G0 s.G2.List_,G0 s.G2.Stability,E2 boxes,E1 l,E0 open_,G0 x.G9,G0 x.Slot.G4,G0 x.Slot.Tier,U8 x.Slot.Half]],.bfn 42 [.agg [E3 s.Columns,E8 s.Covers,G0 s.Light.Kilos,G0 s.Light.X,G0 s.Light.Y,G0 s.Light.Z,E5 s.Rows,E6 s.Frames,E7 s.Tanks,G0 s.G2.Tolerance,G0 s.G2.Trim,G0 s.G2.List_,G0 s.G2.Stability,E2 boxes,E1 l,E0 open_,G0 x.G9,G0 x.Slot.G4,G0 x.Slot.Tier,U8 x.Slot.Half]],.bfn 43 [.agg [E3 s.Columns,E8 s.Covers,G0 s.Light.Kilos,G0 s.Light.X,G0 s.Light.Y,G0 s.Light.Z,E5 s.Rows,E6 s.Frames,E7 s.Tanks,G0 s.G2.Tolerance,G0 s.G2.Trim,G0 s.G2.List_,G0 s.G2.Stability,E2 boxes,E1 l,E0 open_,G0 x.G9,G0 x.Slot.G4,G0 x.Slot.Tier,U8 x.Slot.Half]],.bfn 44 [.agg [E3 s.Columns,E8 s.Covers,G0 s.Light.Kilos,G0 s.Light.X,G0 s.Light.Y,G0 s.Light.Z,E5 s.Rows,E6 s.Frames,E7 s.Tanks,G0 s.G2.Tolerance,G0 s.G2.Trim,G0 s.G2.List_,G0 s.G2.Stability,E2 boxes,E1 l,E0 open_,G0 x.G9,G0 x.Slot.G4,G0 x.Slot.Tier,U8 x.Slot.Half]]]),(72,Ej i60)]) (fun j63=>[]) (fun Kj63 ej63=>?_) ?_
      ·
       refine Gw (Jr fun hK64=>(Yv (Ej i60) O ((Decidable.em ((i60:Int)=0)).elim (fun hq65_0=>?_) (fun hq65_0=>?_))))
       ·
        replace h:=H4 (decide_eq_true hq65_0) h
        refine JLh (.bfn 41 [.agg [E3 s.Columns,E8 s.Covers,G0 s.Light.Kilos,G0 s.Light.X,G0 s.Light.Y,G0 s.Light.Z,E5 s.Rows,E6 s.Frames,E7 s.Tanks,G0 s.G2.Tolerance,G0 s.G2.Trim,G0 s.G2.List_,G0 s.G2.Stability,E2 boxes,E1 l,E0 open_,G0 x.G9,G0 x.Slot.G4,G0 x.Slot.Tier,U8 x.Slot.Half]]) (H7d (j:=0) H6b O O O hq65_0 O O) O (Yv (Ej i60) O (Yv (.bfn 41 [.agg [E3 s.Columns,E8 s.Covers,G0 s.Light.Kilos,G0 s.Light.X,G0 s.Light.Y,G0 s.Light.Z,E5 s.Rows,E6 s.Frames,E7 s.Tanks,G0 s.G2.Tolerance,G0 s.G2.Trim,G0 s.G2.List_,G0 s.G2.Stability,E2 boxes,E1 l,E0 open_,G0 x.G9,G0 x.Slot.G4,G0 x.Slot.Tier,U8 x.Slot.Half]]) O (G7 (hK64 ?_))))
        refine Jr fun hK66=>(Yv (.bfn 41 [.agg [E3 s.Columns,E8 s.Covers,G0 s.Light.Kilos,G0 s.Light.X,G0 s.Light.Y,G0 s.Light.Z,E5 s.Rows,E6 s.Frames,E7 s.Tanks,G0 s.G2.Tolerance,G0 s.G2.Trim,G0 s.G2.List_,G0 s.G2.Stability,E2 boxes,E1 l,E0 open_,G0 x.G9,G0 x.Slot.G4,G0 x.Slot.Tier,U8 x.Slot.Half]]) O ?_)
        obtain⟨r67,hr67,h⟩:=Gd h
        refine JLh (BL r67) (H7e (args:=[]) (firsts:=[.agg [E3 s.Columns,E8 s.Covers,G0 s.Light.Kilos,G0 s.Light.X,G0 s.Light.Y,G0 s.Light.Z,E5 s.Rows,E6 s.Frames,E7 s.Tanks,G0 s.G2.Tolerance,G0 s.G2.Trim,G0 s.G2.List_,G0 s.G2.Stability,E2 boxes,E1 l,E0 open_,G0 x.G9,G0 x.Slot.G4,G0 x.Slot.Tier,U8 x.Slot.Half]]) O O (H3e (Hi.mk s boxes l open_ x) r67 hr67) Q06 G O) O (G7 (hK66 (JCc O h (fun h hb=>?_) (fun h hb=>?_))))
        ·
         refine Jr fun hK68=>(Yv (Ej i60) O ?_)
         obtain⟨v69,hv69,h⟩:=Jp h
         refine JLh (G0 v69) (Hx hv69 O O O) O (JLh (E1 ([]:List Stowed)) (Hf 4 O O) O (Yv (G0 v69) O (G7 (hK68 (Gx (⟨[E1 ([]:List Stowed),G0 v69],[],G,O,⟨⟨_,O,.conv (.same O)⟩,⟨_,O,.conv (.same O)⟩,G⟩,O,congrArg (fun r:(List Stowed)×Int=>(.tup [E1 r.1,G0 r.2]:AV)) (Option.some.inj h)⟩))))))
        ·
         refine Gr (ej63 _ _ () h ⟨⟨.same O,.same O,.same O,G⟩,G,O⟩)
       ·
        replace h:=Hm (decide_eq_false hq65_0) h
        refine(Decidable.em ((i60:Int)=1)).elim (fun hq65_1=>?_) (fun hq65_1=>?_)
        ·
         replace h:=H4 (decide_eq_true hq65_1) h
         refine JLh (.bfn 42 [.agg [E3 s.Columns,E8 s.Covers,G0 s.Light.Kilos,G0 s.Light.X,G0 s.Light.Y,G0 s.Light.Z,E5 s.Rows,E6 s.Frames,E7 s.Tanks,G0 s.G2.Tolerance,G0 s.G2.Trim,G0 s.G2.List_,G0 s.G2.Stability,E2 boxes,E1 l,E0 open_,G0 x.G9,G0 x.Slot.G4,G0 x.Slot.Tier,U8 x.Slot.Half]]) (H7d (j:=1) H6b O O O hq65_1 O O) O (Yv (Ej i60) O (Yv (.bfn 42 [.agg [E3 s.Columns,E8 s.Covers,G0 s.Light.Kilos,G0 s.Light.X,G0 s.Light.Y,G0 s.Light.Z,E5 s.Rows,E6 s.Frames,E7 s.Tanks,G0 s.G2.Tolerance,G0 s.G2.Trim,G0 s.G2.List_,G0 s.G2.Stability,E2 boxes,E1 l,E0 open_,G0 x.G9,G0 x.Slot.G4,G0 x.Slot.Tier,U8 x.Slot.Half]]) O (G7 (hK64 ?_))))
         refine Jr fun hK70=>(Yv (.bfn 42 [.agg [E3 s.Columns,E8 s.Covers,G0 s.Light.Kilos,G0 s.Light.X,G0 s.Light.Y,G0 s.Light.Z,E5 s.Rows,E6 s.Frames,E7 s.Tanks,G0 s.G2.Tolerance,G0 s.G2.Trim,G0 s.G2.List_,G0 s.G2.Stability,E2 boxes,E1 l,E0 open_,G0 x.G9,G0 x.Slot.G4,G0 x.Slot.Tier,U8 x.Slot.Half]]) O ?_)
         obtain⟨r71,hr71,h⟩:=Gd h
         refine JLh (BL r71) (H7e (args:=[]) (firsts:=[.agg [E3 s.Columns,E8 s.Covers,G0 s.Light.Kilos,G0 s.Light.X,G0 s.Light.Y,G0 s.Light.Z,E5 s.Rows,E6 s.Frames,E7 s.Tanks,G0 s.G2.Tolerance,G0 s.G2.Trim,G0 s.G2.List_,G0 s.G2.Stability,E2 boxes,E1 l,E0 open_,G0 x.G9,G0 x.Slot.G4,G0 x.Slot.Tier,U8 x.Slot.Half]]) O O (H5d (Hi.mk s boxes l open_ x) r71 hr71) Q05 G O) O (G7 (hK70 (JCc O h (fun h hb=>?_) (fun h hb=>?_))))
         ·
          refine Jr fun hK72=>(Yv (Ej i60) O ?_)
          obtain⟨v73,hv73,h⟩:=Jp h
          refine JLh (G0 v73) (Hx hv73 O O O) O (JLh (E1 ([]:List Stowed)) (Hf 4 O O) O (Yv (G0 v73) O (G7 (hK72 (Gx (⟨[E1 ([]:List Stowed),G0 v73],[],G,O,⟨⟨_,O,.conv (.same O)⟩,⟨_,O,.conv (.same O)⟩,G⟩,O,congrArg (fun r:(List Stowed)×Int=>(.tup [E1 r.1,G0 r.2]:AV)) (Option.some.inj h)⟩))))))
         ·
          refine Gr (ej63 _ _ () h ⟨⟨.same O,.same O,.same O,G⟩,G,O⟩)
        ·
         replace h:=Hm (decide_eq_false hq65_1) h
         refine(Decidable.em ((i60:Int)=2)).elim (fun hq65_2=>?_) (fun hq65_2=>?_)
         ·
          replace h:=H4 (decide_eq_true hq65_2) h
          refine JLh (.bfn 43 [.agg [E3 s.Columns,E8 s.Covers,G0 s.Light.Kilos,G0 s.Light.X,G0 s.Light.Y,G0 s.Light.Z,E5 s.Rows,E6 s.Frames,E7 s.Tanks,G0 s.G2.Tolerance,G0 s.G2.Trim,G0 s.G2.List_,G0 s.G2.Stability,E2 boxes,E1 l,E0 open_,G0 x.G9,G0 x.Slot.G4,G0 x.Slot.Tier,U8 x.Slot.Half]]) (H7d (j:=2) H6b O O O hq65_2 O O) O (Yv (Ej i60) O (Yv (.bfn 43 [.agg [E3 s.Columns,E8 s.Covers,G0 s.Light.Kilos,G0 s.Light.X,G0 s.Light.Y,G0 s.Light.Z,E5 s.Rows,E6 s.Frames,E7 s.Tanks,G0 s.G2.Tolerance,G0 s.G2.Trim,G0 s.G2.List_,G0 s.G2.Stability,E2 boxes,E1 l,E0 open_,G0 x.G9,G0 x.Slot.G4,G0 x.Slot.Tier,U8 x.Slot.Half]]) O (G7 (hK64 ?_))))
          refine Jr fun hK74=>(Yv (.bfn 43 [.agg [E3 s.Columns,E8 s.Covers,G0 s.Light.Kilos,G0 s.Light.X,G0 s.Light.Y,G0 s.Light.Z,E5 s.Rows,E6 s.Frames,E7 s.Tanks,G0 s.G2.Tolerance,G0 s.G2.Trim,G0 s.G2.List_,G0 s.G2.Stability,E2 boxes,E1 l,E0 open_,G0 x.G9,G0 x.Slot.G4,G0 x.Slot.Tier,U8 x.Slot.Half]]) O ?_)
          obtain⟨r75,hr75,h⟩:=Gd h
          refine JLh (BL r75) (H7e (args:=[]) (firsts:=[.agg [E3 s.Columns,E8 s.Covers,G0 s.Light.Kilos,G0 s.Light.X,G0 s.Light.Y,G0 s.Light.Z,E5 s.Rows,E6 s.Frames,E7 s.Tanks,G0 s.G2.Tolerance,G0 s.G2.Trim,G0 s.G2.List_,G0 s.G2.Stability,E2 boxes,E1 l,E0 open_,G0 x.G9,G0 x.Slot.G4,G0 x.Slot.Tier,U8 x.Slot.Half]]) O O (H2f (Hi.mk s boxes l open_ x) r75 hr75) Q04 G O) O (G7 (hK74 (JCc O h (fun h hb=>?_) (fun h hb=>?_))))
          ·
           refine Jr fun hK76=>(Yv (Ej i60) O ?_)
           obtain⟨v77,hv77,h⟩:=Jp h
           refine JLh (G0 v77) (Hx hv77 O O O) O (JLh (E1 ([]:List Stowed)) (Hf 4 O O) O (Yv (G0 v77) O (G7 (hK76 (Gx (⟨[E1 ([]:List Stowed),G0 v77],[],G,O,⟨⟨_,O,.conv (.same O)⟩,⟨_,O,.conv (.same O)⟩,G⟩,O,congrArg (fun r:(List Stowed)×Int=>(.tup [E1 r.1,G0 r.2]:AV)) (Option.some.inj h)⟩))))))
          ·
           refine Gr (ej63 _ _ () h ⟨⟨.same O,.same O,.same O,G⟩,G,O⟩)
         ·
          replace h:=Hm (decide_eq_false hq65_2) h
          refine(Decidable.em ((i60:Int)=3)).elim (fun hq65_3=>?_) (fun hq65_3=>?_)
          ·
           replace h:=H4 (decide_eq_true hq65_3) h
           refine JLh (.bfn 44 [.agg [E3 s.Columns,E8 s.Covers,G0 s.Light.Kilos,G0 s.Light.X,G0 s.Light.Y,G0 s.Light.Z,E5 s.Rows,E6 s.Frames,E7 s.Tanks,G0 s.G2.Tolerance,G0 s.G2.Trim,G0 s.G2.List_,G0 s.G2.Stability,E2 boxes,E1 l,E0 open_,G0 x.G9,G0 x.Slot.G4,G0 x.Slot.Tier,U8 x.Slot.Half]]) (H7d (j:=3) H6b O O O hq65_3 O O) O (Yv (Ej i60) O (Yv (.bfn 44 [.agg [E3 s.Columns,E8 s.Covers,G0 s.Light.Kilos,G0 s.Light.X,G0 s.Light.Y,G0 s.Light.Z,E5 s.Rows,E6 s.Frames,E7 s.Tanks,G0 s.G2.Tolerance,G0 s.G2.Trim,G0 s.G2.List_,G0 s.G2.Stability,E2 boxes,E1 l,E0 open_,G0 x.G9,G0 x.Slot.G4,G0 x.Slot.Tier,U8 x.Slot.Half]]) O (G7 (hK64 ?_))))
           refine Jr fun hK78=>(Yv (.bfn 44 [.agg [E3 s.Columns,E8 s.Covers,G0 s.Light.Kilos,G0 s.Light.X,G0 s.Light.Y,G0 s.Light.Z,E5 s.Rows,E6 s.Frames,E7 s.Tanks,G0 s.G2.Tolerance,G0 s.G2.Trim,G0 s.G2.List_,G0 s.G2.Stability,E2 boxes,E1 l,E0 open_,G0 x.G9,G0 x.Slot.G4,G0 x.Slot.Tier,U8 x.Slot.Half]]) O ?_)
           obtain⟨r79,hr79,h⟩:=Gd h
           refine JLh (BL r79) (H7e (args:=[]) (firsts:=[.agg [E3 s.Columns,E8 s.Covers,G0 s.Light.Kilos,G0 s.Light.X,G0 s.Light.Y,G0 s.Light.Z,E5 s.Rows,E6 s.Frames,E7 s.Tanks,G0 s.G2.Tolerance,G0 s.G2.Trim,G0 s.G2.List_,G0 s.G2.Stability,E2 boxes,E1 l,E0 open_,G0 x.G9,G0 x.Slot.G4,G0 x.Slot.Tier,U8 x.Slot.Half]]) O O (H3f F (Hi.mk s boxes l open_ x) r79 hr79) Q03 G O) O (G7 (hK78 (JCc O h (fun h hb=>?_) (fun h hb=>?_))))
           ·
            refine Jr fun hK80=>(Yv (Ej i60) O ?_)
            obtain⟨v81,hv81,h⟩:=Jp h
            refine JLh (G0 v81) (Hx hv81 O O O) O (JLh (E1 ([]:List Stowed)) (Hf 4 O O) O (Yv (G0 v81) O (G7 (hK80 (Gx (⟨[E1 ([]:List Stowed),G0 v81],[],G,O,⟨⟨_,O,.conv (.same O)⟩,⟨_,O,.conv (.same O)⟩,G⟩,O,congrArg (fun r:(List Stowed)×Int=>(.tup [E1 r.1,G0 r.2]:AV)) (Option.some.inj h)⟩))))))
           ·
            refine Gr (ej63 _ _ () h ⟨⟨.same O,.same O,.same O,G⟩,G,O⟩)
          ·
           replace h:=Hm (decide_eq_false hq65_3) h
           cases h
      ·intro j63 h
       replace h:=app1 hkj63 h
       refine G3 (JLh (G0 ((i60+1:Nat):Int)) (Hx (Ho hk60 (H67 hx60)) O O O) O (Yv (G0 ((i60+1:Nat):Int)) O (G7 (e60 _ _ (i60+1) () (app1 hn60 h) (by omega) ⟨⟨.same rfl,.same rfl,.same rfl,G⟩,G,rfl⟩))))
     ·
      have h:=app1 hkx60 (Hb9 hi60 (Gc0 hb))
      refine Ht (hK18 (Jr fun hK82=>(JLh (.agg [E3 s.Columns,E8 s.Covers,G0 s.Light.Kilos,G0 s.Light.X,G0 s.Light.Y,G0 s.Light.Z,E5 s.Rows,E6 s.Frames,E7 s.Tanks,G0 s.G2.Tolerance,G0 s.G2.Trim,G0 s.G2.List_,G0 s.G2.Stability,E2 boxes,E1 l,E0 open_,G0 x.G9,G0 x.Slot.G4,G0 x.Slot.Tier,U8 x.Slot.Half]) (Gh Gd0 O O O) O ?_)))
      obtain⟨r83,hr83,h⟩:=Gd h
      refine JLh (E1 r83) (Gu O (G75 F (Hi.mk s boxes l open_ x) r83 hr83) J5b ⟨O,O,G⟩) O (Yv (E1 r83) O (Yv (G0 0) O (G7 (hK82 (Gx (⟨[E1 r83,G0 0],[],G,O,⟨⟨_,O,.conv (.same O)⟩,⟨_,O,.conv (.same O)⟩,G⟩,O,congrArg (fun r:(List Stowed)×Int=>(.tup [E1 r.1,G0 r.2]:AV)) (Option.some.inj h)⟩))))))

def G25 (x:Int):Option Bool:=
 some (decide (x≠x))
theorem Gfa (x:Int) (r:Bool) (h:G25 x=some r):Pure Ek 108 [G0 x] (·=BL r):=by
 unfold G25 at h
 refine H6 [.tmp 2] Tryz.func108 O O (Jr fun hK1=>(Yv (BL false) O (G7 (hK1 (Jr fun hK2=>(Yv (G0 x) O (Yv (G0 x) O (JLh (BL (decide (x≠x))) (Zy O O O) O (Yv (BL (decide (x≠x))) O (G7 (hK2 (Gx (fin1 BL h)))))))))))))

def G42 (x:Int) (y:Int):Option Bool:=
 bnd (G25 x) fun r3=>
 bnd (bif r3 then G25 y else some default) fun r4=>
 some ((r3&&(!r4))||(decide (x < y)))
theorem J05 (x:Int) (y:Int) (r:Bool) (h:G42 x y=some r):Pure Ek 79 [G0 x,G0 y] (·=BL r):=by
 unfold G42 at h
 refine H6 [.tmp 4] Tryz.func79 O O (Jr fun hK1=>(Yv (BL false) O (G7 (hK1 (Jr fun hK2=>(Yv (G0 x) O ?_))))))
 obtain⟨r3,hr3,h⟩:=Gd h
 refine JLh (BL r3) (Gu O (Gfa x r3 hr3) J0e ⟨O,O,G⟩) O (Yv (BL r3) O (JLo (G0 y) [] O .sct G (fun hc=>G5 O O) O ?_))
 obtain⟨r4,hr4,h⟩:=Gd h
 refine JLo (BL r4) [8] O .sct ⟨Ua,G⟩ (fun hc=>Gu (args:=[G0 y]) O (Gfa y r4 (H4 hc hr4)) J0e ⟨O,O,G⟩) O (JLo (BL (!r4)) [9] O .sct ⟨Ua,G⟩ (fun hc=>Ru (b:=r4) O O) O (JLh (BL (r3&&(!r4))) (Qd O O O O) O (Yv (BL (r3&&(!r4))) O (JLo (G0 x) [] O .scf G (fun hc=>G5 O O) O (JLo (G0 y) [] O .scf G (fun hc=>G5 O O) O (JLo (BL (decide (x < y))) [13,14] O .scf ⟨Ua,Ua,G⟩ (fun hc=>Jb O O O) O (JLh (BL ((r3&&(!r4))||(decide (x < y)))) (Zn O O O O) O (Yv (BL ((r3&&(!r4))||(decide (x < y)))) O (G7 (hK2 (Gx (fin1 BL h))))))))))))

def Zi (x:Int):Option Bool:=
 some (decide (x≠x))
theorem Gb0 (x:Int) (r:Bool) (h:Zi x=some r):Pure Ek 80 [G0 x] (·=BL r):=by
 unfold Zi at h
 refine H6 [.tmp 2] Tryz.func80 O O (Jr fun hK1=>(Yv (BL false) O (G7 (hK1 (Jr fun hK2=>(Yv (G0 x) O (Yv (G0 x) O (JLh (BL (decide (x≠x))) (Zy O O O) O (Yv (BL (decide (x≠x))) O (G7 (hK2 (Gx (fin1 BL h)))))))))))))

def R7 (F:Nat) (x:List Int) (target:Int):Option (Int×Bool):=
 loop (fun nx16 (s16:Int×Int)=>
  bif decide (s16.1 < s16.2) then
  (G0d (s16.1+s16.2) fun v20=>
   G0d (Hf0 .u64 (IntKind.u64.wrap v20) 1) fun v21=>
   Z2 x v21 fun y23=>
   bnd (G42 y23 target) fun r25=>
   bif r25 then
   (G0d (v21+1) fun v26=>
    nx16 (v26,s16.2))
   else
   (nx16 (s16.1,v21)))
  else
  (bnd (bif decide (s16.1 < (x.length:Int)) then Z2 x s16.1 some else some default) fun y28=>
   bnd (bif ((decide (s16.1 < (x.length:Int)))&&!(decide (y28=target))) then Z2 x s16.1 some else some default) fun y29=>
   bnd (bif ((decide (s16.1 < (x.length:Int)))&&!(decide (y28=target))) then Zi y29 else some default) fun r30=>
   bnd (bif (((decide (s16.1 < (x.length:Int)))&&!(decide (y28=target)))&&r30) then Zi target else some default) fun r31=>
   some (s16.1,((decide (s16.1 < (x.length:Int)))&&((decide (y28=target))||(r30&&r31)))))) F (0,(x.length:Int))
theorem Gca (F:Nat) (x:List Int) (target:Int) (r:Int×Bool) (h:R7 F x target=some r):Pure Ek 47 [E0 x,G0 target] (·=.tup [G0 r.1,BL r.2]):=by
 unfold R7 at h
 refine H6 [.tmp 4,.tmp 5] Tryz.func47 O O (Jr fun hK1=>(Yv (G0 0) O (Yv (BL false) O (G7 (hK1 (Jr fun hK2=>(Yv (E0 x) O (JLl Gq O O O fun hm11=>(Yv (Ej x.length) O (G7 (hK2 (Jr fun hK3=>(Yv (Ej x.length) O (Yv (G0 0) O (Yv (Ej x.length) O (G7 (hK3 (Js fun hK4=>Gw ?_))))))))))))))))))
 obtain⟨b16,hb16,h⟩:=loop_in h
 refine Hp (fun i16 (s16:Int×Int)=>loop b16 i16 s16=some r) (fun i16 s16=>[(0,E0 x),(1,G0 target),(6,Ej x.length),(7,G0 s16.1),(8,G0 s16.2)]) (fun i16 s16=>[]) (fun i16=>i16) F (0,(x.length:Int)) h ⟨(by repeat' constructor),G,rfl⟩ ?_
 clear h
 intro i16 s16 hi16 K16 e16
 obtain⟨m16,nx16,hm_16,hn16,h⟩:=J7f hi16
 replace h:=app2 hb16 h
 refine Js fun hK17=>Jr fun hK18=>(Yv (G0 s16.1) O (Yv (G0 s16.2) O (JLh (BL (decide (s16.1 < s16.2))) (Jb O O O) O (G7 (hK18 (JCc O h (fun h hb=>?_) (fun h hb=>?_)))))))
 ·
  refine Gr (hK17 (Gw (Jr fun hK19=>(Yv (G0 s16.1) O (Yv (G0 s16.2) O ?_)))))
  obtain⟨v20,hv20,h⟩:=Jp h
  refine JLh (G0 v20) (Hx hv20 O O O) O (JLh (.sc (.int .u64 (IntKind.u64.wrap v20))) (H66 J45 Ga6 O O O) O (JLh (.sc (.int .u64 (Hf0 .u64 (IntKind.u64.wrap v20) 1))) (Q13 (s:=1) O O O O) O ?_))
  obtain⟨v21,hv21,h⟩:=Jp h
  refine JLh (G0 v21) (H66 Ga6 J45 hv21 O O) O (Yv (G0 v21) O (G7 (hK19 (Jr fun hK22=>(Yv (E0 x) O (Yv (G0 v21) O ?_))))))
  obtain⟨m24,y23,hm24,hy23,h⟩:=Z5 h
  refine JLh (.dptr [G0 y23]) (Hb (f:=G0) (xs:=x) (y:=y23) O O O Gq hy23 hm24) O (JLh (G0 y23) (Gj Gb O O O) O (Yv (G0 target) O ?_))
  obtain⟨r25,hr25,h⟩:=Gd h
  refine JLh (BL r25) (Gu O (J05 y23 target r25 hr25) Jf0 ⟨O,O,O,O,G⟩) O (G7 (hK22 (JCc O h (fun h hb=>?_) (fun h hb=>?_))))
  ·
   refine G3 (Yv (G0 v21) O ?_)
   obtain⟨v26,hv26,h⟩:=Jp h
   refine JLh (G0 v26) (Hx hv26 O O O) O (Yv (G0 v26) O (G7 (e16 _ _ m16 (v26,s16.2) (app1 hn16 h) (by omega) ⟨(by repeat' constructor),G,rfl⟩)))
  ·
   refine G3 (Yv (G0 v21) O (Yv (G0 v21) O (G7 (e16 _ _ m16 (s16.1,v21) (app1 hn16 h) (by omega) ⟨(by repeat' constructor),G,rfl⟩))))
 ·
  refine Ht (hK4 (Jr fun hK27=>(Yv (G0 s16.1) O (Yv (G0 s16.1) O (Yv (Ej x.length) O (JLh (BL (decide (s16.1 < (x.length:Int)))) (Jb O O O) O (Yv (BL (decide (s16.1 < (x.length:Int)))) O (JLo (E0 x) [] O .sct G (fun hc=>G5 O O) O (JLo (G0 s16.1) [] O .sct G (fun hc=>G5 O O) O ?_)))))))))
  obtain⟨y28,hy28,h⟩:=Gd h
  refine JLo (.dptr [G0 y28]) [36,37] O .sct ⟨Ua,Ua,G⟩ (fun hc=>(match Yd (H4 hc hy28) with | ⟨_,hm_,hy_⟩=>Hb (f:=G0) (xs:=x) (y:=y28) O O O Gq hy_ hm_)) O (JLo (G0 y28) [38] O .sct ⟨Ua,G⟩ (fun hc=>Gj Gb O O O) O (JLo (G0 target) [] O .sct G (fun hc=>G5 O O) O (JLo (BL (decide (y28=target))) [39,40] O .sct ⟨Ua,Ua,G⟩ (fun hc=>Q0 O O O) O (JLo (BL (decide (y28=target))) [41] O .sct ⟨Ua,G⟩ (fun hc=>G5 O O) O (JLo (E0 x) [] O .optf G (fun hc=>G5 O O) O (JLo (G0 s16.1) [] O .optf G (fun hc=>G5 O O) O ?_))))))
  obtain⟨y29,hy29,h⟩:=Gd h
  refine JLo (.dptr [G0 y29]) [43,44] O .optf ⟨Ua,Ua,G⟩ (fun hc=>(match Yd (H4 hc hy29) with | ⟨_,hm_,hy_⟩=>Hb (f:=G0) (xs:=x) (y:=y29) O O O Gq hy_ hm_)) O (JLo (G0 y29) [45] O .optf ⟨Ua,G⟩ (fun hc=>Gj Gb O O O) O ?_)
  obtain⟨r30,hr30,h⟩:=Gd h
  refine JLo (BL r30) [46] O .optf ⟨Ua,G⟩ (fun hc=>Gu (args:=[G0 y29]) O (Gb0 y29 r30 (H4 hc hr30)) J51 ⟨O,O,G⟩) O (JLo (BL r30) [47] O .optf ⟨Ua,G⟩ (fun hc=>G5 O O) O (JLo (G0 target) [] O .optt G (fun hc=>G5 O O) O ?_))
  obtain⟨r31,hr31,h⟩:=Gd h
  refine JLo (BL r31) [49] O .optt ⟨Ua,G⟩ (fun hc=>Gu (args:=[G0 target]) O (Gb0 target r31 (H4 hc hr31)) J51 ⟨O,O,G⟩) O (Gc (u:=BL (r30&&r31)) [(48,BL r30),(50,_)] O O O .optf ⟨.all id,.part,G⟩ (fun hc=>Qd O O O O) ?_)
  refine Gc (u:=BL ((decide (y28=target))||(r30&&r31))) [(42,BL (decide (y28=target))),(51,_)] O O O .sct ⟨.all id,.part,G⟩ (fun hc=>Zn O O O O) ?_
  refine JLh (BL ((decide (s16.1 < (x.length:Int)))&&((decide (y28=target))||(r30&&r31)))) (Qd O O O O) O (Yv (G0 s16.1) O (Yv (BL ((decide (s16.1 < (x.length:Int)))&&((decide (y28=target))||(r30&&r31)))) O (G7 (hK27 (Gx (⟨[G0 s16.1,BL ((decide (s16.1 < (x.length:Int)))&&((decide (y28=target))||(r30&&r31)))],[],G,O,⟨⟨_,O,.conv (.same O)⟩,⟨_,O,.conv (.same O)⟩,G⟩,O,congrArg (fun r:Int×Bool=>(.tup [G0 r.1,BL r.2]:AV)) (Option.some.inj h)⟩))))))

def G3f (F:Nat) (s:Gp) (boxes:List G9) (l:List Stowed) (open_:List Int) (cover:Int):Option ((List Int)×Int):=
 bnd (Qp s boxes l open_) fun r4=>
 bif (!r4) then
 (some ([],2))
 else
 (bif ((decide (cover < 0))||(decide ((s.Covers.length:Int)≤cover))) then
  (some ([],6))
  else
  (bnd (G74 s l cover) fun r9=>
   bif decide (0 < (r9.length:Int)) then
   (some ([],95))
   else
   (bnd (R7 F open_ cover) fun r12=>
    bif r12.2 then
    (bnd (Qn open_) fun r16=>
     some (r16,0))
    else
    (bnd (G23 open_ r12.1 cover) fun r18=>
     some (r18,0)))))
theorem H8e (F:Nat) (s:Gp) (boxes:List G9) (l:List Stowed) (open_:List Int) (cover:Int) (r:(List Int)×Int) (h:G3f F s boxes l open_ cover=some r):Pure Ek 19 [.agg (Gp.cs s),E2 boxes,E1 l,E0 open_,G0 cover] (·=.tup [E0 r.1,G0 r.2]):=by
 unfold G3f at h
 refine H6 [.tmp 10,.tmp 11] Tryz.func19 O O (Jr fun hK1=>(JLh (.ptr 1053 0) (Jn (cs:=(Gp.cs s)) 1053 O O O O O) O (JLh (E0 ([]:List Int)) (Hf 1 O O) O (Yv (G0 0) O (G7 (hK1 ?_))))))
 refine Gt [(1,E2 boxes),(2,E1 l),(3,E0 open_),(4,G0 cover),(5,Ec s)] [] 1053 rfl rfl rfl G rfl (by repeat' (first | exact .ptr | constructor)) (Js fun hK2=>Gw ?_)
 refine Jr fun hK3=>(JLh (.agg (Gp.cs s)) (Gh H5 O O O) O (Yv (E2 boxes) O (Yv (E1 l) O (Yv (E0 open_) O ?_))))
 obtain⟨r4,hr4,h⟩:=Gd h
 refine JLh (BL r4) (Gu O (G50 s boxes l open_ r4 hr4) H1f ⟨O,O,O,O,O,O,O,O,G⟩) O (JLh (BL (!r4)) (Ru (b:=r4) O O) O (Yv (BL (!r4)) O (G7 (hK3 (JCc O h (fun h hb=>?_) (fun h hb=>?_))))))
 ·
  refine Jr fun hK5=>(JLh (E0 ([]:List Int)) (Hf 1 O O) O (Yv (G0 2) O (G7 (hK5 (Gx (⟨[E0 ([]:List Int),G0 2],[],G,O,⟨⟨_,O,.conv (.same O)⟩,⟨_,O,.conv (.same O)⟩,G⟩,O,congrArg (fun r:(List Int)×Int=>(.tup [E0 r.1,G0 r.2]:AV)) (Option.some.inj h)⟩))))))
 ·
  refine Jr fun hK6=>(Yv (G0 cover) O (JLh (BL (decide (cover < 0))) (Jb O O O) O (Yv (BL (decide (cover < 0))) O (JLo (G0 cover) [] O .scf G (fun hc=>G5 O O) O (JLo (.dptr [E8 s.Covers,G0 s.Light.Kilos,G0 s.Light.X,G0 s.Light.Y,G0 s.Light.Z,E5 s.Rows,E6 s.Frames,E7 s.Tanks,G0 s.G2.Tolerance,G0 s.G2.Trim,G0 s.G2.List_,G0 s.G2.Stability]) [] O .scf G (fun hc=>Gf R3 O O O) O (JLo (E8 s.Covers) [26] O .scf ⟨Ua,G⟩ (fun hc=>Gj Yi O O O) O (JLo (Ej s.Covers.length) [27] O .scf ⟨Ua,G⟩ (fun hc=>Zj (f:=Ga.av) (xs:=s.Covers) R0 O O) O (JLo (BL (decide ((s.Covers.length:Int)≤cover))) [25,28] O .scf ⟨Ua,Ua,G⟩ (fun hc=>Gb4 O O O) O (JLh (BL ((decide (cover < 0))||(decide ((s.Covers.length:Int)≤cover)))) (Zn O O O O) O (Yv (BL ((decide (cover < 0))||(decide ((s.Covers.length:Int)≤cover)))) O (G7 (hK6 ?_))))))))))))
  refine JCc O h (fun h hb=>?_) (fun h hb=>?_)
  ·
   refine Jr fun hK7=>(JLh (E0 ([]:List Int)) (Hf 1 O O) O (Yv (G0 6) O (G7 (hK7 (Gx (⟨[E0 ([]:List Int),G0 6],[],G,O,⟨⟨_,O,.conv (.same O)⟩,⟨_,O,.conv (.same O)⟩,G⟩,O,congrArg (fun r:(List Int)×Int=>(.tup [E0 r.1,G0 r.2]:AV)) (Option.some.inj h)⟩))))))
  ·
   refine Jr fun hK8=>(JLh (.agg (Gp.cs s)) (Gh H5 O O O) O (Yv (E1 l) O (Yv (G0 cover) O ?_)))
   obtain⟨r9,hr9,h⟩:=Gd h
   refine JLh (E0 r9) (Gu O (H8c s l cover r9 hr9) J5a ⟨O,O,O,O,O,O,G⟩) O (JLl Gq O O O fun hm36=>(JLh (BL (decide (0 < (r9.length:Int)))) (G35 O O O) O (Yv (BL (decide (0 < (r9.length:Int)))) O (G7 (hK8 (JCc O h (fun h hb=>?_) (fun h hb=>?_)))))))
   ·
    refine Jr fun hK10=>(JLh (E0 ([]:List Int)) (Hf 1 O O) O (Yv (G0 95) O (G7 (hK10 (Gx (⟨[E0 ([]:List Int),G0 95],[],G,O,⟨⟨_,O,.conv (.same O)⟩,⟨_,O,.conv (.same O)⟩,G⟩,O,congrArg (fun r:(List Int)×Int=>(.tup [E0 r.1,G0 r.2]:AV)) (Option.some.inj h)⟩))))))
   ·
    refine Gr (hK2 (Jr fun hK11=>(Yv (E0 open_) O (Yv (G0 cover) O ?_))))
    obtain⟨r12,hr12,h⟩:=Gd h
    refine JLh (.tup [G0 r12.1,BL r12.2]) (Gu O (Gca F open_ cover r12 hr12) Q02 ⟨O,O,O,O,G⟩) O (Yv (.tup [G0 r12.1,BL r12.2]) O (JLh (G0 r12.1) (Gn O O O) O (JLh (BL r12.2) (Gn O O O) O (Yv (G0 r12.1) O (Yv (BL r12.2) O (G7 (hK11 (Js fun hK13=>Jr fun hK14=>(Yv (BL r12.2) O (G7 (hK14 (JCc O h (fun h hb=>?_) (fun h hb=>?_)))))))))))))
    ·
     refine Jr fun hK15=>(Yv (E0 open_) O ?_)
     obtain⟨r16,hr16,h⟩:=Gd h
     refine JLh (E0 r16) (Gu O (H62 open_ r16 hr16) Q01 ⟨O,O,G⟩) O (Yv (E0 r16) O (Yv (G0 0) O (G7 (hK15 (Gx (⟨[E0 r16,G0 0],[],G,O,⟨⟨_,O,.conv (.same O)⟩,⟨_,O,.conv (.same O)⟩,G⟩,O,congrArg (fun r:(List Int)×Int=>(.tup [E0 r.1,G0 r.2]:AV)) (Option.some.inj h)⟩))))))
    ·
     refine Gr (hK13 (Jr fun hK17=>(Yv (E0 open_) O (Yv (G0 r12.1) O (Yv (G0 cover) O ?_)))))
     obtain⟨r18,hr18,h⟩:=Gd h
     refine JLh (E0 r18) (Gu O (Hd6.down open_ r12.1 cover r18 hr18) Q00 ⟨O,O,O,O,O,O,G⟩) O (Yv (E0 r18) O (Yv (G0 0) O (G7 (hK17 (Gx (⟨[E0 r18,G0 0],[],G,O,⟨⟨_,O,.conv (.same O)⟩,⟨_,O,.conv (.same O)⟩,G⟩,O,congrArg (fun r:(List Int)×Int=>(.tup [E0 r.1,G0 r.2]:AV)) (Option.some.inj h)⟩))))))

def G8a (s:Gp) (size:Int):Option Unit:=
 some ()
theorem J9b (s:Gp) (size:Int) (r:Unit) (h:G8a s size=some r):Pure Ek 86 [.agg (Gp.cs s),U8 size] (·=.fn 111 [.dptr (Gp.cs s),.dptr [U8 size]]):=by
 unfold G8a at h
 refine H6 [.tmp 4] Tryz.func86 O O (Jr fun hK1=>(JLh (.ptr 1146 0) (Jn (cs:=(Gp.cs s)) 1146 O O O O O) O (JLh (.ptr 1147 0) (Jn (cs:=[U8 size]) 1147 O O O O O) O (Yv (.sc .nilFunc) O (G7 (hK1 ?_))))))
 refine Gt [(2,Ec s),(3,.ptr 1147 0)] [(1147,.box 5 [U8 size])] 1146 rfl rfl rfl ⟨⟨_,rfl,.boxEq rfl rfl⟩,G⟩ rfl (by exact⟨.ptr,.conv (.same rfl),G⟩) (Gt [(2,Ec s),(3,.dptr [U8 size])] [] 1147 rfl rfl rfl G rfl (by exact⟨.conv (.same rfl),.ptr,G⟩) ?_)
 refine Jr fun hK2=>(JLh (.fn 111 [.dptr (Gp.cs s),.dptr [U8 size]]) (Yg (cs:=[.dptr (Gp.cs s),.dptr [U8 size]]) O O) O (Yv (.fn 111 [.dptr (Gp.cs s),.dptr [U8 size]]) O (G7 (hK2 ?_))))
 refine Gx (⟨[.fn 111 [.dptr (Gp.cs s),.dptr [U8 size]]],[],G,O,⟨⟨_,O,.conv (.same O)⟩,G⟩,O,congrArg (fun _:Unit=>(.fn 111 [.dptr (Gp.cs s),.dptr [U8 size]]:AV)) (Option.some.inj h)⟩)

def G1f (s:Gp) (size:Int):Option (List Slot):=
 bnd (G8a s size) fun r5=>
 bnd (G0f s size) fun ys8=>
 each (fun y8 i8 (s8:(List Slot)) nx8=>
  need (decide ((s8.length+[y8].length)*24≤140737488355328∧s8.length+[y8].length≤maxLen)) <|
  nx8 (s8++[y8]))
 (fun(s8:(List Slot))=>
  some s8) ys8 0 []
theorem Hd9 (s:Gp) (size:Int) (r:(List Slot)) (h:G1f s size=some r):Pure Ek 53 [.agg (Gp.cs s),U8 size] (·=E4 r):=by
 unfold G1f at h
 refine H6 [.tmp 4] Tryz.func53 O O (Jr fun hK1=>(JLh (.ptr 1122 0) (Jn (cs:=(Gp.cs s)) 1122 O O O O O) O (JLh (E4 ([]:List Slot)) (Hf 3 O O) O (G7 (hK1 (Gt [(1,U8 size),(2,Ec s)] [] 1122 rfl rfl rfl G rfl (by exact⟨.conv (.same rfl),.ptr,G⟩) ?_))))))
 refine Jr fun hK2=>(JLh (.ptr 1123 0) (G8f 1123 [.sc (.slice none 0 0)] [.slice none 0 0] J41 ⟨.inl O,G⟩ O O) O (H31 1123 0 1125 47 3 O O O (cs':=[OW 1125 3 Slot.av ([]:List Slot)]) O (G7 (hK2 (Js fun hK3=>Jr fun hK4=>(JLh (.agg (Gp.cs s)) (Gh H5 O O O) O (Yv (U8 size) O ?_)))))))
 obtain⟨r5,hr5,h⟩:=Gd h
 refine JLh (.fn 111 [.dptr (Gp.cs s),.dptr [U8 size]]) (Gu O (J9b s size r5 hr5) Jee ⟨O,O,O,O,G⟩) O (G7 (hK4 (Gw ?_)))
 obtain⟨ys8,hy_8,h⟩:=Gd h
 obtain⟨b8,kx8,hb8,hkx8,h⟩:=J0 h
 refine Hdd (ps:=[10]) [(5,.ptr 1123 0),(9,.fn 111 [.dptr (Gp.cs s),.dptr [U8 size]])] (ys8.map (fun y:Slot=>[.agg [G0 y.G4,G0 y.Tier,U8 y.Half]])) (fun i8 (s8:(List Slot))=>each b8 kx8 (List.drop i8 ys8) i8 s8=some r) (fun s8=>[(1125,.spare 47 3 s8.length s8.length),(1123,.box 62 [OW 1125 3 Slot.av s8])]) [] rfl rfl rfl Jd5 (Hfe.down s size ys8 hy_8) h ⟨⟨.same rfl,.same rfl,trivial⟩,⟨⟨_,rfl,.same⟩,⟨_,rfl,.boxL rfl ⟨.same rfl,trivial⟩⟩,trivial⟩,rfl⟩ rfl (fun us_ hus_=>by obtain⟨_,_,rfl⟩:=List.mem_map.1 hus_; rfl) (fun p_ hp_=>Nat.blt_eq.mp (by revert p_; decide)) (fun _=>⟨.same rfl,.same rfl,trivial⟩) (fun _=>rfl) ?_ ?_
 ·
  intro i8 us_ s8 hu_ hi8 lr_ K8 e8
  obtain⟨hk8,rfl⟩:=mapf_at hu_
  obtain⟨y8,nx8,hy8,hn8,h⟩:=Hq hi8 hk8
  replace h:=Ya hb8 h
  obtain⟨_,rfl⟩:=List.getElem?_eq_some_iff.1 hy8
  generalize ys8[i8]=y8 at h ⊢
  change JC _ _ _ _ [(10,.agg [G0 y8.G4,G0 y8.Tier,U8 y8.Half]),(5,.ptr 1123 0),(9,.fn 111 [.dptr (Gp.cs s),.dptr [U8 size]])] [(1125,.spare 47 3 s8.length s8.length),(1123,.box 62 [OW 1125 3 Slot.av s8])]
  refine G3 (JLh (.ptr 1124 0) (Hu 1124 3 Y6 O O) O (Hw (u:=.junk) (Hj (u:=.agg [G0 y8.G4,G0 y8.Tier,U8 y8.Half]) (ds:=[G0 y8.G4,G0 y8.Tier,U8 y8.Half]) G37 O O O O O O O O) (G7 (Mid_freeze [(5,.ptr 1123 0),(6,.dptr [G0 y8.G4,G0 y8.Tier,U8 y8.Half])] [(1125,.spare 47 3 s8.length s8.length),(1123,.box 62 [OW 1125 3 Slot.av s8])] 1124 rfl rfl rfl ⟨⟨_,rfl,.same⟩,⟨_,rfl,.boxEq rfl rfl⟩,G⟩ rfl (by exact⟨.conv (.same rfl),.ptr,G⟩) (Mid_go (Gw (G3 (JLh (OW 1125 3 Slot.av s8) (R9 G19 O O O O) O (JLh (.agg [G0 y8.G4,G0 y8.Tier,U8 y8.Half]) (Gh J9 O O O) O (JLh (E4 [y8]) (H9 (xs:=[.agg [G0 y8.G4,G0 y8.Tier,U8 y8.Half]]) O ⟨O,O,G⟩ J2 Y6 O O O O) O ?_))))))))))
  obtain⟨ha9,h⟩:=J7 h
  refine JLh (OW 1125 3 Slot.av (s8++[y8])) (Rc (f:=Slot.av) (xs:=s8) (ys:=[y8]) O O O O J2 H97 ha9 (fun _=>O) (.inl O) O) O (Hw (u:=.junk) (Hj (u:=OW 1125 3 Slot.av (s8++[y8])) (ds:=[OW 1125 3 Slot.av (s8++[y8])]) H94 O O O O O O O O) (G7 (e8 _ _ (s8++[y8]) (app1 hn8 h) ⟨G,⟨⟨_,O,.same⟩,⟨_,O,.boxL O ⟨.same O,G⟩⟩,G⟩,O⟩)))
 ·
  intro s8 h
  rw [List.length_map] at h
  replace h:=app1 hkx8 (Hr h (Nat.lt_irrefl _))
  refine hK3 (Jr fun hK10=>(JLh (OW 1125 3 Slot.av s8) (R9 G19 O O O O) O (Yv (OW 1125 3 Slot.av s8) O (G7 (hK10 (Yk (l':=[(4,E4 s8)]) (L':=[(1123,.box 62 [E4 s8])]) ⟨⟨.list O,G⟩,⟨⟨_,O,.boxL O ⟨.list O,G⟩⟩,G⟩,O⟩ (Gt [(4,E4 s8)] [] 1123 rfl rfl rfl G rfl (by exact⟨.conv (.same rfl),G⟩) (Gx (fin1 (fun r:(List Slot)=>(E4 r:AV)) h)))))))))

def G8c (F:Nat) (p1:Gp) (p2:G9) (p3:List G9) (p4:List Stowed) (ys_:List (Slot×(List Stowed))):Option Unit:=
 bnd (G1f p1 p2.Size) fun r2=>
 each (fun y45 i45 (s45:Nat) nx45=>
  jp (fun kj51=>
   bnd (Y2 p1 y45.G4) fun r53=>
   bnd (bif decide (0≤r53) then Z2 p1.Columns y45.G4 some else some default) fun y55=>
   bif ((decide (0≤r53))&&(!y55.Deck)) then
   (bnd (G3f F p1 p3 p4 [] r53) fun r56=>
    kj51 r56.1)
   else
   (kj51 [])) fun(j51:(List Int))=>
  bnd (G06 F p1 p3 p4 j51 (Stowed.mk p2.ID y45)) fun r58=>
  need ((!(decide (r58.2=0)))||decide (ys_[s45]? = some (y45,r58.1))) <|
  bif ((decide (r58.2=0))&&false) then
  (need (decide ((bif decide (r58.2=0) then s45+1 else s45)=ys_.length)) (some ()))
  else
  (nx45 (bif decide (r58.2=0) then s45+1 else s45)))
 (fun(s45:Nat)=>
  need (decide (s45=ys_.length)) (some ())) r2 0 0
theorem J06 (F:Nat) (p1:Gp) (p2:G9) (p3:List G9) (p4:List Stowed) (ys_:List (Slot×(List Stowed))) (q_:Unit) (h:G8c F p1 p2 p3 p4 ys_=some q_):Iter Ek 72 [.dptr (Gp.cs p1),Ef p2,.dptr [E2 p3],.dptr [E1 p4]] (ys_.map (fun y:Slot×(List Stowed)=>[.agg (Slot.cs y.1),E1 y.2])):=by
 unfold G8c at h
 refine Iter_of Tryz.func72 O O ?_
 intro E hE hys
 refine Yf (fun K1 hK1=>Qj (Hs (u:=.agg (Gp.cs p1)) hE (Gh H5 O O O) ?_ O O O O))
 refine Hs (u:=.dptr ((G9.cs p2).drop 2)) hE (Gf Rv O O O) ?_ O O O O
 refine Hs (u:=U8 p2.Size) hE (Gj Ja O O O) ?_ O O O O
 obtain⟨r2,hr2,h⟩:=Gd h
 refine Hs (u:=E4 r2) hE (Gu O (Hd9 p1 p2.Size r2 hr2) J59 ⟨O,O,O,O,G⟩) ?_ O O O O
 refine Ja3 hE (f:=Slot.av) (xs:=r2) J2 O O (fun hm16=>?_) O O O
 refine Hs (u:=G0 0) hE (G5 O O) ?_ O O O O
 refine Y3 ?_
 refine hK1 _ _ _ (Gb3 ?_)
 obtain⟨b45,kx45,hb45,hkx45,h⟩:=J0 h
 refine Hdc (fun i45 (s45:Nat)=>each b45 kx45 (List.drop i45 r2) i45 s45=some q_) (fun i45 s45=>[(0,.sc (.func (.yield E.lp) #[] #[])),(1,Ec p1),(2,Ef p2),(3,.dptr [E2 p3]),(4,.dptr [E1 p4]),(15,E4 r2),(16,Ej r2.length),(17,Ej i45)]) (fun i45 s45=>[]) (fun i45 s45=>s45) (fun i45=>r2.length - i45) 0 0 h ⟨(by repeat' constructor),G,rfl⟩ rfl ?_
 clear h
 intro i45 s45 hi45 K45 e45
 refine Yf (fun K46 hK46=>Qj (Hs (u:=BL (decide ((i45:Int) < (r2.length:Int)))) hE (Jb O O O) ?_ O O O O))
 refine Y3 ?_
 refine hK46 _ _ _ (Yf (fun K47 hK47=>Gfd O (fun hb=>?_) (fun hb=>?_)))
 ·
  have hk45:=Jk hb
  obtain⟨y45,nx45,hy45,hn45,h⟩:=Hq hi45 hk45
  replace h:=Ya hb45 h
  refine H32 (hK47 _ _ _ (Yf (fun K48 hK48=>Gb3 (Yf (fun K49 hK49=>Qj (Hs (u:=Eh y45) hE (Hb (f:=Slot.av) (xs:=r2) (y:=y45) O O O J2 hy45 O) ?_ O O O O))))))
  refine Hs (u:=.agg (Slot.cs y45)) hE (Gh J9 O O O) ?_ O O O O
  refine Hs (u:=.ptr 1136 0) hE (Hu 1136 3 Y6 O O) ?_ O O O O
  refine JIL_go0 (u:=.junk) hE (Hj (u:=.agg (Slot.cs y45)) (ds:=[G0 y45.G4,G0 y45.Tier,U8 y45.Half]) G37 O O O O O O O O) ?_ O O O
  refine Y3 ?_
  refine hK49 _ _ _ (Yf (fun K50 hK50=>Qj (Hs (u:=E0 ([]:List Int)) hE (Hf 1 O O) ?_ O O O O)))
  refine Y3 ?_
  refine hK50 _ _ _ ?_
  obtain⟨kj51,hkj51,h⟩:=Rm h
  refine JI_seqJ (fun j51:(List Int)=>kj51 j51=some q_) (fun j51=>[(0,.sc (.func (.yield E.lp) #[] #[])),(1,Ec p1),(2,Ef p2),(3,.dptr [E2 p3]),(4,.dptr [E1 p4]),(7,.ptr 1136 0),(8,E0 j51),(15,E4 r2),(16,Ej r2.length),(17,Ej i45)]) (fun j51=>[(1136,.box 47 [G0 y45.G4,G0 y45.Tier,U8 y45.Half])]) (fun j51=>s45) (fun Kj51 ej51=>?_) ?_
  ·
   refine Yf (fun K52 hK52=>Qj (Hs (u:=.agg (Gp.cs p1)) hE (Gh H5 O O O) ?_ O O O O))
   refine Hs (u:=.ptr 1136 0) hE (Qq Jy O O) ?_ O O O O
   refine Hs (u:=G0 y45.G4) hE (R9 Gb O O O O) ?_ O O O O
   obtain⟨r53,hr53,h⟩:=Gd h
   refine Hs (u:=G0 r53) hE (Gu O (G9c p1 y45.G4 r53 hr53) H98 ⟨O,O,O,O,G⟩) ?_ O O O O
   refine Hs (u:=G0 r53) hE (G8 O O) ?_ O O O O
   refine Y3 ?_
   refine hK52 _ _ _ (Yf (fun K54 hK54=>Qj (Hs (u:=G0 r53) hE (G5 O O) ?_ O O O O)))
   refine Hs (u:=BL (decide (0≤r53))) hE (Gb4 O O O) ?_ O O O O
   refine Hs (u:=BL (decide (0≤r53))) hE (G5 O O) ?_ O O O O
   refine G69 (u:=Ec p1) [] hE O O O .sct G (fun hc=>Gf Jc O O O) ?_ O O O
   refine G69 (u:=E3 p1.Columns) [(28,Ec p1)] hE O O O .sct ⟨.all id,G⟩ (fun hc=>Gj Jv O O O) ?_ O O O
   refine G69 (u:=.ptr 1136 0) [] hE O O O .sct G (fun hc=>Qq Jy O O) ?_ O O O
   refine G69 (u:=G0 y45.G4) [(30,.ptr 1136 0)] hE O O O .sct ⟨.all id,G⟩ (fun hc=>R9 Gb O O O O) ?_ O O O
   obtain⟨y55,hy55,h⟩:=Gd h
   refine G69 (u:=Ee y55) [(29,E3 p1.Columns),(31,G0 y45.G4)] hE O O O .sct ⟨.all id,.all id,G⟩ (fun hc=>(match Yd (H4 hc hy55) with | ⟨_,hm_,hy_⟩=>Hb (f:=G4.av) (xs:=p1.Columns) (y:=y55) O O O Ji hy_ hm_)) ?_ O O O
   refine G69 (u:=.dptr ((G4.cs y55).drop 2)) [(32,Ee y55)] hE O O O .sct ⟨.all id,G⟩ (fun hc=>Gf Yo O O O) ?_ O O O
   refine G69 (u:=BL y55.Deck) [(33,.dptr ((G4.cs y55).drop 2))] hE O O O .sct ⟨.all id,G⟩ (fun hc=>Gj Qv O O O) ?_ O O O
   refine G69 (u:=BL (!y55.Deck)) [(34,BL y55.Deck)] hE O O O .sct ⟨.all id,G⟩ (fun hc=>Ru (b:=y55.Deck) O O) ?_ O O O
   refine Hs (u:=BL ((decide (0≤r53))&&(!y55.Deck))) hE (Qd O O O O) ?_ O O O O
   refine Y3 ?_
   refine hK54 _ _ _ (Gfd O (fun hb=>?_) (fun hb=>?_))
   ·
    replace h:=H4 hb h
    refine Qj (Hs (u:=.agg (Gp.cs p1)) hE (Gh H5 O O O) ?_ O O O O)
    refine Hs (u:=E2 p3) hE (Gj Yh O O O) ?_ O O O O
    refine Hs (u:=E1 p4) hE (Gj Qk O O O) ?_ O O O O
    refine Hs (u:=G0 r53) hE (G5 O O) ?_ O O O O
    obtain⟨r56,hr56,h⟩:=Gd h
    refine Hs (u:=.tup [E0 r56.1,G0 r56.2]) hE (He6 (args:=[.agg (Gp.cs p1),E2 p3,E1 p4,E0 ([]:List Int),G0 r53]) O (H8e F p1 p3 p4 [] r53 r56 hr56) J66 ⟨.inl O,O,.inl O,O,.inl O,O,.inr ⟨_,O,O⟩,O,.inl O,O,G⟩) ?_ O O O O
    refine Hs (u:=.tup [E0 r56.1,G0 r56.2]) hE (G5 O O) ?_ O O O O
    refine Hs (u:=E0 r56.1) hE (Gn O O O) ?_ O O O O
    refine Hs (u:=G0 r56.2) hE (Gn O O O) ?_ O O O O
    refine Hs (u:=E0 r56.1) hE (G8 O O) ?_ O O O O
    refine Y3 ?_
    exact ej51 _ _ _ r56.1 h ⟨(by repeat' constructor),⟨⟨_,rfl,.boxL rfl ⟨.same rfl,.same rfl,.same rfl,G⟩⟩,G⟩,rfl⟩ rfl
   ·
    replace h:=Hm hb h
    refine H32 (ej51 _ _ _ [] h ⟨(by repeat' constructor),⟨⟨_,rfl,.boxL rfl ⟨.same rfl,.same rfl,.same rfl,G⟩⟩,G⟩,rfl⟩ rfl)
  ·intro j51 h
   replace h:=app1 hkj51 h
   refine Yf (fun K57 hK57=>Qj (Hs (u:=.agg (Gp.cs p1)) hE (Gh H5 O O O) ?_ O O O O))
   refine Hs (u:=E2 p3) hE (Gj Yh O O O) ?_ O O O O
   refine Hs (u:=E1 p4) hE (Gj Qk O O O) ?_ O O O O
   refine Hs (u:=E0 j51) hE (G5 O O) ?_ O O O O
   refine Hs (u:=Ef p2) hE (Gf G27 O O O) ?_ O O O O
   refine Hs (u:=G0 p2.ID) hE (Gj Gb O O O) ?_ O O O O
   refine Hs (u:=.agg (Slot.cs y45)) hE (G6f J9 O O O O) ?_ O O O O
   refine Hs (u:=.agg [G0 p2.ID,G0 y45.G4,G0 y45.Tier,U8 y45.Half]) hE (Hz (cs:=[G0 p2.ID,G0 y45.G4,G0 y45.Tier,U8 y45.Half]) [(0,1),(1,3)] [G0 0,G0 0,G0 0,U8 0] [.int .i64 0,.int .i64 0,.int .i64 0,.int .u8 0] Zr G18 ⟨.inl O,.inl O,.inl O,.inl O,G⟩ O O) ?_ O O O O
   obtain⟨r58,hr58,h⟩:=Gd h
   refine Hs (u:=.tup [E1 r58.1,G0 r58.2]) hE (Gu O (Hd8 F p1 p3 p4 j51 (Stowed.mk p2.ID y45) r58 hr58) J67 ⟨O,O,O,O,O,O,O,O,O,O,G⟩) ?_ O O O O
   refine Hs (u:=.tup [E1 r58.1,G0 r58.2]) hE (G5 O O) ?_ O O O O
   refine Hs (u:=E1 r58.1) hE (Gn O O O) ?_ O O O O
   refine Hs (u:=G0 r58.2) hE (Gn O O O) ?_ O O O O
   refine Hs (u:=E1 r58.1) hE (G8 O O) ?_ O O O O
   refine Hs (u:=G0 r58.2) hE (G8 O O) ?_ O O O O
   refine Y3 ?_
   refine hK57 _ _ _ (Yf (fun K59 hK59=>Qj (Hs (u:=G0 r58.2) hE (G5 O O) ?_ O O O O)))
   refine Hs (u:=BL (decide (r58.2=0))) hE (Q0 O O O) ?_ O O O O
   refine Hs (u:=BL (decide (r58.2=0))) hE (G5 O O) ?_ O O O O
   refine G69 (u:=.sc (.func (.yield E.lp) #[] #[])) [] hE O O O .sct G (fun hc=>G5 O O) ?_ O O O
   refine G69 (u:=.agg (Slot.cs y45)) [] hE O O O .sct G (fun hc=>G6f J9 O O O O) ?_ O O O
   refine G69 (u:=E1 r58.1) [] hE O O O .sct G (fun hc=>G5 O O) ?_ O O O
   obtain⟨ha60,h⟩:=J7 h
   refine Q10 (us:=[.agg (Slot.cs y45),E1 r58.1]) hE O O O O .sct [(60,.sc (.func (.yield E.lp) #[] #[])),(61,.agg (Slot.cs y45)),(62,E1 r58.1)] ⟨.all id,.all id,.all id,G⟩ (fun _=>O) (fun _=>⟨O,O,O,O,G⟩) (yld_atG (f:=(fun y:Slot×(List Stowed)=>[.agg (Slot.cs y.1),E1 y.2])) (x:=(y45,r58.1)) hys ha60) ?_ O O O
   refine G69 (u:=BL false) [(63,BL true)] hE O O O .sct ⟨.all id,G⟩ (fun hc=>Ru (b:=true) O O) ?_ O O O
   refine Hs (u:=BL ((decide (r58.2=0))&&false)) hE (Qd O O O O) ?_ O O O O
   refine Y3 ?_
   refine hK59 _ _ _ (Gfd O (fun hb=>?_) (fun hb=>?_))
   ·
    replace h:=H4 hb h
    refine JI_ret (yld_end (J7 h).1)
   ·
    replace h:=Hm hb h
    refine H32 (hK48 _ _ _ (Qj (Hs (u:=G0 ((i45+1:Nat):Int)) hE (Hx (Ho hk45 hm16) O O O) ?_ O O O O)))
    refine Hs (u:=G0 ((i45+1:Nat):Int)) hE (G5 O O) ?_ O O O O
    refine Y3 ?_
    exact e45 _ _ (i45+1) (bif decide (r58.2=0) then s45+1 else s45) _ (app1 hn45 h) (by omega) ⟨(by repeat' constructor),G,rfl⟩ rfl
 ·
  have h:=app1 hkx45 (Hr hi45 (Hc hb))
  refine J3c (yld_end (J7 h).1)
theorem J07 (S_:Nat→(Gp)→(G9)→(List G9)→(List Stowed)→Option (List (Slot×(List Stowed)))) (hS_:∀ F p1 p2 p3 p4 r,S_ F p1 p2 p3 p4=some r→G8c F p1 p2 p3 p4 r=some ()) (F:Nat) (p1:Gp) (p2:G9) (p3:List G9) (p4:List Stowed) (r:List (Slot×(List Stowed))) (h:S_ F p1 p2 p3 p4=some r):Iter Ek 72 [.dptr (Gp.cs p1),Ef p2,.dptr [E2 p3],.dptr [E1 p4]] (r.map (fun y:Slot×(List Stowed)=>[.agg (Slot.cs y.1),E1 y.2])):=J06 F p1 p2 p3 p4 r () (hS_ F p1 p2 p3 p4 r h)
end
end Go.Proofs.YtpgkkengffpnpaaGreat
