/-
 Models of functions of the program,and that they return what the models say.
-/
import Derived.Test.YthcpolfodgjekaaGreatSpecR
set_option maxRecDepth 100000
set_option maxHeartbeats 1000000
set_option linter.unusedVariables false
set_option linter.unusedSimpArgs false
namespace Go.Proofs.YthcpolfodgjekaaGreat
open Go.RowKit
noncomputable section
structure J7 where
 s:H2
 boxes:List Gg
 l:List Stowed
 open_:List Int
 x:Stowed
 deriving DecidableEq,Inhabited
def J7.cs (x:J7):List AV:=[E4 x.s.Columns,E5 x.s.Covers,G0 x.s.Light.Kilos,G0 x.s.Light.X,G0 x.s.Light.Y,G0 x.s.Light.Z,E7 x.s.Rows,E6 x.s.Frames,E8 x.s.Tanks,G0 x.s.G2.Tolerance,G0 x.s.G2.Trim,G0 x.s.G2.List_,G0 x.s.G2.Stability,E3 x.boxes,E2 x.l,E1 x.open_,G0 x.x.Gg,G0 x.x.Slot.G4,G0 x.x.Slot.Tier,U8 x.x.Slot.Half]
def J7.av (x:J7):AV:=.agg x.cs
abbrev Ef (x:J7):AV:=.dptr (J7.cs x)
namespace XHF
open XAF
open XLF
open XCF
open XGF
theorem Gdc:Gd8 Ej 191 20=true:=by kernel_rfl
theorem H8f:arr1B Ej 192 4=true:=by kernel_rfl
theorem Qb6:arrB Ej 192 36 1=true:=by kernel_rfl
theorem Q71:Ha Ej 105=true:=by kernel_rfl
theorem Q70:Ha Ej 107=true:=by kernel_rfl
theorem Q6f:Ha Ej 108=true:=by kernel_rfl
theorem Q66:Ha Ej 137=true:=by kernel_rfl
theorem Q65:Ha Ej 143=true:=by kernel_rfl
theorem Q62:Ha Ej 147=true:=by kernel_rfl
theorem Q61:Ha Ej 148=true:=by kernel_rfl
theorem Q60:Ha Ej 149=true:=by kernel_rfl
theorem Q5f:Ha Ej 150=true:=by kernel_rfl
theorem Q5e:Ha Ej 151=true:=by kernel_rfl
theorem Q5d:Ha Ej 152=true:=by kernel_rfl
theorem Q5c:Ha Ej 153=true:=by kernel_rfl
theorem J89:Ha Ej 154=true:=by kernel_rfl
theorem J87:Ha Ej 167=true:=by kernel_rfl
theorem Q57:Ha Ej 168=true:=by kernel_rfl
theorem J86:Ha Ej 171=true:=by kernel_rfl
theorem Q54:Ha Ej 173=true:=by kernel_rfl
theorem Q53:Ha Ej 174=true:=by kernel_rfl
theorem J1c:Ha Ej 38=true:=by kernel_rfl
theorem G82:Ha Ej 39=true:=by kernel_rfl
theorem Jcf:Ha Ej 69=true:=by kernel_rfl
theorem H20:Qd Ej 191 0 0=true:=by kernel_rfl
theorem Jcd:Qd Ej 191 1 13=true:=by kernel_rfl
theorem G81:Qd Ej 191 2 14=true:=by kernel_rfl
theorem Jcc:Qd Ej 191 3 15=true:=by kernel_rfl
theorem G5b:Qd Ej 191 4 16=true:=by kernel_rfl
theorem Hff:Qd Ej 69 6 6=true:=by kernel_rfl
theorem Jc9:J48 Ej 138 .u64=true:=by kernel_rfl
theorem Jc8:J48 Ej 3 .i64=true:=by kernel_rfl
theorem J62:Gcb Ej 85 3 3=true:=by kernel_rfl
theorem Q2c:placesOf Ej 191=some [(0,13),(13,1),(14,1),(15,1),(16,4)]:=by kernel_rfl
theorem G0c:Yf Ej 33=true:=by kernel_rfl
theorem Q4c:Ys Ej 191 20=true:=by kernel_rfl
theorem J0e:Ys Ej 57 1=true:=by kernel_rfl
theorem Q49:(Ej.info? 191).bind (fun i=>i.zero.map Value.cells)=some (List.toArray [.slice none 0 0,.slice none 0 0,E0,E0,E0,E0,.slice none 0 0,.slice none 0 0,.slice none 0 0,E0,E0,E0,E0,.slice none 0 0,.slice none 0 0,.slice none 0 0,E0,E0,E0,.int .u8 0]):=by kernel_rfl
theorem Q48:(Ej.info? 192).bind (fun i=>i.zero.map Value.cells)=some (List.toArray [.nilFunc,.nilFunc,.nilFunc,.nilFunc]):=by kernel_rfl
theorem Jc7:(Ej.info? 57).bind (fun i=>i.zero.map Value.cells)=some (List.toArray [.slice none 0 0]):=by kernel_rfl
theorem Q3c:Zj Ej 191 20=true:=by kernel_rfl
end XHF
open XAF
open XLF
open XCF
open XGF
open XHF

def Jp (boxes:List Gg) (id_:Int):Option Int:=
 bnd (G4c boxes id_) fun r3=>
 some r3.1.Discharge
theorem Rw (boxes:List Gg) (id_:Int) (r:Int) (h:Jp boxes id_=some r):Pure Ej 39 [E3 boxes,G0 id_] (·=G0 r):=by
 unfold Jp at h
 refine Gx [.tmp 4] Tryz.func39 O O (Jr fun hK1=>(G57 (G0 0) O (G8 (hK1 (Jr fun hK2=>(G57 (E3 boxes) O (G57 (G0 id_) O ?_)))))))
 obtain⟨r3,hr3,h⟩:=Ge h
 refine JLh (.tup [.agg (Gg.cs r3.1),BL r3.2]) (Gk O (Gab boxes id_ r3 hr3) H22 ⟨O,O,O,O,G⟩) O (G57 (.tup [.agg (Gg.cs r3.1),BL r3.2]) O (JLh (.agg (Gg.cs r3.1)) (H9 O O O) O (JLh (BL r3.2) (H9 O O O) O (JLh (.ptr 1073 0) (Ju 1073 9 G2b O O) O (Jf (u:=.junk) (J2 (u:=.agg (Gg.cs r3.1)) (ds:=(Gg.cs r3.1)) G06 O O O O O O O O) (G57 (BL r3.2) O (G8 (hK2 (Gu [(5,Ee r3.1)] [] 1073 rfl rfl rfl G rfl (by exact⟨.ptr,G⟩) (Jr fun hK4=>(JLh (.dptr ((Gg.cs r3.1).drop 6)) (Ga Hff O O O) O (JLh (G0 r3.1.Discharge) (Gf Gc O O O) O (G57 (G0 r3.1.Discharge) O (G8 (hK4 (Gr (fin1 G0 h)))))))))))))))))

def G63 (F:Nat) (s:H2) (boxes:List Gg) (l:List Stowed) (Rp:((List Int)×Int)→Prop):Option Prop:=
 bnd (Rk s boxes l) fun r4=>
 bif (!r4) then
 (some (Rp ([],2)))
 else
 (each (fun y9 i9 (s9:(Ho Int Int)) nx9=>
   bnd (Z3 F s boxes l [y9.Gg]) fun r15=>
   each (fun y57 i57 (s57:(Ho Int Int)) nx57=>
    jp (fun kj60=>
     bnd (Jp boxes y57) fun r63=>
     bnd (Jp boxes y9.Gg) fun r64=>
     bif decide (r64 < r63) then
     (bnd (some (Ho.get s57 y57 0)) fun v65=>
      G35 (v65+1) fun v66=>
      kj60 (Ho.put s57 y57 v66))
     else
     (kj60 s57)) fun(j60:(Ho Int Int))=>
    nx57 j60)
   (fun(s57:(Ho Int Int))=>
    nx9 s57) r15.1 0 s9)
  (fun(s9:(Ho Int Int))=>
   Jff (fun(x78:Int×Int) (s78:(List Int)) nx78=>
    need (decide ((s78.length+[x78.1].length)*8≤140737488355328∧s78.length+[x78.1].length≤maxLen)) <|
    nx78 (s78++[x78.1]))
   (fun(s78:(List Int))=>
    bnd (G84 s78) fun r85=>
    some (Rp (r85,0))) (Ho.l s9) []) l 0 (Ho.empty:Ho Int Int))
theorem J2d (F:Nat) (s:H2) (boxes:List Gg) (l:List Stowed) (Rp:((List Int)×Int)→Prop) (p:Prop) (h:G63 F s boxes l Rp=some p) (hp:p):Pure Ej 12 [.agg (H2.cs s),E3 boxes,E2 l] (fun av=>∃ r,Rp r∧av=.tup [E1 r.1,G0 r.2]):=by
 unfold G63 at h
 refine Gx [.tmp 6,.tmp 7] Tryz.func12 O O (Jr fun hK1=>(JLh (.ptr 1013 0) (Ja (cs:=(H2.cs s)) 1013 O O O O O) O (JLh (E1 ([]:List Int)) (Hb 1 O O) O (G57 (G0 0) O (G8 (hK1 ?_))))))
 refine Gu [(1,E3 boxes),(2,E2 l),(3,Eb s)] [] 1013 rfl rfl rfl G rfl (by exact⟨.conv (.same rfl),.conv (.same rfl),.ptr,G⟩) (Js fun hK2=>Jr fun hK3=>(JLh (.agg (H2.cs s)) (Gj Hh O O O) O (G57 (E3 boxes) O (G57 (E2 l) O ?_))))
 obtain⟨r4,hr4,h⟩:=Ge h
 refine JLh (BL r4) (Gk O (G8a s boxes l r4 hr4) H23 ⟨O,O,O,O,O,O,G⟩) O (JLh (BL (!r4)) (Qh (b:=r4) O O) O (G8 (hK3 (JCc O h (fun h hb=>?_) (fun h hb=>?_)))))
 ·
  refine Jr fun hK5=>(JLh (E1 ([]:List Int)) (Hb 1 O O) O (G57 (G0 2) O (G8 (hK5 (Gr (⟨[E1 ([]:List Int),G0 2],[],G,O,⟨⟨_,O,.conv (.same O)⟩,⟨_,O,.conv (.same O)⟩,G⟩,O,([],2),Eq.mpr (Option.some.inj h) hp,O⟩))))))
 ·
  refine Gn (hK2 (Jr fun hK6=>(JLh (.mp 1016) (J30 1016 (fun n:Int=>Value.int .i64 n) G0 O O) O (G57 (.mp 1016) O (G8 (hK6 (Js fun hK7=>Jr fun hK8=>(G57 (E2 l) O (JLl H0 O O O fun hm24=>(G57 (G0 0) O (G8 (hK8 (Gp ?_)))))))))))))
  obtain⟨b9,kx9,hb9,hkx9,h⟩:=Hx h
  refine He (fun i9 (s9:(Ho Int Int))=>each b9 kx9 (List.drop i9 l) i9 s9=some p) (fun i9 s9=>[(1,E3 boxes),(2,E2 l),(3,Eb s),(8,.mp 1016),(23,E2 l),(24,Ei l.length),(25,Ei i9)]) (fun i9 s9=>[(1016,MP 85 (fun n:Int=>Value.int .i64 n) G0 s9)]) (fun i9=>l.length - i9) 0 (Ho.empty:Ho Int Int) h ⟨(.sm O O),⟨⟨_,rfl,.map⟩,G⟩,rfl⟩ ?_
  clear h
  intro i9 s9 hi9 K9 e9
  refine Jr fun hK10=>(JLh (BL (decide ((i9:Int) < (l.length:Int)))) (J1 O O O) O (G8 (hK10 (Js fun hK11=>Gm O (fun hb=>?_) (fun hb=>?_)))))
  ·
   have hk9:=Jc hb
   obtain⟨y9,nx9,hy9,hn9,h⟩:=Hm hi9 hk9
   replace h:=Rn hb9 h
   refine Gn (hK11 (Js fun hK12=>Gp (Jr fun hK13=>(JLh (Ec y9) (Gw (f:=Stowed.av) (xs:=l) (y:=y9) O O O H0 hy9 O) O (JLh (.agg (Stowed.cs y9)) (Gj Z8 O O O) O (JLh (.ptr 1014 0) (Ju 1014 4 G13 O O) O (Jf (u:=.junk) (J2 (u:=.agg (Stowed.cs y9)) (ds:=[G0 y9.Gg,G0 y9.Slot.G4,G0 y9.Slot.Tier,U8 y9.Slot.Half]) G36 O O O O O O O O) (G8 (hK13 ?_)))))))))
   refine Gu [(1,E3 boxes),(2,E2 l),(3,Eb s),(8,.mp 1016),(10,Ec y9),(23,E2 l),(24,Ei l.length),(25,Ei i9)] [(1016,MP 85 (fun n:Int=>Value.int .i64 n) G0 s9)] 1014 rfl rfl rfl ⟨⟨_,rfl,.map⟩,G⟩ rfl (by repeat' (first | exact .ptr | constructor)) ?_
   refine Jr fun hK14=>(JLh (.agg (H2.cs s)) (Gj Hh O O O) O (G57 (E3 boxes) O (G57 (E2 l) O (JLh (Ec y9) (Ga Hw O O O) O (JLh (G0 y9.Gg) (Gf Gc O O O) O (JLh (E1 [y9.Gg]) (Hd (xs:=[G0 y9.Gg]) O ⟨O,O,G⟩ Gq Q1 O O O O) O ?_))))))
   obtain⟨r15,hr15,h⟩:=Ge h
   refine JLh (.tup [E1 r15.1,G0 r15.2]) (Gk O (H33.down F s boxes l [y9.Gg] r15 hr15) J1c ⟨O,O,O,O,O,O,O,O,G⟩) O (G57 (.tup [E1 r15.1,G0 r15.2]) O (JLh (E1 r15.1) (H9 O O O) O (JLh (G0 r15.2) (H9 O O O) O (G57 (E1 r15.1) O (G57 (G0 r15.2) O (G8 (hK14 (Jr fun hK16=>(G57 (E1 r15.1) O (JLl Gq O O O fun hm40=>(G57 (G0 0) O (G8 (hK16 (Gp ?_))))))))))))))
   obtain⟨b57,kx57,hb57,hkx57,h⟩:=Hx h
   refine He (fun i57 (s57:(Ho Int Int))=>each b57 kx57 (List.drop i57 r15.1) i57 s57=some p) (fun i57 s57=>[(1,E3 boxes),(2,E2 l),(3,Eb s),(8,.mp 1016),(10,Ec y9),(23,E2 l),(24,Ei l.length),(25,Ei i9),(39,E1 r15.1),(40,Ei r15.1.length),(41,Ei i57)]) (fun i57 s57=>[(1016,MP 85 (fun n:Int=>Value.int .i64 n) G0 s57)]) (fun i57=>r15.1.length - i57) 0 s9 h ⟨(.sm O O),⟨⟨_,rfl,.map⟩,G⟩,rfl⟩ ?_
   clear h
   intro i57 s57 hi57 K57 e57
   refine Jr fun hK58=>(JLh (BL (decide ((i57:Int) < (r15.1.length:Int)))) (J1 O O O) O (G8 (hK58 (Js fun hK59=>Gm O (fun hb=>?_) (fun hb=>?_)))))
   ·
    have hk57:=Jc hb
    obtain⟨y57,nx57,hy57,hn57,h⟩:=Hm hi57 hk57
    replace h:=Rn hb57 h
    refine Gn (hK59 ?_)
    obtain⟨kj60,hkj60,h⟩:=G37 h
    refine Zy (fun j60:(Ho Int Int)=>kj60 j60=some p) (fun j60=>[(1,E3 boxes),(2,E2 l),(3,Eb s),(8,.mp 1016),(10,Ec y9),(23,E2 l),(24,Ei l.length),(25,Ei i9),(39,E1 r15.1),(40,Ei r15.1.length),(41,Ei i57)]) (fun j60=>[(1016,MP 85 (fun n:Int=>Value.int .i64 n) G0 j60)]) (fun Kj60 ej60=>?_) ?_
    ·
     refine Gp (Jr fun hK61=>(JLh (.dptr [G0 y57]) (Gw (f:=G0) (xs:=r15.1) (y:=y57) O O O Gq hy57 O) O (JLh (G0 y57) (Gf Gc O O O) O (G57 (G0 y57) O (G8 (hK61 (Js fun hK62=>?_)))))))
     refine G2a (l':=[(1,E3 boxes),(2,E2 l),(3,Eb s),(8,.mp 1016),(10,Ec y9),(14,G0 y57),(23,E2 l),(24,Ei l.length),(25,Ei i9),(39,E1 r15.1),(40,Ei r15.1.length),(41,Ei i57)]) (L':=[(1016,MP 85 (fun n:Int=>Value.int .i64 n) G0 s57)]) ⟨(.sm O O),⟨⟨_,rfl,.map⟩,G⟩,rfl⟩ ?_
     obtain⟨r63,hr63,h⟩:=Ge h
     obtain⟨r64,hr64,h⟩:=Ge h
     refine JC_d0 Jg (by kernel_rfl) (Dq (E3 boxes) (G5 O O) O (Dq (G0 y57) (G5 O O) O (Dq (G0 r63) (Gk (args:=[E3 boxes,G0 y57]) O (Rw boxes y57 r63 hr63) G82 ⟨O,O,O,O,G⟩) O (Dq (E3 boxes) (G5 O O) O (Dq (Ec y9) (Ga Hw O O O) O (Dq (G0 y9.Gg) (Gf Gc O O O) O (Dq (G0 r64) (Gk (args:=[E3 boxes,G0 y9.Gg]) O (Rw boxes y9.Gg r64 hr64) G82 ⟨O,O,O,O,G⟩) O (Dq (BL (decide (r64 < r63))) (G3d O O O) O (Dnil (hK62 (JCc O h (fun h hb=>?_) (fun h hb=>?_))))))))))))
     ·
      refine G3 (G57 (.mp 1016) O (G57 (G0 y57) O ?_))
      obtain⟨v65,hv65,h⟩:=Ge h
      refine JLh (G0 v65) (((Option.some.inj hv65) ▸ J31 (av:=G0) (m:=s57) (a:=y57) 0 E0 O O O O tk_3 J62 H83 O)) O ?_
      obtain⟨v66,hv66,h⟩:=Qj h
      refine JLh (G0 v66) (Hu hv66 O O O) O (Jf (u:=.junk) (J5b (m:=s57) (a:=y57) (v:=v66) O O O O O O tk_3 J62) (G8 (ej60 _ _ (Ho.put s57 y57 v66) h ⟨(.sm O O),⟨⟨_,rfl,.map⟩,G⟩,rfl⟩)))
     ·
      refine Gn (ej60 _ _ s57 h ⟨(.sm O O),⟨⟨_,rfl,.map⟩,G⟩,rfl⟩)
    ·intro j60 h
     replace h:=app1 hkj60 h
     refine G3 (JLh (G0 ((i57+1:Nat):Int)) (Hu (Hc hk57 hm40) O O O) O (G57 (G0 ((i57+1:Nat):Int)) O (G8 (e57 _ _ (i57+1) j60 (app1 hn57 h) (by omega) ⟨(.sm O O),⟨⟨_,rfl,.map⟩,G⟩,rfl⟩))))
   ·
    have h:=app1 hkx57 (Hn hi57 (H6 hb))
    refine Hk (hK12 (G3 (JLh (G0 ((i9+1:Nat):Int)) (Hu (Hc hk9 hm24) O O O) O (G57 (G0 ((i9+1:Nat):Int)) O (G8 (e9 _ _ (i9+1) s57 (app1 hn9 h) (by omega) ⟨(.sm O O),⟨⟨_,rfl,.map⟩,G⟩,rfl⟩))))))
  ·
   have h:=app1 hkx9 (Hn hi9 (H6 hb))
   refine Hk (hK7 (Jr fun hK67=>(JLh (.vec 1015 (([]:List Int).length) 1 (([]:List Int).length)) (Q42 1015 3 1 O O O) O (G8 (hK67 (Js fun hK68=>Jr fun hK69=>(G57 (.mp 1016) O (JLh (.it 1017) (Q24 1017 (m:=s9) O O O O J62) O (G8 (hK69 (Gp ?_)))))))))))
   obtain⟨b78,kx78,hb78,hkx78,h⟩:=Jfe h
   refine Q1d (Ho.size s9) (fun i78 (s78:(List Int))=>MInv b78 kx78 (Ho.l s9) i78 s78) (fun i78 s78=>[(15,.vec 1015 s78.length 1 s78.length),(60,.it 1017)]) (fun i78 s78=>[(1016,MP 85 (fun n:Int=>Value.int .i64 n) G0 s9),(1015,.vec 3 1 s78.length (s78.map G0)),(1017,.iter 1016 (Ho.size s9) i78)]) [] (MInv.start h hp) ⟨(.sm O O),⟨⟨_,O,.map⟩,⟨_,O,.vec⟩,⟨_,O,.iter O⟩,G⟩,O⟩ ?_
   clear h hp
   intro i78 s78 hi78 K78 e78
   refine Jr fun hK79=>H61 O O O (Q43 (m:=s9) O O O O) ?_
   intro u_ L_ hn_
   rcases hn_ with ⟨q78,x78,he78,hs78,rfl,rfl⟩ | ⟨ha78,rfl,rfl⟩
   ·
    obtain⟨o78,h,ho1_78,ho2_78⟩:=hi78.step he78 hs78
    replace h:=Hfc hb78 h
    refine JLh (BL true) (H9 O O O) O (G8 (hK79 (Js fun hK80=>Q1e O (Gn (hK80 (Gp (Jr fun hK81=>(JLh (.tup [G0 x78.1,G0 x78.2]) (Q29 (kv:=(fun n:Int=>Value.int .i64 n)) (av:=G0) (m:=s9) (q:=q78) (seen:=i78) (e:=x78) O O O O he78) O (JLh (G0 x78.1) (H9 O O O) O (G57 (G0 x78.1) O (G8 (hK81 (G3 (G57 (.vec 1015 s78.length 1 s78.length) O (G57 (G0 x78.1) O (JLh (E1 [x78.1]) (Hd (xs:=[G0 x78.1]) O ⟨O,O,G⟩ Gq Q1 O O O O) O ?_))))))))))))))))
    obtain⟨ha82,h⟩:=Hv h
    refine JLh (.vec 1015 ((s78++[x78.1]).length) 1 ((s78++[x78.1]).length)) (Ge6 (f:=G0) (xs:=s78) (ys:=[x78.1]) (ver:=s78.length) (ver1:=(s78++[x78.1]).length) rfl rfl rfl rfl Gq Y2 ha82 (fun _=>rfl) (.inl rfl) (by simp)) O (G57 (.vec 1015 ((s78++[x78.1]).length) 1 ((s78++[x78.1]).length)) O (G8 (e78 _ _ (i78++[q78]) (s78++[x78.1]) (ho2_78 _ (Option.some.inj h).symm) (J5f (List.getElem?_eq_some_iff.1 he78).1 hs78) ⟨(.sm O O),⟨⟨_,O,.map⟩,⟨_,O,.vec⟩,⟨_,O,.iter O⟩,G⟩,O⟩)))
   ·
    obtain⟨p_,h,hp⟩:=hi78.done ha78
    replace h:=app1 hkx78 h
    refine JLh (BL false) (H9 O O O) O (G8 (hK79 (Js fun hK83=>Q1f O (Hk (hK68 (Jr fun hK84=>(G57 (.vec 1015 s78.length 1 s78.length) O ?_)))))))
    obtain⟨r85,hr85,h⟩:=Ge h
    refine JLh (.tup []) (A_sortI (F:=40) (xs:=s78) (r:=r85) O J99 J3a Jdb O O O hr85 O) O (G8 (hK84 (Jr fun hK86=>(G57 (.vec 1015 s78.length 1 s78.length) O (G57 (.vec 1015 s78.length 1 s78.length) O (G57 (G0 0) O (G8 (hK86 (Q1c [(6,E1 r85),(7,G0 0)] [] 1015 rfl rfl G rfl (by exact⟨.vec,.conv (.same rfl),G⟩) (Gr (⟨[E1 r85,G0 0],[],G,O,⟨⟨_,O,.conv (.same O)⟩,⟨_,O,.conv (.same O)⟩,G⟩,O,(r85,0),Eq.mpr (Option.some.inj h) hp,O⟩)))))))))))
theorem J2e (S_:Nat→(H2)→(List Gg)→(List Stowed)→Option ((List Int)×Int)) (hS_:∀ F s boxes l r,S_ F s boxes l=some r→∃ p:Prop,G63 F s boxes l (fun r_=>r_=r)=some p∧p) (F:Nat) (s:H2) (boxes:List Gg) (l:List Stowed) (r:(List Int)×Int) (h:S_ F s boxes l=some r):Pure Ej 12 [.agg (H2.cs s),E3 boxes,E2 l] (·=.tup [E1 r.1,G0 r.2]):=by
 obtain⟨p,h1,h2⟩:=hS_ F s boxes l r h
 exact(J2d F s boxes l _ p h1 h2).monoP (fun av hh=>by obtain⟨r_,rfl,ha⟩:=hh; exact ha)

def Ga1 (p:J7):Option Bool:=
 bnd (G1c p.s p.x.Slot.G4) fun r4=>
 bnd (bif decide (0≤r4) then Qr p.s.Columns p.x.Slot.G4 some else some default) fun y6=>
 bnd (bif decide (0≤r4) then Ry p.open_ r4 else some default) fun r7=>
 some ((decide (0≤r4))&&(y6.Deck==r7))
theorem Hb3 (p:J7) (r:Bool) (h:Ga1 p=some r):Pure Ej 150 [.agg (J7.cs p)] (·=BL r):=by
 unfold Ga1 at h
 refine Gx [.tmp 2] Tryz.func150 O O (Jr fun hK1=>(JLh (.ptr 1182 0) (Ja (cs:=(J7.cs p)) 1182 O O O O O) O (G57 (BL false) O (G8 (hK1 ?_)))))
 refine Gu [(1,Ef p)] [] 1182 rfl rfl rfl G rfl (by exact⟨.ptr,G⟩) (Jr fun hK2=>(JLh (Ec p.x) (Ga G5b O O O) O (JLh (.dptr ((Stowed.cs p.x).drop 1)) (Ga J6 O O O) O (JLh (.dptr ((Stowed.cs p.x).drop 1)) (Ga Jb O O O) O (JLh (G0 p.x.Slot.G4) (Gf Gc O O O) O (G57 (G0 p.x.Slot.G4) O (G8 (hK2 ?_))))))))
 refine Jr fun hK3=>(JLh (Ef p) (Ga H20 O O O) O (JLh (.agg (H2.cs p.s)) (Gj Hh O O O) O (G57 (G0 p.x.Slot.G4) O ?_)))
 obtain⟨r4,hr4,h⟩:=Ge h
 refine JLh (G0 r4) (Gk O (Ge3 p.s p.x.Slot.G4 r4 hr4) Hc4 ⟨O,O,O,O,G⟩) O (G57 (G0 r4) O (G8 (hK3 (Js fun hK5=>?_))))
 obtain⟨y6,hy6,h⟩:=Ge h
 obtain⟨r7,hr7,h⟩:=Ge h
 refine JC_d0 Jg (by kernel_rfl) (Dq (G0 r4) (G5 O O) O (Dq (BL (decide (0≤r4))) (G31 O O O) O (Dq (BL (decide (0≤r4))) (G5 O O) O (Do (Ef p) [] O .sct G (fun hc=>Ga H20 O O O) O (Do (Ef p) [16] O .sct ⟨Ua,G⟩ (fun hc=>Ga Hj O O O) O (Do (E4 p.s.Columns) [17] O .sct ⟨Ua,G⟩ (fun hc=>Gf Ht O O O) O (Do (G0 p.x.Slot.G4) [] O .sct G (fun hc=>G5 O O) O (Do (Ed y6) [18,19] O .sct ⟨Ua,Ua,G⟩ (fun hc=>(match Qa (Gy hc hy6) with | ⟨_,hm_,hy_⟩=>Gw (f:=G4.av) (xs:=p.s.Columns) (y:=y6) O O O H5 hy_ hm_)) O (Do (.dptr ((G4.cs y6).drop 2)) [20] O .sct ⟨Ua,G⟩ (fun hc=>Ga Yw O O O) O (Do (BL y6.Deck) [21] O .sct ⟨Ua,G⟩ (fun hc=>Gf Ra O O O) O (Do (.dptr [E1 p.open_,G0 p.x.Gg,G0 p.x.Slot.G4,G0 p.x.Slot.Tier,U8 p.x.Slot.Half]) [] O .sct G (fun hc=>Ga Jcc O O O) O (Do (E1 p.open_) [23] O .sct ⟨Ua,G⟩ (fun hc=>Gf Hy O O O) O (Do (G0 r4) [] O .sct G (fun hc=>G5 O O) O ?_)))))))))))))
 refine Do (BL r7) [24,25] O .sct ⟨Ua,Ua,G⟩ (fun hc=>Gk (args:=[E1 p.open_,G0 r4]) O (G61 p.open_ r4 r7 (Gy hc hr7)) J1a ⟨O,O,O,O,G⟩) O (Do (BL (y6.Deck==r7)) [22,26] O .sct ⟨Ua,Ua,G⟩ (fun hc=>J5c He7 O O O) O (Dq (BL ((decide (0≤r4))&&(y6.Deck==r7))) (J5 O O O O) O (Dq (BL ((decide (0≤r4))&&(y6.Deck==r7))) (G7 O O) O (Dnil (hK5 (Gr (fin1 BL h)))))))

def G4a (y:Stowed) (p1:J7):Option Bool:=
 bnd (Gbe p1.x.Slot y.Slot) fun r3=>
 some r3
theorem Ha2 (y:Stowed) (p1:J7) (r:Bool) (h:G4a y p1=some r):Pure Ej 173 [.agg (Stowed.cs y),Ef p1] (·=BL r):=by
 unfold G4a at h
 refine Gx [.tmp 3] Tryz.func173 O O (Jr fun hK1=>(JLh (.ptr 1195 0) (Ja (cs:=[G0 y.Gg,G0 y.Slot.G4,G0 y.Slot.Tier,U8 y.Slot.Half]) 1195 O O O O O) O (G57 (BL false) O (G8 (hK1 (Gu [(1,Ef p1),(2,Ec y)] [] 1195 rfl rfl rfl G rfl (by exact⟨.conv (.same rfl),.ptr,G⟩) (Jr fun hK2=>(JLh (.dptr ((J7.cs p1).drop 16)) (Ga G5b O O O) O (JLh (.dptr ((J7.cs p1).drop 17)) (Ga J6 O O O) O (JLh (.agg ((J7.cs p1).drop 17)) (Gj Q0 O O O) O (JLh (.dptr ((Stowed.cs y).drop 1)) (Ga J6 O O O) O (JLh (.agg ((Stowed.cs y).drop 1)) (Gj Q0 O O O) O ?_))))))))))))
 obtain⟨r3,hr3,h⟩:=Ge h
 refine JLh (BL r3) (Gk O (J09 p1.x.Slot y.Slot r3 hr3) Jd1 ⟨O,O,O,O,G⟩) O (G57 (BL r3) O (G8 (hK2 (Gr (fin1 BL h)))))

def R1 (s:List Stowed) (f:Stowed→Option Bool):Option Bool:=
 bnd (Ro s f) fun r3=>
 some (decide (0≤r3))
theorem G3c (s:List Stowed) (f:Stowed→Option Bool) (f_f:FuncId) (f_c:List AV) (f_B:Ha Ej f_f=true) (f_d:G15 (fun _=>false) f_c=true) (f_w:∀ a0 q,f a0=some q→Pure Ej f_f ([.agg (Stowed.cs a0)]++f_c) (·=BL q)) (r:Bool) (h:R1 s f=some r):Pure Ej 69 [E2 s,.fn f_f f_c] (·=BL r):=by
 unfold R1 at h
 refine Gx [.tmp 4] Tryz.func69 O O (Jr fun hK1=>(G57 (BL false) O (G8 (hK1 (Jr fun hK2=>(G57 (E2 s) O (G57 (.fn f_f f_c) O ?_)))))))
 obtain⟨r3,hr3,h⟩:=Ge h
 refine JLh (G0 r3) (Gk O (G60 s f f_f f_c f_B f_d f_w r3 hr3) J8e ⟨O,O,O,f_d,G⟩) O (JLh (BL (decide (0≤r3))) (G31 O O O) O (G57 (BL (decide (0≤r3))) O (G8 (hK2 (Gr (fin1 BL h))))))

def Gb8 (p:J7):Option Bool:=
 bnd (R1 p.l (fun z0=>G4a z0 p)) fun r3=>
 some r3
theorem Hde (p:J7) (r:Bool) (h:Gb8 p=some r):Pure Ej 151 [.agg (J7.cs p)] (·=BL r):=by
 unfold Gb8 at h
 refine Gx [.tmp 2] Tryz.func151 O O (Jr fun hK1=>(JLh (.ptr 1183 0) (Ja (cs:=(J7.cs p)) 1183 O O O O O) O (G57 (BL false) O (G8 (hK1 ?_)))))
 refine Gu [(1,Ef p)] [] 1183 rfl rfl rfl G rfl (by exact⟨.ptr,G⟩) ?_
 refine Jr fun hK2=>(JLh (.dptr [E2 p.l,E1 p.open_,G0 p.x.Gg,G0 p.x.Slot.G4,G0 p.x.Slot.Tier,U8 p.x.Slot.Half]) (Ga G81 O O O) O (JLh (E2 p.l) (Gf Rh O O O) O (JLh (.fn 173 [.dptr (J7.cs p)]) (G23 (cs:=[.dptr (J7.cs p)]) O O) O ?_)))
 obtain⟨r3,hr3,h⟩:=Ge h
 refine JLh (BL r3) (Gk O (G3c p.l (fun z0=>G4a z0 p) 173 [.dptr (J7.cs p)] Q54 O (fun z0 q hq=>Ha2 z0 p q hq) r3 hr3) Jcf ⟨O,O,O,O,G⟩) O (G57 (BL r3) O (G8 (hK2 (Gr (fin1 BL h)))))

def G89 (p:J7):Option Bool:=
 bnd (G97 p.l) fun r3=>
 bnd (Gbf p.x.Slot r3) fun r4=>
 some (!r4)
theorem Ha3 (p:J7) (r:Bool) (h:G89 p=some r):Pure Ej 152 [.agg (J7.cs p)] (·=BL r):=by
 unfold G89 at h
 refine Gx [.tmp 2] Tryz.func152 O O (Jr fun hK1=>(JLh (.ptr 1184 0) (Ja (cs:=(J7.cs p)) 1184 O O O O O) O (G57 (BL false) O (G8 (hK1 ?_)))))
 refine Gu [(1,Ef p)] [] 1184 rfl rfl rfl G rfl (by exact⟨.ptr,G⟩) (Js fun hK2=>?_)
 obtain⟨r3,hr3,h⟩:=Ge h
 obtain⟨r4,hr4,h⟩:=Ge h
 refine JC_d0 Jg (by kernel_rfl) (Dq (Ec p.x) (Ga G5b O O O) O (Dq (.dptr ((Stowed.cs p.x).drop 1)) (Ga J6 O O O) O (Dq (.agg ((Stowed.cs p.x).drop 1)) (Gj Q0 O O O) O (Dq (.dptr [E2 p.l,E1 p.open_,G0 p.x.Gg,G0 p.x.Slot.G4,G0 p.x.Slot.Tier,U8 p.x.Slot.Half]) (Ga G81 O O O) O (Dq (E2 p.l) (Gf Rh O O O) O (Dq (E9 r3) (Gk (args:=[E2 p.l]) O (Hdd p.l r3 hr3) Jd4 ⟨O,O,G⟩) O (Dq (BL r4) (Gk (args:=[.agg ((Stowed.cs p.x).drop 1),E9 r3]) O (J0a p.x.Slot r3 r4 hr4) Jd2 ⟨O,O,O,O,G⟩) O (Dq (BL (!r4)) (Qh (b:=r4) O O) O (Dq (BL (!r4)) (G7 O O) O (Dnil (hK2 (Gr (fin1 BL h)))))))))))))

def G3b (F:Nat) (p:J7):Option (List Stowed):=
 loop (fun nx10 (s10:Int)=>
  bnd (bif decide (s10 < (p.l.length:Int)) then Qr p.l s10 some else some default) fun y13=>
  bif ((decide (s10 < (p.l.length:Int)))&&(decide (y13.Gg < p.x.Gg))) then
  (G35 (s10+1) fun v14=>
   nx10 v14)
  else
  (bnd (G76 p.l s10 p.x) fun r16=>
   some r16)) F 0
abbrev Es (p:J7):List AV:=[E2 p.l,E1 p.open_,G0 p.x.Gg,G0 p.x.Slot.G4,G0 p.x.Slot.Tier,U8 p.x.Slot.Half]
theorem Gbc (F:Nat) (p:J7) (r:(List Stowed)) (h:G3b F p=some r):Pure Ej 154 [.agg (J7.cs p)] (·=E2 r):=by
 unfold G3b at h
 refine Gx [.tmp 2] Tryz.func154 O O (Jr fun hK1=>(JLh (.ptr 1186 0) (Ja (cs:=(J7.cs p)) 1186 O O O O O) O (JLh (E2 ([]:List Stowed)) (Hb 4 O O) O (G8 (hK1 ?_)))))
 refine Gu [(1,Ef p)] [] 1186 rfl rfl rfl G rfl (by exact⟨.ptr,G⟩) (Jr fun hK2=>(G57 (G0 0) O (G8 (hK2 (Js fun hK3=>Gp ?_)))))
 obtain⟨b10,hb10,h⟩:=loop_in h
 refine He (fun i10 (s10:Int)=>loop b10 i10 s10=some r) (fun i10 s10=>[(1,Ef p),(3,G0 s10)]) (fun i10 s10=>[]) (fun i10=>i10) F 0 h ⟨(.sm O O),G,O⟩ ?_
 clear h
 intro i10 s10 hi10 K10 e10
 obtain⟨m10,nx10,hm_10,hn10,h⟩:=Jf4 hi10
 replace h:=app2 hb10 h
 refine Js fun hK11=>Js fun hK12=>?_
 obtain⟨y13,hy13,h⟩:=Ge h
 refine JC_d0 Jg (by kernel_rfl) (Dq (G0 s10) (G5 O O) O (Dq (.dptr (Es p)) (Ga G81 O O O) O (Dq (E2 p.l) (Gf Rh O O O) O (Dq (Ei p.l.length) (Qw (f:=Stowed.av) (xs:=p.l) H0 O O) O (Dq (BL (decide (s10 < (p.l.length:Int)))) (J1 O O O) O (Dq (BL (decide (s10 < (p.l.length:Int)))) (G5 O O) O (Do (.dptr (Es p)) [] O .sct G (fun hc=>Ga G81 O O O) O (Do (E2 p.l) [10] O .sct ⟨Ua,G⟩ (fun hc=>Gf Rh O O O) O (Do (G0 s10) [] O .sct G (fun hc=>G5 O O) O (Do (Ec y13) [11,12] O .sct ⟨Ua,Ua,G⟩ (fun hc=>(match Qa (Gy hc hy13) with | ⟨_,hm_,hy_⟩=>Gw (f:=Stowed.av) (xs:=p.l) (y:=y13) O O O H0 hy_ hm_)) O (Do (Ec y13) [13] O .sct ⟨Ua,G⟩ (fun hc=>Ga Hw O O O) O (Do (G0 y13.Gg) [14] O .sct ⟨Ua,G⟩ (fun hc=>Gf Gc O O O) O (Do (Ec p.x) [] O .sct G (fun hc=>Ga G5b O O O) O ?_)))))))))))))
 refine Do (Ec p.x) [16] O .sct ⟨Ua,G⟩ (fun hc=>Ga Hw O O O) O (Do (G0 p.x.Gg) [17] O .sct ⟨Ua,G⟩ (fun hc=>Gf Gc O O O) O (Do (BL (decide (y13.Gg < p.x.Gg))) [15,18] O .sct ⟨Ua,Ua,G⟩ (fun hc=>J1 O O O) O (Dq (BL ((decide (s10 < (p.l.length:Int)))&&(decide (y13.Gg < p.x.Gg)))) (J5 O O O O) O (Dnil (hK12 (JCc O h (fun h hb=>?_) (fun h hb=>?_)))))))
 ·
  refine Gn (hK11 (Gp (G3 (G57 (G0 s10) O ?_))))
  obtain⟨v14,hv14,h⟩:=Qj h
  refine JLh (G0 v14) (Hu hv14 O O O) O (G57 (G0 v14) O (G8 (e10 _ _ m10 v14 (app1 hn10 h) (by omega) ⟨(.sm O O),G,rfl⟩)))
 ·
  refine Hk (hK3 (Jr fun hK15=>(JLh (.dptr (Es p)) (Ga G81 O O O) O (JLh (E2 p.l) (Gf Rh O O O) O (G57 (G0 s10) O (JLh (Ec p.x) (Ga G5b O O O) O (JLh (.agg (Stowed.cs p.x)) (Gj Z8 O O O) O ?_)))))))
  obtain⟨r16,hr16,h⟩:=Ge h
  refine JLh (E2 r16) (Gk O (H76.down p.l s10 p.x r16 hr16) Q53 ⟨O,O,O,O,O,O,G⟩) O (G57 (E2 r16) O (G8 (hK15 (Gr (fin1 (fun r:(List Stowed)=>(E2 r:AV)) h)))))

def Ga2 (F:Nat) (p:J7):Option Bool:=
 bnd (G3b F p) fun r3=>
 bnd (Gbd p.s p.boxes r3 p.x.Slot.G4) fun r4=>
 some (!r4)
theorem Hb4 (F:Nat) (p:J7) (r:Bool) (h:Ga2 F p=some r):Pure Ej 153 [.agg (J7.cs p)] (·=BL r):=by
 unfold Ga2 at h
 refine Gx [.tmp 2] Tryz.func153 O O (Jr fun hK1=>(JLh (.ptr 1185 0) (Ja (cs:=(J7.cs p)) 1185 O O O O O) O (G57 (BL false) O (G8 (hK1 ?_)))))
 refine Gu [(1,Ef p)] [] 1185 rfl rfl rfl G rfl (by exact⟨.ptr,G⟩) (Js fun hK2=>?_)
 obtain⟨r3,hr3,h⟩:=Ge h
 obtain⟨r4,hr4,h⟩:=Ge h
 refine JC_d0 Jg (by kernel_rfl) (Dq (Ef p) (Ga H20 O O O) O (Dq (.agg (H2.cs p.s)) (Gj Hh O O O) O (Dq (.dptr [E3 p.boxes,E2 p.l,E1 p.open_,G0 p.x.Gg,G0 p.x.Slot.G4,G0 p.x.Slot.Tier,U8 p.x.Slot.Half]) (Ga Jcd O O O) O (Dq (E3 p.boxes) (Gf G0c O O O) O (Dq (.agg (J7.cs p)) (Gj Gdc O O O) O (Dq (E2 r3) (Gk (args:=[.agg (J7.cs p)]) O (Gbc F p r3 hr3) J89 ⟨O,O,G⟩) O (Dq (Ec p.x) (Ga G5b O O O) O (Dq (.dptr ((Stowed.cs p.x).drop 1)) (Ga J6 O O O) O (Dq (.dptr ((Stowed.cs p.x).drop 1)) (Ga Jb O O O) O (Dq (G0 p.x.Slot.G4) (Gf Gc O O O) O (Dq (BL r4) (Gk (args:=[.agg (H2.cs p.s),E3 p.boxes,E2 r3,G0 p.x.Slot.G4]) O (J08 p.s p.boxes r3 p.x.Slot.G4 r4 hr4) Jd0 ⟨O,O,O,O,O,O,O,O,G⟩) O (Dq (BL (!r4)) (Qh (b:=r4) O O) O (Dq (BL (!r4)) (G7 O O) O (Dnil ?_))))))))))))))
 refine hK2 (Gr (fin1 BL h))

def Ha4 (F:Nat) (s:H2) (boxes:List Gg) (l:List Stowed) (open_:List Int) (x:Stowed):Option ((List Stowed)×Int):=
 bnd (G19 s boxes l open_) fun r4=>
 bif (!r4) then
 (some ([],2))
 else
 (bnd (G4c boxes x.Gg) fun r7=>
  bif ((!r7.2)||((decide (r7.1.Size≠20))&&(decide (r7.1.Size≠40)))) then
  (some ([],6))
  else
  (bnd (G4b l x.Gg) fun r12=>
   bif decide (0≤r12) then
   (some ([],96))
   else
   (bnd (G98 s x.Slot r7.1.Size) fun r15=>
    bif (!r15) then
    (some ([],97))
    else
    (need (decide (4≤9223372036854775807)) <|
     upto (fun i60 (s60:Unit) nx60=>
      jp (fun kj63=>
       bif decide ((i60:Int)=0) then
       (bnd (Ga1 (J7.mk s boxes l open_ x)) fun r67=>
        bif r67 then
        (G35 (91+(i60:Int)) fun v69=>
         some ([],v69))
        else
        (kj63 ()))
       else
       (bif decide ((i60:Int)=1) then
        (bnd (Gb8 (J7.mk s boxes l open_ x)) fun r71=>
         bif r71 then
         (G35 (91+(i60:Int)) fun v73=>
          some ([],v73))
         else
         (kj63 ()))
        else
        (bif decide ((i60:Int)=2) then
         (bnd (G89 (J7.mk s boxes l open_ x)) fun r75=>
          bif r75 then
          (G35 (91+(i60:Int)) fun v77=>
           some ([],v77))
          else
          (kj63 ()))
         else
         (bif decide ((i60:Int)=3) then
          (bnd (Ga2 F (J7.mk s boxes l open_ x)) fun r79=>
           bif r79 then
           (G35 (91+(i60:Int)) fun v81=>
            some ([],v81))
           else
           (kj63 ()))
          else
          (none))))) fun(j63:Unit)=>
      nx60 ())
     (fun(s60:Unit)=>
      bnd (G3b F (J7.mk s boxes l open_ x)) fun r83=>
      some (r83,0)) (4:Int).toNat 0 ()))))
abbrev Eu (s:H2) (boxes:List Gg) (l:List Stowed) (open_:List Int) (x:Stowed):List AV:=[E4 s.Columns,E5 s.Covers,G0 s.Light.Kilos,G0 s.Light.X,G0 s.Light.Y,G0 s.Light.Z,E7 s.Rows,E6 s.Frames,E8 s.Tanks,G0 s.G2.Tolerance,G0 s.G2.Trim,G0 s.G2.List_,G0 s.G2.Stability,E3 boxes,E2 l,E1 open_,G0 x.Gg,G0 x.Slot.G4,G0 x.Slot.Tier,U8 x.Slot.Half]
abbrev Ev (s:H2) (boxes:List Gg) (l:List Stowed) (open_:List Int) (x:Stowed):List AV:=[.agg (Eu s boxes l open_ x)]
theorem M_stow_Put_w (F:Nat) (s:H2) (boxes:List Gg) (l:List Stowed) (open_:List Int) (x:Stowed) (r:(List Stowed)×Int) (h:Ha4 F s boxes l open_ x=some r):Pure Ej 108 [.agg (H2.cs s),E3 boxes,E2 l,E1 open_,.agg (Stowed.cs x)] (·=.tup [E2 r.1,G0 r.2]):=by
 unfold Ha4 at h
 refine Gx [.tmp 10,.tmp 11] Tryz.func108 O O (Jr fun hK1=>(JLh (.ptr 1157 0) (Ja (cs:=(H2.cs s)) 1157 O O O O O) O (JLh (.ptr 1158 0) (Ja (cs:=[G0 x.Gg,G0 x.Slot.G4,G0 x.Slot.Tier,U8 x.Slot.Half]) 1158 O O O O O) O (JLh (E2 ([]:List Stowed)) (Hb 4 O O) O (G57 (G0 0) O (G8 (hK1 ?_)))))))
 refine Gu [(1,E3 boxes),(2,E2 l),(3,E1 open_),(5,Eb s),(9,.ptr 1158 0)] [(1158,.box 73 [G0 x.Gg,G0 x.Slot.G4,G0 x.Slot.Tier,U8 x.Slot.Half])] 1157 rfl rfl rfl ⟨⟨_,rfl,.boxEq rfl rfl⟩,G⟩ rfl (by repeat' (first | exact .ptr | constructor)) ?_
 refine Gu [(1,E3 boxes),(2,E2 l),(3,E1 open_),(5,Eb s),(9,Ec x)] [] 1158 rfl rfl rfl G rfl (by repeat' (first | exact .ptr | constructor)) (Js fun hK2=>?_)
 refine Jr fun hK3=>(JLh (.agg (H2.cs s)) (Gj Hh O O O) O (G57 (E3 boxes) O (G57 (E2 l) O (G57 (E1 open_) O ?_))))
 obtain⟨r4,hr4,h⟩:=Ge h
 refine JLh (BL r4) (Gk O (Ge2 s boxes l open_ r4 hr4) J19 ⟨O,O,O,O,O,O,O,O,G⟩) O (JLh (BL (!r4)) (Qh (b:=r4) O O) O (G8 (hK3 (JCc O h (fun h hb=>?_) (fun h hb=>?_)))))
 ·
  refine Jr fun hK5=>(JLh (E2 ([]:List Stowed)) (Hb 4 O O) O (G57 (G0 2) O (G8 (hK5 (Gr (⟨[E2 ([]:List Stowed),G0 2],[],G,O,⟨⟨_,O,.conv (.same O)⟩,⟨_,O,.conv (.same O)⟩,G⟩,O,congrArg (fun r:(List Stowed)×Int=>(.tup [E2 r.1,G0 r.2]:AV)) (Option.some.inj h)⟩))))))
 ·
  refine Gn (hK2 (Jr fun hK6=>(G57 (E3 boxes) O (JLh (Ec x) (Ga Hw O O O) O (JLh (G0 x.Gg) (Gf Gc O O O) O ?_)))))
  obtain⟨r7,hr7,h⟩:=Ge h
  refine JLh (.tup [.agg (Gg.cs r7.1),BL r7.2]) (Gk O (Gab boxes x.Gg r7 hr7) H22 ⟨O,O,O,O,G⟩) O (G57 (.tup [.agg (Gg.cs r7.1),BL r7.2]) O (JLh (.agg (Gg.cs r7.1)) (H9 O O O) O (JLh (BL r7.2) (H9 O O O) O (JLh (.ptr 1159 0) (Ju 1159 9 G2b O O) O (Jf (u:=.junk) (J2 (u:=.agg (Gg.cs r7.1)) (ds:=(Gg.cs r7.1)) G06 O O O O O O O O) (G57 (BL r7.2) O (G8 (hK6 ?_))))))))
  refine Gu [(1,E3 boxes),(2,E2 l),(3,E1 open_),(5,Eb s),(9,Ec x),(12,Ee r7.1),(13,BL r7.2)] [] 1159 rfl rfl rfl G rfl (by repeat' (first | exact .ptr | constructor)) (Js fun hK8=>Gp ?_)
  refine Jr fun hK9=>(G57 (BL r7.2) O (JLh (BL (!r7.2)) (Qh (b:=r7.2) O O) O (G57 (BL (!r7.2)) O (JLo (.dptr ((Gg.cs r7.1).drop 2)) [] O .scf G (fun hc=>Ga G2c O O O) O (JLo (U8 r7.1.Size) [34] O .scf ⟨Ua,G⟩ (fun hc=>Gf Jd O O O) O (JLo (BL (decide (r7.1.Size≠20))) [35] O .scf ⟨Ua,G⟩ (fun hc=>G30 O O O) O (JLo (BL (decide (r7.1.Size≠20))) [36] O .scf ⟨Ua,G⟩ (fun hc=>G5 O O) O (JLo (.dptr ((Gg.cs r7.1).drop 2)) [] O .optt G (fun hc=>Ga G2c O O O) O (JLo (U8 r7.1.Size) [38] O .optt ⟨Ua,G⟩ (fun hc=>Gf Jd O O O) O (JLo (BL (decide (r7.1.Size≠40))) [39] O .optt ⟨Ua,G⟩ (fun hc=>G30 O O O) O (Gb (u:=BL ((decide (r7.1.Size≠20))&&(decide (r7.1.Size≠40)))) [(37,BL (decide (r7.1.Size≠20))),(40,_)] O O O .scf ⟨.all id,.part,G⟩ (fun hc=>J5 O O O O) ?_)))))))))))
  refine JLh (BL ((!r7.2)||((decide (r7.1.Size≠20))&&(decide (r7.1.Size≠40))))) (Yc O O O O) O (G57 (BL ((!r7.2)||((decide (r7.1.Size≠20))&&(decide (r7.1.Size≠40))))) O (G8 (hK9 (JCc O h (fun h hb=>?_) (fun h hb=>?_)))))
  ·
   refine Jr fun hK10=>(JLh (E2 ([]:List Stowed)) (Hb 4 O O) O (G57 (G0 6) O (G8 (hK10 (Gr (⟨[E2 ([]:List Stowed),G0 6],[],G,O,⟨⟨_,O,.conv (.same O)⟩,⟨_,O,.conv (.same O)⟩,G⟩,O,congrArg (fun r:(List Stowed)×Int=>(.tup [E2 r.1,G0 r.2]:AV)) (Option.some.inj h)⟩))))))
  ·
   refine Jr fun hK11=>(G57 (E2 l) O (JLh (Ec x) (Ga Hw O O O) O (JLh (G0 x.Gg) (Gf Gc O O O) O ?_)))
   obtain⟨r12,hr12,h⟩:=Ge h
   refine JLh (G0 r12) (Gk O (Gef l x.Gg r12 hr12) H8c ⟨O,O,O,O,G⟩) O (JLh (BL (decide (0≤r12))) (G31 O O O) O (G57 (BL (decide (0≤r12))) O (G8 (hK11 (JCc O h (fun h hb=>?_) (fun h hb=>?_))))))
   ·
    refine Jr fun hK13=>(JLh (E2 ([]:List Stowed)) (Hb 4 O O) O (G57 (G0 96) O (G8 (hK13 (Gr (⟨[E2 ([]:List Stowed),G0 96],[],G,O,⟨⟨_,O,.conv (.same O)⟩,⟨_,O,.conv (.same O)⟩,G⟩,O,congrArg (fun r:(List Stowed)×Int=>(.tup [E2 r.1,G0 r.2]:AV)) (Option.some.inj h)⟩))))))
   ·
    refine Jr fun hK14=>(JLh (.agg (H2.cs s)) (Gj Hh O O O) O (JLh (.dptr ((Stowed.cs x).drop 1)) (Ga J6 O O O) O (JLh (.agg ((Stowed.cs x).drop 1)) (Gj Q0 O O O) O (JLh (.dptr ((Gg.cs r7.1).drop 2)) (Ga G2c O O O) O (JLh (U8 r7.1.Size) (Gf Jd O O O) O ?_)))))
    obtain⟨r15,hr15,h⟩:=Ge h
    refine JLh (BL r15) (Gk O (Hdf s x.Slot r7.1.Size r15 hr15) Jd3 ⟨O,O,O,O,O,O,G⟩) O (JLh (BL (!r15)) (Qh (b:=r15) O O) O (G57 (BL (!r15)) O (G8 (hK14 (JCc O h (fun h hb=>?_) (fun h hb=>?_))))))
    ·
     refine Jr fun hK16=>(JLh (E2 ([]:List Stowed)) (Hb 4 O O) O (G57 (G0 97) O (G8 (hK16 (Gr (⟨[E2 ([]:List Stowed),G0 97],[],G,O,⟨⟨_,O,.conv (.same O)⟩,⟨_,O,.conv (.same O)⟩,G⟩,O,congrArg (fun r:(List Stowed)×Int=>(.tup [E2 r.1,G0 r.2]:AV)) (Option.some.inj h)⟩))))))
    ·
     refine Gn (hK8 ?_)
     refine Jr fun hK17=>(JLh (.agg (H2.cs s)) (Gj Hh O O O) O (G57 (E3 boxes) O (G57 (E2 l) O (G57 (E1 open_) O (JLh (.agg (Stowed.cs x)) (Gj Z8 O O O) O (JLh (.agg (Eu s boxes l open_ x)) (Jj (cs:=(Eu s boxes l open_ x)) [(0,13),(13,1),(14,1),(15,1),(16,4)] [E4 ([]:List G4),E5 ([]:List G9),G0 0,G0 0,G0 0,G0 0,E7 ([]:List Row),E6 ([]:List Frame),E8 ([]:List Gh),G0 0,G0 0,G0 0,G0 0,E3 ([]:List Gg),E2 ([]:List Stowed),E1 ([]:List Int),G0 0,G0 0,G0 0,U8 0] [.slice none 0 0,.slice none 0 0,E0,E0,E0,E0,.slice none 0 0,.slice none 0 0,.slice none 0 0,E0,E0,E0,E0,.slice none 0 0,.slice none 0 0,.slice none 0 0,E0,E0,E0,.int .u8 0] Q2c Q49 ⟨.inr ⟨_,O,O⟩,.inr ⟨_,O,O⟩,.inl O,.inl O,.inl O,.inl O,.inr ⟨_,O,O⟩,.inr ⟨_,O,O⟩,.inr ⟨_,O,O⟩,.inl O,.inl O,.inl O,.inl O,.inr ⟨_,O,O⟩,.inr ⟨_,O,O⟩,.inr ⟨_,O,O⟩,.inl O,.inl O,.inl O,.inl O,G⟩ O O) O (JLh (.ptr 1160 0) (Ju 1160 20 Q3c O O) O (Jf (u:=.junk) (J2 (u:=.agg (Eu s boxes l open_ x)) (ds:=(Eu s boxes l open_ x)) Q4c O O O O O O O O) (G8 (hK17 ?_))))))))))
     refine Gu [(14,.dptr (Eu s boxes l open_ x))] [] 1160 rfl rfl rfl G rfl (by exact⟨.ptr,G⟩) (Js fun hK18=>?_)
     refine Jr fun hK19=>(JLh (.agg (Eu s boxes l open_ x)) (Gj Gdc O O O) O (JLh (.bfn 150 (Ev s boxes l open_ x)) (H65 (cs:=(Ev s boxes l open_ x)) O O) O (JLh (.agg (Eu s boxes l open_ x)) (Gj Gdc O O O) O (JLh (.bfn 151 (Ev s boxes l open_ x)) (H65 (cs:=(Ev s boxes l open_ x)) O O) O (JLh (.agg (Eu s boxes l open_ x)) (Gj Gdc O O O) O (JLh (.bfn 152 (Ev s boxes l open_ x)) (H65 (cs:=(Ev s boxes l open_ x)) O O) O (JLh (.agg (Eu s boxes l open_ x)) (Gj Gdc O O O) O (JLh (.bfn 153 (Ev s boxes l open_ x)) (H65 (cs:=(Ev s boxes l open_ x)) O O) O (JLh (.agg [.bfn 150 (Ev s boxes l open_ x),.bfn 151 (Ev s boxes l open_ x),.bfn 152 (Ev s boxes l open_ x),.bfn 153 (Ev s boxes l open_ x)]) (J32 (cs:=[.bfn 150 (Ev s boxes l open_ x),.bfn 151 (Ev s boxes l open_ x),.bfn 152 (Ev s boxes l open_ x),.bfn 153 (Ev s boxes l open_ x)]) [.nilFunc,.nilFunc,.nilFunc,.nilFunc] Qb6 Q48 O O) O (G57 (G0 0) O (G8 (hK19 ?_))))))))))))
     refine Gp ?_
     obtain⟨hx60,h⟩:=Hv h
     obtain⟨b60,kx60,hb60,hkx60,h⟩:=G8e h
     refine He (fun i60 (s60:Unit)=>upto b60 kx60 ((4:Int).toNat - i60) i60 s60=some r) (fun i60 s60=>[(14,.dptr (Eu s boxes l open_ x)),(71,.agg [.bfn 150 (Ev s boxes l open_ x),.bfn 151 (Ev s boxes l open_ x),.bfn 152 (Ev s boxes l open_ x),.bfn 153 (Ev s boxes l open_ x)]),(72,Ei i60)]) (fun i60 s60=>[]) (fun i60=>(4:Int).toNat - i60) 0 () h ⟨(.sm O O),G,O⟩ ?_
     clear h
     intro i60 s60 hi60 K60 e60
     refine Jr fun hK61=>(JLh (BL (decide ((i60:Int) < 4))) (J1 O O O) O (G8 (hK61 (Js fun hK62=>Gm O (fun hb=>?_) (fun hb=>?_)))))
     ·
      have hk60:=G5e hb
      obtain⟨nx60,hn60,h⟩:=G59 hi60 hk60
      replace h:=Hfc hb60 h
      refine Gn (hK62 ?_)
      obtain⟨kj63,hkj63,h⟩:=G37 h
      refine Zy (fun j63:Unit=>kj63 j63=some r) (fun j63=>[(14,.dptr (Eu s boxes l open_ x)),(71,.agg [.bfn 150 (Ev s boxes l open_ x),.bfn 151 (Ev s boxes l open_ x),.bfn 152 (Ev s boxes l open_ x),.bfn 153 (Ev s boxes l open_ x)]),(72,Ei i60)]) (fun j63=>[]) (fun Kj63 ej63=>?_) ?_
      ·
       refine Gp (Jr fun hK64=>(G57 (Ei i60) O ((Decidable.em ((i60:Int)=0)).elim (fun hq65_0=>?_) (fun hq65_0=>?_))))
       ·
        replace h:=Gy (decide_eq_true hq65_0) h
        refine JLh (.bfn 150 (Ev s boxes l open_ x)) (Hf8 (j:=0) H8f O O O hq65_0 O O) O (G57 (Ei i60) O (G57 (.bfn 150 (Ev s boxes l open_ x)) O (G8 (hK64 ?_))))
        refine Jr fun hK66=>(G57 (.bfn 150 (Ev s boxes l open_ x)) O ?_)
        obtain⟨r67,hr67,h⟩:=Ge h
        refine JLh (BL r67) (Hf9 (args:=[]) (firsts:=(Ev s boxes l open_ x)) O O (Hb3 (J7.mk s boxes l open_ x) r67 hr67) Q5f G O) O (G8 (hK66 (JCc O h (fun h hb=>?_) (fun h hb=>?_))))
        ·
         refine Jr fun hK68=>(G57 (Ei i60) O ?_)
         obtain⟨v69,hv69,h⟩:=Qj h
         refine JLh (G0 v69) (Hu hv69 O O O) O (JLh (E2 ([]:List Stowed)) (Hb 4 O O) O (G57 (G0 v69) O (G8 (hK68 (Gr (⟨[E2 ([]:List Stowed),G0 v69],[],G,O,⟨⟨_,O,.conv (.same O)⟩,⟨_,O,.conv (.same O)⟩,G⟩,O,congrArg (fun r:(List Stowed)×Int=>(.tup [E2 r.1,G0 r.2]:AV)) (Option.some.inj h)⟩))))))
        ·
         refine Gn (ej63 _ _ () h ⟨(.sm O O),G,O⟩)
       ·
        replace h:=Hi (decide_eq_false hq65_0) h
        refine(Decidable.em ((i60:Int)=1)).elim (fun hq65_1=>?_) (fun hq65_1=>?_)
        ·
         replace h:=Gy (decide_eq_true hq65_1) h
         refine JLh (.bfn 151 (Ev s boxes l open_ x)) (Hf8 (j:=1) H8f O O O hq65_1 O O) O (G57 (Ei i60) O (G57 (.bfn 151 (Ev s boxes l open_ x)) O (G8 (hK64 ?_))))
         refine Jr fun hK70=>(G57 (.bfn 151 (Ev s boxes l open_ x)) O ?_)
         obtain⟨r71,hr71,h⟩:=Ge h
         refine JLh (BL r71) (Hf9 (args:=[]) (firsts:=(Ev s boxes l open_ x)) O O (Hde (J7.mk s boxes l open_ x) r71 hr71) Q5e G O) O (G8 (hK70 (JCc O h (fun h hb=>?_) (fun h hb=>?_))))
         ·
          refine Jr fun hK72=>(G57 (Ei i60) O ?_)
          obtain⟨v73,hv73,h⟩:=Qj h
          refine JLh (G0 v73) (Hu hv73 O O O) O (JLh (E2 ([]:List Stowed)) (Hb 4 O O) O (G57 (G0 v73) O (G8 (hK72 (Gr (⟨[E2 ([]:List Stowed),G0 v73],[],G,O,⟨⟨_,O,.conv (.same O)⟩,⟨_,O,.conv (.same O)⟩,G⟩,O,congrArg (fun r:(List Stowed)×Int=>(.tup [E2 r.1,G0 r.2]:AV)) (Option.some.inj h)⟩))))))
         ·
          refine Gn (ej63 _ _ () h ⟨(.sm O O),G,O⟩)
        ·
         replace h:=Hi (decide_eq_false hq65_1) h
         refine(Decidable.em ((i60:Int)=2)).elim (fun hq65_2=>?_) (fun hq65_2=>?_)
         ·
          replace h:=Gy (decide_eq_true hq65_2) h
          refine JLh (.bfn 152 (Ev s boxes l open_ x)) (Hf8 (j:=2) H8f O O O hq65_2 O O) O (G57 (Ei i60) O (G57 (.bfn 152 (Ev s boxes l open_ x)) O (G8 (hK64 ?_))))
          refine Jr fun hK74=>(G57 (.bfn 152 (Ev s boxes l open_ x)) O ?_)
          obtain⟨r75,hr75,h⟩:=Ge h
          refine JLh (BL r75) (Hf9 (args:=[]) (firsts:=(Ev s boxes l open_ x)) O O (Ha3 (J7.mk s boxes l open_ x) r75 hr75) Q5d G O) O (G8 (hK74 (JCc O h (fun h hb=>?_) (fun h hb=>?_))))
          ·
           refine Jr fun hK76=>(G57 (Ei i60) O ?_)
           obtain⟨v77,hv77,h⟩:=Qj h
           refine JLh (G0 v77) (Hu hv77 O O O) O (JLh (E2 ([]:List Stowed)) (Hb 4 O O) O (G57 (G0 v77) O (G8 (hK76 (Gr (⟨[E2 ([]:List Stowed),G0 v77],[],G,O,⟨⟨_,O,.conv (.same O)⟩,⟨_,O,.conv (.same O)⟩,G⟩,O,congrArg (fun r:(List Stowed)×Int=>(.tup [E2 r.1,G0 r.2]:AV)) (Option.some.inj h)⟩))))))
          ·
           refine Gn (ej63 _ _ () h ⟨(.sm O O),G,O⟩)
         ·
          replace h:=Hi (decide_eq_false hq65_2) h
          refine(Decidable.em ((i60:Int)=3)).elim (fun hq65_3=>?_) (fun hq65_3=>?_)
          ·
           replace h:=Gy (decide_eq_true hq65_3) h
           refine JLh (.bfn 153 (Ev s boxes l open_ x)) (Hf8 (j:=3) H8f O O O hq65_3 O O) O (G57 (Ei i60) O (G57 (.bfn 153 (Ev s boxes l open_ x)) O (G8 (hK64 ?_))))
           refine Jr fun hK78=>(G57 (.bfn 153 (Ev s boxes l open_ x)) O ?_)
           obtain⟨r79,hr79,h⟩:=Ge h
           refine JLh (BL r79) (Hf9 (args:=[]) (firsts:=(Ev s boxes l open_ x)) O O (Hb4 F (J7.mk s boxes l open_ x) r79 hr79) Q5c G O) O (G8 (hK78 (JCc O h (fun h hb=>?_) (fun h hb=>?_))))
           ·
            refine Jr fun hK80=>(G57 (Ei i60) O ?_)
            obtain⟨v81,hv81,h⟩:=Qj h
            refine JLh (G0 v81) (Hu hv81 O O O) O (JLh (E2 ([]:List Stowed)) (Hb 4 O O) O (G57 (G0 v81) O (G8 (hK80 (Gr (⟨[E2 ([]:List Stowed),G0 v81],[],G,O,⟨⟨_,O,.conv (.same O)⟩,⟨_,O,.conv (.same O)⟩,G⟩,O,congrArg (fun r:(List Stowed)×Int=>(.tup [E2 r.1,G0 r.2]:AV)) (Option.some.inj h)⟩))))))
           ·
            refine Gn (ej63 _ _ () h ⟨(.sm O O),G,O⟩)
          ·
           replace h:=Hi (decide_eq_false hq65_3) h
           cases h
      ·intro j63 h
       replace h:=app1 hkj63 h
       refine G3 (JLh (G0 ((i60+1:Nat):Int)) (Hu (Hc hk60 (G32 hx60)) O O O) O (G57 (G0 ((i60+1:Nat):Int)) O (G8 (e60 _ _ (i60+1) () (app1 hn60 h) (by omega) ⟨(.sm O O),G,rfl⟩))))
     ·
      have h:=app1 hkx60 (G5a hi60 (Yg hb))
      refine Hk (hK18 (Jr fun hK82=>(JLh (.agg (Eu s boxes l open_ x)) (Gj Gdc O O O) O ?_)))
      obtain⟨r83,hr83,h⟩:=Ge h
      refine JLh (E2 r83) (Gk O (Gbc F (J7.mk s boxes l open_ x) r83 hr83) J89 ⟨O,O,G⟩) O (G57 (E2 r83) O (G57 (G0 0) O (G8 (hK82 (Gr (⟨[E2 r83,G0 0],[],G,O,⟨⟨_,O,.conv (.same O)⟩,⟨_,O,.conv (.same O)⟩,G⟩,O,congrArg (fun r:(List Stowed)×Int=>(.tup [E2 r.1,G0 r.2]:AV)) (Option.some.inj h)⟩))))))

def Gb0 (x:Int):Option Bool:=
 some (decide (x≠x))
theorem H5d (x:Int) (r:Bool) (h:Gb0 x=some r):Pure Ej 167 [G0 x] (·=BL r):=by
 unfold Gb0 at h
 refine Gx [.tmp 2] Tryz.func167 O O (Jr fun hK1=>(G57 (BL false) O (G8 (hK1 (Jr fun hK2=>(G57 (G0 x) O (G57 (G0 x) O (JLh (BL (decide (x≠x))) (G30 O O O) O (G57 (BL (decide (x≠x))) O (G8 (hK2 (Gr (fin1 BL h)))))))))))))

def H42 (x:Int) (y:Int):Option Bool:=
 bnd (Gb0 x) fun r3=>
 bnd (bif r3 then Gb0 y else some default) fun r4=>
 some ((r3&&(!r4))||(decide (x < y)))
theorem J7b (x:Int) (y:Int) (r:Bool) (h:H42 x y=some r):Pure Ej 137 [G0 x,G0 y] (·=BL r):=by
 unfold H42 at h
 refine Gx [.tmp 4] Tryz.func137 O O (Jr fun hK1=>(G57 (BL false) O (G8 (hK1 (Jr fun hK2=>(G57 (G0 x) O ?_))))))
 obtain⟨r3,hr3,h⟩:=Ge h
 refine JLh (BL r3) (Gk O (H5d x r3 hr3) J87 ⟨O,O,G⟩) O (G57 (BL r3) O (JLo (G0 y) [] O .sct G (fun hc=>G5 O O) O ?_))
 obtain⟨r4,hr4,h⟩:=Ge h
 refine JLo (BL r4) [8] O .sct ⟨Ua,G⟩ (fun hc=>Gk (args:=[G0 y]) O (H5d y r4 (Gy hc hr4)) J87 ⟨O,O,G⟩) O (JLo (BL (!r4)) [9] O .sct ⟨Ua,G⟩ (fun hc=>Qh (b:=r4) O O) O (JLh (BL (r3&&(!r4))) (J5 O O O O) O (G57 (BL (r3&&(!r4))) O (JLo (G0 x) [] O .scf G (fun hc=>G5 O O) O (JLo (G0 y) [] O .scf G (fun hc=>G5 O O) O (JLo (BL (decide (x < y))) [13,14] O .scf ⟨Ua,Ua,G⟩ (fun hc=>J1 O O O) O (JLh (BL ((r3&&(!r4))||(decide (x < y)))) (Yc O O O O) O (G57 (BL ((r3&&(!r4))||(decide (x < y)))) O (G8 (hK2 (Gr (fin1 BL h))))))))))))

def G6b (x:Int):Option Bool:=
 some (decide (x≠x))
theorem Gf8 (x:Int) (r:Bool) (h:G6b x=some r):Pure Ej 171 [G0 x] (·=BL r):=by
 unfold G6b at h
 refine Gx [.tmp 2] Tryz.func171 O O (Jr fun hK1=>(G57 (BL false) O (G8 (hK1 (Jr fun hK2=>(G57 (G0 x) O (G57 (G0 x) O (JLh (BL (decide (x≠x))) (G30 O O O) O (G57 (BL (decide (x≠x))) O (G8 (hK2 (Gr (fin1 BL h)))))))))))))

def G42 (F:Nat) (x:List Int) (target:Int):Option (Int×Bool):=
 loop (fun nx16 (s16:Int×Int)=>
  bif decide (s16.1 < s16.2) then
  (G35 (s16.1+s16.2) fun v20=>
   G35 (shrN .u64 (IntKind.u64.wrap v20) 1) fun v21=>
   Qr x v21 fun y23=>
   bnd (H42 y23 target) fun r25=>
   bif r25 then
   (G35 (v21+1) fun v26=>
    nx16 (v26,s16.2))
   else
   (nx16 (s16.1,v21)))
  else
  (bnd (bif decide (s16.1 < (x.length:Int)) then Qr x s16.1 some else some default) fun y28=>
   bnd (bif ((decide (s16.1 < (x.length:Int)))&&!(decide (y28=target))) then Qr x s16.1 some else some default) fun y29=>
   bnd (bif ((decide (s16.1 < (x.length:Int)))&&!(decide (y28=target))) then G6b y29 else some default) fun r30=>
   bnd (bif (((decide (s16.1 < (x.length:Int)))&&!(decide (y28=target)))&&r30) then G6b target else some default) fun r31=>
   some (s16.1,((decide (s16.1 < (x.length:Int)))&&((decide (y28=target))||(r30&&r31)))))) F (0,(x.length:Int))
theorem H19 (F:Nat) (x:List Int) (target:Int) (r:Int×Bool) (h:G42 F x target=some r):Pure Ej 147 [E1 x,G0 target] (·=.tup [G0 r.1,BL r.2]):=by
 unfold G42 at h
 refine Gx [.tmp 4,.tmp 5] Tryz.func147 O O (Jr fun hK1=>(G57 (G0 0) O (G57 (BL false) O (G8 (hK1 (Jr fun hK2=>(G57 (E1 x) O (JLl Gq O O O fun hm11=>(G57 (Ei x.length) O (G8 (hK2 (Jr fun hK3=>(G57 (Ei x.length) O (G57 (G0 0) O (G57 (Ei x.length) O (G8 (hK3 (Js fun hK4=>Gp ?_))))))))))))))))))
 obtain⟨b16,hb16,h⟩:=loop_in h
 refine He (fun i16 (s16:Int×Int)=>loop b16 i16 s16=some r) (fun i16 s16=>[(0,E1 x),(1,G0 target),(6,Ei x.length),(7,G0 s16.1),(8,G0 s16.2)]) (fun i16 s16=>[]) (fun i16=>i16) F (0,(x.length:Int)) h ⟨(.sm O O),G,rfl⟩ ?_
 clear h
 intro i16 s16 hi16 K16 e16
 obtain⟨m16,nx16,hm_16,hn16,h⟩:=Jf4 hi16
 replace h:=app2 hb16 h
 refine Js fun hK17=>Jr fun hK18=>(G57 (G0 s16.1) O (G57 (G0 s16.2) O (JLh (BL (decide (s16.1 < s16.2))) (J1 O O O) O (G8 (hK18 (JCc O h (fun h hb=>?_) (fun h hb=>?_)))))))
 ·
  refine Gn (hK17 (Gp (Jr fun hK19=>(G57 (G0 s16.1) O (G57 (G0 s16.2) O ?_)))))
  obtain⟨v20,hv20,h⟩:=Qj h
  refine JLh (G0 v20) (Hu hv20 O O O) O (JLh (.sc (.int .u64 (IntKind.u64.wrap v20))) (Qc1 Jc9 Jc8 O O O) O (JLh (.sc (.int .u64 (shrN .u64 (IntKind.u64.wrap v20) 1))) (A_shrM (s:=1) O O O O) O ?_))
  obtain⟨v21,hv21,h⟩:=Qj h
  refine JLh (G0 v21) (Qc1 Jc8 Jc9 hv21 O O) O (G57 (G0 v21) O (G8 (hK19 (Jr fun hK22=>(G57 (E1 x) O (G57 (G0 v21) O ?_))))))
  obtain⟨m24,y23,hm24,hy23,h⟩:=R2 h
  refine JLh (.dptr [G0 y23]) (Gw (f:=G0) (xs:=x) (y:=y23) O O O Gq hy23 hm24) O (JLh (G0 y23) (Gf Gc O O O) O (G57 (G0 target) O ?_))
  obtain⟨r25,hr25,h⟩:=Ge h
  refine JLh (BL r25) (Gk O (J7b y23 target r25 hr25) Q66 ⟨O,O,O,O,G⟩) O (G8 (hK22 (JCc O h (fun h hb=>?_) (fun h hb=>?_))))
  ·
   refine G3 (G57 (G0 v21) O ?_)
   obtain⟨v26,hv26,h⟩:=Qj h
   refine JLh (G0 v26) (Hu hv26 O O O) O (G57 (G0 v26) O (G8 (e16 _ _ m16 (v26,s16.2) (app1 hn16 h) (by omega) ⟨(.sm O O),G,rfl⟩)))
  ·
   refine G3 (G57 (G0 v21) O (G57 (G0 v21) O (G8 (e16 _ _ m16 (s16.1,v21) (app1 hn16 h) (by omega) ⟨(.sm O O),G,rfl⟩))))
 ·
  refine Hk (hK4 (Jr fun hK27=>(G57 (G0 s16.1) O (G57 (G0 s16.1) O (G57 (Ei x.length) O (JLh (BL (decide (s16.1 < (x.length:Int)))) (J1 O O O) O (G57 (BL (decide (s16.1 < (x.length:Int)))) O (JLo (E1 x) [] O .sct G (fun hc=>G5 O O) O (JLo (G0 s16.1) [] O .sct G (fun hc=>G5 O O) O ?_)))))))))
  obtain⟨y28,hy28,h⟩:=Ge h
  refine JLo (.dptr [G0 y28]) [36,37] O .sct ⟨Ua,Ua,G⟩ (fun hc=>(match Qa (Gy hc hy28) with | ⟨_,hm_,hy_⟩=>Gw (f:=G0) (xs:=x) (y:=y28) O O O Gq hy_ hm_)) O (JLo (G0 y28) [38] O .sct ⟨Ua,G⟩ (fun hc=>Gf Gc O O O) O (JLo (G0 target) [] O .sct G (fun hc=>G5 O O) O (JLo (BL (decide (y28=target))) [39,40] O .sct ⟨Ua,Ua,G⟩ (fun hc=>Jx O O O) O (JLo (BL (decide (y28=target))) [41] O .sct ⟨Ua,G⟩ (fun hc=>G5 O O) O (JLo (E1 x) [] O .optf G (fun hc=>G5 O O) O (JLo (G0 s16.1) [] O .optf G (fun hc=>G5 O O) O ?_))))))
  obtain⟨y29,hy29,h⟩:=Ge h
  refine JLo (.dptr [G0 y29]) [43,44] O .optf ⟨Ua,Ua,G⟩ (fun hc=>(match Qa (Gy hc hy29) with | ⟨_,hm_,hy_⟩=>Gw (f:=G0) (xs:=x) (y:=y29) O O O Gq hy_ hm_)) O (JLo (G0 y29) [45] O .optf ⟨Ua,G⟩ (fun hc=>Gf Gc O O O) O ?_)
  obtain⟨r30,hr30,h⟩:=Ge h
  refine JLo (BL r30) [46] O .optf ⟨Ua,G⟩ (fun hc=>Gk (args:=[G0 y29]) O (Gf8 y29 r30 (Gy hc hr30)) J86 ⟨O,O,G⟩) O (JLo (BL r30) [47] O .optf ⟨Ua,G⟩ (fun hc=>G5 O O) O (JLo (G0 target) [] O .optt G (fun hc=>G5 O O) O ?_))
  obtain⟨r31,hr31,h⟩:=Ge h
  refine JLo (BL r31) [49] O .optt ⟨Ua,G⟩ (fun hc=>Gk (args:=[G0 target]) O (Gf8 target r31 (Gy hc hr31)) J86 ⟨O,O,G⟩) O (Gb (u:=BL (r30&&r31)) [(48,BL r30),(50,_)] O O O .optf ⟨.all id,.part,G⟩ (fun hc=>J5 O O O O) ?_)
  refine Gb (u:=BL ((decide (y28=target))||(r30&&r31))) [(42,BL (decide (y28=target))),(51,_)] O O O .sct ⟨.all id,.part,G⟩ (fun hc=>Yc O O O O) ?_
  refine JLh (BL ((decide (s16.1 < (x.length:Int)))&&((decide (y28=target))||(r30&&r31)))) (J5 O O O O) O (G57 (G0 s16.1) O (G57 (BL ((decide (s16.1 < (x.length:Int)))&&((decide (y28=target))||(r30&&r31)))) O (G8 (hK27 (Gr (⟨[G0 s16.1,BL ((decide (s16.1 < (x.length:Int)))&&((decide (y28=target))||(r30&&r31)))],[],G,O,⟨⟨_,O,.conv (.same O)⟩,⟨_,O,.conv (.same O)⟩,G⟩,O,congrArg (fun r:Int×Bool=>(.tup [G0 r.1,BL r.2]:AV)) (Option.some.inj h)⟩))))))

def H5c (F:Nat) (s:H2) (boxes:List Gg) (l:List Stowed) (open_:List Int) (cover:Int):Option ((List Int)×Int):=
 bnd (G19 s boxes l open_) fun r4=>
 bif (!r4) then
 (some ([],2))
 else
 (bif ((decide (cover < 0))||(decide ((s.Covers.length:Int)≤cover))) then
  (some ([],6))
  else
  (bnd (Gbb s l cover) fun r9=>
   bif decide (0 < (r9.length:Int)) then
   (some ([],95))
   else
   (bnd (G42 F open_ cover) fun r12=>
    bif r12.2 then
    (bnd (Z6 open_) fun r16=>
     some (r16,0))
    else
    (bnd (H02 open_ r12.1 cover) fun r18=>
     some (r18,0)))))
theorem M_stow_Open_w (F:Nat) (s:H2) (boxes:List Gg) (l:List Stowed) (open_:List Int) (cover:Int) (r:(List Int)×Int) (h:H5c F s boxes l open_ cover=some r):Pure Ej 107 [.agg (H2.cs s),E3 boxes,E2 l,E1 open_,G0 cover] (·=.tup [E1 r.1,G0 r.2]):=by
 unfold H5c at h
 refine Gx [.tmp 10,.tmp 11] Tryz.func107 O O (Jr fun hK1=>(JLh (.ptr 1156 0) (Ja (cs:=(H2.cs s)) 1156 O O O O O) O (JLh (E1 ([]:List Int)) (Hb 1 O O) O (G57 (G0 0) O (G8 (hK1 ?_))))))
 refine Gu [(1,E3 boxes),(2,E2 l),(3,E1 open_),(4,G0 cover),(5,Eb s)] [] 1156 rfl rfl rfl G rfl (by repeat' (first | exact .ptr | constructor)) (Js fun hK2=>Gp ?_)
 refine Jr fun hK3=>(JLh (.agg (H2.cs s)) (Gj Hh O O O) O (G57 (E3 boxes) O (G57 (E2 l) O (G57 (E1 open_) O ?_))))
 obtain⟨r4,hr4,h⟩:=Ge h
 refine JLh (BL r4) (Gk O (Ge2 s boxes l open_ r4 hr4) J19 ⟨O,O,O,O,O,O,O,O,G⟩) O (JLh (BL (!r4)) (Qh (b:=r4) O O) O (G57 (BL (!r4)) O (G8 (hK3 (JCc O h (fun h hb=>?_) (fun h hb=>?_))))))
 ·
  refine Jr fun hK5=>(JLh (E1 ([]:List Int)) (Hb 1 O O) O (G57 (G0 2) O (G8 (hK5 (Gr (⟨[E1 ([]:List Int),G0 2],[],G,O,⟨⟨_,O,.conv (.same O)⟩,⟨_,O,.conv (.same O)⟩,G⟩,O,congrArg (fun r:(List Int)×Int=>(.tup [E1 r.1,G0 r.2]:AV)) (Option.some.inj h)⟩))))))
 ·
  refine Jr fun hK6=>(G57 (G0 cover) O (JLh (BL (decide (cover < 0))) (J1 O O O) O (G57 (BL (decide (cover < 0))) O (JLo (G0 cover) [] O .scf G (fun hc=>G5 O O) O (JLo (.dptr [E5 s.Covers,G0 s.Light.Kilos,G0 s.Light.X,G0 s.Light.Y,G0 s.Light.Z,E7 s.Rows,E6 s.Frames,E8 s.Tanks,G0 s.G2.Tolerance,G0 s.G2.Trim,G0 s.G2.List_,G0 s.G2.Stability]) [] O .scf G (fun hc=>Ga Jk O O O) O (JLo (E5 s.Covers) [26] O .scf ⟨Ua,G⟩ (fun hc=>Gf Q4 O O O) O (JLo (Ei s.Covers.length) [27] O .scf ⟨Ua,G⟩ (fun hc=>Qw (f:=G9.av) (xs:=s.Covers) Hr O O) O (JLo (BL (decide ((s.Covers.length:Int)≤cover))) [25,28] O .scf ⟨Ua,Ua,G⟩ (fun hc=>G31 O O O) O (JLh (BL ((decide (cover < 0))||(decide ((s.Covers.length:Int)≤cover)))) (Yc O O O O) O (G57 (BL ((decide (cover < 0))||(decide ((s.Covers.length:Int)≤cover)))) O (G8 (hK6 ?_))))))))))))
  refine JCc O h ?_ ?_<;>intro h hb
  ·
   refine Jr fun hK7=>(JLh (E1 ([]:List Int)) (Hb 1 O O) O (G57 (G0 6) O (G8 (hK7 (Gr (⟨[E1 ([]:List Int),G0 6],[],G,O,⟨⟨_,O,.conv (.same O)⟩,⟨_,O,.conv (.same O)⟩,G⟩,O,congrArg (fun r:(List Int)×Int=>(.tup [E1 r.1,G0 r.2]:AV)) (Option.some.inj h)⟩))))))
  ·
   refine Jr fun hK8=>(JLh (.agg (H2.cs s)) (Gj Hh O O O) O (G57 (E2 l) O (G57 (G0 cover) O ?_)))
   obtain⟨r9,hr9,h⟩:=Ge h
   refine JLh (E1 r9) (Gk O (J07 s l cover r9 hr9) Jce ⟨O,O,O,O,O,O,G⟩) O (JLl Gq O O O fun hm36=>(JLh (BL (decide (0 < (r9.length:Int)))) (G3d O O O) O (G57 (BL (decide (0 < (r9.length:Int)))) O (G8 (hK8 (JCc O h (fun h hb=>?_) (fun h hb=>?_)))))))
   ·
    refine Jr fun hK10=>(JLh (E1 ([]:List Int)) (Hb 1 O O) O (G57 (G0 95) O (G8 (hK10 (Gr (⟨[E1 ([]:List Int),G0 95],[],G,O,⟨⟨_,O,.conv (.same O)⟩,⟨_,O,.conv (.same O)⟩,G⟩,O,congrArg (fun r:(List Int)×Int=>(.tup [E1 r.1,G0 r.2]:AV)) (Option.some.inj h)⟩))))))
   ·
    refine Gn (hK2 (Jr fun hK11=>(G57 (E1 open_) O (G57 (G0 cover) O ?_))))
    obtain⟨r12,hr12,h⟩:=Ge h
    refine JLh (.tup [G0 r12.1,BL r12.2]) (Gk O (H19 F open_ cover r12 hr12) Q62 ⟨O,O,O,O,G⟩) O (G57 (.tup [G0 r12.1,BL r12.2]) O (JLh (G0 r12.1) (H9 O O O) O (JLh (BL r12.2) (H9 O O O) O (G57 (G0 r12.1) O (G57 (BL r12.2) O (G8 (hK11 (Js fun hK13=>Jr fun hK14=>(G57 (BL r12.2) O (G8 (hK14 (JCc O h (fun h hb=>?_) (fun h hb=>?_)))))))))))))
    ·
     refine Jr fun hK15=>(G57 (E1 open_) O ?_)
     obtain⟨r16,hr16,h⟩:=Ge h
     refine JLh (E1 r16) (Gk O (He1 open_ r16 hr16) Q61 ⟨O,O,G⟩) O (G57 (E1 r16) O (G57 (G0 0) O (G8 (hK15 (Gr (⟨[E1 r16,G0 0],[],G,O,⟨⟨_,O,.conv (.same O)⟩,⟨_,O,.conv (.same O)⟩,G⟩,O,congrArg (fun r:(List Int)×Int=>(.tup [E1 r.1,G0 r.2]:AV)) (Option.some.inj h)⟩))))))
    ·
     refine Gn (hK13 (Jr fun hK17=>(G57 (E1 open_) O (G57 (G0 r12.1) O (G57 (G0 cover) O ?_)))))
     obtain⟨r18,hr18,h⟩:=Ge h
     refine JLh (E1 r18) (Gk O (J52.down open_ r12.1 cover r18 hr18) Q60 ⟨O,O,O,O,O,O,G⟩) O (G57 (E1 r18) O (G57 (G0 0) O (G8 (hK17 (Gr (⟨[E1 r18,G0 0],[],G,O,⟨⟨_,O,.conv (.same O)⟩,⟨_,O,.conv (.same O)⟩,G⟩,O,congrArg (fun r:(List Int)×Int=>(.tup [E1 r.1,G0 r.2]:AV)) (Option.some.inj h)⟩))))))

def Ha5 (s:H2) (size:Int):Option Unit:=
 some ()
theorem Q0e (s:H2) (size:Int) (r:Unit) (h:Ha5 s size=some r):Pure Ej 143 [.agg (H2.cs s),U8 size] (·=.fn 168 [.dptr (H2.cs s),.dptr [U8 size]]):=by
 unfold Ha5 at h
 refine Gx [.tmp 4] Tryz.func143 O O (Jr fun hK1=>(JLh (.ptr 1174 0) (Ja (cs:=(H2.cs s)) 1174 O O O O O) O (JLh (.ptr 1175 0) (Ja (cs:=[U8 size]) 1175 O O O O O) O (G57 (.sc .nilFunc) O (G8 (hK1 ?_))))))
 refine Gu [(2,Eb s),(3,.ptr 1175 0)] [(1175,.box 5 [U8 size])] 1174 rfl rfl rfl ⟨⟨_,rfl,.boxEq rfl rfl⟩,G⟩ rfl (by exact⟨.ptr,.conv (.same rfl),G⟩) (Gu [(2,Eb s),(3,.dptr [U8 size])] [] 1175 rfl rfl rfl G rfl (by exact⟨.conv (.same rfl),.ptr,G⟩) ?_)
 refine Jr fun hK2=>(JLh (.fn 168 [.dptr (H2.cs s),.dptr [U8 size]]) (G23 (cs:=[.dptr (H2.cs s),.dptr [U8 size]]) O O) O (G57 (.fn 168 [.dptr (H2.cs s),.dptr [U8 size]]) O (G8 (hK2 ?_))))
 refine Gr (⟨[.fn 168 [.dptr (H2.cs s),.dptr [U8 size]]],[],G,O,⟨⟨_,O,.conv (.same O)⟩,G⟩,O,congrArg (fun _:Unit=>(.fn 168 [.dptr (H2.cs s),.dptr [U8 size]]:AV)) (Option.some.inj h)⟩)

def Ha6 (s:H2) (size:Int):Option (List Slot):=
 bnd (Ha5 s size) fun r5=>
 bnd (Hda s size) fun ys8=>
 each (fun y8 i8 (s8:(List Slot)) nx8=>
  need (decide ((s8.length+[y8].length)*24≤140737488355328∧s8.length+[y8].length≤maxLen)) <|
  nx8 (s8++[y8]))
 (fun(s8:(List Slot))=>
  some s8) ys8 0 []
theorem M_slot_All_w (s:H2) (size:Int) (r:(List Slot)) (h:Ha6 s size=some r):Pure Ej 105 [.agg (H2.cs s),U8 size] (·=E9 r):=by
 unfold Ha6 at h
 refine Gx [.tmp 4] Tryz.func105 O O (Jr fun hK1=>(JLh (.ptr 1150 0) (Ja (cs:=(H2.cs s)) 1150 O O O O O) O (JLh (E9 ([]:List Slot)) (Hb 3 O O) O (G8 (hK1 (Gu [(1,U8 size),(2,Eb s)] [] 1150 rfl rfl rfl G rfl (by exact⟨.conv (.same rfl),.ptr,G⟩) ?_))))))
 refine Jr fun hK2=>(JLh (.ptr 1151 0) (G1d 1151 [.sc (.slice none 0 0)] [.slice none 0 0] Jc7 ⟨.inl O,G⟩ O O) O (Q1a 1151 0 1153 71 3 O O O (cs':=[OW 1153 3 Slot.av ([]:List Slot)]) O (G8 (hK2 (Js fun hK3=>Jr fun hK4=>(JLh (.agg (H2.cs s)) (Gj Hh O O O) O (G57 (U8 size) O ?_)))))))
 obtain⟨r5,hr5,h⟩:=Ge h
 refine JLh (.fn 168 [.dptr (H2.cs s),.dptr [U8 size]]) (Gk O (Q0e s size r5 hr5) Q65 ⟨O,O,O,O,G⟩) O (G8 (hK4 (Gp ?_)))
 obtain⟨ys8,hy_8,h⟩:=Ge h
 obtain⟨b8,kx8,hb8,hkx8,h⟩:=Hx h
 refine J57 (ps:=[10]) [(5,.ptr 1151 0),(9,.fn 168 [.dptr (H2.cs s),.dptr [U8 size]])] (ys8.map (fun y:Slot=>[.agg [G0 y.G4,G0 y.Tier,U8 y.Half]])) (fun i8 (s8:(List Slot))=>each b8 kx8 (List.drop i8 ys8) i8 s8=some r) (fun s8=>[(1153,.spare 71 3 s8.length s8.length),(1151,.box 57 [OW 1153 3 Slot.av s8])]) [] rfl rfl rfl Q57 (J75.down s size ys8 hy_8) h ⟨(.sm O O),⟨⟨_,rfl,.same⟩,⟨_,rfl,.boxL rfl ⟨.same rfl,trivial⟩⟩,trivial⟩,rfl⟩ rfl (fun us_ hus_=>by obtain⟨_,_,rfl⟩:=List.mem_map.1 hus_; rfl) (fun p_ hp_=>Nat.blt_eq.mp (by revert p_; decide)) (fun _=>(.sm O O)) (fun _=>rfl) ?_ ?_
 ·
  intro i8 us_ s8 hu_ hi8 lr_ K8 e8
  obtain⟨hk8,rfl⟩:=mapf_at hu_
  obtain⟨y8,nx8,hy8,hn8,h⟩:=Hm hi8 hk8
  replace h:=Rn hb8 h
  obtain⟨_,rfl⟩:=List.getElem?_eq_some_iff.1 hy8
  generalize ys8[i8]=y8 at h ⊢
  change JC _ _ _ _ [(10,.agg [G0 y8.G4,G0 y8.Tier,U8 y8.Half]),(5,.ptr 1151 0),(9,.fn 168 [.dptr (H2.cs s),.dptr [U8 size]])] [(1153,.spare 71 3 s8.length s8.length),(1151,.box 57 [OW 1153 3 Slot.av s8])]
  refine G3 (JLh (.ptr 1152 0) (Ju 1152 3 G44 O O) O (Jf (u:=.junk) (J2 (u:=.agg [G0 y8.G4,G0 y8.Tier,U8 y8.Half]) (ds:=[G0 y8.G4,G0 y8.Tier,U8 y8.Half]) H87 O O O O O O O O) (G8 (Mid_freeze [(5,.ptr 1151 0),(6,.dptr [G0 y8.G4,G0 y8.Tier,U8 y8.Half])] [(1153,.spare 71 3 s8.length s8.length),(1151,.box 57 [OW 1153 3 Slot.av s8])] 1152 rfl rfl rfl ⟨⟨_,rfl,.same⟩,⟨_,rfl,.boxEq rfl rfl⟩,G⟩ rfl (by exact⟨.conv (.same rfl),.ptr,G⟩) (Mid_go (Gp (G3 ?_)))))))
  refine JLh (OW 1153 3 Slot.av s8) (Zi G68 O O O O) O (JLh (.agg [G0 y8.G4,G0 y8.Tier,U8 y8.Half]) (Gj Q0 O O O) O (JLh (E9 [y8]) (Hd (xs:=[.agg [G0 y8.G4,G0 y8.Tier,U8 y8.Half]]) O ⟨O,O,G⟩ Jt G44 O O O O) O ?_))
  obtain⟨ha9,h⟩:=Hv h
  refine JLh (OW 1153 3 Slot.av (s8++[y8])) (Qo (f:=Slot.av) (xs:=s8) (ys:=[y8]) O O O O Jt H8b ha9 (fun _=>O) (.inl O) O) O (Jf (u:=.junk) (J2 (u:=OW 1153 3 Slot.av (s8++[y8])) (ds:=[OW 1153 3 Slot.av (s8++[y8])]) J0e O O O O O O O O) (G8 (e8 _ _ (s8++[y8]) (app1 hn8 h) ⟨G,⟨⟨_,O,.same⟩,⟨_,O,.boxL O ⟨.same O,G⟩⟩,G⟩,O⟩)))
 ·
  intro s8 h
  rw [List.length_map] at h
  replace h:=app1 hkx8 (Hn h (Nat.lt_irrefl _))
  refine hK3 (Jr fun hK10=>(JLh (OW 1153 3 Slot.av s8) (Zi G68 O O O O) O (G57 (OW 1153 3 Slot.av s8) O (G8 (hK10 (G2a (l':=[(4,E9 s8)]) (L':=[(1151,.box 57 [E9 s8])]) ⟨⟨.list O,G⟩,⟨⟨_,O,.boxL O ⟨.list O,G⟩⟩,G⟩,O⟩ (Gu [(4,E9 s8)] [] 1151 rfl rfl rfl G rfl (by exact⟨.conv (.same rfl),G⟩) (Gr (fin1 (fun r:(List Slot)=>(E9 r:AV)) h)))))))))

def Gd2 (F:Nat) (p1:H2) (p2:Gg) (p3:List Gg) (p4:List Stowed) (ys_:List (Slot×(List Stowed))):Option Unit:=
 bnd (Ha6 p1 p2.Size) fun r2=>
 each (fun y45 i45 (s45:Nat) nx45=>
  jp (fun kj51=>
   bnd (G1c p1 y45.G4) fun r53=>
   bnd (bif decide (0≤r53) then Qr p1.Columns y45.G4 some else some default) fun y55=>
   bif ((decide (0≤r53))&&(!y55.Deck)) then
   (bnd (H5c F p1 p3 p4 [] r53) fun r56=>
    kj51 r56.1)
   else
   (kj51 [])) fun(j51:(List Int))=>
  bnd (Ha4 F p1 p3 p4 j51 (Stowed.mk p2.ID y45)) fun r58=>
  need ((!(decide (r58.2=0)))||decide (ys_[s45]? = some (y45,r58.1))) <|
  bif ((decide (r58.2=0))&&false) then
  (need (decide ((bif decide (r58.2=0) then s45+1 else s45)=ys_.length)) (some ()))
  else
  (nx45 (bif decide (r58.2=0) then s45+1 else s45)))
 (fun(s45:Nat)=>
  need (decide (s45=ys_.length)) (some ())) r2 0 0
theorem J7c (F:Nat) (p1:H2) (p2:Gg) (p3:List Gg) (p4:List Stowed) (ys_:List (Slot×(List Stowed))) (q_:Unit) (h:Gd2 F p1 p2 p3 p4 ys_=some q_):Iter Ej 104 [.dptr (H2.cs p1),Ee p2,.dptr [E3 p3],.dptr [E2 p4]] (ys_.map (fun y:Slot×(List Stowed)=>[.agg (Slot.cs y.1),E2 y.2])):=by
 unfold Gd2 at h
 refine Iter_of Tryz.func104 O O ?_
 intro E hE hys
 refine G09 (fun K1 hK1=>R8 (J4 (u:=.agg (H2.cs p1)) hE (Gj Hh O O O) ?_ O O O O))
 refine J4 (u:=.dptr ((Gg.cs p2).drop 2)) hE (Ga G2c O O O) ?_ O O O O
 refine J4 (u:=U8 p2.Size) hE (Gf Jd O O O) ?_ O O O O
 obtain⟨r2,hr2,h⟩:=Ge h
 refine J4 (u:=E9 r2) hE (Gk O (M_slot_All_w p1 p2.Size r2 hr2) Q71 ⟨O,O,O,O,G⟩) ?_ O O O O
 refine Q1b hE (f:=Slot.av) (xs:=r2) Jt O O (fun hm16=>?_) O O O
 refine J4 (u:=G0 0) hE (G5 O O) ?_ O O O O
 refine Zv ?_
 refine hK1 _ _ _ (Gfa ?_)
 obtain⟨b45,kx45,hb45,hkx45,h⟩:=Hx h
 refine J56 (fun i45 (s45:Nat)=>each b45 kx45 (List.drop i45 r2) i45 s45=some q_) (fun i45 s45=>[(0,.sc (.func (.yield E.lp) #[] #[])),(1,Eb p1),(2,Ee p2),(3,.dptr [E3 p3]),(4,.dptr [E2 p4]),(15,E9 r2),(16,Ei r2.length),(17,Ei i45)]) (fun i45 s45=>[]) (fun i45 s45=>s45) (fun i45=>r2.length - i45) 0 0 h ⟨(.sm O O),G,rfl⟩ rfl ?_
 clear h
 intro i45 s45 hi45 K45 e45
 refine G09 (fun K46 hK46=>R8 (J4 (u:=BL (decide ((i45:Int) < (r2.length:Int)))) hE (J1 O O O) ?_ O O O O))
 refine Zv ?_
 refine hK46 _ _ _ (G09 (fun K47 hK47=>H62 O (fun hb=>?_) (fun hb=>?_)))
 ·
  have hk45:=Jc hb
  obtain⟨y45,nx45,hy45,hn45,h⟩:=Hm hi45 hk45
  replace h:=Rn hb45 h
  refine Ha9 (hK47 _ _ _ (G09 (fun K48 hK48=>Gfa (G09 (fun K49 hK49=>R8 (J4 (u:=Eg y45) hE (Gw (f:=Slot.av) (xs:=r2) (y:=y45) O O O Jt hy45 O) ?_ O O O O))))))
  refine J4 (u:=.agg (Slot.cs y45)) hE (Gj Q0 O O O) ?_ O O O O
  refine J4 (u:=.ptr 1149 0) hE (Ju 1149 3 G44 O O) ?_ O O O O
  refine JIL_go0 (u:=.junk) hE (J2 (u:=.agg (Slot.cs y45)) (ds:=[G0 y45.G4,G0 y45.Tier,U8 y45.Half]) H87 O O O O O O O O) ?_ O O O
  refine Zv ?_
  refine hK49 _ _ _ (G09 (fun K50 hK50=>R8 (J4 (u:=E1 ([]:List Int)) hE (Hb 1 O O) ?_ O O O O)))
  refine Zv ?_
  refine hK50 _ _ _ ?_
  obtain⟨kj51,hkj51,h⟩:=G37 h
  refine JI_seqJ (fun j51:(List Int)=>kj51 j51=some q_) (fun j51=>[(0,.sc (.func (.yield E.lp) #[] #[])),(1,Eb p1),(2,Ee p2),(3,.dptr [E3 p3]),(4,.dptr [E2 p4]),(7,.ptr 1149 0),(8,E1 j51),(15,E9 r2),(16,Ei r2.length),(17,Ei i45)]) (fun j51=>[(1149,.box 71 [G0 y45.G4,G0 y45.Tier,U8 y45.Half])]) (fun j51=>s45) (fun Kj51 ej51=>?_) ?_
  ·
   refine G09 (fun K52 hK52=>R8 (J4 (u:=.agg (H2.cs p1)) hE (Gj Hh O O O) ?_ O O O O))
   refine J4 (u:=.ptr 1149 0) hE (Zw Jb O O) ?_ O O O O
   refine J4 (u:=G0 y45.G4) hE (Zi Gc O O O O) ?_ O O O O
   obtain⟨r53,hr53,h⟩:=Ge h
   refine J4 (u:=G0 r53) hE (Gk O (Ge3 p1 y45.G4 r53 hr53) Hc4 ⟨O,O,O,O,G⟩) ?_ O O O O
   refine J4 (u:=G0 r53) hE (G7 O O) ?_ O O O O
   refine Zv ?_
   refine hK52 _ _ _ (G09 (fun K54 hK54=>R8 (J4 (u:=G0 r53) hE (G5 O O) ?_ O O O O)))
   refine J4 (u:=BL (decide (0≤r53))) hE (G31 O O O) ?_ O O O O
   refine J4 (u:=BL (decide (0≤r53))) hE (G5 O O) ?_ O O O O
   refine Gb2 (u:=Eb p1) [] hE O O O .sct G (fun hc=>Ga Hj O O O) ?_ O O O
   refine Gb2 (u:=E4 p1.Columns) [(28,Eb p1)] hE O O O .sct ⟨.all id,G⟩ (fun hc=>Gf Ht O O O) ?_ O O O
   refine Gb2 (u:=.ptr 1149 0) [] hE O O O .sct G (fun hc=>Zw Jb O O) ?_ O O O
   refine Gb2 (u:=G0 y45.G4) [(30,.ptr 1149 0)] hE O O O .sct ⟨.all id,G⟩ (fun hc=>Zi Gc O O O O) ?_ O O O
   obtain⟨y55,hy55,h⟩:=Ge h
   refine Gb2 (u:=Ed y55) [(29,E4 p1.Columns),(31,G0 y45.G4)] hE O O O .sct ⟨.all id,.all id,G⟩ (fun hc=>(match Qa (Gy hc hy55) with | ⟨_,hm_,hy_⟩=>Gw (f:=G4.av) (xs:=p1.Columns) (y:=y55) O O O H5 hy_ hm_)) ?_ O O O
   refine Gb2 (u:=.dptr ((G4.cs y55).drop 2)) [(32,Ed y55)] hE O O O .sct ⟨.all id,G⟩ (fun hc=>Ga Yw O O O) ?_ O O O
   refine Gb2 (u:=BL y55.Deck) [(33,.dptr ((G4.cs y55).drop 2))] hE O O O .sct ⟨.all id,G⟩ (fun hc=>Gf Ra O O O) ?_ O O O
   refine Gb2 (u:=BL (!y55.Deck)) [(34,BL y55.Deck)] hE O O O .sct ⟨.all id,G⟩ (fun hc=>Qh (b:=y55.Deck) O O) ?_ O O O
   refine J4 (u:=BL ((decide (0≤r53))&&(!y55.Deck))) hE (J5 O O O O) ?_ O O O O
   refine Zv ?_
   refine hK54 _ _ _ (H62 O (fun hb=>?_) (fun hb=>?_))
   ·
    replace h:=Gy hb h
    refine R8 (J4 (u:=.agg (H2.cs p1)) hE (Gj Hh O O O) ?_ O O O O)
    refine J4 (u:=E3 p3) hE (Gf G0c O O O) ?_ O O O O
    refine J4 (u:=E2 p4) hE (Gf Rh O O O) ?_ O O O O
    refine J4 (u:=G0 r53) hE (G5 O O) ?_ O O O O
    obtain⟨r56,hr56,h⟩:=Ge h
    refine J4 (u:=.tup [E1 r56.1,G0 r56.2]) hE (Q80 (args:=[.agg (H2.cs p1),E3 p3,E2 p4,E1 ([]:List Int),G0 r53]) O (M_stow_Open_w F p1 p3 p4 [] r53 r56 hr56) Q70 ⟨.inl O,O,.inl O,O,.inl O,O,.inr ⟨_,O,O⟩,O,.inl O,O,G⟩) ?_ O O O O
    refine J4 (u:=.tup [E1 r56.1,G0 r56.2]) hE (G5 O O) ?_ O O O O
    refine J4 (u:=E1 r56.1) hE (H9 O O O) ?_ O O O O
    refine J4 (u:=G0 r56.2) hE (H9 O O O) ?_ O O O O
    refine J4 (u:=E1 r56.1) hE (G7 O O) ?_ O O O O
    refine Zv ?_
    exact ej51 _ _ _ r56.1 h ⟨(.sm O O),⟨⟨_,rfl,.boxL rfl (.sm O O)⟩,G⟩,rfl⟩ rfl
   ·
    replace h:=Hi hb h
    refine Ha9 (ej51 _ _ _ [] h ⟨(.sm O O),⟨⟨_,rfl,.boxL rfl (.sm O O)⟩,G⟩,rfl⟩ rfl)
  ·intro j51 h
   replace h:=app1 hkj51 h
   refine G09 (fun K57 hK57=>R8 (J4 (u:=.agg (H2.cs p1)) hE (Gj Hh O O O) ?_ O O O O))
   refine J4 (u:=E3 p3) hE (Gf G0c O O O) ?_ O O O O
   refine J4 (u:=E2 p4) hE (Gf Rh O O O) ?_ O O O O
   refine J4 (u:=E1 j51) hE (G5 O O) ?_ O O O O
   refine J4 (u:=Ee p2) hE (Ga H67 O O O) ?_ O O O O
   refine J4 (u:=G0 p2.ID) hE (Gf Gc O O O) ?_ O O O O
   refine J4 (u:=.agg (Slot.cs y45)) hE (Q28 Q0 O O O O) ?_ O O O O
   refine J4 (u:=.agg [G0 p2.ID,G0 y45.G4,G0 y45.Tier,U8 y45.Half]) hE (Jj (cs:=[G0 p2.ID,G0 y45.G4,G0 y45.Tier,U8 y45.Half]) [(0,1),(1,3)] [G0 0,G0 0,G0 0,U8 0] [E0,E0,E0,.int .u8 0] H8a H1f ⟨.inl O,.inl O,.inl O,.inl O,G⟩ O O) ?_ O O O O
   obtain⟨r58,hr58,h⟩:=Ge h
   refine J4 (u:=.tup [E2 r58.1,G0 r58.2]) hE (Gk O (M_stow_Put_w F p1 p3 p4 j51 (Stowed.mk p2.ID y45) r58 hr58) Q6f ⟨O,O,O,O,O,O,O,O,O,O,G⟩) ?_ O O O O
   refine J4 (u:=.tup [E2 r58.1,G0 r58.2]) hE (G5 O O) ?_ O O O O
   refine J4 (u:=E2 r58.1) hE (H9 O O O) ?_ O O O O
   refine J4 (u:=G0 r58.2) hE (H9 O O O) ?_ O O O O
   refine J4 (u:=E2 r58.1) hE (G7 O O) ?_ O O O O
   refine J4 (u:=G0 r58.2) hE (G7 O O) ?_ O O O O
   refine Zv ?_
   refine hK57 _ _ _ (G09 (fun K59 hK59=>R8 (J4 (u:=G0 r58.2) hE (G5 O O) ?_ O O O O)))
   refine J4 (u:=BL (decide (r58.2=0))) hE (Jx O O O) ?_ O O O O
   refine J4 (u:=BL (decide (r58.2=0))) hE (G5 O O) ?_ O O O O
   refine Gb2 (u:=.sc (.func (.yield E.lp) #[] #[])) [] hE O O O .sct G (fun hc=>G5 O O) ?_ O O O
   refine Gb2 (u:=.agg (Slot.cs y45)) [] hE O O O .sct G (fun hc=>Q28 Q0 O O O O) ?_ O O O
   refine Gb2 (u:=E2 r58.1) [] hE O O O .sct G (fun hc=>G5 O O) ?_ O O O
   obtain⟨ha60,h⟩:=Hv h
   refine Qba (us:=[.agg (Slot.cs y45),E2 r58.1]) hE O O O O .sct [(60,.sc (.func (.yield E.lp) #[] #[])),(61,.agg (Slot.cs y45)),(62,E2 r58.1)] ⟨.all id,.all id,.all id,G⟩ (fun _=>O) (fun _=>⟨O,O,O,O,G⟩) (yld_atG (f:=(fun y:Slot×(List Stowed)=>[.agg (Slot.cs y.1),E2 y.2])) (x:=(y45,r58.1)) hys ha60) ?_ O O O
   refine Gb2 (u:=BL false) [(63,BL true)] hE O O O .sct ⟨.all id,G⟩ (fun hc=>Qh (b:=true) O O) ?_ O O O
   refine J4 (u:=BL ((decide (r58.2=0))&&false)) hE (J5 O O O O) ?_ O O O O
   refine Zv ?_
   refine hK59 _ _ _ (H62 O (fun hb=>?_) (fun hb=>?_))
   ·
    replace h:=Gy hb h
    refine JI_ret (yld_end (Hv h).1)
   ·
    replace h:=Hi hb h
    refine Ha9 (hK48 _ _ _ (R8 (J4 (u:=G0 ((i45+1:Nat):Int)) hE (Hu (Hc hk45 hm16) O O O) ?_ O O O O)))
    refine J4 (u:=G0 ((i45+1:Nat):Int)) hE (G5 O O) ?_ O O O O
    refine Zv ?_
    exact e45 _ _ (i45+1) (bif decide (r58.2=0) then s45+1 else s45) _ (app1 hn45 h) (by omega) ⟨(.sm O O),G,rfl⟩ rfl
 ·
  have h:=app1 hkx45 (Hn hi45 (H6 hb))
  refine Jc1 (yld_end (Hv h).1)
theorem J7d (S_:Nat→(H2)→(Gg)→(List Gg)→(List Stowed)→Option (List (Slot×(List Stowed)))) (hS_:∀ F p1 p2 p3 p4 r,S_ F p1 p2 p3 p4=some r→Gd2 F p1 p2 p3 p4 r=some ()) (F:Nat) (p1:H2) (p2:Gg) (p3:List Gg) (p4:List Stowed) (r:List (Slot×(List Stowed))) (h:S_ F p1 p2 p3 p4=some r):Iter Ej 104 [.dptr (H2.cs p1),Ee p2,.dptr [E3 p3],.dptr [E2 p4]] (r.map (fun y:Slot×(List Stowed)=>[.agg (Slot.cs y.1),E2 y.2])):=J7c F p1 p2 p3 p4 r () (hS_ F p1 p2 p3 p4 r h)
end
end Go.Proofs.YthcpolfodgjekaaGreat
