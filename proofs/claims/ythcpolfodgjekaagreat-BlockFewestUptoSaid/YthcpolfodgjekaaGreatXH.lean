/-
 Models of functions of the program,and that they return what the models say.
-/
import Derived.Test.YthcpolfodgjekaaGreatSpecR
set_option maxRecDepth 100000
set_option maxHeartbeats 1000000
set_option linter.unusedVariables false
set_option linter.unusedSimpArgs false
namespace Go.Proofs.YthcpolfodgjekaaGreat
open Go.RowKit
noncomputable section
structure Hz where
 s:H0
 boxes:List Box
 l:List Stowed
 open_:List Int
 x:Stowed
 deriving DecidableEq,Inhabited
def Hz.cs (x:Hz):List AV:=[E5 x.s.Columns,E6 x.s.Covers,I64 x.s.Light.Kilos,I64 x.s.Light.X,I64 x.s.Light.Y,I64 x.s.Light.Z,E8 x.s.Rows,E7 x.s.Frames,E9 x.s.Tanks,I64 x.s.G1.Tolerance,I64 x.s.G1.Trim,I64 x.s.G1.List_,I64 x.s.G1.Stability,E3 x.boxes,E2 x.l,E1 x.open_,I64 x.x.Box,I64 x.x.Slot.G3,I64 x.x.Slot.Tier,U8 x.x.Slot.Half]
abbrev Ef (x:Hz):AV:=.dptr (Hz.cs x)
namespace XHF
open XAF
open XLF
open XCF
open XGF
theorem H05:Gff Ej 191 20=true:=by kernel_rfl
theorem Hb8:Qb2 Ej 192 4=true:=by kernel_rfl
theorem R7d:Y5b Ej 192 36 1=true:=by kernel_rfl
theorem R0d:Hf Ej 105=true:=by kernel_rfl
theorem R0c:Hf Ej 107=true:=by kernel_rfl
theorem R0b:Hf Ej 108=true:=by kernel_rfl
theorem R01:Hf Ej 137=true:=by kernel_rfl
theorem R00:Hf Ej 143=true:=by kernel_rfl
theorem Qfd:Hf Ej 147=true:=by kernel_rfl
theorem Qfc:Hf Ej 148=true:=by kernel_rfl
theorem Qfb:Hf Ej 149=true:=by kernel_rfl
theorem Qfa:Hf Ej 150=true:=by kernel_rfl
theorem Qf9:Hf Ej 151=true:=by kernel_rfl
theorem Qf8:Hf Ej 152=true:=by kernel_rfl
theorem Qf7:Hf Ej 153=true:=by kernel_rfl
theorem Jb9:Hf Ej 154=true:=by kernel_rfl
theorem Jb6:Hf Ej 167=true:=by kernel_rfl
theorem Qf2:Hf Ej 168=true:=by kernel_rfl
theorem Jb5:Hf Ej 171=true:=by kernel_rfl
theorem Qef:Hf Ej 173=true:=by kernel_rfl
theorem Qee:Hf Ej 174=true:=by kernel_rfl
theorem J48:Hf Ej 38=true:=by kernel_rfl
theorem G97:Hf Ej 39=true:=by kernel_rfl
theorem Q05:Hf Ej 69=true:=by kernel_rfl
theorem H52:Qi Ej 191 0 0=true:=by kernel_rfl
theorem Jfe:Qi Ej 191 1 13=true:=by kernel_rfl
theorem G95:Qi Ej 191 2 14=true:=by kernel_rfl
theorem Jfd:Qi Ej 191 3 15=true:=by kernel_rfl
theorem G6e:Qi Ej 191 4 16=true:=by kernel_rfl
theorem J2c:Qi Ej 69 6 6=true:=by kernel_rfl
theorem Jfa:J79 Ej 138 .u64=true:=by kernel_rfl
theorem He1:J79 Ej 3 .i64=true:=by kernel_rfl
theorem J92:Gf0 Ej 85 3 3=true:=by kernel_rfl
theorem Q73:placesOf Ej 191=some [(0,13),(13,1),(14,1),(15,1),(16,4)]:=by kernel_rfl
theorem G23:Z1 Ej 33=true:=by kernel_rfl
theorem Qe7:Zf Ej 191 20=true:=by kernel_rfl
theorem J3a:Zf Ej 57 1=true:=by kernel_rfl
theorem Qe4:(Ej.info? 191).bind (fun i=>i.zero.map Value.cells)=some (List.toArray [.slice none 0 0,.slice none 0 0,E0,E0,E0,E0,.slice none 0 0,.slice none 0 0,.slice none 0 0,E0,E0,E0,E0,.slice none 0 0,.slice none 0 0,.slice none 0 0,E0,E0,E0,.int .u8 0]):=by kernel_rfl
theorem Qe3:(Ej.info? 192).bind (fun i=>i.zero.map Value.cells)=some (List.toArray [.nilFunc,.nilFunc,.nilFunc,.nilFunc]):=by kernel_rfl
theorem Jf8:(Ej.info? 57).bind (fun i=>i.zero.map Value.cells)=some (List.toArray [.slice none 0 0]):=by kernel_rfl
theorem Qb9:G05 Ej 191 20=true:=by kernel_rfl
end XHF
open XAF
open XLF
open XCF
open XGF
open XHF

def Jx (boxes:List Box) (id_:Int):Option Int:=
 bnd (G62 boxes id_) fun r3=>
 some r3.1.Discharge
theorem Ye (boxes:List Box) (id_:Int) (r:Int) (h:Jx boxes id_=some r):Pure Ej 39 [E3 boxes,I64 id_] (·=I64 r):=by
 unfold Jx at h
 refine Gy [.tmp 4] Tryz.func39 O O (Jr fun hK1=>(JLm (I64 0) O (G7 (hK1 (Jr fun hK2=>(JLm (E3 boxes) O (JLm (I64 id_) O ?_)))))))
 obtain⟨r3,hr3,h⟩:=Gd h
 refine JLh (.tup [.agg (Box.cs r3.1),BL r3.2]) (Gi O (Gc8 boxes id_ r3 hr3) H54 ⟨O,O,O,O,G⟩) O (JLm (.tup [.agg (Box.cs r3.1),BL r3.2]) O (JLh (.agg (Box.cs r3.1)) (H4 O O O) O (JLh (BL r3.2) (H4 O O O) O (JLh (.ptr 1079 0) (Jn 1079 9 G16 O O) O (Je (u:=.junk) (J5 (u:=.agg (Box.cs r3.1)) (ds:=(Box.cs r3.1)) Zs O O O O O O O O) (JLm (BL r3.2) O (G7 (hK2 (Gr [(5,Ee r3.1)] [] 1079 rfl rfl rfl G rfl (by exact⟨.ptr,G⟩) (Jr fun hK4=>(JLh (.dptr ((Box.cs r3.1).drop 6)) (Ga J2c O O O) O (JLh (I64 r3.1.Discharge) (Ge Gb O O O) O (JLm (I64 r3.1.Discharge) O (G7 (hK4 (Gq (fin1 I64 h)))))))))))))))))

def G74 (F:Nat) (s:H0) (boxes:List Box) (l:List Stowed) (Rp:((List Int)×Int)→Prop):Option Prop:=
 bnd (Yk s boxes l) fun r4=>
 bif (!r4) then
 (some (Rp ([],2)))
 else
 (each (fun y9 i9 (s9:(Hr Int Int)) nx9=>
   bnd (G0a F s boxes l [y9.Box]) fun r15=>
   each (fun y57 i57 (s57:(Hr Int Int)) nx57=>
    jp (fun kj60=>
     bnd (Jx boxes y57) fun r63=>
     bnd (Jx boxes y9.Box) fun r64=>
     bif decide (r64 < r63) then
     (bnd (some (Hr.get s57 y57 0)) fun v65=>
      chk (v65+1) fun v66=>
      kj60 (Hr.put s57 y57 v66))
     else
     (kj60 s57)) fun(j60:(Hr Int Int))=>
    nx57 j60)
   (fun(s57:(Hr Int Int))=>
    nx9 s57) r15.1 0 s9)
  (fun(s9:(Hr Int Int))=>
   Q42 (fun(x78:Int×Int) (s78:(List Int)) nx78=>
    need (decide ((s78.length+[x78.1].length)*8≤140737488355328∧s78.length+[x78.1].length≤maxLen)) <|
    nx78 (s78++[x78.1]))
   (fun(s78:(List Int))=>
    bnd (G99 s78) fun r85=>
    some (Rp (r85,0))) (Hr.l s9) []) l 0 (Hr.empty:Hr Int Int))
theorem J5a (F:Nat) (s:H0) (boxes:List Box) (l:List Stowed) (Rp:((List Int)×Int)→Prop) (p:Prop) (h:G74 F s boxes l Rp=some p) (hp:p):Pure Ej 12 [.agg (H0.cs s),E3 boxes,E2 l] (fun av=>∃ r,Rp r∧av=.tup [E1 r.1,I64 r.2]):=by
 unfold G74 at h
 refine Gy [.tmp 6,.tmp 7] Tryz.func12 O O (Jr fun hK1=>(JLh (.ptr 1015 0) (J7 (cs:=(H0.cs s)) 1015 O O O O O) O (JLh (E1 ([]:List Int)) (H2 1 O O) O (JLm (I64 0) O (G7 (hK1 ?_))))))
 refine Gr [(1,E3 boxes),(2,E2 l),(3,Eb s)] [] 1015 rfl rfl rfl G rfl (by exact⟨.conv (.same rfl),.conv (.same rfl),.ptr,G⟩) (Js fun hK2=>Jr fun hK3=>(JLh (.agg (H0.cs s)) (Gg H7 O O O) O (JLm (E3 boxes) O (JLm (E2 l) O ?_))))
 obtain⟨r4,hr4,h⟩:=Gd h
 refine JLh (BL r4) (Gi O (Ga4 s boxes l r4 hr4) H56 ⟨O,O,O,O,O,O,G⟩) O (JLh (BL (!r4)) (Q3 (b:=r4) O O) O (G7 (hK3 (JCc O h (fun h hb=>?_) (fun h hb=>?_)))))
 ·
  refine Jr fun hK5=>(JLh (E1 ([]:List Int)) (H2 1 O O) O (JLm (I64 2) O (G7 (hK5 (Gq (⟨[E1 ([]:List Int),I64 2],[],G,O,⟨⟨_,O,.conv (.same O)⟩,⟨_,O,.conv (.same O)⟩,G⟩,O,([],2),Eq.mpr (Kj h) hp,O⟩))))))
 ·
  refine Gm (hK2 (Jr fun hK6=>(JLh (.mp 1018) (J5d 1018 (fun n:Int=>Value.int .i64 n) I64 O O) O (JLm (.mp 1018) O (G7 (hK6 (Js fun hK7=>Jr fun hK8=>(JLm (E2 l) O (JLl Gx O O O fun hm24=>(JLm (I64 0) O (G7 (hK8 (Gp ?_)))))))))))))
  obtain⟨b9,kx9,hb9,hkx9,h⟩:=Hv h
  refine Hc (fun i9 (s9:(Hr Int Int))=>each b9 kx9 (List.drop i9 l) i9 s9=some p) (fun i9 s9=>[(1,E3 boxes),(2,E2 l),(3,Eb s),(8,.mp 1018),(23,E2 l),(24,Ei l.length),(25,Ei i9)]) (fun i9 s9=>[(1018,MP 85 (fun n:Int=>Value.int .i64 n) I64 s9)]) (fun i9=>l.length - i9) 0 (Hr.empty:Hr Int Int) h ⟨(.sm O O),⟨⟨_,rfl,.map⟩,G⟩,rfl⟩ ?_
  clear h
  intro i9 s9 hi9 K9 e9
  refine Jr fun hK10=>(JLh (BL (decide ((i9:Int) < (l.length:Int)))) (Hy O O O) O (G7 (hK10 (Js fun hK11=>Gj O (fun hb=>?_) (fun hb=>?_)))))
  ·
   have hk9:=J8 hb
   obtain⟨y9,nx9,hy9,hn9,h⟩:=Hj hi9 hk9
   replace h:=R8 hb9 h
   refine Gm (hK11 (Js fun hK12=>Gp (Jr fun hK13=>(JLh (Ec y9) (Gv (f:=Stowed.av) (xs:=l) (y:=y9) O O O Gx hy9 O) O (JLh (.agg (Stowed.cs y9)) (Gg Ru O O O) O (JLh (.ptr 1016 0) (Jn 1016 4 Ze O O) O (Je (u:=.junk) (J5 (u:=.agg (Stowed.cs y9)) (ds:=[I64 y9.Box,I64 y9.Slot.G3,I64 y9.Slot.Tier,U8 y9.Slot.Half]) G4a O O O O O O O O) (G7 (hK13 ?_)))))))))
   refine Gr [(1,E3 boxes),(2,E2 l),(3,Eb s),(8,.mp 1018),(10,Ec y9),(23,E2 l),(24,Ei l.length),(25,Ei i9)] [(1018,MP 85 (fun n:Int=>Value.int .i64 n) I64 s9)] 1016 rfl rfl rfl ⟨⟨_,rfl,.map⟩,G⟩ rfl (by repeat' (first | exact .ptr | constructor)) ?_
   refine Jr fun hK14=>(JLh (.agg (H0.cs s)) (Gg H7 O O O) O (JLm (E3 boxes) O (JLm (E2 l) O (JLh (Ec y9) (Ga Hu O O O) O (JLh (I64 y9.Box) (Ge Gb O O O) O (JLh (E1 [y9.Box]) (Ha (xs:=[I64 y9.Box]) O ⟨O,O,G⟩ Gn Jz O O O O) O ?_))))))
   obtain⟨r15,hr15,h⟩:=Gd h
   refine JLh (.tup [E1 r15.1,I64 r15.2]) (Gi O (H68.down F s boxes l [y9.Box] r15 hr15) J48 ⟨O,O,O,O,O,O,O,O,G⟩) O (JLm (.tup [E1 r15.1,I64 r15.2]) O (JLh (E1 r15.1) (H4 O O O) O (JLh (I64 r15.2) (H4 O O O) O (JLm (E1 r15.1) O (JLm (I64 r15.2) O (G7 (hK14 (Jr fun hK16=>(JLm (E1 r15.1) O (JLl Gn O O O fun hm40=>(JLm (I64 0) O (G7 (hK16 (Gp ?_))))))))))))))
   obtain⟨b57,kx57,hb57,hkx57,h⟩:=Hv h
   refine Hc (fun i57 (s57:(Hr Int Int))=>each b57 kx57 (List.drop i57 r15.1) i57 s57=some p) (fun i57 s57=>[(1,E3 boxes),(2,E2 l),(3,Eb s),(8,.mp 1018),(10,Ec y9),(23,E2 l),(24,Ei l.length),(25,Ei i9),(39,E1 r15.1),(40,Ei r15.1.length),(41,Ei i57)]) (fun i57 s57=>[(1018,MP 85 (fun n:Int=>Value.int .i64 n) I64 s57)]) (fun i57=>r15.1.length - i57) 0 s9 h ⟨(.sm O O),⟨⟨_,rfl,.map⟩,G⟩,rfl⟩ ?_
   clear h
   intro i57 s57 hi57 K57 e57
   refine Jr fun hK58=>(JLh (BL (decide ((i57:Int) < (r15.1.length:Int)))) (Hy O O O) O (G7 (hK58 (Js fun hK59=>Gj O (fun hb=>?_) (fun hb=>?_)))))
   ·
    have hk57:=J8 hb
    obtain⟨y57,nx57,hy57,hn57,h⟩:=Hj hi57 hk57
    replace h:=R8 hb57 h
    refine Gm (hK59 ?_)
    obtain⟨kj60,hkj60,h⟩:=G09 h
    refine Yt (fun j60:(Hr Int Int)=>kj60 j60=some p) (fun j60=>[(1,E3 boxes),(2,E2 l),(3,Eb s),(8,.mp 1018),(10,Ec y9),(23,E2 l),(24,Ei l.length),(25,Ei i9),(39,E1 r15.1),(40,Ei r15.1.length),(41,Ei i57)]) (fun j60=>[(1018,MP 85 (fun n:Int=>Value.int .i64 n) I64 j60)]) (fun Kj60 ej60=>?_) ?_
    ·
     refine Gp (Jr fun hK61=>(JLh (.dptr [I64 y57]) (Gv (f:=I64) (xs:=r15.1) (y:=y57) O O O Gn hy57 O) O (JLh (I64 y57) (Ge Gb O O O) O (JLm (I64 y57) O (G7 (hK61 (Js fun hK62=>?_)))))))
     refine G29 (l':=[(1,E3 boxes),(2,E2 l),(3,Eb s),(8,.mp 1018),(10,Ec y9),(14,I64 y57),(23,E2 l),(24,Ei l.length),(25,Ei i9),(39,E1 r15.1),(40,Ei r15.1.length),(41,Ei i57)]) (L':=[(1018,MP 85 (fun n:Int=>Value.int .i64 n) I64 s57)]) ⟨(.sm O O),⟨⟨_,rfl,.map⟩,G⟩,rfl⟩ ?_
     obtain⟨r63,hr63,h⟩:=Gd h
     obtain⟨r64,hr64,h⟩:=Gd h
     refine JC_d0 Jb (by kernel_rfl) (Dq (E3 boxes) (G4 O O) O (Dq (I64 y57) (G4 O O) O (Dq (I64 r63) (Gi (args:=[E3 boxes,I64 y57]) O (Ye boxes y57 r63 hr63) G97 ⟨O,O,O,O,G⟩) O (Dq (E3 boxes) (G4 O O) O (Dq (Ec y9) (Ga Hu O O O) O (Dq (I64 y9.Box) (Ge Gb O O O) O (Dq (I64 r64) (Gi (args:=[E3 boxes,I64 y9.Box]) O (Ye boxes y9.Box r64 hr64) G97 ⟨O,O,O,O,G⟩) O (Dq (BL (decide (r64 < r63))) (G41 O O O) O (Dnil (hK62 (JCc O h (fun h hb=>?_) (fun h hb=>?_))))))))))))
     ·
      refine G2 (JLm (.mp 1018) O (JLm (I64 y57) O ?_))
      obtain⟨v65,hv65,h⟩:=Gd h
      refine JLh (I64 v65) (((Kj hv65) ▸ J5e (av:=I64) (m:=s57) (a:=y57) 0 E0 O O O O Y44 J92 Hb1 O)) O ?_
      obtain⟨v66,hv66,h⟩:=Qk h
      refine JLh (I64 v66) (Ht hv66 O O O) O (Je (u:=.junk) (J8c (m:=s57) (a:=y57) (v:=v66) O O O O O O Y44 J92) (G7 (ej60 _ _ (Hr.put s57 y57 v66) h ⟨(.sm O O),⟨⟨_,rfl,.map⟩,G⟩,rfl⟩)))
     ·
      refine Gm (ej60 _ _ s57 h ⟨(.sm O O),⟨⟨_,rfl,.map⟩,G⟩,rfl⟩)
    ·intro j60 h
     replace h:=app1 hkj60 h
     refine G2 (JLh (I64 ((i57+1:Nat):Int)) (Ht (Hb hk57 hm40) O O O) O (JLm (I64 ((i57+1:Nat):Int)) O (G7 (e57 _ _ (i57+1) j60 (app1 hn57 h) (by omega) ⟨(.sm O O),⟨⟨_,rfl,.map⟩,G⟩,rfl⟩))))
   ·
    have h:=app1 hkx57 (Hk hi57 (H3 hb))
    refine Hi (hK12 (G2 (JLh (I64 ((i9+1:Nat):Int)) (Ht (Hb hk9 hm24) O O O) O (JLm (I64 ((i9+1:Nat):Int)) O (G7 (e9 _ _ (i9+1) s57 (app1 hn9 h) (by omega) ⟨(.sm O O),⟨⟨_,rfl,.map⟩,G⟩,rfl⟩))))))
  ·
   have h:=app1 hkx9 (Hk hi9 (H3 hb))
   refine Hi (hK7 (Jr fun hK67=>(JLh (.vec 1017 (([]:List Int).length) 1 (([]:List Int).length)) (Qdb 1017 3 1 O O O) O (G7 (hK67 (Js fun hK68=>Jr fun hK69=>(JLm (.mp 1018) O (JLh (.it 1019) (Q6a 1019 (m:=s9) O O O O J92) O (G7 (hK69 (Gp ?_)))))))))))
   obtain⟨b78,kx78,hb78,hkx78,h⟩:=Q41 h
   refine Q65 (Hr.size s9) (fun i78 (s78:(List Int))=>MInv b78 kx78 (Hr.l s9) i78 s78) (fun i78 s78=>[(15,.vec 1017 s78.length 1 s78.length),(60,.it 1019)]) (fun i78 s78=>[(1018,MP 85 (fun n:Int=>Value.int .i64 n) I64 s9),(1017,.vec 3 1 s78.length (s78.map I64)),(1019,.iter 1018 (Hr.size s9) i78)]) [] (MInv.start h hp) ⟨(.sm O O),⟨⟨_,O,.map⟩,⟨_,O,.vec⟩,⟨_,O,.iter O⟩,G⟩,O⟩ ?_
   clear h hp
   intro i78 s78 hi78 K78 e78
   refine Jr fun hK79=>H90 O O O (Qdc (m:=s9) O O O O) ?_
   intro u_ L_ hn_
   rcases hn_ with ⟨q78,x78,he78,hs78,rfl,rfl⟩ | ⟨ha78,rfl,rfl⟩
   ·
    obtain⟨o78,h,ho1_78,ho2_78⟩:=hi78.step he78 hs78
    replace h:=J02 hb78 h
    refine JLh (BL true) (H4 O O O) O (G7 (hK79 (Js fun hK80=>Q66 O (Gm (hK80 (Gp (Jr fun hK81=>(JLh (.tup [I64 x78.1,I64 x78.2]) (Q6f (kv:=(fun n:Int=>Value.int .i64 n)) (av:=I64) (m:=s9) (q:=q78) (seen:=i78) (e:=x78) O O O O he78) O (JLh (I64 x78.1) (H4 O O O) O (JLm (I64 x78.1) O (G7 (hK81 (G2 (JLm (.vec 1017 s78.length 1 s78.length) O (JLm (I64 x78.1) O (JLh (E1 [x78.1]) (Ha (xs:=[I64 x78.1]) O ⟨O,O,G⟩ Gn Jz O O O O) O ?_))))))))))))))))
    obtain⟨ha82,h⟩:=Hp h
    refine JLh (.vec 1017 ((s78++[x78.1]).length) 1 ((s78++[x78.1]).length)) (H11 (f:=I64) (xs:=s78) (ys:=[x78.1]) (ver:=s78.length) (ver1:=(s78++[x78.1]).length) rfl rfl rfl rfl Gn Rt ha82 (fun _=>rfl) (.inl rfl) (by simp)) O (JLm (.vec 1017 ((s78++[x78.1]).length) 1 ((s78++[x78.1]).length)) O (G7 (e78 _ _ (i78++[q78]) (s78++[x78.1]) (ho2_78 _ (Kj h).symm) (J90 (Kh he78).1 hs78) ⟨(.sm O O),⟨⟨_,O,.map⟩,⟨_,O,.vec⟩,⟨_,O,.iter O⟩,G⟩,O⟩)))
   ·
    obtain⟨p_,h,hp⟩:=hi78.done ha78
    replace h:=app1 hkx78 h
    refine JLh (BL false) (H4 O O O) O (G7 (hK79 (Js fun hK83=>Q67 O (Hi (hK68 (Jr fun hK84=>(JLm (.vec 1017 s78.length 1 s78.length) O ?_)))))))
    obtain⟨r85,hr85,h⟩:=Gd h
    refine JLh (.tup []) (Rd1 (F:=40) (xs:=s78) (r:=r85) O Jc9 J67 Q11 O O O hr85 O) O (G7 (hK84 (Jr fun hK86=>(JLm (.vec 1017 s78.length 1 s78.length) O (JLm (.vec 1017 s78.length 1 s78.length) O (JLm (I64 0) O (G7 (hK86 (Q64 [(6,E1 r85),(7,I64 0)] [] 1017 rfl rfl G rfl (by exact⟨.vec,.conv (.same rfl),G⟩) (Gq (⟨[E1 r85,I64 0],[],G,O,⟨⟨_,O,.conv (.same O)⟩,⟨_,O,.conv (.same O)⟩,G⟩,O,(r85,0),Eq.mpr (Kj h) hp,O⟩)))))))))))
theorem J5b (S_:Nat→(H0)→(List Box)→(List Stowed)→Option ((List Int)×Int)) (hS_:∀ F s boxes l r,S_ F s boxes l=some r→∃ p:Prop,G74 F s boxes l (fun r_=>r_=r)=some p∧p) (F:Nat) (s:H0) (boxes:List Box) (l:List Stowed) (r:(List Int)×Int) (h:S_ F s boxes l=some r):Pure Ej 12 [.agg (H0.cs s),E3 boxes,E2 l] (·=.tup [E1 r.1,I64 r.2]):=by
 obtain⟨p,h1,h2⟩:=hS_ F s boxes l r h
 exact(J5a F s boxes l _ p h1 h2).monoP (fun av hh=>by obtain⟨r_,rfl,ha⟩:=hh; exact ha)

def G40 (p:Hz):Option Bool:=
 bnd (G10 p.s p.x.Slot.G3) fun r4=>
 bnd (bif decide (0≤r4) then Qm p.s.Columns p.x.Slot.G3 some else some default) fun y6=>
 bnd (bif decide (0≤r4) then Yg p.open_ r4 else some default) fun r7=>
 some ((decide (0≤r4))&&(y6.Deck==r7))
theorem Hdb (p:Hz) (r:Bool) (h:G40 p=some r):Pure Ej 150 [.agg (Hz.cs p)] (·=BL r):=by
 unfold G40 at h
 refine Gy [.tmp 2] Tryz.func150 O O (Jr fun hK1=>(JLh (.ptr 1199 0) (J7 (cs:=(Hz.cs p)) 1199 O O O O O) O (JLm (BL false) O (G7 (hK1 ?_)))))
 refine Gr [(1,Ef p)] [] 1199 rfl rfl rfl G rfl (by exact⟨.ptr,G⟩) (Jr fun hK2=>(JLh (Ec p.x) (Ga G6e O O O) O (JLh (.dptr ((Stowed.cs p.x).drop 1)) (Ga Hs O O O) O (JLh (.dptr ((Stowed.cs p.x).drop 1)) (Ga J0 O O O) O (JLh (I64 p.x.Slot.G3) (Ge Gb O O O) O (JLm (I64 p.x.Slot.G3) O (G7 (hK2 ?_))))))))
 refine Jr fun hK3=>(JLh (Ef p) (Ga H52 O O O) O (JLh (.agg (H0.cs p.s)) (Gg H7 O O O) O (JLm (I64 p.x.Slot.G3) O ?_)))
 obtain⟨r4,hr4,h⟩:=Gd h
 refine JLh (I64 r4) (Gi O (H0e p.s p.x.Slot.G3 r4 hr4) Hef ⟨O,O,O,O,G⟩) O (JLm (I64 r4) O (G7 (hK3 (Js fun hK5=>?_))))
 obtain⟨y6,hy6,h⟩:=Gd h
 obtain⟨r7,hr7,h⟩:=Gd h
 refine JC_d0 Jb (by kernel_rfl) (Dq (I64 r4) (G4 O O) O (Dq (BL (decide (0≤r4))) (G13 O O O) O (Dq (BL (decide (0≤r4))) (G4 O O) O (Do (Ef p) [] O .sct G (fun hc=>Ga H52 O O O) O (Do (Ef p) [16] O .sct ⟨Ua,G⟩ (fun hc=>Ga Hh O O O) O (Do (E5 p.s.Columns) [17] O .sct ⟨Ua,G⟩ (fun hc=>Ge Ho O O O) O (Do (I64 p.x.Slot.G3) [] O .sct G (fun hc=>G4 O O) O (Do (Ed y6) [18,19] O .sct ⟨Ua,Ua,G⟩ (fun hc=>(match Q0 (Gw hc hy6) with | ⟨_,hm_,hy_⟩=>Gv (f:=G3.av) (xs:=p.s.Columns) (y:=y6) O O O H6 hy_ hm_)) O (Do (.dptr ((G3.cs y6).drop 2)) [20] O .sct ⟨Ua,G⟩ (fun hc=>Ga Ro O O O) O (Do (BL y6.Deck) [21] O .sct ⟨Ua,G⟩ (fun hc=>Ge Qv O O O) O (Do (.dptr [E1 p.open_,I64 p.x.Box,I64 p.x.Slot.G3,I64 p.x.Slot.Tier,U8 p.x.Slot.Half]) [] O .sct G (fun hc=>Ga Jfd O O O) O (Do (E1 p.open_) [23] O .sct ⟨Ua,G⟩ (fun hc=>Ge J1 O O O) O (Do (I64 r4) [] O .sct G (fun hc=>G4 O O) O ?_)))))))))))))
 refine Do (BL r7) [24,25] O .sct ⟨Ua,Ua,G⟩ (fun hc=>Gi (args:=[E1 p.open_,I64 r4]) O (G72 p.open_ r4 r7 (Gw hc hr7)) J47 ⟨O,O,O,O,G⟩) O (Do (BL (y6.Deck==r7)) [22,26] O .sct ⟨Ua,Ua,G⟩ (fun hc=>J8d J12 O O O) O (Dq (BL ((decide (0≤r4))&&(y6.Deck==r7))) (J4 O O O O) O (Dq (BL ((decide (0≤r4))&&(y6.Deck==r7))) (G6 O O) O (Dnil (hK5 (Gq (fin1 BL h)))))))

def Yx (y:Stowed) (p1:Hz):Option Bool:=
 bnd (Ge1 p1.x.Slot y.Slot) fun r3=>
 some r3
theorem Hcf (y:Stowed) (p1:Hz) (r:Bool) (h:Yx y p1=some r):Pure Ej 173 [.agg (Stowed.cs y),Ef p1] (·=BL r):=by
 unfold Yx at h
 refine Gy [.tmp 3] Tryz.func173 O O (Jr fun hK1=>(JLh (.ptr 1213 0) (J7 (cs:=[I64 y.Box,I64 y.Slot.G3,I64 y.Slot.Tier,U8 y.Slot.Half]) 1213 O O O O O) O (JLm (BL false) O (G7 (hK1 (Gr [(1,Ef p1),(2,Ec y)] [] 1213 rfl rfl rfl G rfl (by exact⟨.conv (.same rfl),.ptr,G⟩) (Jr fun hK2=>(JLh (.dptr ((Hz.cs p1).drop 16)) (Ga G6e O O O) O (JLh (.dptr ((Hz.cs p1).drop 17)) (Ga Hs O O O) O (JLh (.agg ((Hz.cs p1).drop 17)) (Gg Jh O O O) O (JLh (.dptr ((Stowed.cs y).drop 1)) (Ga Hs O O O) O (JLh (.agg ((Stowed.cs y).drop 1)) (Gg Jh O O O) O ?_))))))))))))
 obtain⟨r3,hr3,h⟩:=Gd h
 refine JLh (BL r3) (Gi O (J35 p1.x.Slot y.Slot r3 hr3) Q07 ⟨O,O,O,O,G⟩) O (JLm (BL r3) O (G7 (hK2 (Gq (fin1 BL h)))))

def Qp (s:List Stowed) (f:Stowed→Option Bool):Option Bool:=
 bnd (R0 s f) fun r3=>
 some (decide (0≤r3))
theorem G50 (s:List Stowed) (f:Stowed→Option Bool) (f_f:FuncId) (f_c:List AV) (f_B:Hf Ej f_f=true) (f_d:G2c (fun _=>false) f_c=true) (f_w:∀ a0 q,f a0=some q→Pure Ej f_f ([.agg (Stowed.cs a0)]++f_c) (·=BL q)) (r:Bool) (h:Qp s f=some r):Pure Ej 69 [E2 s,.fn f_f f_c] (·=BL r):=by
 unfold Qp at h
 refine Gy [.tmp 4] Tryz.func69 O O (Jr fun hK1=>(JLm (BL false) O (G7 (hK1 (Jr fun hK2=>(JLm (E2 s) O (JLm (.fn f_f f_c) O ?_)))))))
 obtain⟨r3,hr3,h⟩:=Gd h
 refine JLh (I64 r3) (Gi O (G71 s f f_f f_c f_B f_d f_w r3 hr3) Jbe ⟨O,O,O,f_d,G⟩) O (JLh (BL (decide (0≤r3))) (G13 O O O) O (JLm (BL (decide (0≤r3))) O (G7 (hK2 (Gq (fin1 BL h))))))

def G4e (p:Hz):Option Bool:=
 bnd (Qp p.l (fun z0=>Yx z0 p)) fun r3=>
 some r3
theorem J08 (p:Hz) (r:Bool) (h:G4e p=some r):Pure Ej 151 [.agg (Hz.cs p)] (·=BL r):=by
 unfold G4e at h
 refine Gy [.tmp 2] Tryz.func151 O O (Jr fun hK1=>(JLh (.ptr 1200 0) (J7 (cs:=(Hz.cs p)) 1200 O O O O O) O (JLm (BL false) O (G7 (hK1 ?_)))))
 refine Gr [(1,Ef p)] [] 1200 rfl rfl rfl G rfl (by exact⟨.ptr,G⟩) ?_
 refine Jr fun hK2=>(JLh (.dptr [E2 p.l,E1 p.open_,I64 p.x.Box,I64 p.x.Slot.G3,I64 p.x.Slot.Tier,U8 p.x.Slot.Half]) (Ga G95 O O O) O (JLh (E2 p.l) (Ge Ry O O O) O (JLh (.fn 173 [.dptr (Hz.cs p)]) (G3d (cs:=[.dptr (Hz.cs p)]) O O) O ?_)))
 obtain⟨r3,hr3,h⟩:=Gd h
 refine JLh (BL r3) (Gi O (G50 p.l (fun z0=>Yx z0 p) 173 [.dptr (Hz.cs p)] Qef O (fun z0 q hq=>Hcf z0 p q hq) r3 hr3) Q05 ⟨O,O,O,O,G⟩) O (JLm (BL r3) O (G7 (hK2 (Gq (fin1 BL h)))))

def G61 (p:Hz):Option Bool:=
 bnd (Gb1 p.l) fun r3=>
 bnd (Ge2 p.x.Slot r3) fun r4=>
 some (!r4)
theorem Hd0 (p:Hz) (r:Bool) (h:G61 p=some r):Pure Ej 152 [.agg (Hz.cs p)] (·=BL r):=by
 unfold G61 at h
 refine Gy [.tmp 2] Tryz.func152 O O (Jr fun hK1=>(JLh (.ptr 1201 0) (J7 (cs:=(Hz.cs p)) 1201 O O O O O) O (JLm (BL false) O (G7 (hK1 ?_)))))
 refine Gr [(1,Ef p)] [] 1201 rfl rfl rfl G rfl (by exact⟨.ptr,G⟩) (Js fun hK2=>?_)
 obtain⟨r3,hr3,h⟩:=Gd h
 obtain⟨r4,hr4,h⟩:=Gd h
 refine JC_d0 Jb (by kernel_rfl) (Dq (Ec p.x) (Ga G6e O O O) O (Dq (.dptr ((Stowed.cs p.x).drop 1)) (Ga Hs O O O) O (Dq (.agg ((Stowed.cs p.x).drop 1)) (Gg Jh O O O) O (Dq (.dptr [E2 p.l,E1 p.open_,I64 p.x.Box,I64 p.x.Slot.G3,I64 p.x.Slot.Tier,U8 p.x.Slot.Half]) (Ga G95 O O O) O (Dq (E2 p.l) (Ge Ry O O O) O (Dq (E4 r3) (Gi (args:=[E2 p.l]) O (J07 p.l r3 hr3) Q0a ⟨O,O,G⟩) O (Dq (BL r4) (Gi (args:=[.agg ((Stowed.cs p.x).drop 1),E4 r3]) O (J36 p.x.Slot r3 r4 hr4) Q08 ⟨O,O,O,O,G⟩) O (Dq (BL (!r4)) (Q3 (b:=r4) O O) O (Dq (BL (!r4)) (G6 O O) O (Dnil (hK2 (Gq (fin1 BL h)))))))))))))

def Zk (F:Nat) (p:Hz):Option (List Stowed):=
 loop (fun nx10 (s10:Int)=>
  bnd (bif decide (s10 < (p.l.length:Int)) then Qm p.l s10 some else some default) fun y13=>
  bif ((decide (s10 < (p.l.length:Int)))&&(decide (y13.Box < p.x.Box))) then
  (chk (s10+1) fun v14=>
   nx10 v14)
  else
  (bnd (Zh p.l s10 p.x) fun r16=>
   some r16)) F 0
abbrev Es (p:Hz):List AV:=[E2 p.l,E1 p.open_,I64 p.x.Box,I64 p.x.Slot.G3,I64 p.x.Slot.Tier,U8 p.x.Slot.Half]
theorem Gdf (F:Nat) (p:Hz) (r:(List Stowed)) (h:Zk F p=some r):Pure Ej 154 [.agg (Hz.cs p)] (·=E2 r):=by
 unfold Zk at h
 refine Gy [.tmp 2] Tryz.func154 O O (Jr fun hK1=>(JLh (.ptr 1203 0) (J7 (cs:=(Hz.cs p)) 1203 O O O O O) O (JLh (E2 ([]:List Stowed)) (H2 4 O O) O (G7 (hK1 ?_)))))
 refine Gr [(1,Ef p)] [] 1203 rfl rfl rfl G rfl (by exact⟨.ptr,G⟩) (Jr fun hK2=>(JLm (I64 0) O (G7 (hK2 (Js fun hK3=>Gp ?_)))))
 obtain⟨b10,hb10,h⟩:=Jef h
 refine Hc (fun i10 (s10:Int)=>loop b10 i10 s10=some r) (fun i10 s10=>[(1,Ef p),(3,I64 s10)]) (fun i10 s10=>[]) (fun i10=>i10) F 0 h ⟨(.sm O O),G,O⟩ ?_
 clear h
 intro i10 s10 hi10 K10 e10
 obtain⟨m10,nx10,hm_10,hn10,h⟩:=J77 hi10
 replace h:=Y5c hb10 h
 refine Js fun hK11=>Js fun hK12=>?_
 obtain⟨y13,hy13,h⟩:=Gd h
 refine JC_d0 Jb (by kernel_rfl) (Dq (I64 s10) (G4 O O) O (Dq (.dptr (Es p)) (Ga G95 O O O) O (Dq (E2 p.l) (Ge Ry O O O) O (Dq (Ei p.l.length) (Qs (f:=Stowed.av) (xs:=p.l) Gx O O) O (Dq (BL (decide (s10 < (p.l.length:Int)))) (Hy O O O) O (Dq (BL (decide (s10 < (p.l.length:Int)))) (G4 O O) O (Do (.dptr (Es p)) [] O .sct G (fun hc=>Ga G95 O O O) O (Do (E2 p.l) [10] O .sct ⟨Ua,G⟩ (fun hc=>Ge Ry O O O) O (Do (I64 s10) [] O .sct G (fun hc=>G4 O O) O (Do (Ec y13) [11,12] O .sct ⟨Ua,Ua,G⟩ (fun hc=>(match Q0 (Gw hc hy13) with | ⟨_,hm_,hy_⟩=>Gv (f:=Stowed.av) (xs:=p.l) (y:=y13) O O O Gx hy_ hm_)) O (Do (Ec y13) [13] O .sct ⟨Ua,G⟩ (fun hc=>Ga Hu O O O) O (Do (I64 y13.Box) [14] O .sct ⟨Ua,G⟩ (fun hc=>Ge Gb O O O) O (Do (Ec p.x) [] O .sct G (fun hc=>Ga G6e O O O) O ?_)))))))))))))
 refine Do (Ec p.x) [16] O .sct ⟨Ua,G⟩ (fun hc=>Ga Hu O O O) O (Do (I64 p.x.Box) [17] O .sct ⟨Ua,G⟩ (fun hc=>Ge Gb O O O) O (Do (BL (decide (y13.Box < p.x.Box))) [15,18] O .sct ⟨Ua,Ua,G⟩ (fun hc=>Hy O O O) O (Dq (BL ((decide (s10 < (p.l.length:Int)))&&(decide (y13.Box < p.x.Box)))) (J4 O O O O) O (Dnil (hK12 (JCc O h (fun h hb=>?_) (fun h hb=>?_)))))))
 ·
  refine Gm (hK11 (Gp (G2 (JLm (I64 s10) O ?_))))
  obtain⟨v14,hv14,h⟩:=Qk h
  refine JLh (I64 v14) (Ht hv14 O O O) O (JLm (I64 v14) O (G7 (e10 _ _ m10 v14 (app1 hn10 h) (by omega) ⟨(.sm O O),G,rfl⟩)))
 ·
  refine Hi (hK3 (Jr fun hK15=>(JLh (.dptr (Es p)) (Ga G95 O O O) O (JLh (E2 p.l) (Ge Ry O O O) O (JLm (I64 s10) O (JLh (Ec p.x) (Ga G6e O O O) O (JLh (.agg (Stowed.cs p.x)) (Gg Ru O O O) O ?_)))))))
  obtain⟨r16,hr16,h⟩:=Gd h
  refine JLh (E2 r16) (Gi O (Ha4.down p.l s10 p.x r16 hr16) Qee ⟨O,O,O,O,O,O,G⟩) O (JLm (E2 r16) O (G7 (hK15 (Gq (fin1 (fun r:(List Stowed)=>(E2 r:AV)) h)))))

def G6d (F:Nat) (p:Hz):Option Bool:=
 bnd (Zk F p) fun r3=>
 bnd (Ga3 p.s p.boxes r3 p.x.Slot.G3) fun r4=>
 some (!r4)
theorem Hdc (F:Nat) (p:Hz) (r:Bool) (h:G6d F p=some r):Pure Ej 153 [.agg (Hz.cs p)] (·=BL r):=by
 unfold G6d at h
 refine Gy [.tmp 2] Tryz.func153 O O (Jr fun hK1=>(JLh (.ptr 1202 0) (J7 (cs:=(Hz.cs p)) 1202 O O O O O) O (JLm (BL false) O (G7 (hK1 ?_)))))
 refine Gr [(1,Ef p)] [] 1202 rfl rfl rfl G rfl (by exact⟨.ptr,G⟩) (Js fun hK2=>?_)
 obtain⟨r3,hr3,h⟩:=Gd h
 obtain⟨r4,hr4,h⟩:=Gd h
 refine JC_d0 Jb (by kernel_rfl) (Dq (Ef p) (Ga H52 O O O) O (Dq (.agg (H0.cs p.s)) (Gg H7 O O O) O (Dq (.dptr [E3 p.boxes,E2 p.l,E1 p.open_,I64 p.x.Box,I64 p.x.Slot.G3,I64 p.x.Slot.Tier,U8 p.x.Slot.Half]) (Ga Jfe O O O) O (Dq (E3 p.boxes) (Ge G23 O O O) O (Dq (.agg (Hz.cs p)) (Gg H05 O O O) O (Dq (E2 r3) (Gi (args:=[.agg (Hz.cs p)]) O (Gdf F p r3 hr3) Jb9 ⟨O,O,G⟩) O (Dq (Ec p.x) (Ga G6e O O O) O (Dq (.dptr ((Stowed.cs p.x).drop 1)) (Ga Hs O O O) O (Dq (.dptr ((Stowed.cs p.x).drop 1)) (Ga J0 O O O) O (Dq (I64 p.x.Slot.G3) (Ge Gb O O O) O (Dq (BL r4) (Gi (args:=[.agg (H0.cs p.s),E3 p.boxes,E2 r3,I64 p.x.Slot.G3]) O (J34 p.s p.boxes r3 p.x.Slot.G3 r4 hr4) Q06 ⟨O,O,O,O,O,O,O,O,G⟩) O (Dq (BL (!r4)) (Q3 (b:=r4) O O) O (Dq (BL (!r4)) (G6 O O) O (Dnil ?_))))))))))))))
 refine hK2 (Gq (fin1 BL h))

def Ga5 (F:Nat) (s:H0) (boxes:List Box) (l:List Stowed) (open_:List Int) (x:Stowed):Option ((List Stowed)×Int):=
 bnd (Yy s boxes l open_) fun r4=>
 bif (!r4) then
 (some ([],2))
 else
 (bnd (G62 boxes x.Box) fun r7=>
  bif ((!r7.2)||((decide (r7.1.Size≠20))&&(decide (r7.1.Size≠40)))) then
  (some ([],6))
  else
  (bnd (G31 l x.Box) fun r12=>
   bif decide (0≤r12) then
   (some ([],96))
   else
   (bnd (Gb2 s x.Slot r7.1.Size) fun r15=>
    bif (!r15) then
    (some ([],97))
    else
    (need (decide (4≤9223372036854775807)) <|
     upto (fun i60 (s60:Unit) nx60=>
      jp (fun kj63=>
       bif decide ((i60:Int)=0) then
       (bnd (G40 (Hz.mk s boxes l open_ x)) fun r67=>
        bif r67 then
        (chk (91+(i60:Int)) fun v69=>
         some ([],v69))
        else
        (kj63 ()))
       else
       (bif decide ((i60:Int)=1) then
        (bnd (G4e (Hz.mk s boxes l open_ x)) fun r71=>
         bif r71 then
         (chk (91+(i60:Int)) fun v73=>
          some ([],v73))
         else
         (kj63 ()))
        else
        (bif decide ((i60:Int)=2) then
         (bnd (G61 (Hz.mk s boxes l open_ x)) fun r75=>
          bif r75 then
          (chk (91+(i60:Int)) fun v77=>
           some ([],v77))
          else
          (kj63 ()))
         else
         (bif decide ((i60:Int)=3) then
          (bnd (G6d F (Hz.mk s boxes l open_ x)) fun r79=>
           bif r79 then
           (chk (91+(i60:Int)) fun v81=>
            some ([],v81))
           else
           (kj63 ()))
          else
          (none))))) fun(j63:Unit)=>
      nx60 ())
     (fun(s60:Unit)=>
      bnd (Zk F (Hz.mk s boxes l open_ x)) fun r83=>
      some (r83,0)) (4:Int).toNat 0 ()))))
abbrev Eu (s:H0) (boxes:List Box) (l:List Stowed) (open_:List Int) (x:Stowed):List AV:=[E5 s.Columns,E6 s.Covers,I64 s.Light.Kilos,I64 s.Light.X,I64 s.Light.Y,I64 s.Light.Z,E8 s.Rows,E7 s.Frames,E9 s.Tanks,I64 s.G1.Tolerance,I64 s.G1.Trim,I64 s.G1.List_,I64 s.G1.Stability,E3 boxes,E2 l,E1 open_,I64 x.Box,I64 x.Slot.G3,I64 x.Slot.Tier,U8 x.Slot.Half]
abbrev Ev (s:H0) (boxes:List Box) (l:List Stowed) (open_:List Int) (x:Stowed):List AV:=[.agg (Eu s boxes l open_ x)]
theorem Qd3 (F:Nat) (s:H0) (boxes:List Box) (l:List Stowed) (open_:List Int) (x:Stowed) (r:(List Stowed)×Int) (h:Ga5 F s boxes l open_ x=some r):Pure Ej 108 [.agg (H0.cs s),E3 boxes,E2 l,E1 open_,.agg (Stowed.cs x)] (·=.tup [E2 r.1,I64 r.2]):=by
 unfold Ga5 at h
 refine Gy [.tmp 10,.tmp 11] Tryz.func108 O O (Jr fun hK1=>(JLh (.ptr 1168 0) (J7 (cs:=(H0.cs s)) 1168 O O O O O) O (JLh (.ptr 1169 0) (J7 (cs:=[I64 x.Box,I64 x.Slot.G3,I64 x.Slot.Tier,U8 x.Slot.Half]) 1169 O O O O O) O (JLh (E2 ([]:List Stowed)) (H2 4 O O) O (JLm (I64 0) O (G7 (hK1 ?_)))))))
 refine Gr [(1,E3 boxes),(2,E2 l),(3,E1 open_),(5,Eb s),(9,.ptr 1169 0)] [(1169,.box 73 [I64 x.Box,I64 x.Slot.G3,I64 x.Slot.Tier,U8 x.Slot.Half])] 1168 rfl rfl rfl ⟨⟨_,rfl,.boxEq rfl rfl⟩,G⟩ rfl (by repeat' (first | exact .ptr | constructor)) ?_
 refine Gr [(1,E3 boxes),(2,E2 l),(3,E1 open_),(5,Eb s),(9,Ec x)] [] 1169 rfl rfl rfl G rfl (by repeat' (first | exact .ptr | constructor)) (Js fun hK2=>?_)
 refine Jr fun hK3=>(JLh (.agg (H0.cs s)) (Gg H7 O O O) O (JLm (E3 boxes) O (JLm (E2 l) O (JLm (E1 open_) O ?_))))
 obtain⟨r4,hr4,h⟩:=Gd h
 refine JLh (BL r4) (Gi O (H0c s boxes l open_ r4 hr4) J45 ⟨O,O,O,O,O,O,O,O,G⟩) O (JLh (BL (!r4)) (Q3 (b:=r4) O O) O (G7 (hK3 (JCc O h (fun h hb=>?_) (fun h hb=>?_)))))
 ·
  refine Jr fun hK5=>(JLh (E2 ([]:List Stowed)) (H2 4 O O) O (JLm (I64 2) O (G7 (hK5 (Gq (⟨[E2 ([]:List Stowed),I64 2],[],G,O,⟨⟨_,O,.conv (.same O)⟩,⟨_,O,.conv (.same O)⟩,G⟩,O,congrArg (fun r:(List Stowed)×Int=>(.tup [E2 r.1,I64 r.2]:AV)) (Kj h)⟩))))))
 ·
  refine Gm (hK2 (Jr fun hK6=>(JLm (E3 boxes) O (JLh (Ec x) (Ga Hu O O O) O (JLh (I64 x.Box) (Ge Gb O O O) O ?_)))))
  obtain⟨r7,hr7,h⟩:=Gd h
  refine JLh (.tup [.agg (Box.cs r7.1),BL r7.2]) (Gi O (Gc8 boxes x.Box r7 hr7) H54 ⟨O,O,O,O,G⟩) O (JLm (.tup [.agg (Box.cs r7.1),BL r7.2]) O (JLh (.agg (Box.cs r7.1)) (H4 O O O) O (JLh (BL r7.2) (H4 O O O) O (JLh (.ptr 1170 0) (Jn 1170 9 G16 O O) O (Je (u:=.junk) (J5 (u:=.agg (Box.cs r7.1)) (ds:=(Box.cs r7.1)) Zs O O O O O O O O) (JLm (BL r7.2) O (G7 (hK6 ?_))))))))
  refine Gr [(1,E3 boxes),(2,E2 l),(3,E1 open_),(5,Eb s),(9,Ec x),(12,Ee r7.1),(13,BL r7.2)] [] 1170 rfl rfl rfl G rfl (by repeat' (first | exact .ptr | constructor)) (Js fun hK8=>Gp ?_)
  refine Jr fun hK9=>(JLm (BL r7.2) O (JLh (BL (!r7.2)) (Q3 (b:=r7.2) O O) O (JLm (BL (!r7.2)) O (JLo (.dptr ((Box.cs r7.1).drop 2)) [] O .scf G (fun hc=>Ga Rm O O O) O (JLo (U8 r7.1.Size) [34] O .scf ⟨Ua,G⟩ (fun hc=>Ge J6 O O O) O (JLo (BL (decide (r7.1.Size≠20))) [35] O .scf ⟨Ua,G⟩ (fun hc=>G1d O O O) O (JLo (BL (decide (r7.1.Size≠20))) [36] O .scf ⟨Ua,G⟩ (fun hc=>G4 O O) O (JLo (.dptr ((Box.cs r7.1).drop 2)) [] O .optt G (fun hc=>Ga Rm O O O) O (JLo (U8 r7.1.Size) [38] O .optt ⟨Ua,G⟩ (fun hc=>Ge J6 O O O) O (JLo (BL (decide (r7.1.Size≠40))) [39] O .optt ⟨Ua,G⟩ (fun hc=>G1d O O O) O (G9 (u:=BL ((decide (r7.1.Size≠20))&&(decide (r7.1.Size≠40)))) [(37,BL (decide (r7.1.Size≠20))),(40,_)] O O O .scf ⟨.all id,.part,G⟩ (fun hc=>J4 O O O O) ?_)))))))))))
  refine JLh (BL ((!r7.2)||((decide (r7.1.Size≠20))&&(decide (r7.1.Size≠40))))) (Rs O O O O) O (JLm (BL ((!r7.2)||((decide (r7.1.Size≠20))&&(decide (r7.1.Size≠40))))) O (G7 (hK9 (JCc O h (fun h hb=>?_) (fun h hb=>?_)))))
  ·
   refine Jr fun hK10=>(JLh (E2 ([]:List Stowed)) (H2 4 O O) O (JLm (I64 6) O (G7 (hK10 (Gq (⟨[E2 ([]:List Stowed),I64 6],[],G,O,⟨⟨_,O,.conv (.same O)⟩,⟨_,O,.conv (.same O)⟩,G⟩,O,congrArg (fun r:(List Stowed)×Int=>(.tup [E2 r.1,I64 r.2]:AV)) (Kj h)⟩))))))
  ·
   refine Jr fun hK11=>(JLm (E2 l) O (JLh (Ec x) (Ga Hu O O O) O (JLh (I64 x.Box) (Ge Gb O O O) O ?_)))
   obtain⟨r12,hr12,h⟩:=Gd h
   refine JLh (I64 r12) (Gi O (H1b l x.Box r12 hr12) Hb6 ⟨O,O,O,O,G⟩) O (JLh (BL (decide (0≤r12))) (G13 O O O) O (JLm (BL (decide (0≤r12))) O (G7 (hK11 (JCc O h (fun h hb=>?_) (fun h hb=>?_))))))
   ·
    refine Jr fun hK13=>(JLh (E2 ([]:List Stowed)) (H2 4 O O) O (JLm (I64 96) O (G7 (hK13 (Gq (⟨[E2 ([]:List Stowed),I64 96],[],G,O,⟨⟨_,O,.conv (.same O)⟩,⟨_,O,.conv (.same O)⟩,G⟩,O,congrArg (fun r:(List Stowed)×Int=>(.tup [E2 r.1,I64 r.2]:AV)) (Kj h)⟩))))))
   ·
    refine Jr fun hK14=>(JLh (.agg (H0.cs s)) (Gg H7 O O O) O (JLh (.dptr ((Stowed.cs x).drop 1)) (Ga Hs O O O) O (JLh (.agg ((Stowed.cs x).drop 1)) (Gg Jh O O O) O (JLh (.dptr ((Box.cs r7.1).drop 2)) (Ga Rm O O O) O (JLh (U8 r7.1.Size) (Ge J6 O O O) O ?_)))))
    obtain⟨r15,hr15,h⟩:=Gd h
    refine JLh (BL r15) (Gi O (J09 s x.Slot r7.1.Size r15 hr15) Q09 ⟨O,O,O,O,O,O,G⟩) O (JLh (BL (!r15)) (Q3 (b:=r15) O O) O (JLm (BL (!r15)) O (G7 (hK14 (JCc O h (fun h hb=>?_) (fun h hb=>?_))))))
    ·
     refine Jr fun hK16=>(JLh (E2 ([]:List Stowed)) (H2 4 O O) O (JLm (I64 97) O (G7 (hK16 (Gq (⟨[E2 ([]:List Stowed),I64 97],[],G,O,⟨⟨_,O,.conv (.same O)⟩,⟨_,O,.conv (.same O)⟩,G⟩,O,congrArg (fun r:(List Stowed)×Int=>(.tup [E2 r.1,I64 r.2]:AV)) (Kj h)⟩))))))
    ·
     refine Gm (hK8 ?_)
     refine Jr fun hK17=>(JLh (.agg (H0.cs s)) (Gg H7 O O O) O (JLm (E3 boxes) O (JLm (E2 l) O (JLm (E1 open_) O (JLh (.agg (Stowed.cs x)) (Gg Ru O O O) O (JLh (.agg (Eu s boxes l open_ x)) (Jk (cs:=(Eu s boxes l open_ x)) [(0,13),(13,1),(14,1),(15,1),(16,4)] [E5 ([]:List G3),E6 ([]:List G8),I64 0,I64 0,I64 0,I64 0,E8 ([]:List Row),E7 ([]:List Frame),E9 ([]:List Gf),I64 0,I64 0,I64 0,I64 0,E3 ([]:List Box),E2 ([]:List Stowed),E1 ([]:List Int),I64 0,I64 0,I64 0,U8 0] [.slice none 0 0,.slice none 0 0,E0,E0,E0,E0,.slice none 0 0,.slice none 0 0,.slice none 0 0,E0,E0,E0,E0,.slice none 0 0,.slice none 0 0,.slice none 0 0,E0,E0,E0,.int .u8 0] Q73 Qe4 ⟨.inr ⟨_,O,O⟩,.inr ⟨_,O,O⟩,.inl O,.inl O,.inl O,.inl O,.inr ⟨_,O,O⟩,.inr ⟨_,O,O⟩,.inr ⟨_,O,O⟩,.inl O,.inl O,.inl O,.inl O,.inr ⟨_,O,O⟩,.inr ⟨_,O,O⟩,.inr ⟨_,O,O⟩,.inl O,.inl O,.inl O,.inl O,G⟩ O O) O (JLh (.ptr 1171 0) (Jn 1171 20 Qb9 O O) O (Je (u:=.junk) (J5 (u:=.agg (Eu s boxes l open_ x)) (ds:=(Eu s boxes l open_ x)) Qe7 O O O O O O O O) (G7 (hK17 ?_))))))))))
     refine Gr [(14,.dptr (Eu s boxes l open_ x))] [] 1171 rfl rfl rfl G rfl (by exact⟨.ptr,G⟩) (Js fun hK18=>?_)
     refine Jr fun hK19=>(JLh (.agg (Eu s boxes l open_ x)) (Gg H05 O O O) O (JLh (.bfn 150 (Ev s boxes l open_ x)) (H94 (cs:=(Ev s boxes l open_ x)) O O) O (JLh (.agg (Eu s boxes l open_ x)) (Gg H05 O O O) O (JLh (.bfn 151 (Ev s boxes l open_ x)) (H94 (cs:=(Ev s boxes l open_ x)) O O) O (JLh (.agg (Eu s boxes l open_ x)) (Gg H05 O O O) O (JLh (.bfn 152 (Ev s boxes l open_ x)) (H94 (cs:=(Ev s boxes l open_ x)) O O) O (JLh (.agg (Eu s boxes l open_ x)) (Gg H05 O O O) O (JLh (.bfn 153 (Ev s boxes l open_ x)) (H94 (cs:=(Ev s boxes l open_ x)) O O) O (JLh (.agg [.bfn 150 (Ev s boxes l open_ x),.bfn 151 (Ev s boxes l open_ x),.bfn 152 (Ev s boxes l open_ x),.bfn 153 (Ev s boxes l open_ x)]) (J5f (cs:=[.bfn 150 (Ev s boxes l open_ x),.bfn 151 (Ev s boxes l open_ x),.bfn 152 (Ev s boxes l open_ x),.bfn 153 (Ev s boxes l open_ x)]) [.nilFunc,.nilFunc,.nilFunc,.nilFunc] R7d Qe3 O O) O (JLm (I64 0) O (G7 (hK19 ?_))))))))))))
     refine Gp ?_
     obtain⟨hx60,h⟩:=Hp h
     obtain⟨b60,kx60,hb60,hkx60,h⟩:=G8a h
     refine Hc (fun i60 (s60:Unit)=>upto b60 kx60 ((4:Int).toNat - i60) i60 s60=some r) (fun i60 s60=>[(14,.dptr (Eu s boxes l open_ x)),(71,.agg [.bfn 150 (Ev s boxes l open_ x),.bfn 151 (Ev s boxes l open_ x),.bfn 152 (Ev s boxes l open_ x),.bfn 153 (Ev s boxes l open_ x)]),(72,Ei i60)]) (fun i60 s60=>[]) (fun i60=>(4:Int).toNat - i60) 0 () h ⟨(.sm O O),G,O⟩ ?_
     clear h
     intro i60 s60 hi60 K60 e60
     refine Jr fun hK61=>(JLh (BL (decide ((i60:Int) < 4))) (Hy O O O) O (G7 (hK61 (Js fun hK62=>Gj O (fun hb=>?_) (fun hb=>?_)))))
     ·
      have hk60:=G5d hb
      obtain⟨nx60,hn60,h⟩:=G58 hi60 hk60
      replace h:=J02 hb60 h
      refine Gm (hK62 ?_)
      obtain⟨kj63,hkj63,h⟩:=G09 h
      refine Yt (fun j63:Unit=>kj63 j63=some r) (fun j63=>[(14,.dptr (Eu s boxes l open_ x)),(71,.agg [.bfn 150 (Ev s boxes l open_ x),.bfn 151 (Ev s boxes l open_ x),.bfn 152 (Ev s boxes l open_ x),.bfn 153 (Ev s boxes l open_ x)]),(72,Ei i60)]) (fun j63=>[]) (fun Kj63 ej63=>?_) ?_
      ·
       refine Gp (Jr fun hK64=>(JLm (Ei i60) O ((Decidable.em ((i60:Int)=0)).elim (fun hq65_0=>?_) (fun hq65_0=>?_))))
       ·
        replace h:=Gw (Kf hq65_0) h
        refine JLh (.bfn 150 (Ev s boxes l open_ x)) (J25 (j:=0) Hb8 O O O hq65_0 O O) O (JLm (Ei i60) O (JLm (.bfn 150 (Ev s boxes l open_ x)) O (G7 (hK64 ?_))))
        refine Jr fun hK66=>(JLm (.bfn 150 (Ev s boxes l open_ x)) O ?_)
        obtain⟨r67,hr67,h⟩:=Gd h
        refine JLh (BL r67) (J26 (args:=[]) (firsts:=(Ev s boxes l open_ x)) O O (Hdb (Hz.mk s boxes l open_ x) r67 hr67) Qfa G O) O (G7 (hK66 (JCc O h (fun h hb=>?_) (fun h hb=>?_))))
        ·
         refine Jr fun hK68=>(JLm (Ei i60) O ?_)
         obtain⟨v69,hv69,h⟩:=Qk h
         refine JLh (I64 v69) (Ht hv69 O O O) O (JLh (E2 ([]:List Stowed)) (H2 4 O O) O (JLm (I64 v69) O (G7 (hK68 (Gq (⟨[E2 ([]:List Stowed),I64 v69],[],G,O,⟨⟨_,O,.conv (.same O)⟩,⟨_,O,.conv (.same O)⟩,G⟩,O,congrArg (fun r:(List Stowed)×Int=>(.tup [E2 r.1,I64 r.2]:AV)) (Kj h)⟩))))))
        ·
         refine Gm (ej63 _ _ () h ⟨(.sm O O),G,O⟩)
       ·
        replace h:=Hg (Kg hq65_0) h
        refine(Decidable.em ((i60:Int)=1)).elim (fun hq65_1=>?_) (fun hq65_1=>?_)
        ·
         replace h:=Gw (Kf hq65_1) h
         refine JLh (.bfn 151 (Ev s boxes l open_ x)) (J25 (j:=1) Hb8 O O O hq65_1 O O) O (JLm (Ei i60) O (JLm (.bfn 151 (Ev s boxes l open_ x)) O (G7 (hK64 ?_))))
         refine Jr fun hK70=>(JLm (.bfn 151 (Ev s boxes l open_ x)) O ?_)
         obtain⟨r71,hr71,h⟩:=Gd h
         refine JLh (BL r71) (J26 (args:=[]) (firsts:=(Ev s boxes l open_ x)) O O (J08 (Hz.mk s boxes l open_ x) r71 hr71) Qf9 G O) O (G7 (hK70 (JCc O h (fun h hb=>?_) (fun h hb=>?_))))
         ·
          refine Jr fun hK72=>(JLm (Ei i60) O ?_)
          obtain⟨v73,hv73,h⟩:=Qk h
          refine JLh (I64 v73) (Ht hv73 O O O) O (JLh (E2 ([]:List Stowed)) (H2 4 O O) O (JLm (I64 v73) O (G7 (hK72 (Gq (⟨[E2 ([]:List Stowed),I64 v73],[],G,O,⟨⟨_,O,.conv (.same O)⟩,⟨_,O,.conv (.same O)⟩,G⟩,O,congrArg (fun r:(List Stowed)×Int=>(.tup [E2 r.1,I64 r.2]:AV)) (Kj h)⟩))))))
         ·
          refine Gm (ej63 _ _ () h ⟨(.sm O O),G,O⟩)
        ·
         replace h:=Hg (Kg hq65_1) h
         refine(Decidable.em ((i60:Int)=2)).elim (fun hq65_2=>?_) (fun hq65_2=>?_)
         ·
          replace h:=Gw (Kf hq65_2) h
          refine JLh (.bfn 152 (Ev s boxes l open_ x)) (J25 (j:=2) Hb8 O O O hq65_2 O O) O (JLm (Ei i60) O (JLm (.bfn 152 (Ev s boxes l open_ x)) O (G7 (hK64 ?_))))
          refine Jr fun hK74=>(JLm (.bfn 152 (Ev s boxes l open_ x)) O ?_)
          obtain⟨r75,hr75,h⟩:=Gd h
          refine JLh (BL r75) (J26 (args:=[]) (firsts:=(Ev s boxes l open_ x)) O O (Hd0 (Hz.mk s boxes l open_ x) r75 hr75) Qf8 G O) O (G7 (hK74 (JCc O h (fun h hb=>?_) (fun h hb=>?_))))
          ·
           refine Jr fun hK76=>(JLm (Ei i60) O ?_)
           obtain⟨v77,hv77,h⟩:=Qk h
           refine JLh (I64 v77) (Ht hv77 O O O) O (JLh (E2 ([]:List Stowed)) (H2 4 O O) O (JLm (I64 v77) O (G7 (hK76 (Gq (⟨[E2 ([]:List Stowed),I64 v77],[],G,O,⟨⟨_,O,.conv (.same O)⟩,⟨_,O,.conv (.same O)⟩,G⟩,O,congrArg (fun r:(List Stowed)×Int=>(.tup [E2 r.1,I64 r.2]:AV)) (Kj h)⟩))))))
          ·
           refine Gm (ej63 _ _ () h ⟨(.sm O O),G,O⟩)
         ·
          replace h:=Hg (Kg hq65_2) h
          refine(Decidable.em ((i60:Int)=3)).elim (fun hq65_3=>?_) (fun hq65_3=>?_)
          ·
           replace h:=Gw (Kf hq65_3) h
           refine JLh (.bfn 153 (Ev s boxes l open_ x)) (J25 (j:=3) Hb8 O O O hq65_3 O O) O (JLm (Ei i60) O (JLm (.bfn 153 (Ev s boxes l open_ x)) O (G7 (hK64 ?_))))
           refine Jr fun hK78=>(JLm (.bfn 153 (Ev s boxes l open_ x)) O ?_)
           obtain⟨r79,hr79,h⟩:=Gd h
           refine JLh (BL r79) (J26 (args:=[]) (firsts:=(Ev s boxes l open_ x)) O O (Hdc F (Hz.mk s boxes l open_ x) r79 hr79) Qf7 G O) O (G7 (hK78 (JCc O h (fun h hb=>?_) (fun h hb=>?_))))
           ·
            refine Jr fun hK80=>(JLm (Ei i60) O ?_)
            obtain⟨v81,hv81,h⟩:=Qk h
            refine JLh (I64 v81) (Ht hv81 O O O) O (JLh (E2 ([]:List Stowed)) (H2 4 O O) O (JLm (I64 v81) O (G7 (hK80 (Gq (⟨[E2 ([]:List Stowed),I64 v81],[],G,O,⟨⟨_,O,.conv (.same O)⟩,⟨_,O,.conv (.same O)⟩,G⟩,O,congrArg (fun r:(List Stowed)×Int=>(.tup [E2 r.1,I64 r.2]:AV)) (Kj h)⟩))))))
           ·
            refine Gm (ej63 _ _ () h ⟨(.sm O O),G,O⟩)
          ·
           replace h:=Hg (Kg hq65_3) h
           cases h
      ·intro j63 h
       replace h:=app1 hkj63 h
       refine G2 (JLh (I64 ((i60+1:Nat):Int)) (Ht (Hb hk60 (G36 hx60)) O O O) O (JLm (I64 ((i60+1:Nat):Int)) O (G7 (e60 _ _ (i60+1) () (app1 hn60 h) (by omega) ⟨(.sm O O),G,rfl⟩))))
     ·
      have h:=app1 hkx60 (G59 hi60 (Yi hb))
      refine Hi (hK18 (Jr fun hK82=>(JLh (.agg (Eu s boxes l open_ x)) (Gg H05 O O O) O ?_)))
      obtain⟨r83,hr83,h⟩:=Gd h
      refine JLh (E2 r83) (Gi O (Gdf F (Hz.mk s boxes l open_ x) r83 hr83) Jb9 ⟨O,O,G⟩) O (JLm (E2 r83) O (JLm (I64 0) O (G7 (hK82 (Gq (⟨[E2 r83,I64 0],[],G,O,⟨⟨_,O,.conv (.same O)⟩,⟨_,O,.conv (.same O)⟩,G⟩,O,congrArg (fun r:(List Stowed)×Int=>(.tup [E2 r.1,I64 r.2]:AV)) (Kj h)⟩))))))

def G81 (x:Int):Option Bool:=
 some (decide (x≠x))
theorem H8c (x:Int) (r:Bool) (h:G81 x=some r):Pure Ej 167 [I64 x] (·=BL r):=by
 unfold G81 at h
 refine Gy [.tmp 2] Tryz.func167 O O (Jr fun hK1=>(JLm (BL false) O (G7 (hK1 (Jr fun hK2=>(JLm (I64 x) O (JLm (I64 x) O (JLh (BL (decide (x≠x))) (G1d O O O) O (JLm (BL (decide (x≠x))) O (G7 (hK2 (Gq (fin1 BL h)))))))))))))

def Ga7 (x:Int) (y:Int):Option Bool:=
 bnd (G81 x) fun r3=>
 bnd (bif r3 then G81 y else some default) fun r4=>
 some ((r3&&(!r4))||(decide (x < y)))
theorem Jac (x:Int) (y:Int) (r:Bool) (h:Ga7 x y=some r):Pure Ej 137 [I64 x,I64 y] (·=BL r):=by
 unfold Ga7 at h
 refine Gy [.tmp 4] Tryz.func137 O O (Jr fun hK1=>(JLm (BL false) O (G7 (hK1 (Jr fun hK2=>(JLm (I64 x) O ?_))))))
 obtain⟨r3,hr3,h⟩:=Gd h
 refine JLh (BL r3) (Gi O (H8c x r3 hr3) Jb6 ⟨O,O,G⟩) O (JLm (BL r3) O (JLo (I64 y) [] O .sct G (fun hc=>G4 O O) O ?_))
 obtain⟨r4,hr4,h⟩:=Gd h
 refine JLo (BL r4) [8] O .sct ⟨Ua,G⟩ (fun hc=>Gi (args:=[I64 y]) O (H8c y r4 (Gw hc hr4)) Jb6 ⟨O,O,G⟩) O (JLo (BL (!r4)) [9] O .sct ⟨Ua,G⟩ (fun hc=>Q3 (b:=r4) O O) O (JLh (BL (r3&&(!r4))) (J4 O O O O) O (JLm (BL (r3&&(!r4))) O (JLo (I64 x) [] O .scf G (fun hc=>G4 O O) O (JLo (I64 y) [] O .scf G (fun hc=>G4 O O) O (JLo (BL (decide (x < y))) [13,14] O .scf ⟨Ua,Ua,G⟩ (fun hc=>Hy O O O) O (JLh (BL ((r3&&(!r4))||(decide (x < y)))) (Rs O O O O) O (JLm (BL ((r3&&(!r4))||(decide (x < y)))) O (G7 (hK2 (Gq (fin1 BL h))))))))))))

def G4f (x:Int):Option Bool:=
 some (decide (x≠x))
theorem H27 (x:Int) (r:Bool) (h:G4f x=some r):Pure Ej 171 [I64 x] (·=BL r):=by
 unfold G4f at h
 refine Gy [.tmp 2] Tryz.func171 O O (Jr fun hK1=>(JLm (BL false) O (G7 (hK1 (Jr fun hK2=>(JLm (I64 x) O (JLm (I64 x) O (JLh (BL (decide (x≠x))) (G1d O O O) O (JLm (BL (decide (x≠x))) O (G7 (hK2 (Gq (fin1 BL h)))))))))))))

def Za (F:Nat) (x:List Int) (target:Int):Option (Int×Bool):=
 loop (fun nx16 (s16:Int×Int)=>
  bif decide (s16.1 < s16.2) then
  (chk (s16.1+s16.2) fun v20=>
   chk (Y12 .u64 (IntKind.u64.wrap v20) 1) fun v21=>
   Qm x v21 fun y23=>
   bnd (Ga7 y23 target) fun r25=>
   bif r25 then
   (chk (v21+1) fun v26=>
    nx16 (v26,s16.2))
   else
   (nx16 (s16.1,v21)))
  else
  (bnd (bif decide (s16.1 < (x.length:Int)) then Qm x s16.1 some else some default) fun y28=>
   bnd (bif ((decide (s16.1 < (x.length:Int)))&&!(decide (y28=target))) then Qm x s16.1 some else some default) fun y29=>
   bnd (bif ((decide (s16.1 < (x.length:Int)))&&!(decide (y28=target))) then G4f y29 else some default) fun r30=>
   bnd (bif (((decide (s16.1 < (x.length:Int)))&&!(decide (y28=target)))&&r30) then G4f target else some default) fun r31=>
   some (s16.1,((decide (s16.1 < (x.length:Int)))&&((decide (y28=target))||(r30&&r31)))))) F (0,(x.length:Int))
theorem H49 (F:Nat) (x:List Int) (target:Int) (r:Int×Bool) (h:Za F x target=some r):Pure Ej 147 [E1 x,I64 target] (·=.tup [I64 r.1,BL r.2]):=by
 unfold Za at h
 refine Gy [.tmp 4,.tmp 5] Tryz.func147 O O (Jr fun hK1=>(JLm (I64 0) O (JLm (BL false) O (G7 (hK1 (Jr fun hK2=>(JLm (E1 x) O (JLl Gn O O O fun hm11=>(JLm (Ei x.length) O (G7 (hK2 (Jr fun hK3=>(JLm (Ei x.length) O (JLm (I64 0) O (JLm (Ei x.length) O (G7 (hK3 (Js fun hK4=>Gp ?_))))))))))))))))))
 obtain⟨b16,hb16,h⟩:=Jef h
 refine Hc (fun i16 (s16:Int×Int)=>loop b16 i16 s16=some r) (fun i16 s16=>[(0,E1 x),(1,I64 target),(6,Ei x.length),(7,I64 s16.1),(8,I64 s16.2)]) (fun i16 s16=>[]) (fun i16=>i16) F (0,(x.length:Int)) h ⟨(.sm O O),G,rfl⟩ ?_
 clear h
 intro i16 s16 hi16 K16 e16
 obtain⟨m16,nx16,hm_16,hn16,h⟩:=J77 hi16
 replace h:=Y5c hb16 h
 refine Js fun hK17=>Jr fun hK18=>(JLm (I64 s16.1) O (JLm (I64 s16.2) O (JLh (BL (decide (s16.1 < s16.2))) (Hy O O O) O (G7 (hK18 (JCc O h (fun h hb=>?_) (fun h hb=>?_)))))))
 ·
  refine Gm (hK17 (Gp (Jr fun hK19=>(JLm (I64 s16.1) O (JLm (I64 s16.2) O ?_)))))
  obtain⟨v20,hv20,h⟩:=Qk h
  refine JLh (I64 v20) (Ht hv20 O O O) O (JLh (.sc (.int .u64 (IntKind.u64.wrap v20))) (Q70 Jfa He1 O O O) O (JLh (.sc (.int .u64 (Y12 .u64 (IntKind.u64.wrap v20) 1))) (Y96 (s:=1) O O O O) O ?_))
  obtain⟨v21,hv21,h⟩:=Qk h
  refine JLh (I64 v21) (Q70 He1 Jfa hv21 O O) O (JLm (I64 v21) O (G7 (hK19 (Jr fun hK22=>(JLm (E1 x) O (JLm (I64 v21) O ?_))))))
  obtain⟨m24,y23,hm24,hy23,h⟩:=Rb h
  refine JLh (.dptr [I64 y23]) (Gv (f:=I64) (xs:=x) (y:=y23) O O O Gn hy23 hm24) O (JLh (I64 y23) (Ge Gb O O O) O (JLm (I64 target) O ?_))
  obtain⟨r25,hr25,h⟩:=Gd h
  refine JLh (BL r25) (Gi O (Jac y23 target r25 hr25) R01 ⟨O,O,O,O,G⟩) O (G7 (hK22 (JCc O h (fun h hb=>?_) (fun h hb=>?_))))
  ·
   refine G2 (JLm (I64 v21) O ?_)
   obtain⟨v26,hv26,h⟩:=Qk h
   refine JLh (I64 v26) (Ht hv26 O O O) O (JLm (I64 v26) O (G7 (e16 _ _ m16 (v26,s16.2) (app1 hn16 h) (by omega) ⟨(.sm O O),G,rfl⟩)))
  ·
   refine G2 (JLm (I64 v21) O (JLm (I64 v21) O (G7 (e16 _ _ m16 (s16.1,v21) (app1 hn16 h) (by omega) ⟨(.sm O O),G,rfl⟩))))
 ·
  refine Hi (hK4 (Jr fun hK27=>(JLm (I64 s16.1) O (JLm (I64 s16.1) O (JLm (Ei x.length) O (JLh (BL (decide (s16.1 < (x.length:Int)))) (Hy O O O) O (JLm (BL (decide (s16.1 < (x.length:Int)))) O (JLo (E1 x) [] O .sct G (fun hc=>G4 O O) O (JLo (I64 s16.1) [] O .sct G (fun hc=>G4 O O) O ?_)))))))))
  obtain⟨y28,hy28,h⟩:=Gd h
  refine JLo (.dptr [I64 y28]) [36,37] O .sct ⟨Ua,Ua,G⟩ (fun hc=>(match Q0 (Gw hc hy28) with | ⟨_,hm_,hy_⟩=>Gv (f:=I64) (xs:=x) (y:=y28) O O O Gn hy_ hm_)) O (JLo (I64 y28) [38] O .sct ⟨Ua,G⟩ (fun hc=>Ge Gb O O O) O (JLo (I64 target) [] O .sct G (fun hc=>G4 O O) O (JLo (BL (decide (y28=target))) [39,40] O .sct ⟨Ua,Ua,G⟩ (fun hc=>Ju O O O) O (JLo (BL (decide (y28=target))) [41] O .sct ⟨Ua,G⟩ (fun hc=>G4 O O) O (JLo (E1 x) [] O .optf G (fun hc=>G4 O O) O (JLo (I64 s16.1) [] O .optf G (fun hc=>G4 O O) O ?_))))))
  obtain⟨y29,hy29,h⟩:=Gd h
  refine JLo (.dptr [I64 y29]) [43,44] O .optf ⟨Ua,Ua,G⟩ (fun hc=>(match Q0 (Gw hc hy29) with | ⟨_,hm_,hy_⟩=>Gv (f:=I64) (xs:=x) (y:=y29) O O O Gn hy_ hm_)) O (JLo (I64 y29) [45] O .optf ⟨Ua,G⟩ (fun hc=>Ge Gb O O O) O ?_)
  obtain⟨r30,hr30,h⟩:=Gd h
  refine JLo (BL r30) [46] O .optf ⟨Ua,G⟩ (fun hc=>Gi (args:=[I64 y29]) O (H27 y29 r30 (Gw hc hr30)) Jb5 ⟨O,O,G⟩) O (JLo (BL r30) [47] O .optf ⟨Ua,G⟩ (fun hc=>G4 O O) O (JLo (I64 target) [] O .optt G (fun hc=>G4 O O) O ?_))
  obtain⟨r31,hr31,h⟩:=Gd h
  refine JLo (BL r31) [49] O .optt ⟨Ua,G⟩ (fun hc=>Gi (args:=[I64 target]) O (H27 target r31 (Gw hc hr31)) Jb5 ⟨O,O,G⟩) O (G9 (u:=BL (r30&&r31)) [(48,BL r30),(50,_)] O O O .optf ⟨.all id,.part,G⟩ (fun hc=>J4 O O O O) ?_)
  refine G9 (u:=BL ((decide (y28=target))||(r30&&r31))) [(42,BL (decide (y28=target))),(51,_)] O O O .sct ⟨.all id,.part,G⟩ (fun hc=>Rs O O O O) ?_
  refine JLh (BL ((decide (s16.1 < (x.length:Int)))&&((decide (y28=target))||(r30&&r31)))) (J4 O O O O) O (JLm (I64 s16.1) O (JLm (BL ((decide (s16.1 < (x.length:Int)))&&((decide (y28=target))||(r30&&r31)))) O (G7 (hK27 (Gq (⟨[I64 s16.1,BL ((decide (s16.1 < (x.length:Int)))&&((decide (y28=target))||(r30&&r31)))],[],G,O,⟨⟨_,O,.conv (.same O)⟩,⟨_,O,.conv (.same O)⟩,G⟩,O,congrArg (fun r:Int×Bool=>(.tup [I64 r.1,BL r.2]:AV)) (Kj h)⟩))))))

def Ge0 (F:Nat) (s:H0) (boxes:List Box) (l:List Stowed) (open_:List Int) (cover:Int):Option ((List Int)×Int):=
 bnd (Yy s boxes l open_) fun r4=>
 bif (!r4) then
 (some ([],2))
 else
 (bif ((decide (cover < 0))||(decide ((s.Covers.length:Int)≤cover))) then
  (some ([],6))
  else
  (bnd (Gde s l cover) fun r9=>
   bif decide (0 < (r9.length:Int)) then
   (some ([],95))
   else
   (bnd (Za F open_ cover) fun r12=>
    bif r12.2 then
    (bnd (Y3 open_) fun r16=>
     some (r16,0))
    else
    (bnd (G7d open_ r12.1 cover) fun r18=>
     some (r18,0)))))
theorem Q7c (F:Nat) (s:H0) (boxes:List Box) (l:List Stowed) (open_:List Int) (cover:Int) (r:(List Int)×Int) (h:Ge0 F s boxes l open_ cover=some r):Pure Ej 107 [.agg (H0.cs s),E3 boxes,E2 l,E1 open_,I64 cover] (·=.tup [E1 r.1,I64 r.2]):=by
 unfold Ge0 at h
 refine Gy [.tmp 10,.tmp 11] Tryz.func107 O O (Jr fun hK1=>(JLh (.ptr 1167 0) (J7 (cs:=(H0.cs s)) 1167 O O O O O) O (JLh (E1 ([]:List Int)) (H2 1 O O) O (JLm (I64 0) O (G7 (hK1 ?_))))))
 refine Gr [(1,E3 boxes),(2,E2 l),(3,E1 open_),(4,I64 cover),(5,Eb s)] [] 1167 rfl rfl rfl G rfl (by repeat' (first | exact .ptr | constructor)) (Js fun hK2=>Gp ?_)
 refine Jr fun hK3=>(JLh (.agg (H0.cs s)) (Gg H7 O O O) O (JLm (E3 boxes) O (JLm (E2 l) O (JLm (E1 open_) O ?_))))
 obtain⟨r4,hr4,h⟩:=Gd h
 refine JLh (BL r4) (Gi O (H0c s boxes l open_ r4 hr4) J45 ⟨O,O,O,O,O,O,O,O,G⟩) O (JLh (BL (!r4)) (Q3 (b:=r4) O O) O (JLm (BL (!r4)) O (G7 (hK3 (JCc O h (fun h hb=>?_) (fun h hb=>?_))))))
 ·
  refine Jr fun hK5=>(JLh (E1 ([]:List Int)) (H2 1 O O) O (JLm (I64 2) O (G7 (hK5 (Gq (⟨[E1 ([]:List Int),I64 2],[],G,O,⟨⟨_,O,.conv (.same O)⟩,⟨_,O,.conv (.same O)⟩,G⟩,O,congrArg (fun r:(List Int)×Int=>(.tup [E1 r.1,I64 r.2]:AV)) (Kj h)⟩))))))
 ·
  refine Jr fun hK6=>(JLm (I64 cover) O (JLh (BL (decide (cover < 0))) (Hy O O O) O (JLm (BL (decide (cover < 0))) O (JLo (I64 cover) [] O .scf G (fun hc=>G4 O O) O (JLo (.dptr [E6 s.Covers,I64 s.Light.Kilos,I64 s.Light.X,I64 s.Light.Y,I64 s.Light.Z,E8 s.Rows,E7 s.Frames,E9 s.Tanks,I64 s.G1.Tolerance,I64 s.G1.Trim,I64 s.G1.List_,I64 s.G1.Stability]) [] O .scf G (fun hc=>Ga Jg O O O) O (JLo (E6 s.Covers) [26] O .scf ⟨Ua,G⟩ (fun hc=>Ge Jv O O O) O (JLo (Ei s.Covers.length) [27] O .scf ⟨Ua,G⟩ (fun hc=>Qs (f:=G8.av) (xs:=s.Covers) Hq O O) O (JLo (BL (decide ((s.Covers.length:Int)≤cover))) [25,28] O .scf ⟨Ua,Ua,G⟩ (fun hc=>G13 O O O) O (JLh (BL ((decide (cover < 0))||(decide ((s.Covers.length:Int)≤cover)))) (Rs O O O O) O (JLm (BL ((decide (cover < 0))||(decide ((s.Covers.length:Int)≤cover)))) O (G7 (hK6 ?_))))))))))))
  refine JCc O h ?_ ?_<;>intro h hb
  ·
   refine Jr fun hK7=>(JLh (E1 ([]:List Int)) (H2 1 O O) O (JLm (I64 6) O (G7 (hK7 (Gq (⟨[E1 ([]:List Int),I64 6],[],G,O,⟨⟨_,O,.conv (.same O)⟩,⟨_,O,.conv (.same O)⟩,G⟩,O,congrArg (fun r:(List Int)×Int=>(.tup [E1 r.1,I64 r.2]:AV)) (Kj h)⟩))))))
  ·
   refine Jr fun hK8=>(JLh (.agg (H0.cs s)) (Gg H7 O O O) O (JLm (E2 l) O (JLm (I64 cover) O ?_)))
   obtain⟨r9,hr9,h⟩:=Gd h
   refine JLh (E1 r9) (Gi O (J33 s l cover r9 hr9) Q00 ⟨O,O,O,O,O,O,G⟩) O (JLl Gn O O O fun hm36=>(JLh (BL (decide (0 < (r9.length:Int)))) (G41 O O O) O (JLm (BL (decide (0 < (r9.length:Int)))) O (G7 (hK8 (JCc O h (fun h hb=>?_) (fun h hb=>?_)))))))
   ·
    refine Jr fun hK10=>(JLh (E1 ([]:List Int)) (H2 1 O O) O (JLm (I64 95) O (G7 (hK10 (Gq (⟨[E1 ([]:List Int),I64 95],[],G,O,⟨⟨_,O,.conv (.same O)⟩,⟨_,O,.conv (.same O)⟩,G⟩,O,congrArg (fun r:(List Int)×Int=>(.tup [E1 r.1,I64 r.2]:AV)) (Kj h)⟩))))))
   ·
    refine Gm (hK2 (Jr fun hK11=>(JLm (E1 open_) O (JLm (I64 cover) O ?_))))
    obtain⟨r12,hr12,h⟩:=Gd h
    refine JLh (.tup [I64 r12.1,BL r12.2]) (Gi O (H49 F open_ cover r12 hr12) Qfd ⟨O,O,O,O,G⟩) O (JLm (.tup [I64 r12.1,BL r12.2]) O (JLh (I64 r12.1) (H4 O O O) O (JLh (BL r12.2) (H4 O O O) O (JLm (I64 r12.1) O (JLm (BL r12.2) O (G7 (hK11 (Js fun hK13=>Jr fun hK14=>(JLm (BL r12.2) O (G7 (hK14 (JCc O h (fun h hb=>?_) (fun h hb=>?_)))))))))))))
    ·
     refine Jr fun hK15=>(JLm (E1 open_) O ?_)
     obtain⟨r16,hr16,h⟩:=Gd h
     refine JLh (E1 r16) (Gi O (J0b open_ r16 hr16) Qfc ⟨O,O,G⟩) O (JLm (E1 r16) O (JLm (I64 0) O (G7 (hK15 (Gq (⟨[E1 r16,I64 0],[],G,O,⟨⟨_,O,.conv (.same O)⟩,⟨_,O,.conv (.same O)⟩,G⟩,O,congrArg (fun r:(List Int)×Int=>(.tup [E1 r.1,I64 r.2]:AV)) (Kj h)⟩))))))
    ·
     refine Gm (hK13 (Jr fun hK17=>(JLm (E1 open_) O (JLm (I64 r12.1) O (JLm (I64 cover) O ?_)))))
     obtain⟨r18,hr18,h⟩:=Gd h
     refine JLh (E1 r18) (Gi O (J84.down open_ r12.1 cover r18 hr18) Qfb ⟨O,O,O,O,O,O,G⟩) O (JLm (E1 r18) O (JLm (I64 0) O (G7 (hK17 (Gq (⟨[E1 r18,I64 0],[],G,O,⟨⟨_,O,.conv (.same O)⟩,⟨_,O,.conv (.same O)⟩,G⟩,O,congrArg (fun r:(List Int)×Int=>(.tup [E1 r.1,I64 r.2]:AV)) (Kj h)⟩))))))

def H46 (s:H0) (size:Int):Option Unit:=
 some ()
theorem Q56 (s:H0) (size:Int) (r:Unit) (h:H46 s size=some r):Pure Ej 143 [.agg (H0.cs s),U8 size] (·=.fn 168 [.dptr (H0.cs s),.dptr [U8 size]]):=by
 unfold H46 at h
 refine Gy [.tmp 4] Tryz.func143 O O (Jr fun hK1=>(JLh (.ptr 1191 0) (J7 (cs:=(H0.cs s)) 1191 O O O O O) O (JLh (.ptr 1192 0) (J7 (cs:=[U8 size]) 1192 O O O O O) O (JLm (.sc .nilFunc) O (G7 (hK1 ?_))))))
 refine Gr [(2,Eb s),(3,.ptr 1192 0)] [(1192,.box 5 [U8 size])] 1191 rfl rfl rfl ⟨⟨_,rfl,.boxEq rfl rfl⟩,G⟩ rfl (by exact⟨.ptr,.conv (.same rfl),G⟩) (Gr [(2,Eb s),(3,.dptr [U8 size])] [] 1192 rfl rfl rfl G rfl (by exact⟨.conv (.same rfl),.ptr,G⟩) ?_)
 refine Jr fun hK2=>(JLh (.fn 168 [.dptr (H0.cs s),.dptr [U8 size]]) (G3d (cs:=[.dptr (H0.cs s),.dptr [U8 size]]) O O) O (JLm (.fn 168 [.dptr (H0.cs s),.dptr [U8 size]]) O (G7 (hK2 ?_))))
 refine Gq (⟨[.fn 168 [.dptr (H0.cs s),.dptr [U8 size]]],[],G,O,⟨⟨_,O,.conv (.same O)⟩,G⟩,O,congrArg (fun _:Unit=>(.fn 168 [.dptr (H0.cs s),.dptr [U8 size]]:AV)) (Kj h)⟩)

def H0d (s:H0) (size:Int):Option (List Slot):=
 bnd (H46 s size) fun r5=>
 bnd (Gf2 s size) fun ys8=>
 each (fun y8 i8 (s8:(List Slot)) nx8=>
  need (decide ((s8.length+[y8].length)*24≤140737488355328∧s8.length+[y8].length≤maxLen)) <|
  nx8 (s8++[y8]))
 (fun(s8:(List Slot))=>
  some s8) ys8 0 []
theorem Qd4 (s:H0) (size:Int) (r:(List Slot)) (h:H0d s size=some r):Pure Ej 105 [.agg (H0.cs s),U8 size] (·=E4 r):=by
 unfold H0d at h
 refine Gy [.tmp 4] Tryz.func105 O O (Jr fun hK1=>(JLh (.ptr 1161 0) (J7 (cs:=(H0.cs s)) 1161 O O O O O) O (JLh (E4 ([]:List Slot)) (H2 3 O O) O (G7 (hK1 (Gr [(1,U8 size),(2,Eb s)] [] 1161 rfl rfl rfl G rfl (by exact⟨.conv (.same rfl),.ptr,G⟩) ?_))))))
 refine Jr fun hK2=>(JLh (.ptr 1162 0) (G34 1162 [.sc (.slice none 0 0)] [.slice none 0 0] Jf8 ⟨.inl O,G⟩ O O) O (Q62 1162 0 1164 71 3 O O O (cs':=[OW 1164 3 Slot.av ([]:List Slot)]) O (G7 (hK2 (Js fun hK3=>Jr fun hK4=>(JLh (.agg (H0.cs s)) (Gg H7 O O O) O (JLm (U8 size) O ?_)))))))
 obtain⟨r5,hr5,h⟩:=Gd h
 refine JLh (.fn 168 [.dptr (H0.cs s),.dptr [U8 size]]) (Gi O (Q56 s size r5 hr5) R00 ⟨O,O,O,O,G⟩) O (G7 (hK4 (Gp ?_)))
 obtain⟨ys8,hy_8,h⟩:=Gd h
 obtain⟨b8,kx8,hb8,hkx8,h⟩:=Hv h
 refine J89 (ps:=[10]) [(5,.ptr 1162 0),(9,.fn 168 [.dptr (H0.cs s),.dptr [U8 size]])] (ys8.map (fun y:Slot=>[.agg [I64 y.G3,I64 y.Tier,U8 y.Half]])) (fun i8 (s8:(List Slot))=>each b8 kx8 (List.drop i8 ys8) i8 s8=some r) (fun s8=>[(1164,.spare 71 3 s8.length s8.length),(1162,.box 57 [OW 1164 3 Slot.av s8])]) [] rfl rfl rfl Qf2 (Ja5.down s size ys8 hy_8) h ⟨(.sm O O),⟨⟨_,rfl,.same⟩,⟨_,rfl,.boxL rfl ⟨.same rfl,trivial⟩⟩,trivial⟩,rfl⟩ rfl (fun us_ hus_=>by obtain⟨_,_,rfl⟩:=Ku.1 hus_; rfl) (fun p_ hp_=>Nat.blt_eq.mp (by revert p_; decide)) (fun _=>(.sm O O)) (fun _=>rfl) ?_ ?_
 ·
  intro i8 us_ s8 hu_ hi8 lr_ K8 e8
  obtain⟨hk8,rfl⟩:=Rba hu_
  obtain⟨y8,nx8,hy8,hn8,h⟩:=Hj hi8 hk8
  replace h:=R8 hb8 h
  obtain⟨_,rfl⟩:=Kh hy8
  generalize ys8[i8]=y8 at h ⊢
  change JC _ _ _ _ [(10,.agg [I64 y8.G3,I64 y8.Tier,U8 y8.Half]),(5,.ptr 1162 0),(9,.fn 168 [.dptr (H0.cs s),.dptr [U8 size]])] [(1164,.spare 71 3 s8.length s8.length),(1162,.box 57 [OW 1164 3 Slot.av s8])]
  refine G2 (JLh (.ptr 1163 0) (Jn 1163 3 G15 O O) O (Je (u:=.junk) (J5 (u:=.agg [I64 y8.G3,I64 y8.Tier,U8 y8.Half]) (ds:=[I64 y8.G3,I64 y8.Tier,U8 y8.Half]) H50 O O O O O O O O) (G7 (R9a [(5,.ptr 1162 0),(6,.dptr [I64 y8.G3,I64 y8.Tier,U8 y8.Half])] [(1164,.spare 71 3 s8.length s8.length),(1162,.box 57 [OW 1164 3 Slot.av s8])] 1163 rfl rfl rfl ⟨⟨_,rfl,.same⟩,⟨_,rfl,.boxEq rfl rfl⟩,G⟩ rfl (by exact⟨.conv (.same rfl),.ptr,G⟩) (Y33 (Gp (G2 ?_)))))))
  refine JLh (OW 1164 3 Slot.av s8) (G04 G78 O O O O) O (JLh (.agg [I64 y8.G3,I64 y8.Tier,U8 y8.Half]) (Gg Jh O O O) O (JLh (E4 [y8]) (Ha (xs:=[.agg [I64 y8.G3,I64 y8.Tier,U8 y8.Half]]) O ⟨O,O,G⟩ Ja G15 O O O O) O ?_))
  obtain⟨ha9,h⟩:=Hp h
  refine JLh (OW 1164 3 Slot.av (s8++[y8])) (Q8 (f:=Slot.av) (xs:=s8) (ys:=[y8]) O O O O Ja H02 ha9 (fun _=>O) (.inl O) O) O (Je (u:=.junk) (J5 (u:=OW 1164 3 Slot.av (s8++[y8])) (ds:=[OW 1164 3 Slot.av (s8++[y8])]) J3a O O O O O O O O) (G7 (e8 _ _ (s8++[y8]) (app1 hn8 h) ⟨G,⟨⟨_,O,.same⟩,⟨_,O,.boxL O ⟨.same O,G⟩⟩,G⟩,O⟩)))
 ·
  intro s8 h
  rw [Ks] at h
  replace h:=app1 hkx8 (Hk h (Nat.lt_irrefl _))
  refine hK3 (Jr fun hK10=>(JLh (OW 1164 3 Slot.av s8) (G04 G78 O O O O) O (JLm (OW 1164 3 Slot.av s8) O (G7 (hK10 (G29 (l':=[(4,E4 s8)]) (L':=[(1162,.box 57 [E4 s8])]) ⟨⟨.list O,G⟩,⟨⟨_,O,.boxL O ⟨.list O,G⟩⟩,G⟩,O⟩ (Gr [(4,E4 s8)] [] 1162 rfl rfl rfl G rfl (by exact⟨.conv (.same rfl),G⟩) (Gq (fin1 (fun r:(List Slot)=>(E4 r:AV)) h)))))))))

def Gfb (F:Nat) (p1:H0) (p2:Box) (p3:List Box) (p4:List Stowed) (ys_:List (Slot×(List Stowed))):Option Unit:=
 bnd (H0d p1 p2.Size) fun r2=>
 each (fun y45 i45 (s45:Nat) nx45=>
  jp (fun kj51=>
   bnd (G10 p1 y45.G3) fun r53=>
   bnd (bif decide (0≤r53) then Qm p1.Columns y45.G3 some else some default) fun y55=>
   bif ((decide (0≤r53))&&(!y55.Deck)) then
   (bnd (Ge0 F p1 p3 p4 [] r53) fun r56=>
    kj51 r56.1)
   else
   (kj51 [])) fun(j51:(List Int))=>
  bnd (Ga5 F p1 p3 p4 j51 (Stowed.mk p2.ID y45)) fun r58=>
  need ((!(decide (r58.2=0)))||decide (ys_[s45]? = some (y45,r58.1))) <|
  bif ((decide (r58.2=0))&&false) then
  (need (decide ((bif decide (r58.2=0) then s45+1 else s45)=ys_.length)) (some ()))
  else
  (nx45 (bif decide (r58.2=0) then s45+1 else s45)))
 (fun(s45:Nat)=>
  need (decide (s45=ys_.length)) (some ())) r2 0 0
theorem Jad (F:Nat) (p1:H0) (p2:Box) (p3:List Box) (p4:List Stowed) (ys_:List (Slot×(List Stowed))) (q_:Unit) (h:Gfb F p1 p2 p3 p4 ys_=some q_):Iter Ej 104 [.dptr (H0.cs p1),Ee p2,.dptr [E3 p3],.dptr [E2 p4]] (ys_.map (fun y:Slot×(List Stowed)=>[.agg (Slot.cs y.1),E2 y.2])):=by
 unfold Gfb at h
 refine Rcc Tryz.func104 O O ?_
 intro E hE hys
 refine G22 (fun K1 hK1=>Rk (J9 (u:=.agg (H0.cs p1)) hE (Gg H7 O O O) ?_ O O O O))
 refine J9 (u:=.dptr ((Box.cs p2).drop 2)) hE (Ga Rm O O O) ?_ O O O O
 refine J9 (u:=U8 p2.Size) hE (Ge J6 O O O) ?_ O O O O
 obtain⟨r2,hr2,h⟩:=Gd h
 refine J9 (u:=E4 r2) hE (Gi O (Qd4 p1 p2.Size r2 hr2) R0d ⟨O,O,O,O,G⟩) ?_ O O O O
 refine Q63 hE (f:=Slot.av) (xs:=r2) Ja O O (fun hm16=>?_) O O O
 refine J9 (u:=I64 0) hE (G4 O O) ?_ O O O O
 refine G11 ?_
 refine hK1 _ _ _ (H29 ?_)
 obtain⟨b45,kx45,hb45,hkx45,h⟩:=Hv h
 refine J88 (fun i45 (s45:Nat)=>each b45 kx45 (List.drop i45 r2) i45 s45=some q_) (fun i45 s45=>[(0,.sc (.func (.yield E.lp) #[] #[])),(1,Eb p1),(2,Ee p2),(3,.dptr [E3 p3]),(4,.dptr [E2 p4]),(15,E4 r2),(16,Ei r2.length),(17,Ei i45)]) (fun i45 s45=>[]) (fun i45 s45=>s45) (fun i45=>r2.length - i45) 0 0 h ⟨(.sm O O),G,rfl⟩ rfl ?_
 clear h
 intro i45 s45 hi45 K45 e45
 refine G22 (fun K46 hK46=>Rk (J9 (u:=BL (decide ((i45:Int) < (r2.length:Int)))) hE (Hy O O O) ?_ O O O O))
 refine G11 ?_
 refine hK46 _ _ _ (G22 (fun K47 hK47=>H91 O (fun hb=>?_) (fun hb=>?_)))
 ·
  have hk45:=J8 hb
  obtain⟨y45,nx45,hy45,hn45,h⟩:=Hj hi45 hk45
  replace h:=R8 hb45 h
  refine Hd2 (hK47 _ _ _ (G22 (fun K48 hK48=>H29 (G22 (fun K49 hK49=>Rk (J9 (u:=Eg y45) hE (Gv (f:=Slot.av) (xs:=r2) (y:=y45) O O O Ja hy45 O) ?_ O O O O))))))
  refine J9 (u:=.agg (Slot.cs y45)) hE (Gg Jh O O O) ?_ O O O O
  refine J9 (u:=.ptr 1160 0) hE (Jn 1160 3 G15 O O) ?_ O O O O
  refine Rc8 (u:=.junk) hE (J5 (u:=.agg (Slot.cs y45)) (ds:=[I64 y45.G3,I64 y45.Tier,U8 y45.Half]) H50 O O O O O O O O) ?_ O O O
  refine G11 ?_
  refine hK49 _ _ _ (G22 (fun K50 hK50=>Rk (J9 (u:=E1 ([]:List Int)) hE (H2 1 O O) ?_ O O O O)))
  refine G11 ?_
  refine hK50 _ _ _ ?_
  obtain⟨kj51,hkj51,h⟩:=G09 h
  refine Y5e (fun j51:(List Int)=>kj51 j51=some q_) (fun j51=>[(0,.sc (.func (.yield E.lp) #[] #[])),(1,Eb p1),(2,Ee p2),(3,.dptr [E3 p3]),(4,.dptr [E2 p4]),(7,.ptr 1160 0),(8,E1 j51),(15,E4 r2),(16,Ei r2.length),(17,Ei i45)]) (fun j51=>[(1160,.box 71 [I64 y45.G3,I64 y45.Tier,U8 y45.Half])]) (fun j51=>s45) (fun Kj51 ej51=>?_) ?_
  ·
   refine G22 (fun K52 hK52=>Rk (J9 (u:=.agg (H0.cs p1)) hE (Gg H7 O O O) ?_ O O O O))
   refine J9 (u:=.ptr 1160 0) hE (G14 J0 O O) ?_ O O O O
   refine J9 (u:=I64 y45.G3) hE (G04 Gb O O O O) ?_ O O O O
   obtain⟨r53,hr53,h⟩:=Gd h
   refine J9 (u:=I64 r53) hE (Gi O (H0e p1 y45.G3 r53 hr53) Hef ⟨O,O,O,O,G⟩) ?_ O O O O
   refine J9 (u:=I64 r53) hE (G6 O O) ?_ O O O O
   refine G11 ?_
   refine hK52 _ _ _ (G22 (fun K54 hK54=>Rk (J9 (u:=I64 r53) hE (G4 O O) ?_ O O O O)))
   refine J9 (u:=BL (decide (0≤r53))) hE (G13 O O O) ?_ O O O O
   refine J9 (u:=BL (decide (0≤r53))) hE (G4 O O) ?_ O O O O
   refine Gcf (u:=Eb p1) [] hE O O O .sct G (fun hc=>Ga Hh O O O) ?_ O O O
   refine Gcf (u:=E5 p1.Columns) [(28,Eb p1)] hE O O O .sct ⟨.all id,G⟩ (fun hc=>Ge Ho O O O) ?_ O O O
   refine Gcf (u:=.ptr 1160 0) [] hE O O O .sct G (fun hc=>G14 J0 O O) ?_ O O O
   refine Gcf (u:=I64 y45.G3) [(30,.ptr 1160 0)] hE O O O .sct ⟨.all id,G⟩ (fun hc=>G04 Gb O O O O) ?_ O O O
   obtain⟨y55,hy55,h⟩:=Gd h
   refine Gcf (u:=Ed y55) [(29,E5 p1.Columns),(31,I64 y45.G3)] hE O O O .sct ⟨.all id,.all id,G⟩ (fun hc=>(match Q0 (Gw hc hy55) with | ⟨_,hm_,hy_⟩=>Gv (f:=G3.av) (xs:=p1.Columns) (y:=y55) O O O H6 hy_ hm_)) ?_ O O O
   refine Gcf (u:=.dptr ((G3.cs y55).drop 2)) [(32,Ed y55)] hE O O O .sct ⟨.all id,G⟩ (fun hc=>Ga Ro O O O) ?_ O O O
   refine Gcf (u:=BL y55.Deck) [(33,.dptr ((G3.cs y55).drop 2))] hE O O O .sct ⟨.all id,G⟩ (fun hc=>Ge Qv O O O) ?_ O O O
   refine Gcf (u:=BL (!y55.Deck)) [(34,BL y55.Deck)] hE O O O .sct ⟨.all id,G⟩ (fun hc=>Q3 (b:=y55.Deck) O O) ?_ O O O
   refine J9 (u:=BL ((decide (0≤r53))&&(!y55.Deck))) hE (J4 O O O O) ?_ O O O O
   refine G11 ?_
   refine hK54 _ _ _ (H91 O (fun hb=>?_) (fun hb=>?_))
   ·
    replace h:=Gw hb h
    refine Rk (J9 (u:=.agg (H0.cs p1)) hE (Gg H7 O O O) ?_ O O O O)
    refine J9 (u:=E3 p3) hE (Ge G23 O O O) ?_ O O O O
    refine J9 (u:=E2 p4) hE (Ge Ry O O O) ?_ O O O O
    refine J9 (u:=I64 r53) hE (G4 O O) ?_ O O O O
    obtain⟨r56,hr56,h⟩:=Gd h
    refine J9 (u:=.tup [E1 r56.1,I64 r56.2]) hE (J8e (args:=[.agg (H0.cs p1),E3 p3,E2 p4,E1 ([]:List Int),I64 r53]) O (Q7c F p1 p3 p4 [] r53 r56 hr56) R0c ⟨.inl O,O,.inl O,O,.inl O,O,.inr ⟨_,O,O⟩,O,.inl O,O,G⟩) ?_ O O O O
    refine J9 (u:=.tup [E1 r56.1,I64 r56.2]) hE (G4 O O) ?_ O O O O
    refine J9 (u:=E1 r56.1) hE (H4 O O O) ?_ O O O O
    refine J9 (u:=I64 r56.2) hE (H4 O O O) ?_ O O O O
    refine J9 (u:=E1 r56.1) hE (G6 O O) ?_ O O O O
    refine G11 ?_
    exact ej51 _ _ _ r56.1 h ⟨(.sm O O),⟨⟨_,rfl,.boxL rfl (.sm O O)⟩,G⟩,rfl⟩ rfl
   ·
    replace h:=Hg hb h
    refine Hd2 (ej51 _ _ _ [] h ⟨(.sm O O),⟨⟨_,rfl,.boxL rfl (.sm O O)⟩,G⟩,rfl⟩ rfl)
  ·intro j51 h
   replace h:=app1 hkj51 h
   refine G22 (fun K57 hK57=>Rk (J9 (u:=.agg (H0.cs p1)) hE (Gg H7 O O O) ?_ O O O O))
   refine J9 (u:=E3 p3) hE (Ge G23 O O O) ?_ O O O O
   refine J9 (u:=E2 p4) hE (Ge Ry O O O) ?_ O O O O
   refine J9 (u:=E1 j51) hE (G4 O O) ?_ O O O O
   refine J9 (u:=Ee p2) hE (Ga H96 O O O) ?_ O O O O
   refine J9 (u:=I64 p2.ID) hE (Ge Gb O O O) ?_ O O O O
   refine J9 (u:=.agg (Slot.cs y45)) hE (Q6e Jh O O O O) ?_ O O O O
   refine J9 (u:=.agg [I64 p2.ID,I64 y45.G3,I64 y45.Tier,U8 y45.Half]) hE (Jk (cs:=[I64 p2.ID,I64 y45.G3,I64 y45.Tier,U8 y45.Half]) [(0,1),(1,3)] [I64 0,I64 0,I64 0,U8 0] [E0,E0,E0,.int .u8 0] H39 H01 ⟨.inl O,.inl O,.inl O,.inl O,G⟩ O O) ?_ O O O O
   obtain⟨r58,hr58,h⟩:=Gd h
   refine J9 (u:=.tup [E2 r58.1,I64 r58.2]) hE (Gi O (Qd3 F p1 p3 p4 j51 (Stowed.mk p2.ID y45) r58 hr58) R0b ⟨O,O,O,O,O,O,O,O,O,O,G⟩) ?_ O O O O
   refine J9 (u:=.tup [E2 r58.1,I64 r58.2]) hE (G4 O O) ?_ O O O O
   refine J9 (u:=E2 r58.1) hE (H4 O O O) ?_ O O O O
   refine J9 (u:=I64 r58.2) hE (H4 O O O) ?_ O O O O
   refine J9 (u:=E2 r58.1) hE (G6 O O) ?_ O O O O
   refine J9 (u:=I64 r58.2) hE (G6 O O) ?_ O O O O
   refine G11 ?_
   refine hK57 _ _ _ (G22 (fun K59 hK59=>Rk (J9 (u:=I64 r58.2) hE (G4 O O) ?_ O O O O)))
   refine J9 (u:=BL (decide (r58.2=0))) hE (Ju O O O) ?_ O O O O
   refine J9 (u:=BL (decide (r58.2=0))) hE (G4 O O) ?_ O O O O
   refine Gcf (u:=.sc (.func (.yield E.lp) #[] #[])) [] hE O O O .sct G (fun hc=>G4 O O) ?_ O O O
   refine Gcf (u:=.agg (Slot.cs y45)) [] hE O O O .sct G (fun hc=>Q6e Jh O O O O) ?_ O O O
   refine Gcf (u:=E2 r58.1) [] hE O O O .sct G (fun hc=>G4 O O) ?_ O O O
   obtain⟨ha60,h⟩:=Hp h
   refine R9c (us:=[.agg (Slot.cs y45),E2 r58.1]) hE O O O O .sct [(60,.sc (.func (.yield E.lp) #[] #[])),(61,.agg (Slot.cs y45)),(62,E2 r58.1)] ⟨.all id,.all id,.all id,G⟩ (fun _=>O) (fun _=>⟨O,O,O,O,G⟩) (Y42 (f:=(fun y:Slot×(List Stowed)=>[.agg (Slot.cs y.1),E2 y.2])) (x:=(y45,r58.1)) hys ha60) ?_ O O O
   refine Gcf (u:=BL false) [(63,BL true)] hE O O O .sct ⟨.all id,G⟩ (fun hc=>Q3 (b:=true) O O) ?_ O O O
   refine J9 (u:=BL ((decide (r58.2=0))&&false)) hE (J4 O O O O) ?_ O O O O
   refine G11 ?_
   refine hK59 _ _ _ (H91 O (fun hb=>?_) (fun hb=>?_))
   ·
    replace h:=Gw hb h
    refine Y92 (Qb7 (Hp h).1)
   ·
    replace h:=Hg hb h
    refine Hd2 (hK48 _ _ _ (Rk (J9 (u:=I64 ((i45+1:Nat):Int)) hE (Ht (Hb hk45 hm16) O O O) ?_ O O O O)))
    refine J9 (u:=I64 ((i45+1:Nat):Int)) hE (G4 O O) ?_ O O O O
    refine G11 ?_
    exact e45 _ _ (i45+1) (bif decide (r58.2=0) then s45+1 else s45) _ (app1 hn45 h) (by omega) ⟨(.sm O O),G,rfl⟩ rfl
 ·
  have h:=app1 hkx45 (Hk hi45 (H3 hb))
  refine Jf2 (Qb7 (Hp h).1)
theorem Jae (S_:Nat→(H0)→(Box)→(List Box)→(List Stowed)→Option (List (Slot×(List Stowed)))) (hS_:∀ F p1 p2 p3 p4 r,S_ F p1 p2 p3 p4=some r→Gfb F p1 p2 p3 p4 r=some ()) (F:Nat) (p1:H0) (p2:Box) (p3:List Box) (p4:List Stowed) (r:List (Slot×(List Stowed))) (h:S_ F p1 p2 p3 p4=some r):Iter Ej 104 [.dptr (H0.cs p1),Ee p2,.dptr [E3 p3],.dptr [E2 p4]] (r.map (fun y:Slot×(List Stowed)=>[.agg (Slot.cs y.1),E2 y.2])):=Jad F p1 p2 p3 p4 r () (hS_ F p1 p2 p3 p4 r h)
end
end Go.Proofs.YthcpolfodgjekaaGreat
