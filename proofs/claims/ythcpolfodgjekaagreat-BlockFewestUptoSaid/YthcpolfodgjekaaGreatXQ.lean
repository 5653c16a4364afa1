/-
 Models of functions of the program,and that they return what the models say.
-/
import Derived.Test.YthcpolfodgjekaaGreatXP
set_option maxRecDepth 100000
set_option maxHeartbeats 1000000
set_option linter.unusedVariables false
set_option linter.unusedSimpArgs false
namespace Go.Proofs.YthcpolfodgjekaaGreat
open Go.RowKit
noncomputable section

namespace XQF
open XAF
open XLF
open XCF
open XGF
open XHF
open XPF
theorem Jc2:Hf Ej 110=true:=by kernel_rfl
theorem R0a:Hf Ej 111=true:=by kernel_rfl
theorem Jb8:Hf Ej 155=true:=by kernel_rfl
theorem Heb:Hf Ej 156=true:=by kernel_rfl
theorem R79:Hf Ej 21=true:=by kernel_rfl
theorem R6b:Hf Ej 52=true:=by kernel_rfl
theorem R6a:Hf Ej 53=true:=by kernel_rfl
theorem Rd8:(Ej.info? 3).bind (fun i=>i.zero.map Value.cells)=some (List.toArray [E0]):=by kernel_rfl
end XQF
open XAF
open XLF
open XCF
open XGF
open XHF
open XPF
open XQF

def G30 (F:Nat) (s:H0) (size:Int):Option (List Slot):=
 each (fun y5 i5 (s5:(List Slot)) nx5=>
  need (decide (y5.Tiers≤9223372036854775807)) <|
  upto (fun i10 (s10:(List Slot)) nx10=>
   loop (fun nx27 (s27:(List Slot)×Int)=>
    bif decide (s27.2 < 3) then
    (jp (fun kj30=>
      bnd (Y0 s (Slot.mk (i5:Int) (i10:Int) s27.2) size) fun r33=>
      bif r33 then
      (need (decide ((s27.1.length+[(Slot.mk (i5:Int) (i10:Int) s27.2)].length)*24≤140737488355328∧s27.1.length+[(Slot.mk (i5:Int) (i10:Int) s27.2)].length≤maxLen)) <|
       kj30 (s27.1++[(Slot.mk (i5:Int) (i10:Int) s27.2)]))
      else
      (kj30 s27.1)) fun(j30:(List Slot))=>
     nx27 (j30,IntKind.u8.wrap (s27.2+1)))
    else
    (nx10 s27.1)) F (s10,0))
  (fun(s10:(List Slot))=>
   nx5 s10) y5.Tiers.toNat 0 s5)
 (fun(s5:(List Slot))=>
  some s5) s.Columns 0 []
theorem Hce (F:Nat) (s:H0) (size:Int) (r:(List Slot)) (h:G30 F s size=some r):Pure Ej 52 [.agg (H0.cs s),I64 size] (·=E4 r):=by
 unfold G30 at h
 refine Gy [.tmp 4] Tryz.func52 O O (Jr fun hK1=>(JLh (.ptr 1093 0) (J7 (cs:=(H0.cs s)) 1093 O O O O O) O (JLh (E4 ([]:List Slot)) (H2 3 O O) O (G7 (hK1 (Gr [(1,I64 size),(2,Eb s)] [] 1093 rfl rfl rfl G rfl (by exact⟨.conv (.same rfl),.ptr,G⟩) ?_))))))
 refine Jr fun hK2=>(JLh (OW 1094 3 Slot.av ([]:List Slot)) (G12 1094 71 3 O O O) O (G7 (hK2 (Js fun hK3=>Jr fun hK4=>(JLm (I64 0) O (G7 (hK4 (Gp ?_))))))))
 obtain⟨b5,kx5,hb5,hkx5,h⟩:=Hv h
 refine Hc (fun i5 (s5:(List Slot))=>each b5 kx5 (List.drop i5 s.Columns) i5 s5=some r) (fun i5 s5=>[(1,I64 size),(2,Eb s),(5,OW 1094 3 Slot.av s5),(6,Ei i5)]) (fun i5 s5=>[(1094,.spare 71 3 s5.length s5.length)]) (fun i5=>s.Columns.length - i5) 0 [] h ⟨(.sm O O),⟨⟨_,rfl,.same⟩,G⟩,rfl⟩ ?_
 clear h
 intro i5 s5 hi5 K5 e5
 refine Js fun hK6=>Jr fun hK7=>(JLm (Ei i5) O (JLh (Eb s) (Ga Hh O O O) O (JLh (E5 s.Columns) (Ge Ho O O O) O (JLl H6 O O O fun hm13=>(JLh (BL (decide ((i5:Int) < (s.Columns.length:Int)))) (Hy O O O) O (G7 (hK7 (Gj O (fun hb=>?_) (fun hb=>?_)))))))))
 ·
  have hk5:=J8 hb
  obtain⟨y5,nx5,hy5,hn5,h⟩:=Hj hi5 hk5
  replace h:=R8 hb5 h
  refine Gm (hK6 (Js fun hK8=>Gp (Jr fun hK9=>(JLm (I64 0) O (G7 (hK9 (Gp ?_)))))))
  obtain⟨hx10,h⟩:=Hp h
  obtain⟨b10,kx10,hb10,hkx10,h⟩:=G8a h
  refine Hc (fun i10 (s10:(List Slot))=>upto b10 kx10 (y5.Tiers.toNat - i10) i10 s10=some r) (fun i10 s10=>[(1,I64 size),(2,Eb s),(5,OW 1094 3 Slot.av s10),(6,Ei i5),(7,Ei i10)]) (fun i10 s10=>[(1094,.spare 71 3 s10.length s10.length)]) (fun i10=>y5.Tiers.toNat - i10) 0 s5 h ⟨(.sm O O),⟨⟨_,rfl,.same⟩,G⟩,rfl⟩ ?_
  clear h
  intro i10 s10 hi10 K10 e10
  refine Js fun hK11=>Jr fun hK12=>(JLm (Ei i10) O (JLh (Eb s) (Ga Hh O O O) O (JLh (E5 s.Columns) (Ge Ho O O O) O (JLm (Ei i5) O (JLh (Ed y5) (Gv (f:=G3.av) (xs:=s.Columns) (y:=y5) O O O H6 hy5 O) O (JLh (.dptr ((G3.cs y5).drop 3)) (Ga Zn O O O) O (JLh (I64 y5.Tiers) (Ge Gb O O O) O (JLh (BL (decide ((i10:Int) < y5.Tiers))) (Hy O O O) O (G7 (hK12 (Gj O (fun hb=>?_) (fun hb=>?_))))))))))))
  ·
   have hk10:=G5d hb
   obtain⟨nx10,hn10,h⟩:=G58 hi10 hk10
   replace h:=J02 hb10 h
   refine Gm (hK11 (Js fun hK13=>Gp (Jr fun hK14=>(JLm (U8 0) O (G7 (hK14 (Gp ?_)))))))
   obtain⟨b27,hb27,h⟩:=Jef h
   refine Hc (fun i27 (s27:(List Slot)×Int)=>loop b27 i27 s27=some r) (fun i27 s27=>[(1,I64 size),(2,Eb s),(5,OW 1094 3 Slot.av s27.1),(6,Ei i5),(7,Ei i10),(8,U8 s27.2)]) (fun i27 s27=>[(1094,.spare 71 3 s27.1.length s27.1.length)]) (fun i27=>i27) F (s10,0) h ⟨(.sm O O),⟨⟨_,rfl,.same⟩,G⟩,rfl⟩ ?_
   clear h
   intro i27 s27 hi27 K27 e27
   obtain⟨m27,nx27,hm_27,hn27,h⟩:=J77 hi27
   replace h:=Y5c hb27 h
   refine Js fun hK28=>Jr fun hK29=>(JLm (U8 s27.2) O (JLh (BL (decide (s27.2 < 3))) (Hy O O O) O (G7 (hK29 (JCc O h (fun h hb=>?_) (fun h hb=>?_))))))
   ·
    refine Gm (hK28 ?_)
    obtain⟨kj30,hkj30,h⟩:=G09 h
    refine Yt (fun j30:(List Slot)=>kj30 j30=some r) (fun j30=>[(1,I64 size),(2,Eb s),(5,OW 1094 3 Slot.av j30),(6,Ei i5),(7,Ei i10),(8,U8 s27.2)]) (fun j30=>[(1094,.spare 71 3 j30.length j30.length)]) (fun Kj30 ej30=>?_) ?_
    ·
     refine Gp (Jr fun hK31=>(JLm (Ei i5) O (JLm (Ei i10) O (JLm (U8 s27.2) O (JLh (.agg [Ei i5,Ei i10,U8 s27.2]) (Jk (cs:=[Ei i5,Ei i10,U8 s27.2]) [(0,1),(1,1),(2,1)] [I64 0,I64 0,U8 0] [E0,E0,.int .u8 0] G79 Gd1 ⟨.inl O,.inl O,.inl O,G⟩ O O) O (JLh (.ptr 1095 0) (Jn 1095 3 G15 O O) O (Je (u:=.junk) (J5 (u:=.agg [Ei i5,Ei i10,U8 s27.2]) (ds:=[Ei i5,Ei i10,U8 s27.2]) H50 O O O O O O O O) (G7 (hK31 ?_)))))))))
     refine Gr [(1,I64 size),(2,Eb s),(5,OW 1094 3 Slot.av s27.1),(6,Ei i5),(7,Ei i10),(8,U8 s27.2),(9,.dptr [Ei i5,Ei i10,U8 s27.2])] [(1094,.spare 71 3 s27.1.length s27.1.length)] 1095 rfl rfl rfl ⟨⟨_,rfl,.same⟩,G⟩ rfl (by repeat' (first | exact .ptr | constructor)) ?_
     refine Jr fun hK32=>(JLh (.agg (H0.cs s)) (Gg H7 O O O) O (JLh (.agg [Ei i5,Ei i10,U8 s27.2]) (Gg Jh O O O) O (JLm (I64 size) O ?_)))
     obtain⟨r33,hr33,h⟩:=Gd h
     refine JLh (BL r33) (Gi O (G69 s (Slot.mk (i5:Int) (i10:Int) s27.2) size r33 hr33) J46 ⟨O,O,O,O,O,O,G⟩) O (G7 (hK32 (JCc O h (fun h hb=>?_) (fun h hb=>?_))))
     ·
      refine G2 (JLm (OW 1094 3 Slot.av s27.1) O (JLh (.agg [Ei i5,Ei i10,U8 s27.2]) (Gg Jh O O O) O (JLh (E4 [(Slot.mk (i5:Int) (i10:Int) s27.2)]) (Ha (xs:=[.agg [Ei i5,Ei i10,U8 s27.2]]) O ⟨O,O,G⟩ Ja G15 O O O O) O ?_)))
      obtain⟨ha34,h⟩:=Hp h
      refine JLh (OW 1094 3 Slot.av (s27.1++[(Slot.mk (i5:Int) (i10:Int) s27.2)])) (Q8 (f:=Slot.av) (xs:=s27.1) (ys:=[(Slot.mk (i5:Int) (i10:Int) s27.2)]) O O O O Ja H02 ha34 (fun _=>O) (.inl O) O) O (JLm (OW 1094 3 Slot.av (s27.1++[(Slot.mk (i5:Int) (i10:Int) s27.2)])) O (G7 (ej30 _ _ (s27.1++[(Slot.mk (i5:Int) (i10:Int) s27.2)]) h ⟨(.sm O O),⟨⟨_,rfl,.same⟩,G⟩,rfl⟩)))
     ·
      refine Gm (ej30 _ _ s27.1 h ⟨(.sm O O),⟨⟨_,rfl,.same⟩,G⟩,rfl⟩)
    ·intro j30 h
     replace h:=app1 hkj30 h
     refine G2 (JLm (U8 s27.2) O (JLh (U8 (IntKind.u8.wrap (s27.2+1))) (Ht O O O O) O (JLm (U8 (IntKind.u8.wrap (s27.2+1))) O (G7 (e27 _ _ m27 (j30,IntKind.u8.wrap (s27.2+1)) (app1 hn27 h) (by omega) ⟨(.sm O O),⟨⟨_,rfl,.same⟩,G⟩,rfl⟩)))))
   ·
    refine Hi (hK13 (G2 (JLm (Ei i10) O (JLh (I64 ((i10+1:Nat):Int)) (Ht (Hb hk10 (G36 hx10)) O O O) O (JLm (I64 ((i10+1:Nat):Int)) O (G7 (e10 _ _ (i10+1) s27.1 (app1 hn10 h) (by omega) ⟨(.sm O O),⟨⟨_,rfl,.same⟩,G⟩,rfl⟩)))))))
  ·
   have h:=app1 hkx10 (G59 hi10 (Yi hb))
   refine Hi (hK8 (G2 (JLm (Ei i5) O (JLh (I64 ((i5+1:Nat):Int)) (Ht (Hb hk5 hm13) O O O) O (JLm (I64 ((i5+1:Nat):Int)) O (G7 (e5 _ _ (i5+1) s10 (app1 hn5 h) (by omega) ⟨(.sm O O),⟨⟨_,rfl,.same⟩,G⟩,rfl⟩)))))))
 ·
  have h:=app1 hkx5 (Hk hi5 (H3 hb))
  refine Hi (hK3 (Jr fun hK35=>(JLm (OW 1094 3 Slot.av s5) O (JLm (OW 1094 3 Slot.av s5) O (G7 (hK35 (Gq (fin1l (fun r:(List Slot)=>(E4 r:AV)) h))))))))

def Qr (F:Nat) (s:H0) (boxes:List Box) (l:List Stowed) (open_:List Int):Option Bool:=
 each (fun y25 i25 (s25:Unit) nx25=>
  bnd (bif ((!((decide (y25 < 0))||(decide ((s.Covers.length:Int)≤y25))))&&(decide (0 < (i25:Int)))) then chk ((i25:Int) - 1) some else some 0) fun v30=>
  bnd (bif ((!((decide (y25 < 0))||(decide ((s.Covers.length:Int)≤y25))))&&(decide (0 < (i25:Int)))) then Qm open_ v30 some else some default) fun y31=>
  bif (((decide (y25 < 0))||(decide ((s.Covers.length:Int)≤y25)))||((decide (0 < (i25:Int)))&&(decide (y25≤y31)))) then
  (some false)
  else
  (nx25 ()))
 (fun(s25:Unit)=>
  bnd (Q7 F s boxes l) fun r34=>
  some r34) open_ 0 ()
theorem G9d (F:Nat) (s:H0) (boxes:List Box) (l:List Stowed) (open_:List Int) (r:Bool) (h:Qr F s boxes l open_=some r):Pure Ej 155 [.agg (H0.cs s),E3 boxes,E2 l,E1 open_] (·=BL r):=by
 unfold Qr at h
 refine Gy [.tmp 8] Tryz.func155 O O (Jr fun hK1=>(JLh (.ptr 1204 0) (J7 (cs:=(H0.cs s)) 1204 O O O O O) O (JLm (BL false) O (G7 (hK1 (Gr [(1,E3 boxes),(2,E2 l),(3,E1 open_),(4,Eb s)] [] 1204 rfl rfl rfl G rfl (by repeat' (first | exact .ptr | constructor)) (Js fun hK2=>?_)))))))
 refine Jr fun hK3=>(JLm (I64 0) O (G7 (hK3 (Gp ?_))))
 obtain⟨b25,kx25,hb25,hkx25,h⟩:=Hv h
 refine Hc (fun i25 (s25:Unit)=>each b25 kx25 (List.drop i25 open_) i25 s25=some r) (fun i25 s25=>[(1,E3 boxes),(2,E2 l),(3,E1 open_),(4,Eb s),(9,Ei i25)]) (fun i25 s25=>[]) (fun i25=>open_.length - i25) 0 () h ⟨(.sm O O),G,rfl⟩ ?_
 clear h
 intro i25 s25 hi25 K25 e25
 refine Js fun hK26=>Jr fun hK27=>(JLm (Ei i25) O (JLm (E1 open_) O (JLl Gn O O O fun hm12=>(JLh (BL (decide ((i25:Int) < (open_.length:Int)))) (Hy O O O) O (G7 (hK27 (Gj O (fun hb=>?_) (fun hb=>?_))))))))
 ·
  have hk25:=J8 hb
  obtain⟨y25,nx25,hy25,hn25,h⟩:=Hj hi25 hk25
  replace h:=R8 hb25 h
  refine Gm (hK26 (Js fun hK28=>Gp (Js fun hK29=>?_)))
  obtain⟨v30,hv30,h⟩:=Gd h
  obtain⟨y31,hy31,h⟩:=Gd h
  refine JC_d0 Jb (by kernel_rfl) (Dq (E1 open_) (G4 O O) O (Dq (Ei i25) (G4 O O) O (Dq (.dptr [I64 y25]) (Gv (f:=I64) (xs:=open_) (y:=y25) O O O Gn hy25 O) O (Dq (I64 y25) (Ge Gb O O O) O (Dq (BL (decide (y25 < 0))) (Hy O O O) O (Dq (BL (decide (y25 < 0))) (G4 O O) O (Do (E1 open_) [] O .scf G (fun hc=>G4 O O) O (Do (Ei i25) [] O .scf G (fun hc=>G4 O O) O (Do (.dptr [I64 y25]) [22,23] O .scf ⟨Ua,Ua,G⟩ (fun hc=>Gv (f:=I64) (xs:=open_) (y:=y25) O O O Gn hy25 O) O (Do (I64 y25) [24] O .scf ⟨Ua,G⟩ (fun hc=>Ge Gb O O O) O (Do (.dptr [E6 s.Covers,I64 s.Light.Kilos,I64 s.Light.X,I64 s.Light.Y,I64 s.Light.Z,E8 s.Rows,E7 s.Frames,E9 s.Tanks,I64 s.G1.Tolerance,I64 s.G1.Trim,I64 s.G1.List_,I64 s.G1.Stability]) [] O .scf G (fun hc=>Ga Jg O O O) O (Do (E6 s.Covers) [26] O .scf ⟨Ua,G⟩ (fun hc=>Ge Jv O O O) O (Do (Ei s.Covers.length) [27] O .scf ⟨Ua,G⟩ (fun hc=>Qs (f:=G8.av) (xs:=s.Covers) Hq O O) O ?_)))))))))))))
  refine Do (BL (decide ((s.Covers.length:Int)≤y25))) [25,28] O .scf ⟨Ua,Ua,G⟩ (fun hc=>G13 O O O) O (Dq (BL ((decide (y25 < 0))||(decide ((s.Covers.length:Int)≤y25)))) (Rs O O O O) O (Dq (BL ((decide (y25 < 0))||(decide ((s.Covers.length:Int)≤y25)))) (G4 O O) O (Do (Ei i25) [] O .scf G (fun hc=>G4 O O) O (Do (BL (decide (0 < (i25:Int)))) [32] O .scf ⟨Ua,G⟩ (fun hc=>G41 O O O) O (Do (BL (decide (0 < (i25:Int)))) [33] O .scf ⟨Ua,G⟩ (fun hc=>G4 O O) O (Do (E1 open_) [] O .optt G (fun hc=>G4 O O) O (Do (Ei i25) [] O .optt G (fun hc=>G4 O O) O (Do (I64 v30) [36] O .optt ⟨Ua,G⟩ (fun hc=>Ge4 (G2d (Gw hc hv30)) O O O) O (Do (.dptr [I64 y31]) [35,37] O .optt ⟨Ua,Ua,G⟩ (fun hc=>(match Q0 (Gw hc hy31) with | ⟨_,hm_,hy_⟩=>Gv (f:=I64) (xs:=open_) (y:=y31) O O O Gn hy_ hm_)) O (Do (I64 y31) [38] O .optt ⟨Ua,G⟩ (fun hc=>Ge Gb O O O) O (Do (E1 open_) [] O .optt G (fun hc=>G4 O O) O (Do (Ei i25) [] O .optt G (fun hc=>G4 O O) O (Do (.dptr [I64 y25]) [40,41] O .optt ⟨Ua,Ua,G⟩ (fun hc=>Gv (f:=I64) (xs:=open_) (y:=y25) O O O Gn hy25 O) O ?_)))))))))))))
  refine Do (I64 y25) [42] O .optt ⟨Ua,G⟩ (fun hc=>Ge Gb O O O) O (Do (BL (decide (y25≤y31))) [39,43] O .optt ⟨Ua,Ua,G⟩ (fun hc=>G13 O O O) O (Dg (.opt (!((decide (y25 < 0))||(decide ((s.Covers.length:Int)≤y25)))) (BL ((decide (0 < (i25:Int)))&&(decide (y25≤y31))))) (Gh [(34,BL (decide (0 < (i25:Int)))),(44,_)] O O O .scf ⟨.all id,.part,G⟩ (fun hc=>J4 O O O O) O) O (Dq (BL (((decide (y25 < 0))||(decide ((s.Covers.length:Int)≤y25)))||((decide (0 < (i25:Int)))&&(decide (y25≤y31))))) (Rs O O O O) O (Dnil (hK29 (JCc O h (fun h hb=>?_) (fun h hb=>?_)))))))
  ·
   refine Jr fun hK32=>(JLm (BL false) O (G7 (hK32 (Gq (fin1 BL h)))))
  ·
   refine Gm (hK28 (G2 (JLm (Ei i25) O (JLh (I64 ((i25+1:Nat):Int)) (Ht (Hb hk25 hm12) O O O) O (JLm (I64 ((i25+1:Nat):Int)) O (G7 (e25 _ _ (i25+1) () (app1 hn25 h) (by omega) ⟨(.sm O O),G,rfl⟩)))))))
 ·
  have h:=app1 hkx25 (Hk hi25 (H3 hb))
  refine Hi (hK2 (Jr fun hK33=>(JLh (.agg (H0.cs s)) (Gg H7 O O O) O (JLm (E3 boxes) O (JLm (E2 l) O ?_)))))
  obtain⟨r34,hr34,h⟩:=Gd h
  refine JLh (BL r34) (Gi O (Y7 F s boxes l r34 hr34) H04 ⟨O,O,O,O,O,O,G⟩) O (JLm (BL r34) O (G7 (hK33 (Gq (fin1 BL h)))))

def Qa (open_:List Int) (cover:Int):Option Bool:=
 each (fun y17 i17 (s17:Unit) nx17=>
  bif decide (y17=cover) then
  (some true)
  else
  (nx17 ()))
 (fun(s17:Unit)=>
  some false) open_ 0 ()
theorem G52 (open_:List Int) (cover:Int) (r:Bool) (h:Qa open_ cover=some r):Pure Ej 156 [E1 open_,I64 cover] (·=BL r):=by
 unfold Qa at h
 refine Gy [.tmp 4] Tryz.func156 O O (Jr fun hK1=>(JLm (BL false) O (G7 (hK1 (Js fun hK2=>Jr fun hK3=>(JLm (I64 0) O (G7 (hK3 (Gp ?_)))))))))
 obtain⟨b17,kx17,hb17,hkx17,h⟩:=Hv h
 refine Hc (fun i17 (s17:Unit)=>each b17 kx17 (List.drop i17 open_) i17 s17=some r) (fun i17 s17=>[(0,E1 open_),(1,I64 cover),(5,Ei i17)]) (fun i17 s17=>[]) (fun i17=>open_.length - i17) 0 () h ⟨(.sm O O),G,O⟩ ?_
 clear h
 intro i17 s17 hi17 K17 e17
 refine Js fun hK18=>Jr fun hK19=>(JLm (Ei i17) O (JLm (E1 open_) O (JLl Gn O O O fun hm8=>(JLh (BL (decide ((i17:Int) < (open_.length:Int)))) (Hy O O O) O (G7 (hK19 (Gj O (fun hb=>?_) (fun hb=>?_))))))))
 ·
  have hk17:=J8 hb
  obtain⟨y17,nx17,hy17,hn17,h⟩:=Hj hi17 hk17
  replace h:=R8 hb17 h
  refine Gm (hK18 (Js fun hK20=>Gp (Jr fun hK21=>(JLm (E1 open_) O (JLm (Ei i17) O (JLh (.dptr [I64 y17]) (Gv (f:=I64) (xs:=open_) (y:=y17) O O O Gn hy17 O) O (JLh (I64 y17) (Ge Gb O O O) O (JLm (I64 cover) O (JLh (BL (decide (y17=cover))) (Ju O O O) O (G7 (hK21 (JCc O h (fun h hb=>?_) (fun h hb=>?_)))))))))))))
  ·
   refine Jr fun hK22=>(JLm (BL true) O (G7 (hK22 (Gq (fin1 BL h)))))
  ·
   refine Gm (hK20 (G2 (JLm (Ei i17) O (JLh (I64 ((i17+1:Nat):Int)) (Ht (Hb hk17 hm8) O O O) O (JLm (I64 ((i17+1:Nat):Int)) O (G7 (e17 _ _ (i17+1) () (app1 hn17 h) (by omega) ⟨(.sm O O),G,rfl⟩)))))))
 ·
  have h:=app1 hkx17 (Hk hi17 (H3 hb))
  refine Hi (hK2 (Jr fun hK23=>(JLm (BL false) O (G7 (hK23 (Gq (fin1 BL h)))))))

def Yu (F:Nat) (s:H0) (boxes:List Box) (l:List Stowed) (open_:List Int) (x:Stowed):Option ((List Stowed)×Int):=
 bnd (Qr F s boxes l open_) fun r4=>
 bif (!r4) then
 (some ([],2))
 else
 (bnd (Qt boxes x.Box) fun r7=>
  bif ((!r7.2)||((decide (r7.1.Size≠20))&&(decide (r7.1.Size≠40)))) then
  (some ([],6))
  else
  (bnd (Ra l x.Box) fun r13=>
   bif decide (0≤r13) then
   (some ([],96))
   else
   (chk (r7.1.Size) fun v17=>
    bnd (Y0 s x.Slot v17) fun r18=>
    bif (!r18) then
    (some ([],97))
    else
    (bnd (Q5 s x.Slot.G3) fun r21=>
     bnd (bif decide (0≤r21) then Qm s.Columns x.Slot.G3 some else some default) fun y24=>
     bnd (bif ((decide (0≤r21))&&y24.Deck) then Qa open_ r21 else some default) fun r25=>
     bnd (bif ((!(((decide (0≤r21))&&y24.Deck)&&r25))&&(decide (0≤r21))) then Qm s.Columns x.Slot.G3 some else some default) fun y26=>
     bnd (bif ((!(((decide (0≤r21))&&y24.Deck)&&r25))&&((decide (0≤r21))&&(!y26.Deck))) then Qa open_ r21 else some default) fun r27=>
     bif ((((decide (0≤r21))&&y24.Deck)&&r25)||(((decide (0≤r21))&&(!y26.Deck))&&(!r27))) then
     (some ([],91))
     else
     (each (fun y46 i46 (s46:Unit) nx46=>
       bnd (Zi y46.Slot x.Slot) fun r51=>
       bif r51 then
       (some ([],92))
       else
       (nx46 ()))
      (fun(s46:Unit)=>
       bnd (Z3 l) fun r55=>
       bnd (Zj x.Slot r55) fun r56=>
       bif (!r56) then
       (some ([],93))
       else
       (each (fun y91 i91 (s91:(List Stowed)×Bool) nx91=>
         jp (fun kj95=>
          bif ((!s91.2)&&(decide (x.Box < y91.Box))) then
          (need (decide ((s91.1.length+[x].length)*32≤140737488355328∧s91.1.length+[x].length≤maxLen)) <|
           kj95 ((s91.1++[x]),true))
          else
          (kj95 (s91.1,s91.2))) fun(j95:(List Stowed)×Bool)=>
         need (decide ((j95.1.length+[y91].length)*32≤140737488355328∧j95.1.length+[y91].length≤maxLen)) <|
         nx91 ((j95.1++[y91]),j95.2))
        (fun(s91:(List Stowed)×Bool)=>
         jp (fun kj100=>
          bif (!s91.2) then
          (need (decide ((s91.1.length+[x].length)*32≤140737488355328∧s91.1.length+[x].length≤maxLen)) <|
           kj100 (s91.1++[x]))
          else
          (kj100 s91.1)) fun(j100:(List Stowed))=>
         bnd (Yf s boxes j100 x.Slot.G3) fun r105=>
         bif r105 then
         (some ([],94))
         else
         (some (j100,0))) l 0 ([],false))) l 0 ())))))
theorem Gf4 (F:Nat) (s:H0) (boxes:List Box) (l:List Stowed) (open_:List Int) (x:Stowed) (r:(List Stowed)×Int) (h:Yu F s boxes l open_ x=some r):Pure Ej 110 [.agg (H0.cs s),E3 boxes,E2 l,E1 open_,.agg (Stowed.cs x)] (·=.tup [E2 r.1,I64 r.2]):=by
 unfold Yu at h
 refine Gy [.tmp 10,.tmp 11] Tryz.func110 O O (Jr fun hK1=>(JLh (.ptr 1173 0) (J7 (cs:=(H0.cs s)) 1173 O O O O O) O (JLh (.ptr 1174 0) (J7 (cs:=[I64 x.Box,I64 x.Slot.G3,I64 x.Slot.Tier,U8 x.Slot.Half]) 1174 O O O O O) O (JLh (E2 ([]:List Stowed)) (H2 4 O O) O (JLm (I64 0) O (G7 (hK1 ?_)))))))
 refine Gr [(1,E3 boxes),(2,E2 l),(3,E1 open_),(5,Eb s),(9,.ptr 1174 0)] [(1174,.box 73 [I64 x.Box,I64 x.Slot.G3,I64 x.Slot.Tier,U8 x.Slot.Half])] 1173 rfl rfl rfl ⟨⟨_,rfl,.boxEq rfl rfl⟩,G⟩ rfl (by repeat' (first | exact .ptr | constructor)) ?_
 refine Gr [(1,E3 boxes),(2,E2 l),(3,E1 open_),(5,Eb s),(9,Ec x)] [] 1174 rfl rfl rfl G rfl (by repeat' (first | exact .ptr | constructor)) (Js fun hK2=>?_)
 refine Jr fun hK3=>(JLh (.agg (H0.cs s)) (Gg H7 O O O) O (JLm (E3 boxes) O (JLm (E2 l) O (JLm (E1 open_) O ?_))))
 obtain⟨r4,hr4,h⟩:=Gd h
 refine JLh (BL r4) (Gi O (G9d F s boxes l open_ r4 hr4) Jb8 ⟨O,O,O,O,O,O,O,O,G⟩) O (JLh (BL (!r4)) (Q3 (b:=r4) O O) O (G7 (hK3 (JCc O h (fun h hb=>?_) (fun h hb=>?_)))))
 ·
  refine Jr fun hK5=>(JLh (E2 ([]:List Stowed)) (H2 4 O O) O (JLm (I64 2) O (G7 (hK5 (Gq (⟨[E2 ([]:List Stowed),I64 2],[],G,O,⟨⟨_,O,.conv (.same O)⟩,⟨_,O,.conv (.same O)⟩,G⟩,O,congrArg (fun r:(List Stowed)×Int=>(.tup [E2 r.1,I64 r.2]:AV)) (Kj h)⟩))))))
 ·
  refine Gm (hK2 (Jr fun hK6=>(JLm (E3 boxes) O (JLh (Ec x) (Ga Hu O O O) O (JLh (I64 x.Box) (Ge Gb O O O) O ?_)))))
  obtain⟨r7,hr7,h⟩:=Gd h
  refine JLh (.tup [.agg (Box.cs r7.1),BL r7.2]) (Gi O (Zw boxes x.Box r7 hr7) H53 ⟨O,O,O,O,G⟩) O (JLm (.tup [.agg (Box.cs r7.1),BL r7.2]) O (JLh (.agg (Box.cs r7.1)) (H4 O O O) O (JLh (BL r7.2) (H4 O O O) O (JLh (.ptr 1175 0) (Jn 1175 9 G16 O O) O (Je (u:=.junk) (J5 (u:=.agg (Box.cs r7.1)) (ds:=(Box.cs r7.1)) Zs O O O O O O O O) (JLm (BL r7.2) O (G7 (hK6 ?_))))))))
  refine Gr [(1,E3 boxes),(2,E2 l),(3,E1 open_),(5,Eb s),(9,Ec x),(12,Ee r7.1),(13,BL r7.2)] [] 1175 rfl rfl rfl G rfl (by repeat' (first | exact .ptr | constructor)) (Js fun hK8=>?_)
  refine Jr fun hK9=>(JLm (BL r7.2) O (JLh (BL (!r7.2)) (Q3 (b:=r7.2) O O) O (JLm (BL (!r7.2)) O (JLo (.dptr ((Box.cs r7.1).drop 2)) [] O .scf G (fun hc=>Ga Rm O O O) O (JLo (U8 r7.1.Size) [35] O .scf ⟨Ua,G⟩ (fun hc=>Ge J6 O O O) O (JLo (BL (decide (r7.1.Size≠20))) [36] O .scf ⟨Ua,G⟩ (fun hc=>G1d O O O) O (JLo (BL (decide (r7.1.Size≠20))) [37] O .scf ⟨Ua,G⟩ (fun hc=>G4 O O) O (JLo (.dptr ((Box.cs r7.1).drop 2)) [] O .optt G (fun hc=>Ga Rm O O O) O (JLo (U8 r7.1.Size) [39] O .optt ⟨Ua,G⟩ (fun hc=>Ge J6 O O O) O (JLo (BL (decide (r7.1.Size≠40))) [40] O .optt ⟨Ua,G⟩ (fun hc=>G1d O O O) O (G9 (u:=BL ((decide (r7.1.Size≠20))&&(decide (r7.1.Size≠40)))) [(38,BL (decide (r7.1.Size≠20))),(41,_)] O O O .scf ⟨.all id,.part,G⟩ (fun hc=>J4 O O O O) ?_)))))))))))
  refine JLh (BL ((!r7.2)||((decide (r7.1.Size≠20))&&(decide (r7.1.Size≠40))))) (Rs O O O O) O (G7 (hK9 (JCc O h (fun h hb=>?_) (fun h hb=>?_))))
  ·
   refine Jr fun hK10=>(JLh (E2 ([]:List Stowed)) (H2 4 O O) O (JLm (I64 6) O (G7 (hK10 (Gq (⟨[E2 ([]:List Stowed),I64 6],[],G,O,⟨⟨_,O,.conv (.same O)⟩,⟨_,O,.conv (.same O)⟩,G⟩,O,congrArg (fun r:(List Stowed)×Int=>(.tup [E2 r.1,I64 r.2]:AV)) (Kj h)⟩))))))
  ·
   refine Gm (hK8 (Js fun hK11=>Jr fun hK12=>(JLm (E2 l) O (JLh (Ec x) (Ga Hu O O O) O (JLh (I64 x.Box) (Ge Gb O O O) O ?_)))))
   obtain⟨r13,hr13,h⟩:=Gd h
   refine JLh (I64 r13) (Gi O (G1a l x.Box r13 hr13) H55 ⟨O,O,O,O,G⟩) O (JLh (BL (decide (0≤r13))) (G13 O O O) O (G7 (hK12 (JCc O h (fun h hb=>?_) (fun h hb=>?_)))))
   ·
    refine Jr fun hK14=>(JLh (E2 ([]:List Stowed)) (H2 4 O O) O (JLm (I64 96) O (G7 (hK14 (Gq (⟨[E2 ([]:List Stowed),I64 96],[],G,O,⟨⟨_,O,.conv (.same O)⟩,⟨_,O,.conv (.same O)⟩,G⟩,O,congrArg (fun r:(List Stowed)×Int=>(.tup [E2 r.1,I64 r.2]:AV)) (Kj h)⟩))))))
   ·
    refine Gm (hK11 (Js fun hK15=>Jr fun hK16=>(JLh (.agg (H0.cs s)) (Gg H7 O O O) O (JLh (.dptr ((Stowed.cs x).drop 1)) (Ga Hs O O O) O (JLh (.agg ((Stowed.cs x).drop 1)) (Gg Jh O O O) O (JLh (.dptr ((Box.cs r7.1).drop 2)) (Ga Rm O O O) O (JLh (U8 r7.1.Size) (Ge J6 O O O) O ?_)))))))
    obtain⟨v17,hv17,h⟩:=Qk h
    refine JLh (I64 v17) (Q70 He1 Jf9 hv17 O O) O ?_
    obtain⟨r18,hr18,h⟩:=Gd h
    refine JLh (BL r18) (Gi O (G69 s x.Slot v17 r18 hr18) J46 ⟨O,O,O,O,O,O,G⟩) O (JLh (BL (!r18)) (Q3 (b:=r18) O O) O (G7 (hK16 (JCc O h (fun h hb=>?_) (fun h hb=>?_)))))
    ·
     refine Jr fun hK19=>(JLh (E2 ([]:List Stowed)) (H2 4 O O) O (JLm (I64 97) O (G7 (hK19 (Gq (⟨[E2 ([]:List Stowed),I64 97],[],G,O,⟨⟨_,O,.conv (.same O)⟩,⟨_,O,.conv (.same O)⟩,G⟩,O,congrArg (fun r:(List Stowed)×Int=>(.tup [E2 r.1,I64 r.2]:AV)) (Kj h)⟩))))))
    ·
     refine Gm (hK15 (Jr fun hK20=>(JLh (.agg (H0.cs s)) (Gg H7 O O O) O (JLh (.dptr ((Stowed.cs x).drop 1)) (Ga Hs O O O) O (JLh (.dptr ((Stowed.cs x).drop 1)) (Ga J0 O O O) O (JLh (I64 x.Slot.G3) (Ge Gb O O O) O ?_))))))
     obtain⟨r21,hr21,h⟩:=Gd h
     refine JLh (I64 r21) (Gi O (G0d s x.Slot.G3 r21 hr21) H85 ⟨O,O,O,O,G⟩) O (JLm (I64 r21) O (G7 (hK20 (Js fun hK22=>?_))))
     refine Jr fun hK23=>(JLm (I64 r21) O (JLh (BL (decide (0≤r21))) (G13 O O O) O (JLm (BL (decide (0≤r21))) O (JLo (Eb s) [] O .sct G (fun hc=>Ga Hh O O O) O (JLo (E5 s.Columns) [65] O .sct ⟨Ua,G⟩ (fun hc=>Ge Ho O O O) O (JLo (.dptr ((Stowed.cs x).drop 1)) [] O .sct G (fun hc=>Ga Hs O O O) O (JLo (.dptr ((Stowed.cs x).drop 1)) [67] O .sct ⟨Ua,G⟩ (fun hc=>Ga J0 O O O) O (JLo (I64 x.Slot.G3) [68] O .sct ⟨Ua,G⟩ (fun hc=>Ge Gb O O O) O ?_))))))))
     obtain⟨y24,hy24,h⟩:=Gd h
     refine JLo (Ed y24) [66,69] O .sct ⟨Ua,Ua,G⟩ (fun hc=>(match Q0 (Gw hc hy24) with | ⟨_,hm_,hy_⟩=>Gv (f:=G3.av) (xs:=s.Columns) (y:=y24) O O O H6 hy_ hm_)) O (JLo (.dptr ((G3.cs y24).drop 2)) [70] O .sct ⟨Ua,G⟩ (fun hc=>Ga Ro O O O) O (JLo (BL y24.Deck) [71] O .sct ⟨Ua,G⟩ (fun hc=>Ge Qv O O O) O (JLh (BL ((decide (0≤r21))&&y24.Deck)) (J4 O O O O) O (JLm (BL ((decide (0≤r21))&&y24.Deck)) O (JLo (E1 open_) [] O .sct G (fun hc=>G4 O O) O (JLo (I64 r21) [] O .sct G (fun hc=>G4 O O) O ?_))))))
     obtain⟨r25,hr25,h⟩:=Gd h
     refine JLo (BL r25) [75,76] O .sct ⟨Ua,Ua,G⟩ (fun hc=>Gi (args:=[E1 open_,I64 r21]) O (G52 open_ r21 r25 (Gw hc hr25)) Heb ⟨O,O,O,O,G⟩) O (JLh (BL (((decide (0≤r21))&&y24.Deck)&&r25)) (J4 O O O O) O (JLm (BL (((decide (0≤r21))&&y24.Deck)&&r25)) O (JLo (I64 r21) [] O .scf G (fun hc=>G4 O O) O (JLo (BL (decide (0≤r21))) [80] O .scf ⟨Ua,G⟩ (fun hc=>G13 O O O) O (JLo (BL (decide (0≤r21))) [81] O .scf ⟨Ua,G⟩ (fun hc=>G4 O O) O (JLo (Eb s) [] O .optt G (fun hc=>Ga Hh O O O) O (JLo (E5 s.Columns) [83] O .optt ⟨Ua,G⟩ (fun hc=>Ge Ho O O O) O (JLo (.dptr ((Stowed.cs x).drop 1)) [] O .optt G (fun hc=>Ga Hs O O O) O (JLo (.dptr ((Stowed.cs x).drop 1)) [85] O .optt ⟨Ua,G⟩ (fun hc=>Ga J0 O O O) O (JLo (I64 x.Slot.G3) [86] O .optt ⟨Ua,G⟩ (fun hc=>Ge Gb O O O) O ?_))))))))))
     obtain⟨y26,hy26,h⟩:=Gd h
     refine JLo (Ed y26) [84,87] O .optt ⟨Ua,Ua,G⟩ (fun hc=>(match Q0 (Gw hc hy26) with | ⟨_,hm_,hy_⟩=>Gv (f:=G3.av) (xs:=s.Columns) (y:=y26) O O O H6 hy_ hm_)) O (JLo (.dptr ((G3.cs y26).drop 2)) [88] O .optt ⟨Ua,G⟩ (fun hc=>Ga Ro O O O) O (JLo (BL y26.Deck) [89] O .optt ⟨Ua,G⟩ (fun hc=>Ge Qv O O O) O (JLo (BL (!y26.Deck)) [90] O .optt ⟨Ua,G⟩ (fun hc=>Q3 (b:=y26.Deck) O O) O (G9 (u:=BL ((decide (0≤r21))&&(!y26.Deck))) [(82,BL (decide (0≤r21))),(91,_)] O O O .scf ⟨.all id,.part,G⟩ (fun hc=>J4 O O O O) ?_))))
     refine JLo (BL ((decide (0≤r21))&&(!y26.Deck))) [92] O .scf ⟨Ua,G⟩ (fun hc=>G4 O O) O (JLo (E1 open_) [] O .optt G (fun hc=>G4 O O) O (JLo (I64 r21) [] O .optt G (fun hc=>G4 O O) O ?_))
     obtain⟨r27,hr27,h⟩:=Gd h
     refine JLo (BL r27) [94,95] O .optt ⟨Ua,Ua,G⟩ (fun hc=>Gi (args:=[E1 open_,I64 r21]) O (G52 open_ r21 r27 (Gw hc hr27)) Heb ⟨O,O,O,O,G⟩) O (JLo (BL (!r27)) [96] O .optt ⟨Ua,G⟩ (fun hc=>Q3 (b:=r27) O O) O (G9 (u:=BL (((decide (0≤r21))&&(!y26.Deck))&&(!r27))) [(93,BL ((decide (0≤r21))&&(!y26.Deck))),(97,_)] O O O .scf ⟨.all id,.part,G⟩ (fun hc=>J4 O O O O) ?_))
     refine JLh (BL ((((decide (0≤r21))&&y24.Deck)&&r25)||(((decide (0≤r21))&&(!y26.Deck))&&(!r27)))) (Rs O O O O) O (G7 (hK23 (JCc O h (fun h hb=>?_) (fun h hb=>?_))))
     ·
      refine Jr fun hK28=>(JLh (E2 ([]:List Stowed)) (H2 4 O O) O (JLm (I64 91) O (G7 (hK28 (Gq (⟨[E2 ([]:List Stowed),I64 91],[],G,O,⟨⟨_,O,.conv (.same O)⟩,⟨_,O,.conv (.same O)⟩,G⟩,O,congrArg (fun r:(List Stowed)×Int=>(.tup [E2 r.1,I64 r.2]:AV)) (Kj h)⟩))))))
     ·
      refine Gm (hK22 (Js fun hK29=>Jr fun hK30=>(JLm (I64 0) O (G7 (hK30 (Gp ?_))))))
      obtain⟨b46,kx46,hb46,hkx46,h⟩:=Hv h
      refine Hc (fun i46 (s46:Unit)=>each b46 kx46 (List.drop i46 l) i46 s46=some r) (fun i46 s46=>[(1,E3 boxes),(2,E2 l),(5,Eb s),(9,Ec x),(15,Ei i46)]) (fun i46 s46=>[]) (fun i46=>l.length - i46) 0 () h ⟨(.sm O O),G,rfl⟩ ?_
      clear h
      intro i46 s46 hi46 K46 e46
      refine Js fun hK47=>Jr fun hK48=>(JLm (Ei i46) O (JLm (E2 l) O (JLl Gx O O O fun hm102=>(JLh (BL (decide ((i46:Int) < (l.length:Int)))) (Hy O O O) O (G7 (hK48 (Gj O (fun hb=>?_) (fun hb=>?_))))))))
      ·
       have hk46:=J8 hb
       obtain⟨y46,nx46,hy46,hn46,h⟩:=Hj hi46 hk46
       replace h:=R8 hb46 h
       refine Gm (hK47 (Js fun hK49=>Gp (Js fun hK50=>?_)))
       obtain⟨r51,hr51,h⟩:=Gd h
       refine JC_d0 Jb (by kernel_rfl) (Dq (E2 l) (G4 O O) O (Dq (Ei i46) (G4 O O) O (Dq (Ec y46) (Gv (f:=Stowed.av) (xs:=l) (y:=y46) O O O Gx hy46 O) O (Dq (.dptr ((Stowed.cs y46).drop 1)) (Ga Hs O O O) O (Dq (.agg ((Stowed.cs y46).drop 1)) (Gg Jh O O O) O (Dq (.dptr ((Stowed.cs x).drop 1)) (Ga Hs O O O) O (Dq (.agg ((Stowed.cs x).drop 1)) (Gg Jh O O O) O (Dq (BL r51) (Gi (args:=[.agg ((Stowed.cs y46).drop 1),.agg ((Stowed.cs x).drop 1)]) O (Gdc y46.Slot x.Slot r51 hr51) Q02 ⟨O,O,O,O,G⟩) O (Dnil (hK50 (JCc O h (fun h hb=>?_) (fun h hb=>?_))))))))))))
       ·
        refine Jr fun hK52=>(JLh (E2 ([]:List Stowed)) (H2 4 O O) O (JLm (I64 92) O (G7 (hK52 (Gq (⟨[E2 ([]:List Stowed),I64 92],[],G,O,⟨⟨_,O,.conv (.same O)⟩,⟨_,O,.conv (.same O)⟩,G⟩,O,congrArg (fun r:(List Stowed)×Int=>(.tup [E2 r.1,I64 r.2]:AV)) (Kj h)⟩))))))
       ·
        refine Gm (hK49 (G2 (JLm (Ei i46) O (JLh (I64 ((i46+1:Nat):Int)) (Ht (Hb hk46 hm102) O O O) O (JLm (I64 ((i46+1:Nat):Int)) O (G7 (e46 _ _ (i46+1) () (app1 hn46 h) (by omega) ⟨(.sm O O),G,rfl⟩)))))))
      ·
       have h:=app1 hkx46 (Hk hi46 (H3 hb))
       refine Hi (hK29 (Js fun hK53=>Js fun hK54=>?_))
       obtain⟨r55,hr55,h⟩:=Gd h
       obtain⟨r56,hr56,h⟩:=Gd h
       refine JC_d0 Jb (by kernel_rfl) (Dq (.dptr ((Stowed.cs x).drop 1)) (Ga Hs O O O) O (Dq (.agg ((Stowed.cs x).drop 1)) (Gg Jh O O O) O (Dq (E2 l) (G4 O O) O (Dq (E4 r55) (Gi (args:=[E2 l]) O (Gc3 l r55 hr55) Q03 ⟨O,O,G⟩) O (Dq (BL r56) (Gi (args:=[.agg ((Stowed.cs x).drop 1),E4 r55]) O (Gdd x.Slot r55 r56 hr56) Q04 ⟨O,O,O,O,G⟩) O (Dq (BL (!r56)) (Q3 (b:=r56) O O) O (Dnil (hK54 (JCc O h (fun h hb=>?_) (fun h hb=>?_))))))))))
       ·
        refine Jr fun hK57=>(JLh (E2 ([]:List Stowed)) (H2 4 O O) O (JLm (I64 93) O (G7 (hK57 (Gq (⟨[E2 ([]:List Stowed),I64 93],[],G,O,⟨⟨_,O,.conv (.same O)⟩,⟨_,O,.conv (.same O)⟩,G⟩,O,congrArg (fun r:(List Stowed)×Int=>(.tup [E2 r.1,I64 r.2]:AV)) (Kj h)⟩))))))
       ·
        refine Gm (hK53 (Jr fun hK58=>(JLh (OW 1176 4 Stowed.av ([]:List Stowed)) (G12 1176 73 4 O O O) O (G7 (hK58 (Jr fun hK59=>(JLm (BL false) O (G7 (hK59 (Js fun hK60=>Jr fun hK61=>(JLm (I64 0) O (G7 (hK61 (Gp ?_))))))))))))))
        obtain⟨b91,kx91,hb91,hkx91,h⟩:=Hv h
        refine Hc (fun i91 (s91:(List Stowed)×Bool)=>each b91 kx91 (List.drop i91 l) i91 s91=some r) (fun i91 s91=>[(1,E3 boxes),(2,E2 l),(5,Eb s),(9,Ec x),(16,OW 1176 4 Stowed.av s91.1),(17,BL s91.2),(18,Ei i91)]) (fun i91 s91=>[(1176,.spare 73 4 s91.1.length s91.1.length)]) (fun i91=>l.length - i91) 0 ([],false) h ⟨(.sm O O),⟨⟨_,rfl,.same⟩,G⟩,rfl⟩ ?_
        clear h
        intro i91 s91 hi91 K91 e91
        refine Js fun hK92=>Jr fun hK93=>(JLm (Ei i91) O (JLm (E2 l) O (JLl Gx O O O fun hm122=>(JLh (BL (decide ((i91:Int) < (l.length:Int)))) (Hy O O O) O (G7 (hK93 (Gj O (fun hb=>?_) (fun hb=>?_))))))))
        ·
         have hk91:=J8 hb
         obtain⟨y91,nx91,hy91,hn91,h⟩:=Hj hi91 hk91
         replace h:=R8 hb91 h
         refine Gm (hK92 (Js fun hK94=>Gp ?_))
         obtain⟨kj95,hkj95,h⟩:=G09 h
         refine Yt (fun j95:(List Stowed)×Bool=>kj95 j95=some r) (fun j95=>[(1,E3 boxes),(2,E2 l),(5,Eb s),(9,Ec x),(16,OW 1176 4 Stowed.av j95.1),(17,BL j95.2),(18,Ei i91)]) (fun j95=>[(1176,.spare 73 4 j95.1.length j95.1.length)]) (fun Kj95 ej95=>?_) ?_
         ·
          refine Js fun hK96=>G29 (l':=[(1,E3 boxes),(2,E2 l),(5,Eb s),(9,Ec x),(16,OW 1176 4 Stowed.av s91.1),(17,BL s91.2),(18,Ei i91)]) (L':=[(1176,.spare 73 4 s91.1.length s91.1.length)]) ⟨(.sm O O),⟨⟨_,rfl,.same⟩,G⟩,rfl⟩ ?_
          refine JC_d0 Jb (by kernel_rfl) (Dq (BL s91.2) (G4 O O) O (Dq (BL (!s91.2)) (Q3 (b:=s91.2) O O) O (Dq (BL (!s91.2)) (G4 O O) O (Do (E2 l) [] O .sct G (fun hc=>G4 O O) O (Do (Ei i91) [] O .sct G (fun hc=>G4 O O) O (Do (Ec y91) [129,130] O .sct ⟨Ua,Ua,G⟩ (fun hc=>Gv (f:=Stowed.av) (xs:=l) (y:=y91) O O O Gx hy91 O) O (Do (Ec y91) [131] O .sct ⟨Ua,G⟩ (fun hc=>Ga Hu O O O) O (Do (I64 y91.Box) [132] O .sct ⟨Ua,G⟩ (fun hc=>Ge Gb O O O) O (Do (Ec x) [] O .sct G (fun hc=>Ga Hu O O O) O (Do (I64 x.Box) [134] O .sct ⟨Ua,G⟩ (fun hc=>Ge Gb O O O) O (Do (BL (decide (x.Box < y91.Box))) [133,135] O .sct ⟨Ua,Ua,G⟩ (fun hc=>G41 O O O) O (Dq (BL ((!s91.2)&&(decide (x.Box < y91.Box)))) (J4 O O O O) O (Dnil ?_)))))))))))))
          refine hK96 (JCc O h (fun h hb=>?_) (fun h hb=>?_))
          ·
           refine Jr fun hK97=>(JLm (OW 1176 4 Stowed.av s91.1) O (JLh (.agg (Stowed.cs x)) (Gg Ru O O O) O (JLh (E2 [x]) (Ha (xs:=[.agg (Stowed.cs x)]) O ⟨O,O,G⟩ Gx Ze O O O O) O ?_)))
           obtain⟨ha98,h⟩:=Hp h
           refine JLh (OW 1176 4 Stowed.av (s91.1++[x])) (Q8 (f:=Stowed.av) (xs:=s91.1) (ys:=[x]) O O O O Gx G96 ha98 (fun _=>O) (.inl O) O) O (JLm (OW 1176 4 Stowed.av (s91.1++[x])) O (G7 (hK97 (G2 (JLm (BL true) O (G7 (ej95 _ _ ((s91.1++[x]),true) h ⟨(.sm O O),⟨⟨_,rfl,.same⟩,G⟩,rfl⟩)))))))
          ·
           refine Gm (ej95 _ _ (s91.1,s91.2) h ⟨(.sm O O),⟨⟨_,rfl,.same⟩,G⟩,rfl⟩)
         ·intro j95 h
          replace h:=app1 hkj95 h
          refine G2 (JLm (OW 1176 4 Stowed.av j95.1) O (JLm (E2 l) O (JLm (Ei i91) O (JLh (Ec y91) (Gv (f:=Stowed.av) (xs:=l) (y:=y91) O O O Gx hy91 O) O (JLh (.agg (Stowed.cs y91)) (Gg Ru O O O) O (JLh (E2 [y91]) (Ha (xs:=[.agg (Stowed.cs y91)]) O ⟨O,O,G⟩ Gx Ze O O O O) O ?_))))))
          obtain⟨ha99,h⟩:=Hp h
          refine JLh (OW 1176 4 Stowed.av (j95.1++[y91])) (Q8 (f:=Stowed.av) (xs:=j95.1) (ys:=[y91]) O O O O Gx G96 ha99 (fun _=>O) (.inl O) O) O (JLm (OW 1176 4 Stowed.av (j95.1++[y91])) O (G7 (hK94 (G2 (JLm (Ei i91) O (JLh (I64 ((i91+1:Nat):Int)) (Ht (Hb hk91 hm122) O O O) O (JLm (I64 ((i91+1:Nat):Int)) O (G7 (e91 _ _ (i91+1) ((j95.1++[y91]),j95.2) (app1 hn91 h) (by omega) ⟨(.sm O O),⟨⟨_,rfl,.same⟩,G⟩,rfl⟩)))))))))
        ·
         have h:=app1 hkx91 (Hk hi91 (H3 hb))
         refine Hi (hK60 ?_)
         obtain⟨kj100,hkj100,h⟩:=G09 h
         refine Yt (fun j100:(List Stowed)=>kj100 j100=some r) (fun j100=>[(1,E3 boxes),(5,Eb s),(9,Ec x),(16,OW 1176 4 Stowed.av j100)]) (fun j100=>[(1176,.spare 73 4 j100.length j100.length)]) (fun Kj100 ej100=>?_) ?_
         ·
          refine Jr fun hK101=>(JLm (BL s91.2) O (JLh (BL (!s91.2)) (Q3 (b:=s91.2) O O) O (G7 (hK101 (JCc O h (fun h hb=>?_) (fun h hb=>?_))))))
          ·
           refine G2 (JLm (OW 1176 4 Stowed.av s91.1) O (JLh (.agg (Stowed.cs x)) (Gg Ru O O O) O (JLh (E2 [x]) (Ha (xs:=[.agg (Stowed.cs x)]) O ⟨O,O,G⟩ Gx Ze O O O O) O ?_)))
           obtain⟨ha102,h⟩:=Hp h
           refine JLh (OW 1176 4 Stowed.av (s91.1++[x])) (Q8 (f:=Stowed.av) (xs:=s91.1) (ys:=[x]) O O O O Gx G96 ha102 (fun _=>O) (.inl O) O) O (JLm (OW 1176 4 Stowed.av (s91.1++[x])) O (G7 (ej100 _ _ (s91.1++[x]) h ⟨(.sm O O),⟨⟨_,rfl,.same⟩,G⟩,rfl⟩)))
          ·
           refine Gm (ej100 _ _ s91.1 h ⟨(.sm O O),⟨⟨_,rfl,.same⟩,G⟩,rfl⟩)
         ·intro j100 h
          replace h:=app1 hkj100 h
          refine Js fun hK103=>Jr fun hK104=>(JLh (.agg (H0.cs s)) (Gg H7 O O O) O (JLm (E3 boxes) O (JLm (OW 1176 4 Stowed.av j100) O (JLh (.dptr ((Stowed.cs x).drop 1)) (Ga Hs O O O) O (JLh (.dptr ((Stowed.cs x).drop 1)) (Ga J0 O O O) O (JLh (I64 x.Slot.G3) (Ge Gb O O O) O ?_))))))
          obtain⟨r105,hr105,h⟩:=Gd h
          refine JLh (BL r105) (Gi O (Gdb s boxes j100 x.Slot.G3 r105 hr105) Q01 ⟨O,O,O,O,O,O,O,O,G⟩) O (G7 (hK104 (JCc O h (fun h hb=>?_) (fun h hb=>?_))))
          ·
           refine Jr fun hK106=>(JLh (E2 ([]:List Stowed)) (H2 4 O O) O (JLm (I64 94) O (G7 (hK106 (Gq (⟨[E2 ([]:List Stowed),I64 94],[],G,O,⟨⟨_,O,.conv (.same O)⟩,⟨_,O,.conv (.same O)⟩,G⟩,O,congrArg (fun r:(List Stowed)×Int=>(.tup [E2 r.1,I64 r.2]:AV)) (Kj h)⟩))))))
          ·
           refine Gm (hK103 (Jr fun hK107=>(JLm (OW 1176 4 Stowed.av j100) O (JLm (OW 1176 4 Stowed.av j100) O (JLm (I64 0) O (G7 (hK107 (Gq (⟨[E2 j100,I64 0],[],G,O,⟨⟨_,O,.conv (.list O)⟩,⟨_,O,.conv (.same O)⟩,G⟩,O,congrArg (fun r:(List Stowed)×Int=>(.tup [E2 r.1,I64 r.2]:AV)) (Kj h)⟩)))))))))

def G19 (F:Nat) (s:H0) (boxes:List Box) (l:List Stowed) (open_:List Int) (cover:Int):Option ((List Int)×Int):=
 bnd (Qr F s boxes l open_) fun r4=>
 bif (!r4) then
 (some ([],2))
 else
 (bif ((decide (cover < 0))||(decide ((s.Covers.length:Int)≤cover))) then
  (some ([],6))
  else
  (each (fun y26 i26 (s26:Unit) nx26=>
    bnd (R9 s y26.Slot.G3 cover) fun r31=>
    bif r31 then
    (some ([],95))
    else
    (nx26 ()))
   (fun(s26:Unit)=>
    each (fun y47 i47 (s47:(List Int)) nx47=>
     jp (fun kj50=>
      bnd (bif (!(decide ((i47:Int)=cover))) then Qa open_ (i47:Int) else some default) fun r52=>
      bif ((decide ((i47:Int)=cover))||r52) then
      (need (decide ((s47.length+[(i47:Int)].length)*8≤140737488355328∧s47.length+[(i47:Int)].length≤maxLen)) <|
       kj50 (s47++[(i47:Int)]))
      else
      (kj50 s47)) fun(j50:(List Int))=>
     nx47 j50)
    (fun(s47:(List Int))=>
     some (s47,0)) s.Covers 0 []) l 0 ()))
abbrev Kb (s:H0):List AV:=[E6 s.Covers,I64 s.Light.Kilos,I64 s.Light.X,I64 s.Light.Y,I64 s.Light.Z,E8 s.Rows,E7 s.Frames,E9 s.Tanks,I64 s.G1.Tolerance,I64 s.G1.Trim,I64 s.G1.List_,I64 s.G1.Stability]
theorem Ha6 (F:Nat) (s:H0) (boxes:List Box) (l:List Stowed) (open_:List Int) (cover:Int) (r:(List Int)×Int) (h:G19 F s boxes l open_ cover=some r):Pure Ej 111 [.agg (H0.cs s),E3 boxes,E2 l,E1 open_,I64 cover] (·=.tup [E1 r.1,I64 r.2]):=by
 unfold G19 at h
 refine Gy [.tmp 10,.tmp 11] Tryz.func111 O O (Jr fun hK1=>(JLh (.ptr 1177 0) (J7 (cs:=(H0.cs s)) 1177 O O O O O) O (JLh (E1 ([]:List Int)) (H2 1 O O) O (JLm (I64 0) O (G7 (hK1 ?_))))))
 refine Gr [(1,E3 boxes),(2,E2 l),(3,E1 open_),(4,I64 cover),(5,Eb s)] [] 1177 rfl rfl rfl G rfl (by repeat' (first | exact .ptr | constructor)) (Js fun hK2=>Jr fun hK3=>(JLh (.agg (H0.cs s)) (Gg H7 O O O) O (JLm (E3 boxes) O (JLm (E2 l) O (JLm (E1 open_) O ?_)))))
 obtain⟨r4,hr4,h⟩:=Gd h
 refine JLh (BL r4) (Gi O (G9d F s boxes l open_ r4 hr4) Jb8 ⟨O,O,O,O,O,O,O,O,G⟩) O (JLh (BL (!r4)) (Q3 (b:=r4) O O) O (G7 (hK3 (JCc O h (fun h hb=>?_) (fun h hb=>?_)))))
 ·
  refine Jr fun hK5=>(JLh (E1 ([]:List Int)) (H2 1 O O) O (JLm (I64 2) O (G7 (hK5 (Gq (⟨[E1 ([]:List Int),I64 2],[],G,O,⟨⟨_,O,.conv (.same O)⟩,⟨_,O,.conv (.same O)⟩,G⟩,O,congrArg (fun r:(List Int)×Int=>(.tup [E1 r.1,I64 r.2]:AV)) (Kj h)⟩))))))
 ·
  refine Gm (hK2 (Js fun hK6=>?_))
  refine Jr fun hK7=>(JLm (I64 cover) O (JLh (BL (decide (cover < 0))) (Hy O O O) O (JLm (BL (decide (cover < 0))) O (JLo (I64 cover) [] O .scf G (fun hc=>G4 O O) O (JLo (.dptr (Kb s)) [] O .scf G (fun hc=>Ga Jg O O O) O (JLo (E6 s.Covers) [25] O .scf ⟨Ua,G⟩ (fun hc=>Ge Jv O O O) O (JLo (Ei s.Covers.length) [26] O .scf ⟨Ua,G⟩ (fun hc=>Qs (f:=G8.av) (xs:=s.Covers) Hq O O) O (JLo (BL (decide ((s.Covers.length:Int)≤cover))) [24,27] O .scf ⟨Ua,Ua,G⟩ (fun hc=>G13 O O O) O (JLh (BL ((decide (cover < 0))||(decide ((s.Covers.length:Int)≤cover)))) (Rs O O O O) O (G7 (hK7 ?_)))))))))))
  refine JCc O h ?_ ?_<;>intro h hb
  ·
   refine Jr fun hK8=>(JLh (E1 ([]:List Int)) (H2 1 O O) O (JLm (I64 6) O (G7 (hK8 (Gq (⟨[E1 ([]:List Int),I64 6],[],G,O,⟨⟨_,O,.conv (.same O)⟩,⟨_,O,.conv (.same O)⟩,G⟩,O,congrArg (fun r:(List Int)×Int=>(.tup [E1 r.1,I64 r.2]:AV)) (Kj h)⟩))))))
  ·
   refine Gm (hK6 (Js fun hK9=>Jr fun hK10=>(JLm (I64 0) O (G7 (hK10 (Gp ?_))))))
   obtain⟨b26,kx26,hb26,hkx26,h⟩:=Hv h
   refine Hc (fun i26 (s26:Unit)=>each b26 kx26 (List.drop i26 l) i26 s26=some r) (fun i26 s26=>[(2,E2 l),(3,E1 open_),(4,I64 cover),(5,Eb s),(12,Ei i26)]) (fun i26 s26=>[]) (fun i26=>l.length - i26) 0 () h ⟨(.sm O O),G,rfl⟩ ?_
   clear h
   intro i26 s26 hi26 K26 e26
   refine Js fun hK27=>Jr fun hK28=>(JLm (Ei i26) O (JLm (E2 l) O (JLl Gx O O O fun hm32=>(JLh (BL (decide ((i26:Int) < (l.length:Int)))) (Hy O O O) O (G7 (hK28 (Gj O (fun hb=>?_) (fun hb=>?_))))))))
   ·
    have hk26:=J8 hb
    obtain⟨y26,nx26,hy26,hn26,h⟩:=Hj hi26 hk26
    replace h:=R8 hb26 h
    refine Gm (hK27 (Js fun hK29=>Gp (Js fun hK30=>?_)))
    obtain⟨r31,hr31,h⟩:=Gd h
    refine JC_d0 Jb (by kernel_rfl) (Dq (.agg (H0.cs s)) (Gg H7 O O O) O (Dq (E2 l) (G4 O O) O (Dq (Ei i26) (G4 O O) O (Dq (Ec y26) (Gv (f:=Stowed.av) (xs:=l) (y:=y26) O O O Gx hy26 O) O (Dq (.dptr ((Stowed.cs y26).drop 1)) (Ga Hs O O O) O (Dq (.dptr ((Stowed.cs y26).drop 1)) (Ga J0 O O O) O (Dq (I64 y26.Slot.G3) (Ge Gb O O O) O (Dq (I64 cover) (G4 O O) O (Dq (BL r31) (Gi (args:=[.agg (H0.cs s),I64 y26.Slot.G3,I64 cover]) O (Gda s y26.Slot.G3 cover r31 hr31) Jff ⟨O,O,O,O,O,O,G⟩) O (Dnil ?_))))))))))
    refine hK30 (JCc O h (fun h hb=>?_) (fun h hb=>?_))
    ·
     refine Jr fun hK32=>(JLh (E1 ([]:List Int)) (H2 1 O O) O (JLm (I64 95) O (G7 (hK32 (Gq (⟨[E1 ([]:List Int),I64 95],[],G,O,⟨⟨_,O,.conv (.same O)⟩,⟨_,O,.conv (.same O)⟩,G⟩,O,congrArg (fun r:(List Int)×Int=>(.tup [E1 r.1,I64 r.2]:AV)) (Kj h)⟩))))))
    ·
     refine Gm (hK29 (G2 (JLm (Ei i26) O (JLh (I64 ((i26+1:Nat):Int)) (Ht (Hb hk26 hm32) O O O) O (JLm (I64 ((i26+1:Nat):Int)) O (G7 (e26 _ _ (i26+1) () (app1 hn26 h) (by omega) ⟨(.sm O O),G,rfl⟩)))))))
   ·
    have h:=app1 hkx26 (Hk hi26 (H3 hb))
    refine Hi (hK9 (Jr fun hK33=>(JLh (OW 1178 1 I64 ([]:List Int)) (G12 1178 3 1 O O O) O (G7 (hK33 (Js fun hK34=>Jr fun hK35=>(JLm (I64 0) O (G7 (hK35 (Gp ?_))))))))))
    obtain⟨b47,kx47,hb47,hkx47,h⟩:=Hv h
    refine Hc (fun i47 (s47:(List Int))=>each b47 kx47 (List.drop i47 s.Covers) i47 s47=some r) (fun i47 s47=>[(3,E1 open_),(4,I64 cover),(5,Eb s),(13,OW 1178 1 I64 s47),(14,Ei i47)]) (fun i47 s47=>[(1178,.spare 3 1 s47.length s47.length)]) (fun i47=>s.Covers.length - i47) 0 [] h ⟨(.sm O O),⟨⟨_,rfl,.same⟩,G⟩,rfl⟩ ?_
    clear h
    intro i47 s47 hi47 K47 e47
    refine Js fun hK48=>Jr fun hK49=>(JLm (Ei i47) O (JLh (.dptr (Kb s)) (Ga Jg O O O) O (JLh (E6 s.Covers) (Ge Jv O O O) O (JLl Hq O O O fun hm48=>(JLh (BL (decide ((i47:Int) < (s.Covers.length:Int)))) (Hy O O O) O (G7 (hK49 (Gj O (fun hb=>?_) (fun hb=>?_)))))))))
    ·
     have hk47:=J8 hb
     obtain⟨y47,nx47,hy47,hn47,h⟩:=Hj hi47 hk47
     replace h:=R8 hb47 h
     refine Gm (hK48 ?_)
     obtain⟨kj50,hkj50,h⟩:=G09 h
     refine Yt (fun j50:(List Int)=>kj50 j50=some r) (fun j50=>[(3,E1 open_),(4,I64 cover),(5,Eb s),(13,OW 1178 1 I64 j50),(14,Ei i47)]) (fun j50=>[(1178,.spare 3 1 j50.length j50.length)]) (fun Kj50 ej50=>?_) ?_
     ·
      refine Gp (Jr fun hK51=>(JLm (Ei i47) O (JLm (I64 cover) O (JLh (BL (decide ((i47:Int)=cover))) (Ju O O O) O (JLm (BL (decide ((i47:Int)=cover))) O (JLo (E1 open_) [] O .scf G (fun hc=>G4 O O) O (JLo (Ei i47) [] O .scf G (fun hc=>G4 O O) O ?_)))))))
      obtain⟨r52,hr52,h⟩:=Gd h
      refine JLo (BL r52) [56,57] O .scf ⟨Ua,Ua,G⟩ (fun hc=>Gi (args:=[E1 open_,Ei i47]) O (G52 open_ (i47:Int) r52 (Gw hc hr52)) Heb ⟨O,O,O,O,G⟩) O (JLh (BL ((decide ((i47:Int)=cover))||r52)) (Rs O O O O) O (G7 (hK51 (JCc O h (fun h hb=>?_) (fun h hb=>?_)))))
      ·
       refine G2 (JLm (OW 1178 1 I64 s47) O (JLm (Ei i47) O (JLh (E1 [(i47:Int)]) (Ha (xs:=[Ei i47]) O ⟨O,O,G⟩ Gn Jz O O O O) O ?_)))
       obtain⟨ha53,h⟩:=Hp h
       refine JLh (OW 1178 1 I64 (s47++[(i47:Int)])) (Q8 (f:=I64) (xs:=s47) (ys:=[(i47:Int)]) O O O O Gn Rt ha53 (fun _=>O) (.inl O) O) O (JLm (OW 1178 1 I64 (s47++[(i47:Int)])) O (G7 (ej50 _ _ (s47++[(i47:Int)]) h ⟨(.sm O O),⟨⟨_,rfl,.same⟩,G⟩,rfl⟩)))
      ·
       refine Gm (ej50 _ _ s47 h ⟨(.sm O O),⟨⟨_,rfl,.same⟩,G⟩,rfl⟩)
     ·intro j50 h
      replace h:=app1 hkj50 h
      refine G2 (JLm (Ei i47) O (JLh (I64 ((i47+1:Nat):Int)) (Ht (Hb hk47 hm48) O O O) O (JLm (I64 ((i47+1:Nat):Int)) O (G7 (e47 _ _ (i47+1) j50 (app1 hn47 h) (by omega) ⟨(.sm O O),⟨⟨_,rfl,.same⟩,G⟩,rfl⟩)))))
    ·
     have h:=app1 hkx47 (Hk hi47 (H3 hb))
     refine Hi (hK34 (Jr fun hK54=>(JLm (OW 1178 1 I64 s47) O (JLm (OW 1178 1 I64 s47) O (JLm (I64 0) O (G7 (hK54 (Gq (⟨[E1 s47,I64 0],[],G,O,⟨⟨_,O,.conv (.list O)⟩,⟨_,O,.conv (.same O)⟩,G⟩,O,congrArg (fun r:(List Int)×Int=>(.tup [E1 r.1,I64 r.2]:AV)) (Kj h)⟩)))))))))

def G2f (F:Nat) (s:H0) (boxes:List Box) (l:List Stowed) (x:Stowed):Option ((List Stowed)×Int):=
 bnd (Q5 s x.Slot.G3) fun r3=>
 bnd (bif (!(decide (r3 < 0))) then Qm s.Columns x.Slot.G3 some else some default) fun y6=>
 bif ((decide (r3 < 0))||y6.Deck) then
 (bnd (Yu F s boxes l [] x) fun r8=>
  some (r8.1,r8.2))
 else
 (bnd (G19 F s boxes l [] r3) fun r11=>
  bif decide (r11.2≠0) then
  (some ([],r11.2))
  else
  (bnd (Yu F s boxes l [r3] x) fun r15=>
   some (r15.1,r15.2)))
theorem Hcd (F:Nat) (s:H0) (boxes:List Box) (l:List Stowed) (x:Stowed) (r:(List Stowed)×Int) (h:G2f F s boxes l x=some r):Pure Ej 53 [.agg (H0.cs s),E3 boxes,E2 l,.agg (Stowed.cs x)] (·=.tup [E2 r.1,I64 r.2]):=by
 unfold G2f at h
 refine Gy [.tmp 8,.tmp 9] Tryz.func53 O O (Jr fun hK1=>(JLh (.ptr 1096 0) (J7 (cs:=(H0.cs s)) 1096 O O O O O) O (JLh (.ptr 1097 0) (J7 (cs:=[I64 x.Box,I64 x.Slot.G3,I64 x.Slot.Tier,U8 x.Slot.Half]) 1097 O O O O O) O (JLh (E2 ([]:List Stowed)) (H2 4 O O) O (JLm (I64 0) O (G7 (hK1 ?_)))))))
 refine Gr [(1,E3 boxes),(2,E2 l),(4,Eb s),(7,.ptr 1097 0)] [(1097,.box 73 [I64 x.Box,I64 x.Slot.G3,I64 x.Slot.Tier,U8 x.Slot.Half])] 1096 rfl rfl rfl ⟨⟨_,rfl,.boxEq rfl rfl⟩,G⟩ rfl (by repeat' (first | exact .ptr | constructor)) ?_
 refine Gr [(1,E3 boxes),(2,E2 l),(4,Eb s),(7,Ec x)] [] 1097 rfl rfl rfl G rfl (by repeat' (first | exact .ptr | constructor)) ?_
 refine Jr fun hK2=>(JLh (.agg (H0.cs s)) (Gg H7 O O O) O (JLh (.dptr ((Stowed.cs x).drop 1)) (Ga Hs O O O) O (JLh (.dptr ((Stowed.cs x).drop 1)) (Ga J0 O O O) O (JLh (I64 x.Slot.G3) (Ge Gb O O O) O ?_))))
 obtain⟨r3,hr3,h⟩:=Gd h
 refine JLh (I64 r3) (Gi O (G0d s x.Slot.G3 r3 hr3) H85 ⟨O,O,O,O,G⟩) O (JLm (I64 r3) O (G7 (hK2 (Js fun hK4=>?_))))
 refine Jr fun hK5=>(JLm (I64 r3) O (JLh (BL (decide (r3 < 0))) (Hy O O O) O (JLm (BL (decide (r3 < 0))) O (JLo (Eb s) [] O .scf G (fun hc=>Ga Hh O O O) O (JLo (E5 s.Columns) [21] O .scf ⟨Ua,G⟩ (fun hc=>Ge Ho O O O) O (JLo (.dptr ((Stowed.cs x).drop 1)) [] O .scf G (fun hc=>Ga Hs O O O) O (JLo (.dptr ((Stowed.cs x).drop 1)) [23] O .scf ⟨Ua,G⟩ (fun hc=>Ga J0 O O O) O (JLo (I64 x.Slot.G3) [24] O .scf ⟨Ua,G⟩ (fun hc=>Ge Gb O O O) O ?_))))))))
 obtain⟨y6,hy6,h⟩:=Gd h
 refine JLo (Ed y6) [22,25] O .scf ⟨Ua,Ua,G⟩ (fun hc=>(match Q0 (Gw hc hy6) with | ⟨_,hm_,hy_⟩=>Gv (f:=G3.av) (xs:=s.Columns) (y:=y6) O O O H6 hy_ hm_)) O (JLo (.dptr ((G3.cs y6).drop 2)) [26] O .scf ⟨Ua,G⟩ (fun hc=>Ga Ro O O O) O (JLo (BL y6.Deck) [27] O .scf ⟨Ua,G⟩ (fun hc=>Ge Qv O O O) O (JLh (BL ((decide (r3 < 0))||y6.Deck)) (Rs O O O O) O (G7 (hK5 (JCc O h (fun h hb=>?_) (fun h hb=>?_)))))))
 ·
  refine Jr fun hK7=>(JLh (.agg (H0.cs s)) (Gg H7 O O O) O (JLm (E3 boxes) O (JLm (E2 l) O (JLh (.agg (Stowed.cs x)) (Gg Ru O O O) O ?_))))
  obtain⟨r8,hr8,h⟩:=Gd h
  refine JLh (.tup [E2 r8.1,I64 r8.2]) (J8e (args:=[.agg (H0.cs s),E3 boxes,E2 l,E1 ([]:List Int),.agg (Stowed.cs x)]) O (Gf4 F s boxes l [] x r8 hr8) Jc2 ⟨.inl O,O,.inl O,O,.inl O,O,.inr ⟨_,O,O⟩,O,.inl O,O,G⟩) O (JLh (E2 r8.1) (H4 O O O) O (JLh (I64 r8.2) (H4 O O O) O (JLm (E2 r8.1) O (JLm (I64 r8.2) O (G7 (hK7 (Gq ?_)))))))
  exact⟨[E2 r8.1,I64 r8.2],[],G,O,⟨⟨_,O,.conv (.same O)⟩,⟨_,O,.conv (.same O)⟩,G⟩,O,congrArg (fun r:(List Stowed)×Int=>(.tup [E2 r.1,I64 r.2]:AV)) (Kj h)⟩
 ·
  refine Gm (hK4 (Js fun hK9=>Jr fun hK10=>(JLh (.agg (H0.cs s)) (Gg H7 O O O) O (JLm (E3 boxes) O (JLm (E2 l) O (JLm (I64 r3) O ?_))))))
  obtain⟨r11,hr11,h⟩:=Gd h
  refine JLh (.tup [E1 r11.1,I64 r11.2]) (J8e (args:=[.agg (H0.cs s),E3 boxes,E2 l,E1 ([]:List Int),I64 r3]) O (Ha6 F s boxes l [] r3 r11 hr11) R0a ⟨.inl O,O,.inl O,O,.inl O,O,.inr ⟨_,O,O⟩,O,.inl O,O,G⟩) O (JLm (.tup [E1 r11.1,I64 r11.2]) O (JLh (E1 r11.1) (H4 O O O) O (JLh (I64 r11.2) (H4 O O O) O (JLm (E1 r11.1) O (JLm (I64 r11.2) O (G7 (hK10 (Jr fun hK12=>(JLm (I64 r11.2) O (JLh (BL (decide (r11.2≠0))) (G1d O O O) O (G7 (hK12 (JCc O h (fun h hb=>?_) (fun h hb=>?_))))))))))))))
  ·
   refine Jr fun hK13=>(JLm (I64 r11.2) O (JLh (E2 ([]:List Stowed)) (H2 4 O O) O (JLm (I64 r11.2) O (G7 (hK13 (Gq (⟨[E2 ([]:List Stowed),I64 r11.2],[],G,O,⟨⟨_,O,.conv (.same O)⟩,⟨_,O,.conv (.same O)⟩,G⟩,O,congrArg (fun r:(List Stowed)×Int=>(.tup [E2 r.1,I64 r.2]:AV)) (Kj h)⟩)))))))
  ·
   refine Gm (hK9 (Jr fun hK14=>(JLh (.agg (H0.cs s)) (Gg H7 O O O) O (JLm (E3 boxes) O (JLm (E2 l) O (JLm (I64 r3) O (JLh (E1 [r3]) (Ha (xs:=[I64 r3]) O ⟨O,O,G⟩ Gn Jz O O O O) O (JLh (.agg (Stowed.cs x)) (Gg Ru O O O) O ?_))))))))
   obtain⟨r15,hr15,h⟩:=Gd h
   refine JLh (.tup [E2 r15.1,I64 r15.2]) (Gi O (Gf4 F s boxes l [r3] x r15 hr15) Jc2 ⟨O,O,O,O,O,O,O,O,O,O,G⟩) O (JLh (E2 r15.1) (H4 O O O) O (JLh (I64 r15.2) (H4 O O O) O (JLm (E2 r15.1) O (JLm (I64 r15.2) O (G7 (hK14 (Gq (⟨[E2 r15.1,I64 r15.2],[],G,O,⟨⟨_,O,.conv (.same O)⟩,⟨_,O,.conv (.same O)⟩,G⟩,O,congrArg (fun r:(List Stowed)×Int=>(.tup [E2 r.1,I64 r.2]:AV)) (Kj h)⟩))))))))

def Q9 (F:Nat) (s:H0) (boxes:List Box) (l:List Stowed) (id_:Int):Option ((List Slot)×Int×Int):=
 bnd (Q7 F s boxes l) fun r4=>
 bif (!r4) then
 (some ([],0,2))
 else
 (bnd (Qt boxes id_) fun r7=>
  bif ((!r7.2)||((decide (r7.1.Size≠20))&&(decide (r7.1.Size≠40)))) then
  (some ([],0,6))
  else
  (bnd (Ra l id_) fun r13=>
   bif decide (0≤r13) then
   (some ([],0,96))
   else
   (chk (r7.1.Size) fun v16=>
    bnd (G30 F s v16) fun r17=>
    bnd (Gd7 (r17.length:Int)) fun m19=>
    need (decide (8*m19≤281474976710656∧m19≤maxLen∧m19*1≤16777216)) <|
    each (fun y86 i86 (s86:Int×(List Int)) nx86=>
     jp (fun kj89=>
      bnd (G2f F s boxes l (Stowed.mk id_ y86)) fun r91=>
      Qm s86.2 (i86:Int) fun y93=>
      bif decide (r91.2=0) then
      (bnd (R3 F s boxes r91.1 id_) fun r96=>
       Qm (s86.2.set (i86:Int).toNat (-1)) (i86:Int) fun y97=>
       bnd (bif (!(decide (s86.1 < 0))) then Qm ((s86.2.set (i86:Int).toNat (-1)).set (i86:Int).toNat (r96.length:Int)) (i86:Int) some else some default) fun y99=>
       bif ((decide (s86.1 < 0))||(decide (y99 < s86.1))) then
       (Qm ((s86.2.set (i86:Int).toNat (-1)).set (i86:Int).toNat (r96.length:Int)) (i86:Int) fun y100=>
        kj89 (y100,((s86.2.set (i86:Int).toNat (-1)).set (i86:Int).toNat (r96.length:Int))))
       else
       (kj89 (s86.1,((s86.2.set (i86:Int).toNat (-1)).set (i86:Int).toNat (r96.length:Int)))))
      else
      (kj89 (s86.1,(s86.2.set (i86:Int).toNat (-1))))) fun(j89:Int×(List Int))=>
     nx86 (j89.1,j89.2))
    (fun(s86:Int×(List Int))=>
     bif decide (s86.1 < 0) then
     (some ([],0,4))
     else
     (each (fun y122 i122 (s122:(List Slot)) nx122=>
       jp (fun kj125=>
        Qm s86.2 (i122:Int) fun y127=>
        bif decide (y127=s86.1) then
        (need (decide ((s122.length+[y122].length)*24≤140737488355328∧s122.length+[y122].length≤maxLen)) <|
         kj125 (s122++[y122]))
        else
        (kj125 s122)) fun(j125:(List Slot))=>
       nx122 j125)
      (fun(s122:(List Slot))=>
       some (s122,s86.1,0)) r17 0 [])) r17 0 ((-1),(List.replicate m19 (0:Int))))))
theorem H79 (F:Nat) (s:H0) (boxes:List Box) (l:List Stowed) (id_:Int) (r:(List Slot)×Int×Int) (h:Q9 F s boxes l id_=some r):Pure Ej 21 [.agg (H0.cs s),E3 boxes,E2 l,I64 id_] (·=.tup [E4 r.1,I64 r.2.1,I64 r.2.2]):=by
 unfold Q9 at h
 refine Gy [.tmp 8,.tmp 9,.tmp 10] Tryz.func21 O O (Jr fun hK1=>(JLh (.ptr 1040 0) (J7 (cs:=(H0.cs s)) 1040 O O O O O) O (JLh (E4 ([]:List Slot)) (H2 3 O O) O (JLm (I64 0) O (JLm (I64 0) O (G7 (hK1 ?_)))))))
 refine Gr [(1,E3 boxes),(2,E2 l),(3,I64 id_),(4,Eb s)] [] 1040 rfl rfl rfl G rfl (by repeat' (first | exact .ptr | constructor)) (Js fun hK2=>Jr fun hK3=>(JLh (.agg (H0.cs s)) (Gg H7 O O O) O (JLm (E3 boxes) O (JLm (E2 l) O ?_))))
 obtain⟨r4,hr4,h⟩:=Gd h
 refine JLh (BL r4) (Gi O (Y7 F s boxes l r4 hr4) H04 ⟨O,O,O,O,O,O,G⟩) O (JLh (BL (!r4)) (Q3 (b:=r4) O O) O (G7 (hK3 (JCc O h (fun h hb=>?_) (fun h hb=>?_)))))
 ·
  refine Jr fun hK5=>(JLh (E4 ([]:List Slot)) (H2 3 O O) O (JLm (I64 0) O (JLm (I64 2) O (G7 (hK5 (Gq (⟨[E4 ([]:List Slot),I64 0,I64 2],[],G,O,⟨⟨_,O,.conv (.same O)⟩,⟨_,O,.conv (.same O)⟩,⟨_,O,.conv (.same O)⟩,G⟩,O,congrArg (fun r:(List Slot)×Int×Int=>(.tup [E4 r.1,I64 r.2.1,I64 r.2.2]:AV)) (Kj h)⟩)))))))
 ·
  refine Gm (hK2 (Jr fun hK6=>(JLm (E3 boxes) O (JLm (I64 id_) O ?_))))
  obtain⟨r7,hr7,h⟩:=Gd h
  refine JLh (.tup [.agg (Box.cs r7.1),BL r7.2]) (Gi O (Zw boxes id_ r7 hr7) H53 ⟨O,O,O,O,G⟩) O (JLm (.tup [.agg (Box.cs r7.1),BL r7.2]) O (JLh (.agg (Box.cs r7.1)) (H4 O O O) O (JLh (BL r7.2) (H4 O O O) O (JLh (.ptr 1041 0) (Jn 1041 9 G16 O O) O (Je (u:=.junk) (J5 (u:=.agg (Box.cs r7.1)) (ds:=(Box.cs r7.1)) Zs O O O O O O O O) (JLm (BL r7.2) O (G7 (hK6 ?_))))))))
  refine Gr [(1,E3 boxes),(2,E2 l),(3,I64 id_),(4,Eb s),(11,Ee r7.1),(12,BL r7.2)] [] 1041 rfl rfl rfl G rfl (by repeat' (first | exact .ptr | constructor)) (Js fun hK8=>?_)
  refine Jr fun hK9=>(JLm (BL r7.2) O (JLh (BL (!r7.2)) (Q3 (b:=r7.2) O O) O (JLm (BL (!r7.2)) O (JLo (.dptr ((Box.cs r7.1).drop 2)) [] O .scf G (fun hc=>Ga Rm O O O) O (JLo (U8 r7.1.Size) [35] O .scf ⟨Ua,G⟩ (fun hc=>Ge J6 O O O) O (JLo (BL (decide (r7.1.Size≠20))) [36] O .scf ⟨Ua,G⟩ (fun hc=>G1d O O O) O (JLo (BL (decide (r7.1.Size≠20))) [37] O .scf ⟨Ua,G⟩ (fun hc=>G4 O O) O (JLo (.dptr ((Box.cs r7.1).drop 2)) [] O .optt G (fun hc=>Ga Rm O O O) O (JLo (U8 r7.1.Size) [39] O .optt ⟨Ua,G⟩ (fun hc=>Ge J6 O O O) O (JLo (BL (decide (r7.1.Size≠40))) [40] O .optt ⟨Ua,G⟩ (fun hc=>G1d O O O) O (G9 (u:=BL ((decide (r7.1.Size≠20))&&(decide (r7.1.Size≠40)))) [(38,BL (decide (r7.1.Size≠20))),(41,_)] O O O .scf ⟨.all id,.part,G⟩ (fun hc=>J4 O O O O) ?_)))))))))))
  refine JLh (BL ((!r7.2)||((decide (r7.1.Size≠20))&&(decide (r7.1.Size≠40))))) (Rs O O O O) O (G7 (hK9 (JCc O h (fun h hb=>?_) (fun h hb=>?_))))
  ·
   refine Jr fun hK10=>(JLh (E4 ([]:List Slot)) (H2 3 O O) O (JLm (I64 0) O (JLm (I64 6) O (G7 (hK10 (Gq (⟨[E4 ([]:List Slot),I64 0,I64 6],[],G,O,⟨⟨_,O,.conv (.same O)⟩,⟨_,O,.conv (.same O)⟩,⟨_,O,.conv (.same O)⟩,G⟩,O,congrArg (fun r:(List Slot)×Int×Int=>(.tup [E4 r.1,I64 r.2.1,I64 r.2.2]:AV)) (Kj h)⟩)))))))
  ·
   refine Gm (hK8 (Js fun hK11=>Jr fun hK12=>(JLm (E2 l) O (JLm (I64 id_) O ?_))))
   obtain⟨r13,hr13,h⟩:=Gd h
   refine JLh (I64 r13) (Gi O (G1a l id_ r13 hr13) H55 ⟨O,O,O,O,G⟩) O (JLh (BL (decide (0≤r13))) (G13 O O O) O (G7 (hK12 (JCc O h (fun h hb=>?_) (fun h hb=>?_)))))
   ·
    refine Jr fun hK14=>(JLh (E4 ([]:List Slot)) (H2 3 O O) O (JLm (I64 0) O (JLm (I64 96) O (G7 (hK14 (Gq (⟨[E4 ([]:List Slot),I64 0,I64 96],[],G,O,⟨⟨_,O,.conv (.same O)⟩,⟨_,O,.conv (.same O)⟩,⟨_,O,.conv (.same O)⟩,G⟩,O,congrArg (fun r:(List Slot)×Int×Int=>(.tup [E4 r.1,I64 r.2.1,I64 r.2.2]:AV)) (Kj h)⟩)))))))
   ·
    refine Gm (hK11 (Jr fun hK15=>(JLh (.agg (H0.cs s)) (Gg H7 O O O) O (JLh (.dptr ((Box.cs r7.1).drop 2)) (Ga Rm O O O) O (JLh (U8 r7.1.Size) (Ge J6 O O O) O ?_)))))
    obtain⟨v16,hv16,h⟩:=Qk h
    refine JLh (I64 v16) (Q70 He1 Jf9 hv16 O O) O ?_
    obtain⟨r17,hr17,h⟩:=Gd h
    refine JLh (E4 r17) (Gi O (Hce F s v16 r17 hr17) R6b ⟨O,O,O,O,G⟩) O (JLm (E4 r17) O (G7 (hK15 (Jr fun hK18=>(JLm (E4 r17) O (JLl Ja O O O fun hm54=>?_))))))
    obtain⟨m19,hm19,h⟩:=Gd h
    obtain⟨ha20,h⟩:=Hp h
    refine JLh (.vec 1043 0 1 ((List.replicate m19 (0:Int)).length)) (R47 1043 (f:=I64) (n:=m19) 0 [E0] O O O O Gn Rt Rd8 (G56 hm19) (G56 hm19) ha20 ⟨.inl O,G⟩ O) O (JLm (.vec 1043 0 1 ((List.replicate m19 (0:Int)).length)) O (G7 (hK18 (Jr fun hK21=>(JLm (I64 (-1)) O (G7 (hK21 (Js fun hK22=>Jr fun hK23=>(JLm (I64 0) O (G7 (hK23 (Gp ?_))))))))))))
    obtain⟨b86,kx86,hb86,hkx86,h⟩:=Hv h
    refine Hc (fun i86 (s86:Int×(List Int))=>each b86 kx86 (List.drop i86 r17) i86 s86=some r) (fun i86 s86=>[(1,E3 boxes),(2,E2 l),(3,I64 id_),(4,Eb s),(13,E4 r17),(14,.vec 1043 0 1 ((List.replicate m19 (0:Int)).length)),(15,I64 s86.1),(16,Ei i86)]) (fun i86 s86=>[(1043,.vec 3 1 0 (s86.2.map I64))]) (fun i86=>r17.length - i86) 0 ((-1),(List.replicate m19 (0:Int))) h ⟨(.sm O O),⟨⟨_,rfl,.vec⟩,G⟩,rfl⟩ ?_
    clear h
    intro i86 s86 hi86 K86 e86
    refine Js fun hK87=>Jr fun hK88=>(JLm (Ei i86) O (JLm (E4 r17) O (JLl Ja O O O fun hm58=>(JLh (BL (decide ((i86:Int) < (r17.length:Int)))) (Hy O O O) O (G7 (hK88 (Gj O (fun hb=>?_) (fun hb=>?_))))))))
    ·
     have hk86:=J8 hb
     obtain⟨y86,nx86,hy86,hn86,h⟩:=Hj hi86 hk86
     replace h:=R8 hb86 h
     refine Gm (hK87 ?_)
     obtain⟨kj89,hkj89,h⟩:=G09 h
     refine Yt (fun j89:Int×(List Int)=>kj89 j89=some r) (fun j89=>[(1,E3 boxes),(2,E2 l),(3,I64 id_),(4,Eb s),(13,E4 r17),(14,.vec 1043 0 1 ((List.replicate m19 (0:Int)).length)),(15,I64 j89.1),(16,Ei i86)]) (fun j89=>[(1043,.vec 3 1 0 (j89.2.map I64))]) (fun Kj89 ej89=>?_) ?_
     ·
      refine Gp (Js fun hK90=>G29 (l':=[(1,E3 boxes),(2,E2 l),(3,I64 id_),(4,Eb s),(13,E4 r17),(14,.vec 1043 0 1 ((List.replicate m19 (0:Int)).length)),(15,I64 s86.1),(16,Ei i86)]) (L':=[(1043,.vec 3 1 0 (s86.2.map I64))]) ⟨(.sm O O),⟨⟨_,rfl,.vec⟩,G⟩,rfl⟩ ?_)
      obtain⟨r91,hr91,h⟩:=Gd h
      refine JC_d0 Jb (by kernel_rfl) (Dq (.agg (H0.cs s)) (Gg H7 O O O) O (Dq (E3 boxes) (G4 O O) O (Dq (E2 l) (G4 O O) O (Dq (I64 id_) (G4 O O) O (Dq (E4 r17) (G4 O O) O (Dq (Ei i86) (G4 O O) O (Dq (Eg y86) (Gv (f:=Slot.av) (xs:=r17) (y:=y86) O O O Ja hy86 O) O (Dq (.agg (Slot.cs y86)) (Gg Jh O O O) O (Dq (.agg [I64 id_,I64 y86.G3,I64 y86.Tier,U8 y86.Half]) (Jk (cs:=[I64 id_,I64 y86.G3,I64 y86.Tier,U8 y86.Half]) [(0,1),(1,3)] [I64 0,I64 0,I64 0,U8 0] [E0,E0,E0,.int .u8 0] H39 H01 ⟨.inl O,.inl O,.inl O,.inl O,G⟩ O O) O (Dq (.tup [E2 r91.1,I64 r91.2]) (Gi (args:=[.agg (H0.cs s),E3 boxes,E2 l,.agg [I64 id_,I64 y86.G3,I64 y86.Tier,U8 y86.Half]]) O (Hcd F s boxes l (Stowed.mk id_ y86) r91 hr91) R6a ⟨O,O,O,O,O,O,O,O,G⟩) O (Dq (.tup [E2 r91.1,I64 r91.2]) (G4 O O) O (Dq (E2 r91.1) (H4 O O O) O (Dq (I64 r91.2) (H4 O O O) O ?_)))))))))))))
      refine Dq (E2 r91.1) (G6 O O) O (Dq (I64 r91.2) (G6 O O) O (Dnil (hK90 (Jr fun hK92=>(JLm (.vec 1043 0 1 ((List.replicate m19 (0:Int)).length)) O (JLm (Ei i86) O ?_))))))
      obtain⟨y93,hmy93,hy93,h⟩:=Gd8 h
      refine JLh (.vptr 1043 0 ((i86:Int).toNat) 0) (H1c (f:=I64) (xs:=s86.2) (y:=y93) O O O O Gn hy93 hmy93) O (Je (u:=.junk) (J24 (f:=I64) (xs:=s86.2) (z:=(-1)) H9e O O O O (Kh hy93).1 O O O O) (G7 (hK92 (Jr fun hK94=>(JLm (I64 r91.2) O (JLh (BL (decide (r91.2=0))) (Ju O O O) O (G7 (hK94 (JCc O h (fun h hb=>?_) (fun h hb=>?_))))))))))
      ·
       refine Jr fun hK95=>(JLm (.vec 1043 0 1 ((List.replicate m19 (0:Int)).length)) O (JLm (Ei i86) O (JLh (.agg (H0.cs s)) (Gg H7 O O O) O (JLm (E3 boxes) O (JLm (E2 r91.1) O (JLm (I64 id_) O ?_))))))
       obtain⟨r96,hr96,h⟩:=Gd h
       refine JLh (E1 r96) (Gi O (G4c F s boxes r91.1 id_ r96 hr96) J49 ⟨O,O,O,O,O,O,O,O,G⟩) O (JLl Gn O O O fun hm87=>?_)
       obtain⟨y97,hmy97,hy97,h⟩:=Gd8 h
       refine JLh (.vptr 1043 0 ((i86:Int).toNat) 0) (H1c (f:=I64) (xs:=(s86.2.set (i86:Int).toNat (-1))) (y:=y97) O O O O Gn hy97 hmy97) O (Je (u:=.junk) (J24 (f:=I64) (xs:=(s86.2.set (i86:Int).toNat (-1))) (z:=(r96.length:Int)) H9e O O O O (Kh hy97).1 O O O O) (G7 (hK95 (Jr fun hK98=>(JLm (I64 s86.1) O (JLh (BL (decide (s86.1 < 0))) (Hy O O O) O (JLm (BL (decide (s86.1 < 0))) O (JLo (.vec 1043 0 1 ((List.replicate m19 (0:Int)).length)) [] O .scf G (fun hc=>G4 O O) O (JLo (Ei i86) [] O .scf G (fun hc=>G4 O O) O ?_)))))))))
       obtain⟨y99,hy99,h⟩:=Gd h
       refine JLo (.vptr 1043 0 ((i86:Int).toNat) 0) [92,93] O .scf ⟨Ua,Ua,G⟩ (fun hc=>H1c (f:=I64) (xs:=((s86.2.set (i86:Int).toNat (-1)).set (i86:Int).toNat (r96.length:Int))) (y:=y99) O O O O Gn (Hc6 (Gw hc hy99)) (Q39 (Gw hc hy99))) O (JLo (I64 y99) [94] O .scf ⟨Ua,G⟩ (fun hc=>Hac (f:=I64) (xs:=((s86.2.set (i86:Int).toNat (-1)).set (i86:Int).toNat (r96.length:Int))) (y:=y99) Gb O O O (Hc6 (Gw hc hy99)) O O) O (JLo (I64 s86.1) [] O .scf G (fun hc=>G4 O O) O (JLo (BL (decide (y99 < s86.1))) [95,96] O .scf ⟨Ua,Ua,G⟩ (fun hc=>Hy O O O) O (JLh (BL ((decide (s86.1 < 0))||(decide (y99 < s86.1)))) (Rs O O O O) O (G7 (hK98 (JCc O h (fun h hb=>?_) (fun h hb=>?_))))))))
       ·
        refine G2 (JLm (.vec 1043 0 1 ((List.replicate m19 (0:Int)).length)) O (JLm (Ei i86) O ?_))
        obtain⟨y100,hmy100,hy100,h⟩:=Gd8 h
        refine JLh (.vptr 1043 0 ((i86:Int).toNat) 0) (H1c (f:=I64) (xs:=((s86.2.set (i86:Int).toNat (-1)).set (i86:Int).toNat (r96.length:Int))) (y:=y100) O O O O Gn hy100 hmy100) O (JLh (I64 y100) (Hac (f:=I64) (xs:=((s86.2.set (i86:Int).toNat (-1)).set (i86:Int).toNat (r96.length:Int))) (y:=y100) Gb O O O hy100 O O) O (JLm (I64 y100) O (G7 (ej89 _ _ (y100,((s86.2.set (i86:Int).toNat (-1)).set (i86:Int).toNat (r96.length:Int))) h ⟨(.sm O O),⟨⟨_,rfl,.vec⟩,G⟩,rfl⟩))))
       ·
        refine Gm (ej89 _ _ (s86.1,((s86.2.set (i86:Int).toNat (-1)).set (i86:Int).toNat (r96.length:Int))) h ⟨(.sm O O),⟨⟨_,rfl,.vec⟩,G⟩,rfl⟩)
      ·
       refine Gm (ej89 _ _ (s86.1,(s86.2.set (i86:Int).toNat (-1))) h ⟨(.sm O O),⟨⟨_,rfl,.vec⟩,G⟩,rfl⟩)
     ·intro j89 h
      replace h:=app1 hkj89 h
      refine G2 (JLm (Ei i86) O (JLh (I64 ((i86+1:Nat):Int)) (Ht (Hb hk86 hm58) O O O) O (JLm (I64 ((i86+1:Nat):Int)) O (G7 (e86 _ _ (i86+1) (j89.1,j89.2) (app1 hn86 h) (by omega) ⟨(.sm O O),⟨⟨_,rfl,.vec⟩,G⟩,rfl⟩)))))
    ·
     have h:=app1 hkx86 (Hk hi86 (H3 hb))
     refine Hi (hK22 (Js fun hK101=>Jr fun hK102=>(JLm (I64 s86.1) O (JLh (BL (decide (s86.1 < 0))) (Hy O O O) O (G7 (hK102 (JCc O h (fun h hb=>?_) (fun h hb=>?_))))))))
     ·
      refine Jr fun hK103=>(JLh (E4 ([]:List Slot)) (H2 3 O O) O (JLm (I64 0) O (JLm (I64 4) O (G7 (hK103 (Gq (⟨[E4 ([]:List Slot),I64 0,I64 4],[],G,O,⟨⟨_,O,.conv (.same O)⟩,⟨_,O,.conv (.same O)⟩,⟨_,O,.conv (.same O)⟩,G⟩,O,congrArg (fun r:(List Slot)×Int×Int=>(.tup [E4 r.1,I64 r.2.1,I64 r.2.2]:AV)) (Kj h)⟩)))))))
     ·
      refine Gm (hK101 (Jr fun hK104=>(JLh (OW 1042 3 Slot.av ([]:List Slot)) (G12 1042 71 3 O O O) O (G7 (hK104 (Js fun hK105=>Jr fun hK106=>(JLm (I64 0) O (G7 (hK106 (Gp ?_))))))))))
      obtain⟨b122,kx122,hb122,hkx122,h⟩:=Hv h
      refine Hc (fun i122 (s122:(List Slot))=>each b122 kx122 (List.drop i122 r17) i122 s122=some r) (fun i122 s122=>[(13,E4 r17),(14,.vec 1043 0 1 ((List.replicate m19 (0:Int)).length)),(15,I64 s86.1),(19,OW 1042 3 Slot.av s122),(20,Ei i122)]) (fun i122 s122=>[(1043,.vec 3 1 0 (s86.2.map I64)),(1042,.spare 71 3 s122.length s122.length)]) (fun i122=>r17.length - i122) 0 [] h ⟨(.sm O O),⟨⟨_,rfl,.vec⟩,⟨_,rfl,.same⟩,G⟩,rfl⟩ ?_
      clear h
      intro i122 s122 hi122 K122 e122
      refine Js fun hK123=>Jr fun hK124=>(JLm (Ei i122) O (JLm (E4 r17) O (JLl Ja O O O fun hm107=>(JLh (BL (decide ((i122:Int) < (r17.length:Int)))) (Hy O O O) O (G7 (hK124 (Gj O (fun hb=>?_) (fun hb=>?_))))))))
      ·
       have hk122:=J8 hb
       obtain⟨y122,nx122,hy122,hn122,h⟩:=Hj hi122 hk122
       replace h:=R8 hb122 h
       refine Gm (hK123 ?_)
       obtain⟨kj125,hkj125,h⟩:=G09 h
       refine Yt (fun j125:(List Slot)=>kj125 j125=some r) (fun j125=>[(13,E4 r17),(14,.vec 1043 0 1 ((List.replicate m19 (0:Int)).length)),(15,I64 s86.1),(19,OW 1042 3 Slot.av j125),(20,Ei i122)]) (fun j125=>[(1043,.vec 3 1 0 (s86.2.map I64)),(1042,.spare 71 3 j125.length j125.length)]) (fun Kj125 ej125=>?_) ?_
       ·
        refine Gp (Jr fun hK126=>(JLm (.vec 1043 0 1 ((List.replicate m19 (0:Int)).length)) O (JLm (Ei i122) O ?_)))
        obtain⟨y127,hmy127,hy127,h⟩:=Gd8 h
        refine JLh (.vptr 1043 0 ((i122:Int).toNat) 0) (H1c (f:=I64) (xs:=s86.2) (y:=y127) O O O O Gn hy127 hmy127) O (JLh (I64 y127) (Hac (f:=I64) (xs:=s86.2) (y:=y127) Gb O O O hy127 O O) O (JLm (I64 s86.1) O (JLh (BL (decide (y127=s86.1))) (Ju O O O) O (G7 (hK126 (JCc O h (fun h hb=>?_) (fun h hb=>?_)))))))
        ·
         refine G2 (JLm (OW 1042 3 Slot.av s122) O (JLm (E4 r17) O (JLm (Ei i122) O (JLh (Eg y122) (Gv (f:=Slot.av) (xs:=r17) (y:=y122) O O O Ja hy122 O) O (JLh (.agg (Slot.cs y122)) (Gg Jh O O O) O (JLh (E4 [y122]) (Ha (xs:=[.agg (Slot.cs y122)]) O ⟨O,O,G⟩ Ja G15 O O O O) O ?_))))))
         obtain⟨ha128,h⟩:=Hp h
         refine JLh (OW 1042 3 Slot.av (s122++[y122])) (Q8 (f:=Slot.av) (xs:=s122) (ys:=[y122]) O O O O Ja H02 ha128 (fun _=>O) (.inl O) O) O (JLm (OW 1042 3 Slot.av (s122++[y122])) O (G7 (ej125 _ _ (s122++[y122]) h ⟨(.sm O O),⟨⟨_,rfl,.vec⟩,⟨_,rfl,.same⟩,G⟩,rfl⟩)))
        ·
         refine Gm (ej125 _ _ s122 h ⟨(.sm O O),⟨⟨_,rfl,.vec⟩,⟨_,rfl,.same⟩,G⟩,rfl⟩)
       ·intro j125 h
        replace h:=app1 hkj125 h
        refine G2 (JLm (Ei i122) O (JLh (I64 ((i122+1:Nat):Int)) (Ht (Hb hk122 hm107) O O O) O (JLm (I64 ((i122+1:Nat):Int)) O (G7 (e122 _ _ (i122+1) j125 (app1 hn122 h) (by omega) ⟨(.sm O O),⟨⟨_,rfl,.vec⟩,⟨_,rfl,.same⟩,G⟩,rfl⟩)))))
      ·
       have h:=app1 hkx122 (Hk hi122 (H3 hb))
       refine Hi (hK105 (Jr fun hK129=>(JLm (OW 1042 3 Slot.av s122) O (JLm (I64 s86.1) O (JLm (OW 1042 3 Slot.av s122) O (JLm (I64 s86.1) O (JLm (I64 0) O (G7 (hK129 (Gq (⟨[E4 s122,I64 s86.1,I64 0],[],G,O,⟨⟨_,O,.conv (.list O)⟩,⟨_,O,.conv (.same O)⟩,⟨_,O,.conv (.same O)⟩,G⟩,O,congrArg (fun r:(List Slot)×Int×Int=>(.tup [E4 r.1,I64 r.2.1,I64 r.2.2]:AV)) (Kj h)⟩)))))))))))

def Y5 (F:Nat) (s:H0) (boxes:List Box) (l:List Stowed) (id_:Int):Option Bool:=
 bnd (Zy s boxes l) fun r4=>
 bif ((!r4)||(decide (7 < (l.length:Int)))) then
 (bnd (R1 F) fun r6=>
  some r6)
 else
 (bnd (Yo s) fun r8=>
  bnd (Y9 boxes) fun r9=>
  bnd (Rg l) fun r10=>
  bnd (Yz F (H0.mk (r8.Columns.1.map Gz.pl) (r8.Covers.1.map H9.pl) r8.Light r8.Rows.1 r8.Frames.1 (r8.Tanks.1.map Hm.pl) r8.G1) r9.1 r10.1 id_) fun r12=>
  bnd (Q9 F s boxes l id_) fun r14=>
  bnd (Y8 r12.1 r14.1) fun r16=>
  bnd (bif ((r16&&(decide (r12.2.1=r14.2.1)))&&(decide (r12.2.2=r14.2.2))) then Yq r8 s else some default) fun r17=>
  bnd (bif (((r16&&(decide (r12.2.1=r14.2.1)))&&(decide (r12.2.2=r14.2.2)))&&r17) then Yc r9 boxes else some default) fun r18=>
  bnd (bif ((((r16&&(decide (r12.2.1=r14.2.1)))&&(decide (r12.2.2=r14.2.2)))&&r17)&&r18) then Ri r10 l else some default) fun r19=>
  bnd (bif (((((r16&&(decide (r12.2.1=r14.2.1)))&&(decide (r12.2.2=r14.2.2)))&&r17)&&r18)&&r19) then R1 F else some default) fun r20=>
  some ((((((r16&&(decide (r12.2.1=r14.2.1)))&&(decide (r12.2.2=r14.2.2)))&&r17)&&r18)&&r19)&&r20))
theorem H0b (F:Nat) (s:H0) (boxes:List Box) (l:List Stowed) (id_:Int) (r:Bool) (h:Y5 F s boxes l id_=some r):Pure Ej 4 [.agg (H0.cs s),E3 boxes,E2 l,I64 id_] (·=BL r):=by
 unfold Y5 at h
 refine Gy [.tmp 8] Tryz.func4 O O (Jr fun hK1=>(JLh (.ptr 1003 0) (J7 (cs:=(H0.cs s)) 1003 O O O O O) O (JLm (BL false) O (G7 (hK1 (Gr [(1,E3 boxes),(2,E2 l),(3,I64 id_),(4,Eb s)] [] 1003 rfl rfl rfl G rfl (by repeat' (first | exact .ptr | constructor)) (Js fun hK2=>?_)))))))
 refine Jr fun hK3=>(JLh (.agg (H0.cs s)) (Gg H7 O O O) O (JLm (E3 boxes) O (JLm (E2 l) O ?_)))
 obtain⟨r4,hr4,h⟩:=Gd h
 refine JLh (BL r4) (Gi O (Gf5 s boxes l r4 hr4) Q8c ⟨O,O,O,O,O,O,G⟩) O (JLh (BL (!r4)) (Q3 (b:=r4) O O) O (JLm (BL (!r4)) O (JLo (E2 l) [] O .scf G (fun hc=>G4 O O) O (JLo (Ei l.length) [24] O .scf ⟨Ua,G⟩ (fun hc=>Qs (f:=Stowed.av) (xs:=l) Gx O O) O (JLo (BL (decide (7 < (l.length:Int)))) [25] O .scf ⟨Ua,G⟩ (fun hc=>G41 O O O) O (JLh (BL ((!r4)||(decide (7 < (l.length:Int))))) (Rs O O O O) O (G7 (hK3 (JCc O h (fun h hb=>?_) (fun h hb=>?_))))))))))
 ·
  refine Jr fun hK5=>?_
  obtain⟨r6,hr6,h⟩:=Gd h
  refine JLh (BL r6) (Gi O (G28 F r6 hr6) J11 G) O (JLm (BL r6) O (G7 (hK5 (Gq (fin1 BL h)))))
 ·
  refine Gm (hK2 (Jr fun hK7=>(JLh (.agg (H0.cs s)) (Gg H7 O O O) O ?_)))
  obtain⟨r8,hr8,h⟩:=Gd h
  refine JLh (.agg (Rq.cs r8)) (Gi O (Gba s r8 hr8) Q8b ⟨O,O,G⟩) O (JLm (E3 boxes) O ?_)
  obtain⟨r9,hr9,h⟩:=Gd h
  refine JLh (LT 9 Box.av r9) (Gi O (Ga1 boxes r9 hr9) Q8a ⟨O,O,G⟩) O (JLm (E2 l) O ?_)
  obtain⟨r10,hr10,h⟩:=Gd h
  refine JLh (LT 4 Stowed.av r10) (Gi O (G7e l r10 hr10) Q89 ⟨O,O,G⟩) O (JLh (.ptr 1004 0) (Jn 1004 13 Hde O O) O (Je (u:=.junk) (J5 (u:=.agg (Rq.cs r8)) (ds:=(Rq.cs r8)) H51 O O O O O O O O) (JLm (LT 9 Box.av r9) O (JLm (LT 4 Stowed.av r10) O (G7 (hK7 ?_))))))
  refine Gr [(1,E3 boxes),(2,E2 l),(3,I64 id_),(4,Eb s),(9,.dptr (Rq.cs r8)),(10,LT 9 Box.av r9),(11,LT 4 Stowed.av r10)] [] 1004 rfl rfl rfl G rfl (by repeat' (first | exact .ptr | constructor)) ?_
  refine Jr fun hK11=>(JLh (.agg [E5 (r8.Columns.1.map Gz.pl),E6 (r8.Covers.1.map H9.pl),I64 r8.Light.Kilos,I64 r8.Light.X,I64 r8.Light.Y,I64 r8.Light.Z,E8 r8.Rows.1,E7 r8.Frames.1,E9 (r8.Tanks.1.map Hm.pl),I64 r8.G1.Tolerance,I64 r8.G1.Trim,I64 r8.G1.List_,I64 r8.G1.Stability]) (H5.cv (Cv.aggL (cs:=(Rq.cs r8)) ⟨Cv.lstM (f:=Gz.av) (g:=G3.av) Gz.pl Gz.cvl r8.Columns,Cv.lstM (f:=H9.av) (g:=G8.av) H9.pl H9.cvl r8.Covers,.same,.same,.same,.same,Cv.lst0 r8.Rows,Cv.lst0 r8.Frames,Cv.lstM (f:=Hm.av) (g:=Gf.av) Hm.pl Hm.cvl r8.Tanks,.same,.same,.same,.same,G⟩) (Gg H7 O O O)) O (JLh (E3 r9.1) (H5.cv (Cv.lst0 r9) (G4 O O)) O (JLh (E2 r10.1) (H5.cv (Cv.lst0 r10) (G4 O O)) O (JLm (I64 id_) O ?_))))
  obtain⟨r12,hr12,h⟩:=Gd h
  refine JLh (.tup [E4 r12.1,I64 r12.2.1,I64 r12.2.2]) (Gi O (Ha9 F (H0.mk (r8.Columns.1.map Gz.pl) (r8.Covers.1.map H9.pl) r8.Light r8.Rows.1 r8.Frames.1 (r8.Tanks.1.map Hm.pl) r8.G1) r9.1 r10.1 id_ r12 hr12) Q17 ⟨O,O,O,O,O,O,O,O,G⟩) O (JLm (.tup [E4 r12.1,I64 r12.2.1,I64 r12.2.2]) O (JLh (E4 r12.1) (H4 O O O) O (JLh (I64 r12.2.1) (H4 O O O) O (JLh (I64 r12.2.2) (H4 O O O) O (JLm (E4 r12.1) O (JLm (I64 r12.2.1) O (JLm (I64 r12.2.2) O (G7 (hK11 ?_)))))))))
  refine Jr fun hK13=>(JLh (.agg (H0.cs s)) (Gg H7 O O O) O (JLm (E3 boxes) O (JLm (E2 l) O (JLm (I64 id_) O ?_))))
  obtain⟨r14,hr14,h⟩:=Gd h
  refine JLh (.tup [E4 r14.1,I64 r14.2.1,I64 r14.2.2]) (Gi O (H79 F s boxes l id_ r14 hr14) R79 ⟨O,O,O,O,O,O,O,O,G⟩) O (JLm (.tup [E4 r14.1,I64 r14.2.1,I64 r14.2.2]) O (JLh (E4 r14.1) (H4 O O O) O (JLh (I64 r14.2.1) (H4 O O O) O (JLh (I64 r14.2.2) (H4 O O O) O (JLm (E4 r14.1) O (JLm (I64 r14.2.1) O (JLm (I64 r14.2.2) O (G7 (hK13 (Jr fun hK15=>(JLm (E4 r12.1) O (JLm (E4 r14.1) O ?_))))))))))))
  obtain⟨r16,hr16,h⟩:=Gd h
  refine JLh (BL r16) (Gi O (Ga0 r12.1 r14.1 r16 hr16) Q16 ⟨O,O,O,O,G⟩) O (JLm (BL r16) O (JLo (I64 r12.2.1) [] O .sct G (fun hc=>G4 O O) O (JLo (I64 r14.2.1) [] O .sct G (fun hc=>G4 O O) O (JLo (BL (decide (r12.2.1=r14.2.1))) [57,58] O .sct ⟨Ua,Ua,G⟩ (fun hc=>Ju O O O) O (JLh (BL (r16&&(decide (r12.2.1=r14.2.1)))) (J4 O O O O) O (JLm (BL (r16&&(decide (r12.2.1=r14.2.1)))) O (JLo (I64 r12.2.2) [] O .sct G (fun hc=>G4 O O) O (JLo (I64 r14.2.2) [] O .sct G (fun hc=>G4 O O) O (JLo (BL (decide (r12.2.2=r14.2.2))) [62,63] O .sct ⟨Ua,Ua,G⟩ (fun hc=>Ju O O O) O (JLh (BL ((r16&&(decide (r12.2.1=r14.2.1)))&&(decide (r12.2.2=r14.2.2)))) (J4 O O O O) O (JLm (BL ((r16&&(decide (r12.2.1=r14.2.1)))&&(decide (r12.2.2=r14.2.2)))) O (JLo (.agg (Rq.cs r8)) [] O .sct G (fun hc=>Gg H7 O O O) O (JLo (.agg (H0.cs s)) [] O .sct G (fun hc=>Gg H7 O O O) O ?_)))))))))))))
  obtain⟨r17,hr17,h⟩:=Gd h
  refine JLo (BL r17) [67,68] O .sct ⟨Ua,Ua,G⟩ (fun hc=>Gi (args:=[.agg (Rq.cs r8),.agg (H0.cs s)]) O (Gbb r8 s r17 (Gw hc hr17)) Q1a ⟨O,O,O,O,G⟩) O (JLh (BL (((r16&&(decide (r12.2.1=r14.2.1)))&&(decide (r12.2.2=r14.2.2)))&&r17)) (J4 O O O O) O (JLm (BL (((r16&&(decide (r12.2.1=r14.2.1)))&&(decide (r12.2.2=r14.2.2)))&&r17)) O (JLo (LT 9 Box.av r9) [] O .sct G (fun hc=>G4 O O) O (JLo (E3 boxes) [] O .sct G (fun hc=>G4 O O) O ?_))))
  obtain⟨r18,hr18,h⟩:=Gd h
  refine JLo (BL r18) [72,73] O .sct ⟨Ua,Ua,G⟩ (fun hc=>Gi (args:=[LT 9 Box.av r9,E3 boxes]) O (Ga2 r9 boxes r18 (Gw hc hr18)) Q19 ⟨O,O,O,O,G⟩) O (JLh (BL ((((r16&&(decide (r12.2.1=r14.2.1)))&&(decide (r12.2.2=r14.2.2)))&&r17)&&r18)) (J4 O O O O) O (JLm (BL ((((r16&&(decide (r12.2.1=r14.2.1)))&&(decide (r12.2.2=r14.2.2)))&&r17)&&r18)) O (JLo (LT 4 Stowed.av r10) [] O .sct G (fun hc=>G4 O O) O (JLo (E2 l) [] O .sct G (fun hc=>G4 O O) O ?_))))
  obtain⟨r19,hr19,h⟩:=Gd h
  refine JLo (BL r19) [77,78] O .sct ⟨Ua,Ua,G⟩ (fun hc=>Gi (args:=[LT 4 Stowed.av r10,E2 l]) O (G7f r10 l r19 (Gw hc hr19)) Q18 ⟨O,O,O,O,G⟩) O (JLh (BL (((((r16&&(decide (r12.2.1=r14.2.1)))&&(decide (r12.2.2=r14.2.2)))&&r17)&&r18)&&r19)) (J4 O O O O) O (JLm (BL (((((r16&&(decide (r12.2.1=r14.2.1)))&&(decide (r12.2.2=r14.2.2)))&&r17)&&r18)&&r19)) O ?_))
  obtain⟨r20,hr20,h⟩:=Gd h
  refine JLo (BL r20) [] O .sct G (fun hc=>Gi (args:=[]) O (G28 F r20 (Gw hc hr20)) J11 G) O (JLh (BL ((((((r16&&(decide (r12.2.1=r14.2.1)))&&(decide (r12.2.2=r14.2.2)))&&r17)&&r18)&&r19)&&r20)) (J4 O O O O) O (JLm (BL ((((((r16&&(decide (r12.2.1=r14.2.1)))&&(decide (r12.2.2=r14.2.2)))&&r17)&&r18)&&r19)&&r20)) O (G7 (hK15 (Gq (fin1 BL h))))))
end
end Go.Proofs.YthcpolfodgjekaaGreat
