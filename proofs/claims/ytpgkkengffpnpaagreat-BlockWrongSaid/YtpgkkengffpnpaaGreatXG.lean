/-
 Models of functions of the program,and that they return what the models say.
-/
import Derived.Test.YtpgkkengffpnpaaGreatXGa
set_option linter.unnecessarySimpa false
set_option maxRecDepth 100000
set_option maxHeartbeats 1000000
set_option linter.unusedVariables false
set_option linter.unusedSimpArgs false
namespace Go.Proofs.YtpgkkengffpnpaaGreat
open Go.RowKit
noncomputable section
open XAF
open XCF
open XGF

def G43 (self_:(List Int)→(H8 Int Unit)→(List Stowed)→Gp→Option (H8 Int Unit)) (F:Nat) (ids:List Int) (p1:H8 Int Unit) (p2:List Stowed) (p4:Gp):Option (H8 Int Unit):=
 each (fun y102 i102 (s102:(H8 Int Unit)) nx102=>
  jp (fun kj105=>
   bif (H8.has s102 y102) then
   (kj105 s102)
   else
   (bnd (G1e p2 y102) fun r113=>
    bnd (self_ r113.1 (H8.put s102 y102 ()) p2 p4) fun r115=>
    bnd (Rq p2 y102) fun r117=>
    Z2 p2 r117 fun y118=>
    bnd (G4f p4 y118.Slot.G4) fun r120=>
    bif decide (0≤r120) then
    (bnd (G74 p4 p2 r120) fun r122=>
     bnd (self_ r122 r115 p2 p4) fun r123=>
     kj105 r123)
    else
    (kj105 r115))) fun(j105:(H8 Int Unit))=>
  nx102 j105)
 (fun(s102:(H8 Int Unit))=>
  some s102) ids 0 p1
def Ys:Nat→(List Int)→(H8 Int Unit)→(List Stowed)→Gp→Option (H8 Int Unit)
 | 0,_,_,_,_=>none
 | F+1,ids,p1,p2,p4=>G43 (Ys F) F ids p1 p2 p4
theorem J09 (self_:(List Int)→(H8 Int Unit)→(List Stowed)→Gp→Option (H8 Int Unit)) (self_w:∀ (ids:List Int) (p1:H8 Int Unit) (p2:List Stowed) (p4:Gp) (r:(H8 Int Unit)),self_ ids p1 p2 p4=some r→Qx Ek 54 [E0 ids,.ptr 1070 0,.dptr [E1 p2],.ptr 1071 0,Ec p4] [(1070,.box 115 [.mp 1073]),(1073,MP 115 (fun n:Int=>Value.int .i64 n) (fun _:Unit=>.agg []) p1),(1071,.box 77 [.fn 54 [.ptr 1070 0,.dptr [E1 p2],.ptr 1071 0,Ec p4]])] (fun av L'=>av=.tup []∧L'=[(1070,.box 115 [.mp 1073]),(1073,MP 115 (fun n:Int=>Value.int .i64 n) (fun _:Unit=>.agg []) r),(1071,.box 77 [.fn 54 [.ptr 1070 0,.dptr [E1 p2],.ptr 1071 0,Ec p4]])])) (F:Nat) (ids:List Int) (p1:H8 Int Unit) (p2:List Stowed) (p4:Gp) (r:(H8 Int Unit)) (h:G43 self_ F ids p1 p2 p4=some r):Qx Ek 54 [E0 ids,.ptr 1070 0,.dptr [E1 p2],.ptr 1071 0,Ec p4] [(1070,.box 115 [.mp 1073]),(1073,MP 115 (fun n:Int=>Value.int .i64 n) (fun _:Unit=>.agg []) p1),(1071,.box 77 [.fn 54 [.ptr 1070 0,.dptr [E1 p2],.ptr 1071 0,Ec p4]])] (fun av L'=>av=.tup []∧L'=[(1070,.box 115 [.mp 1073]),(1073,MP 115 (fun n:Int=>Value.int .i64 n) (fun _:Unit=>.agg []) r),(1071,.box 77 [.fn 54 [.ptr 1070 0,.dptr [E1 p2],.ptr 1071 0,Ec p4]])]):=by
 unfold G43 at h
 refine G21 [1070,1073,1071] [] Tryz.func54 O O (Hcd O) (Jr fun hK1=>(Yv (E0 ids) O (JLl Gq O O O fun hm14=>(Yv (G0 0) O (G7 (hK1 (Gw ?_)))))))
 obtain⟨b102,kx102,hb102,hkx102,h⟩:=J0 h
 refine Hp (fun i102 (s102:(H8 Int Unit))=>each b102 kx102 (List.drop i102 ids) i102 s102=some r) (fun i102 s102=>[(1,.ptr 1070 0),(2,.dptr [E1 p2]),(3,.ptr 1071 0),(4,Ec p4),(13,E0 ids),(14,Ej ids.length),(15,Ej i102)]) (fun i102 s102=>[(1073,MP 115 (fun n:Int=>Value.int .i64 n) (fun _:Unit=>.agg []) s102),(1070,.box 115 [.mp 1073]),(1071,.box 77 [.fn 54 [.ptr 1070 0,.dptr [E1 p2],.ptr 1071 0,Ec p4]])]) (fun i102=>ids.length - i102) 0 p1 h ⟨(by repeat' constructor),⟨⟨_,rfl,.map⟩,⟨_,rfl,.boxL rfl ⟨.same rfl,G⟩⟩,⟨_,rfl,.boxL rfl ⟨.same rfl,G⟩⟩,G⟩,rfl⟩ ?_
 clear h
 intro i102 s102 hi102 K102 e102
 refine Jr fun hK103=>(JLh (BL (decide ((i102:Int) < (ids.length:Int)))) (Jb O O O) O (G7 (hK103 (Js fun hK104=>Gm O (fun hb=>?_) (fun hb=>?_)))))
 ·
  have hk102:=Jk hb
  obtain⟨y102,nx102,hy102,hn102,h⟩:=Hq hi102 hk102
  replace h:=Ya hb102 h
  refine Gr (hK104 ?_)
  obtain⟨kj105,hkj105,h⟩:=Rm h
  refine Qr (fun j105:(H8 Int Unit)=>kj105 j105=some r) (fun j105=>[(1,.ptr 1070 0),(2,.dptr [E1 p2]),(3,.ptr 1071 0),(4,Ec p4),(13,E0 ids),(14,Ej ids.length),(15,Ej i102)]) (fun j105=>[(1073,MP 115 (fun n:Int=>Value.int .i64 n) (fun _:Unit=>.agg []) j105),(1070,.box 115 [.mp 1073]),(1071,.box 77 [.fn 54 [.ptr 1070 0,.dptr [E1 p2],.ptr 1071 0,Ec p4]])]) (fun Kj105 ej105=>?_) ?_
  ·
   refine Gw (Jr fun hK106=>(JLh (.dptr [G0 y102]) (Hb (f:=G0) (xs:=ids) (y:=y102) O O O Gq hy102 O) O (JLh (G0 y102) (Gj Gb O O O) O (Yv (G0 y102) O (G7 (hK106 (Js fun hK107=>Jr fun hK108=>(JLh (.mp 1073) (R9 H01 O O O O) O (Yv (G0 y102) O (JLh (.tup [.agg [],BL (H8.has s102 y102)]) (Q15 (av:=(fun _:Unit=>.agg [])) (m:=s102) (a:=y102) () (.agg #[]) O O O O tk_3 H95 tf_zv_116 O) O (Yv (.tup [.agg [],BL (H8.has s102 y102)]) O (JLh (.agg []) (Gn O O O) O (JLh (BL (H8.has s102 y102)) (Gn O O O) O (JLh (.ptr 1126 0) (Hu 1126 0 Jbe O O) O (Hw (u:=.junk) (A_store0 (u:=.agg []) Jce O O O O O O) (Yv (BL (H8.has s102 y102)) O (G7 (hK108 ?_))))))))))))))))))
   refine Gt [(1,.ptr 1070 0),(2,.dptr [E1 p2]),(3,.ptr 1071 0),(4,Ec p4),(7,G0 y102),(9,BL (H8.has s102 y102)),(13,E0 ids),(14,Ej ids.length),(15,Ej i102)] [(1073,MP 115 (fun n:Int=>Value.int .i64 n) (fun _:Unit=>.agg []) s102),(1070,.box 115 [.mp 1073]),(1071,.box 77 [.fn 54 [.ptr 1070 0,.dptr [E1 p2],.ptr 1071 0,Ec p4]])] 1126 rfl rfl rfl ⟨⟨_,rfl,.map⟩,⟨_,rfl,.boxEq rfl rfl⟩,⟨_,rfl,.boxEq rfl rfl⟩,G⟩ rfl (by repeat' (first | exact .ptr | constructor)) (Jr fun hK110=>(Yv (BL (H8.has s102 y102)) O (G7 (hK110 (JCc O h (fun h hb=>?_) (fun h hb=>?_))))))
   ·
    refine Ht (ej105 _ _ s102 h ⟨(by repeat' constructor),⟨⟨_,rfl,.map⟩,⟨_,rfl,.boxL rfl ⟨.same rfl,G⟩⟩,⟨_,rfl,.boxL rfl ⟨.same rfl,G⟩⟩,G⟩,rfl⟩)
   ·
    refine Gr (hK107 (Jr fun hK111=>(JLh (.mp 1073) (R9 H01 O O O O) O (Yv (G0 y102) O (JLh (.agg []) (Hz (cs:=[]) [] [] [] Jb3 Jcc G O O) O (Hw (u:=.junk) (He4 (m:=s102) (a:=y102) (v:=()) O O O O O O tk_3 H95) (G7 (hK111 (Jr fun hK112=>(JLh (E1 p2) (Gj Qk O O O) O (Yv (G0 y102) O ?_)))))))))))
    obtain⟨r113,hr113,h⟩:=Gd h
    refine JLh (.tup [E0 r113.1,G0 r113.2]) (Gu O (H5f p2 y102 r113 hr113) J58 ⟨O,O,O,O,G⟩) O (Yv (.tup [E0 r113.1,G0 r113.2]) O (JLh (E0 r113.1) (Gn O O O) O (JLh (G0 r113.2) (Gn O O O) O (Yv (E0 r113.1) O (Yv (G0 r113.2) O (G7 (hK112 (Jr fun hK114=>(JLh (.fn 54 [.ptr 1070 0,.dptr [E1 p2],.ptr 1071 0,Ec p4]) (R9 H1d O O O O) O (Yv (E0 r113.1) O ?_))))))))))
    obtain⟨r115,hr115,h⟩:=Gd h
    refine JLh (.tup []) (Jb2 (args:=[E0 r113.1]) (caps:=[.ptr 1070 0,.dptr [E1 p2],.ptr 1071 0,Ec p4]) (L0:=[(1070,.box 115 [.mp 1073]),(1073,MP 115 (fun n:Int=>Value.int .i64 n) (fun _:Unit=>.agg []) (H8.put s102 y102 ())),(1071,.box 77 [.fn 54 [.ptr 1070 0,.dptr [E1 p2],.ptr 1071 0,Ec p4]])]) (Lr:=[(1070,.box 115 [.mp 1073]),(1073,MP 115 (fun n:Int=>Value.int .i64 n) (fun _:Unit=>.agg []) r115),(1071,.box 77 [.fn 54 [.ptr 1070 0,.dptr [E1 p2],.ptr 1071 0,Ec p4]])]) O O (self_w r113.1 (H8.put s102 y102 ()) p2 p4 r115 hr115) H9a ⟨.inl O,O,G⟩ O ⟨O,O,O,G⟩ O O O) O (G7 (hK114 (Js fun hK116=>?_)))
    refine Yk (l':=[(1,.ptr 1070 0),(2,.dptr [E1 p2]),(3,.ptr 1071 0),(4,Ec p4),(7,G0 y102),(13,E0 ids),(14,Ej ids.length),(15,Ej i102)]) (L':=[(1073,MP 115 (fun n:Int=>Value.int .i64 n) (fun _:Unit=>.agg []) r115),(1070,.box 115 [.mp 1073]),(1071,.box 77 [.fn 54 [.ptr 1070 0,.dptr [E1 p2],.ptr 1071 0,Ec p4]])]) ⟨(by repeat' constructor),⟨⟨_,rfl,.map⟩,⟨_,rfl,.boxL rfl ⟨.same rfl,G⟩⟩,⟨_,rfl,.boxL rfl ⟨.same rfl,G⟩⟩,G⟩,rfl⟩ ?_
    obtain⟨r117,hr117,h⟩:=Gd h
    obtain⟨m119,y118,hm119,hy118,h⟩:=Z5 h
    obtain⟨r120,hr120,h⟩:=Gd h
    refine JC_d0 Qg (by kernel_rfl) (Dq (.agg (Gp.cs p4)) (Gh H5 O O O) O (Dq (E1 p2) (Gj Qk O O O) O (Dq (E1 p2) (Gj Qk O O O) O (Dq (G0 y102) (G5 O O) O (Dq (G0 r117) (Gu (args:=[E1 p2,G0 y102]) O (G29 p2 y102 r117 hr117) G93 ⟨O,O,O,O,G⟩) O (Dq (Ed y118) (Hb (f:=Stowed.av) (xs:=p2) (y:=y118) O O O H2 hy118 hm119) O (Dq (.dptr ((Stowed.cs y118).drop 1)) (Gf Jq O O O) O (Dq (.dptr ((Stowed.cs y118).drop 1)) (Gf Jy O O O) O (Dq (G0 y118.Slot.G4) (Gj Gb O O O) O (Dq (G0 r120) (Gu (args:=[.agg (Gp.cs p4),G0 y118.Slot.G4]) O (H5e p4 y118.Slot.G4 r120 hr120) J57 ⟨O,O,O,O,G⟩) O (Dq (G0 r120) (G8 O O) O (Dnil ?_))))))))))))
    refine hK116 (Jr fun hK121=>(Yv (G0 r120) O (JLh (BL (decide (0≤r120))) (Gb4 O O O) O (G7 (hK121 (JCc O h (fun h hb=>?_) (fun h hb=>?_)))))))
    ·
     refine Yk (l':=[(1,.ptr 1070 0),(2,.dptr [E1 p2]),(3,.ptr 1071 0),(4,Ec p4),(12,G0 r120),(13,E0 ids),(14,Ej ids.length),(15,Ej i102)]) (L':=[(1073,MP 115 (fun n:Int=>Value.int .i64 n) (fun _:Unit=>.agg []) r115),(1070,.box 115 [.mp 1073]),(1071,.box 77 [.fn 54 [.ptr 1070 0,.dptr [E1 p2],.ptr 1071 0,Ec p4]])]) ⟨(by repeat' constructor),⟨⟨_,rfl,.map⟩,⟨_,rfl,.boxL rfl ⟨.same rfl,G⟩⟩,⟨_,rfl,.boxL rfl ⟨.same rfl,G⟩⟩,G⟩,rfl⟩ ?_
     obtain⟨r122,hr122,h⟩:=Gd h
     obtain⟨r123,hr123,h⟩:=Gd h
     refine Qa [5] [0,0,0,0,0,0] [0,0,0,0,0,0] [[(1073,MP 115 (fun n:Int=>Value.int .i64 n) (fun _:Unit=>.agg []) r115),(1070,.box 115 [.mp 1073]),(1071,.box 77 [.fn 54 [.ptr 1070 0,.dptr [E1 p2],.ptr 1071 0,Ec p4]])],((1073,MP 115 (fun n:Int=>Value.int .i64 n) (fun _:Unit=>.agg []) r123)::[(1073,MP 115 (fun n:Int=>Value.int .i64 n) (fun _:Unit=>.agg []) r115),(1070,.box 115 [.mp 1073]),(1071,.box 77 [.fn 54 [.ptr 1070 0,.dptr [E1 p2],.ptr 1071 0,Ec p4]])])] Qg (by kernel_rfl) rfl rfl ?_
     refine Gv (u:=.fn 54 [.ptr 1070 0,.dptr [E1 p2],.ptr 1071 0,Ec p4]) O O ⟨Gz (R9 H1d O O O O) O,G⟩ (Gv (u:=.agg (Gp.cs p4)) O O ⟨Gz (Gh H5 O O O) O,G⟩ (Gv (u:=E1 p2) O O ⟨Gz (Gj Qk O O O) O,G⟩ (Gv (u:=G0 r120) O O ⟨Gz (G5 O O) O,G⟩ (Gv (u:=E0 r122) O O ⟨Gz (Gu O (H8c p4 p2 r120 r122 hr122) J5a ⟨O,O,O,O,O,O,G⟩) O,G⟩ (D_w (u:=.tup []) O O O O (G54.locEq (Gz (Jb2 (args:=[E0 r122]) (caps:=[.ptr 1070 0,.dptr [E1 p2],.ptr 1071 0,Ec p4]) (L0:=[(1070,.box 115 [.mp 1073]),(1073,MP 115 (fun n:Int=>Value.int .i64 n) (fun _:Unit=>.agg []) r115),(1071,.box 77 [.fn 54 [.ptr 1070 0,.dptr [E1 p2],.ptr 1071 0,Ec p4]])]) (Lr:=[(1070,.box 115 [.mp 1073]),(1073,MP 115 (fun n:Int=>Value.int .i64 n) (fun _:Unit=>.agg []) r123),(1071,.box 77 [.fn 54 [.ptr 1070 0,.dptr [E1 p2],.ptr 1071 0,Ec p4]])]) O O (self_w r122 r115 p2 p4 r123 hr123) H9a ⟨.inl O,O,G⟩ O ⟨O,O,O,G⟩ O O O) O) (Ge8.of [1073,1070,1071] O O ⟨O,O,O,G⟩)) (Z8 ?_))))))
     exact ej105 _ _ r123 h ⟨(by repeat' constructor),⟨⟨_,rfl,.map⟩,⟨_,rfl,.boxL rfl ⟨.same rfl,G⟩⟩,⟨_,rfl,.boxL rfl ⟨.same rfl,G⟩⟩,G⟩,rfl⟩
    ·
     refine Gr (ej105 _ _ r115 h ⟨(by repeat' constructor),⟨⟨_,rfl,.map⟩,⟨_,rfl,.boxL rfl ⟨.same rfl,G⟩⟩,⟨_,rfl,.boxL rfl ⟨.same rfl,G⟩⟩,G⟩,rfl⟩)
  ·intro j105 h
   replace h:=app1 hkj105 h
   refine G3 (JLh (G0 ((i102+1:Nat):Int)) (Hx (Ho hk102 hm14) O O O) O (Yv (G0 ((i102+1:Nat):Int)) O (G7 (e102 _ _ (i102+1) j105 (app1 hn102 h) (by omega) ⟨(by repeat' constructor),⟨⟨_,rfl,.map⟩,⟨_,rfl,.boxL rfl ⟨.same rfl,G⟩⟩,⟨_,rfl,.boxL rfl ⟨.same rfl,G⟩⟩,G⟩,rfl⟩))))
 ·
  have h:=app1 hkx102 (Hr hi102 (Hc hb))
  refine Ht ?_
  obtain rfl:=Option.some.inj h
  exact⟨[],[(1070,.box 115 [.mp 1073]),(1073,MP 115 (fun n:Int=>Value.int .i64 n) (fun _:Unit=>.agg []) s102),(1071,.box 77 [.fn 54 [.ptr 1070 0,.dptr [E1 p2],.ptr 1071 0,Ec p4]])],⟨⟨_,O,.boxL O ⟨.same O,G⟩⟩,⟨_,O,.map⟩,⟨_,O,.boxL O ⟨.same O,G⟩⟩,G⟩,O,G,O,O⟩
theorem J01:∀ (F:Nat) (ids:List Int) (p1:H8 Int Unit) (p2:List Stowed) (p4:Gp) (r:(H8 Int Unit)) (h:Ys F ids p1 p2 p4=some r),Qx Ek 54 [E0 ids,.ptr 1070 0,.dptr [E1 p2],.ptr 1071 0,Ec p4] [(1070,.box 115 [.mp 1073]),(1073,MP 115 (fun n:Int=>Value.int .i64 n) (fun _:Unit=>.agg []) p1),(1071,.box 77 [.fn 54 [.ptr 1070 0,.dptr [E1 p2],.ptr 1071 0,Ec p4]])] (fun av L'=>av=.tup []∧L'=[(1070,.box 115 [.mp 1073]),(1073,MP 115 (fun n:Int=>Value.int .i64 n) (fun _:Unit=>.agg []) r),(1071,.box 77 [.fn 54 [.ptr 1070 0,.dptr [E1 p2],.ptr 1071 0,Ec p4]])]):=by
 intro F
 induction F with
 | zero=>intro ids p1 p2 p4 r h; cases h
 | succ F ih=>intro ids p1 p2 p4 r h; exact J09 (Ys F) ih F ids p1 p2 p4 r h

def G88 (F:Nat) (s:Gp) (boxes:List G9) (l:List Stowed) (ids:List Int) (Rp:((List Int)×Int)→Prop):Option Prop:=
 bnd (Qp s boxes l []) fun r4=>
 bif (!r4) then
 (some (Rp ([],2)))
 else
 (each (fun y27 i27 (s27:Unit) nx27=>
   bnd (Rq l y27) fun r33=>
   bif decide (r33 < 0) then
   (some (Rp ([],6)))
   else
   (nx27 ()))
  (fun(s27:Unit)=>
   bnd (Ys F ids (H8.empty:H8 Int Unit) l s) fun r36=>
   J89 (fun(x48:Int×Unit) (s48:(List Int)) nx48=>
    need (decide ((s48.length+[x48.1].length)*8≤140737488355328∧s48.length+[x48.1].length≤maxLen)) <|
    nx48 (s48++[x48.1]))
   (fun(s48:(List Int))=>
    bnd (G3b s48) fun r55=>
    some (Rp (r55,0))) (H8.l r36) []) ids 0 ())
theorem J99 (F:Nat) (s:Gp) (boxes:List G9) (l:List Stowed) (ids:List Int) (Rp:((List Int)×Int)→Prop) (p:Prop) (h:G88 F s boxes l ids Rp=some p) (hp:p):Pure Ek 23 [.agg (Gp.cs s),E2 boxes,E1 l,E0 ids] (fun av=>∃ r,Rp r∧av=.tup [E0 r.1,G0 r.2]):=by
 unfold G88 at h
 refine H6 [.tmp 8,.tmp 9] Tryz.func23 O O (Jr fun hK1=>(JLh (.ptr 1068 0) (Jn (cs:=(Gp.cs s)) 1068 O O O O O) O (JLh (.ptr 1069 0) (Jn (cs:=[E1 l]) 1069 O O O O O) O (JLh (E0 ([]:List Int)) (Hf 1 O O) O (Yv (G0 0) O (G7 (hK1 ?_)))))))
 refine Gt [(1,E2 boxes),(3,E0 ids),(4,Ec s),(6,.ptr 1069 0)] [(1069,.box 37 [E1 l])] 1068 rfl rfl rfl ⟨⟨_,rfl,.boxEq rfl rfl⟩,G⟩ rfl (by repeat' (first | exact .ptr | constructor)) ?_
 refine Gt [(1,E2 boxes),(3,E0 ids),(4,Ec s),(6,.dptr [E1 l])] [] 1069 rfl rfl rfl G rfl (by repeat' (first | exact .ptr | constructor)) (Js fun hK2=>Jr fun hK3=>(JLh (.agg (Gp.cs s)) (Gh H5 O O O) O (Yv (E2 boxes) O (JLh (E1 l) (Gj Qk O O O) O ?_))))
 obtain⟨r4,hr4,h⟩:=Gd h
 refine JLh (BL r4) (He6 (args:=[.agg (Gp.cs s),E2 boxes,E1 l,E0 ([]:List Int)]) O (G50 s boxes l [] r4 hr4) H1f ⟨.inl O,O,.inl O,O,.inl O,O,.inr ⟨_,O,O⟩,O,G⟩) O (JLh (BL (!r4)) (Ru (b:=r4) O O) O (G7 (hK3 (JCc O h (fun h hb=>?_) (fun h hb=>?_)))))
 ·
  refine Jr fun hK5=>(JLh (E0 ([]:List Int)) (Hf 1 O O) O (Yv (G0 2) O (G7 (hK5 (Gx (⟨[E0 ([]:List Int),G0 2],[],G,O,⟨⟨_,O,.conv (.same O)⟩,⟨_,O,.conv (.same O)⟩,G⟩,O,([],2),Eq.mpr (Option.some.inj h) hp,O⟩))))))
 ·
  refine Gr (hK2 (Jr fun hK6=>(JLh (.mp 1073) (H33 1073 (fun n:Int=>Value.int .i64 n) (fun _:Unit=>.agg []) O O) O (JLh (.ptr 1070 0) (Hu 1070 1 Jbf O O) O (Hw (u:=.junk) (Hj (u:=.mp 1073) (ds:=[.mp 1073]) Jcf O O O O O O O O) (G7 (hK6 (Jr fun hK7=>(JLh (.ptr 1071 0) (Hu 1071 1 Jca O O) O (G7 (hK7 ?_)))))))))))
  refine Jr fun hK8=>(JLh (.fn 54 [.ptr 1070 0,.dptr [E1 l],.ptr 1071 0,Ec s]) (Yg (cs:=[.ptr 1070 0,.dptr [E1 l],.ptr 1071 0,Ec s]) O O) O (Hw (u:=.junk) (Hj (u:=.fn 54 [.ptr 1070 0,.dptr [E1 l],.ptr 1071 0,Ec s]) (ds:=[.fn 54 [.ptr 1070 0,.dptr [E1 l],.ptr 1071 0,Ec s]]) Jea O O O O O O O O) (G7 (hK8 ?_))))
  refine Js fun hK9=>Jr fun hK10=>(Yv (E0 ids) O (JLl Gq O O O fun hm24=>(Yv (G0 0) O (G7 (hK10 (Gw ?_))))))
  obtain⟨b27,kx27,hb27,hkx27,h⟩:=J0 h
  refine Hp (fun i27 (s27:Unit)=>each b27 kx27 (List.drop i27 ids) i27 s27=some p) (fun i27 s27=>[(3,E0 ids),(6,.dptr [E1 l]),(10,.ptr 1070 0),(11,.ptr 1071 0),(23,E0 ids),(24,Ej ids.length),(25,Ej i27)]) (fun i27 s27=>[(1073,MP 115 (fun n:Int=>Value.int .i64 n) (fun _:Unit=>.agg []) (H8.empty:H8 Int Unit)),(1070,.box 115 [.mp 1073]),(1071,.box 77 [.fn 54 [.ptr 1070 0,.dptr [E1 l],.ptr 1071 0,Ec s]])]) (fun i27=>ids.length - i27) 0 () h ⟨(by repeat' constructor),⟨⟨_,rfl,.map⟩,⟨_,rfl,.boxL rfl ⟨.same rfl,G⟩⟩,⟨_,rfl,.boxL rfl ⟨.same rfl,G⟩⟩,G⟩,rfl⟩ ?_
  clear h
  intro i27 s27 hi27 K27 e27
  refine Jr fun hK28=>(JLh (BL (decide ((i27:Int) < (ids.length:Int)))) (Jb O O O) O (G7 (hK28 (Js fun hK29=>Gm O (fun hb=>?_) (fun hb=>?_)))))
  ·
   have hk27:=Jk hb
   obtain⟨y27,nx27,hy27,hn27,h⟩:=Hq hi27 hk27
   replace h:=Ya hb27 h
   refine Gr (hK29 (Js fun hK30=>Gw (Jr fun hK31=>(JLh (.dptr [G0 y27]) (Hb (f:=G0) (xs:=ids) (y:=y27) O O O Gq hy27 O) O (JLh (G0 y27) (Gj Gb O O O) O (Yv (G0 y27) O (G7 (hK31 (Jr fun hK32=>(JLh (E1 l) (Gj Qk O O O) O (Yv (G0 y27) O ?_)))))))))))
   obtain⟨r33,hr33,h⟩:=Gd h
   refine JLh (G0 r33) (Gu O (G29 l y27 r33 hr33) G93 ⟨O,O,O,O,G⟩) O (JLh (BL (decide (r33 < 0))) (Jb O O O) O (G7 (hK32 (JCc O h (fun h hb=>?_) (fun h hb=>?_)))))
   ·
    refine Jr fun hK34=>(JLh (E0 ([]:List Int)) (Hf 1 O O) O (Yv (G0 6) O (G7 (hK34 (Gx (⟨[E0 ([]:List Int),G0 6],[],G,O,⟨⟨_,O,.conv (.same O)⟩,⟨_,O,.conv (.same O)⟩,G⟩,O,([],6),Eq.mpr (Option.some.inj h) hp,O⟩))))))
   ·
    refine Gr (hK30 (G3 (JLh (G0 ((i27+1:Nat):Int)) (Hx (Ho hk27 hm24) O O O) O (Yv (G0 ((i27+1:Nat):Int)) O (G7 (e27 _ _ (i27+1) () (app1 hn27 h) (by omega) ⟨(by repeat' constructor),⟨⟨_,rfl,.map⟩,⟨_,rfl,.boxL rfl ⟨.same rfl,G⟩⟩,⟨_,rfl,.boxL rfl ⟨.same rfl,G⟩⟩,G⟩,rfl⟩))))))
  ·
   have h:=app1 hkx27 (Hr hi27 (Hc hb))
   refine Ht (hK9 (Jr fun hK35=>(JLh (.fn 54 [.ptr 1070 0,.dptr [E1 l],.ptr 1071 0,Ec s]) (R9 H1d O O O O) O (Yv (E0 ids) O ?_))))
   obtain⟨r36,hr36,h⟩:=Gd h
   refine JLh (.tup []) (Jb2 (args:=[E0 ids]) (caps:=[.ptr 1070 0,.dptr [E1 l],.ptr 1071 0,Ec s]) (L0:=[(1070,.box 115 [.mp 1073]),(1073,MP 115 (fun n:Int=>Value.int .i64 n) (fun _:Unit=>.agg []) (H8.empty:H8 Int Unit)),(1071,.box 77 [.fn 54 [.ptr 1070 0,.dptr [E1 l],.ptr 1071 0,Ec s]])]) (Lr:=[(1070,.box 115 [.mp 1073]),(1073,MP 115 (fun n:Int=>Value.int .i64 n) (fun _:Unit=>.agg []) r36),(1071,.box 77 [.fn 54 [.ptr 1070 0,.dptr [E1 l],.ptr 1071 0,Ec s]])]) O O (J01 F ids (H8.empty:H8 Int Unit) l s r36 hr36) H9a ⟨.inl O,O,G⟩ O ⟨O,O,O,G⟩ O O O) O (G7 (hK35 ?_))
   refine Jr fun hK37=>(JLh (.vec 1072 (([]:List Int).length) 1 (([]:List Int).length)) (Haf 1072 3 1 O O O) O (G7 (hK37 (Js fun hK38=>Jr fun hK39=>(JLh (.mp 1073) (R9 H01 O O O O) O (JLh (.it 1074) (Jac 1074 (m:=r36) O O O O H95) O (G7 (hK39 (Gw ?_)))))))))
   obtain⟨b48,kx48,hb48,hkx48,h⟩:=J88 h
   refine Ja4 (H8.size r36) (fun i48 (s48:(List Int))=>MInv b48 kx48 (H8.l r36) i48 s48) (fun i48 s48=>[(14,.vec 1072 s48.length 1 s48.length),(38,.it 1074)]) (fun i48 s48=>[(1073,MP 115 (fun n:Int=>Value.int .i64 n) (fun _:Unit=>.agg []) r36),(1072,.vec 3 1 s48.length (s48.map G0)),(1074,.iter 1073 (H8.size r36) i48),(1070,.box 115 [.mp 1073]),(1071,.box 77 [.fn 54 [.ptr 1070 0,.dptr [E1 l],.ptr 1071 0,Ec s]])]) [] (MInv.start h hp) ⟨⟨.same O,.same O,G⟩,⟨⟨_,O,.map⟩,⟨_,O,.vec⟩,⟨_,O,.iter O⟩,⟨_,O,.boxL O ⟨.same O,G⟩⟩,⟨_,O,.boxL O ⟨.same O,G⟩⟩,G⟩,O⟩ ?_
   clear h hp
   intro i48 s48 hi48 K48 e48
   refine Jr fun hK49=>G68 O O O (Jc5 (m:=r36) O O O O) ?_
   intro u_ L_ hn_
   rcases hn_ with ⟨q48,x48,he48,hs48,rfl,rfl⟩ | ⟨ha48,rfl,rfl⟩
   ·
    obtain⟨o48,h,ho1_48,ho2_48⟩:=hi48.step he48 hs48
    replace h:=app3 hb48 h
    refine JLh (BL true) (Gn O O O) O (G7 (hK49 (Js fun hK50=>Ja5 O (Gr (hK50 (Gw (Jr fun hK51=>(JLh (.tup [G0 x48.1,.agg []]) (Jb0 (kv:=(fun n:Int=>Value.int .i64 n)) (av:=(fun _:Unit=>.agg [])) (m:=r36) (q:=q48) (seen:=i48) (e:=x48) O O O O he48) O (JLh (G0 x48.1) (Gn O O O) O (Yv (G0 x48.1) O (G7 (hK51 (G3 (Yv (.vec 1072 s48.length 1 s48.length) O (Yv (G0 x48.1) O (JLh (E0 [x48.1]) (H9 (xs:=[G0 x48.1]) O ⟨O,O,G⟩ Gq Q1 O O O O) O ?_))))))))))))))))
    obtain⟨ha52,h⟩:=J7 h
    refine JLh (.vec 1072 ((s48++[x48.1]).length) 1 ((s48++[x48.1]).length)) (G44 (f:=G0) (xs:=s48) (ys:=[x48.1]) (ver:=s48.length) (ver1:=(s48++[x48.1]).length) rfl rfl rfl rfl Gq Zp ha52 (fun _=>rfl) (.inl rfl) (by simp)) O (Yv (.vec 1072 ((s48++[x48.1]).length) 1 ((s48++[x48.1]).length)) O (G7 (e48 _ _ (i48++[q48]) (s48++[x48.1]) (ho2_48 _ (Option.some.inj h).symm) (Hea (List.getElem?_eq_some_iff.1 he48).1 hs48) ⟨⟨.same O,.same O,G⟩,⟨⟨_,O,.map⟩,⟨_,O,.vec⟩,⟨_,O,.iter O⟩,⟨_,O,.boxL O ⟨.same O,G⟩⟩,⟨_,O,.boxL O ⟨.same O,G⟩⟩,G⟩,O⟩)))
   ·
    obtain⟨p_,h,hp⟩:=hi48.done ha48
    replace h:=app1 hkx48 h
    refine JLh (BL false) (Gn O O O) O (G7 (hK49 (Js fun hK53=>Ja6 O (Ht (hK38 (Jr fun hK54=>(Yv (.vec 1072 s48.length 1 s48.length) O ?_)))))))
    obtain⟨r55,hr55,h⟩:=Gd h
    refine JLh (.tup []) (A_sortI (F:=25) (xs:=s48) (r:=r55) O J13 Hbd J63 O O O hr55 O) O (G7 (hK54 (Jr fun hK56=>(Yv (.vec 1072 s48.length 1 s48.length) O (Yv (.vec 1072 s48.length 1 s48.length) O (Yv (G0 0) O (G7 (hK56 (Had [(8,E0 r55),(9,G0 0)] [] 1072 rfl rfl G rfl (by exact⟨.vec,.conv (.same rfl),G⟩) (Gx (⟨[E0 r55,G0 0],[],G,O,⟨⟨_,O,.conv (.same O)⟩,⟨_,O,.conv (.same O)⟩,G⟩,O,(r55,0),Eq.mpr (Option.some.inj h) hp,O⟩)))))))))))
theorem J9a (S_:Nat→(Gp)→(List G9)→(List Stowed)→(List Int)→Option ((List Int)×Int)) (hS_:∀ F s boxes l ids r,S_ F s boxes l ids=some r→∃ p:Prop,G88 F s boxes l ids (fun r_=>r_=r)=some p∧p) (F:Nat) (s:Gp) (boxes:List G9) (l:List Stowed) (ids:List Int) (r:(List Int)×Int) (h:S_ F s boxes l ids=some r):Pure Ek 23 [.agg (Gp.cs s),E2 boxes,E1 l,E0 ids] (·=.tup [E0 r.1,G0 r.2]):=by
 obtain⟨p,h1,h2⟩:=hS_ F s boxes l ids r h
 exact(J99 F s boxes l ids _ p h1 h2).monoP (fun av hh=>by obtain⟨r_,rfl,ha⟩:=hh; exact ha)
end
end Go.Proofs.YtpgkkengffpnpaaGreat
