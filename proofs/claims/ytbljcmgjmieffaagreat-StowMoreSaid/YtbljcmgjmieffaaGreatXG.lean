/-
 Models of functions of the program,and that they return what the models say.
-/
import Derived.Test.YtbljcmgjmieffaaGreatXGa
set_option linter.unnecessarySimpa false
set_option maxRecDepth 100000
set_option linter.unusedVariables false
set_option linter.unusedSimpArgs false
namespace Go.Proofs.YtbljcmgjmieffaaGreat
open Go.RowKit
noncomputable section
open XAF
open XCF
open XGF

def Zm (self_:(List Int)→(H5 Int Unit)→(List Stowed)→Gw→Option (H5 Int Unit)) (F:Nat) (ids:List Int) (p1:H5 Int Unit) (p2:List Stowed) (p4:Gw):Option (H5 Int Unit):=
 each (fun y102 i102 (s102:(H5 Int Unit)) nx102=>
  jp (fun kj105=>
   bif (H5.has s102 y102) then
   (kj105 s102)
   else
   (bnd (Y9 p2 y102) fun r113=>
    bnd (self_ r113.1 (H5.put s102 y102 ()) p2 p4) fun r115=>
    bnd (Rr p2 y102) fun r117=>
    Yj p2 r117 fun y118=>
    bnd (Zy p4 y118.Slot.G3) fun r120=>
    bif decide (0≤r120) then
    (bnd (G24 p4 p2 r120) fun r122=>
     bnd (self_ r122 r115 p2 p4) fun r123=>
     kj105 r123)
    else
    (kj105 r115))) fun(j105:(H5 Int Unit))=>
  nx102 j105)
 (fun(s102:(H5 Int Unit))=>
  some s102) ids 0 p1
def R9:Nat→(List Int)→(H5 Int Unit)→(List Stowed)→Gw→Option (H5 Int Unit)
 | 0,_,_,_,_=>none
 | F+1,ids,p1,p2,p4=>Zm (R9 F) F ids p1 p2 p4
theorem H87 (self_:(List Int)→(H5 Int Unit)→(List Stowed)→Gw→Option (H5 Int Unit)) (self_w:∀ (ids:List Int) (p1:H5 Int Unit) (p2:List Stowed) (p4:Gw) (r:(H5 Int Unit)),self_ ids p1 p2 p4=some r→Jt Ek 26 [E0 ids,.ptr 1019 0,.dptr [E1 p2],.ptr 1020 0,Ec p4] [(1019,.box 80 [.mp 1022]),(1022,MP 80 (fun n:Int=>Value.int .i64 n) (fun _:Unit=>.agg []) p1),(1020,.box 81 [.fn 26 [.ptr 1019 0,.dptr [E1 p2],.ptr 1020 0,Ec p4]])] (fun av L'=>av=.tup []∧L'=[(1019,.box 80 [.mp 1022]),(1022,MP 80 (fun n:Int=>Value.int .i64 n) (fun _:Unit=>.agg []) r),(1020,.box 81 [.fn 26 [.ptr 1019 0,.dptr [E1 p2],.ptr 1020 0,Ec p4]])])) (F:Nat) (ids:List Int) (p1:H5 Int Unit) (p2:List Stowed) (p4:Gw) (r:(H5 Int Unit)) (h:Zm self_ F ids p1 p2 p4=some r):Jt Ek 26 [E0 ids,.ptr 1019 0,.dptr [E1 p2],.ptr 1020 0,Ec p4] [(1019,.box 80 [.mp 1022]),(1022,MP 80 (fun n:Int=>Value.int .i64 n) (fun _:Unit=>.agg []) p1),(1020,.box 81 [.fn 26 [.ptr 1019 0,.dptr [E1 p2],.ptr 1020 0,Ec p4]])] (fun av L'=>av=.tup []∧L'=[(1019,.box 80 [.mp 1022]),(1022,MP 80 (fun n:Int=>Value.int .i64 n) (fun _:Unit=>.agg []) r),(1020,.box 81 [.fn 26 [.ptr 1019 0,.dptr [E1 p2],.ptr 1020 0,Ec p4]])]):=by
 unfold Zm at h
 refine Yw [1019,1022,1020] [] Tryz.func26 O O (H5a O) (Jr fun hK1=>(Qk (E0 ids) O (JLl Gh O O O fun hm14=>(Qk (G0 0) O (G7 (hK1 (Gx ?_)))))))
 obtain⟨b102,kx102,hb102,hkx102,h⟩:=Jh h
 refine Hz (fun i102 (s102:(H5 Int Unit))=>each b102 kx102 (List.drop i102 ids) i102 s102=some r) (fun i102 s102=>[(1,.ptr 1019 0),(2,.dptr [E1 p2]),(3,.ptr 1020 0),(4,Ec p4),(13,E0 ids),(14,Ej ids.length),(15,Ej i102)]) (fun i102 s102=>[(1022,MP 80 (fun n:Int=>Value.int .i64 n) (fun _:Unit=>.agg []) s102),(1019,.box 80 [.mp 1022]),(1020,.box 81 [.fn 26 [.ptr 1019 0,.dptr [E1 p2],.ptr 1020 0,Ec p4]])]) (fun i102=>ids.length - i102) 0 p1 h ⟨(by repeat' constructor),⟨⟨_,rfl,.map⟩,⟨_,rfl,.boxL rfl ⟨.same rfl,G⟩⟩,⟨_,rfl,.boxL rfl ⟨.same rfl,G⟩⟩,G⟩,rfl⟩ ?_
 clear h
 intro i102 s102 hi102 K102 e102
 refine Jr fun hK103=>(JLh (BL (decide ((i102:Int) < (ids.length:Int)))) (Jm O O O) O (G7 (hK103 (Js fun hK104=>Gm O (fun hb=>?_) (fun hb=>?_)))))
 ·
  have hk102:=Q4 hb
  obtain⟨y102,nx102,hy102,hn102,h⟩:=J3 hi102 hk102
  replace h:=Zv hb102 h
  refine Gs (hK104 ?_)
  obtain⟨kj105,hkj105,h⟩:=Z8 h
  refine Ry (fun j105:(H5 Int Unit)=>kj105 j105=some r) (fun j105=>[(1,.ptr 1019 0),(2,.dptr [E1 p2]),(3,.ptr 1020 0),(4,Ec p4),(13,E0 ids),(14,Ej ids.length),(15,Ej i102)]) (fun j105=>[(1022,MP 80 (fun n:Int=>Value.int .i64 n) (fun _:Unit=>.agg []) j105),(1019,.box 80 [.mp 1022]),(1020,.box 81 [.fn 26 [.ptr 1019 0,.dptr [E1 p2],.ptr 1020 0,Ec p4]])]) (fun Kj105 ej105=>?_) ?_
  ·
   refine Gx (Jr fun hK106=>(JLh (.dptr [G0 y102]) (Hc (f:=G0) (xs:=ids) (y:=y102) O O O Gh hy102 O) O (JLh (G0 y102) (Gi Ge O O O) O (Qk (G0 y102) O (G7 (hK106 (Js fun hK107=>Jr fun hK108=>(JLh (.mp 1022) (R2 Gc7 O O O O) O (Qk (G0 y102) O (JLh (.tup [.agg [],BL (H5.has s102 y102)]) (J87 (av:=(fun _:Unit=>.agg [])) (m:=s102) (a:=y102) () (.agg #[]) O O O O tk_3 H70 tf_zv_82 O) O (Qk (.tup [.agg [],BL (H5.has s102 y102)]) O (JLh (.agg []) (H8 O O O) O (JLh (BL (H5.has s102 y102)) (H8 O O O) O (JLh (.ptr 1049 0) (Jd 1049 0 J34 O O) O (J5 (u:=.junk) (A_store0 (u:=.agg []) J55 O O O O O O) (Qk (BL (H5.has s102 y102)) O (G7 (hK108 ?_))))))))))))))))))
   refine Gt [(1,.ptr 1019 0),(2,.dptr [E1 p2]),(3,.ptr 1020 0),(4,Ec p4),(7,G0 y102),(9,BL (H5.has s102 y102)),(13,E0 ids),(14,Ej ids.length),(15,Ej i102)] [(1022,MP 80 (fun n:Int=>Value.int .i64 n) (fun _:Unit=>.agg []) s102),(1019,.box 80 [.mp 1022]),(1020,.box 81 [.fn 26 [.ptr 1019 0,.dptr [E1 p2],.ptr 1020 0,Ec p4]])] 1049 rfl rfl rfl ⟨⟨_,rfl,.map⟩,⟨_,rfl,.boxEq rfl rfl⟩,⟨_,rfl,.boxEq rfl rfl⟩,G⟩ rfl (by repeat' (first | exact .ptr | constructor)) (Jr fun hK110=>(Qk (BL (H5.has s102 y102)) O (G7 (hK110 (JCc O h (fun h hb=>?_) (fun h hb=>?_))))))
   ·
    refine J9 (ej105 _ _ s102 h ⟨(by repeat' constructor),⟨⟨_,rfl,.map⟩,⟨_,rfl,.boxL rfl ⟨.same rfl,G⟩⟩,⟨_,rfl,.boxL rfl ⟨.same rfl,G⟩⟩,G⟩,rfl⟩)
   ·
    refine Gs (hK107 (Jr fun hK111=>(JLh (.mp 1022) (R2 Gc7 O O O O) O (Qk (G0 y102) O (JLh (.agg []) (Ho (cs:=[]) [] [] [] J2c J52 G O O) O (J5 (u:=.junk) (H6b (m:=s102) (a:=y102) (v:=()) O O O O O O tk_3 H70) (G7 (hK111 (Jr fun hK112=>(JLh (E1 p2) (Gi Qp O O O) O (Qk (G0 y102) O ?_)))))))))))
    obtain⟨r113,hr113,h⟩:=Gf h
    refine JLh (.tup [E0 r113.1,G0 r113.2]) (Gv O (G91 p2 y102 r113 hr113) H33 ⟨O,O,O,O,G⟩) O (Qk (.tup [E0 r113.1,G0 r113.2]) O (JLh (E0 r113.1) (H8 O O O) O (JLh (G0 r113.2) (H8 O O O) O (Qk (E0 r113.1) O (Qk (G0 r113.2) O (G7 (hK112 (Jr fun hK114=>(JLh (.fn 26 [.ptr 1019 0,.dptr [E1 p2],.ptr 1020 0,Ec p4]) (R2 Gc6 O O O O) O (Qk (E0 r113.1) O ?_))))))))))
    obtain⟨r115,hr115,h⟩:=Gf h
    refine JLh (.tup []) (J17 (args:=[E0 r113.1]) (caps:=[.ptr 1019 0,.dptr [E1 p2],.ptr 1020 0,Ec p4]) (L0:=[(1019,.box 80 [.mp 1022]),(1022,MP 80 (fun n:Int=>Value.int .i64 n) (fun _:Unit=>.agg []) (H5.put s102 y102 ())),(1020,.box 81 [.fn 26 [.ptr 1019 0,.dptr [E1 p2],.ptr 1020 0,Ec p4]])]) (Lr:=[(1019,.box 80 [.mp 1022]),(1022,MP 80 (fun n:Int=>Value.int .i64 n) (fun _:Unit=>.agg []) r115),(1020,.box 81 [.fn 26 [.ptr 1019 0,.dptr [E1 p2],.ptr 1020 0,Ec p4]])]) O O (self_w r113.1 (H5.put s102 y102 ()) p2 p4 r115 hr115) H30 ⟨.inl O,O,G⟩ O ⟨O,O,O,G⟩ O O O) O (G7 (hK114 (Js fun hK116=>?_)))
    refine Yk (l':=[(1,.ptr 1019 0),(2,.dptr [E1 p2]),(3,.ptr 1020 0),(4,Ec p4),(7,G0 y102),(13,E0 ids),(14,Ej ids.length),(15,Ej i102)]) (L':=[(1022,MP 80 (fun n:Int=>Value.int .i64 n) (fun _:Unit=>.agg []) r115),(1019,.box 80 [.mp 1022]),(1020,.box 81 [.fn 26 [.ptr 1019 0,.dptr [E1 p2],.ptr 1020 0,Ec p4]])]) ⟨(by repeat' constructor),⟨⟨_,rfl,.map⟩,⟨_,rfl,.boxL rfl ⟨.same rfl,G⟩⟩,⟨_,rfl,.boxL rfl ⟨.same rfl,G⟩⟩,G⟩,rfl⟩ ?_
    obtain⟨r117,hr117,h⟩:=Gf h
    obtain⟨m119,y118,hm119,hy118,h⟩:=Y6 h
    obtain⟨r120,hr120,h⟩:=Gf h
    refine JC_d0 Qb (by kernel_rfl) (Dq (.agg (Gw.cs p4)) (Gj Hd O O O) O (Dq (E1 p2) (Gi Qp O O O) O (Dq (E1 p2) (Gi Qp O O O) O (Dq (G0 y102) (G6 O O) O (Dq (G0 r117) (Gv (args:=[E1 p2,G0 y102]) O (G10 p2 y102 r117 hr117) G7f ⟨O,O,O,O,G⟩) O (Dq (Ed y118) (Hc (f:=Stowed.av) (xs:=p2) (y:=y118) O O O H9 hy118 hm119) O (Dq (.dptr ((Stowed.cs y118).drop 1)) (Gc Hx O O O) O (Dq (.dptr ((Stowed.cs y118).drop 1)) (Gc Jc O O O) O (Dq (G0 y118.Slot.G3) (Gi Ge O O O) O (Dq (G0 r120) (Gv (args:=[.agg (Gw.cs p4),G0 y118.Slot.G3]) O (H01 p4 y118.Slot.G3 r120 hr120) Hdb ⟨O,O,O,O,G⟩) O (Dq (G0 r120) (G8 O O) O (Dnil ?_))))))))))))
    refine hK116 (Jr fun hK121=>(Qk (G0 r120) O (JLh (BL (decide (0≤r120))) (G95 O O O) O (G7 (hK121 (JCc O h (fun h hb=>?_) (fun h hb=>?_)))))))
    ·
     refine Yk (l':=[(1,.ptr 1019 0),(2,.dptr [E1 p2]),(3,.ptr 1020 0),(4,Ec p4),(12,G0 r120),(13,E0 ids),(14,Ej ids.length),(15,Ej i102)]) (L':=[(1022,MP 80 (fun n:Int=>Value.int .i64 n) (fun _:Unit=>.agg []) r115),(1019,.box 80 [.mp 1022]),(1020,.box 81 [.fn 26 [.ptr 1019 0,.dptr [E1 p2],.ptr 1020 0,Ec p4]])]) ⟨(by repeat' constructor),⟨⟨_,rfl,.map⟩,⟨_,rfl,.boxL rfl ⟨.same rfl,G⟩⟩,⟨_,rfl,.boxL rfl ⟨.same rfl,G⟩⟩,G⟩,rfl⟩ ?_
     obtain⟨r122,hr122,h⟩:=Gf h
     obtain⟨r123,hr123,h⟩:=Gf h
     refine Ju [5] [0,0,0,0,0,0] [0,0,0,0,0,0] [[(1022,MP 80 (fun n:Int=>Value.int .i64 n) (fun _:Unit=>.agg []) r115),(1019,.box 80 [.mp 1022]),(1020,.box 81 [.fn 26 [.ptr 1019 0,.dptr [E1 p2],.ptr 1020 0,Ec p4]])],((1022,MP 80 (fun n:Int=>Value.int .i64 n) (fun _:Unit=>.agg []) r123)::[(1022,MP 80 (fun n:Int=>Value.int .i64 n) (fun _:Unit=>.agg []) r115),(1019,.box 80 [.mp 1022]),(1020,.box 81 [.fn 26 [.ptr 1019 0,.dptr [E1 p2],.ptr 1020 0,Ec p4]])])] Qb (by kernel_rfl) rfl rfl ?_
     refine Gk (u:=.fn 26 [.ptr 1019 0,.dptr [E1 p2],.ptr 1020 0,Ec p4]) O O ⟨Gp (R2 Gc6 O O O O) O,G⟩ (Gk (u:=.agg (Gw.cs p4)) O O ⟨Gp (Gj Hd O O O) O,G⟩ (Gk (u:=E1 p2) O O ⟨Gp (Gi Qp O O O) O,G⟩ (Gk (u:=G0 r120) O O ⟨Gp (G6 O O) O,G⟩ (Gk (u:=E0 r122) O O ⟨Gp (Gv O (H23 p4 p2 r120 r122 hr122) Hda ⟨O,O,O,O,O,O,G⟩) O,G⟩ (J46 (u:=.tup []) O O O O (G03.locEq (Gp (J17 (args:=[E0 r122]) (caps:=[.ptr 1019 0,.dptr [E1 p2],.ptr 1020 0,Ec p4]) (L0:=[(1019,.box 80 [.mp 1022]),(1022,MP 80 (fun n:Int=>Value.int .i64 n) (fun _:Unit=>.agg []) r115),(1020,.box 81 [.fn 26 [.ptr 1019 0,.dptr [E1 p2],.ptr 1020 0,Ec p4]])]) (Lr:=[(1019,.box 80 [.mp 1022]),(1022,MP 80 (fun n:Int=>Value.int .i64 n) (fun _:Unit=>.agg []) r123),(1020,.box 81 [.fn 26 [.ptr 1019 0,.dptr [E1 p2],.ptr 1020 0,Ec p4]])]) O O (self_w r122 r115 p2 p4 r123 hr123) H30 ⟨.inl O,O,G⟩ O ⟨O,O,O,G⟩ O O O) O) (G94.of [1022,1019,1020] O O ⟨O,O,O,G⟩)) (Yi ?_))))))
     exact ej105 _ _ r123 h ⟨(by repeat' constructor),⟨⟨_,rfl,.map⟩,⟨_,rfl,.boxL rfl ⟨.same rfl,G⟩⟩,⟨_,rfl,.boxL rfl ⟨.same rfl,G⟩⟩,G⟩,rfl⟩
    ·
     refine Gs (ej105 _ _ r115 h ⟨(by repeat' constructor),⟨⟨_,rfl,.map⟩,⟨_,rfl,.boxL rfl ⟨.same rfl,G⟩⟩,⟨_,rfl,.boxL rfl ⟨.same rfl,G⟩⟩,G⟩,rfl⟩)
  ·intro j105 h
   replace h:=app1 hkj105 h
   refine G4 (JLh (G0 ((i102+1:Nat):Int)) (Hu (Hs hk102 hm14) O O O) O (Qk (G0 ((i102+1:Nat):Int)) O (G7 (e102 _ _ (i102+1) j105 (app1 hn102 h) (by omega) ⟨(by repeat' constructor),⟨⟨_,rfl,.map⟩,⟨_,rfl,.boxL rfl ⟨.same rfl,G⟩⟩,⟨_,rfl,.boxL rfl ⟨.same rfl,G⟩⟩,G⟩,rfl⟩))))
 ·
  have h:=app1 hkx102 (J4 hi102 (Hh hb))
  refine J9 ?_
  obtain rfl:=Option.some.inj h
  exact⟨[],[(1019,.box 80 [.mp 1022]),(1022,MP 80 (fun n:Int=>Value.int .i64 n) (fun _:Unit=>.agg []) s102),(1020,.box 81 [.fn 26 [.ptr 1019 0,.dptr [E1 p2],.ptr 1020 0,Ec p4]])],⟨⟨_,O,.boxL O ⟨.same O,G⟩⟩,⟨_,O,.map⟩,⟨_,O,.boxL O ⟨.same O,G⟩⟩,G⟩,O,G,O,O⟩
theorem H81:∀ (F:Nat) (ids:List Int) (p1:H5 Int Unit) (p2:List Stowed) (p4:Gw) (r:(H5 Int Unit)) (h:R9 F ids p1 p2 p4=some r),Jt Ek 26 [E0 ids,.ptr 1019 0,.dptr [E1 p2],.ptr 1020 0,Ec p4] [(1019,.box 80 [.mp 1022]),(1022,MP 80 (fun n:Int=>Value.int .i64 n) (fun _:Unit=>.agg []) p1),(1020,.box 81 [.fn 26 [.ptr 1019 0,.dptr [E1 p2],.ptr 1020 0,Ec p4]])] (fun av L'=>av=.tup []∧L'=[(1019,.box 80 [.mp 1022]),(1022,MP 80 (fun n:Int=>Value.int .i64 n) (fun _:Unit=>.agg []) r),(1020,.box 81 [.fn 26 [.ptr 1019 0,.dptr [E1 p2],.ptr 1020 0,Ec p4]])]):=by
 intro F
 induction F with
 | zero=>intro ids p1 p2 p4 r h; cases h
 | succ F ih=>intro ids p1 p2 p4 r h; exact H87 (R9 F) ih F ids p1 p2 p4 r h

def G34 (F:Nat) (s:Gw) (boxes:List Gb) (l:List Stowed) (ids:List Int) (Rp:((List Int)×Int)→Prop):Option Prop:=
 bnd (Qr s boxes l []) fun r4=>
 bif (!r4) then
 (some (Rp ([],2)))
 else
 (each (fun y27 i27 (s27:Unit) nx27=>
   bnd (Rr l y27) fun r33=>
   bif decide (r33 < 0) then
   (some (Rp ([],6)))
   else
   (nx27 ()))
  (fun(s27:Unit)=>
   bnd (R9 F ids (H5.empty:H5 Int Unit) l s) fun r36=>
   eachM (fun(x48:Int×Unit) (s48:(List Int)) nx48=>
    need (decide ((s48.length+[x48.1].length)*8≤140737488355328∧s48.length+[x48.1].length≤maxLen)) <|
    nx48 (s48++[x48.1]))
   (fun(s48:(List Int))=>
    bnd (Gab s48) fun r55=>
    some (Rp (r55,0))) (H5.l r36) []) ids 0 ())
theorem J04 (F:Nat) (s:Gw) (boxes:List Gb) (l:List Stowed) (ids:List Int) (Rp:((List Int)×Int)→Prop) (p:Prop) (h:G34 F s boxes l ids Rp=some p) (hp:p):Pure Ek 10 [.agg (Gw.cs s),E2 boxes,E1 l,E0 ids] (fun av=>∃ r,Rp r∧av=.tup [E0 r.1,G0 r.2]):=by
 unfold G34 at h
 refine H1 [.tmp 8,.tmp 9] Tryz.func10 O O (Jr fun hK1=>(JLh (.ptr 1017 0) (Jn (cs:=(Gw.cs s)) 1017 O O O O O) O (JLh (.ptr 1018 0) (Jn (cs:=[E1 l]) 1018 O O O O O) O (JLh (E0 ([]:List Int)) (Hj 1 O O) O (Qk (G0 0) O (G7 (hK1 ?_)))))))
 refine Gt [(1,E2 boxes),(3,E0 ids),(4,Ec s),(6,.ptr 1018 0)] [(1018,.box 39 [E1 l])] 1017 rfl rfl rfl ⟨⟨_,rfl,.boxEq rfl rfl⟩,G⟩ rfl (by repeat' (first | exact .ptr | constructor)) ?_
 refine Gt [(1,E2 boxes),(3,E0 ids),(4,Ec s),(6,.dptr [E1 l])] [] 1018 rfl rfl rfl G rfl (by repeat' (first | exact .ptr | constructor)) (Js fun hK2=>Jr fun hK3=>(JLh (.agg (Gw.cs s)) (Gj Hd O O O) O (Qk (E2 boxes) O (JLh (E1 l) (Gi Qp O O O) O ?_))))
 obtain⟨r4,hr4,h⟩:=Gf h
 refine JLh (BL r4) (G96 (args:=[.agg (Gw.cs s),E2 boxes,E1 l,E0 ([]:List Int)]) O (Zz s boxes l [] r4 hr4) Gcc ⟨.inl O,O,.inl O,O,.inl O,O,.inr ⟨_,O,O⟩,O,G⟩) O (JLh (BL (!r4)) (Zn (b:=r4) O O) O (G7 (hK3 (JCc O h (fun h hb=>?_) (fun h hb=>?_)))))
 ·
  refine Jr fun hK5=>(JLh (E0 ([]:List Int)) (Hj 1 O O) O (Qk (G0 2) O (G7 (hK5 (Gu (⟨[E0 ([]:List Int),G0 2],[],G,O,⟨⟨_,O,.conv (.same O)⟩,⟨_,O,.conv (.same O)⟩,G⟩,O,([],2),Eq.mpr (Option.some.inj h) hp,O⟩))))))
 ·
  refine Gs (hK2 (Jr fun hK6=>(JLh (.mp 1022) (H44 1022 (fun n:Int=>Value.int .i64 n) (fun _:Unit=>.agg []) O O) O (JLh (.ptr 1019 0) (Jd 1019 1 J36 O O) O (J5 (u:=.junk) (Hp (u:=.mp 1022) (ds:=[.mp 1022]) J57 O O O O O O O O) (G7 (hK6 (Jr fun hK7=>(JLh (.ptr 1020 0) (Jd 1020 1 J35 O O) O (G7 (hK7 ?_)))))))))))
  refine Jr fun hK8=>(JLh (.fn 26 [.ptr 1019 0,.dptr [E1 l],.ptr 1020 0,Ec s]) (Yh (cs:=[.ptr 1019 0,.dptr [E1 l],.ptr 1020 0,Ec s]) O O) O (J5 (u:=.junk) (Hp (u:=.fn 26 [.ptr 1019 0,.dptr [E1 l],.ptr 1020 0,Ec s]) (ds:=[.fn 26 [.ptr 1019 0,.dptr [E1 l],.ptr 1020 0,Ec s]]) J56 O O O O O O O O) (G7 (hK8 ?_))))
  refine Js fun hK9=>Jr fun hK10=>(Qk (E0 ids) O (JLl Gh O O O fun hm24=>(Qk (G0 0) O (G7 (hK10 (Gx ?_))))))
  obtain⟨b27,kx27,hb27,hkx27,h⟩:=Jh h
  refine Hz (fun i27 (s27:Unit)=>each b27 kx27 (List.drop i27 ids) i27 s27=some p) (fun i27 s27=>[(3,E0 ids),(6,.dptr [E1 l]),(10,.ptr 1019 0),(11,.ptr 1020 0),(23,E0 ids),(24,Ej ids.length),(25,Ej i27)]) (fun i27 s27=>[(1022,MP 80 (fun n:Int=>Value.int .i64 n) (fun _:Unit=>.agg []) (H5.empty:H5 Int Unit)),(1019,.box 80 [.mp 1022]),(1020,.box 81 [.fn 26 [.ptr 1019 0,.dptr [E1 l],.ptr 1020 0,Ec s]])]) (fun i27=>ids.length - i27) 0 () h ⟨(by repeat' constructor),⟨⟨_,rfl,.map⟩,⟨_,rfl,.boxL rfl ⟨.same rfl,G⟩⟩,⟨_,rfl,.boxL rfl ⟨.same rfl,G⟩⟩,G⟩,rfl⟩ ?_
  clear h
  intro i27 s27 hi27 K27 e27
  refine Jr fun hK28=>(JLh (BL (decide ((i27:Int) < (ids.length:Int)))) (Jm O O O) O (G7 (hK28 (Js fun hK29=>Gm O (fun hb=>?_) (fun hb=>?_)))))
  ·
   have hk27:=Q4 hb
   obtain⟨y27,nx27,hy27,hn27,h⟩:=J3 hi27 hk27
   replace h:=Zv hb27 h
   refine Gs (hK29 (Js fun hK30=>Gx (Jr fun hK31=>(JLh (.dptr [G0 y27]) (Hc (f:=G0) (xs:=ids) (y:=y27) O O O Gh hy27 O) O (JLh (G0 y27) (Gi Ge O O O) O (Qk (G0 y27) O (G7 (hK31 (Jr fun hK32=>(JLh (E1 l) (Gi Qp O O O) O (Qk (G0 y27) O ?_)))))))))))
   obtain⟨r33,hr33,h⟩:=Gf h
   refine JLh (G0 r33) (Gv O (G10 l y27 r33 hr33) G7f ⟨O,O,O,O,G⟩) O (JLh (BL (decide (r33 < 0))) (Jm O O O) O (G7 (hK32 (JCc O h (fun h hb=>?_) (fun h hb=>?_)))))
   ·
    refine Jr fun hK34=>(JLh (E0 ([]:List Int)) (Hj 1 O O) O (Qk (G0 6) O (G7 (hK34 (Gu (⟨[E0 ([]:List Int),G0 6],[],G,O,⟨⟨_,O,.conv (.same O)⟩,⟨_,O,.conv (.same O)⟩,G⟩,O,([],6),Eq.mpr (Option.some.inj h) hp,O⟩))))))
   ·
    refine Gs (hK30 (G4 (JLh (G0 ((i27+1:Nat):Int)) (Hu (Hs hk27 hm24) O O O) O (Qk (G0 ((i27+1:Nat):Int)) O (G7 (e27 _ _ (i27+1) () (app1 hn27 h) (by omega) ⟨(by repeat' constructor),⟨⟨_,rfl,.map⟩,⟨_,rfl,.boxL rfl ⟨.same rfl,G⟩⟩,⟨_,rfl,.boxL rfl ⟨.same rfl,G⟩⟩,G⟩,rfl⟩))))))
  ·
   have h:=app1 hkx27 (J4 hi27 (Hh hb))
   refine J9 (hK9 (Jr fun hK35=>(JLh (.fn 26 [.ptr 1019 0,.dptr [E1 l],.ptr 1020 0,Ec s]) (R2 Gc6 O O O O) O (Qk (E0 ids) O ?_))))
   obtain⟨r36,hr36,h⟩:=Gf h
   refine JLh (.tup []) (J17 (args:=[E0 ids]) (caps:=[.ptr 1019 0,.dptr [E1 l],.ptr 1020 0,Ec s]) (L0:=[(1019,.box 80 [.mp 1022]),(1022,MP 80 (fun n:Int=>Value.int .i64 n) (fun _:Unit=>.agg []) (H5.empty:H5 Int Unit)),(1020,.box 81 [.fn 26 [.ptr 1019 0,.dptr [E1 l],.ptr 1020 0,Ec s]])]) (Lr:=[(1019,.box 80 [.mp 1022]),(1022,MP 80 (fun n:Int=>Value.int .i64 n) (fun _:Unit=>.agg []) r36),(1020,.box 81 [.fn 26 [.ptr 1019 0,.dptr [E1 l],.ptr 1020 0,Ec s]])]) O O (H81 F ids (H5.empty:H5 Int Unit) l s r36 hr36) H30 ⟨.inl O,O,G⟩ O ⟨O,O,O,G⟩ O O O) O (G7 (hK35 ?_))
   refine Jr fun hK37=>(JLh (.vec 1021 (([]:List Int).length) 1 (([]:List Int).length)) (J84 1021 3 1 O O O) O (G7 (hK37 (Js fun hK38=>Jr fun hK39=>(JLh (.mp 1022) (R2 Gc7 O O O O) O (JLh (.it 1023) (J4a 1023 (m:=r36) O O O O H70) O (G7 (hK39 (Gx ?_)))))))))
   obtain⟨b48,kx48,hb48,hkx48,h⟩:=eachM_in h
   refine J43 (H5.size r36) (fun i48 (s48:(List Int))=>MInv b48 kx48 (H5.l r36) i48 s48) (fun i48 s48=>[(14,.vec 1021 s48.length 1 s48.length),(38,.it 1023)]) (fun i48 s48=>[(1022,MP 80 (fun n:Int=>Value.int .i64 n) (fun _:Unit=>.agg []) r36),(1021,.vec 3 1 s48.length (s48.map G0)),(1023,.iter 1022 (H5.size r36) i48),(1019,.box 80 [.mp 1022]),(1020,.box 81 [.fn 26 [.ptr 1019 0,.dptr [E1 l],.ptr 1020 0,Ec s]])]) [] (MInv.start h hp) ⟨⟨.same O,.same O,G⟩,⟨⟨_,O,.map⟩,⟨_,O,.vec⟩,⟨_,O,.iter O⟩,⟨_,O,.boxL O ⟨.same O,G⟩⟩,⟨_,O,.boxL O ⟨.same O,G⟩⟩,G⟩,O⟩ ?_
   clear h hp
   intro i48 s48 hi48 K48 e48
   refine Jr fun hK49=>Ga6 O O O (A_nextM (m:=r36) O O O O) ?_
   intro u_ L_ hn_
   rcases hn_ with ⟨q48,x48,he48,hs48,rfl,rfl⟩ | ⟨ha48,rfl,rfl⟩
   ·
    obtain⟨o48,h,ho1_48,ho2_48⟩:=hi48.step he48 hs48
    replace h:=app3 hb48 h
    refine JLh (BL true) (H8 O O O) O (G7 (hK49 (Js fun hK50=>J44 O (Gs (hK50 (Gx (Jr fun hK51=>(JLh (.tup [G0 x48.1,.agg []]) (J4d (kv:=(fun n:Int=>Value.int .i64 n)) (av:=(fun _:Unit=>.agg [])) (m:=r36) (q:=q48) (seen:=i48) (e:=x48) O O O O he48) O (JLh (G0 x48.1) (H8 O O O) O (Qk (G0 x48.1) O (G7 (hK51 (G4 (Qk (.vec 1021 s48.length 1 s48.length) O (Qk (G0 x48.1) O (JLh (E0 [x48.1]) (H4 (xs:=[G0 x48.1]) O ⟨O,O,G⟩ Gh Jj O O O O) O ?_))))))))))))))))
    obtain⟨ha52,h⟩:=Jf h
    refine JLh (.vec 1021 ((s48++[x48.1]).length) 1 ((s48++[x48.1]).length)) (G40 (f:=G0) (xs:=s48) (ys:=[x48.1]) (ver:=s48.length) (ver1:=(s48++[x48.1]).length) rfl rfl rfl rfl Gh Rs ha52 (fun _=>rfl) (.inl rfl) (by simp)) O (Qk (.vec 1021 ((s48++[x48.1]).length) 1 ((s48++[x48.1]).length)) O (G7 (e48 _ _ (i48++[q48]) (s48++[x48.1]) (ho2_48 _ (Option.some.inj h).symm) (unseen_lt (List.getElem?_eq_some_iff.1 he48).1 hs48) ⟨⟨.same O,.same O,G⟩,⟨⟨_,O,.map⟩,⟨_,O,.vec⟩,⟨_,O,.iter O⟩,⟨_,O,.boxL O ⟨.same O,G⟩⟩,⟨_,O,.boxL O ⟨.same O,G⟩⟩,G⟩,O⟩)))
   ·
    obtain⟨p_,h,hp⟩:=hi48.done ha48
    replace h:=app1 hkx48 h
    refine JLh (BL false) (H8 O O O) O (G7 (hK49 (Js fun hK53=>J45 O (J9 (hK38 (Jr fun hK54=>(Qk (.vec 1021 s48.length 1 s48.length) O ?_)))))))
    obtain⟨r55,hr55,h⟩:=Gf h
    refine JLh (.tup []) (A_sortI (F:=30) (xs:=s48) (r:=r55) O sortILaw_30 sortINone_30 J79 O O O hr55 O) O (G7 (hK54 (Jr fun hK56=>(Qk (.vec 1021 s48.length 1 s48.length) O (Qk (.vec 1021 s48.length 1 s48.length) O (Qk (G0 0) O (G7 (hK56 (J82 [(8,E0 r55),(9,G0 0)] [] 1021 rfl rfl G rfl (by exact⟨.vec,.conv (.same rfl),G⟩) (Gu (⟨[E0 r55,G0 0],[],G,O,⟨⟨_,O,.conv (.same O)⟩,⟨_,O,.conv (.same O)⟩,G⟩,O,(r55,0),Eq.mpr (Option.some.inj h) hp,O⟩)))))))))))
theorem J05 (S_:Nat→(Gw)→(List Gb)→(List Stowed)→(List Int)→Option ((List Int)×Int)) (hS_:∀ F s boxes l ids r,S_ F s boxes l ids=some r→∃ p:Prop,G34 F s boxes l ids (fun r_=>r_=r)=some p∧p) (F:Nat) (s:Gw) (boxes:List Gb) (l:List Stowed) (ids:List Int) (r:(List Int)×Int) (h:S_ F s boxes l ids=some r):Pure Ek 10 [.agg (Gw.cs s),E2 boxes,E1 l,E0 ids] (·=.tup [E0 r.1,G0 r.2]):=by
 obtain⟨p,h1,h2⟩:=hS_ F s boxes l ids r h
 exact(J04 F s boxes l ids _ p h1 h2).monoP (fun av hh=>by obtain⟨r_,rfl,ha⟩:=hh; exact ha)
end
end Go.Proofs.YtbljcmgjmieffaaGreat
