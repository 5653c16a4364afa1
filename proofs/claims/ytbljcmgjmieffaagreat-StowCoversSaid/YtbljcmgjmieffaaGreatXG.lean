/-
 Models of functions of the program,and that they return what the models say.
-/
import Derived.Test.YtbljcmgjmieffaaGreatXGa
set_option linter.unnecessarySimpa false
set_option maxRecDepth 100000
set_option linter.unusedVariables false
set_option linter.unusedSimpArgs false
namespace Go.Proofs.YtbljcmgjmieffaaGreat
open Go.RowKit
noncomputable section
open XAF
open XCF
open XGF

def G23 (self_:(List Int)→(Hc Int Unit)→(List Stowed)→Gt→Option (Hc Int Unit)) (F:Nat) (ids:List Int) (p1:Hc Int Unit) (p2:List Stowed) (p4:Gt):Option (Hc Int Unit):=
 each (fun y102 i102 (s102:(Hc Int Unit)) nx102=>
  jp (fun kj105=>
   bif (Hc.has s102 y102) then
   (kj105 s102)
   else
   (bnd (Zc p2 y102) fun r113=>
    bnd (self_ r113.1 (Hc.put s102 y102 ()) p2 p4) fun r115=>
    bnd (R8 p2 y102) fun r117=>
    Yn p2 r117 fun y118=>
    bnd (G2e p4 y118.Slot.G3) fun r120=>
    bif decide (0≤r120) then
    (bnd (G54 p4 p2 r120) fun r122=>
     bnd (self_ r122 r115 p2 p4) fun r123=>
     kj105 r123)
    else
    (kj105 r115))) fun(j105:(Hc Int Unit))=>
  nx102 j105)
 (fun(s102:(Hc Int Unit))=>
  some s102) ids 0 p1
def Y9:Nat→(List Int)→(Hc Int Unit)→(List Stowed)→Gt→Option (Hc Int Unit)
 | 0,_,_,_,_=>none
 | F+1,ids,p1,p2,p4=>G23 (Y9 F) F ids p1 p2 p4
theorem Hc1 (self_:(List Int)→(Hc Int Unit)→(List Stowed)→Gt→Option (Hc Int Unit)) (self_w:∀ (ids:List Int) (p1:Hc Int Unit) (p2:List Stowed) (p4:Gt) (r:(Hc Int Unit)),self_ ids p1 p2 p4=some r→Qh Ek 26 [E0 ids,.ptr 1032 0,.dptr [E1 p2],.ptr 1033 0,Ec p4] [(1032,.box 80 [.mp 1035]),(1035,MP 80 (fun n:Int=>Value.int .i64 n) (fun _:Unit=>.agg []) p1),(1033,.box 81 [.fn 26 [.ptr 1032 0,.dptr [E1 p2],.ptr 1033 0,Ec p4]])] (fun av L'=>av=.tup []∧L'=[(1032,.box 80 [.mp 1035]),(1035,MP 80 (fun n:Int=>Value.int .i64 n) (fun _:Unit=>.agg []) r),(1033,.box 81 [.fn 26 [.ptr 1032 0,.dptr [E1 p2],.ptr 1033 0,Ec p4]])])) (F:Nat) (ids:List Int) (p1:Hc Int Unit) (p2:List Stowed) (p4:Gt) (r:(Hc Int Unit)) (h:G23 self_ F ids p1 p2 p4=some r):Qh Ek 26 [E0 ids,.ptr 1032 0,.dptr [E1 p2],.ptr 1033 0,Ec p4] [(1032,.box 80 [.mp 1035]),(1035,MP 80 (fun n:Int=>Value.int .i64 n) (fun _:Unit=>.agg []) p1),(1033,.box 81 [.fn 26 [.ptr 1032 0,.dptr [E1 p2],.ptr 1033 0,Ec p4]])] (fun av L'=>av=.tup []∧L'=[(1032,.box 80 [.mp 1035]),(1035,MP 80 (fun n:Int=>Value.int .i64 n) (fun _:Unit=>.agg []) r),(1033,.box 81 [.fn 26 [.ptr 1032 0,.dptr [E1 p2],.ptr 1033 0,Ec p4]])]):=by
 unfold G23 at h
 refine Zq [1032,1035,1033] [] Tryz.func26 O O (H54 O) (Jr fun hK1=>(Rc (E0 ids) O (JLl Gq O O O fun hm14=>(Rc (G0 0) O (G7 (hK1 (Gx ?_)))))))
 obtain⟨b102,kx102,hb102,hkx102,h⟩:=Jh h
 refine Hz (fun i102 (s102:(Hc Int Unit))=>each b102 kx102 (List.drop i102 ids) i102 s102=some r) (fun i102 s102=>[(1,.ptr 1032 0),(2,.dptr [E1 p2]),(3,.ptr 1033 0),(4,Ec p4),(13,E0 ids),(14,Ej ids.length),(15,Ej i102)]) (fun i102 s102=>[(1035,MP 80 (fun n:Int=>Value.int .i64 n) (fun _:Unit=>.agg []) s102),(1032,.box 80 [.mp 1035]),(1033,.box 81 [.fn 26 [.ptr 1032 0,.dptr [E1 p2],.ptr 1033 0,Ec p4]])]) (fun i102=>ids.length - i102) 0 p1 h ⟨(by repeat' constructor),⟨⟨_,rfl,.map⟩,⟨_,rfl,.boxL rfl ⟨.same rfl,G⟩⟩,⟨_,rfl,.boxL rfl ⟨.same rfl,G⟩⟩,G⟩,rfl⟩ ?_
 clear h
 intro i102 s102 hi102 K102 e102
 refine Jr fun hK103=>(JLh (BL (decide ((i102:Int) < (ids.length:Int)))) (Jt O O O) O (G7 (hK103 (Js fun hK104=>Gp O (fun hb=>?_) (fun hb=>?_)))))
 ·
  have hk102:=Q7 hb
  obtain⟨y102,nx102,hy102,hn102,h⟩:=J1 hi102 hk102
  replace h:=Zj hb102 h
  refine Gr (hK104 ?_)
  obtain⟨kj105,hkj105,h⟩:=Yh h
  refine R5 (fun j105:(Hc Int Unit)=>kj105 j105=some r) (fun j105=>[(1,.ptr 1032 0),(2,.dptr [E1 p2]),(3,.ptr 1033 0),(4,Ec p4),(13,E0 ids),(14,Ej ids.length),(15,Ej i102)]) (fun j105=>[(1035,MP 80 (fun n:Int=>Value.int .i64 n) (fun _:Unit=>.agg []) j105),(1032,.box 80 [.mp 1035]),(1033,.box 81 [.fn 26 [.ptr 1032 0,.dptr [E1 p2],.ptr 1033 0,Ec p4]])]) (fun Kj105 ej105=>?_) ?_
  ·
   refine Gx (Jr fun hK106=>(JLh (.dptr [G0 y102]) (H9 (f:=G0) (xs:=ids) (y:=y102) O O O Gq hy102 O) O (JLh (G0 y102) (Gi Gd O O O) O (Rc (G0 y102) O (G7 (hK106 (Js fun hK107=>Jr fun hK108=>(JLh (.mp 1035) (Y3 Gfd O O O O) O (Rc (G0 y102) O (JLh (.tup [.agg [],BL (Hc.has s102 y102)]) (Jcb (av:=(fun _:Unit=>.agg [])) (m:=s102) (a:=y102) () (.agg #[]) O O O O tk_3 Ha6 tf_zv_82 O) O (Rc (.tup [.agg [],BL (Hc.has s102 y102)]) O (JLh (.agg []) (H2 O O O) O (JLh (BL (Hc.has s102 y102)) (H2 O O O) O (JLh (.ptr 1065 0) (Hs 1065 0 J7a O O) O (J0 (u:=.junk) (A_store0 (u:=.agg []) J9b O O O O O O) (Rc (BL (Hc.has s102 y102)) O (G7 (hK108 ?_))))))))))))))))))
   refine Gs [(1,.ptr 1032 0),(2,.dptr [E1 p2]),(3,.ptr 1033 0),(4,Ec p4),(7,G0 y102),(9,BL (Hc.has s102 y102)),(13,E0 ids),(14,Ej ids.length),(15,Ej i102)] [(1035,MP 80 (fun n:Int=>Value.int .i64 n) (fun _:Unit=>.agg []) s102),(1032,.box 80 [.mp 1035]),(1033,.box 81 [.fn 26 [.ptr 1032 0,.dptr [E1 p2],.ptr 1033 0,Ec p4]])] 1065 rfl rfl rfl ⟨⟨_,rfl,.map⟩,⟨_,rfl,.boxEq rfl rfl⟩,⟨_,rfl,.boxEq rfl rfl⟩,G⟩ rfl (by repeat' (first | exact .ptr | constructor)) (Jr fun hK110=>(Rc (BL (Hc.has s102 y102)) O (G7 (hK110 (JCc O h (fun h hb=>?_) (fun h hb=>?_))))))
   ·
    refine J6 (ej105 _ _ s102 h ⟨(by repeat' constructor),⟨⟨_,rfl,.map⟩,⟨_,rfl,.boxL rfl ⟨.same rfl,G⟩⟩,⟨_,rfl,.boxL rfl ⟨.same rfl,G⟩⟩,G⟩,rfl⟩)
   ·
    refine Gr (hK107 (Jr fun hK111=>(JLh (.mp 1035) (Y3 Gfd O O O O) O (Rc (G0 y102) O (JLh (.agg []) (Hp (cs:=[]) [] [] [] J73 J98 G O O) O (J0 (u:=.junk) (Ha0 (m:=s102) (a:=y102) (v:=()) O O O O O O tk_3 Ha6) (G7 (hK111 (Jr fun hK112=>(JLh (E1 p2) (Gi Rg O O O) O (Rc (G0 y102) O ?_)))))))))))
    obtain⟨r113,hr113,h⟩:=Gf h
    refine JLh (.tup [E0 r113.1,G0 r113.2]) (Gu O (Gc4 p2 y102 r113 hr113) H64 ⟨O,O,O,O,G⟩) O (Rc (.tup [E0 r113.1,G0 r113.2]) O (JLh (E0 r113.1) (H2 O O O) O (JLh (G0 r113.2) (H2 O O O) O (Rc (E0 r113.1) O (Rc (G0 r113.2) O (G7 (hK112 (Jr fun hK114=>(JLh (.fn 26 [.ptr 1032 0,.dptr [E1 p2],.ptr 1033 0,Ec p4]) (Y3 Gfc O O O O) O (Rc (E0 r113.1) O ?_))))))))))
    obtain⟨r115,hr115,h⟩:=Gf h
    refine JLh (.tup []) (J62 (args:=[E0 r113.1]) (caps:=[.ptr 1032 0,.dptr [E1 p2],.ptr 1033 0,Ec p4]) (L0:=[(1032,.box 80 [.mp 1035]),(1035,MP 80 (fun n:Int=>Value.int .i64 n) (fun _:Unit=>.agg []) (Hc.put s102 y102 ())),(1033,.box 81 [.fn 26 [.ptr 1032 0,.dptr [E1 p2],.ptr 1033 0,Ec p4]])]) (Lr:=[(1032,.box 80 [.mp 1035]),(1035,MP 80 (fun n:Int=>Value.int .i64 n) (fun _:Unit=>.agg []) r115),(1033,.box 81 [.fn 26 [.ptr 1032 0,.dptr [E1 p2],.ptr 1033 0,Ec p4]])]) O O (self_w r113.1 (Hc.put s102 y102 ()) p2 p4 r115 hr115) H62 ⟨.inl O,O,G⟩ O ⟨O,O,O,G⟩ O O O) O (G7 (hK114 (Js fun hK116=>?_)))
    refine Rn (l':=[(1,.ptr 1032 0),(2,.dptr [E1 p2]),(3,.ptr 1033 0),(4,Ec p4),(7,G0 y102),(13,E0 ids),(14,Ej ids.length),(15,Ej i102)]) (L':=[(1035,MP 80 (fun n:Int=>Value.int .i64 n) (fun _:Unit=>.agg []) r115),(1032,.box 80 [.mp 1035]),(1033,.box 81 [.fn 26 [.ptr 1032 0,.dptr [E1 p2],.ptr 1033 0,Ec p4]])]) ⟨(by repeat' constructor),⟨⟨_,rfl,.map⟩,⟨_,rfl,.boxL rfl ⟨.same rfl,G⟩⟩,⟨_,rfl,.boxL rfl ⟨.same rfl,G⟩⟩,G⟩,rfl⟩ ?_
    obtain⟨r117,hr117,h⟩:=Gf h
    obtain⟨m119,y118,hm119,hy118,h⟩:=Rh h
    obtain⟨r120,hr120,h⟩:=Gf h
    refine JC_d0 Jz (by kernel_rfl) (Dq (.agg (Gt.cs p4)) (Gh H7 O O O) O (Dq (E1 p2) (Gi Rg O O O) O (Dq (E1 p2) (Gi Rg O O O) O (Dq (G0 y102) (G5 O O) O (Dq (G0 r117) (Gu (args:=[E1 p2,G0 y102]) O (G0f p2 y102 r117 hr117) G72 ⟨O,O,O,O,G⟩) O (Dq (Ed y118) (H9 (f:=Stowed.av) (xs:=p2) (y:=y118) O O O H0 hy118 hm119) O (Dq (.dptr ((Stowed.cs y118).drop 1)) (Gb J7 O O O) O (Dq (.dptr ((Stowed.cs y118).drop 1)) (Gb Jf O O O) O (Dq (G0 y118.Slot.G3) (Gi Gd O O O) O (Dq (G0 r120) (Gu (args:=[.agg (Gt.cs p4),G0 y118.Slot.G3]) O (H37 p4 y118.Slot.G3 r120 hr120) J21 ⟨O,O,O,O,G⟩) O (Dq (G0 r120) (G8 O O) O (Dnil ?_))))))))))))
    refine hK116 (Jr fun hK121=>(Rc (G0 r120) O (JLh (BL (decide (0≤r120))) (G9d O O O) O (G7 (hK121 (JCc O h (fun h hb=>?_) (fun h hb=>?_)))))))
    ·
     refine Rn (l':=[(1,.ptr 1032 0),(2,.dptr [E1 p2]),(3,.ptr 1033 0),(4,Ec p4),(12,G0 r120),(13,E0 ids),(14,Ej ids.length),(15,Ej i102)]) (L':=[(1035,MP 80 (fun n:Int=>Value.int .i64 n) (fun _:Unit=>.agg []) r115),(1032,.box 80 [.mp 1035]),(1033,.box 81 [.fn 26 [.ptr 1032 0,.dptr [E1 p2],.ptr 1033 0,Ec p4]])]) ⟨(by repeat' constructor),⟨⟨_,rfl,.map⟩,⟨_,rfl,.boxL rfl ⟨.same rfl,G⟩⟩,⟨_,rfl,.boxL rfl ⟨.same rfl,G⟩⟩,G⟩,rfl⟩ ?_
     obtain⟨r122,hr122,h⟩:=Gf h
     obtain⟨r123,hr123,h⟩:=Gf h
     refine Jy [5] [0,0,0,0,0,0] [0,0,0,0,0,0] [[(1035,MP 80 (fun n:Int=>Value.int .i64 n) (fun _:Unit=>.agg []) r115),(1032,.box 80 [.mp 1035]),(1033,.box 81 [.fn 26 [.ptr 1032 0,.dptr [E1 p2],.ptr 1033 0,Ec p4]])],((1035,MP 80 (fun n:Int=>Value.int .i64 n) (fun _:Unit=>.agg []) r123)::[(1035,MP 80 (fun n:Int=>Value.int .i64 n) (fun _:Unit=>.agg []) r115),(1032,.box 80 [.mp 1035]),(1033,.box 81 [.fn 26 [.ptr 1032 0,.dptr [E1 p2],.ptr 1033 0,Ec p4]])])] Jz (by kernel_rfl) rfl rfl ?_
     refine Gn (u:=.fn 26 [.ptr 1032 0,.dptr [E1 p2],.ptr 1033 0,Ec p4]) O O ⟨Gk (Y3 Gfc O O O O) O,G⟩ (Gn (u:=.agg (Gt.cs p4)) O O ⟨Gk (Gh H7 O O O) O,G⟩ (Gn (u:=E1 p2) O O ⟨Gk (Gi Rg O O O) O,G⟩ (Gn (u:=G0 r120) O O ⟨Gk (G5 O O) O,G⟩ (Gn (u:=E0 r122) O O ⟨Gk (Gu O (H56 p4 p2 r120 r122 hr122) J20 ⟨O,O,O,O,O,O,G⟩) O,G⟩ (J6b (u:=.tup []) O O O O (G34.locEq (Gk (J62 (args:=[E0 r122]) (caps:=[.ptr 1032 0,.dptr [E1 p2],.ptr 1033 0,Ec p4]) (L0:=[(1032,.box 80 [.mp 1035]),(1035,MP 80 (fun n:Int=>Value.int .i64 n) (fun _:Unit=>.agg []) r115),(1033,.box 81 [.fn 26 [.ptr 1032 0,.dptr [E1 p2],.ptr 1033 0,Ec p4]])]) (Lr:=[(1032,.box 80 [.mp 1035]),(1035,MP 80 (fun n:Int=>Value.int .i64 n) (fun _:Unit=>.agg []) r123),(1033,.box 81 [.fn 26 [.ptr 1032 0,.dptr [E1 p2],.ptr 1033 0,Ec p4]])]) O O (self_w r122 r115 p2 p4 r123 hr123) H62 ⟨.inl O,O,G⟩ O ⟨O,O,O,G⟩ O O O) O) (Gc6.of [1035,1032,1033] O O ⟨O,O,O,G⟩)) (Yb ?_))))))
     exact ej105 _ _ r123 h ⟨(by repeat' constructor),⟨⟨_,rfl,.map⟩,⟨_,rfl,.boxL rfl ⟨.same rfl,G⟩⟩,⟨_,rfl,.boxL rfl ⟨.same rfl,G⟩⟩,G⟩,rfl⟩
    ·
     refine Gr (ej105 _ _ r115 h ⟨(by repeat' constructor),⟨⟨_,rfl,.map⟩,⟨_,rfl,.boxL rfl ⟨.same rfl,G⟩⟩,⟨_,rfl,.boxL rfl ⟨.same rfl,G⟩⟩,G⟩,rfl⟩)
  ·intro j105 h
   replace h:=app1 hkj105 h
   refine G4 (JLh (G0 ((i102+1:Nat):Int)) (Hv (Hr hk102 hm14) O O O) O (Rc (G0 ((i102+1:Nat):Int)) O (G7 (e102 _ _ (i102+1) j105 (app1 hn102 h) (by omega) ⟨(by repeat' constructor),⟨⟨_,rfl,.map⟩,⟨_,rfl,.boxL rfl ⟨.same rfl,G⟩⟩,⟨_,rfl,.boxL rfl ⟨.same rfl,G⟩⟩,G⟩,rfl⟩))))
 ·
  have h:=app1 hkx102 (J2 hi102 (Hg hb))
  refine J6 ?_
  obtain rfl:=Option.some.inj h
  exact⟨[],[(1032,.box 80 [.mp 1035]),(1035,MP 80 (fun n:Int=>Value.int .i64 n) (fun _:Unit=>.agg []) s102),(1033,.box 81 [.fn 26 [.ptr 1032 0,.dptr [E1 p2],.ptr 1033 0,Ec p4]])],⟨⟨_,O,.boxL O ⟨.same O,G⟩⟩,⟨_,O,.map⟩,⟨_,O,.boxL O ⟨.same O,G⟩⟩,G⟩,O,G,O,O⟩
theorem Hba:∀ (F:Nat) (ids:List Int) (p1:Hc Int Unit) (p2:List Stowed) (p4:Gt) (r:(Hc Int Unit)) (h:Y9 F ids p1 p2 p4=some r),Qh Ek 26 [E0 ids,.ptr 1032 0,.dptr [E1 p2],.ptr 1033 0,Ec p4] [(1032,.box 80 [.mp 1035]),(1035,MP 80 (fun n:Int=>Value.int .i64 n) (fun _:Unit=>.agg []) p1),(1033,.box 81 [.fn 26 [.ptr 1032 0,.dptr [E1 p2],.ptr 1033 0,Ec p4]])] (fun av L'=>av=.tup []∧L'=[(1032,.box 80 [.mp 1035]),(1035,MP 80 (fun n:Int=>Value.int .i64 n) (fun _:Unit=>.agg []) r),(1033,.box 81 [.fn 26 [.ptr 1032 0,.dptr [E1 p2],.ptr 1033 0,Ec p4]])]):=by
 intro F
 induction F with
 | zero=>intro ids p1 p2 p4 r h; cases h
 | succ F ih=>intro ids p1 p2 p4 r h; exact Hc1 (Y9 F) ih F ids p1 p2 p4 r h

def G67 (F:Nat) (s:Gt) (boxes:List Ga) (l:List Stowed) (ids:List Int) (Rp:((List Int)×Int)→Prop):Option Prop:=
 bnd (Qa s boxes l []) fun r4=>
 bif (!r4) then
 (some (Rp ([],2)))
 else
 (each (fun y27 i27 (s27:Unit) nx27=>
   bnd (R8 l y27) fun r33=>
   bif decide (r33 < 0) then
   (some (Rp ([],6)))
   else
   (nx27 ()))
  (fun(s27:Unit)=>
   bnd (Y9 F ids (Hc.empty:Hc Int Unit) l s) fun r36=>
   eachM (fun(x48:Int×Unit) (s48:(List Int)) nx48=>
    need (decide ((s48.length+[x48.1].length)*8≤140737488355328∧s48.length+[x48.1].length≤maxLen)) <|
    nx48 (s48++[x48.1]))
   (fun(s48:(List Int))=>
    bnd (Gdf s48) fun r55=>
    some (Rp (r55,0))) (Hc.l r36) []) ids 0 ())
theorem J50 (F:Nat) (s:Gt) (boxes:List Ga) (l:List Stowed) (ids:List Int) (Rp:((List Int)×Int)→Prop) (p:Prop) (h:G67 F s boxes l ids Rp=some p) (hp:p):Pure Ek 10 [.agg (Gt.cs s),E2 boxes,E1 l,E0 ids] (fun av=>∃ r,Rp r∧av=.tup [E0 r.1,G0 r.2]):=by
 unfold G67 at h
 refine H5 [.tmp 8,.tmp 9] Tryz.func10 O O (Jr fun hK1=>(JLh (.ptr 1030 0) (Q1 (cs:=(Gt.cs s)) 1030 O O O O O) O (JLh (.ptr 1031 0) (Q1 (cs:=[E1 l]) 1031 O O O O O) O (JLh (E0 ([]:List Int)) (Hi 1 O O) O (Rc (G0 0) O (G7 (hK1 ?_)))))))
 refine Gs [(1,E2 boxes),(3,E0 ids),(4,Ec s),(6,.ptr 1031 0)] [(1031,.box 39 [E1 l])] 1030 rfl rfl rfl ⟨⟨_,rfl,.boxEq rfl rfl⟩,G⟩ rfl (by repeat' (first | exact .ptr | constructor)) ?_
 refine Gs [(1,E2 boxes),(3,E0 ids),(4,Ec s),(6,.dptr [E1 l])] [] 1031 rfl rfl rfl G rfl (by repeat' (first | exact .ptr | constructor)) (Js fun hK2=>Jr fun hK3=>(JLh (.agg (Gt.cs s)) (Gh H7 O O O) O (Rc (E2 boxes) O (JLh (E1 l) (Gi Rg O O O) O ?_))))
 obtain⟨r4,hr4,h⟩:=Gf h
 refine JLh (BL r4) (G46 (args:=[.agg (Gt.cs s),E2 boxes,E1 l,E0 ([]:List Int)]) O (Zu s boxes l [] r4 hr4) Gb4 ⟨.inl O,O,.inl O,O,.inl O,O,.inr ⟨_,O,O⟩,O,G⟩) O (JLh (BL (!r4)) (Ze (b:=r4) O O) O (G7 (hK3 (JCc O h (fun h hb=>?_) (fun h hb=>?_)))))
 ·
  refine Jr fun hK5=>(JLh (E0 ([]:List Int)) (Hi 1 O O) O (Rc (G0 2) O (G7 (hK5 (Gv (⟨[E0 ([]:List Int),G0 2],[],G,O,⟨⟨_,O,.conv (.same O)⟩,⟨_,O,.conv (.same O)⟩,G⟩,O,([],2),Eq.mpr (Option.some.inj h) hp,O⟩))))))
 ·
  refine Gr (hK2 (Jr fun hK6=>(JLh (.mp 1035) (H78 1035 (fun n:Int=>Value.int .i64 n) (fun _:Unit=>.agg []) O O) O (JLh (.ptr 1032 0) (Hs 1032 1 J7c O O) O (J0 (u:=.junk) (Hh (u:=.mp 1035) (ds:=[.mp 1035]) J9d O O O O O O O O) (G7 (hK6 (Jr fun hK7=>(JLh (.ptr 1033 0) (Hs 1033 1 J7b O O) O (G7 (hK7 ?_)))))))))))
  refine Jr fun hK8=>(JLh (.fn 26 [.ptr 1032 0,.dptr [E1 l],.ptr 1033 0,Ec s]) (Z5 (cs:=[.ptr 1032 0,.dptr [E1 l],.ptr 1033 0,Ec s]) O O) O (J0 (u:=.junk) (Hh (u:=.fn 26 [.ptr 1032 0,.dptr [E1 l],.ptr 1033 0,Ec s]) (ds:=[.fn 26 [.ptr 1032 0,.dptr [E1 l],.ptr 1033 0,Ec s]]) J9c O O O O O O O O) (G7 (hK8 ?_))))
  refine Js fun hK9=>Jr fun hK10=>(Rc (E0 ids) O (JLl Gq O O O fun hm24=>(Rc (G0 0) O (G7 (hK10 (Gx ?_))))))
  obtain⟨b27,kx27,hb27,hkx27,h⟩:=Jh h
  refine Hz (fun i27 (s27:Unit)=>each b27 kx27 (List.drop i27 ids) i27 s27=some p) (fun i27 s27=>[(3,E0 ids),(6,.dptr [E1 l]),(10,.ptr 1032 0),(11,.ptr 1033 0),(23,E0 ids),(24,Ej ids.length),(25,Ej i27)]) (fun i27 s27=>[(1035,MP 80 (fun n:Int=>Value.int .i64 n) (fun _:Unit=>.agg []) (Hc.empty:Hc Int Unit)),(1032,.box 80 [.mp 1035]),(1033,.box 81 [.fn 26 [.ptr 1032 0,.dptr [E1 l],.ptr 1033 0,Ec s]])]) (fun i27=>ids.length - i27) 0 () h ⟨(by repeat' constructor),⟨⟨_,rfl,.map⟩,⟨_,rfl,.boxL rfl ⟨.same rfl,G⟩⟩,⟨_,rfl,.boxL rfl ⟨.same rfl,G⟩⟩,G⟩,rfl⟩ ?_
  clear h
  intro i27 s27 hi27 K27 e27
  refine Jr fun hK28=>(JLh (BL (decide ((i27:Int) < (ids.length:Int)))) (Jt O O O) O (G7 (hK28 (Js fun hK29=>Gp O (fun hb=>?_) (fun hb=>?_)))))
  ·
   have hk27:=Q7 hb
   obtain⟨y27,nx27,hy27,hn27,h⟩:=J1 hi27 hk27
   replace h:=Zj hb27 h
   refine Gr (hK29 (Js fun hK30=>Gx (Jr fun hK31=>(JLh (.dptr [G0 y27]) (H9 (f:=G0) (xs:=ids) (y:=y27) O O O Gq hy27 O) O (JLh (G0 y27) (Gi Gd O O O) O (Rc (G0 y27) O (G7 (hK31 (Jr fun hK32=>(JLh (E1 l) (Gi Rg O O O) O (Rc (G0 y27) O ?_)))))))))))
   obtain⟨r33,hr33,h⟩:=Gf h
   refine JLh (G0 r33) (Gu O (G0f l y27 r33 hr33) G72 ⟨O,O,O,O,G⟩) O (JLh (BL (decide (r33 < 0))) (Jt O O O) O (G7 (hK32 (JCc O h (fun h hb=>?_) (fun h hb=>?_)))))
   ·
    refine Jr fun hK34=>(JLh (E0 ([]:List Int)) (Hi 1 O O) O (Rc (G0 6) O (G7 (hK34 (Gv (⟨[E0 ([]:List Int),G0 6],[],G,O,⟨⟨_,O,.conv (.same O)⟩,⟨_,O,.conv (.same O)⟩,G⟩,O,([],6),Eq.mpr (Option.some.inj h) hp,O⟩))))))
   ·
    refine Gr (hK30 (G4 (JLh (G0 ((i27+1:Nat):Int)) (Hv (Hr hk27 hm24) O O O) O (Rc (G0 ((i27+1:Nat):Int)) O (G7 (e27 _ _ (i27+1) () (app1 hn27 h) (by omega) ⟨(by repeat' constructor),⟨⟨_,rfl,.map⟩,⟨_,rfl,.boxL rfl ⟨.same rfl,G⟩⟩,⟨_,rfl,.boxL rfl ⟨.same rfl,G⟩⟩,G⟩,rfl⟩))))))
  ·
   have h:=app1 hkx27 (J2 hi27 (Hg hb))
   refine J6 (hK9 (Jr fun hK35=>(JLh (.fn 26 [.ptr 1032 0,.dptr [E1 l],.ptr 1033 0,Ec s]) (Y3 Gfc O O O O) O (Rc (E0 ids) O ?_))))
   obtain⟨r36,hr36,h⟩:=Gf h
   refine JLh (.tup []) (J62 (args:=[E0 ids]) (caps:=[.ptr 1032 0,.dptr [E1 l],.ptr 1033 0,Ec s]) (L0:=[(1032,.box 80 [.mp 1035]),(1035,MP 80 (fun n:Int=>Value.int .i64 n) (fun _:Unit=>.agg []) (Hc.empty:Hc Int Unit)),(1033,.box 81 [.fn 26 [.ptr 1032 0,.dptr [E1 l],.ptr 1033 0,Ec s]])]) (Lr:=[(1032,.box 80 [.mp 1035]),(1035,MP 80 (fun n:Int=>Value.int .i64 n) (fun _:Unit=>.agg []) r36),(1033,.box 81 [.fn 26 [.ptr 1032 0,.dptr [E1 l],.ptr 1033 0,Ec s]])]) O O (Hba F ids (Hc.empty:Hc Int Unit) l s r36 hr36) H62 ⟨.inl O,O,G⟩ O ⟨O,O,O,G⟩ O O O) O (G7 (hK35 ?_))
   refine Jr fun hK37=>(JLh (.vec 1034 (([]:List Int).length) 1 (([]:List Int).length)) (Jc8 1034 3 1 O O O) O (G7 (hK37 (Js fun hK38=>Jr fun hK39=>(JLh (.mp 1035) (Y3 Gfd O O O O) O (JLh (.it 1036) (J8f 1036 (m:=r36) O O O O Ha6) O (G7 (hK39 (Gx ?_)))))))))
   obtain⟨b48,kx48,hb48,hkx48,h⟩:=eachM_in h
   refine J89 (Hc.size r36) (fun i48 (s48:(List Int))=>MInv b48 kx48 (Hc.l r36) i48 s48) (fun i48 s48=>[(14,.vec 1034 s48.length 1 s48.length),(38,.it 1036)]) (fun i48 s48=>[(1035,MP 80 (fun n:Int=>Value.int .i64 n) (fun _:Unit=>.agg []) r36),(1034,.vec 3 1 s48.length (s48.map G0)),(1036,.iter 1035 (Hc.size r36) i48),(1032,.box 80 [.mp 1035]),(1033,.box 81 [.fn 26 [.ptr 1032 0,.dptr [E1 l],.ptr 1033 0,Ec s]])]) [] (MInv.start h hp) ⟨⟨.same O,.same O,G⟩,⟨⟨_,O,.map⟩,⟨_,O,.vec⟩,⟨_,O,.iter O⟩,⟨_,O,.boxL O ⟨.same O,G⟩⟩,⟨_,O,.boxL O ⟨.same O,G⟩⟩,G⟩,O⟩ ?_
   clear h hp
   intro i48 s48 hi48 K48 e48
   refine Jr fun hK49=>Gd6 O O O (A_nextM (m:=r36) O O O O) ?_
   intro u_ L_ hn_
   rcases hn_ with ⟨q48,x48,he48,hs48,rfl,rfl⟩ | ⟨ha48,rfl,rfl⟩
   ·
    obtain⟨o48,h,ho1_48,ho2_48⟩:=hi48.step he48 hs48
    replace h:=app3 hb48 h
    refine JLh (BL true) (H2 O O O) O (G7 (hK49 (Js fun hK50=>J8a O (Gr (hK50 (Gx (Jr fun hK51=>(JLh (.tup [G0 x48.1,.agg []]) (J93 (kv:=(fun n:Int=>Value.int .i64 n)) (av:=(fun _:Unit=>.agg [])) (m:=r36) (q:=q48) (seen:=i48) (e:=x48) O O O O he48) O (JLh (G0 x48.1) (H2 O O O) O (Rc (G0 x48.1) O (G7 (hK51 (G4 (Rc (.vec 1034 s48.length 1 s48.length) O (Rc (G0 x48.1) O (JLh (E0 [x48.1]) (H6 (xs:=[G0 x48.1]) O ⟨O,O,G⟩ Gq Ju O O O O) O ?_))))))))))))))))
    obtain⟨ha52,h⟩:=Jk h
    refine JLh (.vec 1034 ((s48++[x48.1]).length) 1 ((s48++[x48.1]).length)) (G7c (f:=G0) (xs:=s48) (ys:=[x48.1]) (ver:=s48.length) (ver1:=(s48++[x48.1]).length) rfl rfl rfl rfl Gq Yv ha52 (fun _=>rfl) (.inl rfl) (by simp)) O (Rc (.vec 1034 ((s48++[x48.1]).length) 1 ((s48++[x48.1]).length)) O (G7 (e48 _ _ (i48++[q48]) (s48++[x48.1]) (ho2_48 _ (Option.some.inj h).symm) (unseen_lt (List.getElem?_eq_some_iff.1 he48).1 hs48) ⟨⟨.same O,.same O,G⟩,⟨⟨_,O,.map⟩,⟨_,O,.vec⟩,⟨_,O,.iter O⟩,⟨_,O,.boxL O ⟨.same O,G⟩⟩,⟨_,O,.boxL O ⟨.same O,G⟩⟩,G⟩,O⟩)))
   ·
    obtain⟨p_,h,hp⟩:=hi48.done ha48
    replace h:=app1 hkx48 h
    refine JLh (BL false) (H2 O O O) O (G7 (hK49 (Js fun hK53=>J8b O (J6 (hK38 (Jr fun hK54=>(Rc (.vec 1034 s48.length 1 s48.length) O ?_)))))))
    obtain⟨r55,hr55,h⟩:=Gf h
    refine JLh (.tup []) (A_sortI (F:=30) (xs:=s48) (r:=r55) O sortILaw_30 sortINone_30 Jbe O O O hr55 O) O (G7 (hK54 (Jr fun hK56=>(Rc (.vec 1034 s48.length 1 s48.length) O (Rc (.vec 1034 s48.length 1 s48.length) O (Rc (G0 0) O (G7 (hK56 (Jc6 [(8,E0 r55),(9,G0 0)] [] 1034 rfl rfl G rfl (by exact⟨.vec,.conv (.same rfl),G⟩) (Gv (⟨[E0 r55,G0 0],[],G,O,⟨⟨_,O,.conv (.same O)⟩,⟨_,O,.conv (.same O)⟩,G⟩,O,(r55,0),Eq.mpr (Option.some.inj h) hp,O⟩)))))))))))
theorem J51 (S_:Nat→(Gt)→(List Ga)→(List Stowed)→(List Int)→Option ((List Int)×Int)) (hS_:∀ F s boxes l ids r,S_ F s boxes l ids=some r→∃ p:Prop,G67 F s boxes l ids (fun r_=>r_=r)=some p∧p) (F:Nat) (s:Gt) (boxes:List Ga) (l:List Stowed) (ids:List Int) (r:(List Int)×Int) (h:S_ F s boxes l ids=some r):Pure Ek 10 [.agg (Gt.cs s),E2 boxes,E1 l,E0 ids] (·=.tup [E0 r.1,G0 r.2]):=by
 obtain⟨p,h1,h2⟩:=hS_ F s boxes l ids r h
 exact(J50 F s boxes l ids _ p h1 h2).monoP (fun av hh=>by obtain⟨r_,rfl,ha⟩:=hh; exact ha)
end
end Go.Proofs.YtbljcmgjmieffaaGreat
