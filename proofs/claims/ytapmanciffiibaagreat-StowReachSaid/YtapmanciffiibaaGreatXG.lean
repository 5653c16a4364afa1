/-
 Models of functions of the program,and that they return what the models say.
-/
import Derived.Test.YtapmanciffiibaaGreatXGa
set_option linter.unnecessarySimpa false
set_option maxRecDepth 100000
set_option linter.unusedVariables false
set_option linter.unusedSimpArgs false
namespace Go.Proofs.YtapmanciffiibaaGreat
open Go.RowKit
noncomputable section
open XAF
open XCF
open XGF

def G05 (self_:(List Int)→(H8 Int Unit)→(List Stowed)→Gu→Option (H8 Int Unit)) (F:Nat) (ids:List Int) (p1:H8 Int Unit) (p2:List Stowed) (p4:Gu):Option (H8 Int Unit):=
 each (fun y102 i102 (s102:(H8 Int Unit)) nx102=>
  jp (fun kj105=>
   bif (H8.has s102 y102) then
   (kj105 s102)
   else
   (bnd (Yh p2 y102) fun r113=>
    bnd (self_ r113.1 (H8.put s102 y102 ()) p2 p4) fun r115=>
    bnd (Qq p2 y102) fun r117=>
    Z1 p2 r117 fun y118=>
    bnd (G0e p4 y118.Slot.G3) fun r120=>
    bif decide (0≤r120) then
    (bnd (G2c p4 p2 r120) fun r122=>
     bnd (self_ r122 r115 p2 p4) fun r123=>
     kj105 r123)
    else
    (kj105 r115))) fun(j105:(H8 Int Unit))=>
  nx102 j105)
 (fun(s102:(H8 Int Unit))=>
  some s102) ids 0 p1
def Rk:Nat→(List Int)→(H8 Int Unit)→(List Stowed)→Gu→Option (H8 Int Unit)
 | 0,_,_,_,_=>none
 | F+1,ids,p1,p2,p4=>G05 (Rk F) F ids p1 p2 p4
theorem H98 (self_:(List Int)→(H8 Int Unit)→(List Stowed)→Gu→Option (H8 Int Unit)) (self_w:∀ (ids:List Int) (p1:H8 Int Unit) (p2:List Stowed) (p4:Gu) (r:(H8 Int Unit)),self_ ids p1 p2 p4=some r→Q1 Ek 14 [E0 ids,.ptr 1014 0,.dptr [E1 p2],.ptr 1015 0,Ec p4] [(1014,.box 65 [.mp 1017]),(1017,MP 65 (fun n:Int=>Value.int .i64 n) (fun _:Unit=>.agg []) p1),(1015,.box 66 [.fn 14 [.ptr 1014 0,.dptr [E1 p2],.ptr 1015 0,Ec p4]])] (fun av L'=>av=.tup []∧L'=[(1014,.box 65 [.mp 1017]),(1017,MP 65 (fun n:Int=>Value.int .i64 n) (fun _:Unit=>.agg []) r),(1015,.box 66 [.fn 14 [.ptr 1014 0,.dptr [E1 p2],.ptr 1015 0,Ec p4]])])) (F:Nat) (ids:List Int) (p1:H8 Int Unit) (p2:List Stowed) (p4:Gu) (r:(H8 Int Unit)) (h:G05 self_ F ids p1 p2 p4=some r):Q1 Ek 14 [E0 ids,.ptr 1014 0,.dptr [E1 p2],.ptr 1015 0,Ec p4] [(1014,.box 65 [.mp 1017]),(1017,MP 65 (fun n:Int=>Value.int .i64 n) (fun _:Unit=>.agg []) p1),(1015,.box 66 [.fn 14 [.ptr 1014 0,.dptr [E1 p2],.ptr 1015 0,Ec p4]])] (fun av L'=>av=.tup []∧L'=[(1014,.box 65 [.mp 1017]),(1017,MP 65 (fun n:Int=>Value.int .i64 n) (fun _:Unit=>.agg []) r),(1015,.box 66 [.fn 14 [.ptr 1014 0,.dptr [E1 p2],.ptr 1015 0,Ec p4]])]):=by
 unfold G05 at h
 refine G07 [1014,1017,1015] [] Tryz.func14 O O (Ha9 O) (Jr fun hK1=>(Rq (E0 ids) O (JLl Gj O O O fun hm14=>(Rq (G0 0) O (G7 (hK1 (Gv ?_)))))))
 obtain⟨b102,kx102,hb102,hkx102,h⟩:=Ja h
 refine Hr (fun i102 (s102:(H8 Int Unit))=>each b102 kx102 (List.drop i102 ids) i102 s102=some r) (fun i102 s102=>[(1,.ptr 1014 0),(2,.dptr [E1 p2]),(3,.ptr 1015 0),(4,Ec p4),(13,E0 ids),(14,Ej ids.length),(15,Ej i102)]) (fun i102 s102=>[(1017,MP 65 (fun n:Int=>Value.int .i64 n) (fun _:Unit=>.agg []) s102),(1014,.box 65 [.mp 1017]),(1015,.box 66 [.fn 14 [.ptr 1014 0,.dptr [E1 p2],.ptr 1015 0,Ec p4]])]) (fun i102=>ids.length - i102) 0 p1 h ⟨(by repeat' constructor),⟨⟨_,rfl,.map⟩,⟨_,rfl,.boxL rfl ⟨.same rfl,G⟩⟩,⟨_,rfl,.boxL rfl ⟨.same rfl,G⟩⟩,G⟩,rfl⟩ ?_
 clear h
 intro i102 s102 hi102 K102 e102
 refine Jr fun hK103=>(JLh (BL (decide ((i102:Int) < (ids.length:Int)))) (Jc O O O) O (G7 (hK103 (Js fun hK104=>Gm O (fun hb=>?_) (fun hb=>?_)))))
 ·
  have hk102:=Jz hb
  obtain⟨y102,nx102,hy102,hn102,h⟩:=Hu hi102 hk102
  replace h:=Zr hb102 h
  refine Gp (hK104 ?_)
  obtain⟨kj105,hkj105,h⟩:=Yo h
  refine Rb (fun j105:(H8 Int Unit)=>kj105 j105=some r) (fun j105=>[(1,.ptr 1014 0),(2,.dptr [E1 p2]),(3,.ptr 1015 0),(4,Ec p4),(13,E0 ids),(14,Ej ids.length),(15,Ej i102)]) (fun j105=>[(1017,MP 65 (fun n:Int=>Value.int .i64 n) (fun _:Unit=>.agg []) j105),(1014,.box 65 [.mp 1017]),(1015,.box 66 [.fn 14 [.ptr 1014 0,.dptr [E1 p2],.ptr 1015 0,Ec p4]])]) (fun Kj105 ej105=>?_) ?_
  ·
   refine Gv (Jr fun hK106=>(JLh (.dptr [G0 y102]) (He (f:=G0) (xs:=ids) (y:=y102) O O O Gj hy102 O) O (JLh (G0 y102) (Gi Ge O O O) O (Rq (G0 y102) O (G7 (hK106 (Js fun hK107=>Jr fun hK108=>(JLh (.mp 1017) (Rc Gd1 O O O O) O (Rq (G0 y102) O (JLh (.tup [.agg [],BL (H8.has s102 y102)]) (J9c (av:=(fun _:Unit=>.agg [])) (m:=s102) (a:=y102) () (.agg #[]) O O O O tk_3 H7e tf_zv_67 O) O (Rq (.tup [.agg [],BL (H8.has s102 y102)]) O (JLh (.agg []) (Hb O O O) O (JLh (BL (H8.has s102 y102)) (Hb O O O) O (JLh (.ptr 1037 0) (Jb 1037 0 J48 O O) O (J8 (u:=.junk) (A_store0 (u:=.agg []) J63 O O O O O O) (Rq (BL (H8.has s102 y102)) O (G7 (hK108 ?_))))))))))))))))))
   refine Gs [(1,.ptr 1014 0),(2,.dptr [E1 p2]),(3,.ptr 1015 0),(4,Ec p4),(7,G0 y102),(9,BL (H8.has s102 y102)),(13,E0 ids),(14,Ej ids.length),(15,Ej i102)] [(1017,MP 65 (fun n:Int=>Value.int .i64 n) (fun _:Unit=>.agg []) s102),(1014,.box 65 [.mp 1017]),(1015,.box 66 [.fn 14 [.ptr 1014 0,.dptr [E1 p2],.ptr 1015 0,Ec p4]])] 1037 rfl rfl rfl ⟨⟨_,rfl,.map⟩,⟨_,rfl,.boxEq rfl rfl⟩,⟨_,rfl,.boxEq rfl rfl⟩,G⟩ rfl (by repeat' (first | exact .ptr | constructor)) (Jr fun hK110=>(Rq (BL (H8.has s102 y102)) O (G7 (hK110 (JCc O h (fun h hb=>?_) (fun h hb=>?_))))))
   ·
    refine Hy (ej105 _ _ s102 h ⟨(by repeat' constructor),⟨⟨_,rfl,.map⟩,⟨_,rfl,.boxL rfl ⟨.same rfl,G⟩⟩,⟨_,rfl,.boxL rfl ⟨.same rfl,G⟩⟩,G⟩,rfl⟩)
   ·
    refine Gp (hK107 (Jr fun hK111=>(JLh (.mp 1017) (Rc Gd1 O O O O) O (Rq (G0 y102) O (JLh (.agg []) (Hp (cs:=[]) [] [] [] J3e J60 G O O) O (J8 (u:=.junk) (J43 (m:=s102) (a:=y102) (v:=()) O O O O O O tk_3 H7e) (G7 (hK111 (Jr fun hK112=>(JLh (E1 p2) (Gi Qv O O O) O (Rq (G0 y102) O ?_)))))))))))
    obtain⟨r113,hr113,h⟩:=Gg h
    refine JLh (.tup [E0 r113.1,G0 r113.2]) (Gw O (H0c p2 y102 r113 hr113) Hea ⟨O,O,O,O,G⟩) O (Rq (.tup [E0 r113.1,G0 r113.2]) O (JLh (E0 r113.1) (Hb O O O) O (JLh (G0 r113.2) (Hb O O O) O (Rq (E0 r113.1) O (Rq (G0 r113.2) O (G7 (hK112 (Jr fun hK114=>(JLh (.fn 14 [.ptr 1014 0,.dptr [E1 p2],.ptr 1015 0,Ec p4]) (Rc Gd0 O O O O) O (Rq (E0 r113.1) O ?_))))))))))
    obtain⟨r115,hr115,h⟩:=Gg h
    refine JLh (.tup []) (J29 (args:=[E0 r113.1]) (caps:=[.ptr 1014 0,.dptr [E1 p2],.ptr 1015 0,Ec p4]) (L0:=[(1014,.box 65 [.mp 1017]),(1017,MP 65 (fun n:Int=>Value.int .i64 n) (fun _:Unit=>.agg []) (H8.put s102 y102 ())),(1015,.box 66 [.fn 14 [.ptr 1014 0,.dptr [E1 p2],.ptr 1015 0,Ec p4]])]) (Lr:=[(1014,.box 65 [.mp 1017]),(1017,MP 65 (fun n:Int=>Value.int .i64 n) (fun _:Unit=>.agg []) r115),(1015,.box 66 [.fn 14 [.ptr 1014 0,.dptr [E1 p2],.ptr 1015 0,Ec p4]])]) O O (self_w r113.1 (H8.put s102 y102 ()) p2 p4 r115 hr115) H3f ⟨.inl O,O,G⟩ O ⟨O,O,O,G⟩ O O O) O (G7 (hK114 (Js fun hK116=>?_)))
    refine Za (l':=[(1,.ptr 1014 0),(2,.dptr [E1 p2]),(3,.ptr 1015 0),(4,Ec p4),(7,G0 y102),(13,E0 ids),(14,Ej ids.length),(15,Ej i102)]) (L':=[(1017,MP 65 (fun n:Int=>Value.int .i64 n) (fun _:Unit=>.agg []) r115),(1014,.box 65 [.mp 1017]),(1015,.box 66 [.fn 14 [.ptr 1014 0,.dptr [E1 p2],.ptr 1015 0,Ec p4]])]) ⟨(by repeat' constructor),⟨⟨_,rfl,.map⟩,⟨_,rfl,.boxL rfl ⟨.same rfl,G⟩⟩,⟨_,rfl,.boxL rfl ⟨.same rfl,G⟩⟩,G⟩,rfl⟩ ?_
    obtain⟨r117,hr117,h⟩:=Gg h
    obtain⟨m119,y118,hm119,hy118,h⟩:=Z0 h
    obtain⟨r120,hr120,h⟩:=Gg h
    refine JC_d0 Qo (by kernel_rfl) (Dq (.agg (Gu.cs p4)) (Gk Hf O O O) O (Dq (E1 p2) (Gi Qv O O O) O (Dq (E1 p2) (Gi Qv O O O) O (Dq (G0 y102) (G6 O O) O (Dq (G0 r117) (Gw (args:=[E1 p2,G0 y102]) O (Zm p2 y102 r117 hr117) G4a ⟨O,O,O,O,G⟩) O (Dq (Ed y118) (He (f:=Stowed.av) (xs:=p2) (y:=y118) O O O Hd hy118 hm119) O (Dq (.dptr ((Stowed.cs y118).drop 1)) (Gd J4 O O O) O (Dq (.dptr ((Stowed.cs y118).drop 1)) (Gd Jd O O O) O (Dq (G0 y118.Slot.G3) (Gi Ge O O O) O (Dq (G0 r120) (Gw (args:=[.agg (Gu.cs p4),G0 y118.Slot.G3]) O (H0b p4 y118.Slot.G3 r120 hr120) He9 ⟨O,O,O,O,G⟩) O (Dq (G0 r120) (G8 O O) O (Dnil ?_))))))))))))
    refine hK116 (Jr fun hK121=>(Rq (G0 r120) O (JLh (BL (decide (0≤r120))) (Ga1 O O O) O (G7 (hK121 (JCc O h (fun h hb=>?_) (fun h hb=>?_)))))))
    ·
     refine Za (l':=[(1,.ptr 1014 0),(2,.dptr [E1 p2]),(3,.ptr 1015 0),(4,Ec p4),(12,G0 r120),(13,E0 ids),(14,Ej ids.length),(15,Ej i102)]) (L':=[(1017,MP 65 (fun n:Int=>Value.int .i64 n) (fun _:Unit=>.agg []) r115),(1014,.box 65 [.mp 1017]),(1015,.box 66 [.fn 14 [.ptr 1014 0,.dptr [E1 p2],.ptr 1015 0,Ec p4]])]) ⟨(by repeat' constructor),⟨⟨_,rfl,.map⟩,⟨_,rfl,.boxL rfl ⟨.same rfl,G⟩⟩,⟨_,rfl,.boxL rfl ⟨.same rfl,G⟩⟩,G⟩,rfl⟩ ?_
     obtain⟨r122,hr122,h⟩:=Gg h
     obtain⟨r123,hr123,h⟩:=Gg h
     refine Q9 [5] [0,0,0,0,0,0] [0,0,0,0,0,0] [[(1017,MP 65 (fun n:Int=>Value.int .i64 n) (fun _:Unit=>.agg []) r115),(1014,.box 65 [.mp 1017]),(1015,.box 66 [.fn 14 [.ptr 1014 0,.dptr [E1 p2],.ptr 1015 0,Ec p4]])],((1017,MP 65 (fun n:Int=>Value.int .i64 n) (fun _:Unit=>.agg []) r123)::[(1017,MP 65 (fun n:Int=>Value.int .i64 n) (fun _:Unit=>.agg []) r115),(1014,.box 65 [.mp 1017]),(1015,.box 66 [.fn 14 [.ptr 1014 0,.dptr [E1 p2],.ptr 1015 0,Ec p4]])])] Qo (by kernel_rfl) rfl rfl ?_
     refine Gq (u:=.fn 14 [.ptr 1014 0,.dptr [E1 p2],.ptr 1015 0,Ec p4]) O O ⟨Gx (Rc Gd0 O O O O) O,G⟩ (Gq (u:=.agg (Gu.cs p4)) O O ⟨Gx (Gk Hf O O O) O,G⟩ (Gq (u:=E1 p2) O O ⟨Gx (Gi Qv O O O) O,G⟩ (Gq (u:=G0 r120) O O ⟨Gx (G6 O O) O,G⟩ (Gq (u:=E0 r122) O O ⟨Gx (Gw O (H2f p4 p2 r120 r122 hr122) He8 ⟨O,O,O,O,O,O,G⟩) O,G⟩ (D_w (u:=.tup []) O O O O (G13.locEq (Gx (J29 (args:=[E0 r122]) (caps:=[.ptr 1014 0,.dptr [E1 p2],.ptr 1015 0,Ec p4]) (L0:=[(1014,.box 65 [.mp 1017]),(1017,MP 65 (fun n:Int=>Value.int .i64 n) (fun _:Unit=>.agg []) r115),(1015,.box 66 [.fn 14 [.ptr 1014 0,.dptr [E1 p2],.ptr 1015 0,Ec p4]])]) (Lr:=[(1014,.box 65 [.mp 1017]),(1017,MP 65 (fun n:Int=>Value.int .i64 n) (fun _:Unit=>.agg []) r123),(1015,.box 66 [.fn 14 [.ptr 1014 0,.dptr [E1 p2],.ptr 1015 0,Ec p4]])]) O O (self_w r122 r115 p2 p4 r123 hr123) H3f ⟨.inl O,O,G⟩ O ⟨O,O,O,G⟩ O O O) O) (G9f.of [1017,1014,1015] O O ⟨O,O,O,G⟩)) (Z7 ?_))))))
     exact ej105 _ _ r123 h ⟨(by repeat' constructor),⟨⟨_,rfl,.map⟩,⟨_,rfl,.boxL rfl ⟨.same rfl,G⟩⟩,⟨_,rfl,.boxL rfl ⟨.same rfl,G⟩⟩,G⟩,rfl⟩
    ·
     refine Gp (ej105 _ _ r115 h ⟨(by repeat' constructor),⟨⟨_,rfl,.map⟩,⟨_,rfl,.boxL rfl ⟨.same rfl,G⟩⟩,⟨_,rfl,.boxL rfl ⟨.same rfl,G⟩⟩,G⟩,rfl⟩)
  ·intro j105 h
   replace h:=app1 hkj105 h
   refine G4 (JLh (G0 ((i102+1:Nat):Int)) (J0 (Ho hk102 hm14) O O O) O (Rq (G0 ((i102+1:Nat):Int)) O (G7 (e102 _ _ (i102+1) j105 (app1 hn102 h) (by omega) ⟨(by repeat' constructor),⟨⟨_,rfl,.map⟩,⟨_,rfl,.boxL rfl ⟨.same rfl,G⟩⟩,⟨_,rfl,.boxL rfl ⟨.same rfl,G⟩⟩,G⟩,rfl⟩))))
 ·
  have h:=app1 hkx102 (Hv hi102 (Hi hb))
  refine Hy ?_
  obtain rfl:=Option.some.inj h
  exact⟨[],[(1014,.box 65 [.mp 1017]),(1017,MP 65 (fun n:Int=>Value.int .i64 n) (fun _:Unit=>.agg []) s102),(1015,.box 66 [.fn 14 [.ptr 1014 0,.dptr [E1 p2],.ptr 1015 0,Ec p4]])],⟨⟨_,O,.boxL O ⟨.same O,G⟩⟩,⟨_,O,.map⟩,⟨_,O,.boxL O ⟨.same O,G⟩⟩,G⟩,O,G,O,O⟩
theorem H92:∀ (F:Nat) (ids:List Int) (p1:H8 Int Unit) (p2:List Stowed) (p4:Gu) (r:(H8 Int Unit)) (h:Rk F ids p1 p2 p4=some r),Q1 Ek 14 [E0 ids,.ptr 1014 0,.dptr [E1 p2],.ptr 1015 0,Ec p4] [(1014,.box 65 [.mp 1017]),(1017,MP 65 (fun n:Int=>Value.int .i64 n) (fun _:Unit=>.agg []) p1),(1015,.box 66 [.fn 14 [.ptr 1014 0,.dptr [E1 p2],.ptr 1015 0,Ec p4]])] (fun av L'=>av=.tup []∧L'=[(1014,.box 65 [.mp 1017]),(1017,MP 65 (fun n:Int=>Value.int .i64 n) (fun _:Unit=>.agg []) r),(1015,.box 66 [.fn 14 [.ptr 1014 0,.dptr [E1 p2],.ptr 1015 0,Ec p4]])]):=by
 intro F
 induction F with
 | zero=>intro ids p1 p2 p4 r h; cases h
 | succ F ih=>intro ids p1 p2 p4 r h; exact H98 (Rk F) ih F ids p1 p2 p4 r h

def G3d (F:Nat) (s:Gu) (boxes:List Ga) (l:List Stowed) (ids:List Int) (Rp:((List Int)×Int)→Prop):Option Prop:=
 bnd (Jn s boxes l []) fun r4=>
 bif (!r4) then
 (some (Rp ([],2)))
 else
 (each (fun y27 i27 (s27:Unit) nx27=>
   bnd (Qq l y27) fun r33=>
   bif decide (r33 < 0) then
   (some (Rp ([],6)))
   else
   (nx27 ()))
  (fun(s27:Unit)=>
   bnd (Rk F ids (H8.empty:H8 Int Unit) l s) fun r36=>
   eachM (fun(x48:Int×Unit) (s48:(List Int)) nx48=>
    need (decide ((s48.length+[x48.1].length)*8≤140737488355328∧s48.length+[x48.1].length≤maxLen)) <|
    nx48 (s48++[x48.1]))
   (fun(s48:(List Int))=>
    bnd (Gb6 s48) fun r55=>
    some (Rp (r55,0))) (H8.l r36) []) ids 0 ())
theorem J12 (F:Nat) (s:Gu) (boxes:List Ga) (l:List Stowed) (ids:List Int) (Rp:((List Int)×Int)→Prop) (p:Prop) (h:G3d F s boxes l ids Rp=some p) (hp:p):Pure Ek 6 [.agg (Gu.cs s),E2 boxes,E1 l,E0 ids] (fun av=>∃ r,Rp r∧av=.tup [E0 r.1,G0 r.2]):=by
 unfold G3d at h
 refine H1 [.tmp 8,.tmp 9] Tryz.func6 O O (Jr fun hK1=>(JLh (.ptr 1012 0) (Jf (cs:=(Gu.cs s)) 1012 O O O O O) O (JLh (.ptr 1013 0) (Jf (cs:=[E1 l]) 1013 O O O O O) O (JLh (E0 ([]:List Int)) (Hj 1 O O) O (Rq (G0 0) O (G7 (hK1 ?_)))))))
 refine Gs [(1,E2 boxes),(3,E0 ids),(4,Ec s),(6,.ptr 1013 0)] [(1013,.box 39 [E1 l])] 1012 rfl rfl rfl ⟨⟨_,rfl,.boxEq rfl rfl⟩,G⟩ rfl (by repeat' (first | exact .ptr | constructor)) ?_
 refine Gs [(1,E2 boxes),(3,E0 ids),(4,Ec s),(6,.dptr [E1 l])] [] 1013 rfl rfl rfl G rfl (by repeat' (first | exact .ptr | constructor)) (Js fun hK2=>Jr fun hK3=>(JLh (.agg (Gu.cs s)) (Gk Hf O O O) O (Rq (E2 boxes) O (JLh (E1 l) (Gi Qv O O O) O ?_))))
 obtain⟨r4,hr4,h⟩:=Gg h
 refine JLh (BL r4) (Ga2 (args:=[.agg (Gu.cs s),E2 boxes,E1 l,E0 ([]:List Int)]) O (G0f s boxes l [] r4 hr4) Gd7 ⟨.inl O,O,.inl O,O,.inl O,O,.inr ⟨_,O,O⟩,O,G⟩) O (JLh (BL (!r4)) (G06 (b:=r4) O O) O (G7 (hK3 (JCc O h (fun h hb=>?_) (fun h hb=>?_)))))
 ·
  refine Jr fun hK5=>(JLh (E0 ([]:List Int)) (Hj 1 O O) O (Rq (G0 2) O (G7 (hK5 (Gt (⟨[E0 ([]:List Int),G0 2],[],G,O,⟨⟨_,O,.conv (.same O)⟩,⟨_,O,.conv (.same O)⟩,G⟩,O,([],2),Eq.mpr (Option.some.inj h) hp,O⟩))))))
 ·
  refine Gp (hK2 (Jr fun hK6=>(JLh (.mp 1017) (J23 1017 (fun n:Int=>Value.int .i64 n) (fun _:Unit=>.agg []) O O) O (JLh (.ptr 1014 0) (Jb 1014 1 J4a O O) O (J8 (u:=.junk) (Ht (u:=.mp 1017) (ds:=[.mp 1017]) J65 O O O O O O O O) (G7 (hK6 (Jr fun hK7=>(JLh (.ptr 1015 0) (Jb 1015 1 J49 O O) O (G7 (hK7 ?_)))))))))))
  refine Jr fun hK8=>(JLh (.fn 14 [.ptr 1014 0,.dptr [E1 l],.ptr 1015 0,Ec s]) (Yv (cs:=[.ptr 1014 0,.dptr [E1 l],.ptr 1015 0,Ec s]) O O) O (J8 (u:=.junk) (Ht (u:=.fn 14 [.ptr 1014 0,.dptr [E1 l],.ptr 1015 0,Ec s]) (ds:=[.fn 14 [.ptr 1014 0,.dptr [E1 l],.ptr 1015 0,Ec s]]) J64 O O O O O O O O) (G7 (hK8 ?_))))
  refine Js fun hK9=>Jr fun hK10=>(Rq (E0 ids) O (JLl Gj O O O fun hm24=>(Rq (G0 0) O (G7 (hK10 (Gv ?_))))))
  obtain⟨b27,kx27,hb27,hkx27,h⟩:=Ja h
  refine Hr (fun i27 (s27:Unit)=>each b27 kx27 (List.drop i27 ids) i27 s27=some p) (fun i27 s27=>[(3,E0 ids),(6,.dptr [E1 l]),(10,.ptr 1014 0),(11,.ptr 1015 0),(23,E0 ids),(24,Ej ids.length),(25,Ej i27)]) (fun i27 s27=>[(1017,MP 65 (fun n:Int=>Value.int .i64 n) (fun _:Unit=>.agg []) (H8.empty:H8 Int Unit)),(1014,.box 65 [.mp 1017]),(1015,.box 66 [.fn 14 [.ptr 1014 0,.dptr [E1 l],.ptr 1015 0,Ec s]])]) (fun i27=>ids.length - i27) 0 () h ⟨(by repeat' constructor),⟨⟨_,rfl,.map⟩,⟨_,rfl,.boxL rfl ⟨.same rfl,G⟩⟩,⟨_,rfl,.boxL rfl ⟨.same rfl,G⟩⟩,G⟩,rfl⟩ ?_
  clear h
  intro i27 s27 hi27 K27 e27
  refine Jr fun hK28=>(JLh (BL (decide ((i27:Int) < (ids.length:Int)))) (Jc O O O) O (G7 (hK28 (Js fun hK29=>Gm O (fun hb=>?_) (fun hb=>?_)))))
  ·
   have hk27:=Jz hb
   obtain⟨y27,nx27,hy27,hn27,h⟩:=Hu hi27 hk27
   replace h:=Zr hb27 h
   refine Gp (hK29 (Js fun hK30=>Gv (Jr fun hK31=>(JLh (.dptr [G0 y27]) (He (f:=G0) (xs:=ids) (y:=y27) O O O Gj hy27 O) O (JLh (G0 y27) (Gi Ge O O O) O (Rq (G0 y27) O (G7 (hK31 (Jr fun hK32=>(JLh (E1 l) (Gi Qv O O O) O (Rq (G0 y27) O ?_)))))))))))
   obtain⟨r33,hr33,h⟩:=Gg h
   refine JLh (G0 r33) (Gw O (Zm l y27 r33 hr33) G4a ⟨O,O,O,O,G⟩) O (JLh (BL (decide (r33 < 0))) (Jc O O O) O (G7 (hK32 (JCc O h (fun h hb=>?_) (fun h hb=>?_)))))
   ·
    refine Jr fun hK34=>(JLh (E0 ([]:List Int)) (Hj 1 O O) O (Rq (G0 6) O (G7 (hK34 (Gt (⟨[E0 ([]:List Int),G0 6],[],G,O,⟨⟨_,O,.conv (.same O)⟩,⟨_,O,.conv (.same O)⟩,G⟩,O,([],6),Eq.mpr (Option.some.inj h) hp,O⟩))))))
   ·
    refine Gp (hK30 (G4 (JLh (G0 ((i27+1:Nat):Int)) (J0 (Ho hk27 hm24) O O O) O (Rq (G0 ((i27+1:Nat):Int)) O (G7 (e27 _ _ (i27+1) () (app1 hn27 h) (by omega) ⟨(by repeat' constructor),⟨⟨_,rfl,.map⟩,⟨_,rfl,.boxL rfl ⟨.same rfl,G⟩⟩,⟨_,rfl,.boxL rfl ⟨.same rfl,G⟩⟩,G⟩,rfl⟩))))))
  ·
   have h:=app1 hkx27 (Hv hi27 (Hi hb))
   refine Hy (hK9 (Jr fun hK35=>(JLh (.fn 14 [.ptr 1014 0,.dptr [E1 l],.ptr 1015 0,Ec s]) (Rc Gd0 O O O O) O (Rq (E0 ids) O ?_))))
   obtain⟨r36,hr36,h⟩:=Gg h
   refine JLh (.tup []) (J29 (args:=[E0 ids]) (caps:=[.ptr 1014 0,.dptr [E1 l],.ptr 1015 0,Ec s]) (L0:=[(1014,.box 65 [.mp 1017]),(1017,MP 65 (fun n:Int=>Value.int .i64 n) (fun _:Unit=>.agg []) (H8.empty:H8 Int Unit)),(1015,.box 66 [.fn 14 [.ptr 1014 0,.dptr [E1 l],.ptr 1015 0,Ec s]])]) (Lr:=[(1014,.box 65 [.mp 1017]),(1017,MP 65 (fun n:Int=>Value.int .i64 n) (fun _:Unit=>.agg []) r36),(1015,.box 66 [.fn 14 [.ptr 1014 0,.dptr [E1 l],.ptr 1015 0,Ec s]])]) O O (H92 F ids (H8.empty:H8 Int Unit) l s r36 hr36) H3f ⟨.inl O,O,G⟩ O ⟨O,O,O,G⟩ O O O) O (G7 (hK35 ?_))
   refine Jr fun hK37=>(JLh (.vec 1016 (([]:List Int).length) 1 (([]:List Int).length)) (J99 1016 3 1 O O O) O (G7 (hK37 (Js fun hK38=>Jr fun hK39=>(JLh (.mp 1017) (Rc Gd1 O O O O) O (JLh (.it 1018) (J5a 1018 (m:=r36) O O O O H7e) O (G7 (hK39 (Gv ?_)))))))))
   obtain⟨b48,kx48,hb48,hkx48,h⟩:=eachM_in h
   refine J54 (H8.size r36) (fun i48 (s48:(List Int))=>MInv b48 kx48 (H8.l r36) i48 s48) (fun i48 s48=>[(14,.vec 1016 s48.length 1 s48.length),(38,.it 1018)]) (fun i48 s48=>[(1017,MP 65 (fun n:Int=>Value.int .i64 n) (fun _:Unit=>.agg []) r36),(1016,.vec 3 1 s48.length (s48.map G0)),(1018,.iter 1017 (H8.size r36) i48),(1014,.box 65 [.mp 1017]),(1015,.box 66 [.fn 14 [.ptr 1014 0,.dptr [E1 l],.ptr 1015 0,Ec s]])]) [] (MInv.start h hp) ⟨⟨.same O,.same O,G⟩,⟨⟨_,O,.map⟩,⟨_,O,.vec⟩,⟨_,O,.iter O⟩,⟨_,O,.boxL O ⟨.same O,G⟩⟩,⟨_,O,.boxL O ⟨.same O,G⟩⟩,G⟩,O⟩ ?_
   clear h hp
   intro i48 s48 hi48 K48 e48
   refine Jr fun hK49=>Gb1 O O O (A_nextM (m:=r36) O O O O) ?_
   intro u_ L_ hn_
   rcases hn_ with ⟨q48,x48,he48,hs48,rfl,rfl⟩ | ⟨ha48,rfl,rfl⟩
   ·
    obtain⟨o48,h,ho1_48,ho2_48⟩:=hi48.step he48 hs48
    replace h:=app3 hb48 h
    refine JLh (BL true) (Hb O O O) O (G7 (hK49 (Js fun hK50=>J55 O (Gp (hK50 (Gv (Jr fun hK51=>(JLh (.tup [G0 x48.1,.agg []]) (J5d (kv:=(fun n:Int=>Value.int .i64 n)) (av:=(fun _:Unit=>.agg [])) (m:=r36) (q:=q48) (seen:=i48) (e:=x48) O O O O he48) O (JLh (G0 x48.1) (Hb O O O) O (Rq (G0 x48.1) O (G7 (hK51 (G4 (Rq (.vec 1016 s48.length 1 s48.length) O (Rq (G0 x48.1) O (JLh (E0 [x48.1]) (H9 (xs:=[G0 x48.1]) O ⟨O,O,G⟩ Gj Qd O O O O) O ?_))))))))))))))))
    obtain⟨ha52,h⟩:=Jm h
    refine JLh (.vec 1016 ((s48++[x48.1]).length) 1 ((s48++[x48.1]).length)) (G55 (f:=G0) (xs:=s48) (ys:=[x48.1]) (ver:=s48.length) (ver1:=(s48++[x48.1]).length) rfl rfl rfl rfl Gj G09 ha52 (fun _=>rfl) (.inl rfl) (by simp)) O (Rq (.vec 1016 ((s48++[x48.1]).length) 1 ((s48++[x48.1]).length)) O (G7 (e48 _ _ (i48++[q48]) (s48++[x48.1]) (ho2_48 _ (Option.some.inj h).symm) (unseen_lt (List.getElem?_eq_some_iff.1 he48).1 hs48) ⟨⟨.same O,.same O,G⟩,⟨⟨_,O,.map⟩,⟨_,O,.vec⟩,⟨_,O,.iter O⟩,⟨_,O,.boxL O ⟨.same O,G⟩⟩,⟨_,O,.boxL O ⟨.same O,G⟩⟩,G⟩,O⟩)))
   ·
    obtain⟨p_,h,hp⟩:=hi48.done ha48
    replace h:=app1 hkx48 h
    refine JLh (BL false) (Hb O O O) O (G7 (hK49 (Js fun hK53=>J56 O (Hy (hK38 (Jr fun hK54=>(Rq (.vec 1016 s48.length 1 s48.length) O ?_)))))))
    obtain⟨r55,hr55,h⟩:=Gg h
    refine JLh (.tup []) (A_sortI (F:=19) (xs:=s48) (r:=r55) O sortILaw_19 sortINone_19 J8f O O O hr55 O) O (G7 (hK54 (Jr fun hK56=>(Rq (.vec 1016 s48.length 1 s48.length) O (Rq (.vec 1016 s48.length 1 s48.length) O (Rq (G0 0) O (G7 (hK56 (J97 [(8,E0 r55),(9,G0 0)] [] 1016 rfl rfl G rfl (by exact⟨.vec,.conv (.same rfl),G⟩) (Gt (⟨[E0 r55,G0 0],[],G,O,⟨⟨_,O,.conv (.same O)⟩,⟨_,O,.conv (.same O)⟩,G⟩,O,(r55,0),Eq.mpr (Option.some.inj h) hp,O⟩)))))))))))
theorem J13 (S_:Nat→(Gu)→(List Ga)→(List Stowed)→(List Int)→Option ((List Int)×Int)) (hS_:∀ F s boxes l ids r,S_ F s boxes l ids=some r→∃ p:Prop,G3d F s boxes l ids (fun r_=>r_=r)=some p∧p) (F:Nat) (s:Gu) (boxes:List Ga) (l:List Stowed) (ids:List Int) (r:(List Int)×Int) (h:S_ F s boxes l ids=some r):Pure Ek 6 [.agg (Gu.cs s),E2 boxes,E1 l,E0 ids] (·=.tup [E0 r.1,G0 r.2]):=by
 obtain⟨p,h1,h2⟩:=hS_ F s boxes l ids r h
 exact(J12 F s boxes l ids _ p h1 h2).monoP (fun av hh=>by obtain⟨r_,rfl,ha⟩:=hh; exact ha)
end
end Go.Proofs.YtapmanciffiibaaGreat
