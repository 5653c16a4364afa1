/-
 Models of functions of the program,and that they return what the models say.
-/
import Derived.Test.YtbljcmgjmieffaaGreatXGa
set_option linter.unnecessarySimpa false
set_option maxRecDepth 100000
set_option linter.unusedVariables false
set_option linter.unusedSimpArgs false
namespace Go.Proofs.YtbljcmgjmieffaaGreat
open Go.RowKit
noncomputable section
open XAF
open XCF
open XGF

def G3c (self_:(List Int)→(Hd Int Unit)→(List Stowed)→Gr→Option (Hd Int Unit)) (F:Nat) (ids:List Int) (p1:Hd Int Unit) (p2:List Stowed) (p4:Gr):Option (Hd Int Unit):=
 each (fun y102 i102 (s102:(Hd Int Unit)) nx102=>
  jp (fun kj105=>
   bif (Hd.has s102 y102) then
   (kj105 s102)
   else
   (bnd (Yh p2 y102) fun r113=>
    bnd (self_ r113.1 (Hd.put s102 y102 ()) p2 p4) fun r115=>
    bnd (Ro p2 y102) fun r117=>
    Y9 p2 r117 fun y118=>
    bnd (G46 p4 y118.Slot.G3) fun r120=>
    bif decide (0≤r120) then
    (bnd (G69 p4 p2 r120) fun r122=>
     bnd (self_ r122 r115 p2 p4) fun r123=>
     kj105 r123)
    else
    (kj105 r115))) fun(j105:(Hd Int Unit))=>
  nx102 j105)
 (fun(s102:(Hd Int Unit))=>
  some s102) ids 0 p1
def Yp:Nat→(List Int)→(Hd Int Unit)→(List Stowed)→Gr→Option (Hd Int Unit)
 | 0,_,_,_,_=>none
 | F+1,ids,p1,p2,p4=>G3c (Yp F) F ids p1 p2 p4
theorem Hd9 (self_:(List Int)→(Hd Int Unit)→(List Stowed)→Gr→Option (Hd Int Unit)) (self_w:∀ (ids:List Int) (p1:Hd Int Unit) (p2:List Stowed) (p4:Gr) (r:(Hd Int Unit)),self_ ids p1 p2 p4=some r→Qp Ek 26 [E0 ids,.ptr 1035 0,.dptr [E1 p2],.ptr 1036 0,Ec p4] [(1035,.box 80 [.mp 1038]),(1038,MP 80 (fun n:Int=>Value.int .i64 n) (fun _:Unit=>.agg []) p1),(1036,.box 81 [.fn 26 [.ptr 1035 0,.dptr [E1 p2],.ptr 1036 0,Ec p4]])] (fun av L'=>av=.tup []∧L'=[(1035,.box 80 [.mp 1038]),(1038,MP 80 (fun n:Int=>Value.int .i64 n) (fun _:Unit=>.agg []) r),(1036,.box 81 [.fn 26 [.ptr 1035 0,.dptr [E1 p2],.ptr 1036 0,Ec p4]])])) (F:Nat) (ids:List Int) (p1:Hd Int Unit) (p2:List Stowed) (p4:Gr) (r:(Hd Int Unit)) (h:G3c self_ F ids p1 p2 p4=some r):Qp Ek 26 [E0 ids,.ptr 1035 0,.dptr [E1 p2],.ptr 1036 0,Ec p4] [(1035,.box 80 [.mp 1038]),(1038,MP 80 (fun n:Int=>Value.int .i64 n) (fun _:Unit=>.agg []) p1),(1036,.box 81 [.fn 26 [.ptr 1035 0,.dptr [E1 p2],.ptr 1036 0,Ec p4]])] (fun av L'=>av=.tup []∧L'=[(1035,.box 80 [.mp 1038]),(1038,MP 80 (fun n:Int=>Value.int .i64 n) (fun _:Unit=>.agg []) r),(1036,.box 81 [.fn 26 [.ptr 1035 0,.dptr [E1 p2],.ptr 1036 0,Ec p4]])]):=by
 unfold G3c at h
 refine G04 [1035,1038,1036] [] Tryz.func26 O O (H6a O) (Jr fun hK1=>(Rt (E0 ids) O (JLl Gq O O O fun hm14=>(Rt (G0 0) O (G7 (hK1 (H1 ?_)))))))
 obtain⟨b102,kx102,hb102,hkx102,h⟩:=Jj h
 refine J3 (fun i102 (s102:(Hd Int Unit))=>each b102 kx102 (List.drop i102 ids) i102 s102=some r) (fun i102 s102=>[(1,.ptr 1035 0),(2,.dptr [E1 p2]),(3,.ptr 1036 0),(4,Ec p4),(13,E0 ids),(14,Ej ids.length),(15,Ej i102)]) (fun i102 s102=>[(1038,MP 80 (fun n:Int=>Value.int .i64 n) (fun _:Unit=>.agg []) s102),(1035,.box 80 [.mp 1038]),(1036,.box 81 [.fn 26 [.ptr 1035 0,.dptr [E1 p2],.ptr 1036 0,Ec p4]])]) (fun i102=>ids.length - i102) 0 p1 h ⟨(by repeat' constructor),⟨⟨_,rfl,.map⟩,⟨_,rfl,.boxL rfl ⟨.same rfl,G⟩⟩,⟨_,rfl,.boxL rfl ⟨.same rfl,G⟩⟩,G⟩,rfl⟩ ?_
 clear h
 intro i102 s102 hi102 K102 e102
 refine Jr fun hK103=>(JLh (BL (decide ((i102:Int) < (ids.length:Int)))) (Q0 O O O) O (G7 (hK103 (Js fun hK104=>Gn O (fun hb=>?_) (fun hb=>?_)))))
 ·
  have hk102:=Qd hb
  obtain⟨y102,nx102,hy102,hn102,h⟩:=J4 hi102 hk102
  replace h:=Zz hb102 h
  refine Gs (hK104 ?_)
  obtain⟨kj105,hkj105,h⟩:=Yo h
  refine R9 (fun j105:(Hd Int Unit)=>kj105 j105=some r) (fun j105=>[(1,.ptr 1035 0),(2,.dptr [E1 p2]),(3,.ptr 1036 0),(4,Ec p4),(13,E0 ids),(14,Ej ids.length),(15,Ej i102)]) (fun j105=>[(1038,MP 80 (fun n:Int=>Value.int .i64 n) (fun _:Unit=>.agg []) j105),(1035,.box 80 [.mp 1038]),(1036,.box 81 [.fn 26 [.ptr 1035 0,.dptr [E1 p2],.ptr 1036 0,Ec p4]])]) (fun Kj105 ej105=>?_) ?_
  ·
   refine H1 (Jr fun hK106=>(JLh (.dptr [G0 y102]) (Ha (f:=G0) (xs:=ids) (y:=y102) O O O Gq hy102 O) O (JLh (G0 y102) (Gj Gg O O O) O (Rt (G0 y102) O (G7 (hK106 (Js fun hK107=>Jr fun hK108=>(JLh (.mp 1038) (Yi H0e O O O O) O (Rt (G0 y102) O (JLh (.tup [.agg [],BL (Hd.has s102 y102)]) (Je5 (av:=(fun _:Unit=>.agg [])) (m:=s102) (a:=y102) () (.agg #[]) O O O O tk_3 Hbd tf_zv_82 O) O (Rt (.tup [.agg [],BL (Hd.has s102 y102)]) O (JLh (.agg []) (Gv O O O) O (JLh (BL (Hd.has s102 y102)) (Gv O O O) O (JLh (.ptr 1068 0) (Ht 1068 0 J91 O O) O (Hu (u:=.junk) (A_store0 (u:=.agg []) Jb3 O O O O O O) (Rt (BL (Hd.has s102 y102)) O (G7 (hK108 ?_))))))))))))))))))
   refine Gt [(1,.ptr 1035 0),(2,.dptr [E1 p2]),(3,.ptr 1036 0),(4,Ec p4),(7,G0 y102),(9,BL (Hd.has s102 y102)),(13,E0 ids),(14,Ej ids.length),(15,Ej i102)] [(1038,MP 80 (fun n:Int=>Value.int .i64 n) (fun _:Unit=>.agg []) s102),(1035,.box 80 [.mp 1038]),(1036,.box 81 [.fn 26 [.ptr 1035 0,.dptr [E1 p2],.ptr 1036 0,Ec p4]])] 1068 rfl rfl rfl ⟨⟨_,rfl,.map⟩,⟨_,rfl,.boxEq rfl rfl⟩,⟨_,rfl,.boxEq rfl rfl⟩,G⟩ rfl (by repeat' (first | exact .ptr | constructor)) (Jr fun hK110=>(Rt (BL (Hd.has s102 y102)) O (G7 (hK110 (JCc O h (fun h hb=>?_) (fun h hb=>?_))))))
   ·
    refine J8 (ej105 _ _ s102 h ⟨(by repeat' constructor),⟨⟨_,rfl,.map⟩,⟨_,rfl,.boxL rfl ⟨.same rfl,G⟩⟩,⟨_,rfl,.boxL rfl ⟨.same rfl,G⟩⟩,G⟩,rfl⟩)
   ·
    refine Gs (hK107 (Jr fun hK111=>(JLh (.mp 1038) (Yi H0e O O O O) O (Rt (G0 y102) O (JLh (.agg []) (Hg (cs:=[]) [] [] [] J88 Jaf G O O) O (Hu (u:=.junk) (Hb7 (m:=s102) (a:=y102) (v:=()) O O O O O O tk_3 Hbd) (G7 (hK111 (Jr fun hK112=>(JLh (E1 p2) (Gj Rv O O O) O (Rt (G0 y102) O ?_)))))))))))
    obtain⟨r113,hr113,h⟩:=Gf h
    refine JLh (.tup [E0 r113.1,G0 r113.2]) (Gu O (G7c p2 y102 r113 hr113) H12 ⟨O,O,O,O,G⟩) O (Rt (.tup [E0 r113.1,G0 r113.2]) O (JLh (E0 r113.1) (Gv O O O) O (JLh (G0 r113.2) (Gv O O O) O (Rt (E0 r113.1) O (Rt (G0 r113.2) O (G7 (hK112 (Jr fun hK114=>(JLh (.fn 26 [.ptr 1035 0,.dptr [E1 p2],.ptr 1036 0,Ec p4]) (Yi H0d O O O O) O (Rt (E0 r113.1) O ?_))))))))))
    obtain⟨r115,hr115,h⟩:=Gf h
    refine JLh (.tup []) (J77 (args:=[E0 r113.1]) (caps:=[.ptr 1035 0,.dptr [E1 p2],.ptr 1036 0,Ec p4]) (L0:=[(1035,.box 80 [.mp 1038]),(1038,MP 80 (fun n:Int=>Value.int .i64 n) (fun _:Unit=>.agg []) (Hd.put s102 y102 ())),(1036,.box 81 [.fn 26 [.ptr 1035 0,.dptr [E1 p2],.ptr 1036 0,Ec p4]])]) (Lr:=[(1035,.box 80 [.mp 1038]),(1038,MP 80 (fun n:Int=>Value.int .i64 n) (fun _:Unit=>.agg []) r115),(1036,.box 81 [.fn 26 [.ptr 1035 0,.dptr [E1 p2],.ptr 1036 0,Ec p4]])]) O O (self_w r113.1 (Hd.put s102 y102 ()) p2 p4 r115 hr115) H78 ⟨.inl O,O,G⟩ O ⟨O,O,O,G⟩ O O O) O (G7 (hK114 (Js fun hK116=>?_)))
    refine Rj (l':=[(1,.ptr 1035 0),(2,.dptr [E1 p2]),(3,.ptr 1036 0),(4,Ec p4),(7,G0 y102),(13,E0 ids),(14,Ej ids.length),(15,Ej i102)]) (L':=[(1038,MP 80 (fun n:Int=>Value.int .i64 n) (fun _:Unit=>.agg []) r115),(1035,.box 80 [.mp 1038]),(1036,.box 81 [.fn 26 [.ptr 1035 0,.dptr [E1 p2],.ptr 1036 0,Ec p4]])]) ⟨(by repeat' constructor),⟨⟨_,rfl,.map⟩,⟨_,rfl,.boxL rfl ⟨.same rfl,G⟩⟩,⟨_,rfl,.boxL rfl ⟨.same rfl,G⟩⟩,G⟩,rfl⟩ ?_
    obtain⟨r117,hr117,h⟩:=Gf h
    obtain⟨m119,y118,hm119,hy118,h⟩:=R3 h
    obtain⟨r120,hr120,h⟩:=Gf h
    refine JC_d0 Jx (by kernel_rfl) (Dq (.agg (Gr.cs p4)) (Gh H3 O O O) O (Dq (E1 p2) (Gj Rv O O O) O (Dq (E1 p2) (Gj Rv O O O) O (Dq (G0 y102) (G5 O O) O (Dq (G0 r117) (Gu (args:=[E1 p2,G0 y102]) O (G25 p2 y102 r117 hr117) G86 ⟨O,O,O,O,G⟩) O (Dq (Ed y118) (Ha (f:=Stowed.av) (xs:=p2) (y:=y118) O O O Gx hy118 hm119) O (Dq (.dptr ((Stowed.cs y118).drop 1)) (Gd Hq O O O) O (Dq (.dptr ((Stowed.cs y118).drop 1)) (Gd Jc O O O) O (Dq (G0 y118.Slot.G3) (Gj Gg O O O) O (Dq (G0 r120) (Gu (args:=[.agg (Gr.cs p4),G0 y118.Slot.G3]) O (H4b p4 y118.Slot.G3 r120 hr120) J37 ⟨O,O,O,O,G⟩) O (Dq (G0 r120) (G8 O O) O (Dnil ?_))))))))))))
    refine hK116 (Jr fun hK121=>(Rt (G0 r120) O (JLh (BL (decide (0≤r120))) (Gaf O O O) O (G7 (hK121 (JCc O h (fun h hb=>?_) (fun h hb=>?_)))))))
    ·
     refine Rj (l':=[(1,.ptr 1035 0),(2,.dptr [E1 p2]),(3,.ptr 1036 0),(4,Ec p4),(12,G0 r120),(13,E0 ids),(14,Ej ids.length),(15,Ej i102)]) (L':=[(1038,MP 80 (fun n:Int=>Value.int .i64 n) (fun _:Unit=>.agg []) r115),(1035,.box 80 [.mp 1038]),(1036,.box 81 [.fn 26 [.ptr 1035 0,.dptr [E1 p2],.ptr 1036 0,Ec p4]])]) ⟨(by repeat' constructor),⟨⟨_,rfl,.map⟩,⟨_,rfl,.boxL rfl ⟨.same rfl,G⟩⟩,⟨_,rfl,.boxL rfl ⟨.same rfl,G⟩⟩,G⟩,rfl⟩ ?_
     obtain⟨r122,hr122,h⟩:=Gf h
     obtain⟨r123,hr123,h⟩:=Gf h
     refine Jv [5] [0,0,0,0,0,0] [0,0,0,0,0,0] [[(1038,MP 80 (fun n:Int=>Value.int .i64 n) (fun _:Unit=>.agg []) r115),(1035,.box 80 [.mp 1038]),(1036,.box 81 [.fn 26 [.ptr 1035 0,.dptr [E1 p2],.ptr 1036 0,Ec p4]])],((1038,MP 80 (fun n:Int=>Value.int .i64 n) (fun _:Unit=>.agg []) r123)::[(1038,MP 80 (fun n:Int=>Value.int .i64 n) (fun _:Unit=>.agg []) r115),(1035,.box 80 [.mp 1038]),(1036,.box 81 [.fn 26 [.ptr 1035 0,.dptr [E1 p2],.ptr 1036 0,Ec p4]])])] Jx (by kernel_rfl) rfl rfl ?_
     refine Gm (u:=.fn 26 [.ptr 1035 0,.dptr [E1 p2],.ptr 1036 0,Ec p4]) O O ⟨Gi (Yi H0d O O O O) O,G⟩ (Gm (u:=.agg (Gr.cs p4)) O O ⟨Gi (Gh H3 O O O) O,G⟩ (Gm (u:=E1 p2) O O ⟨Gi (Gj Rv O O O) O,G⟩ (Gm (u:=G0 r120) O O ⟨Gi (G5 O O) O,G⟩ (Gm (u:=E0 r122) O O ⟨Gi (Gu O (H6c p4 p2 r120 r122 hr122) J36 ⟨O,O,O,O,O,O,G⟩) O,G⟩ (J70 (u:=.tup []) O O O O (G4c.locEq (Gi (J77 (args:=[E0 r122]) (caps:=[.ptr 1035 0,.dptr [E1 p2],.ptr 1036 0,Ec p4]) (L0:=[(1035,.box 80 [.mp 1038]),(1038,MP 80 (fun n:Int=>Value.int .i64 n) (fun _:Unit=>.agg []) r115),(1036,.box 81 [.fn 26 [.ptr 1035 0,.dptr [E1 p2],.ptr 1036 0,Ec p4]])]) (Lr:=[(1035,.box 80 [.mp 1038]),(1038,MP 80 (fun n:Int=>Value.int .i64 n) (fun _:Unit=>.agg []) r123),(1036,.box 81 [.fn 26 [.ptr 1035 0,.dptr [E1 p2],.ptr 1036 0,Ec p4]])]) O O (self_w r122 r115 p2 p4 r123 hr123) H78 ⟨.inl O,O,G⟩ O ⟨O,O,O,G⟩ O O O) O) (Gd9.of [1038,1035,1036] O O ⟨O,O,O,G⟩)) (Y5 ?_))))))
     exact ej105 _ _ r123 h ⟨(by repeat' constructor),⟨⟨_,rfl,.map⟩,⟨_,rfl,.boxL rfl ⟨.same rfl,G⟩⟩,⟨_,rfl,.boxL rfl ⟨.same rfl,G⟩⟩,G⟩,rfl⟩
    ·
     refine Gs (ej105 _ _ r115 h ⟨(by repeat' constructor),⟨⟨_,rfl,.map⟩,⟨_,rfl,.boxL rfl ⟨.same rfl,G⟩⟩,⟨_,rfl,.boxL rfl ⟨.same rfl,G⟩⟩,G⟩,rfl⟩)
  ·intro j105 h
   replace h:=app1 hkj105 h
   refine G4 (JLh (G0 ((i102+1:Nat):Int)) (J0 (Hv hk102 hm14) O O O) O (Rt (G0 ((i102+1:Nat):Int)) O (G7 (e102 _ _ (i102+1) j105 (app1 hn102 h) (by omega) ⟨(by repeat' constructor),⟨⟨_,rfl,.map⟩,⟨_,rfl,.boxL rfl ⟨.same rfl,G⟩⟩,⟨_,rfl,.boxL rfl ⟨.same rfl,G⟩⟩,G⟩,rfl⟩))))
 ·
  have h:=app1 hkx102 (J5 hi102 (Hi hb))
  refine J8 ?_
  obtain rfl:=Option.some.inj h
  exact⟨[],[(1035,.box 80 [.mp 1038]),(1038,MP 80 (fun n:Int=>Value.int .i64 n) (fun _:Unit=>.agg []) s102),(1036,.box 81 [.fn 26 [.ptr 1035 0,.dptr [E1 p2],.ptr 1036 0,Ec p4]])],⟨⟨_,O,.boxL O ⟨.same O,G⟩⟩,⟨_,O,.map⟩,⟨_,O,.boxL O ⟨.same O,G⟩⟩,G⟩,O,G,O,O⟩
theorem Hd3:∀ (F:Nat) (ids:List Int) (p1:Hd Int Unit) (p2:List Stowed) (p4:Gr) (r:(Hd Int Unit)) (h:Yp F ids p1 p2 p4=some r),Qp Ek 26 [E0 ids,.ptr 1035 0,.dptr [E1 p2],.ptr 1036 0,Ec p4] [(1035,.box 80 [.mp 1038]),(1038,MP 80 (fun n:Int=>Value.int .i64 n) (fun _:Unit=>.agg []) p1),(1036,.box 81 [.fn 26 [.ptr 1035 0,.dptr [E1 p2],.ptr 1036 0,Ec p4]])] (fun av L'=>av=.tup []∧L'=[(1035,.box 80 [.mp 1038]),(1038,MP 80 (fun n:Int=>Value.int .i64 n) (fun _:Unit=>.agg []) r),(1036,.box 81 [.fn 26 [.ptr 1035 0,.dptr [E1 p2],.ptr 1036 0,Ec p4]])]):=by
 intro F
 induction F with
 | zero=>intro ids p1 p2 p4 r h; cases h
 | succ F ih=>intro ids p1 p2 p4 r h; exact Hd9 (Yp F) ih F ids p1 p2 p4 r h

def G7b (F:Nat) (s:Gr) (boxes:List Gb) (l:List Stowed) (ids:List Int) (Rp:((List Int)×Int)→Prop):Option Prop:=
 bnd (Jq s boxes l []) fun r4=>
 bif (!r4) then
 (some (Rp ([],2)))
 else
 (each (fun y27 i27 (s27:Unit) nx27=>
   bnd (Ro l y27) fun r33=>
   bif decide (r33 < 0) then
   (some (Rp ([],6)))
   else
   (nx27 ()))
  (fun(s27:Unit)=>
   bnd (Yp F ids (Hd.empty:Hd Int Unit) l s) fun r36=>
   eachM (fun(x48:Int×Unit) (s48:(List Int)) nx48=>
    need (decide ((s48.length+[x48.1].length)*8≤140737488355328∧s48.length+[x48.1].length≤maxLen)) <|
    nx48 (s48++[x48.1]))
   (fun(s48:(List Int))=>
    bnd (Gf3 s48) fun r55=>
    some (Rp (r55,0))) (Hd.l r36) []) ids 0 ())
theorem J64 (F:Nat) (s:Gr) (boxes:List Gb) (l:List Stowed) (ids:List Int) (Rp:((List Int)×Int)→Prop) (p:Prop) (h:G7b F s boxes l ids Rp=some p) (hp:p):Pure Ek 10 [.agg (Gr.cs s),E2 boxes,E1 l,E0 ids] (fun av=>∃ r,Rp r∧av=.tup [E0 r.1,G0 r.2]):=by
 unfold G7b at h
 refine H7 [.tmp 8,.tmp 9] Tryz.func10 O O (Jr fun hK1=>(JLh (.ptr 1033 0) (Q9 (cs:=(Gr.cs s)) 1033 O O O O O) O (JLh (.ptr 1034 0) (Q9 (cs:=[E1 l]) 1034 O O O O O) O (JLh (E0 ([]:List Int)) (Hk 1 O O) O (Rt (G0 0) O (G7 (hK1 ?_)))))))
 refine Gt [(1,E2 boxes),(3,E0 ids),(4,Ec s),(6,.ptr 1034 0)] [(1034,.box 39 [E1 l])] 1033 rfl rfl rfl ⟨⟨_,rfl,.boxEq rfl rfl⟩,G⟩ rfl (by repeat' (first | exact .ptr | constructor)) ?_
 refine Gt [(1,E2 boxes),(3,E0 ids),(4,Ec s),(6,.dptr [E1 l])] [] 1034 rfl rfl rfl G rfl (by repeat' (first | exact .ptr | constructor)) (Js fun hK2=>Jr fun hK3=>(JLh (.agg (Gr.cs s)) (Gh H3 O O O) O (Rt (E2 boxes) O (JLh (E1 l) (Gj Rv O O O) O ?_))))
 obtain⟨r4,hr4,h⟩:=Gf h
 refine JLh (BL r4) (Y1 (args:=[.agg (Gr.cs s),E2 boxes,E1 l,E0 ([]:List Int)]) O (G0b s boxes l [] r4 hr4) Gc7 ⟨.inl O,O,.inl O,O,.inl O,O,.inr ⟨_,O,O⟩,O,G⟩) O (JLh (BL (!r4)) (Zs (b:=r4) O O) O (G7 (hK3 (JCc O h (fun h hb=>?_) (fun h hb=>?_)))))
 ·
  refine Jr fun hK5=>(JLh (E0 ([]:List Int)) (Hk 1 O O) O (Rt (G0 2) O (G7 (hK5 (Gw (⟨[E0 ([]:List Int),G0 2],[],G,O,⟨⟨_,O,.conv (.same O)⟩,⟨_,O,.conv (.same O)⟩,G⟩,O,([],2),Eq.mpr (Option.some.inj h) hp,O⟩))))))
 ·
  refine Gs (hK2 (Jr fun hK6=>(JLh (.mp 1038) (H8e 1038 (fun n:Int=>Value.int .i64 n) (fun _:Unit=>.agg []) O O) O (JLh (.ptr 1035 0) (Ht 1035 1 J93 O O) O (Hu (u:=.junk) (Hj (u:=.mp 1038) (ds:=[.mp 1038]) Jb5 O O O O O O O O) (G7 (hK6 (Jr fun hK7=>(JLh (.ptr 1036 0) (Ht 1036 1 J92 O O) O (G7 (hK7 ?_)))))))))))
  refine Jr fun hK8=>(JLh (.fn 26 [.ptr 1035 0,.dptr [E1 l],.ptr 1036 0,Ec s]) (Zj (cs:=[.ptr 1035 0,.dptr [E1 l],.ptr 1036 0,Ec s]) O O) O (Hu (u:=.junk) (Hj (u:=.fn 26 [.ptr 1035 0,.dptr [E1 l],.ptr 1036 0,Ec s]) (ds:=[.fn 26 [.ptr 1035 0,.dptr [E1 l],.ptr 1036 0,Ec s]]) Jb4 O O O O O O O O) (G7 (hK8 ?_))))
  refine Js fun hK9=>Jr fun hK10=>(Rt (E0 ids) O (JLl Gq O O O fun hm24=>(Rt (G0 0) O (G7 (hK10 (H1 ?_))))))
  obtain⟨b27,kx27,hb27,hkx27,h⟩:=Jj h
  refine J3 (fun i27 (s27:Unit)=>each b27 kx27 (List.drop i27 ids) i27 s27=some p) (fun i27 s27=>[(3,E0 ids),(6,.dptr [E1 l]),(10,.ptr 1035 0),(11,.ptr 1036 0),(23,E0 ids),(24,Ej ids.length),(25,Ej i27)]) (fun i27 s27=>[(1038,MP 80 (fun n:Int=>Value.int .i64 n) (fun _:Unit=>.agg []) (Hd.empty:Hd Int Unit)),(1035,.box 80 [.mp 1038]),(1036,.box 81 [.fn 26 [.ptr 1035 0,.dptr [E1 l],.ptr 1036 0,Ec s]])]) (fun i27=>ids.length - i27) 0 () h ⟨(by repeat' constructor),⟨⟨_,rfl,.map⟩,⟨_,rfl,.boxL rfl ⟨.same rfl,G⟩⟩,⟨_,rfl,.boxL rfl ⟨.same rfl,G⟩⟩,G⟩,rfl⟩ ?_
  clear h
  intro i27 s27 hi27 K27 e27
  refine Jr fun hK28=>(JLh (BL (decide ((i27:Int) < (ids.length:Int)))) (Q0 O O O) O (G7 (hK28 (Js fun hK29=>Gn O (fun hb=>?_) (fun hb=>?_)))))
  ·
   have hk27:=Qd hb
   obtain⟨y27,nx27,hy27,hn27,h⟩:=J4 hi27 hk27
   replace h:=Zz hb27 h
   refine Gs (hK29 (Js fun hK30=>H1 (Jr fun hK31=>(JLh (.dptr [G0 y27]) (Ha (f:=G0) (xs:=ids) (y:=y27) O O O Gq hy27 O) O (JLh (G0 y27) (Gj Gg O O O) O (Rt (G0 y27) O (G7 (hK31 (Jr fun hK32=>(JLh (E1 l) (Gj Rv O O O) O (Rt (G0 y27) O ?_)))))))))))
   obtain⟨r33,hr33,h⟩:=Gf h
   refine JLh (G0 r33) (Gu O (G25 l y27 r33 hr33) G86 ⟨O,O,O,O,G⟩) O (JLh (BL (decide (r33 < 0))) (Q0 O O O) O (G7 (hK32 (JCc O h (fun h hb=>?_) (fun h hb=>?_)))))
   ·
    refine Jr fun hK34=>(JLh (E0 ([]:List Int)) (Hk 1 O O) O (Rt (G0 6) O (G7 (hK34 (Gw (⟨[E0 ([]:List Int),G0 6],[],G,O,⟨⟨_,O,.conv (.same O)⟩,⟨_,O,.conv (.same O)⟩,G⟩,O,([],6),Eq.mpr (Option.some.inj h) hp,O⟩))))))
   ·
    refine Gs (hK30 (G4 (JLh (G0 ((i27+1:Nat):Int)) (J0 (Hv hk27 hm24) O O O) O (Rt (G0 ((i27+1:Nat):Int)) O (G7 (e27 _ _ (i27+1) () (app1 hn27 h) (by omega) ⟨(by repeat' constructor),⟨⟨_,rfl,.map⟩,⟨_,rfl,.boxL rfl ⟨.same rfl,G⟩⟩,⟨_,rfl,.boxL rfl ⟨.same rfl,G⟩⟩,G⟩,rfl⟩))))))
  ·
   have h:=app1 hkx27 (J5 hi27 (Hi hb))
   refine J8 (hK9 (Jr fun hK35=>(JLh (.fn 26 [.ptr 1035 0,.dptr [E1 l],.ptr 1036 0,Ec s]) (Yi H0d O O O O) O (Rt (E0 ids) O ?_))))
   obtain⟨r36,hr36,h⟩:=Gf h
   refine JLh (.tup []) (J77 (args:=[E0 ids]) (caps:=[.ptr 1035 0,.dptr [E1 l],.ptr 1036 0,Ec s]) (L0:=[(1035,.box 80 [.mp 1038]),(1038,MP 80 (fun n:Int=>Value.int .i64 n) (fun _:Unit=>.agg []) (Hd.empty:Hd Int Unit)),(1036,.box 81 [.fn 26 [.ptr 1035 0,.dptr [E1 l],.ptr 1036 0,Ec s]])]) (Lr:=[(1035,.box 80 [.mp 1038]),(1038,MP 80 (fun n:Int=>Value.int .i64 n) (fun _:Unit=>.agg []) r36),(1036,.box 81 [.fn 26 [.ptr 1035 0,.dptr [E1 l],.ptr 1036 0,Ec s]])]) O O (Hd3 F ids (Hd.empty:Hd Int Unit) l s r36 hr36) H78 ⟨.inl O,O,G⟩ O ⟨O,O,O,G⟩ O O O) O (G7 (hK35 ?_))
   refine Jr fun hK37=>(JLh (.vec 1037 (([]:List Int).length) 1 (([]:List Int).length)) (Je1 1037 3 1 O O O) O (G7 (hK37 (Js fun hK38=>Jr fun hK39=>(JLh (.mp 1038) (Yi H0e O O O O) O (JLh (.it 1039) (Ja5 1039 (m:=r36) O O O O Hbd) O (G7 (hK39 (H1 ?_)))))))))
   obtain⟨b48,kx48,hb48,hkx48,h⟩:=eachM_in h
   refine J9f (Hd.size r36) (fun i48 (s48:(List Int))=>MInv b48 kx48 (Hd.l r36) i48 s48) (fun i48 s48=>[(14,.vec 1037 s48.length 1 s48.length),(38,.it 1039)]) (fun i48 s48=>[(1038,MP 80 (fun n:Int=>Value.int .i64 n) (fun _:Unit=>.agg []) r36),(1037,.vec 3 1 s48.length (s48.map G0)),(1039,.iter 1038 (Hd.size r36) i48),(1035,.box 80 [.mp 1038]),(1036,.box 81 [.fn 26 [.ptr 1035 0,.dptr [E1 l],.ptr 1036 0,Ec s]])]) [] (MInv.start h hp) ⟨⟨.same O,.same O,G⟩,⟨⟨_,O,.map⟩,⟨_,O,.vec⟩,⟨_,O,.iter O⟩,⟨_,O,.boxL O ⟨.same O,G⟩⟩,⟨_,O,.boxL O ⟨.same O,G⟩⟩,G⟩,O⟩ ?_
   clear h hp
   intro i48 s48 hi48 K48 e48
   refine Jr fun hK49=>Ge8 O O O (A_nextM (m:=r36) O O O O) ?_
   intro u_ L_ hn_
   rcases hn_ with ⟨q48,x48,he48,hs48,rfl,rfl⟩ | ⟨ha48,rfl,rfl⟩
   ·
    obtain⟨o48,h,ho1_48,ho2_48⟩:=hi48.step he48 hs48
    replace h:=app3 hb48 h
    refine JLh (BL true) (Gv O O O) O (G7 (hK49 (Js fun hK50=>Ja0 O (Gs (hK50 (H1 (Jr fun hK51=>(JLh (.tup [G0 x48.1,.agg []]) (Jaa (kv:=(fun n:Int=>Value.int .i64 n)) (av:=(fun _:Unit=>.agg [])) (m:=r36) (q:=q48) (seen:=i48) (e:=x48) O O O O he48) O (JLh (G0 x48.1) (Gv O O O) O (Rt (G0 x48.1) O (G7 (hK51 (G4 (Rt (.vec 1037 s48.length 1 s48.length) O (Rt (G0 x48.1) O (JLh (E0 [x48.1]) (H5 (xs:=[G0 x48.1]) O ⟨O,O,G⟩ Gq Jm O O O O) O ?_))))))))))))))))
    obtain⟨ha52,h⟩:=Ja h
    refine JLh (.vec 1037 ((s48++[x48.1]).length) 1 ((s48++[x48.1]).length)) (G1b (f:=G0) (xs:=s48) (ys:=[x48.1]) (ver:=s48.length) (ver1:=(s48++[x48.1]).length) rfl rfl rfl rfl Gq Z8 ha52 (fun _=>rfl) (.inl rfl) (by simp)) O (Rt (.vec 1037 ((s48++[x48.1]).length) 1 ((s48++[x48.1]).length)) O (G7 (e48 _ _ (i48++[q48]) (s48++[x48.1]) (ho2_48 _ (Option.some.inj h).symm) (unseen_lt (List.getElem?_eq_some_iff.1 he48).1 hs48) ⟨⟨.same O,.same O,G⟩,⟨⟨_,O,.map⟩,⟨_,O,.vec⟩,⟨_,O,.iter O⟩,⟨_,O,.boxL O ⟨.same O,G⟩⟩,⟨_,O,.boxL O ⟨.same O,G⟩⟩,G⟩,O⟩)))
   ·
    obtain⟨p_,h,hp⟩:=hi48.done ha48
    replace h:=app1 hkx48 h
    refine JLh (BL false) (Gv O O O) O (G7 (hK49 (Js fun hK53=>Ja1 O (J8 (hK38 (Jr fun hK54=>(Rt (.vec 1037 s48.length 1 s48.length) O ?_)))))))
    obtain⟨r55,hr55,h⟩:=Gf h
    refine JLh (.tup []) (A_sortI (F:=30) (xs:=s48) (r:=r55) O sortILaw_30 sortINone_30 Jd7 O O O hr55 O) O (G7 (hK54 (Jr fun hK56=>(Rt (.vec 1037 s48.length 1 s48.length) O (Rt (.vec 1037 s48.length 1 s48.length) O (Rt (G0 0) O (G7 (hK56 (Jdf [(8,E0 r55),(9,G0 0)] [] 1037 rfl rfl G rfl (by exact⟨.vec,.conv (.same rfl),G⟩) (Gw (⟨[E0 r55,G0 0],[],G,O,⟨⟨_,O,.conv (.same O)⟩,⟨_,O,.conv (.same O)⟩,G⟩,O,(r55,0),Eq.mpr (Option.some.inj h) hp,O⟩)))))))))))
theorem J65 (S_:Nat→(Gr)→(List Gb)→(List Stowed)→(List Int)→Option ((List Int)×Int)) (hS_:∀ F s boxes l ids r,S_ F s boxes l ids=some r→∃ p:Prop,G7b F s boxes l ids (fun r_=>r_=r)=some p∧p) (F:Nat) (s:Gr) (boxes:List Gb) (l:List Stowed) (ids:List Int) (r:(List Int)×Int) (h:S_ F s boxes l ids=some r):Pure Ek 10 [.agg (Gr.cs s),E2 boxes,E1 l,E0 ids] (·=.tup [E0 r.1,G0 r.2]):=by
 obtain⟨p,h1,h2⟩:=hS_ F s boxes l ids r h
 exact(J64 F s boxes l ids _ p h1 h2).monoP (fun av hh=>by obtain⟨r_,rfl,ha⟩:=hh; exact ha)
end
end Go.Proofs.YtbljcmgjmieffaaGreat
