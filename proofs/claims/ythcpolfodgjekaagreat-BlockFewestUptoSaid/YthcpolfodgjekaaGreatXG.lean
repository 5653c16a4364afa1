/-
 Models of functions of the program,and that they return what the models say.
-/
import Derived.Test.YthcpolfodgjekaaGreatXGa
set_option maxRecDepth 100000
set_option maxHeartbeats 1000000
set_option linter.unusedVariables false
set_option linter.unusedSimpArgs false
namespace Go.Proofs.YthcpolfodgjekaaGreat
open Go.RowKit
noncomputable section
open XAF
open XLF
open XCF
open XGF

def Ga8 (self_:(List Int)→(Hr Int Unit)→(List Stowed)→H0→Option (Hr Int Unit)) (F:Nat) (ids:List Int) (p1:Hr Int Unit) (p2:List Stowed) (p4:H0):Option (Hr Int Unit):=
 each (fun y102 i102 (s102:(Hr Int Unit)) nx102=>
  jp (fun kj105=>
   bif (Hr.has s102 y102) then
   (kj105 s102)
   else
   (bnd (Gf8 p2 y102) fun r113=>
    bnd (self_ r113.1 (Hr.put s102 y102 ()) p2 p4) fun r115=>
    bnd (G31 p2 y102) fun r117=>
    Qm p2 r117 fun y118=>
    bnd (Gf6 p4 y118.Slot.G3) fun r120=>
    bif decide (0≤r120) then
    (bnd (Gde p4 p2 r120) fun r122=>
     bnd (self_ r122 r115 p2 p4) fun r123=>
     kj105 r123)
    else
    (kj105 r115))) fun(j105:(Hr Int Unit))=>
  nx102 j105)
 (fun(s102:(Hr Int Unit))=>
  some s102) ids 0 p1
def G32:Nat→(List Int)→(Hr Int Unit)→(List Stowed)→H0→Option (Hr Int Unit)
 | 0,_,_,_,_=>none
 | F+1,ids,p1,p2,p4=>Ga8 (G32 F) F ids p1 p2 p4
abbrev Ep (p2:List Stowed) (p4:H0):List AV:=[.ptr 1074 0,.dptr [E2 p2],.ptr 1075 0,Eb p4]
theorem Jb0 (self_:(List Int)→(Hr Int Unit)→(List Stowed)→H0→Option (Hr Int Unit)) (self_w:∀ (ids:List Int) (p1:Hr Int Unit) (p2:List Stowed) (p4:H0) (r:(Hr Int Unit)),self_ ids p1 p2 p4=some r→Ym Ej 81 [E1 ids,.ptr 1074 0,.dptr [E2 p2],.ptr 1075 0,Eb p4] [(1074,.box 130 [.mp 1077]),(1077,MP 130 (fun n:Int=>Value.int .i64 n) (fun _:Unit=>.agg []) p1),(1075,.box 88 [.fn 81 [.ptr 1074 0,.dptr [E2 p2],.ptr 1075 0,Eb p4]])] (fun av L'=>av=.tup []∧L'=[(1074,.box 130 [.mp 1077]),(1077,MP 130 (fun n:Int=>Value.int .i64 n) (fun _:Unit=>.agg []) r),(1075,.box 88 [.fn 81 [.ptr 1074 0,.dptr [E2 p2],.ptr 1075 0,Eb p4]])])) (F:Nat) (ids:List Int) (p1:Hr Int Unit) (p2:List Stowed) (p4:H0) (r:(Hr Int Unit)) (h:Ga8 self_ F ids p1 p2 p4=some r):Ym Ej 81 [E1 ids,.ptr 1074 0,.dptr [E2 p2],.ptr 1075 0,Eb p4] [(1074,.box 130 [.mp 1077]),(1077,MP 130 (fun n:Int=>Value.int .i64 n) (fun _:Unit=>.agg []) p1),(1075,.box 88 [.fn 81 [.ptr 1074 0,.dptr [E2 p2],.ptr 1075 0,Eb p4]])] (fun av L'=>av=.tup []∧L'=[(1074,.box 130 [.mp 1077]),(1077,MP 130 (fun n:Int=>Value.int .i64 n) (fun _:Unit=>.agg []) r),(1075,.box 88 [.fn 81 [.ptr 1074 0,.dptr [E2 p2],.ptr 1075 0,Eb p4]])]):=by
 unfold Ga8 at h
 refine H13 [1074,1077,1075] [] Tryz.func81 O O (Qa8 O) (Jr fun hK1=>(JLm (E1 ids) O (JLl Gn O O O fun hm14=>(JLm (I64 0) O (G7 (hK1 (Gp ?_)))))))
 obtain⟨b102,kx102,hb102,hkx102,h⟩:=Hv h
 refine Hc (fun i102 (s102:(Hr Int Unit))=>each b102 kx102 (List.drop i102 ids) i102 s102=some r) (fun i102 s102=>[(1,.ptr 1074 0),(2,.dptr [E2 p2]),(3,.ptr 1075 0),(4,Eb p4),(13,E1 ids),(14,Ei ids.length),(15,Ei i102)]) (fun i102 s102=>[(1077,MP 130 (fun n:Int=>Value.int .i64 n) (fun _:Unit=>.agg []) s102),(1074,.box 130 [.mp 1077]),(1075,.box 88 [.fn 81 (Ep p2 p4)])]) (fun i102=>ids.length - i102) 0 p1 h ⟨(.sm O O),⟨⟨_,rfl,.map⟩,⟨_,rfl,.boxL rfl ⟨.same rfl,G⟩⟩,⟨_,rfl,.boxL rfl ⟨.same rfl,G⟩⟩,G⟩,rfl⟩ ?_
 clear h
 intro i102 s102 hi102 K102 e102
 refine Jr fun hK103=>(JLh (BL (decide ((i102:Int) < (ids.length:Int)))) (Hy O O O) O (G7 (hK103 (Js fun hK104=>Gj O (fun hb=>?_) (fun hb=>?_)))))
 ·
  have hk102:=J8 hb
  obtain⟨y102,nx102,hy102,hn102,h⟩:=Hj hi102 hk102
  replace h:=R8 hb102 h
  refine Gm (hK104 ?_)
  obtain⟨kj105,hkj105,h⟩:=G09 h
  refine Yt (fun j105:(Hr Int Unit)=>kj105 j105=some r) (fun j105=>[(1,.ptr 1074 0),(2,.dptr [E2 p2]),(3,.ptr 1075 0),(4,Eb p4),(13,E1 ids),(14,Ei ids.length),(15,Ei i102)]) (fun j105=>[(1077,MP 130 (fun n:Int=>Value.int .i64 n) (fun _:Unit=>.agg []) j105),(1074,.box 130 [.mp 1077]),(1075,.box 88 [.fn 81 (Ep p2 p4)])]) (fun Kj105 ej105=>?_) ?_
  ·
   refine Gp (Jr fun hK106=>(JLh (.dptr [I64 y102]) (Gv (f:=I64) (xs:=ids) (y:=y102) O O O Gn hy102 O) O (JLh (I64 y102) (Ge Gb O O O) O (JLm (I64 y102) O (G7 (hK106 (Js fun hK107=>Jr fun hK108=>(JLh (.mp 1077) (G04 H95 O O O O) O (JLm (I64 y102) O (JLh (.tup [.agg [],BL (Hr.has s102 y102)]) (Ra5 (av:=(fun _:Unit=>.agg [])) (m:=s102) (a:=y102) () (.agg #[]) O O O O Y44 J3c Rd6 O) O (JLm (.tup [.agg [],BL (Hr.has s102 y102)]) O (JLh (.agg []) (H4 O O O) O (JLh (BL (Hr.has s102 y102)) (H4 O O O) O (JLh (.ptr 1135 0) (Jn 1135 0 Qba O O) O (Je (u:=.junk) (Y3b (u:=.agg []) Qe8 O O O O O O) (JLm (BL (Hr.has s102 y102)) O (G7 (hK108 ?_))))))))))))))))))
   refine Gr [(1,.ptr 1074 0),(2,.dptr [E2 p2]),(3,.ptr 1075 0),(4,Eb p4),(7,I64 y102),(9,BL (Hr.has s102 y102)),(13,E1 ids),(14,Ei ids.length),(15,Ei i102)] [(1077,MP 130 (fun n:Int=>Value.int .i64 n) (fun _:Unit=>.agg []) s102),(1074,.box 130 [.mp 1077]),(1075,.box 88 [.fn 81 (Ep p2 p4)])] 1135 rfl rfl rfl ⟨⟨_,rfl,.map⟩,⟨_,rfl,.boxEq rfl rfl⟩,⟨_,rfl,.boxEq rfl rfl⟩,G⟩ rfl (by repeat' (first | exact .ptr | constructor)) (Jr fun hK110=>(JLm (BL (Hr.has s102 y102)) O (G7 (hK110 (JCc O h (fun h hb=>?_) (fun h hb=>?_))))))
   ·
    refine Hi (ej105 _ _ s102 h ⟨(.sm O O),⟨⟨_,rfl,.map⟩,⟨_,rfl,.boxL rfl ⟨.same rfl,G⟩⟩,⟨_,rfl,.boxL rfl ⟨.same rfl,G⟩⟩,G⟩,rfl⟩)
   ·
    refine Gm (hK107 (Jr fun hK111=>(JLh (.mp 1077) (G04 H95 O O O O) O (JLm (I64 y102) O (JLh (.agg []) (Jk (cs:=[]) [] [] [] Q74 Qe5 G O O) O (Je (u:=.junk) (J8c (m:=s102) (a:=y102) (v:=()) O O O O O O Y44 J3c) (G7 (hK111 (Jr fun hK112=>(JLh (E2 p2) (Ge Ry O O O) O (JLm (I64 y102) O ?_)))))))))))
    obtain⟨r113,hr113,h⟩:=Gd h
    refine JLh (.tup [E1 r113.1,I64 r113.2]) (Gi O (Q55 p2 y102 r113 hr113) R61 ⟨O,O,O,O,G⟩) O (JLm (.tup [E1 r113.1,I64 r113.2]) O (JLh (E1 r113.1) (H4 O O O) O (JLh (I64 r113.2) (H4 O O O) O (JLm (E1 r113.1) O (JLm (I64 r113.2) O (G7 (hK112 (Jr fun hK114=>(JLh (.fn 81 (Ep p2 p4)) (G04 Hb5 O O O O) O (JLm (E1 r113.1) O ?_))))))))))
    obtain⟨r115,hr115,h⟩:=Gd h
    refine JLh (.tup []) (Q72 (args:=[E1 r113.1]) (caps:=(Ep p2 p4)) (L0:=[(1074,.box 130 [.mp 1077]),(1077,MP 130 (fun n:Int=>Value.int .i64 n) (fun _:Unit=>.agg []) (Hr.put s102 y102 ())),(1075,.box 88 [.fn 81 (Ep p2 p4)])]) (Lr:=[(1074,.box 130 [.mp 1077]),(1077,MP 130 (fun n:Int=>Value.int .i64 n) (fun _:Unit=>.agg []) r115),(1075,.box 88 [.fn 81 (Ep p2 p4)])]) O O (self_w r113.1 (Hr.put s102 y102 ()) p2 p4 r115 hr115) J44 ⟨.inl O,O,G⟩ O ⟨O,O,O,G⟩ O O O) O (G7 (hK114 (Js fun hK116=>?_)))
    refine G29 (l':=[(1,.ptr 1074 0),(2,.dptr [E2 p2]),(3,.ptr 1075 0),(4,Eb p4),(7,I64 y102),(13,E1 ids),(14,Ei ids.length),(15,Ei i102)]) (L':=[(1077,MP 130 (fun n:Int=>Value.int .i64 n) (fun _:Unit=>.agg []) r115),(1074,.box 130 [.mp 1077]),(1075,.box 88 [.fn 81 (Ep p2 p4)])]) ⟨(.sm O O),⟨⟨_,rfl,.map⟩,⟨_,rfl,.boxL rfl ⟨.same rfl,G⟩⟩,⟨_,rfl,.boxL rfl ⟨.same rfl,G⟩⟩,G⟩,rfl⟩ ?_
    obtain⟨r117,hr117,h⟩:=Gd h
    obtain⟨m119,y118,hm119,hy118,h⟩:=Rb h
    obtain⟨r120,hr120,h⟩:=Gd h
    refine JC_d0 Jb (by kernel_rfl) (Dq (.agg (H0.cs p4)) (Gg H7 O O O) O (Dq (E2 p2) (Ge Ry O O O) O (Dq (E2 p2) (Ge Ry O O O) O (Dq (I64 y102) (G4 O O) O (Dq (I64 r117) (Gi (args:=[E2 p2,I64 y102]) O (H1b p2 y102 r117 hr117) Hb6 ⟨O,O,O,O,G⟩) O (Dq (Ec y118) (Gv (f:=Stowed.av) (xs:=p2) (y:=y118) O O O Gx hy118 hm119) O (Dq (.dptr ((Stowed.cs y118).drop 1)) (Ga Hs O O O) O (Dq (.dptr ((Stowed.cs y118).drop 1)) (Ga J0 O O O) O (Dq (I64 y118.Slot.G3) (Ge Gb O O O) O (Dq (I64 r120) (Gi (args:=[.agg (H0.cs p4),I64 y118.Slot.G3]) O (Q52 p4 y118.Slot.G3 r120 hr120) R60 ⟨O,O,O,O,G⟩) O (Dq (I64 r120) (G6 O O) O (Dnil ?_))))))))))))
    refine hK116 (Jr fun hK121=>(JLm (I64 r120) O (JLh (BL (decide (0≤r120))) (G13 O O O) O (G7 (hK121 (JCc O h (fun h hb=>?_) (fun h hb=>?_)))))))
    ·
     refine G29 (l':=[(1,.ptr 1074 0),(2,.dptr [E2 p2]),(3,.ptr 1075 0),(4,Eb p4),(12,I64 r120),(13,E1 ids),(14,Ei ids.length),(15,Ei i102)]) (L':=[(1077,MP 130 (fun n:Int=>Value.int .i64 n) (fun _:Unit=>.agg []) r115),(1074,.box 130 [.mp 1077]),(1075,.box 88 [.fn 81 (Ep p2 p4)])]) ⟨(.sm O O),⟨⟨_,rfl,.map⟩,⟨_,rfl,.boxL rfl ⟨.same rfl,G⟩⟩,⟨_,rfl,.boxL rfl ⟨.same rfl,G⟩⟩,G⟩,rfl⟩ ?_
     obtain⟨r122,hr122,h⟩:=Gd h
     obtain⟨r123,hr123,h⟩:=Gd h
     refine Jf [5] [0,0,0,0,0,0] [0,0,0,0,0,0] [[(1077,MP 130 (fun n:Int=>Value.int .i64 n) (fun _:Unit=>.agg []) r115),(1074,.box 130 [.mp 1077]),(1075,.box 88 [.fn 81 (Ep p2 p4)])],((1077,MP 130 (fun n:Int=>Value.int .i64 n) (fun _:Unit=>.agg []) r123)::[(1077,MP 130 (fun n:Int=>Value.int .i64 n) (fun _:Unit=>.agg []) r115),(1074,.box 130 [.mp 1077]),(1075,.box 88 [.fn 81 (Ep p2 p4)])])] Jb (by kernel_rfl) rfl rfl ?_
     refine Gc (u:=.fn 81 (Ep p2 p4)) O O ⟨Gt (G04 Hb5 O O O O) O,G⟩ (Gc (u:=.agg (H0.cs p4)) O O ⟨Gt (Gg H7 O O O) O,G⟩ (Gc (u:=E2 p2) O O ⟨Gt (Ge Ry O O O) O,G⟩ (Gc (u:=I64 r120) O O ⟨Gt (G4 O O) O,G⟩ (Gc (u:=E1 r122) O O ⟨Gt (Gi O (J33 p4 p2 r120 r122 hr122) Q00 ⟨O,O,O,O,O,O,G⟩) O,G⟩ (D_w (u:=.tup []) O O O O (Gb5.locEq (Gt (Q72 (args:=[E1 r122]) (caps:=(Ep p2 p4)) (L0:=[(1074,.box 130 [.mp 1077]),(1077,MP 130 (fun n:Int=>Value.int .i64 n) (fun _:Unit=>.agg []) r115),(1075,.box 88 [.fn 81 (Ep p2 p4)])]) (Lr:=[(1074,.box 130 [.mp 1077]),(1077,MP 130 (fun n:Int=>Value.int .i64 n) (fun _:Unit=>.agg []) r123),(1075,.box 88 [.fn 81 (Ep p2 p4)])]) O O (self_w r122 r115 p2 p4 r123 hr123) J44 ⟨.inl O,O,G⟩ O ⟨O,O,O,G⟩ O O O) O) (H73.of [1077,1074,1075] O O ⟨O,O,O,G⟩)) (R2 ?_))))))
     exact ej105 _ _ r123 h ⟨(.sm O O),⟨⟨_,rfl,.map⟩,⟨_,rfl,.boxL rfl ⟨.same rfl,G⟩⟩,⟨_,rfl,.boxL rfl ⟨.same rfl,G⟩⟩,G⟩,rfl⟩
    ·
     refine Gm (ej105 _ _ r115 h ⟨(.sm O O),⟨⟨_,rfl,.map⟩,⟨_,rfl,.boxL rfl ⟨.same rfl,G⟩⟩,⟨_,rfl,.boxL rfl ⟨.same rfl,G⟩⟩,G⟩,rfl⟩)
  ·intro j105 h
   replace h:=app1 hkj105 h
   refine G2 (JLh (I64 ((i102+1:Nat):Int)) (Ht (Hb hk102 hm14) O O O) O (JLm (I64 ((i102+1:Nat):Int)) O (G7 (e102 _ _ (i102+1) j105 (app1 hn102 h) (by omega) ⟨(.sm O O),⟨⟨_,rfl,.map⟩,⟨_,rfl,.boxL rfl ⟨.same rfl,G⟩⟩,⟨_,rfl,.boxL rfl ⟨.same rfl,G⟩⟩,G⟩,rfl⟩))))
 ·
  have h:=app1 hkx102 (Hk hi102 (H3 hb))
  refine Hi ?_
  obtain rfl:=Kj h
  exact⟨[],[(1074,.box 130 [.mp 1077]),(1077,MP 130 (fun n:Int=>Value.int .i64 n) (fun _:Unit=>.agg []) s102),(1075,.box 88 [.fn 81 (Ep p2 p4)])],⟨⟨_,O,.boxL O ⟨.same O,G⟩⟩,⟨_,O,.map⟩,⟨_,O,.boxL O ⟨.same O,G⟩⟩,G⟩,O,G,O,O⟩
theorem Ja8:∀ (F:Nat) (ids:List Int) (p1:Hr Int Unit) (p2:List Stowed) (p4:H0) (r:(Hr Int Unit)) (h:G32 F ids p1 p2 p4=some r),Ym Ej 81 [E1 ids,.ptr 1074 0,.dptr [E2 p2],.ptr 1075 0,Eb p4] [(1074,.box 130 [.mp 1077]),(1077,MP 130 (fun n:Int=>Value.int .i64 n) (fun _:Unit=>.agg []) p1),(1075,.box 88 [.fn 81 [.ptr 1074 0,.dptr [E2 p2],.ptr 1075 0,Eb p4]])] (fun av L'=>av=.tup []∧L'=[(1074,.box 130 [.mp 1077]),(1077,MP 130 (fun n:Int=>Value.int .i64 n) (fun _:Unit=>.agg []) r),(1075,.box 88 [.fn 81 [.ptr 1074 0,.dptr [E2 p2],.ptr 1075 0,Eb p4]])]):=by
 intro F
 induction F with
 | zero=>intro ids p1 p2 p4 r h; cases h
 | succ F ih=>intro ids p1 p2 p4 r h; exact Jb0 (G32 F) ih F ids p1 p2 p4 r h

def Gf7 (F:Nat) (s:H0) (boxes:List Box) (l:List Stowed) (ids:List Int) (Rp:((List Int)×Int)→Prop):Option Prop:=
 bnd (Yy s boxes l []) fun r4=>
 bif (!r4) then
 (some (Rp ([],2)))
 else
 (each (fun y27 i27 (s27:Unit) nx27=>
   bnd (G31 l y27) fun r33=>
   bif decide (r33 < 0) then
   (some (Rp ([],6)))
   else
   (nx27 ()))
  (fun(s27:Unit)=>
   bnd (G32 F ids (Hr.empty:Hr Int Unit) l s) fun r36=>
   Q42 (fun(x48:Int×Unit) (s48:(List Int)) nx48=>
    need (decide ((s48.length+[x48.1].length)*8≤140737488355328∧s48.length+[x48.1].length≤maxLen)) <|
    nx48 (s48++[x48.1]))
   (fun(s48:(List Int))=>
    bnd (G99 s48) fun r55=>
    some (Rp (r55,0))) (Hr.l r36) []) ids 0 ())
abbrev Er (l:List Stowed) (s:H0):List AV:=[.ptr 1074 0,.dptr [E2 l],.ptr 1075 0,Eb s]
theorem Q53 (F:Nat) (s:H0) (boxes:List Box) (l:List Stowed) (ids:List Int) (Rp:((List Int)×Int)→Prop) (p:Prop) (h:Gf7 F s boxes l ids Rp=some p) (hp:p):Pure Ej 38 [.agg (H0.cs s),E3 boxes,E2 l,E1 ids] (fun av=>∃ r,Rp r∧av=.tup [E1 r.1,I64 r.2]):=by
 unfold Gf7 at h
 refine Gy [.tmp 8,.tmp 9] Tryz.func38 O O (Jr fun hK1=>(JLh (.ptr 1072 0) (J7 (cs:=(H0.cs s)) 1072 O O O O O) O (JLh (.ptr 1073 0) (J7 (cs:=[E2 l]) 1073 O O O O O) O (JLh (E1 ([]:List Int)) (H2 1 O O) O (JLm (I64 0) O (G7 (hK1 ?_)))))))
 refine Gr [(1,E3 boxes),(3,E1 ids),(4,Eb s),(6,.ptr 1073 0)] [(1073,.box 34 [E2 l])] 1072 rfl rfl rfl ⟨⟨_,rfl,.boxEq rfl rfl⟩,G⟩ rfl (by repeat' (first | exact .ptr | constructor)) ?_
 refine Gr [(1,E3 boxes),(3,E1 ids),(4,Eb s),(6,.dptr [E2 l])] [] 1073 rfl rfl rfl G rfl (by repeat' (first | exact .ptr | constructor)) (Js fun hK2=>Jr fun hK3=>(JLh (.agg (H0.cs s)) (Gg H7 O O O) O (JLm (E3 boxes) O (JLh (E2 l) (Ge Ry O O O) O ?_))))
 obtain⟨r4,hr4,h⟩:=Gd h
 refine JLh (BL r4) (J8e (args:=[.agg (H0.cs s),E3 boxes,E2 l,E1 ([]:List Int)]) O (H0c s boxes l [] r4 hr4) J45 ⟨.inl O,O,.inl O,O,.inl O,O,.inr ⟨_,O,O⟩,O,G⟩) O (JLh (BL (!r4)) (Q3 (b:=r4) O O) O (G7 (hK3 (JCc O h (fun h hb=>?_) (fun h hb=>?_)))))
 ·
  refine Jr fun hK5=>(JLh (E1 ([]:List Int)) (H2 1 O O) O (JLm (I64 2) O (G7 (hK5 (Gq (⟨[E1 ([]:List Int),I64 2],[],G,O,⟨⟨_,O,.conv (.same O)⟩,⟨_,O,.conv (.same O)⟩,G⟩,O,([],2),Eq.mpr (Kj h) hp,O⟩))))))
 ·
  refine Gm (hK2 (Jr fun hK6=>(JLh (.mp 1077) (J5d 1077 (fun n:Int=>Value.int .i64 n) (fun _:Unit=>.agg []) O O) O (JLh (.ptr 1074 0) (Jn 1074 1 Qbb O O) O (Je (u:=.junk) (J5 (u:=.mp 1077) (ds:=[.mp 1077]) Qe9 O O O O O O O O) (G7 (hK6 (Jr fun hK7=>(JLh (.ptr 1075 0) (Jn 1075 1 Qe2 O O) O (G7 (hK7 ?_)))))))))))
  refine Jr fun hK8=>(JLh (.fn 81 (Er l s)) (G3d (cs:=(Er l s)) O O) O (Je (u:=.junk) (J5 (u:=.fn 81 (Er l s)) (ds:=[.fn 81 (Er l s)]) R51 O O O O O O O O) (G7 (hK8 ?_))))
  refine Js fun hK9=>Jr fun hK10=>(JLm (E1 ids) O (JLl Gn O O O fun hm24=>(JLm (I64 0) O (G7 (hK10 (Gp ?_))))))
  obtain⟨b27,kx27,hb27,hkx27,h⟩:=Hv h
  refine Hc (fun i27 (s27:Unit)=>each b27 kx27 (List.drop i27 ids) i27 s27=some p) (fun i27 s27=>[(3,E1 ids),(6,.dptr [E2 l]),(10,.ptr 1074 0),(11,.ptr 1075 0),(23,E1 ids),(24,Ei ids.length),(25,Ei i27)]) (fun i27 s27=>[(1077,MP 130 (fun n:Int=>Value.int .i64 n) (fun _:Unit=>.agg []) (Hr.empty:Hr Int Unit)),(1074,.box 130 [.mp 1077]),(1075,.box 88 [.fn 81 (Er l s)])]) (fun i27=>ids.length - i27) 0 () h ⟨(.sm O O),⟨⟨_,rfl,.map⟩,⟨_,rfl,.boxL rfl ⟨.same rfl,G⟩⟩,⟨_,rfl,.boxL rfl ⟨.same rfl,G⟩⟩,G⟩,rfl⟩ ?_
  clear h
  intro i27 s27 hi27 K27 e27
  refine Jr fun hK28=>(JLh (BL (decide ((i27:Int) < (ids.length:Int)))) (Hy O O O) O (G7 (hK28 (Js fun hK29=>Gj O (fun hb=>?_) (fun hb=>?_)))))
  ·
   have hk27:=J8 hb
   obtain⟨y27,nx27,hy27,hn27,h⟩:=Hj hi27 hk27
   replace h:=R8 hb27 h
   refine Gm (hK29 (Js fun hK30=>Gp (Jr fun hK31=>(JLh (.dptr [I64 y27]) (Gv (f:=I64) (xs:=ids) (y:=y27) O O O Gn hy27 O) O (JLh (I64 y27) (Ge Gb O O O) O (JLm (I64 y27) O (G7 (hK31 (Jr fun hK32=>(JLh (E2 l) (Ge Ry O O O) O (JLm (I64 y27) O ?_)))))))))))
   obtain⟨r33,hr33,h⟩:=Gd h
   refine JLh (I64 r33) (Gi O (H1b l y27 r33 hr33) Hb6 ⟨O,O,O,O,G⟩) O (JLh (BL (decide (r33 < 0))) (Hy O O O) O (G7 (hK32 (JCc O h (fun h hb=>?_) (fun h hb=>?_)))))
   ·
    refine Jr fun hK34=>(JLh (E1 ([]:List Int)) (H2 1 O O) O (JLm (I64 6) O (G7 (hK34 (Gq (⟨[E1 ([]:List Int),I64 6],[],G,O,⟨⟨_,O,.conv (.same O)⟩,⟨_,O,.conv (.same O)⟩,G⟩,O,([],6),Eq.mpr (Kj h) hp,O⟩))))))
   ·
    refine Gm (hK30 (G2 (JLh (I64 ((i27+1:Nat):Int)) (Ht (Hb hk27 hm24) O O O) O (JLm (I64 ((i27+1:Nat):Int)) O (G7 (e27 _ _ (i27+1) () (app1 hn27 h) (by omega) ⟨(.sm O O),⟨⟨_,rfl,.map⟩,⟨_,rfl,.boxL rfl ⟨.same rfl,G⟩⟩,⟨_,rfl,.boxL rfl ⟨.same rfl,G⟩⟩,G⟩,rfl⟩))))))
  ·
   have h:=app1 hkx27 (Hk hi27 (H3 hb))
   refine Hi (hK9 (Jr fun hK35=>(JLh (.fn 81 (Er l s)) (G04 Hb5 O O O O) O (JLm (E1 ids) O ?_))))
   obtain⟨r36,hr36,h⟩:=Gd h
   refine JLh (.tup []) (Q72 (args:=[E1 ids]) (caps:=(Er l s)) (L0:=[(1074,.box 130 [.mp 1077]),(1077,MP 130 (fun n:Int=>Value.int .i64 n) (fun _:Unit=>.agg []) (Hr.empty:Hr Int Unit)),(1075,.box 88 [.fn 81 (Er l s)])]) (Lr:=[(1074,.box 130 [.mp 1077]),(1077,MP 130 (fun n:Int=>Value.int .i64 n) (fun _:Unit=>.agg []) r36),(1075,.box 88 [.fn 81 (Er l s)])]) O O (Ja8 F ids (Hr.empty:Hr Int Unit) l s r36 hr36) J44 ⟨.inl O,O,G⟩ O ⟨O,O,O,G⟩ O O O) O (G7 (hK35 ?_))
   refine Jr fun hK37=>(JLh (.vec 1076 (([]:List Int).length) 1 (([]:List Int).length)) (Qdb 1076 3 1 O O O) O (G7 (hK37 (Js fun hK38=>Jr fun hK39=>(JLh (.mp 1077) (G04 H95 O O O O) O (JLh (.it 1078) (Q6a 1078 (m:=r36) O O O O J3c) O (G7 (hK39 (Gp ?_)))))))))
   obtain⟨b48,kx48,hb48,hkx48,h⟩:=Q41 h
   refine Q65 (Hr.size r36) (fun i48 (s48:(List Int))=>MInv b48 kx48 (Hr.l r36) i48 s48) (fun i48 s48=>[(14,.vec 1076 s48.length 1 s48.length),(38,.it 1078)]) (fun i48 s48=>[(1077,MP 130 (fun n:Int=>Value.int .i64 n) (fun _:Unit=>.agg []) r36),(1076,.vec 3 1 s48.length (s48.map I64)),(1078,.iter 1077 (Hr.size r36) i48),(1074,.box 130 [.mp 1077]),(1075,.box 88 [.fn 81 (Er l s)])]) [] (MInv.start h hp) ⟨(.sm O O),⟨⟨_,O,.map⟩,⟨_,O,.vec⟩,⟨_,O,.iter O⟩,⟨_,O,.boxL O ⟨.same O,G⟩⟩,⟨_,O,.boxL O ⟨.same O,G⟩⟩,G⟩,O⟩ ?_
   clear h hp
   intro i48 s48 hi48 K48 e48
   refine Jr fun hK49=>H90 O O O (Qdc (m:=r36) O O O O) ?_
   intro u_ L_ hn_
   rcases hn_ with ⟨q48,x48,he48,hs48,rfl,rfl⟩ | ⟨ha48,rfl,rfl⟩
   ·
    obtain⟨o48,h,ho1_48,ho2_48⟩:=hi48.step he48 hs48
    replace h:=J02 hb48 h
    refine JLh (BL true) (H4 O O O) O (G7 (hK49 (Js fun hK50=>Q66 O (Gm (hK50 (Gp (Jr fun hK51=>(JLh (.tup [I64 x48.1,.agg []]) (Q6f (kv:=(fun n:Int=>Value.int .i64 n)) (av:=(fun _:Unit=>.agg [])) (m:=r36) (q:=q48) (seen:=i48) (e:=x48) O O O O he48) O (JLh (I64 x48.1) (H4 O O O) O (JLm (I64 x48.1) O (G7 (hK51 (G2 (JLm (.vec 1076 s48.length 1 s48.length) O (JLm (I64 x48.1) O (JLh (E1 [x48.1]) (Ha (xs:=[I64 x48.1]) O ⟨O,O,G⟩ Gn Jz O O O O) O ?_))))))))))))))))
    obtain⟨ha52,h⟩:=Hp h
    refine JLh (.vec 1076 ((s48++[x48.1]).length) 1 ((s48++[x48.1]).length)) (H11 (f:=I64) (xs:=s48) (ys:=[x48.1]) (ver:=s48.length) (ver1:=(s48++[x48.1]).length) rfl rfl rfl rfl Gn Rt ha52 (fun _=>rfl) (.inl rfl) (by simp)) O (JLm (.vec 1076 ((s48++[x48.1]).length) 1 ((s48++[x48.1]).length)) O (G7 (e48 _ _ (i48++[q48]) (s48++[x48.1]) (ho2_48 _ (Kj h).symm) (J90 (Kh he48).1 hs48) ⟨(.sm O O),⟨⟨_,O,.map⟩,⟨_,O,.vec⟩,⟨_,O,.iter O⟩,⟨_,O,.boxL O ⟨.same O,G⟩⟩,⟨_,O,.boxL O ⟨.same O,G⟩⟩,G⟩,O⟩)))
   ·
    obtain⟨p_,h,hp⟩:=hi48.done ha48
    replace h:=app1 hkx48 h
    refine JLh (BL false) (H4 O O O) O (G7 (hK49 (Js fun hK53=>Q67 O (Hi (hK38 (Jr fun hK54=>(JLm (.vec 1076 s48.length 1 s48.length) O ?_)))))))
    obtain⟨r55,hr55,h⟩:=Gd h
    refine JLh (.tup []) (Rd1 (F:=40) (xs:=s48) (r:=r55) O Jc9 J67 Q11 O O O hr55 O) O (G7 (hK54 (Jr fun hK56=>(JLm (.vec 1076 s48.length 1 s48.length) O (JLm (.vec 1076 s48.length 1 s48.length) O (JLm (I64 0) O (G7 (hK56 (Q64 [(8,E1 r55),(9,I64 0)] [] 1076 rfl rfl G rfl (by exact⟨.vec,.conv (.same rfl),G⟩) (Gq (⟨[E1 r55,I64 0],[],G,O,⟨⟨_,O,.conv (.same O)⟩,⟨_,O,.conv (.same O)⟩,G⟩,O,(r55,0),Eq.mpr (Kj h) hp,O⟩)))))))))))
theorem Q54 (S_:Nat→(H0)→(List Box)→(List Stowed)→(List Int)→Option ((List Int)×Int)) (hS_:∀ F s boxes l ids r,S_ F s boxes l ids=some r→∃ p:Prop,Gf7 F s boxes l ids (fun r_=>r_=r)=some p∧p) (F:Nat) (s:H0) (boxes:List Box) (l:List Stowed) (ids:List Int) (r:(List Int)×Int) (h:S_ F s boxes l ids=some r):Pure Ej 38 [.agg (H0.cs s),E3 boxes,E2 l,E1 ids] (·=.tup [E1 r.1,I64 r.2]):=by
 obtain⟨p,h1,h2⟩:=hS_ F s boxes l ids r h
 exact(Q53 F s boxes l ids _ p h1 h2).monoP (fun av hh=>by obtain⟨r_,rfl,ha⟩:=hh; exact ha)
end
end Go.Proofs.YthcpolfodgjekaaGreat
