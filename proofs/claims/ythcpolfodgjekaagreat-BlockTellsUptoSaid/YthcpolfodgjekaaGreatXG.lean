/-
 Models of functions of the program,and that they return what the models say.
-/
import Derived.Test.YthcpolfodgjekaaGreatXGa
set_option maxRecDepth 100000
set_option maxHeartbeats 1000000
set_option linter.unusedVariables false
set_option linter.unusedSimpArgs false
namespace Go.Proofs.YthcpolfodgjekaaGreat
open Go.RowKit
noncomputable section
open XAF
open XLF
open XCF
open XGF

def G8c (self_:(List Int)→(Ho Int Unit)→(List Stowed)→H2→Option (Ho Int Unit)) (F:Nat) (ids:List Int) (p1:Ho Int Unit) (p2:List Stowed) (p4:H2):Option (Ho Int Unit):=
 each (fun y102 i102 (s102:(Ho Int Unit)) nx102=>
  jp (fun kj105=>
   bif (Ho.has s102 y102) then
   (kj105 s102)
   else
   (bnd (Gcf p2 y102) fun r113=>
    bnd (self_ r113.1 (Ho.put s102 y102 ()) p2 p4) fun r115=>
    bnd (G4b p2 y102) fun r117=>
    Qr p2 r117 fun y118=>
    bnd (Gcd p4 y118.Slot.G4) fun r120=>
    bif decide (0≤r120) then
    (bnd (Gbb p4 p2 r120) fun r122=>
     bnd (self_ r122 r115 p2 p4) fun r123=>
     kj105 r123)
    else
    (kj105 r115))) fun(j105:(Ho Int Unit))=>
  nx102 j105)
 (fun(s102:(Ho Int Unit))=>
  some s102) ids 0 p1
def G1a:Nat→(List Int)→(Ho Int Unit)→(List Stowed)→H2→Option (Ho Int Unit)
 | 0,_,_,_,_=>none
 | F+1,ids,p1,p2,p4=>G8c (G1a F) F ids p1 p2 p4
abbrev Ep (p2:List Stowed) (p4:H2):List AV:=[.ptr 1068 0,.dptr [E2 p2],.ptr 1069 0,Eb p4]
theorem J80 (self_:(List Int)→(Ho Int Unit)→(List Stowed)→H2→Option (Ho Int Unit)) (self_w:∀ (ids:List Int) (p1:Ho Int Unit) (p2:List Stowed) (p4:H2) (r:(Ho Int Unit)),self_ ids p1 p2 p4=some r→Y1 Ej 81 [E1 ids,.ptr 1068 0,.dptr [E2 p2],.ptr 1069 0,Eb p4] [(1068,.box 130 [.mp 1071]),(1071,MP 130 (fun n:Int=>Value.int .i64 n) (fun _:Unit=>.agg []) p1),(1069,.box 88 [.fn 81 [.ptr 1068 0,.dptr [E2 p2],.ptr 1069 0,Eb p4]])] (fun av L'=>av=.tup []∧L'=[(1068,.box 130 [.mp 1071]),(1071,MP 130 (fun n:Int=>Value.int .i64 n) (fun _:Unit=>.agg []) r),(1069,.box 88 [.fn 81 [.ptr 1068 0,.dptr [E2 p2],.ptr 1069 0,Eb p4]])])) (F:Nat) (ids:List Int) (p1:Ho Int Unit) (p2:List Stowed) (p4:H2) (r:(Ho Int Unit)) (h:G8c self_ F ids p1 p2 p4=some r):Y1 Ej 81 [E1 ids,.ptr 1068 0,.dptr [E2 p2],.ptr 1069 0,Eb p4] [(1068,.box 130 [.mp 1071]),(1071,MP 130 (fun n:Int=>Value.int .i64 n) (fun _:Unit=>.agg []) p1),(1069,.box 88 [.fn 81 [.ptr 1068 0,.dptr [E2 p2],.ptr 1069 0,Eb p4]])] (fun av L'=>av=.tup []∧L'=[(1068,.box 130 [.mp 1071]),(1071,MP 130 (fun n:Int=>Value.int .i64 n) (fun _:Unit=>.agg []) r),(1069,.box 88 [.fn 81 [.ptr 1068 0,.dptr [E2 p2],.ptr 1069 0,Eb p4]])]):=by
 unfold G8c at h
 refine Ge8 [1068,1071,1069] [] Tryz.func81 O O (inAll O) (Jr fun hK1=>(G57 (E1 ids) O (JLl Gq O O O fun hm14=>(G57 (G0 0) O (G8 (hK1 (Gp ?_)))))))
 obtain⟨b102,kx102,hb102,hkx102,h⟩:=Hx h
 refine He (fun i102 (s102:(Ho Int Unit))=>each b102 kx102 (List.drop i102 ids) i102 s102=some r) (fun i102 s102=>[(1,.ptr 1068 0),(2,.dptr [E2 p2]),(3,.ptr 1069 0),(4,Eb p4),(13,E1 ids),(14,Ei ids.length),(15,Ei i102)]) (fun i102 s102=>[(1071,MP 130 (fun n:Int=>Value.int .i64 n) (fun _:Unit=>.agg []) s102),(1068,.box 130 [.mp 1071]),(1069,.box 88 [.fn 81 (Ep p2 p4)])]) (fun i102=>ids.length - i102) 0 p1 h ⟨(.sm O O),⟨⟨_,rfl,.map⟩,⟨_,rfl,.boxL rfl ⟨.same rfl,G⟩⟩,⟨_,rfl,.boxL rfl ⟨.same rfl,G⟩⟩,G⟩,rfl⟩ ?_
 clear h
 intro i102 s102 hi102 K102 e102
 refine Jr fun hK103=>(JLh (BL (decide ((i102:Int) < (ids.length:Int)))) (J1 O O O) O (G8 (hK103 (Js fun hK104=>Gm O (fun hb=>?_) (fun hb=>?_)))))
 ·
  have hk102:=Jc hb
  obtain⟨y102,nx102,hy102,hn102,h⟩:=Hm hi102 hk102
  replace h:=Rn hb102 h
  refine Gn (hK104 ?_)
  obtain⟨kj105,hkj105,h⟩:=G37 h
  refine Zy (fun j105:(Ho Int Unit)=>kj105 j105=some r) (fun j105=>[(1,.ptr 1068 0),(2,.dptr [E2 p2]),(3,.ptr 1069 0),(4,Eb p4),(13,E1 ids),(14,Ei ids.length),(15,Ei i102)]) (fun j105=>[(1071,MP 130 (fun n:Int=>Value.int .i64 n) (fun _:Unit=>.agg []) j105),(1068,.box 130 [.mp 1071]),(1069,.box 88 [.fn 81 (Ep p2 p4)])]) (fun Kj105 ej105=>?_) ?_
  ·
   refine Gp (Jr fun hK106=>(JLh (.dptr [G0 y102]) (Gw (f:=G0) (xs:=ids) (y:=y102) O O O Gq hy102 O) O (JLh (G0 y102) (Gf Gc O O O) O (G57 (G0 y102) O (G8 (hK106 (Js fun hK107=>Jr fun hK108=>(JLh (.mp 1071) (Zi H66 O O O O) O (G57 (G0 y102) O (JLh (.tup [.agg [],BL (Ho.has s102 y102)]) (Qc0 (av:=(fun _:Unit=>.agg [])) (m:=s102) (a:=y102) () (.agg #[]) O O O O tk_3 J10 tf_zv_131 O) O (G57 (.tup [.agg [],BL (Ho.has s102 y102)]) O (JLh (.agg []) (H9 O O O) O (JLh (BL (Ho.has s102 y102)) (H9 O O O) O (JLh (.ptr 1124 0) (Ju 1124 0 Q3d O O) O (Jf (u:=.junk) (A_store0 (u:=.agg []) Q4d O O O O O O) (G57 (BL (Ho.has s102 y102)) O (G8 (hK108 ?_))))))))))))))))))
   refine Gu [(1,.ptr 1068 0),(2,.dptr [E2 p2]),(3,.ptr 1069 0),(4,Eb p4),(7,G0 y102),(9,BL (Ho.has s102 y102)),(13,E1 ids),(14,Ei ids.length),(15,Ei i102)] [(1071,MP 130 (fun n:Int=>Value.int .i64 n) (fun _:Unit=>.agg []) s102),(1068,.box 130 [.mp 1071]),(1069,.box 88 [.fn 81 (Ep p2 p4)])] 1124 rfl rfl rfl ⟨⟨_,rfl,.map⟩,⟨_,rfl,.boxEq rfl rfl⟩,⟨_,rfl,.boxEq rfl rfl⟩,G⟩ rfl (by repeat' (first | exact .ptr | constructor)) (Jr fun hK110=>(G57 (BL (Ho.has s102 y102)) O (G8 (hK110 (JCc O h (fun h hb=>?_) (fun h hb=>?_))))))
   ·
    refine Hk (ej105 _ _ s102 h ⟨(.sm O O),⟨⟨_,rfl,.map⟩,⟨_,rfl,.boxL rfl ⟨.same rfl,G⟩⟩,⟨_,rfl,.boxL rfl ⟨.same rfl,G⟩⟩,G⟩,rfl⟩)
   ·
    refine Gn (hK107 (Jr fun hK111=>(JLh (.mp 1071) (Zi H66 O O O O) O (G57 (G0 y102) O (JLh (.agg []) (Jj (cs:=[]) [] [] [] Q2d Q4a G O O) O (Jf (u:=.junk) (J5b (m:=s102) (a:=y102) (v:=()) O O O O O O tk_3 J10) (G8 (hK111 (Jr fun hK112=>(JLh (E2 p2) (Gf Rh O O O) O (G57 (G0 y102) O ?_)))))))))))
    obtain⟨r113,hr113,h⟩:=Ge h
    refine JLh (.tup [E1 r113.1,G0 r113.2]) (Gk O (Q0d p2 y102 r113 hr113) Q93 ⟨O,O,O,O,G⟩) O (G57 (.tup [E1 r113.1,G0 r113.2]) O (JLh (E1 r113.1) (H9 O O O) O (JLh (G0 r113.2) (H9 O O O) O (G57 (E1 r113.1) O (G57 (G0 r113.2) O (G8 (hK112 (Jr fun hK114=>(JLh (.fn 81 (Ep p2 p4)) (Zi H89 O O O O) O (G57 (E1 r113.1) O ?_))))))))))
    obtain⟨r115,hr115,h⟩:=Ge h
    refine JLh (.tup []) (Q2b (args:=[E1 r113.1]) (caps:=(Ep p2 p4)) (L0:=[(1068,.box 130 [.mp 1071]),(1071,MP 130 (fun n:Int=>Value.int .i64 n) (fun _:Unit=>.agg []) (Ho.put s102 y102 ())),(1069,.box 88 [.fn 81 (Ep p2 p4)])]) (Lr:=[(1068,.box 130 [.mp 1071]),(1071,MP 130 (fun n:Int=>Value.int .i64 n) (fun _:Unit=>.agg []) r115),(1069,.box 88 [.fn 81 (Ep p2 p4)])]) O O (self_w r113.1 (Ho.put s102 y102 ()) p2 p4 r115 hr115) J18 ⟨.inl O,O,G⟩ O ⟨O,O,O,G⟩ O O O) O (G8 (hK114 (Js fun hK116=>?_)))
    refine G2a (l':=[(1,.ptr 1068 0),(2,.dptr [E2 p2]),(3,.ptr 1069 0),(4,Eb p4),(7,G0 y102),(13,E1 ids),(14,Ei ids.length),(15,Ei i102)]) (L':=[(1071,MP 130 (fun n:Int=>Value.int .i64 n) (fun _:Unit=>.agg []) r115),(1068,.box 130 [.mp 1071]),(1069,.box 88 [.fn 81 (Ep p2 p4)])]) ⟨(.sm O O),⟨⟨_,rfl,.map⟩,⟨_,rfl,.boxL rfl ⟨.same rfl,G⟩⟩,⟨_,rfl,.boxL rfl ⟨.same rfl,G⟩⟩,G⟩,rfl⟩ ?_
    obtain⟨r117,hr117,h⟩:=Ge h
    obtain⟨m119,y118,hm119,hy118,h⟩:=R2 h
    obtain⟨r120,hr120,h⟩:=Ge h
    refine JC_d0 Jg (by kernel_rfl) (Dq (.agg (H2.cs p4)) (Gj Hh O O O) O (Dq (E2 p2) (Gf Rh O O O) O (Dq (E2 p2) (Gf Rh O O O) O (Dq (G0 y102) (G5 O O) O (Dq (G0 r117) (Gk (args:=[E2 p2,G0 y102]) O (Gef p2 y102 r117 hr117) H8c ⟨O,O,O,O,G⟩) O (Dq (Ec y118) (Gw (f:=Stowed.av) (xs:=p2) (y:=y118) O O O H0 hy118 hm119) O (Dq (.dptr ((Stowed.cs y118).drop 1)) (Ga J6 O O O) O (Dq (.dptr ((Stowed.cs y118).drop 1)) (Ga Jb O O O) O (Dq (G0 y118.Slot.G4) (Gf Gc O O O) O (Dq (G0 r120) (Gk (args:=[.agg (H2.cs p4),G0 y118.Slot.G4]) O (Q0a p4 y118.Slot.G4 r120 hr120) Q92 ⟨O,O,O,O,G⟩) O (Dq (G0 r120) (G7 O O) O (Dnil ?_))))))))))))
    refine hK116 (Jr fun hK121=>(G57 (G0 r120) O (JLh (BL (decide (0≤r120))) (G31 O O O) O (G8 (hK121 (JCc O h (fun h hb=>?_) (fun h hb=>?_)))))))
    ·
     refine G2a (l':=[(1,.ptr 1068 0),(2,.dptr [E2 p2]),(3,.ptr 1069 0),(4,Eb p4),(12,G0 r120),(13,E1 ids),(14,Ei ids.length),(15,Ei i102)]) (L':=[(1071,MP 130 (fun n:Int=>Value.int .i64 n) (fun _:Unit=>.agg []) r115),(1068,.box 130 [.mp 1071]),(1069,.box 88 [.fn 81 (Ep p2 p4)])]) ⟨(.sm O O),⟨⟨_,rfl,.map⟩,⟨_,rfl,.boxL rfl ⟨.same rfl,G⟩⟩,⟨_,rfl,.boxL rfl ⟨.same rfl,G⟩⟩,G⟩,rfl⟩ ?_
     obtain⟨r122,hr122,h⟩:=Ge h
     obtain⟨r123,hr123,h⟩:=Ge h
     refine Ji [5] [0,0,0,0,0,0] [0,0,0,0,0,0] [[(1071,MP 130 (fun n:Int=>Value.int .i64 n) (fun _:Unit=>.agg []) r115),(1068,.box 130 [.mp 1071]),(1069,.box 88 [.fn 81 (Ep p2 p4)])],((1071,MP 130 (fun n:Int=>Value.int .i64 n) (fun _:Unit=>.agg []) r123)::[(1071,MP 130 (fun n:Int=>Value.int .i64 n) (fun _:Unit=>.agg []) r115),(1068,.box 130 [.mp 1071]),(1069,.box 88 [.fn 81 (Ep p2 p4)])])] Jg (by kernel_rfl) rfl rfl ?_
     refine Gd (u:=.fn 81 (Ep p2 p4)) O O ⟨Gv (Zi H89 O O O O) O,G⟩ (Gd (u:=.agg (H2.cs p4)) O O ⟨Gv (Gj Hh O O O) O,G⟩ (Gd (u:=E2 p2) O O ⟨Gv (Gf Rh O O O) O,G⟩ (Gd (u:=G0 r120) O O ⟨Gv (G5 O O) O,G⟩ (Gd (u:=E1 r122) O O ⟨Gv (Gk O (J07 p4 p2 r120 r122 hr122) Jce ⟨O,O,O,O,O,O,G⟩) O,G⟩ (D_w (u:=.tup []) O O O O (G9b.locEq (Gv (Q2b (args:=[E1 r122]) (caps:=(Ep p2 p4)) (L0:=[(1068,.box 130 [.mp 1071]),(1071,MP 130 (fun n:Int=>Value.int .i64 n) (fun _:Unit=>.agg []) r115),(1069,.box 88 [.fn 81 (Ep p2 p4)])]) (Lr:=[(1068,.box 130 [.mp 1071]),(1071,MP 130 (fun n:Int=>Value.int .i64 n) (fun _:Unit=>.agg []) r123),(1069,.box 88 [.fn 81 (Ep p2 p4)])]) O O (self_w r122 r115 p2 p4 r123 hr123) J18 ⟨.inl O,O,G⟩ O ⟨O,O,O,G⟩ O O O) O) (H44.of [1071,1068,1069] O O ⟨O,O,O,G⟩)) (Rm ?_))))))
     exact ej105 _ _ r123 h ⟨(.sm O O),⟨⟨_,rfl,.map⟩,⟨_,rfl,.boxL rfl ⟨.same rfl,G⟩⟩,⟨_,rfl,.boxL rfl ⟨.same rfl,G⟩⟩,G⟩,rfl⟩
    ·
     refine Gn (ej105 _ _ r115 h ⟨(.sm O O),⟨⟨_,rfl,.map⟩,⟨_,rfl,.boxL rfl ⟨.same rfl,G⟩⟩,⟨_,rfl,.boxL rfl ⟨.same rfl,G⟩⟩,G⟩,rfl⟩)
  ·intro j105 h
   replace h:=app1 hkj105 h
   refine G3 (JLh (G0 ((i102+1:Nat):Int)) (Hu (Hc hk102 hm14) O O O) O (G57 (G0 ((i102+1:Nat):Int)) O (G8 (e102 _ _ (i102+1) j105 (app1 hn102 h) (by omega) ⟨(.sm O O),⟨⟨_,rfl,.map⟩,⟨_,rfl,.boxL rfl ⟨.same rfl,G⟩⟩,⟨_,rfl,.boxL rfl ⟨.same rfl,G⟩⟩,G⟩,rfl⟩))))
 ·
  have h:=app1 hkx102 (Hn hi102 (H6 hb))
  refine Hk ?_
  obtain rfl:=Option.some.inj h
  exact⟨[],[(1068,.box 130 [.mp 1071]),(1071,MP 130 (fun n:Int=>Value.int .i64 n) (fun _:Unit=>.agg []) s102),(1069,.box 88 [.fn 81 (Ep p2 p4)])],⟨⟨_,O,.boxL O ⟨.same O,G⟩⟩,⟨_,O,.map⟩,⟨_,O,.boxL O ⟨.same O,G⟩⟩,G⟩,O,G,O,O⟩
theorem J77:∀ (F:Nat) (ids:List Int) (p1:Ho Int Unit) (p2:List Stowed) (p4:H2) (r:(Ho Int Unit)) (h:G1a F ids p1 p2 p4=some r),Y1 Ej 81 [E1 ids,.ptr 1068 0,.dptr [E2 p2],.ptr 1069 0,Eb p4] [(1068,.box 130 [.mp 1071]),(1071,MP 130 (fun n:Int=>Value.int .i64 n) (fun _:Unit=>.agg []) p1),(1069,.box 88 [.fn 81 [.ptr 1068 0,.dptr [E2 p2],.ptr 1069 0,Eb p4]])] (fun av L'=>av=.tup []∧L'=[(1068,.box 130 [.mp 1071]),(1071,MP 130 (fun n:Int=>Value.int .i64 n) (fun _:Unit=>.agg []) r),(1069,.box 88 [.fn 81 [.ptr 1068 0,.dptr [E2 p2],.ptr 1069 0,Eb p4]])]):=by
 intro F
 induction F with
 | zero=>intro ids p1 p2 p4 r h; cases h
 | succ F ih=>intro ids p1 p2 p4 r h; exact J80 (G1a F) ih F ids p1 p2 p4 r h

def Gce (F:Nat) (s:H2) (boxes:List Gg) (l:List Stowed) (ids:List Int) (Rp:((List Int)×Int)→Prop):Option Prop:=
 bnd (G19 s boxes l []) fun r4=>
 bif (!r4) then
 (some (Rp ([],2)))
 else
 (each (fun y27 i27 (s27:Unit) nx27=>
   bnd (G4b l y27) fun r33=>
   bif decide (r33 < 0) then
   (some (Rp ([],6)))
   else
   (nx27 ()))
  (fun(s27:Unit)=>
   bnd (G1a F ids (Ho.empty:Ho Int Unit) l s) fun r36=>
   Jff (fun(x48:Int×Unit) (s48:(List Int)) nx48=>
    need (decide ((s48.length+[x48.1].length)*8≤140737488355328∧s48.length+[x48.1].length≤maxLen)) <|
    nx48 (s48++[x48.1]))
   (fun(s48:(List Int))=>
    bnd (G84 s48) fun r55=>
    some (Rp (r55,0))) (Ho.l r36) []) ids 0 ())
abbrev Er (l:List Stowed) (s:H2):List AV:=[.ptr 1068 0,.dptr [E2 l],.ptr 1069 0,Eb s]
theorem Q0b (F:Nat) (s:H2) (boxes:List Gg) (l:List Stowed) (ids:List Int) (Rp:((List Int)×Int)→Prop) (p:Prop) (h:Gce F s boxes l ids Rp=some p) (hp:p):Pure Ej 38 [.agg (H2.cs s),E3 boxes,E2 l,E1 ids] (fun av=>∃ r,Rp r∧av=.tup [E1 r.1,G0 r.2]):=by
 unfold Gce at h
 refine Gx [.tmp 8,.tmp 9] Tryz.func38 O O (Jr fun hK1=>(JLh (.ptr 1066 0) (Ja (cs:=(H2.cs s)) 1066 O O O O O) O (JLh (.ptr 1067 0) (Ja (cs:=[E2 l]) 1067 O O O O O) O (JLh (E1 ([]:List Int)) (Hb 1 O O) O (G57 (G0 0) O (G8 (hK1 ?_)))))))
 refine Gu [(1,E3 boxes),(3,E1 ids),(4,Eb s),(6,.ptr 1067 0)] [(1067,.box 34 [E2 l])] 1066 rfl rfl rfl ⟨⟨_,rfl,.boxEq rfl rfl⟩,G⟩ rfl (by repeat' (first | exact .ptr | constructor)) ?_
 refine Gu [(1,E3 boxes),(3,E1 ids),(4,Eb s),(6,.dptr [E2 l])] [] 1067 rfl rfl rfl G rfl (by repeat' (first | exact .ptr | constructor)) (Js fun hK2=>Jr fun hK3=>(JLh (.agg (H2.cs s)) (Gj Hh O O O) O (G57 (E3 boxes) O (JLh (E2 l) (Gf Rh O O O) O ?_))))
 obtain⟨r4,hr4,h⟩:=Ge h
 refine JLh (BL r4) (Q80 (args:=[.agg (H2.cs s),E3 boxes,E2 l,E1 ([]:List Int)]) O (Ge2 s boxes l [] r4 hr4) J19 ⟨.inl O,O,.inl O,O,.inl O,O,.inr ⟨_,O,O⟩,O,G⟩) O (JLh (BL (!r4)) (Qh (b:=r4) O O) O (G8 (hK3 (JCc O h (fun h hb=>?_) (fun h hb=>?_)))))
 ·
  refine Jr fun hK5=>(JLh (E1 ([]:List Int)) (Hb 1 O O) O (G57 (G0 2) O (G8 (hK5 (Gr (⟨[E1 ([]:List Int),G0 2],[],G,O,⟨⟨_,O,.conv (.same O)⟩,⟨_,O,.conv (.same O)⟩,G⟩,O,([],2),Eq.mpr (Option.some.inj h) hp,O⟩))))))
 ·
  refine Gn (hK2 (Jr fun hK6=>(JLh (.mp 1071) (J30 1071 (fun n:Int=>Value.int .i64 n) (fun _:Unit=>.agg []) O O) O (JLh (.ptr 1068 0) (Ju 1068 1 Q3e O O) O (Jf (u:=.junk) (J2 (u:=.mp 1071) (ds:=[.mp 1071]) Q4e O O O O O O O O) (G8 (hK6 (Jr fun hK7=>(JLh (.ptr 1069 0) (Ju 1069 1 Q47 O O) O (G8 (hK7 ?_)))))))))))
  refine Jr fun hK8=>(JLh (.fn 81 (Er l s)) (G23 (cs:=(Er l s)) O O) O (Jf (u:=.junk) (J2 (u:=.fn 81 (Er l s)) (ds:=[.fn 81 (Er l s)]) Q82 O O O O O O O O) (G8 (hK8 ?_))))
  refine Js fun hK9=>Jr fun hK10=>(G57 (E1 ids) O (JLl Gq O O O fun hm24=>(G57 (G0 0) O (G8 (hK10 (Gp ?_))))))
  obtain⟨b27,kx27,hb27,hkx27,h⟩:=Hx h
  refine He (fun i27 (s27:Unit)=>each b27 kx27 (List.drop i27 ids) i27 s27=some p) (fun i27 s27=>[(3,E1 ids),(6,.dptr [E2 l]),(10,.ptr 1068 0),(11,.ptr 1069 0),(23,E1 ids),(24,Ei ids.length),(25,Ei i27)]) (fun i27 s27=>[(1071,MP 130 (fun n:Int=>Value.int .i64 n) (fun _:Unit=>.agg []) (Ho.empty:Ho Int Unit)),(1068,.box 130 [.mp 1071]),(1069,.box 88 [.fn 81 (Er l s)])]) (fun i27=>ids.length - i27) 0 () h ⟨(.sm O O),⟨⟨_,rfl,.map⟩,⟨_,rfl,.boxL rfl ⟨.same rfl,G⟩⟩,⟨_,rfl,.boxL rfl ⟨.same rfl,G⟩⟩,G⟩,rfl⟩ ?_
  clear h
  intro i27 s27 hi27 K27 e27
  refine Jr fun hK28=>(JLh (BL (decide ((i27:Int) < (ids.length:Int)))) (J1 O O O) O (G8 (hK28 (Js fun hK29=>Gm O (fun hb=>?_) (fun hb=>?_)))))
  ·
   have hk27:=Jc hb
   obtain⟨y27,nx27,hy27,hn27,h⟩:=Hm hi27 hk27
   replace h:=Rn hb27 h
   refine Gn (hK29 (Js fun hK30=>Gp (Jr fun hK31=>(JLh (.dptr [G0 y27]) (Gw (f:=G0) (xs:=ids) (y:=y27) O O O Gq hy27 O) O (JLh (G0 y27) (Gf Gc O O O) O (G57 (G0 y27) O (G8 (hK31 (Jr fun hK32=>(JLh (E2 l) (Gf Rh O O O) O (G57 (G0 y27) O ?_)))))))))))
   obtain⟨r33,hr33,h⟩:=Ge h
   refine JLh (G0 r33) (Gk O (Gef l y27 r33 hr33) H8c ⟨O,O,O,O,G⟩) O (JLh (BL (decide (r33 < 0))) (J1 O O O) O (G8 (hK32 (JCc O h (fun h hb=>?_) (fun h hb=>?_)))))
   ·
    refine Jr fun hK34=>(JLh (E1 ([]:List Int)) (Hb 1 O O) O (G57 (G0 6) O (G8 (hK34 (Gr (⟨[E1 ([]:List Int),G0 6],[],G,O,⟨⟨_,O,.conv (.same O)⟩,⟨_,O,.conv (.same O)⟩,G⟩,O,([],6),Eq.mpr (Option.some.inj h) hp,O⟩))))))
   ·
    refine Gn (hK30 (G3 (JLh (G0 ((i27+1:Nat):Int)) (Hu (Hc hk27 hm24) O O O) O (G57 (G0 ((i27+1:Nat):Int)) O (G8 (e27 _ _ (i27+1) () (app1 hn27 h) (by omega) ⟨(.sm O O),⟨⟨_,rfl,.map⟩,⟨_,rfl,.boxL rfl ⟨.same rfl,G⟩⟩,⟨_,rfl,.boxL rfl ⟨.same rfl,G⟩⟩,G⟩,rfl⟩))))))
  ·
   have h:=app1 hkx27 (Hn hi27 (H6 hb))
   refine Hk (hK9 (Jr fun hK35=>(JLh (.fn 81 (Er l s)) (Zi H89 O O O O) O (G57 (E1 ids) O ?_))))
   obtain⟨r36,hr36,h⟩:=Ge h
   refine JLh (.tup []) (Q2b (args:=[E1 ids]) (caps:=(Er l s)) (L0:=[(1068,.box 130 [.mp 1071]),(1071,MP 130 (fun n:Int=>Value.int .i64 n) (fun _:Unit=>.agg []) (Ho.empty:Ho Int Unit)),(1069,.box 88 [.fn 81 (Er l s)])]) (Lr:=[(1068,.box 130 [.mp 1071]),(1071,MP 130 (fun n:Int=>Value.int .i64 n) (fun _:Unit=>.agg []) r36),(1069,.box 88 [.fn 81 (Er l s)])]) O O (J77 F ids (Ho.empty:Ho Int Unit) l s r36 hr36) J18 ⟨.inl O,O,G⟩ O ⟨O,O,O,G⟩ O O O) O (G8 (hK35 ?_))
   refine Jr fun hK37=>(JLh (.vec 1070 (([]:List Int).length) 1 (([]:List Int).length)) (Q42 1070 3 1 O O O) O (G8 (hK37 (Js fun hK38=>Jr fun hK39=>(JLh (.mp 1071) (Zi H66 O O O O) O (JLh (.it 1072) (Q24 1072 (m:=r36) O O O O J10) O (G8 (hK39 (Gp ?_)))))))))
   obtain⟨b48,kx48,hb48,hkx48,h⟩:=Jfe h
   refine Q1d (Ho.size r36) (fun i48 (s48:(List Int))=>MInv b48 kx48 (Ho.l r36) i48 s48) (fun i48 s48=>[(14,.vec 1070 s48.length 1 s48.length),(38,.it 1072)]) (fun i48 s48=>[(1071,MP 130 (fun n:Int=>Value.int .i64 n) (fun _:Unit=>.agg []) r36),(1070,.vec 3 1 s48.length (s48.map G0)),(1072,.iter 1071 (Ho.size r36) i48),(1068,.box 130 [.mp 1071]),(1069,.box 88 [.fn 81 (Er l s)])]) [] (MInv.start h hp) ⟨(.sm O O),⟨⟨_,O,.map⟩,⟨_,O,.vec⟩,⟨_,O,.iter O⟩,⟨_,O,.boxL O ⟨.same O,G⟩⟩,⟨_,O,.boxL O ⟨.same O,G⟩⟩,G⟩,O⟩ ?_
   clear h hp
   intro i48 s48 hi48 K48 e48
   refine Jr fun hK49=>H61 O O O (Q43 (m:=r36) O O O O) ?_
   intro u_ L_ hn_
   rcases hn_ with ⟨q48,x48,he48,hs48,rfl,rfl⟩ | ⟨ha48,rfl,rfl⟩
   ·
    obtain⟨o48,h,ho1_48,ho2_48⟩:=hi48.step he48 hs48
    replace h:=Hfc hb48 h
    refine JLh (BL true) (H9 O O O) O (G8 (hK49 (Js fun hK50=>Q1e O (Gn (hK50 (Gp (Jr fun hK51=>(JLh (.tup [G0 x48.1,.agg []]) (Q29 (kv:=(fun n:Int=>Value.int .i64 n)) (av:=(fun _:Unit=>.agg [])) (m:=r36) (q:=q48) (seen:=i48) (e:=x48) O O O O he48) O (JLh (G0 x48.1) (H9 O O O) O (G57 (G0 x48.1) O (G8 (hK51 (G3 (G57 (.vec 1070 s48.length 1 s48.length) O (G57 (G0 x48.1) O (JLh (E1 [x48.1]) (Hd (xs:=[G0 x48.1]) O ⟨O,O,G⟩ Gq Q1 O O O O) O ?_))))))))))))))))
    obtain⟨ha52,h⟩:=Hv h
    refine JLh (.vec 1070 ((s48++[x48.1]).length) 1 ((s48++[x48.1]).length)) (Ge6 (f:=G0) (xs:=s48) (ys:=[x48.1]) (ver:=s48.length) (ver1:=(s48++[x48.1]).length) rfl rfl rfl rfl Gq Y2 ha52 (fun _=>rfl) (.inl rfl) (by simp)) O (G57 (.vec 1070 ((s48++[x48.1]).length) 1 ((s48++[x48.1]).length)) O (G8 (e48 _ _ (i48++[q48]) (s48++[x48.1]) (ho2_48 _ (Option.some.inj h).symm) (J5f (List.getElem?_eq_some_iff.1 he48).1 hs48) ⟨(.sm O O),⟨⟨_,O,.map⟩,⟨_,O,.vec⟩,⟨_,O,.iter O⟩,⟨_,O,.boxL O ⟨.same O,G⟩⟩,⟨_,O,.boxL O ⟨.same O,G⟩⟩,G⟩,O⟩)))
   ·
    obtain⟨p_,h,hp⟩:=hi48.done ha48
    replace h:=app1 hkx48 h
    refine JLh (BL false) (H9 O O O) O (G8 (hK49 (Js fun hK53=>Q1f O (Hk (hK38 (Jr fun hK54=>(G57 (.vec 1070 s48.length 1 s48.length) O ?_)))))))
    obtain⟨r55,hr55,h⟩:=Ge h
    refine JLh (.tup []) (A_sortI (F:=40) (xs:=s48) (r:=r55) O J99 J3a Jdb O O O hr55 O) O (G8 (hK54 (Jr fun hK56=>(G57 (.vec 1070 s48.length 1 s48.length) O (G57 (.vec 1070 s48.length 1 s48.length) O (G57 (G0 0) O (G8 (hK56 (Q1c [(8,E1 r55),(9,G0 0)] [] 1070 rfl rfl G rfl (by exact⟨.vec,.conv (.same rfl),G⟩) (Gr (⟨[E1 r55,G0 0],[],G,O,⟨⟨_,O,.conv (.same O)⟩,⟨_,O,.conv (.same O)⟩,G⟩,O,(r55,0),Eq.mpr (Option.some.inj h) hp,O⟩)))))))))))
theorem Q0c (S_:Nat→(H2)→(List Gg)→(List Stowed)→(List Int)→Option ((List Int)×Int)) (hS_:∀ F s boxes l ids r,S_ F s boxes l ids=some r→∃ p:Prop,Gce F s boxes l ids (fun r_=>r_=r)=some p∧p) (F:Nat) (s:H2) (boxes:List Gg) (l:List Stowed) (ids:List Int) (r:(List Int)×Int) (h:S_ F s boxes l ids=some r):Pure Ej 38 [.agg (H2.cs s),E3 boxes,E2 l,E1 ids] (·=.tup [E1 r.1,G0 r.2]):=by
 obtain⟨p,h1,h2⟩:=hS_ F s boxes l ids r h
 exact(Q0b F s boxes l ids _ p h1 h2).monoP (fun av hh=>by obtain⟨r_,rfl,ha⟩:=hh; exact ha)
end
end Go.Proofs.YthcpolfodgjekaaGreat
