/-
 Models of functions of the program,and that they return what the models say.
-/
import Derived.Test.YtjkmmenifdklmaaGreatXGa
set_option maxRecDepth 100000
set_option linter.unusedVariables false
set_option linter.unusedSimpArgs false
namespace Go.Proofs.YtjkmmenifdklmaaGreat
open Go.RowKit
noncomputable section
open XAF
open XLF
open XCF
open XGF

def G65 (self_:(List Int)→(Hw Int Unit)→(List Stowed)→H4→Option (Hw Int Unit)) (F:Nat) (ids:List Int) (p1:Hw Int Unit) (p2:List Stowed) (p4:H4):Option (Hw Int Unit):=
 each (fun y102 i102 (s102:(Hw Int Unit)) nx102=>
  jp (fun kj105=>
   bif (Hw.has s102 y102) then
   (kj105 s102)
   else
   (bnd (G42 p2 y102) fun r113=>
    bnd (self_ r113.1 (Hw.put s102 y102 ()) p2 p4) fun r115=>
    bnd (G16 p2 y102) fun r117=>
    Qm p2 r117 fun y118=>
    bnd (G6f p4 y118.Slot.G4) fun r120=>
    bif decide (0≤r120) then
    (bnd (G98 p4 p2 r120) fun r122=>
     bnd (self_ r122 r115 p2 p4) fun r123=>
     kj105 r123)
    else
    (kj105 r115))) fun(j105:(Hw Int Unit))=>
  nx102 j105)
 (fun(s102:(Hw Int Unit))=>
  some s102) ids 0 p1
def G01:Nat→(List Int)→(Hw Int Unit)→(List Stowed)→H4→Option (Hw Int Unit)
 | 0,_,_,_,_=>none
 | F+1,ids,p1,p2,p4=>G65 (G01 F) F ids p1 p2 p4
theorem J3a (self_:(List Int)→(Hw Int Unit)→(List Stowed)→H4→Option (Hw Int Unit)) (self_w:∀ (ids:List Int) (p1:Hw Int Unit) (p2:List Stowed) (p4:H4) (r:(Hw Int Unit)),self_ ids p1 p2 p4=some r→Re Eh 69 [E0 ids,.ptr 1031 0,.dptr [E1 p2],.ptr 1032 0,Ea p4] [(1031,.box 103 [.mp 1034]),(1034,MP 103 (fun n:Int=>Value.int .i64 n) (fun _:Unit=>.agg []) p1),(1032,.box 75 [.fn 69 [.ptr 1031 0,.dptr [E1 p2],.ptr 1032 0,Ea p4]])] (fun av L'=>av=.tup []∧L'=[(1031,.box 103 [.mp 1034]),(1034,MP 103 (fun n:Int=>Value.int .i64 n) (fun _:Unit=>.agg []) r),(1032,.box 75 [.fn 69 [.ptr 1031 0,.dptr [E1 p2],.ptr 1032 0,Ea p4]])])) (F:Nat) (ids:List Int) (p1:Hw Int Unit) (p2:List Stowed) (p4:H4) (r:(Hw Int Unit)) (h:G65 self_ F ids p1 p2 p4=some r):Re Eh 69 [E0 ids,.ptr 1031 0,.dptr [E1 p2],.ptr 1032 0,Ea p4] [(1031,.box 103 [.mp 1034]),(1034,MP 103 (fun n:Int=>Value.int .i64 n) (fun _:Unit=>.agg []) p1),(1032,.box 75 [.fn 69 [.ptr 1031 0,.dptr [E1 p2],.ptr 1032 0,Ea p4]])] (fun av L'=>av=.tup []∧L'=[(1031,.box 103 [.mp 1034]),(1034,MP 103 (fun n:Int=>Value.int .i64 n) (fun _:Unit=>.agg []) r),(1032,.box 75 [.fn 69 [.ptr 1031 0,.dptr [E1 p2],.ptr 1032 0,Ea p4]])]):=by
 unfold G65 at h
 refine G68 [1031,1034,1032] [] Tryz.func69 O O (J57 O) (Jr fun hK1=>(Yy (E0 ids) O (JLl Gu O O O fun hm14=>(Yy (G0 0) O (G7 (hK1 (Gs ?_)))))))
 obtain⟨b102,kx102,hb102,hkx102,h⟩:=J5 h
 refine Hc (fun i102 (s102:(Hw Int Unit))=>each b102 kx102 (List.drop i102 ids) i102 s102=some r) (fun i102 s102=>[(1,.ptr 1031 0),(2,.dptr [E1 p2]),(3,.ptr 1032 0),(4,Ea p4),(13,E0 ids),(14,Eg ids.length),(15,Eg i102)]) (fun i102 s102=>[(1034,MP 103 (fun n:Int=>Value.int .i64 n) (fun _:Unit=>.agg []) s102),(1031,.box 103 [.mp 1034]),(1032,.box 75 [.fn 69 [.ptr 1031 0,.dptr [E1 p2],.ptr 1032 0,Ea p4]])]) (fun i102=>ids.length - i102) 0 p1 h ⟨(by repeat' constructor),⟨⟨_,rfl,.map⟩,⟨_,rfl,.boxL rfl ⟨.same rfl,G⟩⟩,⟨_,rfl,.boxL rfl ⟨.same rfl,G⟩⟩,G⟩,rfl⟩ ?_
 clear h
 intro i102 s102 hi102 K102 e102
 refine Jr fun hK103=>(JLh (BL (decide ((i102:Int) < (ids.length:Int)))) (J4 O O O) O (G7 (hK103 (Js fun hK104=>Gk O (fun hb=>?_) (fun hb=>?_)))))
 ·
  have hk102:=Jj hb
  obtain⟨y102,nx102,hy102,hn102,h⟩:=Hq hi102 hk102
  replace h:=Z1 hb102 h
  refine Gp (hK104 ?_)
  obtain⟨kj105,hkj105,h⟩:=Gbf h
  refine G73 (fun j105:(Hw Int Unit)=>kj105 j105=some r) (fun j105=>[(1,.ptr 1031 0),(2,.dptr [E1 p2]),(3,.ptr 1032 0),(4,Ea p4),(13,E0 ids),(14,Eg ids.length),(15,Eg i102)]) (fun j105=>[(1034,MP 103 (fun n:Int=>Value.int .i64 n) (fun _:Unit=>.agg []) j105),(1031,.box 103 [.mp 1034]),(1032,.box 75 [.fn 69 [.ptr 1031 0,.dptr [E1 p2],.ptr 1032 0,Ea p4]])]) (fun Kj105 ej105=>?_) ?_
  ·
   refine Gs (Jr fun hK106=>(JLh (.dptr [G0 y102]) (Gv (f:=G0) (xs:=ids) (y:=y102) O O O Gu hy102 O) O (JLh (G0 y102) (Gg Gd O O O) O (Yy (G0 y102) O (G7 (hK106 (Js fun hK107=>Jr fun hK108=>(JLh (.mp 1034) (G57 H3a O O O O) O (Yy (G0 y102) O (JLh (.tup [.agg [],BL (Hw.has s102 y102)]) (Q65 (av:=(fun _:Unit=>.agg [])) (m:=s102) (a:=y102) () (.agg #[]) O O O O tk_3 Hd8 tf_zv_104 O) O (Yy (.tup [.agg [],BL (Hw.has s102 y102)]) O (JLh (.agg []) (Hv O O O) O (JLh (BL (Hw.has s102 y102)) (Hv O O O) O (JLh (.ptr 1090 0) (Qf 1090 0 Je8 O O) O (Jk (u:=.junk) (A_store0 (u:=.agg []) Jf9 O O O O O O) (Yy (BL (Hw.has s102 y102)) O (G7 (hK108 ?_))))))))))))))))))
   refine Gz [(1,.ptr 1031 0),(2,.dptr [E1 p2]),(3,.ptr 1032 0),(4,Ea p4),(7,G0 y102),(9,BL (Hw.has s102 y102)),(13,E0 ids),(14,Eg ids.length),(15,Eg i102)] [(1034,MP 103 (fun n:Int=>Value.int .i64 n) (fun _:Unit=>.agg []) s102),(1031,.box 103 [.mp 1034]),(1032,.box 75 [.fn 69 [.ptr 1031 0,.dptr [E1 p2],.ptr 1032 0,Ea p4]])] 1090 rfl rfl rfl ⟨⟨_,rfl,.map⟩,⟨_,rfl,.boxEq rfl rfl⟩,⟨_,rfl,.boxEq rfl rfl⟩,G⟩ rfl (by repeat' (first | exact .ptr | constructor)) (Jr fun hK110=>(Yy (BL (Hw.has s102 y102)) O (G7 (hK110 (JCc O h (fun h hb=>?_) (fun h hb=>?_))))))
   ·
    refine Hi (ej105 _ _ s102 h ⟨(by repeat' constructor),⟨⟨_,rfl,.map⟩,⟨_,rfl,.boxL rfl ⟨.same rfl,G⟩⟩,⟨_,rfl,.boxL rfl ⟨.same rfl,G⟩⟩,G⟩,rfl⟩)
   ·
    refine Gp (hK107 (Jr fun hK111=>(JLh (.mp 1034) (G57 H3a O O O O) O (Yy (G0 y102) O (JLh (.agg []) (Jq (cs:=[]) [] [] [] Jd9 Jf4 G O O) O (Jk (u:=.junk) (Jee (m:=s102) (a:=y102) (v:=()) O O O O O O tk_3 Hd8) (G7 (hK111 (Jr fun hK112=>(JLh (E1 p2) (Gg Z5 O O O) O (Yy (G0 y102) O ?_)))))))))))
    obtain⟨r113,hr113,h⟩:=Ge h
    refine JLh (.tup [E0 r113.1,G0 r113.2]) (Gn O (H17 p2 y102 r113 hr113) He2 ⟨O,O,O,O,G⟩) O (Yy (.tup [E0 r113.1,G0 r113.2]) O (JLh (E0 r113.1) (Hv O O O) O (JLh (G0 r113.2) (Hv O O O) O (Yy (E0 r113.1) O (Yy (G0 r113.2) O (G7 (hK112 (Jr fun hK114=>(JLh (.fn 69 [.ptr 1031 0,.dptr [E1 p2],.ptr 1032 0,Ea p4]) (G57 H61 O O O O) O (Yy (E0 r113.1) O ?_))))))))))
    obtain⟨r115,hr115,h⟩:=Ge h
    refine JLh (.tup []) (Jd4 (args:=[E0 r113.1]) (caps:=[.ptr 1031 0,.dptr [E1 p2],.ptr 1032 0,Ea p4]) (L0:=[(1031,.box 103 [.mp 1034]),(1034,MP 103 (fun n:Int=>Value.int .i64 n) (fun _:Unit=>.agg []) (Hw.put s102 y102 ())),(1032,.box 75 [.fn 69 [.ptr 1031 0,.dptr [E1 p2],.ptr 1032 0,Ea p4]])]) (Lr:=[(1031,.box 103 [.mp 1034]),(1034,MP 103 (fun n:Int=>Value.int .i64 n) (fun _:Unit=>.agg []) r115),(1032,.box 75 [.fn 69 [.ptr 1031 0,.dptr [E1 p2],.ptr 1032 0,Ea p4]])]) O O (self_w r113.1 (Hw.put s102 y102 ()) p2 p4 r115 hr115) Hdf ⟨.inl O,O,G⟩ O ⟨O,O,O,G⟩ O O O) O (G7 (hK114 (Js fun hK116=>?_)))
    refine G44 (l':=[(1,.ptr 1031 0),(2,.dptr [E1 p2]),(3,.ptr 1032 0),(4,Ea p4),(7,G0 y102),(13,E0 ids),(14,Eg ids.length),(15,Eg i102)]) (L':=[(1034,MP 103 (fun n:Int=>Value.int .i64 n) (fun _:Unit=>.agg []) r115),(1031,.box 103 [.mp 1034]),(1032,.box 75 [.fn 69 [.ptr 1031 0,.dptr [E1 p2],.ptr 1032 0,Ea p4]])]) ⟨(by repeat' constructor),⟨⟨_,rfl,.map⟩,⟨_,rfl,.boxL rfl ⟨.same rfl,G⟩⟩,⟨_,rfl,.boxL rfl ⟨.same rfl,G⟩⟩,G⟩,rfl⟩ ?_
    obtain⟨r117,hr117,h⟩:=Ge h
    obtain⟨m119,y118,hm119,hy118,h⟩:=Qx h
    obtain⟨r120,hr120,h⟩:=Ge h
    refine JC_d0 J8 (by kernel_rfl) (Dq (.agg (H4.cs p4)) (Gi Hu O O O) O (Dq (E1 p2) (Gg Z5 O O O) O (Dq (E1 p2) (Gg Z5 O O O) O (Dq (G0 y102) (G5 O O) O (Dq (G0 r117) (Gn (args:=[E1 p2,G0 y102]) O (G86 p2 y102 r117 hr117) Gfe ⟨O,O,O,O,G⟩) O (Dq (Eb y118) (Gv (f:=Stowed.av) (xs:=p2) (y:=y118) O O O H0 hy118 hm119) O (Dq (.dptr ((Stowed.cs y118).drop 1)) (Ga Ht O O O) O (Dq (.dptr ((Stowed.cs y118).drop 1)) (Ga J6 O O O) O (Dq (G0 y118.Slot.G4) (Gg Gd O O O) O (Dq (G0 r120) (Gn (args:=[.agg (H4.cs p4),G0 y118.Slot.G4]) O (Had p4 y118.Slot.G4 r120 hr120) J8f ⟨O,O,O,O,G⟩) O (Dq (G0 r120) (G8 O O) O (Dnil ?_))))))))))))
    refine hK116 (Jr fun hK121=>(Yy (G0 r120) O (JLh (BL (decide (0≤r120))) (G17 O O O) O (G7 (hK121 (JCc O h (fun h hb=>?_) (fun h hb=>?_)))))))
    ·
     refine G44 (l':=[(1,.ptr 1031 0),(2,.dptr [E1 p2]),(3,.ptr 1032 0),(4,Ea p4),(12,G0 r120),(13,E0 ids),(14,Eg ids.length),(15,Eg i102)]) (L':=[(1034,MP 103 (fun n:Int=>Value.int .i64 n) (fun _:Unit=>.agg []) r115),(1031,.box 103 [.mp 1034]),(1032,.box 75 [.fn 69 [.ptr 1031 0,.dptr [E1 p2],.ptr 1032 0,Ea p4]])]) ⟨(by repeat' constructor),⟨⟨_,rfl,.map⟩,⟨_,rfl,.boxL rfl ⟨.same rfl,G⟩⟩,⟨_,rfl,.boxL rfl ⟨.same rfl,G⟩⟩,G⟩,rfl⟩ ?_
     obtain⟨r122,hr122,h⟩:=Ge h
     obtain⟨r123,hr123,h⟩:=Ge h
     refine Ja [5] [0,0,0,0,0,0] [0,0,0,0,0,0] [[(1034,MP 103 (fun n:Int=>Value.int .i64 n) (fun _:Unit=>.agg []) r115),(1031,.box 103 [.mp 1034]),(1032,.box 75 [.fn 69 [.ptr 1031 0,.dptr [E1 p2],.ptr 1032 0,Ea p4]])],((1034,MP 103 (fun n:Int=>Value.int .i64 n) (fun _:Unit=>.agg []) r123)::[(1034,MP 103 (fun n:Int=>Value.int .i64 n) (fun _:Unit=>.agg []) r115),(1031,.box 103 [.mp 1034]),(1032,.box 75 [.fn 69 [.ptr 1031 0,.dptr [E1 p2],.ptr 1032 0,Ea p4]])])] J8 (by kernel_rfl) rfl rfl ?_
     refine Gb (u:=.fn 69 [.ptr 1031 0,.dptr [E1 p2],.ptr 1032 0,Ea p4]) O O ⟨Gq (G57 H61 O O O O) O,G⟩ (Gb (u:=.agg (H4.cs p4)) O O ⟨Gq (Gi Hu O O O) O,G⟩ (Gb (u:=E1 p2) O O ⟨Gq (Gg Z5 O O O) O,G⟩ (Gb (u:=G0 r120) O O ⟨Gq (G5 O O) O,G⟩ (Gb (u:=E0 r122) O O ⟨Gq (Gn O (Hcf p4 p2 r120 r122 hr122) J8e ⟨O,O,O,O,O,O,G⟩) O,G⟩ (D_w (u:=.tup []) O O O O (G74.locEq (Gq (Jd4 (args:=[E0 r122]) (caps:=[.ptr 1031 0,.dptr [E1 p2],.ptr 1032 0,Ea p4]) (L0:=[(1031,.box 103 [.mp 1034]),(1034,MP 103 (fun n:Int=>Value.int .i64 n) (fun _:Unit=>.agg []) r115),(1032,.box 75 [.fn 69 [.ptr 1031 0,.dptr [E1 p2],.ptr 1032 0,Ea p4]])]) (Lr:=[(1031,.box 103 [.mp 1034]),(1034,MP 103 (fun n:Int=>Value.int .i64 n) (fun _:Unit=>.agg []) r123),(1032,.box 75 [.fn 69 [.ptr 1031 0,.dptr [E1 p2],.ptr 1032 0,Ea p4]])]) O O (self_w r122 r115 p2 p4 r123 hr123) Hdf ⟨.inl O,O,G⟩ O ⟨O,O,O,G⟩ O O O) O) (H19.of [1034,1031,1032] O O ⟨O,O,O,G⟩)) (Qz ?_))))))
     exact ej105 _ _ r123 h ⟨(by repeat' constructor),⟨⟨_,rfl,.map⟩,⟨_,rfl,.boxL rfl ⟨.same rfl,G⟩⟩,⟨_,rfl,.boxL rfl ⟨.same rfl,G⟩⟩,G⟩,rfl⟩
    ·
     refine Gp (ej105 _ _ r115 h ⟨(by repeat' constructor),⟨⟨_,rfl,.map⟩,⟨_,rfl,.boxL rfl ⟨.same rfl,G⟩⟩,⟨_,rfl,.boxL rfl ⟨.same rfl,G⟩⟩,G⟩,rfl⟩)
  ·intro j105 h
   replace h:=app1 hkj105 h
   refine G3 (JLh (G0 ((i102+1:Nat):Int)) (Hs (He hk102 hm14) O O O) O (Yy (G0 ((i102+1:Nat):Int)) O (G7 (e102 _ _ (i102+1) j105 (app1 hn102 h) (by omega) ⟨(by repeat' constructor),⟨⟨_,rfl,.map⟩,⟨_,rfl,.boxL rfl ⟨.same rfl,G⟩⟩,⟨_,rfl,.boxL rfl ⟨.same rfl,G⟩⟩,G⟩,rfl⟩))))
 ·
  have h:=app1 hkx102 (Hr hi102 (Ha hb))
  refine Hi ?_
  obtain rfl:=Option.some.inj h
  exact⟨[],[(1031,.box 103 [.mp 1034]),(1034,MP 103 (fun n:Int=>Value.int .i64 n) (fun _:Unit=>.agg []) s102),(1032,.box 75 [.fn 69 [.ptr 1031 0,.dptr [E1 p2],.ptr 1032 0,Ea p4]])],⟨⟨_,O,.boxL O ⟨.same O,G⟩⟩,⟨_,O,.map⟩,⟨_,O,.boxL O ⟨.same O,G⟩⟩,G⟩,O,G,O,O⟩
theorem J36:∀ (F:Nat) (ids:List Int) (p1:Hw Int Unit) (p2:List Stowed) (p4:H4) (r:(Hw Int Unit)) (h:G01 F ids p1 p2 p4=some r),Re Eh 69 [E0 ids,.ptr 1031 0,.dptr [E1 p2],.ptr 1032 0,Ea p4] [(1031,.box 103 [.mp 1034]),(1034,MP 103 (fun n:Int=>Value.int .i64 n) (fun _:Unit=>.agg []) p1),(1032,.box 75 [.fn 69 [.ptr 1031 0,.dptr [E1 p2],.ptr 1032 0,Ea p4]])] (fun av L'=>av=.tup []∧L'=[(1031,.box 103 [.mp 1034]),(1034,MP 103 (fun n:Int=>Value.int .i64 n) (fun _:Unit=>.agg []) r),(1032,.box 75 [.fn 69 [.ptr 1031 0,.dptr [E1 p2],.ptr 1032 0,Ea p4]])]):=by
 intro F
 induction F with
 | zero=>intro ids p1 p2 p4 r h; cases h
 | succ F ih=>intro ids p1 p2 p4 r h; exact J3a (G01 F) ih F ids p1 p2 p4 r h

def Gac (F:Nat) (s:H4) (boxes:List Gh) (l:List Stowed) (ids:List Int) (Rp:((List Int)×Int)→Prop):Option Prop:=
 bnd (Ze s boxes l []) fun r4=>
 bif (!r4) then
 (some (Rp ([],2)))
 else
 (each (fun y27 i27 (s27:Unit) nx27=>
   bnd (G16 l y27) fun r33=>
   bif decide (r33 < 0) then
   (some (Rp ([],6)))
   else
   (nx27 ()))
  (fun(s27:Unit)=>
   bnd (G01 F ids (Hw.empty:Hw Int Unit) l s) fun r36=>
   eachM (fun(x48:Int×Unit) (s48:(List Int)) nx48=>
    need (decide ((s48.length+[x48.1].length)*8≤140737488355328∧s48.length+[x48.1].length≤maxLen)) <|
    nx48 (s48++[x48.1]))
   (fun(s48:(List Int))=>
    bnd (H3b s48) fun r55=>
    some (Rp (r55,0))) (Hw.l r36) []) ids 0 ())
theorem Jbf (F:Nat) (s:H4) (boxes:List Gh) (l:List Stowed) (ids:List Int) (Rp:((List Int)×Int)→Prop) (p:Prop) (h:Gac F s boxes l ids Rp=some p) (hp:p):Pure Eh 19 [.agg (H4.cs s),E2 boxes,E1 l,E0 ids] (fun av=>∃ r,Rp r∧av=.tup [E0 r.1,G0 r.2]):=by
 unfold Gac at h
 refine Gy [.tmp 8,.tmp 9] Tryz.func19 O O (Jr fun hK1=>(JLh (.ptr 1029 0) (Ji (cs:=(H4.cs s)) 1029 O O O O O) O (JLh (.ptr 1030 0) (Ji (cs:=[E1 l]) 1030 O O O O O) O (JLh (E0 ([]:List Int)) (Hy 1 O O) O (Yy (G0 0) O (G7 (hK1 ?_)))))))
 refine Gz [(1,E2 boxes),(3,E0 ids),(4,Ea s),(6,.ptr 1030 0)] [(1030,.box 34 [E1 l])] 1029 rfl rfl rfl ⟨⟨_,rfl,.boxEq rfl rfl⟩,G⟩ rfl (by repeat' (first | exact .ptr | constructor)) ?_
 refine Gz [(1,E2 boxes),(3,E0 ids),(4,Ea s),(6,.dptr [E1 l])] [] 1030 rfl rfl rfl G rfl (by repeat' (first | exact .ptr | constructor)) (Js fun hK2=>Jr fun hK3=>(JLh (.agg (H4.cs s)) (Gi Hu O O O) O (Yy (E2 boxes) O (JLh (E1 l) (Gg Z5 O O O) O ?_))))
 obtain⟨r4,hr4,h⟩:=Ge h
 refine JLh (BL r4) (H1b (args:=[.agg (H4.cs s),E2 boxes,E1 l,E0 ([]:List Int)]) O (G70 s boxes l [] r4 hr4) H62 ⟨.inl O,O,.inl O,O,.inl O,O,.inr ⟨_,O,O⟩,O,G⟩) O (JLh (BL (!r4)) (R5 (b:=r4) O O) O (G7 (hK3 (JCc O h (fun h hb=>?_) (fun h hb=>?_)))))
 ·
  refine Jr fun hK5=>(JLh (E0 ([]:List Int)) (Hy 1 O O) O (Yy (G0 2) O (G7 (hK5 (Gr (⟨[E0 ([]:List Int),G0 2],[],G,O,⟨⟨_,O,.conv (.same O)⟩,⟨_,O,.conv (.same O)⟩,G⟩,O,([],2),Eq.mpr (Option.some.inj h) hp,O⟩))))))
 ·
  refine Gp (hK2 (Jr fun hK6=>(JLh (.mp 1034) (Jcf 1034 (fun n:Int=>Value.int .i64 n) (fun _:Unit=>.agg []) O O) O (JLh (.ptr 1031 0) (Qf 1031 1 Je9 O O) O (Jk (u:=.junk) (Jb (u:=.mp 1034) (ds:=[.mp 1034]) Jfa O O O O O O O O) (G7 (hK6 (Jr fun hK7=>(JLh (.ptr 1032 0) (Qf 1032 1 Jf1 O O) O (G7 (hK7 ?_)))))))))))
  refine Jr fun hK8=>(JLh (.fn 69 [.ptr 1031 0,.dptr [E1 l],.ptr 1032 0,Ea s]) (G67 (cs:=[.ptr 1031 0,.dptr [E1 l],.ptr 1032 0,Ea s]) O O) O (Jk (u:=.junk) (Jb (u:=.fn 69 [.ptr 1031 0,.dptr [E1 l],.ptr 1032 0,Ea s]) (ds:=[.fn 69 [.ptr 1031 0,.dptr [E1 l],.ptr 1032 0,Ea s]]) Q2b O O O O O O O O) (G7 (hK8 ?_))))
  refine Js fun hK9=>Jr fun hK10=>(Yy (E0 ids) O (JLl Gu O O O fun hm24=>(Yy (G0 0) O (G7 (hK10 (Gs ?_))))))
  obtain⟨b27,kx27,hb27,hkx27,h⟩:=J5 h
  refine Hc (fun i27 (s27:Unit)=>each b27 kx27 (List.drop i27 ids) i27 s27=some p) (fun i27 s27=>[(3,E0 ids),(6,.dptr [E1 l]),(10,.ptr 1031 0),(11,.ptr 1032 0),(23,E0 ids),(24,Eg ids.length),(25,Eg i27)]) (fun i27 s27=>[(1034,MP 103 (fun n:Int=>Value.int .i64 n) (fun _:Unit=>.agg []) (Hw.empty:Hw Int Unit)),(1031,.box 103 [.mp 1034]),(1032,.box 75 [.fn 69 [.ptr 1031 0,.dptr [E1 l],.ptr 1032 0,Ea s]])]) (fun i27=>ids.length - i27) 0 () h ⟨(by repeat' constructor),⟨⟨_,rfl,.map⟩,⟨_,rfl,.boxL rfl ⟨.same rfl,G⟩⟩,⟨_,rfl,.boxL rfl ⟨.same rfl,G⟩⟩,G⟩,rfl⟩ ?_
  clear h
  intro i27 s27 hi27 K27 e27
  refine Jr fun hK28=>(JLh (BL (decide ((i27:Int) < (ids.length:Int)))) (J4 O O O) O (G7 (hK28 (Js fun hK29=>Gk O (fun hb=>?_) (fun hb=>?_)))))
  ·
   have hk27:=Jj hb
   obtain⟨y27,nx27,hy27,hn27,h⟩:=Hq hi27 hk27
   replace h:=Z1 hb27 h
   refine Gp (hK29 (Js fun hK30=>Gs (Jr fun hK31=>(JLh (.dptr [G0 y27]) (Gv (f:=G0) (xs:=ids) (y:=y27) O O O Gu hy27 O) O (JLh (G0 y27) (Gg Gd O O O) O (Yy (G0 y27) O (G7 (hK31 (Jr fun hK32=>(JLh (E1 l) (Gg Z5 O O O) O (Yy (G0 y27) O ?_)))))))))))
   obtain⟨r33,hr33,h⟩:=Ge h
   refine JLh (G0 r33) (Gn O (G86 l y27 r33 hr33) Gfe ⟨O,O,O,O,G⟩) O (JLh (BL (decide (r33 < 0))) (J4 O O O) O (G7 (hK32 (JCc O h (fun h hb=>?_) (fun h hb=>?_)))))
   ·
    refine Jr fun hK34=>(JLh (E0 ([]:List Int)) (Hy 1 O O) O (Yy (G0 6) O (G7 (hK34 (Gr (⟨[E0 ([]:List Int),G0 6],[],G,O,⟨⟨_,O,.conv (.same O)⟩,⟨_,O,.conv (.same O)⟩,G⟩,O,([],6),Eq.mpr (Option.some.inj h) hp,O⟩))))))
   ·
    refine Gp (hK30 (G3 (JLh (G0 ((i27+1:Nat):Int)) (Hs (He hk27 hm24) O O O) O (Yy (G0 ((i27+1:Nat):Int)) O (G7 (e27 _ _ (i27+1) () (app1 hn27 h) (by omega) ⟨(by repeat' constructor),⟨⟨_,rfl,.map⟩,⟨_,rfl,.boxL rfl ⟨.same rfl,G⟩⟩,⟨_,rfl,.boxL rfl ⟨.same rfl,G⟩⟩,G⟩,rfl⟩))))))
  ·
   have h:=app1 hkx27 (Hr hi27 (Ha hb))
   refine Hi (hK9 (Jr fun hK35=>(JLh (.fn 69 [.ptr 1031 0,.dptr [E1 l],.ptr 1032 0,Ea s]) (G57 H61 O O O O) O (Yy (E0 ids) O ?_))))
   obtain⟨r36,hr36,h⟩:=Ge h
   refine JLh (.tup []) (Jd4 (args:=[E0 ids]) (caps:=[.ptr 1031 0,.dptr [E1 l],.ptr 1032 0,Ea s]) (L0:=[(1031,.box 103 [.mp 1034]),(1034,MP 103 (fun n:Int=>Value.int .i64 n) (fun _:Unit=>.agg []) (Hw.empty:Hw Int Unit)),(1032,.box 75 [.fn 69 [.ptr 1031 0,.dptr [E1 l],.ptr 1032 0,Ea s]])]) (Lr:=[(1031,.box 103 [.mp 1034]),(1034,MP 103 (fun n:Int=>Value.int .i64 n) (fun _:Unit=>.agg []) r36),(1032,.box 75 [.fn 69 [.ptr 1031 0,.dptr [E1 l],.ptr 1032 0,Ea s]])]) O O (J36 F ids (Hw.empty:Hw Int Unit) l s r36 hr36) Hdf ⟨.inl O,O,G⟩ O ⟨O,O,O,G⟩ O O O) O (G7 (hK35 ?_))
   refine Jr fun hK37=>(JLh (.vec 1033 (([]:List Int).length) 1 (([]:List Int).length)) (Q61 1033 3 1 O O O) O (G7 (hK37 (Js fun hK38=>Jr fun hK39=>(JLh (.mp 1034) (G57 H3a O O O O) O (JLh (.it 1035) (Q23 1035 (m:=r36) O O O O Hd8) O (G7 (hK39 (Gs ?_)))))))))
   obtain⟨b48,kx48,hb48,hkx48,h⟩:=eachM_in h
   refine Q1d (Hw.size r36) (fun i48 (s48:(List Int))=>MInv b48 kx48 (Hw.l r36) i48 s48) (fun i48 s48=>[(14,.vec 1033 s48.length 1 s48.length),(38,.it 1035)]) (fun i48 s48=>[(1034,MP 103 (fun n:Int=>Value.int .i64 n) (fun _:Unit=>.agg []) r36),(1033,.vec 3 1 s48.length (s48.map G0)),(1035,.iter 1034 (Hw.size r36) i48),(1031,.box 103 [.mp 1034]),(1032,.box 75 [.fn 69 [.ptr 1031 0,.dptr [E1 l],.ptr 1032 0,Ea s]])]) [] (MInv.start h hp) ⟨⟨.same O,.same O,G⟩,⟨⟨_,O,.map⟩,⟨_,O,.vec⟩,⟨_,O,.iter O⟩,⟨_,O,.boxL O ⟨.same O,G⟩⟩,⟨_,O,.boxL O ⟨.same O,G⟩⟩,G⟩,O⟩ ?_
   clear h hp
   intro i48 s48 hi48 K48 e48
   refine Jr fun hK49=>H7b O O O (A_nextM (m:=r36) O O O O) ?_
   intro u_ L_ hn_
   rcases hn_ with ⟨q48,x48,he48,hs48,rfl,rfl⟩ | ⟨ha48,rfl,rfl⟩
   ·
    obtain⟨o48,h,ho1_48,ho2_48⟩:=hi48.step he48 hs48
    replace h:=J15 hb48 h
    refine JLh (BL true) (Hv O O O) O (G7 (hK49 (Js fun hK50=>Q1e O (Gp (hK50 (Gs (Jr fun hK51=>(JLh (.tup [G0 x48.1,.agg []]) (Q28 (kv:=(fun n:Int=>Value.int .i64 n)) (av:=(fun _:Unit=>.agg [])) (m:=r36) (q:=q48) (seen:=i48) (e:=x48) O O O O he48) O (JLh (G0 x48.1) (Hv O O O) O (Yy (G0 x48.1) O (G7 (hK51 (G3 (Yy (.vec 1033 s48.length 1 s48.length) O (Yy (G0 x48.1) O (JLh (E0 [x48.1]) (Hn (xs:=[G0 x48.1]) O ⟨O,O,G⟩ Gu Y2 O O O O) O ?_))))))))))))))))
    obtain⟨ha52,h⟩:=J2 h
    refine JLh (.vec 1033 ((s48++[x48.1]).length) 1 ((s48++[x48.1]).length)) (H1a (f:=G0) (xs:=s48) (ys:=[x48.1]) (ver:=s48.length) (ver1:=(s48++[x48.1]).length) rfl rfl rfl rfl Gu G18 ha52 (fun _=>rfl) (.inl rfl) (by simp)) O (Yy (.vec 1033 ((s48++[x48.1]).length) 1 ((s48++[x48.1]).length)) O (G7 (e48 _ _ (i48++[q48]) (s48++[x48.1]) (ho2_48 _ (Option.some.inj h).symm) (unseen_lt (List.getElem?_eq_some_iff.1 he48).1 hs48) ⟨⟨.same O,.same O,G⟩,⟨⟨_,O,.map⟩,⟨_,O,.vec⟩,⟨_,O,.iter O⟩,⟨_,O,.boxL O ⟨.same O,G⟩⟩,⟨_,O,.boxL O ⟨.same O,G⟩⟩,G⟩,O⟩)))
   ·
    obtain⟨p_,h,hp⟩:=hi48.done ha48
    replace h:=app1 hkx48 h
    refine JLh (BL false) (Hv O O O) O (G7 (hK49 (Js fun hK53=>Q1f O (Hi (hK38 (Jr fun hK54=>(Yy (.vec 1033 s48.length 1 s48.length) O ?_)))))))
    obtain⟨r55,hr55,h⟩:=Ge h
    refine JLh (.tup []) (A_sortI (F:=72) (xs:=s48) (r:=r55) O sortILaw_72 sortINone_72 Q43 O O O hr55 O) O (G7 (hK54 (Jr fun hK56=>(Yy (.vec 1033 s48.length 1 s48.length) O (Yy (.vec 1033 s48.length 1 s48.length) O (Yy (G0 0) O (G7 (hK56 (Q5f [(8,E0 r55),(9,G0 0)] [] 1033 rfl rfl G rfl (by exact⟨.vec,.conv (.same rfl),G⟩) (Gr (⟨[E0 r55,G0 0],[],G,O,⟨⟨_,O,.conv (.same O)⟩,⟨_,O,.conv (.same O)⟩,G⟩,O,(r55,0),Eq.mpr (Option.some.inj h) hp,O⟩)))))))))))
theorem Jc0 (S_:Nat→(H4)→(List Gh)→(List Stowed)→(List Int)→Option ((List Int)×Int)) (hS_:∀ F s boxes l ids r,S_ F s boxes l ids=some r→∃ p:Prop,Gac F s boxes l ids (fun r_=>r_=r)=some p∧p) (F:Nat) (s:H4) (boxes:List Gh) (l:List Stowed) (ids:List Int) (r:(List Int)×Int) (h:S_ F s boxes l ids=some r):Pure Eh 19 [.agg (H4.cs s),E2 boxes,E1 l,E0 ids] (·=.tup [E0 r.1,G0 r.2]):=by
 obtain⟨p,h1,h2⟩:=hS_ F s boxes l ids r h
 exact(Jbf F s boxes l ids _ p h1 h2).monoP (fun av hh=>by obtain⟨r_,rfl,ha⟩:=hh; exact ha)
end
end Go.Proofs.YtjkmmenifdklmaaGreat
