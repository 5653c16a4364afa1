/-
 Models of functions of the program,and that they return what the models say.
-/
import Derived.Test.YtecjdioomlhhiaaGreatXGa
set_option maxRecDepth 100000
set_option maxHeartbeats 1000000
set_option linter.unusedVariables false
set_option linter.unusedSimpArgs false
namespace Go.Proofs.YtecjdioomlhhiaaGreat
open Go.RowKit
noncomputable section
open XAF
open XLF
open XCF
open XGF

def G8d (self_:(List Int)→(J1 Int Unit)→(List Stowed)→H0→Option (J1 Int Unit)) (F:Nat) (ids:List Int) (p1:J1 Int Unit) (p2:List Stowed) (p4:H0):Option (J1 Int Unit):=
 each (fun y102 i102 (s102:(J1 Int Unit)) nx102=>
  jp (fun kj105=>
   bif (J1.has s102 y102) then
   (kj105 s102)
   else
   (bnd (G98 p2 y102) fun r113=>
    bnd (self_ r113.1 (J1.put s102 y102 ()) p2 p4) fun r115=>
    bnd (Rf p2 y102) fun r117=>
    Qq p2 r117 fun y118=>
    bnd (G66 p4 y118.Slot.G3) fun r120=>
    bif decide (0≤r120) then
    (bnd (Gc6 p4 p2 r120) fun r122=>
     bnd (self_ r122 r115 p2 p4) fun r123=>
     kj105 r123)
    else
    (kj105 r115))) fun(j105:(J1 Int Unit))=>
  nx102 j105)
 (fun(s102:(J1 Int Unit))=>
  some s102) ids 0 p1
def G23:Nat→(List Int)→(J1 Int Unit)→(List Stowed)→H0→Option (J1 Int Unit)
 | 0,_,_,_,_=>none
 | F+1,ids,p1,p2,p4=>G8d (G23 F) F ids p1 p2 p4
abbrev Eo (p2:List Stowed) (p4:H0):List AV:=[.ptr 1038 0,.dptr [E2 p2],.ptr 1039 0,Eb p4]
theorem J72 (self_:(List Int)→(J1 Int Unit)→(List Stowed)→H0→Option (J1 Int Unit)) (self_w:∀ (ids:List Int) (p1:J1 Int Unit) (p2:List Stowed) (p4:H0) (r:(J1 Int Unit)),self_ ids p1 p2 p4=some r→Qb Ei 77 [E1 ids,.ptr 1038 0,.dptr [E2 p2],.ptr 1039 0,Eb p4] [(1038,.box 114 [.mp 1041]),(1041,MP 114 (fun n:Int=>Value.int .i64 n) (fun _:Unit=>.agg []) p1),(1039,.box 64 [.fn 77 [.ptr 1038 0,.dptr [E2 p2],.ptr 1039 0,Eb p4]])] (fun av L'=>av=.tup []∧L'=[(1038,.box 114 [.mp 1041]),(1041,MP 114 (fun n:Int=>Value.int .i64 n) (fun _:Unit=>.agg []) r),(1039,.box 64 [.fn 77 [.ptr 1038 0,.dptr [E2 p2],.ptr 1039 0,Eb p4]])])) (F:Nat) (ids:List Int) (p1:J1 Int Unit) (p2:List Stowed) (p4:H0) (r:(J1 Int Unit)) (h:G8d self_ F ids p1 p2 p4=some r):Qb Ei 77 [E1 ids,.ptr 1038 0,.dptr [E2 p2],.ptr 1039 0,Eb p4] [(1038,.box 114 [.mp 1041]),(1041,MP 114 (fun n:Int=>Value.int .i64 n) (fun _:Unit=>.agg []) p1),(1039,.box 64 [.fn 77 [.ptr 1038 0,.dptr [E2 p2],.ptr 1039 0,Eb p4]])] (fun av L'=>av=.tup []∧L'=[(1038,.box 114 [.mp 1041]),(1041,MP 114 (fun n:Int=>Value.int .i64 n) (fun _:Unit=>.agg []) r),(1039,.box 64 [.fn 77 [.ptr 1038 0,.dptr [E2 p2],.ptr 1039 0,Eb p4]])]):=by
 unfold G8d at h
 refine Qz [1038,1041,1039] [] Tryz.func77 O O (Ga6 O) (Jr fun hK1=>(JLm (E1 ids) O (JLl Gs O O O fun hm14=>(JLm (I64 0) O (G7 (hK1 (Gq ?_)))))))
 obtain⟨b102,kx102,hb102,hkx102,h⟩:=J3 h
 refine Hd (fun i102 (s102:(J1 Int Unit))=>each b102 kx102 (List.drop i102 ids) i102 s102=some r) (fun i102 s102=>[(1,.ptr 1038 0),(2,.dptr [E2 p2]),(3,.ptr 1039 0),(4,Eb p4),(13,E1 ids),(14,Eh ids.length),(15,Eh i102)]) (fun i102 s102=>[(1041,MP 114 (fun n:Int=>Value.int .i64 n) (fun _:Unit=>.agg []) s102),(1038,.box 114 [.mp 1041]),(1039,.box 64 [.fn 77 (Eo p2 p4)])]) (fun i102=>ids.length - i102) 0 p1 h ⟨(.sm O O),⟨⟨_,rfl,.map⟩,⟨_,rfl,.boxL rfl ⟨.same rfl,G⟩⟩,⟨_,rfl,.boxL rfl ⟨.same rfl,G⟩⟩,G⟩,rfl⟩ ?_
 clear h
 intro i102 s102 hi102 K102 e102
 refine Jr fun hK103=>(JLh (BL (decide ((i102:Int) < (ids.length:Int)))) (Hz O O O) O (G7 (hK103 (Js fun hK104=>Gi O (fun hb=>?_) (fun hb=>?_)))))
 ·
  have hk102:=Jj hb
  obtain⟨y102,nx102,hy102,hn102,h⟩:=Hu hi102 hk102
  replace h:=Z9 hb102 h
  refine Gk (hK104 ?_)
  obtain⟨kj105,hkj105,h⟩:=G84 h
  refine G57 (fun j105:(J1 Int Unit)=>kj105 j105=some r) (fun j105=>[(1,.ptr 1038 0),(2,.dptr [E2 p2]),(3,.ptr 1039 0),(4,Eb p4),(13,E1 ids),(14,Eh ids.length),(15,Eh i102)]) (fun j105=>[(1041,MP 114 (fun n:Int=>Value.int .i64 n) (fun _:Unit=>.agg []) j105),(1038,.box 114 [.mp 1041]),(1039,.box 64 [.fn 77 (Eo p2 p4)])]) (fun Kj105 ej105=>?_) ?_
  ·
   refine Gq (Jr fun hK106=>(JLh (.dptr [I64 y102]) (Gw (f:=I64) (xs:=ids) (y:=y102) O O O Gs hy102 O) O (JLh (I64 y102) (Gf Gd O O O) O (JLm (I64 y102) O (G7 (hK106 (Js fun hK107=>Jr fun hK108=>(JLh (.mp 1041) (G7b H72 O O O O) O (JLm (I64 y102) O (JLh (.tup [.agg [],BL (J1.has s102 y102)]) (R50 (av:=(fun _:Unit=>.agg [])) (m:=s102) (a:=y102) () (.agg #[]) O O O O tk_3 J16 R80 O) O (JLm (.tup [.agg [],BL (J1.has s102 y102)]) O (JLh (.agg []) (Hk O O O) O (JLh (BL (J1.has s102 y102)) (Hk O O O) O (JLh (.ptr 1090 0) (Qo 1090 0 Q70 O O) O (Jo (u:=.junk) (Re9 (u:=.agg []) Q9d O O O O O O) (JLm (BL (J1.has s102 y102)) O (G7 (hK108 ?_))))))))))))))))))
   refine Gx [(1,.ptr 1038 0),(2,.dptr [E2 p2]),(3,.ptr 1039 0),(4,Eb p4),(7,I64 y102),(9,BL (J1.has s102 y102)),(13,E1 ids),(14,Eh ids.length),(15,Eh i102)] [(1041,MP 114 (fun n:Int=>Value.int .i64 n) (fun _:Unit=>.agg []) s102),(1038,.box 114 [.mp 1041]),(1039,.box 64 [.fn 77 (Eo p2 p4)])] 1090 rfl rfl rfl ⟨⟨_,rfl,.map⟩,⟨_,rfl,.boxEq rfl rfl⟩,⟨_,rfl,.boxEq rfl rfl⟩,G⟩ rfl (by repeat' (first | exact .ptr | constructor)) (Jr fun hK110=>(JLm (BL (J1.has s102 y102)) O (G7 (hK110 (JCc O h (fun h hb=>?_) (fun h hb=>?_))))))
   ·
    refine Hn (ej105 _ _ s102 h ⟨(.sm O O),⟨⟨_,rfl,.map⟩,⟨_,rfl,.boxL rfl ⟨.same rfl,G⟩⟩,⟨_,rfl,.boxL rfl ⟨.same rfl,G⟩⟩,G⟩,rfl⟩)
   ·
    refine Gk (hK107 (Jr fun hK111=>(JLh (.mp 1041) (G7b H72 O O O O) O (JLm (I64 y102) O (JLh (.agg []) (Jp (cs:=[]) [] [] [] Q2a Q99 G O O) O (Jo (u:=.junk) (Q92 (m:=s102) (a:=y102) (v:=()) O O O O O O tk_3 J16) (G7 (hK111 (Jr fun hK112=>(JLh (E2 p2) (Gf Y3 O O O) O (JLm (I64 y102) O ?_)))))))))))
    obtain⟨r113,hr113,h⟩:=Gc h
    refine JLh (.tup [E1 r113.1,I64 r113.2]) (Gm O (Hef p2 y102 r113 hr113) Jd1 ⟨O,O,O,O,G⟩) O (JLm (.tup [E1 r113.1,I64 r113.2]) O (JLh (E1 r113.1) (Hk O O O) O (JLh (I64 r113.2) (Hk O O O) O (JLm (E1 r113.1) O (JLm (I64 r113.2) O (G7 (hK112 (Jr fun hK114=>(JLh (.fn 77 (Eo p2 p4)) (G7b Ha1 O O O O) O (JLm (E1 r113.1) O ?_))))))))))
    obtain⟨r115,hr115,h⟩:=Gc h
    refine JLh (.tup []) (Q26 (args:=[E1 r113.1]) (caps:=(Eo p2 p4)) (L0:=[(1038,.box 114 [.mp 1041]),(1041,MP 114 (fun n:Int=>Value.int .i64 n) (fun _:Unit=>.agg []) (J1.put s102 y102 ())),(1039,.box 64 [.fn 77 (Eo p2 p4)])]) (Lr:=[(1038,.box 114 [.mp 1041]),(1041,MP 114 (fun n:Int=>Value.int .i64 n) (fun _:Unit=>.agg []) r115),(1039,.box 64 [.fn 77 (Eo p2 p4)])]) O O (self_w r113.1 (J1.put s102 y102 ()) p2 p4 r115 hr115) J1c ⟨.inl O,O,G⟩ O ⟨O,O,O,G⟩ O O O) O (G7 (hK114 (Js fun hK116=>?_)))
    refine G67 (l':=[(1,.ptr 1038 0),(2,.dptr [E2 p2]),(3,.ptr 1039 0),(4,Eb p4),(7,I64 y102),(13,E1 ids),(14,Eh ids.length),(15,Eh i102)]) (L':=[(1041,MP 114 (fun n:Int=>Value.int .i64 n) (fun _:Unit=>.agg []) r115),(1038,.box 114 [.mp 1041]),(1039,.box 64 [.fn 77 (Eo p2 p4)])]) ⟨(.sm O O),⟨⟨_,rfl,.map⟩,⟨_,rfl,.boxL rfl ⟨.same rfl,G⟩⟩,⟨_,rfl,.boxL rfl ⟨.same rfl,G⟩⟩,G⟩,rfl⟩ ?_
    obtain⟨r117,hr117,h⟩:=Gc h
    obtain⟨m119,y118,hm119,hy118,h⟩:=R1 h
    obtain⟨r120,hr120,h⟩:=Gc h
    refine JC_d0 J6 (by kernel_rfl) (Dq (.agg (H0.cs p4)) (Gh Hc O O O) O (Dq (E2 p2) (Gf Y3 O O O) O (Dq (E2 p2) (Gf Y3 O O O) O (Dq (I64 y102) (G4 O O) O (Dq (I64 r117) (Gm (args:=[E2 p2,I64 y102]) O (G3d p2 y102 r117 hr117) G81 ⟨O,O,O,O,G⟩) O (Dq (Ec y118) (Gw (f:=Stowed.av) (xs:=p2) (y:=y118) O O O Gt hy118 hm119) O (Dq (.dptr ((Stowed.cs y118).drop 1)) (Ga Ho O O O) O (Dq (.dptr ((Stowed.cs y118).drop 1)) (Ga J2 O O O) O (Dq (I64 y118.Slot.G3) (Gf Gd O O O) O (Dq (I64 r120) (Gm (args:=[.agg (H0.cs p4),I64 y118.Slot.G3]) O (Hed p4 y118.Slot.G3 r120 hr120) Jd0 ⟨O,O,O,O,G⟩) O (Dq (I64 r120) (G6 O O) O (Dnil ?_))))))))))))
    refine hK116 (Jr fun hK121=>(JLm (I64 r120) O (JLh (BL (decide (0≤r120))) (Zf O O O) O (G7 (hK121 (JCc O h (fun h hb=>?_) (fun h hb=>?_)))))))
    ·
     refine G67 (l':=[(1,.ptr 1038 0),(2,.dptr [E2 p2]),(3,.ptr 1039 0),(4,Eb p4),(12,I64 r120),(13,E1 ids),(14,Eh ids.length),(15,Eh i102)]) (L':=[(1041,MP 114 (fun n:Int=>Value.int .i64 n) (fun _:Unit=>.agg []) r115),(1038,.box 114 [.mp 1041]),(1039,.box 64 [.fn 77 (Eo p2 p4)])]) ⟨(.sm O O),⟨⟨_,rfl,.map⟩,⟨_,rfl,.boxL rfl ⟨.same rfl,G⟩⟩,⟨_,rfl,.boxL rfl ⟨.same rfl,G⟩⟩,G⟩,rfl⟩ ?_
     obtain⟨r122,hr122,h⟩:=Gc h
     obtain⟨r123,hr123,h⟩:=Gc h
     refine Jb [5] [0,0,0,0,0,0] [0,0,0,0,0,0] [[(1041,MP 114 (fun n:Int=>Value.int .i64 n) (fun _:Unit=>.agg []) r115),(1038,.box 114 [.mp 1041]),(1039,.box 64 [.fn 77 (Eo p2 p4)])],((1041,MP 114 (fun n:Int=>Value.int .i64 n) (fun _:Unit=>.agg []) r123)::[(1041,MP 114 (fun n:Int=>Value.int .i64 n) (fun _:Unit=>.agg []) r115),(1038,.box 114 [.mp 1041]),(1039,.box 64 [.fn 77 (Eo p2 p4)])])] J6 (by kernel_rfl) rfl rfl ?_
     refine Gb (u:=.fn 77 (Eo p2 p4)) O O ⟨Gp (G7b Ha1 O O O O) O,G⟩ (Gb (u:=.agg (H0.cs p4)) O O ⟨Gp (Gh Hc O O O) O,G⟩ (Gb (u:=E2 p2) O O ⟨Gp (Gf Y3 O O O) O,G⟩ (Gb (u:=I64 r120) O O ⟨Gp (G4 O O) O,G⟩ (Gb (u:=E1 r122) O O ⟨Gp (Gm O (H7e p4 p2 r120 r122 hr122) J1d ⟨O,O,O,O,O,O,G⟩) O,G⟩ (D_w (u:=.tup []) O O O O (G9b.locEq (Gp (Q26 (args:=[E1 r122]) (caps:=(Eo p2 p4)) (L0:=[(1038,.box 114 [.mp 1041]),(1041,MP 114 (fun n:Int=>Value.int .i64 n) (fun _:Unit=>.agg []) r115),(1039,.box 64 [.fn 77 (Eo p2 p4)])]) (Lr:=[(1038,.box 114 [.mp 1041]),(1041,MP 114 (fun n:Int=>Value.int .i64 n) (fun _:Unit=>.agg []) r123),(1039,.box 64 [.fn 77 (Eo p2 p4)])]) O O (self_w r122 r115 p2 p4 r123 hr123) J1c ⟨.inl O,O,G⟩ O ⟨O,O,O,G⟩ O O O) O) (H49.of [1041,1038,1039] O O ⟨O,O,O,G⟩)) (Qw ?_))))))
     exact ej105 _ _ r123 h ⟨(.sm O O),⟨⟨_,rfl,.map⟩,⟨_,rfl,.boxL rfl ⟨.same rfl,G⟩⟩,⟨_,rfl,.boxL rfl ⟨.same rfl,G⟩⟩,G⟩,rfl⟩
    ·
     refine Gk (ej105 _ _ r115 h ⟨(.sm O O),⟨⟨_,rfl,.map⟩,⟨_,rfl,.boxL rfl ⟨.same rfl,G⟩⟩,⟨_,rfl,.boxL rfl ⟨.same rfl,G⟩⟩,G⟩,rfl⟩)
  ·intro j105 h
   replace h:=app1 hkj105 h
   refine G2 (JLh (I64 ((i102+1:Nat):Int)) (Hs (Hf hk102 hm14) O O O) O (JLm (I64 ((i102+1:Nat):Int)) O (G7 (e102 _ _ (i102+1) j105 (app1 hn102 h) (by omega) ⟨(.sm O O),⟨⟨_,rfl,.map⟩,⟨_,rfl,.boxL rfl ⟨.same rfl,G⟩⟩,⟨_,rfl,.boxL rfl ⟨.same rfl,G⟩⟩,G⟩,rfl⟩))))
 ·
  have h:=app1 hkx102 (Hv hi102 (Ha hb))
  refine Hn ?_
  obtain rfl:=Option.some.inj h
  exact⟨[],[(1038,.box 114 [.mp 1041]),(1041,MP 114 (fun n:Int=>Value.int .i64 n) (fun _:Unit=>.agg []) s102),(1039,.box 64 [.fn 77 (Eo p2 p4)])],⟨⟨_,O,.boxL O ⟨.same O,G⟩⟩,⟨_,O,.map⟩,⟨_,O,.boxL O ⟨.same O,G⟩⟩,G⟩,O,G,O,O⟩
theorem J6e:∀ (F:Nat) (ids:List Int) (p1:J1 Int Unit) (p2:List Stowed) (p4:H0) (r:(J1 Int Unit)) (h:G23 F ids p1 p2 p4=some r),Qb Ei 77 [E1 ids,.ptr 1038 0,.dptr [E2 p2],.ptr 1039 0,Eb p4] [(1038,.box 114 [.mp 1041]),(1041,MP 114 (fun n:Int=>Value.int .i64 n) (fun _:Unit=>.agg []) p1),(1039,.box 64 [.fn 77 [.ptr 1038 0,.dptr [E2 p2],.ptr 1039 0,Eb p4]])] (fun av L'=>av=.tup []∧L'=[(1038,.box 114 [.mp 1041]),(1041,MP 114 (fun n:Int=>Value.int .i64 n) (fun _:Unit=>.agg []) r),(1039,.box 64 [.fn 77 [.ptr 1038 0,.dptr [E2 p2],.ptr 1039 0,Eb p4]])]):=by
 intro F
 induction F with
 | zero=>intro ids p1 p2 p4 r h; cases h
 | succ F ih=>intro ids p1 p2 p4 r h; exact J72 (G23 F) ih F ids p1 p2 p4 r h

def Gdd (F:Nat) (s:H0) (boxes:List Box) (l:List Stowed) (ids:List Int) (Rp:((List Int)×Int)→Prop):Option Prop:=
 bnd (Qa s boxes l []) fun r4=>
 bif (!r4) then
 (some (Rp ([],2)))
 else
 (each (fun y27 i27 (s27:Unit) nx27=>
   bnd (Rf l y27) fun r33=>
   bif decide (r33 < 0) then
   (some (Rp ([],6)))
   else
   (nx27 ()))
  (fun(s27:Unit)=>
   bnd (G23 F ids (J1.empty:J1 Int Unit) l s) fun r36=>
   Q61 (fun(x48:Int×Unit) (s48:(List Int)) nx48=>
    need (decide ((s48.length+[x48.1].length)*8≤140737488355328∧s48.length+[x48.1].length≤maxLen)) <|
    nx48 (s48++[x48.1]))
   (fun(s48:(List Int))=>
    bnd (H74 s48) fun r55=>
    some (Rp (r55,0))) (J1.l r36) []) ids 0 ())
abbrev Ep (l:List Stowed) (s:H0):List AV:=[.ptr 1038 0,.dptr [E2 l],.ptr 1039 0,Eb s]
theorem Q11 (F:Nat) (s:H0) (boxes:List Box) (l:List Stowed) (ids:List Int) (Rp:((List Int)×Int)→Prop) (p:Prop) (h:Gdd F s boxes l ids Rp=some p) (hp:p):Pure Ei 30 [.agg (H0.cs s),E3 boxes,E2 l,E1 ids] (fun av=>∃ r,Rp r∧av=.tup [E1 r.1,I64 r.2]):=by
 unfold Gdd at h
 refine Gz [.tmp 8,.tmp 9] Tryz.func30 O O (Jr fun hK1=>(JLh (.ptr 1036 0) (Je (cs:=(H0.cs s)) 1036 O O O O O) O (JLh (.ptr 1037 0) (Je (cs:=[E2 l]) 1037 O O O O O) O (JLh (E1 ([]:List Int)) (Hb 1 O O) O (JLm (I64 0) O (G7 (hK1 ?_)))))))
 refine Gx [(1,E3 boxes),(3,E1 ids),(4,Eb s),(6,.ptr 1037 0)] [(1037,.box 34 [E2 l])] 1036 rfl rfl rfl ⟨⟨_,rfl,.boxEq rfl rfl⟩,G⟩ rfl (by repeat' (first | exact .ptr | constructor)) ?_
 refine Gx [(1,E3 boxes),(3,E1 ids),(4,Eb s),(6,.dptr [E2 l])] [] 1037 rfl rfl rfl G rfl (by repeat' (first | exact .ptr | constructor)) (Js fun hK2=>Jr fun hK3=>(JLh (.agg (H0.cs s)) (Gh Hc O O O) O (JLm (E3 boxes) O (JLh (E2 l) (Gf Y3 O O O) O ?_))))
 obtain⟨r4,hr4,h⟩:=Gc h
 refine JLh (BL r4) (H4a (args:=[.agg (H0.cs s),E3 boxes,E2 l,E1 ([]:List Int)]) O (Zx s boxes l [] r4 hr4) G80 ⟨.inl O,O,.inl O,O,.inl O,O,.inr ⟨_,O,O⟩,O,G⟩) O (JLh (BL (!r4)) (Q7 (b:=r4) O O) O (G7 (hK3 (JCc O h (fun h hb=>?_) (fun h hb=>?_)))))
 ·
  refine Jr fun hK5=>(JLh (E1 ([]:List Int)) (Hb 1 O O) O (JLm (I64 2) O (G7 (hK5 (Gn (⟨[E1 ([]:List Int),I64 2],[],G,O,⟨⟨_,O,.conv (.same O)⟩,⟨_,O,.conv (.same O)⟩,G⟩,O,([],2),Eq.mpr (Option.some.inj h) hp,O⟩))))))
 ·
  refine Gk (hK2 (Jr fun hK6=>(JLh (.mp 1041) (Q21 1041 (fun n:Int=>Value.int .i64 n) (fun _:Unit=>.agg []) O O) O (JLh (.ptr 1038 0) (Qo 1038 1 Q71 O O) O (Jo (u:=.junk) (Jh (u:=.mp 1041) (ds:=[.mp 1041]) Q9e O O O O O O O O) (G7 (hK6 (Jr fun hK7=>(JLh (.ptr 1039 0) (Qo 1039 1 Q98 O O) O (G7 (hK7 ?_)))))))))))
  refine Jr fun hK8=>(JLh (.fn 77 (Ep l s)) (G91 (cs:=(Ep l s)) O O) O (Jo (u:=.junk) (Jh (u:=.fn 77 (Ep l s)) (ds:=[.fn 77 (Ep l s)]) R03 O O O O O O O O) (G7 (hK8 ?_))))
  refine Js fun hK9=>Jr fun hK10=>(JLm (E1 ids) O (JLl Gs O O O fun hm24=>(JLm (I64 0) O (G7 (hK10 (Gq ?_))))))
  obtain⟨b27,kx27,hb27,hkx27,h⟩:=J3 h
  refine Hd (fun i27 (s27:Unit)=>each b27 kx27 (List.drop i27 ids) i27 s27=some p) (fun i27 s27=>[(3,E1 ids),(6,.dptr [E2 l]),(10,.ptr 1038 0),(11,.ptr 1039 0),(23,E1 ids),(24,Eh ids.length),(25,Eh i27)]) (fun i27 s27=>[(1041,MP 114 (fun n:Int=>Value.int .i64 n) (fun _:Unit=>.agg []) (J1.empty:J1 Int Unit)),(1038,.box 114 [.mp 1041]),(1039,.box 64 [.fn 77 (Ep l s)])]) (fun i27=>ids.length - i27) 0 () h ⟨(.sm O O),⟨⟨_,rfl,.map⟩,⟨_,rfl,.boxL rfl ⟨.same rfl,G⟩⟩,⟨_,rfl,.boxL rfl ⟨.same rfl,G⟩⟩,G⟩,rfl⟩ ?_
  clear h
  intro i27 s27 hi27 K27 e27
  refine Jr fun hK28=>(JLh (BL (decide ((i27:Int) < (ids.length:Int)))) (Hz O O O) O (G7 (hK28 (Js fun hK29=>Gi O (fun hb=>?_) (fun hb=>?_)))))
  ·
   have hk27:=Jj hb
   obtain⟨y27,nx27,hy27,hn27,h⟩:=Hu hi27 hk27
   replace h:=Z9 hb27 h
   refine Gk (hK29 (Js fun hK30=>Gq (Jr fun hK31=>(JLh (.dptr [I64 y27]) (Gw (f:=I64) (xs:=ids) (y:=y27) O O O Gs hy27 O) O (JLh (I64 y27) (Gf Gd O O O) O (JLm (I64 y27) O (G7 (hK31 (Jr fun hK32=>(JLh (E2 l) (Gf Y3 O O O) O (JLm (I64 y27) O ?_)))))))))))
   obtain⟨r33,hr33,h⟩:=Gc h
   refine JLh (I64 r33) (Gm O (G3d l y27 r33 hr33) G81 ⟨O,O,O,O,G⟩) O (JLh (BL (decide (r33 < 0))) (Hz O O O) O (G7 (hK32 (JCc O h (fun h hb=>?_) (fun h hb=>?_)))))
   ·
    refine Jr fun hK34=>(JLh (E1 ([]:List Int)) (Hb 1 O O) O (JLm (I64 6) O (G7 (hK34 (Gn (⟨[E1 ([]:List Int),I64 6],[],G,O,⟨⟨_,O,.conv (.same O)⟩,⟨_,O,.conv (.same O)⟩,G⟩,O,([],6),Eq.mpr (Option.some.inj h) hp,O⟩))))))
   ·
    refine Gk (hK30 (G2 (JLh (I64 ((i27+1:Nat):Int)) (Hs (Hf hk27 hm24) O O O) O (JLm (I64 ((i27+1:Nat):Int)) O (G7 (e27 _ _ (i27+1) () (app1 hn27 h) (by omega) ⟨(.sm O O),⟨⟨_,rfl,.map⟩,⟨_,rfl,.boxL rfl ⟨.same rfl,G⟩⟩,⟨_,rfl,.boxL rfl ⟨.same rfl,G⟩⟩,G⟩,rfl⟩))))))
  ·
   have h:=app1 hkx27 (Hv hi27 (Ha hb))
   refine Hn (hK9 (Jr fun hK35=>(JLh (.fn 77 (Ep l s)) (G7b Ha1 O O O O) O (JLm (E1 ids) O ?_))))
   obtain⟨r36,hr36,h⟩:=Gc h
   refine JLh (.tup []) (Q26 (args:=[E1 ids]) (caps:=(Ep l s)) (L0:=[(1038,.box 114 [.mp 1041]),(1041,MP 114 (fun n:Int=>Value.int .i64 n) (fun _:Unit=>.agg []) (J1.empty:J1 Int Unit)),(1039,.box 64 [.fn 77 (Ep l s)])]) (Lr:=[(1038,.box 114 [.mp 1041]),(1041,MP 114 (fun n:Int=>Value.int .i64 n) (fun _:Unit=>.agg []) r36),(1039,.box 64 [.fn 77 (Ep l s)])]) O O (J6e F ids (J1.empty:J1 Int Unit) l s r36 hr36) J1c ⟨.inl O,O,G⟩ O ⟨O,O,O,G⟩ O O O) O (G7 (hK35 ?_))
   refine Jr fun hK37=>(JLh (.vec 1040 (([]:List Int).length) 1 (([]:List Int).length)) (G8f 1040 3 1 O O O) O (G7 (hK37 (Js fun hK38=>Jr fun hK39=>(JLh (.mp 1041) (G7b H72 O O O O) O (JLh (.it 1042) (Qf8 1042 (m:=r36) O O O O J16) O (G7 (hK39 (Gq ?_)))))))))
   obtain⟨b48,kx48,hb48,hkx48,h⟩:=Qe2 h
   refine Qf0 (J1.size r36) (fun i48 (s48:(List Int))=>MInv b48 kx48 (J1.l r36) i48 s48) (fun i48 s48=>[(14,.vec 1040 s48.length 1 s48.length),(38,.it 1042)]) (fun i48 s48=>[(1041,MP 114 (fun n:Int=>Value.int .i64 n) (fun _:Unit=>.agg []) r36),(1040,.vec 3 1 s48.length (s48.map I64)),(1042,.iter 1041 (J1.size r36) i48),(1038,.box 114 [.mp 1041]),(1039,.box 64 [.fn 77 (Ep l s)])]) [] (MInv.start h hp) ⟨(.sm O O),⟨⟨_,O,.map⟩,⟨_,O,.vec⟩,⟨_,O,.iter O⟩,⟨_,O,.boxL O ⟨.same O,G⟩⟩,⟨_,O,.boxL O ⟨.same O,G⟩⟩,G⟩,O⟩ ?_
   clear h hp
   intro i48 s48 hi48 K48 e48
   refine Jr fun hK49=>G48 O O O (R7c (m:=r36) O O O O) ?_
   intro u_ L_ hn_
   rcases hn_ with ⟨q48,x48,he48,hs48,rfl,rfl⟩ | ⟨ha48,rfl,rfl⟩
   ·
    obtain⟨o48,h,ho1_48,ho2_48⟩:=hi48.step he48 hs48
    replace h:=Hba hb48 h
    refine JLh (BL true) (Hk O O O) O (G7 (hK49 (Js fun hK50=>Qf1 O (Gk (hK50 (Gq (Jr fun hK51=>(JLh (.tup [I64 x48.1,.agg []]) (Qfc (kv:=(fun n:Int=>Value.int .i64 n)) (av:=(fun _:Unit=>.agg [])) (m:=r36) (q:=q48) (seen:=i48) (e:=x48) O O O O he48) O (JLh (I64 x48.1) (Hk O O O) O (JLm (I64 x48.1) O (G7 (hK51 (G2 (JLm (.vec 1040 s48.length 1 s48.length) O (JLm (I64 x48.1) O (JLh (E1 [x48.1]) (Hj (xs:=[I64 x48.1]) O ⟨O,O,G⟩ Gs Rw O O O O) O ?_))))))))))))))))
    obtain⟨ha52,h⟩:=Hr h
    refine JLh (.vec 1040 ((s48++[x48.1]).length) 1 ((s48++[x48.1]).length)) (G68 (f:=I64) (xs:=s48) (ys:=[x48.1]) (ver:=s48.length) (ver1:=(s48++[x48.1]).length) rfl rfl rfl rfl Gs Zm ha52 (fun _=>rfl) (.inl rfl) (by simp)) O (JLm (.vec 1040 ((s48++[x48.1]).length) 1 ((s48++[x48.1]).length)) O (G7 (e48 _ _ (i48++[q48]) (s48++[x48.1]) (ho2_48 _ (Option.some.inj h).symm) (Q3e (List.getElem?_eq_some_iff.1 he48).1 hs48) ⟨(.sm O O),⟨⟨_,O,.map⟩,⟨_,O,.vec⟩,⟨_,O,.iter O⟩,⟨_,O,.boxL O ⟨.same O,G⟩⟩,⟨_,O,.boxL O ⟨.same O,G⟩⟩,G⟩,O⟩)))
   ·
    obtain⟨p_,h,hp⟩:=hi48.done ha48
    replace h:=app1 hkx48 h
    refine JLh (BL false) (Hk O O O) O (G7 (hK49 (Js fun hK53=>Qf2 O (Hn (hK38 (Jr fun hK54=>(JLm (.vec 1040 s48.length 1 s48.length) O ?_)))))))
    obtain⟨r55,hr55,h⟩:=Gc h
    refine JLh (.tup []) (Y13 (F:=78) (xs:=s48) (r:=r55) O Qc6 Q77 R13 O O O hr55 O) O (G7 (hK54 (Jr fun hK56=>(JLm (.vec 1040 s48.length 1 s48.length) O (JLm (.vec 1040 s48.length 1 s48.length) O (JLm (I64 0) O (G7 (hK56 (R4a [(8,E1 r55),(9,I64 0)] [] 1040 rfl rfl G rfl (by exact⟨.vec,.conv (.same rfl),G⟩) (Gn (⟨[E1 r55,I64 0],[],G,O,⟨⟨_,O,.conv (.same O)⟩,⟨_,O,.conv (.same O)⟩,G⟩,O,(r55,0),Eq.mpr (Option.some.inj h) hp,O⟩)))))))))))
theorem Q12 (S_:Nat→(H0)→(List Box)→(List Stowed)→(List Int)→Option ((List Int)×Int)) (hS_:∀ F s boxes l ids r,S_ F s boxes l ids=some r→∃ p:Prop,Gdd F s boxes l ids (fun r_=>r_=r)=some p∧p) (F:Nat) (s:H0) (boxes:List Box) (l:List Stowed) (ids:List Int) (r:(List Int)×Int) (h:S_ F s boxes l ids=some r):Pure Ei 30 [.agg (H0.cs s),E3 boxes,E2 l,E1 ids] (·=.tup [E1 r.1,I64 r.2]):=by
 obtain⟨p,h1,h2⟩:=hS_ F s boxes l ids r h
 exact(Q11 F s boxes l ids _ p h1 h2).monoP (fun av hh=>by obtain⟨r_,rfl,ha⟩:=hh; exact ha)
end
end Go.Proofs.YtecjdioomlhhiaaGreat
