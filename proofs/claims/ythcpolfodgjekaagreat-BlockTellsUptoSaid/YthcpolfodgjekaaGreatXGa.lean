/-
 Models of functions of the program,and that they return what the models say.
-/
import Derived.Test.YthcpolfodgjekaaGreatSpecW
set_option maxRecDepth 100000
set_option maxHeartbeats 1000000
set_option linter.unusedVariables false
set_option linter.unusedSimpArgs false
namespace Go.Proofs.YthcpolfodgjekaaGreat
open Go.RowKit
noncomputable section

namespace XGF
open XAF
open XLF
open XCF
theorem tq_71 (a b:Slot):H73 Ej 4 71 [.int .i64 a.G4,.int .i64 a.Tier,.int .u8 a.Half] [.int .i64 b.G4,.int .i64 b.Tier,.int .u8 b.Half]=some (decide (a=b)):=by
 refine(show _=some ((a.G4==b.G4)&&((a.Tier==b.Tier)&&((a.Half==b.Half)&&true))) by kernel_rfl).trans (congrArg some ?_)
 rw [Bool.eq_iff_iff]
 simp only [Bool.and_eq_true,beq_iff_eq,decide_eq_true_eq,Bool.and_true]
 constructor
 ·intro h; obtain⟨_,_,_⟩:=a; obtain⟨_,_,_⟩:=b; simp_all
 ·intro h; subst h; simp
theorem Q0:Gd8 Ej 71 3=true:=by kernel_rfl
theorem J94:G26 Ej 71=true:=by kernel_rfl
theorem Q74:Ha Ej 102=true:=by kernel_rfl
theorem Q73:Ha Ej 103=true:=by kernel_rfl
theorem Hc4:Ha Ej 106=true:=by kernel_rfl
theorem Q6d:Ha Ej 114=true:=by kernel_rfl
theorem Hc2:Ha Ej 116=true:=by kernel_rfl
theorem Q6c:Ha Ej 117=true:=by kernel_rfl
theorem J90:Ha Ej 118=true:=by kernel_rfl
theorem J8f:Ha Ej 119=true:=by kernel_rfl
theorem J8e:Ha Ej 120=true:=by kernel_rfl
theorem Q6b:Ha Ej 121=true:=by kernel_rfl
theorem Q69:Ha Ej 128=true:=by kernel_rfl
theorem Q68:Ha Ej 129=true:=by kernel_rfl
theorem Q67:Ha Ej 130=true:=by kernel_rfl
theorem Q64:Ha Ej 144=true:=by kernel_rfl
theorem Q63:Ha Ej 145=true:=by kernel_rfl
theorem J8a:Ha Ej 146=true:=by kernel_rfl
theorem Q5b:Ha Ej 158=true:=by kernel_rfl
theorem Q5a:Ha Ej 159=true:=by kernel_rfl
theorem Q59:Ha Ej 160=true:=by kernel_rfl
theorem Q58:Ha Ej 161=true:=by kernel_rfl
theorem Q56:Ha Ej 169=true:=by kernel_rfl
theorem Q55:Ha Ej 170=true:=by kernel_rfl
theorem Q52:Ha Ej 175=true:=by kernel_rfl
theorem Q51:Ha Ej 176=true:=by kernel_rfl
theorem H23:Ha Ej 32=true:=by kernel_rfl
theorem Jdb:Ha Ej 40=true:=by kernel_rfl
theorem H22:Ha Ej 49=true:=by kernel_rfl
theorem Q9d:Ha Ej 63=true:=by kernel_rfl
theorem Jd4:Ha Ej 64=true:=by kernel_rfl
theorem Jd3:Ha Ej 65=true:=by kernel_rfl
theorem Jd2:Ha Ej 66=true:=by kernel_rfl
theorem Jd1:Ha Ej 67=true:=by kernel_rfl
theorem Jd0:Ha Ej 68=true:=by kernel_rfl
theorem J1a:Ha Ej 72=true:=by kernel_rfl
theorem J19:Ha Ej 80=true:=by kernel_rfl
theorem J18:Ha Ej 81=true:=by kernel_rfl
theorem Q93:Ha Ej 82=true:=by kernel_rfl
theorem Q92:Ha Ej 83=true:=by kernel_rfl
theorem H8c:Ha Ej 84=true:=by kernel_rfl
theorem Jce:Ha Ej 85=true:=by kernel_rfl
theorem H8b:Z5 Ej 71 3 24=true:=by kernel_rfl
theorem Q33:Ej.eqGuardType Ej.depth 71=false:=by kernel_rfl
theorem H67:Qd Ej 69 0 0=true:=by kernel_rfl
theorem G2c:Qd Ej 69 2 2=true:=by kernel_rfl
theorem J00:Qd Ej 69 3 3=true:=by kernel_rfl
theorem Jb:Qd Ej 71 0 0=true:=by kernel_rfl
theorem Qk:Qd Ej 71 1 1=true:=by kernel_rfl
theorem Jy:Qd Ej 71 2 2=true:=by kernel_rfl
theorem Hw:Qd Ej 73 0 0=true:=by kernel_rfl
theorem J6:Qd Ej 73 1 1=true:=by kernel_rfl
theorem J10:Gcb Ej 130 3 131=true:=by kernel_rfl
theorem Q2d:placesOf Ej 131=some []:=by kernel_rfl
theorem H66:Yf Ej 130=true:=by kernel_rfl
theorem Rh:Yf Ej 34=true:=by kernel_rfl
theorem G68:Yf Ej 57=true:=by kernel_rfl
theorem H89:Yf Ej 88=true:=by kernel_rfl
theorem Q4e:Ys Ej 130 1=true:=by kernel_rfl
theorem Q4d:Ys Ej 131 0=true:=by kernel_rfl
theorem H87:Ys Ej 71 3=true:=by kernel_rfl
theorem Q82:Ys Ej 88 1=true:=by kernel_rfl
theorem Jt:sliceB Ej 57 71 3=true:=by kernel_rfl
theorem Q4a:(Ej.info? 131).bind (fun i=>i.zero.map Value.cells)=some (List.toArray []):=by kernel_rfl
theorem Q3e:Zj Ej 130 1=true:=by kernel_rfl
theorem Q3d:Zj Ej 131 0=true:=by kernel_rfl
theorem G44:Zj Ej 71 3=true:=by kernel_rfl
theorem Q47:Zj Ej 88 1=true:=by kernel_rfl
theorem tf_zv_131:(Ej.info? 131).bind (·.zero)=some (.agg #[]):=by kernel_rfl
theorem tk_3:H54 Ej 3 (fun n:Int=>Value.int .i64 n):=H54.of_int (by kernel_rfl)
end XGF
open XAF
open XLF
open XCF
open XGF

def G97 (l:List Stowed):Option (List Slot):=
 each (fun y17 i17 (s17:(List Slot)) nx17=>
  need (decide ((s17.length+[y17.Slot].length)*24≤140737488355328∧s17.length+[y17.Slot].length≤maxLen)) <|
  nx17 (s17++[y17.Slot]))
 (fun(s17:(List Slot))=>
  some s17) l 0 []
theorem Hdd (l:List Stowed) (r:(List Slot)) (h:G97 l=some r):Pure Ej 64 [E2 l] (·=E9 r):=by
 unfold G97 at h
 refine Gx [.tmp 2] Tryz.func64 O O (Jr fun hK1=>(JLh (E9 ([]:List Slot)) (Hb 3 O O) O (G8 (hK1 (Jr fun hK2=>(JLh (OW 1103 3 Slot.av ([]:List Slot)) (G39 1103 71 3 O O O) O (G8 (hK2 (Js fun hK3=>Jr fun hK4=>(G57 (E2 l) O (JLl H0 O O O fun hm7=>(G57 (G0 0) O (G8 (hK4 (Gp ?_)))))))))))))))
 obtain⟨b17,kx17,hb17,hkx17,h⟩:=Hx h
 refine He (fun i17 (s17:(List Slot))=>each b17 kx17 (List.drop i17 l) i17 s17=some r) (fun i17 s17=>[(3,OW 1103 3 Slot.av s17),(6,E2 l),(7,Ei l.length),(8,Ei i17)]) (fun i17 s17=>[(1103,.spare 71 3 s17.length s17.length)]) (fun i17=>l.length - i17) 0 [] h ⟨(.sm O O),⟨⟨_,rfl,.same⟩,G⟩,rfl⟩ ?_
 clear h
 intro i17 s17 hi17 K17 e17
 refine Jr fun hK18=>(JLh (BL (decide ((i17:Int) < (l.length:Int)))) (J1 O O O) O (G8 (hK18 (Js fun hK19=>Gm O (fun hb=>?_) (fun hb=>?_)))))
 ·
  have hk17:=Jc hb
  obtain⟨y17,nx17,hy17,hn17,h⟩:=Hm hi17 hk17
  replace h:=Rn hb17 h
  refine Gn (hK19 (Js fun hK20=>Gp (Jr fun hK21=>(JLh (Ec y17) (Gw (f:=Stowed.av) (xs:=l) (y:=y17) O O O H0 hy17 O) O (JLh (.agg (Stowed.cs y17)) (Gj Z8 O O O) O (JLh (.ptr 1104 0) (Ju 1104 4 G13 O O) O (Jf (u:=.junk) (J2 (u:=.agg (Stowed.cs y17)) (ds:=[G0 y17.Gg,G0 y17.Slot.G4,G0 y17.Slot.Tier,U8 y17.Slot.Half]) G36 O O O O O O O O) (G8 (hK21 (Gu [(3,OW 1103 3 Slot.av s17),(5,Ec y17),(6,E2 l),(7,Ei l.length),(8,Ei i17)] [(1103,.spare 71 3 s17.length s17.length)] 1104 rfl rfl rfl ⟨⟨_,rfl,.same⟩,G⟩ rfl (by repeat' (first | exact .ptr | constructor)) (G3 ?_)))))))))))
  refine G57 (OW 1103 3 Slot.av s17) O (JLh (.dptr ((Stowed.cs y17).drop 1)) (Ga J6 O O O) O (JLh (.agg ((Stowed.cs y17).drop 1)) (Gj Q0 O O O) O (JLh (E9 [y17.Slot]) (Hd (xs:=[.agg ((Stowed.cs y17).drop 1)]) O ⟨O,O,G⟩ Jt G44 O O O O) O ?_)))
  obtain⟨ha22,h⟩:=Hv h
  refine JLh (OW 1103 3 Slot.av (s17++[y17.Slot])) (Qo (f:=Slot.av) (xs:=s17) (ys:=[y17.Slot]) O O O O Jt H8b ha22 (fun _=>O) (.inl O) O) O (G57 (OW 1103 3 Slot.av (s17++[y17.Slot])) O (G8 (hK20 (G3 (JLh (G0 ((i17+1:Nat):Int)) (Hu (Hc hk17 hm7) O O O) O (G57 (G0 ((i17+1:Nat):Int)) O (G8 (e17 _ _ (i17+1) (s17++[y17.Slot]) (app1 hn17 h) (by omega) ⟨(.sm O O),⟨⟨_,rfl,.same⟩,G⟩,rfl⟩))))))))
 ·
  have h:=app1 hkx17 (Hn hi17 (H6 hb))
  refine Hk (hK3 (Jr fun hK23=>(G57 (OW 1103 3 Slot.av s17) O (G57 (OW 1103 3 Slot.av s17) O (G8 (hK23 (Gr (fin1l (fun r:(List Slot)=>(E9 r:AV)) h))))))))

def Gac (b:Gg) (p1:Int):Option Bool:=
 some (decide (b.ID=p1))
theorem Jb5 (b:Gg) (p1:Int) (r:Bool) (h:Gac b p1=some r):Pure Ej 103 [.agg (Gg.cs b),.dptr [G0 p1]] (·=BL r):=by
 unfold Gac at h
 refine Gx [.tmp 3] Tryz.func103 O O (Jr fun hK1=>(JLh (.ptr 1148 0) (Ja (cs:=(Gg.cs b)) 1148 O O O O O) O (G57 (BL false) O (G8 (hK1 (Gu [(1,.dptr [G0 p1]),(2,Ee b)] [] 1148 rfl rfl rfl G rfl (by exact⟨.conv (.same rfl),.ptr,G⟩) (Jr fun hK2=>(JLh (Ee b) (Ga H67 O O O) O (JLh (G0 b.ID) (Gf Gc O O O) O (JLh (G0 p1) (Gf Gc O O O) O (JLh (BL (decide (b.ID=p1))) (Jx O O O) O (G57 (BL (decide (b.ID=p1))) O (G8 (hK2 (Gr (fin1 BL h))))))))))))))))

def Zx (s:List Gg) (f:Gg→Option Bool):Option Int:=
 each (fun y20 i20 (s20:Unit) nx20=>
  bnd (f y20) fun r26=>
  bif r26 then
  (some (i20:Int))
  else
  (nx20 ()))
 (fun(s20:Unit)=>
  some (-1)) s 0 ()
theorem H17 (s:List Gg) (f:Gg→Option Bool) (f_f:FuncId) (f_c:List AV) (f_B:Ha Ej f_f=true) (f_d:G15 (fun _=>false) f_c=true) (f_w:∀ a0 q,f a0=some q→Pure Ej f_f ([.agg (Gg.cs a0)]++f_c) (·=BL q)) (r:Int) (h:Zx s f=some r):Pure Ej 102 [E3 s,.fn f_f f_c] (·=G0 r):=by
 unfold Zx at h
 refine Gx [.tmp 4] Tryz.func102 O O (Jr fun hK1=>(G57 (G0 0) O (G8 (hK1 (Js fun hK2=>Jr fun hK3=>(G57 (E3 s) O (JLl Jv O O O fun hm7=>(G57 (G0 0) O (G8 (hK3 (Gp ?_)))))))))))
 obtain⟨b20,kx20,hb20,hkx20,h⟩:=Hx h
 refine He (fun i20 (s20:Unit)=>each b20 kx20 (List.drop i20 s) i20 s20=some r) (fun i20 s20=>[(0,E3 s),(1,.fn f_f f_c),(7,Ei s.length),(8,Ei i20)]) (fun i20 s20=>[]) (fun i20=>s.length - i20) 0 () h ⟨⟨.same O,.same (R0 _ _ f_d),.same O,.same O,G⟩,G,O⟩ ?_
 clear h
 intro i20 s20 hi20 K20 e20
 refine Jr fun hK21=>(JLh (BL (decide ((i20:Int) < (s.length:Int)))) (J1 O O O) O (G8 (hK21 (Js fun hK22=>Gm O (fun hb=>?_) (fun hb=>?_)))))
 ·
  have hk20:=Jc hb
  obtain⟨y20,nx20,hy20,hn20,h⟩:=Hm hi20 hk20
  replace h:=Rn hb20 h
  refine Gn (hK22 (Js fun hK23=>Gp (Jr fun hK24=>(G57 (Ei i20) O (G57 (Ei i20) O (G8 (hK24 (Jr fun hK25=>(G57 (.fn f_f f_c) O (G57 (E3 s) O (G57 (Ei i20) O (JLh (Ee y20) (Gw (f:=Gg.av) (xs:=s) (y:=y20) O O O Jv hy20 O) O (JLh (.agg (Gg.cs y20)) (Gj G33 O O O) O ?_)))))))))))))
  obtain⟨r26,hr26,h⟩:=Ge h
  refine JLh (BL r26) (G8d (args:=[.agg (Gg.cs y20)]) (caps:=f_c) O O (f_w y20 _ hr26) f_B ⟨O,O,G⟩ f_d) O (G8 (hK25 (JCc O h (fun h hb=>?_) (fun h hb=>?_))))
  ·
   refine Jr fun hK27=>(G57 (Ei i20) O (G57 (Ei i20) O (G8 (hK27 (Gr (fin1 G0 h))))))
  ·
   refine Gn (hK23 (G3 (JLh (G0 ((i20+1:Nat):Int)) (Hu (Hc hk20 hm7) O O O) O (G57 (G0 ((i20+1:Nat):Int)) O (G8 (e20 _ _ (i20+1) () (app1 hn20 h) (by omega) ⟨⟨.same rfl,.same (R0 _ _ f_d),.same rfl,.same rfl,G⟩,G,rfl⟩))))))
 ·
  have h:=app1 hkx20 (Hn hi20 (H6 hb))
  refine Hk (hK2 (Jr fun hK28=>(G57 (G0 (-1)) O (G8 (hK28 (Gr (fin1 G0 h)))))))

def G4c (boxes:List Gg) (id_:Int):Option (Gg×Bool):=
 bnd (Zx boxes (fun z0=>Gac z0 id_)) fun r3=>
 bif decide (r3 < 0) then
 (some ((Gg.mk 0 ByteArray.empty 0 false 0 0 0 0 false),false))
 else
 (Qr boxes r3 fun y8=>
  some (y8,true))
theorem Gab (boxes:List Gg) (id_:Int) (r:Gg×Bool) (h:G4c boxes id_=some r):Pure Ej 49 [E3 boxes,G0 id_] (·=.tup [.agg (Gg.cs r.1),BL r.2]):=by
 unfold G4c at h
 refine Gx [.cell 4 69,.tmp 5] Tryz.func49 O O (Jr fun hK1=>(JLh (.ptr 1080 0) (Ja (cs:=[G0 id_]) 1080 O O O O O) O (JLh (.ptr 1081 0) (G1d 1081 [G0 0,ST ByteArray.empty,U8 0,BL false,G0 0,G0 0,G0 0,U8 0,BL false] [E0,.string ByteArray.empty,.int .u8 0,.bool false,E0,E0,E0,.int .u8 0,.bool false] G05 ⟨.inl O,.inl O,.inl O,.inl O,.inl O,.inl O,.inl O,.inl O,.inl O,G⟩ O O) O (G57 (BL false) O (G8 (hK1 (Gu [(0,E3 boxes),(3,.dptr [G0 id_]),(4,.ptr 1081 0)] [(1081,.box 69 [G0 0,ST ByteArray.empty,U8 0,BL false,G0 0,G0 0,G0 0,U8 0,BL false])] 1080 rfl rfl rfl ⟨⟨_,rfl,.boxEq rfl rfl⟩,G⟩ rfl (by exact⟨.conv (.same rfl),.ptr,.conv (.same rfl),G⟩) ?_)))))))
 refine Jr fun hK2=>(G57 (E3 boxes) O (JLh (.fn 103 [.dptr [G0 id_]]) (G23 (cs:=[.dptr [G0 id_]]) O O) O ?_))
 obtain⟨r3,hr3,h⟩:=Ge h
 refine JLh (G0 r3) (Gk O (H17 boxes (fun z0=>Gac z0 id_) 103 [.dptr [G0 id_]] Q73 O (fun z0 q hq=>Jb5 z0 id_ q hq) r3 hr3) Q74 ⟨O,O,O,O,G⟩) O (G57 (G0 r3) O (G8 (hK2 (Js fun hK4=>Jr fun hK5=>(G57 (G0 r3) O (JLh (BL (decide (r3 < 0))) (J1 O O O) O (G8 (hK5 (JCc O h (fun h hb=>?_) (fun h hb=>?_))))))))))
 ·
  refine Jr fun hK6=>(JLh (.agg [G0 0,ST ByteArray.empty,U8 0,BL false,G0 0,G0 0,G0 0,U8 0,BL false]) (Jj (cs:=[G0 0,ST ByteArray.empty,U8 0,BL false,G0 0,G0 0,G0 0,U8 0,BL false]) [(0,1),(1,1),(2,1),(3,1),(4,1),(5,1),(6,1),(7,1),(8,1)] [G0 0,ST ByteArray.empty,U8 0,BL false,G0 0,G0 0,G0 0,U8 0,BL false] [E0,.string ByteArray.empty,.int .u8 0,.bool false,E0,E0,E0,.int .u8 0,.bool false] G0d G05 ⟨.inl O,.inl O,.inl O,.inl O,.inl O,.inl O,.inl O,.inl O,.inl O,G⟩ O O) O (Jf (u:=.junk) (J2 (u:=.agg [G0 0,ST ByteArray.empty,U8 0,BL false,G0 0,G0 0,G0 0,U8 0,BL false]) (ds:=[G0 0,ST ByteArray.empty,U8 0,BL false,G0 0,G0 0,G0 0,U8 0,BL false]) G06 O O O O O O O O) (G57 (BL false) O (G8 (hK6 ?_)))))
  refine Gr (⟨[.agg [G0 0,ST ByteArray.empty,U8 0,BL false,G0 0,G0 0,G0 0,U8 0,BL false],BL false],[],G,O,⟨⟨_,⟨_,_,_,_,O,O,O,.inl ⟨G33,O⟩⟩,.conv (.same O)⟩,⟨_,O,.conv (.same O)⟩,G⟩,O,congrArg (fun r:Gg×Bool=>(.tup [.agg (Gg.cs r.1),BL r.2]:AV)) (Option.some.inj h)⟩)
 ·
  refine Gn (hK4 (Jr fun hK7=>(G57 (E3 boxes) O (G57 (G0 r3) O ?_))))
  obtain⟨m9,y8,hm9,hy8,h⟩:=R2 h
  refine JLh (Ee y8) (Gw (f:=Gg.av) (xs:=boxes) (y:=y8) O O O Jv hy8 hm9) O (JLh (.agg (Gg.cs y8)) (Gj G33 O O O) O (Jf (u:=.junk) (J2 (u:=.agg (Gg.cs y8)) (ds:=(Gg.cs y8)) G06 O O O O O O O O) (G57 (BL true) O (G8 (hK7 (Gr (⟨[.agg (Gg.cs y8),BL true],[],G,O,⟨⟨_,⟨_,_,_,_,O,O,O,.inl ⟨G33,O⟩⟩,.conv (.same O)⟩,⟨_,O,.conv (.same O)⟩,G⟩,O,congrArg (fun r:Gg×Bool=>(.tup [.agg (Gg.cs r.1),BL r.2]:AV)) (Option.some.inj h)⟩)))))))

def G1b (s:List Int) (v:Int):Option Int:=
 each (fun y18 i18 (s18:Unit) nx18=>
  bif decide (v=y18) then
  (some (i18:Int))
  else
  (nx18 ()))
 (fun(s18:Unit)=>
  some (-1)) s 0 ()
theorem Ha7 (s:List Int) (v:Int) (r:Int) (h:G1b s v=some r):Pure Ej 158 [Ea s,U8 v] (·=G0 r):=by
 unfold G1b at h
 refine Gx [.tmp 4] Tryz.func158 O O (Jr fun hK1=>(G57 (G0 0) O (G8 (hK1 (Js fun hK2=>Jr fun hK3=>(G57 (Ea s) O (JLl G8f O O O fun hm7=>(G57 (G0 0) O (G8 (hK3 (Gp ?_)))))))))))
 obtain⟨b18,kx18,hb18,hkx18,h⟩:=Hx h
 refine He (fun i18 (s18:Unit)=>each b18 kx18 (List.drop i18 s) i18 s18=some r) (fun i18 s18=>[(0,Ea s),(1,U8 v),(7,Ei s.length),(8,Ei i18)]) (fun i18 s18=>[]) (fun i18=>s.length - i18) 0 () h ⟨(.sm O O),G,rfl⟩ ?_
 clear h
 intro i18 s18 hi18 K18 e18
 refine Jr fun hK19=>(JLh (BL (decide ((i18:Int) < (s.length:Int)))) (J1 O O O) O (G8 (hK19 (Js fun hK20=>Gm O (fun hb=>?_) (fun hb=>?_)))))
 ·
  have hk18:=Jc hb
  obtain⟨y18,nx18,hy18,hn18,h⟩:=Hm hi18 hk18
  replace h:=Rn hb18 h
  refine Gn (hK20 (Js fun hK21=>Gp (Jr fun hK22=>(G57 (Ei i18) O (G57 (Ei i18) O (G8 (hK22 (Jr fun hK23=>(G57 (U8 v) O (G57 (Ea s) O (G57 (Ei i18) O (JLh (.dptr [U8 y18]) (Gw (f:=U8) (xs:=s) (y:=y18) O O O G8f hy18 O) O (JLh (U8 y18) (Gf Jd O O O) O (JLh (BL (decide (v=y18))) (Jx O O O) O (G8 (hK23 (JCc O h (fun h hb=>?_) (fun h hb=>?_))))))))))))))))))
  ·
   refine Jr fun hK24=>(G57 (Ei i18) O (G57 (Ei i18) O (G8 (hK24 (Gr (fin1 G0 h))))))
  ·
   refine Gn (hK21 (G3 (JLh (G0 ((i18+1:Nat):Int)) (Hu (Hc hk18 hm7) O O O) O (G57 (G0 ((i18+1:Nat):Int)) O (G8 (e18 _ _ (i18+1) () (app1 hn18 h) (by omega) ⟨(.sm O O),G,rfl⟩))))))
 ·
  have h:=app1 hkx18 (Hn hi18 (H6 hb))
  refine Hk (hK2 (Jr fun hK25=>(G57 (G0 (-1)) O (G8 (hK25 (Gr (fin1 G0 h)))))))

def Zh (s:List Int) (v:Int):Option Bool:=
 bnd (G1b s v) fun r3=>
 some (decide (0≤r3))
theorem H52 (s:List Int) (v:Int) (r:Bool) (h:Zh s v=some r):Pure Ej 114 [Ea s,U8 v] (·=BL r):=by
 unfold Zh at h
 refine Gx [.tmp 4] Tryz.func114 O O (Jr fun hK1=>(G57 (BL false) O (G8 (hK1 (Jr fun hK2=>(G57 (Ea s) O (G57 (U8 v) O ?_)))))))
 obtain⟨r3,hr3,h⟩:=Ge h
 refine JLh (G0 r3) (Gk O (Ha7 s v r3 hr3) Q5b ⟨O,O,O,O,G⟩) O (JLh (BL (decide (0≤r3))) (G31 O O O) O (G57 (BL (decide (0≤r3))) O (G8 (hK2 (Gr (fin1 BL h))))))

def G98 (s:H2) (x:Slot) (size:Int):Option Bool:=
 bnd (bif (((decide (0≤x.G4))&&(decide (x.G4 < (s.Columns.length:Int))))&&(decide (0≤x.Tier))) then Qr s.Columns x.G4 some else some default) fun y3=>
 bnd (bif ((((decide (0≤x.G4))&&(decide (x.G4 < (s.Columns.length:Int))))&&(decide (0≤x.Tier)))&&(decide (x.Tier < y3.Tiers))) then G55 size else some default) fun r4=>
 bnd (bif ((((decide (0≤x.G4))&&(decide (x.G4 < (s.Columns.length:Int))))&&(decide (0≤x.Tier)))&&(decide (x.Tier < y3.Tiers))) then Zh r4 x.Half else some default) fun r5=>
 some (((((decide (0≤x.G4))&&(decide (x.G4 < (s.Columns.length:Int))))&&(decide (0≤x.Tier)))&&(decide (x.Tier < y3.Tiers)))&&r5)
theorem Hdf (s:H2) (x:Slot) (size:Int) (r:Bool) (h:G98 s x size=some r):Pure Ej 65 [.agg (H2.cs s),.agg [G0 x.G4,G0 x.Tier,U8 x.Half],U8 size] (·=BL r):=by
 unfold G98 at h
 refine Gx [.tmp 6] Tryz.func65 O O (Jr fun hK1=>(JLh (.ptr 1105 0) (Ja (cs:=(H2.cs s)) 1105 O O O O O) O (JLh (.ptr 1106 0) (Ja (cs:=[G0 x.G4,G0 x.Tier,U8 x.Half]) 1106 O O O O O) O (G57 (BL false) O (G8 (hK1 ?_))))))
 refine Gu [(2,U8 size),(3,Eb s),(4,.ptr 1106 0)] [(1106,.box 71 [G0 x.G4,G0 x.Tier,U8 x.Half])] 1105 rfl rfl rfl ⟨⟨_,rfl,.boxEq rfl rfl⟩,G⟩ rfl (by exact⟨.conv (.same rfl),.ptr,.conv (.same rfl),G⟩) ?_
 refine Gu [(2,U8 size),(3,Eb s),(4,.dptr [G0 x.G4,G0 x.Tier,U8 x.Half])] [] 1106 rfl rfl rfl G rfl (by exact⟨.conv (.same rfl),.conv (.same rfl),.ptr,G⟩) (Js fun hK2=>?_)
 obtain⟨y3,hy3,h⟩:=Ge h
 obtain⟨r4,hr4,h⟩:=Ge h
 obtain⟨r5,hr5,h⟩:=Ge h
 refine JC_d0 Jg (by kernel_rfl) (Dq (.dptr [G0 x.G4,G0 x.Tier,U8 x.Half]) (Ga Jb O O O) O (Dq (G0 x.G4) (Gf Gc O O O) O (Dq (BL (decide (0≤x.G4))) (G31 O O O) O (Dq (BL (decide (0≤x.G4))) (G5 O O) O (Do (.dptr [G0 x.G4,G0 x.Tier,U8 x.Half]) [] O .sct G (fun hc=>Ga Jb O O O) O (Do (G0 x.G4) [11] O .sct ⟨Ua,G⟩ (fun hc=>Gf Gc O O O) O (Do (Eb s) [] O .sct G (fun hc=>Ga Hj O O O) O (Do (E4 s.Columns) [13] O .sct ⟨Ua,G⟩ (fun hc=>Gf Ht O O O) O (Do (Ei s.Columns.length) [14] O .sct ⟨Ua,G⟩ (fun hc=>Qw (f:=G4.av) (xs:=s.Columns) H5 O O) O (Do (BL (decide (x.G4 < (s.Columns.length:Int)))) [12,15] O .sct ⟨Ua,Ua,G⟩ (fun hc=>J1 O O O) O (Dq (BL ((decide (0≤x.G4))&&(decide (x.G4 < (s.Columns.length:Int))))) (J5 O O O O) O (Dq (BL ((decide (0≤x.G4))&&(decide (x.G4 < (s.Columns.length:Int))))) (G5 O O) O (Do (.dptr [G0 x.Tier,U8 x.Half]) [] O .sct G (fun hc=>Ga Qk O O O) O ?_)))))))))))))
 refine Do (G0 x.Tier) [19] O .sct ⟨Ua,G⟩ (fun hc=>Gf Gc O O O) O (Do (BL (decide (0≤x.Tier))) [20] O .sct ⟨Ua,G⟩ (fun hc=>G31 O O O) O (Dq (BL (((decide (0≤x.G4))&&(decide (x.G4 < (s.Columns.length:Int))))&&(decide (0≤x.Tier)))) (J5 O O O O) O (Dq (BL (((decide (0≤x.G4))&&(decide (x.G4 < (s.Columns.length:Int))))&&(decide (0≤x.Tier)))) (G5 O O) O (Do (.dptr [G0 x.Tier,U8 x.Half]) [] O .sct G (fun hc=>Ga Qk O O O) O (Do (G0 x.Tier) [24] O .sct ⟨Ua,G⟩ (fun hc=>Gf Gc O O O) O (Do (Eb s) [] O .sct G (fun hc=>Ga Hj O O O) O (Do (E4 s.Columns) [26] O .sct ⟨Ua,G⟩ (fun hc=>Gf Ht O O O) O (Do (.dptr [G0 x.G4,G0 x.Tier,U8 x.Half]) [] O .sct G (fun hc=>Ga Jb O O O) O (Do (G0 x.G4) [28] O .sct ⟨Ua,G⟩ (fun hc=>Gf Gc O O O) O (Do (Ed y3) [27,29] O .sct ⟨Ua,Ua,G⟩ (fun hc=>(match Qa (Gy hc hy3) with | ⟨_,hm_,hy_⟩=>Gw (f:=G4.av) (xs:=s.Columns) (y:=y3) O O O H5 hy_ hm_)) O (Do (.dptr ((G4.cs y3).drop 3)) [30] O .sct ⟨Ua,G⟩ (fun hc=>Ga Zm O O O) O (Do (G0 y3.Tiers) [31] O .sct ⟨Ua,G⟩ (fun hc=>Gf Gc O O O) O (Do (BL (decide (x.Tier < y3.Tiers))) [25,32] O .sct ⟨Ua,Ua,G⟩ (fun hc=>J1 O O O) O ?_)))))))))))))
 refine Dq (BL ((((decide (0≤x.G4))&&(decide (x.G4 < (s.Columns.length:Int))))&&(decide (0≤x.Tier)))&&(decide (x.Tier < y3.Tiers)))) (J5 O O O O) O (Dq (BL ((((decide (0≤x.G4))&&(decide (x.G4 < (s.Columns.length:Int))))&&(decide (0≤x.Tier)))&&(decide (x.Tier < y3.Tiers)))) (G5 O O) O (Do (U8 size) [] O .sct G (fun hc=>G5 O O) O (Do (Ea r4) [36] O .sct ⟨Ua,G⟩ (fun hc=>Gk (args:=[U8 size]) O (Haf size r4 (Gy hc hr4)) J91 ⟨O,O,G⟩) O (Do (.dptr [U8 x.Half]) [] O .sct G (fun hc=>Ga Jy O O O) O (Do (U8 x.Half) [38] O .sct ⟨Ua,G⟩ (fun hc=>Gf Jd O O O) O (Do (BL r5) [37,39] O .sct ⟨Ua,Ua,G⟩ (fun hc=>Gk (args:=[Ea r4,U8 x.Half]) O (H52 r4 x.Half r5 (Gy hc hr5)) Q6d ⟨O,O,O,O,G⟩) O (Dq (BL (((((decide (0≤x.G4))&&(decide (x.G4 < (s.Columns.length:Int))))&&(decide (0≤x.Tier)))&&(decide (x.Tier < y3.Tiers)))&&r5)) (J5 O O O O) O (Dq (BL (((((decide (0≤x.G4))&&(decide (x.G4 < (s.Columns.length:Int))))&&(decide (0≤x.Tier)))&&(decide (x.Tier < y3.Tiers)))&&r5)) (G7 O O) O (Dnil ?_)))))))))
 refine hK2 (Gr (fin1 BL h))

def Zt (s:List Slot) (v:Slot):Option Int:=
 each (fun y18 i18 (s18:Unit) nx18=>
  bif decide (v=y18) then
  (some (i18:Int))
  else
  (nx18 ()))
 (fun(s18:Unit)=>
  some (-1)) s 0 ()
theorem H6f (s:List Slot) (v:Slot) (r:Int) (h:Zt s v=some r):Pure Ej 159 [E9 s,.agg [G0 v.G4,G0 v.Tier,U8 v.Half]] (·=G0 r):=by
 unfold Zt at h
 refine Gx [.tmp 4] Tryz.func159 O O (Jr fun hK1=>(JLh (.ptr 1188 0) (Ja (cs:=[G0 v.G4,G0 v.Tier,U8 v.Half]) 1188 O O O O O) O (G57 (G0 0) O (G8 (hK1 (Gu [(0,E9 s),(3,.dptr [G0 v.G4,G0 v.Tier,U8 v.Half])] [] 1188 rfl rfl rfl G rfl (by exact⟨.conv (.same rfl),.ptr,G⟩) (Js fun hK2=>Jr fun hK3=>(G57 (E9 s) O (JLl Jt O O O fun hm7=>(G57 (G0 0) O (G8 (hK3 (Gp ?_)))))))))))))
 obtain⟨b18,kx18,hb18,hkx18,h⟩:=Hx h
 refine He (fun i18 (s18:Unit)=>each b18 kx18 (List.drop i18 s) i18 s18=some r) (fun i18 s18=>[(0,E9 s),(3,.dptr [G0 v.G4,G0 v.Tier,U8 v.Half]),(7,Ei s.length),(8,Ei i18)]) (fun i18 s18=>[]) (fun i18=>s.length - i18) 0 () h ⟨(.sm O O),G,rfl⟩ ?_
 clear h
 intro i18 s18 hi18 K18 e18
 refine Jr fun hK19=>(JLh (BL (decide ((i18:Int) < (s.length:Int)))) (J1 O O O) O (G8 (hK19 (Js fun hK20=>Gm O (fun hb=>?_) (fun hb=>?_)))))
 ·
  have hk18:=Jc hb
  obtain⟨y18,nx18,hy18,hn18,h⟩:=Hm hi18 hk18
  replace h:=Rn hb18 h
  refine Gn (hK20 (Js fun hK21=>Gp (Jr fun hK22=>(G57 (Ei i18) O (G57 (Ei i18) O (G8 (hK22 (Js fun hK23=>JC_d0 Jg (by kernel_rfl) (Dq (.agg [G0 v.G4,G0 v.Tier,U8 v.Half]) (Gj Q0 O O O) O (Dq (E9 s) (G5 O O) O (Dq (Ei i18) (G5 O O) O (Dq (Eg y18) (Gw (f:=Slot.av) (xs:=s) (y:=y18) O O O Jt hy18 O) O (Dq (.agg (Slot.cs y18)) (Gj Q0 O O O) O (Dq (BL (decide (v=y18))) (Gd5 (vs:=[.int .i64 v.G4,.int .i64 v.Tier,.int .u8 v.Half]) (us:=[.int .i64 y18.G4,.int .i64 y18.Tier,.int .u8 y18.Half]) 4 O (tq_71 v y18) J94 Q33 O O O) O (Dnil (hK23 (JCc O h (fun h hb=>?_) (fun h hb=>?_))))))))))))))))))
  ·
   refine Jr fun hK24=>(G57 (Ei i18) O (G57 (Ei i18) O (G8 (hK24 (Gr (fin1 G0 h))))))
  ·
   refine Gn (hK21 (G3 (JLh (G0 ((i18+1:Nat):Int)) (Hu (Hc hk18 hm7) O O O) O (G57 (G0 ((i18+1:Nat):Int)) O (G8 (e18 _ _ (i18+1) () (app1 hn18 h) (by omega) ⟨(.sm O O),G,rfl⟩))))))
 ·
  have h:=app1 hkx18 (Hn hi18 (H6 hb))
  refine Hk (hK2 (Jr fun hK25=>(G57 (G0 (-1)) O (G8 (hK25 (Gr (fin1 G0 h)))))))

def Yp (s:List Slot) (v:Slot):Option Bool:=
 bnd (Zt s v) fun r3=>
 some (decide (0≤r3))
theorem H18 (s:List Slot) (v:Slot) (r:Bool) (h:Yp s v=some r):Pure Ej 117 [E9 s,.agg [G0 v.G4,G0 v.Tier,U8 v.Half]] (·=BL r):=by
 unfold Yp at h
 refine Gx [.tmp 4] Tryz.func117 O O (Jr fun hK1=>(JLh (.ptr 1164 0) (Ja (cs:=[G0 v.G4,G0 v.Tier,U8 v.Half]) 1164 O O O O O) O (G57 (BL false) O (G8 (hK1 (Gu [(0,E9 s),(3,.dptr [G0 v.G4,G0 v.Tier,U8 v.Half])] [] 1164 rfl rfl rfl G rfl (by exact⟨.conv (.same rfl),.ptr,G⟩) (Jr fun hK2=>(G57 (E9 s) O (JLh (.agg [G0 v.G4,G0 v.Tier,U8 v.Half]) (Gj Q0 O O O) O ?_)))))))))
 obtain⟨r3,hr3,h⟩:=Ge h
 refine JLh (G0 r3) (Gk O (H6f s v r3 hr3) Q5a ⟨O,O,O,O,G⟩) O (JLh (BL (decide (0≤r3))) (G31 O O O) O (G57 (BL (decide (0≤r3))) O (G8 (hK2 (Gr (fin1 BL h))))))

def G56 (half:Int) (p1:List Slot) (p2:Slot):Option Bool:=
 G35 (p2.Tier - 1) fun v3=>
 bnd (Yp p1 (Slot.mk p2.G4 v3 half)) fun r4=>
 some r4
theorem H08 (half:Int) (p1:List Slot) (p2:Slot) (r:Bool) (h:G56 half p1 p2=some r):Pure Ej 116 [U8 half,.dptr [E9 p1],.dptr [G0 p2.G4,G0 p2.Tier,U8 p2.Half]] (·=BL r):=by
 unfold G56 at h
 refine Gx [.tmp 4] Tryz.func116 O O (Jr fun hK1=>(G57 (BL false) O (G8 (hK1 (Jr fun hK2=>(JLh (E9 p1) (Gf G68 O O O) O (JLh (.dptr [G0 p2.G4,G0 p2.Tier,U8 p2.Half]) (Ga Jb O O O) O (JLh (G0 p2.G4) (Gf Gc O O O) O (JLh (.dptr [G0 p2.Tier,U8 p2.Half]) (Ga Qk O O O) O (JLh (G0 p2.Tier) (Gf Gc O O O) O ?_))))))))))
 obtain⟨v3,hv3,h⟩:=Qj h
 refine JLh (G0 v3) (Gd4 hv3 O O O) O (G57 (U8 half) O (JLh (.agg [G0 p2.G4,G0 v3,U8 half]) (Jj (cs:=[G0 p2.G4,G0 v3,U8 half]) [(0,1),(1,1),(2,1)] [G0 0,G0 0,U8 0] [E0,E0,.int .u8 0] G91 Gda ⟨.inl O,.inl O,.inl O,G⟩ O O) O ?_))
 obtain⟨r4,hr4,h⟩:=Ge h
 refine JLh (BL r4) (Gk O (H18 p1 (Slot.mk p2.G4 v3 half) r4 hr4) Q6c ⟨O,O,O,O,G⟩) O (G57 (BL r4) O (G8 (hK2 (Gr (fin1 BL h)))))

def Gbf (x:Slot) (l:List Slot):Option Bool:=
 bif decide (x.Tier≤0) then
 (some true)
 else
 (bnd (G56 x.Half l x) fun r7=>
  bnd (bif ((!r7)&&(decide (x.Half=0))) then G56 1 l x else some default) fun r8=>
  bnd (bif ((!r7)&&((decide (x.Half=0))&&r8)) then G56 2 l x else some default) fun r9=>
  some (r7||(((decide (x.Half=0))&&r8)&&r9)))
abbrev Eo (l:List Slot) (x:Slot):List AV:=[.dptr [E9 l],.dptr [G0 x.G4,G0 x.Tier,U8 x.Half]]
theorem J0a (x:Slot) (l:List Slot) (r:Bool) (h:Gbf x l=some r):Pure Ej 66 [.agg [G0 x.G4,G0 x.Tier,U8 x.Half],E9 l] (·=BL r):=by
 unfold Gbf at h
 refine Gx [.tmp 4] Tryz.func66 O O (Jr fun hK1=>(JLh (.ptr 1107 0) (Ja (cs:=[G0 x.G4,G0 x.Tier,U8 x.Half]) 1107 O O O O O) O (JLh (.ptr 1108 0) (Ja (cs:=[E9 l]) 1108 O O O O O) O (G57 (BL false) O (G8 (hK1 (Gu [(2,.dptr [G0 x.G4,G0 x.Tier,U8 x.Half]),(3,.ptr 1108 0)] [(1108,.box 57 [E9 l])] 1107 rfl rfl rfl ⟨⟨_,rfl,.boxEq rfl rfl⟩,G⟩ rfl (by exact⟨.ptr,.conv (.same rfl),G⟩) (Gu [(2,.dptr [G0 x.G4,G0 x.Tier,U8 x.Half]),(3,.dptr [E9 l])] [] 1108 rfl rfl rfl G rfl (by exact⟨.conv (.same rfl),.ptr,G⟩) (Js fun hK2=>Jr fun hK3=>(JLh (.dptr [G0 x.Tier,U8 x.Half]) (Ga Qk O O O) O (JLh (G0 x.Tier) (Gf Gc O O O) O (JLh (BL (decide (x.Tier≤0))) (He6 O O O) O (G8 (hK3 ?_))))))))))))))
 refine JCc O h ?_ ?_<;>intro h hb
 ·
  refine Jr fun hK4=>(G57 (BL true) O (G8 (hK4 (Gr (fin1 BL h)))))
 ·
  refine Gn (hK2 (Jr fun hK5=>(JLh (.fn 116 (Eo l x)) (G23 (cs:=(Eo l x)) O O) O (G57 (.fn 116 (Eo l x)) O (G8 (hK5 (Jr fun hK6=>(G57 (.fn 116 (Eo l x)) O (JLh (.dptr [U8 x.Half]) (Ga Jy O O O) O (JLh (U8 x.Half) (Gf Jd O O O) O ?_))))))))))
  obtain⟨r7,hr7,h⟩:=Ge h
  refine JLh (BL r7) (G8d (args:=[U8 x.Half]) (caps:=(Eo l x)) O O (H08 x.Half l x r7 hr7) Hc2 ⟨O,O,G⟩ O) O (G57 (BL r7) O (JLo (.dptr [U8 x.Half]) [] O .scf G (fun hc=>Ga Jy O O O) O (JLo (U8 x.Half) [15] O .scf ⟨Ua,G⟩ (fun hc=>Gf Jd O O O) O (JLo (BL (decide (x.Half=0))) [16] O .scf ⟨Ua,G⟩ (fun hc=>Jx O O O) O (JLo (BL (decide (x.Half=0))) [17] O .scf ⟨Ua,G⟩ (fun hc=>G5 O O) O (JLo (.fn 116 (Eo l x)) [] O .optt G (fun hc=>G5 O O) O ?_))))))
  obtain⟨r8,hr8,h⟩:=Ge h
  refine JLo (BL r8) [19] O .optt ⟨Ua,G⟩ (fun hc=>G8d (args:=[U8 1]) (caps:=(Eo l x)) O O (H08 1 l x r8 (Gy hc hr8)) Hc2 ⟨O,O,G⟩ O) O (Gb (u:=BL ((decide (x.Half=0))&&r8)) [(18,BL (decide (x.Half=0))),(20,_)] O O O .scf ⟨.all id,.part,G⟩ (fun hc=>J5 O O O O) ?_)
  refine JLo (BL ((decide (x.Half=0))&&r8)) [21] O .scf ⟨Ua,G⟩ (fun hc=>G5 O O) O (JLo (.fn 116 (Eo l x)) [] O .optt G (fun hc=>G5 O O) O ?_)
  obtain⟨r9,hr9,h⟩:=Ge h
  refine JLo (BL r9) [23] O .optt ⟨Ua,G⟩ (fun hc=>G8d (args:=[U8 2]) (caps:=(Eo l x)) O O (H08 2 l x r9 (Gy hc hr9)) Hc2 ⟨O,O,G⟩ O) O (Gb (u:=BL (((decide (x.Half=0))&&r8)&&r9)) [(22,BL ((decide (x.Half=0))&&r8)),(24,_)] O O O .scf ⟨.all id,.part,G⟩ (fun hc=>J5 O O O O) ?_)
  refine JLh (BL (r7||(((decide (x.Half=0))&&r8)&&r9))) (Yc O O O O) O (G57 (BL (r7||(((decide (x.Half=0))&&r8)&&r9))) O (G8 (hK6 (Gr (fin1 BL h)))))

def G74 (a:Int) (b:Int):Option Bool:=
 some (((decide (a=b))||(decide (a=0)))||(decide (b=0)))
theorem Hae (a:Int) (b:Int) (r:Bool) (h:G74 a b=some r):Pure Ej 118 [U8 a,U8 b] (·=BL r):=by
 unfold G74 at h
 refine Gx [.tmp 4] Tryz.func118 O O (Jr fun hK1=>(G57 (BL false) O (G8 (hK1 (Jr fun hK2=>(G57 (U8 a) O (G57 (U8 b) O (JLh (BL (decide (a=b))) (Jx O O O) O (G57 (BL (decide (a=b))) O (JLo (U8 a) [] O .scf G (fun hc=>G5 O O) O (JLo (BL (decide (a=0))) [9] O .scf ⟨Ua,G⟩ (fun hc=>Jx O O O) O (JLh (BL ((decide (a=b))||(decide (a=0)))) (Yc O O O O) O (G57 (BL ((decide (a=b))||(decide (a=0)))) O (JLo (U8 b) [] O .scf G (fun hc=>G5 O O) O (JLo (BL (decide (b=0))) [13] O .scf ⟨Ua,G⟩ (fun hc=>Jx O O O) O (JLh (BL (((decide (a=b))||(decide (a=0)))||(decide (b=0)))) (Yc O O O O) O (G57 (BL (((decide (a=b))||(decide (a=0)))||(decide (b=0)))) O (G8 (hK2 (Gr (fin1 BL h)))))))))))))))))))))

def Gbe (a:Slot) (b:Slot):Option Bool:=
 bnd (bif ((decide (a.G4=b.G4))&&(decide (a.Tier=b.Tier))) then G74 a.Half b.Half else some default) fun r3=>
 some (((decide (a.G4=b.G4))&&(decide (a.Tier=b.Tier)))&&r3)
theorem J09 (a:Slot) (b:Slot) (r:Bool) (h:Gbe a b=some r):Pure Ej 67 [.agg [G0 a.G4,G0 a.Tier,U8 a.Half],.agg [G0 b.G4,G0 b.Tier,U8 b.Half]] (·=BL r):=by
 unfold Gbe at h
 refine Gx [.tmp 4] Tryz.func67 O O (Jr fun hK1=>(JLh (.ptr 1109 0) (Ja (cs:=[G0 a.G4,G0 a.Tier,U8 a.Half]) 1109 O O O O O) O (JLh (.ptr 1110 0) (Ja (cs:=[G0 b.G4,G0 b.Tier,U8 b.Half]) 1110 O O O O O) O (G57 (BL false) O (G8 (hK1 (Gu [(2,.dptr [G0 a.G4,G0 a.Tier,U8 a.Half]),(3,.ptr 1110 0)] [(1110,.box 71 [G0 b.G4,G0 b.Tier,U8 b.Half])] 1109 rfl rfl rfl ⟨⟨_,rfl,.boxEq rfl rfl⟩,G⟩ rfl (by exact⟨.ptr,.conv (.same rfl),G⟩) (Gu [(2,.dptr [G0 a.G4,G0 a.Tier,U8 a.Half]),(3,.dptr [G0 b.G4,G0 b.Tier,U8 b.Half])] [] 1110 rfl rfl rfl G rfl (by exact⟨.conv (.same rfl),.ptr,G⟩) ?_))))))))
 refine Jr fun hK2=>(JLh (.dptr [G0 a.G4,G0 a.Tier,U8 a.Half]) (Ga Jb O O O) O (JLh (G0 a.G4) (Gf Gc O O O) O (JLh (.dptr [G0 b.G4,G0 b.Tier,U8 b.Half]) (Ga Jb O O O) O (JLh (G0 b.G4) (Gf Gc O O O) O (JLh (BL (decide (a.G4=b.G4))) (Jx O O O) O (G57 (BL (decide (a.G4=b.G4))) O (JLo (.dptr [G0 a.Tier,U8 a.Half]) [] O .sct G (fun hc=>Ga Qk O O O) O (JLo (G0 a.Tier) [11] O .sct ⟨Ua,G⟩ (fun hc=>Gf Gc O O O) O (JLo (.dptr [G0 b.Tier,U8 b.Half]) [] O .sct G (fun hc=>Ga Qk O O O) O (JLo (G0 b.Tier) [13] O .sct ⟨Ua,G⟩ (fun hc=>Gf Gc O O O) O (JLo (BL (decide (a.Tier=b.Tier))) [12,14] O .sct ⟨Ua,Ua,G⟩ (fun hc=>Jx O O O) O (JLh (BL ((decide (a.G4=b.G4))&&(decide (a.Tier=b.Tier)))) (J5 O O O O) O (G57 (BL ((decide (a.G4=b.G4))&&(decide (a.Tier=b.Tier)))) O ?_)))))))))))))
 refine JLo (.dptr [U8 a.Half]) [] O .sct G (fun hc=>Ga Jy O O O) O (JLo (U8 a.Half) [18] O .sct ⟨Ua,G⟩ (fun hc=>Gf Jd O O O) O (JLo (.dptr [U8 b.Half]) [] O .sct G (fun hc=>Ga Jy O O O) O (JLo (U8 b.Half) [20] O .sct ⟨Ua,G⟩ (fun hc=>Gf Jd O O O) O ?_)))
 obtain⟨r3,hr3,h⟩:=Ge h
 refine JLo (BL r3) [19,21] O .sct ⟨Ua,Ua,G⟩ (fun hc=>Gk (args:=[U8 a.Half,U8 b.Half]) O (Hae a.Half b.Half r3 (Gy hc hr3)) J90 ⟨O,O,O,O,G⟩) O (JLh (BL (((decide (a.G4=b.G4))&&(decide (a.Tier=b.Tier)))&&r3)) (J5 O O O O) O (G57 (BL (((decide (a.G4=b.G4))&&(decide (a.Tier=b.Tier)))&&r3)) O (G8 (hK2 (Gr (fin1 BL h))))))

def Gf6 (b:Gg):Option Int:=
 bif b.High then
 (some 2896)
 else
 (some 2591)
theorem M_stow_tall_w (b:Gg) (r:Int) (h:Gf6 b=some r):Pure Ej 160 [.agg (Gg.cs b)] (·=G0 r):=by
 unfold Gf6 at h
 refine Gx [.tmp 2] Tryz.func160 O O (Jr fun hK1=>(JLh (.ptr 1189 0) (Ja (cs:=(Gg.cs b)) 1189 O O O O O) O (G57 (G0 0) O (G8 (hK1 (Gu [(1,Ee b)] [] 1189 rfl rfl rfl G rfl (by exact⟨.ptr,G⟩) (Js fun hK2=>Jr fun hK3=>(JLh (.dptr ((Gg.cs b).drop 3)) (Ga J00 O O O) O (JLh (BL b.High) (Gf Ra O O O) O (G8 (hK3 (JCc O h (fun h hb=>?_) (fun h hb=>?_)))))))))))))
 ·
  refine Jr fun hK4=>(G57 (G0 2896) O (G8 (hK4 (Gr (fin1 G0 h)))))
 ·
  refine Gn (hK2 (Jr fun hK5=>(G57 (G0 2591) O (G8 (hK5 (Gr (fin1 G0 h)))))))

def G73 (boxes:List Gg) (l:List Stowed) (column:Int) (half:Int):Option Int:=
 each (fun y27 i27 (s27:Int) nx27=>
  jp (fun kj30=>
   bif ((decide (y27.Slot.G4=column))&&((decide (y27.Slot.Half=half))||(decide (y27.Slot.Half=0)))) then
   (bnd (G4c boxes y27.Gg) fun r34=>
    bif r34.2 then
    (bnd (Gf6 r34.1) fun r36=>
     G35 (s27+r36) fun v37=>
     kj30 v37)
    else
    (kj30 s27))
   else
   (kj30 s27)) fun(j30:Int)=>
  nx27 j30)
 (fun(s27:Int)=>
  some s27) l 0 0
theorem Had (boxes:List Gg) (l:List Stowed) (column:Int) (half:Int) (r:Int) (h:G73 boxes l column half=some r):Pure Ej 119 [E3 boxes,E2 l,G0 column,U8 half] (·=G0 r):=by
 unfold G73 at h
 refine Gx [.tmp 8] Tryz.func119 O O (Jr fun hK1=>(G57 (G0 0) O (G8 (hK1 (Jr fun hK2=>(G57 (G0 0) O (G8 (hK2 (Js fun hK3=>Jr fun hK4=>(G57 (E2 l) O (JLl H0 O O O fun hm15=>(G57 (G0 0) O (G8 (hK4 (Gp ?_)))))))))))))))
 obtain⟨b27,kx27,hb27,hkx27,h⟩:=Hx h
 refine He (fun i27 (s27:Int)=>each b27 kx27 (List.drop i27 l) i27 s27=some r) (fun i27 s27=>[(0,E3 boxes),(2,G0 column),(3,U8 half),(9,G0 s27),(14,E2 l),(15,Ei l.length),(16,Ei i27)]) (fun i27 s27=>[]) (fun i27=>l.length - i27) 0 0 h ⟨(.sm O O),G,rfl⟩ ?_
 clear h
 intro i27 s27 hi27 K27 e27
 refine Jr fun hK28=>(JLh (BL (decide ((i27:Int) < (l.length:Int)))) (J1 O O O) O (G8 (hK28 (Js fun hK29=>Gm O (fun hb=>?_) (fun hb=>?_)))))
 ·
  have hk27:=Jc hb
  obtain⟨y27,nx27,hy27,hn27,h⟩:=Hm hi27 hk27
  replace h:=Rn hb27 h
  refine Gn (hK29 ?_)
  obtain⟨kj30,hkj30,h⟩:=G37 h
  refine Zy (fun j30:Int=>kj30 j30=some r) (fun j30=>[(0,E3 boxes),(2,G0 column),(3,U8 half),(9,G0 j30),(14,E2 l),(15,Ei l.length),(16,Ei i27)]) (fun j30=>[]) (fun Kj30 ej30=>?_) ?_
  ·
   refine Gp (Jr fun hK31=>(JLh (Ec y27) (Gw (f:=Stowed.av) (xs:=l) (y:=y27) O O O H0 hy27 O) O (JLh (.agg (Stowed.cs y27)) (Gj Z8 O O O) O (JLh (.ptr 1165 0) (Ju 1165 4 G13 O O) O (Jf (u:=.junk) (J2 (u:=.agg (Stowed.cs y27)) (ds:=[G0 y27.Gg,G0 y27.Slot.G4,G0 y27.Slot.Tier,U8 y27.Slot.Half]) G36 O O O O O O O O) (G8 (hK31 (Gu [(0,E3 boxes),(2,G0 column),(3,U8 half),(9,G0 s27),(11,Ec y27),(14,E2 l),(15,Ei l.length),(16,Ei i27)] [] 1165 rfl rfl rfl G rfl (by repeat' (first | exact .ptr | constructor)) ?_))))))))
   refine Jr fun hK32=>(JLh (.dptr ((Stowed.cs y27).drop 1)) (Ga J6 O O O) O (JLh (.dptr ((Stowed.cs y27).drop 1)) (Ga Jb O O O) O (JLh (G0 y27.Slot.G4) (Gf Gc O O O) O (G57 (G0 column) O (JLh (BL (decide (y27.Slot.G4=column))) (Jx O O O) O (G57 (BL (decide (y27.Slot.G4=column))) O (JLo (.dptr ((Stowed.cs y27).drop 1)) [] O .sct G (fun hc=>Ga J6 O O O) O (JLo (.dptr [U8 y27.Slot.Half]) [26] O .sct ⟨Ua,G⟩ (fun hc=>Ga Jy O O O) O (JLo (U8 y27.Slot.Half) [27] O .sct ⟨Ua,G⟩ (fun hc=>Gf Jd O O O) O (JLo (U8 half) [] O .sct G (fun hc=>G5 O O) O (JLo (BL (decide (y27.Slot.Half=half))) [28,29] O .sct ⟨Ua,Ua,G⟩ (fun hc=>Jx O O O) O (JLo (BL (decide (y27.Slot.Half=half))) [30] O .sct ⟨Ua,G⟩ (fun hc=>G5 O O) O (JLo (.dptr ((Stowed.cs y27).drop 1)) [] O .optf G (fun hc=>Ga J6 O O O) O ?_)))))))))))))
   refine JLo (.dptr [U8 y27.Slot.Half]) [32] O .optf ⟨Ua,G⟩ (fun hc=>Ga Jy O O O) O (JLo (U8 y27.Slot.Half) [33] O .optf ⟨Ua,G⟩ (fun hc=>Gf Jd O O O) O (JLo (BL (decide (y27.Slot.Half=0))) [34] O .optf ⟨Ua,G⟩ (fun hc=>Jx O O O) O (Gb (u:=BL ((decide (y27.Slot.Half=half))||(decide (y27.Slot.Half=0)))) [(31,BL (decide (y27.Slot.Half=half))),(35,_)] O O O .sct ⟨.all id,.part,G⟩ (fun hc=>Yc O O O O) ?_)))
   refine JLh (BL ((decide (y27.Slot.G4=column))&&((decide (y27.Slot.Half=half))||(decide (y27.Slot.Half=0))))) (J5 O O O O) O (G8 (hK32 (JCc O h (fun h hb=>?_) (fun h hb=>?_))))
   ·
    refine Jr fun hK33=>(G57 (E3 boxes) O (JLh (Ec y27) (Ga Hw O O O) O (JLh (G0 y27.Gg) (Gf Gc O O O) O ?_)))
    obtain⟨r34,hr34,h⟩:=Ge h
    refine JLh (.tup [.agg (Gg.cs r34.1),BL r34.2]) (Gk O (Gab boxes y27.Gg r34 hr34) H22 ⟨O,O,O,O,G⟩) O (G57 (.tup [.agg (Gg.cs r34.1),BL r34.2]) O (JLh (.agg (Gg.cs r34.1)) (H9 O O O) O (JLh (BL r34.2) (H9 O O O) O (JLh (.ptr 1166 0) (Ju 1166 9 G2b O O) O (Jf (u:=.junk) (J2 (u:=.agg (Gg.cs r34.1)) (ds:=(Gg.cs r34.1)) G06 O O O O O O O O) (G57 (BL r34.2) O (G8 (hK33 ?_))))))))
    refine Gu [(0,E3 boxes),(2,G0 column),(3,U8 half),(9,G0 s27),(12,Ee r34.1),(13,BL r34.2),(14,E2 l),(15,Ei l.length),(16,Ei i27)] [] 1166 rfl rfl rfl G rfl (by repeat' (first | exact .ptr | constructor)) (Jr fun hK35=>(G57 (BL r34.2) O (G8 (hK35 (JCc O h (fun h hb=>?_) (fun h hb=>?_))))))
    ·
     refine G3 (G57 (G0 s27) O (JLh (.agg (Gg.cs r34.1)) (Gj G33 O O O) O ?_))
     obtain⟨r36,hr36,h⟩:=Ge h
     refine JLh (G0 r36) (Gk O (M_stow_tall_w r34.1 r36 hr36) Q59 ⟨O,O,G⟩) O ?_
     obtain⟨v37,hv37,h⟩:=Qj h
     refine JLh (G0 v37) (Hu hv37 O O O) O (G57 (G0 v37) O (G8 (ej30 _ _ v37 h ⟨(.sm O O),G,rfl⟩)))
    ·
     refine Gn (ej30 _ _ s27 h ⟨(.sm O O),G,rfl⟩)
   ·
    refine Gn (ej30 _ _ s27 h ⟨(.sm O O),G,rfl⟩)
  ·intro j30 h
   replace h:=app1 hkj30 h
   refine G3 (JLh (G0 ((i27+1:Nat):Int)) (Hu (Hc hk27 hm15) O O O) O (G57 (G0 ((i27+1:Nat):Int)) O (G8 (e27 _ _ (i27+1) j30 (app1 hn27 h) (by omega) ⟨(.sm O O),G,rfl⟩))))
 ·
  have h:=app1 hkx27 (Hn hi27 (H6 hb))
  refine Hk (hK3 (Jr fun hK38=>(G57 (G0 s27) O (G57 (G0 s27) O (G8 (hK38 (Gr (fin1 G0 h))))))))

def Gbd (s:H2) (boxes:List Gg) (l:List Stowed) (column:Int):Option Bool:=
 Qr s.Columns column fun y3=>
 bnd (bif (!(decide (y3.Height≤0))) then G73 boxes l column 1 else some default) fun r6=>
 bnd (bif ((!(decide (y3.Height≤0)))&&(decide (r6≤y3.Height))) then G73 boxes l column 2 else some default) fun r7=>
 some ((decide (y3.Height≤0))||((decide (r6≤y3.Height))&&(decide (r7≤y3.Height))))
theorem J08 (s:H2) (boxes:List Gg) (l:List Stowed) (column:Int) (r:Bool) (h:Gbd s boxes l column=some r):Pure Ej 68 [.agg (H2.cs s),E3 boxes,E2 l,G0 column] (·=BL r):=by
 unfold Gbd at h
 refine Gx [.tmp 8] Tryz.func68 O O (Jr fun hK1=>(JLh (.ptr 1111 0) (Ja (cs:=(H2.cs s)) 1111 O O O O O) O (G57 (BL false) O (G8 (hK1 (Gu [(1,E3 boxes),(2,E2 l),(3,G0 column),(4,Eb s)] [] 1111 rfl rfl rfl G rfl (by repeat' (first | exact .ptr | constructor)) ?_))))))
 refine Jr fun hK2=>(JLh (Eb s) (Ga Hj O O O) O (JLh (E4 s.Columns) (Gf Ht O O O) O (G57 (G0 column) O ?_)))
 obtain⟨m4,y3,hm4,hy3,h⟩:=R2 h
 refine JLh (Ed y3) (Gw (f:=G4.av) (xs:=s.Columns) (y:=y3) O O O H5 hy3 hm4) O (JLh (.dptr ((G4.cs y3).drop 4)) (Ga G2d O O O) O (JLh (G0 y3.Height) (Gf Gc O O O) O (G57 (G0 y3.Height) O (G8 (hK2 (Jr fun hK5=>(G57 (G0 y3.Height) O (JLh (BL (decide (y3.Height≤0))) (He6 O O O) O (G57 (BL (decide (y3.Height≤0))) O (JLo (E3 boxes) [] O .scf G (fun hc=>G5 O O) O (JLo (E2 l) [] O .scf G (fun hc=>G5 O O) O (JLo (G0 column) [] O .scf G (fun hc=>G5 O O) O ?_))))))))))))
 obtain⟨r6,hr6,h⟩:=Ge h
 refine JLo (G0 r6) [19,20,21] O .scf ⟨Ua,Ua,Ua,G⟩ (fun hc=>Gk (args:=[E3 boxes,E2 l,G0 column,U8 1]) O (Had boxes l column 1 r6 (Gy hc hr6)) J8f ⟨O,O,O,O,O,O,O,O,G⟩) O (JLo (G0 y3.Height) [] O .scf G (fun hc=>G5 O O) O (JLo (BL (decide (r6≤y3.Height))) [22,23] O .scf ⟨Ua,Ua,G⟩ (fun hc=>He6 O O O) O (JLo (BL (decide (r6≤y3.Height))) [24] O .scf ⟨Ua,G⟩ (fun hc=>G5 O O) O (JLo (E3 boxes) [] O .optt G (fun hc=>G5 O O) O (JLo (E2 l) [] O .optt G (fun hc=>G5 O O) O (JLo (G0 column) [] O .optt G (fun hc=>G5 O O) O ?_))))))
 obtain⟨r7,hr7,h⟩:=Ge h
 refine JLo (G0 r7) [26,27,28] O .optt ⟨Ua,Ua,Ua,G⟩ (fun hc=>Gk (args:=[E3 boxes,E2 l,G0 column,U8 2]) O (Had boxes l column 2 r7 (Gy hc hr7)) J8f ⟨O,O,O,O,O,O,O,O,G⟩) O (JLo (G0 y3.Height) [] O .optt G (fun hc=>G5 O O) O (JLo (BL (decide (r7≤y3.Height))) [29,30] O .optt ⟨Ua,Ua,G⟩ (fun hc=>He6 O O O) O (Gb (u:=BL ((decide (r6≤y3.Height))&&(decide (r7≤y3.Height)))) [(25,BL (decide (r6≤y3.Height))),(31,_)] O O O .scf ⟨.all id,.part,G⟩ (fun hc=>J5 O O O O) ?_)))
 refine JLh (BL ((decide (y3.Height≤0))||((decide (r6≤y3.Height))&&(decide (r7≤y3.Height))))) (Yc O O O O) O (G57 (BL ((decide (y3.Height≤0))||((decide (r6≤y3.Height))&&(decide (r7≤y3.Height))))) O (G8 (hK5 (Gr (fin1 BL h)))))

def Rk (s:H2) (boxes:List Gg) (l:List Stowed):Option Bool:=
 bnd (G96 s) fun r4=>
 bif (!r4) then
 (some false)
 else
 (bnd (G97 l) fun r7=>
  each (fun y10 i10 (s10:Unit) nx10=>
   bnd (G4c boxes y10.Gg) fun r16=>
   bnd (bif ((!(!r16.2))&&(decide (0 < (i10:Int)))) then G35 ((i10:Int) - 1) some else some 0) fun v19=>
   bnd (bif ((!(!r16.2))&&(decide (0 < (i10:Int)))) then Qr l v19 some else some default) fun y20=>
   bnd (bif (!((!r16.2)||((decide (0 < (i10:Int)))&&(decide (y10.Gg≤y20.Gg))))) then G98 s y10.Slot r16.1.Size else some default) fun r21=>
   bnd (bif (!(((!r16.2)||((decide (0 < (i10:Int)))&&(decide (y10.Gg≤y20.Gg))))||(!r21))) then Gbf y10.Slot r7 else some default) fun r22=>
   bif ((((!r16.2)||((decide (0 < (i10:Int)))&&(decide (y10.Gg≤y20.Gg))))||(!r21))||(!r22)) then
   (some false)
   else
   (bnd (G5d (i10:Int) r7.length) fun m25=>
    each (fun y42 i42 (s42:Unit) nx42=>
     bnd (Gbe y10.Slot y42) fun r48=>
     bif r48 then
     (some false)
     else
     (nx42 ()))
    (fun(s42:Unit)=>
     nx10 ()) (r7.take m25) 0 ()))
  (fun(s10:Unit)=>
   each (fun y64 i64 (s64:Unit) nx64=>
    bnd (Gbd s boxes l (i64:Int)) fun r70=>
    bif (!r70) then
    (some false)
    else
    (nx64 ()))
   (fun(s64:Unit)=>
    some true) s.Columns 0 ()) l 0 ())
theorem G8a (s:H2) (boxes:List Gg) (l:List Stowed) (r:Bool) (h:Rk s boxes l=some r):Pure Ej 32 [.agg (H2.cs s),E3 boxes,E2 l] (·=BL r):=by
 unfold Rk at h
 refine Gx [.tmp 6] Tryz.func32 O O (Jr fun hK1=>(JLh (.ptr 1050 0) (Ja (cs:=(H2.cs s)) 1050 O O O O O) O (G57 (BL false) O (G8 (hK1 (Gu [(1,E3 boxes),(2,E2 l),(3,Eb s)] [] 1050 rfl rfl rfl G rfl (by exact⟨.conv (.same rfl),.conv (.same rfl),.ptr,G⟩) (Js fun hK2=>?_)))))))
 refine Jr fun hK3=>(JLh (.agg (H2.cs s)) (Gj Hh O O O) O ?_)
 obtain⟨r4,hr4,h⟩:=Ge h
 refine JLh (BL r4) (Gk O (Q09.down s r4 hr4) Q9d ⟨O,O,G⟩) O (JLh (BL (!r4)) (Qh (b:=r4) O O) O (G8 (hK3 (JCc O h (fun h hb=>?_) (fun h hb=>?_)))))
 ·
  refine Jr fun hK5=>(G57 (BL false) O (G8 (hK5 (Gr (fin1 BL h)))))
 ·
  refine Gn (hK2 (Jr fun hK6=>(G57 (E2 l) O ?_)))
  obtain⟨r7,hr7,h⟩:=Ge h
  refine JLh (E9 r7) (Gk O (Hdd l r7 hr7) Jd4 ⟨O,O,G⟩) O (G57 (E9 r7) O (G8 (hK6 (Js fun hK8=>Jr fun hK9=>(G57 (E2 l) O (JLl H0 O O O fun hm21=>(G57 (G0 0) O (G8 (hK9 (Gp ?_))))))))))
  obtain⟨b10,kx10,hb10,hkx10,h⟩:=Hx h
  refine He (fun i10 (s10:Unit)=>each b10 kx10 (List.drop i10 l) i10 s10=some r) (fun i10 s10=>[(1,E3 boxes),(2,E2 l),(3,Eb s),(7,E9 r7),(20,E2 l),(21,Ei l.length),(22,Ei i10)]) (fun i10 s10=>[]) (fun i10=>l.length - i10) 0 () h ⟨(.sm O O),G,rfl⟩ ?_
  clear h
  intro i10 s10 hi10 K10 e10
  refine Jr fun hK11=>(JLh (BL (decide ((i10:Int) < (l.length:Int)))) (J1 O O O) O (G8 (hK11 (Js fun hK12=>Gm O (fun hb=>?_) (fun hb=>?_)))))
  ·
   have hk10:=Jc hb
   obtain⟨y10,nx10,hy10,hn10,h⟩:=Hm hi10 hk10
   replace h:=Rn hb10 h
   refine Gn (hK12 (Js fun hK13=>Gp (Jr fun hK14=>(G57 (Ei i10) O (JLh (Ec y10) (Gw (f:=Stowed.av) (xs:=l) (y:=y10) O O O H0 hy10 O) O (JLh (.agg (Stowed.cs y10)) (Gj Z8 O O O) O (JLh (.ptr 1051 0) (Ju 1051 4 G13 O O) O (G57 (Ei i10) O (Jf (u:=.junk) (J2 (u:=.agg (Stowed.cs y10)) (ds:=[G0 y10.Gg,G0 y10.Slot.G4,G0 y10.Slot.Tier,U8 y10.Slot.Half]) G36 O O O O O O O O) (G8 (hK14 ?_)))))))))))
   refine Gu [(1,E3 boxes),(2,E2 l),(3,Eb s),(7,E9 r7),(8,Ei i10),(9,Ec y10),(20,E2 l),(21,Ei l.length),(22,Ei i10)] [] 1051 rfl rfl rfl G rfl (by repeat' (first | exact .ptr | constructor)) (Jr fun hK15=>(G57 (E3 boxes) O (JLh (Ec y10) (Ga Hw O O O) O (JLh (G0 y10.Gg) (Gf Gc O O O) O ?_))))
   obtain⟨r16,hr16,h⟩:=Ge h
   refine JLh (.tup [.agg (Gg.cs r16.1),BL r16.2]) (Gk O (Gab boxes y10.Gg r16 hr16) H22 ⟨O,O,O,O,G⟩) O (G57 (.tup [.agg (Gg.cs r16.1),BL r16.2]) O (JLh (.agg (Gg.cs r16.1)) (H9 O O O) O (JLh (BL r16.2) (H9 O O O) O (JLh (.ptr 1052 0) (Ju 1052 9 G2b O O) O (Jf (u:=.junk) (J2 (u:=.agg (Gg.cs r16.1)) (ds:=(Gg.cs r16.1)) G06 O O O O O O O O) (G57 (BL r16.2) O (G8 (hK15 ?_))))))))
   refine Gu [(1,E3 boxes),(2,E2 l),(3,Eb s),(7,E9 r7),(8,Ei i10),(9,Ec y10),(10,Ee r16.1),(11,BL r16.2),(20,E2 l),(21,Ei l.length),(22,Ei i10)] [] 1052 rfl rfl rfl G rfl (by repeat' (first | exact .ptr | constructor)) (Js fun hK17=>Js fun hK18=>?_)
   obtain⟨v19,hv19,h⟩:=Ge h
   obtain⟨y20,hy20,h⟩:=Ge h
   obtain⟨r21,hr21,h⟩:=Ge h
   obtain⟨r22,hr22,h⟩:=Ge h
   refine JC_d0 Jg (by kernel_rfl) (Dq (BL r16.2) (G5 O O) O (Dq (BL (!r16.2)) (Qh (b:=r16.2) O O) O (Dq (BL (!r16.2)) (G5 O O) O (Do (Ei i10) [] O .scf G (fun hc=>G5 O O) O (Do (BL (decide (0 < (i10:Int)))) [37] O .scf ⟨Ua,G⟩ (fun hc=>G3d O O O) O (Do (BL (decide (0 < (i10:Int)))) [38] O .scf ⟨Ua,G⟩ (fun hc=>G5 O O) O (Do (Ec y10) [] O .optt G (fun hc=>Ga Hw O O O) O (Do (G0 y10.Gg) [40] O .optt ⟨Ua,G⟩ (fun hc=>Gf Gc O O O) O (Do (E2 l) [] O .optt G (fun hc=>G5 O O) O (Do (Ei i10) [] O .optt G (fun hc=>G5 O O) O (Do (G0 v19) [43] O .optt ⟨Ua,G⟩ (fun hc=>Gd4 (G25 (Gy hc hv19)) O O O) O (Do (Ec y20) [42,44] O .optt ⟨Ua,Ua,G⟩ (fun hc=>(match Qa (Gy hc hy20) with | ⟨_,hm_,hy_⟩=>Gw (f:=Stowed.av) (xs:=l) (y:=y20) O O O H0 hy_ hm_)) O (Do (Ec y20) [45] O .optt ⟨Ua,G⟩ (fun hc=>Ga Hw O O O) O ?_)))))))))))))
   refine Do (G0 y20.Gg) [46] O .optt ⟨Ua,G⟩ (fun hc=>Gf Gc O O O) O (Do (BL (decide (y10.Gg≤y20.Gg))) [41,47] O .optt ⟨Ua,Ua,G⟩ (fun hc=>He6 O O O) O (Dg (.opt (!(!r16.2)) (BL ((decide (0 < (i10:Int)))&&(decide (y10.Gg≤y20.Gg))))) (Gi [(39,BL (decide (0 < (i10:Int)))),(48,_)] O O O .scf ⟨.all id,.part,G⟩ (fun hc=>J5 O O O O) O) O (Dq (BL ((!r16.2)||((decide (0 < (i10:Int)))&&(decide (y10.Gg≤y20.Gg))))) (Yc O O O O) O (Dq (BL ((!r16.2)||((decide (0 < (i10:Int)))&&(decide (y10.Gg≤y20.Gg))))) (G5 O O) O (Do (.agg (H2.cs s)) [] O .scf G (fun hc=>Gj Hh O O O) O (Do (.dptr ((Stowed.cs y10).drop 1)) [] O .scf G (fun hc=>Ga J6 O O O) O (Do (.agg ((Stowed.cs y10).drop 1)) [53] O .scf ⟨Ua,G⟩ (fun hc=>Gj Q0 O O O) O (Do (.dptr ((Gg.cs r16.1).drop 2)) [] O .scf G (fun hc=>Ga G2c O O O) O (Do (U8 r16.1.Size) [55] O .scf ⟨Ua,G⟩ (fun hc=>Gf Jd O O O) O (Do (BL r21) [52,54,56] O .scf ⟨Ua,Ua,Ua,G⟩ (fun hc=>Gk (args:=[.agg (H2.cs s),.agg ((Stowed.cs y10).drop 1),U8 r16.1.Size]) O (Hdf s y10.Slot r16.1.Size r21 (Gy hc hr21)) Jd3 ⟨O,O,O,O,O,O,G⟩) O (Do (BL (!r21)) [57] O .scf ⟨Ua,G⟩ (fun hc=>Qh (b:=r21) O O) O (Dq (BL (((!r16.2)||((decide (0 < (i10:Int)))&&(decide (y10.Gg≤y20.Gg))))||(!r21))) (Yc O O O O) O (Dq (BL (((!r16.2)||((decide (0 < (i10:Int)))&&(decide (y10.Gg≤y20.Gg))))||(!r21))) (G5 O O) O ?_)))))))))))))
   refine Do (.dptr ((Stowed.cs y10).drop 1)) [] O .scf G (fun hc=>Ga J6 O O O) O (Do (.agg ((Stowed.cs y10).drop 1)) [61] O .scf ⟨Ua,G⟩ (fun hc=>Gj Q0 O O O) O (Do (E9 r7) [] O .scf G (fun hc=>G5 O O) O (Do (BL r22) [62,63] O .scf ⟨Ua,Ua,G⟩ (fun hc=>Gk (args:=[.agg ((Stowed.cs y10).drop 1),E9 r7]) O (J0a y10.Slot r7 r22 (Gy hc hr22)) Jd2 ⟨O,O,O,O,G⟩) O (Do (BL (!r22)) [64] O .scf ⟨Ua,G⟩ (fun hc=>Qh (b:=r22) O O) O (Dq (BL ((((!r16.2)||((decide (0 < (i10:Int)))&&(decide (y10.Gg≤y20.Gg))))||(!r21))||(!r22))) (Yc O O O O) O (Dnil (hK18 (JCc O h (fun h hb=>?_) (fun h hb=>?_)))))))))
   ·
    refine Jr fun hK23=>(G57 (BL false) O (G8 (hK23 (Gr (fin1 BL h)))))
   ·
    refine Gn (hK17 (Jr fun hK24=>(G57 (E9 r7) O (G57 (Ei i10) O ?_))))
    obtain⟨m25,hm25,h⟩:=Ge h
    refine JLh (E9 (r7.take m25)) (Qbe (f:=Slot.av) (xs:=r7) O O O Jt (Z9 hm25)) O (JLl Jt O O O fun hm70=>(G57 (G0 0) O (G8 (hK24 (Gp ?_)))))
    obtain⟨b42,kx42,hb42,hkx42,h⟩:=Hx h
    refine He (fun i42 (s42:Unit)=>each b42 kx42 (List.drop i42 (r7.take m25)) i42 s42=some r) (fun i42 s42=>[(1,E3 boxes),(2,E2 l),(3,Eb s),(7,E9 r7),(9,Ec y10),(20,E2 l),(21,Ei l.length),(22,Ei i10),(69,E9 (r7.take m25)),(70,G0 ((r7.take m25).length:Int)),(71,Ei i42)]) (fun i42 s42=>[]) (fun i42=>(r7.take m25).length - i42) 0 () h ⟨(.sm O O),G,rfl⟩ ?_
    clear h
    intro i42 s42 hi42 K42 e42
    refine Jr fun hK43=>(JLh (BL (decide ((i42:Int) < ((r7.take m25).length:Int)))) (J1 O O O) O (G8 (hK43 (Js fun hK44=>Gm O (fun hb=>?_) (fun hb=>?_)))))
    ·
     have hk42:=Jc hb
     obtain⟨y42,nx42,hy42,hn42,h⟩:=Hm hi42 hk42
     replace h:=Rn hb42 h
     refine Gn (hK44 (Js fun hK45=>Gp (Jr fun hK46=>(JLh (Eg y42) (Gw (f:=Slot.av) (xs:=(r7.take m25)) (y:=y42) O O O Jt hy42 O) O (JLh (.agg (Slot.cs y42)) (Gj Q0 O O O) O (JLh (.ptr 1053 0) (Ju 1053 3 G44 O O) O (Jf (u:=.junk) (J2 (u:=.agg (Slot.cs y42)) (ds:=[G0 y42.G4,G0 y42.Tier,U8 y42.Half]) H87 O O O O O O O O) (G8 (hK46 ?_)))))))))
     refine Gu [(1,E3 boxes),(2,E2 l),(3,Eb s),(7,E9 r7),(9,Ec y10),(13,Eg y42),(20,E2 l),(21,Ei l.length),(22,Ei i10),(69,E9 (r7.take m25)),(70,G0 ((r7.take m25).length:Int)),(71,Ei i42)] [] 1053 rfl rfl rfl G rfl (by repeat' (first | exact .ptr | constructor)) ?_
     refine Jr fun hK47=>(JLh (.dptr ((Stowed.cs y10).drop 1)) (Ga J6 O O O) O (JLh (.agg ((Stowed.cs y10).drop 1)) (Gj Q0 O O O) O (JLh (.agg (Slot.cs y42)) (Gj Q0 O O O) O ?_)))
     obtain⟨r48,hr48,h⟩:=Ge h
     refine JLh (BL r48) (Gk O (J09 y10.Slot y42 r48 hr48) Jd1 ⟨O,O,O,O,G⟩) O (G8 (hK47 (JCc O h (fun h hb=>?_) (fun h hb=>?_))))
     ·
      refine Jr fun hK49=>(G57 (BL false) O (G8 (hK49 (Gr (fin1 BL h)))))
     ·
      refine Gn (hK45 (G3 (JLh (G0 ((i42+1:Nat):Int)) (Hu (Hc hk42 hm70) O O O) O (G57 (G0 ((i42+1:Nat):Int)) O (G8 (e42 _ _ (i42+1) () (app1 hn42 h) (by omega) ⟨(.sm O O),G,rfl⟩))))))
    ·
     have h:=app1 hkx42 (Hn hi42 (H6 hb))
     refine Hk (hK13 (G3 (JLh (G0 ((i10+1:Nat):Int)) (Hu (Hc hk10 hm21) O O O) O (G57 (G0 ((i10+1:Nat):Int)) O (G8 (e10 _ _ (i10+1) () (app1 hn10 h) (by omega) ⟨(.sm O O),G,rfl⟩))))))
  ·
   have h:=app1 hkx10 (Hn hi10 (H6 hb))
   refine Hk (hK8 (Js fun hK50=>Jr fun hK51=>(JLh (Eb s) (Ga Hj O O O) O (JLh (E4 s.Columns) (Gf Ht O O O) O (JLl H5 O O O fun hm83=>(G57 (G0 0) O (G8 (hK51 (Gp ?_)))))))))
   obtain⟨b64,kx64,hb64,hkx64,h⟩:=Hx h
   refine He (fun i64 (s64:Unit)=>each b64 kx64 (List.drop i64 s.Columns) i64 s64=some r) (fun i64 s64=>[(1,E3 boxes),(2,E2 l),(3,Eb s),(83,Ei s.Columns.length),(84,Ei i64)]) (fun i64 s64=>[]) (fun i64=>s.Columns.length - i64) 0 () h ⟨(.sm O O),G,rfl⟩ ?_
   clear h
   intro i64 s64 hi64 K64 e64
   refine Jr fun hK65=>(JLh (BL (decide ((i64:Int) < (s.Columns.length:Int)))) (J1 O O O) O (G8 (hK65 (Js fun hK66=>Gm O (fun hb=>?_) (fun hb=>?_)))))
   ·
    have hk64:=Jc hb
    obtain⟨y64,nx64,hy64,hn64,h⟩:=Hm hi64 hk64
    replace h:=Rn hb64 h
    refine Gn (hK66 (Js fun hK67=>Gp (Jr fun hK68=>(G57 (Ei i64) O (G57 (Ei i64) O (G8 (hK68 (Jr fun hK69=>(JLh (.agg (H2.cs s)) (Gj Hh O O O) O (G57 (E3 boxes) O (G57 (E2 l) O (G57 (Ei i64) O ?_))))))))))))
    obtain⟨r70,hr70,h⟩:=Ge h
    refine JLh (BL r70) (Gk O (J08 s boxes l (i64:Int) r70 hr70) Jd0 ⟨O,O,O,O,O,O,O,O,G⟩) O (JLh (BL (!r70)) (Qh (b:=r70) O O) O (G8 (hK69 (JCc O h (fun h hb=>?_) (fun h hb=>?_)))))
    ·
     refine Jr fun hK71=>(G57 (BL false) O (G8 (hK71 (Gr (fin1 BL h)))))
    ·
     refine Gn (hK67 (G3 (JLh (G0 ((i64+1:Nat):Int)) (Hu (Hc hk64 hm83) O O O) O (G57 (G0 ((i64+1:Nat):Int)) O (G8 (e64 _ _ (i64+1) () (app1 hn64 h) (by omega) ⟨(.sm O O),G,rfl⟩))))))
   ·
    have h:=app1 hkx64 (Hn hi64 (H6 hb))
    refine Hk (hK50 (Jr fun hK72=>(G57 (BL true) O (G8 (hK72 (Gr (fin1 BL h)))))))

def G19 (s:H2) (boxes:List Gg) (l:List Stowed) (open_:List Int):Option Bool:=
 each (fun y22 i22 (s22:Unit) nx22=>
  bnd (bif ((!((decide (y22 < 0))||(decide ((s.Covers.length:Int)≤y22))))&&(decide (0 < (i22:Int)))) then G35 ((i22:Int) - 1) some else some 0) fun v28=>
  bnd (bif ((!((decide (y22 < 0))||(decide ((s.Covers.length:Int)≤y22))))&&(decide (0 < (i22:Int)))) then Qr open_ v28 some else some default) fun y29=>
  bif (((decide (y22 < 0))||(decide ((s.Covers.length:Int)≤y22)))||((decide (0 < (i22:Int)))&&(decide (y22≤y29)))) then
  (some false)
  else
  (nx22 ()))
 (fun(s22:Unit)=>
  bnd (Rk s boxes l) fun r32=>
  some r32) open_ 0 ()
theorem Ge2 (s:H2) (boxes:List Gg) (l:List Stowed) (open_:List Int) (r:Bool) (h:G19 s boxes l open_=some r):Pure Ej 80 [.agg (H2.cs s),E3 boxes,E2 l,E1 open_] (·=BL r):=by
 unfold G19 at h
 refine Gx [.tmp 8] Tryz.func80 O O (Jr fun hK1=>(JLh (.ptr 1123 0) (Ja (cs:=(H2.cs s)) 1123 O O O O O) O (G57 (BL false) O (G8 (hK1 (Gu [(1,E3 boxes),(2,E2 l),(3,E1 open_),(4,Eb s)] [] 1123 rfl rfl rfl G rfl (by repeat' (first | exact .ptr | constructor)) (Js fun hK2=>?_)))))))
 refine Jr fun hK3=>(G57 (E1 open_) O (JLl Gq O O O fun hm12=>(G57 (G0 0) O (G8 (hK3 (Gp ?_))))))
 obtain⟨b22,kx22,hb22,hkx22,h⟩:=Hx h
 refine He (fun i22 (s22:Unit)=>each b22 kx22 (List.drop i22 open_) i22 s22=some r) (fun i22 s22=>[(1,E3 boxes),(2,E2 l),(3,E1 open_),(4,Eb s),(11,E1 open_),(12,Ei open_.length),(13,Ei i22)]) (fun i22 s22=>[]) (fun i22=>open_.length - i22) 0 () h ⟨(.sm O O),G,rfl⟩ ?_
 clear h
 intro i22 s22 hi22 K22 e22
 refine Jr fun hK23=>(JLh (BL (decide ((i22:Int) < (open_.length:Int)))) (J1 O O O) O (G8 (hK23 (Js fun hK24=>Gm O (fun hb=>?_) (fun hb=>?_)))))
 ·
  have hk22:=Jc hb
  obtain⟨y22,nx22,hy22,hn22,h⟩:=Hm hi22 hk22
  replace h:=Rn hb22 h
  refine Gn (hK24 (Js fun hK25=>Gp (Jr fun hK26=>(G57 (Ei i22) O (JLh (.dptr [G0 y22]) (Gw (f:=G0) (xs:=open_) (y:=y22) O O O Gq hy22 O) O (JLh (G0 y22) (Gf Gc O O O) O (G57 (Ei i22) O (G57 (G0 y22) O (G8 (hK26 ?_))))))))))
  refine Jr fun hK27=>(G57 (G0 y22) O (JLh (BL (decide (y22 < 0))) (J1 O O O) O (G57 (BL (decide (y22 < 0))) O (JLo (G0 y22) [] O .scf G (fun hc=>G5 O O) O (JLo (.dptr [E5 s.Covers,G0 s.Light.Kilos,G0 s.Light.X,G0 s.Light.Y,G0 s.Light.Z,E7 s.Rows,E6 s.Frames,E8 s.Tanks,G0 s.G2.Tolerance,G0 s.G2.Trim,G0 s.G2.List_,G0 s.G2.Stability]) [] O .scf G (fun hc=>Ga Jk O O O) O (JLo (E5 s.Covers) [22] O .scf ⟨Ua,G⟩ (fun hc=>Gf Q4 O O O) O (JLo (Ei s.Covers.length) [23] O .scf ⟨Ua,G⟩ (fun hc=>Qw (f:=G9.av) (xs:=s.Covers) Hr O O) O (JLo (BL (decide ((s.Covers.length:Int)≤y22))) [21,24] O .scf ⟨Ua,Ua,G⟩ (fun hc=>G31 O O O) O (JLh (BL ((decide (y22 < 0))||(decide ((s.Covers.length:Int)≤y22)))) (Yc O O O O) O (G57 (BL ((decide (y22 < 0))||(decide ((s.Covers.length:Int)≤y22)))) O (JLo (Ei i22) [] O .scf G (fun hc=>G5 O O) O (JLo (BL (decide (0 < (i22:Int)))) [28] O .scf ⟨Ua,G⟩ (fun hc=>G3d O O O) O (JLo (BL (decide (0 < (i22:Int)))) [29] O .scf ⟨Ua,G⟩ (fun hc=>G5 O O) O ?_)))))))))))))
  refine JLo (G0 y22) [] O .optt G (fun hc=>G5 O O) O (JLo (E1 open_) [] O .optt G (fun hc=>G5 O O) O (JLo (Ei i22) [] O .optt G (fun hc=>G5 O O) O ?_))
  obtain⟨v28,hv28,h⟩:=Ge h
  refine JLo (G0 v28) [33] O .optt ⟨Ua,G⟩ (fun hc=>Gd4 (G25 (Gy hc hv28)) O O O) O ?_
  obtain⟨y29,hy29,h⟩:=Ge h
  refine JLo (.dptr [G0 y29]) [32,34] O .optt ⟨Ua,Ua,G⟩ (fun hc=>(match Qa (Gy hc hy29) with | ⟨_,hm_,hy_⟩=>Gw (f:=G0) (xs:=open_) (y:=y29) O O O Gq hy_ hm_)) O (JLo (G0 y29) [35] O .optt ⟨Ua,G⟩ (fun hc=>Gf Gc O O O) O (JLo (BL (decide (y22≤y29))) [31,36] O .optt ⟨Ua,Ua,G⟩ (fun hc=>He6 O O O) O (Gb (u:=BL ((decide (0 < (i22:Int)))&&(decide (y22≤y29)))) [(30,BL (decide (0 < (i22:Int)))),(37,_)] O O O .scf ⟨.all id,.part,G⟩ (fun hc=>J5 O O O O) ?_)))
  refine JLh (BL (((decide (y22 < 0))||(decide ((s.Covers.length:Int)≤y22)))||((decide (0 < (i22:Int)))&&(decide (y22≤y29))))) (Yc O O O O) O (G8 (hK27 (JCc O h (fun h hb=>?_) (fun h hb=>?_))))
  ·
   refine Jr fun hK30=>(G57 (BL false) O (G8 (hK30 (Gr (fin1 BL h)))))
  ·
   refine Gn (hK25 (G3 (JLh (G0 ((i22+1:Nat):Int)) (Hu (Hc hk22 hm12) O O O) O (G57 (G0 ((i22+1:Nat):Int)) O (G8 (e22 _ _ (i22+1) () (app1 hn22 h) (by omega) ⟨(.sm O O),G,rfl⟩))))))
 ·
  have h:=app1 hkx22 (Hn hi22 (H6 hb))
  refine Hk (hK2 (Jr fun hK31=>(JLh (.agg (H2.cs s)) (Gj Hh O O O) O (G57 (E3 boxes) O (G57 (E2 l) O ?_)))))
  obtain⟨r32,hr32,h⟩:=Ge h
  refine JLh (BL r32) (Gk O (G8a s boxes l r32 hr32) H23 ⟨O,O,O,O,O,O,G⟩) O (G57 (BL r32) O (G8 (hK31 (Gr (fin1 BL h)))))

def Gaa (x:Stowed) (p1:Int):Option Bool:=
 some (decide (x.Gg=p1))
theorem Jb4 (x:Stowed) (p1:Int) (r:Bool) (h:Gaa x p1=some r):Pure Ej 129 [.agg (Stowed.cs x),.dptr [G0 p1]] (·=BL r):=by
 unfold Gaa at h
 refine Gx [.tmp 3] Tryz.func129 O O (Jr fun hK1=>(JLh (.ptr 1172 0) (Ja (cs:=[G0 x.Gg,G0 x.Slot.G4,G0 x.Slot.Tier,U8 x.Slot.Half]) 1172 O O O O O) O (G57 (BL false) O (G8 (hK1 (Gu [(1,.dptr [G0 p1]),(2,Ec x)] [] 1172 rfl rfl rfl G rfl (by exact⟨.conv (.same rfl),.ptr,G⟩) (Jr fun hK2=>(JLh (Ec x) (Ga Hw O O O) O (JLh (G0 x.Gg) (Gf Gc O O O) O (JLh (G0 p1) (Gf Gc O O O) O (JLh (BL (decide (x.Gg=p1))) (Jx O O O) O (G57 (BL (decide (x.Gg=p1))) O (G8 (hK2 (Gr (fin1 BL h))))))))))))))))

def Ro (s:List Stowed) (f:Stowed→Option Bool):Option Int:=
 each (fun y20 i20 (s20:Unit) nx20=>
  bnd (f y20) fun r26=>
  bif r26 then
  (some (i20:Int))
  else
  (nx20 ()))
 (fun(s20:Unit)=>
  some (-1)) s 0 ()
theorem G60 (s:List Stowed) (f:Stowed→Option Bool) (f_f:FuncId) (f_c:List AV) (f_B:Ha Ej f_f=true) (f_d:G15 (fun _=>false) f_c=true) (f_w:∀ a0 q,f a0=some q→Pure Ej f_f ([.agg (Stowed.cs a0)]++f_c) (·=BL q)) (r:Int) (h:Ro s f=some r):Pure Ej 120 [E2 s,.fn f_f f_c] (·=G0 r):=by
 unfold Ro at h
 refine Gx [.tmp 4] Tryz.func120 O O (Jr fun hK1=>(G57 (G0 0) O (G8 (hK1 (Js fun hK2=>Jr fun hK3=>(G57 (E2 s) O (JLl H0 O O O fun hm7=>(G57 (G0 0) O (G8 (hK3 (Gp ?_)))))))))))
 obtain⟨b20,kx20,hb20,hkx20,h⟩:=Hx h
 refine He (fun i20 (s20:Unit)=>each b20 kx20 (List.drop i20 s) i20 s20=some r) (fun i20 s20=>[(0,E2 s),(1,.fn f_f f_c),(7,Ei s.length),(8,Ei i20)]) (fun i20 s20=>[]) (fun i20=>s.length - i20) 0 () h ⟨⟨.same O,.same (R0 _ _ f_d),.same O,.same O,G⟩,G,O⟩ ?_
 clear h
 intro i20 s20 hi20 K20 e20
 refine Jr fun hK21=>(JLh (BL (decide ((i20:Int) < (s.length:Int)))) (J1 O O O) O (G8 (hK21 (Js fun hK22=>Gm O (fun hb=>?_) (fun hb=>?_)))))
 ·
  have hk20:=Jc hb
  obtain⟨y20,nx20,hy20,hn20,h⟩:=Hm hi20 hk20
  replace h:=Rn hb20 h
  refine Gn (hK22 (Js fun hK23=>Gp (Jr fun hK24=>(G57 (Ei i20) O (G57 (Ei i20) O (G8 (hK24 (Jr fun hK25=>(G57 (.fn f_f f_c) O (G57 (E2 s) O (G57 (Ei i20) O (JLh (Ec y20) (Gw (f:=Stowed.av) (xs:=s) (y:=y20) O O O H0 hy20 O) O (JLh (.agg (Stowed.cs y20)) (Gj Z8 O O O) O ?_)))))))))))))
  obtain⟨r26,hr26,h⟩:=Ge h
  refine JLh (BL r26) (G8d (args:=[.agg (Stowed.cs y20)]) (caps:=f_c) O O (f_w y20 _ hr26) f_B ⟨O,O,G⟩ f_d) O (G8 (hK25 (JCc O h (fun h hb=>?_) (fun h hb=>?_))))
  ·
   refine Jr fun hK27=>(G57 (Ei i20) O (G57 (Ei i20) O (G8 (hK27 (Gr (fin1 G0 h))))))
  ·
   refine Gn (hK23 (G3 (JLh (G0 ((i20+1:Nat):Int)) (Hu (Hc hk20 hm7) O O O) O (G57 (G0 ((i20+1:Nat):Int)) O (G8 (e20 _ _ (i20+1) () (app1 hn20 h) (by omega) ⟨⟨.same rfl,.same (R0 _ _ f_d),.same rfl,.same rfl,G⟩,G,rfl⟩))))))
 ·
  have h:=app1 hkx20 (Hn hi20 (H6 hb))
  refine Hk (hK2 (Jr fun hK28=>(G57 (G0 (-1)) O (G8 (hK28 (Gr (fin1 G0 h)))))))

def G4b (l:List Stowed) (id_:Int):Option Int:=
 bnd (Ro l (fun z0=>Gaa z0 id_)) fun r3=>
 some r3
theorem Gef (l:List Stowed) (id_:Int) (r:Int) (h:G4b l id_=some r):Pure Ej 84 [E2 l,G0 id_] (·=G0 r):=by
 unfold G4b at h
 refine Gx [.tmp 4] Tryz.func84 O O (Jr fun hK1=>(JLh (.ptr 1128 0) (Ja (cs:=[G0 id_]) 1128 O O O O O) O (G57 (G0 0) O (G8 (hK1 (Gu [(0,E2 l),(3,.dptr [G0 id_])] [] 1128 rfl rfl rfl G rfl (by exact⟨.conv (.same rfl),.ptr,G⟩) (Jr fun hK2=>(G57 (E2 l) O (JLh (.fn 129 [.dptr [G0 id_]]) (G23 (cs:=[.dptr [G0 id_]]) O O) O ?_)))))))))
 obtain⟨r3,hr3,h⟩:=Ge h
 refine JLh (G0 r3) (Gk O (G60 l (fun z0=>Gaa z0 id_) 129 [.dptr [G0 id_]] Q68 O (fun z0 q hq=>Jb4 z0 id_ q hq) r3 hr3) J8e ⟨O,O,O,O,G⟩) O (G57 (G0 r3) O (G8 (hK2 (Gr (fin1 G0 h)))))

def Gf7 (a:Slot) (b:Slot):Option Bool:=
 bnd (bif ((decide (a.G4=b.G4))&&(decide (b.Tier < a.Tier))) then G74 a.Half b.Half else some default) fun r3=>
 some (((decide (a.G4=b.G4))&&(decide (b.Tier < a.Tier)))&&r3)
theorem M_slot_Over_w (a:Slot) (b:Slot) (r:Bool) (h:Gf7 a b=some r):Pure Ej 128 [.agg [G0 a.G4,G0 a.Tier,U8 a.Half],.agg [G0 b.G4,G0 b.Tier,U8 b.Half]] (·=BL r):=by
 unfold Gf7 at h
 refine Gx [.tmp 4] Tryz.func128 O O (Jr fun hK1=>(JLh (.ptr 1170 0) (Ja (cs:=[G0 a.G4,G0 a.Tier,U8 a.Half]) 1170 O O O O O) O (JLh (.ptr 1171 0) (Ja (cs:=[G0 b.G4,G0 b.Tier,U8 b.Half]) 1171 O O O O O) O (G57 (BL false) O (G8 (hK1 (Gu [(2,.dptr [G0 a.G4,G0 a.Tier,U8 a.Half]),(3,.ptr 1171 0)] [(1171,.box 71 [G0 b.G4,G0 b.Tier,U8 b.Half])] 1170 rfl rfl rfl ⟨⟨_,rfl,.boxEq rfl rfl⟩,G⟩ rfl (by exact⟨.ptr,.conv (.same rfl),G⟩) (Gu [(2,.dptr [G0 a.G4,G0 a.Tier,U8 a.Half]),(3,.dptr [G0 b.G4,G0 b.Tier,U8 b.Half])] [] 1171 rfl rfl rfl G rfl (by exact⟨.conv (.same rfl),.ptr,G⟩) ?_))))))))
 refine Jr fun hK2=>(JLh (.dptr [G0 a.G4,G0 a.Tier,U8 a.Half]) (Ga Jb O O O) O (JLh (G0 a.G4) (Gf Gc O O O) O (JLh (.dptr [G0 b.G4,G0 b.Tier,U8 b.Half]) (Ga Jb O O O) O (JLh (G0 b.G4) (Gf Gc O O O) O (JLh (BL (decide (a.G4=b.G4))) (Jx O O O) O (G57 (BL (decide (a.G4=b.G4))) O (JLo (.dptr [G0 a.Tier,U8 a.Half]) [] O .sct G (fun hc=>Ga Qk O O O) O (JLo (G0 a.Tier) [11] O .sct ⟨Ua,G⟩ (fun hc=>Gf Gc O O O) O (JLo (.dptr [G0 b.Tier,U8 b.Half]) [] O .sct G (fun hc=>Ga Qk O O O) O (JLo (G0 b.Tier) [13] O .sct ⟨Ua,G⟩ (fun hc=>Gf Gc O O O) O (JLo (BL (decide (b.Tier < a.Tier))) [12,14] O .sct ⟨Ua,Ua,G⟩ (fun hc=>G3d O O O) O (JLh (BL ((decide (a.G4=b.G4))&&(decide (b.Tier < a.Tier)))) (J5 O O O O) O (G57 (BL ((decide (a.G4=b.G4))&&(decide (b.Tier < a.Tier)))) O ?_)))))))))))))
 refine JLo (.dptr [U8 a.Half]) [] O .sct G (fun hc=>Ga Jy O O O) O (JLo (U8 a.Half) [18] O .sct ⟨Ua,G⟩ (fun hc=>Gf Jd O O O) O (JLo (.dptr [U8 b.Half]) [] O .sct G (fun hc=>Ga Jy O O O) O (JLo (U8 b.Half) [20] O .sct ⟨Ua,G⟩ (fun hc=>Gf Jd O O O) O ?_)))
 obtain⟨r3,hr3,h⟩:=Ge h
 refine JLo (BL r3) [19,21] O .sct ⟨Ua,Ua,G⟩ (fun hc=>Gk (args:=[U8 a.Half,U8 b.Half]) O (Hae a.Half b.Half r3 (Gy hc hr3)) J90 ⟨O,O,O,O,G⟩) O (JLh (BL (((decide (a.G4=b.G4))&&(decide (b.Tier < a.Tier)))&&r3)) (J5 O O O O) O (G57 (BL (((decide (a.G4=b.G4))&&(decide (b.Tier < a.Tier)))&&r3)) O (G8 (hK2 (Gr (fin1 BL h))))))

def Gcf (l:List Stowed) (id_:Int):Option ((List Int)×Int):=
 bnd (G4b l id_) fun r3=>
 bif decide (r3 < 0) then
 (some ([],6))
 else
 (each (fun y30 i30 (s30:(List Int)) nx30=>
   jp (fun kj33=>
    Qr l r3 fun y36=>
    bnd (Gf7 y30.Slot y36.Slot) fun r38=>
    bif r38 then
    (need (decide ((s30.length+[y30.Gg].length)*8≤140737488355328∧s30.length+[y30.Gg].length≤maxLen)) <|
     kj33 (s30++[y30.Gg]))
    else
    (kj33 s30)) fun(j33:(List Int))=>
   nx30 j33)
  (fun(s30:(List Int))=>
   some (s30,0)) l 0 [])
theorem Q0d (l:List Stowed) (id_:Int) (r:(List Int)×Int) (h:Gcf l id_=some r):Pure Ej 82 [E2 l,G0 id_] (·=.tup [E1 r.1,G0 r.2]):=by
 unfold Gcf at h
 refine Gx [.tmp 4,.tmp 5] Tryz.func82 O O (Jr fun hK1=>(JLh (E1 ([]:List Int)) (Hb 1 O O) O (G57 (G0 0) O (G8 (hK1 (Jr fun hK2=>(G57 (E2 l) O (G57 (G0 id_) O ?_))))))))
 obtain⟨r3,hr3,h⟩:=Ge h
 refine JLh (G0 r3) (Gk O (Gef l id_ r3 hr3) H8c ⟨O,O,O,O,G⟩) O (G57 (G0 r3) O (G8 (hK2 (Js fun hK4=>Jr fun hK5=>(G57 (G0 r3) O (JLh (BL (decide (r3 < 0))) (J1 O O O) O (G8 (hK5 (JCc O h (fun h hb=>?_) (fun h hb=>?_))))))))))
 ·
  refine Jr fun hK6=>(JLh (E1 ([]:List Int)) (Hb 1 O O) O (G57 (G0 6) O (G8 (hK6 (Gr (⟨[E1 ([]:List Int),G0 6],[],G,O,⟨⟨_,O,.conv (.same O)⟩,⟨_,O,.conv (.same O)⟩,G⟩,O,congrArg (fun r:(List Int)×Int=>(.tup [E1 r.1,G0 r.2]:AV)) (Option.some.inj h)⟩))))))
 ·
  refine Gn (hK4 (Jr fun hK7=>(JLh (OW 1125 1 G0 ([]:List Int)) (G39 1125 3 1 O O O) O (G8 (hK7 (Js fun hK8=>Jr fun hK9=>(G57 (E2 l) O (JLl H0 O O O fun hm16=>(G57 (G0 0) O (G8 (hK9 (Gp ?_))))))))))))
  obtain⟨b30,kx30,hb30,hkx30,h⟩:=Hx h
  refine He (fun i30 (s30:(List Int))=>each b30 kx30 (List.drop i30 l) i30 s30=some r) (fun i30 s30=>[(0,E2 l),(6,G0 r3),(7,OW 1125 1 G0 s30),(15,E2 l),(16,Ei l.length),(17,Ei i30)]) (fun i30 s30=>[(1125,.spare 3 1 s30.length s30.length)]) (fun i30=>l.length - i30) 0 [] h ⟨(.sm O O),⟨⟨_,rfl,.same⟩,G⟩,rfl⟩ ?_
  clear h
  intro i30 s30 hi30 K30 e30
  refine Jr fun hK31=>(JLh (BL (decide ((i30:Int) < (l.length:Int)))) (J1 O O O) O (G8 (hK31 (Js fun hK32=>Gm O (fun hb=>?_) (fun hb=>?_)))))
  ·
   have hk30:=Jc hb
   obtain⟨y30,nx30,hy30,hn30,h⟩:=Hm hi30 hk30
   replace h:=Rn hb30 h
   refine Gn (hK32 ?_)
   obtain⟨kj33,hkj33,h⟩:=G37 h
   refine Zy (fun j33:(List Int)=>kj33 j33=some r) (fun j33=>[(0,E2 l),(6,G0 r3),(7,OW 1125 1 G0 j33),(15,E2 l),(16,Ei l.length),(17,Ei i30)]) (fun j33=>[(1125,.spare 3 1 j33.length j33.length)]) (fun Kj33 ej33=>?_) ?_
   ·
    refine Gp (Jr fun hK34=>(JLh (Ec y30) (Gw (f:=Stowed.av) (xs:=l) (y:=y30) O O O H0 hy30 O) O (JLh (.agg (Stowed.cs y30)) (Gj Z8 O O O) O (JLh (.ptr 1126 0) (Ju 1126 4 G13 O O) O (Jf (u:=.junk) (J2 (u:=.agg (Stowed.cs y30)) (ds:=[G0 y30.Gg,G0 y30.Slot.G4,G0 y30.Slot.Tier,U8 y30.Slot.Half]) G36 O O O O O O O O) (G8 (hK34 (Gu [(0,E2 l),(6,G0 r3),(7,OW 1125 1 G0 s30),(9,Ec y30),(15,E2 l),(16,Ei l.length),(17,Ei i30)] [(1125,.spare 3 1 s30.length s30.length)] 1126 rfl rfl rfl ⟨⟨_,rfl,.same⟩,G⟩ rfl (by repeat' (first | exact .ptr | constructor)) (Js fun hK35=>?_)))))))))
    refine G2a (l':=[(0,E2 l),(6,G0 r3),(7,OW 1125 1 G0 s30),(9,Ec y30),(15,E2 l),(16,Ei l.length),(17,Ei i30)]) (L':=[(1125,.spare 3 1 s30.length s30.length)]) ⟨(.sm O O),⟨⟨_,rfl,.same⟩,G⟩,rfl⟩ ?_
    obtain⟨m37,y36,hm37,hy36,h⟩:=R2 h
    obtain⟨r38,hr38,h⟩:=Ge h
    refine JC_d0 Jg (by kernel_rfl) (Dq (.dptr ((Stowed.cs y30).drop 1)) (Ga J6 O O O) O (Dq (.agg ((Stowed.cs y30).drop 1)) (Gj Q0 O O O) O (Dq (E2 l) (G5 O O) O (Dq (G0 r3) (G5 O O) O (Dq (Ec y36) (Gw (f:=Stowed.av) (xs:=l) (y:=y36) O O O H0 hy36 hm37) O (Dq (.dptr ((Stowed.cs y36).drop 1)) (Ga J6 O O O) O (Dq (.agg ((Stowed.cs y36).drop 1)) (Gj Q0 O O O) O (Dq (BL r38) (Gk (args:=[.agg ((Stowed.cs y30).drop 1),.agg ((Stowed.cs y36).drop 1)]) O (M_slot_Over_w y30.Slot y36.Slot r38 hr38) Q69 ⟨O,O,O,O,G⟩) O (Dnil (hK35 (JCc O h (fun h hb=>?_) (fun h hb=>?_))))))))))))
    ·
     refine G3 (G57 (OW 1125 1 G0 s30) O (JLh (Ec y30) (Ga Hw O O O) O (JLh (G0 y30.Gg) (Gf Gc O O O) O (JLh (E1 [y30.Gg]) (Hd (xs:=[G0 y30.Gg]) O ⟨O,O,G⟩ Gq Q1 O O O O) O ?_))))
     obtain⟨ha39,h⟩:=Hv h
     refine JLh (OW 1125 1 G0 (s30++[y30.Gg])) (Qo (f:=G0) (xs:=s30) (ys:=[y30.Gg]) O O O O Gq Y2 ha39 (fun _=>O) (.inl O) O) O (G57 (OW 1125 1 G0 (s30++[y30.Gg])) O (G8 (ej33 _ _ (s30++[y30.Gg]) h ⟨(.sm O O),⟨⟨_,rfl,.same⟩,G⟩,rfl⟩)))
    ·
     refine Gn (ej33 _ _ s30 h ⟨(.sm O O),⟨⟨_,rfl,.same⟩,G⟩,rfl⟩)
   ·intro j33 h
    replace h:=app1 hkj33 h
    refine G3 (JLh (G0 ((i30+1:Nat):Int)) (Hu (Hc hk30 hm16) O O O) O (G57 (G0 ((i30+1:Nat):Int)) O (G8 (e30 _ _ (i30+1) j33 (app1 hn30 h) (by omega) ⟨(.sm O O),⟨⟨_,rfl,.same⟩,G⟩,rfl⟩))))
  ·
   have h:=app1 hkx30 (Hn hi30 (H6 hb))
   refine Hk (hK8 (Jr fun hK40=>(G57 (OW 1125 1 G0 s30) O (G57 (OW 1125 1 G0 s30) O (G57 (G0 0) O (G8 (hK40 (Gr (⟨[E1 s30,G0 0],[],G,O,⟨⟨_,O,.conv (.list O)⟩,⟨_,O,.conv (.same O)⟩,G⟩,O,congrArg (fun r:(List Int)×Int=>(.tup [E1 r.1,G0 r.2]:AV)) (Option.some.inj h)⟩)))))))))

def G6d (r_:Int) (p1:G4):Option Bool:=
 some (decide (r_=p1.Row))
theorem J54 (r_:Int) (p1:G4) (r:Bool) (h:G6d r_ p1=some r):Pure Ej 170 [G0 r_,Ed p1] (·=BL r):=by
 unfold G6d at h
 refine Gx [.tmp 3] Tryz.func170 O O (Jr fun hK1=>(G57 (BL false) O (G8 (hK1 (Jr fun hK2=>(G57 (G0 r_) O (JLh (.dptr ((G4.cs p1).drop 1)) (Ga G0e O O O) O (JLh (G0 p1.Row) (Gf Gc O O O) O (JLh (BL (decide (r_=p1.Row))) (Jx O O O) O (G57 (BL (decide (r_=p1.Row))) O (G8 (hK2 (Gr (fin1 BL h))))))))))))))

def G4d (l:List Int) (wanted:Int→Option Bool):Option (List Int):=
 each (fun y21 i21 (s21:(List Int)) nx21=>
  jp (fun kj24=>
   bnd (wanted y21) fun r27=>
   bif r27 then
   (need (decide ((s21.length+[(i21:Int)].length)*8≤140737488355328∧s21.length+[(i21:Int)].length≤maxLen)) <|
    kj24 (s21++[(i21:Int)]))
   else
   (kj24 s21)) fun(j24:(List Int))=>
  nx21 j24)
 (fun(s21:(List Int))=>
  some s21) l 0 []
theorem Hfd (l:List Int) (wanted:Int→Option Bool) (wanted_f:FuncId) (wanted_c:List AV) (wanted_B:Ha Ej wanted_f=true) (wanted_d:G15 (fun _=>false) wanted_c=true) (wanted_w:∀ a0 q,wanted a0=some q→Pure Ej wanted_f ([G0 a0]++wanted_c) (·=BL q)) (r:(List Int)) (h:G4d l wanted=some r):Pure Ej 169 [E1 l,.fn wanted_f wanted_c] (·=E1 r):=by
 unfold G4d at h
 refine Gx [.tmp 4] Tryz.func169 O O (Jr fun hK1=>(JLh (E1 ([]:List Int)) (Hb 1 O O) O (G8 (hK1 (Jr fun hK2=>(JLh (OW 1194 1 G0 ([]:List Int)) (G39 1194 3 1 O O O) O (G8 (hK2 (Js fun hK3=>Jr fun hK4=>(G57 (E1 l) O (JLl Gq O O O fun hm9=>(G57 (G0 0) O (G8 (hK4 (Gp ?_)))))))))))))))
 obtain⟨b21,kx21,hb21,hkx21,h⟩:=Hx h
 refine He (fun i21 (s21:(List Int))=>each b21 kx21 (List.drop i21 l) i21 s21=some r) (fun i21 s21=>[(1,.fn wanted_f wanted_c),(5,OW 1194 1 G0 s21),(8,E1 l),(9,Ei l.length),(10,Ei i21)]) (fun i21 s21=>[(1194,.spare 3 1 s21.length s21.length)]) (fun i21=>l.length - i21) 0 [] h ⟨⟨.same (R0 _ _ wanted_d),.same O,.same O,.same O,.same O,G⟩,⟨⟨_,O,.same⟩,G⟩,O⟩ ?_
 clear h
 intro i21 s21 hi21 K21 e21
 refine Jr fun hK22=>(JLh (BL (decide ((i21:Int) < (l.length:Int)))) (J1 O O O) O (G8 (hK22 (Js fun hK23=>Gm O (fun hb=>?_) (fun hb=>?_)))))
 ·
  have hk21:=Jc hb
  obtain⟨y21,nx21,hy21,hn21,h⟩:=Hm hi21 hk21
  replace h:=Rn hb21 h
  refine Gn (hK23 ?_)
  obtain⟨kj24,hkj24,h⟩:=G37 h
  refine Zy (fun j24:(List Int)=>kj24 j24=some r) (fun j24=>[(1,.fn wanted_f wanted_c),(5,OW 1194 1 G0 j24),(8,E1 l),(9,Ei l.length),(10,Ei i21)]) (fun j24=>[(1194,.spare 3 1 j24.length j24.length)]) (fun Kj24 ej24=>?_) ?_
  ·
   refine Gp (Jr fun hK25=>(G57 (Ei i21) O (JLh (.dptr [G0 y21]) (Gw (f:=G0) (xs:=l) (y:=y21) O O O Gq hy21 O) O (JLh (G0 y21) (Gf Gc O O O) O (G57 (Ei i21) O (G57 (G0 y21) O (G8 (hK25 (Jr fun hK26=>(G57 (.fn wanted_f wanted_c) O (G57 (G0 y21) O ?_)))))))))))
   obtain⟨r27,hr27,h⟩:=Ge h
   refine JLh (BL r27) (G8d (args:=[G0 y21]) (caps:=wanted_c) O O (wanted_w y21 _ hr27) wanted_B ⟨O,O,G⟩ wanted_d) O (G8 (hK26 (JCc O h (fun h hb=>?_) (fun h hb=>?_))))
   ·
    refine G3 (G57 (OW 1194 1 G0 s21) O (G57 (Ei i21) O (JLh (E1 [(i21:Int)]) (Hd (xs:=[Ei i21]) O ⟨O,O,G⟩ Gq Q1 O O O O) O ?_)))
    obtain⟨ha28,h⟩:=Hv h
    refine JLh (OW 1194 1 G0 (s21++[(i21:Int)])) (Qo (f:=G0) (xs:=s21) (ys:=[(i21:Int)]) O O O O Gq Y2 ha28 (fun _=>O) (.inl O) O) O (G57 (OW 1194 1 G0 (s21++[(i21:Int)])) O (G8 (ej24 _ _ (s21++[(i21:Int)]) h ⟨⟨.same (R0 _ _ wanted_d),.same O,.same O,.same O,.same O,G⟩,⟨⟨_,O,.same⟩,G⟩,O⟩)))
   ·
    refine Gn (ej24 _ _ s21 h ⟨⟨.same (R0 _ _ wanted_d),.same O,.same O,.same O,.same O,G⟩,⟨⟨_,O,.same⟩,G⟩,O⟩)
  ·intro j24 h
   replace h:=app1 hkj24 h
   refine G3 (JLh (G0 ((i21+1:Nat):Int)) (Hu (Hc hk21 hm9) O O O) O (G57 (G0 ((i21+1:Nat):Int)) O (G8 (e21 _ _ (i21+1) j24 (app1 hn21 h) (by omega) ⟨⟨.same (R0 _ _ wanted_d),.same rfl,.same rfl,.same rfl,.same rfl,G⟩,⟨⟨_,rfl,.same⟩,G⟩,rfl⟩))))
 ·
  have h:=app1 hkx21 (Hn hi21 (H6 hb))
  refine Hk (hK3 (Jr fun hK29=>(G57 (OW 1194 1 G0 s21) O (G57 (OW 1194 1 G0 s21) O (G8 (hK29 (Gr (fin1l (fun r:(List Int)=>(E1 r:AV)) h))))))))

def G75 (x:G9) (c:G4):Option Bool:=
 bnd (bif decide (x.Bay=c.Bay) then G4d x.Rows (fun z0=>G6d z0 c) else some default) fun r3=>
 some ((decide (x.Bay=c.Bay))&&(decide (0 < (r3.length:Int))))
theorem Hb0 (x:G9) (c:G4) (r:Bool) (h:G75 x c=some r):Pure Ej 146 [.agg [G0 x.Bay,E1 x.Rows],.agg (G4.cs c)] (·=BL r):=by
 unfold G75 at h
 refine Gx [.tmp 4] Tryz.func146 O O (Jr fun hK1=>(JLh (.ptr 1179 0) (Ja (cs:=[G0 x.Bay,E1 x.Rows]) 1179 O O O O O) O (JLh (.ptr 1180 0) (Ja (cs:=(G4.cs c)) 1180 O O O O O) O (G57 (BL false) O (G8 (hK1 (Gu [(2,.dptr [G0 x.Bay,E1 x.Rows]),(3,.ptr 1180 0)] [(1180,.box 64 (G4.cs c))] 1179 rfl rfl rfl ⟨⟨_,rfl,.boxEq rfl rfl⟩,G⟩ rfl (by exact⟨.ptr,.conv (.same rfl),G⟩) ?_)))))))
 refine Gu [(2,.dptr [G0 x.Bay,E1 x.Rows]),(3,Ed c)] [] 1180 rfl rfl rfl G rfl (by exact⟨.conv (.same rfl),.ptr,G⟩) ?_
 refine Jr fun hK2=>(JLh (.dptr [G0 x.Bay,E1 x.Rows]) (Ga Zk O O O) O (JLh (G0 x.Bay) (Gf Gc O O O) O (JLh (Ed c) (Ga G0f O O O) O (JLh (G0 c.Bay) (Gf Gc O O O) O (JLh (BL (decide (x.Bay=c.Bay))) (Jx O O O) O (G57 (BL (decide (x.Bay=c.Bay))) O (JLo (.dptr [E1 x.Rows]) [] O .sct G (fun hc=>Ga Q8 O O O) O (JLo (E1 x.Rows) [11] O .sct ⟨Ua,G⟩ (fun hc=>Gf Hy O O O) O (JLo (.fn 170 [.dptr (G4.cs c)]) [] O .sct G (fun hc=>G23 (cs:=[.dptr (G4.cs c)]) O O) O ?_)))))))))
 obtain⟨r3,hr3,h⟩:=Ge h
 refine JLo (E1 r3) [12,13] O .sct ⟨Ua,Ua,G⟩ (fun hc=>Gk (args:=[E1 x.Rows,.fn 170 [.dptr (G4.cs c)]]) O (Hfd x.Rows (fun z0=>G6d z0 c) 170 [.dptr (G4.cs c)] Q55 O (fun z0 q hq=>J54 z0 c q hq) r3 (Gy hc hr3)) Q56 ⟨O,O,O,O,G⟩) O (JLo (Ei r3.length) [14] O .sct ⟨Ua,G⟩ (fun hc=>Qw (f:=G0) (xs:=r3) Gq O O) O (JLo (BL (decide (0 < (r3.length:Int)))) [15] O .sct ⟨Ua,G⟩ (fun hc=>G3d O O O) O (JLh (BL ((decide (x.Bay=c.Bay))&&(decide (0 < (r3.length:Int))))) (J5 O O O O) O (G57 (BL ((decide (x.Bay=c.Bay))&&(decide (0 < (r3.length:Int))))) O (G8 (hK2 ?_))))))
 refine Gr (fin1 BL h)

def G34 (x:G9) (p1:H2) (p2:Int):Option Bool:=
 Qr p1.Columns p2 fun y3=>
 bnd (G75 x y3) fun r5=>
 some r5
theorem J2c (x:G9) (p1:H2) (p2:Int) (r:Bool) (h:G34 x p1 p2=some r):Pure Ej 145 [.agg [G0 x.Bay,E1 x.Rows],Eb p1,.dptr [G0 p2]] (·=BL r):=by
 unfold G34 at h
 refine Gx [.tmp 4] Tryz.func145 O O (Jr fun hK1=>(JLh (.ptr 1178 0) (Ja (cs:=[G0 x.Bay,E1 x.Rows]) 1178 O O O O O) O (G57 (BL false) O (G8 (hK1 (Gu [(1,Eb p1),(2,.dptr [G0 p2]),(3,.dptr [G0 x.Bay,E1 x.Rows])] [] 1178 rfl rfl rfl G rfl (by exact⟨.conv (.same rfl),.conv (.same rfl),.ptr,G⟩) (Js fun hK2=>?_)))))))
 obtain⟨m4,y3,hm4,hy3,h⟩:=R2 h
 obtain⟨r5,hr5,h⟩:=Ge h
 refine JC_d0 Jg (by kernel_rfl) (Dq (.agg [G0 x.Bay,E1 x.Rows]) (Gj Ye O O O) O (Dq (Eb p1) (Ga Hj O O O) O (Dq (E4 p1.Columns) (Gf Ht O O O) O (Dq (G0 p2) (Gf Gc O O O) O (Dq (Ed y3) (Gw (f:=G4.av) (xs:=p1.Columns) (y:=y3) O O O H5 hy3 hm4) O (Dq (.agg (G4.cs y3)) (Gj Rq O O O) O (Dq (BL r5) (Gk (args:=[.agg [G0 x.Bay,E1 x.Rows],.agg (G4.cs y3)]) O (Hb0 x y3 r5 hr5) J8a ⟨O,O,O,O,G⟩) O (Dq (BL r5) (G7 O O) O (Dnil (hK2 (Gr (fin1 BL h))))))))))))

def Zu (l:List G9) (wanted:G9→Option Bool):Option (List Int):=
 each (fun y21 i21 (s21:(List Int)) nx21=>
  jp (fun kj24=>
   bnd (wanted y21) fun r27=>
   bif r27 then
   (need (decide ((s21.length+[(i21:Int)].length)*8≤140737488355328∧s21.length+[(i21:Int)].length≤maxLen)) <|
    kj24 (s21++[(i21:Int)]))
   else
   (kj24 s21)) fun(j24:(List Int))=>
  nx21 j24)
 (fun(s21:(List Int))=>
  some s21) l 0 []
theorem H70 (l:List G9) (wanted:G9→Option Bool) (wanted_f:FuncId) (wanted_c:List AV) (wanted_B:Ha Ej wanted_f=true) (wanted_d:G15 (fun _=>false) wanted_c=true) (wanted_w:∀ a0 q,wanted a0=some q→Pure Ej wanted_f ([.agg [G0 a0.Bay,E1 a0.Rows]]++wanted_c) (·=BL q)) (r:(List Int)) (h:Zu l wanted=some r):Pure Ej 144 [E5 l,.fn wanted_f wanted_c] (·=E1 r):=by
 unfold Zu at h
 refine Gx [.tmp 4] Tryz.func144 O O (Jr fun hK1=>(JLh (E1 ([]:List Int)) (Hb 1 O O) O (G8 (hK1 (Jr fun hK2=>(JLh (OW 1176 1 G0 ([]:List Int)) (G39 1176 3 1 O O O) O (G8 (hK2 (Js fun hK3=>Jr fun hK4=>(G57 (E5 l) O (JLl Hr O O O fun hm9=>(G57 (G0 0) O (G8 (hK4 (Gp ?_)))))))))))))))
 obtain⟨b21,kx21,hb21,hkx21,h⟩:=Hx h
 refine He (fun i21 (s21:(List Int))=>each b21 kx21 (List.drop i21 l) i21 s21=some r) (fun i21 s21=>[(1,.fn wanted_f wanted_c),(5,OW 1176 1 G0 s21),(8,E5 l),(9,Ei l.length),(10,Ei i21)]) (fun i21 s21=>[(1176,.spare 3 1 s21.length s21.length)]) (fun i21=>l.length - i21) 0 [] h ⟨⟨.same (R0 _ _ wanted_d),.same O,.same O,.same O,.same O,G⟩,⟨⟨_,O,.same⟩,G⟩,O⟩ ?_
 clear h
 intro i21 s21 hi21 K21 e21
 refine Jr fun hK22=>(JLh (BL (decide ((i21:Int) < (l.length:Int)))) (J1 O O O) O (G8 (hK22 (Js fun hK23=>Gm O (fun hb=>?_) (fun hb=>?_)))))
 ·
  have hk21:=Jc hb
  obtain⟨y21,nx21,hy21,hn21,h⟩:=Hm hi21 hk21
  replace h:=Rn hb21 h
  refine Gn (hK23 ?_)
  obtain⟨kj24,hkj24,h⟩:=G37 h
  refine Zy (fun j24:(List Int)=>kj24 j24=some r) (fun j24=>[(1,.fn wanted_f wanted_c),(5,OW 1176 1 G0 j24),(8,E5 l),(9,Ei l.length),(10,Ei i21)]) (fun j24=>[(1176,.spare 3 1 j24.length j24.length)]) (fun Kj24 ej24=>?_) ?_
  ·
   refine Gp (Jr fun hK25=>(G57 (Ei i21) O (JLh (.dptr [G0 y21.Bay,E1 y21.Rows]) (Gw (f:=G9.av) (xs:=l) (y:=y21) O O O Hr hy21 O) O (JLh (.agg [G0 y21.Bay,E1 y21.Rows]) (Gj Ye O O O) O (JLh (.ptr 1177 0) (Ju 1177 2 G65 O O) O (G57 (Ei i21) O (Jf (u:=.junk) (J2 (u:=.agg [G0 y21.Bay,E1 y21.Rows]) (ds:=[G0 y21.Bay,E1 y21.Rows]) Gb4 O O O O O O O O) (G8 (hK25 ?_)))))))))
   refine Gu [(1,.fn wanted_f wanted_c),(5,OW 1176 1 G0 s21),(6,Ei i21),(7,.dptr [G0 y21.Bay,E1 y21.Rows]),(8,E5 l),(9,Ei l.length),(10,Ei i21)] [(1176,.spare 3 1 s21.length s21.length)] 1177 rfl rfl rfl ⟨⟨_,rfl,.same⟩,G⟩ rfl (by exact⟨.conv (.same (R0 _ _ wanted_d)),.conv (.same rfl),.conv (.same rfl),.ptr,.conv (.same rfl),.conv (.same rfl),.conv (.same rfl),G⟩) (Jr fun hK26=>(G57 (.fn wanted_f wanted_c) O (JLh (.agg [G0 y21.Bay,E1 y21.Rows]) (Gj Ye O O O) O ?_)))
   obtain⟨r27,hr27,h⟩:=Ge h
   refine JLh (BL r27) (G8d (args:=[.agg [G0 y21.Bay,E1 y21.Rows]]) (caps:=wanted_c) O O (wanted_w y21 _ hr27) wanted_B ⟨O,O,G⟩ wanted_d) O (G8 (hK26 (JCc O h (fun h hb=>?_) (fun h hb=>?_))))
   ·
    refine G3 (G57 (OW 1176 1 G0 s21) O (G57 (Ei i21) O (JLh (E1 [(i21:Int)]) (Hd (xs:=[Ei i21]) O ⟨O,O,G⟩ Gq Q1 O O O O) O ?_)))
    obtain⟨ha28,h⟩:=Hv h
    refine JLh (OW 1176 1 G0 (s21++[(i21:Int)])) (Qo (f:=G0) (xs:=s21) (ys:=[(i21:Int)]) O O O O Gq Y2 ha28 (fun _=>O) (.inl O) O) O (G57 (OW 1176 1 G0 (s21++[(i21:Int)])) O (G8 (ej24 _ _ (s21++[(i21:Int)]) h ⟨⟨.same (R0 _ _ wanted_d),.same O,.same O,.same O,.same O,G⟩,⟨⟨_,O,.same⟩,G⟩,O⟩)))
   ·
    refine Gn (ej24 _ _ s21 h ⟨⟨.same (R0 _ _ wanted_d),.same O,.same O,.same O,.same O,G⟩,⟨⟨_,O,.same⟩,G⟩,O⟩)
  ·intro j24 h
   replace h:=app1 hkj24 h
   refine G3 (JLh (G0 ((i21+1:Nat):Int)) (Hu (Hc hk21 hm9) O O O) O (G57 (G0 ((i21+1:Nat):Int)) O (G8 (e21 _ _ (i21+1) j24 (app1 hn21 h) (by omega) ⟨⟨.same (R0 _ _ wanted_d),.same rfl,.same rfl,.same rfl,.same rfl,G⟩,⟨⟨_,rfl,.same⟩,G⟩,rfl⟩))))
 ·
  have h:=app1 hkx21 (Hn hi21 (H6 hb))
  refine Hk (hK3 (Jr fun hK29=>(G57 (OW 1176 1 G0 s21) O (G57 (OW 1176 1 G0 s21) O (G8 (hK29 (Gr (fin1l (fun r:(List Int)=>(E1 r:AV)) h))))))))

def G1c (s:H2) (column:Int):Option Int:=
 bif ((decide (column < 0))||(decide ((s.Columns.length:Int)≤column))) then
 (some (-1))
 else
 (bnd (Zu s.Covers (fun z0=>G34 z0 s column)) fun r6=>
  bif decide ((r6.length:Int)=0) then
  (some (-1))
  else
  (Qr r6 0 fun y11=>
   some y11))
theorem Ge3 (s:H2) (column:Int) (r:Int) (h:G1c s column=some r):Pure Ej 106 [.agg (H2.cs s),G0 column] (·=G0 r):=by
 unfold G1c at h
 refine Gx [.tmp 4] Tryz.func106 O O (Jr fun hK1=>(JLh (.ptr 1154 0) (Ja (cs:=(H2.cs s)) 1154 O O O O O) O (JLh (.ptr 1155 0) (Ja (cs:=[G0 column]) 1155 O O O O O) O (G57 (G0 0) O (G8 (hK1 ?_))))))
 refine Gu [(2,Eb s),(3,.ptr 1155 0)] [(1155,.box 3 [G0 column])] 1154 rfl rfl rfl ⟨⟨_,rfl,.boxEq rfl rfl⟩,G⟩ rfl (by exact⟨.ptr,.conv (.same rfl),G⟩) (Gu [(2,Eb s),(3,.dptr [G0 column])] [] 1155 rfl rfl rfl G rfl (by exact⟨.conv (.same rfl),.ptr,G⟩) (Js fun hK2=>?_))
 refine Jr fun hK3=>(JLh (G0 column) (Gf Gc O O O) O (JLh (BL (decide (column < 0))) (J1 O O O) O (G57 (BL (decide (column < 0))) O (JLo (G0 column) [] O .scf G (fun hc=>Gf Gc O O O) O (JLo (Eb s) [] O .scf G (fun hc=>Ga Hj O O O) O (JLo (E4 s.Columns) [10] O .scf ⟨Ua,G⟩ (fun hc=>Gf Ht O O O) O (JLo (Ei s.Columns.length) [11] O .scf ⟨Ua,G⟩ (fun hc=>Qw (f:=G4.av) (xs:=s.Columns) H5 O O) O (JLo (BL (decide ((s.Columns.length:Int)≤column))) [9,12] O .scf ⟨Ua,Ua,G⟩ (fun hc=>G31 O O O) O (JLh (BL ((decide (column < 0))||(decide ((s.Columns.length:Int)≤column)))) (Yc O O O O) O (G8 (hK3 ?_)))))))))))
 refine JCc O h ?_ ?_<;>intro h hb
 ·
  refine Jr fun hK4=>(G57 (G0 (-1)) O (G8 (hK4 (Gr (fin1 G0 h)))))
 ·
  refine Gn (hK2 ?_)
  refine Jr fun hK5=>(JLh (.dptr [E5 s.Covers,G0 s.Light.Kilos,G0 s.Light.X,G0 s.Light.Y,G0 s.Light.Z,E7 s.Rows,E6 s.Frames,E8 s.Tanks,G0 s.G2.Tolerance,G0 s.G2.Trim,G0 s.G2.List_,G0 s.G2.Stability]) (Ga Jk O O O) O (JLh (E5 s.Covers) (Gf Q4 O O O) O (JLh (.fn 145 [.dptr (H2.cs s),.dptr [G0 column]]) (G23 (cs:=[.dptr (H2.cs s),.dptr [G0 column]]) O O) O ?_)))
  obtain⟨r6,hr6,h⟩:=Ge h
  refine JLh (E1 r6) (Gk O (H70 s.Covers (fun z0=>G34 z0 s column) 145 [.dptr (H2.cs s),.dptr [G0 column]] Q63 O (fun z0 q hq=>J2c z0 s column q hq) r6 hr6) Q64 ⟨O,O,O,O,G⟩) O (G57 (E1 r6) O (G8 (hK5 (Js fun hK7=>Jr fun hK8=>(G57 (E1 r6) O (JLl Gq O O O fun hm20=>(JLh (BL (decide ((r6.length:Int)=0))) (Jx O O O) O (G8 (hK8 (JCc O h (fun h hb=>?_) (fun h hb=>?_)))))))))))
  ·
   refine Jr fun hK9=>(G57 (G0 (-1)) O (G8 (hK9 (Gr (fin1 G0 h)))))
  ·
   refine Gn (hK7 (Jr fun hK10=>(G57 (E1 r6) O ?_)))
   obtain⟨m12,y11,hm12,hy11,h⟩:=R2 h
   refine JLh (.dptr [G0 y11]) (Gw (f:=G0) (xs:=r6) (y:=y11) O O O Gq hy11 hm12) O (JLh (G0 y11) (Gf Gc O O O) O (G57 (G0 y11) O (G8 (hK10 (Gr (fin1 G0 h))))))

def Gcd (s:H2) (column:Int):Option Int:=
 Qr s.Columns column fun y4=>
 bif y4.Deck then
 (some (-1))
 else
 (bnd (G1c s column) fun r8=>
  some r8)
theorem Q0a (s:H2) (column:Int) (r:Int) (h:Gcd s column=some r):Pure Ej 83 [.agg (H2.cs s),G0 column] (·=G0 r):=by
 unfold Gcd at h
 refine Gx [.tmp 4] Tryz.func83 O O (Jr fun hK1=>(JLh (.ptr 1127 0) (Ja (cs:=(H2.cs s)) 1127 O O O O O) O (G57 (G0 0) O (G8 (hK1 (Gu [(1,G0 column),(2,Eb s)] [] 1127 rfl rfl rfl G rfl (by exact⟨.conv (.same rfl),.ptr,G⟩) (Js fun hK2=>?_)))))))
 refine Jr fun hK3=>(JLh (Eb s) (Ga Hj O O O) O (JLh (E4 s.Columns) (Gf Ht O O O) O (G57 (G0 column) O ?_)))
 obtain⟨m5,y4,hm5,hy4,h⟩:=R2 h
 refine JLh (Ed y4) (Gw (f:=G4.av) (xs:=s.Columns) (y:=y4) O O O H5 hy4 hm5) O (JLh (.dptr ((G4.cs y4).drop 2)) (Ga Yw O O O) O (JLh (BL y4.Deck) (Gf Ra O O O) O (G8 (hK3 (JCc O h (fun h hb=>?_) (fun h hb=>?_))))))
 ·
  refine Jr fun hK6=>(G57 (G0 (-1)) O (G8 (hK6 (Gr (fin1 G0 h)))))
 ·
  refine Gn (hK2 (Jr fun hK7=>(JLh (.agg (H2.cs s)) (Gj Hh O O O) O (G57 (G0 column) O ?_))))
  obtain⟨r8,hr8,h⟩:=Ge h
  refine JLh (G0 r8) (Gk O (Ge3 s column r8 hr8) Hc4 ⟨O,O,O,O,G⟩) O (G57 (G0 r8) O (G8 (hK7 (Gr (fin1 G0 h)))))

def G8b (c:G4) (p1:Bool) (p2:H2) (p3:Int):Option Bool:=
 bnd (bif (c.Deck==p1) then Qr p2.Covers p3 some else some default) fun y3=>
 bnd (bif (c.Deck==p1) then G75 y3 c else some default) fun r4=>
 some ((c.Deck==p1)&&r4)
theorem J7a (c:G4) (p1:Bool) (p2:H2) (p3:Int) (r:Bool) (h:G8b c p1 p2 p3=some r):Pure Ej 176 [.agg (G4.cs c),.dptr [BL p1],Eb p2,.dptr [G0 p3]] (·=BL r):=by
 unfold G8b at h
 refine Gx [.tmp 5] Tryz.func176 O O (Jr fun hK1=>(JLh (.ptr 1198 0) (Ja (cs:=(G4.cs c)) 1198 O O O O O) O (G57 (BL false) O (G8 (hK1 (Gu [(1,.dptr [BL p1]),(2,Eb p2),(3,.dptr [G0 p3]),(4,Ed c)] [] 1198 rfl rfl rfl G rfl (by repeat' (first | exact .ptr | constructor)) (Js fun hK2=>?_)))))))
 obtain⟨y3,hy3,h⟩:=Ge h
 obtain⟨r4,hr4,h⟩:=Ge h
 refine JC_d0 Jg (by kernel_rfl) (Dq (.dptr [BL c.Deck,G0 c.Tiers,G0 c.Height,G0 c.Kilos20,G0 c.Kilos40,G0 c.Lash,E1 c.Plugs,G0 c.X,G0 c.Y,G0 c.Z]) (Ga Yw O O O) O (Dq (BL c.Deck) (Gf Ra O O O) O (Dq (BL p1) (Gf Ra O O O) O (Dq (BL (c.Deck==p1)) (J5c He7 O O O) O (Dq (BL (c.Deck==p1)) (G5 O O) O (Do (.dptr ((H2.cs p2).drop 1)) [] O .sct G (fun hc=>Ga Jk O O O) O (Do (E5 p2.Covers) [11] O .sct ⟨Ua,G⟩ (fun hc=>Gf Q4 O O O) O (Do (G0 p3) [] O .sct G (fun hc=>Gf Gc O O O) O (Do (.dptr [G0 y3.Bay,E1 y3.Rows]) [12,13] O .sct ⟨Ua,Ua,G⟩ (fun hc=>(match Qa (Gy hc hy3) with | ⟨_,hm_,hy_⟩=>Gw (f:=G9.av) (xs:=p2.Covers) (y:=y3) O O O Hr hy_ hm_)) O (Do (.agg [G0 y3.Bay,E1 y3.Rows]) [14] O .sct ⟨Ua,G⟩ (fun hc=>Gj Ye O O O) O (Do (.agg (G4.cs c)) [] O .sct G (fun hc=>Gj Rq O O O) O (Do (BL r4) [15,16] O .sct ⟨Ua,Ua,G⟩ (fun hc=>Gk (args:=[.agg [G0 y3.Bay,E1 y3.Rows],.agg (G4.cs c)]) O (Hb0 y3 c r4 (Gy hc hr4)) J8a ⟨O,O,O,O,G⟩) O (Dq (BL ((c.Deck==p1)&&r4)) (J5 O O O O) O ?_)))))))))))))
 refine Dq (BL ((c.Deck==p1)&&r4)) (G7 O O) O (Dnil (hK2 (Gr (fin1 BL h))))

def G20 (l:List G4) (wanted:G4→Option Bool):Option (List Int):=
 each (fun y21 i21 (s21:(List Int)) nx21=>
  jp (fun kj24=>
   bnd (wanted y21) fun r27=>
   bif r27 then
   (need (decide ((s21.length+[(i21:Int)].length)*8≤140737488355328∧s21.length+[(i21:Int)].length≤maxLen)) <|
    kj24 (s21++[(i21:Int)]))
   else
   (kj24 s21)) fun(j24:(List Int))=>
  nx21 j24)
 (fun(s21:(List Int))=>
  some s21) l 0 []
theorem H53 (l:List G4) (wanted:G4→Option Bool) (wanted_f:FuncId) (wanted_c:List AV) (wanted_B:Ha Ej wanted_f=true) (wanted_d:G15 (fun _=>false) wanted_c=true) (wanted_w:∀ a0 q,wanted a0=some q→Pure Ej wanted_f ([.agg (G4.cs a0)]++wanted_c) (·=BL q)) (r:(List Int)) (h:G20 l wanted=some r):Pure Ej 175 [E4 l,.fn wanted_f wanted_c] (·=E1 r):=by
 unfold G20 at h
 refine Gx [.tmp 4] Tryz.func175 O O (Jr fun hK1=>(JLh (E1 ([]:List Int)) (Hb 1 O O) O (G8 (hK1 (Jr fun hK2=>(JLh (OW 1196 1 G0 ([]:List Int)) (G39 1196 3 1 O O O) O (G8 (hK2 (Js fun hK3=>Jr fun hK4=>(G57 (E4 l) O (JLl H5 O O O fun hm9=>(G57 (G0 0) O (G8 (hK4 (Gp ?_)))))))))))))))
 obtain⟨b21,kx21,hb21,hkx21,h⟩:=Hx h
 refine He (fun i21 (s21:(List Int))=>each b21 kx21 (List.drop i21 l) i21 s21=some r) (fun i21 s21=>[(1,.fn wanted_f wanted_c),(5,OW 1196 1 G0 s21),(8,E4 l),(9,Ei l.length),(10,Ei i21)]) (fun i21 s21=>[(1196,.spare 3 1 s21.length s21.length)]) (fun i21=>l.length - i21) 0 [] h ⟨⟨.same (R0 _ _ wanted_d),.same O,.same O,.same O,.same O,G⟩,⟨⟨_,O,.same⟩,G⟩,O⟩ ?_
 clear h
 intro i21 s21 hi21 K21 e21
 refine Jr fun hK22=>(JLh (BL (decide ((i21:Int) < (l.length:Int)))) (J1 O O O) O (G8 (hK22 (Js fun hK23=>Gm O (fun hb=>?_) (fun hb=>?_)))))
 ·
  have hk21:=Jc hb
  obtain⟨y21,nx21,hy21,hn21,h⟩:=Hm hi21 hk21
  replace h:=Rn hb21 h
  refine Gn (hK23 ?_)
  obtain⟨kj24,hkj24,h⟩:=G37 h
  refine Zy (fun j24:(List Int)=>kj24 j24=some r) (fun j24=>[(1,.fn wanted_f wanted_c),(5,OW 1196 1 G0 j24),(8,E4 l),(9,Ei l.length),(10,Ei i21)]) (fun j24=>[(1196,.spare 3 1 j24.length j24.length)]) (fun Kj24 ej24=>?_) ?_
  ·
   refine Gp (Jr fun hK25=>(G57 (Ei i21) O (JLh (Ed y21) (Gw (f:=G4.av) (xs:=l) (y:=y21) O O O H5 hy21 O) O (JLh (.agg (G4.cs y21)) (Gj Rq O O O) O (JLh (.ptr 1197 0) (Ju 1197 12 G66 O O) O (G57 (Ei i21) O (Jf (u:=.junk) (J2 (u:=.agg (G4.cs y21)) (ds:=(G4.cs y21)) Gb5 O O O O O O O O) (G8 (hK25 ?_)))))))))
   refine Gu [(1,.fn wanted_f wanted_c),(5,OW 1196 1 G0 s21),(6,Ei i21),(7,Ed y21),(8,E4 l),(9,Ei l.length),(10,Ei i21)] [(1196,.spare 3 1 s21.length s21.length)] 1197 rfl rfl rfl ⟨⟨_,rfl,.same⟩,G⟩ rfl (by exact⟨.conv (.same (R0 _ _ wanted_d)),.conv (.same rfl),.conv (.same rfl),.ptr,.conv (.same rfl),.conv (.same rfl),.conv (.same rfl),G⟩) (Jr fun hK26=>(G57 (.fn wanted_f wanted_c) O (JLh (.agg (G4.cs y21)) (Gj Rq O O O) O ?_)))
   obtain⟨r27,hr27,h⟩:=Ge h
   refine JLh (BL r27) (G8d (args:=[.agg (G4.cs y21)]) (caps:=wanted_c) O O (wanted_w y21 _ hr27) wanted_B ⟨O,O,G⟩ wanted_d) O (G8 (hK26 (JCc O h (fun h hb=>?_) (fun h hb=>?_))))
   ·
    refine G3 (G57 (OW 1196 1 G0 s21) O (G57 (Ei i21) O (JLh (E1 [(i21:Int)]) (Hd (xs:=[Ei i21]) O ⟨O,O,G⟩ Gq Q1 O O O O) O ?_)))
    obtain⟨ha28,h⟩:=Hv h
    refine JLh (OW 1196 1 G0 (s21++[(i21:Int)])) (Qo (f:=G0) (xs:=s21) (ys:=[(i21:Int)]) O O O O Gq Y2 ha28 (fun _=>O) (.inl O) O) O (G57 (OW 1196 1 G0 (s21++[(i21:Int)])) O (G8 (ej24 _ _ (s21++[(i21:Int)]) h ⟨⟨.same (R0 _ _ wanted_d),.same O,.same O,.same O,.same O,G⟩,⟨⟨_,O,.same⟩,G⟩,O⟩)))
   ·
    refine Gn (ej24 _ _ s21 h ⟨⟨.same (R0 _ _ wanted_d),.same O,.same O,.same O,.same O,G⟩,⟨⟨_,O,.same⟩,G⟩,O⟩)
  ·intro j24 h
   replace h:=app1 hkj24 h
   refine G3 (JLh (G0 ((i21+1:Nat):Int)) (Hu (Hc hk21 hm9) O O O) O (G57 (G0 ((i21+1:Nat):Int)) O (G8 (e21 _ _ (i21+1) j24 (app1 hn21 h) (by omega) ⟨⟨.same (R0 _ _ wanted_d),.same rfl,.same rfl,.same rfl,.same rfl,G⟩,⟨⟨_,rfl,.same⟩,G⟩,rfl⟩))))
 ·
  have h:=app1 hkx21 (Hn hi21 (H6 hb))
  refine Hk (hK3 (Jr fun hK29=>(G57 (OW 1196 1 G0 s21) O (G57 (OW 1196 1 G0 s21) O (G8 (hK29 (Gr (fin1l (fun r:(List Int)=>(E1 r:AV)) h))))))))

def H1a (s:H2) (cover:Int) (deck:Bool):Option (List Int):=
 bif ((decide (cover < 0))||(decide ((s.Covers.length:Int)≤cover))) then
 (some [])
 else
 (bnd (G20 s.Columns (fun z0=>G8b z0 deck s cover)) fun r6=>
  some r6)
theorem Q11 (s:H2) (cover:Int) (deck:Bool) (r:(List Int)) (h:H1a s cover deck=some r):Pure Ej 161 [.agg (H2.cs s),G0 cover,BL deck] (·=E1 r):=by
 unfold H1a at h
 refine Gx [.tmp 6] Tryz.func161 O O (Jr fun hK1=>(JLh (.ptr 1190 0) (Ja (cs:=(H2.cs s)) 1190 O O O O O) O (JLh (.ptr 1191 0) (Ja (cs:=[G0 cover]) 1191 O O O O O) O (JLh (.ptr 1192 0) (Ja (cs:=[BL deck]) 1192 O O O O O) O (JLh (E1 ([]:List Int)) (Hb 1 O O) O (G8 (hK1 ?_)))))))
 refine Gu [(3,Eb s),(4,.ptr 1191 0),(5,.ptr 1192 0)] [(1191,.box 3 [G0 cover]),(1192,.box 4 [BL deck])] 1190 rfl rfl rfl ⟨⟨_,rfl,.boxEq rfl rfl⟩,⟨_,rfl,.boxEq rfl rfl⟩,G⟩ rfl (by exact⟨.ptr,.conv (.same rfl),.conv (.same rfl),G⟩) ?_
 refine Gu [(3,Eb s),(4,.dptr [G0 cover]),(5,.ptr 1192 0)] [(1192,.box 4 [BL deck])] 1191 rfl rfl rfl ⟨⟨_,rfl,.boxEq rfl rfl⟩,G⟩ rfl (by exact⟨.conv (.same rfl),.ptr,.conv (.same rfl),G⟩) ?_
 refine Gu [(3,Eb s),(4,.dptr [G0 cover]),(5,.dptr [BL deck])] [] 1192 rfl rfl rfl G rfl (by exact⟨.conv (.same rfl),.conv (.same rfl),.ptr,G⟩) (Js fun hK2=>?_)
 refine Jr fun hK3=>(JLh (G0 cover) (Gf Gc O O O) O (JLh (BL (decide (cover < 0))) (J1 O O O) O (G57 (BL (decide (cover < 0))) O (JLo (G0 cover) [] O .scf G (fun hc=>Gf Gc O O O) O (JLo (.dptr [E5 s.Covers,G0 s.Light.Kilos,G0 s.Light.X,G0 s.Light.Y,G0 s.Light.Z,E7 s.Rows,E6 s.Frames,E8 s.Tanks,G0 s.G2.Tolerance,G0 s.G2.Trim,G0 s.G2.List_,G0 s.G2.Stability]) [] O .scf G (fun hc=>Ga Jk O O O) O (JLo (E5 s.Covers) [11] O .scf ⟨Ua,G⟩ (fun hc=>Gf Q4 O O O) O (JLo (Ei s.Covers.length) [12] O .scf ⟨Ua,G⟩ (fun hc=>Qw (f:=G9.av) (xs:=s.Covers) Hr O O) O (JLo (BL (decide ((s.Covers.length:Int)≤cover))) [10,13] O .scf ⟨Ua,Ua,G⟩ (fun hc=>G31 O O O) O (JLh (BL ((decide (cover < 0))||(decide ((s.Covers.length:Int)≤cover)))) (Yc O O O O) O (G8 (hK3 ?_)))))))))))
 refine JCc O h ?_ ?_<;>intro h hb
 ·
  refine Jr fun hK4=>(JLh (E1 ([]:List Int)) (Hb 1 O O) O (G8 (hK4 (Gr (fin1 (fun r:(List Int)=>(E1 r:AV)) h)))))
 ·
  refine Gn (hK2 ?_)
  refine Jr fun hK5=>(JLh (Eb s) (Ga Hj O O O) O (JLh (E4 s.Columns) (Gf Ht O O O) O (JLh (.fn 176 [.dptr [BL deck],Eb s,.dptr [G0 cover]]) (G23 (cs:=[.dptr [BL deck],Eb s,.dptr [G0 cover]]) O O) O ?_)))
  obtain⟨r6,hr6,h⟩:=Ge h
  refine JLh (E1 r6) (Gk O (H53 s.Columns (fun z0=>G8b z0 deck s cover) 176 [.dptr [BL deck],Eb s,.dptr [G0 cover]] Q51 O (fun z0 q hq=>J7a z0 deck s cover q hq) r6 hr6) Q52 ⟨O,O,O,O,G⟩) O (G57 (E1 r6) O (G8 (hK5 (Gr (fin1 (fun r:(List Int)=>(E1 r:AV)) h)))))

def Gf9 (s:H2) (cover:Int):Option (List Int):=
 bnd (H1a s cover true) fun r3=>
 some r3
theorem M_ship_Upon_w (s:H2) (cover:Int) (r:(List Int)) (h:Gf9 s cover=some r):Pure Ej 130 [.agg (H2.cs s),G0 cover] (·=E1 r):=by
 unfold Gf9 at h
 refine Gx [.tmp 4] Tryz.func130 O O (Jr fun hK1=>(JLh (.ptr 1173 0) (Ja (cs:=(H2.cs s)) 1173 O O O O O) O (JLh (E1 ([]:List Int)) (Hb 1 O O) O (G8 (hK1 (Gu [(1,G0 cover),(2,Eb s)] [] 1173 rfl rfl rfl G rfl (by exact⟨.conv (.same rfl),.ptr,G⟩) ?_))))))
 refine Jr fun hK2=>(JLh (.agg (H2.cs s)) (Gj Hh O O O) O (G57 (G0 cover) O ?_))
 obtain⟨r3,hr3,h⟩:=Ge h
 refine JLh (E1 r3) (Gk O (Q11 s cover true r3 hr3) Q58 ⟨O,O,O,O,O,O,G⟩) O (G57 (E1 r3) O (G8 (hK2 (Gr (fin1 (fun r:(List Int)=>(E1 r:AV)) h)))))

def G08 (s:List Int) (v:Int):Option Int:=
 each (fun y18 i18 (s18:Unit) nx18=>
  bif decide (v=y18) then
  (some (i18:Int))
  else
  (nx18 ()))
 (fun(s18:Unit)=>
  some (-1)) s 0 ()
theorem He0 (s:List Int) (v:Int) (r:Int) (h:G08 s v=some r):Pure Ej 121 [E1 s,G0 v] (·=G0 r):=by
 unfold G08 at h
 refine Gx [.tmp 4] Tryz.func121 O O (Jr fun hK1=>(G57 (G0 0) O (G8 (hK1 (Js fun hK2=>Jr fun hK3=>(G57 (E1 s) O (JLl Gq O O O fun hm7=>(G57 (G0 0) O (G8 (hK3 (Gp ?_)))))))))))
 obtain⟨b18,kx18,hb18,hkx18,h⟩:=Hx h
 refine He (fun i18 (s18:Unit)=>each b18 kx18 (List.drop i18 s) i18 s18=some r) (fun i18 s18=>[(0,E1 s),(1,G0 v),(7,Ei s.length),(8,Ei i18)]) (fun i18 s18=>[]) (fun i18=>s.length - i18) 0 () h ⟨(.sm O O),G,rfl⟩ ?_
 clear h
 intro i18 s18 hi18 K18 e18
 refine Jr fun hK19=>(JLh (BL (decide ((i18:Int) < (s.length:Int)))) (J1 O O O) O (G8 (hK19 (Js fun hK20=>Gm O (fun hb=>?_) (fun hb=>?_)))))
 ·
  have hk18:=Jc hb
  obtain⟨y18,nx18,hy18,hn18,h⟩:=Hm hi18 hk18
  replace h:=Rn hb18 h
  refine Gn (hK20 (Js fun hK21=>Gp (Jr fun hK22=>(G57 (Ei i18) O (G57 (Ei i18) O (G8 (hK22 (Jr fun hK23=>(G57 (G0 v) O (G57 (E1 s) O (G57 (Ei i18) O (JLh (.dptr [G0 y18]) (Gw (f:=G0) (xs:=s) (y:=y18) O O O Gq hy18 O) O (JLh (G0 y18) (Gf Gc O O O) O (JLh (BL (decide (v=y18))) (Jx O O O) O (G8 (hK23 (JCc O h (fun h hb=>?_) (fun h hb=>?_))))))))))))))))))
  ·
   refine Jr fun hK24=>(G57 (Ei i18) O (G57 (Ei i18) O (G8 (hK24 (Gr (fin1 G0 h))))))
  ·
   refine Gn (hK21 (G3 (JLh (G0 ((i18+1:Nat):Int)) (Hu (Hc hk18 hm7) O O O) O (G57 (G0 ((i18+1:Nat):Int)) O (G8 (e18 _ _ (i18+1) () (app1 hn18 h) (by omega) ⟨(.sm O O),G,rfl⟩))))))
 ·
  have h:=app1 hkx18 (Hn hi18 (H6 hb))
  refine Hk (hK2 (Jr fun hK25=>(G57 (G0 (-1)) O (G8 (hK25 (Gr (fin1 G0 h)))))))

def Ry (s:List Int) (v:Int):Option Bool:=
 bnd (G08 s v) fun r3=>
 some (decide (0≤r3))
theorem G61 (s:List Int) (v:Int) (r:Bool) (h:Ry s v=some r):Pure Ej 72 [E1 s,G0 v] (·=BL r):=by
 unfold Ry at h
 refine Gx [.tmp 4] Tryz.func72 O O (Jr fun hK1=>(G57 (BL false) O (G8 (hK1 (Jr fun hK2=>(G57 (E1 s) O (G57 (G0 v) O ?_)))))))
 obtain⟨r3,hr3,h⟩:=Ge h
 refine JLh (G0 r3) (Gk O (He0 s v r3 hr3) Q6b ⟨O,O,O,O,G⟩) O (JLh (BL (decide (0≤r3))) (G31 O O O) O (G57 (BL (decide (0≤r3))) O (G8 (hK2 (Gr (fin1 BL h))))))

def Gbb (s:H2) (l:List Stowed) (cover:Int):Option (List Int):=
 bnd (Gf9 s cover) fun r3=>
 each (fun y23 i23 (s23:(List Int)) nx23=>
  jp (fun kj26=>
   bnd (Ry r3 y23.Slot.G4) fun r29=>
   bif r29 then
   (need (decide ((s23.length+[y23.Gg].length)*8≤140737488355328∧s23.length+[y23.Gg].length≤maxLen)) <|
    kj26 (s23++[y23.Gg]))
   else
   (kj26 s23)) fun(j26:(List Int))=>
  nx23 j26)
 (fun(s23:(List Int))=>
  some s23) l 0 []
theorem J07 (s:H2) (l:List Stowed) (cover:Int) (r:(List Int)) (h:Gbb s l cover=some r):Pure Ej 85 [.agg (H2.cs s),E2 l,G0 cover] (·=E1 r):=by
 unfold Gbb at h
 refine Gx [.tmp 6] Tryz.func85 O O (Jr fun hK1=>(JLh (.ptr 1129 0) (Ja (cs:=(H2.cs s)) 1129 O O O O O) O (JLh (E1 ([]:List Int)) (Hb 1 O O) O (G8 (hK1 (Gu [(1,E2 l),(2,G0 cover),(3,Eb s)] [] 1129 rfl rfl rfl G rfl (by exact⟨.conv (.same rfl),.conv (.same rfl),.ptr,G⟩) ?_))))))
 refine Jr fun hK2=>(JLh (.agg (H2.cs s)) (Gj Hh O O O) O (G57 (G0 cover) O ?_))
 obtain⟨r3,hr3,h⟩:=Ge h
 refine JLh (E1 r3) (Gk O (M_ship_Upon_w s cover r3 hr3) Q67 ⟨O,O,O,O,G⟩) O (G57 (E1 r3) O (G8 (hK2 (Jr fun hK4=>(JLh (OW 1130 1 G0 ([]:List Int)) (G39 1130 3 1 O O O) O (G8 (hK4 (Js fun hK5=>Jr fun hK6=>(G57 (E2 l) O (JLl H0 O O O fun hm15=>(G57 (G0 0) O (G8 (hK6 (Gp ?_))))))))))))))
 obtain⟨b23,kx23,hb23,hkx23,h⟩:=Hx h
 refine He (fun i23 (s23:(List Int))=>each b23 kx23 (List.drop i23 l) i23 s23=some r) (fun i23 s23=>[(7,E1 r3),(8,OW 1130 1 G0 s23),(14,E2 l),(15,Ei l.length),(16,Ei i23)]) (fun i23 s23=>[(1130,.spare 3 1 s23.length s23.length)]) (fun i23=>l.length - i23) 0 [] h ⟨(.sm O O),⟨⟨_,rfl,.same⟩,G⟩,rfl⟩ ?_
 clear h
 intro i23 s23 hi23 K23 e23
 refine Jr fun hK24=>(JLh (BL (decide ((i23:Int) < (l.length:Int)))) (J1 O O O) O (G8 (hK24 (Js fun hK25=>Gm O (fun hb=>?_) (fun hb=>?_)))))
 ·
  have hk23:=Jc hb
  obtain⟨y23,nx23,hy23,hn23,h⟩:=Hm hi23 hk23
  replace h:=Rn hb23 h
  refine Gn (hK25 ?_)
  obtain⟨kj26,hkj26,h⟩:=G37 h
  refine Zy (fun j26:(List Int)=>kj26 j26=some r) (fun j26=>[(7,E1 r3),(8,OW 1130 1 G0 j26),(14,E2 l),(15,Ei l.length),(16,Ei i23)]) (fun j26=>[(1130,.spare 3 1 j26.length j26.length)]) (fun Kj26 ej26=>?_) ?_
  ·
   refine Gp (Jr fun hK27=>(JLh (Ec y23) (Gw (f:=Stowed.av) (xs:=l) (y:=y23) O O O H0 hy23 O) O (JLh (.agg (Stowed.cs y23)) (Gj Z8 O O O) O (JLh (.ptr 1131 0) (Ju 1131 4 G13 O O) O (Jf (u:=.junk) (J2 (u:=.agg (Stowed.cs y23)) (ds:=[G0 y23.Gg,G0 y23.Slot.G4,G0 y23.Slot.Tier,U8 y23.Slot.Half]) G36 O O O O O O O O) (G8 (hK27 (Gu [(7,E1 r3),(8,OW 1130 1 G0 s23),(10,Ec y23),(14,E2 l),(15,Ei l.length),(16,Ei i23)] [(1130,.spare 3 1 s23.length s23.length)] 1131 rfl rfl rfl ⟨⟨_,rfl,.same⟩,G⟩ rfl (by repeat' (first | exact .ptr | constructor)) ?_))))))))
   refine Jr fun hK28=>(G57 (E1 r3) O (JLh (.dptr ((Stowed.cs y23).drop 1)) (Ga J6 O O O) O (JLh (.dptr ((Stowed.cs y23).drop 1)) (Ga Jb O O O) O (JLh (G0 y23.Slot.G4) (Gf Gc O O O) O ?_))))
   obtain⟨r29,hr29,h⟩:=Ge h
   refine JLh (BL r29) (Gk O (G61 r3 y23.Slot.G4 r29 hr29) J1a ⟨O,O,O,O,G⟩) O (G8 (hK28 (JCc O h (fun h hb=>?_) (fun h hb=>?_))))
   ·
    refine G3 (G57 (OW 1130 1 G0 s23) O (JLh (Ec y23) (Ga Hw O O O) O (JLh (G0 y23.Gg) (Gf Gc O O O) O (JLh (E1 [y23.Gg]) (Hd (xs:=[G0 y23.Gg]) O ⟨O,O,G⟩ Gq Q1 O O O O) O ?_))))
    obtain⟨ha30,h⟩:=Hv h
    refine JLh (OW 1130 1 G0 (s23++[y23.Gg])) (Qo (f:=G0) (xs:=s23) (ys:=[y23.Gg]) O O O O Gq Y2 ha30 (fun _=>O) (.inl O) O) O (G57 (OW 1130 1 G0 (s23++[y23.Gg])) O (G8 (ej26 _ _ (s23++[y23.Gg]) h ⟨(.sm O O),⟨⟨_,rfl,.same⟩,G⟩,rfl⟩)))
   ·
    refine Gn (ej26 _ _ s23 h ⟨(.sm O O),⟨⟨_,rfl,.same⟩,G⟩,rfl⟩)
  ·intro j26 h
   replace h:=app1 hkj26 h
   refine G3 (JLh (G0 ((i23+1:Nat):Int)) (Hu (Hc hk23 hm15) O O O) O (G57 (G0 ((i23+1:Nat):Int)) O (G8 (e23 _ _ (i23+1) j26 (app1 hn23 h) (by omega) ⟨(.sm O O),⟨⟨_,rfl,.same⟩,G⟩,rfl⟩))))
 ·
  have h:=app1 hkx23 (Hn hi23 (H6 hb))
  refine Hk (hK5 (Jr fun hK31=>(G57 (OW 1130 1 G0 s23) O (G57 (OW 1130 1 G0 s23) O (G8 (hK31 (Gr (fin1l (fun r:(List Int)=>(E1 r:AV)) h))))))))
end
end Go.Proofs.YthcpolfodgjekaaGreat
