/-
 Models of functions of the program,and that they return what the models say.
-/
import Derived.Test.YtjkmmenifdklmaaGreatSpecW
set_option maxRecDepth 100000
set_option linter.unusedVariables false
set_option linter.unusedSimpArgs false
namespace Go.Proofs.YtjkmmenifdklmaaGreat
open Go.RowKit
noncomputable section

namespace XGF
open XAF
open XLF
open XCF
theorem tq_61 (a b:Slot):H4d Eh 4 61 [.int .i64 a.G4,.int .i64 a.Tier,.int .u8 a.Half] [.int .i64 b.G4,.int .i64 b.Tier,.int .u8 b.Half]=some (decide (a=b)):=by
 refine(show _=some ((a.G4==b.G4)&&((a.Tier==b.Tier)&&((a.Half==b.Half)&&true))) by kernel_rfl).trans (congrArg some ?_)
 rw [Bool.eq_iff_iff]
 simp only [Bool.and_eq_true,beq_iff_eq,decide_eq_true_eq,Bool.and_true]
 constructor
 ·intro h; obtain⟨_,_,_⟩:=a; obtain⟨_,_,_⟩:=b; simp_all
 ·intro h; subst h; simp
theorem Q9:Gb5 Eh 61 3=true:=by kernel_rfl
theorem Q19:G0c Eh 61=true:=by kernel_rfl
theorem Q16:H8 Eh 104=true:=by kernel_rfl
theorem Q15:H8 Eh 105=true:=by kernel_rfl
theorem H91:H8 Eh 106=true:=by kernel_rfl
theorem Q14:H8 Eh 107=true:=by kernel_rfl
theorem J48:H8 Eh 108=true:=by kernel_rfl
theorem H65:H8 Eh 11=true:=by kernel_rfl
theorem J45:H8 Eh 114=true:=by kernel_rfl
theorem Q12:H8 Eh 115=true:=by kernel_rfl
theorem J44:H8 Eh 116=true:=by kernel_rfl
theorem Q11:H8 Eh 117=true:=by kernel_rfl
theorem He5:H8 Eh 13=true:=by kernel_rfl
theorem Q05:H8 Eh 136=true:=by kernel_rfl
theorem Q03:H8 Eh 142=true:=by kernel_rfl
theorem Q02:H8 Eh 143=true:=by kernel_rfl
theorem Q01:H8 Eh 144=true:=by kernel_rfl
theorem Q00:H8 Eh 145=true:=by kernel_rfl
theorem J41:H8 Eh 146=true:=by kernel_rfl
theorem Jff:H8 Eh 147=true:=by kernel_rfl
theorem He4:H8 Eh 15=true:=by kernel_rfl
theorem Jfe:H8 Eh 162=true:=by kernel_rfl
theorem Jfd:H8 Eh 163=true:=by kernel_rfl
theorem Jfc:H8 Eh 164=true:=by kernel_rfl
theorem Jfb:H8 Eh 165=true:=by kernel_rfl
theorem He2:H8 Eh 17=true:=by kernel_rfl
theorem Q4e:H8 Eh 49=true:=by kernel_rfl
theorem Q4d:H8 Eh 50=true:=by kernel_rfl
theorem Q4c:H8 Eh 51=true:=by kernel_rfl
theorem J95:H8 Eh 52=true:=by kernel_rfl
theorem J94:H8 Eh 53=true:=by kernel_rfl
theorem J93:H8 Eh 54=true:=by kernel_rfl
theorem J92:H8 Eh 55=true:=by kernel_rfl
theorem J91:H8 Eh 56=true:=by kernel_rfl
theorem Q45:H8 Eh 63=true:=by kernel_rfl
theorem Gfe:H8 Eh 64=true:=by kernel_rfl
theorem Q44:H8 Eh 65=true:=by kernel_rfl
theorem H62:H8 Eh 68=true:=by kernel_rfl
theorem Hdf:H8 Eh 69=true:=by kernel_rfl
theorem J8f:H8 Eh 70=true:=by kernel_rfl
theorem J8e:H8 Eh 71=true:=by kernel_rfl
theorem Q43:H8 Eh 72=true:=by kernel_rfl
theorem Hde:H8 Eh 90=true:=by kernel_rfl
theorem J88:Yp Eh 61 3 24=true:=by kernel_rfl
theorem tf_eqg_61:Eh.eqGuardType Eh.depth 61=false:=by kernel_rfl
theorem Hca:Q1 Eh 43 0 0=true:=by kernel_rfl
theorem G7b:Q1 Eh 43 2 2=true:=by kernel_rfl
theorem Hc9:Q1 Eh 43 3 3=true:=by kernel_rfl
theorem J6:Q1 Eh 61 0 0=true:=by kernel_rfl
theorem Qa:Q1 Eh 61 1 1=true:=by kernel_rfl
theorem Jo:Q1 Eh 61 2 2=true:=by kernel_rfl
theorem Q5:Q1 Eh 63 0 0=true:=by kernel_rfl
theorem Ht:Q1 Eh 63 1 1=true:=by kernel_rfl
theorem Hd8:Gb2 Eh 103 3 104=true:=by kernel_rfl
theorem Jd9:placesOf Eh 104=some []:=by kernel_rfl
theorem J01:placesOf Eh 61=some [(0,1),(1,1),(2,1)]:=by kernel_rfl
theorem H3a:Rt Eh 103=true:=by kernel_rfl
theorem Z5:Rt Eh 34=true:=by kernel_rfl
theorem Jh:Rt Eh 5=true:=by kernel_rfl
theorem H61:Rt Eh 75=true:=by kernel_rfl
theorem Jea:Rt Eh 94=true:=by kernel_rfl
theorem Jfa:Yj Eh 103 1=true:=by kernel_rfl
theorem Jf9:Yj Eh 104 0=true:=by kernel_rfl
theorem Q2c:Yj Eh 61 3=true:=by kernel_rfl
theorem Q2b:Yj Eh 75 1=true:=by kernel_rfl
theorem Ym:sliceB Eh 94 61 3=true:=by kernel_rfl
theorem Jf4:(Eh.info? 104).bind (fun i=>i.zero.map Value.cells)=some (List.toArray []):=by kernel_rfl
theorem J81:(Eh.info? 61).bind (fun i=>i.zero.map Value.cells)=some (List.toArray [.int .i64 0,.int .i64 0,.int .u8 0]):=by kernel_rfl
theorem Je9:Yz Eh 103 1=true:=by kernel_rfl
theorem Je8:Yz Eh 104 0=true:=by kernel_rfl
theorem H82:Yz Eh 61 3=true:=by kernel_rfl
theorem Jf1:Yz Eh 75 1=true:=by kernel_rfl
theorem tf_zv_104:(Eh.info? 104).bind (·.zero)=some (.agg #[]):=by kernel_rfl
theorem tk_3:H2a Eh 3 (fun n:Int=>Value.int .i64 n):=H2a.of_int (by kernel_rfl)
end XGF
open XAF
open XLF
open XCF
open XGF

def G6e (l:List Stowed):Option (List Slot):=
 each (fun y17 i17 (s17:(List Slot)) nx17=>
  need (decide ((s17.length+[y17.Slot].length)*24≤140737488355328∧s17.length+[y17.Slot].length≤maxLen)) <|
  nx17 (s17++[y17.Slot]))
 (fun(s17:(List Slot))=>
  some s17) l 0 []
theorem Hab (l:List Stowed) (r:(List Slot)) (h:G6e l=some r):Pure Eh 52 [E1 l] (·=E8 r):=by
 unfold G6e at h
 refine Gy [.tmp 2] Tryz.func52 O O (Jr fun hK1=>(JLh (E8 ([]:List Slot)) (Hy 3 O O) O (G7 (hK1 (Jr fun hK2=>(JLh (OW 1065 3 Slot.av ([]:List Slot)) (Gb0 1065 61 3 O O O) O (G7 (hK2 (Js fun hK3=>Jr fun hK4=>(Yy (E1 l) O (JLl H0 O O O fun hm7=>(Yy (G0 0) O (G7 (hK4 (Gs ?_)))))))))))))))
 obtain⟨b17,kx17,hb17,hkx17,h⟩:=J5 h
 refine Hc (fun i17 (s17:(List Slot))=>each b17 kx17 (List.drop i17 l) i17 s17=some r) (fun i17 s17=>[(3,OW 1065 3 Slot.av s17),(6,E1 l),(7,Eg l.length),(8,Eg i17)]) (fun i17 s17=>[(1065,.spare 61 3 s17.length s17.length)]) (fun i17=>l.length - i17) 0 [] h ⟨(by repeat' constructor),⟨⟨_,rfl,.same⟩,G⟩,rfl⟩ ?_
 clear h
 intro i17 s17 hi17 K17 e17
 refine Jr fun hK18=>(JLh (BL (decide ((i17:Int) < (l.length:Int)))) (J4 O O O) O (G7 (hK18 (Js fun hK19=>Gk O (fun hb=>?_) (fun hb=>?_)))))
 ·
  have hk17:=Jj hb
  obtain⟨y17,nx17,hy17,hn17,h⟩:=Hq hi17 hk17
  replace h:=Z1 hb17 h
  refine Gp (hK19 (Js fun hK20=>Gs (Jr fun hK21=>(JLh (Eb y17) (Gv (f:=Stowed.av) (xs:=l) (y:=y17) O O O H0 hy17 O) O (JLh (.agg (Stowed.cs y17)) (Gi G19 O O O) O (JLh (.ptr 1066 0) (Qf 1066 4 G5a O O) O (Jk (u:=.junk) (Jb (u:=.agg (Stowed.cs y17)) (ds:=[G0 y17.Gh,G0 y17.Slot.G4,G0 y17.Slot.Tier,U8 y17.Slot.Half]) G92 O O O O O O O O) (G7 (hK21 (Gz [(3,OW 1065 3 Slot.av s17),(5,Eb y17),(6,E1 l),(7,Eg l.length),(8,Eg i17)] [(1065,.spare 61 3 s17.length s17.length)] 1066 rfl rfl rfl ⟨⟨_,rfl,.same⟩,G⟩ rfl (by repeat' (first | exact .ptr | constructor)) (G3 ?_)))))))))))
  refine Yy (OW 1065 3 Slot.av s17) O (JLh (.dptr ((Stowed.cs y17).drop 1)) (Ga Ht O O O) O (JLh (.agg ((Stowed.cs y17).drop 1)) (Gi Q9 O O O) O (JLh (E8 [y17.Slot]) (Hn (xs:=[.agg ((Stowed.cs y17).drop 1)]) O ⟨O,O,G⟩ Ym H82 O O O O) O ?_)))
  obtain⟨ha22,h⟩:=J2 h
  refine JLh (OW 1065 3 Slot.av (s17++[y17.Slot])) (Rj (f:=Slot.av) (xs:=s17) (ys:=[y17.Slot]) O O O O Ym J88 ha22 (fun _=>O) (.inl O) O) O (Yy (OW 1065 3 Slot.av (s17++[y17.Slot])) O (G7 (hK20 (G3 (JLh (G0 ((i17+1:Nat):Int)) (Hs (He hk17 hm7) O O O) O (Yy (G0 ((i17+1:Nat):Int)) O (G7 (e17 _ _ (i17+1) (s17++[y17.Slot]) (app1 hn17 h) (by omega) ⟨(by repeat' constructor),⟨⟨_,rfl,.same⟩,G⟩,rfl⟩))))))))
 ·
  have h:=app1 hkx17 (Hr hi17 (Ha hb))
  refine Hi (hK3 (Jr fun hK23=>(Yy (OW 1065 3 Slot.av s17) O (Yy (OW 1065 3 Slot.av s17) O (G7 (hK23 (Gr (fin1l (fun r:(List Slot)=>(E8 r:AV)) h))))))))

def G88 (b:Gh) (p1:Int):Option Bool:=
 some (decide (b.ID=p1))
theorem J6d (b:Gh) (p1:Int) (r:Bool) (h:G88 b p1=some r):Pure Eh 50 [.agg (Gh.cs b),.dptr [G0 p1]] (·=BL r):=by
 unfold G88 at h
 refine Gy [.tmp 3] Tryz.func50 O O (Jr fun hK1=>(JLh (.ptr 1059 0) (Ji (cs:=(Gh.cs b)) 1059 O O O O O) O (Yy (BL false) O (G7 (hK1 (Gz [(1,.dptr [G0 p1]),(2,Ed b)] [] 1059 rfl rfl rfl G rfl (by exact⟨.conv (.same rfl),.ptr,G⟩) (Jr fun hK2=>(JLh (Ed b) (Ga Hca O O O) O (JLh (G0 b.ID) (Gg Gd O O O) O (JLh (G0 p1) (Gg Gd O O O) O (JLh (BL (decide (b.ID=p1))) (Jt O O O) O (Yy (BL (decide (b.ID=p1))) O (G7 (hK2 (Gr (fin1 BL h))))))))))))))))

def Zk (s:List Gh) (f:Gh→Option Bool):Option Int:=
 each (fun y20 i20 (s20:Unit) nx20=>
  bnd (f y20) fun r26=>
  bif r26 then
  (some (i20:Int))
  else
  (nx20 ()))
 (fun(s20:Unit)=>
  some (-1)) s 0 ()
theorem Gf5 (s:List Gh) (f:Gh→Option Bool) (f_f:FuncId) (f_c:List AV) (f_B:H8 Eh f_f=true) (f_d:Zz (fun _=>false) f_c=true) (f_w:∀ a0 q,f a0=some q→Pure Eh f_f ([.agg (Gh.cs a0)]++f_c) (·=BL q)) (r:Int) (h:Zk s f=some r):Pure Eh 49 [E2 s,.fn f_f f_c] (·=G0 r):=by
 unfold Zk at h
 refine Gy [.tmp 4] Tryz.func49 O O (Jr fun hK1=>(Yy (G0 0) O (G7 (hK1 (Js fun hK2=>Jr fun hK3=>(Yy (E2 s) O (JLl Jm O O O fun hm7=>(Yy (G0 0) O (G7 (hK3 (Gs ?_)))))))))))
 obtain⟨b20,kx20,hb20,hkx20,h⟩:=J5 h
 refine Hc (fun i20 (s20:Unit)=>each b20 kx20 (List.drop i20 s) i20 s20=some r) (fun i20 s20=>[(0,E2 s),(1,.fn f_f f_c),(7,Eg s.length),(8,Eg i20)]) (fun i20 s20=>[]) (fun i20=>s.length - i20) 0 () h ⟨⟨.same O,.same (Qp _ _ f_d),.same O,.same O,G⟩,G,O⟩ ?_
 clear h
 intro i20 s20 hi20 K20 e20
 refine Jr fun hK21=>(JLh (BL (decide ((i20:Int) < (s.length:Int)))) (J4 O O O) O (G7 (hK21 (Js fun hK22=>Gk O (fun hb=>?_) (fun hb=>?_)))))
 ·
  have hk20:=Jj hb
  obtain⟨y20,nx20,hy20,hn20,h⟩:=Hq hi20 hk20
  replace h:=Z1 hb20 h
  refine Gp (hK22 (Js fun hK23=>Gs (Jr fun hK24=>(Yy (Eg i20) O (Yy (Eg i20) O (G7 (hK24 (Jr fun hK25=>(Yy (.fn f_f f_c) O (Yy (E2 s) O (Yy (Eg i20) O (JLh (Ed y20) (Gv (f:=Gh.av) (xs:=s) (y:=y20) O O O Jm hy20 O) O (JLh (.agg (Gh.cs y20)) (Gi G05 O O O) O ?_)))))))))))))
  obtain⟨r26,hr26,h⟩:=Ge h
  refine JLh (BL r26) (G8c (args:=[.agg (Gh.cs y20)]) (caps:=f_c) O O (f_w y20 _ hr26) f_B ⟨O,O,G⟩ f_d) O (G7 (hK25 (JCc O h (fun h hb=>?_) (fun h hb=>?_))))
  ·
   refine Jr fun hK27=>(Yy (Eg i20) O (Yy (Eg i20) O (G7 (hK27 (Gr (fin1 G0 h))))))
  ·
   refine Gp (hK23 (G3 (JLh (G0 ((i20+1:Nat):Int)) (Hs (He hk20 hm7) O O O) O (Yy (G0 ((i20+1:Nat):Int)) O (G7 (e20 _ _ (i20+1) () (app1 hn20 h) (by omega) ⟨⟨.same rfl,.same (Qp _ _ f_d),.same rfl,.same rfl,G⟩,G,rfl⟩))))))
 ·
  have h:=app1 hkx20 (Hr hi20 (Ha hb))
  refine Hi (hK2 (Jr fun hK28=>(Yy (G0 (-1)) O (G7 (hK28 (Gr (fin1 G0 h)))))))

def G2a (boxes:List Gh) (id_:Int):Option (Gh×Bool):=
 bnd (Zk boxes (fun z0=>G88 z0 id_)) fun r3=>
 bif decide (r3 < 0) then
 (some ((Gh.mk 0 ByteArray.empty 0 false 0 0 0 0 false),false))
 else
 (Qm boxes r3 fun y8=>
  some (y8,true))
theorem Gca (boxes:List Gh) (id_:Int) (r:Gh×Bool) (h:G2a boxes id_=some r):Pure Eh 11 [E2 boxes,G0 id_] (·=.tup [.agg (Gh.cs r.1),BL r.2]):=by
 unfold G2a at h
 refine Gy [.cell 4 43,.tmp 5] Tryz.func11 O O (Jr fun hK1=>(JLh (.ptr 1014 0) (Ji (cs:=[G0 id_]) 1014 O O O O O) O (JLh (.ptr 1015 0) (G1c 1015 [G0 0,ST ByteArray.empty,U8 0,BL false,G0 0,G0 0,G0 0,U8 0,BL false] [.int .i64 0,.string ByteArray.empty,.int .u8 0,.bool false,.int .i64 0,.int .i64 0,.int .i64 0,.int .u8 0,.bool false] Zp ⟨.inl O,.inl O,.inl O,.inl O,.inl O,.inl O,.inl O,.inl O,.inl O,G⟩ O O) O (Yy (BL false) O (G7 (hK1 (Gz [(0,E2 boxes),(3,.dptr [G0 id_]),(4,.ptr 1015 0)] [(1015,.box 43 [G0 0,ST ByteArray.empty,U8 0,BL false,G0 0,G0 0,G0 0,U8 0,BL false])] 1014 rfl rfl rfl ⟨⟨_,rfl,.boxEq rfl rfl⟩,G⟩ rfl (by exact⟨.conv (.same rfl),.ptr,.conv (.same rfl),G⟩) ?_)))))))
 refine Jr fun hK2=>(Yy (E2 boxes) O (JLh (.fn 50 [.dptr [G0 id_]]) (G67 (cs:=[.dptr [G0 id_]]) O O) O ?_))
 obtain⟨r3,hr3,h⟩:=Ge h
 refine JLh (G0 r3) (Gn O (Gf5 boxes (fun z0=>G88 z0 id_) 50 [.dptr [G0 id_]] Q4d O (fun z0 q hq=>J6d z0 id_ q hq) r3 hr3) Q4e ⟨O,O,O,O,G⟩) O (Yy (G0 r3) O (G7 (hK2 (Js fun hK4=>Jr fun hK5=>(Yy (G0 r3) O (JLh (BL (decide (r3 < 0))) (J4 O O O) O (G7 (hK5 (JCc O h (fun h hb=>?_) (fun h hb=>?_))))))))))
 ·
  refine Jr fun hK6=>(JLh (.agg [G0 0,ST ByteArray.empty,U8 0,BL false,G0 0,G0 0,G0 0,U8 0,BL false]) (Jq (cs:=[G0 0,ST ByteArray.empty,U8 0,BL false,G0 0,G0 0,G0 0,U8 0,BL false]) [(0,1),(1,1),(2,1),(3,1),(4,1),(5,1),(6,1),(7,1),(8,1)] [G0 0,ST ByteArray.empty,U8 0,BL false,G0 0,G0 0,G0 0,U8 0,BL false] [.int .i64 0,.string ByteArray.empty,.int .u8 0,.bool false,.int .i64 0,.int .i64 0,.int .i64 0,.int .u8 0,.bool false] Zr Zp ⟨.inl O,.inl O,.inl O,.inl O,.inl O,.inl O,.inl O,.inl O,.inl O,G⟩ O O) O (Jk (u:=.junk) (Jb (u:=.agg [G0 0,ST ByteArray.empty,U8 0,BL false,G0 0,G0 0,G0 0,U8 0,BL false]) (ds:=[G0 0,ST ByteArray.empty,U8 0,BL false,G0 0,G0 0,G0 0,U8 0,BL false]) G08 O O O O O O O O) (Yy (BL false) O (G7 (hK6 ?_)))))
  refine Gr (⟨[.agg [G0 0,ST ByteArray.empty,U8 0,BL false,G0 0,G0 0,G0 0,U8 0,BL false],BL false],[],G,O,⟨⟨_,⟨_,_,_,_,O,O,O,.inl ⟨G05,O⟩⟩,.conv (.same O)⟩,⟨_,O,.conv (.same O)⟩,G⟩,O,congrArg (fun r:Gh×Bool=>(.tup [.agg (Gh.cs r.1),BL r.2]:AV)) (Option.some.inj h)⟩)
 ·
  refine Gp (hK4 (Jr fun hK7=>(Yy (E2 boxes) O (Yy (G0 r3) O ?_))))
  obtain⟨m9,y8,hm9,hy8,h⟩:=Qx h
  refine JLh (Ed y8) (Gv (f:=Gh.av) (xs:=boxes) (y:=y8) O O O Jm hy8 hm9) O (JLh (.agg (Gh.cs y8)) (Gi G05 O O O) O (Jk (u:=.junk) (Jb (u:=.agg (Gh.cs y8)) (ds:=(Gh.cs y8)) G08 O O O O O O O O) (Yy (BL true) O (G7 (hK7 (Gr (⟨[.agg (Gh.cs y8),BL true],[],G,O,⟨⟨_,⟨_,_,_,_,O,O,O,.inl ⟨G05,O⟩⟩,.conv (.same O)⟩,⟨_,O,.conv (.same O)⟩,G⟩,O,congrArg (fun r:Gh×Bool=>(.tup [.agg (Gh.cs r.1),BL r.2]:AV)) (Option.some.inj h)⟩)))))))

def G02 (s:List Int) (v:Int):Option Int:=
 each (fun y18 i18 (s18:Unit) nx18=>
  bif decide (v=y18) then
  (some (i18:Int))
  else
  (nx18 ()))
 (fun(s18:Unit)=>
  some (-1)) s 0 ()
theorem H7a (s:List Int) (v:Int) (r:Int) (h:G02 s v=some r):Pure Eh 142 [E9 s,U8 v] (·=G0 r):=by
 unfold G02 at h
 refine Gy [.tmp 4] Tryz.func142 O O (Jr fun hK1=>(Yy (G0 0) O (G7 (hK1 (Js fun hK2=>Jr fun hK3=>(Yy (E9 s) O (JLl Ge9 O O O fun hm7=>(Yy (G0 0) O (G7 (hK3 (Gs ?_)))))))))))
 obtain⟨b18,kx18,hb18,hkx18,h⟩:=J5 h
 refine Hc (fun i18 (s18:Unit)=>each b18 kx18 (List.drop i18 s) i18 s18=some r) (fun i18 s18=>[(0,E9 s),(1,U8 v),(7,Eg s.length),(8,Eg i18)]) (fun i18 s18=>[]) (fun i18=>s.length - i18) 0 () h ⟨(by repeat' constructor),G,rfl⟩ ?_
 clear h
 intro i18 s18 hi18 K18 e18
 refine Jr fun hK19=>(JLh (BL (decide ((i18:Int) < (s.length:Int)))) (J4 O O O) O (G7 (hK19 (Js fun hK20=>Gk O (fun hb=>?_) (fun hb=>?_)))))
 ·
  have hk18:=Jj hb
  obtain⟨y18,nx18,hy18,hn18,h⟩:=Hq hi18 hk18
  replace h:=Z1 hb18 h
  refine Gp (hK20 (Js fun hK21=>Gs (Jr fun hK22=>(Yy (Eg i18) O (Yy (Eg i18) O (G7 (hK22 (Jr fun hK23=>(Yy (U8 v) O (Yy (E9 s) O (Yy (Eg i18) O (JLh (.dptr [U8 y18]) (Gv (f:=U8) (xs:=s) (y:=y18) O O O Ge9 hy18 O) O (JLh (U8 y18) (Gg Jh O O O) O (JLh (BL (decide (v=y18))) (Jt O O O) O (G7 (hK23 (JCc O h (fun h hb=>?_) (fun h hb=>?_))))))))))))))))))
  ·
   refine Jr fun hK24=>(Yy (Eg i18) O (Yy (Eg i18) O (G7 (hK24 (Gr (fin1 G0 h))))))
  ·
   refine Gp (hK21 (G3 (JLh (G0 ((i18+1:Nat):Int)) (Hs (He hk18 hm7) O O O) O (Yy (G0 ((i18+1:Nat):Int)) O (G7 (e18 _ _ (i18+1) () (app1 hn18 h) (by omega) ⟨(by repeat' constructor),G,rfl⟩))))))
 ·
  have h:=app1 hkx18 (Hr hi18 (Ha hb))
  refine Hi (hK2 (Jr fun hK25=>(Yy (G0 (-1)) O (G7 (hK25 (Gr (fin1 G0 h)))))))

def Yx (s:List Int) (v:Int):Option Bool:=
 bnd (G02 s v) fun r3=>
 some (decide (0≤r3))
theorem H28 (s:List Int) (v:Int) (r:Bool) (h:Yx s v=some r):Pure Eh 104 [E9 s,U8 v] (·=BL r):=by
 unfold Yx at h
 refine Gy [.tmp 4] Tryz.func104 O O (Jr fun hK1=>(Yy (BL false) O (G7 (hK1 (Jr fun hK2=>(Yy (E9 s) O (Yy (U8 v) O ?_)))))))
 obtain⟨r3,hr3,h⟩:=Ge h
 refine JLh (G0 r3) (Gn O (H7a s v r3 hr3) Q03 ⟨O,O,O,O,G⟩) O (JLh (BL (decide (0≤r3))) (G17 O O O) O (Yy (BL (decide (0≤r3))) O (G7 (hK2 (Gr (fin1 BL h))))))

def G71 (s:H4) (x:Slot) (size:Int):Option Bool:=
 bnd (bif (((decide (0≤x.G4))&&(decide (x.G4 < (s.Columns.length:Int))))&&(decide (0≤x.Tier))) then Qm s.Columns x.G4 some else some default) fun y3=>
 bnd (bif ((((decide (0≤x.G4))&&(decide (x.G4 < (s.Columns.length:Int))))&&(decide (0≤x.Tier)))&&(decide (x.Tier < y3.Tiers))) then G89 size else some default) fun r4=>
 bnd (bif ((((decide (0≤x.G4))&&(decide (x.G4 < (s.Columns.length:Int))))&&(decide (0≤x.Tier)))&&(decide (x.Tier < y3.Tiers))) then Yx r4 x.Half else some default) fun r5=>
 some (((((decide (0≤x.G4))&&(decide (x.G4 < (s.Columns.length:Int))))&&(decide (0≤x.Tier)))&&(decide (x.Tier < y3.Tiers)))&&r5)
theorem Haf (s:H4) (x:Slot) (size:Int) (r:Bool) (h:G71 s x size=some r):Pure Eh 53 [.agg (H4.cs s),.agg [G0 x.G4,G0 x.Tier,U8 x.Half],U8 size] (·=BL r):=by
 unfold G71 at h
 refine Gy [.tmp 6] Tryz.func53 O O (Jr fun hK1=>(JLh (.ptr 1067 0) (Ji (cs:=(H4.cs s)) 1067 O O O O O) O (JLh (.ptr 1068 0) (Ji (cs:=[G0 x.G4,G0 x.Tier,U8 x.Half]) 1068 O O O O O) O (Yy (BL false) O (G7 (hK1 ?_))))))
 refine Gz [(2,U8 size),(3,Ea s),(4,.ptr 1068 0)] [(1068,.box 61 [G0 x.G4,G0 x.Tier,U8 x.Half])] 1067 rfl rfl rfl ⟨⟨_,rfl,.boxEq rfl rfl⟩,G⟩ rfl (by exact⟨.conv (.same rfl),.ptr,.conv (.same rfl),G⟩) ?_
 refine Gz [(2,U8 size),(3,Ea s),(4,.dptr [G0 x.G4,G0 x.Tier,U8 x.Half])] [] 1068 rfl rfl rfl G rfl (by exact⟨.conv (.same rfl),.conv (.same rfl),.ptr,G⟩) (Js fun hK2=>?_)
 obtain⟨y3,hy3,h⟩:=Ge h
 obtain⟨r4,hr4,h⟩:=Ge h
 obtain⟨r5,hr5,h⟩:=Ge h
 refine JC_d0 J8 (by kernel_rfl) (Dq (.dptr [G0 x.G4,G0 x.Tier,U8 x.Half]) (Ga J6 O O O) O (Dq (G0 x.G4) (Gg Gd O O O) O (Dq (BL (decide (0≤x.G4))) (G17 O O O) O (Dq (BL (decide (0≤x.G4))) (G5 O O) O (Do (.dptr [G0 x.G4,G0 x.Tier,U8 x.Half]) [] O .sct G (fun hc=>Ga J6 O O O) O (Do (G0 x.G4) [11] O .sct ⟨Ua,G⟩ (fun hc=>Gg Gd O O O) O (Do (Ea s) [] O .sct G (fun hc=>Ga Hd O O O) O (Do (E4 s.Columns) [13] O .sct ⟨Ua,G⟩ (fun hc=>Gg Hm O O O) O (Do (Eg s.Columns.length) [14] O .sct ⟨Ua,G⟩ (fun hc=>Qi (f:=G4.av) (xs:=s.Columns) H5 O O) O (Do (BL (decide (x.G4 < (s.Columns.length:Int)))) [12,15] O .sct ⟨Ua,Ua,G⟩ (fun hc=>J4 O O O) O (Dq (BL ((decide (0≤x.G4))&&(decide (x.G4 < (s.Columns.length:Int))))) (Hx O O O O) O (Dq (BL ((decide (0≤x.G4))&&(decide (x.G4 < (s.Columns.length:Int))))) (G5 O O) O (Do (.dptr [G0 x.Tier,U8 x.Half]) [] O .sct G (fun hc=>Ga Qa O O O) O ?_)))))))))))))
 refine Do (G0 x.Tier) [19] O .sct ⟨Ua,G⟩ (fun hc=>Gg Gd O O O) O (Do (BL (decide (0≤x.Tier))) [20] O .sct ⟨Ua,G⟩ (fun hc=>G17 O O O) O (Dq (BL (((decide (0≤x.G4))&&(decide (x.G4 < (s.Columns.length:Int))))&&(decide (0≤x.Tier)))) (Hx O O O O) O (Dq (BL (((decide (0≤x.G4))&&(decide (x.G4 < (s.Columns.length:Int))))&&(decide (0≤x.Tier)))) (G5 O O) O (Do (.dptr [G0 x.Tier,U8 x.Half]) [] O .sct G (fun hc=>Ga Qa O O O) O (Do (G0 x.Tier) [24] O .sct ⟨Ua,G⟩ (fun hc=>Gg Gd O O O) O (Do (Ea s) [] O .sct G (fun hc=>Ga Hd O O O) O (Do (E4 s.Columns) [26] O .sct ⟨Ua,G⟩ (fun hc=>Gg Hm O O O) O (Do (.dptr [G0 x.G4,G0 x.Tier,U8 x.Half]) [] O .sct G (fun hc=>Ga J6 O O O) O (Do (G0 x.G4) [28] O .sct ⟨Ua,G⟩ (fun hc=>Gg Gd O O O) O (Do (Ec y3) [27,29] O .sct ⟨Ua,Ua,G⟩ (fun hc=>(match Q3 (Gx hc hy3) with | ⟨_,hm_,hy_⟩=>Gv (f:=G4.av) (xs:=s.Columns) (y:=y3) O O O H5 hy_ hm_)) O (Do (.dptr ((G4.cs y3).drop 3)) [30] O .sct ⟨Ua,G⟩ (fun hc=>Ga Zs O O O) O (Do (G0 y3.Tiers) [31] O .sct ⟨Ua,G⟩ (fun hc=>Gg Gd O O O) O (Do (BL (decide (x.Tier < y3.Tiers))) [25,32] O .sct ⟨Ua,Ua,G⟩ (fun hc=>J4 O O O) O ?_)))))))))))))
 refine Dq (BL ((((decide (0≤x.G4))&&(decide (x.G4 < (s.Columns.length:Int))))&&(decide (0≤x.Tier)))&&(decide (x.Tier < y3.Tiers)))) (Hx O O O O) O (Dq (BL ((((decide (0≤x.G4))&&(decide (x.G4 < (s.Columns.length:Int))))&&(decide (0≤x.Tier)))&&(decide (x.Tier < y3.Tiers)))) (G5 O O) O (Do (U8 size) [] O .sct G (fun hc=>G5 O O) O (Do (E9 r4) [36] O .sct ⟨Ua,G⟩ (fun hc=>Gn (args:=[U8 size]) O (J6e size r4 (Gx hc hr4)) Q15 ⟨O,O,G⟩) O (Do (.dptr [U8 x.Half]) [] O .sct G (fun hc=>Ga Jo O O O) O (Do (U8 x.Half) [38] O .sct ⟨Ua,G⟩ (fun hc=>Gg Jh O O O) O (Do (BL r5) [37,39] O .sct ⟨Ua,Ua,G⟩ (fun hc=>Gn (args:=[E9 r4,U8 x.Half]) O (H28 r4 x.Half r5 (Gx hc hr5)) Q16 ⟨O,O,O,O,G⟩) O (Dq (BL (((((decide (0≤x.G4))&&(decide (x.G4 < (s.Columns.length:Int))))&&(decide (0≤x.Tier)))&&(decide (x.Tier < y3.Tiers)))&&r5)) (Hx O O O O) O (Dq (BL (((((decide (0≤x.G4))&&(decide (x.G4 < (s.Columns.length:Int))))&&(decide (0≤x.Tier)))&&(decide (x.Tier < y3.Tiers)))&&r5)) (G8 O O) O (Dnil ?_)))))))))
 refine hK2 (Gr (fin1 BL h))

def Zf (s:List Slot) (v:Slot):Option Int:=
 each (fun y18 i18 (s18:Unit) nx18=>
  bif decide (v=y18) then
  (some (i18:Int))
  else
  (nx18 ()))
 (fun(s18:Unit)=>
  some (-1)) s 0 ()
theorem H46 (s:List Slot) (v:Slot) (r:Int) (h:Zf s v=some r):Pure Eh 143 [E8 s,.agg [G0 v.G4,G0 v.Tier,U8 v.Half]] (·=G0 r):=by
 unfold Zf at h
 refine Gy [.tmp 4] Tryz.func143 O O (Jr fun hK1=>(JLh (.ptr 1140 0) (Ji (cs:=[G0 v.G4,G0 v.Tier,U8 v.Half]) 1140 O O O O O) O (Yy (G0 0) O (G7 (hK1 (Gz [(0,E8 s),(3,.dptr [G0 v.G4,G0 v.Tier,U8 v.Half])] [] 1140 rfl rfl rfl G rfl (by exact⟨.conv (.same rfl),.ptr,G⟩) (Js fun hK2=>Jr fun hK3=>(Yy (E8 s) O (JLl Ym O O O fun hm7=>(Yy (G0 0) O (G7 (hK3 (Gs ?_)))))))))))))
 obtain⟨b18,kx18,hb18,hkx18,h⟩:=J5 h
 refine Hc (fun i18 (s18:Unit)=>each b18 kx18 (List.drop i18 s) i18 s18=some r) (fun i18 s18=>[(0,E8 s),(3,.dptr [G0 v.G4,G0 v.Tier,U8 v.Half]),(7,Eg s.length),(8,Eg i18)]) (fun i18 s18=>[]) (fun i18=>s.length - i18) 0 () h ⟨(by repeat' constructor),G,rfl⟩ ?_
 clear h
 intro i18 s18 hi18 K18 e18
 refine Jr fun hK19=>(JLh (BL (decide ((i18:Int) < (s.length:Int)))) (J4 O O O) O (G7 (hK19 (Js fun hK20=>Gk O (fun hb=>?_) (fun hb=>?_)))))
 ·
  have hk18:=Jj hb
  obtain⟨y18,nx18,hy18,hn18,h⟩:=Hq hi18 hk18
  replace h:=Z1 hb18 h
  refine Gp (hK20 (Js fun hK21=>Gs (Jr fun hK22=>(Yy (Eg i18) O (Yy (Eg i18) O (G7 (hK22 (Js fun hK23=>JC_d0 J8 (by kernel_rfl) (Dq (.agg [G0 v.G4,G0 v.Tier,U8 v.Half]) (Gi Q9 O O O) O (Dq (E8 s) (G5 O O) O (Dq (Eg i18) (G5 O O) O (Dq (.dptr (Slot.cs y18)) (Gv (f:=Slot.av) (xs:=s) (y:=y18) O O O Ym hy18 O) O (Dq (.agg (Slot.cs y18)) (Gi Q9 O O O) O (Dq (BL (decide (v=y18))) (Gb1 (vs:=[.int .i64 v.G4,.int .i64 v.Tier,.int .u8 v.Half]) (us:=[.int .i64 y18.G4,.int .i64 y18.Tier,.int .u8 y18.Half]) 4 O (tq_61 v y18) Q19 tf_eqg_61 O O O) O (Dnil (hK23 (JCc O h (fun h hb=>?_) (fun h hb=>?_))))))))))))))))))
  ·
   refine Jr fun hK24=>(Yy (Eg i18) O (Yy (Eg i18) O (G7 (hK24 (Gr (fin1 G0 h))))))
  ·
   refine Gp (hK21 (G3 (JLh (G0 ((i18+1:Nat):Int)) (Hs (He hk18 hm7) O O O) O (Yy (G0 ((i18+1:Nat):Int)) O (G7 (e18 _ _ (i18+1) () (app1 hn18 h) (by omega) ⟨(by repeat' constructor),G,rfl⟩))))))
 ·
  have h:=app1 hkx18 (Hr hi18 (Ha hb))
  refine Hi (hK2 (Jr fun hK25=>(Yy (G0 (-1)) O (G7 (hK25 (Gr (fin1 G0 h)))))))

def Y1 (s:List Slot) (v:Slot):Option Bool:=
 bnd (Zf s v) fun r3=>
 some (decide (0≤r3))
theorem Gf6 (s:List Slot) (v:Slot) (r:Bool) (h:Y1 s v=some r):Pure Eh 107 [E8 s,.agg [G0 v.G4,G0 v.Tier,U8 v.Half]] (·=BL r):=by
 unfold Y1 at h
 refine Gy [.tmp 4] Tryz.func107 O O (Jr fun hK1=>(JLh (.ptr 1118 0) (Ji (cs:=[G0 v.G4,G0 v.Tier,U8 v.Half]) 1118 O O O O O) O (Yy (BL false) O (G7 (hK1 (Gz [(0,E8 s),(3,.dptr [G0 v.G4,G0 v.Tier,U8 v.Half])] [] 1118 rfl rfl rfl G rfl (by exact⟨.conv (.same rfl),.ptr,G⟩) (Jr fun hK2=>(Yy (E8 s) O (JLh (.agg [G0 v.G4,G0 v.Tier,U8 v.Half]) (Gi Q9 O O O) O ?_)))))))))
 obtain⟨r3,hr3,h⟩:=Ge h
 refine JLh (G0 r3) (Gn O (H46 s v r3 hr3) Q02 ⟨O,O,O,O,G⟩) O (JLh (BL (decide (0≤r3))) (G17 O O O) O (Yy (BL (decide (0≤r3))) O (G7 (hK2 (Gr (fin1 BL h))))))

def G31 (half:Int) (p1:List Slot) (p2:Slot):Option Bool:=
 G1f (p2.Tier - 1) fun v3=>
 bnd (Y1 p1 (Slot.mk p2.G4 v3 half)) fun r4=>
 some r4
theorem Ge6 (half:Int) (p1:List Slot) (p2:Slot) (r:Bool) (h:G31 half p1 p2=some r):Pure Eh 106 [U8 half,.dptr [E8 p1],.dptr [G0 p2.G4,G0 p2.Tier,U8 p2.Half]] (·=BL r):=by
 unfold G31 at h
 refine Gy [.tmp 4] Tryz.func106 O O (Jr fun hK1=>(Yy (BL false) O (G7 (hK1 (Jr fun hK2=>(JLh (E8 p1) (Gg Jea O O O) O (JLh (.dptr [G0 p2.G4,G0 p2.Tier,U8 p2.Half]) (Ga J6 O O O) O (JLh (G0 p2.G4) (Gg Gd O O O) O (JLh (.dptr [G0 p2.Tier,U8 p2.Half]) (Ga Qa O O O) O (JLh (G0 p2.Tier) (Gg Gd O O O) O ?_))))))))))
 obtain⟨v3,hv3,h⟩:=Qq h
 refine JLh (G0 v3) (Gaf hv3 O O O) O (Yy (U8 half) O (JLh (.agg [G0 p2.G4,G0 v3,U8 half]) (Jq (cs:=[G0 p2.G4,G0 v3,U8 half]) [(0,1),(1,1),(2,1)] [G0 0,G0 0,U8 0] [.int .i64 0,.int .i64 0,.int .u8 0] J01 J81 ⟨.inl O,.inl O,.inl O,G⟩ O O) O ?_))
 obtain⟨r4,hr4,h⟩:=Ge h
 refine JLh (BL r4) (Gn O (Gf6 p1 (Slot.mk p2.G4 v3 half) r4 hr4) Q14 ⟨O,O,O,O,G⟩) O (Yy (BL r4) O (G7 (hK2 (Gr (fin1 BL h)))))

def G9c (x:Slot) (l:List Slot):Option Bool:=
 bif decide (x.Tier≤0) then
 (some true)
 else
 (bnd (G31 x.Half l x) fun r7=>
  bnd (bif ((!r7)&&(decide (x.Half=0))) then G31 1 l x else some default) fun r8=>
  bnd (bif ((!r7)&&((decide (x.Half=0))&&r8)) then G31 2 l x else some default) fun r9=>
  some (r7||(((decide (x.Half=0))&&r8)&&r9)))
theorem Hd2 (x:Slot) (l:List Slot) (r:Bool) (h:G9c x l=some r):Pure Eh 54 [.agg [G0 x.G4,G0 x.Tier,U8 x.Half],E8 l] (·=BL r):=by
 unfold G9c at h
 refine Gy [.tmp 4] Tryz.func54 O O (Jr fun hK1=>(JLh (.ptr 1069 0) (Ji (cs:=[G0 x.G4,G0 x.Tier,U8 x.Half]) 1069 O O O O O) O (JLh (.ptr 1070 0) (Ji (cs:=[E8 l]) 1070 O O O O O) O (Yy (BL false) O (G7 (hK1 (Gz [(2,.dptr [G0 x.G4,G0 x.Tier,U8 x.Half]),(3,.ptr 1070 0)] [(1070,.box 94 [E8 l])] 1069 rfl rfl rfl ⟨⟨_,rfl,.boxEq rfl rfl⟩,G⟩ rfl (by exact⟨.ptr,.conv (.same rfl),G⟩) (Gz [(2,.dptr [G0 x.G4,G0 x.Tier,U8 x.Half]),(3,.dptr [E8 l])] [] 1070 rfl rfl rfl G rfl (by exact⟨.conv (.same rfl),.ptr,G⟩) (Js fun hK2=>Jr fun hK3=>(JLh (.dptr [G0 x.Tier,U8 x.Half]) (Ga Qa O O O) O (JLh (G0 x.Tier) (Gg Gd O O O) O (JLh (BL (decide (x.Tier≤0))) (Hd4 O O O) O (G7 (hK3 ?_))))))))))))))
 refine JCc O h (fun h hb=>?_) (fun h hb=>?_)
 ·
  refine Jr fun hK4=>(Yy (BL true) O (G7 (hK4 (Gr (fin1 BL h)))))
 ·
  refine Gp (hK2 (Jr fun hK5=>(JLh (.fn 106 [.dptr [E8 l],.dptr [G0 x.G4,G0 x.Tier,U8 x.Half]]) (G67 (cs:=[.dptr [E8 l],.dptr [G0 x.G4,G0 x.Tier,U8 x.Half]]) O O) O (Yy (.fn 106 [.dptr [E8 l],.dptr [G0 x.G4,G0 x.Tier,U8 x.Half]]) O (G7 (hK5 (Jr fun hK6=>(Yy (.fn 106 [.dptr [E8 l],.dptr [G0 x.G4,G0 x.Tier,U8 x.Half]]) O (JLh (.dptr [U8 x.Half]) (Ga Jo O O O) O (JLh (U8 x.Half) (Gg Jh O O O) O ?_))))))))))
  obtain⟨r7,hr7,h⟩:=Ge h
  refine JLh (BL r7) (G8c (args:=[U8 x.Half]) (caps:=[.dptr [E8 l],.dptr [G0 x.G4,G0 x.Tier,U8 x.Half]]) O O (Ge6 x.Half l x r7 hr7) H91 ⟨O,O,G⟩ O) O (Yy (BL r7) O (JLo (.dptr [U8 x.Half]) [] O .scf G (fun hc=>Ga Jo O O O) O (JLo (U8 x.Half) [15] O .scf ⟨Ua,G⟩ (fun hc=>Gg Jh O O O) O (JLo (BL (decide (x.Half=0))) [16] O .scf ⟨Ua,G⟩ (fun hc=>Jt O O O) O (JLo (BL (decide (x.Half=0))) [17] O .scf ⟨Ua,G⟩ (fun hc=>G5 O O) O (JLo (.fn 106 [.dptr [E8 l],.dptr [G0 x.G4,G0 x.Tier,U8 x.Half]]) [] O .optt G (fun hc=>G5 O O) O ?_))))))
  obtain⟨r8,hr8,h⟩:=Ge h
  refine JLo (BL r8) [19] O .optt ⟨Ua,G⟩ (fun hc=>G8c (args:=[U8 1]) (caps:=[.dptr [E8 l],.dptr [G0 x.G4,G0 x.Tier,U8 x.Half]]) O O (Ge6 1 l x r8 (Gx hc hr8)) H91 ⟨O,O,G⟩ O) O (G9 (u:=BL ((decide (x.Half=0))&&r8)) [(18,BL (decide (x.Half=0))),(20,_)] O O O .scf ⟨.all id,.part,G⟩ (fun hc=>Hx O O O O) ?_)
  refine JLo (BL ((decide (x.Half=0))&&r8)) [21] O .scf ⟨Ua,G⟩ (fun hc=>G5 O O) O (JLo (.fn 106 [.dptr [E8 l],.dptr [G0 x.G4,G0 x.Tier,U8 x.Half]]) [] O .optt G (fun hc=>G5 O O) O ?_)
  obtain⟨r9,hr9,h⟩:=Ge h
  refine JLo (BL r9) [23] O .optt ⟨Ua,G⟩ (fun hc=>G8c (args:=[U8 2]) (caps:=[.dptr [E8 l],.dptr [G0 x.G4,G0 x.Tier,U8 x.Half]]) O O (Ge6 2 l x r9 (Gx hc hr9)) H91 ⟨O,O,G⟩ O) O (G9 (u:=BL (((decide (x.Half=0))&&r8)&&r9)) [(22,BL ((decide (x.Half=0))&&r8)),(24,_)] O O O .scf ⟨.all id,.part,G⟩ (fun hc=>Hx O O O O) ?_)
  refine JLh (BL (r7||(((decide (x.Half=0))&&r8)&&r9))) (Yi O O O O) O (Yy (BL (r7||(((decide (x.Half=0))&&r8)&&r9))) O (G7 (hK6 (Gr (fin1 BL h)))))

def G50 (a:Int) (b:Int):Option Bool:=
 some (((decide (a=b))||(decide (a=0)))||(decide (b=0)))
theorem H7e (a:Int) (b:Int) (r:Bool) (h:G50 a b=some r):Pure Eh 108 [U8 a,U8 b] (·=BL r):=by
 unfold G50 at h
 refine Gy [.tmp 4] Tryz.func108 O O (Jr fun hK1=>(Yy (BL false) O (G7 (hK1 (Jr fun hK2=>(Yy (U8 a) O (Yy (U8 b) O (JLh (BL (decide (a=b))) (Jt O O O) O (Yy (BL (decide (a=b))) O (JLo (U8 a) [] O .scf G (fun hc=>G5 O O) O (JLo (BL (decide (a=0))) [9] O .scf ⟨Ua,G⟩ (fun hc=>Jt O O O) O (JLh (BL ((decide (a=b))||(decide (a=0)))) (Yi O O O O) O (Yy (BL ((decide (a=b))||(decide (a=0)))) O (JLo (U8 b) [] O .scf G (fun hc=>G5 O O) O (JLo (BL (decide (b=0))) [13] O .scf ⟨Ua,G⟩ (fun hc=>Jt O O O) O (JLh (BL (((decide (a=b))||(decide (a=0)))||(decide (b=0)))) (Yi O O O O) O (Yy (BL (((decide (a=b))||(decide (a=0)))||(decide (b=0)))) O (G7 (hK2 (Gr (fin1 BL h)))))))))))))))))))))

def G9b (a:Slot) (b:Slot):Option Bool:=
 bnd (bif ((decide (a.G4=b.G4))&&(decide (a.Tier=b.Tier))) then G50 a.Half b.Half else some default) fun r3=>
 some (((decide (a.G4=b.G4))&&(decide (a.Tier=b.Tier)))&&r3)
theorem Hd1 (a:Slot) (b:Slot) (r:Bool) (h:G9b a b=some r):Pure Eh 55 [.agg [G0 a.G4,G0 a.Tier,U8 a.Half],.agg [G0 b.G4,G0 b.Tier,U8 b.Half]] (·=BL r):=by
 unfold G9b at h
 refine Gy [.tmp 4] Tryz.func55 O O (Jr fun hK1=>(JLh (.ptr 1071 0) (Ji (cs:=[G0 a.G4,G0 a.Tier,U8 a.Half]) 1071 O O O O O) O (JLh (.ptr 1072 0) (Ji (cs:=[G0 b.G4,G0 b.Tier,U8 b.Half]) 1072 O O O O O) O (Yy (BL false) O (G7 (hK1 (Gz [(2,.dptr [G0 a.G4,G0 a.Tier,U8 a.Half]),(3,.ptr 1072 0)] [(1072,.box 61 [G0 b.G4,G0 b.Tier,U8 b.Half])] 1071 rfl rfl rfl ⟨⟨_,rfl,.boxEq rfl rfl⟩,G⟩ rfl (by exact⟨.ptr,.conv (.same rfl),G⟩) (Gz [(2,.dptr [G0 a.G4,G0 a.Tier,U8 a.Half]),(3,.dptr [G0 b.G4,G0 b.Tier,U8 b.Half])] [] 1072 rfl rfl rfl G rfl (by exact⟨.conv (.same rfl),.ptr,G⟩) ?_))))))))
 refine Jr fun hK2=>(JLh (.dptr [G0 a.G4,G0 a.Tier,U8 a.Half]) (Ga J6 O O O) O (JLh (G0 a.G4) (Gg Gd O O O) O (JLh (.dptr [G0 b.G4,G0 b.Tier,U8 b.Half]) (Ga J6 O O O) O (JLh (G0 b.G4) (Gg Gd O O O) O (JLh (BL (decide (a.G4=b.G4))) (Jt O O O) O (Yy (BL (decide (a.G4=b.G4))) O (JLo (.dptr [G0 a.Tier,U8 a.Half]) [] O .sct G (fun hc=>Ga Qa O O O) O (JLo (G0 a.Tier) [11] O .sct ⟨Ua,G⟩ (fun hc=>Gg Gd O O O) O (JLo (.dptr [G0 b.Tier,U8 b.Half]) [] O .sct G (fun hc=>Ga Qa O O O) O (JLo (G0 b.Tier) [13] O .sct ⟨Ua,G⟩ (fun hc=>Gg Gd O O O) O (JLo (BL (decide (a.Tier=b.Tier))) [12,14] O .sct ⟨Ua,Ua,G⟩ (fun hc=>Jt O O O) O (JLh (BL ((decide (a.G4=b.G4))&&(decide (a.Tier=b.Tier)))) (Hx O O O O) O (Yy (BL ((decide (a.G4=b.G4))&&(decide (a.Tier=b.Tier)))) O ?_)))))))))))))
 refine JLo (.dptr [U8 a.Half]) [] O .sct G (fun hc=>Ga Jo O O O) O (JLo (U8 a.Half) [18] O .sct ⟨Ua,G⟩ (fun hc=>Gg Jh O O O) O (JLo (.dptr [U8 b.Half]) [] O .sct G (fun hc=>Ga Jo O O O) O (JLo (U8 b.Half) [20] O .sct ⟨Ua,G⟩ (fun hc=>Gg Jh O O O) O ?_)))
 obtain⟨r3,hr3,h⟩:=Ge h
 refine JLo (BL r3) [19,21] O .sct ⟨Ua,Ua,G⟩ (fun hc=>Gn (args:=[U8 a.Half,U8 b.Half]) O (H7e a.Half b.Half r3 (Gx hc hr3)) J48 ⟨O,O,O,O,G⟩) O (JLh (BL (((decide (a.G4=b.G4))&&(decide (a.Tier=b.Tier)))&&r3)) (Hx O O O O) O (Yy (BL (((decide (a.G4=b.G4))&&(decide (a.Tier=b.Tier)))&&r3)) O (G7 (hK2 (Gr (fin1 BL h))))))

def Gd0 (b:Gh):Option Int:=
 bif b.High then
 (some 2896)
 else
 (some 2591)
theorem M_stow_tall_w (b:Gh) (r:Int) (h:Gd0 b=some r):Pure Eh 63 [.agg (Gh.cs b)] (·=G0 r):=by
 unfold Gd0 at h
 refine Gy [.tmp 2] Tryz.func63 O O (Jr fun hK1=>(JLh (.ptr 1083 0) (Ji (cs:=(Gh.cs b)) 1083 O O O O O) O (Yy (G0 0) O (G7 (hK1 (Gz [(1,Ed b)] [] 1083 rfl rfl rfl G rfl (by exact⟨.ptr,G⟩) (Js fun hK2=>Jr fun hK3=>(JLh (.dptr ((Gh.cs b).drop 3)) (Ga Hc9 O O O) O (JLh (BL b.High) (Gg Ra O O O) O (G7 (hK3 (JCc O h (fun h hb=>?_) (fun h hb=>?_)))))))))))))
 ·
  refine Jr fun hK4=>(Yy (G0 2896) O (G7 (hK4 (Gr (fin1 G0 h)))))
 ·
  refine Gp (hK2 (Jr fun hK5=>(Yy (G0 2591) O (G7 (hK5 (Gr (fin1 G0 h)))))))

def G30 (boxes:List Gh) (l:List Stowed) (column:Int) (half:Int):Option Int:=
 each (fun y27 i27 (s27:Int) nx27=>
  jp (fun kj30=>
   bif ((decide (y27.Slot.G4=column))&&((decide (y27.Slot.Half=half))||(decide (y27.Slot.Half=0)))) then
   (bnd (G2a boxes y27.Gh) fun r34=>
    bif r34.2 then
    (bnd (Gd0 r34.1) fun r36=>
     G1f (s27+r36) fun v37=>
     kj30 v37)
    else
    (kj30 s27))
   else
   (kj30 s27)) fun(j30:Int)=>
  nx27 j30)
 (fun(s27:Int)=>
  some s27) l 0 0
theorem Ge5 (boxes:List Gh) (l:List Stowed) (column:Int) (half:Int) (r:Int) (h:G30 boxes l column half=some r):Pure Eh 15 [E2 boxes,E1 l,G0 column,U8 half] (·=G0 r):=by
 unfold G30 at h
 refine Gy [.tmp 8] Tryz.func15 O O (Jr fun hK1=>(Yy (G0 0) O (G7 (hK1 (Jr fun hK2=>(Yy (G0 0) O (G7 (hK2 (Js fun hK3=>Jr fun hK4=>(Yy (E1 l) O (JLl H0 O O O fun hm15=>(Yy (G0 0) O (G7 (hK4 (Gs ?_)))))))))))))))
 obtain⟨b27,kx27,hb27,hkx27,h⟩:=J5 h
 refine Hc (fun i27 (s27:Int)=>each b27 kx27 (List.drop i27 l) i27 s27=some r) (fun i27 s27=>[(0,E2 boxes),(2,G0 column),(3,U8 half),(9,G0 s27),(14,E1 l),(15,Eg l.length),(16,Eg i27)]) (fun i27 s27=>[]) (fun i27=>l.length - i27) 0 0 h ⟨(by repeat' constructor),G,rfl⟩ ?_
 clear h
 intro i27 s27 hi27 K27 e27
 refine Jr fun hK28=>(JLh (BL (decide ((i27:Int) < (l.length:Int)))) (J4 O O O) O (G7 (hK28 (Js fun hK29=>Gk O (fun hb=>?_) (fun hb=>?_)))))
 ·
  have hk27:=Jj hb
  obtain⟨y27,nx27,hy27,hn27,h⟩:=Hq hi27 hk27
  replace h:=Z1 hb27 h
  refine Gp (hK29 ?_)
  obtain⟨kj30,hkj30,h⟩:=Gbf h
  refine G73 (fun j30:Int=>kj30 j30=some r) (fun j30=>[(0,E2 boxes),(2,G0 column),(3,U8 half),(9,G0 j30),(14,E1 l),(15,Eg l.length),(16,Eg i27)]) (fun j30=>[]) (fun Kj30 ej30=>?_) ?_
  ·
   refine Gs (Jr fun hK31=>(JLh (Eb y27) (Gv (f:=Stowed.av) (xs:=l) (y:=y27) O O O H0 hy27 O) O (JLh (.agg (Stowed.cs y27)) (Gi G19 O O O) O (JLh (.ptr 1023 0) (Qf 1023 4 G5a O O) O (Jk (u:=.junk) (Jb (u:=.agg (Stowed.cs y27)) (ds:=[G0 y27.Gh,G0 y27.Slot.G4,G0 y27.Slot.Tier,U8 y27.Slot.Half]) G92 O O O O O O O O) (G7 (hK31 (Gz [(0,E2 boxes),(2,G0 column),(3,U8 half),(9,G0 s27),(11,Eb y27),(14,E1 l),(15,Eg l.length),(16,Eg i27)] [] 1023 rfl rfl rfl G rfl (by repeat' (first | exact .ptr | constructor)) ?_))))))))
   refine Jr fun hK32=>(JLh (.dptr ((Stowed.cs y27).drop 1)) (Ga Ht O O O) O (JLh (.dptr ((Stowed.cs y27).drop 1)) (Ga J6 O O O) O (JLh (G0 y27.Slot.G4) (Gg Gd O O O) O (Yy (G0 column) O (JLh (BL (decide (y27.Slot.G4=column))) (Jt O O O) O (Yy (BL (decide (y27.Slot.G4=column))) O (JLo (.dptr ((Stowed.cs y27).drop 1)) [] O .sct G (fun hc=>Ga Ht O O O) O (JLo (.dptr [U8 y27.Slot.Half]) [26] O .sct ⟨Ua,G⟩ (fun hc=>Ga Jo O O O) O (JLo (U8 y27.Slot.Half) [27] O .sct ⟨Ua,G⟩ (fun hc=>Gg Jh O O O) O (JLo (U8 half) [] O .sct G (fun hc=>G5 O O) O (JLo (BL (decide (y27.Slot.Half=half))) [28,29] O .sct ⟨Ua,Ua,G⟩ (fun hc=>Jt O O O) O (JLo (BL (decide (y27.Slot.Half=half))) [30] O .sct ⟨Ua,G⟩ (fun hc=>G5 O O) O (JLo (.dptr ((Stowed.cs y27).drop 1)) [] O .optf G (fun hc=>Ga Ht O O O) O ?_)))))))))))))
   refine JLo (.dptr [U8 y27.Slot.Half]) [32] O .optf ⟨Ua,G⟩ (fun hc=>Ga Jo O O O) O (JLo (U8 y27.Slot.Half) [33] O .optf ⟨Ua,G⟩ (fun hc=>Gg Jh O O O) O (JLo (BL (decide (y27.Slot.Half=0))) [34] O .optf ⟨Ua,G⟩ (fun hc=>Jt O O O) O (G9 (u:=BL ((decide (y27.Slot.Half=half))||(decide (y27.Slot.Half=0)))) [(31,BL (decide (y27.Slot.Half=half))),(35,_)] O O O .sct ⟨.all id,.part,G⟩ (fun hc=>Yi O O O O) ?_)))
   refine JLh (BL ((decide (y27.Slot.G4=column))&&((decide (y27.Slot.Half=half))||(decide (y27.Slot.Half=0))))) (Hx O O O O) O (G7 (hK32 (JCc O h (fun h hb=>?_) (fun h hb=>?_))))
   ·
    refine Jr fun hK33=>(Yy (E2 boxes) O (JLh (Eb y27) (Ga Q5 O O O) O (JLh (G0 y27.Gh) (Gg Gd O O O) O ?_)))
    obtain⟨r34,hr34,h⟩:=Ge h
    refine JLh (.tup [.agg (Gh.cs r34.1),BL r34.2]) (Gn O (Gca boxes y27.Gh r34 hr34) H65 ⟨O,O,O,O,G⟩) O (Yy (.tup [.agg (Gh.cs r34.1),BL r34.2]) O (JLh (.agg (Gh.cs r34.1)) (Hv O O O) O (JLh (BL r34.2) (Hv O O O) O (JLh (.ptr 1024 0) (Qf 1024 9 G24 O O) O (Jk (u:=.junk) (Jb (u:=.agg (Gh.cs r34.1)) (ds:=(Gh.cs r34.1)) G08 O O O O O O O O) (Yy (BL r34.2) O (G7 (hK33 ?_))))))))
    refine Gz [(0,E2 boxes),(2,G0 column),(3,U8 half),(9,G0 s27),(12,Ed r34.1),(13,BL r34.2),(14,E1 l),(15,Eg l.length),(16,Eg i27)] [] 1024 rfl rfl rfl G rfl (by repeat' (first | exact .ptr | constructor)) (Jr fun hK35=>(Yy (BL r34.2) O (G7 (hK35 (JCc O h (fun h hb=>?_) (fun h hb=>?_))))))
    ·
     refine G3 (Yy (G0 s27) O (JLh (.agg (Gh.cs r34.1)) (Gi G05 O O O) O ?_))
     obtain⟨r36,hr36,h⟩:=Ge h
     refine JLh (G0 r36) (Gn O (M_stow_tall_w r34.1 r36 hr36) Q45 ⟨O,O,G⟩) O ?_
     obtain⟨v37,hv37,h⟩:=Qq h
     refine JLh (G0 v37) (Hs hv37 O O O) O (Yy (G0 v37) O (G7 (ej30 _ _ v37 h ⟨(by repeat' constructor),G,rfl⟩)))
    ·
     refine Gp (ej30 _ _ s27 h ⟨(by repeat' constructor),G,rfl⟩)
   ·
    refine Gp (ej30 _ _ s27 h ⟨(by repeat' constructor),G,rfl⟩)
  ·intro j30 h
   replace h:=app1 hkj30 h
   refine G3 (JLh (G0 ((i27+1:Nat):Int)) (Hs (He hk27 hm15) O O O) O (Yy (G0 ((i27+1:Nat):Int)) O (G7 (e27 _ _ (i27+1) j30 (app1 hn27 h) (by omega) ⟨(by repeat' constructor),G,rfl⟩))))
 ·
  have h:=app1 hkx27 (Hr hi27 (Ha hb))
  refine Hi (hK3 (Jr fun hK38=>(Yy (G0 s27) O (Yy (G0 s27) O (G7 (hK38 (Gr (fin1 G0 h))))))))

def G9a (s:H4) (boxes:List Gh) (l:List Stowed) (column:Int):Option Bool:=
 Qm s.Columns column fun y3=>
 bnd (bif (!(decide (y3.Height≤0))) then G30 boxes l column 1 else some default) fun r6=>
 bnd (bif ((!(decide (y3.Height≤0)))&&(decide (r6≤y3.Height))) then G30 boxes l column 2 else some default) fun r7=>
 some ((decide (y3.Height≤0))||((decide (r6≤y3.Height))&&(decide (r7≤y3.Height))))
theorem Hd0 (s:H4) (boxes:List Gh) (l:List Stowed) (column:Int) (r:Bool) (h:G9a s boxes l column=some r):Pure Eh 56 [.agg (H4.cs s),E2 boxes,E1 l,G0 column] (·=BL r):=by
 unfold G9a at h
 refine Gy [.tmp 8] Tryz.func56 O O (Jr fun hK1=>(JLh (.ptr 1073 0) (Ji (cs:=(H4.cs s)) 1073 O O O O O) O (Yy (BL false) O (G7 (hK1 (Gz [(1,E2 boxes),(2,E1 l),(3,G0 column),(4,Ea s)] [] 1073 rfl rfl rfl G rfl (by repeat' (first | exact .ptr | constructor)) ?_))))))
 refine Jr fun hK2=>(JLh (Ea s) (Ga Hd O O O) O (JLh (E4 s.Columns) (Gg Hm O O O) O (Yy (G0 column) O ?_)))
 obtain⟨m4,y3,hm4,hy3,h⟩:=Qx h
 refine JLh (Ec y3) (Gv (f:=G4.av) (xs:=s.Columns) (y:=y3) O O O H5 hy3 hm4) O (JLh (.dptr ((G4.cs y3).drop 4)) (Ga G13 O O O) O (JLh (G0 y3.Height) (Gg Gd O O O) O (Yy (G0 y3.Height) O (G7 (hK2 (Jr fun hK5=>(Yy (G0 y3.Height) O (JLh (BL (decide (y3.Height≤0))) (Hd4 O O O) O (Yy (BL (decide (y3.Height≤0))) O (JLo (E2 boxes) [] O .scf G (fun hc=>G5 O O) O (JLo (E1 l) [] O .scf G (fun hc=>G5 O O) O (JLo (G0 column) [] O .scf G (fun hc=>G5 O O) O ?_))))))))))))
 obtain⟨r6,hr6,h⟩:=Ge h
 refine JLo (G0 r6) [19,20,21] O .scf ⟨Ua,Ua,Ua,G⟩ (fun hc=>Gn (args:=[E2 boxes,E1 l,G0 column,U8 1]) O (Ge5 boxes l column 1 r6 (Gx hc hr6)) He4 ⟨O,O,O,O,O,O,O,O,G⟩) O (JLo (G0 y3.Height) [] O .scf G (fun hc=>G5 O O) O (JLo (BL (decide (r6≤y3.Height))) [22,23] O .scf ⟨Ua,Ua,G⟩ (fun hc=>Hd4 O O O) O (JLo (BL (decide (r6≤y3.Height))) [24] O .scf ⟨Ua,G⟩ (fun hc=>G5 O O) O (JLo (E2 boxes) [] O .optt G (fun hc=>G5 O O) O (JLo (E1 l) [] O .optt G (fun hc=>G5 O O) O (JLo (G0 column) [] O .optt G (fun hc=>G5 O O) O ?_))))))
 obtain⟨r7,hr7,h⟩:=Ge h
 refine JLo (G0 r7) [26,27,28] O .optt ⟨Ua,Ua,Ua,G⟩ (fun hc=>Gn (args:=[E2 boxes,E1 l,G0 column,U8 2]) O (Ge5 boxes l column 2 r7 (Gx hc hr7)) He4 ⟨O,O,O,O,O,O,O,O,G⟩) O (JLo (G0 y3.Height) [] O .optt G (fun hc=>G5 O O) O (JLo (BL (decide (r7≤y3.Height))) [29,30] O .optt ⟨Ua,Ua,G⟩ (fun hc=>Hd4 O O O) O (G9 (u:=BL ((decide (r6≤y3.Height))&&(decide (r7≤y3.Height)))) [(25,BL (decide (r6≤y3.Height))),(31,_)] O O O .scf ⟨.all id,.part,G⟩ (fun hc=>Hx O O O O) ?_)))
 refine JLh (BL ((decide (y3.Height≤0))||((decide (r6≤y3.Height))&&(decide (r7≤y3.Height))))) (Yi O O O O) O (Yy (BL ((decide (y3.Height≤0))||((decide (r6≤y3.Height))&&(decide (r7≤y3.Height))))) O (G7 (hK5 (Gr (fin1 BL h)))))

def G12 (s:H4) (boxes:List Gh) (l:List Stowed):Option Bool:=
 bnd (G6d s) fun r4=>
 bif (!r4) then
 (some false)
 else
 (bnd (G6e l) fun r7=>
  each (fun y10 i10 (s10:Unit) nx10=>
   bnd (G2a boxes y10.Gh) fun r16=>
   bnd (bif ((!(!r16.2))&&(decide (0 < (i10:Int)))) then G1f ((i10:Int) - 1) some else some 0) fun v19=>
   bnd (bif ((!(!r16.2))&&(decide (0 < (i10:Int)))) then Qm l v19 some else some default) fun y20=>
   bnd (bif (!((!r16.2)||((decide (0 < (i10:Int)))&&(decide (y10.Gh≤y20.Gh))))) then G71 s y10.Slot r16.1.Size else some default) fun r21=>
   bnd (bif (!(((!r16.2)||((decide (0 < (i10:Int)))&&(decide (y10.Gh≤y20.Gh))))||(!r21))) then G9c y10.Slot r7 else some default) fun r22=>
   bif ((((!r16.2)||((decide (0 < (i10:Int)))&&(decide (y10.Gh≤y20.Gh))))||(!r21))||(!r22)) then
   (some false)
   else
   (bnd (G36 (i10:Int) r7.length) fun m25=>
    each (fun y42 i42 (s42:Unit) nx42=>
     bnd (G9b y10.Slot y42) fun r48=>
     bif r48 then
     (some false)
     else
     (nx42 ()))
    (fun(s42:Unit)=>
     nx10 ()) (r7.take m25) 0 ()))
  (fun(s10:Unit)=>
   each (fun y64 i64 (s64:Unit) nx64=>
    bnd (G9a s boxes l (i64:Int)) fun r70=>
    bif (!r70) then
    (some false)
    else
    (nx64 ()))
   (fun(s64:Unit)=>
    some true) s.Columns 0 ()) l 0 ())
theorem H16 (s:H4) (boxes:List Gh) (l:List Stowed) (r:Bool) (h:G12 s boxes l=some r):Pure Eh 13 [.agg (H4.cs s),E2 boxes,E1 l] (·=BL r):=by
 unfold G12 at h
 refine Gy [.tmp 6] Tryz.func13 O O (Jr fun hK1=>(JLh (.ptr 1017 0) (Ji (cs:=(H4.cs s)) 1017 O O O O O) O (Yy (BL false) O (G7 (hK1 (Gz [(1,E2 boxes),(2,E1 l),(3,Ea s)] [] 1017 rfl rfl rfl G rfl (by exact⟨.conv (.same rfl),.conv (.same rfl),.ptr,G⟩) (Js fun hK2=>?_)))))))
 refine Jr fun hK3=>(JLh (.agg (H4.cs s)) (Gi Hu O O O) O ?_)
 obtain⟨r4,hr4,h⟩:=Ge h
 refine JLh (BL r4) (Gn O (Jbe.down s r4 hr4) Q4c ⟨O,O,G⟩) O (JLh (BL (!r4)) (R5 (b:=r4) O O) O (G7 (hK3 (JCc O h (fun h hb=>?_) (fun h hb=>?_)))))
 ·
  refine Jr fun hK5=>(Yy (BL false) O (G7 (hK5 (Gr (fin1 BL h)))))
 ·
  refine Gp (hK2 (Jr fun hK6=>(Yy (E1 l) O ?_)))
  obtain⟨r7,hr7,h⟩:=Ge h
  refine JLh (E8 r7) (Gn O (Hab l r7 hr7) J95 ⟨O,O,G⟩) O (Yy (E8 r7) O (G7 (hK6 (Js fun hK8=>Jr fun hK9=>(Yy (E1 l) O (JLl H0 O O O fun hm21=>(Yy (G0 0) O (G7 (hK9 (Gs ?_))))))))))
  obtain⟨b10,kx10,hb10,hkx10,h⟩:=J5 h
  refine Hc (fun i10 (s10:Unit)=>each b10 kx10 (List.drop i10 l) i10 s10=some r) (fun i10 s10=>[(1,E2 boxes),(2,E1 l),(3,Ea s),(7,E8 r7),(20,E1 l),(21,Eg l.length),(22,Eg i10)]) (fun i10 s10=>[]) (fun i10=>l.length - i10) 0 () h ⟨(by repeat' constructor),G,rfl⟩ ?_
  clear h
  intro i10 s10 hi10 K10 e10
  refine Jr fun hK11=>(JLh (BL (decide ((i10:Int) < (l.length:Int)))) (J4 O O O) O (G7 (hK11 (Js fun hK12=>Gk O (fun hb=>?_) (fun hb=>?_)))))
  ·
   have hk10:=Jj hb
   obtain⟨y10,nx10,hy10,hn10,h⟩:=Hq hi10 hk10
   replace h:=Z1 hb10 h
   refine Gp (hK12 (Js fun hK13=>Gs (Jr fun hK14=>(Yy (Eg i10) O (JLh (Eb y10) (Gv (f:=Stowed.av) (xs:=l) (y:=y10) O O O H0 hy10 O) O (JLh (.agg (Stowed.cs y10)) (Gi G19 O O O) O (JLh (.ptr 1018 0) (Qf 1018 4 G5a O O) O (Yy (Eg i10) O (Jk (u:=.junk) (Jb (u:=.agg (Stowed.cs y10)) (ds:=[G0 y10.Gh,G0 y10.Slot.G4,G0 y10.Slot.Tier,U8 y10.Slot.Half]) G92 O O O O O O O O) (G7 (hK14 ?_)))))))))))
   refine Gz [(1,E2 boxes),(2,E1 l),(3,Ea s),(7,E8 r7),(8,Eg i10),(9,Eb y10),(20,E1 l),(21,Eg l.length),(22,Eg i10)] [] 1018 rfl rfl rfl G rfl (by repeat' (first | exact .ptr | constructor)) (Jr fun hK15=>(Yy (E2 boxes) O (JLh (Eb y10) (Ga Q5 O O O) O (JLh (G0 y10.Gh) (Gg Gd O O O) O ?_))))
   obtain⟨r16,hr16,h⟩:=Ge h
   refine JLh (.tup [.agg (Gh.cs r16.1),BL r16.2]) (Gn O (Gca boxes y10.Gh r16 hr16) H65 ⟨O,O,O,O,G⟩) O (Yy (.tup [.agg (Gh.cs r16.1),BL r16.2]) O (JLh (.agg (Gh.cs r16.1)) (Hv O O O) O (JLh (BL r16.2) (Hv O O O) O (JLh (.ptr 1019 0) (Qf 1019 9 G24 O O) O (Jk (u:=.junk) (Jb (u:=.agg (Gh.cs r16.1)) (ds:=(Gh.cs r16.1)) G08 O O O O O O O O) (Yy (BL r16.2) O (G7 (hK15 ?_))))))))
   refine Gz [(1,E2 boxes),(2,E1 l),(3,Ea s),(7,E8 r7),(8,Eg i10),(9,Eb y10),(10,Ed r16.1),(11,BL r16.2),(20,E1 l),(21,Eg l.length),(22,Eg i10)] [] 1019 rfl rfl rfl G rfl (by repeat' (first | exact .ptr | constructor)) (Js fun hK17=>Js fun hK18=>?_)
   obtain⟨v19,hv19,h⟩:=Ge h
   obtain⟨y20,hy20,h⟩:=Ge h
   obtain⟨r21,hr21,h⟩:=Ge h
   obtain⟨r22,hr22,h⟩:=Ge h
   refine JC_d0 J8 (by kernel_rfl) (Dq (BL r16.2) (G5 O O) O (Dq (BL (!r16.2)) (R5 (b:=r16.2) O O) O (Dq (BL (!r16.2)) (G5 O O) O (Do (Eg i10) [] O .scf G (fun hc=>G5 O O) O (Do (BL (decide (0 < (i10:Int)))) [37] O .scf ⟨Ua,G⟩ (fun hc=>G2c O O O) O (Do (BL (decide (0 < (i10:Int)))) [38] O .scf ⟨Ua,G⟩ (fun hc=>G5 O O) O (Do (Eb y10) [] O .optt G (fun hc=>Ga Q5 O O O) O (Do (G0 y10.Gh) [40] O .optt ⟨Ua,G⟩ (fun hc=>Gg Gd O O O) O (Do (E1 l) [] O .optt G (fun hc=>G5 O O) O (Do (Eg i10) [] O .optt G (fun hc=>G5 O O) O (Do (G0 v19) [43] O .optt ⟨Ua,G⟩ (fun hc=>Gaf (Z7 (Gx hc hv19)) O O O) O (Do (Eb y20) [42,44] O .optt ⟨Ua,Ua,G⟩ (fun hc=>(match Q3 (Gx hc hy20) with | ⟨_,hm_,hy_⟩=>Gv (f:=Stowed.av) (xs:=l) (y:=y20) O O O H0 hy_ hm_)) O (Do (Eb y20) [45] O .optt ⟨Ua,G⟩ (fun hc=>Ga Q5 O O O) O ?_)))))))))))))
   refine Do (G0 y20.Gh) [46] O .optt ⟨Ua,G⟩ (fun hc=>Gg Gd O O O) O (Do (BL (decide (y10.Gh≤y20.Gh))) [41,47] O .optt ⟨Ua,Ua,G⟩ (fun hc=>Hd4 O O O) O (Dg (.opt (!(!r16.2)) (BL ((decide (0 < (i10:Int)))&&(decide (y10.Gh≤y20.Gh))))) (Gf [(39,BL (decide (0 < (i10:Int)))),(48,_)] O O O .scf ⟨.all id,.part,G⟩ (fun hc=>Hx O O O O) O) O (Dq (BL ((!r16.2)||((decide (0 < (i10:Int)))&&(decide (y10.Gh≤y20.Gh))))) (Yi O O O O) O (Dq (BL ((!r16.2)||((decide (0 < (i10:Int)))&&(decide (y10.Gh≤y20.Gh))))) (G5 O O) O (Do (.agg (H4.cs s)) [] O .scf G (fun hc=>Gi Hu O O O) O (Do (.dptr ((Stowed.cs y10).drop 1)) [] O .scf G (fun hc=>Ga Ht O O O) O (Do (.agg ((Stowed.cs y10).drop 1)) [53] O .scf ⟨Ua,G⟩ (fun hc=>Gi Q9 O O O) O (Do (.dptr ((Gh.cs r16.1).drop 2)) [] O .scf G (fun hc=>Ga G7b O O O) O (Do (U8 r16.1.Size) [55] O .scf ⟨Ua,G⟩ (fun hc=>Gg Jh O O O) O (Do (BL r21) [52,54,56] O .scf ⟨Ua,Ua,Ua,G⟩ (fun hc=>Gn (args:=[.agg (H4.cs s),.agg ((Stowed.cs y10).drop 1),U8 r16.1.Size]) O (Haf s y10.Slot r16.1.Size r21 (Gx hc hr21)) J94 ⟨O,O,O,O,O,O,G⟩) O (Do (BL (!r21)) [57] O .scf ⟨Ua,G⟩ (fun hc=>R5 (b:=r21) O O) O (Dq (BL (((!r16.2)||((decide (0 < (i10:Int)))&&(decide (y10.Gh≤y20.Gh))))||(!r21))) (Yi O O O O) O (Dq (BL (((!r16.2)||((decide (0 < (i10:Int)))&&(decide (y10.Gh≤y20.Gh))))||(!r21))) (G5 O O) O ?_)))))))))))))
   refine Do (.dptr ((Stowed.cs y10).drop 1)) [] O .scf G (fun hc=>Ga Ht O O O) O (Do (.agg ((Stowed.cs y10).drop 1)) [61] O .scf ⟨Ua,G⟩ (fun hc=>Gi Q9 O O O) O (Do (E8 r7) [] O .scf G (fun hc=>G5 O O) O (Do (BL r22) [62,63] O .scf ⟨Ua,Ua,G⟩ (fun hc=>Gn (args:=[.agg ((Stowed.cs y10).drop 1),E8 r7]) O (Hd2 y10.Slot r7 r22 (Gx hc hr22)) J93 ⟨O,O,O,O,G⟩) O (Do (BL (!r22)) [64] O .scf ⟨Ua,G⟩ (fun hc=>R5 (b:=r22) O O) O (Dq (BL ((((!r16.2)||((decide (0 < (i10:Int)))&&(decide (y10.Gh≤y20.Gh))))||(!r21))||(!r22))) (Yi O O O O) O (Dnil (hK18 (JCc O h (fun h hb=>?_) (fun h hb=>?_)))))))))
   ·
    refine Jr fun hK23=>(Yy (BL false) O (G7 (hK23 (Gr (fin1 BL h)))))
   ·
    refine Gp (hK17 (Jr fun hK24=>(Yy (E8 r7) O (Yy (Eg i10) O ?_))))
    obtain⟨m25,hm25,h⟩:=Ge h
    refine JLh (E8 (r7.take m25)) (Q63 (f:=Slot.av) (xs:=r7) O O O Ym (Yo hm25)) O (JLl Ym O O O fun hm70=>(Yy (G0 0) O (G7 (hK24 (Gs ?_)))))
    obtain⟨b42,kx42,hb42,hkx42,h⟩:=J5 h
    refine Hc (fun i42 (s42:Unit)=>each b42 kx42 (List.drop i42 (r7.take m25)) i42 s42=some r) (fun i42 s42=>[(1,E2 boxes),(2,E1 l),(3,Ea s),(7,E8 r7),(9,Eb y10),(20,E1 l),(21,Eg l.length),(22,Eg i10),(69,E8 (r7.take m25)),(70,G0 ((r7.take m25).length:Int)),(71,Eg i42)]) (fun i42 s42=>[]) (fun i42=>(r7.take m25).length - i42) 0 () h ⟨(by repeat' constructor),G,rfl⟩ ?_
    clear h
    intro i42 s42 hi42 K42 e42
    refine Jr fun hK43=>(JLh (BL (decide ((i42:Int) < ((r7.take m25).length:Int)))) (J4 O O O) O (G7 (hK43 (Js fun hK44=>Gk O (fun hb=>?_) (fun hb=>?_)))))
    ·
     have hk42:=Jj hb
     obtain⟨y42,nx42,hy42,hn42,h⟩:=Hq hi42 hk42
     replace h:=Z1 hb42 h
     refine Gp (hK44 (Js fun hK45=>Gs (Jr fun hK46=>(JLh (.dptr (Slot.cs y42)) (Gv (f:=Slot.av) (xs:=(r7.take m25)) (y:=y42) O O O Ym hy42 O) O (JLh (.agg (Slot.cs y42)) (Gi Q9 O O O) O (JLh (.ptr 1020 0) (Qf 1020 3 H82 O O) O (Jk (u:=.junk) (Jb (u:=.agg (Slot.cs y42)) (ds:=[G0 y42.G4,G0 y42.Tier,U8 y42.Half]) Q2c O O O O O O O O) (G7 (hK46 ?_)))))))))
     refine Gz [(1,E2 boxes),(2,E1 l),(3,Ea s),(7,E8 r7),(9,Eb y10),(13,.dptr (Slot.cs y42)),(20,E1 l),(21,Eg l.length),(22,Eg i10),(69,E8 (r7.take m25)),(70,G0 ((r7.take m25).length:Int)),(71,Eg i42)] [] 1020 rfl rfl rfl G rfl (by repeat' (first | exact .ptr | constructor)) ?_
     refine Jr fun hK47=>(JLh (.dptr ((Stowed.cs y10).drop 1)) (Ga Ht O O O) O (JLh (.agg ((Stowed.cs y10).drop 1)) (Gi Q9 O O O) O (JLh (.agg (Slot.cs y42)) (Gi Q9 O O O) O ?_)))
     obtain⟨r48,hr48,h⟩:=Ge h
     refine JLh (BL r48) (Gn O (Hd1 y10.Slot y42 r48 hr48) J92 ⟨O,O,O,O,G⟩) O (G7 (hK47 (JCc O h (fun h hb=>?_) (fun h hb=>?_))))
     ·
      refine Jr fun hK49=>(Yy (BL false) O (G7 (hK49 (Gr (fin1 BL h)))))
     ·
      refine Gp (hK45 (G3 (JLh (G0 ((i42+1:Nat):Int)) (Hs (He hk42 hm70) O O O) O (Yy (G0 ((i42+1:Nat):Int)) O (G7 (e42 _ _ (i42+1) () (app1 hn42 h) (by omega) ⟨(by repeat' constructor),G,rfl⟩))))))
    ·
     have h:=app1 hkx42 (Hr hi42 (Ha hb))
     refine Hi (hK13 (G3 (JLh (G0 ((i10+1:Nat):Int)) (Hs (He hk10 hm21) O O O) O (Yy (G0 ((i10+1:Nat):Int)) O (G7 (e10 _ _ (i10+1) () (app1 hn10 h) (by omega) ⟨(by repeat' constructor),G,rfl⟩))))))
  ·
   have h:=app1 hkx10 (Hr hi10 (Ha hb))
   refine Hi (hK8 (Js fun hK50=>Jr fun hK51=>(JLh (Ea s) (Ga Hd O O O) O (JLh (E4 s.Columns) (Gg Hm O O O) O (JLl H5 O O O fun hm83=>(Yy (G0 0) O (G7 (hK51 (Gs ?_)))))))))
   obtain⟨b64,kx64,hb64,hkx64,h⟩:=J5 h
   refine Hc (fun i64 (s64:Unit)=>each b64 kx64 (List.drop i64 s.Columns) i64 s64=some r) (fun i64 s64=>[(1,E2 boxes),(2,E1 l),(3,Ea s),(83,Eg s.Columns.length),(84,Eg i64)]) (fun i64 s64=>[]) (fun i64=>s.Columns.length - i64) 0 () h ⟨(by repeat' constructor),G,rfl⟩ ?_
   clear h
   intro i64 s64 hi64 K64 e64
   refine Jr fun hK65=>(JLh (BL (decide ((i64:Int) < (s.Columns.length:Int)))) (J4 O O O) O (G7 (hK65 (Js fun hK66=>Gk O (fun hb=>?_) (fun hb=>?_)))))
   ·
    have hk64:=Jj hb
    obtain⟨y64,nx64,hy64,hn64,h⟩:=Hq hi64 hk64
    replace h:=Z1 hb64 h
    refine Gp (hK66 (Js fun hK67=>Gs (Jr fun hK68=>(Yy (Eg i64) O (Yy (Eg i64) O (G7 (hK68 (Jr fun hK69=>(JLh (.agg (H4.cs s)) (Gi Hu O O O) O (Yy (E2 boxes) O (Yy (E1 l) O (Yy (Eg i64) O ?_))))))))))))
    obtain⟨r70,hr70,h⟩:=Ge h
    refine JLh (BL r70) (Gn O (Hd0 s boxes l (i64:Int) r70 hr70) J91 ⟨O,O,O,O,O,O,O,O,G⟩) O (JLh (BL (!r70)) (R5 (b:=r70) O O) O (G7 (hK69 (JCc O h (fun h hb=>?_) (fun h hb=>?_)))))
    ·
     refine Jr fun hK71=>(Yy (BL false) O (G7 (hK71 (Gr (fin1 BL h)))))
    ·
     refine Gp (hK67 (G3 (JLh (G0 ((i64+1:Nat):Int)) (Hs (He hk64 hm83) O O O) O (Yy (G0 ((i64+1:Nat):Int)) O (G7 (e64 _ _ (i64+1) () (app1 hn64 h) (by omega) ⟨(by repeat' constructor),G,rfl⟩))))))
   ·
    have h:=app1 hkx64 (Hr hi64 (Ha hb))
    refine Hi (hK50 (Jr fun hK72=>(Yy (BL true) O (G7 (hK72 (Gr (fin1 BL h)))))))

def Ze (s:H4) (boxes:List Gh) (l:List Stowed) (open_:List Int):Option Bool:=
 each (fun y22 i22 (s22:Unit) nx22=>
  bnd (bif ((!((decide (y22 < 0))||(decide ((s.Covers.length:Int)≤y22))))&&(decide (0 < (i22:Int)))) then G1f ((i22:Int) - 1) some else some 0) fun v28=>
  bnd (bif ((!((decide (y22 < 0))||(decide ((s.Covers.length:Int)≤y22))))&&(decide (0 < (i22:Int)))) then Qm open_ v28 some else some default) fun y29=>
  bif (((decide (y22 < 0))||(decide ((s.Covers.length:Int)≤y22)))||((decide (0 < (i22:Int)))&&(decide (y22≤y29)))) then
  (some false)
  else
  (nx22 ()))
 (fun(s22:Unit)=>
  bnd (G12 s boxes l) fun r32=>
  some r32) open_ 0 ()
theorem G70 (s:H4) (boxes:List Gh) (l:List Stowed) (open_:List Int) (r:Bool) (h:Ze s boxes l open_=some r):Pure Eh 68 [.agg (H4.cs s),E2 boxes,E1 l,E0 open_] (·=BL r):=by
 unfold Ze at h
 refine Gy [.tmp 8] Tryz.func68 O O (Jr fun hK1=>(JLh (.ptr 1089 0) (Ji (cs:=(H4.cs s)) 1089 O O O O O) O (Yy (BL false) O (G7 (hK1 (Gz [(1,E2 boxes),(2,E1 l),(3,E0 open_),(4,Ea s)] [] 1089 rfl rfl rfl G rfl (by repeat' (first | exact .ptr | constructor)) (Js fun hK2=>?_)))))))
 refine Jr fun hK3=>(Yy (E0 open_) O (JLl Gu O O O fun hm12=>(Yy (G0 0) O (G7 (hK3 (Gs ?_))))))
 obtain⟨b22,kx22,hb22,hkx22,h⟩:=J5 h
 refine Hc (fun i22 (s22:Unit)=>each b22 kx22 (List.drop i22 open_) i22 s22=some r) (fun i22 s22=>[(1,E2 boxes),(2,E1 l),(3,E0 open_),(4,Ea s),(11,E0 open_),(12,Eg open_.length),(13,Eg i22)]) (fun i22 s22=>[]) (fun i22=>open_.length - i22) 0 () h ⟨(by repeat' constructor),G,rfl⟩ ?_
 clear h
 intro i22 s22 hi22 K22 e22
 refine Jr fun hK23=>(JLh (BL (decide ((i22:Int) < (open_.length:Int)))) (J4 O O O) O (G7 (hK23 (Js fun hK24=>Gk O (fun hb=>?_) (fun hb=>?_)))))
 ·
  have hk22:=Jj hb
  obtain⟨y22,nx22,hy22,hn22,h⟩:=Hq hi22 hk22
  replace h:=Z1 hb22 h
  refine Gp (hK24 (Js fun hK25=>Gs (Jr fun hK26=>(Yy (Eg i22) O (JLh (.dptr [G0 y22]) (Gv (f:=G0) (xs:=open_) (y:=y22) O O O Gu hy22 O) O (JLh (G0 y22) (Gg Gd O O O) O (Yy (Eg i22) O (Yy (G0 y22) O (G7 (hK26 ?_))))))))))
  refine Jr fun hK27=>(Yy (G0 y22) O (JLh (BL (decide (y22 < 0))) (J4 O O O) O (Yy (BL (decide (y22 < 0))) O (JLo (G0 y22) [] O .scf G (fun hc=>G5 O O) O (JLo (.dptr [E3 s.Covers,G0 s.Light.Kilos,G0 s.Light.X,G0 s.Light.Y,G0 s.Light.Z,E6 s.Rows,E5 s.Frames,E7 s.Tanks,G0 s.G2.Tolerance,G0 s.G2.Trim,G0 s.G2.List_,G0 s.G2.Stability]) [] O .scf G (fun hc=>Ga Je O O O) O (JLo (E3 s.Covers) [22] O .scf ⟨Ua,G⟩ (fun hc=>Gg Jv O O O) O (JLo (Eg s.Covers.length) [23] O .scf ⟨Ua,G⟩ (fun hc=>Qi (f:=Gc.av) (xs:=s.Covers) Hh O O) O (JLo (BL (decide ((s.Covers.length:Int)≤y22))) [21,24] O .scf ⟨Ua,Ua,G⟩ (fun hc=>G17 O O O) O (JLh (BL ((decide (y22 < 0))||(decide ((s.Covers.length:Int)≤y22)))) (Yi O O O O) O (Yy (BL ((decide (y22 < 0))||(decide ((s.Covers.length:Int)≤y22)))) O (JLo (Eg i22) [] O .scf G (fun hc=>G5 O O) O (JLo (BL (decide (0 < (i22:Int)))) [28] O .scf ⟨Ua,G⟩ (fun hc=>G2c O O O) O (JLo (BL (decide (0 < (i22:Int)))) [29] O .scf ⟨Ua,G⟩ (fun hc=>G5 O O) O ?_)))))))))))))
  refine JLo (G0 y22) [] O .optt G (fun hc=>G5 O O) O (JLo (E0 open_) [] O .optt G (fun hc=>G5 O O) O (JLo (Eg i22) [] O .optt G (fun hc=>G5 O O) O ?_))
  obtain⟨v28,hv28,h⟩:=Ge h
  refine JLo (G0 v28) [33] O .optt ⟨Ua,G⟩ (fun hc=>Gaf (Z7 (Gx hc hv28)) O O O) O ?_
  obtain⟨y29,hy29,h⟩:=Ge h
  refine JLo (.dptr [G0 y29]) [32,34] O .optt ⟨Ua,Ua,G⟩ (fun hc=>(match Q3 (Gx hc hy29) with | ⟨_,hm_,hy_⟩=>Gv (f:=G0) (xs:=open_) (y:=y29) O O O Gu hy_ hm_)) O (JLo (G0 y29) [35] O .optt ⟨Ua,G⟩ (fun hc=>Gg Gd O O O) O (JLo (BL (decide (y22≤y29))) [31,36] O .optt ⟨Ua,Ua,G⟩ (fun hc=>Hd4 O O O) O (G9 (u:=BL ((decide (0 < (i22:Int)))&&(decide (y22≤y29)))) [(30,BL (decide (0 < (i22:Int)))),(37,_)] O O O .scf ⟨.all id,.part,G⟩ (fun hc=>Hx O O O O) ?_)))
  refine JLh (BL (((decide (y22 < 0))||(decide ((s.Covers.length:Int)≤y22)))||((decide (0 < (i22:Int)))&&(decide (y22≤y29))))) (Yi O O O O) O (G7 (hK27 (JCc O h (fun h hb=>?_) (fun h hb=>?_))))
  ·
   refine Jr fun hK30=>(Yy (BL false) O (G7 (hK30 (Gr (fin1 BL h)))))
  ·
   refine Gp (hK25 (G3 (JLh (G0 ((i22+1:Nat):Int)) (Hs (He hk22 hm12) O O O) O (Yy (G0 ((i22+1:Nat):Int)) O (G7 (e22 _ _ (i22+1) () (app1 hn22 h) (by omega) ⟨(by repeat' constructor),G,rfl⟩))))))
 ·
  have h:=app1 hkx22 (Hr hi22 (Ha hb))
  refine Hi (hK2 (Jr fun hK31=>(JLh (.agg (H4.cs s)) (Gi Hu O O O) O (Yy (E2 boxes) O (Yy (E1 l) O ?_)))))
  obtain⟨r32,hr32,h⟩:=Ge h
  refine JLh (BL r32) (Gn O (H16 s boxes l r32 hr32) He5 ⟨O,O,O,O,O,O,G⟩) O (Yy (BL r32) O (G7 (hK31 (Gr (fin1 BL h)))))

def G87 (x:Stowed) (p1:Int):Option Bool:=
 some (decide (x.Gh=p1))
theorem J6c (x:Stowed) (p1:Int) (r:Bool) (h:G87 x p1=some r):Pure Eh 115 [.agg (Stowed.cs x),.dptr [G0 p1]] (·=BL r):=by
 unfold G87 at h
 refine Gy [.tmp 3] Tryz.func115 O O (Jr fun hK1=>(JLh (.ptr 1121 0) (Ji (cs:=[G0 x.Gh,G0 x.Slot.G4,G0 x.Slot.Tier,U8 x.Slot.Half]) 1121 O O O O O) O (Yy (BL false) O (G7 (hK1 (Gz [(1,.dptr [G0 p1]),(2,Eb x)] [] 1121 rfl rfl rfl G rfl (by exact⟨.conv (.same rfl),.ptr,G⟩) (Jr fun hK2=>(JLh (Eb x) (Ga Q5 O O O) O (JLh (G0 x.Gh) (Gg Gd O O O) O (JLh (G0 p1) (Gg Gd O O O) O (JLh (BL (decide (x.Gh=p1))) (Jt O O O) O (Yy (BL (decide (x.Gh=p1))) O (G7 (hK2 (Gr (fin1 BL h))))))))))))))))

def Yh (s:List Stowed) (f:Stowed→Option Bool):Option Int:=
 each (fun y20 i20 (s20:Unit) nx20=>
  bnd (f y20) fun r26=>
  bif r26 then
  (some (i20:Int))
  else
  (nx20 ()))
 (fun(s20:Unit)=>
  some (-1)) s 0 ()
theorem G38 (s:List Stowed) (f:Stowed→Option Bool) (f_f:FuncId) (f_c:List AV) (f_B:H8 Eh f_f=true) (f_d:Zz (fun _=>false) f_c=true) (f_w:∀ a0 q,f a0=some q→Pure Eh f_f ([.agg (Stowed.cs a0)]++f_c) (·=BL q)) (r:Int) (h:Yh s f=some r):Pure Eh 114 [E1 s,.fn f_f f_c] (·=G0 r):=by
 unfold Yh at h
 refine Gy [.tmp 4] Tryz.func114 O O (Jr fun hK1=>(Yy (G0 0) O (G7 (hK1 (Js fun hK2=>Jr fun hK3=>(Yy (E1 s) O (JLl H0 O O O fun hm7=>(Yy (G0 0) O (G7 (hK3 (Gs ?_)))))))))))
 obtain⟨b20,kx20,hb20,hkx20,h⟩:=J5 h
 refine Hc (fun i20 (s20:Unit)=>each b20 kx20 (List.drop i20 s) i20 s20=some r) (fun i20 s20=>[(0,E1 s),(1,.fn f_f f_c),(7,Eg s.length),(8,Eg i20)]) (fun i20 s20=>[]) (fun i20=>s.length - i20) 0 () h ⟨⟨.same O,.same (Qp _ _ f_d),.same O,.same O,G⟩,G,O⟩ ?_
 clear h
 intro i20 s20 hi20 K20 e20
 refine Jr fun hK21=>(JLh (BL (decide ((i20:Int) < (s.length:Int)))) (J4 O O O) O (G7 (hK21 (Js fun hK22=>Gk O (fun hb=>?_) (fun hb=>?_)))))
 ·
  have hk20:=Jj hb
  obtain⟨y20,nx20,hy20,hn20,h⟩:=Hq hi20 hk20
  replace h:=Z1 hb20 h
  refine Gp (hK22 (Js fun hK23=>Gs (Jr fun hK24=>(Yy (Eg i20) O (Yy (Eg i20) O (G7 (hK24 (Jr fun hK25=>(Yy (.fn f_f f_c) O (Yy (E1 s) O (Yy (Eg i20) O (JLh (Eb y20) (Gv (f:=Stowed.av) (xs:=s) (y:=y20) O O O H0 hy20 O) O (JLh (.agg (Stowed.cs y20)) (Gi G19 O O O) O ?_)))))))))))))
  obtain⟨r26,hr26,h⟩:=Ge h
  refine JLh (BL r26) (G8c (args:=[.agg (Stowed.cs y20)]) (caps:=f_c) O O (f_w y20 _ hr26) f_B ⟨O,O,G⟩ f_d) O (G7 (hK25 (JCc O h (fun h hb=>?_) (fun h hb=>?_))))
  ·
   refine Jr fun hK27=>(Yy (Eg i20) O (Yy (Eg i20) O (G7 (hK27 (Gr (fin1 G0 h))))))
  ·
   refine Gp (hK23 (G3 (JLh (G0 ((i20+1:Nat):Int)) (Hs (He hk20 hm7) O O O) O (Yy (G0 ((i20+1:Nat):Int)) O (G7 (e20 _ _ (i20+1) () (app1 hn20 h) (by omega) ⟨⟨.same rfl,.same (Qp _ _ f_d),.same rfl,.same rfl,G⟩,G,rfl⟩))))))
 ·
  have h:=app1 hkx20 (Hr hi20 (Ha hb))
  refine Hi (hK2 (Jr fun hK28=>(Yy (G0 (-1)) O (G7 (hK28 (Gr (fin1 G0 h)))))))

def G16 (l:List Stowed) (id_:Int):Option Int:=
 bnd (Yh l (fun z0=>G87 z0 id_)) fun r3=>
 some r3
theorem G86 (l:List Stowed) (id_:Int) (r:Int) (h:G16 l id_=some r):Pure Eh 64 [E1 l,G0 id_] (·=G0 r):=by
 unfold G16 at h
 refine Gy [.tmp 4] Tryz.func64 O O (Jr fun hK1=>(JLh (.ptr 1084 0) (Ji (cs:=[G0 id_]) 1084 O O O O O) O (Yy (G0 0) O (G7 (hK1 (Gz [(0,E1 l),(3,.dptr [G0 id_])] [] 1084 rfl rfl rfl G rfl (by exact⟨.conv (.same rfl),.ptr,G⟩) (Jr fun hK2=>(Yy (E1 l) O (JLh (.fn 115 [.dptr [G0 id_]]) (G67 (cs:=[.dptr [G0 id_]]) O O) O ?_)))))))))
 obtain⟨r3,hr3,h⟩:=Ge h
 refine JLh (G0 r3) (Gn O (G38 l (fun z0=>G87 z0 id_) 115 [.dptr [G0 id_]] Q12 O (fun z0 q hq=>J6c z0 id_ q hq) r3 hr3) J45 ⟨O,O,O,O,G⟩) O (Yy (G0 r3) O (G7 (hK2 (Gr (fin1 G0 h)))))

def Gd2 (a:Slot) (b:Slot):Option Bool:=
 bnd (bif ((decide (a.G4=b.G4))&&(decide (b.Tier < a.Tier))) then G50 a.Half b.Half else some default) fun r3=>
 some (((decide (a.G4=b.G4))&&(decide (b.Tier < a.Tier)))&&r3)
theorem M_slot_Over_w (a:Slot) (b:Slot) (r:Bool) (h:Gd2 a b=some r):Pure Eh 65 [.agg [G0 a.G4,G0 a.Tier,U8 a.Half],.agg [G0 b.G4,G0 b.Tier,U8 b.Half]] (·=BL r):=by
 unfold Gd2 at h
 refine Gy [.tmp 4] Tryz.func65 O O (Jr fun hK1=>(JLh (.ptr 1085 0) (Ji (cs:=[G0 a.G4,G0 a.Tier,U8 a.Half]) 1085 O O O O O) O (JLh (.ptr 1086 0) (Ji (cs:=[G0 b.G4,G0 b.Tier,U8 b.Half]) 1086 O O O O O) O (Yy (BL false) O (G7 (hK1 (Gz [(2,.dptr [G0 a.G4,G0 a.Tier,U8 a.Half]),(3,.ptr 1086 0)] [(1086,.box 61 [G0 b.G4,G0 b.Tier,U8 b.Half])] 1085 rfl rfl rfl ⟨⟨_,rfl,.boxEq rfl rfl⟩,G⟩ rfl (by exact⟨.ptr,.conv (.same rfl),G⟩) (Gz [(2,.dptr [G0 a.G4,G0 a.Tier,U8 a.Half]),(3,.dptr [G0 b.G4,G0 b.Tier,U8 b.Half])] [] 1086 rfl rfl rfl G rfl (by exact⟨.conv (.same rfl),.ptr,G⟩) ?_))))))))
 refine Jr fun hK2=>(JLh (.dptr [G0 a.G4,G0 a.Tier,U8 a.Half]) (Ga J6 O O O) O (JLh (G0 a.G4) (Gg Gd O O O) O (JLh (.dptr [G0 b.G4,G0 b.Tier,U8 b.Half]) (Ga J6 O O O) O (JLh (G0 b.G4) (Gg Gd O O O) O (JLh (BL (decide (a.G4=b.G4))) (Jt O O O) O (Yy (BL (decide (a.G4=b.G4))) O (JLo (.dptr [G0 a.Tier,U8 a.Half]) [] O .sct G (fun hc=>Ga Qa O O O) O (JLo (G0 a.Tier) [11] O .sct ⟨Ua,G⟩ (fun hc=>Gg Gd O O O) O (JLo (.dptr [G0 b.Tier,U8 b.Half]) [] O .sct G (fun hc=>Ga Qa O O O) O (JLo (G0 b.Tier) [13] O .sct ⟨Ua,G⟩ (fun hc=>Gg Gd O O O) O (JLo (BL (decide (b.Tier < a.Tier))) [12,14] O .sct ⟨Ua,Ua,G⟩ (fun hc=>G2c O O O) O (JLh (BL ((decide (a.G4=b.G4))&&(decide (b.Tier < a.Tier)))) (Hx O O O O) O (Yy (BL ((decide (a.G4=b.G4))&&(decide (b.Tier < a.Tier)))) O ?_)))))))))))))
 refine JLo (.dptr [U8 a.Half]) [] O .sct G (fun hc=>Ga Jo O O O) O (JLo (U8 a.Half) [18] O .sct ⟨Ua,G⟩ (fun hc=>Gg Jh O O O) O (JLo (.dptr [U8 b.Half]) [] O .sct G (fun hc=>Ga Jo O O O) O (JLo (U8 b.Half) [20] O .sct ⟨Ua,G⟩ (fun hc=>Gg Jh O O O) O ?_)))
 obtain⟨r3,hr3,h⟩:=Ge h
 refine JLo (BL r3) [19,21] O .sct ⟨Ua,Ua,G⟩ (fun hc=>Gn (args:=[U8 a.Half,U8 b.Half]) O (H7e a.Half b.Half r3 (Gx hc hr3)) J48 ⟨O,O,O,O,G⟩) O (JLh (BL (((decide (a.G4=b.G4))&&(decide (b.Tier < a.Tier)))&&r3)) (Hx O O O O) O (Yy (BL (((decide (a.G4=b.G4))&&(decide (b.Tier < a.Tier)))&&r3)) O (G7 (hK2 (Gr (fin1 BL h))))))

def G42 (l:List Stowed) (id_:Int):Option ((List Int)×Int):=
 bnd (G16 l id_) fun r3=>
 bif decide (r3 < 0) then
 (some ([],6))
 else
 (each (fun y30 i30 (s30:(List Int)) nx30=>
   jp (fun kj33=>
    Qm l r3 fun y36=>
    bnd (Gd2 y30.Slot y36.Slot) fun r38=>
    bif r38 then
    (need (decide ((s30.length+[y30.Gh].length)*8≤140737488355328∧s30.length+[y30.Gh].length≤maxLen)) <|
     kj33 (s30++[y30.Gh]))
    else
    (kj33 s30)) fun(j33:(List Int))=>
   nx30 j33)
  (fun(s30:(List Int))=>
   some (s30,0)) l 0 [])
theorem H17 (l:List Stowed) (id_:Int) (r:(List Int)×Int) (h:G42 l id_=some r):Pure Eh 17 [E1 l,G0 id_] (·=.tup [E0 r.1,G0 r.2]):=by
 unfold G42 at h
 refine Gy [.tmp 4,.tmp 5] Tryz.func17 O O (Jr fun hK1=>(JLh (E0 ([]:List Int)) (Hy 1 O O) O (Yy (G0 0) O (G7 (hK1 (Jr fun hK2=>(Yy (E1 l) O (Yy (G0 id_) O ?_))))))))
 obtain⟨r3,hr3,h⟩:=Ge h
 refine JLh (G0 r3) (Gn O (G86 l id_ r3 hr3) Gfe ⟨O,O,O,O,G⟩) O (Yy (G0 r3) O (G7 (hK2 (Js fun hK4=>Jr fun hK5=>(Yy (G0 r3) O (JLh (BL (decide (r3 < 0))) (J4 O O O) O (G7 (hK5 (JCc O h (fun h hb=>?_) (fun h hb=>?_))))))))))
 ·
  refine Jr fun hK6=>(JLh (E0 ([]:List Int)) (Hy 1 O O) O (Yy (G0 6) O (G7 (hK6 (Gr (⟨[E0 ([]:List Int),G0 6],[],G,O,⟨⟨_,O,.conv (.same O)⟩,⟨_,O,.conv (.same O)⟩,G⟩,O,congrArg (fun r:(List Int)×Int=>(.tup [E0 r.1,G0 r.2]:AV)) (Option.some.inj h)⟩))))))
 ·
  refine Gp (hK4 (Jr fun hK7=>(JLh (OW 1026 1 G0 ([]:List Int)) (Gb0 1026 3 1 O O O) O (G7 (hK7 (Js fun hK8=>Jr fun hK9=>(Yy (E1 l) O (JLl H0 O O O fun hm16=>(Yy (G0 0) O (G7 (hK9 (Gs ?_))))))))))))
  obtain⟨b30,kx30,hb30,hkx30,h⟩:=J5 h
  refine Hc (fun i30 (s30:(List Int))=>each b30 kx30 (List.drop i30 l) i30 s30=some r) (fun i30 s30=>[(0,E1 l),(6,G0 r3),(7,OW 1026 1 G0 s30),(15,E1 l),(16,Eg l.length),(17,Eg i30)]) (fun i30 s30=>[(1026,.spare 3 1 s30.length s30.length)]) (fun i30=>l.length - i30) 0 [] h ⟨(by repeat' constructor),⟨⟨_,rfl,.same⟩,G⟩,rfl⟩ ?_
  clear h
  intro i30 s30 hi30 K30 e30
  refine Jr fun hK31=>(JLh (BL (decide ((i30:Int) < (l.length:Int)))) (J4 O O O) O (G7 (hK31 (Js fun hK32=>Gk O (fun hb=>?_) (fun hb=>?_)))))
  ·
   have hk30:=Jj hb
   obtain⟨y30,nx30,hy30,hn30,h⟩:=Hq hi30 hk30
   replace h:=Z1 hb30 h
   refine Gp (hK32 ?_)
   obtain⟨kj33,hkj33,h⟩:=Gbf h
   refine G73 (fun j33:(List Int)=>kj33 j33=some r) (fun j33=>[(0,E1 l),(6,G0 r3),(7,OW 1026 1 G0 j33),(15,E1 l),(16,Eg l.length),(17,Eg i30)]) (fun j33=>[(1026,.spare 3 1 j33.length j33.length)]) (fun Kj33 ej33=>?_) ?_
   ·
    refine Gs (Jr fun hK34=>(JLh (Eb y30) (Gv (f:=Stowed.av) (xs:=l) (y:=y30) O O O H0 hy30 O) O (JLh (.agg (Stowed.cs y30)) (Gi G19 O O O) O (JLh (.ptr 1027 0) (Qf 1027 4 G5a O O) O (Jk (u:=.junk) (Jb (u:=.agg (Stowed.cs y30)) (ds:=[G0 y30.Gh,G0 y30.Slot.G4,G0 y30.Slot.Tier,U8 y30.Slot.Half]) G92 O O O O O O O O) (G7 (hK34 (Gz [(0,E1 l),(6,G0 r3),(7,OW 1026 1 G0 s30),(9,Eb y30),(15,E1 l),(16,Eg l.length),(17,Eg i30)] [(1026,.spare 3 1 s30.length s30.length)] 1027 rfl rfl rfl ⟨⟨_,rfl,.same⟩,G⟩ rfl (by repeat' (first | exact .ptr | constructor)) (Js fun hK35=>?_)))))))))
    refine G44 (l':=[(0,E1 l),(6,G0 r3),(7,OW 1026 1 G0 s30),(9,Eb y30),(15,E1 l),(16,Eg l.length),(17,Eg i30)]) (L':=[(1026,.spare 3 1 s30.length s30.length)]) ⟨(by repeat' constructor),⟨⟨_,rfl,.same⟩,G⟩,rfl⟩ ?_
    obtain⟨m37,y36,hm37,hy36,h⟩:=Qx h
    obtain⟨r38,hr38,h⟩:=Ge h
    refine JC_d0 J8 (by kernel_rfl) (Dq (.dptr ((Stowed.cs y30).drop 1)) (Ga Ht O O O) O (Dq (.agg ((Stowed.cs y30).drop 1)) (Gi Q9 O O O) O (Dq (E1 l) (G5 O O) O (Dq (G0 r3) (G5 O O) O (Dq (Eb y36) (Gv (f:=Stowed.av) (xs:=l) (y:=y36) O O O H0 hy36 hm37) O (Dq (.dptr ((Stowed.cs y36).drop 1)) (Ga Ht O O O) O (Dq (.agg ((Stowed.cs y36).drop 1)) (Gi Q9 O O O) O (Dq (BL r38) (Gn (args:=[.agg ((Stowed.cs y30).drop 1),.agg ((Stowed.cs y36).drop 1)]) O (M_slot_Over_w y30.Slot y36.Slot r38 hr38) Q44 ⟨O,O,O,O,G⟩) O (Dnil (hK35 (JCc O h (fun h hb=>?_) (fun h hb=>?_))))))))))))
    ·
     refine G3 (Yy (OW 1026 1 G0 s30) O (JLh (Eb y30) (Ga Q5 O O O) O (JLh (G0 y30.Gh) (Gg Gd O O O) O (JLh (E0 [y30.Gh]) (Hn (xs:=[G0 y30.Gh]) O ⟨O,O,G⟩ Gu Y2 O O O O) O ?_))))
     obtain⟨ha39,h⟩:=J2 h
     refine JLh (OW 1026 1 G0 (s30++[y30.Gh])) (Rj (f:=G0) (xs:=s30) (ys:=[y30.Gh]) O O O O Gu G18 ha39 (fun _=>O) (.inl O) O) O (Yy (OW 1026 1 G0 (s30++[y30.Gh])) O (G7 (ej33 _ _ (s30++[y30.Gh]) h ⟨(by repeat' constructor),⟨⟨_,rfl,.same⟩,G⟩,rfl⟩)))
    ·
     refine Gp (ej33 _ _ s30 h ⟨(by repeat' constructor),⟨⟨_,rfl,.same⟩,G⟩,rfl⟩)
   ·intro j33 h
    replace h:=app1 hkj33 h
    refine G3 (JLh (G0 ((i30+1:Nat):Int)) (Hs (He hk30 hm16) O O O) O (Yy (G0 ((i30+1:Nat):Int)) O (G7 (e30 _ _ (i30+1) j33 (app1 hn30 h) (by omega) ⟨(by repeat' constructor),⟨⟨_,rfl,.same⟩,G⟩,rfl⟩))))
  ·
   have h:=app1 hkx30 (Hr hi30 (Ha hb))
   refine Hi (hK8 (Jr fun hK40=>(Yy (OW 1026 1 G0 s30) O (Yy (OW 1026 1 G0 s30) O (Yy (G0 0) O (G7 (hK40 (Gr (⟨[E0 s30,G0 0],[],G,O,⟨⟨_,O,.conv (.list O)⟩,⟨_,O,.conv (.same O)⟩,G⟩,O,congrArg (fun r:(List Int)×Int=>(.tup [E0 r.1,G0 r.2]:AV)) (Option.some.inj h)⟩)))))))))

def G4a (r_:Int) (p1:G4):Option Bool:=
 some (decide (r_=p1.Row))
theorem J1a (r_:Int) (p1:G4) (r:Bool) (h:G4a r_ p1=some r):Pure Eh 163 [G0 r_,Ec p1] (·=BL r):=by
 unfold G4a at h
 refine Gy [.tmp 3] Tryz.func163 O O (Jr fun hK1=>(Yy (BL false) O (G7 (hK1 (Jr fun hK2=>(Yy (G0 r_) O (JLh (.dptr ((G4.cs p1).drop 1)) (Ga Zt O O O) O (JLh (G0 p1.Row) (Gg Gd O O O) O (JLh (BL (decide (r_=p1.Row))) (Jt O O O) O (Yy (BL (decide (r_=p1.Row))) O (G7 (hK2 (Gr (fin1 BL h))))))))))))))

def G2b (l:List Int) (wanted:Int→Option Bool):Option (List Int):=
 each (fun y21 i21 (s21:(List Int)) nx21=>
  jp (fun kj24=>
   bnd (wanted y21) fun r27=>
   bif r27 then
   (need (decide ((s21.length+[(i21:Int)].length)*8≤140737488355328∧s21.length+[(i21:Int)].length≤maxLen)) <|
    kj24 (s21++[(i21:Int)]))
   else
   (kj24 s21)) fun(j24:(List Int))=>
  nx21 j24)
 (fun(s21:(List Int))=>
  some s21) l 0 []
theorem Hc6 (l:List Int) (wanted:Int→Option Bool) (wanted_f:FuncId) (wanted_c:List AV) (wanted_B:H8 Eh wanted_f=true) (wanted_d:Zz (fun _=>false) wanted_c=true) (wanted_w:∀ a0 q,wanted a0=some q→Pure Eh wanted_f ([G0 a0]++wanted_c) (·=BL q)) (r:(List Int)) (h:G2b l wanted=some r):Pure Eh 162 [E0 l,.fn wanted_f wanted_c] (·=E0 r):=by
 unfold G2b at h
 refine Gy [.tmp 4] Tryz.func162 O O (Jr fun hK1=>(JLh (E0 ([]:List Int)) (Hy 1 O O) O (G7 (hK1 (Jr fun hK2=>(JLh (OW 1149 1 G0 ([]:List Int)) (Gb0 1149 3 1 O O O) O (G7 (hK2 (Js fun hK3=>Jr fun hK4=>(Yy (E0 l) O (JLl Gu O O O fun hm9=>(Yy (G0 0) O (G7 (hK4 (Gs ?_)))))))))))))))
 obtain⟨b21,kx21,hb21,hkx21,h⟩:=J5 h
 refine Hc (fun i21 (s21:(List Int))=>each b21 kx21 (List.drop i21 l) i21 s21=some r) (fun i21 s21=>[(1,.fn wanted_f wanted_c),(5,OW 1149 1 G0 s21),(8,E0 l),(9,Eg l.length),(10,Eg i21)]) (fun i21 s21=>[(1149,.spare 3 1 s21.length s21.length)]) (fun i21=>l.length - i21) 0 [] h ⟨⟨.same (Qp _ _ wanted_d),.same O,.same O,.same O,.same O,G⟩,⟨⟨_,O,.same⟩,G⟩,O⟩ ?_
 clear h
 intro i21 s21 hi21 K21 e21
 refine Jr fun hK22=>(JLh (BL (decide ((i21:Int) < (l.length:Int)))) (J4 O O O) O (G7 (hK22 (Js fun hK23=>Gk O (fun hb=>?_) (fun hb=>?_)))))
 ·
  have hk21:=Jj hb
  obtain⟨y21,nx21,hy21,hn21,h⟩:=Hq hi21 hk21
  replace h:=Z1 hb21 h
  refine Gp (hK23 ?_)
  obtain⟨kj24,hkj24,h⟩:=Gbf h
  refine G73 (fun j24:(List Int)=>kj24 j24=some r) (fun j24=>[(1,.fn wanted_f wanted_c),(5,OW 1149 1 G0 j24),(8,E0 l),(9,Eg l.length),(10,Eg i21)]) (fun j24=>[(1149,.spare 3 1 j24.length j24.length)]) (fun Kj24 ej24=>?_) ?_
  ·
   refine Gs (Jr fun hK25=>(Yy (Eg i21) O (JLh (.dptr [G0 y21]) (Gv (f:=G0) (xs:=l) (y:=y21) O O O Gu hy21 O) O (JLh (G0 y21) (Gg Gd O O O) O (Yy (Eg i21) O (Yy (G0 y21) O (G7 (hK25 (Jr fun hK26=>(Yy (.fn wanted_f wanted_c) O (Yy (G0 y21) O ?_)))))))))))
   obtain⟨r27,hr27,h⟩:=Ge h
   refine JLh (BL r27) (G8c (args:=[G0 y21]) (caps:=wanted_c) O O (wanted_w y21 _ hr27) wanted_B ⟨O,O,G⟩ wanted_d) O (G7 (hK26 (JCc O h (fun h hb=>?_) (fun h hb=>?_))))
   ·
    refine G3 (Yy (OW 1149 1 G0 s21) O (Yy (Eg i21) O (JLh (E0 [(i21:Int)]) (Hn (xs:=[Eg i21]) O ⟨O,O,G⟩ Gu Y2 O O O O) O ?_)))
    obtain⟨ha28,h⟩:=J2 h
    refine JLh (OW 1149 1 G0 (s21++[(i21:Int)])) (Rj (f:=G0) (xs:=s21) (ys:=[(i21:Int)]) O O O O Gu G18 ha28 (fun _=>O) (.inl O) O) O (Yy (OW 1149 1 G0 (s21++[(i21:Int)])) O (G7 (ej24 _ _ (s21++[(i21:Int)]) h ⟨⟨.same (Qp _ _ wanted_d),.same O,.same O,.same O,.same O,G⟩,⟨⟨_,O,.same⟩,G⟩,O⟩)))
   ·
    refine Gp (ej24 _ _ s21 h ⟨⟨.same (Qp _ _ wanted_d),.same O,.same O,.same O,.same O,G⟩,⟨⟨_,O,.same⟩,G⟩,O⟩)
  ·intro j24 h
   replace h:=app1 hkj24 h
   refine G3 (JLh (G0 ((i21+1:Nat):Int)) (Hs (He hk21 hm9) O O O) O (Yy (G0 ((i21+1:Nat):Int)) O (G7 (e21 _ _ (i21+1) j24 (app1 hn21 h) (by omega) ⟨⟨.same (Qp _ _ wanted_d),.same rfl,.same rfl,.same rfl,.same rfl,G⟩,⟨⟨_,rfl,.same⟩,G⟩,rfl⟩))))
 ·
  have h:=app1 hkx21 (Hr hi21 (Ha hb))
  refine Hi (hK3 (Jr fun hK29=>(Yy (OW 1149 1 G0 s21) O (Yy (OW 1149 1 G0 s21) O (G7 (hK29 (Gr (fin1l (fun r:(List Int)=>(E0 r:AV)) h))))))))

def G51 (x:Gc) (c:G4):Option Bool:=
 bnd (bif decide (x.Bay=c.Bay) then G2b x.Rows (fun z0=>G4a z0 c) else some default) fun r3=>
 some ((decide (x.Bay=c.Bay))&&(decide (0 < (r3.length:Int))))
theorem H7f (x:Gc) (c:G4) (r:Bool) (h:G51 x c=some r):Pure Eh 146 [.agg [G0 x.Bay,E0 x.Rows],.agg (G4.cs c)] (·=BL r):=by
 unfold G51 at h
 refine Gy [.tmp 4] Tryz.func146 O O (Jr fun hK1=>(JLh (.ptr 1144 0) (Ji (cs:=[G0 x.Bay,E0 x.Rows]) 1144 O O O O O) O (JLh (.ptr 1145 0) (Ji (cs:=(G4.cs c)) 1145 O O O O O) O (Yy (BL false) O (G7 (hK1 (Gz [(2,.dptr [G0 x.Bay,E0 x.Rows]),(3,.ptr 1145 0)] [(1145,.box 78 (G4.cs c))] 1144 rfl rfl rfl ⟨⟨_,rfl,.boxEq rfl rfl⟩,G⟩ rfl (by exact⟨.ptr,.conv (.same rfl),G⟩) ?_)))))))
 refine Gz [(2,.dptr [G0 x.Bay,E0 x.Rows]),(3,Ec c)] [] 1145 rfl rfl rfl G rfl (by exact⟨.conv (.same rfl),.ptr,G⟩) ?_
 refine Jr fun hK2=>(JLh (.dptr [G0 x.Bay,E0 x.Rows]) (Ga Z2 O O O) O (JLh (G0 x.Bay) (Gg Gd O O O) O (JLh (Ec c) (Ga Zu O O O) O (JLh (G0 c.Bay) (Gg Gd O O O) O (JLh (BL (decide (x.Bay=c.Bay))) (Jt O O O) O (Yy (BL (decide (x.Bay=c.Bay))) O (JLo (.dptr [E0 x.Rows]) [] O .sct G (fun hc=>Ga Jy O O O) O (JLo (E0 x.Rows) [11] O .sct ⟨Ua,G⟩ (fun hc=>Gg Ho O O O) O (JLo (.fn 163 [.dptr (G4.cs c)]) [] O .sct G (fun hc=>G67 (cs:=[.dptr (G4.cs c)]) O O) O ?_)))))))))
 obtain⟨r3,hr3,h⟩:=Ge h
 refine JLo (E0 r3) [12,13] O .sct ⟨Ua,Ua,G⟩ (fun hc=>Gn (args:=[E0 x.Rows,.fn 163 [.dptr (G4.cs c)]]) O (Hc6 x.Rows (fun z0=>G4a z0 c) 163 [.dptr (G4.cs c)] Jfd O (fun z0 q hq=>J1a z0 c q hq) r3 (Gx hc hr3)) Jfe ⟨O,O,O,O,G⟩) O (JLo (Eg r3.length) [14] O .sct ⟨Ua,G⟩ (fun hc=>Qi (f:=G0) (xs:=r3) Gu O O) O (JLo (BL (decide (0 < (r3.length:Int)))) [15] O .sct ⟨Ua,G⟩ (fun hc=>G2c O O O) O (JLh (BL ((decide (x.Bay=c.Bay))&&(decide (0 < (r3.length:Int))))) (Hx O O O O) O (Yy (BL ((decide (x.Bay=c.Bay))&&(decide (0 < (r3.length:Int))))) O (G7 (hK2 ?_))))))
 refine Gr (fin1 BL h)

def G1a (x:Gc) (p1:H4) (p2:Int):Option Bool:=
 Qm p1.Columns p2 fun y3=>
 bnd (G51 x y3) fun r5=>
 some r5
theorem Hf6 (x:Gc) (p1:H4) (p2:Int) (r:Bool) (h:G1a x p1 p2=some r):Pure Eh 145 [.agg [G0 x.Bay,E0 x.Rows],Ea p1,.dptr [G0 p2]] (·=BL r):=by
 unfold G1a at h
 refine Gy [.tmp 4] Tryz.func145 O O (Jr fun hK1=>(JLh (.ptr 1143 0) (Ji (cs:=[G0 x.Bay,E0 x.Rows]) 1143 O O O O O) O (Yy (BL false) O (G7 (hK1 (Gz [(1,Ea p1),(2,.dptr [G0 p2]),(3,.dptr [G0 x.Bay,E0 x.Rows])] [] 1143 rfl rfl rfl G rfl (by exact⟨.conv (.same rfl),.conv (.same rfl),.ptr,G⟩) (Js fun hK2=>?_)))))))
 obtain⟨m4,y3,hm4,hy3,h⟩:=Qx h
 obtain⟨r5,hr5,h⟩:=Ge h
 refine JC_d0 J8 (by kernel_rfl) (Dq (.agg [G0 x.Bay,E0 x.Rows]) (Gi Rs O O O) O (Dq (Ea p1) (Ga Hd O O O) O (Dq (E4 p1.Columns) (Gg Hm O O O) O (Dq (G0 p2) (Gg Gd O O O) O (Dq (Ec y3) (Gv (f:=G4.av) (xs:=p1.Columns) (y:=y3) O O O H5 hy3 hm4) O (Dq (.agg (G4.cs y3)) (Gi Rf O O O) O (Dq (BL r5) (Gn (args:=[.agg [G0 x.Bay,E0 x.Rows],.agg (G4.cs y3)]) O (H7f x y3 r5 hr5) J41 ⟨O,O,O,O,G⟩) O (Dq (BL r5) (G8 O O) O (Dnil (hK2 (Gr (fin1 BL h))))))))))))

def Zg (l:List Gc) (wanted:Gc→Option Bool):Option (List Int):=
 each (fun y21 i21 (s21:(List Int)) nx21=>
  jp (fun kj24=>
   bnd (wanted y21) fun r27=>
   bif r27 then
   (need (decide ((s21.length+[(i21:Int)].length)*8≤140737488355328∧s21.length+[(i21:Int)].length≤maxLen)) <|
    kj24 (s21++[(i21:Int)]))
   else
   (kj24 s21)) fun(j24:(List Int))=>
  nx21 j24)
 (fun(s21:(List Int))=>
  some s21) l 0 []
theorem H47 (l:List Gc) (wanted:Gc→Option Bool) (wanted_f:FuncId) (wanted_c:List AV) (wanted_B:H8 Eh wanted_f=true) (wanted_d:Zz (fun _=>false) wanted_c=true) (wanted_w:∀ a0 q,wanted a0=some q→Pure Eh wanted_f ([.agg [G0 a0.Bay,E0 a0.Rows]]++wanted_c) (·=BL q)) (r:(List Int)) (h:Zg l wanted=some r):Pure Eh 144 [E3 l,.fn wanted_f wanted_c] (·=E0 r):=by
 unfold Zg at h
 refine Gy [.tmp 4] Tryz.func144 O O (Jr fun hK1=>(JLh (E0 ([]:List Int)) (Hy 1 O O) O (G7 (hK1 (Jr fun hK2=>(JLh (OW 1141 1 G0 ([]:List Int)) (Gb0 1141 3 1 O O O) O (G7 (hK2 (Js fun hK3=>Jr fun hK4=>(Yy (E3 l) O (JLl Hh O O O fun hm9=>(Yy (G0 0) O (G7 (hK4 (Gs ?_)))))))))))))))
 obtain⟨b21,kx21,hb21,hkx21,h⟩:=J5 h
 refine Hc (fun i21 (s21:(List Int))=>each b21 kx21 (List.drop i21 l) i21 s21=some r) (fun i21 s21=>[(1,.fn wanted_f wanted_c),(5,OW 1141 1 G0 s21),(8,E3 l),(9,Eg l.length),(10,Eg i21)]) (fun i21 s21=>[(1141,.spare 3 1 s21.length s21.length)]) (fun i21=>l.length - i21) 0 [] h ⟨⟨.same (Qp _ _ wanted_d),.same O,.same O,.same O,.same O,G⟩,⟨⟨_,O,.same⟩,G⟩,O⟩ ?_
 clear h
 intro i21 s21 hi21 K21 e21
 refine Jr fun hK22=>(JLh (BL (decide ((i21:Int) < (l.length:Int)))) (J4 O O O) O (G7 (hK22 (Js fun hK23=>Gk O (fun hb=>?_) (fun hb=>?_)))))
 ·
  have hk21:=Jj hb
  obtain⟨y21,nx21,hy21,hn21,h⟩:=Hq hi21 hk21
  replace h:=Z1 hb21 h
  refine Gp (hK23 ?_)
  obtain⟨kj24,hkj24,h⟩:=Gbf h
  refine G73 (fun j24:(List Int)=>kj24 j24=some r) (fun j24=>[(1,.fn wanted_f wanted_c),(5,OW 1141 1 G0 j24),(8,E3 l),(9,Eg l.length),(10,Eg i21)]) (fun j24=>[(1141,.spare 3 1 j24.length j24.length)]) (fun Kj24 ej24=>?_) ?_
  ·
   refine Gs (Jr fun hK25=>(Yy (Eg i21) O (JLh (.dptr [G0 y21.Bay,E0 y21.Rows]) (Gv (f:=Gc.av) (xs:=l) (y:=y21) O O O Hh hy21 O) O (JLh (.agg [G0 y21.Bay,E0 y21.Rows]) (Gi Rs O O O) O (JLh (.ptr 1142 0) (Qf 1142 2 G3c O O) O (Yy (Eg i21) O (Jk (u:=.junk) (Jb (u:=.agg [G0 y21.Bay,E0 y21.Rows]) (ds:=[G0 y21.Bay,E0 y21.Rows]) G91 O O O O O O O O) (G7 (hK25 ?_)))))))))
   refine Gz [(1,.fn wanted_f wanted_c),(5,OW 1141 1 G0 s21),(6,Eg i21),(7,.dptr [G0 y21.Bay,E0 y21.Rows]),(8,E3 l),(9,Eg l.length),(10,Eg i21)] [(1141,.spare 3 1 s21.length s21.length)] 1142 rfl rfl rfl ⟨⟨_,rfl,.same⟩,G⟩ rfl (by exact⟨.conv (.same (Qp _ _ wanted_d)),.conv (.same rfl),.conv (.same rfl),.ptr,.conv (.same rfl),.conv (.same rfl),.conv (.same rfl),G⟩) (Jr fun hK26=>(Yy (.fn wanted_f wanted_c) O (JLh (.agg [G0 y21.Bay,E0 y21.Rows]) (Gi Rs O O O) O ?_)))
   obtain⟨r27,hr27,h⟩:=Ge h
   refine JLh (BL r27) (G8c (args:=[.agg [G0 y21.Bay,E0 y21.Rows]]) (caps:=wanted_c) O O (wanted_w y21 _ hr27) wanted_B ⟨O,O,G⟩ wanted_d) O (G7 (hK26 (JCc O h (fun h hb=>?_) (fun h hb=>?_))))
   ·
    refine G3 (Yy (OW 1141 1 G0 s21) O (Yy (Eg i21) O (JLh (E0 [(i21:Int)]) (Hn (xs:=[Eg i21]) O ⟨O,O,G⟩ Gu Y2 O O O O) O ?_)))
    obtain⟨ha28,h⟩:=J2 h
    refine JLh (OW 1141 1 G0 (s21++[(i21:Int)])) (Rj (f:=G0) (xs:=s21) (ys:=[(i21:Int)]) O O O O Gu G18 ha28 (fun _=>O) (.inl O) O) O (Yy (OW 1141 1 G0 (s21++[(i21:Int)])) O (G7 (ej24 _ _ (s21++[(i21:Int)]) h ⟨⟨.same (Qp _ _ wanted_d),.same O,.same O,.same O,.same O,G⟩,⟨⟨_,O,.same⟩,G⟩,O⟩)))
   ·
    refine Gp (ej24 _ _ s21 h ⟨⟨.same (Qp _ _ wanted_d),.same O,.same O,.same O,.same O,G⟩,⟨⟨_,O,.same⟩,G⟩,O⟩)
  ·intro j24 h
   replace h:=app1 hkj24 h
   refine G3 (JLh (G0 ((i21+1:Nat):Int)) (Hs (He hk21 hm9) O O O) O (Yy (G0 ((i21+1:Nat):Int)) O (G7 (e21 _ _ (i21+1) j24 (app1 hn21 h) (by omega) ⟨⟨.same (Qp _ _ wanted_d),.same rfl,.same rfl,.same rfl,.same rfl,G⟩,⟨⟨_,rfl,.same⟩,G⟩,rfl⟩))))
 ·
  have h:=app1 hkx21 (Hr hi21 (Ha hb))
  refine Hi (hK3 (Jr fun hK29=>(Yy (OW 1141 1 G0 s21) O (Yy (OW 1141 1 G0 s21) O (G7 (hK29 (Gr (fin1l (fun r:(List Int)=>(E0 r:AV)) h))))))))

def G3b (s:H4) (column:Int):Option Int:=
 bif ((decide (column < 0))||(decide ((s.Columns.length:Int)≤column))) then
 (some (-1))
 else
 (bnd (Zg s.Covers (fun z0=>G1a z0 s column)) fun r6=>
  bif decide ((r6.length:Int)=0) then
  (some (-1))
  else
  (Qm r6 0 fun y11=>
   some y11))
theorem H57 (s:H4) (column:Int) (r:Int) (h:G3b s column=some r):Pure Eh 116 [.agg (H4.cs s),G0 column] (·=G0 r):=by
 unfold G3b at h
 refine Gy [.tmp 4] Tryz.func116 O O (Jr fun hK1=>(JLh (.ptr 1122 0) (Ji (cs:=(H4.cs s)) 1122 O O O O O) O (JLh (.ptr 1123 0) (Ji (cs:=[G0 column]) 1123 O O O O O) O (Yy (G0 0) O (G7 (hK1 ?_))))))
 refine Gz [(2,Ea s),(3,.ptr 1123 0)] [(1123,.box 3 [G0 column])] 1122 rfl rfl rfl ⟨⟨_,rfl,.boxEq rfl rfl⟩,G⟩ rfl (by exact⟨.ptr,.conv (.same rfl),G⟩) (Gz [(2,Ea s),(3,.dptr [G0 column])] [] 1123 rfl rfl rfl G rfl (by exact⟨.conv (.same rfl),.ptr,G⟩) (Js fun hK2=>?_))
 refine Jr fun hK3=>(JLh (G0 column) (Gg Gd O O O) O (JLh (BL (decide (column < 0))) (J4 O O O) O (Yy (BL (decide (column < 0))) O (JLo (G0 column) [] O .scf G (fun hc=>Gg Gd O O O) O (JLo (Ea s) [] O .scf G (fun hc=>Ga Hd O O O) O (JLo (E4 s.Columns) [10] O .scf ⟨Ua,G⟩ (fun hc=>Gg Hm O O O) O (JLo (Eg s.Columns.length) [11] O .scf ⟨Ua,G⟩ (fun hc=>Qi (f:=G4.av) (xs:=s.Columns) H5 O O) O (JLo (BL (decide ((s.Columns.length:Int)≤column))) [9,12] O .scf ⟨Ua,Ua,G⟩ (fun hc=>G17 O O O) O (JLh (BL ((decide (column < 0))||(decide ((s.Columns.length:Int)≤column)))) (Yi O O O O) O (G7 (hK3 ?_)))))))))))
 refine JCc O h (fun h hb=>?_) (fun h hb=>?_)
 ·
  refine Jr fun hK4=>(Yy (G0 (-1)) O (G7 (hK4 (Gr (fin1 G0 h)))))
 ·
  refine Gp (hK2 ?_)
  refine Jr fun hK5=>(JLh (.dptr [E3 s.Covers,G0 s.Light.Kilos,G0 s.Light.X,G0 s.Light.Y,G0 s.Light.Z,E6 s.Rows,E5 s.Frames,E7 s.Tanks,G0 s.G2.Tolerance,G0 s.G2.Trim,G0 s.G2.List_,G0 s.G2.Stability]) (Ga Je O O O) O (JLh (E3 s.Covers) (Gg Jv O O O) O (JLh (.fn 145 [.dptr (H4.cs s),.dptr [G0 column]]) (G67 (cs:=[.dptr (H4.cs s),.dptr [G0 column]]) O O) O ?_)))
  obtain⟨r6,hr6,h⟩:=Ge h
  refine JLh (E0 r6) (Gn O (H47 s.Covers (fun z0=>G1a z0 s column) 145 [.dptr (H4.cs s),.dptr [G0 column]] Q00 O (fun z0 q hq=>Hf6 z0 s column q hq) r6 hr6) Q01 ⟨O,O,O,O,G⟩) O (Yy (E0 r6) O (G7 (hK5 (Js fun hK7=>Jr fun hK8=>(Yy (E0 r6) O (JLl Gu O O O fun hm20=>(JLh (BL (decide ((r6.length:Int)=0))) (Jt O O O) O (G7 (hK8 (JCc O h (fun h hb=>?_) (fun h hb=>?_)))))))))))
  ·
   refine Jr fun hK9=>(Yy (G0 (-1)) O (G7 (hK9 (Gr (fin1 G0 h)))))
  ·
   refine Gp (hK7 (Jr fun hK10=>(Yy (E0 r6) O ?_)))
   obtain⟨m12,y11,hm12,hy11,h⟩:=Qx h
   refine JLh (.dptr [G0 y11]) (Gv (f:=G0) (xs:=r6) (y:=y11) O O O Gu hy11 hm12) O (JLh (G0 y11) (Gg Gd O O O) O (Yy (G0 y11) O (G7 (hK10 (Gr (fin1 G0 h))))))

def G6f (s:H4) (column:Int):Option Int:=
 Qm s.Columns column fun y4=>
 bif y4.Deck then
 (some (-1))
 else
 (bnd (G3b s column) fun r8=>
  some r8)
theorem Had (s:H4) (column:Int) (r:Int) (h:G6f s column=some r):Pure Eh 70 [.agg (H4.cs s),G0 column] (·=G0 r):=by
 unfold G6f at h
 refine Gy [.tmp 4] Tryz.func70 O O (Jr fun hK1=>(JLh (.ptr 1091 0) (Ji (cs:=(H4.cs s)) 1091 O O O O O) O (Yy (G0 0) O (G7 (hK1 (Gz [(1,G0 column),(2,Ea s)] [] 1091 rfl rfl rfl G rfl (by exact⟨.conv (.same rfl),.ptr,G⟩) (Js fun hK2=>?_)))))))
 refine Jr fun hK3=>(JLh (Ea s) (Ga Hd O O O) O (JLh (E4 s.Columns) (Gg Hm O O O) O (Yy (G0 column) O ?_)))
 obtain⟨m5,y4,hm5,hy4,h⟩:=Qx h
 refine JLh (Ec y4) (Gv (f:=G4.av) (xs:=s.Columns) (y:=y4) O O O H5 hy4 hm5) O (JLh (.dptr ((G4.cs y4).drop 2)) (Ga Z3 O O O) O (JLh (BL y4.Deck) (Gg Ra O O O) O (G7 (hK3 (JCc O h (fun h hb=>?_) (fun h hb=>?_))))))
 ·
  refine Jr fun hK6=>(Yy (G0 (-1)) O (G7 (hK6 (Gr (fin1 G0 h)))))
 ·
  refine Gp (hK2 (Jr fun hK7=>(JLh (.agg (H4.cs s)) (Gi Hu O O O) O (Yy (G0 column) O ?_))))
  obtain⟨r8,hr8,h⟩:=Ge h
  refine JLh (G0 r8) (Gn O (H57 s column r8 hr8) J44 ⟨O,O,O,O,G⟩) O (Yy (G0 r8) O (G7 (hK7 (Gr (fin1 G0 h)))))

def G64 (c:G4) (p1:Bool) (p2:H4) (p3:Int):Option Bool:=
 bnd (bif (c.Deck==p1) then Qm p2.Covers p3 some else some default) fun y3=>
 bnd (bif (c.Deck==p1) then G51 y3 c else some default) fun r4=>
 some ((c.Deck==p1)&&r4)
theorem J37 (c:G4) (p1:Bool) (p2:H4) (p3:Int) (r:Bool) (h:G64 c p1 p2 p3=some r):Pure Eh 165 [.agg (G4.cs c),.dptr [BL p1],Ea p2,.dptr [G0 p3]] (·=BL r):=by
 unfold G64 at h
 refine Gy [.tmp 5] Tryz.func165 O O (Jr fun hK1=>(JLh (.ptr 1152 0) (Ji (cs:=(G4.cs c)) 1152 O O O O O) O (Yy (BL false) O (G7 (hK1 (Gz [(1,.dptr [BL p1]),(2,Ea p2),(3,.dptr [G0 p3]),(4,Ec c)] [] 1152 rfl rfl rfl G rfl (by repeat' (first | exact .ptr | constructor)) (Js fun hK2=>?_)))))))
 obtain⟨y3,hy3,h⟩:=Ge h
 obtain⟨r4,hr4,h⟩:=Ge h
 refine JC_d0 J8 (by kernel_rfl) (Dq (.dptr [BL c.Deck,G0 c.Tiers,G0 c.Height,G0 c.Kilos20,G0 c.Kilos40,G0 c.Lash,E0 c.Plugs,G0 c.X,G0 c.Y,G0 c.Z]) (Ga Z3 O O O) O (Dq (BL c.Deck) (Gg Ra O O O) O (Dq (BL p1) (Gg Ra O O O) O (Dq (BL (c.Deck==p1)) (J1e Gfa O O O) O (Dq (BL (c.Deck==p1)) (G5 O O) O (Do (.dptr ((H4.cs p2).drop 1)) [] O .sct G (fun hc=>Ga Je O O O) O (Do (E3 p2.Covers) [11] O .sct ⟨Ua,G⟩ (fun hc=>Gg Jv O O O) O (Do (G0 p3) [] O .sct G (fun hc=>Gg Gd O O O) O (Do (.dptr [G0 y3.Bay,E0 y3.Rows]) [12,13] O .sct ⟨Ua,Ua,G⟩ (fun hc=>(match Q3 (Gx hc hy3) with | ⟨_,hm_,hy_⟩=>Gv (f:=Gc.av) (xs:=p2.Covers) (y:=y3) O O O Hh hy_ hm_)) O (Do (.agg [G0 y3.Bay,E0 y3.Rows]) [14] O .sct ⟨Ua,G⟩ (fun hc=>Gi Rs O O O) O (Do (.agg (G4.cs c)) [] O .sct G (fun hc=>Gi Rf O O O) O (Do (BL r4) [15,16] O .sct ⟨Ua,Ua,G⟩ (fun hc=>Gn (args:=[.agg [G0 y3.Bay,E0 y3.Rows],.agg (G4.cs c)]) O (H7f y3 c r4 (Gx hc hr4)) J41 ⟨O,O,O,O,G⟩) O (Dq (BL ((c.Deck==p1)&&r4)) (Hx O O O O) O ?_)))))))))))))
 refine Dq (BL ((c.Deck==p1)&&r4)) (G8 O O) O (Dnil (hK2 (Gr (fin1 BL h))))

def G07 (l:List G4) (wanted:G4→Option Bool):Option (List Int):=
 each (fun y21 i21 (s21:(List Int)) nx21=>
  jp (fun kj24=>
   bnd (wanted y21) fun r27=>
   bif r27 then
   (need (decide ((s21.length+[(i21:Int)].length)*8≤140737488355328∧s21.length+[(i21:Int)].length≤maxLen)) <|
    kj24 (s21++[(i21:Int)]))
   else
   (kj24 s21)) fun(j24:(List Int))=>
  nx21 j24)
 (fun(s21:(List Int))=>
  some s21) l 0 []
theorem H29 (l:List G4) (wanted:G4→Option Bool) (wanted_f:FuncId) (wanted_c:List AV) (wanted_B:H8 Eh wanted_f=true) (wanted_d:Zz (fun _=>false) wanted_c=true) (wanted_w:∀ a0 q,wanted a0=some q→Pure Eh wanted_f ([.agg (G4.cs a0)]++wanted_c) (·=BL q)) (r:(List Int)) (h:G07 l wanted=some r):Pure Eh 164 [E4 l,.fn wanted_f wanted_c] (·=E0 r):=by
 unfold G07 at h
 refine Gy [.tmp 4] Tryz.func164 O O (Jr fun hK1=>(JLh (E0 ([]:List Int)) (Hy 1 O O) O (G7 (hK1 (Jr fun hK2=>(JLh (OW 1150 1 G0 ([]:List Int)) (Gb0 1150 3 1 O O O) O (G7 (hK2 (Js fun hK3=>Jr fun hK4=>(Yy (E4 l) O (JLl H5 O O O fun hm9=>(Yy (G0 0) O (G7 (hK4 (Gs ?_)))))))))))))))
 obtain⟨b21,kx21,hb21,hkx21,h⟩:=J5 h
 refine Hc (fun i21 (s21:(List Int))=>each b21 kx21 (List.drop i21 l) i21 s21=some r) (fun i21 s21=>[(1,.fn wanted_f wanted_c),(5,OW 1150 1 G0 s21),(8,E4 l),(9,Eg l.length),(10,Eg i21)]) (fun i21 s21=>[(1150,.spare 3 1 s21.length s21.length)]) (fun i21=>l.length - i21) 0 [] h ⟨⟨.same (Qp _ _ wanted_d),.same O,.same O,.same O,.same O,G⟩,⟨⟨_,O,.same⟩,G⟩,O⟩ ?_
 clear h
 intro i21 s21 hi21 K21 e21
 refine Jr fun hK22=>(JLh (BL (decide ((i21:Int) < (l.length:Int)))) (J4 O O O) O (G7 (hK22 (Js fun hK23=>Gk O (fun hb=>?_) (fun hb=>?_)))))
 ·
  have hk21:=Jj hb
  obtain⟨y21,nx21,hy21,hn21,h⟩:=Hq hi21 hk21
  replace h:=Z1 hb21 h
  refine Gp (hK23 ?_)
  obtain⟨kj24,hkj24,h⟩:=Gbf h
  refine G73 (fun j24:(List Int)=>kj24 j24=some r) (fun j24=>[(1,.fn wanted_f wanted_c),(5,OW 1150 1 G0 j24),(8,E4 l),(9,Eg l.length),(10,Eg i21)]) (fun j24=>[(1150,.spare 3 1 j24.length j24.length)]) (fun Kj24 ej24=>?_) ?_
  ·
   refine Gs (Jr fun hK25=>(Yy (Eg i21) O (JLh (Ec y21) (Gv (f:=G4.av) (xs:=l) (y:=y21) O O O H5 hy21 O) O (JLh (.agg (G4.cs y21)) (Gi Rf O O O) O (JLh (.ptr 1151 0) (Qf 1151 12 G59 O O) O (Yy (Eg i21) O (Jk (u:=.junk) (Jb (u:=.agg (G4.cs y21)) (ds:=(G4.cs y21)) Gb8 O O O O O O O O) (G7 (hK25 ?_)))))))))
   refine Gz [(1,.fn wanted_f wanted_c),(5,OW 1150 1 G0 s21),(6,Eg i21),(7,Ec y21),(8,E4 l),(9,Eg l.length),(10,Eg i21)] [(1150,.spare 3 1 s21.length s21.length)] 1151 rfl rfl rfl ⟨⟨_,rfl,.same⟩,G⟩ rfl (by exact⟨.conv (.same (Qp _ _ wanted_d)),.conv (.same rfl),.conv (.same rfl),.ptr,.conv (.same rfl),.conv (.same rfl),.conv (.same rfl),G⟩) (Jr fun hK26=>(Yy (.fn wanted_f wanted_c) O (JLh (.agg (G4.cs y21)) (Gi Rf O O O) O ?_)))
   obtain⟨r27,hr27,h⟩:=Ge h
   refine JLh (BL r27) (G8c (args:=[.agg (G4.cs y21)]) (caps:=wanted_c) O O (wanted_w y21 _ hr27) wanted_B ⟨O,O,G⟩ wanted_d) O (G7 (hK26 (JCc O h (fun h hb=>?_) (fun h hb=>?_))))
   ·
    refine G3 (Yy (OW 1150 1 G0 s21) O (Yy (Eg i21) O (JLh (E0 [(i21:Int)]) (Hn (xs:=[Eg i21]) O ⟨O,O,G⟩ Gu Y2 O O O O) O ?_)))
    obtain⟨ha28,h⟩:=J2 h
    refine JLh (OW 1150 1 G0 (s21++[(i21:Int)])) (Rj (f:=G0) (xs:=s21) (ys:=[(i21:Int)]) O O O O Gu G18 ha28 (fun _=>O) (.inl O) O) O (Yy (OW 1150 1 G0 (s21++[(i21:Int)])) O (G7 (ej24 _ _ (s21++[(i21:Int)]) h ⟨⟨.same (Qp _ _ wanted_d),.same O,.same O,.same O,.same O,G⟩,⟨⟨_,O,.same⟩,G⟩,O⟩)))
   ·
    refine Gp (ej24 _ _ s21 h ⟨⟨.same (Qp _ _ wanted_d),.same O,.same O,.same O,.same O,G⟩,⟨⟨_,O,.same⟩,G⟩,O⟩)
  ·intro j24 h
   replace h:=app1 hkj24 h
   refine G3 (JLh (G0 ((i21+1:Nat):Int)) (Hs (He hk21 hm9) O O O) O (Yy (G0 ((i21+1:Nat):Int)) O (G7 (e21 _ _ (i21+1) j24 (app1 hn21 h) (by omega) ⟨⟨.same (Qp _ _ wanted_d),.same rfl,.same rfl,.same rfl,.same rfl,G⟩,⟨⟨_,rfl,.same⟩,G⟩,rfl⟩))))
 ·
  have h:=app1 hkx21 (Hr hi21 (Ha hb))
  refine Hi (hK3 (Jr fun hK29=>(Yy (OW 1150 1 G0 s21) O (Yy (OW 1150 1 G0 s21) O (G7 (hK29 (Gr (fin1l (fun r:(List Int)=>(E0 r:AV)) h))))))))

def Gf8 (s:H4) (cover:Int) (deck:Bool):Option (List Int):=
 bif ((decide (cover < 0))||(decide ((s.Covers.length:Int)≤cover))) then
 (some [])
 else
 (bnd (G07 s.Columns (fun z0=>G64 z0 deck s cover)) fun r6=>
  some r6)
theorem Jc3 (s:H4) (cover:Int) (deck:Bool) (r:(List Int)) (h:Gf8 s cover deck=some r):Pure Eh 147 [.agg (H4.cs s),G0 cover,BL deck] (·=E0 r):=by
 unfold Gf8 at h
 refine Gy [.tmp 6] Tryz.func147 O O (Jr fun hK1=>(JLh (.ptr 1146 0) (Ji (cs:=(H4.cs s)) 1146 O O O O O) O (JLh (.ptr 1147 0) (Ji (cs:=[G0 cover]) 1147 O O O O O) O (JLh (.ptr 1148 0) (Ji (cs:=[BL deck]) 1148 O O O O O) O (JLh (E0 ([]:List Int)) (Hy 1 O O) O (G7 (hK1 ?_)))))))
 refine Gz [(3,Ea s),(4,.ptr 1147 0),(5,.ptr 1148 0)] [(1147,.box 3 [G0 cover]),(1148,.box 4 [BL deck])] 1146 rfl rfl rfl ⟨⟨_,rfl,.boxEq rfl rfl⟩,⟨_,rfl,.boxEq rfl rfl⟩,G⟩ rfl (by exact⟨.ptr,.conv (.same rfl),.conv (.same rfl),G⟩) ?_
 refine Gz [(3,Ea s),(4,.dptr [G0 cover]),(5,.ptr 1148 0)] [(1148,.box 4 [BL deck])] 1147 rfl rfl rfl ⟨⟨_,rfl,.boxEq rfl rfl⟩,G⟩ rfl (by exact⟨.conv (.same rfl),.ptr,.conv (.same rfl),G⟩) ?_
 refine Gz [(3,Ea s),(4,.dptr [G0 cover]),(5,.dptr [BL deck])] [] 1148 rfl rfl rfl G rfl (by exact⟨.conv (.same rfl),.conv (.same rfl),.ptr,G⟩) (Js fun hK2=>?_)
 refine Jr fun hK3=>(JLh (G0 cover) (Gg Gd O O O) O (JLh (BL (decide (cover < 0))) (J4 O O O) O (Yy (BL (decide (cover < 0))) O (JLo (G0 cover) [] O .scf G (fun hc=>Gg Gd O O O) O (JLo (.dptr [E3 s.Covers,G0 s.Light.Kilos,G0 s.Light.X,G0 s.Light.Y,G0 s.Light.Z,E6 s.Rows,E5 s.Frames,E7 s.Tanks,G0 s.G2.Tolerance,G0 s.G2.Trim,G0 s.G2.List_,G0 s.G2.Stability]) [] O .scf G (fun hc=>Ga Je O O O) O (JLo (E3 s.Covers) [11] O .scf ⟨Ua,G⟩ (fun hc=>Gg Jv O O O) O (JLo (Eg s.Covers.length) [12] O .scf ⟨Ua,G⟩ (fun hc=>Qi (f:=Gc.av) (xs:=s.Covers) Hh O O) O (JLo (BL (decide ((s.Covers.length:Int)≤cover))) [10,13] O .scf ⟨Ua,Ua,G⟩ (fun hc=>G17 O O O) O (JLh (BL ((decide (cover < 0))||(decide ((s.Covers.length:Int)≤cover)))) (Yi O O O O) O (G7 (hK3 ?_)))))))))))
 refine JCc O h (fun h hb=>?_) (fun h hb=>?_)
 ·
  refine Jr fun hK4=>(JLh (E0 ([]:List Int)) (Hy 1 O O) O (G7 (hK4 (Gr (fin1 (fun r:(List Int)=>(E0 r:AV)) h)))))
 ·
  refine Gp (hK2 ?_)
  refine Jr fun hK5=>(JLh (Ea s) (Ga Hd O O O) O (JLh (E4 s.Columns) (Gg Hm O O O) O (JLh (.fn 165 [.dptr [BL deck],Ea s,.dptr [G0 cover]]) (G67 (cs:=[.dptr [BL deck],Ea s,.dptr [G0 cover]]) O O) O ?_)))
  obtain⟨r6,hr6,h⟩:=Ge h
  refine JLh (E0 r6) (Gn O (H29 s.Columns (fun z0=>G64 z0 deck s cover) 165 [.dptr [BL deck],Ea s,.dptr [G0 cover]] Jfb O (fun z0 q hq=>J37 z0 deck s cover q hq) r6 hr6) Jfc ⟨O,O,O,O,G⟩) O (Yy (E0 r6) O (G7 (hK5 (Gr (fin1 (fun r:(List Int)=>(E0 r:AV)) h)))))

def Gd5 (s:H4) (cover:Int):Option (List Int):=
 bnd (Gf8 s cover true) fun r3=>
 some r3
theorem M_ship_Upon_w (s:H4) (cover:Int) (r:(List Int)) (h:Gd5 s cover=some r):Pure Eh 117 [.agg (H4.cs s),G0 cover] (·=E0 r):=by
 unfold Gd5 at h
 refine Gy [.tmp 4] Tryz.func117 O O (Jr fun hK1=>(JLh (.ptr 1124 0) (Ji (cs:=(H4.cs s)) 1124 O O O O O) O (JLh (E0 ([]:List Int)) (Hy 1 O O) O (G7 (hK1 (Gz [(1,G0 cover),(2,Ea s)] [] 1124 rfl rfl rfl G rfl (by exact⟨.conv (.same rfl),.ptr,G⟩) ?_))))))
 refine Jr fun hK2=>(JLh (.agg (H4.cs s)) (Gi Hu O O O) O (Yy (G0 cover) O ?_))
 obtain⟨r3,hr3,h⟩:=Ge h
 refine JLh (E0 r3) (Gn O (Jc3 s cover true r3 hr3) Jff ⟨O,O,O,O,O,O,G⟩) O (Yy (E0 r3) O (G7 (hK2 (Gr (fin1 (fun r:(List Int)=>(E0 r:AV)) h)))))

def Zq (s:List Int) (v:Int):Option Int:=
 each (fun y18 i18 (s18:Unit) nx18=>
  bif decide (v=y18) then
  (some (i18:Int))
  else
  (nx18 ()))
 (fun(s18:Unit)=>
  some (-1)) s 0 ()
theorem Hb0 (s:List Int) (v:Int) (r:Int) (h:Zq s v=some r):Pure Eh 136 [E0 s,G0 v] (·=G0 r):=by
 unfold Zq at h
 refine Gy [.tmp 4] Tryz.func136 O O (Jr fun hK1=>(Yy (G0 0) O (G7 (hK1 (Js fun hK2=>Jr fun hK3=>(Yy (E0 s) O (JLl Gu O O O fun hm7=>(Yy (G0 0) O (G7 (hK3 (Gs ?_)))))))))))
 obtain⟨b18,kx18,hb18,hkx18,h⟩:=J5 h
 refine Hc (fun i18 (s18:Unit)=>each b18 kx18 (List.drop i18 s) i18 s18=some r) (fun i18 s18=>[(0,E0 s),(1,G0 v),(7,Eg s.length),(8,Eg i18)]) (fun i18 s18=>[]) (fun i18=>s.length - i18) 0 () h ⟨(by repeat' constructor),G,rfl⟩ ?_
 clear h
 intro i18 s18 hi18 K18 e18
 refine Jr fun hK19=>(JLh (BL (decide ((i18:Int) < (s.length:Int)))) (J4 O O O) O (G7 (hK19 (Js fun hK20=>Gk O (fun hb=>?_) (fun hb=>?_)))))
 ·
  have hk18:=Jj hb
  obtain⟨y18,nx18,hy18,hn18,h⟩:=Hq hi18 hk18
  replace h:=Z1 hb18 h
  refine Gp (hK20 (Js fun hK21=>Gs (Jr fun hK22=>(Yy (Eg i18) O (Yy (Eg i18) O (G7 (hK22 (Jr fun hK23=>(Yy (G0 v) O (Yy (E0 s) O (Yy (Eg i18) O (JLh (.dptr [G0 y18]) (Gv (f:=G0) (xs:=s) (y:=y18) O O O Gu hy18 O) O (JLh (G0 y18) (Gg Gd O O O) O (JLh (BL (decide (v=y18))) (Jt O O O) O (G7 (hK23 (JCc O h (fun h hb=>?_) (fun h hb=>?_))))))))))))))))))
  ·
   refine Jr fun hK24=>(Yy (Eg i18) O (Yy (Eg i18) O (G7 (hK24 (Gr (fin1 G0 h))))))
  ·
   refine Gp (hK21 (G3 (JLh (G0 ((i18+1:Nat):Int)) (Hs (He hk18 hm7) O O O) O (Yy (G0 ((i18+1:Nat):Int)) O (G7 (e18 _ _ (i18+1) () (app1 hn18 h) (by omega) ⟨(by repeat' constructor),G,rfl⟩))))))
 ·
  have h:=app1 hkx18 (Hr hi18 (Ha hb))
  refine Hi (hK2 (Jr fun hK25=>(Yy (G0 (-1)) O (G7 (hK25 (Gr (fin1 G0 h)))))))

def Rc (s:List Int) (v:Int):Option Bool:=
 bnd (Zq s v) fun r3=>
 some (decide (0≤r3))
theorem G39 (s:List Int) (v:Int) (r:Bool) (h:Rc s v=some r):Pure Eh 90 [E0 s,G0 v] (·=BL r):=by
 unfold Rc at h
 refine Gy [.tmp 4] Tryz.func90 O O (Jr fun hK1=>(Yy (BL false) O (G7 (hK1 (Jr fun hK2=>(Yy (E0 s) O (Yy (G0 v) O ?_)))))))
 obtain⟨r3,hr3,h⟩:=Ge h
 refine JLh (G0 r3) (Gn O (Hb0 s v r3 hr3) Q05 ⟨O,O,O,O,G⟩) O (JLh (BL (decide (0≤r3))) (G17 O O O) O (Yy (BL (decide (0≤r3))) O (G7 (hK2 (Gr (fin1 BL h))))))

def G98 (s:H4) (l:List Stowed) (cover:Int):Option (List Int):=
 bnd (Gd5 s cover) fun r3=>
 each (fun y23 i23 (s23:(List Int)) nx23=>
  jp (fun kj26=>
   bnd (Rc r3 y23.Slot.G4) fun r29=>
   bif r29 then
   (need (decide ((s23.length+[y23.Gh].length)*8≤140737488355328∧s23.length+[y23.Gh].length≤maxLen)) <|
    kj26 (s23++[y23.Gh]))
   else
   (kj26 s23)) fun(j26:(List Int))=>
  nx23 j26)
 (fun(s23:(List Int))=>
  some s23) l 0 []
theorem Hcf (s:H4) (l:List Stowed) (cover:Int) (r:(List Int)) (h:G98 s l cover=some r):Pure Eh 71 [.agg (H4.cs s),E1 l,G0 cover] (·=E0 r):=by
 unfold G98 at h
 refine Gy [.tmp 6] Tryz.func71 O O (Jr fun hK1=>(JLh (.ptr 1092 0) (Ji (cs:=(H4.cs s)) 1092 O O O O O) O (JLh (E0 ([]:List Int)) (Hy 1 O O) O (G7 (hK1 (Gz [(1,E1 l),(2,G0 cover),(3,Ea s)] [] 1092 rfl rfl rfl G rfl (by exact⟨.conv (.same rfl),.conv (.same rfl),.ptr,G⟩) ?_))))))
 refine Jr fun hK2=>(JLh (.agg (H4.cs s)) (Gi Hu O O O) O (Yy (G0 cover) O ?_))
 obtain⟨r3,hr3,h⟩:=Ge h
 refine JLh (E0 r3) (Gn O (M_ship_Upon_w s cover r3 hr3) Q11 ⟨O,O,O,O,G⟩) O (Yy (E0 r3) O (G7 (hK2 (Jr fun hK4=>(JLh (OW 1093 1 G0 ([]:List Int)) (Gb0 1093 3 1 O O O) O (G7 (hK4 (Js fun hK5=>Jr fun hK6=>(Yy (E1 l) O (JLl H0 O O O fun hm15=>(Yy (G0 0) O (G7 (hK6 (Gs ?_))))))))))))))
 obtain⟨b23,kx23,hb23,hkx23,h⟩:=J5 h
 refine Hc (fun i23 (s23:(List Int))=>each b23 kx23 (List.drop i23 l) i23 s23=some r) (fun i23 s23=>[(7,E0 r3),(8,OW 1093 1 G0 s23),(14,E1 l),(15,Eg l.length),(16,Eg i23)]) (fun i23 s23=>[(1093,.spare 3 1 s23.length s23.length)]) (fun i23=>l.length - i23) 0 [] h ⟨(by repeat' constructor),⟨⟨_,rfl,.same⟩,G⟩,rfl⟩ ?_
 clear h
 intro i23 s23 hi23 K23 e23
 refine Jr fun hK24=>(JLh (BL (decide ((i23:Int) < (l.length:Int)))) (J4 O O O) O (G7 (hK24 (Js fun hK25=>Gk O (fun hb=>?_) (fun hb=>?_)))))
 ·
  have hk23:=Jj hb
  obtain⟨y23,nx23,hy23,hn23,h⟩:=Hq hi23 hk23
  replace h:=Z1 hb23 h
  refine Gp (hK25 ?_)
  obtain⟨kj26,hkj26,h⟩:=Gbf h
  refine G73 (fun j26:(List Int)=>kj26 j26=some r) (fun j26=>[(7,E0 r3),(8,OW 1093 1 G0 j26),(14,E1 l),(15,Eg l.length),(16,Eg i23)]) (fun j26=>[(1093,.spare 3 1 j26.length j26.length)]) (fun Kj26 ej26=>?_) ?_
  ·
   refine Gs (Jr fun hK27=>(JLh (Eb y23) (Gv (f:=Stowed.av) (xs:=l) (y:=y23) O O O H0 hy23 O) O (JLh (.agg (Stowed.cs y23)) (Gi G19 O O O) O (JLh (.ptr 1094 0) (Qf 1094 4 G5a O O) O (Jk (u:=.junk) (Jb (u:=.agg (Stowed.cs y23)) (ds:=[G0 y23.Gh,G0 y23.Slot.G4,G0 y23.Slot.Tier,U8 y23.Slot.Half]) G92 O O O O O O O O) (G7 (hK27 (Gz [(7,E0 r3),(8,OW 1093 1 G0 s23),(10,Eb y23),(14,E1 l),(15,Eg l.length),(16,Eg i23)] [(1093,.spare 3 1 s23.length s23.length)] 1094 rfl rfl rfl ⟨⟨_,rfl,.same⟩,G⟩ rfl (by repeat' (first | exact .ptr | constructor)) ?_))))))))
   refine Jr fun hK28=>(Yy (E0 r3) O (JLh (.dptr ((Stowed.cs y23).drop 1)) (Ga Ht O O O) O (JLh (.dptr ((Stowed.cs y23).drop 1)) (Ga J6 O O O) O (JLh (G0 y23.Slot.G4) (Gg Gd O O O) O ?_))))
   obtain⟨r29,hr29,h⟩:=Ge h
   refine JLh (BL r29) (Gn O (G39 r3 y23.Slot.G4 r29 hr29) Hde ⟨O,O,O,O,G⟩) O (G7 (hK28 (JCc O h (fun h hb=>?_) (fun h hb=>?_))))
   ·
    refine G3 (Yy (OW 1093 1 G0 s23) O (JLh (Eb y23) (Ga Q5 O O O) O (JLh (G0 y23.Gh) (Gg Gd O O O) O (JLh (E0 [y23.Gh]) (Hn (xs:=[G0 y23.Gh]) O ⟨O,O,G⟩ Gu Y2 O O O O) O ?_))))
    obtain⟨ha30,h⟩:=J2 h
    refine JLh (OW 1093 1 G0 (s23++[y23.Gh])) (Rj (f:=G0) (xs:=s23) (ys:=[y23.Gh]) O O O O Gu G18 ha30 (fun _=>O) (.inl O) O) O (Yy (OW 1093 1 G0 (s23++[y23.Gh])) O (G7 (ej26 _ _ (s23++[y23.Gh]) h ⟨(by repeat' constructor),⟨⟨_,rfl,.same⟩,G⟩,rfl⟩)))
   ·
    refine Gp (ej26 _ _ s23 h ⟨(by repeat' constructor),⟨⟨_,rfl,.same⟩,G⟩,rfl⟩)
  ·intro j26 h
   replace h:=app1 hkj26 h
   refine G3 (JLh (G0 ((i23+1:Nat):Int)) (Hs (He hk23 hm15) O O O) O (Yy (G0 ((i23+1:Nat):Int)) O (G7 (e23 _ _ (i23+1) j26 (app1 hn23 h) (by omega) ⟨(by repeat' constructor),⟨⟨_,rfl,.same⟩,G⟩,rfl⟩))))
 ·
  have h:=app1 hkx23 (Hr hi23 (Ha hb))
  refine Hi (hK5 (Jr fun hK31=>(Yy (OW 1093 1 G0 s23) O (Yy (OW 1093 1 G0 s23) O (G7 (hK31 (Gr (fin1l (fun r:(List Int)=>(E0 r:AV)) h))))))))
end
end Go.Proofs.YtjkmmenifdklmaaGreat
