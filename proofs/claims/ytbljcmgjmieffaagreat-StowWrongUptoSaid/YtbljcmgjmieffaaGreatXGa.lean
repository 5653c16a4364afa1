/-
 Models of functions of the program,and that they return what the models say.
-/
import Derived.Test.YtbljcmgjmieffaaGreatSpecW
set_option linter.unnecessarySimpa false
set_option maxRecDepth 100000
set_option linter.unusedVariables false
set_option linter.unusedSimpArgs false
namespace Go.Proofs.YtbljcmgjmieffaaGreat
open Go.RowKit
noncomputable section
structure Gb where
 ID:Int
 Number:ByteArray
 Size:Int
 High:Bool
 Kilos:Int
 Load:Int
 Discharge:Int
 Class:Int
 Reefer:Bool
 deriving DecidableEq,Inhabited
def Gb.cs (x:Gb):List AV:=[G0 x.ID,ST x.Number,U8 x.Size,BL x.High,G0 x.Kilos,G0 x.Load,G0 x.Discharge,U8 x.Class,BL x.Reefer]
def Gb.av (x:Gb):AV:=.agg x.cs
abbrev Eh (x:Gb):AV:=.dptr (Gb.cs x)
abbrev E2:=LS 9 Gb.av
namespace XGF
open XAF
open XCF
theorem tq_45 (a b:Slot):H85 Ek 4 45 [.int .i64 a.G3,.int .i64 a.Tier,.int .u8 a.Half] [.int .i64 b.G3,.int .i64 b.Tier,.int .u8 b.Half]=some (decide (a=b)):=by
 refine(show _=some ((a.G3==b.G3)&&((a.Tier==b.Tier)&&((a.Half==b.Half)&&true))) by kernel_rfl).trans (congrArg some ?_)
 rw [Bool.eq_iff_iff]
 simp only [Bool.and_eq_true,beq_iff_eq,decide_eq_true_eq,Bool.and_true]
 constructor
 ·intro h; obtain⟨_,_,_⟩:=a; obtain⟨_,_,_⟩:=b; simp_all
 ·intro h; subst h; simp
theorem H3:Gaa Ek 36 13=true:=by kernel_rfl
theorem Qb:Gaa Ek 45 3=true:=by kernel_rfl
theorem Qw:Gaa Ek 47 4=true:=by kernel_rfl
theorem G66:Gaa Ek 67 9=true:=by kernel_rfl
theorem J9c:G05 Ek 45=true:=by kernel_rfl
theorem Gbd:Hf2 Ek 4=true:=by kernel_rfl
theorem J9a:Hf Ek 100=true:=by kernel_rfl
theorem J99:Hf Ek 101=true:=by kernel_rfl
theorem J98:Hf Ek 102=true:=by kernel_rfl
theorem J97:Hf Ek 103=true:=by kernel_rfl
theorem J96:Hf Ek 104=true:=by kernel_rfl
theorem H12:Hf Ek 11=true:=by kernel_rfl
theorem G61:Hf Ek 17=true:=by kernel_rfl
theorem Gc7:Hf Ek 25=true:=by kernel_rfl
theorem H78:Hf Ek 26=true:=by kernel_rfl
theorem J37:Hf Ek 27=true:=by kernel_rfl
theorem G86:Hf Ek 28=true:=by kernel_rfl
theorem J36:Hf Ek 29=true:=by kernel_rfl
theorem Jd7:Hf Ek 30=true:=by kernel_rfl
theorem Jd6:Hf Ek 31=true:=by kernel_rfl
theorem H77:Hf Ek 36=true:=by kernel_rfl
theorem H76:Hf Ek 37=true:=by kernel_rfl
theorem J33:Hf Ek 38=true:=by kernel_rfl
theorem Jcf:Hf Ek 44=true:=by kernel_rfl
theorem J31:Hf Ek 45=true:=by kernel_rfl
theorem J30:Hf Ek 46=true:=by kernel_rfl
theorem J2f:Hf Ek 47=true:=by kernel_rfl
theorem J2e:Hf Ek 48=true:=by kernel_rfl
theorem J2d:Hf Ek 52=true:=by kernel_rfl
theorem J2c:Hf Ek 53=true:=by kernel_rfl
theorem Jcb:Hf Ek 54=true:=by kernel_rfl
theorem Jca:Hf Ek 55=true:=by kernel_rfl
theorem J2b:Hf Ek 58=true:=by kernel_rfl
theorem Jc8:Hf Ek 64=true:=by kernel_rfl
theorem Jc7:Hf Ek 65=true:=by kernel_rfl
theorem Jc6:Hf Ek 66=true:=by kernel_rfl
theorem Jc5:Hf Ek 67=true:=by kernel_rfl
theorem H75:Hf Ek 73=true:=by kernel_rfl
theorem Jc0:Hf Ek 74=true:=by kernel_rfl
theorem J28:Hf Ek 75=true:=by kernel_rfl
theorem J27:Hf Ek 77=true:=by kernel_rfl
theorem Jbd:Hf Ek 80=true:=by kernel_rfl
theorem Jbc:Hf Ek 81=true:=by kernel_rfl
theorem J26:Hf Ek 82=true:=by kernel_rfl
theorem Jbb:Hf Ek 83=true:=by kernel_rfl
theorem Jba:Hf Ek 97=true:=by kernel_rfl
theorem J23:Y4 Ek 45 3 24=true:=by kernel_rfl
theorem tf_eqg_45:Ek.eqGuardType Ek.depth 45=false:=by kernel_rfl
theorem Jc:Ju Ek 45 0 0=true:=by kernel_rfl
theorem Yd:Ju Ek 45 1 1=true:=by kernel_rfl
theorem Qq:Ju Ek 45 2 2=true:=by kernel_rfl
theorem Hw:Ju Ek 47 0 0=true:=by kernel_rfl
theorem Hq:Ju Ek 47 1 1=true:=by kernel_rfl
theorem Zu:Ju Ek 67 0 0=true:=by kernel_rfl
theorem Yc:Ju Ek 67 2 2=true:=by kernel_rfl
theorem G92:Ju Ek 67 3 3=true:=by kernel_rfl
theorem Hbd:G76 Ek 80 3 82=true:=by kernel_rfl
theorem Qt:placesOf Ek 67=some [(0,1),(1,1),(2,1),(3,1),(4,1),(5,1),(6,1),(7,1),(8,1)]:=by kernel_rfl
theorem J88:placesOf Ek 82=some []:=by kernel_rfl
theorem Rv:Rr Ek 39=true:=by kernel_rfl
theorem H0f:Rr Ek 76=true:=by kernel_rfl
theorem H0e:Rr Ek 80=true:=by kernel_rfl
theorem H0d:Rr Ek 81=true:=by kernel_rfl
theorem H0c:Rn Ek 45 3=true:=by kernel_rfl
theorem Yv:Rn Ek 47 4=true:=by kernel_rfl
theorem G30:Rn Ek 67 9=true:=by kernel_rfl
theorem Jb5:Rn Ek 80 1=true:=by kernel_rfl
theorem Jb4:Rn Ek 81 1=true:=by kernel_rfl
theorem Jb3:Rn Ek 82 0=true:=by kernel_rfl
theorem R7:sliceB Ek 38 67 9=true:=by kernel_rfl
theorem Rm:sliceB Ek 76 45 3=true:=by kernel_rfl
theorem Rk:(Ek.info? 67).bind (fun i=>i.zero.map Value.cells)=some (List.toArray [.int .i64 0,.string ByteArray.empty,.int .u8 0,.bool false,.int .i64 0,.int .i64 0,.int .i64 0,.int .u8 0,.bool false]):=by kernel_rfl
theorem Jaf:(Ek.info? 82).bind (fun i=>i.zero.map Value.cells)=some (List.toArray []):=by kernel_rfl
theorem Jm:Qu Ek 3 1=true:=by kernel_rfl
theorem G63:Qu Ek 45 3=true:=by kernel_rfl
theorem Q4:Qu Ek 47 4=true:=by kernel_rfl
theorem Y3:Qu Ek 67 9=true:=by kernel_rfl
theorem J93:Qu Ek 80 1=true:=by kernel_rfl
theorem J92:Qu Ek 81 1=true:=by kernel_rfl
theorem J91:Qu Ek 82 0=true:=by kernel_rfl
theorem tf_zv_82:(Ek.info? 82).bind (·.zero)=some (.agg #[]):=by kernel_rfl
theorem tk_3:Gdf Ek 3 (fun n:Int=>Value.int .i64 n):=Gdf.of_int (by kernel_rfl)
end XGF
open XAF
open XCF
open XGF

def G45 (l:List Stowed):Option (List Slot):=
 each (fun y17 i17 (s17:(List Slot)) nx17=>
  need (decide ((s17.length+[y17.Slot].length)*24≤140737488355328∧s17.length+[y17.Slot].length≤maxLen)) <|
  nx17 (s17++[y17.Slot]))
 (fun(s17:(List Slot))=>
  some s17) l 0 []
theorem H49 (l:List Stowed) (r:(List Slot)) (h:G45 l=some r):Pure Ek 45 [E1 l] (·=E8 r):=by
 unfold G45 at h
 refine H7 [.tmp 2] Tryz.func45 O O (Jr fun hK1=>(JLh (E8 ([]:List Slot)) (Hk 3 O O) O (G7 (hK1 (Jr fun hK2=>(JLh (OW 1091 3 Slot.av ([]:List Slot)) (G81 1091 45 3 O O O) O (G7 (hK2 (Js fun hK3=>Jr fun hK4=>(Rt (E1 l) O (JLl Gx O O O fun hm7=>(Rt (G0 0) O (G7 (hK4 (H1 ?_)))))))))))))))
 obtain⟨b17,kx17,hb17,hkx17,h⟩:=Jj h
 refine J3 (fun i17 (s17:(List Slot))=>each b17 kx17 (List.drop i17 l) i17 s17=some r) (fun i17 s17=>[(3,OW 1091 3 Slot.av s17),(6,E1 l),(7,Ej l.length),(8,Ej i17)]) (fun i17 s17=>[(1091,.spare 45 3 s17.length s17.length)]) (fun i17=>l.length - i17) 0 [] h ⟨(by repeat' constructor),⟨⟨_,rfl,.same⟩,G⟩,rfl⟩ ?_
 clear h
 intro i17 s17 hi17 K17 e17
 refine Jr fun hK18=>(JLh (BL (decide ((i17:Int) < (l.length:Int)))) (Q0 O O O) O (G7 (hK18 (Js fun hK19=>Gn O (fun hb=>?_) (fun hb=>?_)))))
 ·
  have hk17:=Qd hb
  obtain⟨y17,nx17,hy17,hn17,h⟩:=J4 hi17 hk17
  replace h:=Zz hb17 h
  refine Gs (hK19 (Js fun hK20=>H1 (Jr fun hK21=>(JLh (Ed y17) (Ha (f:=Stowed.av) (xs:=l) (y:=y17) O O O Gx hy17 O) O (JLh (.agg (Stowed.cs y17)) (Gh Qw O O O) O (JLh (.ptr 1092 0) (Ht 1092 4 Q4 O O) O (Hu (u:=.junk) (Hj (u:=.agg (Stowed.cs y17)) (ds:=[G0 y17.Gb,G0 y17.Slot.G3,G0 y17.Slot.Tier,U8 y17.Slot.Half]) Yv O O O O O O O O) (G7 (hK21 (Gt [(3,OW 1091 3 Slot.av s17),(5,Ed y17),(6,E1 l),(7,Ej l.length),(8,Ej i17)] [(1091,.spare 45 3 s17.length s17.length)] 1092 rfl rfl rfl ⟨⟨_,rfl,.same⟩,G⟩ rfl (by repeat' (first | exact .ptr | constructor)) (G4 ?_)))))))))))
  refine Rt (OW 1091 3 Slot.av s17) O (JLh (.dptr ((Stowed.cs y17).drop 1)) (Gd Hq O O O) O (JLh (.agg ((Stowed.cs y17).drop 1)) (Gh Qb O O O) O (JLh (E8 [y17.Slot]) (H5 (xs:=[.agg ((Stowed.cs y17).drop 1)]) O ⟨O,O,G⟩ Rm G63 O O O O) O ?_)))
  obtain⟨ha22,h⟩:=Ja h
  refine JLh (OW 1091 3 Slot.av (s17++[y17.Slot])) (Y2 (f:=Slot.av) (xs:=s17) (ys:=[y17.Slot]) O O O O Rm J23 ha22 (fun _=>O) (.inl O) O) O (Rt (OW 1091 3 Slot.av (s17++[y17.Slot])) O (G7 (hK20 (G4 (JLh (G0 ((i17+1:Nat):Int)) (J0 (Hv hk17 hm7) O O O) O (Rt (G0 ((i17+1:Nat):Int)) O (G7 (e17 _ _ (i17+1) (s17++[y17.Slot]) (app1 hn17 h) (by omega) ⟨(by repeat' constructor),⟨⟨_,rfl,.same⟩,G⟩,rfl⟩))))))))
 ·
  have h:=app1 hkx17 (J5 hi17 (Hi hb))
  refine J8 (hK3 (Jr fun hK23=>(Rt (OW 1091 3 Slot.av s17) O (Rt (OW 1091 3 Slot.av s17) O (G7 (hK23 (Gw (fin1l (fun r:(List Slot)=>(E8 r:AV)) h))))))))

def G59 (b:Gb) (p1:Int):Option Bool:=
 some (decide (b.ID=p1))
theorem J01 (b:Gb) (p1:Int) (r:Bool) (h:G59 b p1=some r):Pure Ek 66 [.agg (Gb.cs b),.dptr [G0 p1]] (·=BL r):=by
 unfold G59 at h
 refine H7 [.tmp 3] Tryz.func66 O O (Jr fun hK1=>(JLh (.ptr 1109 0) (Q9 (cs:=(Gb.cs b)) 1109 O O O O O) O (Rt (BL false) O (G7 (hK1 (Gt [(1,.dptr [G0 p1]),(2,Eh b)] [] 1109 rfl rfl rfl G rfl (by exact⟨.conv (.same rfl),.ptr,G⟩) (Jr fun hK2=>(JLh (Eh b) (Gd Zu O O O) O (JLh (G0 b.ID) (Gj Gg O O O) O (JLh (G0 p1) (Gj Gg O O O) O (JLh (BL (decide (b.ID=p1))) (Jf O O O) O (Rt (BL (decide (b.ID=p1))) O (G7 (hK2 (Gw (fin1 BL h))))))))))))))))

def Y7 (s:List Gb) (f:Gb→Option Bool):Option Int:=
 each (fun y20 i20 (s20:Unit) nx20=>
  bnd (f y20) fun r26=>
  bif r26 then
  (some (i20:Int))
  else
  (nx20 ()))
 (fun(s20:Unit)=>
  some (-1)) s 0 ()
theorem Gb8 (s:List Gb) (f:Gb→Option Bool) (f_f:FuncId) (f_c:List AV) (f_B:Hf Ek f_f=true) (f_d:Yn (fun _=>false) f_c=true) (f_w:∀ a0 q,f a0=some q→Pure Ek f_f ([.agg (Gb.cs a0)]++f_c) (·=BL q)) (r:Int) (h:Y7 s f=some r):Pure Ek 65 [E2 s,.fn f_f f_c] (·=G0 r):=by
 unfold Y7 at h
 refine H7 [.tmp 4] Tryz.func65 O O (Jr fun hK1=>(Rt (G0 0) O (G7 (hK1 (Js fun hK2=>Jr fun hK3=>(Rt (E2 s) O (JLl R7 O O O fun hm7=>(Rt (G0 0) O (G7 (hK3 (H1 ?_)))))))))))
 obtain⟨b20,kx20,hb20,hkx20,h⟩:=Jj h
 refine J3 (fun i20 (s20:Unit)=>each b20 kx20 (List.drop i20 s) i20 s20=some r) (fun i20 s20=>[(0,E2 s),(1,.fn f_f f_c),(7,Ej s.length),(8,Ej i20)]) (fun i20 s20=>[]) (fun i20=>s.length - i20) 0 () h ⟨⟨.same O,.same (Qc _ _ f_d),.same O,.same O,G⟩,G,O⟩ ?_
 clear h
 intro i20 s20 hi20 K20 e20
 refine Jr fun hK21=>(JLh (BL (decide ((i20:Int) < (s.length:Int)))) (Q0 O O O) O (G7 (hK21 (Js fun hK22=>Gn O (fun hb=>?_) (fun hb=>?_)))))
 ·
  have hk20:=Qd hb
  obtain⟨y20,nx20,hy20,hn20,h⟩:=J4 hi20 hk20
  replace h:=Zz hb20 h
  refine Gs (hK22 (Js fun hK23=>H1 (Jr fun hK24=>(Rt (Ej i20) O (Rt (Ej i20) O (G7 (hK24 (Jr fun hK25=>(Rt (.fn f_f f_c) O (Rt (E2 s) O (Rt (Ej i20) O (JLh (Eh y20) (Ha (f:=Gb.av) (xs:=s) (y:=y20) O O O R7 hy20 O) O (JLh (.agg (Gb.cs y20)) (Gh G66 O O O) O ?_)))))))))))))
  obtain⟨r26,hr26,h⟩:=Gf h
  refine JLh (BL r26) (G10 (args:=[.agg (Gb.cs y20)]) (caps:=f_c) O O (f_w y20 _ hr26) f_B ⟨O,O,G⟩ f_d) O (G7 (hK25 (JCc O h (fun h hb=>?_) (fun h hb=>?_))))
  ·
   refine Jr fun hK27=>(Rt (Ej i20) O (Rt (Ej i20) O (G7 (hK27 (Gw (fin1 G0 h))))))
  ·
   refine Gs (hK23 (G4 (JLh (G0 ((i20+1:Nat):Int)) (J0 (Hv hk20 hm7) O O O) O (Rt (G0 ((i20+1:Nat):Int)) O (G7 (e20 _ _ (i20+1) () (app1 hn20 h) (by omega) ⟨⟨.same rfl,.same (Qc _ _ f_d),.same rfl,.same rfl,G⟩,G,rfl⟩))))))
 ·
  have h:=app1 hkx20 (J5 hi20 (Hi hb))
  refine J8 (hK2 (Jr fun hK28=>(Rt (G0 (-1)) O (G7 (hK28 (Gw (fin1 G0 h)))))))

def G36 (boxes:List Gb) (id_:Int):Option (Gb×Bool):=
 bnd (Y7 boxes (fun z0=>G59 z0 id_)) fun r3=>
 bif decide (r3 < 0) then
 (some ((Gb.mk 0 ByteArray.empty 0 false 0 0 0 0 false),false))
 else
 (Y9 boxes r3 fun y8=>
  some (y8,true))
theorem Gf7 (boxes:List Gb) (id_:Int) (r:Gb×Bool) (h:G36 boxes id_=some r):Pure Ek 37 [E2 boxes,G0 id_] (·=.tup [.agg (Gb.cs r.1),BL r.2]):=by
 unfold G36 at h
 refine H7 [.cell 4 67,.tmp 5] Tryz.func37 O O (Jr fun hK1=>(JLh (.ptr 1077 0) (Q9 (cs:=[G0 id_]) 1077 O O O O O) O (JLh (.ptr 1078 0) (Gdb 1078 [G0 0,ST ByteArray.empty,U8 0,BL false,G0 0,G0 0,G0 0,U8 0,BL false] [.int .i64 0,.string ByteArray.empty,.int .u8 0,.bool false,.int .i64 0,.int .i64 0,.int .i64 0,.int .u8 0,.bool false] Rk ⟨.inl O,.inl O,.inl O,.inl O,.inl O,.inl O,.inl O,.inl O,.inl O,G⟩ O O) O (Rt (BL false) O (G7 (hK1 (Gt [(0,E2 boxes),(3,.dptr [G0 id_]),(4,.ptr 1078 0)] [(1078,.box 67 [G0 0,ST ByteArray.empty,U8 0,BL false,G0 0,G0 0,G0 0,U8 0,BL false])] 1077 rfl rfl rfl ⟨⟨_,rfl,.boxEq rfl rfl⟩,G⟩ rfl (by exact⟨.conv (.same rfl),.ptr,.conv (.same rfl),G⟩) ?_)))))))
 refine Jr fun hK2=>(Rt (E2 boxes) O (JLh (.fn 66 [.dptr [G0 id_]]) (Zj (cs:=[.dptr [G0 id_]]) O O) O ?_))
 obtain⟨r3,hr3,h⟩:=Gf h
 refine JLh (G0 r3) (Gu O (Gb8 boxes (fun z0=>G59 z0 id_) 66 [.dptr [G0 id_]] Jc6 O (fun z0 q hq=>J01 z0 id_ q hq) r3 hr3) Jc7 ⟨O,O,O,O,G⟩) O (Rt (G0 r3) O (G7 (hK2 (Js fun hK4=>Jr fun hK5=>(Rt (G0 r3) O (JLh (BL (decide (r3 < 0))) (Q0 O O O) O (G7 (hK5 (JCc O h (fun h hb=>?_) (fun h hb=>?_))))))))))
 ·
  refine Jr fun hK6=>(JLh (.agg [G0 0,ST ByteArray.empty,U8 0,BL false,G0 0,G0 0,G0 0,U8 0,BL false]) (Hg (cs:=[G0 0,ST ByteArray.empty,U8 0,BL false,G0 0,G0 0,G0 0,U8 0,BL false]) [(0,1),(1,1),(2,1),(3,1),(4,1),(5,1),(6,1),(7,1),(8,1)] [G0 0,ST ByteArray.empty,U8 0,BL false,G0 0,G0 0,G0 0,U8 0,BL false] [.int .i64 0,.string ByteArray.empty,.int .u8 0,.bool false,.int .i64 0,.int .i64 0,.int .i64 0,.int .u8 0,.bool false] Qt Rk ⟨.inl O,.inl O,.inl O,.inl O,.inl O,.inl O,.inl O,.inl O,.inl O,G⟩ O O) O (Hu (u:=.junk) (Hj (u:=.agg [G0 0,ST ByteArray.empty,U8 0,BL false,G0 0,G0 0,G0 0,U8 0,BL false]) (ds:=[G0 0,ST ByteArray.empty,U8 0,BL false,G0 0,G0 0,G0 0,U8 0,BL false]) G30 O O O O O O O O) (Rt (BL false) O (G7 (hK6 ?_)))))
  refine Gw (⟨[.agg [G0 0,ST ByteArray.empty,U8 0,BL false,G0 0,G0 0,G0 0,U8 0,BL false],BL false],[],G,O,⟨⟨_,⟨_,_,_,_,O,O,O,.inl ⟨G66,O⟩⟩,.conv (.same O)⟩,⟨_,O,.conv (.same O)⟩,G⟩,O,congrArg (fun r:Gb×Bool=>(.tup [.agg (Gb.cs r.1),BL r.2]:AV)) (Option.some.inj h)⟩)
 ·
  refine Gs (hK4 (Jr fun hK7=>(Rt (E2 boxes) O (Rt (G0 r3) O ?_))))
  obtain⟨m9,y8,hm9,hy8,h⟩:=R3 h
  refine JLh (Eh y8) (Ha (f:=Gb.av) (xs:=boxes) (y:=y8) O O O R7 hy8 hm9) O (JLh (.agg (Gb.cs y8)) (Gh G66 O O O) O (Hu (u:=.junk) (Hj (u:=.agg (Gb.cs y8)) (ds:=(Gb.cs y8)) G30 O O O O O O O O) (Rt (BL true) O (G7 (hK7 (Gw (⟨[.agg (Gb.cs y8),BL true],[],G,O,⟨⟨_,⟨_,_,_,_,O,O,O,.inl ⟨G66,O⟩⟩,.conv (.same O)⟩,⟨_,O,.conv (.same O)⟩,G⟩,O,congrArg (fun r:Gb×Bool=>(.tup [.agg (Gb.cs r.1),BL r.2]:AV)) (Option.some.inj h)⟩)))))))

def Yq (s:List Int) (v:Int):Option Int:=
 each (fun y18 i18 (s18:Unit) nx18=>
  bif decide (v=y18) then
  (some (i18:Int))
  else
  (nx18 ()))
 (fun(s18:Unit)=>
  some (-1)) s 0 ()
theorem H23 (s:List Int) (v:Int) (r:Int) (h:Yq s v=some r):Pure Ek 97 [E9 s,U8 v] (·=G0 r):=by
 unfold Yq at h
 refine H7 [.tmp 4] Tryz.func97 O O (Jr fun hK1=>(Rt (G0 0) O (G7 (hK1 (Js fun hK2=>Jr fun hK3=>(Rt (E9 s) O (JLl G3e O O O fun hm7=>(Rt (G0 0) O (G7 (hK3 (H1 ?_)))))))))))
 obtain⟨b18,kx18,hb18,hkx18,h⟩:=Jj h
 refine J3 (fun i18 (s18:Unit)=>each b18 kx18 (List.drop i18 s) i18 s18=some r) (fun i18 s18=>[(0,E9 s),(1,U8 v),(7,Ej s.length),(8,Ej i18)]) (fun i18 s18=>[]) (fun i18=>s.length - i18) 0 () h ⟨(by repeat' constructor),G,rfl⟩ ?_
 clear h
 intro i18 s18 hi18 K18 e18
 refine Jr fun hK19=>(JLh (BL (decide ((i18:Int) < (s.length:Int)))) (Q0 O O O) O (G7 (hK19 (Js fun hK20=>Gn O (fun hb=>?_) (fun hb=>?_)))))
 ·
  have hk18:=Qd hb
  obtain⟨y18,nx18,hy18,hn18,h⟩:=J4 hi18 hk18
  replace h:=Zz hb18 h
  refine Gs (hK20 (Js fun hK21=>H1 (Jr fun hK22=>(Rt (Ej i18) O (Rt (Ej i18) O (G7 (hK22 (Jr fun hK23=>(Rt (U8 v) O (Rt (E9 s) O (Rt (Ej i18) O (JLh (.dptr [U8 y18]) (Ha (f:=U8) (xs:=s) (y:=y18) O O O G3e hy18 O) O (JLh (U8 y18) (Gj Hy O O O) O (JLh (BL (decide (v=y18))) (Jf O O O) O (G7 (hK23 (JCc O h (fun h hb=>?_) (fun h hb=>?_))))))))))))))))))
  ·
   refine Jr fun hK24=>(Rt (Ej i18) O (Rt (Ej i18) O (G7 (hK24 (Gw (fin1 G0 h))))))
  ·
   refine Gs (hK21 (G4 (JLh (G0 ((i18+1:Nat):Int)) (J0 (Hv hk18 hm7) O O O) O (Rt (G0 ((i18+1:Nat):Int)) O (G7 (e18 _ _ (i18+1) () (app1 hn18 h) (by omega) ⟨(by repeat' constructor),G,rfl⟩))))))
 ·
  have h:=app1 hkx18 (J5 hi18 (Hi hb))
  refine J8 (hK2 (Jr fun hK25=>(Rt (G0 (-1)) O (G7 (hK25 (Gw (fin1 G0 h)))))))

def Rq (s:List Int) (v:Int):Option Bool:=
 bnd (Yq s v) fun r3=>
 some (decide (0≤r3))
theorem Gde (s:List Int) (v:Int) (r:Bool) (h:Rq s v=some r):Pure Ek 67 [E9 s,U8 v] (·=BL r):=by
 unfold Rq at h
 refine H7 [.tmp 4] Tryz.func67 O O (Jr fun hK1=>(Rt (BL false) O (G7 (hK1 (Jr fun hK2=>(Rt (E9 s) O (Rt (U8 v) O ?_)))))))
 obtain⟨r3,hr3,h⟩:=Gf h
 refine JLh (G0 r3) (Gu O (H23 s v r3 hr3) Jba ⟨O,O,O,O,G⟩) O (JLh (BL (decide (0≤r3))) (Gaf O O O) O (Rt (BL (decide (0≤r3))) O (G7 (hK2 (Gw (fin1 BL h))))))

def G48 (s:Gr) (x:Slot) (size:Int):Option Bool:=
 bnd (bif (((decide (0≤x.G3))&&(decide (x.G3 < (s.Columns.length:Int))))&&(decide (0≤x.Tier))) then Y9 s.Columns x.G3 some else some default) fun y3=>
 bnd (bif ((((decide (0≤x.G3))&&(decide (x.G3 < (s.Columns.length:Int))))&&(decide (0≤x.Tier)))&&(decide (x.Tier < y3.Tiers))) then G02 size else some default) fun r4=>
 bnd (bif ((((decide (0≤x.G3))&&(decide (x.G3 < (s.Columns.length:Int))))&&(decide (0≤x.Tier)))&&(decide (x.Tier < y3.Tiers))) then Rq r4 x.Half else some default) fun r5=>
 some (((((decide (0≤x.G3))&&(decide (x.G3 < (s.Columns.length:Int))))&&(decide (0≤x.Tier)))&&(decide (x.Tier < y3.Tiers)))&&r5)
theorem H4d (s:Gr) (x:Slot) (size:Int) (r:Bool) (h:G48 s x size=some r):Pure Ek 38 [.agg (Gr.cs s),.agg [G0 x.G3,G0 x.Tier,U8 x.Half],U8 size] (·=BL r):=by
 unfold G48 at h
 refine H7 [.tmp 6] Tryz.func38 O O (Jr fun hK1=>(JLh (.ptr 1079 0) (Q9 (cs:=(Gr.cs s)) 1079 O O O O O) O (JLh (.ptr 1080 0) (Q9 (cs:=[G0 x.G3,G0 x.Tier,U8 x.Half]) 1080 O O O O O) O (Rt (BL false) O (G7 (hK1 ?_))))))
 refine Gt [(2,U8 size),(3,Ec s),(4,.ptr 1080 0)] [(1080,.box 45 [G0 x.G3,G0 x.Tier,U8 x.Half])] 1079 rfl rfl rfl ⟨⟨_,rfl,.boxEq rfl rfl⟩,G⟩ rfl (by exact⟨.conv (.same rfl),.ptr,.conv (.same rfl),G⟩) ?_
 refine Gt [(2,U8 size),(3,Ec s),(4,.dptr [G0 x.G3,G0 x.Tier,U8 x.Half])] [] 1080 rfl rfl rfl G rfl (by exact⟨.conv (.same rfl),.conv (.same rfl),.ptr,G⟩) (Js fun hK2=>?_)
 obtain⟨y3,hy3,h⟩:=Gf h
 obtain⟨r4,hr4,h⟩:=Gf h
 obtain⟨r5,hr5,h⟩:=Gf h
 refine JC_d0 Jx (by kernel_rfl) (Dq (.dptr [G0 x.G3,G0 x.Tier,U8 x.Half]) (Gd Jc O O O) O (Dq (G0 x.G3) (Gj Gg O O O) O (Dq (BL (decide (0≤x.G3))) (Gaf O O O) O (Dq (BL (decide (0≤x.G3))) (G5 O O) O (Do (.dptr [G0 x.G3,G0 x.Tier,U8 x.Half]) [] O .sct G (fun hc=>Gd Jc O O O) O (Do (G0 x.G3) [11] O .sct ⟨Ua,G⟩ (fun hc=>Gj Gg O O O) O (Do (Ec s) [] O .sct G (fun hc=>Gd Ho O O O) O (Do (E7 s.Columns) [13] O .sct ⟨Ua,G⟩ (fun hc=>Gj J1 O O O) O (Do (Ej s.Columns.length) [14] O .sct ⟨Ua,G⟩ (fun hc=>Z1 (f:=G3.av) (xs:=s.Columns) Hs O O) O (Do (BL (decide (x.G3 < (s.Columns.length:Int)))) [12,15] O .sct ⟨Ua,Ua,G⟩ (fun hc=>Q0 O O O) O (Dq (BL ((decide (0≤x.G3))&&(decide (x.G3 < (s.Columns.length:Int))))) (Q1 O O O O) O (Dq (BL ((decide (0≤x.G3))&&(decide (x.G3 < (s.Columns.length:Int))))) (G5 O O) O (Do (.dptr [G0 x.Tier,U8 x.Half]) [] O .sct G (fun hc=>Gd Yd O O O) O ?_)))))))))))))
 refine Do (G0 x.Tier) [19] O .sct ⟨Ua,G⟩ (fun hc=>Gj Gg O O O) O (Do (BL (decide (0≤x.Tier))) [20] O .sct ⟨Ua,G⟩ (fun hc=>Gaf O O O) O (Dq (BL (((decide (0≤x.G3))&&(decide (x.G3 < (s.Columns.length:Int))))&&(decide (0≤x.Tier)))) (Q1 O O O O) O (Dq (BL (((decide (0≤x.G3))&&(decide (x.G3 < (s.Columns.length:Int))))&&(decide (0≤x.Tier)))) (G5 O O) O (Do (.dptr [G0 x.Tier,U8 x.Half]) [] O .sct G (fun hc=>Gd Yd O O O) O (Do (G0 x.Tier) [24] O .sct ⟨Ua,G⟩ (fun hc=>Gj Gg O O O) O (Do (Ec s) [] O .sct G (fun hc=>Gd Ho O O O) O (Do (E7 s.Columns) [26] O .sct ⟨Ua,G⟩ (fun hc=>Gj J1 O O O) O (Do (.dptr [G0 x.G3,G0 x.Tier,U8 x.Half]) [] O .sct G (fun hc=>Gd Jc O O O) O (Do (G0 x.G3) [28] O .sct ⟨Ua,G⟩ (fun hc=>Gj Gg O O O) O (Do (Ee y3) [27,29] O .sct ⟨Ua,Ua,G⟩ (fun hc=>(match Za (H6 hc hy3) with | ⟨_,hm_,hy_⟩=>Ha (f:=G3.av) (xs:=s.Columns) (y:=y3) O O O Hs hy_ hm_)) O (Do (.dptr ((G3.cs y3).drop 3)) [30] O .sct ⟨Ua,G⟩ (fun hc=>Gd G93 O O O) O (Do (G0 y3.Tiers) [31] O .sct ⟨Ua,G⟩ (fun hc=>Gj Gg O O O) O (Do (BL (decide (x.Tier < y3.Tiers))) [25,32] O .sct ⟨Ua,Ua,G⟩ (fun hc=>Q0 O O O) O ?_)))))))))))))
 refine Dq (BL ((((decide (0≤x.G3))&&(decide (x.G3 < (s.Columns.length:Int))))&&(decide (0≤x.Tier)))&&(decide (x.Tier < y3.Tiers)))) (Q1 O O O O) O (Dq (BL ((((decide (0≤x.G3))&&(decide (x.G3 < (s.Columns.length:Int))))&&(decide (0≤x.Tier)))&&(decide (x.Tier < y3.Tiers)))) (G5 O O) O (Do (U8 size) [] O .sct G (fun hc=>G5 O O) O (Do (E9 r4) [36] O .sct ⟨Ua,G⟩ (fun hc=>Gu (args:=[U8 size]) O (H2a size r4 (H6 hc hr4)) J29 ⟨O,O,G⟩) O (Do (.dptr [U8 x.Half]) [] O .sct G (fun hc=>Gd Qq O O O) O (Do (U8 x.Half) [38] O .sct ⟨Ua,G⟩ (fun hc=>Gj Hy O O O) O (Do (BL r5) [37,39] O .sct ⟨Ua,Ua,G⟩ (fun hc=>Gu (args:=[E9 r4,U8 x.Half]) O (Gde r4 x.Half r5 (H6 hc hr5)) Jc5 ⟨O,O,O,O,G⟩) O (Dq (BL (((((decide (0≤x.G3))&&(decide (x.G3 < (s.Columns.length:Int))))&&(decide (0≤x.Tier)))&&(decide (x.Tier < y3.Tiers)))&&r5)) (Q1 O O O O) O (Dq (BL (((((decide (0≤x.G3))&&(decide (x.G3 < (s.Columns.length:Int))))&&(decide (0≤x.Tier)))&&(decide (x.Tier < y3.Tiers)))&&r5)) (G8 O O) O (Dnil ?_)))))))))
 refine hK2 (Gw (fin1 BL h))

def Rz (s:List Slot) (v:Slot):Option Int:=
 each (fun y18 i18 (s18:Unit) nx18=>
  bif decide (v=y18) then
  (some (i18:Int))
  else
  (nx18 ()))
 (fun(s18:Unit)=>
  some (-1)) s 0 ()
theorem Gf8 (s:List Slot) (v:Slot) (r:Int) (h:Rz s v=some r):Pure Ek 100 [E8 s,.agg [G0 v.G3,G0 v.Tier,U8 v.Half]] (·=G0 r):=by
 unfold Rz at h
 refine H7 [.tmp 4] Tryz.func100 O O (Jr fun hK1=>(JLh (.ptr 1128 0) (Q9 (cs:=[G0 v.G3,G0 v.Tier,U8 v.Half]) 1128 O O O O O) O (Rt (G0 0) O (G7 (hK1 (Gt [(0,E8 s),(3,.dptr [G0 v.G3,G0 v.Tier,U8 v.Half])] [] 1128 rfl rfl rfl G rfl (by exact⟨.conv (.same rfl),.ptr,G⟩) (Js fun hK2=>Jr fun hK3=>(Rt (E8 s) O (JLl Rm O O O fun hm7=>(Rt (G0 0) O (G7 (hK3 (H1 ?_)))))))))))))
 obtain⟨b18,kx18,hb18,hkx18,h⟩:=Jj h
 refine J3 (fun i18 (s18:Unit)=>each b18 kx18 (List.drop i18 s) i18 s18=some r) (fun i18 s18=>[(0,E8 s),(3,.dptr [G0 v.G3,G0 v.Tier,U8 v.Half]),(7,Ej s.length),(8,Ej i18)]) (fun i18 s18=>[]) (fun i18=>s.length - i18) 0 () h ⟨(by repeat' constructor),G,rfl⟩ ?_
 clear h
 intro i18 s18 hi18 K18 e18
 refine Jr fun hK19=>(JLh (BL (decide ((i18:Int) < (s.length:Int)))) (Q0 O O O) O (G7 (hK19 (Js fun hK20=>Gn O (fun hb=>?_) (fun hb=>?_)))))
 ·
  have hk18:=Qd hb
  obtain⟨y18,nx18,hy18,hn18,h⟩:=J4 hi18 hk18
  replace h:=Zz hb18 h
  refine Gs (hK20 (Js fun hK21=>H1 (Jr fun hK22=>(Rt (Ej i18) O (Rt (Ej i18) O (G7 (hK22 (Js fun hK23=>JC_d0 Jx (by kernel_rfl) (Dq (.agg [G0 v.G3,G0 v.Tier,U8 v.Half]) (Gh Qb O O O) O (Dq (E8 s) (G5 O O) O (Dq (Ej i18) (G5 O O) O (Dq (Ei y18) (Ha (f:=Slot.av) (xs:=s) (y:=y18) O O O Rm hy18 O) O (Dq (.agg (Slot.cs y18)) (Gh Qb O O O) O (Dq (BL (decide (v=y18))) (A_eqAgg (vs:=[.int .i64 v.G3,.int .i64 v.Tier,.int .u8 v.Half]) (us:=[.int .i64 y18.G3,.int .i64 y18.Tier,.int .u8 y18.Half]) 4 O (tq_45 v y18) J9c tf_eqg_45 O O O) O (Dnil (hK23 (JCc O h (fun h hb=>?_) (fun h hb=>?_))))))))))))))))))
  ·
   refine Jr fun hK24=>(Rt (Ej i18) O (Rt (Ej i18) O (G7 (hK24 (Gw (fin1 G0 h))))))
  ·
   refine Gs (hK21 (G4 (JLh (G0 ((i18+1:Nat):Int)) (J0 (Hv hk18 hm7) O O O) O (Rt (G0 ((i18+1:Nat):Int)) O (G7 (e18 _ _ (i18+1) () (app1 hn18 h) (by omega) ⟨(by repeat' constructor),G,rfl⟩))))))
 ·
  have h:=app1 hkx18 (J5 hi18 (Hi hb))
  refine J8 (hK2 (Jr fun hK25=>(Rt (G0 (-1)) O (G7 (hK25 (Gw (fin1 G0 h)))))))

def R6 (s:List Slot) (v:Slot):Option Bool:=
 bnd (Rz s v) fun r3=>
 some (decide (0≤r3))
theorem Gb9 (s:List Slot) (v:Slot) (r:Bool) (h:R6 s v=some r):Pure Ek 74 [E8 s,.agg [G0 v.G3,G0 v.Tier,U8 v.Half]] (·=BL r):=by
 unfold R6 at h
 refine H7 [.tmp 4] Tryz.func74 O O (Jr fun hK1=>(JLh (.ptr 1112 0) (Q9 (cs:=[G0 v.G3,G0 v.Tier,U8 v.Half]) 1112 O O O O O) O (Rt (BL false) O (G7 (hK1 (Gt [(0,E8 s),(3,.dptr [G0 v.G3,G0 v.Tier,U8 v.Half])] [] 1112 rfl rfl rfl G rfl (by exact⟨.conv (.same rfl),.ptr,G⟩) (Jr fun hK2=>(Rt (E8 s) O (JLh (.agg [G0 v.G3,G0 v.Tier,U8 v.Half]) (Gh Qb O O O) O ?_)))))))))
 obtain⟨r3,hr3,h⟩:=Gf h
 refine JLh (G0 r3) (Gu O (Gf8 s v r3 hr3) J9a ⟨O,O,O,O,G⟩) O (JLh (BL (decide (0≤r3))) (Gaf O O O) O (Rt (BL (decide (0≤r3))) O (G7 (hK2 (Gw (fin1 BL h))))))

def G03 (half:Int) (p1:List Slot) (p2:Slot):Option Bool:=
 G1c (p2.Tier - 1) fun v3=>
 bnd (R6 p1 (Slot.mk p2.G3 v3 half)) fun r4=>
 some r4
theorem Gad (half:Int) (p1:List Slot) (p2:Slot) (r:Bool) (h:G03 half p1 p2=some r):Pure Ek 73 [U8 half,.dptr [E8 p1],.dptr [G0 p2.G3,G0 p2.Tier,U8 p2.Half]] (·=BL r):=by
 unfold G03 at h
 refine H7 [.tmp 4] Tryz.func73 O O (Jr fun hK1=>(Rt (BL false) O (G7 (hK1 (Jr fun hK2=>(JLh (E8 p1) (Gj H0f O O O) O (JLh (.dptr [G0 p2.G3,G0 p2.Tier,U8 p2.Half]) (Gd Jc O O O) O (JLh (G0 p2.G3) (Gj Gg O O O) O (JLh (.dptr [G0 p2.Tier,U8 p2.Half]) (Gd Yd O O O) O (JLh (G0 p2.Tier) (Gj Gg O O O) O ?_))))))))))
 obtain⟨v3,hv3,h⟩:=Jg h
 refine JLh (G0 v3) (H06 hv3 O O O) O (Rt (U8 half) O (JLh (.agg [G0 p2.G3,G0 v3,U8 half]) (Hg (cs:=[G0 p2.G3,G0 v3,U8 half]) [(0,1),(1,1),(2,1)] [G0 0,G0 0,U8 0] [.int .i64 0,.int .i64 0,.int .u8 0] G15 G5e ⟨.inl O,.inl O,.inl O,G⟩ O O) O ?_))
 obtain⟨r4,hr4,h⟩:=Gf h
 refine JLh (BL r4) (Gu O (Gb9 p1 (Slot.mk p2.G3 v3 half) r4 hr4) Jc0 ⟨O,O,O,O,G⟩) O (Rt (BL r4) O (G7 (hK2 (Gw (fin1 BL h)))))

def G6c (x:Slot) (l:List Slot):Option Bool:=
 bif decide (x.Tier≤0) then
 (some true)
 else
 (bnd (G03 x.Half l x) fun r7=>
  bnd (bif ((!r7)&&(decide (x.Half=0))) then G03 1 l x else some default) fun r8=>
  bnd (bif ((!r7)&&((decide (x.Half=0))&&r8)) then G03 2 l x else some default) fun r9=>
  some (r7||(((decide (x.Half=0))&&r8)&&r9)))
theorem H6f (x:Slot) (l:List Slot) (r:Bool) (h:G6c x l=some r):Pure Ek 46 [.agg [G0 x.G3,G0 x.Tier,U8 x.Half],E8 l] (·=BL r):=by
 unfold G6c at h
 refine H7 [.tmp 4] Tryz.func46 O O (Jr fun hK1=>(JLh (.ptr 1093 0) (Q9 (cs:=[G0 x.G3,G0 x.Tier,U8 x.Half]) 1093 O O O O O) O (JLh (.ptr 1094 0) (Q9 (cs:=[E8 l]) 1094 O O O O O) O (Rt (BL false) O (G7 (hK1 (Gt [(2,.dptr [G0 x.G3,G0 x.Tier,U8 x.Half]),(3,.ptr 1094 0)] [(1094,.box 76 [E8 l])] 1093 rfl rfl rfl ⟨⟨_,rfl,.boxEq rfl rfl⟩,G⟩ rfl (by exact⟨.ptr,.conv (.same rfl),G⟩) (Gt [(2,.dptr [G0 x.G3,G0 x.Tier,U8 x.Half]),(3,.dptr [E8 l])] [] 1094 rfl rfl rfl G rfl (by exact⟨.conv (.same rfl),.ptr,G⟩) (Js fun hK2=>Jr fun hK3=>(JLh (.dptr [G0 x.Tier,U8 x.Half]) (Gd Yd O O O) O (JLh (G0 x.Tier) (Gj Gg O O O) O (JLh (BL (decide (x.Tier≤0))) (Hfb O O O) O (G7 (hK3 ?_))))))))))))))
 refine JCc O h (fun h hb=>?_) (fun h hb=>?_)
 ·
  refine Jr fun hK4=>(Rt (BL true) O (G7 (hK4 (Gw (fin1 BL h)))))
 ·
  refine Gs (hK2 (Jr fun hK5=>(JLh (.fn 73 [.dptr [E8 l],.dptr [G0 x.G3,G0 x.Tier,U8 x.Half]]) (Zj (cs:=[.dptr [E8 l],.dptr [G0 x.G3,G0 x.Tier,U8 x.Half]]) O O) O (Rt (.fn 73 [.dptr [E8 l],.dptr [G0 x.G3,G0 x.Tier,U8 x.Half]]) O (G7 (hK5 (Jr fun hK6=>(Rt (.fn 73 [.dptr [E8 l],.dptr [G0 x.G3,G0 x.Tier,U8 x.Half]]) O (JLh (.dptr [U8 x.Half]) (Gd Qq O O O) O (JLh (U8 x.Half) (Gj Hy O O O) O ?_))))))))))
  obtain⟨r7,hr7,h⟩:=Gf h
  refine JLh (BL r7) (G10 (args:=[U8 x.Half]) (caps:=[.dptr [E8 l],.dptr [G0 x.G3,G0 x.Tier,U8 x.Half]]) O O (Gad x.Half l x r7 hr7) H75 ⟨O,O,G⟩ O) O (Rt (BL r7) O (JLo (.dptr [U8 x.Half]) [] O .scf G (fun hc=>Gd Qq O O O) O (JLo (U8 x.Half) [15] O .scf ⟨Ua,G⟩ (fun hc=>Gj Hy O O O) O (JLo (BL (decide (x.Half=0))) [16] O .scf ⟨Ua,G⟩ (fun hc=>Jf O O O) O (JLo (BL (decide (x.Half=0))) [17] O .scf ⟨Ua,G⟩ (fun hc=>G5 O O) O (JLo (.fn 73 [.dptr [E8 l],.dptr [G0 x.G3,G0 x.Tier,U8 x.Half]]) [] O .optt G (fun hc=>G5 O O) O ?_))))))
  obtain⟨r8,hr8,h⟩:=Gf h
  refine JLo (BL r8) [19] O .optt ⟨Ua,G⟩ (fun hc=>G10 (args:=[U8 1]) (caps:=[.dptr [E8 l],.dptr [G0 x.G3,G0 x.Tier,U8 x.Half]]) O O (Gad 1 l x r8 (H6 hc hr8)) H75 ⟨O,O,G⟩ O) O (Gc (u:=BL ((decide (x.Half=0))&&r8)) [(18,BL (decide (x.Half=0))),(20,_)] O O O .scf ⟨.all id,.part,G⟩ (fun hc=>Q1 O O O O) ?_)
  refine JLo (BL ((decide (x.Half=0))&&r8)) [21] O .scf ⟨Ua,G⟩ (fun hc=>G5 O O) O (JLo (.fn 73 [.dptr [E8 l],.dptr [G0 x.G3,G0 x.Tier,U8 x.Half]]) [] O .optt G (fun hc=>G5 O O) O ?_)
  obtain⟨r9,hr9,h⟩:=Gf h
  refine JLo (BL r9) [23] O .optt ⟨Ua,G⟩ (fun hc=>G10 (args:=[U8 2]) (caps:=[.dptr [E8 l],.dptr [G0 x.G3,G0 x.Tier,U8 x.Half]]) O O (Gad 2 l x r9 (H6 hc hr9)) H75 ⟨O,O,G⟩ O) O (Gc (u:=BL (((decide (x.Half=0))&&r8)&&r9)) [(22,BL ((decide (x.Half=0))&&r8)),(24,_)] O O O .scf ⟨.all id,.part,G⟩ (fun hc=>Q1 O O O O) ?_)
  refine JLh (BL (r7||(((decide (x.Half=0))&&r8)&&r9))) (G11 O O O O) O (Rt (BL (r7||(((decide (x.Half=0))&&r8)&&r9))) O (G7 (hK6 (Gw (fin1 BL h)))))

def G28 (a:Int) (b:Int):Option Bool:=
 some (((decide (a=b))||(decide (a=0)))||(decide (b=0)))
theorem H29 (a:Int) (b:Int) (r:Bool) (h:G28 a b=some r):Pure Ek 58 [U8 a,U8 b] (·=BL r):=by
 unfold G28 at h
 refine H7 [.tmp 4] Tryz.func58 O O (Jr fun hK1=>(Rt (BL false) O (G7 (hK1 (Jr fun hK2=>(Rt (U8 a) O (Rt (U8 b) O (JLh (BL (decide (a=b))) (Jf O O O) O (Rt (BL (decide (a=b))) O (JLo (U8 a) [] O .scf G (fun hc=>G5 O O) O (JLo (BL (decide (a=0))) [9] O .scf ⟨Ua,G⟩ (fun hc=>Jf O O O) O (JLh (BL ((decide (a=b))||(decide (a=0)))) (G11 O O O O) O (Rt (BL ((decide (a=b))||(decide (a=0)))) O (JLo (U8 b) [] O .scf G (fun hc=>G5 O O) O (JLo (BL (decide (b=0))) [13] O .scf ⟨Ua,G⟩ (fun hc=>Jf O O O) O (JLh (BL (((decide (a=b))||(decide (a=0)))||(decide (b=0)))) (G11 O O O O) O (Rt (BL (((decide (a=b))||(decide (a=0)))||(decide (b=0)))) O (G7 (hK2 (Gw (fin1 BL h)))))))))))))))))))))

def G6b (a:Slot) (b:Slot):Option Bool:=
 bnd (bif ((decide (a.G3=b.G3))&&(decide (a.Tier=b.Tier))) then G28 a.Half b.Half else some default) fun r3=>
 some (((decide (a.G3=b.G3))&&(decide (a.Tier=b.Tier)))&&r3)
theorem H6e (a:Slot) (b:Slot) (r:Bool) (h:G6b a b=some r):Pure Ek 47 [.agg [G0 a.G3,G0 a.Tier,U8 a.Half],.agg [G0 b.G3,G0 b.Tier,U8 b.Half]] (·=BL r):=by
 unfold G6b at h
 refine H7 [.tmp 4] Tryz.func47 O O (Jr fun hK1=>(JLh (.ptr 1095 0) (Q9 (cs:=[G0 a.G3,G0 a.Tier,U8 a.Half]) 1095 O O O O O) O (JLh (.ptr 1096 0) (Q9 (cs:=[G0 b.G3,G0 b.Tier,U8 b.Half]) 1096 O O O O O) O (Rt (BL false) O (G7 (hK1 (Gt [(2,.dptr [G0 a.G3,G0 a.Tier,U8 a.Half]),(3,.ptr 1096 0)] [(1096,.box 45 [G0 b.G3,G0 b.Tier,U8 b.Half])] 1095 rfl rfl rfl ⟨⟨_,rfl,.boxEq rfl rfl⟩,G⟩ rfl (by exact⟨.ptr,.conv (.same rfl),G⟩) (Gt [(2,.dptr [G0 a.G3,G0 a.Tier,U8 a.Half]),(3,.dptr [G0 b.G3,G0 b.Tier,U8 b.Half])] [] 1096 rfl rfl rfl G rfl (by exact⟨.conv (.same rfl),.ptr,G⟩) ?_))))))))
 refine Jr fun hK2=>(JLh (.dptr [G0 a.G3,G0 a.Tier,U8 a.Half]) (Gd Jc O O O) O (JLh (G0 a.G3) (Gj Gg O O O) O (JLh (.dptr [G0 b.G3,G0 b.Tier,U8 b.Half]) (Gd Jc O O O) O (JLh (G0 b.G3) (Gj Gg O O O) O (JLh (BL (decide (a.G3=b.G3))) (Jf O O O) O (Rt (BL (decide (a.G3=b.G3))) O (JLo (.dptr [G0 a.Tier,U8 a.Half]) [] O .sct G (fun hc=>Gd Yd O O O) O (JLo (G0 a.Tier) [11] O .sct ⟨Ua,G⟩ (fun hc=>Gj Gg O O O) O (JLo (.dptr [G0 b.Tier,U8 b.Half]) [] O .sct G (fun hc=>Gd Yd O O O) O (JLo (G0 b.Tier) [13] O .sct ⟨Ua,G⟩ (fun hc=>Gj Gg O O O) O (JLo (BL (decide (a.Tier=b.Tier))) [12,14] O .sct ⟨Ua,Ua,G⟩ (fun hc=>Jf O O O) O (JLh (BL ((decide (a.G3=b.G3))&&(decide (a.Tier=b.Tier)))) (Q1 O O O O) O (Rt (BL ((decide (a.G3=b.G3))&&(decide (a.Tier=b.Tier)))) O ?_)))))))))))))
 refine JLo (.dptr [U8 a.Half]) [] O .sct G (fun hc=>Gd Qq O O O) O (JLo (U8 a.Half) [18] O .sct ⟨Ua,G⟩ (fun hc=>Gj Hy O O O) O (JLo (.dptr [U8 b.Half]) [] O .sct G (fun hc=>Gd Qq O O O) O (JLo (U8 b.Half) [20] O .sct ⟨Ua,G⟩ (fun hc=>Gj Hy O O O) O ?_)))
 obtain⟨r3,hr3,h⟩:=Gf h
 refine JLo (BL r3) [19,21] O .sct ⟨Ua,Ua,G⟩ (fun hc=>Gu (args:=[U8 a.Half,U8 b.Half]) O (H29 a.Half b.Half r3 (H6 hc hr3)) J2b ⟨O,O,O,O,G⟩) O (JLh (BL (((decide (a.G3=b.G3))&&(decide (a.Tier=b.Tier)))&&r3)) (Q1 O O O O) O (Rt (BL (((decide (a.G3=b.G3))&&(decide (a.Tier=b.Tier)))&&r3)) O (G7 (hK2 (Gw (fin1 BL h))))))

def G9e (b:Gb):Option Int:=
 bif b.High then
 (some 2896)
 else
 (some 2591)
theorem M_stow_tall_w (b:Gb) (r:Int) (h:G9e b=some r):Pure Ek 101 [.agg (Gb.cs b)] (·=G0 r):=by
 unfold G9e at h
 refine H7 [.tmp 2] Tryz.func101 O O (Jr fun hK1=>(JLh (.ptr 1129 0) (Q9 (cs:=(Gb.cs b)) 1129 O O O O O) O (Rt (G0 0) O (G7 (hK1 (Gt [(1,Eh b)] [] 1129 rfl rfl rfl G rfl (by exact⟨.ptr,G⟩) (Js fun hK2=>Jr fun hK3=>(JLh (.dptr [BL b.High,G0 b.Kilos,G0 b.Load,G0 b.Discharge,U8 b.Class,BL b.Reefer]) (Gd G92 O O O) O (JLh (BL b.High) (Gj Jw O O O) O (G7 (hK3 (JCc O h (fun h hb=>?_) (fun h hb=>?_)))))))))))))
 ·
  refine Jr fun hK4=>(Rt (G0 2896) O (G7 (hK4 (Gw (fin1 G0 h)))))
 ·
  refine Gs (hK2 (Jr fun hK5=>(Rt (G0 2591) O (G7 (hK5 (Gw (fin1 G0 h)))))))

def G27 (boxes:List Gb) (l:List Stowed) (column:Int) (half:Int):Option Int:=
 each (fun y27 i27 (s27:Int) nx27=>
  jp (fun kj30=>
   bif ((decide (y27.Slot.G3=column))&&((decide (y27.Slot.Half=half))||(decide (y27.Slot.Half=0)))) then
   (bnd (G36 boxes y27.Gb) fun r34=>
    bif r34.2 then
    (bnd (G9e r34.1) fun r36=>
     G1c (s27+r36) fun v37=>
     kj30 v37)
    else
    (kj30 s27))
   else
   (kj30 s27)) fun(j30:Int)=>
  nx27 j30)
 (fun(s27:Int)=>
  some s27) l 0 0
theorem H28 (boxes:List Gb) (l:List Stowed) (column:Int) (half:Int) (r:Int) (h:G27 boxes l column half=some r):Pure Ek 75 [E2 boxes,E1 l,G0 column,U8 half] (·=G0 r):=by
 unfold G27 at h
 refine H7 [.tmp 8] Tryz.func75 O O (Jr fun hK1=>(Rt (G0 0) O (G7 (hK1 (Jr fun hK2=>(Rt (G0 0) O (G7 (hK2 (Js fun hK3=>Jr fun hK4=>(Rt (E1 l) O (JLl Gx O O O fun hm15=>(Rt (G0 0) O (G7 (hK4 (H1 ?_)))))))))))))))
 obtain⟨b27,kx27,hb27,hkx27,h⟩:=Jj h
 refine J3 (fun i27 (s27:Int)=>each b27 kx27 (List.drop i27 l) i27 s27=some r) (fun i27 s27=>[(0,E2 boxes),(2,G0 column),(3,U8 half),(9,G0 s27),(14,E1 l),(15,Ej l.length),(16,Ej i27)]) (fun i27 s27=>[]) (fun i27=>l.length - i27) 0 0 h ⟨(by repeat' constructor),G,rfl⟩ ?_
 clear h
 intro i27 s27 hi27 K27 e27
 refine Jr fun hK28=>(JLh (BL (decide ((i27:Int) < (l.length:Int)))) (Q0 O O O) O (G7 (hK28 (Js fun hK29=>Gn O (fun hb=>?_) (fun hb=>?_)))))
 ·
  have hk27:=Qd hb
  obtain⟨y27,nx27,hy27,hn27,h⟩:=J4 hi27 hk27
  replace h:=Zz hb27 h
  refine Gs (hK29 ?_)
  obtain⟨kj30,hkj30,h⟩:=Yo h
  refine R9 (fun j30:Int=>kj30 j30=some r) (fun j30=>[(0,E2 boxes),(2,G0 column),(3,U8 half),(9,G0 j30),(14,E1 l),(15,Ej l.length),(16,Ej i27)]) (fun j30=>[]) (fun Kj30 ej30=>?_) ?_
  ·
   refine H1 (Jr fun hK31=>(JLh (Ed y27) (Ha (f:=Stowed.av) (xs:=l) (y:=y27) O O O Gx hy27 O) O (JLh (.agg (Stowed.cs y27)) (Gh Qw O O O) O (JLh (.ptr 1113 0) (Ht 1113 4 Q4 O O) O (Hu (u:=.junk) (Hj (u:=.agg (Stowed.cs y27)) (ds:=[G0 y27.Gb,G0 y27.Slot.G3,G0 y27.Slot.Tier,U8 y27.Slot.Half]) Yv O O O O O O O O) (G7 (hK31 (Gt [(0,E2 boxes),(2,G0 column),(3,U8 half),(9,G0 s27),(11,Ed y27),(14,E1 l),(15,Ej l.length),(16,Ej i27)] [] 1113 rfl rfl rfl G rfl (by repeat' (first | exact .ptr | constructor)) ?_))))))))
   refine Jr fun hK32=>(JLh (.dptr ((Stowed.cs y27).drop 1)) (Gd Hq O O O) O (JLh (.dptr ((Stowed.cs y27).drop 1)) (Gd Jc O O O) O (JLh (G0 y27.Slot.G3) (Gj Gg O O O) O (Rt (G0 column) O (JLh (BL (decide (y27.Slot.G3=column))) (Jf O O O) O (Rt (BL (decide (y27.Slot.G3=column))) O (JLo (.dptr ((Stowed.cs y27).drop 1)) [] O .sct G (fun hc=>Gd Hq O O O) O (JLo (.dptr [U8 y27.Slot.Half]) [26] O .sct ⟨Ua,G⟩ (fun hc=>Gd Qq O O O) O (JLo (U8 y27.Slot.Half) [27] O .sct ⟨Ua,G⟩ (fun hc=>Gj Hy O O O) O (JLo (U8 half) [] O .sct G (fun hc=>G5 O O) O (JLo (BL (decide (y27.Slot.Half=half))) [28,29] O .sct ⟨Ua,Ua,G⟩ (fun hc=>Jf O O O) O (JLo (BL (decide (y27.Slot.Half=half))) [30] O .sct ⟨Ua,G⟩ (fun hc=>G5 O O) O (JLo (.dptr ((Stowed.cs y27).drop 1)) [] O .optf G (fun hc=>Gd Hq O O O) O ?_)))))))))))))
   refine JLo (.dptr [U8 y27.Slot.Half]) [32] O .optf ⟨Ua,G⟩ (fun hc=>Gd Qq O O O) O (JLo (U8 y27.Slot.Half) [33] O .optf ⟨Ua,G⟩ (fun hc=>Gj Hy O O O) O (JLo (BL (decide (y27.Slot.Half=0))) [34] O .optf ⟨Ua,G⟩ (fun hc=>Jf O O O) O (Gc (u:=BL ((decide (y27.Slot.Half=half))||(decide (y27.Slot.Half=0)))) [(31,BL (decide (y27.Slot.Half=half))),(35,_)] O O O .sct ⟨.all id,.part,G⟩ (fun hc=>G11 O O O O) ?_)))
   refine JLh (BL ((decide (y27.Slot.G3=column))&&((decide (y27.Slot.Half=half))||(decide (y27.Slot.Half=0))))) (Q1 O O O O) O (G7 (hK32 (JCc O h (fun h hb=>?_) (fun h hb=>?_))))
   ·
    refine Jr fun hK33=>(Rt (E2 boxes) O (JLh (Ed y27) (Gd Hw O O O) O (JLh (G0 y27.Gb) (Gj Gg O O O) O ?_)))
    obtain⟨r34,hr34,h⟩:=Gf h
    refine JLh (.tup [.agg (Gb.cs r34.1),BL r34.2]) (Gu O (Gf7 boxes y27.Gb r34 hr34) H76 ⟨O,O,O,O,G⟩) O (Rt (.tup [.agg (Gb.cs r34.1),BL r34.2]) O (JLh (.agg (Gb.cs r34.1)) (Gv O O O) O (JLh (BL r34.2) (Gv O O O) O (JLh (.ptr 1114 0) (Ht 1114 9 Y3 O O) O (Hu (u:=.junk) (Hj (u:=.agg (Gb.cs r34.1)) (ds:=(Gb.cs r34.1)) G30 O O O O O O O O) (Rt (BL r34.2) O (G7 (hK33 ?_))))))))
    refine Gt [(0,E2 boxes),(2,G0 column),(3,U8 half),(9,G0 s27),(12,Eh r34.1),(13,BL r34.2),(14,E1 l),(15,Ej l.length),(16,Ej i27)] [] 1114 rfl rfl rfl G rfl (by repeat' (first | exact .ptr | constructor)) (Jr fun hK35=>(Rt (BL r34.2) O (G7 (hK35 (JCc O h (fun h hb=>?_) (fun h hb=>?_))))))
    ·
     refine G4 (Rt (G0 s27) O (JLh (.agg (Gb.cs r34.1)) (Gh G66 O O O) O ?_))
     obtain⟨r36,hr36,h⟩:=Gf h
     refine JLh (G0 r36) (Gu O (M_stow_tall_w r34.1 r36 hr36) J99 ⟨O,O,G⟩) O ?_
     obtain⟨v37,hv37,h⟩:=Jg h
     refine JLh (G0 v37) (J0 hv37 O O O) O (Rt (G0 v37) O (G7 (ej30 _ _ v37 h ⟨(by repeat' constructor),G,rfl⟩)))
    ·
     refine Gs (ej30 _ _ s27 h ⟨(by repeat' constructor),G,rfl⟩)
   ·
    refine Gs (ej30 _ _ s27 h ⟨(by repeat' constructor),G,rfl⟩)
  ·intro j30 h
   replace h:=app1 hkj30 h
   refine G4 (JLh (G0 ((i27+1:Nat):Int)) (J0 (Hv hk27 hm15) O O O) O (Rt (G0 ((i27+1:Nat):Int)) O (G7 (e27 _ _ (i27+1) j30 (app1 hn27 h) (by omega) ⟨(by repeat' constructor),G,rfl⟩))))
 ·
  have h:=app1 hkx27 (J5 hi27 (Hi hb))
  refine J8 (hK3 (Jr fun hK38=>(Rt (G0 s27) O (Rt (G0 s27) O (G7 (hK38 (Gw (fin1 G0 h))))))))

def G35 (s:Gr) (boxes:List Gb) (l:List Stowed) (column:Int):Option Bool:=
 Y9 s.Columns column fun y3=>
 bnd (bif (!(decide (y3.Height≤0))) then G27 boxes l column 1 else some default) fun r6=>
 bnd (bif ((!(decide (y3.Height≤0)))&&(decide (r6≤y3.Height))) then G27 boxes l column 2 else some default) fun r7=>
 some ((decide (y3.Height≤0))||((decide (r6≤y3.Height))&&(decide (r7≤y3.Height))))
theorem H6d (s:Gr) (boxes:List Gb) (l:List Stowed) (column:Int) (r:Bool) (h:G35 s boxes l column=some r):Pure Ek 48 [.agg (Gr.cs s),E2 boxes,E1 l,G0 column] (·=BL r):=by
 unfold G35 at h
 refine H7 [.tmp 8] Tryz.func48 O O (Jr fun hK1=>(JLh (.ptr 1097 0) (Q9 (cs:=(Gr.cs s)) 1097 O O O O O) O (Rt (BL false) O (G7 (hK1 (Gt [(1,E2 boxes),(2,E1 l),(3,G0 column),(4,Ec s)] [] 1097 rfl rfl rfl G rfl (by repeat' (first | exact .ptr | constructor)) ?_))))))
 refine Jr fun hK2=>(JLh (Ec s) (Gd Ho O O O) O (JLh (E7 s.Columns) (Gj J1 O O O) O (Rt (G0 column) O ?_)))
 obtain⟨m4,y3,hm4,hy3,h⟩:=R3 h
 refine JLh (Ee y3) (Ha (f:=G3.av) (xs:=s.Columns) (y:=y3) O O O Hs hy3 hm4) O (JLh (.dptr ((G3.cs y3).drop 4)) (Gd Gf2 O O O) O (JLh (G0 y3.Height) (Gj Gg O O O) O (Rt (G0 y3.Height) O (G7 (hK2 (Jr fun hK5=>(Rt (G0 y3.Height) O (JLh (BL (decide (y3.Height≤0))) (Hfb O O O) O (Rt (BL (decide (y3.Height≤0))) O (JLo (E2 boxes) [] O .scf G (fun hc=>G5 O O) O (JLo (E1 l) [] O .scf G (fun hc=>G5 O O) O (JLo (G0 column) [] O .scf G (fun hc=>G5 O O) O ?_))))))))))))
 obtain⟨r6,hr6,h⟩:=Gf h
 refine JLo (G0 r6) [19,20,21] O .scf ⟨Ua,Ua,Ua,G⟩ (fun hc=>Gu (args:=[E2 boxes,E1 l,G0 column,U8 1]) O (H28 boxes l column 1 r6 (H6 hc hr6)) J28 ⟨O,O,O,O,O,O,O,O,G⟩) O (JLo (G0 y3.Height) [] O .scf G (fun hc=>G5 O O) O (JLo (BL (decide (r6≤y3.Height))) [22,23] O .scf ⟨Ua,Ua,G⟩ (fun hc=>Hfb O O O) O (JLo (BL (decide (r6≤y3.Height))) [24] O .scf ⟨Ua,G⟩ (fun hc=>G5 O O) O (JLo (E2 boxes) [] O .optt G (fun hc=>G5 O O) O (JLo (E1 l) [] O .optt G (fun hc=>G5 O O) O (JLo (G0 column) [] O .optt G (fun hc=>G5 O O) O ?_))))))
 obtain⟨r7,hr7,h⟩:=Gf h
 refine JLo (G0 r7) [26,27,28] O .optt ⟨Ua,Ua,Ua,G⟩ (fun hc=>Gu (args:=[E2 boxes,E1 l,G0 column,U8 2]) O (H28 boxes l column 2 r7 (H6 hc hr7)) J28 ⟨O,O,O,O,O,O,O,O,G⟩) O (JLo (G0 y3.Height) [] O .optt G (fun hc=>G5 O O) O (JLo (BL (decide (r7≤y3.Height))) [29,30] O .optt ⟨Ua,Ua,G⟩ (fun hc=>Hfb O O O) O (Gc (u:=BL ((decide (r6≤y3.Height))&&(decide (r7≤y3.Height)))) [(25,BL (decide (r6≤y3.Height))),(31,_)] O O O .scf ⟨.all id,.part,G⟩ (fun hc=>Q1 O O O O) ?_)))
 refine JLh (BL ((decide (y3.Height≤0))||((decide (r6≤y3.Height))&&(decide (r7≤y3.Height))))) (G11 O O O O) O (Rt (BL ((decide (y3.Height≤0))||((decide (r6≤y3.Height))&&(decide (r7≤y3.Height))))) O (G7 (hK5 (Gw (fin1 BL h)))))

def Q7 (s:Gr) (boxes:List Gb) (l:List Stowed):Option Bool:=
 bnd (G44 s) fun r4=>
 bif (!r4) then
 (some false)
 else
 (bnd (G45 l) fun r7=>
  each (fun y10 i10 (s10:Unit) nx10=>
   bnd (G36 boxes y10.Gb) fun r16=>
   bnd (bif ((!(!r16.2))&&(decide (0 < (i10:Int)))) then G1c ((i10:Int) - 1) some else some 0) fun v19=>
   bnd (bif ((!(!r16.2))&&(decide (0 < (i10:Int)))) then Y9 l v19 some else some default) fun y20=>
   bnd (bif (!((!r16.2)||((decide (0 < (i10:Int)))&&(decide (y10.Gb≤y20.Gb))))) then G48 s y10.Slot r16.1.Size else some default) fun r21=>
   bnd (bif (!(((!r16.2)||((decide (0 < (i10:Int)))&&(decide (y10.Gb≤y20.Gb))))||(!r21))) then G6c y10.Slot r7 else some default) fun r22=>
   bif ((((!r16.2)||((decide (0 < (i10:Int)))&&(decide (y10.Gb≤y20.Gb))))||(!r21))||(!r22)) then
   (some false)
   else
   (bnd (Gfc (i10:Int) r7.length) fun m25=>
    each (fun y42 i42 (s42:Unit) nx42=>
     bnd (G6b y10.Slot y42) fun r48=>
     bif r48 then
     (some false)
     else
     (nx42 ()))
    (fun(s42:Unit)=>
     nx10 ()) (r7.take m25) 0 ()))
  (fun(s10:Unit)=>
   each (fun y64 i64 (s64:Unit) nx64=>
    bnd (G35 s boxes l (i64:Int)) fun r70=>
    bif (!r70) then
    (some false)
    else
    (nx64 ()))
   (fun(s64:Unit)=>
    some true) s.Columns 0 ()) l 0 ())
theorem Zg (s:Gr) (boxes:List Gb) (l:List Stowed) (r:Bool) (h:Q7 s boxes l=some r):Pure Ek 17 [.agg (Gr.cs s),E2 boxes,E1 l] (·=BL r):=by
 unfold Q7 at h
 refine H7 [.tmp 6] Tryz.func17 O O (Jr fun hK1=>(JLh (.ptr 1049 0) (Q9 (cs:=(Gr.cs s)) 1049 O O O O O) O (Rt (BL false) O (G7 (hK1 (Gt [(1,E2 boxes),(2,E1 l),(3,Ec s)] [] 1049 rfl rfl rfl G rfl (by exact⟨.conv (.same rfl),.conv (.same rfl),.ptr,G⟩) (Js fun hK2=>?_)))))))
 refine Jr fun hK3=>(JLh (.agg (Gr.cs s)) (Gh H3 O O O) O ?_)
 obtain⟨r4,hr4,h⟩:=Gf h
 refine JLh (BL r4) (Gu O (J63.down s r4 hr4) Jcf ⟨O,O,G⟩) O (JLh (BL (!r4)) (Zs (b:=r4) O O) O (G7 (hK3 (JCc O h (fun h hb=>?_) (fun h hb=>?_)))))
 ·
  refine Jr fun hK5=>(Rt (BL false) O (G7 (hK5 (Gw (fin1 BL h)))))
 ·
  refine Gs (hK2 (Jr fun hK6=>(Rt (E1 l) O ?_)))
  obtain⟨r7,hr7,h⟩:=Gf h
  refine JLh (E8 r7) (Gu O (H49 l r7 hr7) J31 ⟨O,O,G⟩) O (Rt (E8 r7) O (G7 (hK6 (Js fun hK8=>Jr fun hK9=>(Rt (E1 l) O (JLl Gx O O O fun hm21=>(Rt (G0 0) O (G7 (hK9 (H1 ?_))))))))))
  obtain⟨b10,kx10,hb10,hkx10,h⟩:=Jj h
  refine J3 (fun i10 (s10:Unit)=>each b10 kx10 (List.drop i10 l) i10 s10=some r) (fun i10 s10=>[(1,E2 boxes),(2,E1 l),(3,Ec s),(7,E8 r7),(20,E1 l),(21,Ej l.length),(22,Ej i10)]) (fun i10 s10=>[]) (fun i10=>l.length - i10) 0 () h ⟨(by repeat' constructor),G,rfl⟩ ?_
  clear h
  intro i10 s10 hi10 K10 e10
  refine Jr fun hK11=>(JLh (BL (decide ((i10:Int) < (l.length:Int)))) (Q0 O O O) O (G7 (hK11 (Js fun hK12=>Gn O (fun hb=>?_) (fun hb=>?_)))))
  ·
   have hk10:=Qd hb
   obtain⟨y10,nx10,hy10,hn10,h⟩:=J4 hi10 hk10
   replace h:=Zz hb10 h
   refine Gs (hK12 (Js fun hK13=>H1 (Jr fun hK14=>(Rt (Ej i10) O (JLh (Ed y10) (Ha (f:=Stowed.av) (xs:=l) (y:=y10) O O O Gx hy10 O) O (JLh (.agg (Stowed.cs y10)) (Gh Qw O O O) O (JLh (.ptr 1050 0) (Ht 1050 4 Q4 O O) O (Rt (Ej i10) O (Hu (u:=.junk) (Hj (u:=.agg (Stowed.cs y10)) (ds:=[G0 y10.Gb,G0 y10.Slot.G3,G0 y10.Slot.Tier,U8 y10.Slot.Half]) Yv O O O O O O O O) (G7 (hK14 ?_)))))))))))
   refine Gt [(1,E2 boxes),(2,E1 l),(3,Ec s),(7,E8 r7),(8,Ej i10),(9,Ed y10),(20,E1 l),(21,Ej l.length),(22,Ej i10)] [] 1050 rfl rfl rfl G rfl (by repeat' (first | exact .ptr | constructor)) (Jr fun hK15=>(Rt (E2 boxes) O (JLh (Ed y10) (Gd Hw O O O) O (JLh (G0 y10.Gb) (Gj Gg O O O) O ?_))))
   obtain⟨r16,hr16,h⟩:=Gf h
   refine JLh (.tup [.agg (Gb.cs r16.1),BL r16.2]) (Gu O (Gf7 boxes y10.Gb r16 hr16) H76 ⟨O,O,O,O,G⟩) O (Rt (.tup [.agg (Gb.cs r16.1),BL r16.2]) O (JLh (.agg (Gb.cs r16.1)) (Gv O O O) O (JLh (BL r16.2) (Gv O O O) O (JLh (.ptr 1051 0) (Ht 1051 9 Y3 O O) O (Hu (u:=.junk) (Hj (u:=.agg (Gb.cs r16.1)) (ds:=(Gb.cs r16.1)) G30 O O O O O O O O) (Rt (BL r16.2) O (G7 (hK15 ?_))))))))
   refine Gt [(1,E2 boxes),(2,E1 l),(3,Ec s),(7,E8 r7),(8,Ej i10),(9,Ed y10),(10,Eh r16.1),(11,BL r16.2),(20,E1 l),(21,Ej l.length),(22,Ej i10)] [] 1051 rfl rfl rfl G rfl (by repeat' (first | exact .ptr | constructor)) (Js fun hK17=>Js fun hK18=>?_)
   obtain⟨v19,hv19,h⟩:=Gf h
   obtain⟨y20,hy20,h⟩:=Gf h
   obtain⟨r21,hr21,h⟩:=Gf h
   obtain⟨r22,hr22,h⟩:=Gf h
   refine JC_d0 Jx (by kernel_rfl) (Dq (BL r16.2) (G5 O O) O (Dq (BL (!r16.2)) (Zs (b:=r16.2) O O) O (Dq (BL (!r16.2)) (G5 O O) O (Do (Ej i10) [] O .scf G (fun hc=>G5 O O) O (Do (BL (decide (0 < (i10:Int)))) [37] O .scf ⟨Ua,G⟩ (fun hc=>Gae O O O) O (Do (BL (decide (0 < (i10:Int)))) [38] O .scf ⟨Ua,G⟩ (fun hc=>G5 O O) O (Do (Ed y10) [] O .optt G (fun hc=>Gd Hw O O O) O (Do (G0 y10.Gb) [40] O .optt ⟨Ua,G⟩ (fun hc=>Gj Gg O O O) O (Do (E1 l) [] O .optt G (fun hc=>G5 O O) O (Do (Ej i10) [] O .optt G (fun hc=>G5 O O) O (Do (G0 v19) [43] O .optt ⟨Ua,G⟩ (fun hc=>H06 (G79 (H6 hc hv19)) O O O) O (Do (Ed y20) [42,44] O .optt ⟨Ua,Ua,G⟩ (fun hc=>(match Za (H6 hc hy20) with | ⟨_,hm_,hy_⟩=>Ha (f:=Stowed.av) (xs:=l) (y:=y20) O O O Gx hy_ hm_)) O (Do (Ed y20) [45] O .optt ⟨Ua,G⟩ (fun hc=>Gd Hw O O O) O ?_)))))))))))))
   refine Do (G0 y20.Gb) [46] O .optt ⟨Ua,G⟩ (fun hc=>Gj Gg O O O) O (Do (BL (decide (y10.Gb≤y20.Gb))) [41,47] O .optt ⟨Ua,Ua,G⟩ (fun hc=>Hfb O O O) O (Dg (.opt (!(!r16.2)) (BL ((decide (0 < (i10:Int)))&&(decide (y10.Gb≤y20.Gb))))) (J6 [(39,BL (decide (0 < (i10:Int)))),(48,_)] O O O .scf ⟨.all id,.part,G⟩ (fun hc=>Q1 O O O O) O) O (Dq (BL ((!r16.2)||((decide (0 < (i10:Int)))&&(decide (y10.Gb≤y20.Gb))))) (G11 O O O O) O (Dq (BL ((!r16.2)||((decide (0 < (i10:Int)))&&(decide (y10.Gb≤y20.Gb))))) (G5 O O) O (Do (.agg (Gr.cs s)) [] O .scf G (fun hc=>Gh H3 O O O) O (Do (.dptr ((Stowed.cs y10).drop 1)) [] O .scf G (fun hc=>Gd Hq O O O) O (Do (.agg ((Stowed.cs y10).drop 1)) [53] O .scf ⟨Ua,G⟩ (fun hc=>Gh Qb O O O) O (Do (.dptr ((Gb.cs r16.1).drop 2)) [] O .scf G (fun hc=>Gd Yc O O O) O (Do (U8 r16.1.Size) [55] O .scf ⟨Ua,G⟩ (fun hc=>Gj Hy O O O) O (Do (BL r21) [52,54,56] O .scf ⟨Ua,Ua,Ua,G⟩ (fun hc=>Gu (args:=[.agg (Gr.cs s),.agg ((Stowed.cs y10).drop 1),U8 r16.1.Size]) O (H4d s y10.Slot r16.1.Size r21 (H6 hc hr21)) J33 ⟨O,O,O,O,O,O,G⟩) O (Do (BL (!r21)) [57] O .scf ⟨Ua,G⟩ (fun hc=>Zs (b:=r21) O O) O (Dq (BL (((!r16.2)||((decide (0 < (i10:Int)))&&(decide (y10.Gb≤y20.Gb))))||(!r21))) (G11 O O O O) O (Dq (BL (((!r16.2)||((decide (0 < (i10:Int)))&&(decide (y10.Gb≤y20.Gb))))||(!r21))) (G5 O O) O ?_)))))))))))))
   refine Do (.dptr ((Stowed.cs y10).drop 1)) [] O .scf G (fun hc=>Gd Hq O O O) O (Do (.agg ((Stowed.cs y10).drop 1)) [61] O .scf ⟨Ua,G⟩ (fun hc=>Gh Qb O O O) O (Do (E8 r7) [] O .scf G (fun hc=>G5 O O) O (Do (BL r22) [62,63] O .scf ⟨Ua,Ua,G⟩ (fun hc=>Gu (args:=[.agg ((Stowed.cs y10).drop 1),E8 r7]) O (H6f y10.Slot r7 r22 (H6 hc hr22)) J30 ⟨O,O,O,O,G⟩) O (Do (BL (!r22)) [64] O .scf ⟨Ua,G⟩ (fun hc=>Zs (b:=r22) O O) O (Dq (BL ((((!r16.2)||((decide (0 < (i10:Int)))&&(decide (y10.Gb≤y20.Gb))))||(!r21))||(!r22))) (G11 O O O O) O (Dnil (hK18 (JCc O h (fun h hb=>?_) (fun h hb=>?_)))))))))
   ·
    refine Jr fun hK23=>(Rt (BL false) O (G7 (hK23 (Gw (fin1 BL h)))))
   ·
    refine Gs (hK17 (Jr fun hK24=>(Rt (E8 r7) O (Rt (Ej i10) O ?_))))
    obtain⟨m25,hm25,h⟩:=Gf h
    refine JLh (E8 (r7.take m25)) (H24 (f:=Slot.av) (xs:=r7) O O O Rm (G41 hm25)) O (JLl Rm O O O fun hm70=>(Rt (G0 0) O (G7 (hK24 (H1 ?_)))))
    obtain⟨b42,kx42,hb42,hkx42,h⟩:=Jj h
    refine J3 (fun i42 (s42:Unit)=>each b42 kx42 (List.drop i42 (r7.take m25)) i42 s42=some r) (fun i42 s42=>[(1,E2 boxes),(2,E1 l),(3,Ec s),(7,E8 r7),(9,Ed y10),(20,E1 l),(21,Ej l.length),(22,Ej i10),(69,E8 (r7.take m25)),(70,G0 ((r7.take m25).length:Int)),(71,Ej i42)]) (fun i42 s42=>[]) (fun i42=>(r7.take m25).length - i42) 0 () h ⟨(by repeat' constructor),G,rfl⟩ ?_
    clear h
    intro i42 s42 hi42 K42 e42
    refine Jr fun hK43=>(JLh (BL (decide ((i42:Int) < ((r7.take m25).length:Int)))) (Q0 O O O) O (G7 (hK43 (Js fun hK44=>Gn O (fun hb=>?_) (fun hb=>?_)))))
    ·
     have hk42:=Qd hb
     obtain⟨y42,nx42,hy42,hn42,h⟩:=J4 hi42 hk42
     replace h:=Zz hb42 h
     refine Gs (hK44 (Js fun hK45=>H1 (Jr fun hK46=>(JLh (Ei y42) (Ha (f:=Slot.av) (xs:=(r7.take m25)) (y:=y42) O O O Rm hy42 O) O (JLh (.agg (Slot.cs y42)) (Gh Qb O O O) O (JLh (.ptr 1052 0) (Ht 1052 3 G63 O O) O (Hu (u:=.junk) (Hj (u:=.agg (Slot.cs y42)) (ds:=[G0 y42.G3,G0 y42.Tier,U8 y42.Half]) H0c O O O O O O O O) (G7 (hK46 ?_)))))))))
     refine Gt [(1,E2 boxes),(2,E1 l),(3,Ec s),(7,E8 r7),(9,Ed y10),(13,Ei y42),(20,E1 l),(21,Ej l.length),(22,Ej i10),(69,E8 (r7.take m25)),(70,G0 ((r7.take m25).length:Int)),(71,Ej i42)] [] 1052 rfl rfl rfl G rfl (by repeat' (first | exact .ptr | constructor)) ?_
     refine Jr fun hK47=>(JLh (.dptr ((Stowed.cs y10).drop 1)) (Gd Hq O O O) O (JLh (.agg ((Stowed.cs y10).drop 1)) (Gh Qb O O O) O (JLh (.agg (Slot.cs y42)) (Gh Qb O O O) O ?_)))
     obtain⟨r48,hr48,h⟩:=Gf h
     refine JLh (BL r48) (Gu O (H6e y10.Slot y42 r48 hr48) J2f ⟨O,O,O,O,G⟩) O (G7 (hK47 (JCc O h (fun h hb=>?_) (fun h hb=>?_))))
     ·
      refine Jr fun hK49=>(Rt (BL false) O (G7 (hK49 (Gw (fin1 BL h)))))
     ·
      refine Gs (hK45 (G4 (JLh (G0 ((i42+1:Nat):Int)) (J0 (Hv hk42 hm70) O O O) O (Rt (G0 ((i42+1:Nat):Int)) O (G7 (e42 _ _ (i42+1) () (app1 hn42 h) (by omega) ⟨(by repeat' constructor),G,rfl⟩))))))
    ·
     have h:=app1 hkx42 (J5 hi42 (Hi hb))
     refine J8 (hK13 (G4 (JLh (G0 ((i10+1:Nat):Int)) (J0 (Hv hk10 hm21) O O O) O (Rt (G0 ((i10+1:Nat):Int)) O (G7 (e10 _ _ (i10+1) () (app1 hn10 h) (by omega) ⟨(by repeat' constructor),G,rfl⟩))))))
  ·
   have h:=app1 hkx10 (J5 hi10 (Hi hb))
   refine J8 (hK8 (Js fun hK50=>Jr fun hK51=>(JLh (Ec s) (Gd Ho O O O) O (JLh (E7 s.Columns) (Gj J1 O O O) O (JLl Hs O O O fun hm83=>(Rt (G0 0) O (G7 (hK51 (H1 ?_)))))))))
   obtain⟨b64,kx64,hb64,hkx64,h⟩:=Jj h
   refine J3 (fun i64 (s64:Unit)=>each b64 kx64 (List.drop i64 s.Columns) i64 s64=some r) (fun i64 s64=>[(1,E2 boxes),(2,E1 l),(3,Ec s),(83,Ej s.Columns.length),(84,Ej i64)]) (fun i64 s64=>[]) (fun i64=>s.Columns.length - i64) 0 () h ⟨(by repeat' constructor),G,rfl⟩ ?_
   clear h
   intro i64 s64 hi64 K64 e64
   refine Jr fun hK65=>(JLh (BL (decide ((i64:Int) < (s.Columns.length:Int)))) (Q0 O O O) O (G7 (hK65 (Js fun hK66=>Gn O (fun hb=>?_) (fun hb=>?_)))))
   ·
    have hk64:=Qd hb
    obtain⟨y64,nx64,hy64,hn64,h⟩:=J4 hi64 hk64
    replace h:=Zz hb64 h
    refine Gs (hK66 (Js fun hK67=>H1 (Jr fun hK68=>(Rt (Ej i64) O (Rt (Ej i64) O (G7 (hK68 (Jr fun hK69=>(JLh (.agg (Gr.cs s)) (Gh H3 O O O) O (Rt (E2 boxes) O (Rt (E1 l) O (Rt (Ej i64) O ?_))))))))))))
    obtain⟨r70,hr70,h⟩:=Gf h
    refine JLh (BL r70) (Gu O (H6d s boxes l (i64:Int) r70 hr70) J2e ⟨O,O,O,O,O,O,O,O,G⟩) O (JLh (BL (!r70)) (Zs (b:=r70) O O) O (G7 (hK69 (JCc O h (fun h hb=>?_) (fun h hb=>?_)))))
    ·
     refine Jr fun hK71=>(Rt (BL false) O (G7 (hK71 (Gw (fin1 BL h)))))
    ·
     refine Gs (hK67 (G4 (JLh (G0 ((i64+1:Nat):Int)) (J0 (Hv hk64 hm83) O O O) O (Rt (G0 ((i64+1:Nat):Int)) O (G7 (e64 _ _ (i64+1) () (app1 hn64 h) (by omega) ⟨(by repeat' constructor),G,rfl⟩))))))
   ·
    have h:=app1 hkx64 (J5 hi64 (Hi hb))
    refine J8 (hK50 (Jr fun hK72=>(Rt (BL true) O (G7 (hK72 (Gw (fin1 BL h)))))))

def Jq (s:Gr) (boxes:List Gb) (l:List Stowed) (open_:List Int):Option Bool:=
 each (fun y22 i22 (s22:Unit) nx22=>
  bnd (bif ((!((decide (y22 < 0))||(decide ((s.Covers.length:Int)≤y22))))&&(decide (0 < (i22:Int)))) then G1c ((i22:Int) - 1) some else some 0) fun v28=>
  bnd (bif ((!((decide (y22 < 0))||(decide ((s.Covers.length:Int)≤y22))))&&(decide (0 < (i22:Int)))) then Y9 open_ v28 some else some default) fun y29=>
  bif (((decide (y22 < 0))||(decide ((s.Covers.length:Int)≤y22)))||((decide (0 < (i22:Int)))&&(decide (y22≤y29)))) then
  (some false)
  else
  (nx22 ()))
 (fun(s22:Unit)=>
  bnd (Q7 s boxes l) fun r32=>
  some r32) open_ 0 ()
theorem G0b (s:Gr) (boxes:List Gb) (l:List Stowed) (open_:List Int) (r:Bool) (h:Jq s boxes l open_=some r):Pure Ek 25 [.agg (Gr.cs s),E2 boxes,E1 l,E0 open_] (·=BL r):=by
 unfold Jq at h
 refine H7 [.tmp 8] Tryz.func25 O O (Jr fun hK1=>(JLh (.ptr 1067 0) (Q9 (cs:=(Gr.cs s)) 1067 O O O O O) O (Rt (BL false) O (G7 (hK1 (Gt [(1,E2 boxes),(2,E1 l),(3,E0 open_),(4,Ec s)] [] 1067 rfl rfl rfl G rfl (by repeat' (first | exact .ptr | constructor)) (Js fun hK2=>?_)))))))
 refine Jr fun hK3=>(Rt (E0 open_) O (JLl Gq O O O fun hm12=>(Rt (G0 0) O (G7 (hK3 (H1 ?_))))))
 obtain⟨b22,kx22,hb22,hkx22,h⟩:=Jj h
 refine J3 (fun i22 (s22:Unit)=>each b22 kx22 (List.drop i22 open_) i22 s22=some r) (fun i22 s22=>[(1,E2 boxes),(2,E1 l),(3,E0 open_),(4,Ec s),(11,E0 open_),(12,Ej open_.length),(13,Ej i22)]) (fun i22 s22=>[]) (fun i22=>open_.length - i22) 0 () h ⟨(by repeat' constructor),G,rfl⟩ ?_
 clear h
 intro i22 s22 hi22 K22 e22
 refine Jr fun hK23=>(JLh (BL (decide ((i22:Int) < (open_.length:Int)))) (Q0 O O O) O (G7 (hK23 (Js fun hK24=>Gn O (fun hb=>?_) (fun hb=>?_)))))
 ·
  have hk22:=Qd hb
  obtain⟨y22,nx22,hy22,hn22,h⟩:=J4 hi22 hk22
  replace h:=Zz hb22 h
  refine Gs (hK24 (Js fun hK25=>H1 (Jr fun hK26=>(Rt (Ej i22) O (JLh (.dptr [G0 y22]) (Ha (f:=G0) (xs:=open_) (y:=y22) O O O Gq hy22 O) O (JLh (G0 y22) (Gj Gg O O O) O (Rt (Ej i22) O (Rt (G0 y22) O (G7 (hK26 ?_))))))))))
  refine Jr fun hK27=>(Rt (G0 y22) O (JLh (BL (decide (y22 < 0))) (Q0 O O O) O (Rt (BL (decide (y22 < 0))) O (JLo (G0 y22) [] O .scf G (fun hc=>G5 O O) O (JLo (.dptr [E3 s.Covers,G0 s.Light.Kilos,G0 s.Light.X,G0 s.Light.Y,G0 s.Light.Z,E4 s.Rows,E5 s.Frames,E6 s.Tanks,G0 s.G2.Tolerance,G0 s.G2.Trim,G0 s.G2.List_,G0 s.G2.Stability]) [] O .scf G (fun hc=>Gd Hx O O O) O (JLo (E3 s.Covers) [22] O .scf ⟨Ua,G⟩ (fun hc=>Gj J9 O O O) O (JLo (Ej s.Covers.length) [23] O .scf ⟨Ua,G⟩ (fun hc=>Z1 (f:=G9.av) (xs:=s.Covers) J7 O O) O (JLo (BL (decide ((s.Covers.length:Int)≤y22))) [21,24] O .scf ⟨Ua,Ua,G⟩ (fun hc=>Gaf O O O) O (JLh (BL ((decide (y22 < 0))||(decide ((s.Covers.length:Int)≤y22)))) (G11 O O O O) O (Rt (BL ((decide (y22 < 0))||(decide ((s.Covers.length:Int)≤y22)))) O (JLo (Ej i22) [] O .scf G (fun hc=>G5 O O) O (JLo (BL (decide (0 < (i22:Int)))) [28] O .scf ⟨Ua,G⟩ (fun hc=>Gae O O O) O (JLo (BL (decide (0 < (i22:Int)))) [29] O .scf ⟨Ua,G⟩ (fun hc=>G5 O O) O ?_)))))))))))))
  refine JLo (G0 y22) [] O .optt G (fun hc=>G5 O O) O (JLo (E0 open_) [] O .optt G (fun hc=>G5 O O) O (JLo (Ej i22) [] O .optt G (fun hc=>G5 O O) O ?_))
  obtain⟨v28,hv28,h⟩:=Gf h
  refine JLo (G0 v28) [33] O .optt ⟨Ua,G⟩ (fun hc=>H06 (G79 (H6 hc hv28)) O O O) O ?_
  obtain⟨y29,hy29,h⟩:=Gf h
  refine JLo (.dptr [G0 y29]) [32,34] O .optt ⟨Ua,Ua,G⟩ (fun hc=>(match Za (H6 hc hy29) with | ⟨_,hm_,hy_⟩=>Ha (f:=G0) (xs:=open_) (y:=y29) O O O Gq hy_ hm_)) O (JLo (G0 y29) [35] O .optt ⟨Ua,G⟩ (fun hc=>Gj Gg O O O) O (JLo (BL (decide (y22≤y29))) [31,36] O .optt ⟨Ua,Ua,G⟩ (fun hc=>Hfb O O O) O (Gc (u:=BL ((decide (0 < (i22:Int)))&&(decide (y22≤y29)))) [(30,BL (decide (0 < (i22:Int)))),(37,_)] O O O .scf ⟨.all id,.part,G⟩ (fun hc=>Q1 O O O O) ?_)))
  refine JLh (BL (((decide (y22 < 0))||(decide ((s.Covers.length:Int)≤y22)))||((decide (0 < (i22:Int)))&&(decide (y22≤y29))))) (G11 O O O O) O (G7 (hK27 (JCc O h (fun h hb=>?_) (fun h hb=>?_))))
  ·
   refine Jr fun hK30=>(Rt (BL false) O (G7 (hK30 (Gw (fin1 BL h)))))
  ·
   refine Gs (hK25 (G4 (JLh (G0 ((i22+1:Nat):Int)) (J0 (Hv hk22 hm12) O O O) O (Rt (G0 ((i22+1:Nat):Int)) O (G7 (e22 _ _ (i22+1) () (app1 hn22 h) (by omega) ⟨(by repeat' constructor),G,rfl⟩))))))
 ·
  have h:=app1 hkx22 (J5 hi22 (Hi hb))
  refine J8 (hK2 (Jr fun hK31=>(JLh (.agg (Gr.cs s)) (Gh H3 O O O) O (Rt (E2 boxes) O (Rt (E1 l) O ?_)))))
  obtain⟨r32,hr32,h⟩:=Gf h
  refine JLh (BL r32) (Gu O (Zg s boxes l r32 hr32) G61 ⟨O,O,O,O,O,O,G⟩) O (Rt (BL r32) O (G7 (hK31 (Gw (fin1 BL h)))))

def G58 (x:Stowed) (p1:Int):Option Bool:=
 some (decide (x.Gb=p1))
theorem J00 (x:Stowed) (p1:Int) (r:Bool) (h:G58 x p1=some r):Pure Ek 54 [.agg (Stowed.cs x),.dptr [G0 p1]] (·=BL r):=by
 unfold G58 at h
 refine H7 [.tmp 3] Tryz.func54 O O (Jr fun hK1=>(JLh (.ptr 1106 0) (Q9 (cs:=[G0 x.Gb,G0 x.Slot.G3,G0 x.Slot.Tier,U8 x.Slot.Half]) 1106 O O O O O) O (Rt (BL false) O (G7 (hK1 (Gt [(1,.dptr [G0 p1]),(2,Ed x)] [] 1106 rfl rfl rfl G rfl (by exact⟨.conv (.same rfl),.ptr,G⟩) (Jr fun hK2=>(JLh (Ed x) (Gd Hw O O O) O (JLh (G0 x.Gb) (Gj Gg O O O) O (JLh (G0 p1) (Gj Gg O O O) O (JLh (BL (decide (x.Gb=p1))) (Jf O O O) O (Rt (BL (decide (x.Gb=p1))) O (G7 (hK2 (Gw (fin1 BL h))))))))))))))))

def Qo (s:List Stowed) (f:Stowed→Option Bool):Option Int:=
 each (fun y20 i20 (s20:Unit) nx20=>
  bnd (f y20) fun r26=>
  bif r26 then
  (some (i20:Int))
  else
  (nx20 ()))
 (fun(s20:Unit)=>
  some (-1)) s 0 ()
theorem G0c (s:List Stowed) (f:Stowed→Option Bool) (f_f:FuncId) (f_c:List AV) (f_B:Hf Ek f_f=true) (f_d:Yn (fun _=>false) f_c=true) (f_w:∀ a0 q,f a0=some q→Pure Ek f_f ([.agg (Stowed.cs a0)]++f_c) (·=BL q)) (r:Int) (h:Qo s f=some r):Pure Ek 53 [E1 s,.fn f_f f_c] (·=G0 r):=by
 unfold Qo at h
 refine H7 [.tmp 4] Tryz.func53 O O (Jr fun hK1=>(Rt (G0 0) O (G7 (hK1 (Js fun hK2=>Jr fun hK3=>(Rt (E1 s) O (JLl Gx O O O fun hm7=>(Rt (G0 0) O (G7 (hK3 (H1 ?_)))))))))))
 obtain⟨b20,kx20,hb20,hkx20,h⟩:=Jj h
 refine J3 (fun i20 (s20:Unit)=>each b20 kx20 (List.drop i20 s) i20 s20=some r) (fun i20 s20=>[(0,E1 s),(1,.fn f_f f_c),(7,Ej s.length),(8,Ej i20)]) (fun i20 s20=>[]) (fun i20=>s.length - i20) 0 () h ⟨⟨.same O,.same (Qc _ _ f_d),.same O,.same O,G⟩,G,O⟩ ?_
 clear h
 intro i20 s20 hi20 K20 e20
 refine Jr fun hK21=>(JLh (BL (decide ((i20:Int) < (s.length:Int)))) (Q0 O O O) O (G7 (hK21 (Js fun hK22=>Gn O (fun hb=>?_) (fun hb=>?_)))))
 ·
  have hk20:=Qd hb
  obtain⟨y20,nx20,hy20,hn20,h⟩:=J4 hi20 hk20
  replace h:=Zz hb20 h
  refine Gs (hK22 (Js fun hK23=>H1 (Jr fun hK24=>(Rt (Ej i20) O (Rt (Ej i20) O (G7 (hK24 (Jr fun hK25=>(Rt (.fn f_f f_c) O (Rt (E1 s) O (Rt (Ej i20) O (JLh (Ed y20) (Ha (f:=Stowed.av) (xs:=s) (y:=y20) O O O Gx hy20 O) O (JLh (.agg (Stowed.cs y20)) (Gh Qw O O O) O ?_)))))))))))))
  obtain⟨r26,hr26,h⟩:=Gf h
  refine JLh (BL r26) (G10 (args:=[.agg (Stowed.cs y20)]) (caps:=f_c) O O (f_w y20 _ hr26) f_B ⟨O,O,G⟩ f_d) O (G7 (hK25 (JCc O h (fun h hb=>?_) (fun h hb=>?_))))
  ·
   refine Jr fun hK27=>(Rt (Ej i20) O (Rt (Ej i20) O (G7 (hK27 (Gw (fin1 G0 h))))))
  ·
   refine Gs (hK23 (G4 (JLh (G0 ((i20+1:Nat):Int)) (J0 (Hv hk20 hm7) O O O) O (Rt (G0 ((i20+1:Nat):Int)) O (G7 (e20 _ _ (i20+1) () (app1 hn20 h) (by omega) ⟨⟨.same rfl,.same (Qc _ _ f_d),.same rfl,.same rfl,G⟩,G,rfl⟩))))))
 ·
  have h:=app1 hkx20 (J5 hi20 (Hi hb))
  refine J8 (hK2 (Jr fun hK28=>(Rt (G0 (-1)) O (G7 (hK28 (Gw (fin1 G0 h)))))))

def Ro (l:List Stowed) (id_:Int):Option Int:=
 bnd (Qo l (fun z0=>G58 z0 id_)) fun r3=>
 some r3
theorem G25 (l:List Stowed) (id_:Int) (r:Int) (h:Ro l id_=some r):Pure Ek 28 [E1 l,G0 id_] (·=G0 r):=by
 unfold Ro at h
 refine H7 [.tmp 4] Tryz.func28 O O (Jr fun hK1=>(JLh (.ptr 1070 0) (Q9 (cs:=[G0 id_]) 1070 O O O O O) O (Rt (G0 0) O (G7 (hK1 (Gt [(0,E1 l),(3,.dptr [G0 id_])] [] 1070 rfl rfl rfl G rfl (by exact⟨.conv (.same rfl),.ptr,G⟩) (Jr fun hK2=>(Rt (E1 l) O (JLh (.fn 54 [.dptr [G0 id_]]) (Zj (cs:=[.dptr [G0 id_]]) O O) O ?_)))))))))
 obtain⟨r3,hr3,h⟩:=Gf h
 refine JLh (G0 r3) (Gu O (G0c l (fun z0=>G58 z0 id_) 54 [.dptr [G0 id_]] Jcb O (fun z0 q hq=>J00 z0 id_ q hq) r3 hr3) J2c ⟨O,O,O,O,G⟩) O (Rt (G0 r3) O (G7 (hK2 (Gw (fin1 G0 h)))))

def G9f (a:Slot) (b:Slot):Option Bool:=
 bnd (bif ((decide (a.G3=b.G3))&&(decide (b.Tier < a.Tier))) then G28 a.Half b.Half else some default) fun r3=>
 some (((decide (a.G3=b.G3))&&(decide (b.Tier < a.Tier)))&&r3)
theorem M_slot_Over_w (a:Slot) (b:Slot) (r:Bool) (h:G9f a b=some r):Pure Ek 31 [.agg [G0 a.G3,G0 a.Tier,U8 a.Half],.agg [G0 b.G3,G0 b.Tier,U8 b.Half]] (·=BL r):=by
 unfold G9f at h
 refine H7 [.tmp 4] Tryz.func31 O O (Jr fun hK1=>(JLh (.ptr 1074 0) (Q9 (cs:=[G0 a.G3,G0 a.Tier,U8 a.Half]) 1074 O O O O O) O (JLh (.ptr 1075 0) (Q9 (cs:=[G0 b.G3,G0 b.Tier,U8 b.Half]) 1075 O O O O O) O (Rt (BL false) O (G7 (hK1 (Gt [(2,.dptr [G0 a.G3,G0 a.Tier,U8 a.Half]),(3,.ptr 1075 0)] [(1075,.box 45 [G0 b.G3,G0 b.Tier,U8 b.Half])] 1074 rfl rfl rfl ⟨⟨_,rfl,.boxEq rfl rfl⟩,G⟩ rfl (by exact⟨.ptr,.conv (.same rfl),G⟩) (Gt [(2,.dptr [G0 a.G3,G0 a.Tier,U8 a.Half]),(3,.dptr [G0 b.G3,G0 b.Tier,U8 b.Half])] [] 1075 rfl rfl rfl G rfl (by exact⟨.conv (.same rfl),.ptr,G⟩) ?_))))))))
 refine Jr fun hK2=>(JLh (.dptr [G0 a.G3,G0 a.Tier,U8 a.Half]) (Gd Jc O O O) O (JLh (G0 a.G3) (Gj Gg O O O) O (JLh (.dptr [G0 b.G3,G0 b.Tier,U8 b.Half]) (Gd Jc O O O) O (JLh (G0 b.G3) (Gj Gg O O O) O (JLh (BL (decide (a.G3=b.G3))) (Jf O O O) O (Rt (BL (decide (a.G3=b.G3))) O (JLo (.dptr [G0 a.Tier,U8 a.Half]) [] O .sct G (fun hc=>Gd Yd O O O) O (JLo (G0 a.Tier) [11] O .sct ⟨Ua,G⟩ (fun hc=>Gj Gg O O O) O (JLo (.dptr [G0 b.Tier,U8 b.Half]) [] O .sct G (fun hc=>Gd Yd O O O) O (JLo (G0 b.Tier) [13] O .sct ⟨Ua,G⟩ (fun hc=>Gj Gg O O O) O (JLo (BL (decide (b.Tier < a.Tier))) [12,14] O .sct ⟨Ua,Ua,G⟩ (fun hc=>Gae O O O) O (JLh (BL ((decide (a.G3=b.G3))&&(decide (b.Tier < a.Tier)))) (Q1 O O O O) O (Rt (BL ((decide (a.G3=b.G3))&&(decide (b.Tier < a.Tier)))) O ?_)))))))))))))
 refine JLo (.dptr [U8 a.Half]) [] O .sct G (fun hc=>Gd Qq O O O) O (JLo (U8 a.Half) [18] O .sct ⟨Ua,G⟩ (fun hc=>Gj Hy O O O) O (JLo (.dptr [U8 b.Half]) [] O .sct G (fun hc=>Gd Qq O O O) O (JLo (U8 b.Half) [20] O .sct ⟨Ua,G⟩ (fun hc=>Gj Hy O O O) O ?_)))
 obtain⟨r3,hr3,h⟩:=Gf h
 refine JLo (BL r3) [19,21] O .sct ⟨Ua,Ua,G⟩ (fun hc=>Gu (args:=[U8 a.Half,U8 b.Half]) O (H29 a.Half b.Half r3 (H6 hc hr3)) J2b ⟨O,O,O,O,G⟩) O (JLh (BL (((decide (a.G3=b.G3))&&(decide (b.Tier < a.Tier)))&&r3)) (Q1 O O O O) O (Rt (BL (((decide (a.G3=b.G3))&&(decide (b.Tier < a.Tier)))&&r3)) O (G7 (hK2 (Gw (fin1 BL h))))))

def Yh (l:List Stowed) (id_:Int):Option ((List Int)×Int):=
 bnd (Ro l id_) fun r3=>
 bif decide (r3 < 0) then
 (some ([],6))
 else
 (each (fun y30 i30 (s30:(List Int)) nx30=>
   jp (fun kj33=>
    Y9 l r3 fun y36=>
    bnd (G9f y30.Slot y36.Slot) fun r38=>
    bif r38 then
    (need (decide ((s30.length+[y30.Gb].length)*8≤140737488355328∧s30.length+[y30.Gb].length≤maxLen)) <|
     kj33 (s30++[y30.Gb]))
    else
    (kj33 s30)) fun(j33:(List Int))=>
   nx30 j33)
  (fun(s30:(List Int))=>
   some (s30,0)) l 0 [])
theorem G7c (l:List Stowed) (id_:Int) (r:(List Int)×Int) (h:Yh l id_=some r):Pure Ek 11 [E1 l,G0 id_] (·=.tup [E0 r.1,G0 r.2]):=by
 unfold Yh at h
 refine H7 [.tmp 4,.tmp 5] Tryz.func11 O O (Jr fun hK1=>(JLh (E0 ([]:List Int)) (Hk 1 O O) O (Rt (G0 0) O (G7 (hK1 (Jr fun hK2=>(Rt (E1 l) O (Rt (G0 id_) O ?_))))))))
 obtain⟨r3,hr3,h⟩:=Gf h
 refine JLh (G0 r3) (Gu O (G25 l id_ r3 hr3) G86 ⟨O,O,O,O,G⟩) O (Rt (G0 r3) O (G7 (hK2 (Js fun hK4=>Jr fun hK5=>(Rt (G0 r3) O (JLh (BL (decide (r3 < 0))) (Q0 O O O) O (G7 (hK5 (JCc O h (fun h hb=>?_) (fun h hb=>?_))))))))))
 ·
  refine Jr fun hK6=>(JLh (E0 ([]:List Int)) (Hk 1 O O) O (Rt (G0 6) O (G7 (hK6 (Gw (⟨[E0 ([]:List Int),G0 6],[],G,O,⟨⟨_,O,.conv (.same O)⟩,⟨_,O,.conv (.same O)⟩,G⟩,O,congrArg (fun r:(List Int)×Int=>(.tup [E0 r.1,G0 r.2]:AV)) (Option.some.inj h)⟩))))))
 ·
  refine Gs (hK4 (Jr fun hK7=>(JLh (OW 1040 1 G0 ([]:List Int)) (G81 1040 3 1 O O O) O (G7 (hK7 (Js fun hK8=>Jr fun hK9=>(Rt (E1 l) O (JLl Gx O O O fun hm16=>(Rt (G0 0) O (G7 (hK9 (H1 ?_))))))))))))
  obtain⟨b30,kx30,hb30,hkx30,h⟩:=Jj h
  refine J3 (fun i30 (s30:(List Int))=>each b30 kx30 (List.drop i30 l) i30 s30=some r) (fun i30 s30=>[(0,E1 l),(6,G0 r3),(7,OW 1040 1 G0 s30),(15,E1 l),(16,Ej l.length),(17,Ej i30)]) (fun i30 s30=>[(1040,.spare 3 1 s30.length s30.length)]) (fun i30=>l.length - i30) 0 [] h ⟨(by repeat' constructor),⟨⟨_,rfl,.same⟩,G⟩,rfl⟩ ?_
  clear h
  intro i30 s30 hi30 K30 e30
  refine Jr fun hK31=>(JLh (BL (decide ((i30:Int) < (l.length:Int)))) (Q0 O O O) O (G7 (hK31 (Js fun hK32=>Gn O (fun hb=>?_) (fun hb=>?_)))))
  ·
   have hk30:=Qd hb
   obtain⟨y30,nx30,hy30,hn30,h⟩:=J4 hi30 hk30
   replace h:=Zz hb30 h
   refine Gs (hK32 ?_)
   obtain⟨kj33,hkj33,h⟩:=Yo h
   refine R9 (fun j33:(List Int)=>kj33 j33=some r) (fun j33=>[(0,E1 l),(6,G0 r3),(7,OW 1040 1 G0 j33),(15,E1 l),(16,Ej l.length),(17,Ej i30)]) (fun j33=>[(1040,.spare 3 1 j33.length j33.length)]) (fun Kj33 ej33=>?_) ?_
   ·
    refine H1 (Jr fun hK34=>(JLh (Ed y30) (Ha (f:=Stowed.av) (xs:=l) (y:=y30) O O O Gx hy30 O) O (JLh (.agg (Stowed.cs y30)) (Gh Qw O O O) O (JLh (.ptr 1041 0) (Ht 1041 4 Q4 O O) O (Hu (u:=.junk) (Hj (u:=.agg (Stowed.cs y30)) (ds:=[G0 y30.Gb,G0 y30.Slot.G3,G0 y30.Slot.Tier,U8 y30.Slot.Half]) Yv O O O O O O O O) (G7 (hK34 (Gt [(0,E1 l),(6,G0 r3),(7,OW 1040 1 G0 s30),(9,Ed y30),(15,E1 l),(16,Ej l.length),(17,Ej i30)] [(1040,.spare 3 1 s30.length s30.length)] 1041 rfl rfl rfl ⟨⟨_,rfl,.same⟩,G⟩ rfl (by repeat' (first | exact .ptr | constructor)) (Js fun hK35=>?_)))))))))
    refine Rj (l':=[(0,E1 l),(6,G0 r3),(7,OW 1040 1 G0 s30),(9,Ed y30),(15,E1 l),(16,Ej l.length),(17,Ej i30)]) (L':=[(1040,.spare 3 1 s30.length s30.length)]) ⟨(by repeat' constructor),⟨⟨_,rfl,.same⟩,G⟩,rfl⟩ ?_
    obtain⟨m37,y36,hm37,hy36,h⟩:=R3 h
    obtain⟨r38,hr38,h⟩:=Gf h
    refine JC_d0 Jx (by kernel_rfl) (Dq (.dptr ((Stowed.cs y30).drop 1)) (Gd Hq O O O) O (Dq (.agg ((Stowed.cs y30).drop 1)) (Gh Qb O O O) O (Dq (E1 l) (G5 O O) O (Dq (G0 r3) (G5 O O) O (Dq (Ed y36) (Ha (f:=Stowed.av) (xs:=l) (y:=y36) O O O Gx hy36 hm37) O (Dq (.dptr ((Stowed.cs y36).drop 1)) (Gd Hq O O O) O (Dq (.agg ((Stowed.cs y36).drop 1)) (Gh Qb O O O) O (Dq (BL r38) (Gu (args:=[.agg ((Stowed.cs y30).drop 1),.agg ((Stowed.cs y36).drop 1)]) O (M_slot_Over_w y30.Slot y36.Slot r38 hr38) Jd6 ⟨O,O,O,O,G⟩) O (Dnil (hK35 (JCc O h (fun h hb=>?_) (fun h hb=>?_))))))))))))
    ·
     refine G4 (Rt (OW 1040 1 G0 s30) O (JLh (Ed y30) (Gd Hw O O O) O (JLh (G0 y30.Gb) (Gj Gg O O O) O (JLh (E0 [y30.Gb]) (H5 (xs:=[G0 y30.Gb]) O ⟨O,O,G⟩ Gq Jm O O O O) O ?_))))
     obtain⟨ha39,h⟩:=Ja h
     refine JLh (OW 1040 1 G0 (s30++[y30.Gb])) (Y2 (f:=G0) (xs:=s30) (ys:=[y30.Gb]) O O O O Gq Z8 ha39 (fun _=>O) (.inl O) O) O (Rt (OW 1040 1 G0 (s30++[y30.Gb])) O (G7 (ej33 _ _ (s30++[y30.Gb]) h ⟨(by repeat' constructor),⟨⟨_,rfl,.same⟩,G⟩,rfl⟩)))
    ·
     refine Gs (ej33 _ _ s30 h ⟨(by repeat' constructor),⟨⟨_,rfl,.same⟩,G⟩,rfl⟩)
   ·intro j33 h
    replace h:=app1 hkj33 h
    refine G4 (JLh (G0 ((i30+1:Nat):Int)) (J0 (Hv hk30 hm16) O O O) O (Rt (G0 ((i30+1:Nat):Int)) O (G7 (e30 _ _ (i30+1) j33 (app1 hn30 h) (by omega) ⟨(by repeat' constructor),⟨⟨_,rfl,.same⟩,G⟩,rfl⟩))))
  ·
   have h:=app1 hkx30 (J5 hi30 (Hi hb))
   refine J8 (hK8 (Jr fun hK40=>(Rt (OW 1040 1 G0 s30) O (Rt (OW 1040 1 G0 s30) O (Rt (G0 0) O (G7 (hK40 (Gw (⟨[E0 s30,G0 0],[],G,O,⟨⟨_,O,.conv (.list O)⟩,⟨_,O,.conv (.same O)⟩,G⟩,O,congrArg (fun r:(List Int)×Int=>(.tup [E0 r.1,G0 r.2]:AV)) (Option.some.inj h)⟩)))))))))

def G20 (r_:Int) (p1:G3):Option Bool:=
 some (decide (r_=p1.Row))
theorem Hb2 (r_:Int) (p1:G3) (r:Bool) (h:G20 r_ p1=some r):Pure Ek 103 [G0 r_,Ee p1] (·=BL r):=by
 unfold G20 at h
 refine H7 [.tmp 3] Tryz.func103 O O (Jr fun hK1=>(Rt (BL false) O (G7 (hK1 (Jr fun hK2=>(Rt (G0 r_) O (JLh (.dptr ((G3.cs p1).drop 1)) (Gd Zv O O O) O (JLh (G0 p1.Row) (Gj Gg O O O) O (JLh (BL (decide (r_=p1.Row))) (Jf O O O) O (Rt (BL (decide (r_=p1.Row))) O (G7 (hK2 (Gw (fin1 BL h))))))))))))))

def Zr (l:List Int) (wanted:Int→Option Bool):Option (List Int):=
 each (fun y21 i21 (s21:(List Int)) nx21=>
  jp (fun kj24=>
   bnd (wanted y21) fun r27=>
   bif r27 then
   (need (decide ((s21.length+[(i21:Int)].length)*8≤140737488355328∧s21.length+[(i21:Int)].length≤maxLen)) <|
    kj24 (s21++[(i21:Int)]))
   else
   (kj24 s21)) fun(j24:(List Int))=>
  nx21 j24)
 (fun(s21:(List Int))=>
  some s21) l 0 []
theorem H64 (l:List Int) (wanted:Int→Option Bool) (wanted_f:FuncId) (wanted_c:List AV) (wanted_B:Hf Ek wanted_f=true) (wanted_d:Yn (fun _=>false) wanted_c=true) (wanted_w:∀ a0 q,wanted a0=some q→Pure Ek wanted_f ([G0 a0]++wanted_c) (·=BL q)) (r:(List Int)) (h:Zr l wanted=some r):Pure Ek 102 [E0 l,.fn wanted_f wanted_c] (·=E0 r):=by
 unfold Zr at h
 refine H7 [.tmp 4] Tryz.func102 O O (Jr fun hK1=>(JLh (E0 ([]:List Int)) (Hk 1 O O) O (G7 (hK1 (Jr fun hK2=>(JLh (OW 1130 1 G0 ([]:List Int)) (G81 1130 3 1 O O O) O (G7 (hK2 (Js fun hK3=>Jr fun hK4=>(Rt (E0 l) O (JLl Gq O O O fun hm9=>(Rt (G0 0) O (G7 (hK4 (H1 ?_)))))))))))))))
 obtain⟨b21,kx21,hb21,hkx21,h⟩:=Jj h
 refine J3 (fun i21 (s21:(List Int))=>each b21 kx21 (List.drop i21 l) i21 s21=some r) (fun i21 s21=>[(1,.fn wanted_f wanted_c),(5,OW 1130 1 G0 s21),(8,E0 l),(9,Ej l.length),(10,Ej i21)]) (fun i21 s21=>[(1130,.spare 3 1 s21.length s21.length)]) (fun i21=>l.length - i21) 0 [] h ⟨⟨.same (Qc _ _ wanted_d),.same O,.same O,.same O,.same O,G⟩,⟨⟨_,O,.same⟩,G⟩,O⟩ ?_
 clear h
 intro i21 s21 hi21 K21 e21
 refine Jr fun hK22=>(JLh (BL (decide ((i21:Int) < (l.length:Int)))) (Q0 O O O) O (G7 (hK22 (Js fun hK23=>Gn O (fun hb=>?_) (fun hb=>?_)))))
 ·
  have hk21:=Qd hb
  obtain⟨y21,nx21,hy21,hn21,h⟩:=J4 hi21 hk21
  replace h:=Zz hb21 h
  refine Gs (hK23 ?_)
  obtain⟨kj24,hkj24,h⟩:=Yo h
  refine R9 (fun j24:(List Int)=>kj24 j24=some r) (fun j24=>[(1,.fn wanted_f wanted_c),(5,OW 1130 1 G0 j24),(8,E0 l),(9,Ej l.length),(10,Ej i21)]) (fun j24=>[(1130,.spare 3 1 j24.length j24.length)]) (fun Kj24 ej24=>?_) ?_
  ·
   refine H1 (Jr fun hK25=>(Rt (Ej i21) O (JLh (.dptr [G0 y21]) (Ha (f:=G0) (xs:=l) (y:=y21) O O O Gq hy21 O) O (JLh (G0 y21) (Gj Gg O O O) O (Rt (Ej i21) O (Rt (G0 y21) O (G7 (hK25 (Jr fun hK26=>(Rt (.fn wanted_f wanted_c) O (Rt (G0 y21) O ?_)))))))))))
   obtain⟨r27,hr27,h⟩:=Gf h
   refine JLh (BL r27) (G10 (args:=[G0 y21]) (caps:=wanted_c) O O (wanted_w y21 _ hr27) wanted_B ⟨O,O,G⟩ wanted_d) O (G7 (hK26 (JCc O h (fun h hb=>?_) (fun h hb=>?_))))
   ·
    refine G4 (Rt (OW 1130 1 G0 s21) O (Rt (Ej i21) O (JLh (E0 [(i21:Int)]) (H5 (xs:=[Ej i21]) O ⟨O,O,G⟩ Gq Jm O O O O) O ?_)))
    obtain⟨ha28,h⟩:=Ja h
    refine JLh (OW 1130 1 G0 (s21++[(i21:Int)])) (Y2 (f:=G0) (xs:=s21) (ys:=[(i21:Int)]) O O O O Gq Z8 ha28 (fun _=>O) (.inl O) O) O (Rt (OW 1130 1 G0 (s21++[(i21:Int)])) O (G7 (ej24 _ _ (s21++[(i21:Int)]) h ⟨⟨.same (Qc _ _ wanted_d),.same O,.same O,.same O,.same O,G⟩,⟨⟨_,O,.same⟩,G⟩,O⟩)))
   ·
    refine Gs (ej24 _ _ s21 h ⟨⟨.same (Qc _ _ wanted_d),.same O,.same O,.same O,.same O,G⟩,⟨⟨_,O,.same⟩,G⟩,O⟩)
  ·intro j24 h
   replace h:=app1 hkj24 h
   refine G4 (JLh (G0 ((i21+1:Nat):Int)) (J0 (Hv hk21 hm9) O O O) O (Rt (G0 ((i21+1:Nat):Int)) O (G7 (e21 _ _ (i21+1) j24 (app1 hn21 h) (by omega) ⟨⟨.same (Qc _ _ wanted_d),.same rfl,.same rfl,.same rfl,.same rfl,G⟩,⟨⟨_,rfl,.same⟩,G⟩,rfl⟩))))
 ·
  have h:=app1 hkx21 (J5 hi21 (Hi hb))
  refine J8 (hK3 (Jr fun hK29=>(Rt (OW 1130 1 G0 s21) O (Rt (OW 1130 1 G0 s21) O (G7 (hK29 (Gw (fin1l (fun r:(List Int)=>(E0 r:AV)) h))))))))

def G29 (x:G9) (c:G3):Option Bool:=
 bnd (bif decide (x.Bay=c.Bay) then Zr x.Rows (fun z0=>G20 z0 c) else some default) fun r3=>
 some ((decide (x.Bay=c.Bay))&&(decide (0 < (r3.length:Int))))
theorem H2b (x:G9) (c:G3) (r:Bool) (h:G29 x c=some r):Pure Ek 82 [.agg [G0 x.Bay,E0 x.Rows],.agg (G3.cs c)] (·=BL r):=by
 unfold G29 at h
 refine H7 [.tmp 4] Tryz.func82 O O (Jr fun hK1=>(JLh (.ptr 1122 0) (Q9 (cs:=[G0 x.Bay,E0 x.Rows]) 1122 O O O O O) O (JLh (.ptr 1123 0) (Q9 (cs:=(G3.cs c)) 1123 O O O O O) O (Rt (BL false) O (G7 (hK1 (Gt [(2,.dptr [G0 x.Bay,E0 x.Rows]),(3,.ptr 1123 0)] [(1123,.box 55 (G3.cs c))] 1122 rfl rfl rfl ⟨⟨_,rfl,.boxEq rfl rfl⟩,G⟩ rfl (by exact⟨.ptr,.conv (.same rfl),G⟩) ?_)))))))
 refine Gt [(2,.dptr [G0 x.Bay,E0 x.Rows]),(3,Ee c)] [] 1123 rfl rfl rfl G rfl (by exact⟨.conv (.same rfl),.ptr,G⟩) ?_
 refine Jr fun hK2=>(JLh (.dptr [G0 x.Bay,E0 x.Rows]) (Gd Z4 O O O) O (JLh (G0 x.Bay) (Gj Gg O O O) O (JLh (Ee c) (Gd Zw O O O) O (JLh (G0 c.Bay) (Gj Gg O O O) O (JLh (BL (decide (x.Bay=c.Bay))) (Jf O O O) O (Rt (BL (decide (x.Bay=c.Bay))) O (JLo (.dptr [E0 x.Rows]) [] O .sct G (fun hc=>Gd Yb O O O) O (JLo (E0 x.Rows) [11] O .sct ⟨Ua,G⟩ (fun hc=>Gj R2 O O O) O (JLo (.fn 103 [.dptr (G3.cs c)]) [] O .sct G (fun hc=>Zj (cs:=[.dptr (G3.cs c)]) O O) O ?_)))))))))
 obtain⟨r3,hr3,h⟩:=Gf h
 refine JLo (E0 r3) [12,13] O .sct ⟨Ua,Ua,G⟩ (fun hc=>Gu (args:=[E0 x.Rows,.fn 103 [.dptr (G3.cs c)]]) O (H64 x.Rows (fun z0=>G20 z0 c) 103 [.dptr (G3.cs c)] J97 O (fun z0 q hq=>Hb2 z0 c q hq) r3 (H6 hc hr3)) J98 ⟨O,O,O,O,G⟩) O (JLo (Ej r3.length) [14] O .sct ⟨Ua,G⟩ (fun hc=>Z1 (f:=G0) (xs:=r3) Gq O O) O (JLo (BL (decide (0 < (r3.length:Int)))) [15] O .sct ⟨Ua,G⟩ (fun hc=>Gae O O O) O (JLh (BL ((decide (x.Bay=c.Bay))&&(decide (0 < (r3.length:Int))))) (Q1 O O O O) O (Rt (BL ((decide (x.Bay=c.Bay))&&(decide (0 < (r3.length:Int))))) O (G7 (hK2 ?_))))))
 refine Gw (fin1 BL h)

def Zb (x:G9) (p1:Gr) (p2:Int):Option Bool:=
 Y9 p1.Columns p2 fun y3=>
 bnd (G29 x y3) fun r5=>
 some r5
theorem H8b (x:G9) (p1:Gr) (p2:Int) (r:Bool) (h:Zb x p1 p2=some r):Pure Ek 81 [.agg [G0 x.Bay,E0 x.Rows],Ec p1,.dptr [G0 p2]] (·=BL r):=by
 unfold Zb at h
 refine H7 [.tmp 4] Tryz.func81 O O (Jr fun hK1=>(JLh (.ptr 1121 0) (Q9 (cs:=[G0 x.Bay,E0 x.Rows]) 1121 O O O O O) O (Rt (BL false) O (G7 (hK1 (Gt [(1,Ec p1),(2,.dptr [G0 p2]),(3,.dptr [G0 x.Bay,E0 x.Rows])] [] 1121 rfl rfl rfl G rfl (by exact⟨.conv (.same rfl),.conv (.same rfl),.ptr,G⟩) (Js fun hK2=>?_)))))))
 obtain⟨m4,y3,hm4,hy3,h⟩:=R3 h
 obtain⟨r5,hr5,h⟩:=Gf h
 refine JC_d0 Jx (by kernel_rfl) (Dq (.agg [G0 x.Bay,E0 x.Rows]) (Gh Gfa O O O) O (Dq (Ec p1) (Gd Ho O O O) O (Dq (E7 p1.Columns) (Gj J1 O O O) O (Dq (G0 p2) (Gj Gg O O O) O (Dq (Ee y3) (Ha (f:=G3.av) (xs:=p1.Columns) (y:=y3) O O O Hs hy3 hm4) O (Dq (.agg (G3.cs y3)) (Gh Ys O O O) O (Dq (BL r5) (Gu (args:=[.agg [G0 x.Bay,E0 x.Rows],.agg (G3.cs y3)]) O (H2b x y3 r5 hr5) J26 ⟨O,O,O,O,G⟩) O (Dq (BL r5) (G8 O O) O (Dnil (hK2 (Gw (fin1 BL h))))))))))))

def Y0 (l:List G9) (wanted:G9→Option Bool):Option (List Int):=
 each (fun y21 i21 (s21:(List Int)) nx21=>
  jp (fun kj24=>
   bnd (wanted y21) fun r27=>
   bif r27 then
   (need (decide ((s21.length+[(i21:Int)].length)*8≤140737488355328∧s21.length+[(i21:Int)].length≤maxLen)) <|
    kj24 (s21++[(i21:Int)]))
   else
   (kj24 s21)) fun(j24:(List Int))=>
  nx21 j24)
 (fun(s21:(List Int))=>
  some s21) l 0 []
theorem Gf9 (l:List G9) (wanted:G9→Option Bool) (wanted_f:FuncId) (wanted_c:List AV) (wanted_B:Hf Ek wanted_f=true) (wanted_d:Yn (fun _=>false) wanted_c=true) (wanted_w:∀ a0 q,wanted a0=some q→Pure Ek wanted_f ([.agg [G0 a0.Bay,E0 a0.Rows]]++wanted_c) (·=BL q)) (r:(List Int)) (h:Y0 l wanted=some r):Pure Ek 80 [E3 l,.fn wanted_f wanted_c] (·=E0 r):=by
 unfold Y0 at h
 refine H7 [.tmp 4] Tryz.func80 O O (Jr fun hK1=>(JLh (E0 ([]:List Int)) (Hk 1 O O) O (G7 (hK1 (Jr fun hK2=>(JLh (OW 1119 1 G0 ([]:List Int)) (G81 1119 3 1 O O O) O (G7 (hK2 (Js fun hK3=>Jr fun hK4=>(Rt (E3 l) O (JLl J7 O O O fun hm9=>(Rt (G0 0) O (G7 (hK4 (H1 ?_)))))))))))))))
 obtain⟨b21,kx21,hb21,hkx21,h⟩:=Jj h
 refine J3 (fun i21 (s21:(List Int))=>each b21 kx21 (List.drop i21 l) i21 s21=some r) (fun i21 s21=>[(1,.fn wanted_f wanted_c),(5,OW 1119 1 G0 s21),(8,E3 l),(9,Ej l.length),(10,Ej i21)]) (fun i21 s21=>[(1119,.spare 3 1 s21.length s21.length)]) (fun i21=>l.length - i21) 0 [] h ⟨⟨.same (Qc _ _ wanted_d),.same O,.same O,.same O,.same O,G⟩,⟨⟨_,O,.same⟩,G⟩,O⟩ ?_
 clear h
 intro i21 s21 hi21 K21 e21
 refine Jr fun hK22=>(JLh (BL (decide ((i21:Int) < (l.length:Int)))) (Q0 O O O) O (G7 (hK22 (Js fun hK23=>Gn O (fun hb=>?_) (fun hb=>?_)))))
 ·
  have hk21:=Qd hb
  obtain⟨y21,nx21,hy21,hn21,h⟩:=J4 hi21 hk21
  replace h:=Zz hb21 h
  refine Gs (hK23 ?_)
  obtain⟨kj24,hkj24,h⟩:=Yo h
  refine R9 (fun j24:(List Int)=>kj24 j24=some r) (fun j24=>[(1,.fn wanted_f wanted_c),(5,OW 1119 1 G0 j24),(8,E3 l),(9,Ej l.length),(10,Ej i21)]) (fun j24=>[(1119,.spare 3 1 j24.length j24.length)]) (fun Kj24 ej24=>?_) ?_
  ·
   refine H1 (Jr fun hK25=>(Rt (Ej i21) O (JLh (.dptr [G0 y21.Bay,E0 y21.Rows]) (Ha (f:=G9.av) (xs:=l) (y:=y21) O O O J7 hy21 O) O (JLh (.agg [G0 y21.Bay,E0 y21.Rows]) (Gh Gfa O O O) O (JLh (.ptr 1120 0) (Ht 1120 2 G9a O O) O (Rt (Ej i21) O (Hu (u:=.junk) (Hj (u:=.agg [G0 y21.Bay,E0 y21.Rows]) (ds:=[G0 y21.Bay,E0 y21.Rows]) J17 O O O O O O O O) (G7 (hK25 ?_)))))))))
   refine Gt [(1,.fn wanted_f wanted_c),(5,OW 1119 1 G0 s21),(6,Ej i21),(7,.dptr [G0 y21.Bay,E0 y21.Rows]),(8,E3 l),(9,Ej l.length),(10,Ej i21)] [(1119,.spare 3 1 s21.length s21.length)] 1120 rfl rfl rfl ⟨⟨_,rfl,.same⟩,G⟩ rfl (by exact⟨.conv (.same (Qc _ _ wanted_d)),.conv (.same rfl),.conv (.same rfl),.ptr,.conv (.same rfl),.conv (.same rfl),.conv (.same rfl),G⟩) (Jr fun hK26=>(Rt (.fn wanted_f wanted_c) O (JLh (.agg [G0 y21.Bay,E0 y21.Rows]) (Gh Gfa O O O) O ?_)))
   obtain⟨r27,hr27,h⟩:=Gf h
   refine JLh (BL r27) (G10 (args:=[.agg [G0 y21.Bay,E0 y21.Rows]]) (caps:=wanted_c) O O (wanted_w y21 _ hr27) wanted_B ⟨O,O,G⟩ wanted_d) O (G7 (hK26 (JCc O h (fun h hb=>?_) (fun h hb=>?_))))
   ·
    refine G4 (Rt (OW 1119 1 G0 s21) O (Rt (Ej i21) O (JLh (E0 [(i21:Int)]) (H5 (xs:=[Ej i21]) O ⟨O,O,G⟩ Gq Jm O O O O) O ?_)))
    obtain⟨ha28,h⟩:=Ja h
    refine JLh (OW 1119 1 G0 (s21++[(i21:Int)])) (Y2 (f:=G0) (xs:=s21) (ys:=[(i21:Int)]) O O O O Gq Z8 ha28 (fun _=>O) (.inl O) O) O (Rt (OW 1119 1 G0 (s21++[(i21:Int)])) O (G7 (ej24 _ _ (s21++[(i21:Int)]) h ⟨⟨.same (Qc _ _ wanted_d),.same O,.same O,.same O,.same O,G⟩,⟨⟨_,O,.same⟩,G⟩,O⟩)))
   ·
    refine Gs (ej24 _ _ s21 h ⟨⟨.same (Qc _ _ wanted_d),.same O,.same O,.same O,.same O,G⟩,⟨⟨_,O,.same⟩,G⟩,O⟩)
  ·intro j24 h
   replace h:=app1 hkj24 h
   refine G4 (JLh (G0 ((i21+1:Nat):Int)) (J0 (Hv hk21 hm9) O O O) O (Rt (G0 ((i21+1:Nat):Int)) O (G7 (e21 _ _ (i21+1) j24 (app1 hn21 h) (by omega) ⟨⟨.same (Qc _ _ wanted_d),.same rfl,.same rfl,.same rfl,.same rfl,G⟩,⟨⟨_,rfl,.same⟩,G⟩,rfl⟩))))
 ·
  have h:=app1 hkx21 (J5 hi21 (Hi hb))
  refine J8 (hK3 (Jr fun hK29=>(Rt (OW 1119 1 G0 s21) O (Rt (OW 1119 1 G0 s21) O (G7 (hK29 (Gw (fin1l (fun r:(List Int)=>(E0 r:AV)) h))))))))

def Zi (s:Gr) (column:Int):Option Int:=
 bif ((decide (column < 0))||(decide ((s.Columns.length:Int)≤column))) then
 (some (-1))
 else
 (bnd (Y0 s.Covers (fun z0=>Zb z0 s column)) fun r6=>
  bif decide ((r6.length:Int)=0) then
  (some (-1))
  else
  (Y9 r6 0 fun y11=>
   some y11))
theorem H03 (s:Gr) (column:Int) (r:Int) (h:Zi s column=some r):Pure Ek 52 [.agg (Gr.cs s),G0 column] (·=G0 r):=by
 unfold Zi at h
 refine H7 [.tmp 4] Tryz.func52 O O (Jr fun hK1=>(JLh (.ptr 1104 0) (Q9 (cs:=(Gr.cs s)) 1104 O O O O O) O (JLh (.ptr 1105 0) (Q9 (cs:=[G0 column]) 1105 O O O O O) O (Rt (G0 0) O (G7 (hK1 ?_))))))
 refine Gt [(2,Ec s),(3,.ptr 1105 0)] [(1105,.box 3 [G0 column])] 1104 rfl rfl rfl ⟨⟨_,rfl,.boxEq rfl rfl⟩,G⟩ rfl (by exact⟨.ptr,.conv (.same rfl),G⟩) (Gt [(2,Ec s),(3,.dptr [G0 column])] [] 1105 rfl rfl rfl G rfl (by exact⟨.conv (.same rfl),.ptr,G⟩) (Js fun hK2=>?_))
 refine Jr fun hK3=>(JLh (G0 column) (Gj Gg O O O) O (JLh (BL (decide (column < 0))) (Q0 O O O) O (Rt (BL (decide (column < 0))) O (JLo (G0 column) [] O .scf G (fun hc=>Gj Gg O O O) O (JLo (Ec s) [] O .scf G (fun hc=>Gd Ho O O O) O (JLo (E7 s.Columns) [10] O .scf ⟨Ua,G⟩ (fun hc=>Gj J1 O O O) O (JLo (Ej s.Columns.length) [11] O .scf ⟨Ua,G⟩ (fun hc=>Z1 (f:=G3.av) (xs:=s.Columns) Hs O O) O (JLo (BL (decide ((s.Columns.length:Int)≤column))) [9,12] O .scf ⟨Ua,Ua,G⟩ (fun hc=>Gaf O O O) O (JLh (BL ((decide (column < 0))||(decide ((s.Columns.length:Int)≤column)))) (G11 O O O O) O (G7 (hK3 ?_)))))))))))
 refine JCc O h (fun h hb=>?_) (fun h hb=>?_)
 ·
  refine Jr fun hK4=>(Rt (G0 (-1)) O (G7 (hK4 (Gw (fin1 G0 h)))))
 ·
  refine Gs (hK2 ?_)
  refine Jr fun hK5=>(JLh (.dptr [E3 s.Covers,G0 s.Light.Kilos,G0 s.Light.X,G0 s.Light.Y,G0 s.Light.Z,E4 s.Rows,E5 s.Frames,E6 s.Tanks,G0 s.G2.Tolerance,G0 s.G2.Trim,G0 s.G2.List_,G0 s.G2.Stability]) (Gd Hx O O O) O (JLh (E3 s.Covers) (Gj J9 O O O) O (JLh (.fn 81 [.dptr (Gr.cs s),.dptr [G0 column]]) (Zj (cs:=[.dptr (Gr.cs s),.dptr [G0 column]]) O O) O ?_)))
  obtain⟨r6,hr6,h⟩:=Gf h
  refine JLh (E0 r6) (Gu O (Gf9 s.Covers (fun z0=>Zb z0 s column) 81 [.dptr (Gr.cs s),.dptr [G0 column]] Jbc O (fun z0 q hq=>H8b z0 s column q hq) r6 hr6) Jbd ⟨O,O,O,O,G⟩) O (Rt (E0 r6) O (G7 (hK5 (Js fun hK7=>Jr fun hK8=>(Rt (E0 r6) O (JLl Gq O O O fun hm20=>(JLh (BL (decide ((r6.length:Int)=0))) (Jf O O O) O (G7 (hK8 (JCc O h (fun h hb=>?_) (fun h hb=>?_)))))))))))
  ·
   refine Jr fun hK9=>(Rt (G0 (-1)) O (G7 (hK9 (Gw (fin1 G0 h)))))
  ·
   refine Gs (hK7 (Jr fun hK10=>(Rt (E0 r6) O ?_)))
   obtain⟨m12,y11,hm12,hy11,h⟩:=R3 h
   refine JLh (.dptr [G0 y11]) (Ha (f:=G0) (xs:=r6) (y:=y11) O O O Gq hy11 hm12) O (JLh (G0 y11) (Gj Gg O O O) O (Rt (G0 y11) O (G7 (hK10 (Gw (fin1 G0 h))))))

def G46 (s:Gr) (column:Int):Option Int:=
 Y9 s.Columns column fun y4=>
 bif y4.Deck then
 (some (-1))
 else
 (bnd (Zi s column) fun r8=>
  some r8)
theorem H4b (s:Gr) (column:Int) (r:Int) (h:G46 s column=some r):Pure Ek 27 [.agg (Gr.cs s),G0 column] (·=G0 r):=by
 unfold G46 at h
 refine H7 [.tmp 4] Tryz.func27 O O (Jr fun hK1=>(JLh (.ptr 1069 0) (Q9 (cs:=(Gr.cs s)) 1069 O O O O O) O (Rt (G0 0) O (G7 (hK1 (Gt [(1,G0 column),(2,Ec s)] [] 1069 rfl rfl rfl G rfl (by exact⟨.conv (.same rfl),.ptr,G⟩) (Js fun hK2=>?_)))))))
 refine Jr fun hK3=>(JLh (Ec s) (Gd Ho O O O) O (JLh (E7 s.Columns) (Gj J1 O O O) O (Rt (G0 column) O ?_)))
 obtain⟨m5,y4,hm5,hy4,h⟩:=R3 h
 refine JLh (Ee y4) (Ha (f:=G3.av) (xs:=s.Columns) (y:=y4) O O O Hs hy4 hm5) O (JLh (.dptr ((G3.cs y4).drop 2)) (Gd Rf O O O) O (JLh (BL y4.Deck) (Gj Jw O O O) O (G7 (hK3 (JCc O h (fun h hb=>?_) (fun h hb=>?_))))))
 ·
  refine Jr fun hK6=>(Rt (G0 (-1)) O (G7 (hK6 (Gw (fin1 G0 h)))))
 ·
  refine Gs (hK2 (Jr fun hK7=>(JLh (.agg (Gr.cs s)) (Gh H3 O O O) O (Rt (G0 column) O ?_))))
  obtain⟨r8,hr8,h⟩:=Gf h
  refine JLh (G0 r8) (Gu O (H03 s column r8 hr8) J2d ⟨O,O,O,O,G⟩) O (Rt (G0 r8) O (G7 (hK7 (Gw (fin1 G0 h)))))

def G39 (c:G3) (p1:Bool) (p2:Gr) (p3:Int):Option Bool:=
 bnd (bif (c.Deck==p1) then Y9 p2.Covers p3 some else some default) fun y3=>
 bnd (bif (c.Deck==p1) then G29 y3 c else some default) fun r4=>
 some ((c.Deck==p1)&&r4)
theorem Hd6 (c:G3) (p1:Bool) (p2:Gr) (p3:Int) (r:Bool) (h:G39 c p1 p2 p3=some r):Pure Ek 104 [.agg (G3.cs c),.dptr [BL p1],Ec p2,.dptr [G0 p3]] (·=BL r):=by
 unfold G39 at h
 refine H7 [.tmp 5] Tryz.func104 O O (Jr fun hK1=>(JLh (.ptr 1131 0) (Q9 (cs:=(G3.cs c)) 1131 O O O O O) O (Rt (BL false) O (G7 (hK1 (Gt [(1,.dptr [BL p1]),(2,Ec p2),(3,.dptr [G0 p3]),(4,Ee c)] [] 1131 rfl rfl rfl G rfl (by repeat' (first | exact .ptr | constructor)) (Js fun hK2=>?_)))))))
 obtain⟨y3,hy3,h⟩:=Gf h
 obtain⟨r4,hr4,h⟩:=Gf h
 refine JC_d0 Jx (by kernel_rfl) (Dq (.dptr [BL c.Deck,G0 c.Tiers,G0 c.Height,G0 c.Kilos20,G0 c.Kilos40,G0 c.Lash,E0 c.Plugs,G0 c.X,G0 c.Y,G0 c.Z]) (Gd Rf O O O) O (Dq (BL c.Deck) (Gj Jw O O O) O (Dq (BL p1) (Gj Jw O O O) O (Dq (BL (c.Deck==p1)) (Hb8 Gbd O O O) O (Dq (BL (c.Deck==p1)) (G5 O O) O (Do (.dptr ((Gr.cs p2).drop 1)) [] O .sct G (fun hc=>Gd Hx O O O) O (Do (E3 p2.Covers) [11] O .sct ⟨Ua,G⟩ (fun hc=>Gj J9 O O O) O (Do (G0 p3) [] O .sct G (fun hc=>Gj Gg O O O) O (Do (.dptr [G0 y3.Bay,E0 y3.Rows]) [12,13] O .sct ⟨Ua,Ua,G⟩ (fun hc=>(match Za (H6 hc hy3) with | ⟨_,hm_,hy_⟩=>Ha (f:=G9.av) (xs:=p2.Covers) (y:=y3) O O O J7 hy_ hm_)) O (Do (.agg [G0 y3.Bay,E0 y3.Rows]) [14] O .sct ⟨Ua,G⟩ (fun hc=>Gh Gfa O O O) O (Do (.agg (G3.cs c)) [] O .sct G (fun hc=>Gh Ys O O O) O (Do (BL r4) [15,16] O .sct ⟨Ua,Ua,G⟩ (fun hc=>Gu (args:=[.agg [G0 y3.Bay,E0 y3.Rows],.agg (G3.cs c)]) O (H2b y3 c r4 (H6 hc hr4)) J26 ⟨O,O,O,O,G⟩) O (Dq (BL ((c.Deck==p1)&&r4)) (Q1 O O O O) O ?_)))))))))))))
 refine Dq (BL ((c.Deck==p1)&&r4)) (G8 O O) O (Dnil (hK2 (Gw (fin1 BL h))))

def Qg (l:List G3) (wanted:G3→Option Bool):Option (List Int):=
 each (fun y21 i21 (s21:(List Int)) nx21=>
  jp (fun kj24=>
   bnd (wanted y21) fun r27=>
   bif r27 then
   (need (decide ((s21.length+[(i21:Int)].length)*8≤140737488355328∧s21.length+[(i21:Int)].length≤maxLen)) <|
    kj24 (s21++[(i21:Int)]))
   else
   (kj24 s21)) fun(j24:(List Int))=>
  nx21 j24)
 (fun(s21:(List Int))=>
  some s21) l 0 []
theorem G4d (l:List G3) (wanted:G3→Option Bool) (wanted_f:FuncId) (wanted_c:List AV) (wanted_B:Hf Ek wanted_f=true) (wanted_d:Yn (fun _=>false) wanted_c=true) (wanted_w:∀ a0 q,wanted a0=some q→Pure Ek wanted_f ([.agg (G3.cs a0)]++wanted_c) (·=BL q)) (r:(List Int)) (h:Qg l wanted=some r):Pure Ek 77 [E7 l,.fn wanted_f wanted_c] (·=E0 r):=by
 unfold Qg at h
 refine H7 [.tmp 4] Tryz.func77 O O (Jr fun hK1=>(JLh (E0 ([]:List Int)) (Hk 1 O O) O (G7 (hK1 (Jr fun hK2=>(JLh (OW 1115 1 G0 ([]:List Int)) (G81 1115 3 1 O O O) O (G7 (hK2 (Js fun hK3=>Jr fun hK4=>(Rt (E7 l) O (JLl Hs O O O fun hm9=>(Rt (G0 0) O (G7 (hK4 (H1 ?_)))))))))))))))
 obtain⟨b21,kx21,hb21,hkx21,h⟩:=Jj h
 refine J3 (fun i21 (s21:(List Int))=>each b21 kx21 (List.drop i21 l) i21 s21=some r) (fun i21 s21=>[(1,.fn wanted_f wanted_c),(5,OW 1115 1 G0 s21),(8,E7 l),(9,Ej l.length),(10,Ej i21)]) (fun i21 s21=>[(1115,.spare 3 1 s21.length s21.length)]) (fun i21=>l.length - i21) 0 [] h ⟨⟨.same (Qc _ _ wanted_d),.same O,.same O,.same O,.same O,G⟩,⟨⟨_,O,.same⟩,G⟩,O⟩ ?_
 clear h
 intro i21 s21 hi21 K21 e21
 refine Jr fun hK22=>(JLh (BL (decide ((i21:Int) < (l.length:Int)))) (Q0 O O O) O (G7 (hK22 (Js fun hK23=>Gn O (fun hb=>?_) (fun hb=>?_)))))
 ·
  have hk21:=Qd hb
  obtain⟨y21,nx21,hy21,hn21,h⟩:=J4 hi21 hk21
  replace h:=Zz hb21 h
  refine Gs (hK23 ?_)
  obtain⟨kj24,hkj24,h⟩:=Yo h
  refine R9 (fun j24:(List Int)=>kj24 j24=some r) (fun j24=>[(1,.fn wanted_f wanted_c),(5,OW 1115 1 G0 j24),(8,E7 l),(9,Ej l.length),(10,Ej i21)]) (fun j24=>[(1115,.spare 3 1 j24.length j24.length)]) (fun Kj24 ej24=>?_) ?_
  ·
   refine H1 (Jr fun hK25=>(Rt (Ej i21) O (JLh (Ee y21) (Ha (f:=G3.av) (xs:=l) (y:=y21) O O O Hs hy21 O) O (JLh (.agg (G3.cs y21)) (Gh Ys O O O) O (JLh (.ptr 1116 0) (Ht 1116 12 Z2 O O) O (Rt (Ej i21) O (Hu (u:=.junk) (Hj (u:=.agg (G3.cs y21)) (ds:=(G3.cs y21)) G5f O O O O O O O O) (G7 (hK25 ?_)))))))))
   refine Gt [(1,.fn wanted_f wanted_c),(5,OW 1115 1 G0 s21),(6,Ej i21),(7,Ee y21),(8,E7 l),(9,Ej l.length),(10,Ej i21)] [(1115,.spare 3 1 s21.length s21.length)] 1116 rfl rfl rfl ⟨⟨_,rfl,.same⟩,G⟩ rfl (by exact⟨.conv (.same (Qc _ _ wanted_d)),.conv (.same rfl),.conv (.same rfl),.ptr,.conv (.same rfl),.conv (.same rfl),.conv (.same rfl),G⟩) (Jr fun hK26=>(Rt (.fn wanted_f wanted_c) O (JLh (.agg (G3.cs y21)) (Gh Ys O O O) O ?_)))
   obtain⟨r27,hr27,h⟩:=Gf h
   refine JLh (BL r27) (G10 (args:=[.agg (G3.cs y21)]) (caps:=wanted_c) O O (wanted_w y21 _ hr27) wanted_B ⟨O,O,G⟩ wanted_d) O (G7 (hK26 (JCc O h (fun h hb=>?_) (fun h hb=>?_))))
   ·
    refine G4 (Rt (OW 1115 1 G0 s21) O (Rt (Ej i21) O (JLh (E0 [(i21:Int)]) (H5 (xs:=[Ej i21]) O ⟨O,O,G⟩ Gq Jm O O O O) O ?_)))
    obtain⟨ha28,h⟩:=Ja h
    refine JLh (OW 1115 1 G0 (s21++[(i21:Int)])) (Y2 (f:=G0) (xs:=s21) (ys:=[(i21:Int)]) O O O O Gq Z8 ha28 (fun _=>O) (.inl O) O) O (Rt (OW 1115 1 G0 (s21++[(i21:Int)])) O (G7 (ej24 _ _ (s21++[(i21:Int)]) h ⟨⟨.same (Qc _ _ wanted_d),.same O,.same O,.same O,.same O,G⟩,⟨⟨_,O,.same⟩,G⟩,O⟩)))
   ·
    refine Gs (ej24 _ _ s21 h ⟨⟨.same (Qc _ _ wanted_d),.same O,.same O,.same O,.same O,G⟩,⟨⟨_,O,.same⟩,G⟩,O⟩)
  ·intro j24 h
   replace h:=app1 hkj24 h
   refine G4 (JLh (G0 ((i21+1:Nat):Int)) (J0 (Hv hk21 hm9) O O O) O (Rt (G0 ((i21+1:Nat):Int)) O (G7 (e21 _ _ (i21+1) j24 (app1 hn21 h) (by omega) ⟨⟨.same (Qc _ _ wanted_d),.same rfl,.same rfl,.same rfl,.same rfl,G⟩,⟨⟨_,rfl,.same⟩,G⟩,rfl⟩))))
 ·
  have h:=app1 hkx21 (J5 hi21 (Hi hb))
  refine J8 (hK3 (Jr fun hK29=>(Rt (OW 1115 1 G0 s21) O (Rt (OW 1115 1 G0 s21) O (G7 (hK29 (Gw (fin1l (fun r:(List Int)=>(E0 r:AV)) h))))))))

def Gba (s:Gr) (cover:Int) (deck:Bool):Option (List Int):=
 bif ((decide (cover < 0))||(decide ((s.Covers.length:Int)≤cover))) then
 (some [])
 else
 (bnd (Qg s.Columns (fun z0=>G39 z0 deck s cover)) fun r6=>
  some r6)
theorem J69 (s:Gr) (cover:Int) (deck:Bool) (r:(List Int)) (h:Gba s cover deck=some r):Pure Ek 83 [.agg (Gr.cs s),G0 cover,BL deck] (·=E0 r):=by
 unfold Gba at h
 refine H7 [.tmp 6] Tryz.func83 O O (Jr fun hK1=>(JLh (.ptr 1124 0) (Q9 (cs:=(Gr.cs s)) 1124 O O O O O) O (JLh (.ptr 1125 0) (Q9 (cs:=[G0 cover]) 1125 O O O O O) O (JLh (.ptr 1126 0) (Q9 (cs:=[BL deck]) 1126 O O O O O) O (JLh (E0 ([]:List Int)) (Hk 1 O O) O (G7 (hK1 ?_)))))))
 refine Gt [(3,Ec s),(4,.ptr 1125 0),(5,.ptr 1126 0)] [(1125,.box 3 [G0 cover]),(1126,.box 4 [BL deck])] 1124 rfl rfl rfl ⟨⟨_,rfl,.boxEq rfl rfl⟩,⟨_,rfl,.boxEq rfl rfl⟩,G⟩ rfl (by exact⟨.ptr,.conv (.same rfl),.conv (.same rfl),G⟩) ?_
 refine Gt [(3,Ec s),(4,.dptr [G0 cover]),(5,.ptr 1126 0)] [(1126,.box 4 [BL deck])] 1125 rfl rfl rfl ⟨⟨_,rfl,.boxEq rfl rfl⟩,G⟩ rfl (by exact⟨.conv (.same rfl),.ptr,.conv (.same rfl),G⟩) ?_
 refine Gt [(3,Ec s),(4,.dptr [G0 cover]),(5,.dptr [BL deck])] [] 1126 rfl rfl rfl G rfl (by exact⟨.conv (.same rfl),.conv (.same rfl),.ptr,G⟩) (Js fun hK2=>?_)
 refine Jr fun hK3=>(JLh (G0 cover) (Gj Gg O O O) O (JLh (BL (decide (cover < 0))) (Q0 O O O) O (Rt (BL (decide (cover < 0))) O (JLo (G0 cover) [] O .scf G (fun hc=>Gj Gg O O O) O (JLo (.dptr [E3 s.Covers,G0 s.Light.Kilos,G0 s.Light.X,G0 s.Light.Y,G0 s.Light.Z,E4 s.Rows,E5 s.Frames,E6 s.Tanks,G0 s.G2.Tolerance,G0 s.G2.Trim,G0 s.G2.List_,G0 s.G2.Stability]) [] O .scf G (fun hc=>Gd Hx O O O) O (JLo (E3 s.Covers) [11] O .scf ⟨Ua,G⟩ (fun hc=>Gj J9 O O O) O (JLo (Ej s.Covers.length) [12] O .scf ⟨Ua,G⟩ (fun hc=>Z1 (f:=G9.av) (xs:=s.Covers) J7 O O) O (JLo (BL (decide ((s.Covers.length:Int)≤cover))) [10,13] O .scf ⟨Ua,Ua,G⟩ (fun hc=>Gaf O O O) O (JLh (BL ((decide (cover < 0))||(decide ((s.Covers.length:Int)≤cover)))) (G11 O O O O) O (G7 (hK3 ?_)))))))))))
 refine JCc O h (fun h hb=>?_) (fun h hb=>?_)
 ·
  refine Jr fun hK4=>(JLh (E0 ([]:List Int)) (Hk 1 O O) O (G7 (hK4 (Gw (fin1 (fun r:(List Int)=>(E0 r:AV)) h)))))
 ·
  refine Gs (hK2 ?_)
  refine Jr fun hK5=>(JLh (Ec s) (Gd Ho O O O) O (JLh (E7 s.Columns) (Gj J1 O O O) O (JLh (.fn 104 [.dptr [BL deck],Ec s,.dptr [G0 cover]]) (Zj (cs:=[.dptr [BL deck],Ec s,.dptr [G0 cover]]) O O) O ?_)))
  obtain⟨r6,hr6,h⟩:=Gf h
  refine JLh (E0 r6) (Gu O (G4d s.Columns (fun z0=>G39 z0 deck s cover) 104 [.dptr [BL deck],Ec s,.dptr [G0 cover]] J96 O (fun z0 q hq=>Hd6 z0 deck s cover q hq) r6 hr6) J27 ⟨O,O,O,O,G⟩) O (Rt (E0 r6) O (G7 (hK5 (Gw (fin1 (fun r:(List Int)=>(E0 r:AV)) h)))))

def Ga3 (s:Gr) (cover:Int):Option (List Int):=
 bnd (Gba s cover true) fun r3=>
 some r3
theorem M_ship_Upon_w (s:Gr) (cover:Int) (r:(List Int)) (h:Ga3 s cover=some r):Pure Ek 55 [.agg (Gr.cs s),G0 cover] (·=E0 r):=by
 unfold Ga3 at h
 refine H7 [.tmp 4] Tryz.func55 O O (Jr fun hK1=>(JLh (.ptr 1107 0) (Q9 (cs:=(Gr.cs s)) 1107 O O O O O) O (JLh (E0 ([]:List Int)) (Hk 1 O O) O (G7 (hK1 (Gt [(1,G0 cover),(2,Ec s)] [] 1107 rfl rfl rfl G rfl (by exact⟨.conv (.same rfl),.ptr,G⟩) ?_))))))
 refine Jr fun hK2=>(JLh (.agg (Gr.cs s)) (Gh H3 O O O) O (Rt (G0 cover) O ?_))
 obtain⟨r3,hr3,h⟩:=Gf h
 refine JLh (E0 r3) (Gu O (J69 s cover true r3 hr3) Jbb ⟨O,O,O,O,O,O,G⟩) O (Rt (E0 r3) O (G7 (hK2 (Gw (fin1 (fun r:(List Int)=>(E0 r:AV)) h)))))

def Ya (s:List Int) (v:Int):Option Int:=
 each (fun y18 i18 (s18:Unit) nx18=>
  bif decide (v=y18) then
  (some (i18:Int))
  else
  (nx18 ()))
 (fun(s18:Unit)=>
  some (-1)) s 0 ()
theorem H4e (s:List Int) (v:Int) (r:Int) (h:Ya s v=some r):Pure Ek 64 [E0 s,G0 v] (·=G0 r):=by
 unfold Ya at h
 refine H7 [.tmp 4] Tryz.func64 O O (Jr fun hK1=>(Rt (G0 0) O (G7 (hK1 (Js fun hK2=>Jr fun hK3=>(Rt (E0 s) O (JLl Gq O O O fun hm7=>(Rt (G0 0) O (G7 (hK3 (H1 ?_)))))))))))
 obtain⟨b18,kx18,hb18,hkx18,h⟩:=Jj h
 refine J3 (fun i18 (s18:Unit)=>each b18 kx18 (List.drop i18 s) i18 s18=some r) (fun i18 s18=>[(0,E0 s),(1,G0 v),(7,Ej s.length),(8,Ej i18)]) (fun i18 s18=>[]) (fun i18=>s.length - i18) 0 () h ⟨(by repeat' constructor),G,rfl⟩ ?_
 clear h
 intro i18 s18 hi18 K18 e18
 refine Jr fun hK19=>(JLh (BL (decide ((i18:Int) < (s.length:Int)))) (Q0 O O O) O (G7 (hK19 (Js fun hK20=>Gn O (fun hb=>?_) (fun hb=>?_)))))
 ·
  have hk18:=Qd hb
  obtain⟨y18,nx18,hy18,hn18,h⟩:=J4 hi18 hk18
  replace h:=Zz hb18 h
  refine Gs (hK20 (Js fun hK21=>H1 (Jr fun hK22=>(Rt (Ej i18) O (Rt (Ej i18) O (G7 (hK22 (Jr fun hK23=>(Rt (G0 v) O (Rt (E0 s) O (Rt (Ej i18) O (JLh (.dptr [G0 y18]) (Ha (f:=G0) (xs:=s) (y:=y18) O O O Gq hy18 O) O (JLh (G0 y18) (Gj Gg O O O) O (JLh (BL (decide (v=y18))) (Jf O O O) O (G7 (hK23 (JCc O h (fun h hb=>?_) (fun h hb=>?_))))))))))))))))))
  ·
   refine Jr fun hK24=>(Rt (Ej i18) O (Rt (Ej i18) O (G7 (hK24 (Gw (fin1 G0 h))))))
  ·
   refine Gs (hK21 (G4 (JLh (G0 ((i18+1:Nat):Int)) (J0 (Hv hk18 hm7) O O O) O (Rt (G0 ((i18+1:Nat):Int)) O (G7 (e18 _ _ (i18+1) () (app1 hn18 h) (by omega) ⟨(by repeat' constructor),G,rfl⟩))))))
 ·
  have h:=app1 hkx18 (J5 hi18 (Hi hb))
  refine J8 (hK2 (Jr fun hK25=>(Rt (G0 (-1)) O (G7 (hK25 (Gw (fin1 G0 h)))))))

def Qs (s:List Int) (v:Int):Option Bool:=
 bnd (Ya s v) fun r3=>
 some (decide (0≤r3))
theorem G0d (s:List Int) (v:Int) (r:Bool) (h:Qs s v=some r):Pure Ek 36 [E0 s,G0 v] (·=BL r):=by
 unfold Qs at h
 refine H7 [.tmp 4] Tryz.func36 O O (Jr fun hK1=>(Rt (BL false) O (G7 (hK1 (Jr fun hK2=>(Rt (E0 s) O (Rt (G0 v) O ?_)))))))
 obtain⟨r3,hr3,h⟩:=Gf h
 refine JLh (G0 r3) (Gu O (H4e s v r3 hr3) Jc8 ⟨O,O,O,O,G⟩) O (JLh (BL (decide (0≤r3))) (Gaf O O O) O (Rt (BL (decide (0≤r3))) O (G7 (hK2 (Gw (fin1 BL h))))))

def G69 (s:Gr) (l:List Stowed) (cover:Int):Option (List Int):=
 bnd (Ga3 s cover) fun r3=>
 each (fun y23 i23 (s23:(List Int)) nx23=>
  jp (fun kj26=>
   bnd (Qs r3 y23.Slot.G3) fun r29=>
   bif r29 then
   (need (decide ((s23.length+[y23.Gb].length)*8≤140737488355328∧s23.length+[y23.Gb].length≤maxLen)) <|
    kj26 (s23++[y23.Gb]))
   else
   (kj26 s23)) fun(j26:(List Int))=>
  nx23 j26)
 (fun(s23:(List Int))=>
  some s23) l 0 []
theorem H6c (s:Gr) (l:List Stowed) (cover:Int) (r:(List Int)) (h:G69 s l cover=some r):Pure Ek 29 [.agg (Gr.cs s),E1 l,G0 cover] (·=E0 r):=by
 unfold G69 at h
 refine H7 [.tmp 6] Tryz.func29 O O (Jr fun hK1=>(JLh (.ptr 1071 0) (Q9 (cs:=(Gr.cs s)) 1071 O O O O O) O (JLh (E0 ([]:List Int)) (Hk 1 O O) O (G7 (hK1 (Gt [(1,E1 l),(2,G0 cover),(3,Ec s)] [] 1071 rfl rfl rfl G rfl (by exact⟨.conv (.same rfl),.conv (.same rfl),.ptr,G⟩) ?_))))))
 refine Jr fun hK2=>(JLh (.agg (Gr.cs s)) (Gh H3 O O O) O (Rt (G0 cover) O ?_))
 obtain⟨r3,hr3,h⟩:=Gf h
 refine JLh (E0 r3) (Gu O (M_ship_Upon_w s cover r3 hr3) Jca ⟨O,O,O,O,G⟩) O (Rt (E0 r3) O (G7 (hK2 (Jr fun hK4=>(JLh (OW 1072 1 G0 ([]:List Int)) (G81 1072 3 1 O O O) O (G7 (hK4 (Js fun hK5=>Jr fun hK6=>(Rt (E1 l) O (JLl Gx O O O fun hm15=>(Rt (G0 0) O (G7 (hK6 (H1 ?_))))))))))))))
 obtain⟨b23,kx23,hb23,hkx23,h⟩:=Jj h
 refine J3 (fun i23 (s23:(List Int))=>each b23 kx23 (List.drop i23 l) i23 s23=some r) (fun i23 s23=>[(7,E0 r3),(8,OW 1072 1 G0 s23),(14,E1 l),(15,Ej l.length),(16,Ej i23)]) (fun i23 s23=>[(1072,.spare 3 1 s23.length s23.length)]) (fun i23=>l.length - i23) 0 [] h ⟨(by repeat' constructor),⟨⟨_,rfl,.same⟩,G⟩,rfl⟩ ?_
 clear h
 intro i23 s23 hi23 K23 e23
 refine Jr fun hK24=>(JLh (BL (decide ((i23:Int) < (l.length:Int)))) (Q0 O O O) O (G7 (hK24 (Js fun hK25=>Gn O (fun hb=>?_) (fun hb=>?_)))))
 ·
  have hk23:=Qd hb
  obtain⟨y23,nx23,hy23,hn23,h⟩:=J4 hi23 hk23
  replace h:=Zz hb23 h
  refine Gs (hK25 ?_)
  obtain⟨kj26,hkj26,h⟩:=Yo h
  refine R9 (fun j26:(List Int)=>kj26 j26=some r) (fun j26=>[(7,E0 r3),(8,OW 1072 1 G0 j26),(14,E1 l),(15,Ej l.length),(16,Ej i23)]) (fun j26=>[(1072,.spare 3 1 j26.length j26.length)]) (fun Kj26 ej26=>?_) ?_
  ·
   refine H1 (Jr fun hK27=>(JLh (Ed y23) (Ha (f:=Stowed.av) (xs:=l) (y:=y23) O O O Gx hy23 O) O (JLh (.agg (Stowed.cs y23)) (Gh Qw O O O) O (JLh (.ptr 1073 0) (Ht 1073 4 Q4 O O) O (Hu (u:=.junk) (Hj (u:=.agg (Stowed.cs y23)) (ds:=[G0 y23.Gb,G0 y23.Slot.G3,G0 y23.Slot.Tier,U8 y23.Slot.Half]) Yv O O O O O O O O) (G7 (hK27 (Gt [(7,E0 r3),(8,OW 1072 1 G0 s23),(10,Ed y23),(14,E1 l),(15,Ej l.length),(16,Ej i23)] [(1072,.spare 3 1 s23.length s23.length)] 1073 rfl rfl rfl ⟨⟨_,rfl,.same⟩,G⟩ rfl (by repeat' (first | exact .ptr | constructor)) ?_))))))))
   refine Jr fun hK28=>(Rt (E0 r3) O (JLh (.dptr ((Stowed.cs y23).drop 1)) (Gd Hq O O O) O (JLh (.dptr ((Stowed.cs y23).drop 1)) (Gd Jc O O O) O (JLh (G0 y23.Slot.G3) (Gj Gg O O O) O ?_))))
   obtain⟨r29,hr29,h⟩:=Gf h
   refine JLh (BL r29) (Gu O (G0d r3 y23.Slot.G3 r29 hr29) H77 ⟨O,O,O,O,G⟩) O (G7 (hK28 (JCc O h (fun h hb=>?_) (fun h hb=>?_))))
   ·
    refine G4 (Rt (OW 1072 1 G0 s23) O (JLh (Ed y23) (Gd Hw O O O) O (JLh (G0 y23.Gb) (Gj Gg O O O) O (JLh (E0 [y23.Gb]) (H5 (xs:=[G0 y23.Gb]) O ⟨O,O,G⟩ Gq Jm O O O O) O ?_))))
    obtain⟨ha30,h⟩:=Ja h
    refine JLh (OW 1072 1 G0 (s23++[y23.Gb])) (Y2 (f:=G0) (xs:=s23) (ys:=[y23.Gb]) O O O O Gq Z8 ha30 (fun _=>O) (.inl O) O) O (Rt (OW 1072 1 G0 (s23++[y23.Gb])) O (G7 (ej26 _ _ (s23++[y23.Gb]) h ⟨(by repeat' constructor),⟨⟨_,rfl,.same⟩,G⟩,rfl⟩)))
   ·
    refine Gs (ej26 _ _ s23 h ⟨(by repeat' constructor),⟨⟨_,rfl,.same⟩,G⟩,rfl⟩)
  ·intro j26 h
   replace h:=app1 hkj26 h
   refine G4 (JLh (G0 ((i23+1:Nat):Int)) (J0 (Hv hk23 hm15) O O O) O (Rt (G0 ((i23+1:Nat):Int)) O (G7 (e23 _ _ (i23+1) j26 (app1 hn23 h) (by omega) ⟨(by repeat' constructor),⟨⟨_,rfl,.same⟩,G⟩,rfl⟩))))
 ·
  have h:=app1 hkx23 (J5 hi23 (Hi hb))
  refine J8 (hK5 (Jr fun hK31=>(Rt (OW 1072 1 G0 s23) O (Rt (OW 1072 1 G0 s23) O (G7 (hK31 (Gw (fin1l (fun r:(List Int)=>(E0 r:AV)) h))))))))
end
end Go.Proofs.YtbljcmgjmieffaaGreat
