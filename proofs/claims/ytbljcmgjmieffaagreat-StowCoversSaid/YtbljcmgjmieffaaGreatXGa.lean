/-
 Models of functions of the program,and that they return what the models say.
-/
import Derived.Test.YtbljcmgjmieffaaGreatSpecW
set_option linter.unnecessarySimpa false
set_option maxRecDepth 100000
set_option linter.unusedVariables false
set_option linter.unusedSimpArgs false
namespace Go.Proofs.YtbljcmgjmieffaaGreat
open Go.RowKit
noncomputable section
structure Ga where
 ID:Int
 Number:ByteArray
 Size:Int
 High:Bool
 Kilos:Int
 Load:Int
 Discharge:Int
 Class:Int
 Reefer:Bool
 deriving DecidableEq,Inhabited
def Ga.cs (x:Ga):List AV:=[G0 x.ID,ST x.Number,U8 x.Size,BL x.High,G0 x.Kilos,G0 x.Load,G0 x.Discharge,U8 x.Class,BL x.Reefer]
def Ga.av (x:Ga):AV:=.agg x.cs
abbrev Eh (x:Ga):AV:=.dptr (Ga.cs x)
abbrev E2:=LS 9 Ga.av
namespace XGF
open XAF
open XCF
theorem tq_45 (a b:Slot):H70 Ek 4 45 [.int .i64 a.G3,.int .i64 a.Tier,.int .u8 a.Half] [.int .i64 b.G3,.int .i64 b.Tier,.int .u8 b.Half]=some (decide (a=b)):=by
 refine(show _=some ((a.G3==b.G3)&&((a.Tier==b.Tier)&&((a.Half==b.Half)&&true))) by kernel_rfl).trans (congrArg some ?_)
 rw [Bool.eq_iff_iff]
 simp only [Bool.and_eq_true,beq_iff_eq,decide_eq_true_eq,Bool.and_true]
 constructor
 ·intro h; obtain⟨_,_,_⟩:=a; obtain⟨_,_,_⟩:=b; simp_all
 ·intro h; subst h; simp
theorem H7:G99 Ek 36 13=true:=by kernel_rfl
theorem Q4:G99 Ek 45 3=true:=by kernel_rfl
theorem Qx:G99 Ek 47 4=true:=by kernel_rfl
theorem G52:G99 Ek 67 9=true:=by kernel_rfl
theorem J85:Zr Ek 45=true:=by kernel_rfl
theorem Gae:Hdd Ek 4=true:=by kernel_rfl
theorem J83:Hf Ek 100=true:=by kernel_rfl
theorem J82:Hf Ek 101=true:=by kernel_rfl
theorem J81:Hf Ek 102=true:=by kernel_rfl
theorem J80:Hf Ek 103=true:=by kernel_rfl
theorem J7f:Hf Ek 104=true:=by kernel_rfl
theorem H64:Hf Ek 11=true:=by kernel_rfl
theorem G73:Hf Ek 17=true:=by kernel_rfl
theorem Gb4:Hf Ek 25=true:=by kernel_rfl
theorem H62:Hf Ek 26=true:=by kernel_rfl
theorem J21:Hf Ek 27=true:=by kernel_rfl
theorem G72:Hf Ek 28=true:=by kernel_rfl
theorem J20:Hf Ek 29=true:=by kernel_rfl
theorem Jbe:Hf Ek 30=true:=by kernel_rfl
theorem Jbd:Hf Ek 31=true:=by kernel_rfl
theorem H61:Hf Ek 36=true:=by kernel_rfl
theorem H60:Hf Ek 37=true:=by kernel_rfl
theorem J1d:Hf Ek 38=true:=by kernel_rfl
theorem Jb6:Hf Ek 44=true:=by kernel_rfl
theorem J1b:Hf Ek 45=true:=by kernel_rfl
theorem J1a:Hf Ek 46=true:=by kernel_rfl
theorem J19:Hf Ek 47=true:=by kernel_rfl
theorem J18:Hf Ek 48=true:=by kernel_rfl
theorem J17:Hf Ek 52=true:=by kernel_rfl
theorem J16:Hf Ek 53=true:=by kernel_rfl
theorem Jb2:Hf Ek 54=true:=by kernel_rfl
theorem Jb1:Hf Ek 55=true:=by kernel_rfl
theorem J15:Hf Ek 58=true:=by kernel_rfl
theorem Jaf:Hf Ek 64=true:=by kernel_rfl
theorem Jae:Hf Ek 65=true:=by kernel_rfl
theorem Jad:Hf Ek 66=true:=by kernel_rfl
theorem Jac:Hf Ek 67=true:=by kernel_rfl
theorem H5f:Hf Ek 73=true:=by kernel_rfl
theorem Ja7:Hf Ek 74=true:=by kernel_rfl
theorem J12:Hf Ek 75=true:=by kernel_rfl
theorem J11:Hf Ek 77=true:=by kernel_rfl
theorem Ja4:Hf Ek 80=true:=by kernel_rfl
theorem Ja3:Hf Ek 81=true:=by kernel_rfl
theorem J10:Hf Ek 82=true:=by kernel_rfl
theorem Ja2:Hf Ek 83=true:=by kernel_rfl
theorem Ja1:Hf Ek 97=true:=by kernel_rfl
theorem J0d:Ru Ek 45 3 24=true:=by kernel_rfl
theorem tf_eqg_45:Ek.eqGuardType Ek.depth 45=false:=by kernel_rfl
theorem Jf:Jo Ek 45 0 0=true:=by kernel_rfl
theorem Yr:Jo Ek 45 1 1=true:=by kernel_rfl
theorem Rf:Jo Ek 45 2 2=true:=by kernel_rfl
theorem Ht:Jo Ek 47 0 0=true:=by kernel_rfl
theorem J7:Jo Ek 47 1 1=true:=by kernel_rfl
theorem Zf:Jo Ek 67 0 0=true:=by kernel_rfl
theorem Y0:Jo Ek 67 2 2=true:=by kernel_rfl
theorem G80:Jo Ek 67 3 3=true:=by kernel_rfl
theorem Ha6:G63 Ek 80 3 82=true:=by kernel_rfl
theorem R4:placesOf Ek 67=some [(0,1),(1,1),(2,1),(3,1),(4,1),(5,1),(6,1),(7,1),(8,1)]:=by kernel_rfl
theorem J73:placesOf Ek 82=some []:=by kernel_rfl
theorem Rg:Rb Ek 39=true:=by kernel_rfl
theorem Gfe:Rb Ek 76=true:=by kernel_rfl
theorem Gfd:Rb Ek 80=true:=by kernel_rfl
theorem Gfc:Rb Ek 81=true:=by kernel_rfl
theorem Gfb:R7 Ek 45 3=true:=by kernel_rfl
theorem Yg:R7 Ek 47 4=true:=by kernel_rfl
theorem G17:R7 Ek 67 9=true:=by kernel_rfl
theorem J9d:R7 Ek 80 1=true:=by kernel_rfl
theorem J9c:R7 Ek 81 1=true:=by kernel_rfl
theorem J9b:R7 Ek 82 0=true:=by kernel_rfl
theorem Rq:sliceB Ek 38 67 9=true:=by kernel_rfl
theorem R6:sliceB Ek 76 45 3=true:=by kernel_rfl
theorem Rv:(Ek.info? 67).bind (fun i=>i.zero.map Value.cells)=some (List.toArray [.int .i64 0,.string ByteArray.empty,.int .u8 0,.bool false,.int .i64 0,.int .i64 0,.int .i64 0,.int .u8 0,.bool false]):=by kernel_rfl
theorem J98:(Ek.info? 82).bind (fun i=>i.zero.map Value.cells)=some (List.toArray []):=by kernel_rfl
theorem Ju:Qv Ek 3 1=true:=by kernel_rfl
theorem G51:Qv Ek 45 3=true:=by kernel_rfl
theorem Q8:Qv Ek 47 4=true:=by kernel_rfl
theorem Y6:Qv Ek 67 9=true:=by kernel_rfl
theorem J7c:Qv Ek 80 1=true:=by kernel_rfl
theorem J7b:Qv Ek 81 1=true:=by kernel_rfl
theorem J7a:Qv Ek 82 0=true:=by kernel_rfl
theorem tf_zv_82:(Ek.info? 82).bind (·.zero)=some (.agg #[]):=by kernel_rfl
theorem tk_3:Gcc Ek 3 (fun n:Int=>Value.int .i64 n):=Gcc.of_int (by kernel_rfl)
end XGF
open XAF
open XCF
open XGF

def G2d (l:List Stowed):Option (List Slot):=
 each (fun y17 i17 (s17:(List Slot)) nx17=>
  need (decide ((s17.length+[y17.Slot].length)*24≤140737488355328∧s17.length+[y17.Slot].length≤maxLen)) <|
  nx17 (s17++[y17.Slot]))
 (fun(s17:(List Slot))=>
  some s17) l 0 []
theorem H35 (l:List Stowed) (r:(List Slot)) (h:G2d l=some r):Pure Ek 45 [E1 l] (·=E8 r):=by
 unfold G2d at h
 refine H5 [.tmp 2] Tryz.func45 O O (Jr fun hK1=>(JLh (E8 ([]:List Slot)) (Hi 3 O O) O (G7 (hK1 (Jr fun hK2=>(JLh (OW 1088 3 Slot.av ([]:List Slot)) (G6c 1088 45 3 O O O) O (G7 (hK2 (Js fun hK3=>Jr fun hK4=>(Rc (E1 l) O (JLl H0 O O O fun hm7=>(Rc (G0 0) O (G7 (hK4 (Gx ?_)))))))))))))))
 obtain⟨b17,kx17,hb17,hkx17,h⟩:=Jh h
 refine Hz (fun i17 (s17:(List Slot))=>each b17 kx17 (List.drop i17 l) i17 s17=some r) (fun i17 s17=>[(3,OW 1088 3 Slot.av s17),(6,E1 l),(7,Ej l.length),(8,Ej i17)]) (fun i17 s17=>[(1088,.spare 45 3 s17.length s17.length)]) (fun i17=>l.length - i17) 0 [] h ⟨(by repeat' constructor),⟨⟨_,rfl,.same⟩,G⟩,rfl⟩ ?_
 clear h
 intro i17 s17 hi17 K17 e17
 refine Jr fun hK18=>(JLh (BL (decide ((i17:Int) < (l.length:Int)))) (Jt O O O) O (G7 (hK18 (Js fun hK19=>Gp O (fun hb=>?_) (fun hb=>?_)))))
 ·
  have hk17:=Q7 hb
  obtain⟨y17,nx17,hy17,hn17,h⟩:=J1 hi17 hk17
  replace h:=Zj hb17 h
  refine Gr (hK19 (Js fun hK20=>Gx (Jr fun hK21=>(JLh (Ed y17) (H9 (f:=Stowed.av) (xs:=l) (y:=y17) O O O H0 hy17 O) O (JLh (.agg (Stowed.cs y17)) (Gh Qx O O O) O (JLh (.ptr 1089 0) (Hs 1089 4 Q8 O O) O (J0 (u:=.junk) (Hh (u:=.agg (Stowed.cs y17)) (ds:=[G0 y17.Ga,G0 y17.Slot.G3,G0 y17.Slot.Tier,U8 y17.Slot.Half]) Yg O O O O O O O O) (G7 (hK21 (Gs [(3,OW 1088 3 Slot.av s17),(5,Ed y17),(6,E1 l),(7,Ej l.length),(8,Ej i17)] [(1088,.spare 45 3 s17.length s17.length)] 1089 rfl rfl rfl ⟨⟨_,rfl,.same⟩,G⟩ rfl (by repeat' (first | exact .ptr | constructor)) (G4 ?_)))))))))))
  refine Rc (OW 1088 3 Slot.av s17) O (JLh (.dptr ((Stowed.cs y17).drop 1)) (Gb J7 O O O) O (JLh (.agg ((Stowed.cs y17).drop 1)) (Gh Q4 O O O) O (JLh (E8 [y17.Slot]) (H6 (xs:=[.agg ((Stowed.cs y17).drop 1)]) O ⟨O,O,G⟩ R6 G51 O O O O) O ?_)))
  obtain⟨ha22,h⟩:=Jk h
  refine JLh (OW 1088 3 Slot.av (s17++[y17.Slot])) (Ro (f:=Slot.av) (xs:=s17) (ys:=[y17.Slot]) O O O O R6 J0d ha22 (fun _=>O) (.inl O) O) O (Rc (OW 1088 3 Slot.av (s17++[y17.Slot])) O (G7 (hK20 (G4 (JLh (G0 ((i17+1:Nat):Int)) (Hv (Hr hk17 hm7) O O O) O (Rc (G0 ((i17+1:Nat):Int)) O (G7 (e17 _ _ (i17+1) (s17++[y17.Slot]) (app1 hn17 h) (by omega) ⟨(by repeat' constructor),⟨⟨_,rfl,.same⟩,G⟩,rfl⟩))))))))
 ·
  have h:=app1 hkx17 (J2 hi17 (Hg hb))
  refine J6 (hK3 (Jr fun hK23=>(Rc (OW 1088 3 Slot.av s17) O (Rc (OW 1088 3 Slot.av s17) O (G7 (hK23 (Gv (fin1l (fun r:(List Slot)=>(E8 r:AV)) h))))))))

def G43 (b:Ga) (p1:Int):Option Bool:=
 some (decide (b.ID=p1))
theorem Hee (b:Ga) (p1:Int) (r:Bool) (h:G43 b p1=some r):Pure Ek 66 [.agg (Ga.cs b),.dptr [G0 p1]] (·=BL r):=by
 unfold G43 at h
 refine H5 [.tmp 3] Tryz.func66 O O (Jr fun hK1=>(JLh (.ptr 1106 0) (Q1 (cs:=(Ga.cs b)) 1106 O O O O O) O (Rc (BL false) O (G7 (hK1 (Gs [(1,.dptr [G0 p1]),(2,Eh b)] [] 1106 rfl rfl rfl G rfl (by exact⟨.conv (.same rfl),.ptr,G⟩) (Jr fun hK2=>(JLh (Eh b) (Gb Zf O O O) O (JLh (G0 b.ID) (Gi Gd O O O) O (JLh (G0 p1) (Gi Gd O O O) O (JLh (BL (decide (b.ID=p1))) (Jx O O O) O (Rc (BL (decide (b.ID=p1))) O (G7 (hK2 (Gv (fin1 BL h))))))))))))))))

def Rt (s:List Ga) (f:Ga→Option Bool):Option Int:=
 each (fun y20 i20 (s20:Unit) nx20=>
  bnd (f y20) fun r26=>
  bif r26 then
  (some (i20:Int))
  else
  (nx20 ()))
 (fun(s20:Unit)=>
  some (-1)) s 0 ()
theorem Ga9 (s:List Ga) (f:Ga→Option Bool) (f_f:FuncId) (f_c:List AV) (f_B:Hf Ek f_f=true) (f_d:Y8 (fun _=>false) f_c=true) (f_w:∀ a0 q,f a0=some q→Pure Ek f_f ([.agg (Ga.cs a0)]++f_c) (·=BL q)) (r:Int) (h:Rt s f=some r):Pure Ek 65 [E2 s,.fn f_f f_c] (·=G0 r):=by
 unfold Rt at h
 refine H5 [.tmp 4] Tryz.func65 O O (Jr fun hK1=>(Rc (G0 0) O (G7 (hK1 (Js fun hK2=>Jr fun hK3=>(Rc (E2 s) O (JLl Rq O O O fun hm7=>(Rc (G0 0) O (G7 (hK3 (Gx ?_)))))))))))
 obtain⟨b20,kx20,hb20,hkx20,h⟩:=Jh h
 refine Hz (fun i20 (s20:Unit)=>each b20 kx20 (List.drop i20 s) i20 s20=some r) (fun i20 s20=>[(0,E2 s),(1,.fn f_f f_c),(7,Ej s.length),(8,Ej i20)]) (fun i20 s20=>[]) (fun i20=>s.length - i20) 0 () h ⟨⟨.same O,.same (Q5 _ _ f_d),.same O,.same O,G⟩,G,O⟩ ?_
 clear h
 intro i20 s20 hi20 K20 e20
 refine Jr fun hK21=>(JLh (BL (decide ((i20:Int) < (s.length:Int)))) (Jt O O O) O (G7 (hK21 (Js fun hK22=>Gp O (fun hb=>?_) (fun hb=>?_)))))
 ·
  have hk20:=Q7 hb
  obtain⟨y20,nx20,hy20,hn20,h⟩:=J1 hi20 hk20
  replace h:=Zj hb20 h
  refine Gr (hK22 (Js fun hK23=>Gx (Jr fun hK24=>(Rc (Ej i20) O (Rc (Ej i20) O (G7 (hK24 (Jr fun hK25=>(Rc (.fn f_f f_c) O (Rc (E2 s) O (Rc (Ej i20) O (JLh (Eh y20) (H9 (f:=Ga.av) (xs:=s) (y:=y20) O O O Rq hy20 O) O (JLh (.agg (Ga.cs y20)) (Gh G52 O O O) O ?_)))))))))))))
  obtain⟨r26,hr26,h⟩:=Gf h
  refine JLh (BL r26) (Zz (args:=[.agg (Ga.cs y20)]) (caps:=f_c) O O (f_w y20 _ hr26) f_B ⟨O,O,G⟩ f_d) O (G7 (hK25 (JCc O h (fun h hb=>?_) (fun h hb=>?_))))
  ·
   refine Jr fun hK27=>(Rc (Ej i20) O (Rc (Ej i20) O (G7 (hK27 (Gv (fin1 G0 h))))))
  ·
   refine Gr (hK23 (G4 (JLh (G0 ((i20+1:Nat):Int)) (Hv (Hr hk20 hm7) O O O) O (Rc (G0 ((i20+1:Nat):Int)) O (G7 (e20 _ _ (i20+1) () (app1 hn20 h) (by omega) ⟨⟨.same rfl,.same (Q5 _ _ f_d),.same rfl,.same rfl,G⟩,G,rfl⟩))))))
 ·
  have h:=app1 hkx20 (J2 hi20 (Hg hb))
  refine J6 (hK2 (Jr fun hK28=>(Rc (G0 (-1)) O (G7 (hK28 (Gv (fin1 G0 h)))))))

def G1e (boxes:List Ga) (id_:Int):Option (Ga×Bool):=
 bnd (Rt boxes (fun z0=>G43 z0 id_)) fun r3=>
 bif decide (r3 < 0) then
 (some ((Ga.mk 0 ByteArray.empty 0 false 0 0 0 0 false),false))
 else
 (Yn boxes r3 fun y8=>
  some (y8,true))
theorem Ge2 (boxes:List Ga) (id_:Int) (r:Ga×Bool) (h:G1e boxes id_=some r):Pure Ek 37 [E2 boxes,G0 id_] (·=.tup [.agg (Ga.cs r.1),BL r.2]):=by
 unfold G1e at h
 refine H5 [.cell 4 67,.tmp 5] Tryz.func37 O O (Jr fun hK1=>(JLh (.ptr 1074 0) (Q1 (cs:=[G0 id_]) 1074 O O O O O) O (JLh (.ptr 1075 0) (Gc8 1075 [G0 0,ST ByteArray.empty,U8 0,BL false,G0 0,G0 0,G0 0,U8 0,BL false] [.int .i64 0,.string ByteArray.empty,.int .u8 0,.bool false,.int .i64 0,.int .i64 0,.int .i64 0,.int .u8 0,.bool false] Rv ⟨.inl O,.inl O,.inl O,.inl O,.inl O,.inl O,.inl O,.inl O,.inl O,G⟩ O O) O (Rc (BL false) O (G7 (hK1 (Gs [(0,E2 boxes),(3,.dptr [G0 id_]),(4,.ptr 1075 0)] [(1075,.box 67 [G0 0,ST ByteArray.empty,U8 0,BL false,G0 0,G0 0,G0 0,U8 0,BL false])] 1074 rfl rfl rfl ⟨⟨_,rfl,.boxEq rfl rfl⟩,G⟩ rfl (by exact⟨.conv (.same rfl),.ptr,.conv (.same rfl),G⟩) ?_)))))))
 refine Jr fun hK2=>(Rc (E2 boxes) O (JLh (.fn 66 [.dptr [G0 id_]]) (Z5 (cs:=[.dptr [G0 id_]]) O O) O ?_))
 obtain⟨r3,hr3,h⟩:=Gf h
 refine JLh (G0 r3) (Gu O (Ga9 boxes (fun z0=>G43 z0 id_) 66 [.dptr [G0 id_]] Jad O (fun z0 q hq=>Hee z0 id_ q hq) r3 hr3) Jae ⟨O,O,O,O,G⟩) O (Rc (G0 r3) O (G7 (hK2 (Js fun hK4=>Jr fun hK5=>(Rc (G0 r3) O (JLh (BL (decide (r3 < 0))) (Jt O O O) O (G7 (hK5 (JCc O h (fun h hb=>?_) (fun h hb=>?_))))))))))
 ·
  refine Jr fun hK6=>(JLh (.agg [G0 0,ST ByteArray.empty,U8 0,BL false,G0 0,G0 0,G0 0,U8 0,BL false]) (Hp (cs:=[G0 0,ST ByteArray.empty,U8 0,BL false,G0 0,G0 0,G0 0,U8 0,BL false]) [(0,1),(1,1),(2,1),(3,1),(4,1),(5,1),(6,1),(7,1),(8,1)] [G0 0,ST ByteArray.empty,U8 0,BL false,G0 0,G0 0,G0 0,U8 0,BL false] [.int .i64 0,.string ByteArray.empty,.int .u8 0,.bool false,.int .i64 0,.int .i64 0,.int .i64 0,.int .u8 0,.bool false] R4 Rv ⟨.inl O,.inl O,.inl O,.inl O,.inl O,.inl O,.inl O,.inl O,.inl O,G⟩ O O) O (J0 (u:=.junk) (Hh (u:=.agg [G0 0,ST ByteArray.empty,U8 0,BL false,G0 0,G0 0,G0 0,U8 0,BL false]) (ds:=[G0 0,ST ByteArray.empty,U8 0,BL false,G0 0,G0 0,G0 0,U8 0,BL false]) G17 O O O O O O O O) (Rc (BL false) O (G7 (hK6 ?_)))))
  refine Gv (⟨[.agg [G0 0,ST ByteArray.empty,U8 0,BL false,G0 0,G0 0,G0 0,U8 0,BL false],BL false],[],G,O,⟨⟨_,⟨_,_,_,_,O,O,O,.inl ⟨G52,O⟩⟩,.conv (.same O)⟩,⟨_,O,.conv (.same O)⟩,G⟩,O,congrArg (fun r:Ga×Bool=>(.tup [.agg (Ga.cs r.1),BL r.2]:AV)) (Option.some.inj h)⟩)
 ·
  refine Gr (hK4 (Jr fun hK7=>(Rc (E2 boxes) O (Rc (G0 r3) O ?_))))
  obtain⟨m9,y8,hm9,hy8,h⟩:=Rh h
  refine JLh (Eh y8) (H9 (f:=Ga.av) (xs:=boxes) (y:=y8) O O O Rq hy8 hm9) O (JLh (.agg (Ga.cs y8)) (Gh G52 O O O) O (J0 (u:=.junk) (Hh (u:=.agg (Ga.cs y8)) (ds:=(Ga.cs y8)) G17 O O O O O O O O) (Rc (BL true) O (G7 (hK7 (Gv (⟨[.agg (Ga.cs y8),BL true],[],G,O,⟨⟨_,⟨_,_,_,_,O,O,O,.inl ⟨G52,O⟩⟩,.conv (.same O)⟩,⟨_,O,.conv (.same O)⟩,G⟩,O,congrArg (fun r:Ga×Bool=>(.tup [.agg (Ga.cs r.1),BL r.2]:AV)) (Option.some.inj h)⟩)))))))

def Ya (s:List Int) (v:Int):Option Int:=
 each (fun y18 i18 (s18:Unit) nx18=>
  bif decide (v=y18) then
  (some (i18:Int))
  else
  (nx18 ()))
 (fun(s18:Unit)=>
  some (-1)) s 0 ()
theorem H11 (s:List Int) (v:Int) (r:Int) (h:Ya s v=some r):Pure Ek 97 [E9 s,U8 v] (·=G0 r):=by
 unfold Ya at h
 refine H5 [.tmp 4] Tryz.func97 O O (Jr fun hK1=>(Rc (G0 0) O (G7 (hK1 (Js fun hK2=>Jr fun hK3=>(Rc (E9 s) O (JLl G26 O O O fun hm7=>(Rc (G0 0) O (G7 (hK3 (Gx ?_)))))))))))
 obtain⟨b18,kx18,hb18,hkx18,h⟩:=Jh h
 refine Hz (fun i18 (s18:Unit)=>each b18 kx18 (List.drop i18 s) i18 s18=some r) (fun i18 s18=>[(0,E9 s),(1,U8 v),(7,Ej s.length),(8,Ej i18)]) (fun i18 s18=>[]) (fun i18=>s.length - i18) 0 () h ⟨(by repeat' constructor),G,rfl⟩ ?_
 clear h
 intro i18 s18 hi18 K18 e18
 refine Jr fun hK19=>(JLh (BL (decide ((i18:Int) < (s.length:Int)))) (Jt O O O) O (G7 (hK19 (Js fun hK20=>Gp O (fun hb=>?_) (fun hb=>?_)))))
 ·
  have hk18:=Q7 hb
  obtain⟨y18,nx18,hy18,hn18,h⟩:=J1 hi18 hk18
  replace h:=Zj hb18 h
  refine Gr (hK20 (Js fun hK21=>Gx (Jr fun hK22=>(Rc (Ej i18) O (Rc (Ej i18) O (G7 (hK22 (Jr fun hK23=>(Rc (U8 v) O (Rc (E9 s) O (Rc (Ej i18) O (JLh (.dptr [U8 y18]) (H9 (f:=U8) (xs:=s) (y:=y18) O O O G26 hy18 O) O (JLh (U8 y18) (Gi Hw O O O) O (JLh (BL (decide (v=y18))) (Jx O O O) O (G7 (hK23 (JCc O h (fun h hb=>?_) (fun h hb=>?_))))))))))))))))))
  ·
   refine Jr fun hK24=>(Rc (Ej i18) O (Rc (Ej i18) O (G7 (hK24 (Gv (fin1 G0 h))))))
  ·
   refine Gr (hK21 (G4 (JLh (G0 ((i18+1:Nat):Int)) (Hv (Hr hk18 hm7) O O O) O (Rc (G0 ((i18+1:Nat):Int)) O (G7 (e18 _ _ (i18+1) () (app1 hn18 h) (by omega) ⟨(by repeat' constructor),G,rfl⟩))))))
 ·
  have h:=app1 hkx18 (J2 hi18 (Hg hb))
  refine J6 (hK2 (Jr fun hK25=>(Rc (G0 (-1)) O (G7 (hK25 (Gv (fin1 G0 h)))))))

def R9 (s:List Int) (v:Int):Option Bool:=
 bnd (Ya s v) fun r3=>
 some (decide (0≤r3))
theorem Gcb (s:List Int) (v:Int) (r:Bool) (h:R9 s v=some r):Pure Ek 67 [E9 s,U8 v] (·=BL r):=by
 unfold R9 at h
 refine H5 [.tmp 4] Tryz.func67 O O (Jr fun hK1=>(Rc (BL false) O (G7 (hK1 (Jr fun hK2=>(Rc (E9 s) O (Rc (U8 v) O ?_)))))))
 obtain⟨r3,hr3,h⟩:=Gf h
 refine JLh (G0 r3) (Gu O (H11 s v r3 hr3) Ja1 ⟨O,O,O,O,G⟩) O (JLh (BL (decide (0≤r3))) (G9d O O O) O (Rc (BL (decide (0≤r3))) O (G7 (hK2 (Gv (fin1 BL h))))))

def G30 (s:Gt) (x:Slot) (size:Int):Option Bool:=
 bnd (bif (((decide (0≤x.G3))&&(decide (x.G3 < (s.Columns.length:Int))))&&(decide (0≤x.Tier))) then Yn s.Columns x.G3 some else some default) fun y3=>
 bnd (bif ((((decide (0≤x.G3))&&(decide (x.G3 < (s.Columns.length:Int))))&&(decide (0≤x.Tier)))&&(decide (x.Tier < y3.Tiers))) then Zn size else some default) fun r4=>
 bnd (bif ((((decide (0≤x.G3))&&(decide (x.G3 < (s.Columns.length:Int))))&&(decide (0≤x.Tier)))&&(decide (x.Tier < y3.Tiers))) then R9 r4 x.Half else some default) fun r5=>
 some (((((decide (0≤x.G3))&&(decide (x.G3 < (s.Columns.length:Int))))&&(decide (0≤x.Tier)))&&(decide (x.Tier < y3.Tiers)))&&r5)
theorem H38 (s:Gt) (x:Slot) (size:Int) (r:Bool) (h:G30 s x size=some r):Pure Ek 38 [.agg (Gt.cs s),.agg [G0 x.G3,G0 x.Tier,U8 x.Half],U8 size] (·=BL r):=by
 unfold G30 at h
 refine H5 [.tmp 6] Tryz.func38 O O (Jr fun hK1=>(JLh (.ptr 1076 0) (Q1 (cs:=(Gt.cs s)) 1076 O O O O O) O (JLh (.ptr 1077 0) (Q1 (cs:=[G0 x.G3,G0 x.Tier,U8 x.Half]) 1077 O O O O O) O (Rc (BL false) O (G7 (hK1 ?_))))))
 refine Gs [(2,U8 size),(3,Ec s),(4,.ptr 1077 0)] [(1077,.box 45 [G0 x.G3,G0 x.Tier,U8 x.Half])] 1076 rfl rfl rfl ⟨⟨_,rfl,.boxEq rfl rfl⟩,G⟩ rfl (by exact⟨.conv (.same rfl),.ptr,.conv (.same rfl),G⟩) ?_
 refine Gs [(2,U8 size),(3,Ec s),(4,.dptr [G0 x.G3,G0 x.Tier,U8 x.Half])] [] 1077 rfl rfl rfl G rfl (by exact⟨.conv (.same rfl),.conv (.same rfl),.ptr,G⟩) (Js fun hK2=>?_)
 obtain⟨y3,hy3,h⟩:=Gf h
 obtain⟨r4,hr4,h⟩:=Gf h
 obtain⟨r5,hr5,h⟩:=Gf h
 refine JC_d0 Jz (by kernel_rfl) (Dq (.dptr [G0 x.G3,G0 x.Tier,U8 x.Half]) (Gb Jf O O O) O (Dq (G0 x.G3) (Gi Gd O O O) O (Dq (BL (decide (0≤x.G3))) (G9d O O O) O (Dq (BL (decide (0≤x.G3))) (G5 O O) O (Do (.dptr [G0 x.G3,G0 x.Tier,U8 x.Half]) [] O .sct G (fun hc=>Gb Jf O O O) O (Do (G0 x.G3) [11] O .sct ⟨Ua,G⟩ (fun hc=>Gi Gd O O O) O (Do (Ec s) [] O .sct G (fun hc=>Gb Hm O O O) O (Do (E7 s.Columns) [13] O .sct ⟨Ua,G⟩ (fun hc=>Gi J4 O O O) O (Do (Ej s.Columns.length) [14] O .sct ⟨Ua,G⟩ (fun hc=>Yo (f:=G3.av) (xs:=s.Columns) Hq O O) O (Do (BL (decide (x.G3 < (s.Columns.length:Int)))) [12,15] O .sct ⟨Ua,Ua,G⟩ (fun hc=>Jt O O O) O (Dq (BL ((decide (0≤x.G3))&&(decide (x.G3 < (s.Columns.length:Int))))) (Q6 O O O O) O (Dq (BL ((decide (0≤x.G3))&&(decide (x.G3 < (s.Columns.length:Int))))) (G5 O O) O (Do (.dptr [G0 x.Tier,U8 x.Half]) [] O .sct G (fun hc=>Gb Yr O O O) O ?_)))))))))))))
 refine Do (G0 x.Tier) [19] O .sct ⟨Ua,G⟩ (fun hc=>Gi Gd O O O) O (Do (BL (decide (0≤x.Tier))) [20] O .sct ⟨Ua,G⟩ (fun hc=>G9d O O O) O (Dq (BL (((decide (0≤x.G3))&&(decide (x.G3 < (s.Columns.length:Int))))&&(decide (0≤x.Tier)))) (Q6 O O O O) O (Dq (BL (((decide (0≤x.G3))&&(decide (x.G3 < (s.Columns.length:Int))))&&(decide (0≤x.Tier)))) (G5 O O) O (Do (.dptr [G0 x.Tier,U8 x.Half]) [] O .sct G (fun hc=>Gb Yr O O O) O (Do (G0 x.Tier) [24] O .sct ⟨Ua,G⟩ (fun hc=>Gi Gd O O O) O (Do (Ec s) [] O .sct G (fun hc=>Gb Hm O O O) O (Do (E7 s.Columns) [26] O .sct ⟨Ua,G⟩ (fun hc=>Gi J4 O O O) O (Do (.dptr [G0 x.G3,G0 x.Tier,U8 x.Half]) [] O .sct G (fun hc=>Gb Jf O O O) O (Do (G0 x.G3) [28] O .sct ⟨Ua,G⟩ (fun hc=>Gi Gd O O O) O (Do (Ee y3) [27,29] O .sct ⟨Ua,Ua,G⟩ (fun hc=>(match Yw (H4 hc hy3) with | ⟨_,hm_,hy_⟩=>H9 (f:=G3.av) (xs:=s.Columns) (y:=y3) O O O Hq hy_ hm_)) O (Do (.dptr ((G3.cs y3).drop 3)) [30] O .sct ⟨Ua,G⟩ (fun hc=>Gb G81 O O O) O (Do (G0 y3.Tiers) [31] O .sct ⟨Ua,G⟩ (fun hc=>Gi Gd O O O) O (Do (BL (decide (x.Tier < y3.Tiers))) [25,32] O .sct ⟨Ua,Ua,G⟩ (fun hc=>Jt O O O) O ?_)))))))))))))
 refine Dq (BL ((((decide (0≤x.G3))&&(decide (x.G3 < (s.Columns.length:Int))))&&(decide (0≤x.Tier)))&&(decide (x.Tier < y3.Tiers)))) (Q6 O O O O) O (Dq (BL ((((decide (0≤x.G3))&&(decide (x.G3 < (s.Columns.length:Int))))&&(decide (0≤x.Tier)))&&(decide (x.Tier < y3.Tiers)))) (G5 O O) O (Do (U8 size) [] O .sct G (fun hc=>G5 O O) O (Do (E9 r4) [36] O .sct ⟨Ua,G⟩ (fun hc=>Gu (args:=[U8 size]) O (H19 size r4 (H4 hc hr4)) J13 ⟨O,O,G⟩) O (Do (.dptr [U8 x.Half]) [] O .sct G (fun hc=>Gb Rf O O O) O (Do (U8 x.Half) [38] O .sct ⟨Ua,G⟩ (fun hc=>Gi Hw O O O) O (Do (BL r5) [37,39] O .sct ⟨Ua,Ua,G⟩ (fun hc=>Gu (args:=[E9 r4,U8 x.Half]) O (Gcb r4 x.Half r5 (H4 hc hr5)) Jac ⟨O,O,O,O,G⟩) O (Dq (BL (((((decide (0≤x.G3))&&(decide (x.G3 < (s.Columns.length:Int))))&&(decide (0≤x.Tier)))&&(decide (x.Tier < y3.Tiers)))&&r5)) (Q6 O O O O) O (Dq (BL (((((decide (0≤x.G3))&&(decide (x.G3 < (s.Columns.length:Int))))&&(decide (0≤x.Tier)))&&(decide (x.Tier < y3.Tiers)))&&r5)) (G8 O O) O (Dnil ?_)))))))))
 refine hK2 (Gv (fin1 BL h))

def Rk (s:List Slot) (v:Slot):Option Int:=
 each (fun y18 i18 (s18:Unit) nx18=>
  bif decide (v=y18) then
  (some (i18:Int))
  else
  (nx18 ()))
 (fun(s18:Unit)=>
  some (-1)) s 0 ()
theorem Ge3 (s:List Slot) (v:Slot) (r:Int) (h:Rk s v=some r):Pure Ek 100 [E8 s,.agg [G0 v.G3,G0 v.Tier,U8 v.Half]] (·=G0 r):=by
 unfold Rk at h
 refine H5 [.tmp 4] Tryz.func100 O O (Jr fun hK1=>(JLh (.ptr 1125 0) (Q1 (cs:=[G0 v.G3,G0 v.Tier,U8 v.Half]) 1125 O O O O O) O (Rc (G0 0) O (G7 (hK1 (Gs [(0,E8 s),(3,.dptr [G0 v.G3,G0 v.Tier,U8 v.Half])] [] 1125 rfl rfl rfl G rfl (by exact⟨.conv (.same rfl),.ptr,G⟩) (Js fun hK2=>Jr fun hK3=>(Rc (E8 s) O (JLl R6 O O O fun hm7=>(Rc (G0 0) O (G7 (hK3 (Gx ?_)))))))))))))
 obtain⟨b18,kx18,hb18,hkx18,h⟩:=Jh h
 refine Hz (fun i18 (s18:Unit)=>each b18 kx18 (List.drop i18 s) i18 s18=some r) (fun i18 s18=>[(0,E8 s),(3,.dptr [G0 v.G3,G0 v.Tier,U8 v.Half]),(7,Ej s.length),(8,Ej i18)]) (fun i18 s18=>[]) (fun i18=>s.length - i18) 0 () h ⟨(by repeat' constructor),G,rfl⟩ ?_
 clear h
 intro i18 s18 hi18 K18 e18
 refine Jr fun hK19=>(JLh (BL (decide ((i18:Int) < (s.length:Int)))) (Jt O O O) O (G7 (hK19 (Js fun hK20=>Gp O (fun hb=>?_) (fun hb=>?_)))))
 ·
  have hk18:=Q7 hb
  obtain⟨y18,nx18,hy18,hn18,h⟩:=J1 hi18 hk18
  replace h:=Zj hb18 h
  refine Gr (hK20 (Js fun hK21=>Gx (Jr fun hK22=>(Rc (Ej i18) O (Rc (Ej i18) O (G7 (hK22 (Js fun hK23=>JC_d0 Jz (by kernel_rfl) (Dq (.agg [G0 v.G3,G0 v.Tier,U8 v.Half]) (Gh Q4 O O O) O (Dq (E8 s) (G5 O O) O (Dq (Ej i18) (G5 O O) O (Dq (Ei y18) (H9 (f:=Slot.av) (xs:=s) (y:=y18) O O O R6 hy18 O) O (Dq (.agg (Slot.cs y18)) (Gh Q4 O O O) O (Dq (BL (decide (v=y18))) (A_eqAgg (vs:=[.int .i64 v.G3,.int .i64 v.Tier,.int .u8 v.Half]) (us:=[.int .i64 y18.G3,.int .i64 y18.Tier,.int .u8 y18.Half]) 4 O (tq_45 v y18) J85 tf_eqg_45 O O O) O (Dnil (hK23 (JCc O h (fun h hb=>?_) (fun h hb=>?_))))))))))))))))))
  ·
   refine Jr fun hK24=>(Rc (Ej i18) O (Rc (Ej i18) O (G7 (hK24 (Gv (fin1 G0 h))))))
  ·
   refine Gr (hK21 (G4 (JLh (G0 ((i18+1:Nat):Int)) (Hv (Hr hk18 hm7) O O O) O (Rc (G0 ((i18+1:Nat):Int)) O (G7 (e18 _ _ (i18+1) () (app1 hn18 h) (by omega) ⟨(by repeat' constructor),G,rfl⟩))))))
 ·
  have h:=app1 hkx18 (J2 hi18 (Hg hb))
  refine J6 (hK2 (Jr fun hK25=>(Rc (G0 (-1)) O (G7 (hK25 (Gv (fin1 G0 h)))))))

def Qu (s:List Slot) (v:Slot):Option Bool:=
 bnd (Rk s v) fun r3=>
 some (decide (0≤r3))
theorem Gaa (s:List Slot) (v:Slot) (r:Bool) (h:Qu s v=some r):Pure Ek 74 [E8 s,.agg [G0 v.G3,G0 v.Tier,U8 v.Half]] (·=BL r):=by
 unfold Qu at h
 refine H5 [.tmp 4] Tryz.func74 O O (Jr fun hK1=>(JLh (.ptr 1109 0) (Q1 (cs:=[G0 v.G3,G0 v.Tier,U8 v.Half]) 1109 O O O O O) O (Rc (BL false) O (G7 (hK1 (Gs [(0,E8 s),(3,.dptr [G0 v.G3,G0 v.Tier,U8 v.Half])] [] 1109 rfl rfl rfl G rfl (by exact⟨.conv (.same rfl),.ptr,G⟩) (Jr fun hK2=>(Rc (E8 s) O (JLh (.agg [G0 v.G3,G0 v.Tier,U8 v.Half]) (Gh Q4 O O O) O ?_)))))))))
 obtain⟨r3,hr3,h⟩:=Gf h
 refine JLh (G0 r3) (Gu O (Ge3 s v r3 hr3) J83 ⟨O,O,O,O,G⟩) O (JLh (BL (decide (0≤r3))) (G9d O O O) O (Rc (BL (decide (0≤r3))) O (G7 (hK2 (Gv (fin1 BL h))))))

def Zo (half:Int) (p1:List Slot) (p2:Slot):Option Bool:=
 G08 (p2.Tier - 1) fun v3=>
 bnd (Qu p1 (Slot.mk p2.G3 v3 half)) fun r4=>
 some r4
theorem G9b (half:Int) (p1:List Slot) (p2:Slot) (r:Bool) (h:Zo half p1 p2=some r):Pure Ek 73 [U8 half,.dptr [E8 p1],.dptr [G0 p2.G3,G0 p2.Tier,U8 p2.Half]] (·=BL r):=by
 unfold Zo at h
 refine H5 [.tmp 4] Tryz.func73 O O (Jr fun hK1=>(Rc (BL false) O (G7 (hK1 (Jr fun hK2=>(JLh (E8 p1) (Gi Gfe O O O) O (JLh (.dptr [G0 p2.G3,G0 p2.Tier,U8 p2.Half]) (Gb Jf O O O) O (JLh (G0 p2.G3) (Gi Gd O O O) O (JLh (.dptr [G0 p2.Tier,U8 p2.Half]) (Gb Yr O O O) O (JLh (G0 p2.Tier) (Gi Gd O O O) O ?_))))))))))
 obtain⟨v3,hv3,h⟩:=Jc h
 refine JLh (G0 v3) (H3c hv3 O O O) O (Rc (U8 half) O (JLh (.agg [G0 p2.G3,G0 v3,U8 half]) (Hp (cs:=[G0 p2.G3,G0 v3,U8 half]) [(0,1),(1,1),(2,1)] [G0 0,G0 0,U8 0] [.int .i64 0,.int .i64 0,.int .u8 0] Ga0 Gfa ⟨.inl O,.inl O,.inl O,G⟩ O O) O ?_))
 obtain⟨r4,hr4,h⟩:=Gf h
 refine JLh (BL r4) (Gu O (Gaa p1 (Slot.mk p2.G3 v3 half) r4 hr4) Ja7 ⟨O,O,O,O,G⟩) O (Rc (BL r4) O (G7 (hK2 (Gv (fin1 BL h)))))

def G58 (x:Slot) (l:List Slot):Option Bool:=
 bif decide (x.Tier≤0) then
 (some true)
 else
 (bnd (Zo x.Half l x) fun r7=>
  bnd (bif ((!r7)&&(decide (x.Half=0))) then Zo 1 l x else some default) fun r8=>
  bnd (bif ((!r7)&&((decide (x.Half=0))&&r8)) then Zo 2 l x else some default) fun r9=>
  some (r7||(((decide (x.Half=0))&&r8)&&r9)))
theorem H5a (x:Slot) (l:List Slot) (r:Bool) (h:G58 x l=some r):Pure Ek 46 [.agg [G0 x.G3,G0 x.Tier,U8 x.Half],E8 l] (·=BL r):=by
 unfold G58 at h
 refine H5 [.tmp 4] Tryz.func46 O O (Jr fun hK1=>(JLh (.ptr 1090 0) (Q1 (cs:=[G0 x.G3,G0 x.Tier,U8 x.Half]) 1090 O O O O O) O (JLh (.ptr 1091 0) (Q1 (cs:=[E8 l]) 1091 O O O O O) O (Rc (BL false) O (G7 (hK1 (Gs [(2,.dptr [G0 x.G3,G0 x.Tier,U8 x.Half]),(3,.ptr 1091 0)] [(1091,.box 76 [E8 l])] 1090 rfl rfl rfl ⟨⟨_,rfl,.boxEq rfl rfl⟩,G⟩ rfl (by exact⟨.ptr,.conv (.same rfl),G⟩) (Gs [(2,.dptr [G0 x.G3,G0 x.Tier,U8 x.Half]),(3,.dptr [E8 l])] [] 1091 rfl rfl rfl G rfl (by exact⟨.conv (.same rfl),.ptr,G⟩) (Js fun hK2=>Jr fun hK3=>(JLh (.dptr [G0 x.Tier,U8 x.Half]) (Gb Yr O O O) O (JLh (G0 x.Tier) (Gi Gd O O O) O (JLh (BL (decide (x.Tier≤0))) (He8 O O O) O (G7 (hK3 ?_))))))))))))))
 refine JCc O h (fun h hb=>?_) (fun h hb=>?_)
 ·
  refine Jr fun hK4=>(Rc (BL true) O (G7 (hK4 (Gv (fin1 BL h)))))
 ·
  refine Gr (hK2 (Jr fun hK5=>(JLh (.fn 73 [.dptr [E8 l],.dptr [G0 x.G3,G0 x.Tier,U8 x.Half]]) (Z5 (cs:=[.dptr [E8 l],.dptr [G0 x.G3,G0 x.Tier,U8 x.Half]]) O O) O (Rc (.fn 73 [.dptr [E8 l],.dptr [G0 x.G3,G0 x.Tier,U8 x.Half]]) O (G7 (hK5 (Jr fun hK6=>(Rc (.fn 73 [.dptr [E8 l],.dptr [G0 x.G3,G0 x.Tier,U8 x.Half]]) O (JLh (.dptr [U8 x.Half]) (Gb Rf O O O) O (JLh (U8 x.Half) (Gi Hw O O O) O ?_))))))))))
  obtain⟨r7,hr7,h⟩:=Gf h
  refine JLh (BL r7) (Zz (args:=[U8 x.Half]) (caps:=[.dptr [E8 l],.dptr [G0 x.G3,G0 x.Tier,U8 x.Half]]) O O (G9b x.Half l x r7 hr7) H5f ⟨O,O,G⟩ O) O (Rc (BL r7) O (JLo (.dptr [U8 x.Half]) [] O .scf G (fun hc=>Gb Rf O O O) O (JLo (U8 x.Half) [15] O .scf ⟨Ua,G⟩ (fun hc=>Gi Hw O O O) O (JLo (BL (decide (x.Half=0))) [16] O .scf ⟨Ua,G⟩ (fun hc=>Jx O O O) O (JLo (BL (decide (x.Half=0))) [17] O .scf ⟨Ua,G⟩ (fun hc=>G5 O O) O (JLo (.fn 73 [.dptr [E8 l],.dptr [G0 x.G3,G0 x.Tier,U8 x.Half]]) [] O .optt G (fun hc=>G5 O O) O ?_))))))
  obtain⟨r8,hr8,h⟩:=Gf h
  refine JLo (BL r8) [19] O .optt ⟨Ua,G⟩ (fun hc=>Zz (args:=[U8 1]) (caps:=[.dptr [E8 l],.dptr [G0 x.G3,G0 x.Tier,U8 x.Half]]) O O (G9b 1 l x r8 (H4 hc hr8)) H5f ⟨O,O,G⟩ O) O (Gc (u:=BL ((decide (x.Half=0))&&r8)) [(18,BL (decide (x.Half=0))),(20,_)] O O O .scf ⟨.all id,.part,G⟩ (fun hc=>Q6 O O O O) ?_)
  refine JLo (BL ((decide (x.Half=0))&&r8)) [21] O .scf ⟨Ua,G⟩ (fun hc=>G5 O O) O (JLo (.fn 73 [.dptr [E8 l],.dptr [G0 x.G3,G0 x.Tier,U8 x.Half]]) [] O .optt G (fun hc=>G5 O O) O ?_)
  obtain⟨r9,hr9,h⟩:=Gf h
  refine JLo (BL r9) [23] O .optt ⟨Ua,G⟩ (fun hc=>Zz (args:=[U8 2]) (caps:=[.dptr [E8 l],.dptr [G0 x.G3,G0 x.Tier,U8 x.Half]]) O O (G9b 2 l x r9 (H4 hc hr9)) H5f ⟨O,O,G⟩ O) O (Gc (u:=BL (((decide (x.Half=0))&&r8)&&r9)) [(22,BL ((decide (x.Half=0))&&r8)),(24,_)] O O O .scf ⟨.all id,.part,G⟩ (fun hc=>Q6 O O O O) ?_)
  refine JLh (BL (r7||(((decide (x.Half=0))&&r8)&&r9))) (G24 O O O O) O (Rc (BL (r7||(((decide (x.Half=0))&&r8)&&r9))) O (G7 (hK6 (Gv (fin1 BL h)))))

def G11 (a:Int) (b:Int):Option Bool:=
 some (((decide (a=b))||(decide (a=0)))||(decide (b=0)))
theorem H18 (a:Int) (b:Int) (r:Bool) (h:G11 a b=some r):Pure Ek 58 [U8 a,U8 b] (·=BL r):=by
 unfold G11 at h
 refine H5 [.tmp 4] Tryz.func58 O O (Jr fun hK1=>(Rc (BL false) O (G7 (hK1 (Jr fun hK2=>(Rc (U8 a) O (Rc (U8 b) O (JLh (BL (decide (a=b))) (Jx O O O) O (Rc (BL (decide (a=b))) O (JLo (U8 a) [] O .scf G (fun hc=>G5 O O) O (JLo (BL (decide (a=0))) [9] O .scf ⟨Ua,G⟩ (fun hc=>Jx O O O) O (JLh (BL ((decide (a=b))||(decide (a=0)))) (G24 O O O O) O (Rc (BL ((decide (a=b))||(decide (a=0)))) O (JLo (U8 b) [] O .scf G (fun hc=>G5 O O) O (JLo (BL (decide (b=0))) [13] O .scf ⟨Ua,G⟩ (fun hc=>Jx O O O) O (JLh (BL (((decide (a=b))||(decide (a=0)))||(decide (b=0)))) (G24 O O O O) O (Rc (BL (((decide (a=b))||(decide (a=0)))||(decide (b=0)))) O (G7 (hK2 (Gv (fin1 BL h)))))))))))))))))))))

def G57 (a:Slot) (b:Slot):Option Bool:=
 bnd (bif ((decide (a.G3=b.G3))&&(decide (a.Tier=b.Tier))) then G11 a.Half b.Half else some default) fun r3=>
 some (((decide (a.G3=b.G3))&&(decide (a.Tier=b.Tier)))&&r3)
theorem H59 (a:Slot) (b:Slot) (r:Bool) (h:G57 a b=some r):Pure Ek 47 [.agg [G0 a.G3,G0 a.Tier,U8 a.Half],.agg [G0 b.G3,G0 b.Tier,U8 b.Half]] (·=BL r):=by
 unfold G57 at h
 refine H5 [.tmp 4] Tryz.func47 O O (Jr fun hK1=>(JLh (.ptr 1092 0) (Q1 (cs:=[G0 a.G3,G0 a.Tier,U8 a.Half]) 1092 O O O O O) O (JLh (.ptr 1093 0) (Q1 (cs:=[G0 b.G3,G0 b.Tier,U8 b.Half]) 1093 O O O O O) O (Rc (BL false) O (G7 (hK1 (Gs [(2,.dptr [G0 a.G3,G0 a.Tier,U8 a.Half]),(3,.ptr 1093 0)] [(1093,.box 45 [G0 b.G3,G0 b.Tier,U8 b.Half])] 1092 rfl rfl rfl ⟨⟨_,rfl,.boxEq rfl rfl⟩,G⟩ rfl (by exact⟨.ptr,.conv (.same rfl),G⟩) (Gs [(2,.dptr [G0 a.G3,G0 a.Tier,U8 a.Half]),(3,.dptr [G0 b.G3,G0 b.Tier,U8 b.Half])] [] 1093 rfl rfl rfl G rfl (by exact⟨.conv (.same rfl),.ptr,G⟩) ?_))))))))
 refine Jr fun hK2=>(JLh (.dptr [G0 a.G3,G0 a.Tier,U8 a.Half]) (Gb Jf O O O) O (JLh (G0 a.G3) (Gi Gd O O O) O (JLh (.dptr [G0 b.G3,G0 b.Tier,U8 b.Half]) (Gb Jf O O O) O (JLh (G0 b.G3) (Gi Gd O O O) O (JLh (BL (decide (a.G3=b.G3))) (Jx O O O) O (Rc (BL (decide (a.G3=b.G3))) O (JLo (.dptr [G0 a.Tier,U8 a.Half]) [] O .sct G (fun hc=>Gb Yr O O O) O (JLo (G0 a.Tier) [11] O .sct ⟨Ua,G⟩ (fun hc=>Gi Gd O O O) O (JLo (.dptr [G0 b.Tier,U8 b.Half]) [] O .sct G (fun hc=>Gb Yr O O O) O (JLo (G0 b.Tier) [13] O .sct ⟨Ua,G⟩ (fun hc=>Gi Gd O O O) O (JLo (BL (decide (a.Tier=b.Tier))) [12,14] O .sct ⟨Ua,Ua,G⟩ (fun hc=>Jx O O O) O (JLh (BL ((decide (a.G3=b.G3))&&(decide (a.Tier=b.Tier)))) (Q6 O O O O) O (Rc (BL ((decide (a.G3=b.G3))&&(decide (a.Tier=b.Tier)))) O ?_)))))))))))))
 refine JLo (.dptr [U8 a.Half]) [] O .sct G (fun hc=>Gb Rf O O O) O (JLo (U8 a.Half) [18] O .sct ⟨Ua,G⟩ (fun hc=>Gi Hw O O O) O (JLo (.dptr [U8 b.Half]) [] O .sct G (fun hc=>Gb Rf O O O) O (JLo (U8 b.Half) [20] O .sct ⟨Ua,G⟩ (fun hc=>Gi Hw O O O) O ?_)))
 obtain⟨r3,hr3,h⟩:=Gf h
 refine JLo (BL r3) [19,21] O .sct ⟨Ua,Ua,G⟩ (fun hc=>Gu (args:=[U8 a.Half,U8 b.Half]) O (H18 a.Half b.Half r3 (H4 hc hr3)) J15 ⟨O,O,O,O,G⟩) O (JLh (BL (((decide (a.G3=b.G3))&&(decide (a.Tier=b.Tier)))&&r3)) (Q6 O O O O) O (Rc (BL (((decide (a.G3=b.G3))&&(decide (a.Tier=b.Tier)))&&r3)) O (G7 (hK2 (Gv (fin1 BL h))))))

def G8e (b:Ga):Option Int:=
 bif b.High then
 (some 2896)
 else
 (some 2591)
theorem M_stow_tall_w (b:Ga) (r:Int) (h:G8e b=some r):Pure Ek 101 [.agg (Ga.cs b)] (·=G0 r):=by
 unfold G8e at h
 refine H5 [.tmp 2] Tryz.func101 O O (Jr fun hK1=>(JLh (.ptr 1126 0) (Q1 (cs:=(Ga.cs b)) 1126 O O O O O) O (Rc (G0 0) O (G7 (hK1 (Gs [(1,Eh b)] [] 1126 rfl rfl rfl G rfl (by exact⟨.ptr,G⟩) (Js fun hK2=>Jr fun hK3=>(JLh (.dptr [BL b.High,G0 b.Kilos,G0 b.Load,G0 b.Discharge,U8 b.Class,BL b.Reefer]) (Gb G80 O O O) O (JLh (BL b.High) (Gi Jp O O O) O (G7 (hK3 (JCc O h (fun h hb=>?_) (fun h hb=>?_)))))))))))))
 ·
  refine Jr fun hK4=>(Rc (G0 2896) O (G7 (hK4 (Gv (fin1 G0 h)))))
 ·
  refine Gr (hK2 (Jr fun hK5=>(Rc (G0 2591) O (G7 (hK5 (Gv (fin1 G0 h)))))))

def G10 (boxes:List Ga) (l:List Stowed) (column:Int) (half:Int):Option Int:=
 each (fun y27 i27 (s27:Int) nx27=>
  jp (fun kj30=>
   bif ((decide (y27.Slot.G3=column))&&((decide (y27.Slot.Half=half))||(decide (y27.Slot.Half=0)))) then
   (bnd (G1e boxes y27.Ga) fun r34=>
    bif r34.2 then
    (bnd (G8e r34.1) fun r36=>
     G08 (s27+r36) fun v37=>
     kj30 v37)
    else
    (kj30 s27))
   else
   (kj30 s27)) fun(j30:Int)=>
  nx27 j30)
 (fun(s27:Int)=>
  some s27) l 0 0
theorem H17 (boxes:List Ga) (l:List Stowed) (column:Int) (half:Int) (r:Int) (h:G10 boxes l column half=some r):Pure Ek 75 [E2 boxes,E1 l,G0 column,U8 half] (·=G0 r):=by
 unfold G10 at h
 refine H5 [.tmp 8] Tryz.func75 O O (Jr fun hK1=>(Rc (G0 0) O (G7 (hK1 (Jr fun hK2=>(Rc (G0 0) O (G7 (hK2 (Js fun hK3=>Jr fun hK4=>(Rc (E1 l) O (JLl H0 O O O fun hm15=>(Rc (G0 0) O (G7 (hK4 (Gx ?_)))))))))))))))
 obtain⟨b27,kx27,hb27,hkx27,h⟩:=Jh h
 refine Hz (fun i27 (s27:Int)=>each b27 kx27 (List.drop i27 l) i27 s27=some r) (fun i27 s27=>[(0,E2 boxes),(2,G0 column),(3,U8 half),(9,G0 s27),(14,E1 l),(15,Ej l.length),(16,Ej i27)]) (fun i27 s27=>[]) (fun i27=>l.length - i27) 0 0 h ⟨(by repeat' constructor),G,rfl⟩ ?_
 clear h
 intro i27 s27 hi27 K27 e27
 refine Jr fun hK28=>(JLh (BL (decide ((i27:Int) < (l.length:Int)))) (Jt O O O) O (G7 (hK28 (Js fun hK29=>Gp O (fun hb=>?_) (fun hb=>?_)))))
 ·
  have hk27:=Q7 hb
  obtain⟨y27,nx27,hy27,hn27,h⟩:=J1 hi27 hk27
  replace h:=Zj hb27 h
  refine Gr (hK29 ?_)
  obtain⟨kj30,hkj30,h⟩:=Yh h
  refine R5 (fun j30:Int=>kj30 j30=some r) (fun j30=>[(0,E2 boxes),(2,G0 column),(3,U8 half),(9,G0 j30),(14,E1 l),(15,Ej l.length),(16,Ej i27)]) (fun j30=>[]) (fun Kj30 ej30=>?_) ?_
  ·
   refine Gx (Jr fun hK31=>(JLh (Ed y27) (H9 (f:=Stowed.av) (xs:=l) (y:=y27) O O O H0 hy27 O) O (JLh (.agg (Stowed.cs y27)) (Gh Qx O O O) O (JLh (.ptr 1110 0) (Hs 1110 4 Q8 O O) O (J0 (u:=.junk) (Hh (u:=.agg (Stowed.cs y27)) (ds:=[G0 y27.Ga,G0 y27.Slot.G3,G0 y27.Slot.Tier,U8 y27.Slot.Half]) Yg O O O O O O O O) (G7 (hK31 (Gs [(0,E2 boxes),(2,G0 column),(3,U8 half),(9,G0 s27),(11,Ed y27),(14,E1 l),(15,Ej l.length),(16,Ej i27)] [] 1110 rfl rfl rfl G rfl (by repeat' (first | exact .ptr | constructor)) ?_))))))))
   refine Jr fun hK32=>(JLh (.dptr ((Stowed.cs y27).drop 1)) (Gb J7 O O O) O (JLh (.dptr ((Stowed.cs y27).drop 1)) (Gb Jf O O O) O (JLh (G0 y27.Slot.G3) (Gi Gd O O O) O (Rc (G0 column) O (JLh (BL (decide (y27.Slot.G3=column))) (Jx O O O) O (Rc (BL (decide (y27.Slot.G3=column))) O (JLo (.dptr ((Stowed.cs y27).drop 1)) [] O .sct G (fun hc=>Gb J7 O O O) O (JLo (.dptr [U8 y27.Slot.Half]) [26] O .sct ⟨Ua,G⟩ (fun hc=>Gb Rf O O O) O (JLo (U8 y27.Slot.Half) [27] O .sct ⟨Ua,G⟩ (fun hc=>Gi Hw O O O) O (JLo (U8 half) [] O .sct G (fun hc=>G5 O O) O (JLo (BL (decide (y27.Slot.Half=half))) [28,29] O .sct ⟨Ua,Ua,G⟩ (fun hc=>Jx O O O) O (JLo (BL (decide (y27.Slot.Half=half))) [30] O .sct ⟨Ua,G⟩ (fun hc=>G5 O O) O (JLo (.dptr ((Stowed.cs y27).drop 1)) [] O .optf G (fun hc=>Gb J7 O O O) O ?_)))))))))))))
   refine JLo (.dptr [U8 y27.Slot.Half]) [32] O .optf ⟨Ua,G⟩ (fun hc=>Gb Rf O O O) O (JLo (U8 y27.Slot.Half) [33] O .optf ⟨Ua,G⟩ (fun hc=>Gi Hw O O O) O (JLo (BL (decide (y27.Slot.Half=0))) [34] O .optf ⟨Ua,G⟩ (fun hc=>Jx O O O) O (Gc (u:=BL ((decide (y27.Slot.Half=half))||(decide (y27.Slot.Half=0)))) [(31,BL (decide (y27.Slot.Half=half))),(35,_)] O O O .sct ⟨.all id,.part,G⟩ (fun hc=>G24 O O O O) ?_)))
   refine JLh (BL ((decide (y27.Slot.G3=column))&&((decide (y27.Slot.Half=half))||(decide (y27.Slot.Half=0))))) (Q6 O O O O) O (G7 (hK32 (JCc O h (fun h hb=>?_) (fun h hb=>?_))))
   ·
    refine Jr fun hK33=>(Rc (E2 boxes) O (JLh (Ed y27) (Gb Ht O O O) O (JLh (G0 y27.Ga) (Gi Gd O O O) O ?_)))
    obtain⟨r34,hr34,h⟩:=Gf h
    refine JLh (.tup [.agg (Ga.cs r34.1),BL r34.2]) (Gu O (Ge2 boxes y27.Ga r34 hr34) H60 ⟨O,O,O,O,G⟩) O (Rc (.tup [.agg (Ga.cs r34.1),BL r34.2]) O (JLh (.agg (Ga.cs r34.1)) (H2 O O O) O (JLh (BL r34.2) (H2 O O O) O (JLh (.ptr 1111 0) (Hs 1111 9 Y6 O O) O (J0 (u:=.junk) (Hh (u:=.agg (Ga.cs r34.1)) (ds:=(Ga.cs r34.1)) G17 O O O O O O O O) (Rc (BL r34.2) O (G7 (hK33 ?_))))))))
    refine Gs [(0,E2 boxes),(2,G0 column),(3,U8 half),(9,G0 s27),(12,Eh r34.1),(13,BL r34.2),(14,E1 l),(15,Ej l.length),(16,Ej i27)] [] 1111 rfl rfl rfl G rfl (by repeat' (first | exact .ptr | constructor)) (Jr fun hK35=>(Rc (BL r34.2) O (G7 (hK35 (JCc O h (fun h hb=>?_) (fun h hb=>?_))))))
    ·
     refine G4 (Rc (G0 s27) O (JLh (.agg (Ga.cs r34.1)) (Gh G52 O O O) O ?_))
     obtain⟨r36,hr36,h⟩:=Gf h
     refine JLh (G0 r36) (Gu O (M_stow_tall_w r34.1 r36 hr36) J82 ⟨O,O,G⟩) O ?_
     obtain⟨v37,hv37,h⟩:=Jc h
     refine JLh (G0 v37) (Hv hv37 O O O) O (Rc (G0 v37) O (G7 (ej30 _ _ v37 h ⟨(by repeat' constructor),G,rfl⟩)))
    ·
     refine Gr (ej30 _ _ s27 h ⟨(by repeat' constructor),G,rfl⟩)
   ·
    refine Gr (ej30 _ _ s27 h ⟨(by repeat' constructor),G,rfl⟩)
  ·intro j30 h
   replace h:=app1 hkj30 h
   refine G4 (JLh (G0 ((i27+1:Nat):Int)) (Hv (Hr hk27 hm15) O O O) O (Rc (G0 ((i27+1:Nat):Int)) O (G7 (e27 _ _ (i27+1) j30 (app1 hn27 h) (by omega) ⟨(by repeat' constructor),G,rfl⟩))))
 ·
  have h:=app1 hkx27 (J2 hi27 (Hg hb))
  refine J6 (hK3 (Jr fun hK38=>(Rc (G0 s27) O (Rc (G0 s27) O (G7 (hK38 (Gv (fin1 G0 h))))))))

def G1d (s:Gt) (boxes:List Ga) (l:List Stowed) (column:Int):Option Bool:=
 Yn s.Columns column fun y3=>
 bnd (bif (!(decide (y3.Height≤0))) then G10 boxes l column 1 else some default) fun r6=>
 bnd (bif ((!(decide (y3.Height≤0)))&&(decide (r6≤y3.Height))) then G10 boxes l column 2 else some default) fun r7=>
 some ((decide (y3.Height≤0))||((decide (r6≤y3.Height))&&(decide (r7≤y3.Height))))
theorem H57 (s:Gt) (boxes:List Ga) (l:List Stowed) (column:Int) (r:Bool) (h:G1d s boxes l column=some r):Pure Ek 48 [.agg (Gt.cs s),E2 boxes,E1 l,G0 column] (·=BL r):=by
 unfold G1d at h
 refine H5 [.tmp 8] Tryz.func48 O O (Jr fun hK1=>(JLh (.ptr 1094 0) (Q1 (cs:=(Gt.cs s)) 1094 O O O O O) O (Rc (BL false) O (G7 (hK1 (Gs [(1,E2 boxes),(2,E1 l),(3,G0 column),(4,Ec s)] [] 1094 rfl rfl rfl G rfl (by repeat' (first | exact .ptr | constructor)) ?_))))))
 refine Jr fun hK2=>(JLh (Ec s) (Gb Hm O O O) O (JLh (E7 s.Columns) (Gi J4 O O O) O (Rc (G0 column) O ?_)))
 obtain⟨m4,y3,hm4,hy3,h⟩:=Rh h
 refine JLh (Ee y3) (H9 (f:=G3.av) (xs:=s.Columns) (y:=y3) O O O Hq hy3 hm4) O (JLh (.dptr ((G3.cs y3).drop 4)) (Gb Gde O O O) O (JLh (G0 y3.Height) (Gi Gd O O O) O (Rc (G0 y3.Height) O (G7 (hK2 (Jr fun hK5=>(Rc (G0 y3.Height) O (JLh (BL (decide (y3.Height≤0))) (He8 O O O) O (Rc (BL (decide (y3.Height≤0))) O (JLo (E2 boxes) [] O .scf G (fun hc=>G5 O O) O (JLo (E1 l) [] O .scf G (fun hc=>G5 O O) O (JLo (G0 column) [] O .scf G (fun hc=>G5 O O) O ?_))))))))))))
 obtain⟨r6,hr6,h⟩:=Gf h
 refine JLo (G0 r6) [19,20,21] O .scf ⟨Ua,Ua,Ua,G⟩ (fun hc=>Gu (args:=[E2 boxes,E1 l,G0 column,U8 1]) O (H17 boxes l column 1 r6 (H4 hc hr6)) J12 ⟨O,O,O,O,O,O,O,O,G⟩) O (JLo (G0 y3.Height) [] O .scf G (fun hc=>G5 O O) O (JLo (BL (decide (r6≤y3.Height))) [22,23] O .scf ⟨Ua,Ua,G⟩ (fun hc=>He8 O O O) O (JLo (BL (decide (r6≤y3.Height))) [24] O .scf ⟨Ua,G⟩ (fun hc=>G5 O O) O (JLo (E2 boxes) [] O .optt G (fun hc=>G5 O O) O (JLo (E1 l) [] O .optt G (fun hc=>G5 O O) O (JLo (G0 column) [] O .optt G (fun hc=>G5 O O) O ?_))))))
 obtain⟨r7,hr7,h⟩:=Gf h
 refine JLo (G0 r7) [26,27,28] O .optt ⟨Ua,Ua,Ua,G⟩ (fun hc=>Gu (args:=[E2 boxes,E1 l,G0 column,U8 2]) O (H17 boxes l column 2 r7 (H4 hc hr7)) J12 ⟨O,O,O,O,O,O,O,O,G⟩) O (JLo (G0 y3.Height) [] O .optt G (fun hc=>G5 O O) O (JLo (BL (decide (r7≤y3.Height))) [29,30] O .optt ⟨Ua,Ua,G⟩ (fun hc=>He8 O O O) O (Gc (u:=BL ((decide (r6≤y3.Height))&&(decide (r7≤y3.Height)))) [(25,BL (decide (r6≤y3.Height))),(31,_)] O O O .scf ⟨.all id,.part,G⟩ (fun hc=>Q6 O O O O) ?_)))
 refine JLh (BL ((decide (y3.Height≤0))||((decide (r6≤y3.Height))&&(decide (r7≤y3.Height))))) (G24 O O O O) O (Rc (BL ((decide (y3.Height≤0))||((decide (r6≤y3.Height))&&(decide (r7≤y3.Height))))) O (G7 (hK5 (Gv (fin1 BL h)))))

def Rj (s:Gt) (boxes:List Ga) (l:List Stowed):Option Bool:=
 bnd (G2c s) fun r4=>
 bif (!r4) then
 (some false)
 else
 (bnd (G2d l) fun r7=>
  each (fun y10 i10 (s10:Unit) nx10=>
   bnd (G1e boxes y10.Ga) fun r16=>
   bnd (bif ((!(!r16.2))&&(decide (0 < (i10:Int)))) then G08 ((i10:Int) - 1) some else some 0) fun v19=>
   bnd (bif ((!(!r16.2))&&(decide (0 < (i10:Int)))) then Yn l v19 some else some default) fun y20=>
   bnd (bif (!((!r16.2)||((decide (0 < (i10:Int)))&&(decide (y10.Ga≤y20.Ga))))) then G30 s y10.Slot r16.1.Size else some default) fun r21=>
   bnd (bif (!(((!r16.2)||((decide (0 < (i10:Int)))&&(decide (y10.Ga≤y20.Ga))))||(!r21))) then G58 y10.Slot r7 else some default) fun r22=>
   bif ((((!r16.2)||((decide (0 < (i10:Int)))&&(decide (y10.Ga≤y20.Ga))))||(!r21))||(!r22)) then
   (some false)
   else
   (bnd (H15 (i10:Int) r7.length) fun m25=>
    each (fun y42 i42 (s42:Unit) nx42=>
     bnd (G57 y10.Slot y42) fun r48=>
     bif r48 then
     (some false)
     else
     (nx42 ()))
    (fun(s42:Unit)=>
     nx10 ()) (r7.take m25) 0 ()))
  (fun(s10:Unit)=>
   each (fun y64 i64 (s64:Unit) nx64=>
    bnd (G1d s boxes l (i64:Int)) fun r70=>
    bif (!r70) then
    (some false)
    else
    (nx64 ()))
   (fun(s64:Unit)=>
    some true) s.Columns 0 ()) l 0 ())
theorem Zv (s:Gt) (boxes:List Ga) (l:List Stowed) (r:Bool) (h:Rj s boxes l=some r):Pure Ek 17 [.agg (Gt.cs s),E2 boxes,E1 l] (·=BL r):=by
 unfold Rj at h
 refine H5 [.tmp 6] Tryz.func17 O O (Jr fun hK1=>(JLh (.ptr 1046 0) (Q1 (cs:=(Gt.cs s)) 1046 O O O O O) O (Rc (BL false) O (G7 (hK1 (Gs [(1,E2 boxes),(2,E1 l),(3,Ec s)] [] 1046 rfl rfl rfl G rfl (by exact⟨.conv (.same rfl),.conv (.same rfl),.ptr,G⟩) (Js fun hK2=>?_)))))))
 refine Jr fun hK3=>(JLh (.agg (Gt.cs s)) (Gh H7 O O O) O ?_)
 obtain⟨r4,hr4,h⟩:=Gf h
 refine JLh (BL r4) (Gu O (J4f.down s r4 hr4) Jb6 ⟨O,O,G⟩) O (JLh (BL (!r4)) (Ze (b:=r4) O O) O (G7 (hK3 (JCc O h (fun h hb=>?_) (fun h hb=>?_)))))
 ·
  refine Jr fun hK5=>(Rc (BL false) O (G7 (hK5 (Gv (fin1 BL h)))))
 ·
  refine Gr (hK2 (Jr fun hK6=>(Rc (E1 l) O ?_)))
  obtain⟨r7,hr7,h⟩:=Gf h
  refine JLh (E8 r7) (Gu O (H35 l r7 hr7) J1b ⟨O,O,G⟩) O (Rc (E8 r7) O (G7 (hK6 (Js fun hK8=>Jr fun hK9=>(Rc (E1 l) O (JLl H0 O O O fun hm21=>(Rc (G0 0) O (G7 (hK9 (Gx ?_))))))))))
  obtain⟨b10,kx10,hb10,hkx10,h⟩:=Jh h
  refine Hz (fun i10 (s10:Unit)=>each b10 kx10 (List.drop i10 l) i10 s10=some r) (fun i10 s10=>[(1,E2 boxes),(2,E1 l),(3,Ec s),(7,E8 r7),(20,E1 l),(21,Ej l.length),(22,Ej i10)]) (fun i10 s10=>[]) (fun i10=>l.length - i10) 0 () h ⟨(by repeat' constructor),G,rfl⟩ ?_
  clear h
  intro i10 s10 hi10 K10 e10
  refine Jr fun hK11=>(JLh (BL (decide ((i10:Int) < (l.length:Int)))) (Jt O O O) O (G7 (hK11 (Js fun hK12=>Gp O (fun hb=>?_) (fun hb=>?_)))))
  ·
   have hk10:=Q7 hb
   obtain⟨y10,nx10,hy10,hn10,h⟩:=J1 hi10 hk10
   replace h:=Zj hb10 h
   refine Gr (hK12 (Js fun hK13=>Gx (Jr fun hK14=>(Rc (Ej i10) O (JLh (Ed y10) (H9 (f:=Stowed.av) (xs:=l) (y:=y10) O O O H0 hy10 O) O (JLh (.agg (Stowed.cs y10)) (Gh Qx O O O) O (JLh (.ptr 1047 0) (Hs 1047 4 Q8 O O) O (Rc (Ej i10) O (J0 (u:=.junk) (Hh (u:=.agg (Stowed.cs y10)) (ds:=[G0 y10.Ga,G0 y10.Slot.G3,G0 y10.Slot.Tier,U8 y10.Slot.Half]) Yg O O O O O O O O) (G7 (hK14 ?_)))))))))))
   refine Gs [(1,E2 boxes),(2,E1 l),(3,Ec s),(7,E8 r7),(8,Ej i10),(9,Ed y10),(20,E1 l),(21,Ej l.length),(22,Ej i10)] [] 1047 rfl rfl rfl G rfl (by repeat' (first | exact .ptr | constructor)) (Jr fun hK15=>(Rc (E2 boxes) O (JLh (Ed y10) (Gb Ht O O O) O (JLh (G0 y10.Ga) (Gi Gd O O O) O ?_))))
   obtain⟨r16,hr16,h⟩:=Gf h
   refine JLh (.tup [.agg (Ga.cs r16.1),BL r16.2]) (Gu O (Ge2 boxes y10.Ga r16 hr16) H60 ⟨O,O,O,O,G⟩) O (Rc (.tup [.agg (Ga.cs r16.1),BL r16.2]) O (JLh (.agg (Ga.cs r16.1)) (H2 O O O) O (JLh (BL r16.2) (H2 O O O) O (JLh (.ptr 1048 0) (Hs 1048 9 Y6 O O) O (J0 (u:=.junk) (Hh (u:=.agg (Ga.cs r16.1)) (ds:=(Ga.cs r16.1)) G17 O O O O O O O O) (Rc (BL r16.2) O (G7 (hK15 ?_))))))))
   refine Gs [(1,E2 boxes),(2,E1 l),(3,Ec s),(7,E8 r7),(8,Ej i10),(9,Ed y10),(10,Eh r16.1),(11,BL r16.2),(20,E1 l),(21,Ej l.length),(22,Ej i10)] [] 1048 rfl rfl rfl G rfl (by repeat' (first | exact .ptr | constructor)) (Js fun hK17=>Js fun hK18=>?_)
   obtain⟨v19,hv19,h⟩:=Gf h
   obtain⟨y20,hy20,h⟩:=Gf h
   obtain⟨r21,hr21,h⟩:=Gf h
   obtain⟨r22,hr22,h⟩:=Gf h
   refine JC_d0 Jz (by kernel_rfl) (Dq (BL r16.2) (G5 O O) O (Dq (BL (!r16.2)) (Ze (b:=r16.2) O O) O (Dq (BL (!r16.2)) (G5 O O) O (Do (Ej i10) [] O .scf G (fun hc=>G5 O O) O (Do (BL (decide (0 < (i10:Int)))) [37] O .scf ⟨Ua,G⟩ (fun hc=>G9c O O O) O (Do (BL (decide (0 < (i10:Int)))) [38] O .scf ⟨Ua,G⟩ (fun hc=>G5 O O) O (Do (Ed y10) [] O .optt G (fun hc=>Gb Ht O O O) O (Do (G0 y10.Ga) [40] O .optt ⟨Ua,G⟩ (fun hc=>Gi Gd O O O) O (Do (E1 l) [] O .optt G (fun hc=>G5 O O) O (Do (Ej i10) [] O .optt G (fun hc=>G5 O O) O (Do (G0 v19) [43] O .optt ⟨Ua,G⟩ (fun hc=>H3c (G64 (H4 hc hv19)) O O O) O (Do (Ed y20) [42,44] O .optt ⟨Ua,Ua,G⟩ (fun hc=>(match Yw (H4 hc hy20) with | ⟨_,hm_,hy_⟩=>H9 (f:=Stowed.av) (xs:=l) (y:=y20) O O O H0 hy_ hm_)) O (Do (Ed y20) [45] O .optt ⟨Ua,G⟩ (fun hc=>Gb Ht O O O) O ?_)))))))))))))
   refine Do (G0 y20.Ga) [46] O .optt ⟨Ua,G⟩ (fun hc=>Gi Gd O O O) O (Do (BL (decide (y10.Ga≤y20.Ga))) [41,47] O .optt ⟨Ua,Ua,G⟩ (fun hc=>He8 O O O) O (Dg (.opt (!(!r16.2)) (BL ((decide (0 < (i10:Int)))&&(decide (y10.Ga≤y20.Ga))))) (J3 [(39,BL (decide (0 < (i10:Int)))),(48,_)] O O O .scf ⟨.all id,.part,G⟩ (fun hc=>Q6 O O O O) O) O (Dq (BL ((!r16.2)||((decide (0 < (i10:Int)))&&(decide (y10.Ga≤y20.Ga))))) (G24 O O O O) O (Dq (BL ((!r16.2)||((decide (0 < (i10:Int)))&&(decide (y10.Ga≤y20.Ga))))) (G5 O O) O (Do (.agg (Gt.cs s)) [] O .scf G (fun hc=>Gh H7 O O O) O (Do (.dptr ((Stowed.cs y10).drop 1)) [] O .scf G (fun hc=>Gb J7 O O O) O (Do (.agg ((Stowed.cs y10).drop 1)) [53] O .scf ⟨Ua,G⟩ (fun hc=>Gh Q4 O O O) O (Do (.dptr ((Ga.cs r16.1).drop 2)) [] O .scf G (fun hc=>Gb Y0 O O O) O (Do (U8 r16.1.Size) [55] O .scf ⟨Ua,G⟩ (fun hc=>Gi Hw O O O) O (Do (BL r21) [52,54,56] O .scf ⟨Ua,Ua,Ua,G⟩ (fun hc=>Gu (args:=[.agg (Gt.cs s),.agg ((Stowed.cs y10).drop 1),U8 r16.1.Size]) O (H38 s y10.Slot r16.1.Size r21 (H4 hc hr21)) J1d ⟨O,O,O,O,O,O,G⟩) O (Do (BL (!r21)) [57] O .scf ⟨Ua,G⟩ (fun hc=>Ze (b:=r21) O O) O (Dq (BL (((!r16.2)||((decide (0 < (i10:Int)))&&(decide (y10.Ga≤y20.Ga))))||(!r21))) (G24 O O O O) O (Dq (BL (((!r16.2)||((decide (0 < (i10:Int)))&&(decide (y10.Ga≤y20.Ga))))||(!r21))) (G5 O O) O ?_)))))))))))))
   refine Do (.dptr ((Stowed.cs y10).drop 1)) [] O .scf G (fun hc=>Gb J7 O O O) O (Do (.agg ((Stowed.cs y10).drop 1)) [61] O .scf ⟨Ua,G⟩ (fun hc=>Gh Q4 O O O) O (Do (E8 r7) [] O .scf G (fun hc=>G5 O O) O (Do (BL r22) [62,63] O .scf ⟨Ua,Ua,G⟩ (fun hc=>Gu (args:=[.agg ((Stowed.cs y10).drop 1),E8 r7]) O (H5a y10.Slot r7 r22 (H4 hc hr22)) J1a ⟨O,O,O,O,G⟩) O (Do (BL (!r22)) [64] O .scf ⟨Ua,G⟩ (fun hc=>Ze (b:=r22) O O) O (Dq (BL ((((!r16.2)||((decide (0 < (i10:Int)))&&(decide (y10.Ga≤y20.Ga))))||(!r21))||(!r22))) (G24 O O O O) O (Dnil (hK18 (JCc O h (fun h hb=>?_) (fun h hb=>?_)))))))))
   ·
    refine Jr fun hK23=>(Rc (BL false) O (G7 (hK23 (Gv (fin1 BL h)))))
   ·
    refine Gr (hK17 (Jr fun hK24=>(Rc (E8 r7) O (Rc (Ej i10) O ?_))))
    obtain⟨m25,hm25,h⟩:=Gf h
    refine JLh (E8 (r7.take m25)) (H12 (f:=Slot.av) (xs:=r7) O O O R6 (G28 hm25)) O (JLl R6 O O O fun hm70=>(Rc (G0 0) O (G7 (hK24 (Gx ?_)))))
    obtain⟨b42,kx42,hb42,hkx42,h⟩:=Jh h
    refine Hz (fun i42 (s42:Unit)=>each b42 kx42 (List.drop i42 (r7.take m25)) i42 s42=some r) (fun i42 s42=>[(1,E2 boxes),(2,E1 l),(3,Ec s),(7,E8 r7),(9,Ed y10),(20,E1 l),(21,Ej l.length),(22,Ej i10),(69,E8 (r7.take m25)),(70,G0 ((r7.take m25).length:Int)),(71,Ej i42)]) (fun i42 s42=>[]) (fun i42=>(r7.take m25).length - i42) 0 () h ⟨(by repeat' constructor),G,rfl⟩ ?_
    clear h
    intro i42 s42 hi42 K42 e42
    refine Jr fun hK43=>(JLh (BL (decide ((i42:Int) < ((r7.take m25).length:Int)))) (Jt O O O) O (G7 (hK43 (Js fun hK44=>Gp O (fun hb=>?_) (fun hb=>?_)))))
    ·
     have hk42:=Q7 hb
     obtain⟨y42,nx42,hy42,hn42,h⟩:=J1 hi42 hk42
     replace h:=Zj hb42 h
     refine Gr (hK44 (Js fun hK45=>Gx (Jr fun hK46=>(JLh (Ei y42) (H9 (f:=Slot.av) (xs:=(r7.take m25)) (y:=y42) O O O R6 hy42 O) O (JLh (.agg (Slot.cs y42)) (Gh Q4 O O O) O (JLh (.ptr 1049 0) (Hs 1049 3 G51 O O) O (J0 (u:=.junk) (Hh (u:=.agg (Slot.cs y42)) (ds:=[G0 y42.G3,G0 y42.Tier,U8 y42.Half]) Gfb O O O O O O O O) (G7 (hK46 ?_)))))))))
     refine Gs [(1,E2 boxes),(2,E1 l),(3,Ec s),(7,E8 r7),(9,Ed y10),(13,Ei y42),(20,E1 l),(21,Ej l.length),(22,Ej i10),(69,E8 (r7.take m25)),(70,G0 ((r7.take m25).length:Int)),(71,Ej i42)] [] 1049 rfl rfl rfl G rfl (by repeat' (first | exact .ptr | constructor)) ?_
     refine Jr fun hK47=>(JLh (.dptr ((Stowed.cs y10).drop 1)) (Gb J7 O O O) O (JLh (.agg ((Stowed.cs y10).drop 1)) (Gh Q4 O O O) O (JLh (.agg (Slot.cs y42)) (Gh Q4 O O O) O ?_)))
     obtain⟨r48,hr48,h⟩:=Gf h
     refine JLh (BL r48) (Gu O (H59 y10.Slot y42 r48 hr48) J19 ⟨O,O,O,O,G⟩) O (G7 (hK47 (JCc O h (fun h hb=>?_) (fun h hb=>?_))))
     ·
      refine Jr fun hK49=>(Rc (BL false) O (G7 (hK49 (Gv (fin1 BL h)))))
     ·
      refine Gr (hK45 (G4 (JLh (G0 ((i42+1:Nat):Int)) (Hv (Hr hk42 hm70) O O O) O (Rc (G0 ((i42+1:Nat):Int)) O (G7 (e42 _ _ (i42+1) () (app1 hn42 h) (by omega) ⟨(by repeat' constructor),G,rfl⟩))))))
    ·
     have h:=app1 hkx42 (J2 hi42 (Hg hb))
     refine J6 (hK13 (G4 (JLh (G0 ((i10+1:Nat):Int)) (Hv (Hr hk10 hm21) O O O) O (Rc (G0 ((i10+1:Nat):Int)) O (G7 (e10 _ _ (i10+1) () (app1 hn10 h) (by omega) ⟨(by repeat' constructor),G,rfl⟩))))))
  ·
   have h:=app1 hkx10 (J2 hi10 (Hg hb))
   refine J6 (hK8 (Js fun hK50=>Jr fun hK51=>(JLh (Ec s) (Gb Hm O O O) O (JLh (E7 s.Columns) (Gi J4 O O O) O (JLl Hq O O O fun hm83=>(Rc (G0 0) O (G7 (hK51 (Gx ?_)))))))))
   obtain⟨b64,kx64,hb64,hkx64,h⟩:=Jh h
   refine Hz (fun i64 (s64:Unit)=>each b64 kx64 (List.drop i64 s.Columns) i64 s64=some r) (fun i64 s64=>[(1,E2 boxes),(2,E1 l),(3,Ec s),(83,Ej s.Columns.length),(84,Ej i64)]) (fun i64 s64=>[]) (fun i64=>s.Columns.length - i64) 0 () h ⟨(by repeat' constructor),G,rfl⟩ ?_
   clear h
   intro i64 s64 hi64 K64 e64
   refine Jr fun hK65=>(JLh (BL (decide ((i64:Int) < (s.Columns.length:Int)))) (Jt O O O) O (G7 (hK65 (Js fun hK66=>Gp O (fun hb=>?_) (fun hb=>?_)))))
   ·
    have hk64:=Q7 hb
    obtain⟨y64,nx64,hy64,hn64,h⟩:=J1 hi64 hk64
    replace h:=Zj hb64 h
    refine Gr (hK66 (Js fun hK67=>Gx (Jr fun hK68=>(Rc (Ej i64) O (Rc (Ej i64) O (G7 (hK68 (Jr fun hK69=>(JLh (.agg (Gt.cs s)) (Gh H7 O O O) O (Rc (E2 boxes) O (Rc (E1 l) O (Rc (Ej i64) O ?_))))))))))))
    obtain⟨r70,hr70,h⟩:=Gf h
    refine JLh (BL r70) (Gu O (H57 s boxes l (i64:Int) r70 hr70) J18 ⟨O,O,O,O,O,O,O,O,G⟩) O (JLh (BL (!r70)) (Ze (b:=r70) O O) O (G7 (hK69 (JCc O h (fun h hb=>?_) (fun h hb=>?_)))))
    ·
     refine Jr fun hK71=>(Rc (BL false) O (G7 (hK71 (Gv (fin1 BL h)))))
    ·
     refine Gr (hK67 (G4 (JLh (G0 ((i64+1:Nat):Int)) (Hv (Hr hk64 hm83) O O O) O (Rc (G0 ((i64+1:Nat):Int)) O (G7 (e64 _ _ (i64+1) () (app1 hn64 h) (by omega) ⟨(by repeat' constructor),G,rfl⟩))))))
   ·
    have h:=app1 hkx64 (J2 hi64 (Hg hb))
    refine J6 (hK50 (Jr fun hK72=>(Rc (BL true) O (G7 (hK72 (Gv (fin1 BL h)))))))

def Qa (s:Gt) (boxes:List Ga) (l:List Stowed) (open_:List Int):Option Bool:=
 each (fun y22 i22 (s22:Unit) nx22=>
  bnd (bif ((!((decide (y22 < 0))||(decide ((s.Covers.length:Int)≤y22))))&&(decide (0 < (i22:Int)))) then G08 ((i22:Int) - 1) some else some 0) fun v28=>
  bnd (bif ((!((decide (y22 < 0))||(decide ((s.Covers.length:Int)≤y22))))&&(decide (0 < (i22:Int)))) then Yn open_ v28 some else some default) fun y29=>
  bif (((decide (y22 < 0))||(decide ((s.Covers.length:Int)≤y22)))||((decide (0 < (i22:Int)))&&(decide (y22≤y29)))) then
  (some false)
  else
  (nx22 ()))
 (fun(s22:Unit)=>
  bnd (Rj s boxes l) fun r32=>
  some r32) open_ 0 ()
theorem Zu (s:Gt) (boxes:List Ga) (l:List Stowed) (open_:List Int) (r:Bool) (h:Qa s boxes l open_=some r):Pure Ek 25 [.agg (Gt.cs s),E2 boxes,E1 l,E0 open_] (·=BL r):=by
 unfold Qa at h
 refine H5 [.tmp 8] Tryz.func25 O O (Jr fun hK1=>(JLh (.ptr 1064 0) (Q1 (cs:=(Gt.cs s)) 1064 O O O O O) O (Rc (BL false) O (G7 (hK1 (Gs [(1,E2 boxes),(2,E1 l),(3,E0 open_),(4,Ec s)] [] 1064 rfl rfl rfl G rfl (by repeat' (first | exact .ptr | constructor)) (Js fun hK2=>?_)))))))
 refine Jr fun hK3=>(Rc (E0 open_) O (JLl Gq O O O fun hm12=>(Rc (G0 0) O (G7 (hK3 (Gx ?_))))))
 obtain⟨b22,kx22,hb22,hkx22,h⟩:=Jh h
 refine Hz (fun i22 (s22:Unit)=>each b22 kx22 (List.drop i22 open_) i22 s22=some r) (fun i22 s22=>[(1,E2 boxes),(2,E1 l),(3,E0 open_),(4,Ec s),(11,E0 open_),(12,Ej open_.length),(13,Ej i22)]) (fun i22 s22=>[]) (fun i22=>open_.length - i22) 0 () h ⟨(by repeat' constructor),G,rfl⟩ ?_
 clear h
 intro i22 s22 hi22 K22 e22
 refine Jr fun hK23=>(JLh (BL (decide ((i22:Int) < (open_.length:Int)))) (Jt O O O) O (G7 (hK23 (Js fun hK24=>Gp O (fun hb=>?_) (fun hb=>?_)))))
 ·
  have hk22:=Q7 hb
  obtain⟨y22,nx22,hy22,hn22,h⟩:=J1 hi22 hk22
  replace h:=Zj hb22 h
  refine Gr (hK24 (Js fun hK25=>Gx (Jr fun hK26=>(Rc (Ej i22) O (JLh (.dptr [G0 y22]) (H9 (f:=G0) (xs:=open_) (y:=y22) O O O Gq hy22 O) O (JLh (G0 y22) (Gi Gd O O O) O (Rc (Ej i22) O (Rc (G0 y22) O (G7 (hK26 ?_))))))))))
  refine Jr fun hK27=>(Rc (G0 y22) O (JLh (BL (decide (y22 < 0))) (Jt O O O) O (Rc (BL (decide (y22 < 0))) O (JLo (G0 y22) [] O .scf G (fun hc=>G5 O O) O (JLo (.dptr [E3 s.Covers,G0 s.Light.Kilos,G0 s.Light.X,G0 s.Light.Y,G0 s.Light.Z,E4 s.Rows,E5 s.Frames,E6 s.Tanks,G0 s.G2.Tolerance,G0 s.G2.Trim,G0 s.G2.List_,G0 s.G2.Stability]) [] O .scf G (fun hc=>Gb Hu O O O) O (JLo (E3 s.Covers) [22] O .scf ⟨Ua,G⟩ (fun hc=>Gi Ja O O O) O (JLo (Ej s.Covers.length) [23] O .scf ⟨Ua,G⟩ (fun hc=>Yo (f:=G9.av) (xs:=s.Covers) J8 O O) O (JLo (BL (decide ((s.Covers.length:Int)≤y22))) [21,24] O .scf ⟨Ua,Ua,G⟩ (fun hc=>G9d O O O) O (JLh (BL ((decide (y22 < 0))||(decide ((s.Covers.length:Int)≤y22)))) (G24 O O O O) O (Rc (BL ((decide (y22 < 0))||(decide ((s.Covers.length:Int)≤y22)))) O (JLo (Ej i22) [] O .scf G (fun hc=>G5 O O) O (JLo (BL (decide (0 < (i22:Int)))) [28] O .scf ⟨Ua,G⟩ (fun hc=>G9c O O O) O (JLo (BL (decide (0 < (i22:Int)))) [29] O .scf ⟨Ua,G⟩ (fun hc=>G5 O O) O ?_)))))))))))))
  refine JLo (G0 y22) [] O .optt G (fun hc=>G5 O O) O (JLo (E0 open_) [] O .optt G (fun hc=>G5 O O) O (JLo (Ej i22) [] O .optt G (fun hc=>G5 O O) O ?_))
  obtain⟨v28,hv28,h⟩:=Gf h
  refine JLo (G0 v28) [33] O .optt ⟨Ua,G⟩ (fun hc=>H3c (G64 (H4 hc hv28)) O O O) O ?_
  obtain⟨y29,hy29,h⟩:=Gf h
  refine JLo (.dptr [G0 y29]) [32,34] O .optt ⟨Ua,Ua,G⟩ (fun hc=>(match Yw (H4 hc hy29) with | ⟨_,hm_,hy_⟩=>H9 (f:=G0) (xs:=open_) (y:=y29) O O O Gq hy_ hm_)) O (JLo (G0 y29) [35] O .optt ⟨Ua,G⟩ (fun hc=>Gi Gd O O O) O (JLo (BL (decide (y22≤y29))) [31,36] O .optt ⟨Ua,Ua,G⟩ (fun hc=>He8 O O O) O (Gc (u:=BL ((decide (0 < (i22:Int)))&&(decide (y22≤y29)))) [(30,BL (decide (0 < (i22:Int)))),(37,_)] O O O .scf ⟨.all id,.part,G⟩ (fun hc=>Q6 O O O O) ?_)))
  refine JLh (BL (((decide (y22 < 0))||(decide ((s.Covers.length:Int)≤y22)))||((decide (0 < (i22:Int)))&&(decide (y22≤y29))))) (G24 O O O O) O (G7 (hK27 (JCc O h (fun h hb=>?_) (fun h hb=>?_))))
  ·
   refine Jr fun hK30=>(Rc (BL false) O (G7 (hK30 (Gv (fin1 BL h)))))
  ·
   refine Gr (hK25 (G4 (JLh (G0 ((i22+1:Nat):Int)) (Hv (Hr hk22 hm12) O O O) O (Rc (G0 ((i22+1:Nat):Int)) O (G7 (e22 _ _ (i22+1) () (app1 hn22 h) (by omega) ⟨(by repeat' constructor),G,rfl⟩))))))
 ·
  have h:=app1 hkx22 (J2 hi22 (Hg hb))
  refine J6 (hK2 (Jr fun hK31=>(JLh (.agg (Gt.cs s)) (Gh H7 O O O) O (Rc (E2 boxes) O (Rc (E1 l) O ?_)))))
  obtain⟨r32,hr32,h⟩:=Gf h
  refine JLh (BL r32) (Gu O (Zv s boxes l r32 hr32) G73 ⟨O,O,O,O,O,O,G⟩) O (Rc (BL r32) O (G7 (hK31 (Gv (fin1 BL h)))))

def G42 (x:Stowed) (p1:Int):Option Bool:=
 some (decide (x.Ga=p1))
theorem Hed (x:Stowed) (p1:Int) (r:Bool) (h:G42 x p1=some r):Pure Ek 54 [.agg (Stowed.cs x),.dptr [G0 p1]] (·=BL r):=by
 unfold G42 at h
 refine H5 [.tmp 3] Tryz.func54 O O (Jr fun hK1=>(JLh (.ptr 1103 0) (Q1 (cs:=[G0 x.Ga,G0 x.Slot.G3,G0 x.Slot.Tier,U8 x.Slot.Half]) 1103 O O O O O) O (Rc (BL false) O (G7 (hK1 (Gs [(1,.dptr [G0 p1]),(2,Ed x)] [] 1103 rfl rfl rfl G rfl (by exact⟨.conv (.same rfl),.ptr,G⟩) (Jr fun hK2=>(JLh (Ed x) (Gb Ht O O O) O (JLh (G0 x.Ga) (Gi Gd O O O) O (JLh (G0 p1) (Gi Gd O O O) O (JLh (BL (decide (x.Ga=p1))) (Jx O O O) O (Rc (BL (decide (x.Ga=p1))) O (G7 (hK2 (Gv (fin1 BL h))))))))))))))))

def Qg (s:List Stowed) (f:Stowed→Option Bool):Option Int:=
 each (fun y20 i20 (s20:Unit) nx20=>
  bnd (f y20) fun r26=>
  bif r26 then
  (some (i20:Int))
  else
  (nx20 ()))
 (fun(s20:Unit)=>
  some (-1)) s 0 ()
theorem Zw (s:List Stowed) (f:Stowed→Option Bool) (f_f:FuncId) (f_c:List AV) (f_B:Hf Ek f_f=true) (f_d:Y8 (fun _=>false) f_c=true) (f_w:∀ a0 q,f a0=some q→Pure Ek f_f ([.agg (Stowed.cs a0)]++f_c) (·=BL q)) (r:Int) (h:Qg s f=some r):Pure Ek 53 [E1 s,.fn f_f f_c] (·=G0 r):=by
 unfold Qg at h
 refine H5 [.tmp 4] Tryz.func53 O O (Jr fun hK1=>(Rc (G0 0) O (G7 (hK1 (Js fun hK2=>Jr fun hK3=>(Rc (E1 s) O (JLl H0 O O O fun hm7=>(Rc (G0 0) O (G7 (hK3 (Gx ?_)))))))))))
 obtain⟨b20,kx20,hb20,hkx20,h⟩:=Jh h
 refine Hz (fun i20 (s20:Unit)=>each b20 kx20 (List.drop i20 s) i20 s20=some r) (fun i20 s20=>[(0,E1 s),(1,.fn f_f f_c),(7,Ej s.length),(8,Ej i20)]) (fun i20 s20=>[]) (fun i20=>s.length - i20) 0 () h ⟨⟨.same O,.same (Q5 _ _ f_d),.same O,.same O,G⟩,G,O⟩ ?_
 clear h
 intro i20 s20 hi20 K20 e20
 refine Jr fun hK21=>(JLh (BL (decide ((i20:Int) < (s.length:Int)))) (Jt O O O) O (G7 (hK21 (Js fun hK22=>Gp O (fun hb=>?_) (fun hb=>?_)))))
 ·
  have hk20:=Q7 hb
  obtain⟨y20,nx20,hy20,hn20,h⟩:=J1 hi20 hk20
  replace h:=Zj hb20 h
  refine Gr (hK22 (Js fun hK23=>Gx (Jr fun hK24=>(Rc (Ej i20) O (Rc (Ej i20) O (G7 (hK24 (Jr fun hK25=>(Rc (.fn f_f f_c) O (Rc (E1 s) O (Rc (Ej i20) O (JLh (Ed y20) (H9 (f:=Stowed.av) (xs:=s) (y:=y20) O O O H0 hy20 O) O (JLh (.agg (Stowed.cs y20)) (Gh Qx O O O) O ?_)))))))))))))
  obtain⟨r26,hr26,h⟩:=Gf h
  refine JLh (BL r26) (Zz (args:=[.agg (Stowed.cs y20)]) (caps:=f_c) O O (f_w y20 _ hr26) f_B ⟨O,O,G⟩ f_d) O (G7 (hK25 (JCc O h (fun h hb=>?_) (fun h hb=>?_))))
  ·
   refine Jr fun hK27=>(Rc (Ej i20) O (Rc (Ej i20) O (G7 (hK27 (Gv (fin1 G0 h))))))
  ·
   refine Gr (hK23 (G4 (JLh (G0 ((i20+1:Nat):Int)) (Hv (Hr hk20 hm7) O O O) O (Rc (G0 ((i20+1:Nat):Int)) O (G7 (e20 _ _ (i20+1) () (app1 hn20 h) (by omega) ⟨⟨.same rfl,.same (Q5 _ _ f_d),.same rfl,.same rfl,G⟩,G,rfl⟩))))))
 ·
  have h:=app1 hkx20 (J2 hi20 (Hg hb))
  refine J6 (hK2 (Jr fun hK28=>(Rc (G0 (-1)) O (G7 (hK28 (Gv (fin1 G0 h)))))))

def R8 (l:List Stowed) (id_:Int):Option Int:=
 bnd (Qg l (fun z0=>G42 z0 id_)) fun r3=>
 some r3
theorem G0f (l:List Stowed) (id_:Int) (r:Int) (h:R8 l id_=some r):Pure Ek 28 [E1 l,G0 id_] (·=G0 r):=by
 unfold R8 at h
 refine H5 [.tmp 4] Tryz.func28 O O (Jr fun hK1=>(JLh (.ptr 1067 0) (Q1 (cs:=[G0 id_]) 1067 O O O O O) O (Rc (G0 0) O (G7 (hK1 (Gs [(0,E1 l),(3,.dptr [G0 id_])] [] 1067 rfl rfl rfl G rfl (by exact⟨.conv (.same rfl),.ptr,G⟩) (Jr fun hK2=>(Rc (E1 l) O (JLh (.fn 54 [.dptr [G0 id_]]) (Z5 (cs:=[.dptr [G0 id_]]) O O) O ?_)))))))))
 obtain⟨r3,hr3,h⟩:=Gf h
 refine JLh (G0 r3) (Gu O (Zw l (fun z0=>G42 z0 id_) 54 [.dptr [G0 id_]] Jb2 O (fun z0 q hq=>Hed z0 id_ q hq) r3 hr3) J16 ⟨O,O,O,O,G⟩) O (Rc (G0 r3) O (G7 (hK2 (Gv (fin1 G0 h)))))

def G8f (a:Slot) (b:Slot):Option Bool:=
 bnd (bif ((decide (a.G3=b.G3))&&(decide (b.Tier < a.Tier))) then G11 a.Half b.Half else some default) fun r3=>
 some (((decide (a.G3=b.G3))&&(decide (b.Tier < a.Tier)))&&r3)
theorem M_slot_Over_w (a:Slot) (b:Slot) (r:Bool) (h:G8f a b=some r):Pure Ek 31 [.agg [G0 a.G3,G0 a.Tier,U8 a.Half],.agg [G0 b.G3,G0 b.Tier,U8 b.Half]] (·=BL r):=by
 unfold G8f at h
 refine H5 [.tmp 4] Tryz.func31 O O (Jr fun hK1=>(JLh (.ptr 1071 0) (Q1 (cs:=[G0 a.G3,G0 a.Tier,U8 a.Half]) 1071 O O O O O) O (JLh (.ptr 1072 0) (Q1 (cs:=[G0 b.G3,G0 b.Tier,U8 b.Half]) 1072 O O O O O) O (Rc (BL false) O (G7 (hK1 (Gs [(2,.dptr [G0 a.G3,G0 a.Tier,U8 a.Half]),(3,.ptr 1072 0)] [(1072,.box 45 [G0 b.G3,G0 b.Tier,U8 b.Half])] 1071 rfl rfl rfl ⟨⟨_,rfl,.boxEq rfl rfl⟩,G⟩ rfl (by exact⟨.ptr,.conv (.same rfl),G⟩) (Gs [(2,.dptr [G0 a.G3,G0 a.Tier,U8 a.Half]),(3,.dptr [G0 b.G3,G0 b.Tier,U8 b.Half])] [] 1072 rfl rfl rfl G rfl (by exact⟨.conv (.same rfl),.ptr,G⟩) ?_))))))))
 refine Jr fun hK2=>(JLh (.dptr [G0 a.G3,G0 a.Tier,U8 a.Half]) (Gb Jf O O O) O (JLh (G0 a.G3) (Gi Gd O O O) O (JLh (.dptr [G0 b.G3,G0 b.Tier,U8 b.Half]) (Gb Jf O O O) O (JLh (G0 b.G3) (Gi Gd O O O) O (JLh (BL (decide (a.G3=b.G3))) (Jx O O O) O (Rc (BL (decide (a.G3=b.G3))) O (JLo (.dptr [G0 a.Tier,U8 a.Half]) [] O .sct G (fun hc=>Gb Yr O O O) O (JLo (G0 a.Tier) [11] O .sct ⟨Ua,G⟩ (fun hc=>Gi Gd O O O) O (JLo (.dptr [G0 b.Tier,U8 b.Half]) [] O .sct G (fun hc=>Gb Yr O O O) O (JLo (G0 b.Tier) [13] O .sct ⟨Ua,G⟩ (fun hc=>Gi Gd O O O) O (JLo (BL (decide (b.Tier < a.Tier))) [12,14] O .sct ⟨Ua,Ua,G⟩ (fun hc=>G9c O O O) O (JLh (BL ((decide (a.G3=b.G3))&&(decide (b.Tier < a.Tier)))) (Q6 O O O O) O (Rc (BL ((decide (a.G3=b.G3))&&(decide (b.Tier < a.Tier)))) O ?_)))))))))))))
 refine JLo (.dptr [U8 a.Half]) [] O .sct G (fun hc=>Gb Rf O O O) O (JLo (U8 a.Half) [18] O .sct ⟨Ua,G⟩ (fun hc=>Gi Hw O O O) O (JLo (.dptr [U8 b.Half]) [] O .sct G (fun hc=>Gb Rf O O O) O (JLo (U8 b.Half) [20] O .sct ⟨Ua,G⟩ (fun hc=>Gi Hw O O O) O ?_)))
 obtain⟨r3,hr3,h⟩:=Gf h
 refine JLo (BL r3) [19,21] O .sct ⟨Ua,Ua,G⟩ (fun hc=>Gu (args:=[U8 a.Half,U8 b.Half]) O (H18 a.Half b.Half r3 (H4 hc hr3)) J15 ⟨O,O,O,O,G⟩) O (JLh (BL (((decide (a.G3=b.G3))&&(decide (b.Tier < a.Tier)))&&r3)) (Q6 O O O O) O (Rc (BL (((decide (a.G3=b.G3))&&(decide (b.Tier < a.Tier)))&&r3)) O (G7 (hK2 (Gv (fin1 BL h))))))

def Zc (l:List Stowed) (id_:Int):Option ((List Int)×Int):=
 bnd (R8 l id_) fun r3=>
 bif decide (r3 < 0) then
 (some ([],6))
 else
 (each (fun y30 i30 (s30:(List Int)) nx30=>
   jp (fun kj33=>
    Yn l r3 fun y36=>
    bnd (G8f y30.Slot y36.Slot) fun r38=>
    bif r38 then
    (need (decide ((s30.length+[y30.Ga].length)*8≤140737488355328∧s30.length+[y30.Ga].length≤maxLen)) <|
     kj33 (s30++[y30.Ga]))
    else
    (kj33 s30)) fun(j33:(List Int))=>
   nx30 j33)
  (fun(s30:(List Int))=>
   some (s30,0)) l 0 [])
theorem Gc4 (l:List Stowed) (id_:Int) (r:(List Int)×Int) (h:Zc l id_=some r):Pure Ek 11 [E1 l,G0 id_] (·=.tup [E0 r.1,G0 r.2]):=by
 unfold Zc at h
 refine H5 [.tmp 4,.tmp 5] Tryz.func11 O O (Jr fun hK1=>(JLh (E0 ([]:List Int)) (Hi 1 O O) O (Rc (G0 0) O (G7 (hK1 (Jr fun hK2=>(Rc (E1 l) O (Rc (G0 id_) O ?_))))))))
 obtain⟨r3,hr3,h⟩:=Gf h
 refine JLh (G0 r3) (Gu O (G0f l id_ r3 hr3) G72 ⟨O,O,O,O,G⟩) O (Rc (G0 r3) O (G7 (hK2 (Js fun hK4=>Jr fun hK5=>(Rc (G0 r3) O (JLh (BL (decide (r3 < 0))) (Jt O O O) O (G7 (hK5 (JCc O h (fun h hb=>?_) (fun h hb=>?_))))))))))
 ·
  refine Jr fun hK6=>(JLh (E0 ([]:List Int)) (Hi 1 O O) O (Rc (G0 6) O (G7 (hK6 (Gv (⟨[E0 ([]:List Int),G0 6],[],G,O,⟨⟨_,O,.conv (.same O)⟩,⟨_,O,.conv (.same O)⟩,G⟩,O,congrArg (fun r:(List Int)×Int=>(.tup [E0 r.1,G0 r.2]:AV)) (Option.some.inj h)⟩))))))
 ·
  refine Gr (hK4 (Jr fun hK7=>(JLh (OW 1037 1 G0 ([]:List Int)) (G6c 1037 3 1 O O O) O (G7 (hK7 (Js fun hK8=>Jr fun hK9=>(Rc (E1 l) O (JLl H0 O O O fun hm16=>(Rc (G0 0) O (G7 (hK9 (Gx ?_))))))))))))
  obtain⟨b30,kx30,hb30,hkx30,h⟩:=Jh h
  refine Hz (fun i30 (s30:(List Int))=>each b30 kx30 (List.drop i30 l) i30 s30=some r) (fun i30 s30=>[(0,E1 l),(6,G0 r3),(7,OW 1037 1 G0 s30),(15,E1 l),(16,Ej l.length),(17,Ej i30)]) (fun i30 s30=>[(1037,.spare 3 1 s30.length s30.length)]) (fun i30=>l.length - i30) 0 [] h ⟨(by repeat' constructor),⟨⟨_,rfl,.same⟩,G⟩,rfl⟩ ?_
  clear h
  intro i30 s30 hi30 K30 e30
  refine Jr fun hK31=>(JLh (BL (decide ((i30:Int) < (l.length:Int)))) (Jt O O O) O (G7 (hK31 (Js fun hK32=>Gp O (fun hb=>?_) (fun hb=>?_)))))
  ·
   have hk30:=Q7 hb
   obtain⟨y30,nx30,hy30,hn30,h⟩:=J1 hi30 hk30
   replace h:=Zj hb30 h
   refine Gr (hK32 ?_)
   obtain⟨kj33,hkj33,h⟩:=Yh h
   refine R5 (fun j33:(List Int)=>kj33 j33=some r) (fun j33=>[(0,E1 l),(6,G0 r3),(7,OW 1037 1 G0 j33),(15,E1 l),(16,Ej l.length),(17,Ej i30)]) (fun j33=>[(1037,.spare 3 1 j33.length j33.length)]) (fun Kj33 ej33=>?_) ?_
   ·
    refine Gx (Jr fun hK34=>(JLh (Ed y30) (H9 (f:=Stowed.av) (xs:=l) (y:=y30) O O O H0 hy30 O) O (JLh (.agg (Stowed.cs y30)) (Gh Qx O O O) O (JLh (.ptr 1038 0) (Hs 1038 4 Q8 O O) O (J0 (u:=.junk) (Hh (u:=.agg (Stowed.cs y30)) (ds:=[G0 y30.Ga,G0 y30.Slot.G3,G0 y30.Slot.Tier,U8 y30.Slot.Half]) Yg O O O O O O O O) (G7 (hK34 (Gs [(0,E1 l),(6,G0 r3),(7,OW 1037 1 G0 s30),(9,Ed y30),(15,E1 l),(16,Ej l.length),(17,Ej i30)] [(1037,.spare 3 1 s30.length s30.length)] 1038 rfl rfl rfl ⟨⟨_,rfl,.same⟩,G⟩ rfl (by repeat' (first | exact .ptr | constructor)) (Js fun hK35=>?_)))))))))
    refine Rn (l':=[(0,E1 l),(6,G0 r3),(7,OW 1037 1 G0 s30),(9,Ed y30),(15,E1 l),(16,Ej l.length),(17,Ej i30)]) (L':=[(1037,.spare 3 1 s30.length s30.length)]) ⟨(by repeat' constructor),⟨⟨_,rfl,.same⟩,G⟩,rfl⟩ ?_
    obtain⟨m37,y36,hm37,hy36,h⟩:=Rh h
    obtain⟨r38,hr38,h⟩:=Gf h
    refine JC_d0 Jz (by kernel_rfl) (Dq (.dptr ((Stowed.cs y30).drop 1)) (Gb J7 O O O) O (Dq (.agg ((Stowed.cs y30).drop 1)) (Gh Q4 O O O) O (Dq (E1 l) (G5 O O) O (Dq (G0 r3) (G5 O O) O (Dq (Ed y36) (H9 (f:=Stowed.av) (xs:=l) (y:=y36) O O O H0 hy36 hm37) O (Dq (.dptr ((Stowed.cs y36).drop 1)) (Gb J7 O O O) O (Dq (.agg ((Stowed.cs y36).drop 1)) (Gh Q4 O O O) O (Dq (BL r38) (Gu (args:=[.agg ((Stowed.cs y30).drop 1),.agg ((Stowed.cs y36).drop 1)]) O (M_slot_Over_w y30.Slot y36.Slot r38 hr38) Jbd ⟨O,O,O,O,G⟩) O (Dnil (hK35 (JCc O h (fun h hb=>?_) (fun h hb=>?_))))))))))))
    ·
     refine G4 (Rc (OW 1037 1 G0 s30) O (JLh (Ed y30) (Gb Ht O O O) O (JLh (G0 y30.Ga) (Gi Gd O O O) O (JLh (E0 [y30.Ga]) (H6 (xs:=[G0 y30.Ga]) O ⟨O,O,G⟩ Gq Ju O O O O) O ?_))))
     obtain⟨ha39,h⟩:=Jk h
     refine JLh (OW 1037 1 G0 (s30++[y30.Ga])) (Ro (f:=G0) (xs:=s30) (ys:=[y30.Ga]) O O O O Gq Yv ha39 (fun _=>O) (.inl O) O) O (Rc (OW 1037 1 G0 (s30++[y30.Ga])) O (G7 (ej33 _ _ (s30++[y30.Ga]) h ⟨(by repeat' constructor),⟨⟨_,rfl,.same⟩,G⟩,rfl⟩)))
    ·
     refine Gr (ej33 _ _ s30 h ⟨(by repeat' constructor),⟨⟨_,rfl,.same⟩,G⟩,rfl⟩)
   ·intro j33 h
    replace h:=app1 hkj33 h
    refine G4 (JLh (G0 ((i30+1:Nat):Int)) (Hv (Hr hk30 hm16) O O O) O (Rc (G0 ((i30+1:Nat):Int)) O (G7 (e30 _ _ (i30+1) j33 (app1 hn30 h) (by omega) ⟨(by repeat' constructor),⟨⟨_,rfl,.same⟩,G⟩,rfl⟩))))
  ·
   have h:=app1 hkx30 (J2 hi30 (Hg hb))
   refine J6 (hK8 (Jr fun hK40=>(Rc (OW 1037 1 G0 s30) O (Rc (OW 1037 1 G0 s30) O (Rc (G0 0) O (G7 (hK40 (Gv (⟨[E0 s30,G0 0],[],G,O,⟨⟨_,O,.conv (.list O)⟩,⟨_,O,.conv (.same O)⟩,G⟩,O,congrArg (fun r:(List Int)×Int=>(.tup [E0 r.1,G0 r.2]:AV)) (Option.some.inj h)⟩)))))))))

def G0b (r_:Int) (p1:G3):Option Bool:=
 some (decide (r_=p1.Row))
theorem H9c (r_:Int) (p1:G3) (r:Bool) (h:G0b r_ p1=some r):Pure Ek 103 [G0 r_,Ee p1] (·=BL r):=by
 unfold G0b at h
 refine H5 [.tmp 3] Tryz.func103 O O (Jr fun hK1=>(Rc (BL false) O (G7 (hK1 (Jr fun hK2=>(Rc (G0 r_) O (JLh (.dptr ((G3.cs p1).drop 1)) (Gb Zg O O O) O (JLh (G0 p1.Row) (Gi Gd O O O) O (JLh (BL (decide (r_=p1.Row))) (Jx O O O) O (Rc (BL (decide (r_=p1.Row))) O (G7 (hK2 (Gv (fin1 BL h))))))))))))))

def Zd (l:List Int) (wanted:Int→Option Bool):Option (List Int):=
 each (fun y21 i21 (s21:(List Int)) nx21=>
  jp (fun kj24=>
   bnd (wanted y21) fun r27=>
   bif r27 then
   (need (decide ((s21.length+[(i21:Int)].length)*8≤140737488355328∧s21.length+[(i21:Int)].length≤maxLen)) <|
    kj24 (s21++[(i21:Int)]))
   else
   (kj24 s21)) fun(j24:(List Int))=>
  nx21 j24)
 (fun(s21:(List Int))=>
  some s21) l 0 []
theorem H4e (l:List Int) (wanted:Int→Option Bool) (wanted_f:FuncId) (wanted_c:List AV) (wanted_B:Hf Ek wanted_f=true) (wanted_d:Y8 (fun _=>false) wanted_c=true) (wanted_w:∀ a0 q,wanted a0=some q→Pure Ek wanted_f ([G0 a0]++wanted_c) (·=BL q)) (r:(List Int)) (h:Zd l wanted=some r):Pure Ek 102 [E0 l,.fn wanted_f wanted_c] (·=E0 r):=by
 unfold Zd at h
 refine H5 [.tmp 4] Tryz.func102 O O (Jr fun hK1=>(JLh (E0 ([]:List Int)) (Hi 1 O O) O (G7 (hK1 (Jr fun hK2=>(JLh (OW 1127 1 G0 ([]:List Int)) (G6c 1127 3 1 O O O) O (G7 (hK2 (Js fun hK3=>Jr fun hK4=>(Rc (E0 l) O (JLl Gq O O O fun hm9=>(Rc (G0 0) O (G7 (hK4 (Gx ?_)))))))))))))))
 obtain⟨b21,kx21,hb21,hkx21,h⟩:=Jh h
 refine Hz (fun i21 (s21:(List Int))=>each b21 kx21 (List.drop i21 l) i21 s21=some r) (fun i21 s21=>[(1,.fn wanted_f wanted_c),(5,OW 1127 1 G0 s21),(8,E0 l),(9,Ej l.length),(10,Ej i21)]) (fun i21 s21=>[(1127,.spare 3 1 s21.length s21.length)]) (fun i21=>l.length - i21) 0 [] h ⟨⟨.same (Q5 _ _ wanted_d),.same O,.same O,.same O,.same O,G⟩,⟨⟨_,O,.same⟩,G⟩,O⟩ ?_
 clear h
 intro i21 s21 hi21 K21 e21
 refine Jr fun hK22=>(JLh (BL (decide ((i21:Int) < (l.length:Int)))) (Jt O O O) O (G7 (hK22 (Js fun hK23=>Gp O (fun hb=>?_) (fun hb=>?_)))))
 ·
  have hk21:=Q7 hb
  obtain⟨y21,nx21,hy21,hn21,h⟩:=J1 hi21 hk21
  replace h:=Zj hb21 h
  refine Gr (hK23 ?_)
  obtain⟨kj24,hkj24,h⟩:=Yh h
  refine R5 (fun j24:(List Int)=>kj24 j24=some r) (fun j24=>[(1,.fn wanted_f wanted_c),(5,OW 1127 1 G0 j24),(8,E0 l),(9,Ej l.length),(10,Ej i21)]) (fun j24=>[(1127,.spare 3 1 j24.length j24.length)]) (fun Kj24 ej24=>?_) ?_
  ·
   refine Gx (Jr fun hK25=>(Rc (Ej i21) O (JLh (.dptr [G0 y21]) (H9 (f:=G0) (xs:=l) (y:=y21) O O O Gq hy21 O) O (JLh (G0 y21) (Gi Gd O O O) O (Rc (Ej i21) O (Rc (G0 y21) O (G7 (hK25 (Jr fun hK26=>(Rc (.fn wanted_f wanted_c) O (Rc (G0 y21) O ?_)))))))))))
   obtain⟨r27,hr27,h⟩:=Gf h
   refine JLh (BL r27) (Zz (args:=[G0 y21]) (caps:=wanted_c) O O (wanted_w y21 _ hr27) wanted_B ⟨O,O,G⟩ wanted_d) O (G7 (hK26 (JCc O h (fun h hb=>?_) (fun h hb=>?_))))
   ·
    refine G4 (Rc (OW 1127 1 G0 s21) O (Rc (Ej i21) O (JLh (E0 [(i21:Int)]) (H6 (xs:=[Ej i21]) O ⟨O,O,G⟩ Gq Ju O O O O) O ?_)))
    obtain⟨ha28,h⟩:=Jk h
    refine JLh (OW 1127 1 G0 (s21++[(i21:Int)])) (Ro (f:=G0) (xs:=s21) (ys:=[(i21:Int)]) O O O O Gq Yv ha28 (fun _=>O) (.inl O) O) O (Rc (OW 1127 1 G0 (s21++[(i21:Int)])) O (G7 (ej24 _ _ (s21++[(i21:Int)]) h ⟨⟨.same (Q5 _ _ wanted_d),.same O,.same O,.same O,.same O,G⟩,⟨⟨_,O,.same⟩,G⟩,O⟩)))
   ·
    refine Gr (ej24 _ _ s21 h ⟨⟨.same (Q5 _ _ wanted_d),.same O,.same O,.same O,.same O,G⟩,⟨⟨_,O,.same⟩,G⟩,O⟩)
  ·intro j24 h
   replace h:=app1 hkj24 h
   refine G4 (JLh (G0 ((i21+1:Nat):Int)) (Hv (Hr hk21 hm9) O O O) O (Rc (G0 ((i21+1:Nat):Int)) O (G7 (e21 _ _ (i21+1) j24 (app1 hn21 h) (by omega) ⟨⟨.same (Q5 _ _ wanted_d),.same rfl,.same rfl,.same rfl,.same rfl,G⟩,⟨⟨_,rfl,.same⟩,G⟩,rfl⟩))))
 ·
  have h:=app1 hkx21 (J2 hi21 (Hg hb))
  refine J6 (hK3 (Jr fun hK29=>(Rc (OW 1127 1 G0 s21) O (Rc (OW 1127 1 G0 s21) O (G7 (hK29 (Gv (fin1l (fun r:(List Int)=>(E0 r:AV)) h))))))))

def G12 (x:G9) (c:G3):Option Bool:=
 bnd (bif decide (x.Bay=c.Bay) then Zd x.Rows (fun z0=>G0b z0 c) else some default) fun r3=>
 some ((decide (x.Bay=c.Bay))&&(decide (0 < (r3.length:Int))))
theorem H1a (x:G9) (c:G3) (r:Bool) (h:G12 x c=some r):Pure Ek 82 [.agg [G0 x.Bay,E0 x.Rows],.agg (G3.cs c)] (·=BL r):=by
 unfold G12 at h
 refine H5 [.tmp 4] Tryz.func82 O O (Jr fun hK1=>(JLh (.ptr 1119 0) (Q1 (cs:=[G0 x.Bay,E0 x.Rows]) 1119 O O O O O) O (JLh (.ptr 1120 0) (Q1 (cs:=(G3.cs c)) 1120 O O O O O) O (Rc (BL false) O (G7 (hK1 (Gs [(2,.dptr [G0 x.Bay,E0 x.Rows]),(3,.ptr 1120 0)] [(1120,.box 55 (G3.cs c))] 1119 rfl rfl rfl ⟨⟨_,rfl,.boxEq rfl rfl⟩,G⟩ rfl (by exact⟨.ptr,.conv (.same rfl),G⟩) ?_)))))))
 refine Gs [(2,.dptr [G0 x.Bay,E0 x.Rows]),(3,Ee c)] [] 1120 rfl rfl rfl G rfl (by exact⟨.conv (.same rfl),.ptr,G⟩) ?_
 refine Jr fun hK2=>(JLh (.dptr [G0 x.Bay,E0 x.Rows]) (Gb Yq O O O) O (JLh (G0 x.Bay) (Gi Gd O O O) O (JLh (Ee c) (Gb Zh O O O) O (JLh (G0 c.Bay) (Gi Gd O O O) O (JLh (BL (decide (x.Bay=c.Bay))) (Jx O O O) O (Rc (BL (decide (x.Bay=c.Bay))) O (JLo (.dptr [E0 x.Rows]) [] O .sct G (fun hc=>Gb Rz O O O) O (JLo (E0 x.Rows) [11] O .sct ⟨Ua,G⟩ (fun hc=>Gi Qq O O O) O (JLo (.fn 103 [.dptr (G3.cs c)]) [] O .sct G (fun hc=>Z5 (cs:=[.dptr (G3.cs c)]) O O) O ?_)))))))))
 obtain⟨r3,hr3,h⟩:=Gf h
 refine JLo (E0 r3) [12,13] O .sct ⟨Ua,Ua,G⟩ (fun hc=>Gu (args:=[E0 x.Rows,.fn 103 [.dptr (G3.cs c)]]) O (H4e x.Rows (fun z0=>G0b z0 c) 103 [.dptr (G3.cs c)] J80 O (fun z0 q hq=>H9c z0 c q hq) r3 (H4 hc hr3)) J81 ⟨O,O,O,O,G⟩) O (JLo (Ej r3.length) [14] O .sct ⟨Ua,G⟩ (fun hc=>Yo (f:=G0) (xs:=r3) Gq O O) O (JLo (BL (decide (0 < (r3.length:Int)))) [15] O .sct ⟨Ua,G⟩ (fun hc=>G9c O O O) O (JLh (BL ((decide (x.Bay=c.Bay))&&(decide (0 < (r3.length:Int))))) (Q6 O O O O) O (Rc (BL ((decide (x.Bay=c.Bay))&&(decide (0 < (r3.length:Int))))) O (G7 (hK2 ?_))))))
 refine Gv (fin1 BL h)

def Yx (x:G9) (p1:Gt) (p2:Int):Option Bool:=
 Yn p1.Columns p2 fun y3=>
 bnd (G12 x y3) fun r5=>
 some r5
theorem H75 (x:G9) (p1:Gt) (p2:Int) (r:Bool) (h:Yx x p1 p2=some r):Pure Ek 81 [.agg [G0 x.Bay,E0 x.Rows],Ec p1,.dptr [G0 p2]] (·=BL r):=by
 unfold Yx at h
 refine H5 [.tmp 4] Tryz.func81 O O (Jr fun hK1=>(JLh (.ptr 1118 0) (Q1 (cs:=[G0 x.Bay,E0 x.Rows]) 1118 O O O O O) O (Rc (BL false) O (G7 (hK1 (Gs [(1,Ec p1),(2,.dptr [G0 p2]),(3,.dptr [G0 x.Bay,E0 x.Rows])] [] 1118 rfl rfl rfl G rfl (by exact⟨.conv (.same rfl),.conv (.same rfl),.ptr,G⟩) (Js fun hK2=>?_)))))))
 obtain⟨m4,y3,hm4,hy3,h⟩:=Rh h
 obtain⟨r5,hr5,h⟩:=Gf h
 refine JC_d0 Jz (by kernel_rfl) (Dq (.agg [G0 x.Bay,E0 x.Rows]) (Gh Ge5 O O O) O (Dq (Ec p1) (Gb Hm O O O) O (Dq (E7 p1.Columns) (Gi J4 O O O) O (Dq (G0 p2) (Gi Gd O O O) O (Dq (Ee y3) (H9 (f:=G3.av) (xs:=p1.Columns) (y:=y3) O O O Hq hy3 hm4) O (Dq (.agg (G3.cs y3)) (Gh Yd O O O) O (Dq (BL r5) (Gu (args:=[.agg [G0 x.Bay,E0 x.Rows],.agg (G3.cs y3)]) O (H1a x y3 r5 hr5) J10 ⟨O,O,O,O,G⟩) O (Dq (BL r5) (G8 O O) O (Dnil (hK2 (Gv (fin1 BL h))))))))))))

def Rm (l:List G9) (wanted:G9→Option Bool):Option (List Int):=
 each (fun y21 i21 (s21:(List Int)) nx21=>
  jp (fun kj24=>
   bnd (wanted y21) fun r27=>
   bif r27 then
   (need (decide ((s21.length+[(i21:Int)].length)*8≤140737488355328∧s21.length+[(i21:Int)].length≤maxLen)) <|
    kj24 (s21++[(i21:Int)]))
   else
   (kj24 s21)) fun(j24:(List Int))=>
  nx21 j24)
 (fun(s21:(List Int))=>
  some s21) l 0 []
theorem Ge4 (l:List G9) (wanted:G9→Option Bool) (wanted_f:FuncId) (wanted_c:List AV) (wanted_B:Hf Ek wanted_f=true) (wanted_d:Y8 (fun _=>false) wanted_c=true) (wanted_w:∀ a0 q,wanted a0=some q→Pure Ek wanted_f ([.agg [G0 a0.Bay,E0 a0.Rows]]++wanted_c) (·=BL q)) (r:(List Int)) (h:Rm l wanted=some r):Pure Ek 80 [E3 l,.fn wanted_f wanted_c] (·=E0 r):=by
 unfold Rm at h
 refine H5 [.tmp 4] Tryz.func80 O O (Jr fun hK1=>(JLh (E0 ([]:List Int)) (Hi 1 O O) O (G7 (hK1 (Jr fun hK2=>(JLh (OW 1116 1 G0 ([]:List Int)) (G6c 1116 3 1 O O O) O (G7 (hK2 (Js fun hK3=>Jr fun hK4=>(Rc (E3 l) O (JLl J8 O O O fun hm9=>(Rc (G0 0) O (G7 (hK4 (Gx ?_)))))))))))))))
 obtain⟨b21,kx21,hb21,hkx21,h⟩:=Jh h
 refine Hz (fun i21 (s21:(List Int))=>each b21 kx21 (List.drop i21 l) i21 s21=some r) (fun i21 s21=>[(1,.fn wanted_f wanted_c),(5,OW 1116 1 G0 s21),(8,E3 l),(9,Ej l.length),(10,Ej i21)]) (fun i21 s21=>[(1116,.spare 3 1 s21.length s21.length)]) (fun i21=>l.length - i21) 0 [] h ⟨⟨.same (Q5 _ _ wanted_d),.same O,.same O,.same O,.same O,G⟩,⟨⟨_,O,.same⟩,G⟩,O⟩ ?_
 clear h
 intro i21 s21 hi21 K21 e21
 refine Jr fun hK22=>(JLh (BL (decide ((i21:Int) < (l.length:Int)))) (Jt O O O) O (G7 (hK22 (Js fun hK23=>Gp O (fun hb=>?_) (fun hb=>?_)))))
 ·
  have hk21:=Q7 hb
  obtain⟨y21,nx21,hy21,hn21,h⟩:=J1 hi21 hk21
  replace h:=Zj hb21 h
  refine Gr (hK23 ?_)
  obtain⟨kj24,hkj24,h⟩:=Yh h
  refine R5 (fun j24:(List Int)=>kj24 j24=some r) (fun j24=>[(1,.fn wanted_f wanted_c),(5,OW 1116 1 G0 j24),(8,E3 l),(9,Ej l.length),(10,Ej i21)]) (fun j24=>[(1116,.spare 3 1 j24.length j24.length)]) (fun Kj24 ej24=>?_) ?_
  ·
   refine Gx (Jr fun hK25=>(Rc (Ej i21) O (JLh (.dptr [G0 y21.Bay,E0 y21.Rows]) (H9 (f:=G9.av) (xs:=l) (y:=y21) O O O J8 hy21 O) O (JLh (.agg [G0 y21.Bay,E0 y21.Rows]) (Gh Ge5 O O O) O (JLh (.ptr 1117 0) (Hs 1117 2 G88 O O) O (Rc (Ej i21) O (J0 (u:=.junk) (Hh (u:=.agg [G0 y21.Bay,E0 y21.Rows]) (ds:=[G0 y21.Bay,E0 y21.Rows]) J01 O O O O O O O O) (G7 (hK25 ?_)))))))))
   refine Gs [(1,.fn wanted_f wanted_c),(5,OW 1116 1 G0 s21),(6,Ej i21),(7,.dptr [G0 y21.Bay,E0 y21.Rows]),(8,E3 l),(9,Ej l.length),(10,Ej i21)] [(1116,.spare 3 1 s21.length s21.length)] 1117 rfl rfl rfl ⟨⟨_,rfl,.same⟩,G⟩ rfl (by exact⟨.conv (.same (Q5 _ _ wanted_d)),.conv (.same rfl),.conv (.same rfl),.ptr,.conv (.same rfl),.conv (.same rfl),.conv (.same rfl),G⟩) (Jr fun hK26=>(Rc (.fn wanted_f wanted_c) O (JLh (.agg [G0 y21.Bay,E0 y21.Rows]) (Gh Ge5 O O O) O ?_)))
   obtain⟨r27,hr27,h⟩:=Gf h
   refine JLh (BL r27) (Zz (args:=[.agg [G0 y21.Bay,E0 y21.Rows]]) (caps:=wanted_c) O O (wanted_w y21 _ hr27) wanted_B ⟨O,O,G⟩ wanted_d) O (G7 (hK26 (JCc O h (fun h hb=>?_) (fun h hb=>?_))))
   ·
    refine G4 (Rc (OW 1116 1 G0 s21) O (Rc (Ej i21) O (JLh (E0 [(i21:Int)]) (H6 (xs:=[Ej i21]) O ⟨O,O,G⟩ Gq Ju O O O O) O ?_)))
    obtain⟨ha28,h⟩:=Jk h
    refine JLh (OW 1116 1 G0 (s21++[(i21:Int)])) (Ro (f:=G0) (xs:=s21) (ys:=[(i21:Int)]) O O O O Gq Yv ha28 (fun _=>O) (.inl O) O) O (Rc (OW 1116 1 G0 (s21++[(i21:Int)])) O (G7 (ej24 _ _ (s21++[(i21:Int)]) h ⟨⟨.same (Q5 _ _ wanted_d),.same O,.same O,.same O,.same O,G⟩,⟨⟨_,O,.same⟩,G⟩,O⟩)))
   ·
    refine Gr (ej24 _ _ s21 h ⟨⟨.same (Q5 _ _ wanted_d),.same O,.same O,.same O,.same O,G⟩,⟨⟨_,O,.same⟩,G⟩,O⟩)
  ·intro j24 h
   replace h:=app1 hkj24 h
   refine G4 (JLh (G0 ((i21+1:Nat):Int)) (Hv (Hr hk21 hm9) O O O) O (Rc (G0 ((i21+1:Nat):Int)) O (G7 (e21 _ _ (i21+1) j24 (app1 hn21 h) (by omega) ⟨⟨.same (Q5 _ _ wanted_d),.same rfl,.same rfl,.same rfl,.same rfl,G⟩,⟨⟨_,rfl,.same⟩,G⟩,rfl⟩))))
 ·
  have h:=app1 hkx21 (J2 hi21 (Hg hb))
  refine J6 (hK3 (Jr fun hK29=>(Rc (OW 1116 1 G0 s21) O (Rc (OW 1116 1 G0 s21) O (G7 (hK29 (Gv (fin1l (fun r:(List Int)=>(E0 r:AV)) h))))))))

def Z4 (s:Gt) (column:Int):Option Int:=
 bif ((decide (column < 0))||(decide ((s.Columns.length:Int)≤column))) then
 (some (-1))
 else
 (bnd (Rm s.Covers (fun z0=>Yx z0 s column)) fun r6=>
  bif decide ((r6.length:Int)=0) then
  (some (-1))
  else
  (Yn r6 0 fun y11=>
   some y11))
theorem Gf0 (s:Gt) (column:Int) (r:Int) (h:Z4 s column=some r):Pure Ek 52 [.agg (Gt.cs s),G0 column] (·=G0 r):=by
 unfold Z4 at h
 refine H5 [.tmp 4] Tryz.func52 O O (Jr fun hK1=>(JLh (.ptr 1101 0) (Q1 (cs:=(Gt.cs s)) 1101 O O O O O) O (JLh (.ptr 1102 0) (Q1 (cs:=[G0 column]) 1102 O O O O O) O (Rc (G0 0) O (G7 (hK1 ?_))))))
 refine Gs [(2,Ec s),(3,.ptr 1102 0)] [(1102,.box 3 [G0 column])] 1101 rfl rfl rfl ⟨⟨_,rfl,.boxEq rfl rfl⟩,G⟩ rfl (by exact⟨.ptr,.conv (.same rfl),G⟩) (Gs [(2,Ec s),(3,.dptr [G0 column])] [] 1102 rfl rfl rfl G rfl (by exact⟨.conv (.same rfl),.ptr,G⟩) (Js fun hK2=>?_))
 refine Jr fun hK3=>(JLh (G0 column) (Gi Gd O O O) O (JLh (BL (decide (column < 0))) (Jt O O O) O (Rc (BL (decide (column < 0))) O (JLo (G0 column) [] O .scf G (fun hc=>Gi Gd O O O) O (JLo (Ec s) [] O .scf G (fun hc=>Gb Hm O O O) O (JLo (E7 s.Columns) [10] O .scf ⟨Ua,G⟩ (fun hc=>Gi J4 O O O) O (JLo (Ej s.Columns.length) [11] O .scf ⟨Ua,G⟩ (fun hc=>Yo (f:=G3.av) (xs:=s.Columns) Hq O O) O (JLo (BL (decide ((s.Columns.length:Int)≤column))) [9,12] O .scf ⟨Ua,Ua,G⟩ (fun hc=>G9d O O O) O (JLh (BL ((decide (column < 0))||(decide ((s.Columns.length:Int)≤column)))) (G24 O O O O) O (G7 (hK3 ?_)))))))))))
 refine JCc O h (fun h hb=>?_) (fun h hb=>?_)
 ·
  refine Jr fun hK4=>(Rc (G0 (-1)) O (G7 (hK4 (Gv (fin1 G0 h)))))
 ·
  refine Gr (hK2 ?_)
  refine Jr fun hK5=>(JLh (.dptr [E3 s.Covers,G0 s.Light.Kilos,G0 s.Light.X,G0 s.Light.Y,G0 s.Light.Z,E4 s.Rows,E5 s.Frames,E6 s.Tanks,G0 s.G2.Tolerance,G0 s.G2.Trim,G0 s.G2.List_,G0 s.G2.Stability]) (Gb Hu O O O) O (JLh (E3 s.Covers) (Gi Ja O O O) O (JLh (.fn 81 [.dptr (Gt.cs s),.dptr [G0 column]]) (Z5 (cs:=[.dptr (Gt.cs s),.dptr [G0 column]]) O O) O ?_)))
  obtain⟨r6,hr6,h⟩:=Gf h
  refine JLh (E0 r6) (Gu O (Ge4 s.Covers (fun z0=>Yx z0 s column) 81 [.dptr (Gt.cs s),.dptr [G0 column]] Ja3 O (fun z0 q hq=>H75 z0 s column q hq) r6 hr6) Ja4 ⟨O,O,O,O,G⟩) O (Rc (E0 r6) O (G7 (hK5 (Js fun hK7=>Jr fun hK8=>(Rc (E0 r6) O (JLl Gq O O O fun hm20=>(JLh (BL (decide ((r6.length:Int)=0))) (Jx O O O) O (G7 (hK8 (JCc O h (fun h hb=>?_) (fun h hb=>?_)))))))))))
  ·
   refine Jr fun hK9=>(Rc (G0 (-1)) O (G7 (hK9 (Gv (fin1 G0 h)))))
  ·
   refine Gr (hK7 (Jr fun hK10=>(Rc (E0 r6) O ?_)))
   obtain⟨m12,y11,hm12,hy11,h⟩:=Rh h
   refine JLh (.dptr [G0 y11]) (H9 (f:=G0) (xs:=r6) (y:=y11) O O O Gq hy11 hm12) O (JLh (G0 y11) (Gi Gd O O O) O (Rc (G0 y11) O (G7 (hK10 (Gv (fin1 G0 h))))))

def G2e (s:Gt) (column:Int):Option Int:=
 Yn s.Columns column fun y4=>
 bif y4.Deck then
 (some (-1))
 else
 (bnd (Z4 s column) fun r8=>
  some r8)
theorem H37 (s:Gt) (column:Int) (r:Int) (h:G2e s column=some r):Pure Ek 27 [.agg (Gt.cs s),G0 column] (·=G0 r):=by
 unfold G2e at h
 refine H5 [.tmp 4] Tryz.func27 O O (Jr fun hK1=>(JLh (.ptr 1066 0) (Q1 (cs:=(Gt.cs s)) 1066 O O O O O) O (Rc (G0 0) O (G7 (hK1 (Gs [(1,G0 column),(2,Ec s)] [] 1066 rfl rfl rfl G rfl (by exact⟨.conv (.same rfl),.ptr,G⟩) (Js fun hK2=>?_)))))))
 refine Jr fun hK3=>(JLh (Ec s) (Gb Hm O O O) O (JLh (E7 s.Columns) (Gi J4 O O O) O (Rc (G0 column) O ?_)))
 obtain⟨m5,y4,hm5,hy4,h⟩:=Rh h
 refine JLh (Ee y4) (H9 (f:=G3.av) (xs:=s.Columns) (y:=y4) O O O Hq hy4 hm5) O (JLh (.dptr ((G3.cs y4).drop 2)) (Gb R2 O O O) O (JLh (BL y4.Deck) (Gi Jp O O O) O (G7 (hK3 (JCc O h (fun h hb=>?_) (fun h hb=>?_))))))
 ·
  refine Jr fun hK6=>(Rc (G0 (-1)) O (G7 (hK6 (Gv (fin1 G0 h)))))
 ·
  refine Gr (hK2 (Jr fun hK7=>(JLh (.agg (Gt.cs s)) (Gh H7 O O O) O (Rc (G0 column) O ?_))))
  obtain⟨r8,hr8,h⟩:=Gf h
  refine JLh (G0 r8) (Gu O (Gf0 s column r8 hr8) J17 ⟨O,O,O,O,G⟩) O (Rc (G0 r8) O (G7 (hK7 (Gv (fin1 G0 h)))))

def G20 (c:G3) (p1:Bool) (p2:Gt) (p3:Int):Option Bool:=
 bnd (bif (c.Deck==p1) then Yn p2.Covers p3 some else some default) fun y3=>
 bnd (bif (c.Deck==p1) then G12 y3 c else some default) fun r4=>
 some ((c.Deck==p1)&&r4)
theorem Hbd (c:G3) (p1:Bool) (p2:Gt) (p3:Int) (r:Bool) (h:G20 c p1 p2 p3=some r):Pure Ek 104 [.agg (G3.cs c),.dptr [BL p1],Ec p2,.dptr [G0 p3]] (·=BL r):=by
 unfold G20 at h
 refine H5 [.tmp 5] Tryz.func104 O O (Jr fun hK1=>(JLh (.ptr 1128 0) (Q1 (cs:=(G3.cs c)) 1128 O O O O O) O (Rc (BL false) O (G7 (hK1 (Gs [(1,.dptr [BL p1]),(2,Ec p2),(3,.dptr [G0 p3]),(4,Ee c)] [] 1128 rfl rfl rfl G rfl (by repeat' (first | exact .ptr | constructor)) (Js fun hK2=>?_)))))))
 obtain⟨y3,hy3,h⟩:=Gf h
 obtain⟨r4,hr4,h⟩:=Gf h
 refine JC_d0 Jz (by kernel_rfl) (Dq (.dptr [BL c.Deck,G0 c.Tiers,G0 c.Height,G0 c.Kilos20,G0 c.Kilos40,G0 c.Lash,E0 c.Plugs,G0 c.X,G0 c.Y,G0 c.Z]) (Gb R2 O O O) O (Dq (BL c.Deck) (Gi Jp O O O) O (Dq (BL p1) (Gi Jp O O O) O (Dq (BL (c.Deck==p1)) (Ha1 Gae O O O) O (Dq (BL (c.Deck==p1)) (G5 O O) O (Do (.dptr ((Gt.cs p2).drop 1)) [] O .sct G (fun hc=>Gb Hu O O O) O (Do (E3 p2.Covers) [11] O .sct ⟨Ua,G⟩ (fun hc=>Gi Ja O O O) O (Do (G0 p3) [] O .sct G (fun hc=>Gi Gd O O O) O (Do (.dptr [G0 y3.Bay,E0 y3.Rows]) [12,13] O .sct ⟨Ua,Ua,G⟩ (fun hc=>(match Yw (H4 hc hy3) with | ⟨_,hm_,hy_⟩=>H9 (f:=G9.av) (xs:=p2.Covers) (y:=y3) O O O J8 hy_ hm_)) O (Do (.agg [G0 y3.Bay,E0 y3.Rows]) [14] O .sct ⟨Ua,G⟩ (fun hc=>Gh Ge5 O O O) O (Do (.agg (G3.cs c)) [] O .sct G (fun hc=>Gh Yd O O O) O (Do (BL r4) [15,16] O .sct ⟨Ua,Ua,G⟩ (fun hc=>Gu (args:=[.agg [G0 y3.Bay,E0 y3.Rows],.agg (G3.cs c)]) O (H1a y3 c r4 (H4 hc hr4)) J10 ⟨O,O,O,O,G⟩) O (Dq (BL ((c.Deck==p1)&&r4)) (Q6 O O O O) O ?_)))))))))))))
 refine Dq (BL ((c.Deck==p1)&&r4)) (G8 O O) O (Dnil (hK2 (Gv (fin1 BL h))))

def Qb (l:List G3) (wanted:G3→Option Bool):Option (List Int):=
 each (fun y21 i21 (s21:(List Int)) nx21=>
  jp (fun kj24=>
   bnd (wanted y21) fun r27=>
   bif r27 then
   (need (decide ((s21.length+[(i21:Int)].length)*8≤140737488355328∧s21.length+[(i21:Int)].length≤maxLen)) <|
    kj24 (s21++[(i21:Int)]))
   else
   (kj24 s21)) fun(j24:(List Int))=>
  nx21 j24)
 (fun(s21:(List Int))=>
  some s21) l 0 []
theorem G37 (l:List G3) (wanted:G3→Option Bool) (wanted_f:FuncId) (wanted_c:List AV) (wanted_B:Hf Ek wanted_f=true) (wanted_d:Y8 (fun _=>false) wanted_c=true) (wanted_w:∀ a0 q,wanted a0=some q→Pure Ek wanted_f ([.agg (G3.cs a0)]++wanted_c) (·=BL q)) (r:(List Int)) (h:Qb l wanted=some r):Pure Ek 77 [E7 l,.fn wanted_f wanted_c] (·=E0 r):=by
 unfold Qb at h
 refine H5 [.tmp 4] Tryz.func77 O O (Jr fun hK1=>(JLh (E0 ([]:List Int)) (Hi 1 O O) O (G7 (hK1 (Jr fun hK2=>(JLh (OW 1112 1 G0 ([]:List Int)) (G6c 1112 3 1 O O O) O (G7 (hK2 (Js fun hK3=>Jr fun hK4=>(Rc (E7 l) O (JLl Hq O O O fun hm9=>(Rc (G0 0) O (G7 (hK4 (Gx ?_)))))))))))))))
 obtain⟨b21,kx21,hb21,hkx21,h⟩:=Jh h
 refine Hz (fun i21 (s21:(List Int))=>each b21 kx21 (List.drop i21 l) i21 s21=some r) (fun i21 s21=>[(1,.fn wanted_f wanted_c),(5,OW 1112 1 G0 s21),(8,E7 l),(9,Ej l.length),(10,Ej i21)]) (fun i21 s21=>[(1112,.spare 3 1 s21.length s21.length)]) (fun i21=>l.length - i21) 0 [] h ⟨⟨.same (Q5 _ _ wanted_d),.same O,.same O,.same O,.same O,G⟩,⟨⟨_,O,.same⟩,G⟩,O⟩ ?_
 clear h
 intro i21 s21 hi21 K21 e21
 refine Jr fun hK22=>(JLh (BL (decide ((i21:Int) < (l.length:Int)))) (Jt O O O) O (G7 (hK22 (Js fun hK23=>Gp O (fun hb=>?_) (fun hb=>?_)))))
 ·
  have hk21:=Q7 hb
  obtain⟨y21,nx21,hy21,hn21,h⟩:=J1 hi21 hk21
  replace h:=Zj hb21 h
  refine Gr (hK23 ?_)
  obtain⟨kj24,hkj24,h⟩:=Yh h
  refine R5 (fun j24:(List Int)=>kj24 j24=some r) (fun j24=>[(1,.fn wanted_f wanted_c),(5,OW 1112 1 G0 j24),(8,E7 l),(9,Ej l.length),(10,Ej i21)]) (fun j24=>[(1112,.spare 3 1 j24.length j24.length)]) (fun Kj24 ej24=>?_) ?_
  ·
   refine Gx (Jr fun hK25=>(Rc (Ej i21) O (JLh (Ee y21) (H9 (f:=G3.av) (xs:=l) (y:=y21) O O O Hq hy21 O) O (JLh (.agg (G3.cs y21)) (Gh Yd O O O) O (JLh (.ptr 1113 0) (Hs 1113 12 Yp O O) O (Rc (Ej i21) O (J0 (u:=.junk) (Hh (u:=.agg (G3.cs y21)) (ds:=(G3.cs y21)) G4c O O O O O O O O) (G7 (hK25 ?_)))))))))
   refine Gs [(1,.fn wanted_f wanted_c),(5,OW 1112 1 G0 s21),(6,Ej i21),(7,Ee y21),(8,E7 l),(9,Ej l.length),(10,Ej i21)] [(1112,.spare 3 1 s21.length s21.length)] 1113 rfl rfl rfl ⟨⟨_,rfl,.same⟩,G⟩ rfl (by exact⟨.conv (.same (Q5 _ _ wanted_d)),.conv (.same rfl),.conv (.same rfl),.ptr,.conv (.same rfl),.conv (.same rfl),.conv (.same rfl),G⟩) (Jr fun hK26=>(Rc (.fn wanted_f wanted_c) O (JLh (.agg (G3.cs y21)) (Gh Yd O O O) O ?_)))
   obtain⟨r27,hr27,h⟩:=Gf h
   refine JLh (BL r27) (Zz (args:=[.agg (G3.cs y21)]) (caps:=wanted_c) O O (wanted_w y21 _ hr27) wanted_B ⟨O,O,G⟩ wanted_d) O (G7 (hK26 (JCc O h (fun h hb=>?_) (fun h hb=>?_))))
   ·
    refine G4 (Rc (OW 1112 1 G0 s21) O (Rc (Ej i21) O (JLh (E0 [(i21:Int)]) (H6 (xs:=[Ej i21]) O ⟨O,O,G⟩ Gq Ju O O O O) O ?_)))
    obtain⟨ha28,h⟩:=Jk h
    refine JLh (OW 1112 1 G0 (s21++[(i21:Int)])) (Ro (f:=G0) (xs:=s21) (ys:=[(i21:Int)]) O O O O Gq Yv ha28 (fun _=>O) (.inl O) O) O (Rc (OW 1112 1 G0 (s21++[(i21:Int)])) O (G7 (ej24 _ _ (s21++[(i21:Int)]) h ⟨⟨.same (Q5 _ _ wanted_d),.same O,.same O,.same O,.same O,G⟩,⟨⟨_,O,.same⟩,G⟩,O⟩)))
   ·
    refine Gr (ej24 _ _ s21 h ⟨⟨.same (Q5 _ _ wanted_d),.same O,.same O,.same O,.same O,G⟩,⟨⟨_,O,.same⟩,G⟩,O⟩)
  ·intro j24 h
   replace h:=app1 hkj24 h
   refine G4 (JLh (G0 ((i21+1:Nat):Int)) (Hv (Hr hk21 hm9) O O O) O (Rc (G0 ((i21+1:Nat):Int)) O (G7 (e21 _ _ (i21+1) j24 (app1 hn21 h) (by omega) ⟨⟨.same (Q5 _ _ wanted_d),.same rfl,.same rfl,.same rfl,.same rfl,G⟩,⟨⟨_,rfl,.same⟩,G⟩,rfl⟩))))
 ·
  have h:=app1 hkx21 (J2 hi21 (Hg hb))
  refine J6 (hK3 (Jr fun hK29=>(Rc (OW 1112 1 G0 s21) O (Rc (OW 1112 1 G0 s21) O (G7 (hK29 (Gv (fin1l (fun r:(List Int)=>(E0 r:AV)) h))))))))

def Gab (s:Gt) (cover:Int) (deck:Bool):Option (List Int):=
 bif ((decide (cover < 0))||(decide ((s.Covers.length:Int)≤cover))) then
 (some [])
 else
 (bnd (Qb s.Columns (fun z0=>G20 z0 deck s cover)) fun r6=>
  some r6)
theorem J56 (s:Gt) (cover:Int) (deck:Bool) (r:(List Int)) (h:Gab s cover deck=some r):Pure Ek 83 [.agg (Gt.cs s),G0 cover,BL deck] (·=E0 r):=by
 unfold Gab at h
 refine H5 [.tmp 6] Tryz.func83 O O (Jr fun hK1=>(JLh (.ptr 1121 0) (Q1 (cs:=(Gt.cs s)) 1121 O O O O O) O (JLh (.ptr 1122 0) (Q1 (cs:=[G0 cover]) 1122 O O O O O) O (JLh (.ptr 1123 0) (Q1 (cs:=[BL deck]) 1123 O O O O O) O (JLh (E0 ([]:List Int)) (Hi 1 O O) O (G7 (hK1 ?_)))))))
 refine Gs [(3,Ec s),(4,.ptr 1122 0),(5,.ptr 1123 0)] [(1122,.box 3 [G0 cover]),(1123,.box 4 [BL deck])] 1121 rfl rfl rfl ⟨⟨_,rfl,.boxEq rfl rfl⟩,⟨_,rfl,.boxEq rfl rfl⟩,G⟩ rfl (by exact⟨.ptr,.conv (.same rfl),.conv (.same rfl),G⟩) ?_
 refine Gs [(3,Ec s),(4,.dptr [G0 cover]),(5,.ptr 1123 0)] [(1123,.box 4 [BL deck])] 1122 rfl rfl rfl ⟨⟨_,rfl,.boxEq rfl rfl⟩,G⟩ rfl (by exact⟨.conv (.same rfl),.ptr,.conv (.same rfl),G⟩) ?_
 refine Gs [(3,Ec s),(4,.dptr [G0 cover]),(5,.dptr [BL deck])] [] 1123 rfl rfl rfl G rfl (by exact⟨.conv (.same rfl),.conv (.same rfl),.ptr,G⟩) (Js fun hK2=>?_)
 refine Jr fun hK3=>(JLh (G0 cover) (Gi Gd O O O) O (JLh (BL (decide (cover < 0))) (Jt O O O) O (Rc (BL (decide (cover < 0))) O (JLo (G0 cover) [] O .scf G (fun hc=>Gi Gd O O O) O (JLo (.dptr [E3 s.Covers,G0 s.Light.Kilos,G0 s.Light.X,G0 s.Light.Y,G0 s.Light.Z,E4 s.Rows,E5 s.Frames,E6 s.Tanks,G0 s.G2.Tolerance,G0 s.G2.Trim,G0 s.G2.List_,G0 s.G2.Stability]) [] O .scf G (fun hc=>Gb Hu O O O) O (JLo (E3 s.Covers) [11] O .scf ⟨Ua,G⟩ (fun hc=>Gi Ja O O O) O (JLo (Ej s.Covers.length) [12] O .scf ⟨Ua,G⟩ (fun hc=>Yo (f:=G9.av) (xs:=s.Covers) J8 O O) O (JLo (BL (decide ((s.Covers.length:Int)≤cover))) [10,13] O .scf ⟨Ua,Ua,G⟩ (fun hc=>G9d O O O) O (JLh (BL ((decide (cover < 0))||(decide ((s.Covers.length:Int)≤cover)))) (G24 O O O O) O (G7 (hK3 ?_)))))))))))
 refine JCc O h (fun h hb=>?_) (fun h hb=>?_)
 ·
  refine Jr fun hK4=>(JLh (E0 ([]:List Int)) (Hi 1 O O) O (G7 (hK4 (Gv (fin1 (fun r:(List Int)=>(E0 r:AV)) h)))))
 ·
  refine Gr (hK2 ?_)
  refine Jr fun hK5=>(JLh (Ec s) (Gb Hm O O O) O (JLh (E7 s.Columns) (Gi J4 O O O) O (JLh (.fn 104 [.dptr [BL deck],Ec s,.dptr [G0 cover]]) (Z5 (cs:=[.dptr [BL deck],Ec s,.dptr [G0 cover]]) O O) O ?_)))
  obtain⟨r6,hr6,h⟩:=Gf h
  refine JLh (E0 r6) (Gu O (G37 s.Columns (fun z0=>G20 z0 deck s cover) 104 [.dptr [BL deck],Ec s,.dptr [G0 cover]] J7f O (fun z0 q hq=>Hbd z0 deck s cover q hq) r6 hr6) J11 ⟨O,O,O,O,G⟩) O (Rc (E0 r6) O (G7 (hK5 (Gv (fin1 (fun r:(List Int)=>(E0 r:AV)) h)))))

def G93 (s:Gt) (cover:Int):Option (List Int):=
 bnd (Gab s cover true) fun r3=>
 some r3
theorem M_ship_Upon_w (s:Gt) (cover:Int) (r:(List Int)) (h:G93 s cover=some r):Pure Ek 55 [.agg (Gt.cs s),G0 cover] (·=E0 r):=by
 unfold G93 at h
 refine H5 [.tmp 4] Tryz.func55 O O (Jr fun hK1=>(JLh (.ptr 1104 0) (Q1 (cs:=(Gt.cs s)) 1104 O O O O O) O (JLh (E0 ([]:List Int)) (Hi 1 O O) O (G7 (hK1 (Gs [(1,G0 cover),(2,Ec s)] [] 1104 rfl rfl rfl G rfl (by exact⟨.conv (.same rfl),.ptr,G⟩) ?_))))))
 refine Jr fun hK2=>(JLh (.agg (Gt.cs s)) (Gh H7 O O O) O (Rc (G0 cover) O ?_))
 obtain⟨r3,hr3,h⟩:=Gf h
 refine JLh (E0 r3) (Gu O (J56 s cover true r3 hr3) Ja2 ⟨O,O,O,O,O,O,G⟩) O (Rc (E0 r3) O (G7 (hK2 (Gv (fin1 (fun r:(List Int)=>(E0 r:AV)) h)))))

def Ry (s:List Int) (v:Int):Option Int:=
 each (fun y18 i18 (s18:Unit) nx18=>
  bif decide (v=y18) then
  (some (i18:Int))
  else
  (nx18 ()))
 (fun(s18:Unit)=>
  some (-1)) s 0 ()
theorem H39 (s:List Int) (v:Int) (r:Int) (h:Ry s v=some r):Pure Ek 64 [E0 s,G0 v] (·=G0 r):=by
 unfold Ry at h
 refine H5 [.tmp 4] Tryz.func64 O O (Jr fun hK1=>(Rc (G0 0) O (G7 (hK1 (Js fun hK2=>Jr fun hK3=>(Rc (E0 s) O (JLl Gq O O O fun hm7=>(Rc (G0 0) O (G7 (hK3 (Gx ?_)))))))))))
 obtain⟨b18,kx18,hb18,hkx18,h⟩:=Jh h
 refine Hz (fun i18 (s18:Unit)=>each b18 kx18 (List.drop i18 s) i18 s18=some r) (fun i18 s18=>[(0,E0 s),(1,G0 v),(7,Ej s.length),(8,Ej i18)]) (fun i18 s18=>[]) (fun i18=>s.length - i18) 0 () h ⟨(by repeat' constructor),G,rfl⟩ ?_
 clear h
 intro i18 s18 hi18 K18 e18
 refine Jr fun hK19=>(JLh (BL (decide ((i18:Int) < (s.length:Int)))) (Jt O O O) O (G7 (hK19 (Js fun hK20=>Gp O (fun hb=>?_) (fun hb=>?_)))))
 ·
  have hk18:=Q7 hb
  obtain⟨y18,nx18,hy18,hn18,h⟩:=J1 hi18 hk18
  replace h:=Zj hb18 h
  refine Gr (hK20 (Js fun hK21=>Gx (Jr fun hK22=>(Rc (Ej i18) O (Rc (Ej i18) O (G7 (hK22 (Jr fun hK23=>(Rc (G0 v) O (Rc (E0 s) O (Rc (Ej i18) O (JLh (.dptr [G0 y18]) (H9 (f:=G0) (xs:=s) (y:=y18) O O O Gq hy18 O) O (JLh (G0 y18) (Gi Gd O O O) O (JLh (BL (decide (v=y18))) (Jx O O O) O (G7 (hK23 (JCc O h (fun h hb=>?_) (fun h hb=>?_))))))))))))))))))
  ·
   refine Jr fun hK24=>(Rc (Ej i18) O (Rc (Ej i18) O (G7 (hK24 (Gv (fin1 G0 h))))))
  ·
   refine Gr (hK21 (G4 (JLh (G0 ((i18+1:Nat):Int)) (Hv (Hr hk18 hm7) O O O) O (Rc (G0 ((i18+1:Nat):Int)) O (G7 (e18 _ _ (i18+1) () (app1 hn18 h) (by omega) ⟨(by repeat' constructor),G,rfl⟩))))))
 ·
  have h:=app1 hkx18 (J2 hi18 (Hg hb))
  refine J6 (hK2 (Jr fun hK25=>(Rc (G0 (-1)) O (G7 (hK25 (Gv (fin1 G0 h)))))))

def Qj (s:List Int) (v:Int):Option Bool:=
 bnd (Ry s v) fun r3=>
 some (decide (0≤r3))
theorem Zx (s:List Int) (v:Int) (r:Bool) (h:Qj s v=some r):Pure Ek 36 [E0 s,G0 v] (·=BL r):=by
 unfold Qj at h
 refine H5 [.tmp 4] Tryz.func36 O O (Jr fun hK1=>(Rc (BL false) O (G7 (hK1 (Jr fun hK2=>(Rc (E0 s) O (Rc (G0 v) O ?_)))))))
 obtain⟨r3,hr3,h⟩:=Gf h
 refine JLh (G0 r3) (Gu O (H39 s v r3 hr3) Jaf ⟨O,O,O,O,G⟩) O (JLh (BL (decide (0≤r3))) (G9d O O O) O (Rc (BL (decide (0≤r3))) O (G7 (hK2 (Gv (fin1 BL h))))))

def G54 (s:Gt) (l:List Stowed) (cover:Int):Option (List Int):=
 bnd (G93 s cover) fun r3=>
 each (fun y23 i23 (s23:(List Int)) nx23=>
  jp (fun kj26=>
   bnd (Qj r3 y23.Slot.G3) fun r29=>
   bif r29 then
   (need (decide ((s23.length+[y23.Ga].length)*8≤140737488355328∧s23.length+[y23.Ga].length≤maxLen)) <|
    kj26 (s23++[y23.Ga]))
   else
   (kj26 s23)) fun(j26:(List Int))=>
  nx23 j26)
 (fun(s23:(List Int))=>
  some s23) l 0 []
theorem H56 (s:Gt) (l:List Stowed) (cover:Int) (r:(List Int)) (h:G54 s l cover=some r):Pure Ek 29 [.agg (Gt.cs s),E1 l,G0 cover] (·=E0 r):=by
 unfold G54 at h
 refine H5 [.tmp 6] Tryz.func29 O O (Jr fun hK1=>(JLh (.ptr 1068 0) (Q1 (cs:=(Gt.cs s)) 1068 O O O O O) O (JLh (E0 ([]:List Int)) (Hi 1 O O) O (G7 (hK1 (Gs [(1,E1 l),(2,G0 cover),(3,Ec s)] [] 1068 rfl rfl rfl G rfl (by exact⟨.conv (.same rfl),.conv (.same rfl),.ptr,G⟩) ?_))))))
 refine Jr fun hK2=>(JLh (.agg (Gt.cs s)) (Gh H7 O O O) O (Rc (G0 cover) O ?_))
 obtain⟨r3,hr3,h⟩:=Gf h
 refine JLh (E0 r3) (Gu O (M_ship_Upon_w s cover r3 hr3) Jb1 ⟨O,O,O,O,G⟩) O (Rc (E0 r3) O (G7 (hK2 (Jr fun hK4=>(JLh (OW 1069 1 G0 ([]:List Int)) (G6c 1069 3 1 O O O) O (G7 (hK4 (Js fun hK5=>Jr fun hK6=>(Rc (E1 l) O (JLl H0 O O O fun hm15=>(Rc (G0 0) O (G7 (hK6 (Gx ?_))))))))))))))
 obtain⟨b23,kx23,hb23,hkx23,h⟩:=Jh h
 refine Hz (fun i23 (s23:(List Int))=>each b23 kx23 (List.drop i23 l) i23 s23=some r) (fun i23 s23=>[(7,E0 r3),(8,OW 1069 1 G0 s23),(14,E1 l),(15,Ej l.length),(16,Ej i23)]) (fun i23 s23=>[(1069,.spare 3 1 s23.length s23.length)]) (fun i23=>l.length - i23) 0 [] h ⟨(by repeat' constructor),⟨⟨_,rfl,.same⟩,G⟩,rfl⟩ ?_
 clear h
 intro i23 s23 hi23 K23 e23
 refine Jr fun hK24=>(JLh (BL (decide ((i23:Int) < (l.length:Int)))) (Jt O O O) O (G7 (hK24 (Js fun hK25=>Gp O (fun hb=>?_) (fun hb=>?_)))))
 ·
  have hk23:=Q7 hb
  obtain⟨y23,nx23,hy23,hn23,h⟩:=J1 hi23 hk23
  replace h:=Zj hb23 h
  refine Gr (hK25 ?_)
  obtain⟨kj26,hkj26,h⟩:=Yh h
  refine R5 (fun j26:(List Int)=>kj26 j26=some r) (fun j26=>[(7,E0 r3),(8,OW 1069 1 G0 j26),(14,E1 l),(15,Ej l.length),(16,Ej i23)]) (fun j26=>[(1069,.spare 3 1 j26.length j26.length)]) (fun Kj26 ej26=>?_) ?_
  ·
   refine Gx (Jr fun hK27=>(JLh (Ed y23) (H9 (f:=Stowed.av) (xs:=l) (y:=y23) O O O H0 hy23 O) O (JLh (.agg (Stowed.cs y23)) (Gh Qx O O O) O (JLh (.ptr 1070 0) (Hs 1070 4 Q8 O O) O (J0 (u:=.junk) (Hh (u:=.agg (Stowed.cs y23)) (ds:=[G0 y23.Ga,G0 y23.Slot.G3,G0 y23.Slot.Tier,U8 y23.Slot.Half]) Yg O O O O O O O O) (G7 (hK27 (Gs [(7,E0 r3),(8,OW 1069 1 G0 s23),(10,Ed y23),(14,E1 l),(15,Ej l.length),(16,Ej i23)] [(1069,.spare 3 1 s23.length s23.length)] 1070 rfl rfl rfl ⟨⟨_,rfl,.same⟩,G⟩ rfl (by repeat' (first | exact .ptr | constructor)) ?_))))))))
   refine Jr fun hK28=>(Rc (E0 r3) O (JLh (.dptr ((Stowed.cs y23).drop 1)) (Gb J7 O O O) O (JLh (.dptr ((Stowed.cs y23).drop 1)) (Gb Jf O O O) O (JLh (G0 y23.Slot.G3) (Gi Gd O O O) O ?_))))
   obtain⟨r29,hr29,h⟩:=Gf h
   refine JLh (BL r29) (Gu O (Zx r3 y23.Slot.G3 r29 hr29) H61 ⟨O,O,O,O,G⟩) O (G7 (hK28 (JCc O h (fun h hb=>?_) (fun h hb=>?_))))
   ·
    refine G4 (Rc (OW 1069 1 G0 s23) O (JLh (Ed y23) (Gb Ht O O O) O (JLh (G0 y23.Ga) (Gi Gd O O O) O (JLh (E0 [y23.Ga]) (H6 (xs:=[G0 y23.Ga]) O ⟨O,O,G⟩ Gq Ju O O O O) O ?_))))
    obtain⟨ha30,h⟩:=Jk h
    refine JLh (OW 1069 1 G0 (s23++[y23.Ga])) (Ro (f:=G0) (xs:=s23) (ys:=[y23.Ga]) O O O O Gq Yv ha30 (fun _=>O) (.inl O) O) O (Rc (OW 1069 1 G0 (s23++[y23.Ga])) O (G7 (ej26 _ _ (s23++[y23.Ga]) h ⟨(by repeat' constructor),⟨⟨_,rfl,.same⟩,G⟩,rfl⟩)))
   ·
    refine Gr (ej26 _ _ s23 h ⟨(by repeat' constructor),⟨⟨_,rfl,.same⟩,G⟩,rfl⟩)
  ·intro j26 h
   replace h:=app1 hkj26 h
   refine G4 (JLh (G0 ((i23+1:Nat):Int)) (Hv (Hr hk23 hm15) O O O) O (Rc (G0 ((i23+1:Nat):Int)) O (G7 (e23 _ _ (i23+1) j26 (app1 hn23 h) (by omega) ⟨(by repeat' constructor),⟨⟨_,rfl,.same⟩,G⟩,rfl⟩))))
 ·
  have h:=app1 hkx23 (J2 hi23 (Hg hb))
  refine J6 (hK5 (Jr fun hK31=>(Rc (OW 1069 1 G0 s23) O (Rc (OW 1069 1 G0 s23) O (G7 (hK31 (Gv (fin1l (fun r:(List Int)=>(E0 r:AV)) h))))))))
end
end Go.Proofs.YtbljcmgjmieffaaGreat
