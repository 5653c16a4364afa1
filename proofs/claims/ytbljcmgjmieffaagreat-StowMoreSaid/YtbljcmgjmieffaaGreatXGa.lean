/-
 Models of functions of the program,and that they return what the models say.
-/
import Derived.Test.YtbljcmgjmieffaaGreatSpecW
set_option linter.unnecessarySimpa false
set_option maxRecDepth 100000
set_option linter.unusedVariables false
set_option linter.unusedSimpArgs false
namespace Go.Proofs.YtbljcmgjmieffaaGreat
open Go.RowKit
noncomputable section
structure Gb where
 ID:Int
 Number:ByteArray
 Size:Int
 High:Bool
 Kilos:Int
 Load:Int
 Discharge:Int
 Class:Int
 Reefer:Bool
 deriving DecidableEq,Inhabited
def Gb.cs (x:Gb):List AV:=[G0 x.ID,ST x.Number,U8 x.Size,BL x.High,G0 x.Kilos,G0 x.Load,G0 x.Discharge,U8 x.Class,BL x.Reefer]
def Gb.av (x:Gb):AV:=.agg x.cs
abbrev Eh (x:Gb):AV:=.dptr (Gb.cs x)
abbrev E2:=LS 9 Gb.av
namespace XGF
open XAF
open XCF
theorem tq_45 (a b:Slot):H5e Ek 4 45 [.int .i64 a.G3,.int .i64 a.Tier,.int .u8 a.Half] [.int .i64 b.G3,.int .i64 b.Tier,.int .u8 b.Half]=some (decide (a=b)):=by
 refine(show _=some ((a.G3==b.G3)&&((a.Tier==b.Tier)&&((a.Half==b.Half)&&true))) by kernel_rfl).trans (congrArg some ?_)
 rw [Bool.eq_iff_iff]
 simp only [Bool.and_eq_true,beq_iff_eq,decide_eq_true_eq,Bool.and_true]
 constructor
 ·intro h; obtain⟨_,_,_⟩:=a; obtain⟨_,_,_⟩:=b; simp_all
 ·intro h; subst h; simp
theorem Hd:G61 Ek 36 13=true:=by kernel_rfl
theorem Jw:G61 Ek 45 3=true:=by kernel_rfl
theorem Ym:G61 Ek 47 4=true:=by kernel_rfl
theorem G79:G61 Ek 67 9=true:=by kernel_rfl
theorem J3f:Yn Ek 45=true:=by kernel_rfl
theorem H72:H9f Ek 4=true:=by kernel_rfl
theorem J3e:Hb Ek 100=true:=by kernel_rfl
theorem J3d:Hb Ek 101=true:=by kernel_rfl
theorem J3c:Hb Ek 102=true:=by kernel_rfl
theorem J3b:Hb Ek 103=true:=by kernel_rfl
theorem J3a:Hb Ek 104=true:=by kernel_rfl
theorem H33:Hb Ek 11=true:=by kernel_rfl
theorem H31:Hb Ek 17=true:=by kernel_rfl
theorem Gcc:Hb Ek 25=true:=by kernel_rfl
theorem H30:Hb Ek 26=true:=by kernel_rfl
theorem Hdb:Hb Ek 27=true:=by kernel_rfl
theorem G7f:Hb Ek 28=true:=by kernel_rfl
theorem Hda:Hb Ek 29=true:=by kernel_rfl
theorem J79:Hb Ek 30=true:=by kernel_rfl
theorem J78:Hb Ek 31=true:=by kernel_rfl
theorem H2f:Hb Ek 36=true:=by kernel_rfl
theorem H2e:Hb Ek 37=true:=by kernel_rfl
theorem Hd9:Hb Ek 38=true:=by kernel_rfl
theorem J70:Hb Ek 44=true:=by kernel_rfl
theorem Hd7:Hb Ek 45=true:=by kernel_rfl
theorem Hd6:Hb Ek 46=true:=by kernel_rfl
theorem Hd5:Hb Ek 47=true:=by kernel_rfl
theorem Hd4:Hb Ek 48=true:=by kernel_rfl
theorem Hd3:Hb Ek 52=true:=by kernel_rfl
theorem Hd2:Hb Ek 53=true:=by kernel_rfl
theorem J6d:Hb Ek 54=true:=by kernel_rfl
theorem J6c:Hb Ek 55=true:=by kernel_rfl
theorem Hd1:Hb Ek 58=true:=by kernel_rfl
theorem J6a:Hb Ek 64=true:=by kernel_rfl
theorem J69:Hb Ek 65=true:=by kernel_rfl
theorem J68:Hb Ek 66=true:=by kernel_rfl
theorem J67:Hb Ek 67=true:=by kernel_rfl
theorem H2d:Hb Ek 73=true:=by kernel_rfl
theorem J62:Hb Ek 74=true:=by kernel_rfl
theorem Hce:Hb Ek 75=true:=by kernel_rfl
theorem Hcd:Hb Ek 77=true:=by kernel_rfl
theorem J5f:Hb Ek 80=true:=by kernel_rfl
theorem J5e:Hb Ek 81=true:=by kernel_rfl
theorem Hcc:Hb Ek 82=true:=by kernel_rfl
theorem J5d:Hb Ek 83=true:=by kernel_rfl
theorem J5c:Hb Ek 97=true:=by kernel_rfl
theorem Hc9:Qy Ek 45 3 24=true:=by kernel_rfl
theorem tf_eqg_45:Ek.eqGuardType Ek.depth 45=false:=by kernel_rfl
theorem Jc:J8 Ek 45 0 0=true:=by kernel_rfl
theorem Rn:J8 Ek 45 1 1=true:=by kernel_rfl
theorem R0:J8 Ek 45 2 2=true:=by kernel_rfl
theorem Hr:J8 Ek 47 0 0=true:=by kernel_rfl
theorem Hx:J8 Ek 47 1 1=true:=by kernel_rfl
theorem G45:J8 Ek 67 0 0=true:=by kernel_rfl
theorem Z0:J8 Ek 67 2 2=true:=by kernel_rfl
theorem H1d:J8 Ek 67 3 3=true:=by kernel_rfl
theorem H70:G31 Ek 80 3 82=true:=by kernel_rfl
theorem Ri:placesOf Ek 67=some [(0,1),(1,1),(2,1),(3,1),(4,1),(5,1),(6,1),(7,1),(8,1)]:=by kernel_rfl
theorem J2c:placesOf Ek 82=some []:=by kernel_rfl
theorem Qp:Qj Ek 39=true:=by kernel_rfl
theorem Gc8:Qj Ek 76=true:=by kernel_rfl
theorem Gc7:Qj Ek 80=true:=by kernel_rfl
theorem Gc6:Qj Ek 81=true:=by kernel_rfl
theorem H2c:Qo Ek 45 3=true:=by kernel_rfl
theorem Zd:Qo Ek 47 4=true:=by kernel_rfl
theorem G39:Qo Ek 67 9=true:=by kernel_rfl
theorem J57:Qo Ek 80 1=true:=by kernel_rfl
theorem J56:Qo Ek 81 1=true:=by kernel_rfl
theorem J55:Qo Ek 82 0=true:=by kernel_rfl
theorem G21:sliceB Ek 38 67 9=true:=by kernel_rfl
theorem R7:sliceB Ek 76 45 3=true:=by kernel_rfl
theorem Yb:(Ek.info? 67).bind (fun i=>i.zero.map Value.cells)=some (List.toArray [.int .i64 0,.string ByteArray.empty,.int .u8 0,.bool false,.int .i64 0,.int .i64 0,.int .i64 0,.int .u8 0,.bool false]):=by kernel_rfl
theorem J52:(Ek.info? 82).bind (fun i=>i.zero.map Value.cells)=some (List.toArray []):=by kernel_rfl
theorem Jj:Q8 Ek 3 1=true:=by kernel_rfl
theorem G4e:Q8 Ek 45 3=true:=by kernel_rfl
theorem R5:Q8 Ek 47 4=true:=by kernel_rfl
theorem G20:Q8 Ek 67 9=true:=by kernel_rfl
theorem J36:Q8 Ek 80 1=true:=by kernel_rfl
theorem J35:Q8 Ek 81 1=true:=by kernel_rfl
theorem J34:Q8 Ek 82 0=true:=by kernel_rfl
theorem tf_zv_82:(Ek.info? 82).bind (·.zero)=some (.agg #[]):=by kernel_rfl
theorem tk_3:G9c Ek 3 (fun n:Int=>Value.int .i64 n):=G9c.of_int (by kernel_rfl)
end XGF
open XAF
open XCF
open XGF

def Zx (l:List Stowed):Option (List Slot):=
 each (fun y17 i17 (s17:(List Slot)) nx17=>
  need (decide ((s17.length+[y17.Slot].length)*24≤140737488355328∧s17.length+[y17.Slot].length≤maxLen)) <|
  nx17 (s17++[y17.Slot]))
 (fun(s17:(List Slot))=>
  some s17) l 0 []
theorem Gff (l:List Stowed) (r:(List Slot)) (h:Zx l=some r):Pure Ek 45 [E1 l] (·=E8 r):=by
 unfold Zx at h
 refine H1 [.tmp 2] Tryz.func45 O O (Jr fun hK1=>(JLh (E8 ([]:List Slot)) (Hj 3 O O) O (G7 (hK1 (Jr fun hK2=>(JLh (OW 1072 3 Slot.av ([]:List Slot)) (G5d 1072 45 3 O O O) O (G7 (hK2 (Js fun hK3=>Jr fun hK4=>(Qk (E1 l) O (JLl H9 O O O fun hm7=>(Qk (G0 0) O (G7 (hK4 (Gx ?_)))))))))))))))
 obtain⟨b17,kx17,hb17,hkx17,h⟩:=Jh h
 refine Hz (fun i17 (s17:(List Slot))=>each b17 kx17 (List.drop i17 l) i17 s17=some r) (fun i17 s17=>[(3,OW 1072 3 Slot.av s17),(6,E1 l),(7,Ej l.length),(8,Ej i17)]) (fun i17 s17=>[(1072,.spare 45 3 s17.length s17.length)]) (fun i17=>l.length - i17) 0 [] h ⟨(by repeat' constructor),⟨⟨_,rfl,.same⟩,G⟩,rfl⟩ ?_
 clear h
 intro i17 s17 hi17 K17 e17
 refine Jr fun hK18=>(JLh (BL (decide ((i17:Int) < (l.length:Int)))) (Jm O O O) O (G7 (hK18 (Js fun hK19=>Gm O (fun hb=>?_) (fun hb=>?_)))))
 ·
  have hk17:=Q4 hb
  obtain⟨y17,nx17,hy17,hn17,h⟩:=J3 hi17 hk17
  replace h:=Zv hb17 h
  refine Gs (hK19 (Js fun hK20=>Gx (Jr fun hK21=>(JLh (Ed y17) (Hc (f:=Stowed.av) (xs:=l) (y:=y17) O O O H9 hy17 O) O (JLh (.agg (Stowed.cs y17)) (Gj Ym O O O) O (JLh (.ptr 1073 0) (Jd 1073 4 R5 O O) O (J5 (u:=.junk) (Hp (u:=.agg (Stowed.cs y17)) (ds:=[G0 y17.Gb,G0 y17.Slot.G3,G0 y17.Slot.Tier,U8 y17.Slot.Half]) Zd O O O O O O O O) (G7 (hK21 (Gt [(3,OW 1072 3 Slot.av s17),(5,Ed y17),(6,E1 l),(7,Ej l.length),(8,Ej i17)] [(1072,.spare 45 3 s17.length s17.length)] 1073 rfl rfl rfl ⟨⟨_,rfl,.same⟩,G⟩ rfl (by repeat' (first | exact .ptr | constructor)) (G4 ?_)))))))))))
  refine Qk (OW 1072 3 Slot.av s17) O (JLh (.dptr ((Stowed.cs y17).drop 1)) (Gc Hx O O O) O (JLh (.agg ((Stowed.cs y17).drop 1)) (Gj Jw O O O) O (JLh (E8 [y17.Slot]) (H4 (xs:=[.agg ((Stowed.cs y17).drop 1)]) O ⟨O,O,G⟩ R7 G4e O O O O) O ?_)))
  obtain⟨ha22,h⟩:=Jf h
  refine JLh (OW 1072 3 Slot.av (s17++[y17.Slot])) (Y2 (f:=Slot.av) (xs:=s17) (ys:=[y17.Slot]) O O O O R7 Hc9 ha22 (fun _=>O) (.inl O) O) O (Qk (OW 1072 3 Slot.av (s17++[y17.Slot])) O (G7 (hK20 (G4 (JLh (G0 ((i17+1:Nat):Int)) (Hu (Hs hk17 hm7) O O O) O (Qk (G0 ((i17+1:Nat):Int)) O (G7 (e17 _ _ (i17+1) (s17++[y17.Slot]) (app1 hn17 h) (by omega) ⟨(by repeat' constructor),⟨⟨_,rfl,.same⟩,G⟩,rfl⟩))))))))
 ·
  have h:=app1 hkx17 (J4 hi17 (Hh hb))
  refine J9 (hK3 (Jr fun hK23=>(Qk (OW 1072 3 Slot.av s17) O (Qk (OW 1072 3 Slot.av s17) O (G7 (hK23 (Gu (fin1l (fun r:(List Slot)=>(E8 r:AV)) h))))))))

def G12 (b:Gb) (p1:Int):Option Bool:=
 some (decide (b.ID=p1))
theorem Had (b:Gb) (p1:Int) (r:Bool) (h:G12 b p1=some r):Pure Ek 66 [.agg (Gb.cs b),.dptr [G0 p1]] (·=BL r):=by
 unfold G12 at h
 refine H1 [.tmp 3] Tryz.func66 O O (Jr fun hK1=>(JLh (.ptr 1090 0) (Jn (cs:=(Gb.cs b)) 1090 O O O O O) O (Qk (BL false) O (G7 (hK1 (Gt [(1,.dptr [G0 p1]),(2,Eh b)] [] 1090 rfl rfl rfl G rfl (by exact⟨.conv (.same rfl),.ptr,G⟩) (Jr fun hK2=>(JLh (Eh b) (Gc G45 O O O) O (JLh (G0 b.ID) (Gi Ge O O O) O (JLh (G0 p1) (Gi Ge O O O) O (JLh (BL (decide (b.ID=p1))) (Jz O O O) O (Qk (BL (decide (b.ID=p1))) O (G7 (hK2 (Gu (fin1 BL h))))))))))))))))

def Qx (s:List Gb) (f:Gb→Option Bool):Option Int:=
 each (fun y20 i20 (s20:Unit) nx20=>
  bnd (f y20) fun r26=>
  bif r26 then
  (some (i20:Int))
  else
  (nx20 ()))
 (fun(s20:Unit)=>
  some (-1)) s 0 ()
theorem G73 (s:List Gb) (f:Gb→Option Bool) (f_f:FuncId) (f_c:List AV) (f_B:Hb Ek f_f=true) (f_d:R8 (fun _=>false) f_c=true) (f_w:∀ a0 q,f a0=some q→Pure Ek f_f ([.agg (Gb.cs a0)]++f_c) (·=BL q)) (r:Int) (h:Qx s f=some r):Pure Ek 65 [E2 s,.fn f_f f_c] (·=G0 r):=by
 unfold Qx at h
 refine H1 [.tmp 4] Tryz.func65 O O (Jr fun hK1=>(Qk (G0 0) O (G7 (hK1 (Js fun hK2=>Jr fun hK3=>(Qk (E2 s) O (JLl G21 O O O fun hm7=>(Qk (G0 0) O (G7 (hK3 (Gx ?_)))))))))))
 obtain⟨b20,kx20,hb20,hkx20,h⟩:=Jh h
 refine Hz (fun i20 (s20:Unit)=>each b20 kx20 (List.drop i20 s) i20 s20=some r) (fun i20 s20=>[(0,E2 s),(1,.fn f_f f_c),(7,Ej s.length),(8,Ej i20)]) (fun i20 s20=>[]) (fun i20=>s.length - i20) 0 () h ⟨⟨.same O,.same (Jg _ _ f_d),.same O,.same O,G⟩,G,O⟩ ?_
 clear h
 intro i20 s20 hi20 K20 e20
 refine Jr fun hK21=>(JLh (BL (decide ((i20:Int) < (s.length:Int)))) (Jm O O O) O (G7 (hK21 (Js fun hK22=>Gm O (fun hb=>?_) (fun hb=>?_)))))
 ·
  have hk20:=Q4 hb
  obtain⟨y20,nx20,hy20,hn20,h⟩:=J3 hi20 hk20
  replace h:=Zv hb20 h
  refine Gs (hK22 (Js fun hK23=>Gx (Jr fun hK24=>(Qk (Ej i20) O (Qk (Ej i20) O (G7 (hK24 (Jr fun hK25=>(Qk (.fn f_f f_c) O (Qk (E2 s) O (Qk (Ej i20) O (JLh (Eh y20) (Hc (f:=Gb.av) (xs:=s) (y:=y20) O O O G21 hy20 O) O (JLh (.agg (Gb.cs y20)) (Gj G79 O O O) O ?_)))))))))))))
  obtain⟨r26,hr26,h⟩:=Gf h
  refine JLh (BL r26) (G15 (args:=[.agg (Gb.cs y20)]) (caps:=f_c) O O (f_w y20 _ hr26) f_B ⟨O,O,G⟩ f_d) O (G7 (hK25 (JCc O h (fun h hb=>?_) (fun h hb=>?_))))
  ·
   refine Jr fun hK27=>(Qk (Ej i20) O (Qk (Ej i20) O (G7 (hK27 (Gu (fin1 G0 h))))))
  ·
   refine Gs (hK23 (G4 (JLh (G0 ((i20+1:Nat):Int)) (Hu (Hs hk20 hm7) O O O) O (Qk (G0 ((i20+1:Nat):Int)) O (G7 (e20 _ _ (i20+1) () (app1 hn20 h) (by omega) ⟨⟨.same rfl,.same (Jg _ _ f_d),.same rfl,.same rfl,G⟩,G,rfl⟩))))))
 ·
  have h:=app1 hkx20 (J4 hi20 (Hh hb))
  refine J9 (hK2 (Jr fun hK28=>(Qk (G0 (-1)) O (G7 (hK28 (Gu (fin1 G0 h)))))))

def Zh (boxes:List Gb) (id_:Int):Option (Gb×Bool):=
 bnd (Qx boxes (fun z0=>G12 z0 id_)) fun r3=>
 bif decide (r3 < 0) then
 (some ((Gb.mk 0 ByteArray.empty 0 false 0 0 0 0 false),false))
 else
 (Yj boxes r3 fun y8=>
  some (y8,true))
theorem Gaf (boxes:List Gb) (id_:Int) (r:Gb×Bool) (h:Zh boxes id_=some r):Pure Ek 37 [E2 boxes,G0 id_] (·=.tup [.agg (Gb.cs r.1),BL r.2]):=by
 unfold Zh at h
 refine H1 [.cell 4 67,.tmp 5] Tryz.func37 O O (Jr fun hK1=>(JLh (.ptr 1058 0) (Jn (cs:=[G0 id_]) 1058 O O O O O) O (JLh (.ptr 1059 0) (G98 1059 [G0 0,ST ByteArray.empty,U8 0,BL false,G0 0,G0 0,G0 0,U8 0,BL false] [.int .i64 0,.string ByteArray.empty,.int .u8 0,.bool false,.int .i64 0,.int .i64 0,.int .i64 0,.int .u8 0,.bool false] Yb ⟨.inl O,.inl O,.inl O,.inl O,.inl O,.inl O,.inl O,.inl O,.inl O,G⟩ O O) O (Qk (BL false) O (G7 (hK1 (Gt [(0,E2 boxes),(3,.dptr [G0 id_]),(4,.ptr 1059 0)] [(1059,.box 67 [G0 0,ST ByteArray.empty,U8 0,BL false,G0 0,G0 0,G0 0,U8 0,BL false])] 1058 rfl rfl rfl ⟨⟨_,rfl,.boxEq rfl rfl⟩,G⟩ rfl (by exact⟨.conv (.same rfl),.ptr,.conv (.same rfl),G⟩) ?_)))))))
 refine Jr fun hK2=>(Qk (E2 boxes) O (JLh (.fn 66 [.dptr [G0 id_]]) (Yh (cs:=[.dptr [G0 id_]]) O O) O ?_))
 obtain⟨r3,hr3,h⟩:=Gf h
 refine JLh (G0 r3) (Gv O (G73 boxes (fun z0=>G12 z0 id_) 66 [.dptr [G0 id_]] J68 O (fun z0 q hq=>Had z0 id_ q hq) r3 hr3) J69 ⟨O,O,O,O,G⟩) O (Qk (G0 r3) O (G7 (hK2 (Js fun hK4=>Jr fun hK5=>(Qk (G0 r3) O (JLh (BL (decide (r3 < 0))) (Jm O O O) O (G7 (hK5 (JCc O h (fun h hb=>?_) (fun h hb=>?_))))))))))
 ·
  refine Jr fun hK6=>(JLh (.agg [G0 0,ST ByteArray.empty,U8 0,BL false,G0 0,G0 0,G0 0,U8 0,BL false]) (Ho (cs:=[G0 0,ST ByteArray.empty,U8 0,BL false,G0 0,G0 0,G0 0,U8 0,BL false]) [(0,1),(1,1),(2,1),(3,1),(4,1),(5,1),(6,1),(7,1),(8,1)] [G0 0,ST ByteArray.empty,U8 0,BL false,G0 0,G0 0,G0 0,U8 0,BL false] [.int .i64 0,.string ByteArray.empty,.int .u8 0,.bool false,.int .i64 0,.int .i64 0,.int .i64 0,.int .u8 0,.bool false] Ri Yb ⟨.inl O,.inl O,.inl O,.inl O,.inl O,.inl O,.inl O,.inl O,.inl O,G⟩ O O) O (J5 (u:=.junk) (Hp (u:=.agg [G0 0,ST ByteArray.empty,U8 0,BL false,G0 0,G0 0,G0 0,U8 0,BL false]) (ds:=[G0 0,ST ByteArray.empty,U8 0,BL false,G0 0,G0 0,G0 0,U8 0,BL false]) G39 O O O O O O O O) (Qk (BL false) O (G7 (hK6 ?_)))))
  refine Gu (⟨[.agg [G0 0,ST ByteArray.empty,U8 0,BL false,G0 0,G0 0,G0 0,U8 0,BL false],BL false],[],G,O,⟨⟨_,⟨_,_,_,_,O,O,O,.inl ⟨G79,O⟩⟩,.conv (.same O)⟩,⟨_,O,.conv (.same O)⟩,G⟩,O,congrArg (fun r:Gb×Bool=>(.tup [.agg (Gb.cs r.1),BL r.2]:AV)) (Option.some.inj h)⟩)
 ·
  refine Gs (hK4 (Jr fun hK7=>(Qk (E2 boxes) O (Qk (G0 r3) O ?_))))
  obtain⟨m9,y8,hm9,hy8,h⟩:=Y6 h
  refine JLh (Eh y8) (Hc (f:=Gb.av) (xs:=boxes) (y:=y8) O O O G21 hy8 hm9) O (JLh (.agg (Gb.cs y8)) (Gj G79 O O O) O (J5 (u:=.junk) (Hp (u:=.agg (Gb.cs y8)) (ds:=(Gb.cs y8)) G39 O O O O O O O O) (Qk (BL true) O (G7 (hK7 (Gu (⟨[.agg (Gb.cs y8),BL true],[],G,O,⟨⟨_,⟨_,_,_,_,O,O,O,.inl ⟨G79,O⟩⟩,.conv (.same O)⟩,⟨_,O,.conv (.same O)⟩,G⟩,O,congrArg (fun r:Gb×Bool=>(.tup [.agg (Gb.cs r.1),BL r.2]:AV)) (Option.some.inj h)⟩)))))))

def Ra (s:List Int) (v:Int):Option Int:=
 each (fun y18 i18 (s18:Unit) nx18=>
  bif decide (v=y18) then
  (some (i18:Int))
  else
  (nx18 ()))
 (fun(s18:Unit)=>
  some (-1)) s 0 ()
theorem Gdd (s:List Int) (v:Int) (r:Int) (h:Ra s v=some r):Pure Ek 97 [E9 s,U8 v] (·=G0 r):=by
 unfold Ra at h
 refine H1 [.tmp 4] Tryz.func97 O O (Jr fun hK1=>(Qk (G0 0) O (G7 (hK1 (Js fun hK2=>Jr fun hK3=>(Qk (E9 s) O (JLl Zr O O O fun hm7=>(Qk (G0 0) O (G7 (hK3 (Gx ?_)))))))))))
 obtain⟨b18,kx18,hb18,hkx18,h⟩:=Jh h
 refine Hz (fun i18 (s18:Unit)=>each b18 kx18 (List.drop i18 s) i18 s18=some r) (fun i18 s18=>[(0,E9 s),(1,U8 v),(7,Ej s.length),(8,Ej i18)]) (fun i18 s18=>[]) (fun i18=>s.length - i18) 0 () h ⟨(by repeat' constructor),G,rfl⟩ ?_
 clear h
 intro i18 s18 hi18 K18 e18
 refine Jr fun hK19=>(JLh (BL (decide ((i18:Int) < (s.length:Int)))) (Jm O O O) O (G7 (hK19 (Js fun hK20=>Gm O (fun hb=>?_) (fun hb=>?_)))))
 ·
  have hk18:=Q4 hb
  obtain⟨y18,nx18,hy18,hn18,h⟩:=J3 hi18 hk18
  replace h:=Zv hb18 h
  refine Gs (hK20 (Js fun hK21=>Gx (Jr fun hK22=>(Qk (Ej i18) O (Qk (Ej i18) O (G7 (hK22 (Jr fun hK23=>(Qk (U8 v) O (Qk (E9 s) O (Qk (Ej i18) O (JLh (.dptr [U8 y18]) (Hc (f:=U8) (xs:=s) (y:=y18) O O O Zr hy18 O) O (JLh (U8 y18) (Gi J6 O O O) O (JLh (BL (decide (v=y18))) (Jz O O O) O (G7 (hK23 (JCc O h (fun h hb=>?_) (fun h hb=>?_))))))))))))))))))
  ·
   refine Jr fun hK24=>(Qk (Ej i18) O (Qk (Ej i18) O (G7 (hK24 (Gu (fin1 G0 h))))))
  ·
   refine Gs (hK21 (G4 (JLh (G0 ((i18+1:Nat):Int)) (Hu (Hs hk18 hm7) O O O) O (Qk (G0 ((i18+1:Nat):Int)) O (G7 (e18 _ _ (i18+1) () (app1 hn18 h) (by omega) ⟨(by repeat' constructor),G,rfl⟩))))))
 ·
  have h:=app1 hkx18 (J4 hi18 (Hh hb))
  refine J9 (hK2 (Jr fun hK25=>(Qk (G0 (-1)) O (G7 (hK25 (Gu (fin1 G0 h)))))))

def Qh (s:List Int) (v:Int):Option Bool:=
 bnd (Ra s v) fun r3=>
 some (decide (0≤r3))
theorem G9b (s:List Int) (v:Int) (r:Bool) (h:Qh s v=some r):Pure Ek 67 [E9 s,U8 v] (·=BL r):=by
 unfold Qh at h
 refine H1 [.tmp 4] Tryz.func67 O O (Jr fun hK1=>(Qk (BL false) O (G7 (hK1 (Jr fun hK2=>(Qk (E9 s) O (Qk (U8 v) O ?_)))))))
 obtain⟨r3,hr3,h⟩:=Gf h
 refine JLh (G0 r3) (Gv O (Gdd s v r3 hr3) J5c ⟨O,O,O,O,G⟩) O (JLh (BL (decide (0≤r3))) (G95 O O O) O (Qk (BL (decide (0≤r3))) O (G7 (hK2 (Gu (fin1 BL h))))))

def G00 (s:Gw) (x:Slot) (size:Int):Option Bool:=
 bnd (bif (((decide (0≤x.G3))&&(decide (x.G3 < (s.Columns.length:Int))))&&(decide (0≤x.Tier))) then Yj s.Columns x.G3 some else some default) fun y3=>
 bnd (bif ((((decide (0≤x.G3))&&(decide (x.G3 < (s.Columns.length:Int))))&&(decide (0≤x.Tier)))&&(decide (x.Tier < y3.Tiers))) then Ye size else some default) fun r4=>
 bnd (bif ((((decide (0≤x.G3))&&(decide (x.G3 < (s.Columns.length:Int))))&&(decide (0≤x.Tier)))&&(decide (x.Tier < y3.Tiers))) then Qh r4 x.Half else some default) fun r5=>
 some (((((decide (0≤x.G3))&&(decide (x.G3 < (s.Columns.length:Int))))&&(decide (0≤x.Tier)))&&(decide (x.Tier < y3.Tiers)))&&r5)
theorem H03 (s:Gw) (x:Slot) (size:Int) (r:Bool) (h:G00 s x size=some r):Pure Ek 38 [.agg (Gw.cs s),.agg [G0 x.G3,G0 x.Tier,U8 x.Half],U8 size] (·=BL r):=by
 unfold G00 at h
 refine H1 [.tmp 6] Tryz.func38 O O (Jr fun hK1=>(JLh (.ptr 1060 0) (Jn (cs:=(Gw.cs s)) 1060 O O O O O) O (JLh (.ptr 1061 0) (Jn (cs:=[G0 x.G3,G0 x.Tier,U8 x.Half]) 1061 O O O O O) O (Qk (BL false) O (G7 (hK1 ?_))))))
 refine Gt [(2,U8 size),(3,Ec s),(4,.ptr 1061 0)] [(1061,.box 45 [G0 x.G3,G0 x.Tier,U8 x.Half])] 1060 rfl rfl rfl ⟨⟨_,rfl,.boxEq rfl rfl⟩,G⟩ rfl (by exact⟨.conv (.same rfl),.ptr,.conv (.same rfl),G⟩) ?_
 refine Gt [(2,U8 size),(3,Ec s),(4,.dptr [G0 x.G3,G0 x.Tier,U8 x.Half])] [] 1061 rfl rfl rfl G rfl (by exact⟨.conv (.same rfl),.conv (.same rfl),.ptr,G⟩) (Js fun hK2=>?_)
 obtain⟨y3,hy3,h⟩:=Gf h
 obtain⟨r4,hr4,h⟩:=Gf h
 obtain⟨r5,hr5,h⟩:=Gf h
 refine JC_d0 Qb (by kernel_rfl) (Dq (.dptr [G0 x.G3,G0 x.Tier,U8 x.Half]) (Gc Jc O O O) O (Dq (G0 x.G3) (Gi Ge O O O) O (Dq (BL (decide (0≤x.G3))) (G95 O O O) O (Dq (BL (decide (0≤x.G3))) (G6 O O) O (Do (.dptr [G0 x.G3,G0 x.Tier,U8 x.Half]) [] O .sct G (fun hc=>Gc Jc O O O) O (Do (G0 x.G3) [11] O .sct ⟨Ua,G⟩ (fun hc=>Gi Ge O O O) O (Do (Ec s) [] O .sct G (fun hc=>Gc Hk O O O) O (Do (E7 s.Columns) [13] O .sct ⟨Ua,G⟩ (fun hc=>Gi J2 O O O) O (Do (Ej s.Columns.length) [14] O .sct ⟨Ua,G⟩ (fun hc=>Zp (f:=G3.av) (xs:=s.Columns) Hq O O) O (Do (BL (decide (x.G3 < (s.Columns.length:Int)))) [12,15] O .sct ⟨Ua,Ua,G⟩ (fun hc=>Jm O O O) O (Dq (BL ((decide (0≤x.G3))&&(decide (x.G3 < (s.Columns.length:Int))))) (Qi O O O O) O (Dq (BL ((decide (0≤x.G3))&&(decide (x.G3 < (s.Columns.length:Int))))) (G6 O O) O (Do (.dptr [G0 x.Tier,U8 x.Half]) [] O .sct G (fun hc=>Gc Rn O O O) O ?_)))))))))))))
 refine Do (G0 x.Tier) [19] O .sct ⟨Ua,G⟩ (fun hc=>Gi Ge O O O) O (Do (BL (decide (0≤x.Tier))) [20] O .sct ⟨Ua,G⟩ (fun hc=>G95 O O O) O (Dq (BL (((decide (0≤x.G3))&&(decide (x.G3 < (s.Columns.length:Int))))&&(decide (0≤x.Tier)))) (Qi O O O O) O (Dq (BL (((decide (0≤x.G3))&&(decide (x.G3 < (s.Columns.length:Int))))&&(decide (0≤x.Tier)))) (G6 O O) O (Do (.dptr [G0 x.Tier,U8 x.Half]) [] O .sct G (fun hc=>Gc Rn O O O) O (Do (G0 x.Tier) [24] O .sct ⟨Ua,G⟩ (fun hc=>Gi Ge O O O) O (Do (Ec s) [] O .sct G (fun hc=>Gc Hk O O O) O (Do (E7 s.Columns) [26] O .sct ⟨Ua,G⟩ (fun hc=>Gi J2 O O O) O (Do (.dptr [G0 x.G3,G0 x.Tier,U8 x.Half]) [] O .sct G (fun hc=>Gc Jc O O O) O (Do (G0 x.G3) [28] O .sct ⟨Ua,G⟩ (fun hc=>Gi Ge O O O) O (Do (Ee y3) [27,29] O .sct ⟨Ua,Ua,G⟩ (fun hc=>(match Rt (H6 hc hy3) with | ⟨_,hm_,hy_⟩=>Hc (f:=G3.av) (xs:=s.Columns) (y:=y3) O O O Hq hy_ hm_)) O (Do (.dptr ((G3.cs y3).drop 3)) [30] O .sct ⟨Ua,G⟩ (fun hc=>Gc G46 O O O) O (Do (G0 y3.Tiers) [31] O .sct ⟨Ua,G⟩ (fun hc=>Gi Ge O O O) O (Do (BL (decide (x.Tier < y3.Tiers))) [25,32] O .sct ⟨Ua,Ua,G⟩ (fun hc=>Jm O O O) O ?_)))))))))))))
 refine Dq (BL ((((decide (0≤x.G3))&&(decide (x.G3 < (s.Columns.length:Int))))&&(decide (0≤x.Tier)))&&(decide (x.Tier < y3.Tiers)))) (Qi O O O O) O (Dq (BL ((((decide (0≤x.G3))&&(decide (x.G3 < (s.Columns.length:Int))))&&(decide (0≤x.Tier)))&&(decide (x.Tier < y3.Tiers)))) (G6 O O) O (Do (U8 size) [] O .sct G (fun hc=>G6 O O) O (Do (E9 r4) [36] O .sct ⟨Ua,G⟩ (fun hc=>Gv (args:=[U8 size]) O (Ge3 size r4 (H6 hc hr4)) Hcf ⟨O,O,G⟩) O (Do (.dptr [U8 x.Half]) [] O .sct G (fun hc=>Gc R0 O O O) O (Do (U8 x.Half) [38] O .sct ⟨Ua,G⟩ (fun hc=>Gi J6 O O O) O (Do (BL r5) [37,39] O .sct ⟨Ua,Ua,G⟩ (fun hc=>Gv (args:=[E9 r4,U8 x.Half]) O (G9b r4 x.Half r5 (H6 hc hr5)) J67 ⟨O,O,O,O,G⟩) O (Dq (BL (((((decide (0≤x.G3))&&(decide (x.G3 < (s.Columns.length:Int))))&&(decide (0≤x.Tier)))&&(decide (x.Tier < y3.Tiers)))&&r5)) (Qi O O O O) O (Dq (BL (((((decide (0≤x.G3))&&(decide (x.G3 < (s.Columns.length:Int))))&&(decide (0≤x.Tier)))&&(decide (x.Tier < y3.Tiers)))&&r5)) (G8 O O) O (Dnil ?_)))))))))
 refine hK2 (Gu (fin1 BL h))

def Qs (s:List Slot) (v:Slot):Option Int:=
 each (fun y18 i18 (s18:Unit) nx18=>
  bif decide (v=y18) then
  (some (i18:Int))
  else
  (nx18 ()))
 (fun(s18:Unit)=>
  some (-1)) s 0 ()
theorem Gb0 (s:List Slot) (v:Slot) (r:Int) (h:Qs s v=some r):Pure Ek 100 [E8 s,.agg [G0 v.G3,G0 v.Tier,U8 v.Half]] (·=G0 r):=by
 unfold Qs at h
 refine H1 [.tmp 4] Tryz.func100 O O (Jr fun hK1=>(JLh (.ptr 1109 0) (Jn (cs:=[G0 v.G3,G0 v.Tier,U8 v.Half]) 1109 O O O O O) O (Qk (G0 0) O (G7 (hK1 (Gt [(0,E8 s),(3,.dptr [G0 v.G3,G0 v.Tier,U8 v.Half])] [] 1109 rfl rfl rfl G rfl (by exact⟨.conv (.same rfl),.ptr,G⟩) (Js fun hK2=>Jr fun hK3=>(Qk (E8 s) O (JLl R7 O O O fun hm7=>(Qk (G0 0) O (G7 (hK3 (Gx ?_)))))))))))))
 obtain⟨b18,kx18,hb18,hkx18,h⟩:=Jh h
 refine Hz (fun i18 (s18:Unit)=>each b18 kx18 (List.drop i18 s) i18 s18=some r) (fun i18 s18=>[(0,E8 s),(3,.dptr [G0 v.G3,G0 v.Tier,U8 v.Half]),(7,Ej s.length),(8,Ej i18)]) (fun i18 s18=>[]) (fun i18=>s.length - i18) 0 () h ⟨(by repeat' constructor),G,rfl⟩ ?_
 clear h
 intro i18 s18 hi18 K18 e18
 refine Jr fun hK19=>(JLh (BL (decide ((i18:Int) < (s.length:Int)))) (Jm O O O) O (G7 (hK19 (Js fun hK20=>Gm O (fun hb=>?_) (fun hb=>?_)))))
 ·
  have hk18:=Q4 hb
  obtain⟨y18,nx18,hy18,hn18,h⟩:=J3 hi18 hk18
  replace h:=Zv hb18 h
  refine Gs (hK20 (Js fun hK21=>Gx (Jr fun hK22=>(Qk (Ej i18) O (Qk (Ej i18) O (G7 (hK22 (Js fun hK23=>JC_d0 Qb (by kernel_rfl) (Dq (.agg [G0 v.G3,G0 v.Tier,U8 v.Half]) (Gj Jw O O O) O (Dq (E8 s) (G6 O O) O (Dq (Ej i18) (G6 O O) O (Dq (Ei y18) (Hc (f:=Slot.av) (xs:=s) (y:=y18) O O O R7 hy18 O) O (Dq (.agg (Slot.cs y18)) (Gj Jw O O O) O (Dq (BL (decide (v=y18))) (A_eqAgg (vs:=[.int .i64 v.G3,.int .i64 v.Tier,.int .u8 v.Half]) (us:=[.int .i64 y18.G3,.int .i64 y18.Tier,.int .u8 y18.Half]) 4 O (tq_45 v y18) J3f tf_eqg_45 O O O) O (Dnil (hK23 (JCc O h (fun h hb=>?_) (fun h hb=>?_))))))))))))))))))
  ·
   refine Jr fun hK24=>(Qk (Ej i18) O (Qk (Ej i18) O (G7 (hK24 (Gu (fin1 G0 h))))))
  ·
   refine Gs (hK21 (G4 (JLh (G0 ((i18+1:Nat):Int)) (Hu (Hs hk18 hm7) O O O) O (Qk (G0 ((i18+1:Nat):Int)) O (G7 (e18 _ _ (i18+1) () (app1 hn18 h) (by omega) ⟨(by repeat' constructor),G,rfl⟩))))))
 ·
  have h:=app1 hkx18 (J4 hi18 (Hh hb))
  refine J9 (hK2 (Jr fun hK25=>(Qk (G0 (-1)) O (G7 (hK25 (Gu (fin1 G0 h)))))))

def Q3 (s:List Slot) (v:Slot):Option Bool:=
 bnd (Qs s v) fun r3=>
 some (decide (0≤r3))
theorem G74 (s:List Slot) (v:Slot) (r:Bool) (h:Q3 s v=some r):Pure Ek 74 [E8 s,.agg [G0 v.G3,G0 v.Tier,U8 v.Half]] (·=BL r):=by
 unfold Q3 at h
 refine H1 [.tmp 4] Tryz.func74 O O (Jr fun hK1=>(JLh (.ptr 1093 0) (Jn (cs:=[G0 v.G3,G0 v.Tier,U8 v.Half]) 1093 O O O O O) O (Qk (BL false) O (G7 (hK1 (Gt [(0,E8 s),(3,.dptr [G0 v.G3,G0 v.Tier,U8 v.Half])] [] 1093 rfl rfl rfl G rfl (by exact⟨.conv (.same rfl),.ptr,G⟩) (Jr fun hK2=>(Qk (E8 s) O (JLh (.agg [G0 v.G3,G0 v.Tier,U8 v.Half]) (Gj Jw O O O) O ?_)))))))))
 obtain⟨r3,hr3,h⟩:=Gf h
 refine JLh (G0 r3) (Gv O (Gb0 s v r3 hr3) J3e ⟨O,O,O,O,G⟩) O (JLh (BL (decide (0≤r3))) (G95 O O O) O (Qk (BL (decide (0≤r3))) O (G7 (hK2 (Gu (fin1 BL h))))))

def Yf (half:Int) (p1:List Slot) (p2:Slot):Option Bool:=
 Zf (p2.Tier - 1) fun v3=>
 bnd (Q3 p1 (Slot.mk p2.G3 v3 half)) fun r4=>
 some r4
theorem G64 (half:Int) (p1:List Slot) (p2:Slot) (r:Bool) (h:Yf half p1 p2=some r):Pure Ek 73 [U8 half,.dptr [E8 p1],.dptr [G0 p2.G3,G0 p2.Tier,U8 p2.Half]] (·=BL r):=by
 unfold Yf at h
 refine H1 [.tmp 4] Tryz.func73 O O (Jr fun hK1=>(Qk (BL false) O (G7 (hK1 (Jr fun hK2=>(JLh (E8 p1) (Gi Gc8 O O O) O (JLh (.dptr [G0 p2.G3,G0 p2.Tier,U8 p2.Half]) (Gc Jc O O O) O (JLh (G0 p2.G3) (Gi Ge O O O) O (JLh (.dptr [G0 p2.Tier,U8 p2.Half]) (Gc Rn O O O) O (JLh (G0 p2.Tier) (Gi Ge O O O) O ?_))))))))))
 obtain⟨v3,hv3,h⟩:=Je h
 refine JLh (G0 v3) (H28 hv3 O O O) O (Qk (U8 half) O (JLh (.agg [G0 p2.G3,G0 v3,U8 half]) (Ho (cs:=[G0 p2.G3,G0 v3,U8 half]) [(0,1),(1,1),(2,1)] [G0 0,G0 0,U8 0] [.int .i64 0,.int .i64 0,.int .u8 0] Gca H2b ⟨.inl O,.inl O,.inl O,G⟩ O O) O ?_))
 obtain⟨r4,hr4,h⟩:=Gf h
 refine JLh (BL r4) (Gv O (G74 p1 (Slot.mk p2.G3 v3 half) r4 hr4) J62 ⟨O,O,O,O,G⟩) O (Qk (BL r4) O (G7 (hK2 (Gu (fin1 BL h)))))

def G28 (x:Slot) (l:List Slot):Option Bool:=
 bif decide (x.Tier≤0) then
 (some true)
 else
 (bnd (Yf x.Half l x) fun r7=>
  bnd (bif ((!r7)&&(decide (x.Half=0))) then Yf 1 l x else some default) fun r8=>
  bnd (bif ((!r7)&&((decide (x.Half=0))&&r8)) then Yf 2 l x else some default) fun r9=>
  some (r7||(((decide (x.Half=0))&&r8)&&r9)))
theorem H26 (x:Slot) (l:List Slot) (r:Bool) (h:G28 x l=some r):Pure Ek 46 [.agg [G0 x.G3,G0 x.Tier,U8 x.Half],E8 l] (·=BL r):=by
 unfold G28 at h
 refine H1 [.tmp 4] Tryz.func46 O O (Jr fun hK1=>(JLh (.ptr 1074 0) (Jn (cs:=[G0 x.G3,G0 x.Tier,U8 x.Half]) 1074 O O O O O) O (JLh (.ptr 1075 0) (Jn (cs:=[E8 l]) 1075 O O O O O) O (Qk (BL false) O (G7 (hK1 (Gt [(2,.dptr [G0 x.G3,G0 x.Tier,U8 x.Half]),(3,.ptr 1075 0)] [(1075,.box 76 [E8 l])] 1074 rfl rfl rfl ⟨⟨_,rfl,.boxEq rfl rfl⟩,G⟩ rfl (by exact⟨.ptr,.conv (.same rfl),G⟩) (Gt [(2,.dptr [G0 x.G3,G0 x.Tier,U8 x.Half]),(3,.dptr [E8 l])] [] 1075 rfl rfl rfl G rfl (by exact⟨.conv (.same rfl),.ptr,G⟩) (Js fun hK2=>Jr fun hK3=>(JLh (.dptr [G0 x.Tier,U8 x.Half]) (Gc Rn O O O) O (JLh (G0 x.Tier) (Gi Ge O O O) O (JLh (BL (decide (x.Tier≤0))) (Ha6 O O O) O (G7 (hK3 ?_))))))))))))))
 refine JCc O h (fun h hb=>?_) (fun h hb=>?_)
 ·
  refine Jr fun hK4=>(Qk (BL true) O (G7 (hK4 (Gu (fin1 BL h)))))
 ·
  refine Gs (hK2 (Jr fun hK5=>(JLh (.fn 73 [.dptr [E8 l],.dptr [G0 x.G3,G0 x.Tier,U8 x.Half]]) (Yh (cs:=[.dptr [E8 l],.dptr [G0 x.G3,G0 x.Tier,U8 x.Half]]) O O) O (Qk (.fn 73 [.dptr [E8 l],.dptr [G0 x.G3,G0 x.Tier,U8 x.Half]]) O (G7 (hK5 (Jr fun hK6=>(Qk (.fn 73 [.dptr [E8 l],.dptr [G0 x.G3,G0 x.Tier,U8 x.Half]]) O (JLh (.dptr [U8 x.Half]) (Gc R0 O O O) O (JLh (U8 x.Half) (Gi J6 O O O) O ?_))))))))))
  obtain⟨r7,hr7,h⟩:=Gf h
  refine JLh (BL r7) (G15 (args:=[U8 x.Half]) (caps:=[.dptr [E8 l],.dptr [G0 x.G3,G0 x.Tier,U8 x.Half]]) O O (G64 x.Half l x r7 hr7) H2d ⟨O,O,G⟩ O) O (Qk (BL r7) O (JLo (.dptr [U8 x.Half]) [] O .scf G (fun hc=>Gc R0 O O O) O (JLo (U8 x.Half) [15] O .scf ⟨Ua,G⟩ (fun hc=>Gi J6 O O O) O (JLo (BL (decide (x.Half=0))) [16] O .scf ⟨Ua,G⟩ (fun hc=>Jz O O O) O (JLo (BL (decide (x.Half=0))) [17] O .scf ⟨Ua,G⟩ (fun hc=>G6 O O) O (JLo (.fn 73 [.dptr [E8 l],.dptr [G0 x.G3,G0 x.Tier,U8 x.Half]]) [] O .optt G (fun hc=>G6 O O) O ?_))))))
  obtain⟨r8,hr8,h⟩:=Gf h
  refine JLo (BL r8) [19] O .optt ⟨Ua,G⟩ (fun hc=>G15 (args:=[U8 1]) (caps:=[.dptr [E8 l],.dptr [G0 x.G3,G0 x.Tier,U8 x.Half]]) O O (G64 1 l x r8 (H6 hc hr8)) H2d ⟨O,O,G⟩ O) O (Gd (u:=BL ((decide (x.Half=0))&&r8)) [(18,BL (decide (x.Half=0))),(20,_)] O O O .scf ⟨.all id,.part,G⟩ (fun hc=>Qi O O O O) ?_)
  refine JLo (BL ((decide (x.Half=0))&&r8)) [21] O .scf ⟨Ua,G⟩ (fun hc=>G6 O O) O (JLo (.fn 73 [.dptr [E8 l],.dptr [G0 x.G3,G0 x.Tier,U8 x.Half]]) [] O .optt G (fun hc=>G6 O O) O ?_)
  obtain⟨r9,hr9,h⟩:=Gf h
  refine JLo (BL r9) [23] O .optt ⟨Ua,G⟩ (fun hc=>G15 (args:=[U8 2]) (caps:=[.dptr [E8 l],.dptr [G0 x.G3,G0 x.Tier,U8 x.Half]]) O O (G64 2 l x r9 (H6 hc hr9)) H2d ⟨O,O,G⟩ O) O (Gd (u:=BL (((decide (x.Half=0))&&r8)&&r9)) [(22,BL ((decide (x.Half=0))&&r8)),(24,_)] O O O .scf ⟨.all id,.part,G⟩ (fun hc=>Qi O O O O) ?_)
  refine JLh (BL (r7||(((decide (x.Half=0))&&r8)&&r9))) (G5c O O O O) O (Qk (BL (r7||(((decide (x.Half=0))&&r8)&&r9))) O (G7 (hK6 (Gu (fin1 BL h)))))

def Z5 (a:Int) (b:Int):Option Bool:=
 some (((decide (a=b))||(decide (a=0)))||(decide (b=0)))
theorem Ge2 (a:Int) (b:Int) (r:Bool) (h:Z5 a b=some r):Pure Ek 58 [U8 a,U8 b] (·=BL r):=by
 unfold Z5 at h
 refine H1 [.tmp 4] Tryz.func58 O O (Jr fun hK1=>(Qk (BL false) O (G7 (hK1 (Jr fun hK2=>(Qk (U8 a) O (Qk (U8 b) O (JLh (BL (decide (a=b))) (Jz O O O) O (Qk (BL (decide (a=b))) O (JLo (U8 a) [] O .scf G (fun hc=>G6 O O) O (JLo (BL (decide (a=0))) [9] O .scf ⟨Ua,G⟩ (fun hc=>Jz O O O) O (JLh (BL ((decide (a=b))||(decide (a=0)))) (G5c O O O O) O (Qk (BL ((decide (a=b))||(decide (a=0)))) O (JLo (U8 b) [] O .scf G (fun hc=>G6 O O) O (JLo (BL (decide (b=0))) [13] O .scf ⟨Ua,G⟩ (fun hc=>Jz O O O) O (JLh (BL (((decide (a=b))||(decide (a=0)))||(decide (b=0)))) (G5c O O O O) O (Qk (BL (((decide (a=b))||(decide (a=0)))||(decide (b=0)))) O (G7 (hK2 (Gu (fin1 BL h)))))))))))))))))))))

def G27 (a:Slot) (b:Slot):Option Bool:=
 bnd (bif ((decide (a.G3=b.G3))&&(decide (a.Tier=b.Tier))) then Z5 a.Half b.Half else some default) fun r3=>
 some (((decide (a.G3=b.G3))&&(decide (a.Tier=b.Tier)))&&r3)
theorem H25 (a:Slot) (b:Slot) (r:Bool) (h:G27 a b=some r):Pure Ek 47 [.agg [G0 a.G3,G0 a.Tier,U8 a.Half],.agg [G0 b.G3,G0 b.Tier,U8 b.Half]] (·=BL r):=by
 unfold G27 at h
 refine H1 [.tmp 4] Tryz.func47 O O (Jr fun hK1=>(JLh (.ptr 1076 0) (Jn (cs:=[G0 a.G3,G0 a.Tier,U8 a.Half]) 1076 O O O O O) O (JLh (.ptr 1077 0) (Jn (cs:=[G0 b.G3,G0 b.Tier,U8 b.Half]) 1077 O O O O O) O (Qk (BL false) O (G7 (hK1 (Gt [(2,.dptr [G0 a.G3,G0 a.Tier,U8 a.Half]),(3,.ptr 1077 0)] [(1077,.box 45 [G0 b.G3,G0 b.Tier,U8 b.Half])] 1076 rfl rfl rfl ⟨⟨_,rfl,.boxEq rfl rfl⟩,G⟩ rfl (by exact⟨.ptr,.conv (.same rfl),G⟩) (Gt [(2,.dptr [G0 a.G3,G0 a.Tier,U8 a.Half]),(3,.dptr [G0 b.G3,G0 b.Tier,U8 b.Half])] [] 1077 rfl rfl rfl G rfl (by exact⟨.conv (.same rfl),.ptr,G⟩) ?_))))))))
 refine Jr fun hK2=>(JLh (.dptr [G0 a.G3,G0 a.Tier,U8 a.Half]) (Gc Jc O O O) O (JLh (G0 a.G3) (Gi Ge O O O) O (JLh (.dptr [G0 b.G3,G0 b.Tier,U8 b.Half]) (Gc Jc O O O) O (JLh (G0 b.G3) (Gi Ge O O O) O (JLh (BL (decide (a.G3=b.G3))) (Jz O O O) O (Qk (BL (decide (a.G3=b.G3))) O (JLo (.dptr [G0 a.Tier,U8 a.Half]) [] O .sct G (fun hc=>Gc Rn O O O) O (JLo (G0 a.Tier) [11] O .sct ⟨Ua,G⟩ (fun hc=>Gi Ge O O O) O (JLo (.dptr [G0 b.Tier,U8 b.Half]) [] O .sct G (fun hc=>Gc Rn O O O) O (JLo (G0 b.Tier) [13] O .sct ⟨Ua,G⟩ (fun hc=>Gi Ge O O O) O (JLo (BL (decide (a.Tier=b.Tier))) [12,14] O .sct ⟨Ua,Ua,G⟩ (fun hc=>Jz O O O) O (JLh (BL ((decide (a.G3=b.G3))&&(decide (a.Tier=b.Tier)))) (Qi O O O O) O (Qk (BL ((decide (a.G3=b.G3))&&(decide (a.Tier=b.Tier)))) O ?_)))))))))))))
 refine JLo (.dptr [U8 a.Half]) [] O .sct G (fun hc=>Gc R0 O O O) O (JLo (U8 a.Half) [18] O .sct ⟨Ua,G⟩ (fun hc=>Gi J6 O O O) O (JLo (.dptr [U8 b.Half]) [] O .sct G (fun hc=>Gc R0 O O O) O (JLo (U8 b.Half) [20] O .sct ⟨Ua,G⟩ (fun hc=>Gi J6 O O O) O ?_)))
 obtain⟨r3,hr3,h⟩:=Gf h
 refine JLo (BL r3) [19,21] O .sct ⟨Ua,Ua,G⟩ (fun hc=>Gv (args:=[U8 a.Half,U8 b.Half]) O (Ge2 a.Half b.Half r3 (H6 hc hr3)) Hd1 ⟨O,O,O,O,G⟩) O (JLh (BL (((decide (a.G3=b.G3))&&(decide (a.Tier=b.Tier)))&&r3)) (Qi O O O O) O (Qk (BL (((decide (a.G3=b.G3))&&(decide (a.Tier=b.Tier)))&&r3)) O (G7 (hK2 (Gu (fin1 BL h))))))

def G54 (b:Gb):Option Int:=
 bif b.High then
 (some 2896)
 else
 (some 2591)
theorem M_stow_tall_w (b:Gb) (r:Int) (h:G54 b=some r):Pure Ek 101 [.agg (Gb.cs b)] (·=G0 r):=by
 unfold G54 at h
 refine H1 [.tmp 2] Tryz.func101 O O (Jr fun hK1=>(JLh (.ptr 1110 0) (Jn (cs:=(Gb.cs b)) 1110 O O O O O) O (Qk (G0 0) O (G7 (hK1 (Gt [(1,Eh b)] [] 1110 rfl rfl rfl G rfl (by exact⟨.ptr,G⟩) (Js fun hK2=>Jr fun hK3=>(JLh (.dptr [BL b.High,G0 b.Kilos,G0 b.Load,G0 b.Discharge,U8 b.Class,BL b.Reefer]) (Gc H1d O O O) O (JLh (BL b.High) (Gi Q7 O O O) O (G7 (hK3 (JCc O h (fun h hb=>?_) (fun h hb=>?_)))))))))))))
 ·
  refine Jr fun hK4=>(Qk (G0 2896) O (G7 (hK4 (Gu (fin1 G0 h)))))
 ·
  refine Gs (hK2 (Jr fun hK5=>(Qk (G0 2591) O (G7 (hK5 (Gu (fin1 G0 h)))))))

def Z4 (boxes:List Gb) (l:List Stowed) (column:Int) (half:Int):Option Int:=
 each (fun y27 i27 (s27:Int) nx27=>
  jp (fun kj30=>
   bif ((decide (y27.Slot.G3=column))&&((decide (y27.Slot.Half=half))||(decide (y27.Slot.Half=0)))) then
   (bnd (Zh boxes y27.Gb) fun r34=>
    bif r34.2 then
    (bnd (G54 r34.1) fun r36=>
     Zf (s27+r36) fun v37=>
     kj30 v37)
    else
    (kj30 s27))
   else
   (kj30 s27)) fun(j30:Int)=>
  nx27 j30)
 (fun(s27:Int)=>
  some s27) l 0 0
theorem Ge1 (boxes:List Gb) (l:List Stowed) (column:Int) (half:Int) (r:Int) (h:Z4 boxes l column half=some r):Pure Ek 75 [E2 boxes,E1 l,G0 column,U8 half] (·=G0 r):=by
 unfold Z4 at h
 refine H1 [.tmp 8] Tryz.func75 O O (Jr fun hK1=>(Qk (G0 0) O (G7 (hK1 (Jr fun hK2=>(Qk (G0 0) O (G7 (hK2 (Js fun hK3=>Jr fun hK4=>(Qk (E1 l) O (JLl H9 O O O fun hm15=>(Qk (G0 0) O (G7 (hK4 (Gx ?_)))))))))))))))
 obtain⟨b27,kx27,hb27,hkx27,h⟩:=Jh h
 refine Hz (fun i27 (s27:Int)=>each b27 kx27 (List.drop i27 l) i27 s27=some r) (fun i27 s27=>[(0,E2 boxes),(2,G0 column),(3,U8 half),(9,G0 s27),(14,E1 l),(15,Ej l.length),(16,Ej i27)]) (fun i27 s27=>[]) (fun i27=>l.length - i27) 0 0 h ⟨(by repeat' constructor),G,rfl⟩ ?_
 clear h
 intro i27 s27 hi27 K27 e27
 refine Jr fun hK28=>(JLh (BL (decide ((i27:Int) < (l.length:Int)))) (Jm O O O) O (G7 (hK28 (Js fun hK29=>Gm O (fun hb=>?_) (fun hb=>?_)))))
 ·
  have hk27:=Q4 hb
  obtain⟨y27,nx27,hy27,hn27,h⟩:=J3 hi27 hk27
  replace h:=Zv hb27 h
  refine Gs (hK29 ?_)
  obtain⟨kj30,hkj30,h⟩:=Z8 h
  refine Ry (fun j30:Int=>kj30 j30=some r) (fun j30=>[(0,E2 boxes),(2,G0 column),(3,U8 half),(9,G0 j30),(14,E1 l),(15,Ej l.length),(16,Ej i27)]) (fun j30=>[]) (fun Kj30 ej30=>?_) ?_
  ·
   refine Gx (Jr fun hK31=>(JLh (Ed y27) (Hc (f:=Stowed.av) (xs:=l) (y:=y27) O O O H9 hy27 O) O (JLh (.agg (Stowed.cs y27)) (Gj Ym O O O) O (JLh (.ptr 1094 0) (Jd 1094 4 R5 O O) O (J5 (u:=.junk) (Hp (u:=.agg (Stowed.cs y27)) (ds:=[G0 y27.Gb,G0 y27.Slot.G3,G0 y27.Slot.Tier,U8 y27.Slot.Half]) Zd O O O O O O O O) (G7 (hK31 (Gt [(0,E2 boxes),(2,G0 column),(3,U8 half),(9,G0 s27),(11,Ed y27),(14,E1 l),(15,Ej l.length),(16,Ej i27)] [] 1094 rfl rfl rfl G rfl (by repeat' (first | exact .ptr | constructor)) ?_))))))))
   refine Jr fun hK32=>(JLh (.dptr ((Stowed.cs y27).drop 1)) (Gc Hx O O O) O (JLh (.dptr ((Stowed.cs y27).drop 1)) (Gc Jc O O O) O (JLh (G0 y27.Slot.G3) (Gi Ge O O O) O (Qk (G0 column) O (JLh (BL (decide (y27.Slot.G3=column))) (Jz O O O) O (Qk (BL (decide (y27.Slot.G3=column))) O (JLo (.dptr ((Stowed.cs y27).drop 1)) [] O .sct G (fun hc=>Gc Hx O O O) O (JLo (.dptr [U8 y27.Slot.Half]) [26] O .sct ⟨Ua,G⟩ (fun hc=>Gc R0 O O O) O (JLo (U8 y27.Slot.Half) [27] O .sct ⟨Ua,G⟩ (fun hc=>Gi J6 O O O) O (JLo (U8 half) [] O .sct G (fun hc=>G6 O O) O (JLo (BL (decide (y27.Slot.Half=half))) [28,29] O .sct ⟨Ua,Ua,G⟩ (fun hc=>Jz O O O) O (JLo (BL (decide (y27.Slot.Half=half))) [30] O .sct ⟨Ua,G⟩ (fun hc=>G6 O O) O (JLo (.dptr ((Stowed.cs y27).drop 1)) [] O .optf G (fun hc=>Gc Hx O O O) O ?_)))))))))))))
   refine JLo (.dptr [U8 y27.Slot.Half]) [32] O .optf ⟨Ua,G⟩ (fun hc=>Gc R0 O O O) O (JLo (U8 y27.Slot.Half) [33] O .optf ⟨Ua,G⟩ (fun hc=>Gi J6 O O O) O (JLo (BL (decide (y27.Slot.Half=0))) [34] O .optf ⟨Ua,G⟩ (fun hc=>Jz O O O) O (Gd (u:=BL ((decide (y27.Slot.Half=half))||(decide (y27.Slot.Half=0)))) [(31,BL (decide (y27.Slot.Half=half))),(35,_)] O O O .sct ⟨.all id,.part,G⟩ (fun hc=>G5c O O O O) ?_)))
   refine JLh (BL ((decide (y27.Slot.G3=column))&&((decide (y27.Slot.Half=half))||(decide (y27.Slot.Half=0))))) (Qi O O O O) O (G7 (hK32 (JCc O h (fun h hb=>?_) (fun h hb=>?_))))
   ·
    refine Jr fun hK33=>(Qk (E2 boxes) O (JLh (Ed y27) (Gc Hr O O O) O (JLh (G0 y27.Gb) (Gi Ge O O O) O ?_)))
    obtain⟨r34,hr34,h⟩:=Gf h
    refine JLh (.tup [.agg (Gb.cs r34.1),BL r34.2]) (Gv O (Gaf boxes y27.Gb r34 hr34) H2e ⟨O,O,O,O,G⟩) O (Qk (.tup [.agg (Gb.cs r34.1),BL r34.2]) O (JLh (.agg (Gb.cs r34.1)) (H8 O O O) O (JLh (BL r34.2) (H8 O O O) O (JLh (.ptr 1095 0) (Jd 1095 9 G20 O O) O (J5 (u:=.junk) (Hp (u:=.agg (Gb.cs r34.1)) (ds:=(Gb.cs r34.1)) G39 O O O O O O O O) (Qk (BL r34.2) O (G7 (hK33 ?_))))))))
    refine Gt [(0,E2 boxes),(2,G0 column),(3,U8 half),(9,G0 s27),(12,Eh r34.1),(13,BL r34.2),(14,E1 l),(15,Ej l.length),(16,Ej i27)] [] 1095 rfl rfl rfl G rfl (by repeat' (first | exact .ptr | constructor)) (Jr fun hK35=>(Qk (BL r34.2) O (G7 (hK35 (JCc O h (fun h hb=>?_) (fun h hb=>?_))))))
    ·
     refine G4 (Qk (G0 s27) O (JLh (.agg (Gb.cs r34.1)) (Gj G79 O O O) O ?_))
     obtain⟨r36,hr36,h⟩:=Gf h
     refine JLh (G0 r36) (Gv O (M_stow_tall_w r34.1 r36 hr36) J3d ⟨O,O,G⟩) O ?_
     obtain⟨v37,hv37,h⟩:=Je h
     refine JLh (G0 v37) (Hu hv37 O O O) O (Qk (G0 v37) O (G7 (ej30 _ _ v37 h ⟨(by repeat' constructor),G,rfl⟩)))
    ·
     refine Gs (ej30 _ _ s27 h ⟨(by repeat' constructor),G,rfl⟩)
   ·
    refine Gs (ej30 _ _ s27 h ⟨(by repeat' constructor),G,rfl⟩)
  ·intro j30 h
   replace h:=app1 hkj30 h
   refine G4 (JLh (G0 ((i27+1:Nat):Int)) (Hu (Hs hk27 hm15) O O O) O (Qk (G0 ((i27+1:Nat):Int)) O (G7 (e27 _ _ (i27+1) j30 (app1 hn27 h) (by omega) ⟨(by repeat' constructor),G,rfl⟩))))
 ·
  have h:=app1 hkx27 (J4 hi27 (Hh hb))
  refine J9 (hK3 (Jr fun hK38=>(Qk (G0 s27) O (Qk (G0 s27) O (G7 (hK38 (Gu (fin1 G0 h))))))))

def G26 (s:Gw) (boxes:List Gb) (l:List Stowed) (column:Int):Option Bool:=
 Yj s.Columns column fun y3=>
 bnd (bif (!(decide (y3.Height≤0))) then Z4 boxes l column 1 else some default) fun r6=>
 bnd (bif ((!(decide (y3.Height≤0)))&&(decide (r6≤y3.Height))) then Z4 boxes l column 2 else some default) fun r7=>
 some ((decide (y3.Height≤0))||((decide (r6≤y3.Height))&&(decide (r7≤y3.Height))))
theorem H24 (s:Gw) (boxes:List Gb) (l:List Stowed) (column:Int) (r:Bool) (h:G26 s boxes l column=some r):Pure Ek 48 [.agg (Gw.cs s),E2 boxes,E1 l,G0 column] (·=BL r):=by
 unfold G26 at h
 refine H1 [.tmp 8] Tryz.func48 O O (Jr fun hK1=>(JLh (.ptr 1078 0) (Jn (cs:=(Gw.cs s)) 1078 O O O O O) O (Qk (BL false) O (G7 (hK1 (Gt [(1,E2 boxes),(2,E1 l),(3,G0 column),(4,Ec s)] [] 1078 rfl rfl rfl G rfl (by repeat' (first | exact .ptr | constructor)) ?_))))))
 refine Jr fun hK2=>(JLh (Ec s) (Gc Hk O O O) O (JLh (E7 s.Columns) (Gi J2 O O O) O (Qk (G0 column) O ?_)))
 obtain⟨m4,y3,hm4,hy3,h⟩:=Y6 h
 refine JLh (Ee y3) (Hc (f:=G3.av) (xs:=s.Columns) (y:=y3) O O O Hq hy3 hm4) O (JLh (.dptr ((G3.cs y3).drop 4)) (Gc Gaa O O O) O (JLh (G0 y3.Height) (Gi Ge O O O) O (Qk (G0 y3.Height) O (G7 (hK2 (Jr fun hK5=>(Qk (G0 y3.Height) O (JLh (BL (decide (y3.Height≤0))) (Ha6 O O O) O (Qk (BL (decide (y3.Height≤0))) O (JLo (E2 boxes) [] O .scf G (fun hc=>G6 O O) O (JLo (E1 l) [] O .scf G (fun hc=>G6 O O) O (JLo (G0 column) [] O .scf G (fun hc=>G6 O O) O ?_))))))))))))
 obtain⟨r6,hr6,h⟩:=Gf h
 refine JLo (G0 r6) [19,20,21] O .scf ⟨Ua,Ua,Ua,G⟩ (fun hc=>Gv (args:=[E2 boxes,E1 l,G0 column,U8 1]) O (Ge1 boxes l column 1 r6 (H6 hc hr6)) Hce ⟨O,O,O,O,O,O,O,O,G⟩) O (JLo (G0 y3.Height) [] O .scf G (fun hc=>G6 O O) O (JLo (BL (decide (r6≤y3.Height))) [22,23] O .scf ⟨Ua,Ua,G⟩ (fun hc=>Ha6 O O O) O (JLo (BL (decide (r6≤y3.Height))) [24] O .scf ⟨Ua,G⟩ (fun hc=>G6 O O) O (JLo (E2 boxes) [] O .optt G (fun hc=>G6 O O) O (JLo (E1 l) [] O .optt G (fun hc=>G6 O O) O (JLo (G0 column) [] O .optt G (fun hc=>G6 O O) O ?_))))))
 obtain⟨r7,hr7,h⟩:=Gf h
 refine JLo (G0 r7) [26,27,28] O .optt ⟨Ua,Ua,Ua,G⟩ (fun hc=>Gv (args:=[E2 boxes,E1 l,G0 column,U8 2]) O (Ge1 boxes l column 2 r7 (H6 hc hr7)) Hce ⟨O,O,O,O,O,O,O,O,G⟩) O (JLo (G0 y3.Height) [] O .optt G (fun hc=>G6 O O) O (JLo (BL (decide (r7≤y3.Height))) [29,30] O .optt ⟨Ua,Ua,G⟩ (fun hc=>Ha6 O O O) O (Gd (u:=BL ((decide (r6≤y3.Height))&&(decide (r7≤y3.Height)))) [(25,BL (decide (r6≤y3.Height))),(31,_)] O O O .scf ⟨.all id,.part,G⟩ (fun hc=>Qi O O O O) ?_)))
 refine JLh (BL ((decide (y3.Height≤0))||((decide (r6≤y3.Height))&&(decide (r7≤y3.Height))))) (G5c O O O O) O (Qk (BL ((decide (y3.Height≤0))||((decide (r6≤y3.Height))&&(decide (r7≤y3.Height))))) O (G7 (hK5 (Gu (fin1 BL h)))))

def Rk (s:Gw) (boxes:List Gb) (l:List Stowed):Option Bool:=
 bnd (Zw s) fun r4=>
 bif (!r4) then
 (some false)
 else
 (bnd (Zx l) fun r7=>
  each (fun y10 i10 (s10:Unit) nx10=>
   bnd (Zh boxes y10.Gb) fun r16=>
   bnd (bif ((!(!r16.2))&&(decide (0 < (i10:Int)))) then Zf ((i10:Int) - 1) some else some 0) fun v19=>
   bnd (bif ((!(!r16.2))&&(decide (0 < (i10:Int)))) then Yj l v19 some else some default) fun y20=>
   bnd (bif (!((!r16.2)||((decide (0 < (i10:Int)))&&(decide (y10.Gb≤y20.Gb))))) then G00 s y10.Slot r16.1.Size else some default) fun r21=>
   bnd (bif (!(((!r16.2)||((decide (0 < (i10:Int)))&&(decide (y10.Gb≤y20.Gb))))||(!r21))) then G28 y10.Slot r7 else some default) fun r22=>
   bif ((((!r16.2)||((decide (0 < (i10:Int)))&&(decide (y10.Gb≤y20.Gb))))||(!r21))||(!r22)) then
   (some false)
   else
   (bnd (Gf0 (i10:Int) r7.length) fun m25=>
    each (fun y42 i42 (s42:Unit) nx42=>
     bnd (G27 y10.Slot y42) fun r48=>
     bif r48 then
     (some false)
     else
     (nx42 ()))
    (fun(s42:Unit)=>
     nx10 ()) (r7.take m25) 0 ()))
  (fun(s10:Unit)=>
   each (fun y64 i64 (s64:Unit) nx64=>
    bnd (G26 s boxes l (i64:Int)) fun r70=>
    bif (!r70) then
    (some false)
    else
    (nx64 ()))
   (fun(s64:Unit)=>
    some true) s.Columns 0 ()) l 0 ())
theorem G90 (s:Gw) (boxes:List Gb) (l:List Stowed) (r:Bool) (h:Rk s boxes l=some r):Pure Ek 17 [.agg (Gw.cs s),E2 boxes,E1 l] (·=BL r):=by
 unfold Rk at h
 refine H1 [.tmp 6] Tryz.func17 O O (Jr fun hK1=>(JLh (.ptr 1032 0) (Jn (cs:=(Gw.cs s)) 1032 O O O O O) O (Qk (BL false) O (G7 (hK1 (Gt [(1,E2 boxes),(2,E1 l),(3,Ec s)] [] 1032 rfl rfl rfl G rfl (by exact⟨.conv (.same rfl),.conv (.same rfl),.ptr,G⟩) (Js fun hK2=>?_)))))))
 refine Jr fun hK3=>(JLh (.agg (Gw.cs s)) (Gj Hd O O O) O ?_)
 obtain⟨r4,hr4,h⟩:=Gf h
 refine JLh (BL r4) (Gv O (J03.down s r4 hr4) J70 ⟨O,O,G⟩) O (JLh (BL (!r4)) (Zn (b:=r4) O O) O (G7 (hK3 (JCc O h (fun h hb=>?_) (fun h hb=>?_)))))
 ·
  refine Jr fun hK5=>(Qk (BL false) O (G7 (hK5 (Gu (fin1 BL h)))))
 ·
  refine Gs (hK2 (Jr fun hK6=>(Qk (E1 l) O ?_)))
  obtain⟨r7,hr7,h⟩:=Gf h
  refine JLh (E8 r7) (Gv O (Gff l r7 hr7) Hd7 ⟨O,O,G⟩) O (Qk (E8 r7) O (G7 (hK6 (Js fun hK8=>Jr fun hK9=>(Qk (E1 l) O (JLl H9 O O O fun hm21=>(Qk (G0 0) O (G7 (hK9 (Gx ?_))))))))))
  obtain⟨b10,kx10,hb10,hkx10,h⟩:=Jh h
  refine Hz (fun i10 (s10:Unit)=>each b10 kx10 (List.drop i10 l) i10 s10=some r) (fun i10 s10=>[(1,E2 boxes),(2,E1 l),(3,Ec s),(7,E8 r7),(20,E1 l),(21,Ej l.length),(22,Ej i10)]) (fun i10 s10=>[]) (fun i10=>l.length - i10) 0 () h ⟨(by repeat' constructor),G,rfl⟩ ?_
  clear h
  intro i10 s10 hi10 K10 e10
  refine Jr fun hK11=>(JLh (BL (decide ((i10:Int) < (l.length:Int)))) (Jm O O O) O (G7 (hK11 (Js fun hK12=>Gm O (fun hb=>?_) (fun hb=>?_)))))
  ·
   have hk10:=Q4 hb
   obtain⟨y10,nx10,hy10,hn10,h⟩:=J3 hi10 hk10
   replace h:=Zv hb10 h
   refine Gs (hK12 (Js fun hK13=>Gx (Jr fun hK14=>(Qk (Ej i10) O (JLh (Ed y10) (Hc (f:=Stowed.av) (xs:=l) (y:=y10) O O O H9 hy10 O) O (JLh (.agg (Stowed.cs y10)) (Gj Ym O O O) O (JLh (.ptr 1033 0) (Jd 1033 4 R5 O O) O (Qk (Ej i10) O (J5 (u:=.junk) (Hp (u:=.agg (Stowed.cs y10)) (ds:=[G0 y10.Gb,G0 y10.Slot.G3,G0 y10.Slot.Tier,U8 y10.Slot.Half]) Zd O O O O O O O O) (G7 (hK14 ?_)))))))))))
   refine Gt [(1,E2 boxes),(2,E1 l),(3,Ec s),(7,E8 r7),(8,Ej i10),(9,Ed y10),(20,E1 l),(21,Ej l.length),(22,Ej i10)] [] 1033 rfl rfl rfl G rfl (by repeat' (first | exact .ptr | constructor)) (Jr fun hK15=>(Qk (E2 boxes) O (JLh (Ed y10) (Gc Hr O O O) O (JLh (G0 y10.Gb) (Gi Ge O O O) O ?_))))
   obtain⟨r16,hr16,h⟩:=Gf h
   refine JLh (.tup [.agg (Gb.cs r16.1),BL r16.2]) (Gv O (Gaf boxes y10.Gb r16 hr16) H2e ⟨O,O,O,O,G⟩) O (Qk (.tup [.agg (Gb.cs r16.1),BL r16.2]) O (JLh (.agg (Gb.cs r16.1)) (H8 O O O) O (JLh (BL r16.2) (H8 O O O) O (JLh (.ptr 1034 0) (Jd 1034 9 G20 O O) O (J5 (u:=.junk) (Hp (u:=.agg (Gb.cs r16.1)) (ds:=(Gb.cs r16.1)) G39 O O O O O O O O) (Qk (BL r16.2) O (G7 (hK15 ?_))))))))
   refine Gt [(1,E2 boxes),(2,E1 l),(3,Ec s),(7,E8 r7),(8,Ej i10),(9,Ed y10),(10,Eh r16.1),(11,BL r16.2),(20,E1 l),(21,Ej l.length),(22,Ej i10)] [] 1034 rfl rfl rfl G rfl (by repeat' (first | exact .ptr | constructor)) (Js fun hK17=>Js fun hK18=>?_)
   obtain⟨v19,hv19,h⟩:=Gf h
   obtain⟨y20,hy20,h⟩:=Gf h
   obtain⟨r21,hr21,h⟩:=Gf h
   obtain⟨r22,hr22,h⟩:=Gf h
   refine JC_d0 Qb (by kernel_rfl) (Dq (BL r16.2) (G6 O O) O (Dq (BL (!r16.2)) (Zn (b:=r16.2) O O) O (Dq (BL (!r16.2)) (G6 O O) O (Do (Ej i10) [] O .scf G (fun hc=>G6 O O) O (Do (BL (decide (0 < (i10:Int)))) [37] O .scf ⟨Ua,G⟩ (fun hc=>G67 O O O) O (Do (BL (decide (0 < (i10:Int)))) [38] O .scf ⟨Ua,G⟩ (fun hc=>G6 O O) O (Do (Ed y10) [] O .optt G (fun hc=>Gc Hr O O O) O (Do (G0 y10.Gb) [40] O .optt ⟨Ua,G⟩ (fun hc=>Gi Ge O O O) O (Do (E1 l) [] O .optt G (fun hc=>G6 O O) O (Do (Ej i10) [] O .optt G (fun hc=>G6 O O) O (Do (G0 v19) [43] O .optt ⟨Ua,G⟩ (fun hc=>H28 (G89 (H6 hc hv19)) O O O) O (Do (Ed y20) [42,44] O .optt ⟨Ua,Ua,G⟩ (fun hc=>(match Rt (H6 hc hy20) with | ⟨_,hm_,hy_⟩=>Hc (f:=Stowed.av) (xs:=l) (y:=y20) O O O H9 hy_ hm_)) O (Do (Ed y20) [45] O .optt ⟨Ua,G⟩ (fun hc=>Gc Hr O O O) O ?_)))))))))))))
   refine Do (G0 y20.Gb) [46] O .optt ⟨Ua,G⟩ (fun hc=>Gi Ge O O O) O (Do (BL (decide (y10.Gb≤y20.Gb))) [41,47] O .optt ⟨Ua,Ua,G⟩ (fun hc=>Ha6 O O O) O (Dg (.opt (!(!r16.2)) (BL ((decide (0 < (i10:Int)))&&(decide (y10.Gb≤y20.Gb))))) (Hm [(39,BL (decide (0 < (i10:Int)))),(48,_)] O O O .scf ⟨.all id,.part,G⟩ (fun hc=>Qi O O O O) O) O (Dq (BL ((!r16.2)||((decide (0 < (i10:Int)))&&(decide (y10.Gb≤y20.Gb))))) (G5c O O O O) O (Dq (BL ((!r16.2)||((decide (0 < (i10:Int)))&&(decide (y10.Gb≤y20.Gb))))) (G6 O O) O (Do (.agg (Gw.cs s)) [] O .scf G (fun hc=>Gj Hd O O O) O (Do (.dptr ((Stowed.cs y10).drop 1)) [] O .scf G (fun hc=>Gc Hx O O O) O (Do (.agg ((Stowed.cs y10).drop 1)) [53] O .scf ⟨Ua,G⟩ (fun hc=>Gj Jw O O O) O (Do (.dptr ((Gb.cs r16.1).drop 2)) [] O .scf G (fun hc=>Gc Z0 O O O) O (Do (U8 r16.1.Size) [55] O .scf ⟨Ua,G⟩ (fun hc=>Gi J6 O O O) O (Do (BL r21) [52,54,56] O .scf ⟨Ua,Ua,Ua,G⟩ (fun hc=>Gv (args:=[.agg (Gw.cs s),.agg ((Stowed.cs y10).drop 1),U8 r16.1.Size]) O (H03 s y10.Slot r16.1.Size r21 (H6 hc hr21)) Hd9 ⟨O,O,O,O,O,O,G⟩) O (Do (BL (!r21)) [57] O .scf ⟨Ua,G⟩ (fun hc=>Zn (b:=r21) O O) O (Dq (BL (((!r16.2)||((decide (0 < (i10:Int)))&&(decide (y10.Gb≤y20.Gb))))||(!r21))) (G5c O O O O) O (Dq (BL (((!r16.2)||((decide (0 < (i10:Int)))&&(decide (y10.Gb≤y20.Gb))))||(!r21))) (G6 O O) O ?_)))))))))))))
   refine Do (.dptr ((Stowed.cs y10).drop 1)) [] O .scf G (fun hc=>Gc Hx O O O) O (Do (.agg ((Stowed.cs y10).drop 1)) [61] O .scf ⟨Ua,G⟩ (fun hc=>Gj Jw O O O) O (Do (E8 r7) [] O .scf G (fun hc=>G6 O O) O (Do (BL r22) [62,63] O .scf ⟨Ua,Ua,G⟩ (fun hc=>Gv (args:=[.agg ((Stowed.cs y10).drop 1),E8 r7]) O (H26 y10.Slot r7 r22 (H6 hc hr22)) Hd6 ⟨O,O,O,O,G⟩) O (Do (BL (!r22)) [64] O .scf ⟨Ua,G⟩ (fun hc=>Zn (b:=r22) O O) O (Dq (BL ((((!r16.2)||((decide (0 < (i10:Int)))&&(decide (y10.Gb≤y20.Gb))))||(!r21))||(!r22))) (G5c O O O O) O (Dnil (hK18 (JCc O h (fun h hb=>?_) (fun h hb=>?_)))))))))
   ·
    refine Jr fun hK23=>(Qk (BL false) O (G7 (hK23 (Gu (fin1 BL h)))))
   ·
    refine Gs (hK17 (Jr fun hK24=>(Qk (E8 r7) O (Qk (Ej i10) O ?_))))
    obtain⟨m25,hm25,h⟩:=Gf h
    refine JLh (E8 (r7.take m25)) (H43 (f:=Slot.av) (xs:=r7) O O O R7 (G3c hm25)) O (JLl R7 O O O fun hm70=>(Qk (G0 0) O (G7 (hK24 (Gx ?_)))))
    obtain⟨b42,kx42,hb42,hkx42,h⟩:=Jh h
    refine Hz (fun i42 (s42:Unit)=>each b42 kx42 (List.drop i42 (r7.take m25)) i42 s42=some r) (fun i42 s42=>[(1,E2 boxes),(2,E1 l),(3,Ec s),(7,E8 r7),(9,Ed y10),(20,E1 l),(21,Ej l.length),(22,Ej i10),(69,E8 (r7.take m25)),(70,G0 ((r7.take m25).length:Int)),(71,Ej i42)]) (fun i42 s42=>[]) (fun i42=>(r7.take m25).length - i42) 0 () h ⟨(by repeat' constructor),G,rfl⟩ ?_
    clear h
    intro i42 s42 hi42 K42 e42
    refine Jr fun hK43=>(JLh (BL (decide ((i42:Int) < ((r7.take m25).length:Int)))) (Jm O O O) O (G7 (hK43 (Js fun hK44=>Gm O (fun hb=>?_) (fun hb=>?_)))))
    ·
     have hk42:=Q4 hb
     obtain⟨y42,nx42,hy42,hn42,h⟩:=J3 hi42 hk42
     replace h:=Zv hb42 h
     refine Gs (hK44 (Js fun hK45=>Gx (Jr fun hK46=>(JLh (Ei y42) (Hc (f:=Slot.av) (xs:=(r7.take m25)) (y:=y42) O O O R7 hy42 O) O (JLh (.agg (Slot.cs y42)) (Gj Jw O O O) O (JLh (.ptr 1035 0) (Jd 1035 3 G4e O O) O (J5 (u:=.junk) (Hp (u:=.agg (Slot.cs y42)) (ds:=[G0 y42.G3,G0 y42.Tier,U8 y42.Half]) H2c O O O O O O O O) (G7 (hK46 ?_)))))))))
     refine Gt [(1,E2 boxes),(2,E1 l),(3,Ec s),(7,E8 r7),(9,Ed y10),(13,Ei y42),(20,E1 l),(21,Ej l.length),(22,Ej i10),(69,E8 (r7.take m25)),(70,G0 ((r7.take m25).length:Int)),(71,Ej i42)] [] 1035 rfl rfl rfl G rfl (by repeat' (first | exact .ptr | constructor)) ?_
     refine Jr fun hK47=>(JLh (.dptr ((Stowed.cs y10).drop 1)) (Gc Hx O O O) O (JLh (.agg ((Stowed.cs y10).drop 1)) (Gj Jw O O O) O (JLh (.agg (Slot.cs y42)) (Gj Jw O O O) O ?_)))
     obtain⟨r48,hr48,h⟩:=Gf h
     refine JLh (BL r48) (Gv O (H25 y10.Slot y42 r48 hr48) Hd5 ⟨O,O,O,O,G⟩) O (G7 (hK47 (JCc O h (fun h hb=>?_) (fun h hb=>?_))))
     ·
      refine Jr fun hK49=>(Qk (BL false) O (G7 (hK49 (Gu (fin1 BL h)))))
     ·
      refine Gs (hK45 (G4 (JLh (G0 ((i42+1:Nat):Int)) (Hu (Hs hk42 hm70) O O O) O (Qk (G0 ((i42+1:Nat):Int)) O (G7 (e42 _ _ (i42+1) () (app1 hn42 h) (by omega) ⟨(by repeat' constructor),G,rfl⟩))))))
    ·
     have h:=app1 hkx42 (J4 hi42 (Hh hb))
     refine J9 (hK13 (G4 (JLh (G0 ((i10+1:Nat):Int)) (Hu (Hs hk10 hm21) O O O) O (Qk (G0 ((i10+1:Nat):Int)) O (G7 (e10 _ _ (i10+1) () (app1 hn10 h) (by omega) ⟨(by repeat' constructor),G,rfl⟩))))))
  ·
   have h:=app1 hkx10 (J4 hi10 (Hh hb))
   refine J9 (hK8 (Js fun hK50=>Jr fun hK51=>(JLh (Ec s) (Gc Hk O O O) O (JLh (E7 s.Columns) (Gi J2 O O O) O (JLl Hq O O O fun hm83=>(Qk (G0 0) O (G7 (hK51 (Gx ?_)))))))))
   obtain⟨b64,kx64,hb64,hkx64,h⟩:=Jh h
   refine Hz (fun i64 (s64:Unit)=>each b64 kx64 (List.drop i64 s.Columns) i64 s64=some r) (fun i64 s64=>[(1,E2 boxes),(2,E1 l),(3,Ec s),(83,Ej s.Columns.length),(84,Ej i64)]) (fun i64 s64=>[]) (fun i64=>s.Columns.length - i64) 0 () h ⟨(by repeat' constructor),G,rfl⟩ ?_
   clear h
   intro i64 s64 hi64 K64 e64
   refine Jr fun hK65=>(JLh (BL (decide ((i64:Int) < (s.Columns.length:Int)))) (Jm O O O) O (G7 (hK65 (Js fun hK66=>Gm O (fun hb=>?_) (fun hb=>?_)))))
   ·
    have hk64:=Q4 hb
    obtain⟨y64,nx64,hy64,hn64,h⟩:=J3 hi64 hk64
    replace h:=Zv hb64 h
    refine Gs (hK66 (Js fun hK67=>Gx (Jr fun hK68=>(Qk (Ej i64) O (Qk (Ej i64) O (G7 (hK68 (Jr fun hK69=>(JLh (.agg (Gw.cs s)) (Gj Hd O O O) O (Qk (E2 boxes) O (Qk (E1 l) O (Qk (Ej i64) O ?_))))))))))))
    obtain⟨r70,hr70,h⟩:=Gf h
    refine JLh (BL r70) (Gv O (H24 s boxes l (i64:Int) r70 hr70) Hd4 ⟨O,O,O,O,O,O,O,O,G⟩) O (JLh (BL (!r70)) (Zn (b:=r70) O O) O (G7 (hK69 (JCc O h (fun h hb=>?_) (fun h hb=>?_)))))
    ·
     refine Jr fun hK71=>(Qk (BL false) O (G7 (hK71 (Gu (fin1 BL h)))))
    ·
     refine Gs (hK67 (G4 (JLh (G0 ((i64+1:Nat):Int)) (Hu (Hs hk64 hm83) O O O) O (Qk (G0 ((i64+1:Nat):Int)) O (G7 (e64 _ _ (i64+1) () (app1 hn64 h) (by omega) ⟨(by repeat' constructor),G,rfl⟩))))))
   ·
    have h:=app1 hkx64 (J4 hi64 (Hh hb))
    refine J9 (hK50 (Jr fun hK72=>(Qk (BL true) O (G7 (hK72 (Gu (fin1 BL h)))))))

def Qr (s:Gw) (boxes:List Gb) (l:List Stowed) (open_:List Int):Option Bool:=
 each (fun y22 i22 (s22:Unit) nx22=>
  bnd (bif ((!((decide (y22 < 0))||(decide ((s.Covers.length:Int)≤y22))))&&(decide (0 < (i22:Int)))) then Zf ((i22:Int) - 1) some else some 0) fun v28=>
  bnd (bif ((!((decide (y22 < 0))||(decide ((s.Covers.length:Int)≤y22))))&&(decide (0 < (i22:Int)))) then Yj open_ v28 some else some default) fun y29=>
  bif (((decide (y22 < 0))||(decide ((s.Covers.length:Int)≤y22)))||((decide (0 < (i22:Int)))&&(decide (y22≤y29)))) then
  (some false)
  else
  (nx22 ()))
 (fun(s22:Unit)=>
  bnd (Rk s boxes l) fun r32=>
  some r32) open_ 0 ()
theorem Zz (s:Gw) (boxes:List Gb) (l:List Stowed) (open_:List Int) (r:Bool) (h:Qr s boxes l open_=some r):Pure Ek 25 [.agg (Gw.cs s),E2 boxes,E1 l,E0 open_] (·=BL r):=by
 unfold Qr at h
 refine H1 [.tmp 8] Tryz.func25 O O (Jr fun hK1=>(JLh (.ptr 1048 0) (Jn (cs:=(Gw.cs s)) 1048 O O O O O) O (Qk (BL false) O (G7 (hK1 (Gt [(1,E2 boxes),(2,E1 l),(3,E0 open_),(4,Ec s)] [] 1048 rfl rfl rfl G rfl (by repeat' (first | exact .ptr | constructor)) (Js fun hK2=>?_)))))))
 refine Jr fun hK3=>(Qk (E0 open_) O (JLl Gh O O O fun hm12=>(Qk (G0 0) O (G7 (hK3 (Gx ?_))))))
 obtain⟨b22,kx22,hb22,hkx22,h⟩:=Jh h
 refine Hz (fun i22 (s22:Unit)=>each b22 kx22 (List.drop i22 open_) i22 s22=some r) (fun i22 s22=>[(1,E2 boxes),(2,E1 l),(3,E0 open_),(4,Ec s),(11,E0 open_),(12,Ej open_.length),(13,Ej i22)]) (fun i22 s22=>[]) (fun i22=>open_.length - i22) 0 () h ⟨(by repeat' constructor),G,rfl⟩ ?_
 clear h
 intro i22 s22 hi22 K22 e22
 refine Jr fun hK23=>(JLh (BL (decide ((i22:Int) < (open_.length:Int)))) (Jm O O O) O (G7 (hK23 (Js fun hK24=>Gm O (fun hb=>?_) (fun hb=>?_)))))
 ·
  have hk22:=Q4 hb
  obtain⟨y22,nx22,hy22,hn22,h⟩:=J3 hi22 hk22
  replace h:=Zv hb22 h
  refine Gs (hK24 (Js fun hK25=>Gx (Jr fun hK26=>(Qk (Ej i22) O (JLh (.dptr [G0 y22]) (Hc (f:=G0) (xs:=open_) (y:=y22) O O O Gh hy22 O) O (JLh (G0 y22) (Gi Ge O O O) O (Qk (Ej i22) O (Qk (G0 y22) O (G7 (hK26 ?_))))))))))
  refine Jr fun hK27=>(Qk (G0 y22) O (JLh (BL (decide (y22 < 0))) (Jm O O O) O (Qk (BL (decide (y22 < 0))) O (JLo (G0 y22) [] O .scf G (fun hc=>G6 O O) O (JLo (.dptr [E6 s.Covers,G0 s.Light.Kilos,G0 s.Light.X,G0 s.Light.Y,G0 s.Light.Z,E3 s.Rows,E4 s.Frames,E5 s.Tanks,G0 s.G2.Tolerance,G0 s.G2.Trim,G0 s.G2.List_,G0 s.G2.Stability]) [] O .scf G (fun hc=>Gc Qc O O O) O (JLo (E6 s.Covers) [22] O .scf ⟨Ua,G⟩ (fun hc=>Gi Rh O O O) O (JLo (Ej s.Covers.length) [23] O .scf ⟨Ua,G⟩ (fun hc=>Zp (f:=G9.av) (xs:=s.Covers) Q6 O O) O (JLo (BL (decide ((s.Covers.length:Int)≤y22))) [21,24] O .scf ⟨Ua,Ua,G⟩ (fun hc=>G95 O O O) O (JLh (BL ((decide (y22 < 0))||(decide ((s.Covers.length:Int)≤y22)))) (G5c O O O O) O (Qk (BL ((decide (y22 < 0))||(decide ((s.Covers.length:Int)≤y22)))) O (JLo (Ej i22) [] O .scf G (fun hc=>G6 O O) O (JLo (BL (decide (0 < (i22:Int)))) [28] O .scf ⟨Ua,G⟩ (fun hc=>G67 O O O) O (JLo (BL (decide (0 < (i22:Int)))) [29] O .scf ⟨Ua,G⟩ (fun hc=>G6 O O) O ?_)))))))))))))
  refine JLo (G0 y22) [] O .optt G (fun hc=>G6 O O) O (JLo (E0 open_) [] O .optt G (fun hc=>G6 O O) O (JLo (Ej i22) [] O .optt G (fun hc=>G6 O O) O ?_))
  obtain⟨v28,hv28,h⟩:=Gf h
  refine JLo (G0 v28) [33] O .optt ⟨Ua,G⟩ (fun hc=>H28 (G89 (H6 hc hv28)) O O O) O ?_
  obtain⟨y29,hy29,h⟩:=Gf h
  refine JLo (.dptr [G0 y29]) [32,34] O .optt ⟨Ua,Ua,G⟩ (fun hc=>(match Rt (H6 hc hy29) with | ⟨_,hm_,hy_⟩=>Hc (f:=G0) (xs:=open_) (y:=y29) O O O Gh hy_ hm_)) O (JLo (G0 y29) [35] O .optt ⟨Ua,G⟩ (fun hc=>Gi Ge O O O) O (JLo (BL (decide (y22≤y29))) [31,36] O .optt ⟨Ua,Ua,G⟩ (fun hc=>Ha6 O O O) O (Gd (u:=BL ((decide (0 < (i22:Int)))&&(decide (y22≤y29)))) [(30,BL (decide (0 < (i22:Int)))),(37,_)] O O O .scf ⟨.all id,.part,G⟩ (fun hc=>Qi O O O O) ?_)))
  refine JLh (BL (((decide (y22 < 0))||(decide ((s.Covers.length:Int)≤y22)))||((decide (0 < (i22:Int)))&&(decide (y22≤y29))))) (G5c O O O O) O (G7 (hK27 (JCc O h (fun h hb=>?_) (fun h hb=>?_))))
  ·
   refine Jr fun hK30=>(Qk (BL false) O (G7 (hK30 (Gu (fin1 BL h)))))
  ·
   refine Gs (hK25 (G4 (JLh (G0 ((i22+1:Nat):Int)) (Hu (Hs hk22 hm12) O O O) O (Qk (G0 ((i22+1:Nat):Int)) O (G7 (e22 _ _ (i22+1) () (app1 hn22 h) (by omega) ⟨(by repeat' constructor),G,rfl⟩))))))
 ·
  have h:=app1 hkx22 (J4 hi22 (Hh hb))
  refine J9 (hK2 (Jr fun hK31=>(JLh (.agg (Gw.cs s)) (Gj Hd O O O) O (Qk (E2 boxes) O (Qk (E1 l) O ?_)))))
  obtain⟨r32,hr32,h⟩:=Gf h
  refine JLh (BL r32) (Gv O (G90 s boxes l r32 hr32) H31 ⟨O,O,O,O,O,O,G⟩) O (Qk (BL r32) O (G7 (hK31 (Gu (fin1 BL h)))))

def G11 (x:Stowed) (p1:Int):Option Bool:=
 some (decide (x.Gb=p1))
theorem Hac (x:Stowed) (p1:Int) (r:Bool) (h:G11 x p1=some r):Pure Ek 54 [.agg (Stowed.cs x),.dptr [G0 p1]] (·=BL r):=by
 unfold G11 at h
 refine H1 [.tmp 3] Tryz.func54 O O (Jr fun hK1=>(JLh (.ptr 1087 0) (Jn (cs:=[G0 x.Gb,G0 x.Slot.G3,G0 x.Slot.Tier,U8 x.Slot.Half]) 1087 O O O O O) O (Qk (BL false) O (G7 (hK1 (Gt [(1,.dptr [G0 p1]),(2,Ed x)] [] 1087 rfl rfl rfl G rfl (by exact⟨.conv (.same rfl),.ptr,G⟩) (Jr fun hK2=>(JLh (Ed x) (Gc Hr O O O) O (JLh (G0 x.Gb) (Gi Ge O O O) O (JLh (G0 p1) (Gi Ge O O O) O (JLh (BL (decide (x.Gb=p1))) (Jz O O O) O (Qk (BL (decide (x.Gb=p1))) O (G7 (hK2 (Gu (fin1 BL h))))))))))))))))

def Qe (s:List Stowed) (f:Stowed→Option Bool):Option Int:=
 each (fun y20 i20 (s20:Unit) nx20=>
  bnd (f y20) fun r26=>
  bif r26 then
  (some (i20:Int))
  else
  (nx20 ()))
 (fun(s20:Unit)=>
  some (-1)) s 0 ()
theorem Yo (s:List Stowed) (f:Stowed→Option Bool) (f_f:FuncId) (f_c:List AV) (f_B:Hb Ek f_f=true) (f_d:R8 (fun _=>false) f_c=true) (f_w:∀ a0 q,f a0=some q→Pure Ek f_f ([.agg (Stowed.cs a0)]++f_c) (·=BL q)) (r:Int) (h:Qe s f=some r):Pure Ek 53 [E1 s,.fn f_f f_c] (·=G0 r):=by
 unfold Qe at h
 refine H1 [.tmp 4] Tryz.func53 O O (Jr fun hK1=>(Qk (G0 0) O (G7 (hK1 (Js fun hK2=>Jr fun hK3=>(Qk (E1 s) O (JLl H9 O O O fun hm7=>(Qk (G0 0) O (G7 (hK3 (Gx ?_)))))))))))
 obtain⟨b20,kx20,hb20,hkx20,h⟩:=Jh h
 refine Hz (fun i20 (s20:Unit)=>each b20 kx20 (List.drop i20 s) i20 s20=some r) (fun i20 s20=>[(0,E1 s),(1,.fn f_f f_c),(7,Ej s.length),(8,Ej i20)]) (fun i20 s20=>[]) (fun i20=>s.length - i20) 0 () h ⟨⟨.same O,.same (Jg _ _ f_d),.same O,.same O,G⟩,G,O⟩ ?_
 clear h
 intro i20 s20 hi20 K20 e20
 refine Jr fun hK21=>(JLh (BL (decide ((i20:Int) < (s.length:Int)))) (Jm O O O) O (G7 (hK21 (Js fun hK22=>Gm O (fun hb=>?_) (fun hb=>?_)))))
 ·
  have hk20:=Q4 hb
  obtain⟨y20,nx20,hy20,hn20,h⟩:=J3 hi20 hk20
  replace h:=Zv hb20 h
  refine Gs (hK22 (Js fun hK23=>Gx (Jr fun hK24=>(Qk (Ej i20) O (Qk (Ej i20) O (G7 (hK24 (Jr fun hK25=>(Qk (.fn f_f f_c) O (Qk (E1 s) O (Qk (Ej i20) O (JLh (Ed y20) (Hc (f:=Stowed.av) (xs:=s) (y:=y20) O O O H9 hy20 O) O (JLh (.agg (Stowed.cs y20)) (Gj Ym O O O) O ?_)))))))))))))
  obtain⟨r26,hr26,h⟩:=Gf h
  refine JLh (BL r26) (G15 (args:=[.agg (Stowed.cs y20)]) (caps:=f_c) O O (f_w y20 _ hr26) f_B ⟨O,O,G⟩ f_d) O (G7 (hK25 (JCc O h (fun h hb=>?_) (fun h hb=>?_))))
  ·
   refine Jr fun hK27=>(Qk (Ej i20) O (Qk (Ej i20) O (G7 (hK27 (Gu (fin1 G0 h))))))
  ·
   refine Gs (hK23 (G4 (JLh (G0 ((i20+1:Nat):Int)) (Hu (Hs hk20 hm7) O O O) O (Qk (G0 ((i20+1:Nat):Int)) O (G7 (e20 _ _ (i20+1) () (app1 hn20 h) (by omega) ⟨⟨.same rfl,.same (Jg _ _ f_d),.same rfl,.same rfl,G⟩,G,rfl⟩))))))
 ·
  have h:=app1 hkx20 (J4 hi20 (Hh hb))
  refine J9 (hK2 (Jr fun hK28=>(Qk (G0 (-1)) O (G7 (hK28 (Gu (fin1 G0 h)))))))

def Rr (l:List Stowed) (id_:Int):Option Int:=
 bnd (Qe l (fun z0=>G11 z0 id_)) fun r3=>
 some r3
theorem G10 (l:List Stowed) (id_:Int) (r:Int) (h:Rr l id_=some r):Pure Ek 28 [E1 l,G0 id_] (·=G0 r):=by
 unfold Rr at h
 refine H1 [.tmp 4] Tryz.func28 O O (Jr fun hK1=>(JLh (.ptr 1051 0) (Jn (cs:=[G0 id_]) 1051 O O O O O) O (Qk (G0 0) O (G7 (hK1 (Gt [(0,E1 l),(3,.dptr [G0 id_])] [] 1051 rfl rfl rfl G rfl (by exact⟨.conv (.same rfl),.ptr,G⟩) (Jr fun hK2=>(Qk (E1 l) O (JLh (.fn 54 [.dptr [G0 id_]]) (Yh (cs:=[.dptr [G0 id_]]) O O) O ?_)))))))))
 obtain⟨r3,hr3,h⟩:=Gf h
 refine JLh (G0 r3) (Gv O (Yo l (fun z0=>G11 z0 id_) 54 [.dptr [G0 id_]] J6d O (fun z0 q hq=>Hac z0 id_ q hq) r3 hr3) Hd2 ⟨O,O,O,O,G⟩) O (Qk (G0 r3) O (G7 (hK2 (Gu (fin1 G0 h)))))

def G56 (a:Slot) (b:Slot):Option Bool:=
 bnd (bif ((decide (a.G3=b.G3))&&(decide (b.Tier < a.Tier))) then Z5 a.Half b.Half else some default) fun r3=>
 some (((decide (a.G3=b.G3))&&(decide (b.Tier < a.Tier)))&&r3)
theorem M_slot_Over_w (a:Slot) (b:Slot) (r:Bool) (h:G56 a b=some r):Pure Ek 31 [.agg [G0 a.G3,G0 a.Tier,U8 a.Half],.agg [G0 b.G3,G0 b.Tier,U8 b.Half]] (·=BL r):=by
 unfold G56 at h
 refine H1 [.tmp 4] Tryz.func31 O O (Jr fun hK1=>(JLh (.ptr 1055 0) (Jn (cs:=[G0 a.G3,G0 a.Tier,U8 a.Half]) 1055 O O O O O) O (JLh (.ptr 1056 0) (Jn (cs:=[G0 b.G3,G0 b.Tier,U8 b.Half]) 1056 O O O O O) O (Qk (BL false) O (G7 (hK1 (Gt [(2,.dptr [G0 a.G3,G0 a.Tier,U8 a.Half]),(3,.ptr 1056 0)] [(1056,.box 45 [G0 b.G3,G0 b.Tier,U8 b.Half])] 1055 rfl rfl rfl ⟨⟨_,rfl,.boxEq rfl rfl⟩,G⟩ rfl (by exact⟨.ptr,.conv (.same rfl),G⟩) (Gt [(2,.dptr [G0 a.G3,G0 a.Tier,U8 a.Half]),(3,.dptr [G0 b.G3,G0 b.Tier,U8 b.Half])] [] 1056 rfl rfl rfl G rfl (by exact⟨.conv (.same rfl),.ptr,G⟩) ?_))))))))
 refine Jr fun hK2=>(JLh (.dptr [G0 a.G3,G0 a.Tier,U8 a.Half]) (Gc Jc O O O) O (JLh (G0 a.G3) (Gi Ge O O O) O (JLh (.dptr [G0 b.G3,G0 b.Tier,U8 b.Half]) (Gc Jc O O O) O (JLh (G0 b.G3) (Gi Ge O O O) O (JLh (BL (decide (a.G3=b.G3))) (Jz O O O) O (Qk (BL (decide (a.G3=b.G3))) O (JLo (.dptr [G0 a.Tier,U8 a.Half]) [] O .sct G (fun hc=>Gc Rn O O O) O (JLo (G0 a.Tier) [11] O .sct ⟨Ua,G⟩ (fun hc=>Gi Ge O O O) O (JLo (.dptr [G0 b.Tier,U8 b.Half]) [] O .sct G (fun hc=>Gc Rn O O O) O (JLo (G0 b.Tier) [13] O .sct ⟨Ua,G⟩ (fun hc=>Gi Ge O O O) O (JLo (BL (decide (b.Tier < a.Tier))) [12,14] O .sct ⟨Ua,Ua,G⟩ (fun hc=>G67 O O O) O (JLh (BL ((decide (a.G3=b.G3))&&(decide (b.Tier < a.Tier)))) (Qi O O O O) O (Qk (BL ((decide (a.G3=b.G3))&&(decide (b.Tier < a.Tier)))) O ?_)))))))))))))
 refine JLo (.dptr [U8 a.Half]) [] O .sct G (fun hc=>Gc R0 O O O) O (JLo (U8 a.Half) [18] O .sct ⟨Ua,G⟩ (fun hc=>Gi J6 O O O) O (JLo (.dptr [U8 b.Half]) [] O .sct G (fun hc=>Gc R0 O O O) O (JLo (U8 b.Half) [20] O .sct ⟨Ua,G⟩ (fun hc=>Gi J6 O O O) O ?_)))
 obtain⟨r3,hr3,h⟩:=Gf h
 refine JLo (BL r3) [19,21] O .sct ⟨Ua,Ua,G⟩ (fun hc=>Gv (args:=[U8 a.Half,U8 b.Half]) O (Ge2 a.Half b.Half r3 (H6 hc hr3)) Hd1 ⟨O,O,O,O,G⟩) O (JLh (BL (((decide (a.G3=b.G3))&&(decide (b.Tier < a.Tier)))&&r3)) (Qi O O O O) O (Qk (BL (((decide (a.G3=b.G3))&&(decide (b.Tier < a.Tier)))&&r3)) O (G7 (hK2 (Gu (fin1 BL h))))))

def Y9 (l:List Stowed) (id_:Int):Option ((List Int)×Int):=
 bnd (Rr l id_) fun r3=>
 bif decide (r3 < 0) then
 (some ([],6))
 else
 (each (fun y30 i30 (s30:(List Int)) nx30=>
   jp (fun kj33=>
    Yj l r3 fun y36=>
    bnd (G56 y30.Slot y36.Slot) fun r38=>
    bif r38 then
    (need (decide ((s30.length+[y30.Gb].length)*8≤140737488355328∧s30.length+[y30.Gb].length≤maxLen)) <|
     kj33 (s30++[y30.Gb]))
    else
    (kj33 s30)) fun(j33:(List Int))=>
   nx30 j33)
  (fun(s30:(List Int))=>
   some (s30,0)) l 0 [])
theorem G91 (l:List Stowed) (id_:Int) (r:(List Int)×Int) (h:Y9 l id_=some r):Pure Ek 11 [E1 l,G0 id_] (·=.tup [E0 r.1,G0 r.2]):=by
 unfold Y9 at h
 refine H1 [.tmp 4,.tmp 5] Tryz.func11 O O (Jr fun hK1=>(JLh (E0 ([]:List Int)) (Hj 1 O O) O (Qk (G0 0) O (G7 (hK1 (Jr fun hK2=>(Qk (E1 l) O (Qk (G0 id_) O ?_))))))))
 obtain⟨r3,hr3,h⟩:=Gf h
 refine JLh (G0 r3) (Gv O (G10 l id_ r3 hr3) G7f ⟨O,O,O,O,G⟩) O (Qk (G0 r3) O (G7 (hK2 (Js fun hK4=>Jr fun hK5=>(Qk (G0 r3) O (JLh (BL (decide (r3 < 0))) (Jm O O O) O (G7 (hK5 (JCc O h (fun h hb=>?_) (fun h hb=>?_))))))))))
 ·
  refine Jr fun hK6=>(JLh (E0 ([]:List Int)) (Hj 1 O O) O (Qk (G0 6) O (G7 (hK6 (Gu (⟨[E0 ([]:List Int),G0 6],[],G,O,⟨⟨_,O,.conv (.same O)⟩,⟨_,O,.conv (.same O)⟩,G⟩,O,congrArg (fun r:(List Int)×Int=>(.tup [E0 r.1,G0 r.2]:AV)) (Option.some.inj h)⟩))))))
 ·
  refine Gs (hK4 (Jr fun hK7=>(JLh (OW 1024 1 G0 ([]:List Int)) (G5d 1024 3 1 O O O) O (G7 (hK7 (Js fun hK8=>Jr fun hK9=>(Qk (E1 l) O (JLl H9 O O O fun hm16=>(Qk (G0 0) O (G7 (hK9 (Gx ?_))))))))))))
  obtain⟨b30,kx30,hb30,hkx30,h⟩:=Jh h
  refine Hz (fun i30 (s30:(List Int))=>each b30 kx30 (List.drop i30 l) i30 s30=some r) (fun i30 s30=>[(0,E1 l),(6,G0 r3),(7,OW 1024 1 G0 s30),(15,E1 l),(16,Ej l.length),(17,Ej i30)]) (fun i30 s30=>[(1024,.spare 3 1 s30.length s30.length)]) (fun i30=>l.length - i30) 0 [] h ⟨(by repeat' constructor),⟨⟨_,rfl,.same⟩,G⟩,rfl⟩ ?_
  clear h
  intro i30 s30 hi30 K30 e30
  refine Jr fun hK31=>(JLh (BL (decide ((i30:Int) < (l.length:Int)))) (Jm O O O) O (G7 (hK31 (Js fun hK32=>Gm O (fun hb=>?_) (fun hb=>?_)))))
  ·
   have hk30:=Q4 hb
   obtain⟨y30,nx30,hy30,hn30,h⟩:=J3 hi30 hk30
   replace h:=Zv hb30 h
   refine Gs (hK32 ?_)
   obtain⟨kj33,hkj33,h⟩:=Z8 h
   refine Ry (fun j33:(List Int)=>kj33 j33=some r) (fun j33=>[(0,E1 l),(6,G0 r3),(7,OW 1024 1 G0 j33),(15,E1 l),(16,Ej l.length),(17,Ej i30)]) (fun j33=>[(1024,.spare 3 1 j33.length j33.length)]) (fun Kj33 ej33=>?_) ?_
   ·
    refine Gx (Jr fun hK34=>(JLh (Ed y30) (Hc (f:=Stowed.av) (xs:=l) (y:=y30) O O O H9 hy30 O) O (JLh (.agg (Stowed.cs y30)) (Gj Ym O O O) O (JLh (.ptr 1025 0) (Jd 1025 4 R5 O O) O (J5 (u:=.junk) (Hp (u:=.agg (Stowed.cs y30)) (ds:=[G0 y30.Gb,G0 y30.Slot.G3,G0 y30.Slot.Tier,U8 y30.Slot.Half]) Zd O O O O O O O O) (G7 (hK34 (Gt [(0,E1 l),(6,G0 r3),(7,OW 1024 1 G0 s30),(9,Ed y30),(15,E1 l),(16,Ej l.length),(17,Ej i30)] [(1024,.spare 3 1 s30.length s30.length)] 1025 rfl rfl rfl ⟨⟨_,rfl,.same⟩,G⟩ rfl (by repeat' (first | exact .ptr | constructor)) (Js fun hK35=>?_)))))))))
    refine Yk (l':=[(0,E1 l),(6,G0 r3),(7,OW 1024 1 G0 s30),(9,Ed y30),(15,E1 l),(16,Ej l.length),(17,Ej i30)]) (L':=[(1024,.spare 3 1 s30.length s30.length)]) ⟨(by repeat' constructor),⟨⟨_,rfl,.same⟩,G⟩,rfl⟩ ?_
    obtain⟨m37,y36,hm37,hy36,h⟩:=Y6 h
    obtain⟨r38,hr38,h⟩:=Gf h
    refine JC_d0 Qb (by kernel_rfl) (Dq (.dptr ((Stowed.cs y30).drop 1)) (Gc Hx O O O) O (Dq (.agg ((Stowed.cs y30).drop 1)) (Gj Jw O O O) O (Dq (E1 l) (G6 O O) O (Dq (G0 r3) (G6 O O) O (Dq (Ed y36) (Hc (f:=Stowed.av) (xs:=l) (y:=y36) O O O H9 hy36 hm37) O (Dq (.dptr ((Stowed.cs y36).drop 1)) (Gc Hx O O O) O (Dq (.agg ((Stowed.cs y36).drop 1)) (Gj Jw O O O) O (Dq (BL r38) (Gv (args:=[.agg ((Stowed.cs y30).drop 1),.agg ((Stowed.cs y36).drop 1)]) O (M_slot_Over_w y30.Slot y36.Slot r38 hr38) J78 ⟨O,O,O,O,G⟩) O (Dnil (hK35 (JCc O h (fun h hb=>?_) (fun h hb=>?_))))))))))))
    ·
     refine G4 (Qk (OW 1024 1 G0 s30) O (JLh (Ed y30) (Gc Hr O O O) O (JLh (G0 y30.Gb) (Gi Ge O O O) O (JLh (E0 [y30.Gb]) (H4 (xs:=[G0 y30.Gb]) O ⟨O,O,G⟩ Gh Jj O O O O) O ?_))))
     obtain⟨ha39,h⟩:=Jf h
     refine JLh (OW 1024 1 G0 (s30++[y30.Gb])) (Y2 (f:=G0) (xs:=s30) (ys:=[y30.Gb]) O O O O Gh Rs ha39 (fun _=>O) (.inl O) O) O (Qk (OW 1024 1 G0 (s30++[y30.Gb])) O (G7 (ej33 _ _ (s30++[y30.Gb]) h ⟨(by repeat' constructor),⟨⟨_,rfl,.same⟩,G⟩,rfl⟩)))
    ·
     refine Gs (ej33 _ _ s30 h ⟨(by repeat' constructor),⟨⟨_,rfl,.same⟩,G⟩,rfl⟩)
   ·intro j33 h
    replace h:=app1 hkj33 h
    refine G4 (JLh (G0 ((i30+1:Nat):Int)) (Hu (Hs hk30 hm16) O O O) O (Qk (G0 ((i30+1:Nat):Int)) O (G7 (e30 _ _ (i30+1) j33 (app1 hn30 h) (by omega) ⟨(by repeat' constructor),⟨⟨_,rfl,.same⟩,G⟩,rfl⟩))))
  ·
   have h:=app1 hkx30 (J4 hi30 (Hh hb))
   refine J9 (hK8 (Jr fun hK40=>(Qk (OW 1024 1 G0 s30) O (Qk (OW 1024 1 G0 s30) O (Qk (G0 0) O (G7 (hK40 (Gu (⟨[E0 s30,G0 0],[],G,O,⟨⟨_,O,.conv (.list O)⟩,⟨_,O,.conv (.same O)⟩,G⟩,O,congrArg (fun r:(List Int)×Int=>(.tup [E0 r.1,G0 r.2]:AV)) (Option.some.inj h)⟩)))))))))

def Yy (r_:Int) (p1:G3):Option Bool:=
 some (decide (r_=p1.Row))
theorem H66 (r_:Int) (p1:G3) (r:Bool) (h:Yy r_ p1=some r):Pure Ek 103 [G0 r_,Ee p1] (·=BL r):=by
 unfold Yy at h
 refine H1 [.tmp 3] Tryz.func103 O O (Jr fun hK1=>(Qk (BL false) O (G7 (hK1 (Jr fun hK2=>(Qk (G0 r_) O (JLh (.dptr ((G3.cs p1).drop 1)) (Gc Z1 O O O) O (JLh (G0 p1.Row) (Gi Ge O O O) O (JLh (BL (decide (r_=p1.Row))) (Jz O O O) O (Qk (BL (decide (r_=p1.Row))) O (G7 (hK2 (Gu (fin1 BL h))))))))))))))

def Ya (l:List Int) (wanted:Int→Option Bool):Option (List Int):=
 each (fun y21 i21 (s21:(List Int)) nx21=>
  jp (fun kj24=>
   bnd (wanted y21) fun r27=>
   bif r27 then
   (need (decide ((s21.length+[(i21:Int)].length)*8≤140737488355328∧s21.length+[(i21:Int)].length≤maxLen)) <|
    kj24 (s21++[(i21:Int)]))
   else
   (kj24 s21)) fun(j24:(List Int))=>
  nx21 j24)
 (fun(s21:(List Int))=>
  some s21) l 0 []
theorem H1a (l:List Int) (wanted:Int→Option Bool) (wanted_f:FuncId) (wanted_c:List AV) (wanted_B:Hb Ek wanted_f=true) (wanted_d:R8 (fun _=>false) wanted_c=true) (wanted_w:∀ a0 q,wanted a0=some q→Pure Ek wanted_f ([G0 a0]++wanted_c) (·=BL q)) (r:(List Int)) (h:Ya l wanted=some r):Pure Ek 102 [E0 l,.fn wanted_f wanted_c] (·=E0 r):=by
 unfold Ya at h
 refine H1 [.tmp 4] Tryz.func102 O O (Jr fun hK1=>(JLh (E0 ([]:List Int)) (Hj 1 O O) O (G7 (hK1 (Jr fun hK2=>(JLh (OW 1111 1 G0 ([]:List Int)) (G5d 1111 3 1 O O O) O (G7 (hK2 (Js fun hK3=>Jr fun hK4=>(Qk (E0 l) O (JLl Gh O O O fun hm9=>(Qk (G0 0) O (G7 (hK4 (Gx ?_)))))))))))))))
 obtain⟨b21,kx21,hb21,hkx21,h⟩:=Jh h
 refine Hz (fun i21 (s21:(List Int))=>each b21 kx21 (List.drop i21 l) i21 s21=some r) (fun i21 s21=>[(1,.fn wanted_f wanted_c),(5,OW 1111 1 G0 s21),(8,E0 l),(9,Ej l.length),(10,Ej i21)]) (fun i21 s21=>[(1111,.spare 3 1 s21.length s21.length)]) (fun i21=>l.length - i21) 0 [] h ⟨⟨.same (Jg _ _ wanted_d),.same O,.same O,.same O,.same O,G⟩,⟨⟨_,O,.same⟩,G⟩,O⟩ ?_
 clear h
 intro i21 s21 hi21 K21 e21
 refine Jr fun hK22=>(JLh (BL (decide ((i21:Int) < (l.length:Int)))) (Jm O O O) O (G7 (hK22 (Js fun hK23=>Gm O (fun hb=>?_) (fun hb=>?_)))))
 ·
  have hk21:=Q4 hb
  obtain⟨y21,nx21,hy21,hn21,h⟩:=J3 hi21 hk21
  replace h:=Zv hb21 h
  refine Gs (hK23 ?_)
  obtain⟨kj24,hkj24,h⟩:=Z8 h
  refine Ry (fun j24:(List Int)=>kj24 j24=some r) (fun j24=>[(1,.fn wanted_f wanted_c),(5,OW 1111 1 G0 j24),(8,E0 l),(9,Ej l.length),(10,Ej i21)]) (fun j24=>[(1111,.spare 3 1 j24.length j24.length)]) (fun Kj24 ej24=>?_) ?_
  ·
   refine Gx (Jr fun hK25=>(Qk (Ej i21) O (JLh (.dptr [G0 y21]) (Hc (f:=G0) (xs:=l) (y:=y21) O O O Gh hy21 O) O (JLh (G0 y21) (Gi Ge O O O) O (Qk (Ej i21) O (Qk (G0 y21) O (G7 (hK25 (Jr fun hK26=>(Qk (.fn wanted_f wanted_c) O (Qk (G0 y21) O ?_)))))))))))
   obtain⟨r27,hr27,h⟩:=Gf h
   refine JLh (BL r27) (G15 (args:=[G0 y21]) (caps:=wanted_c) O O (wanted_w y21 _ hr27) wanted_B ⟨O,O,G⟩ wanted_d) O (G7 (hK26 (JCc O h (fun h hb=>?_) (fun h hb=>?_))))
   ·
    refine G4 (Qk (OW 1111 1 G0 s21) O (Qk (Ej i21) O (JLh (E0 [(i21:Int)]) (H4 (xs:=[Ej i21]) O ⟨O,O,G⟩ Gh Jj O O O O) O ?_)))
    obtain⟨ha28,h⟩:=Jf h
    refine JLh (OW 1111 1 G0 (s21++[(i21:Int)])) (Y2 (f:=G0) (xs:=s21) (ys:=[(i21:Int)]) O O O O Gh Rs ha28 (fun _=>O) (.inl O) O) O (Qk (OW 1111 1 G0 (s21++[(i21:Int)])) O (G7 (ej24 _ _ (s21++[(i21:Int)]) h ⟨⟨.same (Jg _ _ wanted_d),.same O,.same O,.same O,.same O,G⟩,⟨⟨_,O,.same⟩,G⟩,O⟩)))
   ·
    refine Gs (ej24 _ _ s21 h ⟨⟨.same (Jg _ _ wanted_d),.same O,.same O,.same O,.same O,G⟩,⟨⟨_,O,.same⟩,G⟩,O⟩)
  ·intro j24 h
   replace h:=app1 hkj24 h
   refine G4 (JLh (G0 ((i21+1:Nat):Int)) (Hu (Hs hk21 hm9) O O O) O (Qk (G0 ((i21+1:Nat):Int)) O (G7 (e21 _ _ (i21+1) j24 (app1 hn21 h) (by omega) ⟨⟨.same (Jg _ _ wanted_d),.same rfl,.same rfl,.same rfl,.same rfl,G⟩,⟨⟨_,rfl,.same⟩,G⟩,rfl⟩))))
 ·
  have h:=app1 hkx21 (J4 hi21 (Hh hb))
  refine J9 (hK3 (Jr fun hK29=>(Qk (OW 1111 1 G0 s21) O (Qk (OW 1111 1 G0 s21) O (G7 (hK29 (Gu (fin1l (fun r:(List Int)=>(E0 r:AV)) h))))))))

def Z6 (x:G9) (c:G3):Option Bool:=
 bnd (bif decide (x.Bay=c.Bay) then Ya x.Rows (fun z0=>Yy z0 c) else some default) fun r3=>
 some ((decide (x.Bay=c.Bay))&&(decide (0 < (r3.length:Int))))
theorem Ge4 (x:G9) (c:G3) (r:Bool) (h:Z6 x c=some r):Pure Ek 82 [.agg [G0 x.Bay,E0 x.Rows],.agg (G3.cs c)] (·=BL r):=by
 unfold Z6 at h
 refine H1 [.tmp 4] Tryz.func82 O O (Jr fun hK1=>(JLh (.ptr 1103 0) (Jn (cs:=[G0 x.Bay,E0 x.Rows]) 1103 O O O O O) O (JLh (.ptr 1104 0) (Jn (cs:=(G3.cs c)) 1104 O O O O O) O (Qk (BL false) O (G7 (hK1 (Gt [(2,.dptr [G0 x.Bay,E0 x.Rows]),(3,.ptr 1104 0)] [(1104,.box 55 (G3.cs c))] 1103 rfl rfl rfl ⟨⟨_,rfl,.boxEq rfl rfl⟩,G⟩ rfl (by exact⟨.ptr,.conv (.same rfl),G⟩) ?_)))))))
 refine Gt [(2,.dptr [G0 x.Bay,E0 x.Rows]),(3,Ee c)] [] 1104 rfl rfl rfl G rfl (by exact⟨.conv (.same rfl),.ptr,G⟩) ?_
 refine Jr fun hK2=>(JLh (.dptr [G0 x.Bay,E0 x.Rows]) (Gc G44 O O O) O (JLh (G0 x.Bay) (Gi Ge O O O) O (JLh (Ee c) (Gc Z2 O O O) O (JLh (G0 c.Bay) (Gi Ge O O O) O (JLh (BL (decide (x.Bay=c.Bay))) (Jz O O O) O (Qk (BL (decide (x.Bay=c.Bay))) O (JLo (.dptr [E0 x.Rows]) [] O .sct G (fun hc=>Gc G43 O O O) O (JLo (E0 x.Rows) [11] O .sct ⟨Ua,G⟩ (fun hc=>Gi Ys O O O) O (JLo (.fn 103 [.dptr (G3.cs c)]) [] O .sct G (fun hc=>Yh (cs:=[.dptr (G3.cs c)]) O O) O ?_)))))))))
 obtain⟨r3,hr3,h⟩:=Gf h
 refine JLo (E0 r3) [12,13] O .sct ⟨Ua,Ua,G⟩ (fun hc=>Gv (args:=[E0 x.Rows,.fn 103 [.dptr (G3.cs c)]]) O (H1a x.Rows (fun z0=>Yy z0 c) 103 [.dptr (G3.cs c)] J3b O (fun z0 q hq=>H66 z0 c q hq) r3 (H6 hc hr3)) J3c ⟨O,O,O,O,G⟩) O (JLo (Ej r3.length) [14] O .sct ⟨Ua,G⟩ (fun hc=>Zp (f:=G0) (xs:=r3) Gh O O) O (JLo (BL (decide (0 < (r3.length:Int)))) [15] O .sct ⟨Ua,G⟩ (fun hc=>G67 O O O) O (JLh (BL ((decide (x.Bay=c.Bay))&&(decide (0 < (r3.length:Int))))) (Qi O O O O) O (Qk (BL ((decide (x.Bay=c.Bay))&&(decide (0 < (r3.length:Int))))) O (G7 (hK2 ?_))))))
 refine Gu (fin1 BL h)

def Ru (x:G9) (p1:Gw) (p2:Int):Option Bool:=
 Yj p1.Columns p2 fun y3=>
 bnd (Z6 x y3) fun r5=>
 some r5
theorem H40 (x:G9) (p1:Gw) (p2:Int) (r:Bool) (h:Ru x p1 p2=some r):Pure Ek 81 [.agg [G0 x.Bay,E0 x.Rows],Ec p1,.dptr [G0 p2]] (·=BL r):=by
 unfold Ru at h
 refine H1 [.tmp 4] Tryz.func81 O O (Jr fun hK1=>(JLh (.ptr 1102 0) (Jn (cs:=[G0 x.Bay,E0 x.Rows]) 1102 O O O O O) O (Qk (BL false) O (G7 (hK1 (Gt [(1,Ec p1),(2,.dptr [G0 p2]),(3,.dptr [G0 x.Bay,E0 x.Rows])] [] 1102 rfl rfl rfl G rfl (by exact⟨.conv (.same rfl),.conv (.same rfl),.ptr,G⟩) (Js fun hK2=>?_)))))))
 obtain⟨m4,y3,hm4,hy3,h⟩:=Y6 h
 obtain⟨r5,hr5,h⟩:=Gf h
 refine JC_d0 Qb (by kernel_rfl) (Dq (.agg [G0 x.Bay,E0 x.Rows]) (Gj Gb4 O O O) O (Dq (Ec p1) (Gc Hk O O O) O (Dq (E7 p1.Columns) (Gi J2 O O O) O (Dq (G0 p2) (Gi Ge O O O) O (Dq (Ee y3) (Hc (f:=G3.av) (xs:=p1.Columns) (y:=y3) O O O Hq hy3 hm4) O (Dq (.agg (G3.cs y3)) (Gj G22 O O O) O (Dq (BL r5) (Gv (args:=[.agg [G0 x.Bay,E0 x.Rows],.agg (G3.cs y3)]) O (Ge4 x y3 r5 hr5) Hcc ⟨O,O,O,O,G⟩) O (Dq (BL r5) (G8 O O) O (Dnil (hK2 (Gu (fin1 BL h))))))))))))

def Qt (l:List G9) (wanted:G9→Option Bool):Option (List Int):=
 each (fun y21 i21 (s21:(List Int)) nx21=>
  jp (fun kj24=>
   bnd (wanted y21) fun r27=>
   bif r27 then
   (need (decide ((s21.length+[(i21:Int)].length)*8≤140737488355328∧s21.length+[(i21:Int)].length≤maxLen)) <|
    kj24 (s21++[(i21:Int)]))
   else
   (kj24 s21)) fun(j24:(List Int))=>
  nx21 j24)
 (fun(s21:(List Int))=>
  some s21) l 0 []
theorem Gb1 (l:List G9) (wanted:G9→Option Bool) (wanted_f:FuncId) (wanted_c:List AV) (wanted_B:Hb Ek wanted_f=true) (wanted_d:R8 (fun _=>false) wanted_c=true) (wanted_w:∀ a0 q,wanted a0=some q→Pure Ek wanted_f ([.agg [G0 a0.Bay,E0 a0.Rows]]++wanted_c) (·=BL q)) (r:(List Int)) (h:Qt l wanted=some r):Pure Ek 80 [E6 l,.fn wanted_f wanted_c] (·=E0 r):=by
 unfold Qt at h
 refine H1 [.tmp 4] Tryz.func80 O O (Jr fun hK1=>(JLh (E0 ([]:List Int)) (Hj 1 O O) O (G7 (hK1 (Jr fun hK2=>(JLh (OW 1100 1 G0 ([]:List Int)) (G5d 1100 3 1 O O O) O (G7 (hK2 (Js fun hK3=>Jr fun hK4=>(Qk (E6 l) O (JLl Q6 O O O fun hm9=>(Qk (G0 0) O (G7 (hK4 (Gx ?_)))))))))))))))
 obtain⟨b21,kx21,hb21,hkx21,h⟩:=Jh h
 refine Hz (fun i21 (s21:(List Int))=>each b21 kx21 (List.drop i21 l) i21 s21=some r) (fun i21 s21=>[(1,.fn wanted_f wanted_c),(5,OW 1100 1 G0 s21),(8,E6 l),(9,Ej l.length),(10,Ej i21)]) (fun i21 s21=>[(1100,.spare 3 1 s21.length s21.length)]) (fun i21=>l.length - i21) 0 [] h ⟨⟨.same (Jg _ _ wanted_d),.same O,.same O,.same O,.same O,G⟩,⟨⟨_,O,.same⟩,G⟩,O⟩ ?_
 clear h
 intro i21 s21 hi21 K21 e21
 refine Jr fun hK22=>(JLh (BL (decide ((i21:Int) < (l.length:Int)))) (Jm O O O) O (G7 (hK22 (Js fun hK23=>Gm O (fun hb=>?_) (fun hb=>?_)))))
 ·
  have hk21:=Q4 hb
  obtain⟨y21,nx21,hy21,hn21,h⟩:=J3 hi21 hk21
  replace h:=Zv hb21 h
  refine Gs (hK23 ?_)
  obtain⟨kj24,hkj24,h⟩:=Z8 h
  refine Ry (fun j24:(List Int)=>kj24 j24=some r) (fun j24=>[(1,.fn wanted_f wanted_c),(5,OW 1100 1 G0 j24),(8,E6 l),(9,Ej l.length),(10,Ej i21)]) (fun j24=>[(1100,.spare 3 1 j24.length j24.length)]) (fun Kj24 ej24=>?_) ?_
  ·
   refine Gx (Jr fun hK25=>(Qk (Ej i21) O (JLh (.dptr [G0 y21.Bay,E0 y21.Rows]) (Hc (f:=G9.av) (xs:=l) (y:=y21) O O O Q6 hy21 O) O (JLh (.agg [G0 y21.Bay,E0 y21.Rows]) (Gj Gb4 O O O) O (JLh (.ptr 1101 0) (Jd 1101 2 G4d O O) O (Qk (Ej i21) O (J5 (u:=.junk) (Hp (u:=.agg [G0 y21.Bay,E0 y21.Rows]) (ds:=[G0 y21.Bay,E0 y21.Rows]) Hbe O O O O O O O O) (G7 (hK25 ?_)))))))))
   refine Gt [(1,.fn wanted_f wanted_c),(5,OW 1100 1 G0 s21),(6,Ej i21),(7,.dptr [G0 y21.Bay,E0 y21.Rows]),(8,E6 l),(9,Ej l.length),(10,Ej i21)] [(1100,.spare 3 1 s21.length s21.length)] 1101 rfl rfl rfl ⟨⟨_,rfl,.same⟩,G⟩ rfl (by exact⟨.conv (.same (Jg _ _ wanted_d)),.conv (.same rfl),.conv (.same rfl),.ptr,.conv (.same rfl),.conv (.same rfl),.conv (.same rfl),G⟩) (Jr fun hK26=>(Qk (.fn wanted_f wanted_c) O (JLh (.agg [G0 y21.Bay,E0 y21.Rows]) (Gj Gb4 O O O) O ?_)))
   obtain⟨r27,hr27,h⟩:=Gf h
   refine JLh (BL r27) (G15 (args:=[.agg [G0 y21.Bay,E0 y21.Rows]]) (caps:=wanted_c) O O (wanted_w y21 _ hr27) wanted_B ⟨O,O,G⟩ wanted_d) O (G7 (hK26 (JCc O h (fun h hb=>?_) (fun h hb=>?_))))
   ·
    refine G4 (Qk (OW 1100 1 G0 s21) O (Qk (Ej i21) O (JLh (E0 [(i21:Int)]) (H4 (xs:=[Ej i21]) O ⟨O,O,G⟩ Gh Jj O O O O) O ?_)))
    obtain⟨ha28,h⟩:=Jf h
    refine JLh (OW 1100 1 G0 (s21++[(i21:Int)])) (Y2 (f:=G0) (xs:=s21) (ys:=[(i21:Int)]) O O O O Gh Rs ha28 (fun _=>O) (.inl O) O) O (Qk (OW 1100 1 G0 (s21++[(i21:Int)])) O (G7 (ej24 _ _ (s21++[(i21:Int)]) h ⟨⟨.same (Jg _ _ wanted_d),.same O,.same O,.same O,.same O,G⟩,⟨⟨_,O,.same⟩,G⟩,O⟩)))
   ·
    refine Gs (ej24 _ _ s21 h ⟨⟨.same (Jg _ _ wanted_d),.same O,.same O,.same O,.same O,G⟩,⟨⟨_,O,.same⟩,G⟩,O⟩)
  ·intro j24 h
   replace h:=app1 hkj24 h
   refine G4 (JLh (G0 ((i21+1:Nat):Int)) (Hu (Hs hk21 hm9) O O O) O (Qk (G0 ((i21+1:Nat):Int)) O (G7 (e21 _ _ (i21+1) j24 (app1 hn21 h) (by omega) ⟨⟨.same (Jg _ _ wanted_d),.same rfl,.same rfl,.same rfl,.same rfl,G⟩,⟨⟨_,rfl,.same⟩,G⟩,rfl⟩))))
 ·
  have h:=app1 hkx21 (J4 hi21 (Hh hb))
  refine J9 (hK3 (Jr fun hK29=>(Qk (OW 1100 1 G0 s21) O (Qk (OW 1100 1 G0 s21) O (G7 (hK29 (Gu (fin1l (fun r:(List Int)=>(E0 r:AV)) h))))))))

def Yr (s:Gw) (column:Int):Option Int:=
 bif ((decide (column < 0))||(decide ((s.Columns.length:Int)≤column))) then
 (some (-1))
 else
 (bnd (Qt s.Covers (fun z0=>Ru z0 s column)) fun r6=>
  bif decide ((r6.length:Int)=0) then
  (some (-1))
  else
  (Yj r6 0 fun y11=>
   some y11))
theorem Gbe (s:Gw) (column:Int) (r:Int) (h:Yr s column=some r):Pure Ek 52 [.agg (Gw.cs s),G0 column] (·=G0 r):=by
 unfold Yr at h
 refine H1 [.tmp 4] Tryz.func52 O O (Jr fun hK1=>(JLh (.ptr 1085 0) (Jn (cs:=(Gw.cs s)) 1085 O O O O O) O (JLh (.ptr 1086 0) (Jn (cs:=[G0 column]) 1086 O O O O O) O (Qk (G0 0) O (G7 (hK1 ?_))))))
 refine Gt [(2,Ec s),(3,.ptr 1086 0)] [(1086,.box 3 [G0 column])] 1085 rfl rfl rfl ⟨⟨_,rfl,.boxEq rfl rfl⟩,G⟩ rfl (by exact⟨.ptr,.conv (.same rfl),G⟩) (Gt [(2,Ec s),(3,.dptr [G0 column])] [] 1086 rfl rfl rfl G rfl (by exact⟨.conv (.same rfl),.ptr,G⟩) (Js fun hK2=>?_))
 refine Jr fun hK3=>(JLh (G0 column) (Gi Ge O O O) O (JLh (BL (decide (column < 0))) (Jm O O O) O (Qk (BL (decide (column < 0))) O (JLo (G0 column) [] O .scf G (fun hc=>Gi Ge O O O) O (JLo (Ec s) [] O .scf G (fun hc=>Gc Hk O O O) O (JLo (E7 s.Columns) [10] O .scf ⟨Ua,G⟩ (fun hc=>Gi J2 O O O) O (JLo (Ej s.Columns.length) [11] O .scf ⟨Ua,G⟩ (fun hc=>Zp (f:=G3.av) (xs:=s.Columns) Hq O O) O (JLo (BL (decide ((s.Columns.length:Int)≤column))) [9,12] O .scf ⟨Ua,Ua,G⟩ (fun hc=>G95 O O O) O (JLh (BL ((decide (column < 0))||(decide ((s.Columns.length:Int)≤column)))) (G5c O O O O) O (G7 (hK3 ?_)))))))))))
 refine JCc O h (fun h hb=>?_) (fun h hb=>?_)
 ·
  refine Jr fun hK4=>(Qk (G0 (-1)) O (G7 (hK4 (Gu (fin1 G0 h)))))
 ·
  refine Gs (hK2 ?_)
  refine Jr fun hK5=>(JLh (.dptr [E6 s.Covers,G0 s.Light.Kilos,G0 s.Light.X,G0 s.Light.Y,G0 s.Light.Z,E3 s.Rows,E4 s.Frames,E5 s.Tanks,G0 s.G2.Tolerance,G0 s.G2.Trim,G0 s.G2.List_,G0 s.G2.Stability]) (Gc Qc O O O) O (JLh (E6 s.Covers) (Gi Rh O O O) O (JLh (.fn 81 [.dptr (Gw.cs s),.dptr [G0 column]]) (Yh (cs:=[.dptr (Gw.cs s),.dptr [G0 column]]) O O) O ?_)))
  obtain⟨r6,hr6,h⟩:=Gf h
  refine JLh (E0 r6) (Gv O (Gb1 s.Covers (fun z0=>Ru z0 s column) 81 [.dptr (Gw.cs s),.dptr [G0 column]] J5e O (fun z0 q hq=>H40 z0 s column q hq) r6 hr6) J5f ⟨O,O,O,O,G⟩) O (Qk (E0 r6) O (G7 (hK5 (Js fun hK7=>Jr fun hK8=>(Qk (E0 r6) O (JLl Gh O O O fun hm20=>(JLh (BL (decide ((r6.length:Int)=0))) (Jz O O O) O (G7 (hK8 (JCc O h (fun h hb=>?_) (fun h hb=>?_)))))))))))
  ·
   refine Jr fun hK9=>(Qk (G0 (-1)) O (G7 (hK9 (Gu (fin1 G0 h)))))
  ·
   refine Gs (hK7 (Jr fun hK10=>(Qk (E0 r6) O ?_)))
   obtain⟨m12,y11,hm12,hy11,h⟩:=Y6 h
   refine JLh (.dptr [G0 y11]) (Hc (f:=G0) (xs:=r6) (y:=y11) O O O Gh hy11 hm12) O (JLh (G0 y11) (Gi Ge O O O) O (Qk (G0 y11) O (G7 (hK10 (Gu (fin1 G0 h))))))

def Zy (s:Gw) (column:Int):Option Int:=
 Yj s.Columns column fun y4=>
 bif y4.Deck then
 (some (-1))
 else
 (bnd (Yr s column) fun r8=>
  some r8)
theorem H01 (s:Gw) (column:Int) (r:Int) (h:Zy s column=some r):Pure Ek 27 [.agg (Gw.cs s),G0 column] (·=G0 r):=by
 unfold Zy at h
 refine H1 [.tmp 4] Tryz.func27 O O (Jr fun hK1=>(JLh (.ptr 1050 0) (Jn (cs:=(Gw.cs s)) 1050 O O O O O) O (Qk (G0 0) O (G7 (hK1 (Gt [(1,G0 column),(2,Ec s)] [] 1050 rfl rfl rfl G rfl (by exact⟨.conv (.same rfl),.ptr,G⟩) (Js fun hK2=>?_)))))))
 refine Jr fun hK3=>(JLh (Ec s) (Gc Hk O O O) O (JLh (E7 s.Columns) (Gi J2 O O O) O (Qk (G0 column) O ?_)))
 obtain⟨m5,y4,hm5,hy4,h⟩:=Y6 h
 refine JLh (Ee y4) (Hc (f:=G3.av) (xs:=s.Columns) (y:=y4) O O O Hq hy4 hm5) O (JLh (.dptr ((G3.cs y4).drop 2)) (Gc Rm O O O) O (JLh (BL y4.Deck) (Gi Q7 O O O) O (G7 (hK3 (JCc O h (fun h hb=>?_) (fun h hb=>?_))))))
 ·
  refine Jr fun hK6=>(Qk (G0 (-1)) O (G7 (hK6 (Gu (fin1 G0 h)))))
 ·
  refine Gs (hK2 (Jr fun hK7=>(JLh (.agg (Gw.cs s)) (Gj Hd O O O) O (Qk (G0 column) O ?_))))
  obtain⟨r8,hr8,h⟩:=Gf h
  refine JLh (G0 r8) (Gv O (Gbe s column r8 hr8) Hd3 ⟨O,O,O,O,G⟩) O (Qk (G0 r8) O (G7 (hK7 (Gu (fin1 G0 h)))))

def Zj (c:G3) (p1:Bool) (p2:Gw) (p3:Int):Option Bool:=
 bnd (bif (c.Deck==p1) then Yj p2.Covers p3 some else some default) fun y3=>
 bnd (bif (c.Deck==p1) then Z6 y3 c else some default) fun r4=>
 some ((c.Deck==p1)&&r4)
theorem H84 (c:G3) (p1:Bool) (p2:Gw) (p3:Int) (r:Bool) (h:Zj c p1 p2 p3=some r):Pure Ek 104 [.agg (G3.cs c),.dptr [BL p1],Ec p2,.dptr [G0 p3]] (·=BL r):=by
 unfold Zj at h
 refine H1 [.tmp 5] Tryz.func104 O O (Jr fun hK1=>(JLh (.ptr 1112 0) (Jn (cs:=(G3.cs c)) 1112 O O O O O) O (Qk (BL false) O (G7 (hK1 (Gt [(1,.dptr [BL p1]),(2,Ec p2),(3,.dptr [G0 p3]),(4,Ee c)] [] 1112 rfl rfl rfl G rfl (by repeat' (first | exact .ptr | constructor)) (Js fun hK2=>?_)))))))
 obtain⟨y3,hy3,h⟩:=Gf h
 obtain⟨r4,hr4,h⟩:=Gf h
 refine JC_d0 Qb (by kernel_rfl) (Dq (.dptr [BL c.Deck,G0 c.Tiers,G0 c.Height,G0 c.Kilos20,G0 c.Kilos40,G0 c.Lash,E0 c.Plugs,G0 c.X,G0 c.Y,G0 c.Z]) (Gc Rm O O O) O (Dq (BL c.Deck) (Gi Q7 O O O) O (Dq (BL p1) (Gi Q7 O O O) O (Dq (BL (c.Deck==p1)) (J15 H72 O O O) O (Dq (BL (c.Deck==p1)) (G6 O O) O (Do (.dptr ((Gw.cs p2).drop 1)) [] O .sct G (fun hc=>Gc Qc O O O) O (Do (E6 p2.Covers) [11] O .sct ⟨Ua,G⟩ (fun hc=>Gi Rh O O O) O (Do (G0 p3) [] O .sct G (fun hc=>Gi Ge O O O) O (Do (.dptr [G0 y3.Bay,E0 y3.Rows]) [12,13] O .sct ⟨Ua,Ua,G⟩ (fun hc=>(match Rt (H6 hc hy3) with | ⟨_,hm_,hy_⟩=>Hc (f:=G9.av) (xs:=p2.Covers) (y:=y3) O O O Q6 hy_ hm_)) O (Do (.agg [G0 y3.Bay,E0 y3.Rows]) [14] O .sct ⟨Ua,G⟩ (fun hc=>Gj Gb4 O O O) O (Do (.agg (G3.cs c)) [] O .sct G (fun hc=>Gj G22 O O O) O (Do (BL r4) [15,16] O .sct ⟨Ua,Ua,G⟩ (fun hc=>Gv (args:=[.agg [G0 y3.Bay,E0 y3.Rows],.agg (G3.cs c)]) O (Ge4 y3 c r4 (H6 hc hr4)) Hcc ⟨O,O,O,O,G⟩) O (Dq (BL ((c.Deck==p1)&&r4)) (Qi O O O O) O ?_)))))))))))))
 refine Dq (BL ((c.Deck==p1)&&r4)) (G8 O O) O (Dnil (hK2 (Gu (fin1 BL h))))

def Jk (l:List G3) (wanted:G3→Option Bool):Option (List Int):=
 each (fun y21 i21 (s21:(List Int)) nx21=>
  jp (fun kj24=>
   bnd (wanted y21) fun r27=>
   bif r27 then
   (need (decide ((s21.length+[(i21:Int)].length)*8≤140737488355328∧s21.length+[(i21:Int)].length≤maxLen)) <|
    kj24 (s21++[(i21:Int)]))
   else
   (kj24 s21)) fun(j24:(List Int))=>
  nx21 j24)
 (fun(s21:(List Int))=>
  some s21) l 0 []
theorem G04 (l:List G3) (wanted:G3→Option Bool) (wanted_f:FuncId) (wanted_c:List AV) (wanted_B:Hb Ek wanted_f=true) (wanted_d:R8 (fun _=>false) wanted_c=true) (wanted_w:∀ a0 q,wanted a0=some q→Pure Ek wanted_f ([.agg (G3.cs a0)]++wanted_c) (·=BL q)) (r:(List Int)) (h:Jk l wanted=some r):Pure Ek 77 [E7 l,.fn wanted_f wanted_c] (·=E0 r):=by
 unfold Jk at h
 refine H1 [.tmp 4] Tryz.func77 O O (Jr fun hK1=>(JLh (E0 ([]:List Int)) (Hj 1 O O) O (G7 (hK1 (Jr fun hK2=>(JLh (OW 1096 1 G0 ([]:List Int)) (G5d 1096 3 1 O O O) O (G7 (hK2 (Js fun hK3=>Jr fun hK4=>(Qk (E7 l) O (JLl Hq O O O fun hm9=>(Qk (G0 0) O (G7 (hK4 (Gx ?_)))))))))))))))
 obtain⟨b21,kx21,hb21,hkx21,h⟩:=Jh h
 refine Hz (fun i21 (s21:(List Int))=>each b21 kx21 (List.drop i21 l) i21 s21=some r) (fun i21 s21=>[(1,.fn wanted_f wanted_c),(5,OW 1096 1 G0 s21),(8,E7 l),(9,Ej l.length),(10,Ej i21)]) (fun i21 s21=>[(1096,.spare 3 1 s21.length s21.length)]) (fun i21=>l.length - i21) 0 [] h ⟨⟨.same (Jg _ _ wanted_d),.same O,.same O,.same O,.same O,G⟩,⟨⟨_,O,.same⟩,G⟩,O⟩ ?_
 clear h
 intro i21 s21 hi21 K21 e21
 refine Jr fun hK22=>(JLh (BL (decide ((i21:Int) < (l.length:Int)))) (Jm O O O) O (G7 (hK22 (Js fun hK23=>Gm O (fun hb=>?_) (fun hb=>?_)))))
 ·
  have hk21:=Q4 hb
  obtain⟨y21,nx21,hy21,hn21,h⟩:=J3 hi21 hk21
  replace h:=Zv hb21 h
  refine Gs (hK23 ?_)
  obtain⟨kj24,hkj24,h⟩:=Z8 h
  refine Ry (fun j24:(List Int)=>kj24 j24=some r) (fun j24=>[(1,.fn wanted_f wanted_c),(5,OW 1096 1 G0 j24),(8,E7 l),(9,Ej l.length),(10,Ej i21)]) (fun j24=>[(1096,.spare 3 1 j24.length j24.length)]) (fun Kj24 ej24=>?_) ?_
  ·
   refine Gx (Jr fun hK25=>(Qk (Ej i21) O (JLh (Ee y21) (Hc (f:=G3.av) (xs:=l) (y:=y21) O O O Hq hy21 O) O (JLh (.agg (G3.cs y21)) (Gj G22 O O O) O (JLh (.ptr 1097 0) (Jd 1097 12 Zc O O) O (Qk (Ej i21) O (J5 (u:=.junk) (Hp (u:=.agg (G3.cs y21)) (ds:=(G3.cs y21)) Gc5 O O O O O O O O) (G7 (hK25 ?_)))))))))
   refine Gt [(1,.fn wanted_f wanted_c),(5,OW 1096 1 G0 s21),(6,Ej i21),(7,Ee y21),(8,E7 l),(9,Ej l.length),(10,Ej i21)] [(1096,.spare 3 1 s21.length s21.length)] 1097 rfl rfl rfl ⟨⟨_,rfl,.same⟩,G⟩ rfl (by exact⟨.conv (.same (Jg _ _ wanted_d)),.conv (.same rfl),.conv (.same rfl),.ptr,.conv (.same rfl),.conv (.same rfl),.conv (.same rfl),G⟩) (Jr fun hK26=>(Qk (.fn wanted_f wanted_c) O (JLh (.agg (G3.cs y21)) (Gj G22 O O O) O ?_)))
   obtain⟨r27,hr27,h⟩:=Gf h
   refine JLh (BL r27) (G15 (args:=[.agg (G3.cs y21)]) (caps:=wanted_c) O O (wanted_w y21 _ hr27) wanted_B ⟨O,O,G⟩ wanted_d) O (G7 (hK26 (JCc O h (fun h hb=>?_) (fun h hb=>?_))))
   ·
    refine G4 (Qk (OW 1096 1 G0 s21) O (Qk (Ej i21) O (JLh (E0 [(i21:Int)]) (H4 (xs:=[Ej i21]) O ⟨O,O,G⟩ Gh Jj O O O O) O ?_)))
    obtain⟨ha28,h⟩:=Jf h
    refine JLh (OW 1096 1 G0 (s21++[(i21:Int)])) (Y2 (f:=G0) (xs:=s21) (ys:=[(i21:Int)]) O O O O Gh Rs ha28 (fun _=>O) (.inl O) O) O (Qk (OW 1096 1 G0 (s21++[(i21:Int)])) O (G7 (ej24 _ _ (s21++[(i21:Int)]) h ⟨⟨.same (Jg _ _ wanted_d),.same O,.same O,.same O,.same O,G⟩,⟨⟨_,O,.same⟩,G⟩,O⟩)))
   ·
    refine Gs (ej24 _ _ s21 h ⟨⟨.same (Jg _ _ wanted_d),.same O,.same O,.same O,.same O,G⟩,⟨⟨_,O,.same⟩,G⟩,O⟩)
  ·intro j24 h
   replace h:=app1 hkj24 h
   refine G4 (JLh (G0 ((i21+1:Nat):Int)) (Hu (Hs hk21 hm9) O O O) O (Qk (G0 ((i21+1:Nat):Int)) O (G7 (e21 _ _ (i21+1) j24 (app1 hn21 h) (by omega) ⟨⟨.same (Jg _ _ wanted_d),.same rfl,.same rfl,.same rfl,.same rfl,G⟩,⟨⟨_,rfl,.same⟩,G⟩,rfl⟩))))
 ·
  have h:=app1 hkx21 (J4 hi21 (Hh hb))
  refine J9 (hK3 (Jr fun hK29=>(Qk (OW 1096 1 G0 s21) O (Qk (OW 1096 1 G0 s21) O (G7 (hK29 (Gu (fin1l (fun r:(List Int)=>(E0 r:AV)) h))))))))

def G76 (s:Gw) (cover:Int) (deck:Bool):Option (List Int):=
 bif ((decide (cover < 0))||(decide ((s.Covers.length:Int)≤cover))) then
 (some [])
 else
 (bnd (Jk s.Columns (fun z0=>Zj z0 deck s cover)) fun r6=>
  some r6)
theorem J09 (s:Gw) (cover:Int) (deck:Bool) (r:(List Int)) (h:G76 s cover deck=some r):Pure Ek 83 [.agg (Gw.cs s),G0 cover,BL deck] (·=E0 r):=by
 unfold G76 at h
 refine H1 [.tmp 6] Tryz.func83 O O (Jr fun hK1=>(JLh (.ptr 1105 0) (Jn (cs:=(Gw.cs s)) 1105 O O O O O) O (JLh (.ptr 1106 0) (Jn (cs:=[G0 cover]) 1106 O O O O O) O (JLh (.ptr 1107 0) (Jn (cs:=[BL deck]) 1107 O O O O O) O (JLh (E0 ([]:List Int)) (Hj 1 O O) O (G7 (hK1 ?_)))))))
 refine Gt [(3,Ec s),(4,.ptr 1106 0),(5,.ptr 1107 0)] [(1106,.box 3 [G0 cover]),(1107,.box 4 [BL deck])] 1105 rfl rfl rfl ⟨⟨_,rfl,.boxEq rfl rfl⟩,⟨_,rfl,.boxEq rfl rfl⟩,G⟩ rfl (by exact⟨.ptr,.conv (.same rfl),.conv (.same rfl),G⟩) ?_
 refine Gt [(3,Ec s),(4,.dptr [G0 cover]),(5,.ptr 1107 0)] [(1107,.box 4 [BL deck])] 1106 rfl rfl rfl ⟨⟨_,rfl,.boxEq rfl rfl⟩,G⟩ rfl (by exact⟨.conv (.same rfl),.ptr,.conv (.same rfl),G⟩) ?_
 refine Gt [(3,Ec s),(4,.dptr [G0 cover]),(5,.dptr [BL deck])] [] 1107 rfl rfl rfl G rfl (by exact⟨.conv (.same rfl),.conv (.same rfl),.ptr,G⟩) (Js fun hK2=>?_)
 refine Jr fun hK3=>(JLh (G0 cover) (Gi Ge O O O) O (JLh (BL (decide (cover < 0))) (Jm O O O) O (Qk (BL (decide (cover < 0))) O (JLo (G0 cover) [] O .scf G (fun hc=>Gi Ge O O O) O (JLo (.dptr [E6 s.Covers,G0 s.Light.Kilos,G0 s.Light.X,G0 s.Light.Y,G0 s.Light.Z,E3 s.Rows,E4 s.Frames,E5 s.Tanks,G0 s.G2.Tolerance,G0 s.G2.Trim,G0 s.G2.List_,G0 s.G2.Stability]) [] O .scf G (fun hc=>Gc Qc O O O) O (JLo (E6 s.Covers) [11] O .scf ⟨Ua,G⟩ (fun hc=>Gi Rh O O O) O (JLo (Ej s.Covers.length) [12] O .scf ⟨Ua,G⟩ (fun hc=>Zp (f:=G9.av) (xs:=s.Covers) Q6 O O) O (JLo (BL (decide ((s.Covers.length:Int)≤cover))) [10,13] O .scf ⟨Ua,Ua,G⟩ (fun hc=>G95 O O O) O (JLh (BL ((decide (cover < 0))||(decide ((s.Covers.length:Int)≤cover)))) (G5c O O O O) O (G7 (hK3 ?_)))))))))))
 refine JCc O h (fun h hb=>?_) (fun h hb=>?_)
 ·
  refine Jr fun hK4=>(JLh (E0 ([]:List Int)) (Hj 1 O O) O (G7 (hK4 (Gu (fin1 (fun r:(List Int)=>(E0 r:AV)) h)))))
 ·
  refine Gs (hK2 ?_)
  refine Jr fun hK5=>(JLh (Ec s) (Gc Hk O O O) O (JLh (E7 s.Columns) (Gi J2 O O O) O (JLh (.fn 104 [.dptr [BL deck],Ec s,.dptr [G0 cover]]) (Yh (cs:=[.dptr [BL deck],Ec s,.dptr [G0 cover]]) O O) O ?_)))
  obtain⟨r6,hr6,h⟩:=Gf h
  refine JLh (E0 r6) (Gv O (G04 s.Columns (fun z0=>Zj z0 deck s cover) 104 [.dptr [BL deck],Ec s,.dptr [G0 cover]] J3a O (fun z0 q hq=>H84 z0 deck s cover q hq) r6 hr6) Hcd ⟨O,O,O,O,G⟩) O (Qk (E0 r6) O (G7 (hK5 (Gu (fin1 (fun r:(List Int)=>(E0 r:AV)) h)))))

def G59 (s:Gw) (cover:Int):Option (List Int):=
 bnd (G76 s cover true) fun r3=>
 some r3
theorem M_ship_Upon_w (s:Gw) (cover:Int) (r:(List Int)) (h:G59 s cover=some r):Pure Ek 55 [.agg (Gw.cs s),G0 cover] (·=E0 r):=by
 unfold G59 at h
 refine H1 [.tmp 4] Tryz.func55 O O (Jr fun hK1=>(JLh (.ptr 1088 0) (Jn (cs:=(Gw.cs s)) 1088 O O O O O) O (JLh (E0 ([]:List Int)) (Hj 1 O O) O (G7 (hK1 (Gt [(1,G0 cover),(2,Ec s)] [] 1088 rfl rfl rfl G rfl (by exact⟨.conv (.same rfl),.ptr,G⟩) ?_))))))
 refine Jr fun hK2=>(JLh (.agg (Gw.cs s)) (Gj Hd O O O) O (Qk (G0 cover) O ?_))
 obtain⟨r3,hr3,h⟩:=Gf h
 refine JLh (E0 r3) (Gv O (J09 s cover true r3 hr3) J5d ⟨O,O,O,O,O,O,G⟩) O (Qk (E0 r3) O (G7 (hK2 (Gu (fin1 (fun r:(List Int)=>(E0 r:AV)) h)))))

def Qz (s:List Int) (v:Int):Option Int:=
 each (fun y18 i18 (s18:Unit) nx18=>
  bif decide (v=y18) then
  (some (i18:Int))
  else
  (nx18 ()))
 (fun(s18:Unit)=>
  some (-1)) s 0 ()
theorem H04 (s:List Int) (v:Int) (r:Int) (h:Qz s v=some r):Pure Ek 64 [E0 s,G0 v] (·=G0 r):=by
 unfold Qz at h
 refine H1 [.tmp 4] Tryz.func64 O O (Jr fun hK1=>(Qk (G0 0) O (G7 (hK1 (Js fun hK2=>Jr fun hK3=>(Qk (E0 s) O (JLl Gh O O O fun hm7=>(Qk (G0 0) O (G7 (hK3 (Gx ?_)))))))))))
 obtain⟨b18,kx18,hb18,hkx18,h⟩:=Jh h
 refine Hz (fun i18 (s18:Unit)=>each b18 kx18 (List.drop i18 s) i18 s18=some r) (fun i18 s18=>[(0,E0 s),(1,G0 v),(7,Ej s.length),(8,Ej i18)]) (fun i18 s18=>[]) (fun i18=>s.length - i18) 0 () h ⟨(by repeat' constructor),G,rfl⟩ ?_
 clear h
 intro i18 s18 hi18 K18 e18
 refine Jr fun hK19=>(JLh (BL (decide ((i18:Int) < (s.length:Int)))) (Jm O O O) O (G7 (hK19 (Js fun hK20=>Gm O (fun hb=>?_) (fun hb=>?_)))))
 ·
  have hk18:=Q4 hb
  obtain⟨y18,nx18,hy18,hn18,h⟩:=J3 hi18 hk18
  replace h:=Zv hb18 h
  refine Gs (hK20 (Js fun hK21=>Gx (Jr fun hK22=>(Qk (Ej i18) O (Qk (Ej i18) O (G7 (hK22 (Jr fun hK23=>(Qk (G0 v) O (Qk (E0 s) O (Qk (Ej i18) O (JLh (.dptr [G0 y18]) (Hc (f:=G0) (xs:=s) (y:=y18) O O O Gh hy18 O) O (JLh (G0 y18) (Gi Ge O O O) O (JLh (BL (decide (v=y18))) (Jz O O O) O (G7 (hK23 (JCc O h (fun h hb=>?_) (fun h hb=>?_))))))))))))))))))
  ·
   refine Jr fun hK24=>(Qk (Ej i18) O (Qk (Ej i18) O (G7 (hK24 (Gu (fin1 G0 h))))))
  ·
   refine Gs (hK21 (G4 (JLh (G0 ((i18+1:Nat):Int)) (Hu (Hs hk18 hm7) O O O) O (Qk (G0 ((i18+1:Nat):Int)) O (G7 (e18 _ _ (i18+1) () (app1 hn18 h) (by omega) ⟨(by repeat' constructor),G,rfl⟩))))))
 ·
  have h:=app1 hkx18 (J4 hi18 (Hh hb))
  refine J9 (hK2 (Jr fun hK25=>(Qk (G0 (-1)) O (G7 (hK25 (Gu (fin1 G0 h)))))))

def Jq (s:List Int) (v:Int):Option Bool:=
 bnd (Qz s v) fun r3=>
 some (decide (0≤r3))
theorem Yp (s:List Int) (v:Int) (r:Bool) (h:Jq s v=some r):Pure Ek 36 [E0 s,G0 v] (·=BL r):=by
 unfold Jq at h
 refine H1 [.tmp 4] Tryz.func36 O O (Jr fun hK1=>(Qk (BL false) O (G7 (hK1 (Jr fun hK2=>(Qk (E0 s) O (Qk (G0 v) O ?_)))))))
 obtain⟨r3,hr3,h⟩:=Gf h
 refine JLh (G0 r3) (Gv O (H04 s v r3 hr3) J6a ⟨O,O,O,O,G⟩) O (JLh (BL (decide (0≤r3))) (G95 O O O) O (Qk (BL (decide (0≤r3))) O (G7 (hK2 (Gu (fin1 BL h))))))

def G24 (s:Gw) (l:List Stowed) (cover:Int):Option (List Int):=
 bnd (G59 s cover) fun r3=>
 each (fun y23 i23 (s23:(List Int)) nx23=>
  jp (fun kj26=>
   bnd (Jq r3 y23.Slot.G3) fun r29=>
   bif r29 then
   (need (decide ((s23.length+[y23.Gb].length)*8≤140737488355328∧s23.length+[y23.Gb].length≤maxLen)) <|
    kj26 (s23++[y23.Gb]))
   else
   (kj26 s23)) fun(j26:(List Int))=>
  nx23 j26)
 (fun(s23:(List Int))=>
  some s23) l 0 []
theorem H23 (s:Gw) (l:List Stowed) (cover:Int) (r:(List Int)) (h:G24 s l cover=some r):Pure Ek 29 [.agg (Gw.cs s),E1 l,G0 cover] (·=E0 r):=by
 unfold G24 at h
 refine H1 [.tmp 6] Tryz.func29 O O (Jr fun hK1=>(JLh (.ptr 1052 0) (Jn (cs:=(Gw.cs s)) 1052 O O O O O) O (JLh (E0 ([]:List Int)) (Hj 1 O O) O (G7 (hK1 (Gt [(1,E1 l),(2,G0 cover),(3,Ec s)] [] 1052 rfl rfl rfl G rfl (by exact⟨.conv (.same rfl),.conv (.same rfl),.ptr,G⟩) ?_))))))
 refine Jr fun hK2=>(JLh (.agg (Gw.cs s)) (Gj Hd O O O) O (Qk (G0 cover) O ?_))
 obtain⟨r3,hr3,h⟩:=Gf h
 refine JLh (E0 r3) (Gv O (M_ship_Upon_w s cover r3 hr3) J6c ⟨O,O,O,O,G⟩) O (Qk (E0 r3) O (G7 (hK2 (Jr fun hK4=>(JLh (OW 1053 1 G0 ([]:List Int)) (G5d 1053 3 1 O O O) O (G7 (hK4 (Js fun hK5=>Jr fun hK6=>(Qk (E1 l) O (JLl H9 O O O fun hm15=>(Qk (G0 0) O (G7 (hK6 (Gx ?_))))))))))))))
 obtain⟨b23,kx23,hb23,hkx23,h⟩:=Jh h
 refine Hz (fun i23 (s23:(List Int))=>each b23 kx23 (List.drop i23 l) i23 s23=some r) (fun i23 s23=>[(7,E0 r3),(8,OW 1053 1 G0 s23),(14,E1 l),(15,Ej l.length),(16,Ej i23)]) (fun i23 s23=>[(1053,.spare 3 1 s23.length s23.length)]) (fun i23=>l.length - i23) 0 [] h ⟨(by repeat' constructor),⟨⟨_,rfl,.same⟩,G⟩,rfl⟩ ?_
 clear h
 intro i23 s23 hi23 K23 e23
 refine Jr fun hK24=>(JLh (BL (decide ((i23:Int) < (l.length:Int)))) (Jm O O O) O (G7 (hK24 (Js fun hK25=>Gm O (fun hb=>?_) (fun hb=>?_)))))
 ·
  have hk23:=Q4 hb
  obtain⟨y23,nx23,hy23,hn23,h⟩:=J3 hi23 hk23
  replace h:=Zv hb23 h
  refine Gs (hK25 ?_)
  obtain⟨kj26,hkj26,h⟩:=Z8 h
  refine Ry (fun j26:(List Int)=>kj26 j26=some r) (fun j26=>[(7,E0 r3),(8,OW 1053 1 G0 j26),(14,E1 l),(15,Ej l.length),(16,Ej i23)]) (fun j26=>[(1053,.spare 3 1 j26.length j26.length)]) (fun Kj26 ej26=>?_) ?_
  ·
   refine Gx (Jr fun hK27=>(JLh (Ed y23) (Hc (f:=Stowed.av) (xs:=l) (y:=y23) O O O H9 hy23 O) O (JLh (.agg (Stowed.cs y23)) (Gj Ym O O O) O (JLh (.ptr 1054 0) (Jd 1054 4 R5 O O) O (J5 (u:=.junk) (Hp (u:=.agg (Stowed.cs y23)) (ds:=[G0 y23.Gb,G0 y23.Slot.G3,G0 y23.Slot.Tier,U8 y23.Slot.Half]) Zd O O O O O O O O) (G7 (hK27 (Gt [(7,E0 r3),(8,OW 1053 1 G0 s23),(10,Ed y23),(14,E1 l),(15,Ej l.length),(16,Ej i23)] [(1053,.spare 3 1 s23.length s23.length)] 1054 rfl rfl rfl ⟨⟨_,rfl,.same⟩,G⟩ rfl (by repeat' (first | exact .ptr | constructor)) ?_))))))))
   refine Jr fun hK28=>(Qk (E0 r3) O (JLh (.dptr ((Stowed.cs y23).drop 1)) (Gc Hx O O O) O (JLh (.dptr ((Stowed.cs y23).drop 1)) (Gc Jc O O O) O (JLh (G0 y23.Slot.G3) (Gi Ge O O O) O ?_))))
   obtain⟨r29,hr29,h⟩:=Gf h
   refine JLh (BL r29) (Gv O (Yp r3 y23.Slot.G3 r29 hr29) H2f ⟨O,O,O,O,G⟩) O (G7 (hK28 (JCc O h (fun h hb=>?_) (fun h hb=>?_))))
   ·
    refine G4 (Qk (OW 1053 1 G0 s23) O (JLh (Ed y23) (Gc Hr O O O) O (JLh (G0 y23.Gb) (Gi Ge O O O) O (JLh (E0 [y23.Gb]) (H4 (xs:=[G0 y23.Gb]) O ⟨O,O,G⟩ Gh Jj O O O O) O ?_))))
    obtain⟨ha30,h⟩:=Jf h
    refine JLh (OW 1053 1 G0 (s23++[y23.Gb])) (Y2 (f:=G0) (xs:=s23) (ys:=[y23.Gb]) O O O O Gh Rs ha30 (fun _=>O) (.inl O) O) O (Qk (OW 1053 1 G0 (s23++[y23.Gb])) O (G7 (ej26 _ _ (s23++[y23.Gb]) h ⟨(by repeat' constructor),⟨⟨_,rfl,.same⟩,G⟩,rfl⟩)))
   ·
    refine Gs (ej26 _ _ s23 h ⟨(by repeat' constructor),⟨⟨_,rfl,.same⟩,G⟩,rfl⟩)
  ·intro j26 h
   replace h:=app1 hkj26 h
   refine G4 (JLh (G0 ((i23+1:Nat):Int)) (Hu (Hs hk23 hm15) O O O) O (Qk (G0 ((i23+1:Nat):Int)) O (G7 (e23 _ _ (i23+1) j26 (app1 hn23 h) (by omega) ⟨(by repeat' constructor),⟨⟨_,rfl,.same⟩,G⟩,rfl⟩))))
 ·
  have h:=app1 hkx23 (J4 hi23 (Hh hb))
  refine J9 (hK5 (Jr fun hK31=>(Qk (OW 1053 1 G0 s23) O (Qk (OW 1053 1 G0 s23) O (G7 (hK31 (Gu (fin1l (fun r:(List Int)=>(E0 r:AV)) h))))))))
end
end Go.Proofs.YtbljcmgjmieffaaGreat
