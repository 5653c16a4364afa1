/-
 Models of functions of the program,and that they return what the models say.
-/
import Derived.Test.YtapmanciffiibaaGreatSpecW
set_option linter.unnecessarySimpa false
set_option maxRecDepth 100000
set_option linter.unusedVariables false
set_option linter.unusedSimpArgs false
namespace Go.Proofs.YtapmanciffiibaaGreat
open Go.RowKit
noncomputable section
structure Ga where
 ID:Int
 Number:ByteArray
 Size:Int
 High:Bool
 Kilos:Int
 Load:Int
 Discharge:Int
 Class:Int
 Reefer:Bool
 deriving DecidableEq,Inhabited
def Ga.cs (x:Ga):List AV:=[G0 x.ID,ST x.Number,U8 x.Size,BL x.High,G0 x.Kilos,G0 x.Load,G0 x.Discharge,U8 x.Class,BL x.Reefer]
def Ga.av (x:Ga):AV:=.agg x.cs
abbrev Eh (x:Ga):AV:=.dptr (Ga.cs x)
abbrev E2:=LS 9 Ga.av
namespace XGF
open XAF
open XCF
theorem tq_44 (a b:Slot):H6d Ek 4 44 [.int .i64 a.G3,.int .i64 a.Tier,.int .u8 a.Half] [.int .i64 b.G3,.int .i64 b.Tier,.int .u8 b.Half]=some (decide (a=b)):=by
 refine(show _=some ((a.G3==b.G3)&&((a.Tier==b.Tier)&&((a.Half==b.Half)&&true))) by kernel_rfl).trans (congrArg some ?_)
 rw [Bool.eq_iff_iff]
 simp only [Bool.and_eq_true,beq_iff_eq,decide_eq_true_eq,Bool.and_true]
 constructor
 ·intro h; obtain⟨_,_,_⟩:=a; obtain⟨_,_,_⟩:=b; simp_all
 ·intro h; subst h; simp
theorem Hf:G73 Ek 36 13=true:=by kernel_rfl
theorem Q2:G73 Ek 44 3=true:=by kernel_rfl
theorem Yz:G73 Ek 46 4=true:=by kernel_rfl
theorem G86:G73 Ek 61 9=true:=by kernel_rfl
theorem J50:Z2 Ek 44=true:=by kernel_rfl
theorem H7f:Hb1 Ek 4=true:=by kernel_rfl
theorem Gd7:Hc Ek 13=true:=by kernel_rfl
theorem H3f:Hc Ek 14=true:=by kernel_rfl
theorem Hea:Hc Ek 15=true:=by kernel_rfl
theorem He9:Hc Ek 16=true:=by kernel_rfl
theorem G4a:Hc Ek 17=true:=by kernel_rfl
theorem He8:Hc Ek 18=true:=by kernel_rfl
theorem J8f:Hc Ek 19=true:=by kernel_rfl
theorem J8d:Hc Ek 22=true:=by kernel_rfl
theorem He6:Hc Ek 23=true:=by kernel_rfl
theorem H3e:Hc Ek 24=true:=by kernel_rfl
theorem He5:Hc Ek 25=true:=by kernel_rfl
theorem He4:Hc Ek 26=true:=by kernel_rfl
theorem He3:Hc Ek 27=true:=by kernel_rfl
theorem He2:Hc Ek 28=true:=by kernel_rfl
theorem J89:Hc Ek 36=true:=by kernel_rfl
theorem He0:Hc Ek 37=true:=by kernel_rfl
theorem Hdf:Hc Ek 38=true:=by kernel_rfl
theorem J88:Hc Ek 39=true:=by kernel_rfl
theorem J87:Hc Ek 40=true:=by kernel_rfl
theorem H3c:Hc Ek 41=true:=by kernel_rfl
theorem J81:Hc Ek 49=true:=by kernel_rfl
theorem J80:Hc Ek 50=true:=by kernel_rfl
theorem J7f:Hc Ek 51=true:=by kernel_rfl
theorem H3b:Hc Ek 53=true:=by kernel_rfl
theorem J7e:Hc Ek 54=true:=by kernel_rfl
theorem Hdd:Hc Ek 55=true:=by kernel_rfl
theorem Hdc:Hc Ek 56=true:=by kernel_rfl
theorem Hda:Hc Ek 62=true:=by kernel_rfl
theorem J77:Hc Ek 65=true:=by kernel_rfl
theorem J76:Hc Ek 66=true:=by kernel_rfl
theorem Hd9:Hc Ek 67=true:=by kernel_rfl
theorem J75:Hc Ek 68=true:=by kernel_rfl
theorem J74:Hc Ek 69=true:=by kernel_rfl
theorem J72:Hc Ek 86=true:=by kernel_rfl
theorem J71:Hc Ek 87=true:=by kernel_rfl
theorem J70:Hc Ek 88=true:=by kernel_rfl
theorem H14:Hc Ek 9=true:=by kernel_rfl
theorem J6c:Hc Ek 92=true:=by kernel_rfl
theorem J6b:Hc Ek 93=true:=by kernel_rfl
theorem J6a:Hc Ek 94=true:=by kernel_rfl
theorem Hd6:R3 Ek 44 3 24=true:=by kernel_rfl
theorem tf_eqg_44:Ek.eqGuardType Ek.depth 44=false:=by kernel_rfl
theorem Jd:J7 Ek 44 0 0=true:=by kernel_rfl
theorem Y0:J7 Ek 44 1 1=true:=by kernel_rfl
theorem R6:J7 Ek 44 2 2=true:=by kernel_rfl
theorem Jq:J7 Ek 46 0 0=true:=by kernel_rfl
theorem J4:J7 Ek 46 1 1=true:=by kernel_rfl
theorem G59:J7 Ek 61 0 0=true:=by kernel_rfl
theorem Zg:J7 Ek 61 2 2=true:=by kernel_rfl
theorem H29:J7 Ek 61 3 3=true:=by kernel_rfl
theorem H7e:G42 Ek 65 3 67=true:=by kernel_rfl
theorem Ry:placesOf Ek 61=some [(0,1),(1,1),(2,1),(3,1),(4,1),(5,1),(6,1),(7,1),(8,1)]:=by kernel_rfl
theorem J3e:placesOf Ek 67=some []:=by kernel_rfl
theorem Qv:Qs Ek 39=true:=by kernel_rfl
theorem Gd2:Qs Ek 62=true:=by kernel_rfl
theorem Gd1:Qs Ek 65=true:=by kernel_rfl
theorem Gd0:Qs Ek 66=true:=by kernel_rfl
theorem H3a:Qt Ek 44 3=true:=by kernel_rfl
theorem Zv:Qt Ek 46 4=true:=by kernel_rfl
theorem G48:Qt Ek 61 9=true:=by kernel_rfl
theorem J65:Qt Ek 65 1=true:=by kernel_rfl
theorem J64:Qt Ek 66 1=true:=by kernel_rfl
theorem J63:Qt Ek 67 0=true:=by kernel_rfl
theorem G28:sliceB Ek 38 61 9=true:=by kernel_rfl
theorem Ri:sliceB Ek 62 44 3=true:=by kernel_rfl
theorem Yk:(Ek.info? 61).bind (fun i=>i.zero.map Value.cells)=some (List.toArray [.int .i64 0,.string ByteArray.empty,.int .u8 0,.bool false,.int .i64 0,.int .i64 0,.int .i64 0,.int .u8 0,.bool false]):=by kernel_rfl
theorem J60:(Ek.info? 67).bind (fun i=>i.zero.map Value.cells)=some (List.toArray []):=by kernel_rfl
theorem Qd:Qh Ek 3 1=true:=by kernel_rfl
theorem G64:Qh Ek 44 3=true:=by kernel_rfl
theorem Rg:Qh Ek 46 4=true:=by kernel_rfl
theorem G27:Qh Ek 61 9=true:=by kernel_rfl
theorem J4a:Qh Ek 65 1=true:=by kernel_rfl
theorem J49:Qh Ek 66 1=true:=by kernel_rfl
theorem J48:Qh Ek 67 0=true:=by kernel_rfl
theorem tf_zv_67:(Ek.info? 67).bind (·.zero)=some (.agg #[]):=by kernel_rfl
theorem tk_3:Ga8 Ek 3 (fun n:Int=>Value.int .i64 n):=Ga8.of_int (by kernel_rfl)
end XGF
open XAF
open XCF
open XGF

def G0d (l:List Stowed):Option (List Slot):=
 each (fun y17 i17 (s17:(List Slot)) nx17=>
  need (decide ((s17.length+[y17.Slot].length)*24≤140737488355328∧s17.length+[y17.Slot].length≤maxLen)) <|
  nx17 (s17++[y17.Slot]))
 (fun(s17:(List Slot))=>
  some s17) l 0 []
theorem H09 (l:List Stowed) (r:(List Slot)) (h:G0d l=some r):Pure Ek 23 [E1 l] (·=E8 r):=by
 unfold G0d at h
 refine H1 [.tmp 2] Tryz.func23 O O (Jr fun hK1=>(JLh (E8 ([]:List Slot)) (Hj 3 O O) O (G7 (hK1 (Jr fun hK2=>(JLh (OW 1052 3 Slot.av ([]:List Slot)) (G6d 1052 44 3 O O O) O (G7 (hK2 (Js fun hK3=>Jr fun hK4=>(Rq (E1 l) O (JLl Hd O O O fun hm7=>(Rq (G0 0) O (G7 (hK4 (Gv ?_)))))))))))))))
 obtain⟨b17,kx17,hb17,hkx17,h⟩:=Ja h
 refine Hr (fun i17 (s17:(List Slot))=>each b17 kx17 (List.drop i17 l) i17 s17=some r) (fun i17 s17=>[(3,OW 1052 3 Slot.av s17),(6,E1 l),(7,Ej l.length),(8,Ej i17)]) (fun i17 s17=>[(1052,.spare 44 3 s17.length s17.length)]) (fun i17=>l.length - i17) 0 [] h ⟨(by repeat' constructor),⟨⟨_,rfl,.same⟩,G⟩,rfl⟩ ?_
 clear h
 intro i17 s17 hi17 K17 e17
 refine Jr fun hK18=>(JLh (BL (decide ((i17:Int) < (l.length:Int)))) (Jc O O O) O (G7 (hK18 (Js fun hK19=>Gm O (fun hb=>?_) (fun hb=>?_)))))
 ·
  have hk17:=Jz hb
  obtain⟨y17,nx17,hy17,hn17,h⟩:=Hu hi17 hk17
  replace h:=Zr hb17 h
  refine Gp (hK19 (Js fun hK20=>Gv (Jr fun hK21=>(JLh (Ed y17) (He (f:=Stowed.av) (xs:=l) (y:=y17) O O O Hd hy17 O) O (JLh (.agg (Stowed.cs y17)) (Gk Yz O O O) O (JLh (.ptr 1053 0) (Jb 1053 4 Rg O O) O (J8 (u:=.junk) (Ht (u:=.agg (Stowed.cs y17)) (ds:=[G0 y17.Ga,G0 y17.Slot.G3,G0 y17.Slot.Tier,U8 y17.Slot.Half]) Zv O O O O O O O O) (G7 (hK21 (Gs [(3,OW 1052 3 Slot.av s17),(5,Ed y17),(6,E1 l),(7,Ej l.length),(8,Ej i17)] [(1052,.spare 44 3 s17.length s17.length)] 1053 rfl rfl rfl ⟨⟨_,rfl,.same⟩,G⟩ rfl (by repeat' (first | exact .ptr | constructor)) (G4 ?_)))))))))))
  refine Rq (OW 1052 3 Slot.av s17) O (JLh (.dptr ((Stowed.cs y17).drop 1)) (Gd J4 O O O) O (JLh (.agg ((Stowed.cs y17).drop 1)) (Gk Q2 O O O) O (JLh (E8 [y17.Slot]) (H9 (xs:=[.agg ((Stowed.cs y17).drop 1)]) O ⟨O,O,G⟩ Ri G64 O O O O) O ?_)))
  obtain⟨ha22,h⟩:=Jm h
  refine JLh (OW 1052 3 Slot.av (s17++[y17.Slot])) (Yb (f:=Slot.av) (xs:=s17) (ys:=[y17.Slot]) O O O O Ri Hd6 ha22 (fun _=>O) (.inl O) O) O (Rq (OW 1052 3 Slot.av (s17++[y17.Slot])) O (G7 (hK20 (G4 (JLh (G0 ((i17+1:Nat):Int)) (J0 (Ho hk17 hm7) O O O) O (Rq (G0 ((i17+1:Nat):Int)) O (G7 (e17 _ _ (i17+1) (s17++[y17.Slot]) (app1 hn17 h) (by omega) ⟨(by repeat' constructor),⟨⟨_,rfl,.same⟩,G⟩,rfl⟩))))))))
 ·
  have h:=app1 hkx17 (Hv hi17 (Hi hb))
  refine Hy (hK3 (Jr fun hK23=>(Rq (OW 1052 3 Slot.av s17) O (Rq (OW 1052 3 Slot.av s17) O (G7 (hK23 (Gt (fin1l (fun r:(List Slot)=>(E8 r:AV)) h))))))))

def G1e (b:Ga) (p1:Int):Option Bool:=
 some (decide (b.ID=p1))
theorem Hbd (b:Ga) (p1:Int) (r:Bool) (h:G1e b p1=some r):Pure Ek 50 [.agg (Ga.cs b),.dptr [G0 p1]] (·=BL r):=by
 unfold G1e at h
 refine H1 [.tmp 3] Tryz.func50 O O (Jr fun hK1=>(JLh (.ptr 1084 0) (Jf (cs:=(Ga.cs b)) 1084 O O O O O) O (Rq (BL false) O (G7 (hK1 (Gs [(1,.dptr [G0 p1]),(2,Eh b)] [] 1084 rfl rfl rfl G rfl (by exact⟨.conv (.same rfl),.ptr,G⟩) (Jr fun hK2=>(JLh (Eh b) (Gd G59 O O O) O (JLh (G0 b.ID) (Gi Ge O O O) O (JLh (G0 p1) (Gi Ge O O O) O (JLh (BL (decide (b.ID=p1))) (Qc O O O) O (Rq (BL (decide (b.ID=p1))) O (G7 (hK2 (Gt (fin1 BL h))))))))))))))))

def R2 (s:List Ga) (f:Ga→Option Bool):Option Int:=
 each (fun y20 i20 (s20:Unit) nx20=>
  bnd (f y20) fun r26=>
  bif r26 then
  (some (i20:Int))
  else
  (nx20 ()))
 (fun(s20:Unit)=>
  some (-1)) s 0 ()
theorem G81 (s:List Ga) (f:Ga→Option Bool) (f_f:FuncId) (f_c:List AV) (f_B:Hc Ek f_f=true) (f_d:Rj (fun _=>false) f_c=true) (f_w:∀ a0 q,f a0=some q→Pure Ek f_f ([.agg (Ga.cs a0)]++f_c) (·=BL q)) (r:Int) (h:R2 s f=some r):Pure Ek 49 [E2 s,.fn f_f f_c] (·=G0 r):=by
 unfold R2 at h
 refine H1 [.tmp 4] Tryz.func49 O O (Jr fun hK1=>(Rq (G0 0) O (G7 (hK1 (Js fun hK2=>Jr fun hK3=>(Rq (E2 s) O (JLl G28 O O O fun hm7=>(Rq (G0 0) O (G7 (hK3 (Gv ?_)))))))))))
 obtain⟨b20,kx20,hb20,hkx20,h⟩:=Ja h
 refine Hr (fun i20 (s20:Unit)=>each b20 kx20 (List.drop i20 s) i20 s20=some r) (fun i20 s20=>[(0,E2 s),(1,.fn f_f f_c),(7,Ej s.length),(8,Ej i20)]) (fun i20 s20=>[]) (fun i20=>s.length - i20) 0 () h ⟨⟨.same O,.same (Je _ _ f_d),.same O,.same O,G⟩,G,O⟩ ?_
 clear h
 intro i20 s20 hi20 K20 e20
 refine Jr fun hK21=>(JLh (BL (decide ((i20:Int) < (s.length:Int)))) (Jc O O O) O (G7 (hK21 (Js fun hK22=>Gm O (fun hb=>?_) (fun hb=>?_)))))
 ·
  have hk20:=Jz hb
  obtain⟨y20,nx20,hy20,hn20,h⟩:=Hu hi20 hk20
  replace h:=Zr hb20 h
  refine Gp (hK22 (Js fun hK23=>Gv (Jr fun hK24=>(Rq (Ej i20) O (Rq (Ej i20) O (G7 (hK24 (Jr fun hK25=>(Rq (.fn f_f f_c) O (Rq (E2 s) O (Rq (Ej i20) O (JLh (Eh y20) (He (f:=Ga.av) (xs:=s) (y:=y20) O O O G28 hy20 O) O (JLh (.agg (Ga.cs y20)) (Gk G86 O O O) O ?_)))))))))))))
  obtain⟨r26,hr26,h⟩:=Gg h
  refine JLh (BL r26) (G20 (args:=[.agg (Ga.cs y20)]) (caps:=f_c) O O (f_w y20 _ hr26) f_B ⟨O,O,G⟩ f_d) O (G7 (hK25 (JCc O h (fun h hb=>?_) (fun h hb=>?_))))
  ·
   refine Jr fun hK27=>(Rq (Ej i20) O (Rq (Ej i20) O (G7 (hK27 (Gt (fin1 G0 h))))))
  ·
   refine Gp (hK23 (G4 (JLh (G0 ((i20+1:Nat):Int)) (J0 (Ho hk20 hm7) O O O) O (Rq (G0 ((i20+1:Nat):Int)) O (G7 (e20 _ _ (i20+1) () (app1 hn20 h) (by omega) ⟨⟨.same rfl,.same (Je _ _ f_d),.same rfl,.same rfl,G⟩,G,rfl⟩))))))
 ·
  have h:=app1 hkx20 (Hv hi20 (Hi hb))
  refine Hy (hK2 (Jr fun hK28=>(Rq (G0 (-1)) O (G7 (hK28 (Gt (fin1 G0 h)))))))

def G01 (boxes:List Ga) (id_:Int):Option (Ga×Bool):=
 bnd (R2 boxes (fun z0=>G1e z0 id_)) fun r3=>
 bif decide (r3 < 0) then
 (some ((Ga.mk 0 ByteArray.empty 0 false 0 0 0 0 false),false))
 else
 (Z1 boxes r3 fun y8=>
  some (y8,true))
theorem Gbb (boxes:List Ga) (id_:Int) (r:Ga×Bool) (h:G01 boxes id_=some r):Pure Ek 24 [E2 boxes,G0 id_] (·=.tup [.agg (Ga.cs r.1),BL r.2]):=by
 unfold G01 at h
 refine H1 [.cell 4 61,.tmp 5] Tryz.func24 O O (Jr fun hK1=>(JLh (.ptr 1054 0) (Jf (cs:=[G0 id_]) 1054 O O O O O) O (JLh (.ptr 1055 0) (Ga4 1055 [G0 0,ST ByteArray.empty,U8 0,BL false,G0 0,G0 0,G0 0,U8 0,BL false] [.int .i64 0,.string ByteArray.empty,.int .u8 0,.bool false,.int .i64 0,.int .i64 0,.int .i64 0,.int .u8 0,.bool false] Yk ⟨.inl O,.inl O,.inl O,.inl O,.inl O,.inl O,.inl O,.inl O,.inl O,G⟩ O O) O (Rq (BL false) O (G7 (hK1 (Gs [(0,E2 boxes),(3,.dptr [G0 id_]),(4,.ptr 1055 0)] [(1055,.box 61 [G0 0,ST ByteArray.empty,U8 0,BL false,G0 0,G0 0,G0 0,U8 0,BL false])] 1054 rfl rfl rfl ⟨⟨_,rfl,.boxEq rfl rfl⟩,G⟩ rfl (by exact⟨.conv (.same rfl),.ptr,.conv (.same rfl),G⟩) ?_)))))))
 refine Jr fun hK2=>(Rq (E2 boxes) O (JLh (.fn 50 [.dptr [G0 id_]]) (Yv (cs:=[.dptr [G0 id_]]) O O) O ?_))
 obtain⟨r3,hr3,h⟩:=Gg h
 refine JLh (G0 r3) (Gw O (G81 boxes (fun z0=>G1e z0 id_) 50 [.dptr [G0 id_]] J80 O (fun z0 q hq=>Hbd z0 id_ q hq) r3 hr3) J81 ⟨O,O,O,O,G⟩) O (Rq (G0 r3) O (G7 (hK2 (Js fun hK4=>Jr fun hK5=>(Rq (G0 r3) O (JLh (BL (decide (r3 < 0))) (Jc O O O) O (G7 (hK5 (JCc O h (fun h hb=>?_) (fun h hb=>?_))))))))))
 ·
  refine Jr fun hK6=>(JLh (.agg [G0 0,ST ByteArray.empty,U8 0,BL false,G0 0,G0 0,G0 0,U8 0,BL false]) (Hp (cs:=[G0 0,ST ByteArray.empty,U8 0,BL false,G0 0,G0 0,G0 0,U8 0,BL false]) [(0,1),(1,1),(2,1),(3,1),(4,1),(5,1),(6,1),(7,1),(8,1)] [G0 0,ST ByteArray.empty,U8 0,BL false,G0 0,G0 0,G0 0,U8 0,BL false] [.int .i64 0,.string ByteArray.empty,.int .u8 0,.bool false,.int .i64 0,.int .i64 0,.int .i64 0,.int .u8 0,.bool false] Ry Yk ⟨.inl O,.inl O,.inl O,.inl O,.inl O,.inl O,.inl O,.inl O,.inl O,G⟩ O O) O (J8 (u:=.junk) (Ht (u:=.agg [G0 0,ST ByteArray.empty,U8 0,BL false,G0 0,G0 0,G0 0,U8 0,BL false]) (ds:=[G0 0,ST ByteArray.empty,U8 0,BL false,G0 0,G0 0,G0 0,U8 0,BL false]) G48 O O O O O O O O) (Rq (BL false) O (G7 (hK6 ?_)))))
  refine Gt (⟨[.agg [G0 0,ST ByteArray.empty,U8 0,BL false,G0 0,G0 0,G0 0,U8 0,BL false],BL false],[],G,O,⟨⟨_,⟨_,_,_,_,O,O,O,.inl ⟨G86,O⟩⟩,.conv (.same O)⟩,⟨_,O,.conv (.same O)⟩,G⟩,O,congrArg (fun r:Ga×Bool=>(.tup [.agg (Ga.cs r.1),BL r.2]:AV)) (Option.some.inj h)⟩)
 ·
  refine Gp (hK4 (Jr fun hK7=>(Rq (E2 boxes) O (Rq (G0 r3) O ?_))))
  obtain⟨m9,y8,hm9,hy8,h⟩:=Z0 h
  refine JLh (Eh y8) (He (f:=Ga.av) (xs:=boxes) (y:=y8) O O O G28 hy8 hm9) O (JLh (.agg (Ga.cs y8)) (Gk G86 O O O) O (J8 (u:=.junk) (Ht (u:=.agg (Ga.cs y8)) (ds:=(Ga.cs y8)) G48 O O O O O O O O) (Rq (BL true) O (G7 (hK7 (Gt (⟨[.agg (Ga.cs y8),BL true],[],G,O,⟨⟨_,⟨_,_,_,_,O,O,O,.inl ⟨G86,O⟩⟩,.conv (.same O)⟩,⟨_,O,.conv (.same O)⟩,G⟩,O,congrArg (fun r:Ga×Bool=>(.tup [.agg (Ga.cs r.1),BL r.2]:AV)) (Option.some.inj h)⟩)))))))

def Rn (s:List Int) (v:Int):Option Int:=
 each (fun y18 i18 (s18:Unit) nx18=>
  bif decide (v=y18) then
  (some (i18:Int))
  else
  (nx18 ()))
 (fun(s18:Unit)=>
  some (-1)) s 0 ()
theorem Ge6 (s:List Int) (v:Int) (r:Int) (h:Rn s v=some r):Pure Ek 86 [E9 s,U8 v] (·=G0 r):=by
 unfold Rn at h
 refine H1 [.tmp 4] Tryz.func86 O O (Jr fun hK1=>(Rq (G0 0) O (G7 (hK1 (Js fun hK2=>Jr fun hK3=>(Rq (E9 s) O (JLl G08 O O O fun hm7=>(Rq (G0 0) O (G7 (hK3 (Gv ?_)))))))))))
 obtain⟨b18,kx18,hb18,hkx18,h⟩:=Ja h
 refine Hr (fun i18 (s18:Unit)=>each b18 kx18 (List.drop i18 s) i18 s18=some r) (fun i18 s18=>[(0,E9 s),(1,U8 v),(7,Ej s.length),(8,Ej i18)]) (fun i18 s18=>[]) (fun i18=>s.length - i18) 0 () h ⟨(by repeat' constructor),G,rfl⟩ ?_
 clear h
 intro i18 s18 hi18 K18 e18
 refine Jr fun hK19=>(JLh (BL (decide ((i18:Int) < (s.length:Int)))) (Jc O O O) O (G7 (hK19 (Js fun hK20=>Gm O (fun hb=>?_) (fun hb=>?_)))))
 ·
  have hk18:=Jz hb
  obtain⟨y18,nx18,hy18,hn18,h⟩:=Hu hi18 hk18
  replace h:=Zr hb18 h
  refine Gp (hK20 (Js fun hK21=>Gv (Jr fun hK22=>(Rq (Ej i18) O (Rq (Ej i18) O (G7 (hK22 (Jr fun hK23=>(Rq (U8 v) O (Rq (E9 s) O (Rq (Ej i18) O (JLh (.dptr [U8 y18]) (He (f:=U8) (xs:=s) (y:=y18) O O O G08 hy18 O) O (JLh (U8 y18) (Gi J5 O O O) O (JLh (BL (decide (v=y18))) (Qc O O O) O (G7 (hK23 (JCc O h (fun h hb=>?_) (fun h hb=>?_))))))))))))))))))
  ·
   refine Jr fun hK24=>(Rq (Ej i18) O (Rq (Ej i18) O (G7 (hK24 (Gt (fin1 G0 h))))))
  ·
   refine Gp (hK21 (G4 (JLh (G0 ((i18+1:Nat):Int)) (J0 (Ho hk18 hm7) O O O) O (Rq (G0 ((i18+1:Nat):Int)) O (G7 (e18 _ _ (i18+1) () (app1 hn18 h) (by omega) ⟨(by repeat' constructor),G,rfl⟩))))))
 ·
  have h:=app1 hkx18 (Hv hi18 (Hi hb))
  refine Hy (hK2 (Jr fun hK25=>(Rq (G0 (-1)) O (G7 (hK25 (Gt (fin1 G0 h)))))))

def Qr (s:List Int) (v:Int):Option Bool:=
 bnd (Rn s v) fun r3=>
 some (decide (0≤r3))
theorem Ga7 (s:List Int) (v:Int) (r:Bool) (h:Qr s v=some r):Pure Ek 51 [E9 s,U8 v] (·=BL r):=by
 unfold Qr at h
 refine H1 [.tmp 4] Tryz.func51 O O (Jr fun hK1=>(Rq (BL false) O (G7 (hK1 (Jr fun hK2=>(Rq (E9 s) O (Rq (U8 v) O ?_)))))))
 obtain⟨r3,hr3,h⟩:=Gg h
 refine JLh (G0 r3) (Gw O (Ge6 s v r3 hr3) J72 ⟨O,O,O,O,G⟩) O (JLh (BL (decide (0≤r3))) (Ga1 O O O) O (Rq (BL (decide (0≤r3))) O (G7 (hK2 (Gt (fin1 BL h))))))

def G10 (s:Gu) (x:Slot) (size:Int):Option Bool:=
 bnd (bif (((decide (0≤x.G3))&&(decide (x.G3 < (s.Columns.length:Int))))&&(decide (0≤x.Tier))) then Z1 s.Columns x.G3 some else some default) fun y3=>
 bnd (bif ((((decide (0≤x.G3))&&(decide (x.G3 < (s.Columns.length:Int))))&&(decide (0≤x.Tier)))&&(decide (x.Tier < y3.Tiers))) then Yr size else some default) fun r4=>
 bnd (bif ((((decide (0≤x.G3))&&(decide (x.G3 < (s.Columns.length:Int))))&&(decide (0≤x.Tier)))&&(decide (x.Tier < y3.Tiers))) then Qr r4 x.Half else some default) fun r5=>
 some (((((decide (0≤x.G3))&&(decide (x.G3 < (s.Columns.length:Int))))&&(decide (0≤x.Tier)))&&(decide (x.Tier < y3.Tiers)))&&r5)
theorem H0d (s:Gu) (x:Slot) (size:Int) (r:Bool) (h:G10 s x size=some r):Pure Ek 25 [.agg (Gu.cs s),.agg [G0 x.G3,G0 x.Tier,U8 x.Half],U8 size] (·=BL r):=by
 unfold G10 at h
 refine H1 [.tmp 6] Tryz.func25 O O (Jr fun hK1=>(JLh (.ptr 1056 0) (Jf (cs:=(Gu.cs s)) 1056 O O O O O) O (JLh (.ptr 1057 0) (Jf (cs:=[G0 x.G3,G0 x.Tier,U8 x.Half]) 1057 O O O O O) O (Rq (BL false) O (G7 (hK1 ?_))))))
 refine Gs [(2,U8 size),(3,Ec s),(4,.ptr 1057 0)] [(1057,.box 44 [G0 x.G3,G0 x.Tier,U8 x.Half])] 1056 rfl rfl rfl ⟨⟨_,rfl,.boxEq rfl rfl⟩,G⟩ rfl (by exact⟨.conv (.same rfl),.ptr,.conv (.same rfl),G⟩) ?_
 refine Gs [(2,U8 size),(3,Ec s),(4,.dptr [G0 x.G3,G0 x.Tier,U8 x.Half])] [] 1057 rfl rfl rfl G rfl (by exact⟨.conv (.same rfl),.conv (.same rfl),.ptr,G⟩) (Js fun hK2=>?_)
 obtain⟨y3,hy3,h⟩:=Gg h
 obtain⟨r4,hr4,h⟩:=Gg h
 obtain⟨r5,hr5,h⟩:=Gg h
 refine JC_d0 Qo (by kernel_rfl) (Dq (.dptr [G0 x.G3,G0 x.Tier,U8 x.Half]) (Gd Jd O O O) O (Dq (G0 x.G3) (Gi Ge O O O) O (Dq (BL (decide (0≤x.G3))) (Ga1 O O O) O (Dq (BL (decide (0≤x.G3))) (G6 O O) O (Do (.dptr [G0 x.G3,G0 x.Tier,U8 x.Half]) [] O .sct G (fun hc=>Gd Jd O O O) O (Do (G0 x.G3) [11] O .sct ⟨Ua,G⟩ (fun hc=>Gi Ge O O O) O (Do (Ec s) [] O .sct G (fun hc=>Gd Hq O O O) O (Do (E7 s.Columns) [13] O .sct ⟨Ua,G⟩ (fun hc=>Gi J6 O O O) O (Do (Ej s.Columns.length) [14] O .sct ⟨Ua,G⟩ (fun hc=>Z6 (f:=G3.av) (xs:=s.Columns) Hx O O) O (Do (BL (decide (x.G3 < (s.Columns.length:Int)))) [12,15] O .sct ⟨Ua,Ua,G⟩ (fun hc=>Jc O O O) O (Dq (BL ((decide (0≤x.G3))&&(decide (x.G3 < (s.Columns.length:Int))))) (Qu O O O O) O (Dq (BL ((decide (0≤x.G3))&&(decide (x.G3 < (s.Columns.length:Int))))) (G6 O O) O (Do (.dptr [G0 x.Tier,U8 x.Half]) [] O .sct G (fun hc=>Gd Y0 O O O) O ?_)))))))))))))
 refine Do (G0 x.Tier) [19] O .sct ⟨Ua,G⟩ (fun hc=>Gi Ge O O O) O (Do (BL (decide (0≤x.Tier))) [20] O .sct ⟨Ua,G⟩ (fun hc=>Ga1 O O O) O (Dq (BL (((decide (0≤x.G3))&&(decide (x.G3 < (s.Columns.length:Int))))&&(decide (0≤x.Tier)))) (Qu O O O O) O (Dq (BL (((decide (0≤x.G3))&&(decide (x.G3 < (s.Columns.length:Int))))&&(decide (0≤x.Tier)))) (G6 O O) O (Do (.dptr [G0 x.Tier,U8 x.Half]) [] O .sct G (fun hc=>Gd Y0 O O O) O (Do (G0 x.Tier) [24] O .sct ⟨Ua,G⟩ (fun hc=>Gi Ge O O O) O (Do (Ec s) [] O .sct G (fun hc=>Gd Hq O O O) O (Do (E7 s.Columns) [26] O .sct ⟨Ua,G⟩ (fun hc=>Gi J6 O O O) O (Do (.dptr [G0 x.G3,G0 x.Tier,U8 x.Half]) [] O .sct G (fun hc=>Gd Jd O O O) O (Do (G0 x.G3) [28] O .sct ⟨Ua,G⟩ (fun hc=>Gi Ge O O O) O (Do (Ee y3) [27,29] O .sct ⟨Ua,Ua,G⟩ (fun hc=>(match Ya (H6 hc hy3) with | ⟨_,hm_,hy_⟩=>He (f:=G3.av) (xs:=s.Columns) (y:=y3) O O O Hx hy_ hm_)) O (Do (.dptr ((G3.cs y3).drop 3)) [30] O .sct ⟨Ua,G⟩ (fun hc=>Gd G5a O O O) O (Do (G0 y3.Tiers) [31] O .sct ⟨Ua,G⟩ (fun hc=>Gi Ge O O O) O (Do (BL (decide (x.Tier < y3.Tiers))) [25,32] O .sct ⟨Ua,Ua,G⟩ (fun hc=>Jc O O O) O ?_)))))))))))))
 refine Dq (BL ((((decide (0≤x.G3))&&(decide (x.G3 < (s.Columns.length:Int))))&&(decide (0≤x.Tier)))&&(decide (x.Tier < y3.Tiers)))) (Qu O O O O) O (Dq (BL ((((decide (0≤x.G3))&&(decide (x.G3 < (s.Columns.length:Int))))&&(decide (0≤x.Tier)))&&(decide (x.Tier < y3.Tiers)))) (G6 O O) O (Do (U8 size) [] O .sct G (fun hc=>G6 O O) O (Do (E9 r4) [36] O .sct ⟨Ua,G⟩ (fun hc=>Gw (args:=[U8 size]) O (Gec size r4 (H6 hc hr4)) Hde ⟨O,O,G⟩) O (Do (.dptr [U8 x.Half]) [] O .sct G (fun hc=>Gd R6 O O O) O (Do (U8 x.Half) [38] O .sct ⟨Ua,G⟩ (fun hc=>Gi J5 O O O) O (Do (BL r5) [37,39] O .sct ⟨Ua,Ua,G⟩ (fun hc=>Gw (args:=[E9 r4,U8 x.Half]) O (Ga7 r4 x.Half r5 (H6 hc hr5)) J7f ⟨O,O,O,O,G⟩) O (Dq (BL (((((decide (0≤x.G3))&&(decide (x.G3 < (s.Columns.length:Int))))&&(decide (0≤x.Tier)))&&(decide (x.Tier < y3.Tiers)))&&r5)) (Qu O O O O) O (Dq (BL (((((decide (0≤x.G3))&&(decide (x.G3 < (s.Columns.length:Int))))&&(decide (0≤x.Tier)))&&(decide (x.Tier < y3.Tiers)))&&r5)) (G8 O O) O (Dnil ?_)))))))))
 refine hK2 (Gt (fin1 BL h))

def Qz (s:List Slot) (v:Slot):Option Int:=
 each (fun y18 i18 (s18:Unit) nx18=>
  bif decide (v=y18) then
  (some (i18:Int))
  else
  (nx18 ()))
 (fun(s18:Unit)=>
  some (-1)) s 0 ()
theorem Gbc (s:List Slot) (v:Slot) (r:Int) (h:Qz s v=some r):Pure Ek 87 [E8 s,.agg [G0 v.G3,G0 v.Tier,U8 v.Half]] (·=G0 r):=by
 unfold Qz at h
 refine H1 [.tmp 4] Tryz.func87 O O (Jr fun hK1=>(JLh (.ptr 1107 0) (Jf (cs:=[G0 v.G3,G0 v.Tier,U8 v.Half]) 1107 O O O O O) O (Rq (G0 0) O (G7 (hK1 (Gs [(0,E8 s),(3,.dptr [G0 v.G3,G0 v.Tier,U8 v.Half])] [] 1107 rfl rfl rfl G rfl (by exact⟨.conv (.same rfl),.ptr,G⟩) (Js fun hK2=>Jr fun hK3=>(Rq (E8 s) O (JLl Ri O O O fun hm7=>(Rq (G0 0) O (G7 (hK3 (Gv ?_)))))))))))))
 obtain⟨b18,kx18,hb18,hkx18,h⟩:=Ja h
 refine Hr (fun i18 (s18:Unit)=>each b18 kx18 (List.drop i18 s) i18 s18=some r) (fun i18 s18=>[(0,E8 s),(3,.dptr [G0 v.G3,G0 v.Tier,U8 v.Half]),(7,Ej s.length),(8,Ej i18)]) (fun i18 s18=>[]) (fun i18=>s.length - i18) 0 () h ⟨(by repeat' constructor),G,rfl⟩ ?_
 clear h
 intro i18 s18 hi18 K18 e18
 refine Jr fun hK19=>(JLh (BL (decide ((i18:Int) < (s.length:Int)))) (Jc O O O) O (G7 (hK19 (Js fun hK20=>Gm O (fun hb=>?_) (fun hb=>?_)))))
 ·
  have hk18:=Jz hb
  obtain⟨y18,nx18,hy18,hn18,h⟩:=Hu hi18 hk18
  replace h:=Zr hb18 h
  refine Gp (hK20 (Js fun hK21=>Gv (Jr fun hK22=>(Rq (Ej i18) O (Rq (Ej i18) O (G7 (hK22 (Js fun hK23=>JC_d0 Qo (by kernel_rfl) (Dq (.agg [G0 v.G3,G0 v.Tier,U8 v.Half]) (Gk Q2 O O O) O (Dq (E8 s) (G6 O O) O (Dq (Ej i18) (G6 O O) O (Dq (Ei y18) (He (f:=Slot.av) (xs:=s) (y:=y18) O O O Ri hy18 O) O (Dq (.agg (Slot.cs y18)) (Gk Q2 O O O) O (Dq (BL (decide (v=y18))) (A_eqAgg (vs:=[.int .i64 v.G3,.int .i64 v.Tier,.int .u8 v.Half]) (us:=[.int .i64 y18.G3,.int .i64 y18.Tier,.int .u8 y18.Half]) 4 O (tq_44 v y18) J50 tf_eqg_44 O O O) O (Dnil (hK23 (JCc O h (fun h hb=>?_) (fun h hb=>?_))))))))))))))))))
  ·
   refine Jr fun hK24=>(Rq (Ej i18) O (Rq (Ej i18) O (G7 (hK24 (Gt (fin1 G0 h))))))
  ·
   refine Gp (hK21 (G4 (JLh (G0 ((i18+1:Nat):Int)) (J0 (Ho hk18 hm7) O O O) O (Rq (G0 ((i18+1:Nat):Int)) O (G7 (e18 _ _ (i18+1) () (app1 hn18 h) (by omega) ⟨(by repeat' constructor),G,rfl⟩))))))
 ·
  have h:=app1 hkx18 (Hv hi18 (Hi hb))
  refine Hy (hK2 (Jr fun hK25=>(Rq (G0 (-1)) O (G7 (hK25 (Gt (fin1 G0 h)))))))

def Qa (s:List Slot) (v:Slot):Option Bool:=
 bnd (Qz s v) fun r3=>
 some (decide (0≤r3))
theorem G82 (s:List Slot) (v:Slot) (r:Bool) (h:Qa s v=some r):Pure Ek 54 [E8 s,.agg [G0 v.G3,G0 v.Tier,U8 v.Half]] (·=BL r):=by
 unfold Qa at h
 refine H1 [.tmp 4] Tryz.func54 O O (Jr fun hK1=>(JLh (.ptr 1085 0) (Jf (cs:=[G0 v.G3,G0 v.Tier,U8 v.Half]) 1085 O O O O O) O (Rq (BL false) O (G7 (hK1 (Gs [(0,E8 s),(3,.dptr [G0 v.G3,G0 v.Tier,U8 v.Half])] [] 1085 rfl rfl rfl G rfl (by exact⟨.conv (.same rfl),.ptr,G⟩) (Jr fun hK2=>(Rq (E8 s) O (JLh (.agg [G0 v.G3,G0 v.Tier,U8 v.Half]) (Gk Q2 O O O) O ?_)))))))))
 obtain⟨r3,hr3,h⟩:=Gg h
 refine JLh (G0 r3) (Gw O (Gbc s v r3 hr3) J71 ⟨O,O,O,O,G⟩) O (JLh (BL (decide (0≤r3))) (Ga1 O O O) O (Rq (BL (decide (0≤r3))) O (G7 (hK2 (Gt (fin1 BL h))))))

def Ys (half:Int) (p1:List Slot) (p2:Slot):Option Bool:=
 G15 (p2.Tier - 1) fun v3=>
 bnd (Qa p1 (Slot.mk p2.G3 v3 half)) fun r4=>
 some r4
theorem G76 (half:Int) (p1:List Slot) (p2:Slot) (r:Bool) (h:Ys half p1 p2=some r):Pure Ek 53 [U8 half,.dptr [E8 p1],.dptr [G0 p2.G3,G0 p2.Tier,U8 p2.Half]] (·=BL r):=by
 unfold Ys at h
 refine H1 [.tmp 4] Tryz.func53 O O (Jr fun hK1=>(Rq (BL false) O (G7 (hK1 (Jr fun hK2=>(JLh (E8 p1) (Gi Gd2 O O O) O (JLh (.dptr [G0 p2.G3,G0 p2.Tier,U8 p2.Half]) (Gd Jd O O O) O (JLh (G0 p2.G3) (Gi Ge O O O) O (JLh (.dptr [G0 p2.Tier,U8 p2.Half]) (Gd Y0 O O O) O (JLh (G0 p2.Tier) (Gi Ge O O O) O ?_))))))))))
 obtain⟨v3,hv3,h⟩:=Jj h
 refine JLh (G0 v3) (H36 hv3 O O O) O (Rq (U8 half) O (JLh (.agg [G0 p2.G3,G0 v3,U8 half]) (Hp (cs:=[G0 p2.G3,G0 v3,U8 half]) [(0,1),(1,1),(2,1)] [G0 0,G0 0,U8 0] [.int .i64 0,.int .i64 0,.int .u8 0] Gd4 H39 ⟨.inl O,.inl O,.inl O,G⟩ O O) O ?_))
 obtain⟨r4,hr4,h⟩:=Gg h
 refine JLh (BL r4) (Gw O (G82 p1 (Slot.mk p2.G3 v3 half) r4 hr4) J7e ⟨O,O,O,O,G⟩) O (Rq (BL r4) O (G7 (hK2 (Gt (fin1 BL h)))))

def G30 (x:Slot) (l:List Slot):Option Bool:=
 bif decide (x.Tier≤0) then
 (some true)
 else
 (bnd (Ys x.Half l x) fun r7=>
  bnd (bif ((!r7)&&(decide (x.Half=0))) then Ys 1 l x else some default) fun r8=>
  bnd (bif ((!r7)&&((decide (x.Half=0))&&r8)) then Ys 2 l x else some default) fun r9=>
  some (r7||(((decide (x.Half=0))&&r8)&&r9)))
theorem H33 (x:Slot) (l:List Slot) (r:Bool) (h:G30 x l=some r):Pure Ek 26 [.agg [G0 x.G3,G0 x.Tier,U8 x.Half],E8 l] (·=BL r):=by
 unfold G30 at h
 refine H1 [.tmp 4] Tryz.func26 O O (Jr fun hK1=>(JLh (.ptr 1058 0) (Jf (cs:=[G0 x.G3,G0 x.Tier,U8 x.Half]) 1058 O O O O O) O (JLh (.ptr 1059 0) (Jf (cs:=[E8 l]) 1059 O O O O O) O (Rq (BL false) O (G7 (hK1 (Gs [(2,.dptr [G0 x.G3,G0 x.Tier,U8 x.Half]),(3,.ptr 1059 0)] [(1059,.box 62 [E8 l])] 1058 rfl rfl rfl ⟨⟨_,rfl,.boxEq rfl rfl⟩,G⟩ rfl (by exact⟨.ptr,.conv (.same rfl),G⟩) (Gs [(2,.dptr [G0 x.G3,G0 x.Tier,U8 x.Half]),(3,.dptr [E8 l])] [] 1059 rfl rfl rfl G rfl (by exact⟨.conv (.same rfl),.ptr,G⟩) (Js fun hK2=>Jr fun hK3=>(JLh (.dptr [G0 x.Tier,U8 x.Half]) (Gd Y0 O O O) O (JLh (G0 x.Tier) (Gi Ge O O O) O (JLh (BL (decide (x.Tier≤0))) (Hb7 O O O) O (G7 (hK3 ?_))))))))))))))
 refine JCc O h (fun h hb=>?_) (fun h hb=>?_)
 ·
  refine Jr fun hK4=>(Rq (BL true) O (G7 (hK4 (Gt (fin1 BL h)))))
 ·
  refine Gp (hK2 (Jr fun hK5=>(JLh (.fn 53 [.dptr [E8 l],.dptr [G0 x.G3,G0 x.Tier,U8 x.Half]]) (Yv (cs:=[.dptr [E8 l],.dptr [G0 x.G3,G0 x.Tier,U8 x.Half]]) O O) O (Rq (.fn 53 [.dptr [E8 l],.dptr [G0 x.G3,G0 x.Tier,U8 x.Half]]) O (G7 (hK5 (Jr fun hK6=>(Rq (.fn 53 [.dptr [E8 l],.dptr [G0 x.G3,G0 x.Tier,U8 x.Half]]) O (JLh (.dptr [U8 x.Half]) (Gd R6 O O O) O (JLh (U8 x.Half) (Gi J5 O O O) O ?_))))))))))
  obtain⟨r7,hr7,h⟩:=Gg h
  refine JLh (BL r7) (G20 (args:=[U8 x.Half]) (caps:=[.dptr [E8 l],.dptr [G0 x.G3,G0 x.Tier,U8 x.Half]]) O O (G76 x.Half l x r7 hr7) H3b ⟨O,O,G⟩ O) O (Rq (BL r7) O (JLo (.dptr [U8 x.Half]) [] O .scf G (fun hc=>Gd R6 O O O) O (JLo (U8 x.Half) [15] O .scf ⟨Ua,G⟩ (fun hc=>Gi J5 O O O) O (JLo (BL (decide (x.Half=0))) [16] O .scf ⟨Ua,G⟩ (fun hc=>Qc O O O) O (JLo (BL (decide (x.Half=0))) [17] O .scf ⟨Ua,G⟩ (fun hc=>G6 O O) O (JLo (.fn 53 [.dptr [E8 l],.dptr [G0 x.G3,G0 x.Tier,U8 x.Half]]) [] O .optt G (fun hc=>G6 O O) O ?_))))))
  obtain⟨r8,hr8,h⟩:=Gg h
  refine JLo (BL r8) [19] O .optt ⟨Ua,G⟩ (fun hc=>G20 (args:=[U8 1]) (caps:=[.dptr [E8 l],.dptr [G0 x.G3,G0 x.Tier,U8 x.Half]]) O O (G76 1 l x r8 (H6 hc hr8)) H3b ⟨O,O,G⟩ O) O (Gc (u:=BL ((decide (x.Half=0))&&r8)) [(18,BL (decide (x.Half=0))),(20,_)] O O O .scf ⟨.all id,.part,G⟩ (fun hc=>Qu O O O O) ?_)
  refine JLo (BL ((decide (x.Half=0))&&r8)) [21] O .scf ⟨Ua,G⟩ (fun hc=>G6 O O) O (JLo (.fn 53 [.dptr [E8 l],.dptr [G0 x.G3,G0 x.Tier,U8 x.Half]]) [] O .optt G (fun hc=>G6 O O) O ?_)
  obtain⟨r9,hr9,h⟩:=Gg h
  refine JLo (BL r9) [23] O .optt ⟨Ua,G⟩ (fun hc=>G20 (args:=[U8 2]) (caps:=[.dptr [E8 l],.dptr [G0 x.G3,G0 x.Tier,U8 x.Half]]) O O (G76 2 l x r9 (H6 hc hr9)) H3b ⟨O,O,G⟩ O) O (Gc (u:=BL (((decide (x.Half=0))&&r8)&&r9)) [(22,BL ((decide (x.Half=0))&&r8)),(24,_)] O O O .scf ⟨.all id,.part,G⟩ (fun hc=>Qu O O O O) ?_)
  refine JLh (BL (r7||(((decide (x.Half=0))&&r8)&&r9))) (G44 O O O O) O (Rq (BL (r7||(((decide (x.Half=0))&&r8)&&r9))) O (G7 (hK6 (Gt (fin1 BL h)))))

def Zo (a:Int) (b:Int):Option Bool:=
 some (((decide (a=b))||(decide (a=0)))||(decide (b=0)))
theorem Geb (a:Int) (b:Int) (r:Bool) (h:Zo a b=some r):Pure Ek 55 [U8 a,U8 b] (·=BL r):=by
 unfold Zo at h
 refine H1 [.tmp 4] Tryz.func55 O O (Jr fun hK1=>(Rq (BL false) O (G7 (hK1 (Jr fun hK2=>(Rq (U8 a) O (Rq (U8 b) O (JLh (BL (decide (a=b))) (Qc O O O) O (Rq (BL (decide (a=b))) O (JLo (U8 a) [] O .scf G (fun hc=>G6 O O) O (JLo (BL (decide (a=0))) [9] O .scf ⟨Ua,G⟩ (fun hc=>Qc O O O) O (JLh (BL ((decide (a=b))||(decide (a=0)))) (G44 O O O O) O (Rq (BL ((decide (a=b))||(decide (a=0)))) O (JLo (U8 b) [] O .scf G (fun hc=>G6 O O) O (JLo (BL (decide (b=0))) [13] O .scf ⟨Ua,G⟩ (fun hc=>Qc O O O) O (JLh (BL (((decide (a=b))||(decide (a=0)))||(decide (b=0)))) (G44 O O O O) O (Rq (BL (((decide (a=b))||(decide (a=0)))||(decide (b=0)))) O (G7 (hK2 (Gt (fin1 BL h)))))))))))))))))))))

def G2f (a:Slot) (b:Slot):Option Bool:=
 bnd (bif ((decide (a.G3=b.G3))&&(decide (a.Tier=b.Tier))) then Zo a.Half b.Half else some default) fun r3=>
 some (((decide (a.G3=b.G3))&&(decide (a.Tier=b.Tier)))&&r3)
theorem H32 (a:Slot) (b:Slot) (r:Bool) (h:G2f a b=some r):Pure Ek 27 [.agg [G0 a.G3,G0 a.Tier,U8 a.Half],.agg [G0 b.G3,G0 b.Tier,U8 b.Half]] (·=BL r):=by
 unfold G2f at h
 refine H1 [.tmp 4] Tryz.func27 O O (Jr fun hK1=>(JLh (.ptr 1060 0) (Jf (cs:=[G0 a.G3,G0 a.Tier,U8 a.Half]) 1060 O O O O O) O (JLh (.ptr 1061 0) (Jf (cs:=[G0 b.G3,G0 b.Tier,U8 b.Half]) 1061 O O O O O) O (Rq (BL false) O (G7 (hK1 (Gs [(2,.dptr [G0 a.G3,G0 a.Tier,U8 a.Half]),(3,.ptr 1061 0)] [(1061,.box 44 [G0 b.G3,G0 b.Tier,U8 b.Half])] 1060 rfl rfl rfl ⟨⟨_,rfl,.boxEq rfl rfl⟩,G⟩ rfl (by exact⟨.ptr,.conv (.same rfl),G⟩) (Gs [(2,.dptr [G0 a.G3,G0 a.Tier,U8 a.Half]),(3,.dptr [G0 b.G3,G0 b.Tier,U8 b.Half])] [] 1061 rfl rfl rfl G rfl (by exact⟨.conv (.same rfl),.ptr,G⟩) ?_))))))))
 refine Jr fun hK2=>(JLh (.dptr [G0 a.G3,G0 a.Tier,U8 a.Half]) (Gd Jd O O O) O (JLh (G0 a.G3) (Gi Ge O O O) O (JLh (.dptr [G0 b.G3,G0 b.Tier,U8 b.Half]) (Gd Jd O O O) O (JLh (G0 b.G3) (Gi Ge O O O) O (JLh (BL (decide (a.G3=b.G3))) (Qc O O O) O (Rq (BL (decide (a.G3=b.G3))) O (JLo (.dptr [G0 a.Tier,U8 a.Half]) [] O .sct G (fun hc=>Gd Y0 O O O) O (JLo (G0 a.Tier) [11] O .sct ⟨Ua,G⟩ (fun hc=>Gi Ge O O O) O (JLo (.dptr [G0 b.Tier,U8 b.Half]) [] O .sct G (fun hc=>Gd Y0 O O O) O (JLo (G0 b.Tier) [13] O .sct ⟨Ua,G⟩ (fun hc=>Gi Ge O O O) O (JLo (BL (decide (a.Tier=b.Tier))) [12,14] O .sct ⟨Ua,Ua,G⟩ (fun hc=>Qc O O O) O (JLh (BL ((decide (a.G3=b.G3))&&(decide (a.Tier=b.Tier)))) (Qu O O O O) O (Rq (BL ((decide (a.G3=b.G3))&&(decide (a.Tier=b.Tier)))) O ?_)))))))))))))
 refine JLo (.dptr [U8 a.Half]) [] O .sct G (fun hc=>Gd R6 O O O) O (JLo (U8 a.Half) [18] O .sct ⟨Ua,G⟩ (fun hc=>Gi J5 O O O) O (JLo (.dptr [U8 b.Half]) [] O .sct G (fun hc=>Gd R6 O O O) O (JLo (U8 b.Half) [20] O .sct ⟨Ua,G⟩ (fun hc=>Gi J5 O O O) O ?_)))
 obtain⟨r3,hr3,h⟩:=Gg h
 refine JLo (BL r3) [19,21] O .sct ⟨Ua,Ua,G⟩ (fun hc=>Gw (args:=[U8 a.Half,U8 b.Half]) O (Geb a.Half b.Half r3 (H6 hc hr3)) Hdd ⟨O,O,O,O,G⟩) O (JLh (BL (((decide (a.G3=b.G3))&&(decide (a.Tier=b.Tier)))&&r3)) (Qu O O O O) O (Rq (BL (((decide (a.G3=b.G3))&&(decide (a.Tier=b.Tier)))&&r3)) O (G7 (hK2 (Gt (fin1 BL h))))))

def G68 (b:Ga):Option Int:=
 bif b.High then
 (some 2896)
 else
 (some 2591)
theorem M_stow_tall_w (b:Ga) (r:Int) (h:G68 b=some r):Pure Ek 88 [.agg (Ga.cs b)] (·=G0 r):=by
 unfold G68 at h
 refine H1 [.tmp 2] Tryz.func88 O O (Jr fun hK1=>(JLh (.ptr 1108 0) (Jf (cs:=(Ga.cs b)) 1108 O O O O O) O (Rq (G0 0) O (G7 (hK1 (Gs [(1,Eh b)] [] 1108 rfl rfl rfl G rfl (by exact⟨.ptr,G⟩) (Js fun hK2=>Jr fun hK3=>(JLh (.dptr [BL b.High,G0 b.Kilos,G0 b.Load,G0 b.Discharge,U8 b.Class,BL b.Reefer]) (Gd H29 O O O) O (JLh (BL b.High) (Gi Qn O O O) O (G7 (hK3 (JCc O h (fun h hb=>?_) (fun h hb=>?_)))))))))))))
 ·
  refine Jr fun hK4=>(Rq (G0 2896) O (G7 (hK4 (Gt (fin1 G0 h)))))
 ·
  refine Gp (hK2 (Jr fun hK5=>(Rq (G0 2591) O (G7 (hK5 (Gt (fin1 G0 h)))))))

def Zn (boxes:List Ga) (l:List Stowed) (column:Int) (half:Int):Option Int:=
 each (fun y27 i27 (s27:Int) nx27=>
  jp (fun kj30=>
   bif ((decide (y27.Slot.G3=column))&&((decide (y27.Slot.Half=half))||(decide (y27.Slot.Half=0)))) then
   (bnd (G01 boxes y27.Ga) fun r34=>
    bif r34.2 then
    (bnd (G68 r34.1) fun r36=>
     G15 (s27+r36) fun v37=>
     kj30 v37)
    else
    (kj30 s27))
   else
   (kj30 s27)) fun(j30:Int)=>
  nx27 j30)
 (fun(s27:Int)=>
  some s27) l 0 0
theorem Gea (boxes:List Ga) (l:List Stowed) (column:Int) (half:Int) (r:Int) (h:Zn boxes l column half=some r):Pure Ek 56 [E2 boxes,E1 l,G0 column,U8 half] (·=G0 r):=by
 unfold Zn at h
 refine H1 [.tmp 8] Tryz.func56 O O (Jr fun hK1=>(Rq (G0 0) O (G7 (hK1 (Jr fun hK2=>(Rq (G0 0) O (G7 (hK2 (Js fun hK3=>Jr fun hK4=>(Rq (E1 l) O (JLl Hd O O O fun hm15=>(Rq (G0 0) O (G7 (hK4 (Gv ?_)))))))))))))))
 obtain⟨b27,kx27,hb27,hkx27,h⟩:=Ja h
 refine Hr (fun i27 (s27:Int)=>each b27 kx27 (List.drop i27 l) i27 s27=some r) (fun i27 s27=>[(0,E2 boxes),(2,G0 column),(3,U8 half),(9,G0 s27),(14,E1 l),(15,Ej l.length),(16,Ej i27)]) (fun i27 s27=>[]) (fun i27=>l.length - i27) 0 0 h ⟨(by repeat' constructor),G,rfl⟩ ?_
 clear h
 intro i27 s27 hi27 K27 e27
 refine Jr fun hK28=>(JLh (BL (decide ((i27:Int) < (l.length:Int)))) (Jc O O O) O (G7 (hK28 (Js fun hK29=>Gm O (fun hb=>?_) (fun hb=>?_)))))
 ·
  have hk27:=Jz hb
  obtain⟨y27,nx27,hy27,hn27,h⟩:=Hu hi27 hk27
  replace h:=Zr hb27 h
  refine Gp (hK29 ?_)
  obtain⟨kj30,hkj30,h⟩:=Yo h
  refine Rb (fun j30:Int=>kj30 j30=some r) (fun j30=>[(0,E2 boxes),(2,G0 column),(3,U8 half),(9,G0 j30),(14,E1 l),(15,Ej l.length),(16,Ej i27)]) (fun j30=>[]) (fun Kj30 ej30=>?_) ?_
  ·
   refine Gv (Jr fun hK31=>(JLh (Ed y27) (He (f:=Stowed.av) (xs:=l) (y:=y27) O O O Hd hy27 O) O (JLh (.agg (Stowed.cs y27)) (Gk Yz O O O) O (JLh (.ptr 1086 0) (Jb 1086 4 Rg O O) O (J8 (u:=.junk) (Ht (u:=.agg (Stowed.cs y27)) (ds:=[G0 y27.Ga,G0 y27.Slot.G3,G0 y27.Slot.Tier,U8 y27.Slot.Half]) Zv O O O O O O O O) (G7 (hK31 (Gs [(0,E2 boxes),(2,G0 column),(3,U8 half),(9,G0 s27),(11,Ed y27),(14,E1 l),(15,Ej l.length),(16,Ej i27)] [] 1086 rfl rfl rfl G rfl (by repeat' (first | exact .ptr | constructor)) ?_))))))))
   refine Jr fun hK32=>(JLh (.dptr ((Stowed.cs y27).drop 1)) (Gd J4 O O O) O (JLh (.dptr ((Stowed.cs y27).drop 1)) (Gd Jd O O O) O (JLh (G0 y27.Slot.G3) (Gi Ge O O O) O (Rq (G0 column) O (JLh (BL (decide (y27.Slot.G3=column))) (Qc O O O) O (Rq (BL (decide (y27.Slot.G3=column))) O (JLo (.dptr ((Stowed.cs y27).drop 1)) [] O .sct G (fun hc=>Gd J4 O O O) O (JLo (.dptr [U8 y27.Slot.Half]) [26] O .sct ⟨Ua,G⟩ (fun hc=>Gd R6 O O O) O (JLo (U8 y27.Slot.Half) [27] O .sct ⟨Ua,G⟩ (fun hc=>Gi J5 O O O) O (JLo (U8 half) [] O .sct G (fun hc=>G6 O O) O (JLo (BL (decide (y27.Slot.Half=half))) [28,29] O .sct ⟨Ua,Ua,G⟩ (fun hc=>Qc O O O) O (JLo (BL (decide (y27.Slot.Half=half))) [30] O .sct ⟨Ua,G⟩ (fun hc=>G6 O O) O (JLo (.dptr ((Stowed.cs y27).drop 1)) [] O .optf G (fun hc=>Gd J4 O O O) O ?_)))))))))))))
   refine JLo (.dptr [U8 y27.Slot.Half]) [32] O .optf ⟨Ua,G⟩ (fun hc=>Gd R6 O O O) O (JLo (U8 y27.Slot.Half) [33] O .optf ⟨Ua,G⟩ (fun hc=>Gi J5 O O O) O (JLo (BL (decide (y27.Slot.Half=0))) [34] O .optf ⟨Ua,G⟩ (fun hc=>Qc O O O) O (Gc (u:=BL ((decide (y27.Slot.Half=half))||(decide (y27.Slot.Half=0)))) [(31,BL (decide (y27.Slot.Half=half))),(35,_)] O O O .sct ⟨.all id,.part,G⟩ (fun hc=>G44 O O O O) ?_)))
   refine JLh (BL ((decide (y27.Slot.G3=column))&&((decide (y27.Slot.Half=half))||(decide (y27.Slot.Half=0))))) (Qu O O O O) O (G7 (hK32 (JCc O h (fun h hb=>?_) (fun h hb=>?_))))
   ·
    refine Jr fun hK33=>(Rq (E2 boxes) O (JLh (Ed y27) (Gd Jq O O O) O (JLh (G0 y27.Ga) (Gi Ge O O O) O ?_)))
    obtain⟨r34,hr34,h⟩:=Gg h
    refine JLh (.tup [.agg (Ga.cs r34.1),BL r34.2]) (Gw O (Gbb boxes y27.Ga r34 hr34) H3e ⟨O,O,O,O,G⟩) O (Rq (.tup [.agg (Ga.cs r34.1),BL r34.2]) O (JLh (.agg (Ga.cs r34.1)) (Hb O O O) O (JLh (BL r34.2) (Hb O O O) O (JLh (.ptr 1087 0) (Jb 1087 9 G27 O O) O (J8 (u:=.junk) (Ht (u:=.agg (Ga.cs r34.1)) (ds:=(Ga.cs r34.1)) G48 O O O O O O O O) (Rq (BL r34.2) O (G7 (hK33 ?_))))))))
    refine Gs [(0,E2 boxes),(2,G0 column),(3,U8 half),(9,G0 s27),(12,Eh r34.1),(13,BL r34.2),(14,E1 l),(15,Ej l.length),(16,Ej i27)] [] 1087 rfl rfl rfl G rfl (by repeat' (first | exact .ptr | constructor)) (Jr fun hK35=>(Rq (BL r34.2) O (G7 (hK35 (JCc O h (fun h hb=>?_) (fun h hb=>?_))))))
    ·
     refine G4 (Rq (G0 s27) O (JLh (.agg (Ga.cs r34.1)) (Gk G86 O O O) O ?_))
     obtain⟨r36,hr36,h⟩:=Gg h
     refine JLh (G0 r36) (Gw O (M_stow_tall_w r34.1 r36 hr36) J70 ⟨O,O,G⟩) O ?_
     obtain⟨v37,hv37,h⟩:=Jj h
     refine JLh (G0 v37) (J0 hv37 O O O) O (Rq (G0 v37) O (G7 (ej30 _ _ v37 h ⟨(by repeat' constructor),G,rfl⟩)))
    ·
     refine Gp (ej30 _ _ s27 h ⟨(by repeat' constructor),G,rfl⟩)
   ·
    refine Gp (ej30 _ _ s27 h ⟨(by repeat' constructor),G,rfl⟩)
  ·intro j30 h
   replace h:=app1 hkj30 h
   refine G4 (JLh (G0 ((i27+1:Nat):Int)) (J0 (Ho hk27 hm15) O O O) O (Rq (G0 ((i27+1:Nat):Int)) O (G7 (e27 _ _ (i27+1) j30 (app1 hn27 h) (by omega) ⟨(by repeat' constructor),G,rfl⟩))))
 ·
  have h:=app1 hkx27 (Hv hi27 (Hi hb))
  refine Hy (hK3 (Jr fun hK38=>(Rq (G0 s27) O (Rq (G0 s27) O (G7 (hK38 (Gt (fin1 G0 h))))))))

def Zz (s:Gu) (boxes:List Ga) (l:List Stowed) (column:Int):Option Bool:=
 Z1 s.Columns column fun y3=>
 bnd (bif (!(decide (y3.Height≤0))) then Zn boxes l column 1 else some default) fun r6=>
 bnd (bif ((!(decide (y3.Height≤0)))&&(decide (r6≤y3.Height))) then Zn boxes l column 2 else some default) fun r7=>
 some ((decide (y3.Height≤0))||((decide (r6≤y3.Height))&&(decide (r7≤y3.Height))))
theorem H30 (s:Gu) (boxes:List Ga) (l:List Stowed) (column:Int) (r:Bool) (h:Zz s boxes l column=some r):Pure Ek 28 [.agg (Gu.cs s),E2 boxes,E1 l,G0 column] (·=BL r):=by
 unfold Zz at h
 refine H1 [.tmp 8] Tryz.func28 O O (Jr fun hK1=>(JLh (.ptr 1062 0) (Jf (cs:=(Gu.cs s)) 1062 O O O O O) O (Rq (BL false) O (G7 (hK1 (Gs [(1,E2 boxes),(2,E1 l),(3,G0 column),(4,Ec s)] [] 1062 rfl rfl rfl G rfl (by repeat' (first | exact .ptr | constructor)) ?_))))))
 refine Jr fun hK2=>(JLh (Ec s) (Gd Hq O O O) O (JLh (E7 s.Columns) (Gi J6 O O O) O (Rq (G0 column) O ?_)))
 obtain⟨m4,y3,hm4,hy3,h⟩:=Z0 h
 refine JLh (Ee y3) (He (f:=G3.av) (xs:=s.Columns) (y:=y3) O O O Hx hy3 hm4) O (JLh (.dptr ((G3.cs y3).drop 4)) (Gd Gb5 O O O) O (JLh (G0 y3.Height) (Gi Ge O O O) O (Rq (G0 y3.Height) O (G7 (hK2 (Jr fun hK5=>(Rq (G0 y3.Height) O (JLh (BL (decide (y3.Height≤0))) (Hb7 O O O) O (Rq (BL (decide (y3.Height≤0))) O (JLo (E2 boxes) [] O .scf G (fun hc=>G6 O O) O (JLo (E1 l) [] O .scf G (fun hc=>G6 O O) O (JLo (G0 column) [] O .scf G (fun hc=>G6 O O) O ?_))))))))))))
 obtain⟨r6,hr6,h⟩:=Gg h
 refine JLo (G0 r6) [19,20,21] O .scf ⟨Ua,Ua,Ua,G⟩ (fun hc=>Gw (args:=[E2 boxes,E1 l,G0 column,U8 1]) O (Gea boxes l column 1 r6 (H6 hc hr6)) Hdc ⟨O,O,O,O,O,O,O,O,G⟩) O (JLo (G0 y3.Height) [] O .scf G (fun hc=>G6 O O) O (JLo (BL (decide (r6≤y3.Height))) [22,23] O .scf ⟨Ua,Ua,G⟩ (fun hc=>Hb7 O O O) O (JLo (BL (decide (r6≤y3.Height))) [24] O .scf ⟨Ua,G⟩ (fun hc=>G6 O O) O (JLo (E2 boxes) [] O .optt G (fun hc=>G6 O O) O (JLo (E1 l) [] O .optt G (fun hc=>G6 O O) O (JLo (G0 column) [] O .optt G (fun hc=>G6 O O) O ?_))))))
 obtain⟨r7,hr7,h⟩:=Gg h
 refine JLo (G0 r7) [26,27,28] O .optt ⟨Ua,Ua,Ua,G⟩ (fun hc=>Gw (args:=[E2 boxes,E1 l,G0 column,U8 2]) O (Gea boxes l column 2 r7 (H6 hc hr7)) Hdc ⟨O,O,O,O,O,O,O,O,G⟩) O (JLo (G0 y3.Height) [] O .optt G (fun hc=>G6 O O) O (JLo (BL (decide (r7≤y3.Height))) [29,30] O .optt ⟨Ua,Ua,G⟩ (fun hc=>Hb7 O O O) O (Gc (u:=BL ((decide (r6≤y3.Height))&&(decide (r7≤y3.Height)))) [(25,BL (decide (r6≤y3.Height))),(31,_)] O O O .scf ⟨.all id,.part,G⟩ (fun hc=>Qu O O O O) ?_)))
 refine JLh (BL ((decide (y3.Height≤0))||((decide (r6≤y3.Height))&&(decide (r7≤y3.Height))))) (G44 O O O O) O (Rq (BL ((decide (y3.Height≤0))||((decide (r6≤y3.Height))&&(decide (r7≤y3.Height))))) O (G7 (hK5 (Gt (fin1 BL h)))))

def Ra (s:Gu) (boxes:List Ga) (l:List Stowed):Option Bool:=
 bnd (G0c s) fun r4=>
 bif (!r4) then
 (some false)
 else
 (bnd (G0d l) fun r7=>
  each (fun y10 i10 (s10:Unit) nx10=>
   bnd (G01 boxes y10.Ga) fun r16=>
   bnd (bif ((!(!r16.2))&&(decide (0 < (i10:Int)))) then G15 ((i10:Int) - 1) some else some 0) fun v19=>
   bnd (bif ((!(!r16.2))&&(decide (0 < (i10:Int)))) then Z1 l v19 some else some default) fun y20=>
   bnd (bif (!((!r16.2)||((decide (0 < (i10:Int)))&&(decide (y10.Ga≤y20.Ga))))) then G10 s y10.Slot r16.1.Size else some default) fun r21=>
   bnd (bif (!(((!r16.2)||((decide (0 < (i10:Int)))&&(decide (y10.Ga≤y20.Ga))))||(!r21))) then G30 y10.Slot r7 else some default) fun r22=>
   bif ((((!r16.2)||((decide (0 < (i10:Int)))&&(decide (y10.Ga≤y20.Ga))))||(!r21))||(!r22)) then
   (some false)
   else
   (bnd (Gfa (i10:Int) r7.length) fun m25=>
    each (fun y42 i42 (s42:Unit) nx42=>
     bnd (G2f y10.Slot y42) fun r48=>
     bif r48 then
     (some false)
     else
     (nx42 ()))
    (fun(s42:Unit)=>
     nx10 ()) (r7.take m25) 0 ()))
  (fun(s10:Unit)=>
   each (fun y64 i64 (s64:Unit) nx64=>
    bnd (Zz s boxes l (i64:Int)) fun r70=>
    bif (!r70) then
    (some false)
    else
    (nx64 ()))
   (fun(s64:Unit)=>
    some true) s.Columns 0 ()) l 0 ())
theorem G3c (s:Gu) (boxes:List Ga) (l:List Stowed) (r:Bool) (h:Ra s boxes l=some r):Pure Ek 9 [.agg (Gu.cs s),E2 boxes,E1 l] (·=BL r):=by
 unfold Ra at h
 refine H1 [.tmp 6] Tryz.func9 O O (Jr fun hK1=>(JLh (.ptr 1021 0) (Jf (cs:=(Gu.cs s)) 1021 O O O O O) O (Rq (BL false) O (G7 (hK1 (Gs [(1,E2 boxes),(2,E1 l),(3,Ec s)] [] 1021 rfl rfl rfl G rfl (by exact⟨.conv (.same rfl),.conv (.same rfl),.ptr,G⟩) (Js fun hK2=>?_)))))))
 refine Jr fun hK3=>(JLh (.agg (Gu.cs s)) (Gk Hf O O O) O ?_)
 obtain⟨r4,hr4,h⟩:=Gg h
 refine JLh (BL r4) (Gw O (J11.down s r4 hr4) J8d ⟨O,O,G⟩) O (JLh (BL (!r4)) (G06 (b:=r4) O O) O (G7 (hK3 (JCc O h (fun h hb=>?_) (fun h hb=>?_)))))
 ·
  refine Jr fun hK5=>(Rq (BL false) O (G7 (hK5 (Gt (fin1 BL h)))))
 ·
  refine Gp (hK2 (Jr fun hK6=>(Rq (E1 l) O ?_)))
  obtain⟨r7,hr7,h⟩:=Gg h
  refine JLh (E8 r7) (Gw O (H09 l r7 hr7) He6 ⟨O,O,G⟩) O (Rq (E8 r7) O (G7 (hK6 (Js fun hK8=>Jr fun hK9=>(Rq (E1 l) O (JLl Hd O O O fun hm21=>(Rq (G0 0) O (G7 (hK9 (Gv ?_))))))))))
  obtain⟨b10,kx10,hb10,hkx10,h⟩:=Ja h
  refine Hr (fun i10 (s10:Unit)=>each b10 kx10 (List.drop i10 l) i10 s10=some r) (fun i10 s10=>[(1,E2 boxes),(2,E1 l),(3,Ec s),(7,E8 r7),(20,E1 l),(21,Ej l.length),(22,Ej i10)]) (fun i10 s10=>[]) (fun i10=>l.length - i10) 0 () h ⟨(by repeat' constructor),G,rfl⟩ ?_
  clear h
  intro i10 s10 hi10 K10 e10
  refine Jr fun hK11=>(JLh (BL (decide ((i10:Int) < (l.length:Int)))) (Jc O O O) O (G7 (hK11 (Js fun hK12=>Gm O (fun hb=>?_) (fun hb=>?_)))))
  ·
   have hk10:=Jz hb
   obtain⟨y10,nx10,hy10,hn10,h⟩:=Hu hi10 hk10
   replace h:=Zr hb10 h
   refine Gp (hK12 (Js fun hK13=>Gv (Jr fun hK14=>(Rq (Ej i10) O (JLh (Ed y10) (He (f:=Stowed.av) (xs:=l) (y:=y10) O O O Hd hy10 O) O (JLh (.agg (Stowed.cs y10)) (Gk Yz O O O) O (JLh (.ptr 1022 0) (Jb 1022 4 Rg O O) O (Rq (Ej i10) O (J8 (u:=.junk) (Ht (u:=.agg (Stowed.cs y10)) (ds:=[G0 y10.Ga,G0 y10.Slot.G3,G0 y10.Slot.Tier,U8 y10.Slot.Half]) Zv O O O O O O O O) (G7 (hK14 ?_)))))))))))
   refine Gs [(1,E2 boxes),(2,E1 l),(3,Ec s),(7,E8 r7),(8,Ej i10),(9,Ed y10),(20,E1 l),(21,Ej l.length),(22,Ej i10)] [] 1022 rfl rfl rfl G rfl (by repeat' (first | exact .ptr | constructor)) (Jr fun hK15=>(Rq (E2 boxes) O (JLh (Ed y10) (Gd Jq O O O) O (JLh (G0 y10.Ga) (Gi Ge O O O) O ?_))))
   obtain⟨r16,hr16,h⟩:=Gg h
   refine JLh (.tup [.agg (Ga.cs r16.1),BL r16.2]) (Gw O (Gbb boxes y10.Ga r16 hr16) H3e ⟨O,O,O,O,G⟩) O (Rq (.tup [.agg (Ga.cs r16.1),BL r16.2]) O (JLh (.agg (Ga.cs r16.1)) (Hb O O O) O (JLh (BL r16.2) (Hb O O O) O (JLh (.ptr 1023 0) (Jb 1023 9 G27 O O) O (J8 (u:=.junk) (Ht (u:=.agg (Ga.cs r16.1)) (ds:=(Ga.cs r16.1)) G48 O O O O O O O O) (Rq (BL r16.2) O (G7 (hK15 ?_))))))))
   refine Gs [(1,E2 boxes),(2,E1 l),(3,Ec s),(7,E8 r7),(8,Ej i10),(9,Ed y10),(10,Eh r16.1),(11,BL r16.2),(20,E1 l),(21,Ej l.length),(22,Ej i10)] [] 1023 rfl rfl rfl G rfl (by repeat' (first | exact .ptr | constructor)) (Js fun hK17=>Js fun hK18=>?_)
   obtain⟨v19,hv19,h⟩:=Gg h
   obtain⟨y20,hy20,h⟩:=Gg h
   obtain⟨r21,hr21,h⟩:=Gg h
   obtain⟨r22,hr22,h⟩:=Gg h
   refine JC_d0 Qo (by kernel_rfl) (Dq (BL r16.2) (G6 O O) O (Dq (BL (!r16.2)) (G06 (b:=r16.2) O O) O (Dq (BL (!r16.2)) (G6 O O) O (Do (Ej i10) [] O .scf G (fun hc=>G6 O O) O (Do (BL (decide (0 < (i10:Int)))) [37] O .scf ⟨Ua,G⟩ (fun hc=>G47 O O O) O (Do (BL (decide (0 < (i10:Int)))) [38] O .scf ⟨Ua,G⟩ (fun hc=>G6 O O) O (Do (Ed y10) [] O .optt G (fun hc=>Gd Jq O O O) O (Do (G0 y10.Ga) [40] O .optt ⟨Ua,G⟩ (fun hc=>Gi Ge O O O) O (Do (E1 l) [] O .optt G (fun hc=>G6 O O) O (Do (Ej i10) [] O .optt G (fun hc=>G6 O O) O (Do (G0 v19) [43] O .optt ⟨Ua,G⟩ (fun hc=>H36 (G97 (H6 hc hv19)) O O O) O (Do (Ed y20) [42,44] O .optt ⟨Ua,Ua,G⟩ (fun hc=>(match Ya (H6 hc hy20) with | ⟨_,hm_,hy_⟩=>He (f:=Stowed.av) (xs:=l) (y:=y20) O O O Hd hy_ hm_)) O (Do (Ed y20) [45] O .optt ⟨Ua,G⟩ (fun hc=>Gd Jq O O O) O ?_)))))))))))))
   refine Do (G0 y20.Ga) [46] O .optt ⟨Ua,G⟩ (fun hc=>Gi Ge O O O) O (Do (BL (decide (y10.Ga≤y20.Ga))) [41,47] O .optt ⟨Ua,Ua,G⟩ (fun hc=>Hb7 O O O) O (Dg (.opt (!(!r16.2)) (BL ((decide (0 < (i10:Int)))&&(decide (y10.Ga≤y20.Ga))))) (Hn [(39,BL (decide (0 < (i10:Int)))),(48,_)] O O O .scf ⟨.all id,.part,G⟩ (fun hc=>Qu O O O O) O) O (Dq (BL ((!r16.2)||((decide (0 < (i10:Int)))&&(decide (y10.Ga≤y20.Ga))))) (G44 O O O O) O (Dq (BL ((!r16.2)||((decide (0 < (i10:Int)))&&(decide (y10.Ga≤y20.Ga))))) (G6 O O) O (Do (.agg (Gu.cs s)) [] O .scf G (fun hc=>Gk Hf O O O) O (Do (.dptr ((Stowed.cs y10).drop 1)) [] O .scf G (fun hc=>Gd J4 O O O) O (Do (.agg ((Stowed.cs y10).drop 1)) [53] O .scf ⟨Ua,G⟩ (fun hc=>Gk Q2 O O O) O (Do (.dptr ((Ga.cs r16.1).drop 2)) [] O .scf G (fun hc=>Gd Zg O O O) O (Do (U8 r16.1.Size) [55] O .scf ⟨Ua,G⟩ (fun hc=>Gi J5 O O O) O (Do (BL r21) [52,54,56] O .scf ⟨Ua,Ua,Ua,G⟩ (fun hc=>Gw (args:=[.agg (Gu.cs s),.agg ((Stowed.cs y10).drop 1),U8 r16.1.Size]) O (H0d s y10.Slot r16.1.Size r21 (H6 hc hr21)) He5 ⟨O,O,O,O,O,O,G⟩) O (Do (BL (!r21)) [57] O .scf ⟨Ua,G⟩ (fun hc=>G06 (b:=r21) O O) O (Dq (BL (((!r16.2)||((decide (0 < (i10:Int)))&&(decide (y10.Ga≤y20.Ga))))||(!r21))) (G44 O O O O) O (Dq (BL (((!r16.2)||((decide (0 < (i10:Int)))&&(decide (y10.Ga≤y20.Ga))))||(!r21))) (G6 O O) O ?_)))))))))))))
   refine Do (.dptr ((Stowed.cs y10).drop 1)) [] O .scf G (fun hc=>Gd J4 O O O) O (Do (.agg ((Stowed.cs y10).drop 1)) [61] O .scf ⟨Ua,G⟩ (fun hc=>Gk Q2 O O O) O (Do (E8 r7) [] O .scf G (fun hc=>G6 O O) O (Do (BL r22) [62,63] O .scf ⟨Ua,Ua,G⟩ (fun hc=>Gw (args:=[.agg ((Stowed.cs y10).drop 1),E8 r7]) O (H33 y10.Slot r7 r22 (H6 hc hr22)) He4 ⟨O,O,O,O,G⟩) O (Do (BL (!r22)) [64] O .scf ⟨Ua,G⟩ (fun hc=>G06 (b:=r22) O O) O (Dq (BL ((((!r16.2)||((decide (0 < (i10:Int)))&&(decide (y10.Ga≤y20.Ga))))||(!r21))||(!r22))) (G44 O O O O) O (Dnil (hK18 (JCc O h (fun h hb=>?_) (fun h hb=>?_)))))))))
   ·
    refine Jr fun hK23=>(Rq (BL false) O (G7 (hK23 (Gt (fin1 BL h)))))
   ·
    refine Gp (hK17 (Jr fun hK24=>(Rq (E8 r7) O (Rq (Ej i10) O ?_))))
    obtain⟨m25,hm25,h⟩:=Gg h
    refine JLh (E8 (r7.take m25)) (H4f (f:=Slot.av) (xs:=r7) O O O Ri (G4d hm25)) O (JLl Ri O O O fun hm70=>(Rq (G0 0) O (G7 (hK24 (Gv ?_)))))
    obtain⟨b42,kx42,hb42,hkx42,h⟩:=Ja h
    refine Hr (fun i42 (s42:Unit)=>each b42 kx42 (List.drop i42 (r7.take m25)) i42 s42=some r) (fun i42 s42=>[(1,E2 boxes),(2,E1 l),(3,Ec s),(7,E8 r7),(9,Ed y10),(20,E1 l),(21,Ej l.length),(22,Ej i10),(69,E8 (r7.take m25)),(70,G0 ((r7.take m25).length:Int)),(71,Ej i42)]) (fun i42 s42=>[]) (fun i42=>(r7.take m25).length - i42) 0 () h ⟨(by repeat' constructor),G,rfl⟩ ?_
    clear h
    intro i42 s42 hi42 K42 e42
    refine Jr fun hK43=>(JLh (BL (decide ((i42:Int) < ((r7.take m25).length:Int)))) (Jc O O O) O (G7 (hK43 (Js fun hK44=>Gm O (fun hb=>?_) (fun hb=>?_)))))
    ·
     have hk42:=Jz hb
     obtain⟨y42,nx42,hy42,hn42,h⟩:=Hu hi42 hk42
     replace h:=Zr hb42 h
     refine Gp (hK44 (Js fun hK45=>Gv (Jr fun hK46=>(JLh (Ei y42) (He (f:=Slot.av) (xs:=(r7.take m25)) (y:=y42) O O O Ri hy42 O) O (JLh (.agg (Slot.cs y42)) (Gk Q2 O O O) O (JLh (.ptr 1024 0) (Jb 1024 3 G64 O O) O (J8 (u:=.junk) (Ht (u:=.agg (Slot.cs y42)) (ds:=[G0 y42.G3,G0 y42.Tier,U8 y42.Half]) H3a O O O O O O O O) (G7 (hK46 ?_)))))))))
     refine Gs [(1,E2 boxes),(2,E1 l),(3,Ec s),(7,E8 r7),(9,Ed y10),(13,Ei y42),(20,E1 l),(21,Ej l.length),(22,Ej i10),(69,E8 (r7.take m25)),(70,G0 ((r7.take m25).length:Int)),(71,Ej i42)] [] 1024 rfl rfl rfl G rfl (by repeat' (first | exact .ptr | constructor)) ?_
     refine Jr fun hK47=>(JLh (.dptr ((Stowed.cs y10).drop 1)) (Gd J4 O O O) O (JLh (.agg ((Stowed.cs y10).drop 1)) (Gk Q2 O O O) O (JLh (.agg (Slot.cs y42)) (Gk Q2 O O O) O ?_)))
     obtain⟨r48,hr48,h⟩:=Gg h
     refine JLh (BL r48) (Gw O (H32 y10.Slot y42 r48 hr48) He3 ⟨O,O,O,O,G⟩) O (G7 (hK47 (JCc O h (fun h hb=>?_) (fun h hb=>?_))))
     ·
      refine Jr fun hK49=>(Rq (BL false) O (G7 (hK49 (Gt (fin1 BL h)))))
     ·
      refine Gp (hK45 (G4 (JLh (G0 ((i42+1:Nat):Int)) (J0 (Ho hk42 hm70) O O O) O (Rq (G0 ((i42+1:Nat):Int)) O (G7 (e42 _ _ (i42+1) () (app1 hn42 h) (by omega) ⟨(by repeat' constructor),G,rfl⟩))))))
    ·
     have h:=app1 hkx42 (Hv hi42 (Hi hb))
     refine Hy (hK13 (G4 (JLh (G0 ((i10+1:Nat):Int)) (J0 (Ho hk10 hm21) O O O) O (Rq (G0 ((i10+1:Nat):Int)) O (G7 (e10 _ _ (i10+1) () (app1 hn10 h) (by omega) ⟨(by repeat' constructor),G,rfl⟩))))))
  ·
   have h:=app1 hkx10 (Hv hi10 (Hi hb))
   refine Hy (hK8 (Js fun hK50=>Jr fun hK51=>(JLh (Ec s) (Gd Hq O O O) O (JLh (E7 s.Columns) (Gi J6 O O O) O (JLl Hx O O O fun hm83=>(Rq (G0 0) O (G7 (hK51 (Gv ?_)))))))))
   obtain⟨b64,kx64,hb64,hkx64,h⟩:=Ja h
   refine Hr (fun i64 (s64:Unit)=>each b64 kx64 (List.drop i64 s.Columns) i64 s64=some r) (fun i64 s64=>[(1,E2 boxes),(2,E1 l),(3,Ec s),(83,Ej s.Columns.length),(84,Ej i64)]) (fun i64 s64=>[]) (fun i64=>s.Columns.length - i64) 0 () h ⟨(by repeat' constructor),G,rfl⟩ ?_
   clear h
   intro i64 s64 hi64 K64 e64
   refine Jr fun hK65=>(JLh (BL (decide ((i64:Int) < (s.Columns.length:Int)))) (Jc O O O) O (G7 (hK65 (Js fun hK66=>Gm O (fun hb=>?_) (fun hb=>?_)))))
   ·
    have hk64:=Jz hb
    obtain⟨y64,nx64,hy64,hn64,h⟩:=Hu hi64 hk64
    replace h:=Zr hb64 h
    refine Gp (hK66 (Js fun hK67=>Gv (Jr fun hK68=>(Rq (Ej i64) O (Rq (Ej i64) O (G7 (hK68 (Jr fun hK69=>(JLh (.agg (Gu.cs s)) (Gk Hf O O O) O (Rq (E2 boxes) O (Rq (E1 l) O (Rq (Ej i64) O ?_))))))))))))
    obtain⟨r70,hr70,h⟩:=Gg h
    refine JLh (BL r70) (Gw O (H30 s boxes l (i64:Int) r70 hr70) He2 ⟨O,O,O,O,O,O,O,O,G⟩) O (JLh (BL (!r70)) (G06 (b:=r70) O O) O (G7 (hK69 (JCc O h (fun h hb=>?_) (fun h hb=>?_)))))
    ·
     refine Jr fun hK71=>(Rq (BL false) O (G7 (hK71 (Gt (fin1 BL h)))))
    ·
     refine Gp (hK67 (G4 (JLh (G0 ((i64+1:Nat):Int)) (J0 (Ho hk64 hm83) O O O) O (Rq (G0 ((i64+1:Nat):Int)) O (G7 (e64 _ _ (i64+1) () (app1 hn64 h) (by omega) ⟨(by repeat' constructor),G,rfl⟩))))))
   ·
    have h:=app1 hkx64 (Hv hi64 (Hi hb))
    refine Hy (hK50 (Jr fun hK72=>(Rq (BL true) O (G7 (hK72 (Gt (fin1 BL h)))))))

def Jn (s:Gu) (boxes:List Ga) (l:List Stowed) (open_:List Int):Option Bool:=
 each (fun y22 i22 (s22:Unit) nx22=>
  bnd (bif ((!((decide (y22 < 0))||(decide ((s.Covers.length:Int)≤y22))))&&(decide (0 < (i22:Int)))) then G15 ((i22:Int) - 1) some else some 0) fun v28=>
  bnd (bif ((!((decide (y22 < 0))||(decide ((s.Covers.length:Int)≤y22))))&&(decide (0 < (i22:Int)))) then Z1 open_ v28 some else some default) fun y29=>
  bif (((decide (y22 < 0))||(decide ((s.Covers.length:Int)≤y22)))||((decide (0 < (i22:Int)))&&(decide (y22≤y29)))) then
  (some false)
  else
  (nx22 ()))
 (fun(s22:Unit)=>
  bnd (Ra s boxes l) fun r32=>
  some r32) open_ 0 ()
theorem G0f (s:Gu) (boxes:List Ga) (l:List Stowed) (open_:List Int) (r:Bool) (h:Jn s boxes l open_=some r):Pure Ek 13 [.agg (Gu.cs s),E2 boxes,E1 l,E0 open_] (·=BL r):=by
 unfold Jn at h
 refine H1 [.tmp 8] Tryz.func13 O O (Jr fun hK1=>(JLh (.ptr 1036 0) (Jf (cs:=(Gu.cs s)) 1036 O O O O O) O (Rq (BL false) O (G7 (hK1 (Gs [(1,E2 boxes),(2,E1 l),(3,E0 open_),(4,Ec s)] [] 1036 rfl rfl rfl G rfl (by repeat' (first | exact .ptr | constructor)) (Js fun hK2=>?_)))))))
 refine Jr fun hK3=>(Rq (E0 open_) O (JLl Gj O O O fun hm12=>(Rq (G0 0) O (G7 (hK3 (Gv ?_))))))
 obtain⟨b22,kx22,hb22,hkx22,h⟩:=Ja h
 refine Hr (fun i22 (s22:Unit)=>each b22 kx22 (List.drop i22 open_) i22 s22=some r) (fun i22 s22=>[(1,E2 boxes),(2,E1 l),(3,E0 open_),(4,Ec s),(11,E0 open_),(12,Ej open_.length),(13,Ej i22)]) (fun i22 s22=>[]) (fun i22=>open_.length - i22) 0 () h ⟨(by repeat' constructor),G,rfl⟩ ?_
 clear h
 intro i22 s22 hi22 K22 e22
 refine Jr fun hK23=>(JLh (BL (decide ((i22:Int) < (open_.length:Int)))) (Jc O O O) O (G7 (hK23 (Js fun hK24=>Gm O (fun hb=>?_) (fun hb=>?_)))))
 ·
  have hk22:=Jz hb
  obtain⟨y22,nx22,hy22,hn22,h⟩:=Hu hi22 hk22
  replace h:=Zr hb22 h
  refine Gp (hK24 (Js fun hK25=>Gv (Jr fun hK26=>(Rq (Ej i22) O (JLh (.dptr [G0 y22]) (He (f:=G0) (xs:=open_) (y:=y22) O O O Gj hy22 O) O (JLh (G0 y22) (Gi Ge O O O) O (Rq (Ej i22) O (Rq (G0 y22) O (G7 (hK26 ?_))))))))))
  refine Jr fun hK27=>(Rq (G0 y22) O (JLh (BL (decide (y22 < 0))) (Jc O O O) O (Rq (BL (decide (y22 < 0))) O (JLo (G0 y22) [] O .scf G (fun hc=>G6 O O) O (JLo (.dptr [E3 s.Covers,G0 s.Light.Kilos,G0 s.Light.X,G0 s.Light.Y,G0 s.Light.Z,E4 s.Rows,E5 s.Frames,E6 s.Tanks,G0 s.G2.Tolerance,G0 s.G2.Trim,G0 s.G2.List_,G0 s.G2.Stability]) [] O .scf G (fun hc=>Gd Jt O O O) O (JLo (E3 s.Covers) [22] O .scf ⟨Ua,G⟩ (fun hc=>Gi Qw O O O) O (JLo (Ej s.Covers.length) [23] O .scf ⟨Ua,G⟩ (fun hc=>Z6 (f:=G9.av) (xs:=s.Covers) Jw O O) O (JLo (BL (decide ((s.Covers.length:Int)≤y22))) [21,24] O .scf ⟨Ua,Ua,G⟩ (fun hc=>Ga1 O O O) O (JLh (BL ((decide (y22 < 0))||(decide ((s.Covers.length:Int)≤y22)))) (G44 O O O O) O (Rq (BL ((decide (y22 < 0))||(decide ((s.Covers.length:Int)≤y22)))) O (JLo (Ej i22) [] O .scf G (fun hc=>G6 O O) O (JLo (BL (decide (0 < (i22:Int)))) [28] O .scf ⟨Ua,G⟩ (fun hc=>G47 O O O) O (JLo (BL (decide (0 < (i22:Int)))) [29] O .scf ⟨Ua,G⟩ (fun hc=>G6 O O) O ?_)))))))))))))
  refine JLo (G0 y22) [] O .optt G (fun hc=>G6 O O) O (JLo (E0 open_) [] O .optt G (fun hc=>G6 O O) O (JLo (Ej i22) [] O .optt G (fun hc=>G6 O O) O ?_))
  obtain⟨v28,hv28,h⟩:=Gg h
  refine JLo (G0 v28) [33] O .optt ⟨Ua,G⟩ (fun hc=>H36 (G97 (H6 hc hv28)) O O O) O ?_
  obtain⟨y29,hy29,h⟩:=Gg h
  refine JLo (.dptr [G0 y29]) [32,34] O .optt ⟨Ua,Ua,G⟩ (fun hc=>(match Ya (H6 hc hy29) with | ⟨_,hm_,hy_⟩=>He (f:=G0) (xs:=open_) (y:=y29) O O O Gj hy_ hm_)) O (JLo (G0 y29) [35] O .optt ⟨Ua,G⟩ (fun hc=>Gi Ge O O O) O (JLo (BL (decide (y22≤y29))) [31,36] O .optt ⟨Ua,Ua,G⟩ (fun hc=>Hb7 O O O) O (Gc (u:=BL ((decide (0 < (i22:Int)))&&(decide (y22≤y29)))) [(30,BL (decide (0 < (i22:Int)))),(37,_)] O O O .scf ⟨.all id,.part,G⟩ (fun hc=>Qu O O O O) ?_)))
  refine JLh (BL (((decide (y22 < 0))||(decide ((s.Covers.length:Int)≤y22)))||((decide (0 < (i22:Int)))&&(decide (y22≤y29))))) (G44 O O O O) O (G7 (hK27 (JCc O h (fun h hb=>?_) (fun h hb=>?_))))
  ·
   refine Jr fun hK30=>(Rq (BL false) O (G7 (hK30 (Gt (fin1 BL h)))))
  ·
   refine Gp (hK25 (G4 (JLh (G0 ((i22+1:Nat):Int)) (J0 (Ho hk22 hm12) O O O) O (Rq (G0 ((i22+1:Nat):Int)) O (G7 (e22 _ _ (i22+1) () (app1 hn22 h) (by omega) ⟨(by repeat' constructor),G,rfl⟩))))))
 ·
  have h:=app1 hkx22 (Hv hi22 (Hi hb))
  refine Hy (hK2 (Jr fun hK31=>(JLh (.agg (Gu.cs s)) (Gk Hf O O O) O (Rq (E2 boxes) O (Rq (E1 l) O ?_)))))
  obtain⟨r32,hr32,h⟩:=Gg h
  refine JLh (BL r32) (Gw O (G3c s boxes l r32 hr32) H14 ⟨O,O,O,O,O,O,G⟩) O (Rq (BL r32) O (G7 (hK31 (Gt (fin1 BL h)))))

def G1d (x:Stowed) (p1:Int):Option Bool:=
 some (decide (x.Ga=p1))
theorem Hbc (x:Stowed) (p1:Int) (r:Bool) (h:G1d x p1=some r):Pure Ek 39 [.agg (Stowed.cs x),.dptr [G0 p1]] (·=BL r):=by
 unfold G1d at h
 refine H1 [.tmp 3] Tryz.func39 O O (Jr fun hK1=>(JLh (.ptr 1080 0) (Jf (cs:=[G0 x.Ga,G0 x.Slot.G3,G0 x.Slot.Tier,U8 x.Slot.Half]) 1080 O O O O O) O (Rq (BL false) O (G7 (hK1 (Gs [(1,.dptr [G0 p1]),(2,Ed x)] [] 1080 rfl rfl rfl G rfl (by exact⟨.conv (.same rfl),.ptr,G⟩) (Jr fun hK2=>(JLh (Ed x) (Gd Jq O O O) O (JLh (G0 x.Ga) (Gi Ge O O O) O (JLh (G0 p1) (Gi Ge O O O) O (JLh (BL (decide (x.Ga=p1))) (Qc O O O) O (Rq (BL (decide (x.Ga=p1))) O (G7 (hK2 (Gt (fin1 BL h))))))))))))))))

def Jo (s:List Stowed) (f:Stowed→Option Bool):Option Int:=
 each (fun y20 i20 (s20:Unit) nx20=>
  bnd (f y20) fun r26=>
  bif r26 then
  (some (i20:Int))
  else
  (nx20 ()))
 (fun(s20:Unit)=>
  some (-1)) s 0 ()
theorem Z3 (s:List Stowed) (f:Stowed→Option Bool) (f_f:FuncId) (f_c:List AV) (f_B:Hc Ek f_f=true) (f_d:Rj (fun _=>false) f_c=true) (f_w:∀ a0 q,f a0=some q→Pure Ek f_f ([.agg (Stowed.cs a0)]++f_c) (·=BL q)) (r:Int) (h:Jo s f=some r):Pure Ek 38 [E1 s,.fn f_f f_c] (·=G0 r):=by
 unfold Jo at h
 refine H1 [.tmp 4] Tryz.func38 O O (Jr fun hK1=>(Rq (G0 0) O (G7 (hK1 (Js fun hK2=>Jr fun hK3=>(Rq (E1 s) O (JLl Hd O O O fun hm7=>(Rq (G0 0) O (G7 (hK3 (Gv ?_)))))))))))
 obtain⟨b20,kx20,hb20,hkx20,h⟩:=Ja h
 refine Hr (fun i20 (s20:Unit)=>each b20 kx20 (List.drop i20 s) i20 s20=some r) (fun i20 s20=>[(0,E1 s),(1,.fn f_f f_c),(7,Ej s.length),(8,Ej i20)]) (fun i20 s20=>[]) (fun i20=>s.length - i20) 0 () h ⟨⟨.same O,.same (Je _ _ f_d),.same O,.same O,G⟩,G,O⟩ ?_
 clear h
 intro i20 s20 hi20 K20 e20
 refine Jr fun hK21=>(JLh (BL (decide ((i20:Int) < (s.length:Int)))) (Jc O O O) O (G7 (hK21 (Js fun hK22=>Gm O (fun hb=>?_) (fun hb=>?_)))))
 ·
  have hk20:=Jz hb
  obtain⟨y20,nx20,hy20,hn20,h⟩:=Hu hi20 hk20
  replace h:=Zr hb20 h
  refine Gp (hK22 (Js fun hK23=>Gv (Jr fun hK24=>(Rq (Ej i20) O (Rq (Ej i20) O (G7 (hK24 (Jr fun hK25=>(Rq (.fn f_f f_c) O (Rq (E1 s) O (Rq (Ej i20) O (JLh (Ed y20) (He (f:=Stowed.av) (xs:=s) (y:=y20) O O O Hd hy20 O) O (JLh (.agg (Stowed.cs y20)) (Gk Yz O O O) O ?_)))))))))))))
  obtain⟨r26,hr26,h⟩:=Gg h
  refine JLh (BL r26) (G20 (args:=[.agg (Stowed.cs y20)]) (caps:=f_c) O O (f_w y20 _ hr26) f_B ⟨O,O,G⟩ f_d) O (G7 (hK25 (JCc O h (fun h hb=>?_) (fun h hb=>?_))))
  ·
   refine Jr fun hK27=>(Rq (Ej i20) O (Rq (Ej i20) O (G7 (hK27 (Gt (fin1 G0 h))))))
  ·
   refine Gp (hK23 (G4 (JLh (G0 ((i20+1:Nat):Int)) (J0 (Ho hk20 hm7) O O O) O (Rq (G0 ((i20+1:Nat):Int)) O (G7 (e20 _ _ (i20+1) () (app1 hn20 h) (by omega) ⟨⟨.same rfl,.same (Je _ _ f_d),.same rfl,.same rfl,G⟩,G,rfl⟩))))))
 ·
  have h:=app1 hkx20 (Hv hi20 (Hi hb))
  refine Hy (hK2 (Jr fun hK28=>(Rq (G0 (-1)) O (G7 (hK28 (Gt (fin1 G0 h)))))))

def Qq (l:List Stowed) (id_:Int):Option Int:=
 bnd (Jo l (fun z0=>G1d z0 id_)) fun r3=>
 some r3
theorem Zm (l:List Stowed) (id_:Int) (r:Int) (h:Qq l id_=some r):Pure Ek 17 [E1 l,G0 id_] (·=G0 r):=by
 unfold Qq at h
 refine H1 [.tmp 4] Tryz.func17 O O (Jr fun hK1=>(JLh (.ptr 1041 0) (Jf (cs:=[G0 id_]) 1041 O O O O O) O (Rq (G0 0) O (G7 (hK1 (Gs [(0,E1 l),(3,.dptr [G0 id_])] [] 1041 rfl rfl rfl G rfl (by exact⟨.conv (.same rfl),.ptr,G⟩) (Jr fun hK2=>(Rq (E1 l) O (JLh (.fn 39 [.dptr [G0 id_]]) (Yv (cs:=[.dptr [G0 id_]]) O O) O ?_)))))))))
 obtain⟨r3,hr3,h⟩:=Gg h
 refine JLh (G0 r3) (Gw O (Z3 l (fun z0=>G1d z0 id_) 39 [.dptr [G0 id_]] J88 O (fun z0 q hq=>Hbc z0 id_ q hq) r3 hr3) Hdf ⟨O,O,O,O,G⟩) O (Rq (G0 r3) O (G7 (hK2 (Gt (fin1 G0 h)))))

def G69 (a:Slot) (b:Slot):Option Bool:=
 bnd (bif ((decide (a.G3=b.G3))&&(decide (b.Tier < a.Tier))) then Zo a.Half b.Half else some default) fun r3=>
 some (((decide (a.G3=b.G3))&&(decide (b.Tier < a.Tier)))&&r3)
theorem M_slot_Over_w (a:Slot) (b:Slot) (r:Bool) (h:G69 a b=some r):Pure Ek 36 [.agg [G0 a.G3,G0 a.Tier,U8 a.Half],.agg [G0 b.G3,G0 b.Tier,U8 b.Half]] (·=BL r):=by
 unfold G69 at h
 refine H1 [.tmp 4] Tryz.func36 O O (Jr fun hK1=>(JLh (.ptr 1076 0) (Jf (cs:=[G0 a.G3,G0 a.Tier,U8 a.Half]) 1076 O O O O O) O (JLh (.ptr 1077 0) (Jf (cs:=[G0 b.G3,G0 b.Tier,U8 b.Half]) 1077 O O O O O) O (Rq (BL false) O (G7 (hK1 (Gs [(2,.dptr [G0 a.G3,G0 a.Tier,U8 a.Half]),(3,.ptr 1077 0)] [(1077,.box 44 [G0 b.G3,G0 b.Tier,U8 b.Half])] 1076 rfl rfl rfl ⟨⟨_,rfl,.boxEq rfl rfl⟩,G⟩ rfl (by exact⟨.ptr,.conv (.same rfl),G⟩) (Gs [(2,.dptr [G0 a.G3,G0 a.Tier,U8 a.Half]),(3,.dptr [G0 b.G3,G0 b.Tier,U8 b.Half])] [] 1077 rfl rfl rfl G rfl (by exact⟨.conv (.same rfl),.ptr,G⟩) ?_))))))))
 refine Jr fun hK2=>(JLh (.dptr [G0 a.G3,G0 a.Tier,U8 a.Half]) (Gd Jd O O O) O (JLh (G0 a.G3) (Gi Ge O O O) O (JLh (.dptr [G0 b.G3,G0 b.Tier,U8 b.Half]) (Gd Jd O O O) O (JLh (G0 b.G3) (Gi Ge O O O) O (JLh (BL (decide (a.G3=b.G3))) (Qc O O O) O (Rq (BL (decide (a.G3=b.G3))) O (JLo (.dptr [G0 a.Tier,U8 a.Half]) [] O .sct G (fun hc=>Gd Y0 O O O) O (JLo (G0 a.Tier) [11] O .sct ⟨Ua,G⟩ (fun hc=>Gi Ge O O O) O (JLo (.dptr [G0 b.Tier,U8 b.Half]) [] O .sct G (fun hc=>Gd Y0 O O O) O (JLo (G0 b.Tier) [13] O .sct ⟨Ua,G⟩ (fun hc=>Gi Ge O O O) O (JLo (BL (decide (b.Tier < a.Tier))) [12,14] O .sct ⟨Ua,Ua,G⟩ (fun hc=>G47 O O O) O (JLh (BL ((decide (a.G3=b.G3))&&(decide (b.Tier < a.Tier)))) (Qu O O O O) O (Rq (BL ((decide (a.G3=b.G3))&&(decide (b.Tier < a.Tier)))) O ?_)))))))))))))
 refine JLo (.dptr [U8 a.Half]) [] O .sct G (fun hc=>Gd R6 O O O) O (JLo (U8 a.Half) [18] O .sct ⟨Ua,G⟩ (fun hc=>Gi J5 O O O) O (JLo (.dptr [U8 b.Half]) [] O .sct G (fun hc=>Gd R6 O O O) O (JLo (U8 b.Half) [20] O .sct ⟨Ua,G⟩ (fun hc=>Gi J5 O O O) O ?_)))
 obtain⟨r3,hr3,h⟩:=Gg h
 refine JLo (BL r3) [19,21] O .sct ⟨Ua,Ua,G⟩ (fun hc=>Gw (args:=[U8 a.Half,U8 b.Half]) O (Geb a.Half b.Half r3 (H6 hc hr3)) Hdd ⟨O,O,O,O,G⟩) O (JLh (BL (((decide (a.G3=b.G3))&&(decide (b.Tier < a.Tier)))&&r3)) (Qu O O O O) O (Rq (BL (((decide (a.G3=b.G3))&&(decide (b.Tier < a.Tier)))&&r3)) O (G7 (hK2 (Gt (fin1 BL h))))))

def Yh (l:List Stowed) (id_:Int):Option ((List Int)×Int):=
 bnd (Qq l id_) fun r3=>
 bif decide (r3 < 0) then
 (some ([],6))
 else
 (each (fun y30 i30 (s30:(List Int)) nx30=>
   jp (fun kj33=>
    Z1 l r3 fun y36=>
    bnd (G69 y30.Slot y36.Slot) fun r38=>
    bif r38 then
    (need (decide ((s30.length+[y30.Ga].length)*8≤140737488355328∧s30.length+[y30.Ga].length≤maxLen)) <|
     kj33 (s30++[y30.Ga]))
    else
    (kj33 s30)) fun(j33:(List Int))=>
   nx30 j33)
  (fun(s30:(List Int))=>
   some (s30,0)) l 0 [])
theorem H0c (l:List Stowed) (id_:Int) (r:(List Int)×Int) (h:Yh l id_=some r):Pure Ek 15 [E1 l,G0 id_] (·=.tup [E0 r.1,G0 r.2]):=by
 unfold Yh at h
 refine H1 [.tmp 4,.tmp 5] Tryz.func15 O O (Jr fun hK1=>(JLh (E0 ([]:List Int)) (Hj 1 O O) O (Rq (G0 0) O (G7 (hK1 (Jr fun hK2=>(Rq (E1 l) O (Rq (G0 id_) O ?_))))))))
 obtain⟨r3,hr3,h⟩:=Gg h
 refine JLh (G0 r3) (Gw O (Zm l id_ r3 hr3) G4a ⟨O,O,O,O,G⟩) O (Rq (G0 r3) O (G7 (hK2 (Js fun hK4=>Jr fun hK5=>(Rq (G0 r3) O (JLh (BL (decide (r3 < 0))) (Jc O O O) O (G7 (hK5 (JCc O h (fun h hb=>?_) (fun h hb=>?_))))))))))
 ·
  refine Jr fun hK6=>(JLh (E0 ([]:List Int)) (Hj 1 O O) O (Rq (G0 6) O (G7 (hK6 (Gt (⟨[E0 ([]:List Int),G0 6],[],G,O,⟨⟨_,O,.conv (.same O)⟩,⟨_,O,.conv (.same O)⟩,G⟩,O,congrArg (fun r:(List Int)×Int=>(.tup [E0 r.1,G0 r.2]:AV)) (Option.some.inj h)⟩))))))
 ·
  refine Gp (hK4 (Jr fun hK7=>(JLh (OW 1038 1 G0 ([]:List Int)) (G6d 1038 3 1 O O O) O (G7 (hK7 (Js fun hK8=>Jr fun hK9=>(Rq (E1 l) O (JLl Hd O O O fun hm16=>(Rq (G0 0) O (G7 (hK9 (Gv ?_))))))))))))
  obtain⟨b30,kx30,hb30,hkx30,h⟩:=Ja h
  refine Hr (fun i30 (s30:(List Int))=>each b30 kx30 (List.drop i30 l) i30 s30=some r) (fun i30 s30=>[(0,E1 l),(6,G0 r3),(7,OW 1038 1 G0 s30),(15,E1 l),(16,Ej l.length),(17,Ej i30)]) (fun i30 s30=>[(1038,.spare 3 1 s30.length s30.length)]) (fun i30=>l.length - i30) 0 [] h ⟨(by repeat' constructor),⟨⟨_,rfl,.same⟩,G⟩,rfl⟩ ?_
  clear h
  intro i30 s30 hi30 K30 e30
  refine Jr fun hK31=>(JLh (BL (decide ((i30:Int) < (l.length:Int)))) (Jc O O O) O (G7 (hK31 (Js fun hK32=>Gm O (fun hb=>?_) (fun hb=>?_)))))
  ·
   have hk30:=Jz hb
   obtain⟨y30,nx30,hy30,hn30,h⟩:=Hu hi30 hk30
   replace h:=Zr hb30 h
   refine Gp (hK32 ?_)
   obtain⟨kj33,hkj33,h⟩:=Yo h
   refine Rb (fun j33:(List Int)=>kj33 j33=some r) (fun j33=>[(0,E1 l),(6,G0 r3),(7,OW 1038 1 G0 j33),(15,E1 l),(16,Ej l.length),(17,Ej i30)]) (fun j33=>[(1038,.spare 3 1 j33.length j33.length)]) (fun Kj33 ej33=>?_) ?_
   ·
    refine Gv (Jr fun hK34=>(JLh (Ed y30) (He (f:=Stowed.av) (xs:=l) (y:=y30) O O O Hd hy30 O) O (JLh (.agg (Stowed.cs y30)) (Gk Yz O O O) O (JLh (.ptr 1039 0) (Jb 1039 4 Rg O O) O (J8 (u:=.junk) (Ht (u:=.agg (Stowed.cs y30)) (ds:=[G0 y30.Ga,G0 y30.Slot.G3,G0 y30.Slot.Tier,U8 y30.Slot.Half]) Zv O O O O O O O O) (G7 (hK34 (Gs [(0,E1 l),(6,G0 r3),(7,OW 1038 1 G0 s30),(9,Ed y30),(15,E1 l),(16,Ej l.length),(17,Ej i30)] [(1038,.spare 3 1 s30.length s30.length)] 1039 rfl rfl rfl ⟨⟨_,rfl,.same⟩,G⟩ rfl (by repeat' (first | exact .ptr | constructor)) (Js fun hK35=>?_)))))))))
    refine Za (l':=[(0,E1 l),(6,G0 r3),(7,OW 1038 1 G0 s30),(9,Ed y30),(15,E1 l),(16,Ej l.length),(17,Ej i30)]) (L':=[(1038,.spare 3 1 s30.length s30.length)]) ⟨(by repeat' constructor),⟨⟨_,rfl,.same⟩,G⟩,rfl⟩ ?_
    obtain⟨m37,y36,hm37,hy36,h⟩:=Z0 h
    obtain⟨r38,hr38,h⟩:=Gg h
    refine JC_d0 Qo (by kernel_rfl) (Dq (.dptr ((Stowed.cs y30).drop 1)) (Gd J4 O O O) O (Dq (.agg ((Stowed.cs y30).drop 1)) (Gk Q2 O O O) O (Dq (E1 l) (G6 O O) O (Dq (G0 r3) (G6 O O) O (Dq (Ed y36) (He (f:=Stowed.av) (xs:=l) (y:=y36) O O O Hd hy36 hm37) O (Dq (.dptr ((Stowed.cs y36).drop 1)) (Gd J4 O O O) O (Dq (.agg ((Stowed.cs y36).drop 1)) (Gk Q2 O O O) O (Dq (BL r38) (Gw (args:=[.agg ((Stowed.cs y30).drop 1),.agg ((Stowed.cs y36).drop 1)]) O (M_slot_Over_w y30.Slot y36.Slot r38 hr38) J89 ⟨O,O,O,O,G⟩) O (Dnil (hK35 (JCc O h (fun h hb=>?_) (fun h hb=>?_))))))))))))
    ·
     refine G4 (Rq (OW 1038 1 G0 s30) O (JLh (Ed y30) (Gd Jq O O O) O (JLh (G0 y30.Ga) (Gi Ge O O O) O (JLh (E0 [y30.Ga]) (H9 (xs:=[G0 y30.Ga]) O ⟨O,O,G⟩ Gj Qd O O O O) O ?_))))
     obtain⟨ha39,h⟩:=Jm h
     refine JLh (OW 1038 1 G0 (s30++[y30.Ga])) (Yb (f:=G0) (xs:=s30) (ys:=[y30.Ga]) O O O O Gj G09 ha39 (fun _=>O) (.inl O) O) O (Rq (OW 1038 1 G0 (s30++[y30.Ga])) O (G7 (ej33 _ _ (s30++[y30.Ga]) h ⟨(by repeat' constructor),⟨⟨_,rfl,.same⟩,G⟩,rfl⟩)))
    ·
     refine Gp (ej33 _ _ s30 h ⟨(by repeat' constructor),⟨⟨_,rfl,.same⟩,G⟩,rfl⟩)
   ·intro j33 h
    replace h:=app1 hkj33 h
    refine G4 (JLh (G0 ((i30+1:Nat):Int)) (J0 (Ho hk30 hm16) O O O) O (Rq (G0 ((i30+1:Nat):Int)) O (G7 (e30 _ _ (i30+1) j33 (app1 hn30 h) (by omega) ⟨(by repeat' constructor),⟨⟨_,rfl,.same⟩,G⟩,rfl⟩))))
  ·
   have h:=app1 hkx30 (Hv hi30 (Hi hb))
   refine Hy (hK8 (Jr fun hK40=>(Rq (OW 1038 1 G0 s30) O (Rq (OW 1038 1 G0 s30) O (Rq (G0 0) O (G7 (hK40 (Gt (⟨[E0 s30,G0 0],[],G,O,⟨⟨_,O,.conv (.list O)⟩,⟨_,O,.conv (.same O)⟩,G⟩,O,congrArg (fun r:(List Int)×Int=>(.tup [E0 r.1,G0 r.2]:AV)) (Option.some.inj h)⟩)))))))))

def Ze (r_:Int) (p1:G3):Option Bool:=
 some (decide (r_=p1.Row))
theorem H76 (r_:Int) (p1:G3) (r:Bool) (h:Ze r_ p1=some r):Pure Ek 93 [G0 r_,Ee p1] (·=BL r):=by
 unfold Ze at h
 refine H1 [.tmp 3] Tryz.func93 O O (Jr fun hK1=>(Rq (BL false) O (G7 (hK1 (Jr fun hK2=>(Rq (G0 r_) O (JLh (.dptr ((G3.cs p1).drop 1)) (Gd Zh O O O) O (JLh (G0 p1.Row) (Gi Ge O O O) O (JLh (BL (decide (r_=p1.Row))) (Qc O O O) O (Rq (BL (decide (r_=p1.Row))) O (G7 (hK2 (Gt (fin1 BL h))))))))))))))

def Yi (l:List Int) (wanted:Int→Option Bool):Option (List Int):=
 each (fun y21 i21 (s21:(List Int)) nx21=>
  jp (fun kj24=>
   bnd (wanted y21) fun r27=>
   bif r27 then
   (need (decide ((s21.length+[(i21:Int)].length)*8≤140737488355328∧s21.length+[(i21:Int)].length≤maxLen)) <|
    kj24 (s21++[(i21:Int)]))
   else
   (kj24 s21)) fun(j24:(List Int))=>
  nx21 j24)
 (fun(s21:(List Int))=>
  some s21) l 0 []
theorem H26 (l:List Int) (wanted:Int→Option Bool) (wanted_f:FuncId) (wanted_c:List AV) (wanted_B:Hc Ek wanted_f=true) (wanted_d:Rj (fun _=>false) wanted_c=true) (wanted_w:∀ a0 q,wanted a0=some q→Pure Ek wanted_f ([G0 a0]++wanted_c) (·=BL q)) (r:(List Int)) (h:Yi l wanted=some r):Pure Ek 92 [E0 l,.fn wanted_f wanted_c] (·=E0 r):=by
 unfold Yi at h
 refine H1 [.tmp 4] Tryz.func92 O O (Jr fun hK1=>(JLh (E0 ([]:List Int)) (Hj 1 O O) O (G7 (hK1 (Jr fun hK2=>(JLh (OW 1110 1 G0 ([]:List Int)) (G6d 1110 3 1 O O O) O (G7 (hK2 (Js fun hK3=>Jr fun hK4=>(Rq (E0 l) O (JLl Gj O O O fun hm9=>(Rq (G0 0) O (G7 (hK4 (Gv ?_)))))))))))))))
 obtain⟨b21,kx21,hb21,hkx21,h⟩:=Ja h
 refine Hr (fun i21 (s21:(List Int))=>each b21 kx21 (List.drop i21 l) i21 s21=some r) (fun i21 s21=>[(1,.fn wanted_f wanted_c),(5,OW 1110 1 G0 s21),(8,E0 l),(9,Ej l.length),(10,Ej i21)]) (fun i21 s21=>[(1110,.spare 3 1 s21.length s21.length)]) (fun i21=>l.length - i21) 0 [] h ⟨⟨.same (Je _ _ wanted_d),.same O,.same O,.same O,.same O,G⟩,⟨⟨_,O,.same⟩,G⟩,O⟩ ?_
 clear h
 intro i21 s21 hi21 K21 e21
 refine Jr fun hK22=>(JLh (BL (decide ((i21:Int) < (l.length:Int)))) (Jc O O O) O (G7 (hK22 (Js fun hK23=>Gm O (fun hb=>?_) (fun hb=>?_)))))
 ·
  have hk21:=Jz hb
  obtain⟨y21,nx21,hy21,hn21,h⟩:=Hu hi21 hk21
  replace h:=Zr hb21 h
  refine Gp (hK23 ?_)
  obtain⟨kj24,hkj24,h⟩:=Yo h
  refine Rb (fun j24:(List Int)=>kj24 j24=some r) (fun j24=>[(1,.fn wanted_f wanted_c),(5,OW 1110 1 G0 j24),(8,E0 l),(9,Ej l.length),(10,Ej i21)]) (fun j24=>[(1110,.spare 3 1 j24.length j24.length)]) (fun Kj24 ej24=>?_) ?_
  ·
   refine Gv (Jr fun hK25=>(Rq (Ej i21) O (JLh (.dptr [G0 y21]) (He (f:=G0) (xs:=l) (y:=y21) O O O Gj hy21 O) O (JLh (G0 y21) (Gi Ge O O O) O (Rq (Ej i21) O (Rq (G0 y21) O (G7 (hK25 (Jr fun hK26=>(Rq (.fn wanted_f wanted_c) O (Rq (G0 y21) O ?_)))))))))))
   obtain⟨r27,hr27,h⟩:=Gg h
   refine JLh (BL r27) (G20 (args:=[G0 y21]) (caps:=wanted_c) O O (wanted_w y21 _ hr27) wanted_B ⟨O,O,G⟩ wanted_d) O (G7 (hK26 (JCc O h (fun h hb=>?_) (fun h hb=>?_))))
   ·
    refine G4 (Rq (OW 1110 1 G0 s21) O (Rq (Ej i21) O (JLh (E0 [(i21:Int)]) (H9 (xs:=[Ej i21]) O ⟨O,O,G⟩ Gj Qd O O O O) O ?_)))
    obtain⟨ha28,h⟩:=Jm h
    refine JLh (OW 1110 1 G0 (s21++[(i21:Int)])) (Yb (f:=G0) (xs:=s21) (ys:=[(i21:Int)]) O O O O Gj G09 ha28 (fun _=>O) (.inl O) O) O (Rq (OW 1110 1 G0 (s21++[(i21:Int)])) O (G7 (ej24 _ _ (s21++[(i21:Int)]) h ⟨⟨.same (Je _ _ wanted_d),.same O,.same O,.same O,.same O,G⟩,⟨⟨_,O,.same⟩,G⟩,O⟩)))
   ·
    refine Gp (ej24 _ _ s21 h ⟨⟨.same (Je _ _ wanted_d),.same O,.same O,.same O,.same O,G⟩,⟨⟨_,O,.same⟩,G⟩,O⟩)
  ·intro j24 h
   replace h:=app1 hkj24 h
   refine G4 (JLh (G0 ((i21+1:Nat):Int)) (J0 (Ho hk21 hm9) O O O) O (Rq (G0 ((i21+1:Nat):Int)) O (G7 (e21 _ _ (i21+1) j24 (app1 hn21 h) (by omega) ⟨⟨.same (Je _ _ wanted_d),.same rfl,.same rfl,.same rfl,.same rfl,G⟩,⟨⟨_,rfl,.same⟩,G⟩,rfl⟩))))
 ·
  have h:=app1 hkx21 (Hv hi21 (Hi hb))
  refine Hy (hK3 (Jr fun hK29=>(Rq (OW 1110 1 G0 s21) O (Rq (OW 1110 1 G0 s21) O (G7 (hK29 (Gt (fin1l (fun r:(List Int)=>(E0 r:AV)) h))))))))

def Zp (x:G9) (c:G3):Option Bool:=
 bnd (bif decide (x.Bay=c.Bay) then Yi x.Rows (fun z0=>Ze z0 c) else some default) fun r3=>
 some ((decide (x.Bay=c.Bay))&&(decide (0 < (r3.length:Int))))
theorem Ged (x:G9) (c:G3) (r:Bool) (h:Zp x c=some r):Pure Ek 67 [.agg [G0 x.Bay,E0 x.Rows],.agg (G3.cs c)] (·=BL r):=by
 unfold Zp at h
 refine H1 [.tmp 4] Tryz.func67 O O (Jr fun hK1=>(JLh (.ptr 1100 0) (Jf (cs:=[G0 x.Bay,E0 x.Rows]) 1100 O O O O O) O (JLh (.ptr 1101 0) (Jf (cs:=(G3.cs c)) 1101 O O O O O) O (Rq (BL false) O (G7 (hK1 (Gs [(2,.dptr [G0 x.Bay,E0 x.Rows]),(3,.ptr 1101 0)] [(1101,.box 57 (G3.cs c))] 1100 rfl rfl rfl ⟨⟨_,rfl,.boxEq rfl rfl⟩,G⟩ rfl (by exact⟨.ptr,.conv (.same rfl),G⟩) ?_)))))))
 refine Gs [(2,.dptr [G0 x.Bay,E0 x.Rows]),(3,Ee c)] [] 1101 rfl rfl rfl G rfl (by exact⟨.conv (.same rfl),.ptr,G⟩) ?_
 refine Jr fun hK2=>(JLh (.dptr [G0 x.Bay,E0 x.Rows]) (Gd G58 O O O) O (JLh (G0 x.Bay) (Gi Ge O O O) O (JLh (Ee c) (Gd Zi O O O) O (JLh (G0 c.Bay) (Gi Ge O O O) O (JLh (BL (decide (x.Bay=c.Bay))) (Qc O O O) O (Rq (BL (decide (x.Bay=c.Bay))) O (JLo (.dptr [E0 x.Rows]) [] O .sct G (fun hc=>Gd G57 O O O) O (JLo (E0 x.Rows) [11] O .sct ⟨Ua,G⟩ (fun hc=>Gi Z8 O O O) O (JLo (.fn 93 [.dptr (G3.cs c)]) [] O .sct G (fun hc=>Yv (cs:=[.dptr (G3.cs c)]) O O) O ?_)))))))))
 obtain⟨r3,hr3,h⟩:=Gg h
 refine JLo (E0 r3) [12,13] O .sct ⟨Ua,Ua,G⟩ (fun hc=>Gw (args:=[E0 x.Rows,.fn 93 [.dptr (G3.cs c)]]) O (H26 x.Rows (fun z0=>Ze z0 c) 93 [.dptr (G3.cs c)] J6b O (fun z0 q hq=>H76 z0 c q hq) r3 (H6 hc hr3)) J6c ⟨O,O,O,O,G⟩) O (JLo (Ej r3.length) [14] O .sct ⟨Ua,G⟩ (fun hc=>Z6 (f:=G0) (xs:=r3) Gj O O) O (JLo (BL (decide (0 < (r3.length:Int)))) [15] O .sct ⟨Ua,G⟩ (fun hc=>G47 O O O) O (JLh (BL ((decide (x.Bay=c.Bay))&&(decide (0 < (r3.length:Int))))) (Qu O O O O) O (Rq (BL ((decide (x.Bay=c.Bay))&&(decide (0 < (r3.length:Int))))) O (G7 (hK2 ?_))))))
 refine Gt (fin1 BL h)

def Y3 (x:G9) (p1:Gu) (p2:Int):Option Bool:=
 Z1 p1.Columns p2 fun y3=>
 bnd (Zp x y3) fun r5=>
 some r5
theorem H4d (x:G9) (p1:Gu) (p2:Int) (r:Bool) (h:Y3 x p1 p2=some r):Pure Ek 66 [.agg [G0 x.Bay,E0 x.Rows],Ec p1,.dptr [G0 p2]] (·=BL r):=by
 unfold Y3 at h
 refine H1 [.tmp 4] Tryz.func66 O O (Jr fun hK1=>(JLh (.ptr 1099 0) (Jf (cs:=[G0 x.Bay,E0 x.Rows]) 1099 O O O O O) O (Rq (BL false) O (G7 (hK1 (Gs [(1,Ec p1),(2,.dptr [G0 p2]),(3,.dptr [G0 x.Bay,E0 x.Rows])] [] 1099 rfl rfl rfl G rfl (by exact⟨.conv (.same rfl),.conv (.same rfl),.ptr,G⟩) (Js fun hK2=>?_)))))))
 obtain⟨m4,y3,hm4,hy3,h⟩:=Z0 h
 obtain⟨r5,hr5,h⟩:=Gg h
 refine JC_d0 Qo (by kernel_rfl) (Dq (.agg [G0 x.Bay,E0 x.Rows]) (Gk Gbf O O O) O (Dq (Ec p1) (Gd Hq O O O) O (Dq (E7 p1.Columns) (Gi J6 O O O) O (Dq (G0 p2) (Gi Ge O O O) O (Dq (Ee y3) (He (f:=G3.av) (xs:=p1.Columns) (y:=y3) O O O Hx hy3 hm4) O (Dq (.agg (G3.cs y3)) (Gk G29 O O O) O (Dq (BL r5) (Gw (args:=[.agg [G0 x.Bay,E0 x.Rows],.agg (G3.cs y3)]) O (Ged x y3 r5 hr5) Hd9 ⟨O,O,O,O,G⟩) O (Dq (BL r5) (G8 O O) O (Dnil (hK2 (Gt (fin1 BL h))))))))))))

def R0 (l:List G9) (wanted:G9→Option Bool):Option (List Int):=
 each (fun y21 i21 (s21:(List Int)) nx21=>
  jp (fun kj24=>
   bnd (wanted y21) fun r27=>
   bif r27 then
   (need (decide ((s21.length+[(i21:Int)].length)*8≤140737488355328∧s21.length+[(i21:Int)].length≤maxLen)) <|
    kj24 (s21++[(i21:Int)]))
   else
   (kj24 s21)) fun(j24:(List Int))=>
  nx21 j24)
 (fun(s21:(List Int))=>
  some s21) l 0 []
theorem Gbd (l:List G9) (wanted:G9→Option Bool) (wanted_f:FuncId) (wanted_c:List AV) (wanted_B:Hc Ek wanted_f=true) (wanted_d:Rj (fun _=>false) wanted_c=true) (wanted_w:∀ a0 q,wanted a0=some q→Pure Ek wanted_f ([.agg [G0 a0.Bay,E0 a0.Rows]]++wanted_c) (·=BL q)) (r:(List Int)) (h:R0 l wanted=some r):Pure Ek 65 [E3 l,.fn wanted_f wanted_c] (·=E0 r):=by
 unfold R0 at h
 refine H1 [.tmp 4] Tryz.func65 O O (Jr fun hK1=>(JLh (E0 ([]:List Int)) (Hj 1 O O) O (G7 (hK1 (Jr fun hK2=>(JLh (OW 1097 1 G0 ([]:List Int)) (G6d 1097 3 1 O O O) O (G7 (hK2 (Js fun hK3=>Jr fun hK4=>(Rq (E3 l) O (JLl Jw O O O fun hm9=>(Rq (G0 0) O (G7 (hK4 (Gv ?_)))))))))))))))
 obtain⟨b21,kx21,hb21,hkx21,h⟩:=Ja h
 refine Hr (fun i21 (s21:(List Int))=>each b21 kx21 (List.drop i21 l) i21 s21=some r) (fun i21 s21=>[(1,.fn wanted_f wanted_c),(5,OW 1097 1 G0 s21),(8,E3 l),(9,Ej l.length),(10,Ej i21)]) (fun i21 s21=>[(1097,.spare 3 1 s21.length s21.length)]) (fun i21=>l.length - i21) 0 [] h ⟨⟨.same (Je _ _ wanted_d),.same O,.same O,.same O,.same O,G⟩,⟨⟨_,O,.same⟩,G⟩,O⟩ ?_
 clear h
 intro i21 s21 hi21 K21 e21
 refine Jr fun hK22=>(JLh (BL (decide ((i21:Int) < (l.length:Int)))) (Jc O O O) O (G7 (hK22 (Js fun hK23=>Gm O (fun hb=>?_) (fun hb=>?_)))))
 ·
  have hk21:=Jz hb
  obtain⟨y21,nx21,hy21,hn21,h⟩:=Hu hi21 hk21
  replace h:=Zr hb21 h
  refine Gp (hK23 ?_)
  obtain⟨kj24,hkj24,h⟩:=Yo h
  refine Rb (fun j24:(List Int)=>kj24 j24=some r) (fun j24=>[(1,.fn wanted_f wanted_c),(5,OW 1097 1 G0 j24),(8,E3 l),(9,Ej l.length),(10,Ej i21)]) (fun j24=>[(1097,.spare 3 1 j24.length j24.length)]) (fun Kj24 ej24=>?_) ?_
  ·
   refine Gv (Jr fun hK25=>(Rq (Ej i21) O (JLh (.dptr [G0 y21.Bay,E0 y21.Rows]) (He (f:=G9.av) (xs:=l) (y:=y21) O O O Jw hy21 O) O (JLh (.agg [G0 y21.Bay,E0 y21.Rows]) (Gk Gbf O O O) O (JLh (.ptr 1098 0) (Jb 1098 2 G63 O O) O (Rq (Ej i21) O (J8 (u:=.junk) (Ht (u:=.agg [G0 y21.Bay,E0 y21.Rows]) (ds:=[G0 y21.Bay,E0 y21.Rows]) Hcd O O O O O O O O) (G7 (hK25 ?_)))))))))
   refine Gs [(1,.fn wanted_f wanted_c),(5,OW 1097 1 G0 s21),(6,Ej i21),(7,.dptr [G0 y21.Bay,E0 y21.Rows]),(8,E3 l),(9,Ej l.length),(10,Ej i21)] [(1097,.spare 3 1 s21.length s21.length)] 1098 rfl rfl rfl ⟨⟨_,rfl,.same⟩,G⟩ rfl (by exact⟨.conv (.same (Je _ _ wanted_d)),.conv (.same rfl),.conv (.same rfl),.ptr,.conv (.same rfl),.conv (.same rfl),.conv (.same rfl),G⟩) (Jr fun hK26=>(Rq (.fn wanted_f wanted_c) O (JLh (.agg [G0 y21.Bay,E0 y21.Rows]) (Gk Gbf O O O) O ?_)))
   obtain⟨r27,hr27,h⟩:=Gg h
   refine JLh (BL r27) (G20 (args:=[.agg [G0 y21.Bay,E0 y21.Rows]]) (caps:=wanted_c) O O (wanted_w y21 _ hr27) wanted_B ⟨O,O,G⟩ wanted_d) O (G7 (hK26 (JCc O h (fun h hb=>?_) (fun h hb=>?_))))
   ·
    refine G4 (Rq (OW 1097 1 G0 s21) O (Rq (Ej i21) O (JLh (E0 [(i21:Int)]) (H9 (xs:=[Ej i21]) O ⟨O,O,G⟩ Gj Qd O O O O) O ?_)))
    obtain⟨ha28,h⟩:=Jm h
    refine JLh (OW 1097 1 G0 (s21++[(i21:Int)])) (Yb (f:=G0) (xs:=s21) (ys:=[(i21:Int)]) O O O O Gj G09 ha28 (fun _=>O) (.inl O) O) O (Rq (OW 1097 1 G0 (s21++[(i21:Int)])) O (G7 (ej24 _ _ (s21++[(i21:Int)]) h ⟨⟨.same (Je _ _ wanted_d),.same O,.same O,.same O,.same O,G⟩,⟨⟨_,O,.same⟩,G⟩,O⟩)))
   ·
    refine Gp (ej24 _ _ s21 h ⟨⟨.same (Je _ _ wanted_d),.same O,.same O,.same O,.same O,G⟩,⟨⟨_,O,.same⟩,G⟩,O⟩)
  ·intro j24 h
   replace h:=app1 hkj24 h
   refine G4 (JLh (G0 ((i21+1:Nat):Int)) (J0 (Ho hk21 hm9) O O O) O (Rq (G0 ((i21+1:Nat):Int)) O (G7 (e21 _ _ (i21+1) j24 (app1 hn21 h) (by omega) ⟨⟨.same (Je _ _ wanted_d),.same rfl,.same rfl,.same rfl,.same rfl,G⟩,⟨⟨_,rfl,.same⟩,G⟩,rfl⟩))))
 ·
  have h:=app1 hkx21 (Hv hi21 (Hi hb))
  refine Hy (hK3 (Jr fun hK29=>(Rq (OW 1097 1 G0 s21) O (Rq (OW 1097 1 G0 s21) O (G7 (hK29 (Gt (fin1l (fun r:(List Int)=>(E0 r:AV)) h))))))))

def Y8 (s:Gu) (column:Int):Option Int:=
 bif ((decide (column < 0))||(decide ((s.Columns.length:Int)≤column))) then
 (some (-1))
 else
 (bnd (R0 s.Covers (fun z0=>Y3 z0 s column)) fun r6=>
  bif decide ((r6.length:Int)=0) then
  (some (-1))
  else
  (Z1 r6 0 fun y11=>
   some y11))
theorem Gc8 (s:Gu) (column:Int) (r:Int) (h:Y8 s column=some r):Pure Ek 37 [.agg (Gu.cs s),G0 column] (·=G0 r):=by
 unfold Y8 at h
 refine H1 [.tmp 4] Tryz.func37 O O (Jr fun hK1=>(JLh (.ptr 1078 0) (Jf (cs:=(Gu.cs s)) 1078 O O O O O) O (JLh (.ptr 1079 0) (Jf (cs:=[G0 column]) 1079 O O O O O) O (Rq (G0 0) O (G7 (hK1 ?_))))))
 refine Gs [(2,Ec s),(3,.ptr 1079 0)] [(1079,.box 3 [G0 column])] 1078 rfl rfl rfl ⟨⟨_,rfl,.boxEq rfl rfl⟩,G⟩ rfl (by exact⟨.ptr,.conv (.same rfl),G⟩) (Gs [(2,Ec s),(3,.dptr [G0 column])] [] 1079 rfl rfl rfl G rfl (by exact⟨.conv (.same rfl),.ptr,G⟩) (Js fun hK2=>?_))
 refine Jr fun hK3=>(JLh (G0 column) (Gi Ge O O O) O (JLh (BL (decide (column < 0))) (Jc O O O) O (Rq (BL (decide (column < 0))) O (JLo (G0 column) [] O .scf G (fun hc=>Gi Ge O O O) O (JLo (Ec s) [] O .scf G (fun hc=>Gd Hq O O O) O (JLo (E7 s.Columns) [10] O .scf ⟨Ua,G⟩ (fun hc=>Gi J6 O O O) O (JLo (Ej s.Columns.length) [11] O .scf ⟨Ua,G⟩ (fun hc=>Z6 (f:=G3.av) (xs:=s.Columns) Hx O O) O (JLo (BL (decide ((s.Columns.length:Int)≤column))) [9,12] O .scf ⟨Ua,Ua,G⟩ (fun hc=>Ga1 O O O) O (JLh (BL ((decide (column < 0))||(decide ((s.Columns.length:Int)≤column)))) (G44 O O O O) O (G7 (hK3 ?_)))))))))))
 refine JCc O h (fun h hb=>?_) (fun h hb=>?_)
 ·
  refine Jr fun hK4=>(Rq (G0 (-1)) O (G7 (hK4 (Gt (fin1 G0 h)))))
 ·
  refine Gp (hK2 ?_)
  refine Jr fun hK5=>(JLh (.dptr [E3 s.Covers,G0 s.Light.Kilos,G0 s.Light.X,G0 s.Light.Y,G0 s.Light.Z,E4 s.Rows,E5 s.Frames,E6 s.Tanks,G0 s.G2.Tolerance,G0 s.G2.Trim,G0 s.G2.List_,G0 s.G2.Stability]) (Gd Jt O O O) O (JLh (E3 s.Covers) (Gi Qw O O O) O (JLh (.fn 66 [.dptr (Gu.cs s),.dptr [G0 column]]) (Yv (cs:=[.dptr (Gu.cs s),.dptr [G0 column]]) O O) O ?_)))
  obtain⟨r6,hr6,h⟩:=Gg h
  refine JLh (E0 r6) (Gw O (Gbd s.Covers (fun z0=>Y3 z0 s column) 66 [.dptr (Gu.cs s),.dptr [G0 column]] J76 O (fun z0 q hq=>H4d z0 s column q hq) r6 hr6) J77 ⟨O,O,O,O,G⟩) O (Rq (E0 r6) O (G7 (hK5 (Js fun hK7=>Jr fun hK8=>(Rq (E0 r6) O (JLl Gj O O O fun hm20=>(JLh (BL (decide ((r6.length:Int)=0))) (Qc O O O) O (G7 (hK8 (JCc O h (fun h hb=>?_) (fun h hb=>?_)))))))))))
  ·
   refine Jr fun hK9=>(Rq (G0 (-1)) O (G7 (hK9 (Gt (fin1 G0 h)))))
  ·
   refine Gp (hK7 (Jr fun hK10=>(Rq (E0 r6) O ?_)))
   obtain⟨m12,y11,hm12,hy11,h⟩:=Z0 h
   refine JLh (.dptr [G0 y11]) (He (f:=G0) (xs:=r6) (y:=y11) O O O Gj hy11 hm12) O (JLh (G0 y11) (Gi Ge O O O) O (Rq (G0 y11) O (G7 (hK10 (Gt (fin1 G0 h))))))

def G0e (s:Gu) (column:Int):Option Int:=
 Z1 s.Columns column fun y4=>
 bif y4.Deck then
 (some (-1))
 else
 (bnd (Y8 s column) fun r8=>
  some r8)
theorem H0b (s:Gu) (column:Int) (r:Int) (h:G0e s column=some r):Pure Ek 16 [.agg (Gu.cs s),G0 column] (·=G0 r):=by
 unfold G0e at h
 refine H1 [.tmp 4] Tryz.func16 O O (Jr fun hK1=>(JLh (.ptr 1040 0) (Jf (cs:=(Gu.cs s)) 1040 O O O O O) O (Rq (G0 0) O (G7 (hK1 (Gs [(1,G0 column),(2,Ec s)] [] 1040 rfl rfl rfl G rfl (by exact⟨.conv (.same rfl),.ptr,G⟩) (Js fun hK2=>?_)))))))
 refine Jr fun hK3=>(JLh (Ec s) (Gd Hq O O O) O (JLh (E7 s.Columns) (Gi J6 O O O) O (Rq (G0 column) O ?_)))
 obtain⟨m5,y4,hm5,hy4,h⟩:=Z0 h
 refine JLh (Ee y4) (He (f:=G3.av) (xs:=s.Columns) (y:=y4) O O O Hx hy4 hm5) O (JLh (.dptr ((G3.cs y4).drop 2)) (Gd Ym O O O) O (JLh (BL y4.Deck) (Gi Qn O O O) O (G7 (hK3 (JCc O h (fun h hb=>?_) (fun h hb=>?_))))))
 ·
  refine Jr fun hK6=>(Rq (G0 (-1)) O (G7 (hK6 (Gt (fin1 G0 h)))))
 ·
  refine Gp (hK2 (Jr fun hK7=>(JLh (.agg (Gu.cs s)) (Gk Hf O O O) O (Rq (G0 column) O ?_))))
  obtain⟨r8,hr8,h⟩:=Gg h
  refine JLh (G0 r8) (Gw O (Gc8 s column r8 hr8) He0 ⟨O,O,O,O,G⟩) O (Rq (G0 r8) O (G7 (hK7 (Gt (fin1 G0 h)))))

def G03 (c:G3) (p1:Bool) (p2:Gu) (p3:Int):Option Bool:=
 bnd (bif (c.Deck==p1) then Z1 p2.Covers p3 some else some default) fun y3=>
 bnd (bif (c.Deck==p1) then Zp y3 c else some default) fun r4=>
 some ((c.Deck==p1)&&r4)
theorem H95 (c:G3) (p1:Bool) (p2:Gu) (p3:Int) (r:Bool) (h:G03 c p1 p2 p3=some r):Pure Ek 94 [.agg (G3.cs c),.dptr [BL p1],Ec p2,.dptr [G0 p3]] (·=BL r):=by
 unfold G03 at h
 refine H1 [.tmp 5] Tryz.func94 O O (Jr fun hK1=>(JLh (.ptr 1111 0) (Jf (cs:=(G3.cs c)) 1111 O O O O O) O (Rq (BL false) O (G7 (hK1 (Gs [(1,.dptr [BL p1]),(2,Ec p2),(3,.dptr [G0 p3]),(4,Ee c)] [] 1111 rfl rfl rfl G rfl (by repeat' (first | exact .ptr | constructor)) (Js fun hK2=>?_)))))))
 obtain⟨y3,hy3,h⟩:=Gg h
 obtain⟨r4,hr4,h⟩:=Gg h
 refine JC_d0 Qo (by kernel_rfl) (Dq (.dptr [BL c.Deck,G0 c.Tiers,G0 c.Height,G0 c.Kilos20,G0 c.Kilos40,G0 c.Lash,E0 c.Plugs,G0 c.X,G0 c.Y,G0 c.Z]) (Gd Ym O O O) O (Dq (BL c.Deck) (Gi Qn O O O) O (Dq (BL p1) (Gi Qn O O O) O (Dq (BL (c.Deck==p1)) (J27 H7f O O O) O (Dq (BL (c.Deck==p1)) (G6 O O) O (Do (.dptr ((Gu.cs p2).drop 1)) [] O .sct G (fun hc=>Gd Jt O O O) O (Do (E3 p2.Covers) [11] O .sct ⟨Ua,G⟩ (fun hc=>Gi Qw O O O) O (Do (G0 p3) [] O .sct G (fun hc=>Gi Ge O O O) O (Do (.dptr [G0 y3.Bay,E0 y3.Rows]) [12,13] O .sct ⟨Ua,Ua,G⟩ (fun hc=>(match Ya (H6 hc hy3) with | ⟨_,hm_,hy_⟩=>He (f:=G9.av) (xs:=p2.Covers) (y:=y3) O O O Jw hy_ hm_)) O (Do (.agg [G0 y3.Bay,E0 y3.Rows]) [14] O .sct ⟨Ua,G⟩ (fun hc=>Gk Gbf O O O) O (Do (.agg (G3.cs c)) [] O .sct G (fun hc=>Gk G29 O O O) O (Do (BL r4) [15,16] O .sct ⟨Ua,Ua,G⟩ (fun hc=>Gw (args:=[.agg [G0 y3.Bay,E0 y3.Rows],.agg (G3.cs c)]) O (Ged y3 c r4 (H6 hc hr4)) Hd9 ⟨O,O,O,O,G⟩) O (Dq (BL ((c.Deck==p1)&&r4)) (Qu O O O O) O ?_)))))))))))))
 refine Dq (BL ((c.Deck==p1)&&r4)) (G8 O O) O (Dnil (hK2 (Gt (fin1 BL h))))

def Ji (l:List G3) (wanted:G3→Option Bool):Option (List Int):=
 each (fun y21 i21 (s21:(List Int)) nx21=>
  jp (fun kj24=>
   bnd (wanted y21) fun r27=>
   bif r27 then
   (need (decide ((s21.length+[(i21:Int)].length)*8≤140737488355328∧s21.length+[(i21:Int)].length≤maxLen)) <|
    kj24 (s21++[(i21:Int)]))
   else
   (kj24 s21)) fun(j24:(List Int))=>
  nx21 j24)
 (fun(s21:(List Int))=>
  some s21) l 0 []
theorem G14 (l:List G3) (wanted:G3→Option Bool) (wanted_f:FuncId) (wanted_c:List AV) (wanted_B:Hc Ek wanted_f=true) (wanted_d:Rj (fun _=>false) wanted_c=true) (wanted_w:∀ a0 q,wanted a0=some q→Pure Ek wanted_f ([.agg (G3.cs a0)]++wanted_c) (·=BL q)) (r:(List Int)) (h:Ji l wanted=some r):Pure Ek 62 [E7 l,.fn wanted_f wanted_c] (·=E0 r):=by
 unfold Ji at h
 refine H1 [.tmp 4] Tryz.func62 O O (Jr fun hK1=>(JLh (E0 ([]:List Int)) (Hj 1 O O) O (G7 (hK1 (Jr fun hK2=>(JLh (OW 1093 1 G0 ([]:List Int)) (G6d 1093 3 1 O O O) O (G7 (hK2 (Js fun hK3=>Jr fun hK4=>(Rq (E7 l) O (JLl Hx O O O fun hm9=>(Rq (G0 0) O (G7 (hK4 (Gv ?_)))))))))))))))
 obtain⟨b21,kx21,hb21,hkx21,h⟩:=Ja h
 refine Hr (fun i21 (s21:(List Int))=>each b21 kx21 (List.drop i21 l) i21 s21=some r) (fun i21 s21=>[(1,.fn wanted_f wanted_c),(5,OW 1093 1 G0 s21),(8,E7 l),(9,Ej l.length),(10,Ej i21)]) (fun i21 s21=>[(1093,.spare 3 1 s21.length s21.length)]) (fun i21=>l.length - i21) 0 [] h ⟨⟨.same (Je _ _ wanted_d),.same O,.same O,.same O,.same O,G⟩,⟨⟨_,O,.same⟩,G⟩,O⟩ ?_
 clear h
 intro i21 s21 hi21 K21 e21
 refine Jr fun hK22=>(JLh (BL (decide ((i21:Int) < (l.length:Int)))) (Jc O O O) O (G7 (hK22 (Js fun hK23=>Gm O (fun hb=>?_) (fun hb=>?_)))))
 ·
  have hk21:=Jz hb
  obtain⟨y21,nx21,hy21,hn21,h⟩:=Hu hi21 hk21
  replace h:=Zr hb21 h
  refine Gp (hK23 ?_)
  obtain⟨kj24,hkj24,h⟩:=Yo h
  refine Rb (fun j24:(List Int)=>kj24 j24=some r) (fun j24=>[(1,.fn wanted_f wanted_c),(5,OW 1093 1 G0 j24),(8,E7 l),(9,Ej l.length),(10,Ej i21)]) (fun j24=>[(1093,.spare 3 1 j24.length j24.length)]) (fun Kj24 ej24=>?_) ?_
  ·
   refine Gv (Jr fun hK25=>(Rq (Ej i21) O (JLh (Ee y21) (He (f:=G3.av) (xs:=l) (y:=y21) O O O Hx hy21 O) O (JLh (.agg (G3.cs y21)) (Gk G29 O O O) O (JLh (.ptr 1094 0) (Jb 1094 12 Zu O O) O (Rq (Ej i21) O (J8 (u:=.junk) (Ht (u:=.agg (G3.cs y21)) (ds:=(G3.cs y21)) Gcf O O O O O O O O) (G7 (hK25 ?_)))))))))
   refine Gs [(1,.fn wanted_f wanted_c),(5,OW 1093 1 G0 s21),(6,Ej i21),(7,Ee y21),(8,E7 l),(9,Ej l.length),(10,Ej i21)] [(1093,.spare 3 1 s21.length s21.length)] 1094 rfl rfl rfl ⟨⟨_,rfl,.same⟩,G⟩ rfl (by exact⟨.conv (.same (Je _ _ wanted_d)),.conv (.same rfl),.conv (.same rfl),.ptr,.conv (.same rfl),.conv (.same rfl),.conv (.same rfl),G⟩) (Jr fun hK26=>(Rq (.fn wanted_f wanted_c) O (JLh (.agg (G3.cs y21)) (Gk G29 O O O) O ?_)))
   obtain⟨r27,hr27,h⟩:=Gg h
   refine JLh (BL r27) (G20 (args:=[.agg (G3.cs y21)]) (caps:=wanted_c) O O (wanted_w y21 _ hr27) wanted_B ⟨O,O,G⟩ wanted_d) O (G7 (hK26 (JCc O h (fun h hb=>?_) (fun h hb=>?_))))
   ·
    refine G4 (Rq (OW 1093 1 G0 s21) O (Rq (Ej i21) O (JLh (E0 [(i21:Int)]) (H9 (xs:=[Ej i21]) O ⟨O,O,G⟩ Gj Qd O O O O) O ?_)))
    obtain⟨ha28,h⟩:=Jm h
    refine JLh (OW 1093 1 G0 (s21++[(i21:Int)])) (Yb (f:=G0) (xs:=s21) (ys:=[(i21:Int)]) O O O O Gj G09 ha28 (fun _=>O) (.inl O) O) O (Rq (OW 1093 1 G0 (s21++[(i21:Int)])) O (G7 (ej24 _ _ (s21++[(i21:Int)]) h ⟨⟨.same (Je _ _ wanted_d),.same O,.same O,.same O,.same O,G⟩,⟨⟨_,O,.same⟩,G⟩,O⟩)))
   ·
    refine Gp (ej24 _ _ s21 h ⟨⟨.same (Je _ _ wanted_d),.same O,.same O,.same O,.same O,G⟩,⟨⟨_,O,.same⟩,G⟩,O⟩)
  ·intro j24 h
   replace h:=app1 hkj24 h
   refine G4 (JLh (G0 ((i21+1:Nat):Int)) (J0 (Ho hk21 hm9) O O O) O (Rq (G0 ((i21+1:Nat):Int)) O (G7 (e21 _ _ (i21+1) j24 (app1 hn21 h) (by omega) ⟨⟨.same (Je _ _ wanted_d),.same rfl,.same rfl,.same rfl,.same rfl,G⟩,⟨⟨_,rfl,.same⟩,G⟩,rfl⟩))))
 ·
  have h:=app1 hkx21 (Hv hi21 (Hi hb))
  refine Hy (hK3 (Jr fun hK29=>(Rq (OW 1093 1 G0 s21) O (Rq (OW 1093 1 G0 s21) O (G7 (hK29 (Gt (fin1l (fun r:(List Int)=>(E0 r:AV)) h))))))))

def G84 (s:Gu) (cover:Int) (deck:Bool):Option (List Int):=
 bif ((decide (cover < 0))||(decide ((s.Covers.length:Int)≤cover))) then
 (some [])
 else
 (bnd (Ji s.Columns (fun z0=>G03 z0 deck s cover)) fun r6=>
  some r6)
theorem J17 (s:Gu) (cover:Int) (deck:Bool) (r:(List Int)) (h:G84 s cover deck=some r):Pure Ek 68 [.agg (Gu.cs s),G0 cover,BL deck] (·=E0 r):=by
 unfold G84 at h
 refine H1 [.tmp 6] Tryz.func68 O O (Jr fun hK1=>(JLh (.ptr 1102 0) (Jf (cs:=(Gu.cs s)) 1102 O O O O O) O (JLh (.ptr 1103 0) (Jf (cs:=[G0 cover]) 1103 O O O O O) O (JLh (.ptr 1104 0) (Jf (cs:=[BL deck]) 1104 O O O O O) O (JLh (E0 ([]:List Int)) (Hj 1 O O) O (G7 (hK1 ?_)))))))
 refine Gs [(3,Ec s),(4,.ptr 1103 0),(5,.ptr 1104 0)] [(1103,.box 3 [G0 cover]),(1104,.box 4 [BL deck])] 1102 rfl rfl rfl ⟨⟨_,rfl,.boxEq rfl rfl⟩,⟨_,rfl,.boxEq rfl rfl⟩,G⟩ rfl (by exact⟨.ptr,.conv (.same rfl),.conv (.same rfl),G⟩) ?_
 refine Gs [(3,Ec s),(4,.dptr [G0 cover]),(5,.ptr 1104 0)] [(1104,.box 4 [BL deck])] 1103 rfl rfl rfl ⟨⟨_,rfl,.boxEq rfl rfl⟩,G⟩ rfl (by exact⟨.conv (.same rfl),.ptr,.conv (.same rfl),G⟩) ?_
 refine Gs [(3,Ec s),(4,.dptr [G0 cover]),(5,.dptr [BL deck])] [] 1104 rfl rfl rfl G rfl (by exact⟨.conv (.same rfl),.conv (.same rfl),.ptr,G⟩) (Js fun hK2=>?_)
 refine Jr fun hK3=>(JLh (G0 cover) (Gi Ge O O O) O (JLh (BL (decide (cover < 0))) (Jc O O O) O (Rq (BL (decide (cover < 0))) O (JLo (G0 cover) [] O .scf G (fun hc=>Gi Ge O O O) O (JLo (.dptr [E3 s.Covers,G0 s.Light.Kilos,G0 s.Light.X,G0 s.Light.Y,G0 s.Light.Z,E4 s.Rows,E5 s.Frames,E6 s.Tanks,G0 s.G2.Tolerance,G0 s.G2.Trim,G0 s.G2.List_,G0 s.G2.Stability]) [] O .scf G (fun hc=>Gd Jt O O O) O (JLo (E3 s.Covers) [11] O .scf ⟨Ua,G⟩ (fun hc=>Gi Qw O O O) O (JLo (Ej s.Covers.length) [12] O .scf ⟨Ua,G⟩ (fun hc=>Z6 (f:=G9.av) (xs:=s.Covers) Jw O O) O (JLo (BL (decide ((s.Covers.length:Int)≤cover))) [10,13] O .scf ⟨Ua,Ua,G⟩ (fun hc=>Ga1 O O O) O (JLh (BL ((decide (cover < 0))||(decide ((s.Covers.length:Int)≤cover)))) (G44 O O O O) O (G7 (hK3 ?_)))))))))))
 refine JCc O h (fun h hb=>?_) (fun h hb=>?_)
 ·
  refine Jr fun hK4=>(JLh (E0 ([]:List Int)) (Hj 1 O O) O (G7 (hK4 (Gt (fin1 (fun r:(List Int)=>(E0 r:AV)) h)))))
 ·
  refine Gp (hK2 ?_)
  refine Jr fun hK5=>(JLh (Ec s) (Gd Hq O O O) O (JLh (E7 s.Columns) (Gi J6 O O O) O (JLh (.fn 94 [.dptr [BL deck],Ec s,.dptr [G0 cover]]) (Yv (cs:=[.dptr [BL deck],Ec s,.dptr [G0 cover]]) O O) O ?_)))
  obtain⟨r6,hr6,h⟩:=Gg h
  refine JLh (E0 r6) (Gw O (G14 s.Columns (fun z0=>G03 z0 deck s cover) 94 [.dptr [BL deck],Ec s,.dptr [G0 cover]] J6a O (fun z0 q hq=>H95 z0 deck s cover q hq) r6 hr6) Hda ⟨O,O,O,O,G⟩) O (Rq (E0 r6) O (G7 (hK5 (Gt (fin1 (fun r:(List Int)=>(E0 r:AV)) h)))))

def G6b (s:Gu) (cover:Int):Option (List Int):=
 bnd (G84 s cover true) fun r3=>
 some r3
theorem M_ship_Upon_w (s:Gu) (cover:Int) (r:(List Int)) (h:G6b s cover=some r):Pure Ek 40 [.agg (Gu.cs s),G0 cover] (·=E0 r):=by
 unfold G6b at h
 refine H1 [.tmp 4] Tryz.func40 O O (Jr fun hK1=>(JLh (.ptr 1081 0) (Jf (cs:=(Gu.cs s)) 1081 O O O O O) O (JLh (E0 ([]:List Int)) (Hj 1 O O) O (G7 (hK1 (Gs [(1,G0 cover),(2,Ec s)] [] 1081 rfl rfl rfl G rfl (by exact⟨.conv (.same rfl),.ptr,G⟩) ?_))))))
 refine Jr fun hK2=>(JLh (.agg (Gu.cs s)) (Gk Hf O O O) O (Rq (G0 cover) O ?_))
 obtain⟨r3,hr3,h⟩:=Gg h
 refine JLh (E0 r3) (Gw O (J17 s cover true r3 hr3) J75 ⟨O,O,O,O,O,O,G⟩) O (Rq (E0 r3) O (G7 (hK2 (Gt (fin1 (fun r:(List Int)=>(E0 r:AV)) h)))))

def R5 (s:List Int) (v:Int):Option Int:=
 each (fun y18 i18 (s18:Unit) nx18=>
  bif decide (v=y18) then
  (some (i18:Int))
  else
  (nx18 ()))
 (fun(s18:Unit)=>
  some (-1)) s 0 ()
theorem H0e (s:List Int) (v:Int) (r:Int) (h:R5 s v=some r):Pure Ek 69 [E0 s,G0 v] (·=G0 r):=by
 unfold R5 at h
 refine H1 [.tmp 4] Tryz.func69 O O (Jr fun hK1=>(Rq (G0 0) O (G7 (hK1 (Js fun hK2=>Jr fun hK3=>(Rq (E0 s) O (JLl Gj O O O fun hm7=>(Rq (G0 0) O (G7 (hK3 (Gv ?_)))))))))))
 obtain⟨b18,kx18,hb18,hkx18,h⟩:=Ja h
 refine Hr (fun i18 (s18:Unit)=>each b18 kx18 (List.drop i18 s) i18 s18=some r) (fun i18 s18=>[(0,E0 s),(1,G0 v),(7,Ej s.length),(8,Ej i18)]) (fun i18 s18=>[]) (fun i18=>s.length - i18) 0 () h ⟨(by repeat' constructor),G,rfl⟩ ?_
 clear h
 intro i18 s18 hi18 K18 e18
 refine Jr fun hK19=>(JLh (BL (decide ((i18:Int) < (s.length:Int)))) (Jc O O O) O (G7 (hK19 (Js fun hK20=>Gm O (fun hb=>?_) (fun hb=>?_)))))
 ·
  have hk18:=Jz hb
  obtain⟨y18,nx18,hy18,hn18,h⟩:=Hu hi18 hk18
  replace h:=Zr hb18 h
  refine Gp (hK20 (Js fun hK21=>Gv (Jr fun hK22=>(Rq (Ej i18) O (Rq (Ej i18) O (G7 (hK22 (Jr fun hK23=>(Rq (G0 v) O (Rq (E0 s) O (Rq (Ej i18) O (JLh (.dptr [G0 y18]) (He (f:=G0) (xs:=s) (y:=y18) O O O Gj hy18 O) O (JLh (G0 y18) (Gi Ge O O O) O (JLh (BL (decide (v=y18))) (Qc O O O) O (G7 (hK23 (JCc O h (fun h hb=>?_) (fun h hb=>?_))))))))))))))))))
  ·
   refine Jr fun hK24=>(Rq (Ej i18) O (Rq (Ej i18) O (G7 (hK24 (Gt (fin1 G0 h))))))
  ·
   refine Gp (hK21 (G4 (JLh (G0 ((i18+1:Nat):Int)) (J0 (Ho hk18 hm7) O O O) O (Rq (G0 ((i18+1:Nat):Int)) O (G7 (e18 _ _ (i18+1) () (app1 hn18 h) (by omega) ⟨(by repeat' constructor),G,rfl⟩))))))
 ·
  have h:=app1 hkx18 (Hv hi18 (Hi hb))
  refine Hy (hK2 (Jr fun hK25=>(Rq (G0 (-1)) O (G7 (hK25 (Gt (fin1 G0 h)))))))

def Jy (s:List Int) (v:Int):Option Bool:=
 bnd (R5 s v) fun r3=>
 some (decide (0≤r3))
theorem Z4 (s:List Int) (v:Int) (r:Bool) (h:Jy s v=some r):Pure Ek 41 [E0 s,G0 v] (·=BL r):=by
 unfold Jy at h
 refine H1 [.tmp 4] Tryz.func41 O O (Jr fun hK1=>(Rq (BL false) O (G7 (hK1 (Jr fun hK2=>(Rq (E0 s) O (Rq (G0 v) O ?_)))))))
 obtain⟨r3,hr3,h⟩:=Gg h
 refine JLh (G0 r3) (Gw O (H0e s v r3 hr3) J74 ⟨O,O,O,O,G⟩) O (JLh (BL (decide (0≤r3))) (Ga1 O O O) O (Rq (BL (decide (0≤r3))) O (G7 (hK2 (Gt (fin1 BL h))))))

def G2c (s:Gu) (l:List Stowed) (cover:Int):Option (List Int):=
 bnd (G6b s cover) fun r3=>
 each (fun y23 i23 (s23:(List Int)) nx23=>
  jp (fun kj26=>
   bnd (Jy r3 y23.Slot.G3) fun r29=>
   bif r29 then
   (need (decide ((s23.length+[y23.Ga].length)*8≤140737488355328∧s23.length+[y23.Ga].length≤maxLen)) <|
    kj26 (s23++[y23.Ga]))
   else
   (kj26 s23)) fun(j26:(List Int))=>
  nx23 j26)
 (fun(s23:(List Int))=>
  some s23) l 0 []
theorem H2f (s:Gu) (l:List Stowed) (cover:Int) (r:(List Int)) (h:G2c s l cover=some r):Pure Ek 18 [.agg (Gu.cs s),E1 l,G0 cover] (·=E0 r):=by
 unfold G2c at h
 refine H1 [.tmp 6] Tryz.func18 O O (Jr fun hK1=>(JLh (.ptr 1042 0) (Jf (cs:=(Gu.cs s)) 1042 O O O O O) O (JLh (E0 ([]:List Int)) (Hj 1 O O) O (G7 (hK1 (Gs [(1,E1 l),(2,G0 cover),(3,Ec s)] [] 1042 rfl rfl rfl G rfl (by exact⟨.conv (.same rfl),.conv (.same rfl),.ptr,G⟩) ?_))))))
 refine Jr fun hK2=>(JLh (.agg (Gu.cs s)) (Gk Hf O O O) O (Rq (G0 cover) O ?_))
 obtain⟨r3,hr3,h⟩:=Gg h
 refine JLh (E0 r3) (Gw O (M_ship_Upon_w s cover r3 hr3) J87 ⟨O,O,O,O,G⟩) O (Rq (E0 r3) O (G7 (hK2 (Jr fun hK4=>(JLh (OW 1043 1 G0 ([]:List Int)) (G6d 1043 3 1 O O O) O (G7 (hK4 (Js fun hK5=>Jr fun hK6=>(Rq (E1 l) O (JLl Hd O O O fun hm15=>(Rq (G0 0) O (G7 (hK6 (Gv ?_))))))))))))))
 obtain⟨b23,kx23,hb23,hkx23,h⟩:=Ja h
 refine Hr (fun i23 (s23:(List Int))=>each b23 kx23 (List.drop i23 l) i23 s23=some r) (fun i23 s23=>[(7,E0 r3),(8,OW 1043 1 G0 s23),(14,E1 l),(15,Ej l.length),(16,Ej i23)]) (fun i23 s23=>[(1043,.spare 3 1 s23.length s23.length)]) (fun i23=>l.length - i23) 0 [] h ⟨(by repeat' constructor),⟨⟨_,rfl,.same⟩,G⟩,rfl⟩ ?_
 clear h
 intro i23 s23 hi23 K23 e23
 refine Jr fun hK24=>(JLh (BL (decide ((i23:Int) < (l.length:Int)))) (Jc O O O) O (G7 (hK24 (Js fun hK25=>Gm O (fun hb=>?_) (fun hb=>?_)))))
 ·
  have hk23:=Jz hb
  obtain⟨y23,nx23,hy23,hn23,h⟩:=Hu hi23 hk23
  replace h:=Zr hb23 h
  refine Gp (hK25 ?_)
  obtain⟨kj26,hkj26,h⟩:=Yo h
  refine Rb (fun j26:(List Int)=>kj26 j26=some r) (fun j26=>[(7,E0 r3),(8,OW 1043 1 G0 j26),(14,E1 l),(15,Ej l.length),(16,Ej i23)]) (fun j26=>[(1043,.spare 3 1 j26.length j26.length)]) (fun Kj26 ej26=>?_) ?_
  ·
   refine Gv (Jr fun hK27=>(JLh (Ed y23) (He (f:=Stowed.av) (xs:=l) (y:=y23) O O O Hd hy23 O) O (JLh (.agg (Stowed.cs y23)) (Gk Yz O O O) O (JLh (.ptr 1044 0) (Jb 1044 4 Rg O O) O (J8 (u:=.junk) (Ht (u:=.agg (Stowed.cs y23)) (ds:=[G0 y23.Ga,G0 y23.Slot.G3,G0 y23.Slot.Tier,U8 y23.Slot.Half]) Zv O O O O O O O O) (G7 (hK27 (Gs [(7,E0 r3),(8,OW 1043 1 G0 s23),(10,Ed y23),(14,E1 l),(15,Ej l.length),(16,Ej i23)] [(1043,.spare 3 1 s23.length s23.length)] 1044 rfl rfl rfl ⟨⟨_,rfl,.same⟩,G⟩ rfl (by repeat' (first | exact .ptr | constructor)) ?_))))))))
   refine Jr fun hK28=>(Rq (E0 r3) O (JLh (.dptr ((Stowed.cs y23).drop 1)) (Gd J4 O O O) O (JLh (.dptr ((Stowed.cs y23).drop 1)) (Gd Jd O O O) O (JLh (G0 y23.Slot.G3) (Gi Ge O O O) O ?_))))
   obtain⟨r29,hr29,h⟩:=Gg h
   refine JLh (BL r29) (Gw O (Z4 r3 y23.Slot.G3 r29 hr29) H3c ⟨O,O,O,O,G⟩) O (G7 (hK28 (JCc O h (fun h hb=>?_) (fun h hb=>?_))))
   ·
    refine G4 (Rq (OW 1043 1 G0 s23) O (JLh (Ed y23) (Gd Jq O O O) O (JLh (G0 y23.Ga) (Gi Ge O O O) O (JLh (E0 [y23.Ga]) (H9 (xs:=[G0 y23.Ga]) O ⟨O,O,G⟩ Gj Qd O O O O) O ?_))))
    obtain⟨ha30,h⟩:=Jm h
    refine JLh (OW 1043 1 G0 (s23++[y23.Ga])) (Yb (f:=G0) (xs:=s23) (ys:=[y23.Ga]) O O O O Gj G09 ha30 (fun _=>O) (.inl O) O) O (Rq (OW 1043 1 G0 (s23++[y23.Ga])) O (G7 (ej26 _ _ (s23++[y23.Ga]) h ⟨(by repeat' constructor),⟨⟨_,rfl,.same⟩,G⟩,rfl⟩)))
   ·
    refine Gp (ej26 _ _ s23 h ⟨(by repeat' constructor),⟨⟨_,rfl,.same⟩,G⟩,rfl⟩)
  ·intro j26 h
   replace h:=app1 hkj26 h
   refine G4 (JLh (G0 ((i23+1:Nat):Int)) (J0 (Ho hk23 hm15) O O O) O (Rq (G0 ((i23+1:Nat):Int)) O (G7 (e23 _ _ (i23+1) j26 (app1 hn23 h) (by omega) ⟨(by repeat' constructor),⟨⟨_,rfl,.same⟩,G⟩,rfl⟩))))
 ·
  have h:=app1 hkx23 (Hv hi23 (Hi hb))
  refine Hy (hK5 (Jr fun hK31=>(Rq (OW 1043 1 G0 s23) O (Rq (OW 1043 1 G0 s23) O (G7 (hK31 (Gt (fin1l (fun r:(List Int)=>(E0 r:AV)) h))))))))
end
end Go.Proofs.YtapmanciffiibaaGreat
