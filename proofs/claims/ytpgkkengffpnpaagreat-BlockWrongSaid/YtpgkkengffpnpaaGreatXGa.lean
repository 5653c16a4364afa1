/-
 Models of functions of the program,and that they return what the models say.
-/
import Derived.Test.YtpgkkengffpnpaaGreatSpecW
set_option linter.unnecessarySimpa false
set_option maxRecDepth 100000
set_option maxHeartbeats 1000000
set_option linter.unusedVariables false
set_option linter.unusedSimpArgs false
namespace Go.Proofs.YtpgkkengffpnpaaGreat
open Go.RowKit
noncomputable section
structure G9 where
 ID:Int
 Number:ByteArray
 Size:Int
 High:Bool
 Kilos:Int
 Load:Int
 Discharge:Int
 Class:Int
 Reefer:Bool
 deriving DecidableEq,Inhabited
def G9.cs (x:G9):List AV:=[G0 x.ID,ST x.Number,U8 x.Size,BL x.High,G0 x.Kilos,G0 x.Load,G0 x.Discharge,U8 x.Class,BL x.Reefer]
def G9.av (x:G9):AV:=.agg x.cs
abbrev Ef (x:G9):AV:=.dptr (G9.cs x)
abbrev E2:=LS 9 G9.av
namespace XGF
open XAF
open XCF
theorem tq_47 (a b:Slot):Ha7 Ek 4 47 [.int .i64 a.G4,.int .i64 a.Tier,.int .u8 a.Half] [.int .i64 b.G4,.int .i64 b.Tier,.int .u8 b.Half]=some (decide (a=b)):=by
 refine(show _=some ((a.G4==b.G4)&&((a.Tier==b.Tier)&&((a.Half==b.Half)&&true))) by kernel_rfl).trans (congrArg some ?_)
 rw [Bool.eq_iff_iff]
 simp only [Bool.and_eq_true,beq_iff_eq,decide_eq_true_eq,Bool.and_true]
 constructor
 ·intro h; obtain⟨_,_,_⟩:=a; obtain⟨_,_,_⟩:=b; simp_all
 ·intro h; subst h; simp
theorem H5:Gba Ek 35 13=true:=by kernel_rfl
theorem J9:Gba Ek 47 3=true:=by kernel_rfl
theorem R4:Gba Ek 49 4=true:=by kernel_rfl
theorem G49:Gba Ek 61 9=true:=by kernel_rfl
theorem Gf3:G0e Ek 47=true:=by kernel_rfl
theorem G97:J26 Ek 4=true:=by kernel_rfl
theorem Jdb:Hk Ek 100=true:=by kernel_rfl
theorem Jda:Hk Ek 101=true:=by kernel_rfl
theorem Jd9:Hk Ek 102=true:=by kernel_rfl
theorem Jd8:Hk Ek 103=true:=by kernel_rfl
theorem Jd7:Hk Ek 104=true:=by kernel_rfl
theorem J0f:Hk Ek 105=true:=by kernel_rfl
theorem Jd6:Hk Ek 107=true:=by kernel_rfl
theorem Jd4:Hk Ek 117=true:=by kernel_rfl
theorem Jd3:Hk Ek 118=true:=by kernel_rfl
theorem Jd2:Hk Ek 121=true:=by kernel_rfl
theorem G39:Hk Ek 14=true:=by kernel_rfl
theorem J63:Hk Ek 25=true:=by kernel_rfl
theorem Q0a:Hk Ek 28=true:=by kernel_rfl
theorem J60:Hk Ek 29=true:=by kernel_rfl
theorem Gd4:Hk Ek 30=true:=by kernel_rfl
theorem J5f:Hk Ek 31=true:=by kernel_rfl
theorem J5e:Hk Ek 32=true:=by kernel_rfl
theorem J5d:Hk Ek 33=true:=by kernel_rfl
theorem J5c:Hk Ek 34=true:=by kernel_rfl
theorem H1f:Hk Ek 39=true:=by kernel_rfl
theorem G93:Hk Ek 40=true:=by kernel_rfl
theorem J5a:Hk Ek 46=true:=by kernel_rfl
theorem H9a:Hk Ek 54=true:=by kernel_rfl
theorem J58:Hk Ek 55=true:=by kernel_rfl
theorem J57:Hk Ek 56=true:=by kernel_rfl
theorem H1e:Hk Ek 62=true:=by kernel_rfl
theorem Jf9:Hk Ek 64=true:=by kernel_rfl
theorem Jf8:Hk Ek 65=true:=by kernel_rfl
theorem Jf7:Hk Ek 66=true:=by kernel_rfl
theorem H99:Hk Ek 68=true:=by kernel_rfl
theorem Jf6:Hk Ek 69=true:=by kernel_rfl
theorem J54:Hk Ek 70=true:=by kernel_rfl
theorem J53:Hk Ek 71=true:=by kernel_rfl
theorem H98:Hk Ek 73=true:=by kernel_rfl
theorem J52:Hk Ek 74=true:=by kernel_rfl
theorem Jf4:Hk Ek 75=true:=by kernel_rfl
theorem Jf1:Hk Ek 78=true:=by kernel_rfl
theorem J50:Hk Ek 84=true:=by kernel_rfl
theorem Jed:Hk Ek 87=true:=by kernel_rfl
theorem Jec:Hk Ek 98=true:=by kernel_rfl
theorem H97:Y7 Ek 47 3 24=true:=by kernel_rfl
theorem H69:Ek.eqGuardType Ek.depth 47=false:=by kernel_rfl
theorem Jy:Jt Ek 47 0 0=true:=by kernel_rfl
theorem Za:Jt Ek 47 1 1=true:=by kernel_rfl
theorem Rw:Jt Ek 47 2 2=true:=by kernel_rfl
theorem Hg:Jt Ek 49 0 0=true:=by kernel_rfl
theorem Jq:Jt Ek 49 1 1=true:=by kernel_rfl
theorem G27:Jt Ek 61 0 0=true:=by kernel_rfl
theorem Rv:Jt Ek 61 2 2=true:=by kernel_rfl
theorem H84:Jt Ek 61 3 3=true:=by kernel_rfl
theorem H95:G7b Ek 115 3 116=true:=by kernel_rfl
theorem Jb3:placesOf Ek 116=some []:=by kernel_rfl
theorem Rx:placesOf Ek 61=some [(0,1),(1,1),(2,1),(3,1),(4,1),(5,1),(6,1),(7,1),(8,1)]:=by kernel_rfl
theorem H01:Rs Ek 115=true:=by kernel_rfl
theorem Qk:Rs Ek 37=true:=by kernel_rfl
theorem G19:Rs Ek 62=true:=by kernel_rfl
theorem H1d:Rs Ek 77=true:=by kernel_rfl
theorem Jcf:Rt Ek 115 1=true:=by kernel_rfl
theorem Jce:Rt Ek 116 0=true:=by kernel_rfl
theorem G37:Rt Ek 47 3=true:=by kernel_rfl
theorem Rk:Rt Ek 49 4=true:=by kernel_rfl
theorem G00:Rt Ek 61 9=true:=by kernel_rfl
theorem Jea:Rt Ek 77 1=true:=by kernel_rfl
theorem Qb:sliceB Ek 36 61 9=true:=by kernel_rfl
theorem J2:sliceB Ek 62 47 3=true:=by kernel_rfl
theorem Jcc:(Ek.info? 116).bind (fun i=>i.zero.map Value.cells)=some (List.toArray []):=by kernel_rfl
theorem Z0:(Ek.info? 61).bind (fun i=>i.zero.map Value.cells)=some (List.toArray [.int .i64 0,.string ByteArray.empty,.int .u8 0,.bool false,.int .i64 0,.int .i64 0,.int .i64 0,.int .u8 0,.bool false]):=by kernel_rfl
theorem Jbf:Re Ek 115 1=true:=by kernel_rfl
theorem Jbe:Re Ek 116 0=true:=by kernel_rfl
theorem Q1:Re Ek 3 1=true:=by kernel_rfl
theorem Y6:Re Ek 47 3=true:=by kernel_rfl
theorem Jx:Re Ek 49 4=true:=by kernel_rfl
theorem Y5:Re Ek 61 9=true:=by kernel_rfl
theorem Jca:Re Ek 77 1=true:=by kernel_rfl
theorem tf_zv_116:(Ek.info? 116).bind (·.zero)=some (.agg #[]):=by kernel_rfl
theorem tk_3:Gcd Ek 3 (fun n:Int=>Value.int .i64 n):=Gcd.of_int (by kernel_rfl)
end XGF
open XAF
open XCF
open XGF

def G4e (l:List Stowed):Option (List Slot):=
 each (fun y17 i17 (s17:(List Slot)) nx17=>
  need (decide ((s17.length+[y17.Slot].length)*24≤140737488355328∧s17.length+[y17.Slot].length≤maxLen)) <|
  nx17 (s17++[y17.Slot]))
 (fun(s17:(List Slot))=>
  some s17) l 0 []
theorem H5c (l:List Stowed) (r:(List Slot)) (h:G4e l=some r):Pure Ek 29 [E1 l] (·=E4 r):=by
 unfold G4e at h
 refine H6 [.tmp 2] Tryz.func29 O O (Jr fun hK1=>(JLh (E4 ([]:List Slot)) (Hf 3 O O) O (G7 (hK1 (Jr fun hK2=>(JLh (OW 1089 3 Slot.av ([]:List Slot)) (G45 1089 47 3 O O O) O (G7 (hK2 (Js fun hK3=>Jr fun hK4=>(Yv (E1 l) O (JLl H2 O O O fun hm7=>(Yv (G0 0) O (G7 (hK4 (Gw ?_)))))))))))))))
 obtain⟨b17,kx17,hb17,hkx17,h⟩:=J0 h
 refine Hp (fun i17 (s17:(List Slot))=>each b17 kx17 (List.drop i17 l) i17 s17=some r) (fun i17 s17=>[(3,OW 1089 3 Slot.av s17),(6,E1 l),(7,Ej l.length),(8,Ej i17)]) (fun i17 s17=>[(1089,.spare 47 3 s17.length s17.length)]) (fun i17=>l.length - i17) 0 [] h ⟨(by repeat' constructor),⟨⟨_,rfl,.same⟩,G⟩,rfl⟩ ?_
 clear h
 intro i17 s17 hi17 K17 e17
 refine Jr fun hK18=>(JLh (BL (decide ((i17:Int) < (l.length:Int)))) (Jb O O O) O (G7 (hK18 (Js fun hK19=>Gm O (fun hb=>?_) (fun hb=>?_)))))
 ·
  have hk17:=Jk hb
  obtain⟨y17,nx17,hy17,hn17,h⟩:=Hq hi17 hk17
  replace h:=Ya hb17 h
  refine Gr (hK19 (Js fun hK20=>Gw (Jr fun hK21=>(JLh (Ed y17) (Hb (f:=Stowed.av) (xs:=l) (y:=y17) O O O H2 hy17 O) O (JLh (.agg (Stowed.cs y17)) (Gh R4 O O O) O (JLh (.ptr 1090 0) (Hu 1090 4 Jx O O) O (Hw (u:=.junk) (Hj (u:=.agg (Stowed.cs y17)) (ds:=[G0 y17.G9,G0 y17.Slot.G4,G0 y17.Slot.Tier,U8 y17.Slot.Half]) Rk O O O O O O O O) (G7 (hK21 (Gt [(3,OW 1089 3 Slot.av s17),(5,Ed y17),(6,E1 l),(7,Ej l.length),(8,Ej i17)] [(1089,.spare 47 3 s17.length s17.length)] 1090 rfl rfl rfl ⟨⟨_,rfl,.same⟩,G⟩ rfl (by repeat' (first | exact .ptr | constructor)) (G3 ?_)))))))))))
  refine Yv (OW 1089 3 Slot.av s17) O (JLh (.dptr ((Stowed.cs y17).drop 1)) (Gf Jq O O O) O (JLh (.agg ((Stowed.cs y17).drop 1)) (Gh J9 O O O) O (JLh (E4 [y17.Slot]) (H9 (xs:=[.agg ((Stowed.cs y17).drop 1)]) O ⟨O,O,G⟩ J2 Y6 O O O O) O ?_)))
  obtain⟨ha22,h⟩:=J7 h
  refine JLh (OW 1089 3 Slot.av (s17++[y17.Slot])) (Rc (f:=Slot.av) (xs:=s17) (ys:=[y17.Slot]) O O O O J2 H97 ha22 (fun _=>O) (.inl O) O) O (Yv (OW 1089 3 Slot.av (s17++[y17.Slot])) O (G7 (hK20 (G3 (JLh (G0 ((i17+1:Nat):Int)) (Hx (Ho hk17 hm7) O O O) O (Yv (G0 ((i17+1:Nat):Int)) O (G7 (e17 _ _ (i17+1) (s17++[y17.Slot]) (app1 hn17 h) (by omega) ⟨(by repeat' constructor),⟨⟨_,rfl,.same⟩,G⟩,rfl⟩))))))))
 ·
  have h:=app1 hkx17 (Hr hi17 (Hc hb))
  refine Ht (hK3 (Jr fun hK23=>(Yv (OW 1089 3 Slot.av s17) O (Yv (OW 1089 3 Slot.av s17) O (G7 (hK23 (Gx (fin1l (fun r:(List Slot)=>(E4 r:AV)) h))))))))

def G62 (b:G9) (p1:Int):Option Bool:=
 some (decide (b.ID=p1))
theorem J2f (b:G9) (p1:Int) (r:Bool) (h:G62 b p1=some r):Pure Ek 65 [.agg (G9.cs b),.dptr [G0 p1]] (·=BL r):=by
 unfold G62 at h
 refine H6 [.tmp 3] Tryz.func65 O O (Jr fun hK1=>(JLh (.ptr 1132 0) (Jn (cs:=(G9.cs b)) 1132 O O O O O) O (Yv (BL false) O (G7 (hK1 (Gt [(1,.dptr [G0 p1]),(2,Ef b)] [] 1132 rfl rfl rfl G rfl (by exact⟨.conv (.same rfl),.ptr,G⟩) (Jr fun hK2=>(JLh (Ef b) (Gf G27 O O O) O (JLh (G0 b.ID) (Gj Gb O O O) O (JLh (G0 p1) (Gj Gb O O O) O (JLh (BL (decide (b.ID=p1))) (Q0 O O O) O (Yv (BL (decide (b.ID=p1))) O (G7 (hK2 (Gx (fin1 BL h))))))))))))))))

def Y9 (s:List G9) (f:G9→Option Bool):Option Int:=
 each (fun y20 i20 (s20:Unit) nx20=>
  bnd (f y20) fun r26=>
  bif r26 then
  (some (i20:Int))
  else
  (nx20 ()))
 (fun(s20:Unit)=>
  some (-1)) s 0 ()
theorem Gc8 (s:List G9) (f:G9→Option Bool) (f_f:FuncId) (f_c:List AV) (f_B:Hk Ek f_f=true) (f_d:Yp (fun _=>false) f_c=true) (f_w:∀ a0 q,f a0=some q→Pure Ek f_f ([.agg (G9.cs a0)]++f_c) (·=BL q)) (r:Int) (h:Y9 s f=some r):Pure Ek 64 [E2 s,.fn f_f f_c] (·=G0 r):=by
 unfold Y9 at h
 refine H6 [.tmp 4] Tryz.func64 O O (Jr fun hK1=>(Yv (G0 0) O (G7 (hK1 (Js fun hK2=>Jr fun hK3=>(Yv (E2 s) O (JLl Qb O O O fun hm7=>(Yv (G0 0) O (G7 (hK3 (Gw ?_)))))))))))
 obtain⟨b20,kx20,hb20,hkx20,h⟩:=J0 h
 refine Hp (fun i20 (s20:Unit)=>each b20 kx20 (List.drop i20 s) i20 s20=some r) (fun i20 s20=>[(0,E2 s),(1,.fn f_f f_c),(7,Ej s.length),(8,Ej i20)]) (fun i20 s20=>[]) (fun i20=>s.length - i20) 0 () h ⟨⟨.same O,.same (Q8 _ _ f_d),.same O,.same O,G⟩,G,O⟩ ?_
 clear h
 intro i20 s20 hi20 K20 e20
 refine Jr fun hK21=>(JLh (BL (decide ((i20:Int) < (s.length:Int)))) (Jb O O O) O (G7 (hK21 (Js fun hK22=>Gm O (fun hb=>?_) (fun hb=>?_)))))
 ·
  have hk20:=Jk hb
  obtain⟨y20,nx20,hy20,hn20,h⟩:=Hq hi20 hk20
  replace h:=Ya hb20 h
  refine Gr (hK22 (Js fun hK23=>Gw (Jr fun hK24=>(Yv (Ej i20) O (Yv (Ej i20) O (G7 (hK24 (Jr fun hK25=>(Yv (.fn f_f f_c) O (Yv (E2 s) O (Yv (Ej i20) O (JLh (Ef y20) (Hb (f:=G9.av) (xs:=s) (y:=y20) O O O Qb hy20 O) O (JLh (.agg (G9.cs y20)) (Gh G49 O O O) O ?_)))))))))))))
  obtain⟨r26,hr26,h⟩:=Gd h
  refine JLh (BL r26) (G46 (args:=[.agg (G9.cs y20)]) (caps:=f_c) O O (f_w y20 _ hr26) f_B ⟨O,O,G⟩ f_d) O (G7 (hK25 (JCc O h (fun h hb=>?_) (fun h hb=>?_))))
  ·
   refine Jr fun hK27=>(Yv (Ej i20) O (Yv (Ej i20) O (G7 (hK27 (Gx (fin1 G0 h))))))
  ·
   refine Gr (hK23 (G3 (JLh (G0 ((i20+1:Nat):Int)) (Hx (Ho hk20 hm7) O O O) O (Yv (G0 ((i20+1:Nat):Int)) O (G7 (e20 _ _ (i20+1) () (app1 hn20 h) (by omega) ⟨⟨.same rfl,.same (Q8 _ _ f_d),.same rfl,.same rfl,G⟩,G,rfl⟩))))))
 ·
  have h:=app1 hkx20 (Hr hi20 (Hc hb))
  refine Ht (hK2 (Jr fun hK28=>(Yv (G0 (-1)) O (G7 (hK28 (Gx (fin1 G0 h)))))))

def Zw (boxes:List G9) (id_:Int):Option (G9×Bool):=
 bnd (Y9 boxes (fun z0=>G62 z0 id_)) fun r3=>
 bif decide (r3 < 0) then
 (some ((G9.mk 0 ByteArray.empty 0 false 0 0 0 0 false),false))
 else
 (Z2 boxes r3 fun y8=>
  some (y8,true))
theorem G61 (boxes:List G9) (id_:Int) (r:G9×Bool) (h:Zw boxes id_=some r):Pure Ek 30 [E2 boxes,G0 id_] (·=.tup [.agg (G9.cs r.1),BL r.2]):=by
 unfold Zw at h
 refine H6 [.cell 4 61,.tmp 5] Tryz.func30 O O (Jr fun hK1=>(JLh (.ptr 1091 0) (Jn (cs:=[G0 id_]) 1091 O O O O O) O (JLh (.ptr 1092 0) (G8f 1092 [G0 0,ST ByteArray.empty,U8 0,BL false,G0 0,G0 0,G0 0,U8 0,BL false] [.int .i64 0,.string ByteArray.empty,.int .u8 0,.bool false,.int .i64 0,.int .i64 0,.int .i64 0,.int .u8 0,.bool false] Z0 ⟨.inl O,.inl O,.inl O,.inl O,.inl O,.inl O,.inl O,.inl O,.inl O,G⟩ O O) O (Yv (BL false) O (G7 (hK1 (Gt [(0,E2 boxes),(3,.dptr [G0 id_]),(4,.ptr 1092 0)] [(1092,.box 61 [G0 0,ST ByteArray.empty,U8 0,BL false,G0 0,G0 0,G0 0,U8 0,BL false])] 1091 rfl rfl rfl ⟨⟨_,rfl,.boxEq rfl rfl⟩,G⟩ rfl (by exact⟨.conv (.same rfl),.ptr,.conv (.same rfl),G⟩) ?_)))))))
 refine Jr fun hK2=>(Yv (E2 boxes) O (JLh (.fn 65 [.dptr [G0 id_]]) (Yg (cs:=[.dptr [G0 id_]]) O O) O ?_))
 obtain⟨r3,hr3,h⟩:=Gd h
 refine JLh (G0 r3) (Gu O (Gc8 boxes (fun z0=>G62 z0 id_) 65 [.dptr [G0 id_]] Jf8 O (fun z0 q hq=>J2f z0 id_ q hq) r3 hr3) Jf9 ⟨O,O,O,O,G⟩) O (Yv (G0 r3) O (G7 (hK2 (Js fun hK4=>Jr fun hK5=>(Yv (G0 r3) O (JLh (BL (decide (r3 < 0))) (Jb O O O) O (G7 (hK5 (JCc O h (fun h hb=>?_) (fun h hb=>?_))))))))))
 ·
  refine Jr fun hK6=>(JLh (.agg [G0 0,ST ByteArray.empty,U8 0,BL false,G0 0,G0 0,G0 0,U8 0,BL false]) (Hz (cs:=[G0 0,ST ByteArray.empty,U8 0,BL false,G0 0,G0 0,G0 0,U8 0,BL false]) [(0,1),(1,1),(2,1),(3,1),(4,1),(5,1),(6,1),(7,1),(8,1)] [G0 0,ST ByteArray.empty,U8 0,BL false,G0 0,G0 0,G0 0,U8 0,BL false] [.int .i64 0,.string ByteArray.empty,.int .u8 0,.bool false,.int .i64 0,.int .i64 0,.int .i64 0,.int .u8 0,.bool false] Rx Z0 ⟨.inl O,.inl O,.inl O,.inl O,.inl O,.inl O,.inl O,.inl O,.inl O,G⟩ O O) O (Hw (u:=.junk) (Hj (u:=.agg [G0 0,ST ByteArray.empty,U8 0,BL false,G0 0,G0 0,G0 0,U8 0,BL false]) (ds:=[G0 0,ST ByteArray.empty,U8 0,BL false,G0 0,G0 0,G0 0,U8 0,BL false]) G00 O O O O O O O O) (Yv (BL false) O (G7 (hK6 ?_)))))
  refine Gx (⟨[.agg [G0 0,ST ByteArray.empty,U8 0,BL false,G0 0,G0 0,G0 0,U8 0,BL false],BL false],[],G,O,⟨⟨_,⟨_,_,_,_,O,O,O,.inl ⟨G49,O⟩⟩,.conv (.same O)⟩,⟨_,O,.conv (.same O)⟩,G⟩,O,congrArg (fun r:G9×Bool=>(.tup [.agg (G9.cs r.1),BL r.2]:AV)) (Option.some.inj h)⟩)
 ·
  refine Gr (hK4 (Jr fun hK7=>(Yv (E2 boxes) O (Yv (G0 r3) O ?_))))
  obtain⟨m9,y8,hm9,hy8,h⟩:=Z5 h
  refine JLh (Ef y8) (Hb (f:=G9.av) (xs:=boxes) (y:=y8) O O O Qb hy8 hm9) O (JLh (.agg (G9.cs y8)) (Gh G49 O O O) O (Hw (u:=.junk) (Hj (u:=.agg (G9.cs y8)) (ds:=(G9.cs y8)) G00 O O O O O O O O) (Yv (BL true) O (G7 (hK7 (Gx (⟨[.agg (G9.cs y8),BL true],[],G,O,⟨⟨_,⟨_,_,_,_,O,O,O,.inl ⟨G49,O⟩⟩,.conv (.same O)⟩,⟨_,O,.conv (.same O)⟩,G⟩,O,congrArg (fun r:G9×Bool=>(.tup [.agg (G9.cs r.1),BL r.2]:AV)) (Option.some.inj h)⟩)))))))

def Yt (s:List Int) (v:Int):Option Int:=
 each (fun y18 i18 (s18:Unit) nx18=>
  bif decide (v=y18) then
  (some (i18:Int))
  else
  (nx18 ()))
 (fun(s18:Unit)=>
  some (-1)) s 0 ()
theorem H30 (s:List Int) (v:Int) (r:Int) (h:Yt s v=some r):Pure Ek 100 [Ea s,U8 v] (·=G0 r):=by
 unfold Yt at h
 refine H6 [.tmp 4] Tryz.func100 O O (Jr fun hK1=>(Yv (G0 0) O (G7 (hK1 (Js fun hK2=>Jr fun hK3=>(Yv (Ea s) O (JLl G47 O O O fun hm7=>(Yv (G0 0) O (G7 (hK3 (Gw ?_)))))))))))
 obtain⟨b18,kx18,hb18,hkx18,h⟩:=J0 h
 refine Hp (fun i18 (s18:Unit)=>each b18 kx18 (List.drop i18 s) i18 s18=some r) (fun i18 s18=>[(0,Ea s),(1,U8 v),(7,Ej s.length),(8,Ej i18)]) (fun i18 s18=>[]) (fun i18=>s.length - i18) 0 () h ⟨(by repeat' constructor),G,rfl⟩ ?_
 clear h
 intro i18 s18 hi18 K18 e18
 refine Jr fun hK19=>(JLh (BL (decide ((i18:Int) < (s.length:Int)))) (Jb O O O) O (G7 (hK19 (Js fun hK20=>Gm O (fun hb=>?_) (fun hb=>?_)))))
 ·
  have hk18:=Jk hb
  obtain⟨y18,nx18,hy18,hn18,h⟩:=Hq hi18 hk18
  replace h:=Ya hb18 h
  refine Gr (hK20 (Js fun hK21=>Gw (Jr fun hK22=>(Yv (Ej i18) O (Yv (Ej i18) O (G7 (hK22 (Jr fun hK23=>(Yv (U8 v) O (Yv (Ea s) O (Yv (Ej i18) O (JLh (.dptr [U8 y18]) (Hb (f:=U8) (xs:=s) (y:=y18) O O O G47 hy18 O) O (JLh (U8 y18) (Gj Ja O O O) O (JLh (BL (decide (v=y18))) (Q0 O O O) O (G7 (hK23 (JCc O h (fun h hb=>?_) (fun h hb=>?_))))))))))))))))))
  ·
   refine Jr fun hK24=>(Yv (Ej i18) O (Yv (Ej i18) O (G7 (hK24 (Gx (fin1 G0 h))))))
  ·
   refine Gr (hK21 (G3 (JLh (G0 ((i18+1:Nat):Int)) (Hx (Ho hk18 hm7) O O O) O (Yv (G0 ((i18+1:Nat):Int)) O (G7 (e18 _ _ (i18+1) () (app1 hn18 h) (by omega) ⟨(by repeat' constructor),G,rfl⟩))))))
 ·
  have h:=app1 hkx18 (Hr hi18 (Hc hb))
  refine Ht (hK2 (Jr fun hK25=>(Yv (G0 (-1)) O (G7 (hK25 (Gx (fin1 G0 h)))))))

def Rr (s:List Int) (v:Int):Option Bool:=
 bnd (Yt s v) fun r3=>
 some (decide (0≤r3))
theorem Gef (s:List Int) (v:Int) (r:Bool) (h:Rr s v=some r):Pure Ek 66 [Ea s,U8 v] (·=BL r):=by
 unfold Rr at h
 refine H6 [.tmp 4] Tryz.func66 O O (Jr fun hK1=>(Yv (BL false) O (G7 (hK1 (Jr fun hK2=>(Yv (Ea s) O (Yv (U8 v) O ?_)))))))
 obtain⟨r3,hr3,h⟩:=Gd h
 refine JLh (G0 r3) (Gu O (H30 s v r3 hr3) Jdb ⟨O,O,O,O,G⟩) O (JLh (BL (decide (0≤r3))) (Gb4 O O O) O (Yv (BL (decide (0≤r3))) O (G7 (hK2 (Gx (fin1 BL h))))))

def G51 (s:Gp) (x:Slot) (size:Int):Option Bool:=
 bnd (bif (((decide (0≤x.G4))&&(decide (x.G4 < (s.Columns.length:Int))))&&(decide (0≤x.Tier))) then Z2 s.Columns x.G4 some else some default) fun y3=>
 bnd (bif ((((decide (0≤x.G4))&&(decide (x.G4 < (s.Columns.length:Int))))&&(decide (0≤x.Tier)))&&(decide (x.Tier < y3.Tiers))) then G07 size else some default) fun r4=>
 bnd (bif ((((decide (0≤x.G4))&&(decide (x.G4 < (s.Columns.length:Int))))&&(decide (0≤x.Tier)))&&(decide (x.Tier < y3.Tiers))) then Rr r4 x.Half else some default) fun r5=>
 some (((((decide (0≤x.G4))&&(decide (x.G4 < (s.Columns.length:Int))))&&(decide (0≤x.Tier)))&&(decide (x.Tier < y3.Tiers)))&&r5)
theorem H60 (s:Gp) (x:Slot) (size:Int) (r:Bool) (h:G51 s x size=some r):Pure Ek 31 [.agg (Gp.cs s),.agg [G0 x.G4,G0 x.Tier,U8 x.Half],U8 size] (·=BL r):=by
 unfold G51 at h
 refine H6 [.tmp 6] Tryz.func31 O O (Jr fun hK1=>(JLh (.ptr 1093 0) (Jn (cs:=(Gp.cs s)) 1093 O O O O O) O (JLh (.ptr 1094 0) (Jn (cs:=[G0 x.G4,G0 x.Tier,U8 x.Half]) 1094 O O O O O) O (Yv (BL false) O (G7 (hK1 ?_))))))
 refine Gt [(2,U8 size),(3,Ec s),(4,.ptr 1094 0)] [(1094,.box 47 [G0 x.G4,G0 x.Tier,U8 x.Half])] 1093 rfl rfl rfl ⟨⟨_,rfl,.boxEq rfl rfl⟩,G⟩ rfl (by exact⟨.conv (.same rfl),.ptr,.conv (.same rfl),G⟩) ?_
 refine Gt [(2,U8 size),(3,Ec s),(4,.dptr [G0 x.G4,G0 x.Tier,U8 x.Half])] [] 1094 rfl rfl rfl G rfl (by exact⟨.conv (.same rfl),.conv (.same rfl),.ptr,G⟩) (Js fun hK2=>?_)
 obtain⟨y3,hy3,h⟩:=Gd h
 obtain⟨r4,hr4,h⟩:=Gd h
 obtain⟨r5,hr5,h⟩:=Gd h
 refine JC_d0 Qg (by kernel_rfl) (Dq (.dptr [G0 x.G4,G0 x.Tier,U8 x.Half]) (Gf Jy O O O) O (Dq (G0 x.G4) (Gj Gb O O O) O (Dq (BL (decide (0≤x.G4))) (Gb4 O O O) O (Dq (BL (decide (0≤x.G4))) (G5 O O) O (Do (.dptr [G0 x.G4,G0 x.Tier,U8 x.Half]) [] O .sct G (fun hc=>Gf Jy O O O) O (Do (G0 x.G4) [11] O .sct ⟨Ua,G⟩ (fun hc=>Gj Gb O O O) O (Do (Ec s) [] O .sct G (fun hc=>Gf Jc O O O) O (Do (E3 s.Columns) [13] O .sct ⟨Ua,G⟩ (fun hc=>Gj Jv O O O) O (Do (Ej s.Columns.length) [14] O .sct ⟨Ua,G⟩ (fun hc=>Zj (f:=G4.av) (xs:=s.Columns) Ji O O) O (Do (BL (decide (x.G4 < (s.Columns.length:Int)))) [12,15] O .sct ⟨Ua,Ua,G⟩ (fun hc=>Jb O O O) O (Dq (BL ((decide (0≤x.G4))&&(decide (x.G4 < (s.Columns.length:Int))))) (Qd O O O O) O (Dq (BL ((decide (0≤x.G4))&&(decide (x.G4 < (s.Columns.length:Int))))) (G5 O O) O (Do (.dptr [G0 x.Tier,U8 x.Half]) [] O .sct G (fun hc=>Gf Za O O O) O ?_)))))))))))))
 refine Do (G0 x.Tier) [19] O .sct ⟨Ua,G⟩ (fun hc=>Gj Gb O O O) O (Do (BL (decide (0≤x.Tier))) [20] O .sct ⟨Ua,G⟩ (fun hc=>Gb4 O O O) O (Dq (BL (((decide (0≤x.G4))&&(decide (x.G4 < (s.Columns.length:Int))))&&(decide (0≤x.Tier)))) (Qd O O O O) O (Dq (BL (((decide (0≤x.G4))&&(decide (x.G4 < (s.Columns.length:Int))))&&(decide (0≤x.Tier)))) (G5 O O) O (Do (.dptr [G0 x.Tier,U8 x.Half]) [] O .sct G (fun hc=>Gf Za O O O) O (Do (G0 x.Tier) [24] O .sct ⟨Ua,G⟩ (fun hc=>Gj Gb O O O) O (Do (Ec s) [] O .sct G (fun hc=>Gf Jc O O O) O (Do (E3 s.Columns) [26] O .sct ⟨Ua,G⟩ (fun hc=>Gj Jv O O O) O (Do (.dptr [G0 x.G4,G0 x.Tier,U8 x.Half]) [] O .sct G (fun hc=>Gf Jy O O O) O (Do (G0 x.G4) [28] O .sct ⟨Ua,G⟩ (fun hc=>Gj Gb O O O) O (Do (Ee y3) [27,29] O .sct ⟨Ua,Ua,G⟩ (fun hc=>(match Yd (H4 hc hy3) with | ⟨_,hm_,hy_⟩=>Hb (f:=G4.av) (xs:=s.Columns) (y:=y3) O O O Ji hy_ hm_)) O (Do (.dptr ((G4.cs y3).drop 3)) [30] O .sct ⟨Ua,G⟩ (fun hc=>Gf G81 O O O) O (Do (G0 y3.Tiers) [31] O .sct ⟨Ua,G⟩ (fun hc=>Gj Gb O O O) O (Do (BL (decide (x.Tier < y3.Tiers))) [25,32] O .sct ⟨Ua,Ua,G⟩ (fun hc=>Jb O O O) O ?_)))))))))))))
 refine Dq (BL ((((decide (0≤x.G4))&&(decide (x.G4 < (s.Columns.length:Int))))&&(decide (0≤x.Tier)))&&(decide (x.Tier < y3.Tiers)))) (Qd O O O O) O (Dq (BL ((((decide (0≤x.G4))&&(decide (x.G4 < (s.Columns.length:Int))))&&(decide (0≤x.Tier)))&&(decide (x.Tier < y3.Tiers)))) (G5 O O) O (Do (U8 size) [] O .sct G (fun hc=>G5 O O) O (Do (Ea r4) [36] O .sct ⟨Ua,G⟩ (fun hc=>Gu (args:=[U8 size]) O (H39 size r4 (H4 hc hr4)) J55 ⟨O,O,G⟩) O (Do (.dptr [U8 x.Half]) [] O .sct G (fun hc=>Gf Rw O O O) O (Do (U8 x.Half) [38] O .sct ⟨Ua,G⟩ (fun hc=>Gj Ja O O O) O (Do (BL r5) [37,39] O .sct ⟨Ua,Ua,G⟩ (fun hc=>Gu (args:=[Ea r4,U8 x.Half]) O (Gef r4 x.Half r5 (H4 hc hr5)) Jf7 ⟨O,O,O,O,G⟩) O (Dq (BL (((((decide (0≤x.G4))&&(decide (x.G4 < (s.Columns.length:Int))))&&(decide (0≤x.Tier)))&&(decide (x.Tier < y3.Tiers)))&&r5)) (Qd O O O O) O (Dq (BL (((((decide (0≤x.G4))&&(decide (x.G4 < (s.Columns.length:Int))))&&(decide (0≤x.Tier)))&&(decide (x.Tier < y3.Tiers)))&&r5)) (G8 O O) O (Dnil ?_)))))))))
 refine hK2 (Gx (fin1 BL h))

def Y0 (s:List Slot) (v:Slot):Option Int:=
 each (fun y18 i18 (s18:Unit) nx18=>
  bif decide (v=y18) then
  (some (i18:Int))
  else
  (nx18 ()))
 (fun(s18:Unit)=>
  some (-1)) s 0 ()
theorem H08 (s:List Slot) (v:Slot) (r:Int) (h:Y0 s v=some r):Pure Ek 101 [E4 s,.agg [G0 v.G4,G0 v.Tier,U8 v.Half]] (·=G0 r):=by
 unfold Y0 at h
 refine H6 [.tmp 4] Tryz.func101 O O (Jr fun hK1=>(JLh (.ptr 1151 0) (Jn (cs:=[G0 v.G4,G0 v.Tier,U8 v.Half]) 1151 O O O O O) O (Yv (G0 0) O (G7 (hK1 (Gt [(0,E4 s),(3,.dptr [G0 v.G4,G0 v.Tier,U8 v.Half])] [] 1151 rfl rfl rfl G rfl (by exact⟨.conv (.same rfl),.ptr,G⟩) (Js fun hK2=>Jr fun hK3=>(Yv (E4 s) O (JLl J2 O O O fun hm7=>(Yv (G0 0) O (G7 (hK3 (Gw ?_)))))))))))))
 obtain⟨b18,kx18,hb18,hkx18,h⟩:=J0 h
 refine Hp (fun i18 (s18:Unit)=>each b18 kx18 (List.drop i18 s) i18 s18=some r) (fun i18 s18=>[(0,E4 s),(3,.dptr [G0 v.G4,G0 v.Tier,U8 v.Half]),(7,Ej s.length),(8,Ej i18)]) (fun i18 s18=>[]) (fun i18=>s.length - i18) 0 () h ⟨(by repeat' constructor),G,rfl⟩ ?_
 clear h
 intro i18 s18 hi18 K18 e18
 refine Jr fun hK19=>(JLh (BL (decide ((i18:Int) < (s.length:Int)))) (Jb O O O) O (G7 (hK19 (Js fun hK20=>Gm O (fun hb=>?_) (fun hb=>?_)))))
 ·
  have hk18:=Jk hb
  obtain⟨y18,nx18,hy18,hn18,h⟩:=Hq hi18 hk18
  replace h:=Ya hb18 h
  refine Gr (hK20 (Js fun hK21=>Gw (Jr fun hK22=>(Yv (Ej i18) O (Yv (Ej i18) O (G7 (hK22 (Js fun hK23=>JC_d0 Qg (by kernel_rfl) (Dq (.agg [G0 v.G4,G0 v.Tier,U8 v.Half]) (Gh J9 O O O) O (Dq (E4 s) (G5 O O) O (Dq (Ej i18) (G5 O O) O (Dq (Eh y18) (Hb (f:=Slot.av) (xs:=s) (y:=y18) O O O J2 hy18 O) O (Dq (.agg (Slot.cs y18)) (Gh J9 O O O) O (Dq (BL (decide (v=y18))) (Jc6 (vs:=[.int .i64 v.G4,.int .i64 v.Tier,.int .u8 v.Half]) (us:=[.int .i64 y18.G4,.int .i64 y18.Tier,.int .u8 y18.Half]) 4 O (tq_47 v y18) Gf3 H69 O O O) O (Dnil (hK23 (JCc O h (fun h hb=>?_) (fun h hb=>?_))))))))))))))))))
  ·
   refine Jr fun hK24=>(Yv (Ej i18) O (Yv (Ej i18) O (G7 (hK24 (Gx (fin1 G0 h))))))
  ·
   refine Gr (hK21 (G3 (JLh (G0 ((i18+1:Nat):Int)) (Hx (Ho hk18 hm7) O O O) O (Yv (G0 ((i18+1:Nat):Int)) O (G7 (e18 _ _ (i18+1) () (app1 hn18 h) (by omega) ⟨(by repeat' constructor),G,rfl⟩))))))
 ·
  have h:=app1 hkx18 (Hr hi18 (Hc hb))
  refine Ht (hK2 (Jr fun hK25=>(Yv (G0 (-1)) O (G7 (hK25 (Gx (fin1 G0 h)))))))

def R6 (s:List Slot) (v:Slot):Option Bool:=
 bnd (Y0 s v) fun r3=>
 some (decide (0≤r3))
theorem Gc9 (s:List Slot) (v:Slot) (r:Bool) (h:R6 s v=some r):Pure Ek 69 [E4 s,.agg [G0 v.G4,G0 v.Tier,U8 v.Half]] (·=BL r):=by
 unfold R6 at h
 refine H6 [.tmp 4] Tryz.func69 O O (Jr fun hK1=>(JLh (.ptr 1133 0) (Jn (cs:=[G0 v.G4,G0 v.Tier,U8 v.Half]) 1133 O O O O O) O (Yv (BL false) O (G7 (hK1 (Gt [(0,E4 s),(3,.dptr [G0 v.G4,G0 v.Tier,U8 v.Half])] [] 1133 rfl rfl rfl G rfl (by exact⟨.conv (.same rfl),.ptr,G⟩) (Jr fun hK2=>(Yv (E4 s) O (JLh (.agg [G0 v.G4,G0 v.Tier,U8 v.Half]) (Gh J9 O O O) O ?_)))))))))
 obtain⟨r3,hr3,h⟩:=Gd h
 refine JLh (G0 r3) (Gu O (H08 s v r3 hr3) Jda ⟨O,O,O,O,G⟩) O (JLh (BL (decide (0≤r3))) (Gb4 O O O) O (Yv (BL (decide (0≤r3))) O (G7 (hK2 (Gx (fin1 BL h))))))

def G08 (half:Int) (p1:List Slot) (p2:Slot):Option Bool:=
 G0d (p2.Tier - 1) fun v3=>
 bnd (R6 p1 (Slot.mk p2.G4 v3 half)) fun r4=>
 some r4
theorem Gbc (half:Int) (p1:List Slot) (p2:Slot) (r:Bool) (h:G08 half p1 p2=some r):Pure Ek 68 [U8 half,.dptr [E4 p1],.dptr [G0 p2.G4,G0 p2.Tier,U8 p2.Half]] (·=BL r):=by
 unfold G08 at h
 refine H6 [.tmp 4] Tryz.func68 O O (Jr fun hK1=>(Yv (BL false) O (G7 (hK1 (Jr fun hK2=>(JLh (E4 p1) (Gj G19 O O O) O (JLh (.dptr [G0 p2.G4,G0 p2.Tier,U8 p2.Half]) (Gf Jy O O O) O (JLh (G0 p2.G4) (Gj Gb O O O) O (JLh (.dptr [G0 p2.Tier,U8 p2.Half]) (Gf Za O O O) O (JLh (G0 p2.Tier) (Gj Gb O O O) O ?_))))))))))
 obtain⟨v3,hv3,h⟩:=Jp h
 refine JLh (G0 v3) (H3d hv3 O O O) O (Yv (U8 half) O (JLh (.agg [G0 p2.G4,G0 v3,U8 half]) (Hz (cs:=[G0 p2.G4,G0 v3,U8 half]) [(0,1),(1,1),(2,1)] [G0 0,G0 0,U8 0] [.int .i64 0,.int .i64 0,.int .u8 0] G1b G6a ⟨.inl O,.inl O,.inl O,G⟩ O O) O ?_))
 obtain⟨r4,hr4,h⟩:=Gd h
 refine JLh (BL r4) (Gu O (Gc9 p1 (Slot.mk p2.G4 v3 half) r4 hr4) Jf6 ⟨O,O,O,O,G⟩) O (Yv (BL r4) O (G7 (hK2 (Gx (fin1 BL h)))))

def G78 (x:Slot) (l:List Slot):Option Bool:=
 bif decide (x.Tier≤0) then
 (some true)
 else
 (bnd (G08 x.Half l x) fun r7=>
  bnd (bif ((!r7)&&(decide (x.Half=0))) then G08 1 l x else some default) fun r8=>
  bnd (bif ((!r7)&&((decide (x.Half=0))&&r8)) then G08 2 l x else some default) fun r9=>
  some (r7||(((decide (x.Half=0))&&r8)&&r9)))
theorem H90 (x:Slot) (l:List Slot) (r:Bool) (h:G78 x l=some r):Pure Ek 32 [.agg [G0 x.G4,G0 x.Tier,U8 x.Half],E4 l] (·=BL r):=by
 unfold G78 at h
 refine H6 [.tmp 4] Tryz.func32 O O (Jr fun hK1=>(JLh (.ptr 1095 0) (Jn (cs:=[G0 x.G4,G0 x.Tier,U8 x.Half]) 1095 O O O O O) O (JLh (.ptr 1096 0) (Jn (cs:=[E4 l]) 1096 O O O O O) O (Yv (BL false) O (G7 (hK1 (Gt [(2,.dptr [G0 x.G4,G0 x.Tier,U8 x.Half]),(3,.ptr 1096 0)] [(1096,.box 62 [E4 l])] 1095 rfl rfl rfl ⟨⟨_,rfl,.boxEq rfl rfl⟩,G⟩ rfl (by exact⟨.ptr,.conv (.same rfl),G⟩) (Gt [(2,.dptr [G0 x.G4,G0 x.Tier,U8 x.Half]),(3,.dptr [E4 l])] [] 1096 rfl rfl rfl G rfl (by exact⟨.conv (.same rfl),.ptr,G⟩) (Js fun hK2=>Jr fun hK3=>(JLh (.dptr [G0 x.Tier,U8 x.Half]) (Gf Za O O O) O (JLh (G0 x.Tier) (Gj Gb O O O) O (JLh (BL (decide (x.Tier≤0))) (He5 O O O) O (G7 (hK3 ?_))))))))))))))
 refine JCc O h (fun h hb=>?_) (fun h hb=>?_)
 ·
  refine Jr fun hK4=>(Yv (BL true) O (G7 (hK4 (Gx (fin1 BL h)))))
 ·
  refine Gr (hK2 (Jr fun hK5=>(JLh (.fn 68 [.dptr [E4 l],.dptr [G0 x.G4,G0 x.Tier,U8 x.Half]]) (Yg (cs:=[.dptr [E4 l],.dptr [G0 x.G4,G0 x.Tier,U8 x.Half]]) O O) O (Yv (.fn 68 [.dptr [E4 l],.dptr [G0 x.G4,G0 x.Tier,U8 x.Half]]) O (G7 (hK5 (Jr fun hK6=>(Yv (.fn 68 [.dptr [E4 l],.dptr [G0 x.G4,G0 x.Tier,U8 x.Half]]) O (JLh (.dptr [U8 x.Half]) (Gf Rw O O O) O (JLh (U8 x.Half) (Gj Ja O O O) O ?_))))))))))
  obtain⟨r7,hr7,h⟩:=Gd h
  refine JLh (BL r7) (G46 (args:=[U8 x.Half]) (caps:=[.dptr [E4 l],.dptr [G0 x.G4,G0 x.Tier,U8 x.Half]]) O O (Gbc x.Half l x r7 hr7) H99 ⟨O,O,G⟩ O) O (Yv (BL r7) O (JLo (.dptr [U8 x.Half]) [] O .scf G (fun hc=>Gf Rw O O O) O (JLo (U8 x.Half) [15] O .scf ⟨Ua,G⟩ (fun hc=>Gj Ja O O O) O (JLo (BL (decide (x.Half=0))) [16] O .scf ⟨Ua,G⟩ (fun hc=>Q0 O O O) O (JLo (BL (decide (x.Half=0))) [17] O .scf ⟨Ua,G⟩ (fun hc=>G5 O O) O (JLo (.fn 68 [.dptr [E4 l],.dptr [G0 x.G4,G0 x.Tier,U8 x.Half]]) [] O .optt G (fun hc=>G5 O O) O ?_))))))
  obtain⟨r8,hr8,h⟩:=Gd h
  refine JLo (BL r8) [19] O .optt ⟨Ua,G⟩ (fun hc=>G46 (args:=[U8 1]) (caps:=[.dptr [E4 l],.dptr [G0 x.G4,G0 x.Tier,U8 x.Half]]) O O (Gbc 1 l x r8 (H4 hc hr8)) H99 ⟨O,O,G⟩ O) O (Gc (u:=BL ((decide (x.Half=0))&&r8)) [(18,BL (decide (x.Half=0))),(20,_)] O O O .scf ⟨.all id,.part,G⟩ (fun hc=>Qd O O O O) ?_)
  refine JLo (BL ((decide (x.Half=0))&&r8)) [21] O .scf ⟨Ua,G⟩ (fun hc=>G5 O O) O (JLo (.fn 68 [.dptr [E4 l],.dptr [G0 x.G4,G0 x.Tier,U8 x.Half]]) [] O .optt G (fun hc=>G5 O O) O ?_)
  obtain⟨r9,hr9,h⟩:=Gd h
  refine JLo (BL r9) [23] O .optt ⟨Ua,G⟩ (fun hc=>G46 (args:=[U8 2]) (caps:=[.dptr [E4 l],.dptr [G0 x.G4,G0 x.Tier,U8 x.Half]]) O O (Gbc 2 l x r9 (H4 hc hr9)) H99 ⟨O,O,G⟩ O) O (Gc (u:=BL (((decide (x.Half=0))&&r8)&&r9)) [(22,BL ((decide (x.Half=0))&&r8)),(24,_)] O O O .scf ⟨.all id,.part,G⟩ (fun hc=>Qd O O O O) ?_)
  refine JLh (BL (r7||(((decide (x.Half=0))&&r8)&&r9))) (Zn O O O O) O (Yv (BL (r7||(((decide (x.Half=0))&&r8)&&r9))) O (G7 (hK6 (Gx (fin1 BL h)))))

def G2b (a:Int) (b:Int):Option Bool:=
 some (((decide (a=b))||(decide (a=0)))||(decide (b=0)))
theorem H38 (a:Int) (b:Int) (r:Bool) (h:G2b a b=some r):Pure Ek 70 [U8 a,U8 b] (·=BL r):=by
 unfold G2b at h
 refine H6 [.tmp 4] Tryz.func70 O O (Jr fun hK1=>(Yv (BL false) O (G7 (hK1 (Jr fun hK2=>(Yv (U8 a) O (Yv (U8 b) O (JLh (BL (decide (a=b))) (Q0 O O O) O (Yv (BL (decide (a=b))) O (JLo (U8 a) [] O .scf G (fun hc=>G5 O O) O (JLo (BL (decide (a=0))) [9] O .scf ⟨Ua,G⟩ (fun hc=>Q0 O O O) O (JLh (BL ((decide (a=b))||(decide (a=0)))) (Zn O O O O) O (Yv (BL ((decide (a=b))||(decide (a=0)))) O (JLo (U8 b) [] O .scf G (fun hc=>G5 O O) O (JLo (BL (decide (b=0))) [13] O .scf ⟨Ua,G⟩ (fun hc=>Q0 O O O) O (JLh (BL (((decide (a=b))||(decide (a=0)))||(decide (b=0)))) (Zn O O O O) O (Yv (BL (((decide (a=b))||(decide (a=0)))||(decide (b=0)))) O (G7 (hK2 (Gx (fin1 BL h)))))))))))))))))))))

def G77 (a:Slot) (b:Slot):Option Bool:=
 bnd (bif ((decide (a.G4=b.G4))&&(decide (a.Tier=b.Tier))) then G2b a.Half b.Half else some default) fun r3=>
 some (((decide (a.G4=b.G4))&&(decide (a.Tier=b.Tier)))&&r3)
theorem H8f (a:Slot) (b:Slot) (r:Bool) (h:G77 a b=some r):Pure Ek 33 [.agg [G0 a.G4,G0 a.Tier,U8 a.Half],.agg [G0 b.G4,G0 b.Tier,U8 b.Half]] (·=BL r):=by
 unfold G77 at h
 refine H6 [.tmp 4] Tryz.func33 O O (Jr fun hK1=>(JLh (.ptr 1097 0) (Jn (cs:=[G0 a.G4,G0 a.Tier,U8 a.Half]) 1097 O O O O O) O (JLh (.ptr 1098 0) (Jn (cs:=[G0 b.G4,G0 b.Tier,U8 b.Half]) 1098 O O O O O) O (Yv (BL false) O (G7 (hK1 (Gt [(2,.dptr [G0 a.G4,G0 a.Tier,U8 a.Half]),(3,.ptr 1098 0)] [(1098,.box 47 [G0 b.G4,G0 b.Tier,U8 b.Half])] 1097 rfl rfl rfl ⟨⟨_,rfl,.boxEq rfl rfl⟩,G⟩ rfl (by exact⟨.ptr,.conv (.same rfl),G⟩) (Gt [(2,.dptr [G0 a.G4,G0 a.Tier,U8 a.Half]),(3,.dptr [G0 b.G4,G0 b.Tier,U8 b.Half])] [] 1098 rfl rfl rfl G rfl (by exact⟨.conv (.same rfl),.ptr,G⟩) ?_))))))))
 refine Jr fun hK2=>(JLh (.dptr [G0 a.G4,G0 a.Tier,U8 a.Half]) (Gf Jy O O O) O (JLh (G0 a.G4) (Gj Gb O O O) O (JLh (.dptr [G0 b.G4,G0 b.Tier,U8 b.Half]) (Gf Jy O O O) O (JLh (G0 b.G4) (Gj Gb O O O) O (JLh (BL (decide (a.G4=b.G4))) (Q0 O O O) O (Yv (BL (decide (a.G4=b.G4))) O (JLo (.dptr [G0 a.Tier,U8 a.Half]) [] O .sct G (fun hc=>Gf Za O O O) O (JLo (G0 a.Tier) [11] O .sct ⟨Ua,G⟩ (fun hc=>Gj Gb O O O) O (JLo (.dptr [G0 b.Tier,U8 b.Half]) [] O .sct G (fun hc=>Gf Za O O O) O (JLo (G0 b.Tier) [13] O .sct ⟨Ua,G⟩ (fun hc=>Gj Gb O O O) O (JLo (BL (decide (a.Tier=b.Tier))) [12,14] O .sct ⟨Ua,Ua,G⟩ (fun hc=>Q0 O O O) O (JLh (BL ((decide (a.G4=b.G4))&&(decide (a.Tier=b.Tier)))) (Qd O O O O) O (Yv (BL ((decide (a.G4=b.G4))&&(decide (a.Tier=b.Tier)))) O ?_)))))))))))))
 refine JLo (.dptr [U8 a.Half]) [] O .sct G (fun hc=>Gf Rw O O O) O (JLo (U8 a.Half) [18] O .sct ⟨Ua,G⟩ (fun hc=>Gj Ja O O O) O (JLo (.dptr [U8 b.Half]) [] O .sct G (fun hc=>Gf Rw O O O) O (JLo (U8 b.Half) [20] O .sct ⟨Ua,G⟩ (fun hc=>Gj Ja O O O) O ?_)))
 obtain⟨r3,hr3,h⟩:=Gd h
 refine JLo (BL r3) [19,21] O .sct ⟨Ua,Ua,G⟩ (fun hc=>Gu (args:=[U8 a.Half,U8 b.Half]) O (H38 a.Half b.Half r3 (H4 hc hr3)) J54 ⟨O,O,O,O,G⟩) O (JLh (BL (((decide (a.G4=b.G4))&&(decide (a.Tier=b.Tier)))&&r3)) (Qd O O O O) O (Yv (BL (((decide (a.G4=b.G4))&&(decide (a.Tier=b.Tier)))&&r3)) O (G7 (hK2 (Gx (fin1 BL h))))))

def Gad (b:G9):Option Int:=
 bif b.High then
 (some 2896)
 else
 (some 2591)
theorem M_stow_tall_w (b:G9) (r:Int) (h:Gad b=some r):Pure Ek 102 [.agg (G9.cs b)] (·=G0 r):=by
 unfold Gad at h
 refine H6 [.tmp 2] Tryz.func102 O O (Jr fun hK1=>(JLh (.ptr 1152 0) (Jn (cs:=(G9.cs b)) 1152 O O O O O) O (Yv (G0 0) O (G7 (hK1 (Gt [(1,Ef b)] [] 1152 rfl rfl rfl G rfl (by exact⟨.ptr,G⟩) (Js fun hK2=>Jr fun hK3=>(JLh (.dptr [BL b.High,G0 b.Kilos,G0 b.Load,G0 b.Discharge,U8 b.Class,BL b.Reefer]) (Gf H84 O O O) O (JLh (BL b.High) (Gj Qv O O O) O (G7 (hK3 (JCc O h (fun h hb=>?_) (fun h hb=>?_)))))))))))))
 ·
  refine Jr fun hK4=>(Yv (G0 2896) O (G7 (hK4 (Gx (fin1 G0 h)))))
 ·
  refine Gr (hK2 (Jr fun hK5=>(Yv (G0 2591) O (G7 (hK5 (Gx (fin1 G0 h)))))))

def G2a (boxes:List G9) (l:List Stowed) (column:Int) (half:Int):Option Int:=
 each (fun y27 i27 (s27:Int) nx27=>
  jp (fun kj30=>
   bif ((decide (y27.Slot.G4=column))&&((decide (y27.Slot.Half=half))||(decide (y27.Slot.Half=0)))) then
   (bnd (Zw boxes y27.G9) fun r34=>
    bif r34.2 then
    (bnd (Gad r34.1) fun r36=>
     G0d (s27+r36) fun v37=>
     kj30 v37)
    else
    (kj30 s27))
   else
   (kj30 s27)) fun(j30:Int)=>
  nx27 j30)
 (fun(s27:Int)=>
  some s27) l 0 0
theorem H37 (boxes:List G9) (l:List Stowed) (column:Int) (half:Int) (r:Int) (h:G2a boxes l column half=some r):Pure Ek 71 [E2 boxes,E1 l,G0 column,U8 half] (·=G0 r):=by
 unfold G2a at h
 refine H6 [.tmp 8] Tryz.func71 O O (Jr fun hK1=>(Yv (G0 0) O (G7 (hK1 (Jr fun hK2=>(Yv (G0 0) O (G7 (hK2 (Js fun hK3=>Jr fun hK4=>(Yv (E1 l) O (JLl H2 O O O fun hm15=>(Yv (G0 0) O (G7 (hK4 (Gw ?_)))))))))))))))
 obtain⟨b27,kx27,hb27,hkx27,h⟩:=J0 h
 refine Hp (fun i27 (s27:Int)=>each b27 kx27 (List.drop i27 l) i27 s27=some r) (fun i27 s27=>[(0,E2 boxes),(2,G0 column),(3,U8 half),(9,G0 s27),(14,E1 l),(15,Ej l.length),(16,Ej i27)]) (fun i27 s27=>[]) (fun i27=>l.length - i27) 0 0 h ⟨(by repeat' constructor),G,rfl⟩ ?_
 clear h
 intro i27 s27 hi27 K27 e27
 refine Jr fun hK28=>(JLh (BL (decide ((i27:Int) < (l.length:Int)))) (Jb O O O) O (G7 (hK28 (Js fun hK29=>Gm O (fun hb=>?_) (fun hb=>?_)))))
 ·
  have hk27:=Jk hb
  obtain⟨y27,nx27,hy27,hn27,h⟩:=Hq hi27 hk27
  replace h:=Ya hb27 h
  refine Gr (hK29 ?_)
  obtain⟨kj30,hkj30,h⟩:=Rm h
  refine Qr (fun j30:Int=>kj30 j30=some r) (fun j30=>[(0,E2 boxes),(2,G0 column),(3,U8 half),(9,G0 j30),(14,E1 l),(15,Ej l.length),(16,Ej i27)]) (fun j30=>[]) (fun Kj30 ej30=>?_) ?_
  ·
   refine Gw (Jr fun hK31=>(JLh (Ed y27) (Hb (f:=Stowed.av) (xs:=l) (y:=y27) O O O H2 hy27 O) O (JLh (.agg (Stowed.cs y27)) (Gh R4 O O O) O (JLh (.ptr 1134 0) (Hu 1134 4 Jx O O) O (Hw (u:=.junk) (Hj (u:=.agg (Stowed.cs y27)) (ds:=[G0 y27.G9,G0 y27.Slot.G4,G0 y27.Slot.Tier,U8 y27.Slot.Half]) Rk O O O O O O O O) (G7 (hK31 (Gt [(0,E2 boxes),(2,G0 column),(3,U8 half),(9,G0 s27),(11,Ed y27),(14,E1 l),(15,Ej l.length),(16,Ej i27)] [] 1134 rfl rfl rfl G rfl (by repeat' (first | exact .ptr | constructor)) ?_))))))))
   refine Jr fun hK32=>(JLh (.dptr ((Stowed.cs y27).drop 1)) (Gf Jq O O O) O (JLh (.dptr ((Stowed.cs y27).drop 1)) (Gf Jy O O O) O (JLh (G0 y27.Slot.G4) (Gj Gb O O O) O (Yv (G0 column) O (JLh (BL (decide (y27.Slot.G4=column))) (Q0 O O O) O (Yv (BL (decide (y27.Slot.G4=column))) O (JLo (.dptr ((Stowed.cs y27).drop 1)) [] O .sct G (fun hc=>Gf Jq O O O) O (JLo (.dptr [U8 y27.Slot.Half]) [26] O .sct ⟨Ua,G⟩ (fun hc=>Gf Rw O O O) O (JLo (U8 y27.Slot.Half) [27] O .sct ⟨Ua,G⟩ (fun hc=>Gj Ja O O O) O (JLo (U8 half) [] O .sct G (fun hc=>G5 O O) O (JLo (BL (decide (y27.Slot.Half=half))) [28,29] O .sct ⟨Ua,Ua,G⟩ (fun hc=>Q0 O O O) O (JLo (BL (decide (y27.Slot.Half=half))) [30] O .sct ⟨Ua,G⟩ (fun hc=>G5 O O) O (JLo (.dptr ((Stowed.cs y27).drop 1)) [] O .optf G (fun hc=>Gf Jq O O O) O ?_)))))))))))))
   refine JLo (.dptr [U8 y27.Slot.Half]) [32] O .optf ⟨Ua,G⟩ (fun hc=>Gf Rw O O O) O (JLo (U8 y27.Slot.Half) [33] O .optf ⟨Ua,G⟩ (fun hc=>Gj Ja O O O) O (JLo (BL (decide (y27.Slot.Half=0))) [34] O .optf ⟨Ua,G⟩ (fun hc=>Q0 O O O) O (Gc (u:=BL ((decide (y27.Slot.Half=half))||(decide (y27.Slot.Half=0)))) [(31,BL (decide (y27.Slot.Half=half))),(35,_)] O O O .sct ⟨.all id,.part,G⟩ (fun hc=>Zn O O O O) ?_)))
   refine JLh (BL ((decide (y27.Slot.G4=column))&&((decide (y27.Slot.Half=half))||(decide (y27.Slot.Half=0))))) (Qd O O O O) O (G7 (hK32 (JCc O h (fun h hb=>?_) (fun h hb=>?_))))
   ·
    refine Jr fun hK33=>(Yv (E2 boxes) O (JLh (Ed y27) (Gf Hg O O O) O (JLh (G0 y27.G9) (Gj Gb O O O) O ?_)))
    obtain⟨r34,hr34,h⟩:=Gd h
    refine JLh (.tup [.agg (G9.cs r34.1),BL r34.2]) (Gu O (G61 boxes y27.G9 r34 hr34) Gd4 ⟨O,O,O,O,G⟩) O (Yv (.tup [.agg (G9.cs r34.1),BL r34.2]) O (JLh (.agg (G9.cs r34.1)) (Gn O O O) O (JLh (BL r34.2) (Gn O O O) O (JLh (.ptr 1135 0) (Hu 1135 9 Y5 O O) O (Hw (u:=.junk) (Hj (u:=.agg (G9.cs r34.1)) (ds:=(G9.cs r34.1)) G00 O O O O O O O O) (Yv (BL r34.2) O (G7 (hK33 ?_))))))))
    refine Gt [(0,E2 boxes),(2,G0 column),(3,U8 half),(9,G0 s27),(12,Ef r34.1),(13,BL r34.2),(14,E1 l),(15,Ej l.length),(16,Ej i27)] [] 1135 rfl rfl rfl G rfl (by repeat' (first | exact .ptr | constructor)) (Jr fun hK35=>(Yv (BL r34.2) O (G7 (hK35 (JCc O h (fun h hb=>?_) (fun h hb=>?_))))))
    ·
     refine G3 (Yv (G0 s27) O (JLh (.agg (G9.cs r34.1)) (Gh G49 O O O) O ?_))
     obtain⟨r36,hr36,h⟩:=Gd h
     refine JLh (G0 r36) (Gu O (M_stow_tall_w r34.1 r36 hr36) Jd9 ⟨O,O,G⟩) O ?_
     obtain⟨v37,hv37,h⟩:=Jp h
     refine JLh (G0 v37) (Hx hv37 O O O) O (Yv (G0 v37) O (G7 (ej30 _ _ v37 h ⟨(by repeat' constructor),G,rfl⟩)))
    ·
     refine Gr (ej30 _ _ s27 h ⟨(by repeat' constructor),G,rfl⟩)
   ·
    refine Gr (ej30 _ _ s27 h ⟨(by repeat' constructor),G,rfl⟩)
  ·intro j30 h
   replace h:=app1 hkj30 h
   refine G3 (JLh (G0 ((i27+1:Nat):Int)) (Hx (Ho hk27 hm15) O O O) O (Yv (G0 ((i27+1:Nat):Int)) O (G7 (e27 _ _ (i27+1) j30 (app1 hn27 h) (by omega) ⟨(by repeat' constructor),G,rfl⟩))))
 ·
  have h:=app1 hkx27 (Hr hi27 (Hc hb))
  refine Ht (hK3 (Jr fun hK38=>(Yv (G0 s27) O (Yv (G0 s27) O (G7 (hK38 (Gx (fin1 G0 h))))))))

def G3e (s:Gp) (boxes:List G9) (l:List Stowed) (column:Int):Option Bool:=
 Z2 s.Columns column fun y3=>
 bnd (bif (!(decide (y3.Height≤0))) then G2a boxes l column 1 else some default) fun r6=>
 bnd (bif ((!(decide (y3.Height≤0)))&&(decide (r6≤y3.Height))) then G2a boxes l column 2 else some default) fun r7=>
 some ((decide (y3.Height≤0))||((decide (r6≤y3.Height))&&(decide (r7≤y3.Height))))
theorem H8d (s:Gp) (boxes:List G9) (l:List Stowed) (column:Int) (r:Bool) (h:G3e s boxes l column=some r):Pure Ek 34 [.agg (Gp.cs s),E2 boxes,E1 l,G0 column] (·=BL r):=by
 unfold G3e at h
 refine H6 [.tmp 8] Tryz.func34 O O (Jr fun hK1=>(JLh (.ptr 1099 0) (Jn (cs:=(Gp.cs s)) 1099 O O O O O) O (Yv (BL false) O (G7 (hK1 (Gt [(1,E2 boxes),(2,E1 l),(3,G0 column),(4,Ec s)] [] 1099 rfl rfl rfl G rfl (by repeat' (first | exact .ptr | constructor)) ?_))))))
 refine Jr fun hK2=>(JLh (Ec s) (Gf Jc O O O) O (JLh (E3 s.Columns) (Gj Jv O O O) O (Yv (G0 column) O ?_)))
 obtain⟨m4,y3,hm4,hy3,h⟩:=Z5 h
 refine JLh (Ee y3) (Hb (f:=G4.av) (xs:=s.Columns) (y:=y3) O O O Ji hy3 hm4) O (JLh (.dptr ((G4.cs y3).drop 4)) (Gf H46 O O O) O (JLh (G0 y3.Height) (Gj Gb O O O) O (Yv (G0 y3.Height) O (G7 (hK2 (Jr fun hK5=>(Yv (G0 y3.Height) O (JLh (BL (decide (y3.Height≤0))) (He5 O O O) O (Yv (BL (decide (y3.Height≤0))) O (JLo (E2 boxes) [] O .scf G (fun hc=>G5 O O) O (JLo (E1 l) [] O .scf G (fun hc=>G5 O O) O (JLo (G0 column) [] O .scf G (fun hc=>G5 O O) O ?_))))))))))))
 obtain⟨r6,hr6,h⟩:=Gd h
 refine JLo (G0 r6) [19,20,21] O .scf ⟨Ua,Ua,Ua,G⟩ (fun hc=>Gu (args:=[E2 boxes,E1 l,G0 column,U8 1]) O (H37 boxes l column 1 r6 (H4 hc hr6)) J53 ⟨O,O,O,O,O,O,O,O,G⟩) O (JLo (G0 y3.Height) [] O .scf G (fun hc=>G5 O O) O (JLo (BL (decide (r6≤y3.Height))) [22,23] O .scf ⟨Ua,Ua,G⟩ (fun hc=>He5 O O O) O (JLo (BL (decide (r6≤y3.Height))) [24] O .scf ⟨Ua,G⟩ (fun hc=>G5 O O) O (JLo (E2 boxes) [] O .optt G (fun hc=>G5 O O) O (JLo (E1 l) [] O .optt G (fun hc=>G5 O O) O (JLo (G0 column) [] O .optt G (fun hc=>G5 O O) O ?_))))))
 obtain⟨r7,hr7,h⟩:=Gd h
 refine JLo (G0 r7) [26,27,28] O .optt ⟨Ua,Ua,Ua,G⟩ (fun hc=>Gu (args:=[E2 boxes,E1 l,G0 column,U8 2]) O (H37 boxes l column 2 r7 (H4 hc hr7)) J53 ⟨O,O,O,O,O,O,O,O,G⟩) O (JLo (G0 y3.Height) [] O .optt G (fun hc=>G5 O O) O (JLo (BL (decide (r7≤y3.Height))) [29,30] O .optt ⟨Ua,Ua,G⟩ (fun hc=>He5 O O O) O (Gc (u:=BL ((decide (r6≤y3.Height))&&(decide (r7≤y3.Height)))) [(25,BL (decide (r6≤y3.Height))),(31,_)] O O O .scf ⟨.all id,.part,G⟩ (fun hc=>Qd O O O O) ?_)))
 refine JLh (BL ((decide (y3.Height≤0))||((decide (r6≤y3.Height))&&(decide (r7≤y3.Height))))) (Zn O O O O) O (Yv (BL ((decide (y3.Height≤0))||((decide (r6≤y3.Height))&&(decide (r7≤y3.Height))))) O (G7 (hK5 (Gx (fin1 BL h)))))

def Q2 (s:Gp) (boxes:List G9) (l:List Stowed):Option Bool:=
 bnd (G4d s) fun r4=>
 bif (!r4) then
 (some false)
 else
 (bnd (G4e l) fun r7=>
  each (fun y10 i10 (s10:Unit) nx10=>
   bnd (Zw boxes y10.G9) fun r16=>
   bnd (bif ((!(!r16.2))&&(decide (0 < (i10:Int)))) then G0d ((i10:Int) - 1) some else some 0) fun v19=>
   bnd (bif ((!(!r16.2))&&(decide (0 < (i10:Int)))) then Z2 l v19 some else some default) fun y20=>
   bnd (bif (!((!r16.2)||((decide (0 < (i10:Int)))&&(decide (y10.G9≤y20.G9))))) then G51 s y10.Slot r16.1.Size else some default) fun r21=>
   bnd (bif (!(((!r16.2)||((decide (0 < (i10:Int)))&&(decide (y10.G9≤y20.G9))))||(!r21))) then G78 y10.Slot r7 else some default) fun r22=>
   bif ((((!r16.2)||((decide (0 < (i10:Int)))&&(decide (y10.G9≤y20.G9))))||(!r21))||(!r22)) then
   (some false)
   else
   (bnd (Hc6 (i10:Int) r7.length) fun m25=>
    each (fun y42 i42 (s42:Unit) nx42=>
     bnd (G77 y10.Slot y42) fun r48=>
     bif r48 then
     (some false)
     else
     (nx42 ()))
    (fun(s42:Unit)=>
     nx10 ()) (r7.take m25) 0 ()))
  (fun(s10:Unit)=>
   each (fun y64 i64 (s64:Unit) nx64=>
    bnd (G3e s boxes l (i64:Int)) fun r70=>
    bif (!r70) then
    (some false)
    else
    (nx64 ()))
   (fun(s64:Unit)=>
    some true) s.Columns 0 ()) l 0 ())
theorem Yr (s:Gp) (boxes:List G9) (l:List Stowed) (r:Bool) (h:Q2 s boxes l=some r):Pure Ek 14 [.agg (Gp.cs s),E2 boxes,E1 l] (·=BL r):=by
 unfold Q2 at h
 refine H6 [.tmp 6] Tryz.func14 O O (Jr fun hK1=>(JLh (.ptr 1036 0) (Jn (cs:=(Gp.cs s)) 1036 O O O O O) O (Yv (BL false) O (G7 (hK1 (Gt [(1,E2 boxes),(2,E1 l),(3,Ec s)] [] 1036 rfl rfl rfl G rfl (by exact⟨.conv (.same rfl),.conv (.same rfl),.ptr,G⟩) (Js fun hK2=>?_)))))))
 refine Jr fun hK3=>(JLh (.agg (Gp.cs s)) (Gh H5 O O O) O ?_)
 obtain⟨r4,hr4,h⟩:=Gd h
 refine JLh (BL r4) (Gu O (J98.down s r4 hr4) Q0a ⟨O,O,G⟩) O (JLh (BL (!r4)) (Ru (b:=r4) O O) O (G7 (hK3 (JCc O h (fun h hb=>?_) (fun h hb=>?_)))))
 ·
  refine Jr fun hK5=>(Yv (BL false) O (G7 (hK5 (Gx (fin1 BL h)))))
 ·
  refine Gr (hK2 (Jr fun hK6=>(Yv (E1 l) O ?_)))
  obtain⟨r7,hr7,h⟩:=Gd h
  refine JLh (E4 r7) (Gu O (H5c l r7 hr7) J60 ⟨O,O,G⟩) O (Yv (E4 r7) O (G7 (hK6 (Js fun hK8=>Jr fun hK9=>(Yv (E1 l) O (JLl H2 O O O fun hm21=>(Yv (G0 0) O (G7 (hK9 (Gw ?_))))))))))
  obtain⟨b10,kx10,hb10,hkx10,h⟩:=J0 h
  refine Hp (fun i10 (s10:Unit)=>each b10 kx10 (List.drop i10 l) i10 s10=some r) (fun i10 s10=>[(1,E2 boxes),(2,E1 l),(3,Ec s),(7,E4 r7),(20,E1 l),(21,Ej l.length),(22,Ej i10)]) (fun i10 s10=>[]) (fun i10=>l.length - i10) 0 () h ⟨(by repeat' constructor),G,rfl⟩ ?_
  clear h
  intro i10 s10 hi10 K10 e10
  refine Jr fun hK11=>(JLh (BL (decide ((i10:Int) < (l.length:Int)))) (Jb O O O) O (G7 (hK11 (Js fun hK12=>Gm O (fun hb=>?_) (fun hb=>?_)))))
  ·
   have hk10:=Jk hb
   obtain⟨y10,nx10,hy10,hn10,h⟩:=Hq hi10 hk10
   replace h:=Ya hb10 h
   refine Gr (hK12 (Js fun hK13=>Gw (Jr fun hK14=>(Yv (Ej i10) O (JLh (Ed y10) (Hb (f:=Stowed.av) (xs:=l) (y:=y10) O O O H2 hy10 O) O (JLh (.agg (Stowed.cs y10)) (Gh R4 O O O) O (JLh (.ptr 1037 0) (Hu 1037 4 Jx O O) O (Yv (Ej i10) O (Hw (u:=.junk) (Hj (u:=.agg (Stowed.cs y10)) (ds:=[G0 y10.G9,G0 y10.Slot.G4,G0 y10.Slot.Tier,U8 y10.Slot.Half]) Rk O O O O O O O O) (G7 (hK14 ?_)))))))))))
   refine Gt [(1,E2 boxes),(2,E1 l),(3,Ec s),(7,E4 r7),(8,Ej i10),(9,Ed y10),(20,E1 l),(21,Ej l.length),(22,Ej i10)] [] 1037 rfl rfl rfl G rfl (by repeat' (first | exact .ptr | constructor)) (Jr fun hK15=>(Yv (E2 boxes) O (JLh (Ed y10) (Gf Hg O O O) O (JLh (G0 y10.G9) (Gj Gb O O O) O ?_))))
   obtain⟨r16,hr16,h⟩:=Gd h
   refine JLh (.tup [.agg (G9.cs r16.1),BL r16.2]) (Gu O (G61 boxes y10.G9 r16 hr16) Gd4 ⟨O,O,O,O,G⟩) O (Yv (.tup [.agg (G9.cs r16.1),BL r16.2]) O (JLh (.agg (G9.cs r16.1)) (Gn O O O) O (JLh (BL r16.2) (Gn O O O) O (JLh (.ptr 1038 0) (Hu 1038 9 Y5 O O) O (Hw (u:=.junk) (Hj (u:=.agg (G9.cs r16.1)) (ds:=(G9.cs r16.1)) G00 O O O O O O O O) (Yv (BL r16.2) O (G7 (hK15 ?_))))))))
   refine Gt [(1,E2 boxes),(2,E1 l),(3,Ec s),(7,E4 r7),(8,Ej i10),(9,Ed y10),(10,Ef r16.1),(11,BL r16.2),(20,E1 l),(21,Ej l.length),(22,Ej i10)] [] 1038 rfl rfl rfl G rfl (by repeat' (first | exact .ptr | constructor)) (Js fun hK17=>Js fun hK18=>?_)
   obtain⟨v19,hv19,h⟩:=Gd h
   obtain⟨y20,hy20,h⟩:=Gd h
   obtain⟨r21,hr21,h⟩:=Gd h
   obtain⟨r22,hr22,h⟩:=Gd h
   refine JC_d0 Qg (by kernel_rfl) (Dq (BL r16.2) (G5 O O) O (Dq (BL (!r16.2)) (Ru (b:=r16.2) O O) O (Dq (BL (!r16.2)) (G5 O O) O (Do (Ej i10) [] O .scf G (fun hc=>G5 O O) O (Do (BL (decide (0 < (i10:Int)))) [37] O .scf ⟨Ua,G⟩ (fun hc=>G35 O O O) O (Do (BL (decide (0 < (i10:Int)))) [38] O .scf ⟨Ua,G⟩ (fun hc=>G5 O O) O (Do (Ed y10) [] O .optt G (fun hc=>Gf Hg O O O) O (Do (G0 y10.G9) [40] O .optt ⟨Ua,G⟩ (fun hc=>Gj Gb O O O) O (Do (E1 l) [] O .optt G (fun hc=>G5 O O) O (Do (Ej i10) [] O .optt G (fun hc=>G5 O O) O (Do (G0 v19) [43] O .optt ⟨Ua,G⟩ (fun hc=>H3d (Ga9 (H4 hc hv19)) O O O) O (Do (Ed y20) [42,44] O .optt ⟨Ua,Ua,G⟩ (fun hc=>(match Yd (H4 hc hy20) with | ⟨_,hm_,hy_⟩=>Hb (f:=Stowed.av) (xs:=l) (y:=y20) O O O H2 hy_ hm_)) O (Do (Ed y20) [45] O .optt ⟨Ua,G⟩ (fun hc=>Gf Hg O O O) O ?_)))))))))))))
   refine Do (G0 y20.G9) [46] O .optt ⟨Ua,G⟩ (fun hc=>Gj Gb O O O) O (Do (BL (decide (y10.G9≤y20.G9))) [41,47] O .optt ⟨Ua,Ua,G⟩ (fun hc=>He5 O O O) O (Dg (.opt (!(!r16.2)) (BL ((decide (0 < (i10:Int)))&&(decide (y10.G9≤y20.G9))))) (Hh [(39,BL (decide (0 < (i10:Int)))),(48,_)] O O O .scf ⟨.all id,.part,G⟩ (fun hc=>Qd O O O O) O) O (Dq (BL ((!r16.2)||((decide (0 < (i10:Int)))&&(decide (y10.G9≤y20.G9))))) (Zn O O O O) O (Dq (BL ((!r16.2)||((decide (0 < (i10:Int)))&&(decide (y10.G9≤y20.G9))))) (G5 O O) O (Do (.agg (Gp.cs s)) [] O .scf G (fun hc=>Gh H5 O O O) O (Do (.dptr ((Stowed.cs y10).drop 1)) [] O .scf G (fun hc=>Gf Jq O O O) O (Do (.agg ((Stowed.cs y10).drop 1)) [53] O .scf ⟨Ua,G⟩ (fun hc=>Gh J9 O O O) O (Do (.dptr ((G9.cs r16.1).drop 2)) [] O .scf G (fun hc=>Gf Rv O O O) O (Do (U8 r16.1.Size) [55] O .scf ⟨Ua,G⟩ (fun hc=>Gj Ja O O O) O (Do (BL r21) [52,54,56] O .scf ⟨Ua,Ua,Ua,G⟩ (fun hc=>Gu (args:=[.agg (Gp.cs s),.agg ((Stowed.cs y10).drop 1),U8 r16.1.Size]) O (H60 s y10.Slot r16.1.Size r21 (H4 hc hr21)) J5f ⟨O,O,O,O,O,O,G⟩) O (Do (BL (!r21)) [57] O .scf ⟨Ua,G⟩ (fun hc=>Ru (b:=r21) O O) O (Dq (BL (((!r16.2)||((decide (0 < (i10:Int)))&&(decide (y10.G9≤y20.G9))))||(!r21))) (Zn O O O O) O (Dq (BL (((!r16.2)||((decide (0 < (i10:Int)))&&(decide (y10.G9≤y20.G9))))||(!r21))) (G5 O O) O ?_)))))))))))))
   refine Do (.dptr ((Stowed.cs y10).drop 1)) [] O .scf G (fun hc=>Gf Jq O O O) O (Do (.agg ((Stowed.cs y10).drop 1)) [61] O .scf ⟨Ua,G⟩ (fun hc=>Gh J9 O O O) O (Do (E4 r7) [] O .scf G (fun hc=>G5 O O) O (Do (BL r22) [62,63] O .scf ⟨Ua,Ua,G⟩ (fun hc=>Gu (args:=[.agg ((Stowed.cs y10).drop 1),E4 r7]) O (H90 y10.Slot r7 r22 (H4 hc hr22)) J5e ⟨O,O,O,O,G⟩) O (Do (BL (!r22)) [64] O .scf ⟨Ua,G⟩ (fun hc=>Ru (b:=r22) O O) O (Dq (BL ((((!r16.2)||((decide (0 < (i10:Int)))&&(decide (y10.G9≤y20.G9))))||(!r21))||(!r22))) (Zn O O O O) O (Dnil (hK18 (JCc O h (fun h hb=>?_) (fun h hb=>?_)))))))))
   ·
    refine Jr fun hK23=>(Yv (BL false) O (G7 (hK23 (Gx (fin1 BL h)))))
   ·
    refine Gr (hK17 (Jr fun hK24=>(Yv (E4 r7) O (Yv (Ej i10) O ?_))))
    obtain⟨m25,hm25,h⟩:=Gd h
    refine JLh (E4 (r7.take m25)) (Hb0 (f:=Slot.av) (xs:=r7) O O O J2 (H0f hm25)) O (JLl J2 O O O fun hm70=>(Yv (G0 0) O (G7 (hK24 (Gw ?_)))))
    obtain⟨b42,kx42,hb42,hkx42,h⟩:=J0 h
    refine Hp (fun i42 (s42:Unit)=>each b42 kx42 (List.drop i42 (r7.take m25)) i42 s42=some r) (fun i42 s42=>[(1,E2 boxes),(2,E1 l),(3,Ec s),(7,E4 r7),(9,Ed y10),(20,E1 l),(21,Ej l.length),(22,Ej i10),(69,E4 (r7.take m25)),(70,G0 ((r7.take m25).length:Int)),(71,Ej i42)]) (fun i42 s42=>[]) (fun i42=>(r7.take m25).length - i42) 0 () h ⟨(by repeat' constructor),G,rfl⟩ ?_
    clear h
    intro i42 s42 hi42 K42 e42
    refine Jr fun hK43=>(JLh (BL (decide ((i42:Int) < ((r7.take m25).length:Int)))) (Jb O O O) O (G7 (hK43 (Js fun hK44=>Gm O (fun hb=>?_) (fun hb=>?_)))))
    ·
     have hk42:=Jk hb
     obtain⟨y42,nx42,hy42,hn42,h⟩:=Hq hi42 hk42
     replace h:=Ya hb42 h
     refine Gr (hK44 (Js fun hK45=>Gw (Jr fun hK46=>(JLh (Eh y42) (Hb (f:=Slot.av) (xs:=(r7.take m25)) (y:=y42) O O O J2 hy42 O) O (JLh (.agg (Slot.cs y42)) (Gh J9 O O O) O (JLh (.ptr 1039 0) (Hu 1039 3 Y6 O O) O (Hw (u:=.junk) (Hj (u:=.agg (Slot.cs y42)) (ds:=[G0 y42.G4,G0 y42.Tier,U8 y42.Half]) G37 O O O O O O O O) (G7 (hK46 ?_)))))))))
     refine Gt [(1,E2 boxes),(2,E1 l),(3,Ec s),(7,E4 r7),(9,Ed y10),(13,Eh y42),(20,E1 l),(21,Ej l.length),(22,Ej i10),(69,E4 (r7.take m25)),(70,G0 ((r7.take m25).length:Int)),(71,Ej i42)] [] 1039 rfl rfl rfl G rfl (by repeat' (first | exact .ptr | constructor)) ?_
     refine Jr fun hK47=>(JLh (.dptr ((Stowed.cs y10).drop 1)) (Gf Jq O O O) O (JLh (.agg ((Stowed.cs y10).drop 1)) (Gh J9 O O O) O (JLh (.agg (Slot.cs y42)) (Gh J9 O O O) O ?_)))
     obtain⟨r48,hr48,h⟩:=Gd h
     refine JLh (BL r48) (Gu O (H8f y10.Slot y42 r48 hr48) J5d ⟨O,O,O,O,G⟩) O (G7 (hK47 (JCc O h (fun h hb=>?_) (fun h hb=>?_))))
     ·
      refine Jr fun hK49=>(Yv (BL false) O (G7 (hK49 (Gx (fin1 BL h)))))
     ·
      refine Gr (hK45 (G3 (JLh (G0 ((i42+1:Nat):Int)) (Hx (Ho hk42 hm70) O O O) O (Yv (G0 ((i42+1:Nat):Int)) O (G7 (e42 _ _ (i42+1) () (app1 hn42 h) (by omega) ⟨(by repeat' constructor),G,rfl⟩))))))
    ·
     have h:=app1 hkx42 (Hr hi42 (Hc hb))
     refine Ht (hK13 (G3 (JLh (G0 ((i10+1:Nat):Int)) (Hx (Ho hk10 hm21) O O O) O (Yv (G0 ((i10+1:Nat):Int)) O (G7 (e10 _ _ (i10+1) () (app1 hn10 h) (by omega) ⟨(by repeat' constructor),G,rfl⟩))))))
  ·
   have h:=app1 hkx10 (Hr hi10 (Hc hb))
   refine Ht (hK8 (Js fun hK50=>Jr fun hK51=>(JLh (Ec s) (Gf Jc O O O) O (JLh (E3 s.Columns) (Gj Jv O O O) O (JLl Ji O O O fun hm83=>(Yv (G0 0) O (G7 (hK51 (Gw ?_)))))))))
   obtain⟨b64,kx64,hb64,hkx64,h⟩:=J0 h
   refine Hp (fun i64 (s64:Unit)=>each b64 kx64 (List.drop i64 s.Columns) i64 s64=some r) (fun i64 s64=>[(1,E2 boxes),(2,E1 l),(3,Ec s),(83,Ej s.Columns.length),(84,Ej i64)]) (fun i64 s64=>[]) (fun i64=>s.Columns.length - i64) 0 () h ⟨(by repeat' constructor),G,rfl⟩ ?_
   clear h
   intro i64 s64 hi64 K64 e64
   refine Jr fun hK65=>(JLh (BL (decide ((i64:Int) < (s.Columns.length:Int)))) (Jb O O O) O (G7 (hK65 (Js fun hK66=>Gm O (fun hb=>?_) (fun hb=>?_)))))
   ·
    have hk64:=Jk hb
    obtain⟨y64,nx64,hy64,hn64,h⟩:=Hq hi64 hk64
    replace h:=Ya hb64 h
    refine Gr (hK66 (Js fun hK67=>Gw (Jr fun hK68=>(Yv (Ej i64) O (Yv (Ej i64) O (G7 (hK68 (Jr fun hK69=>(JLh (.agg (Gp.cs s)) (Gh H5 O O O) O (Yv (E2 boxes) O (Yv (E1 l) O (Yv (Ej i64) O ?_))))))))))))
    obtain⟨r70,hr70,h⟩:=Gd h
    refine JLh (BL r70) (Gu O (H8d s boxes l (i64:Int) r70 hr70) J5c ⟨O,O,O,O,O,O,O,O,G⟩) O (JLh (BL (!r70)) (Ru (b:=r70) O O) O (G7 (hK69 (JCc O h (fun h hb=>?_) (fun h hb=>?_)))))
    ·
     refine Jr fun hK71=>(Yv (BL false) O (G7 (hK71 (Gx (fin1 BL h)))))
    ·
     refine Gr (hK67 (G3 (JLh (G0 ((i64+1:Nat):Int)) (Hx (Ho hk64 hm83) O O O) O (Yv (G0 ((i64+1:Nat):Int)) O (G7 (e64 _ _ (i64+1) () (app1 hn64 h) (by omega) ⟨(by repeat' constructor),G,rfl⟩))))))
   ·
    have h:=app1 hkx64 (Hr hi64 (Hc hb))
    refine Ht (hK50 (Jr fun hK72=>(Yv (BL true) O (G7 (hK72 (Gx (fin1 BL h)))))))

def Qp (s:Gp) (boxes:List G9) (l:List Stowed) (open_:List Int):Option Bool:=
 each (fun y22 i22 (s22:Unit) nx22=>
  bnd (bif ((!((decide (y22 < 0))||(decide ((s.Covers.length:Int)≤y22))))&&(decide (0 < (i22:Int)))) then G0d ((i22:Int) - 1) some else some 0) fun v28=>
  bnd (bif ((!((decide (y22 < 0))||(decide ((s.Covers.length:Int)≤y22))))&&(decide (0 < (i22:Int)))) then Z2 open_ v28 some else some default) fun y29=>
  bif (((decide (y22 < 0))||(decide ((s.Covers.length:Int)≤y22)))||((decide (0 < (i22:Int)))&&(decide (y22≤y29)))) then
  (some false)
  else
  (nx22 ()))
 (fun(s22:Unit)=>
  bnd (Q2 s boxes l) fun r32=>
  some r32) open_ 0 ()
theorem G50 (s:Gp) (boxes:List G9) (l:List Stowed) (open_:List Int) (r:Bool) (h:Qp s boxes l open_=some r):Pure Ek 39 [.agg (Gp.cs s),E2 boxes,E1 l,E0 open_] (·=BL r):=by
 unfold Qp at h
 refine H6 [.tmp 8] Tryz.func39 O O (Jr fun hK1=>(JLh (.ptr 1106 0) (Jn (cs:=(Gp.cs s)) 1106 O O O O O) O (Yv (BL false) O (G7 (hK1 (Gt [(1,E2 boxes),(2,E1 l),(3,E0 open_),(4,Ec s)] [] 1106 rfl rfl rfl G rfl (by repeat' (first | exact .ptr | constructor)) (Js fun hK2=>?_)))))))
 refine Jr fun hK3=>(Yv (E0 open_) O (JLl Gq O O O fun hm12=>(Yv (G0 0) O (G7 (hK3 (Gw ?_))))))
 obtain⟨b22,kx22,hb22,hkx22,h⟩:=J0 h
 refine Hp (fun i22 (s22:Unit)=>each b22 kx22 (List.drop i22 open_) i22 s22=some r) (fun i22 s22=>[(1,E2 boxes),(2,E1 l),(3,E0 open_),(4,Ec s),(11,E0 open_),(12,Ej open_.length),(13,Ej i22)]) (fun i22 s22=>[]) (fun i22=>open_.length - i22) 0 () h ⟨(by repeat' constructor),G,rfl⟩ ?_
 clear h
 intro i22 s22 hi22 K22 e22
 refine Jr fun hK23=>(JLh (BL (decide ((i22:Int) < (open_.length:Int)))) (Jb O O O) O (G7 (hK23 (Js fun hK24=>Gm O (fun hb=>?_) (fun hb=>?_)))))
 ·
  have hk22:=Jk hb
  obtain⟨y22,nx22,hy22,hn22,h⟩:=Hq hi22 hk22
  replace h:=Ya hb22 h
  refine Gr (hK24 (Js fun hK25=>Gw (Jr fun hK26=>(Yv (Ej i22) O (JLh (.dptr [G0 y22]) (Hb (f:=G0) (xs:=open_) (y:=y22) O O O Gq hy22 O) O (JLh (G0 y22) (Gj Gb O O O) O (Yv (Ej i22) O (Yv (G0 y22) O (G7 (hK26 ?_))))))))))
  refine Jr fun hK27=>(Yv (G0 y22) O (JLh (BL (decide (y22 < 0))) (Jb O O O) O (Yv (BL (decide (y22 < 0))) O (JLo (G0 y22) [] O .scf G (fun hc=>G5 O O) O (JLo (.dptr [E8 s.Covers,G0 s.Light.Kilos,G0 s.Light.X,G0 s.Light.Y,G0 s.Light.Z,E5 s.Rows,E6 s.Frames,E7 s.Tanks,G0 s.G2.Tolerance,G0 s.G2.Trim,G0 s.G2.List_,G0 s.G2.Stability]) [] O .scf G (fun hc=>Gf R3 O O O) O (JLo (E8 s.Covers) [22] O .scf ⟨Ua,G⟩ (fun hc=>Gj Yi O O O) O (JLo (Ej s.Covers.length) [23] O .scf ⟨Ua,G⟩ (fun hc=>Zj (f:=Ga.av) (xs:=s.Covers) R0 O O) O (JLo (BL (decide ((s.Covers.length:Int)≤y22))) [21,24] O .scf ⟨Ua,Ua,G⟩ (fun hc=>Gb4 O O O) O (JLh (BL ((decide (y22 < 0))||(decide ((s.Covers.length:Int)≤y22)))) (Zn O O O O) O (Yv (BL ((decide (y22 < 0))||(decide ((s.Covers.length:Int)≤y22)))) O (JLo (Ej i22) [] O .scf G (fun hc=>G5 O O) O (JLo (BL (decide (0 < (i22:Int)))) [28] O .scf ⟨Ua,G⟩ (fun hc=>G35 O O O) O (JLo (BL (decide (0 < (i22:Int)))) [29] O .scf ⟨Ua,G⟩ (fun hc=>G5 O O) O ?_)))))))))))))
  refine JLo (G0 y22) [] O .optt G (fun hc=>G5 O O) O (JLo (E0 open_) [] O .optt G (fun hc=>G5 O O) O (JLo (Ej i22) [] O .optt G (fun hc=>G5 O O) O ?_))
  obtain⟨v28,hv28,h⟩:=Gd h
  refine JLo (G0 v28) [33] O .optt ⟨Ua,G⟩ (fun hc=>H3d (Ga9 (H4 hc hv28)) O O O) O ?_
  obtain⟨y29,hy29,h⟩:=Gd h
  refine JLo (.dptr [G0 y29]) [32,34] O .optt ⟨Ua,Ua,G⟩ (fun hc=>(match Yd (H4 hc hy29) with | ⟨_,hm_,hy_⟩=>Hb (f:=G0) (xs:=open_) (y:=y29) O O O Gq hy_ hm_)) O (JLo (G0 y29) [35] O .optt ⟨Ua,G⟩ (fun hc=>Gj Gb O O O) O (JLo (BL (decide (y22≤y29))) [31,36] O .optt ⟨Ua,Ua,G⟩ (fun hc=>He5 O O O) O (Gc (u:=BL ((decide (0 < (i22:Int)))&&(decide (y22≤y29)))) [(30,BL (decide (0 < (i22:Int)))),(37,_)] O O O .scf ⟨.all id,.part,G⟩ (fun hc=>Qd O O O O) ?_)))
  refine JLh (BL (((decide (y22 < 0))||(decide ((s.Covers.length:Int)≤y22)))||((decide (0 < (i22:Int)))&&(decide (y22≤y29))))) (Zn O O O O) O (G7 (hK27 (JCc O h (fun h hb=>?_) (fun h hb=>?_))))
  ·
   refine Jr fun hK30=>(Yv (BL false) O (G7 (hK30 (Gx (fin1 BL h)))))
  ·
   refine Gr (hK25 (G3 (JLh (G0 ((i22+1:Nat):Int)) (Hx (Ho hk22 hm12) O O O) O (Yv (G0 ((i22+1:Nat):Int)) O (G7 (e22 _ _ (i22+1) () (app1 hn22 h) (by omega) ⟨(by repeat' constructor),G,rfl⟩))))))
 ·
  have h:=app1 hkx22 (Hr hi22 (Hc hb))
  refine Ht (hK2 (Jr fun hK31=>(JLh (.agg (Gp.cs s)) (Gh H5 O O O) O (Yv (E2 boxes) O (Yv (E1 l) O ?_)))))
  obtain⟨r32,hr32,h⟩:=Gd h
  refine JLh (BL r32) (Gu O (Yr s boxes l r32 hr32) G39 ⟨O,O,O,O,O,O,G⟩) O (Yv (BL r32) O (G7 (hK31 (Gx (fin1 BL h)))))

def G60 (x:Stowed) (p1:Int):Option Bool:=
 some (decide (x.G9=p1))
theorem J2e (x:Stowed) (p1:Int) (r:Bool) (h:G60 x p1=some r):Pure Ek 75 [.agg (Stowed.cs x),.dptr [G0 p1]] (·=BL r):=by
 unfold G60 at h
 refine H6 [.tmp 3] Tryz.func75 O O (Jr fun hK1=>(JLh (.ptr 1139 0) (Jn (cs:=[G0 x.G9,G0 x.Slot.G4,G0 x.Slot.Tier,U8 x.Slot.Half]) 1139 O O O O O) O (Yv (BL false) O (G7 (hK1 (Gt [(1,.dptr [G0 p1]),(2,Ed x)] [] 1139 rfl rfl rfl G rfl (by exact⟨.conv (.same rfl),.ptr,G⟩) (Jr fun hK2=>(JLh (Ed x) (Gf Hg O O O) O (JLh (G0 x.G9) (Gj Gb O O O) O (JLh (G0 p1) (Gj Gb O O O) O (JLh (BL (decide (x.G9=p1))) (Q0 O O O) O (Yv (BL (decide (x.G9=p1))) O (G7 (hK2 (Gx (fin1 BL h))))))))))))))))

def Q5 (s:List Stowed) (f:Stowed→Option Bool):Option Int:=
 each (fun y20 i20 (s20:Unit) nx20=>
  bnd (f y20) fun r26=>
  bif r26 then
  (some (i20:Int))
  else
  (nx20 ()))
 (fun(s20:Unit)=>
  some (-1)) s 0 ()
theorem G11 (s:List Stowed) (f:Stowed→Option Bool) (f_f:FuncId) (f_c:List AV) (f_B:Hk Ek f_f=true) (f_d:Yp (fun _=>false) f_c=true) (f_w:∀ a0 q,f a0=some q→Pure Ek f_f ([.agg (Stowed.cs a0)]++f_c) (·=BL q)) (r:Int) (h:Q5 s f=some r):Pure Ek 74 [E1 s,.fn f_f f_c] (·=G0 r):=by
 unfold Q5 at h
 refine H6 [.tmp 4] Tryz.func74 O O (Jr fun hK1=>(Yv (G0 0) O (G7 (hK1 (Js fun hK2=>Jr fun hK3=>(Yv (E1 s) O (JLl H2 O O O fun hm7=>(Yv (G0 0) O (G7 (hK3 (Gw ?_)))))))))))
 obtain⟨b20,kx20,hb20,hkx20,h⟩:=J0 h
 refine Hp (fun i20 (s20:Unit)=>each b20 kx20 (List.drop i20 s) i20 s20=some r) (fun i20 s20=>[(0,E1 s),(1,.fn f_f f_c),(7,Ej s.length),(8,Ej i20)]) (fun i20 s20=>[]) (fun i20=>s.length - i20) 0 () h ⟨⟨.same O,.same (Q8 _ _ f_d),.same O,.same O,G⟩,G,O⟩ ?_
 clear h
 intro i20 s20 hi20 K20 e20
 refine Jr fun hK21=>(JLh (BL (decide ((i20:Int) < (s.length:Int)))) (Jb O O O) O (G7 (hK21 (Js fun hK22=>Gm O (fun hb=>?_) (fun hb=>?_)))))
 ·
  have hk20:=Jk hb
  obtain⟨y20,nx20,hy20,hn20,h⟩:=Hq hi20 hk20
  replace h:=Ya hb20 h
  refine Gr (hK22 (Js fun hK23=>Gw (Jr fun hK24=>(Yv (Ej i20) O (Yv (Ej i20) O (G7 (hK24 (Jr fun hK25=>(Yv (.fn f_f f_c) O (Yv (E1 s) O (Yv (Ej i20) O (JLh (Ed y20) (Hb (f:=Stowed.av) (xs:=s) (y:=y20) O O O H2 hy20 O) O (JLh (.agg (Stowed.cs y20)) (Gh R4 O O O) O ?_)))))))))))))
  obtain⟨r26,hr26,h⟩:=Gd h
  refine JLh (BL r26) (G46 (args:=[.agg (Stowed.cs y20)]) (caps:=f_c) O O (f_w y20 _ hr26) f_B ⟨O,O,G⟩ f_d) O (G7 (hK25 (JCc O h (fun h hb=>?_) (fun h hb=>?_))))
  ·
   refine Jr fun hK27=>(Yv (Ej i20) O (Yv (Ej i20) O (G7 (hK27 (Gx (fin1 G0 h))))))
  ·
   refine Gr (hK23 (G3 (JLh (G0 ((i20+1:Nat):Int)) (Hx (Ho hk20 hm7) O O O) O (Yv (G0 ((i20+1:Nat):Int)) O (G7 (e20 _ _ (i20+1) () (app1 hn20 h) (by omega) ⟨⟨.same rfl,.same (Q8 _ _ f_d),.same rfl,.same rfl,G⟩,G,rfl⟩))))))
 ·
  have h:=app1 hkx20 (Hr hi20 (Hc hb))
  refine Ht (hK2 (Jr fun hK28=>(Yv (G0 (-1)) O (G7 (hK28 (Gx (fin1 G0 h)))))))

def Rq (l:List Stowed) (id_:Int):Option Int:=
 bnd (Q5 l (fun z0=>G60 z0 id_)) fun r3=>
 some r3
theorem G29 (l:List Stowed) (id_:Int) (r:Int) (h:Rq l id_=some r):Pure Ek 40 [E1 l,G0 id_] (·=G0 r):=by
 unfold Rq at h
 refine H6 [.tmp 4] Tryz.func40 O O (Jr fun hK1=>(JLh (.ptr 1107 0) (Jn (cs:=[G0 id_]) 1107 O O O O O) O (Yv (G0 0) O (G7 (hK1 (Gt [(0,E1 l),(3,.dptr [G0 id_])] [] 1107 rfl rfl rfl G rfl (by exact⟨.conv (.same rfl),.ptr,G⟩) (Jr fun hK2=>(Yv (E1 l) O (JLh (.fn 75 [.dptr [G0 id_]]) (Yg (cs:=[.dptr [G0 id_]]) O O) O ?_)))))))))
 obtain⟨r3,hr3,h⟩:=Gd h
 refine JLh (G0 r3) (Gu O (G11 l (fun z0=>G60 z0 id_) 75 [.dptr [G0 id_]] Jf4 O (fun z0 q hq=>J2e z0 id_ q hq) r3 hr3) J52 ⟨O,O,O,O,G⟩) O (Yv (G0 r3) O (G7 (hK2 (Gx (fin1 G0 h)))))

def Gaf (a:Slot) (b:Slot):Option Bool:=
 bnd (bif ((decide (a.G4=b.G4))&&(decide (b.Tier < a.Tier))) then G2b a.Half b.Half else some default) fun r3=>
 some (((decide (a.G4=b.G4))&&(decide (b.Tier < a.Tier)))&&r3)
theorem M_slot_Over_w (a:Slot) (b:Slot) (r:Bool) (h:Gaf a b=some r):Pure Ek 87 [.agg [G0 a.G4,G0 a.Tier,U8 a.Half],.agg [G0 b.G4,G0 b.Tier,U8 b.Half]] (·=BL r):=by
 unfold Gaf at h
 refine H6 [.tmp 4] Tryz.func87 O O (Jr fun hK1=>(JLh (.ptr 1148 0) (Jn (cs:=[G0 a.G4,G0 a.Tier,U8 a.Half]) 1148 O O O O O) O (JLh (.ptr 1149 0) (Jn (cs:=[G0 b.G4,G0 b.Tier,U8 b.Half]) 1149 O O O O O) O (Yv (BL false) O (G7 (hK1 (Gt [(2,.dptr [G0 a.G4,G0 a.Tier,U8 a.Half]),(3,.ptr 1149 0)] [(1149,.box 47 [G0 b.G4,G0 b.Tier,U8 b.Half])] 1148 rfl rfl rfl ⟨⟨_,rfl,.boxEq rfl rfl⟩,G⟩ rfl (by exact⟨.ptr,.conv (.same rfl),G⟩) (Gt [(2,.dptr [G0 a.G4,G0 a.Tier,U8 a.Half]),(3,.dptr [G0 b.G4,G0 b.Tier,U8 b.Half])] [] 1149 rfl rfl rfl G rfl (by exact⟨.conv (.same rfl),.ptr,G⟩) ?_))))))))
 refine Jr fun hK2=>(JLh (.dptr [G0 a.G4,G0 a.Tier,U8 a.Half]) (Gf Jy O O O) O (JLh (G0 a.G4) (Gj Gb O O O) O (JLh (.dptr [G0 b.G4,G0 b.Tier,U8 b.Half]) (Gf Jy O O O) O (JLh (G0 b.G4) (Gj Gb O O O) O (JLh (BL (decide (a.G4=b.G4))) (Q0 O O O) O (Yv (BL (decide (a.G4=b.G4))) O (JLo (.dptr [G0 a.Tier,U8 a.Half]) [] O .sct G (fun hc=>Gf Za O O O) O (JLo (G0 a.Tier) [11] O .sct ⟨Ua,G⟩ (fun hc=>Gj Gb O O O) O (JLo (.dptr [G0 b.Tier,U8 b.Half]) [] O .sct G (fun hc=>Gf Za O O O) O (JLo (G0 b.Tier) [13] O .sct ⟨Ua,G⟩ (fun hc=>Gj Gb O O O) O (JLo (BL (decide (b.Tier < a.Tier))) [12,14] O .sct ⟨Ua,Ua,G⟩ (fun hc=>G35 O O O) O (JLh (BL ((decide (a.G4=b.G4))&&(decide (b.Tier < a.Tier)))) (Qd O O O O) O (Yv (BL ((decide (a.G4=b.G4))&&(decide (b.Tier < a.Tier)))) O ?_)))))))))))))
 refine JLo (.dptr [U8 a.Half]) [] O .sct G (fun hc=>Gf Rw O O O) O (JLo (U8 a.Half) [18] O .sct ⟨Ua,G⟩ (fun hc=>Gj Ja O O O) O (JLo (.dptr [U8 b.Half]) [] O .sct G (fun hc=>Gf Rw O O O) O (JLo (U8 b.Half) [20] O .sct ⟨Ua,G⟩ (fun hc=>Gj Ja O O O) O ?_)))
 obtain⟨r3,hr3,h⟩:=Gd h
 refine JLo (BL r3) [19,21] O .sct ⟨Ua,Ua,G⟩ (fun hc=>Gu (args:=[U8 a.Half,U8 b.Half]) O (H38 a.Half b.Half r3 (H4 hc hr3)) J54 ⟨O,O,O,O,G⟩) O (JLh (BL (((decide (a.G4=b.G4))&&(decide (b.Tier < a.Tier)))&&r3)) (Qd O O O O) O (Yv (BL (((decide (a.G4=b.G4))&&(decide (b.Tier < a.Tier)))&&r3)) O (G7 (hK2 (Gx (fin1 BL h))))))

def G1e (l:List Stowed) (id_:Int):Option ((List Int)×Int):=
 bnd (Rq l id_) fun r3=>
 bif decide (r3 < 0) then
 (some ([],6))
 else
 (each (fun y30 i30 (s30:(List Int)) nx30=>
   jp (fun kj33=>
    Z2 l r3 fun y36=>
    bnd (Gaf y30.Slot y36.Slot) fun r38=>
    bif r38 then
    (need (decide ((s30.length+[y30.G9].length)*8≤140737488355328∧s30.length+[y30.G9].length≤maxLen)) <|
     kj33 (s30++[y30.G9]))
    else
    (kj33 s30)) fun(j33:(List Int))=>
   nx30 j33)
  (fun(s30:(List Int))=>
   some (s30,0)) l 0 [])
theorem H5f (l:List Stowed) (id_:Int) (r:(List Int)×Int) (h:G1e l id_=some r):Pure Ek 55 [E1 l,G0 id_] (·=.tup [E0 r.1,G0 r.2]):=by
 unfold G1e at h
 refine H6 [.tmp 4,.tmp 5] Tryz.func55 O O (Jr fun hK1=>(JLh (E0 ([]:List Int)) (Hf 1 O O) O (Yv (G0 0) O (G7 (hK1 (Jr fun hK2=>(Yv (E1 l) O (Yv (G0 id_) O ?_))))))))
 obtain⟨r3,hr3,h⟩:=Gd h
 refine JLh (G0 r3) (Gu O (G29 l id_ r3 hr3) G93 ⟨O,O,O,O,G⟩) O (Yv (G0 r3) O (G7 (hK2 (Js fun hK4=>Jr fun hK5=>(Yv (G0 r3) O (JLh (BL (decide (r3 < 0))) (Jb O O O) O (G7 (hK5 (JCc O h (fun h hb=>?_) (fun h hb=>?_))))))))))
 ·
  refine Jr fun hK6=>(JLh (E0 ([]:List Int)) (Hf 1 O O) O (Yv (G0 6) O (G7 (hK6 (Gx (⟨[E0 ([]:List Int),G0 6],[],G,O,⟨⟨_,O,.conv (.same O)⟩,⟨_,O,.conv (.same O)⟩,G⟩,O,congrArg (fun r:(List Int)×Int=>(.tup [E0 r.1,G0 r.2]:AV)) (Option.some.inj h)⟩))))))
 ·
  refine Gr (hK4 (Jr fun hK7=>(JLh (OW 1127 1 G0 ([]:List Int)) (G45 1127 3 1 O O O) O (G7 (hK7 (Js fun hK8=>Jr fun hK9=>(Yv (E1 l) O (JLl H2 O O O fun hm16=>(Yv (G0 0) O (G7 (hK9 (Gw ?_))))))))))))
  obtain⟨b30,kx30,hb30,hkx30,h⟩:=J0 h
  refine Hp (fun i30 (s30:(List Int))=>each b30 kx30 (List.drop i30 l) i30 s30=some r) (fun i30 s30=>[(0,E1 l),(6,G0 r3),(7,OW 1127 1 G0 s30),(15,E1 l),(16,Ej l.length),(17,Ej i30)]) (fun i30 s30=>[(1127,.spare 3 1 s30.length s30.length)]) (fun i30=>l.length - i30) 0 [] h ⟨(by repeat' constructor),⟨⟨_,rfl,.same⟩,G⟩,rfl⟩ ?_
  clear h
  intro i30 s30 hi30 K30 e30
  refine Jr fun hK31=>(JLh (BL (decide ((i30:Int) < (l.length:Int)))) (Jb O O O) O (G7 (hK31 (Js fun hK32=>Gm O (fun hb=>?_) (fun hb=>?_)))))
  ·
   have hk30:=Jk hb
   obtain⟨y30,nx30,hy30,hn30,h⟩:=Hq hi30 hk30
   replace h:=Ya hb30 h
   refine Gr (hK32 ?_)
   obtain⟨kj33,hkj33,h⟩:=Rm h
   refine Qr (fun j33:(List Int)=>kj33 j33=some r) (fun j33=>[(0,E1 l),(6,G0 r3),(7,OW 1127 1 G0 j33),(15,E1 l),(16,Ej l.length),(17,Ej i30)]) (fun j33=>[(1127,.spare 3 1 j33.length j33.length)]) (fun Kj33 ej33=>?_) ?_
   ·
    refine Gw (Jr fun hK34=>(JLh (Ed y30) (Hb (f:=Stowed.av) (xs:=l) (y:=y30) O O O H2 hy30 O) O (JLh (.agg (Stowed.cs y30)) (Gh R4 O O O) O (JLh (.ptr 1128 0) (Hu 1128 4 Jx O O) O (Hw (u:=.junk) (Hj (u:=.agg (Stowed.cs y30)) (ds:=[G0 y30.G9,G0 y30.Slot.G4,G0 y30.Slot.Tier,U8 y30.Slot.Half]) Rk O O O O O O O O) (G7 (hK34 (Gt [(0,E1 l),(6,G0 r3),(7,OW 1127 1 G0 s30),(9,Ed y30),(15,E1 l),(16,Ej l.length),(17,Ej i30)] [(1127,.spare 3 1 s30.length s30.length)] 1128 rfl rfl rfl ⟨⟨_,rfl,.same⟩,G⟩ rfl (by repeat' (first | exact .ptr | constructor)) (Js fun hK35=>?_)))))))))
    refine Yk (l':=[(0,E1 l),(6,G0 r3),(7,OW 1127 1 G0 s30),(9,Ed y30),(15,E1 l),(16,Ej l.length),(17,Ej i30)]) (L':=[(1127,.spare 3 1 s30.length s30.length)]) ⟨(by repeat' constructor),⟨⟨_,rfl,.same⟩,G⟩,rfl⟩ ?_
    obtain⟨m37,y36,hm37,hy36,h⟩:=Z5 h
    obtain⟨r38,hr38,h⟩:=Gd h
    refine JC_d0 Qg (by kernel_rfl) (Dq (.dptr ((Stowed.cs y30).drop 1)) (Gf Jq O O O) O (Dq (.agg ((Stowed.cs y30).drop 1)) (Gh J9 O O O) O (Dq (E1 l) (G5 O O) O (Dq (G0 r3) (G5 O O) O (Dq (Ed y36) (Hb (f:=Stowed.av) (xs:=l) (y:=y36) O O O H2 hy36 hm37) O (Dq (.dptr ((Stowed.cs y36).drop 1)) (Gf Jq O O O) O (Dq (.agg ((Stowed.cs y36).drop 1)) (Gh J9 O O O) O (Dq (BL r38) (Gu (args:=[.agg ((Stowed.cs y30).drop 1),.agg ((Stowed.cs y36).drop 1)]) O (M_slot_Over_w y30.Slot y36.Slot r38 hr38) Jed ⟨O,O,O,O,G⟩) O (Dnil (hK35 (JCc O h (fun h hb=>?_) (fun h hb=>?_))))))))))))
    ·
     refine G3 (Yv (OW 1127 1 G0 s30) O (JLh (Ed y30) (Gf Hg O O O) O (JLh (G0 y30.G9) (Gj Gb O O O) O (JLh (E0 [y30.G9]) (H9 (xs:=[G0 y30.G9]) O ⟨O,O,G⟩ Gq Q1 O O O O) O ?_))))
     obtain⟨ha39,h⟩:=J7 h
     refine JLh (OW 1127 1 G0 (s30++[y30.G9])) (Rc (f:=G0) (xs:=s30) (ys:=[y30.G9]) O O O O Gq Zp ha39 (fun _=>O) (.inl O) O) O (Yv (OW 1127 1 G0 (s30++[y30.G9])) O (G7 (ej33 _ _ (s30++[y30.G9]) h ⟨(by repeat' constructor),⟨⟨_,rfl,.same⟩,G⟩,rfl⟩)))
    ·
     refine Gr (ej33 _ _ s30 h ⟨(by repeat' constructor),⟨⟨_,rfl,.same⟩,G⟩,rfl⟩)
   ·intro j33 h
    replace h:=app1 hkj33 h
    refine G3 (JLh (G0 ((i30+1:Nat):Int)) (Hx (Ho hk30 hm16) O O O) O (Yv (G0 ((i30+1:Nat):Int)) O (G7 (e30 _ _ (i30+1) j33 (app1 hn30 h) (by omega) ⟨(by repeat' constructor),⟨⟨_,rfl,.same⟩,G⟩,rfl⟩))))
  ·
   have h:=app1 hkx30 (Hr hi30 (Hc hb))
   refine Ht (hK8 (Jr fun hK40=>(Yv (OW 1127 1 G0 s30) O (Yv (OW 1127 1 G0 s30) O (Yv (G0 0) O (G7 (hK40 (Gx (⟨[E0 s30,G0 0],[],G,O,⟨⟨_,O,.conv (.list O)⟩,⟨_,O,.conv (.same O)⟩,G⟩,O,congrArg (fun r:(List Int)×Int=>(.tup [E0 r.1,G0 r.2]:AV)) (Option.some.inj h)⟩)))))))))

def G24 (r_:Int) (p1:G4):Option Bool:=
 some (decide (r_=p1.Row))
theorem Hda (r_:Int) (p1:G4) (r:Bool) (h:G24 r_ p1=some r):Pure Ek 118 [G0 r_,Ee p1] (·=BL r):=by
 unfold G24 at h
 refine H6 [.tmp 3] Tryz.func118 O O (Jr fun hK1=>(Yv (BL false) O (G7 (hK1 (Jr fun hK2=>(Yv (G0 r_) O (JLh (.dptr ((G4.cs p1).drop 1)) (Gf G0b O O O) O (JLh (G0 p1.Row) (Gj Gb O O O) O (JLh (BL (decide (r_=p1.Row))) (Q0 O O O) O (Yv (BL (decide (r_=p1.Row))) O (G7 (hK2 (Gx (fin1 BL h))))))))))))))

def Zx (l:List Int) (wanted:Int→Option Bool):Option (List Int):=
 each (fun y21 i21 (s21:(List Int)) nx21=>
  jp (fun kj24=>
   bnd (wanted y21) fun r27=>
   bif r27 then
   (need (decide ((s21.length+[(i21:Int)].length)*8≤140737488355328∧s21.length+[(i21:Int)].length≤maxLen)) <|
    kj24 (s21++[(i21:Int)]))
   else
   (kj24 s21)) fun(j24:(List Int))=>
  nx21 j24)
 (fun(s21:(List Int))=>
  some s21) l 0 []
theorem H81 (l:List Int) (wanted:Int→Option Bool) (wanted_f:FuncId) (wanted_c:List AV) (wanted_B:Hk Ek wanted_f=true) (wanted_d:Yp (fun _=>false) wanted_c=true) (wanted_w:∀ a0 q,wanted a0=some q→Pure Ek wanted_f ([G0 a0]++wanted_c) (·=BL q)) (r:(List Int)) (h:Zx l wanted=some r):Pure Ek 117 [E0 l,.fn wanted_f wanted_c] (·=E0 r):=by
 unfold Zx at h
 refine H6 [.tmp 4] Tryz.func117 O O (Jr fun hK1=>(JLh (E0 ([]:List Int)) (Hf 1 O O) O (G7 (hK1 (Jr fun hK2=>(JLh (OW 1162 1 G0 ([]:List Int)) (G45 1162 3 1 O O O) O (G7 (hK2 (Js fun hK3=>Jr fun hK4=>(Yv (E0 l) O (JLl Gq O O O fun hm9=>(Yv (G0 0) O (G7 (hK4 (Gw ?_)))))))))))))))
 obtain⟨b21,kx21,hb21,hkx21,h⟩:=J0 h
 refine Hp (fun i21 (s21:(List Int))=>each b21 kx21 (List.drop i21 l) i21 s21=some r) (fun i21 s21=>[(1,.fn wanted_f wanted_c),(5,OW 1162 1 G0 s21),(8,E0 l),(9,Ej l.length),(10,Ej i21)]) (fun i21 s21=>[(1162,.spare 3 1 s21.length s21.length)]) (fun i21=>l.length - i21) 0 [] h ⟨⟨.same (Q8 _ _ wanted_d),.same O,.same O,.same O,.same O,G⟩,⟨⟨_,O,.same⟩,G⟩,O⟩ ?_
 clear h
 intro i21 s21 hi21 K21 e21
 refine Jr fun hK22=>(JLh (BL (decide ((i21:Int) < (l.length:Int)))) (Jb O O O) O (G7 (hK22 (Js fun hK23=>Gm O (fun hb=>?_) (fun hb=>?_)))))
 ·
  have hk21:=Jk hb
  obtain⟨y21,nx21,hy21,hn21,h⟩:=Hq hi21 hk21
  replace h:=Ya hb21 h
  refine Gr (hK23 ?_)
  obtain⟨kj24,hkj24,h⟩:=Rm h
  refine Qr (fun j24:(List Int)=>kj24 j24=some r) (fun j24=>[(1,.fn wanted_f wanted_c),(5,OW 1162 1 G0 j24),(8,E0 l),(9,Ej l.length),(10,Ej i21)]) (fun j24=>[(1162,.spare 3 1 j24.length j24.length)]) (fun Kj24 ej24=>?_) ?_
  ·
   refine Gw (Jr fun hK25=>(Yv (Ej i21) O (JLh (.dptr [G0 y21]) (Hb (f:=G0) (xs:=l) (y:=y21) O O O Gq hy21 O) O (JLh (G0 y21) (Gj Gb O O O) O (Yv (Ej i21) O (Yv (G0 y21) O (G7 (hK25 (Jr fun hK26=>(Yv (.fn wanted_f wanted_c) O (Yv (G0 y21) O ?_)))))))))))
   obtain⟨r27,hr27,h⟩:=Gd h
   refine JLh (BL r27) (G46 (args:=[G0 y21]) (caps:=wanted_c) O O (wanted_w y21 _ hr27) wanted_B ⟨O,O,G⟩ wanted_d) O (G7 (hK26 (JCc O h (fun h hb=>?_) (fun h hb=>?_))))
   ·
    refine G3 (Yv (OW 1162 1 G0 s21) O (Yv (Ej i21) O (JLh (E0 [(i21:Int)]) (H9 (xs:=[Ej i21]) O ⟨O,O,G⟩ Gq Q1 O O O O) O ?_)))
    obtain⟨ha28,h⟩:=J7 h
    refine JLh (OW 1162 1 G0 (s21++[(i21:Int)])) (Rc (f:=G0) (xs:=s21) (ys:=[(i21:Int)]) O O O O Gq Zp ha28 (fun _=>O) (.inl O) O) O (Yv (OW 1162 1 G0 (s21++[(i21:Int)])) O (G7 (ej24 _ _ (s21++[(i21:Int)]) h ⟨⟨.same (Q8 _ _ wanted_d),.same O,.same O,.same O,.same O,G⟩,⟨⟨_,O,.same⟩,G⟩,O⟩)))
   ·
    refine Gr (ej24 _ _ s21 h ⟨⟨.same (Q8 _ _ wanted_d),.same O,.same O,.same O,.same O,G⟩,⟨⟨_,O,.same⟩,G⟩,O⟩)
  ·intro j24 h
   replace h:=app1 hkj24 h
   refine G3 (JLh (G0 ((i21+1:Nat):Int)) (Hx (Ho hk21 hm9) O O O) O (Yv (G0 ((i21+1:Nat):Int)) O (G7 (e21 _ _ (i21+1) j24 (app1 hn21 h) (by omega) ⟨⟨.same (Q8 _ _ wanted_d),.same rfl,.same rfl,.same rfl,.same rfl,G⟩,⟨⟨_,rfl,.same⟩,G⟩,rfl⟩))))
 ·
  have h:=app1 hkx21 (Hr hi21 (Hc hb))
  refine Ht (hK3 (Jr fun hK29=>(Yv (OW 1162 1 G0 s21) O (Yv (OW 1162 1 G0 s21) O (G7 (hK29 (Gx (fin1l (fun r:(List Int)=>(E0 r:AV)) h))))))))

def G2c (x:Ga) (c:G4):Option Bool:=
 bnd (bif decide (x.Bay=c.Bay) then Zx x.Rows (fun z0=>G24 z0 c) else some default) fun r3=>
 some ((decide (x.Bay=c.Bay))&&(decide (0 < (r3.length:Int))))
theorem H3a (x:Ga) (c:G4) (r:Bool) (h:G2c x c=some r):Pure Ek 105 [.agg [G0 x.Bay,E0 x.Rows],.agg (G4.cs c)] (·=BL r):=by
 unfold G2c at h
 refine H6 [.tmp 4] Tryz.func105 O O (Jr fun hK1=>(JLh (.ptr 1156 0) (Jn (cs:=[G0 x.Bay,E0 x.Rows]) 1156 O O O O O) O (JLh (.ptr 1157 0) (Jn (cs:=(G4.cs c)) 1157 O O O O O) O (Yv (BL false) O (G7 (hK1 (Gt [(2,.dptr [G0 x.Bay,E0 x.Rows]),(3,.ptr 1157 0)] [(1157,.box 110 (G4.cs c))] 1156 rfl rfl rfl ⟨⟨_,rfl,.boxEq rfl rfl⟩,G⟩ rfl (by exact⟨.ptr,.conv (.same rfl),G⟩) ?_)))))))
 refine Gt [(2,.dptr [G0 x.Bay,E0 x.Rows]),(3,Ee c)] [] 1157 rfl rfl rfl G rfl (by exact⟨.conv (.same rfl),.ptr,G⟩) ?_
 refine Jr fun hK2=>(JLh (.dptr [G0 x.Bay,E0 x.Rows]) (Gf G80 O O O) O (JLh (G0 x.Bay) (Gj Gb O O O) O (JLh (Ee c) (Gf G0c O O O) O (JLh (G0 c.Bay) (Gj Gb O O O) O (JLh (BL (decide (x.Bay=c.Bay))) (Q0 O O O) O (Yv (BL (decide (x.Bay=c.Bay))) O (JLo (.dptr [E0 x.Rows]) [] O .sct G (fun hc=>Gf G7f O O O) O (JLo (E0 x.Rows) [11] O .sct ⟨Ua,G⟩ (fun hc=>Gj G1a O O O) O (JLo (.fn 118 [.dptr (G4.cs c)]) [] O .sct G (fun hc=>Yg (cs:=[.dptr (G4.cs c)]) O O) O ?_)))))))))
 obtain⟨r3,hr3,h⟩:=Gd h
 refine JLo (E0 r3) [12,13] O .sct ⟨Ua,Ua,G⟩ (fun hc=>Gu (args:=[E0 x.Rows,.fn 118 [.dptr (G4.cs c)]]) O (H81 x.Rows (fun z0=>G24 z0 c) 118 [.dptr (G4.cs c)] Jd3 O (fun z0 q hq=>Hda z0 c q hq) r3 (H4 hc hr3)) Jd4 ⟨O,O,O,O,G⟩) O (JLo (Ej r3.length) [14] O .sct ⟨Ua,G⟩ (fun hc=>Zj (f:=G0) (xs:=r3) Gq O O) O (JLo (BL (decide (0 < (r3.length:Int)))) [15] O .sct ⟨Ua,G⟩ (fun hc=>G35 O O O) O (JLh (BL ((decide (x.Bay=c.Bay))&&(decide (0 < (r3.length:Int))))) (Qd O O O O) O (Yv (BL ((decide (x.Bay=c.Bay))&&(decide (0 < (r3.length:Int))))) O (G7 (hK2 ?_))))))
 refine Gx (fin1 BL h)

def Ze (x:Ga) (p1:Gp) (p2:Int):Option Bool:=
 Z2 p1.Columns p2 fun y3=>
 bnd (G2c x y3) fun r5=>
 some r5
theorem Haa (x:Ga) (p1:Gp) (p2:Int) (r:Bool) (h:Ze x p1 p2=some r):Pure Ek 104 [.agg [G0 x.Bay,E0 x.Rows],Ec p1,.dptr [G0 p2]] (·=BL r):=by
 unfold Ze at h
 refine H6 [.tmp 4] Tryz.func104 O O (Jr fun hK1=>(JLh (.ptr 1155 0) (Jn (cs:=[G0 x.Bay,E0 x.Rows]) 1155 O O O O O) O (Yv (BL false) O (G7 (hK1 (Gt [(1,Ec p1),(2,.dptr [G0 p2]),(3,.dptr [G0 x.Bay,E0 x.Rows])] [] 1155 rfl rfl rfl G rfl (by exact⟨.conv (.same rfl),.conv (.same rfl),.ptr,G⟩) (Js fun hK2=>?_)))))))
 obtain⟨m4,y3,hm4,hy3,h⟩:=Z5 h
 obtain⟨r5,hr5,h⟩:=Gd h
 refine JC_d0 Qg (by kernel_rfl) (Dq (.agg [G0 x.Bay,E0 x.Rows]) (Gh Gd5 O O O) O (Dq (Ec p1) (Gf Jc O O O) O (Dq (E3 p1.Columns) (Gj Jv O O O) O (Dq (G0 p2) (Gj Gb O O O) O (Dq (Ee y3) (Hb (f:=G4.av) (xs:=p1.Columns) (y:=y3) O O O Ji hy3 hm4) O (Dq (.agg (G4.cs y3)) (Gh G3a O O O) O (Dq (BL r5) (Gu (args:=[.agg [G0 x.Bay,E0 x.Rows],.agg (G4.cs y3)]) O (H3a x y3 r5 hr5) J0f ⟨O,O,O,O,G⟩) O (Dq (BL r5) (G8 O O) O (Dnil (hK2 (Gx (fin1 BL h))))))))))))

def Y1 (l:List Ga) (wanted:Ga→Option Bool):Option (List Int):=
 each (fun y21 i21 (s21:(List Int)) nx21=>
  jp (fun kj24=>
   bnd (wanted y21) fun r27=>
   bif r27 then
   (need (decide ((s21.length+[(i21:Int)].length)*8≤140737488355328∧s21.length+[(i21:Int)].length≤maxLen)) <|
    kj24 (s21++[(i21:Int)]))
   else
   (kj24 s21)) fun(j24:(List Int))=>
  nx21 j24)
 (fun(s21:(List Int))=>
  some s21) l 0 []
theorem H09 (l:List Ga) (wanted:Ga→Option Bool) (wanted_f:FuncId) (wanted_c:List AV) (wanted_B:Hk Ek wanted_f=true) (wanted_d:Yp (fun _=>false) wanted_c=true) (wanted_w:∀ a0 q,wanted a0=some q→Pure Ek wanted_f ([.agg [G0 a0.Bay,E0 a0.Rows]]++wanted_c) (·=BL q)) (r:(List Int)) (h:Y1 l wanted=some r):Pure Ek 103 [E8 l,.fn wanted_f wanted_c] (·=E0 r):=by
 unfold Y1 at h
 refine H6 [.tmp 4] Tryz.func103 O O (Jr fun hK1=>(JLh (E0 ([]:List Int)) (Hf 1 O O) O (G7 (hK1 (Jr fun hK2=>(JLh (OW 1153 1 G0 ([]:List Int)) (G45 1153 3 1 O O O) O (G7 (hK2 (Js fun hK3=>Jr fun hK4=>(Yv (E8 l) O (JLl R0 O O O fun hm9=>(Yv (G0 0) O (G7 (hK4 (Gw ?_)))))))))))))))
 obtain⟨b21,kx21,hb21,hkx21,h⟩:=J0 h
 refine Hp (fun i21 (s21:(List Int))=>each b21 kx21 (List.drop i21 l) i21 s21=some r) (fun i21 s21=>[(1,.fn wanted_f wanted_c),(5,OW 1153 1 G0 s21),(8,E8 l),(9,Ej l.length),(10,Ej i21)]) (fun i21 s21=>[(1153,.spare 3 1 s21.length s21.length)]) (fun i21=>l.length - i21) 0 [] h ⟨⟨.same (Q8 _ _ wanted_d),.same O,.same O,.same O,.same O,G⟩,⟨⟨_,O,.same⟩,G⟩,O⟩ ?_
 clear h
 intro i21 s21 hi21 K21 e21
 refine Jr fun hK22=>(JLh (BL (decide ((i21:Int) < (l.length:Int)))) (Jb O O O) O (G7 (hK22 (Js fun hK23=>Gm O (fun hb=>?_) (fun hb=>?_)))))
 ·
  have hk21:=Jk hb
  obtain⟨y21,nx21,hy21,hn21,h⟩:=Hq hi21 hk21
  replace h:=Ya hb21 h
  refine Gr (hK23 ?_)
  obtain⟨kj24,hkj24,h⟩:=Rm h
  refine Qr (fun j24:(List Int)=>kj24 j24=some r) (fun j24=>[(1,.fn wanted_f wanted_c),(5,OW 1153 1 G0 j24),(8,E8 l),(9,Ej l.length),(10,Ej i21)]) (fun j24=>[(1153,.spare 3 1 j24.length j24.length)]) (fun Kj24 ej24=>?_) ?_
  ·
   refine Gw (Jr fun hK25=>(Yv (Ej i21) O (JLh (.dptr [G0 y21.Bay,E0 y21.Rows]) (Hb (f:=Ga.av) (xs:=l) (y:=y21) O O O R0 hy21 O) O (JLh (.agg [G0 y21.Bay,E0 y21.Rows]) (Gh Gd5 O O O) O (JLh (.ptr 1154 0) (Hu 1154 2 G7e O O) O (Yv (Ej i21) O (Hw (u:=.junk) (Hj (u:=.agg [G0 y21.Bay,E0 y21.Rows]) (ds:=[G0 y21.Bay,E0 y21.Rows]) J0c O O O O O O O O) (G7 (hK25 ?_)))))))))
   refine Gt [(1,.fn wanted_f wanted_c),(5,OW 1153 1 G0 s21),(6,Ej i21),(7,.dptr [G0 y21.Bay,E0 y21.Rows]),(8,E8 l),(9,Ej l.length),(10,Ej i21)] [(1153,.spare 3 1 s21.length s21.length)] 1154 rfl rfl rfl ⟨⟨_,rfl,.same⟩,G⟩ rfl (by exact⟨.conv (.same (Q8 _ _ wanted_d)),.conv (.same rfl),.conv (.same rfl),.ptr,.conv (.same rfl),.conv (.same rfl),.conv (.same rfl),G⟩) (Jr fun hK26=>(Yv (.fn wanted_f wanted_c) O (JLh (.agg [G0 y21.Bay,E0 y21.Rows]) (Gh Gd5 O O O) O ?_)))
   obtain⟨r27,hr27,h⟩:=Gd h
   refine JLh (BL r27) (G46 (args:=[.agg [G0 y21.Bay,E0 y21.Rows]]) (caps:=wanted_c) O O (wanted_w y21 _ hr27) wanted_B ⟨O,O,G⟩ wanted_d) O (G7 (hK26 (JCc O h (fun h hb=>?_) (fun h hb=>?_))))
   ·
    refine G3 (Yv (OW 1153 1 G0 s21) O (Yv (Ej i21) O (JLh (E0 [(i21:Int)]) (H9 (xs:=[Ej i21]) O ⟨O,O,G⟩ Gq Q1 O O O O) O ?_)))
    obtain⟨ha28,h⟩:=J7 h
    refine JLh (OW 1153 1 G0 (s21++[(i21:Int)])) (Rc (f:=G0) (xs:=s21) (ys:=[(i21:Int)]) O O O O Gq Zp ha28 (fun _=>O) (.inl O) O) O (Yv (OW 1153 1 G0 (s21++[(i21:Int)])) O (G7 (ej24 _ _ (s21++[(i21:Int)]) h ⟨⟨.same (Q8 _ _ wanted_d),.same O,.same O,.same O,.same O,G⟩,⟨⟨_,O,.same⟩,G⟩,O⟩)))
   ·
    refine Gr (ej24 _ _ s21 h ⟨⟨.same (Q8 _ _ wanted_d),.same O,.same O,.same O,.same O,G⟩,⟨⟨_,O,.same⟩,G⟩,O⟩)
  ·intro j24 h
   replace h:=app1 hkj24 h
   refine G3 (JLh (G0 ((i21+1:Nat):Int)) (Hx (Ho hk21 hm9) O O O) O (Yv (G0 ((i21+1:Nat):Int)) O (G7 (e21 _ _ (i21+1) j24 (app1 hn21 h) (by omega) ⟨⟨.same (Q8 _ _ wanted_d),.same rfl,.same rfl,.same rfl,.same rfl,G⟩,⟨⟨_,rfl,.same⟩,G⟩,rfl⟩))))
 ·
  have h:=app1 hkx21 (Hr hi21 (Hc hb))
  refine Ht (hK3 (Jr fun hK29=>(Yv (OW 1153 1 G0 s21) O (Yv (OW 1153 1 G0 s21) O (G7 (hK29 (Gx (fin1l (fun r:(List Int)=>(E0 r:AV)) h))))))))

def Y2 (s:Gp) (column:Int):Option Int:=
 bif ((decide (column < 0))||(decide ((s.Columns.length:Int)≤column))) then
 (some (-1))
 else
 (bnd (Y1 s.Covers (fun z0=>Ze z0 s column)) fun r6=>
  bif decide ((r6.length:Int)=0) then
  (some (-1))
  else
  (Z2 r6 0 fun y11=>
   some y11))
theorem G9c (s:Gp) (column:Int) (r:Int) (h:Y2 s column=some r):Pure Ek 73 [.agg (Gp.cs s),G0 column] (·=G0 r):=by
 unfold Y2 at h
 refine H6 [.tmp 4] Tryz.func73 O O (Jr fun hK1=>(JLh (.ptr 1137 0) (Jn (cs:=(Gp.cs s)) 1137 O O O O O) O (JLh (.ptr 1138 0) (Jn (cs:=[G0 column]) 1138 O O O O O) O (Yv (G0 0) O (G7 (hK1 ?_))))))
 refine Gt [(2,Ec s),(3,.ptr 1138 0)] [(1138,.box 3 [G0 column])] 1137 rfl rfl rfl ⟨⟨_,rfl,.boxEq rfl rfl⟩,G⟩ rfl (by exact⟨.ptr,.conv (.same rfl),G⟩) (Gt [(2,Ec s),(3,.dptr [G0 column])] [] 1138 rfl rfl rfl G rfl (by exact⟨.conv (.same rfl),.ptr,G⟩) (Js fun hK2=>?_))
 refine Jr fun hK3=>(JLh (G0 column) (Gj Gb O O O) O (JLh (BL (decide (column < 0))) (Jb O O O) O (Yv (BL (decide (column < 0))) O (JLo (G0 column) [] O .scf G (fun hc=>Gj Gb O O O) O (JLo (Ec s) [] O .scf G (fun hc=>Gf Jc O O O) O (JLo (E3 s.Columns) [10] O .scf ⟨Ua,G⟩ (fun hc=>Gj Jv O O O) O (JLo (Ej s.Columns.length) [11] O .scf ⟨Ua,G⟩ (fun hc=>Zj (f:=G4.av) (xs:=s.Columns) Ji O O) O (JLo (BL (decide ((s.Columns.length:Int)≤column))) [9,12] O .scf ⟨Ua,Ua,G⟩ (fun hc=>Gb4 O O O) O (JLh (BL ((decide (column < 0))||(decide ((s.Columns.length:Int)≤column)))) (Zn O O O O) O (G7 (hK3 ?_)))))))))))
 refine JCc O h (fun h hb=>?_) (fun h hb=>?_)
 ·
  refine Jr fun hK4=>(Yv (G0 (-1)) O (G7 (hK4 (Gx (fin1 G0 h)))))
 ·
  refine Gr (hK2 ?_)
  refine Jr fun hK5=>(JLh (.dptr [E8 s.Covers,G0 s.Light.Kilos,G0 s.Light.X,G0 s.Light.Y,G0 s.Light.Z,E5 s.Rows,E6 s.Frames,E7 s.Tanks,G0 s.G2.Tolerance,G0 s.G2.Trim,G0 s.G2.List_,G0 s.G2.Stability]) (Gf R3 O O O) O (JLh (E8 s.Covers) (Gj Yi O O O) O (JLh (.fn 104 [.dptr (Gp.cs s),.dptr [G0 column]]) (Yg (cs:=[.dptr (Gp.cs s),.dptr [G0 column]]) O O) O ?_)))
  obtain⟨r6,hr6,h⟩:=Gd h
  refine JLh (E0 r6) (Gu O (H09 s.Covers (fun z0=>Ze z0 s column) 104 [.dptr (Gp.cs s),.dptr [G0 column]] Jd7 O (fun z0 q hq=>Haa z0 s column q hq) r6 hr6) Jd8 ⟨O,O,O,O,G⟩) O (Yv (E0 r6) O (G7 (hK5 (Js fun hK7=>Jr fun hK8=>(Yv (E0 r6) O (JLl Gq O O O fun hm20=>(JLh (BL (decide ((r6.length:Int)=0))) (Q0 O O O) O (G7 (hK8 (JCc O h (fun h hb=>?_) (fun h hb=>?_)))))))))))
  ·
   refine Jr fun hK9=>(Yv (G0 (-1)) O (G7 (hK9 (Gx (fin1 G0 h)))))
  ·
   refine Gr (hK7 (Jr fun hK10=>(Yv (E0 r6) O ?_)))
   obtain⟨m12,y11,hm12,hy11,h⟩:=Z5 h
   refine JLh (.dptr [G0 y11]) (Hb (f:=G0) (xs:=r6) (y:=y11) O O O Gq hy11 hm12) O (JLh (G0 y11) (Gj Gb O O O) O (Yv (G0 y11) O (G7 (hK10 (Gx (fin1 G0 h))))))

def G4f (s:Gp) (column:Int):Option Int:=
 Z2 s.Columns column fun y4=>
 bif y4.Deck then
 (some (-1))
 else
 (bnd (Y2 s column) fun r8=>
  some r8)
theorem H5e (s:Gp) (column:Int) (r:Int) (h:G4f s column=some r):Pure Ek 56 [.agg (Gp.cs s),G0 column] (·=G0 r):=by
 unfold G4f at h
 refine H6 [.tmp 4] Tryz.func56 O O (Jr fun hK1=>(JLh (.ptr 1129 0) (Jn (cs:=(Gp.cs s)) 1129 O O O O O) O (Yv (G0 0) O (G7 (hK1 (Gt [(1,G0 column),(2,Ec s)] [] 1129 rfl rfl rfl G rfl (by exact⟨.conv (.same rfl),.ptr,G⟩) (Js fun hK2=>?_)))))))
 refine Jr fun hK3=>(JLh (Ec s) (Gf Jc O O O) O (JLh (E3 s.Columns) (Gj Jv O O O) O (Yv (G0 column) O ?_)))
 obtain⟨m5,y4,hm5,hy4,h⟩:=Z5 h
 refine JLh (Ee y4) (Hb (f:=G4.av) (xs:=s.Columns) (y:=y4) O O O Ji hy4 hm5) O (JLh (.dptr ((G4.cs y4).drop 2)) (Gf Yo O O O) O (JLh (BL y4.Deck) (Gj Qv O O O) O (G7 (hK3 (JCc O h (fun h hb=>?_) (fun h hb=>?_))))))
 ·
  refine Jr fun hK6=>(Yv (G0 (-1)) O (G7 (hK6 (Gx (fin1 G0 h)))))
 ·
  refine Gr (hK2 (Jr fun hK7=>(JLh (.agg (Gp.cs s)) (Gh H5 O O O) O (Yv (G0 column) O ?_))))
  obtain⟨r8,hr8,h⟩:=Gd h
  refine JLh (G0 r8) (Gu O (G9c s column r8 hr8) H98 ⟨O,O,O,O,G⟩) O (Yv (G0 r8) O (G7 (hK7 (Gx (fin1 G0 h)))))

def G41 (c:G4) (p1:Bool) (p2:Gp) (p3:Int):Option Bool:=
 bnd (bif (c.Deck==p1) then Z2 p2.Covers p3 some else some default) fun y3=>
 bnd (bif (c.Deck==p1) then G2c y3 c else some default) fun r4=>
 some ((c.Deck==p1)&&r4)
theorem J04 (c:G4) (p1:Bool) (p2:Gp) (p3:Int) (r:Bool) (h:G41 c p1 p2 p3=some r):Pure Ek 121 [.agg (G4.cs c),.dptr [BL p1],Ec p2,.dptr [G0 p3]] (·=BL r):=by
 unfold G41 at h
 refine H6 [.tmp 5] Tryz.func121 O O (Jr fun hK1=>(JLh (.ptr 1163 0) (Jn (cs:=(G4.cs c)) 1163 O O O O O) O (Yv (BL false) O (G7 (hK1 (Gt [(1,.dptr [BL p1]),(2,Ec p2),(3,.dptr [G0 p3]),(4,Ee c)] [] 1163 rfl rfl rfl G rfl (by repeat' (first | exact .ptr | constructor)) (Js fun hK2=>?_)))))))
 obtain⟨y3,hy3,h⟩:=Gd h
 obtain⟨r4,hr4,h⟩:=Gd h
 refine JC_d0 Qg (by kernel_rfl) (Dq (.dptr [BL c.Deck,G0 c.Tiers,G0 c.Height,G0 c.Kilos20,G0 c.Kilos40,G0 c.Lash,E0 c.Plugs,G0 c.X,G0 c.Y,G0 c.Z]) (Gf Yo O O O) O (Dq (BL c.Deck) (Gj Qv O O O) O (Dq (BL p1) (Gj Qv O O O) O (Dq (BL (c.Deck==p1)) (Jaf G97 O O O) O (Dq (BL (c.Deck==p1)) (G5 O O) O (Do (.dptr ((Gp.cs p2).drop 1)) [] O .sct G (fun hc=>Gf R3 O O O) O (Do (E8 p2.Covers) [11] O .sct ⟨Ua,G⟩ (fun hc=>Gj Yi O O O) O (Do (G0 p3) [] O .sct G (fun hc=>Gj Gb O O O) O (Do (.dptr [G0 y3.Bay,E0 y3.Rows]) [12,13] O .sct ⟨Ua,Ua,G⟩ (fun hc=>(match Yd (H4 hc hy3) with | ⟨_,hm_,hy_⟩=>Hb (f:=Ga.av) (xs:=p2.Covers) (y:=y3) O O O R0 hy_ hm_)) O (Do (.agg [G0 y3.Bay,E0 y3.Rows]) [14] O .sct ⟨Ua,G⟩ (fun hc=>Gh Gd5 O O O) O (Do (.agg (G4.cs c)) [] O .sct G (fun hc=>Gh G3a O O O) O (Do (BL r4) [15,16] O .sct ⟨Ua,Ua,G⟩ (fun hc=>Gu (args:=[.agg [G0 y3.Bay,E0 y3.Rows],.agg (G4.cs c)]) O (H3a y3 c r4 (H4 hc hr4)) J0f ⟨O,O,O,O,G⟩) O (Dq (BL ((c.Deck==p1)&&r4)) (Qd O O O O) O ?_)))))))))))))
 refine Dq (BL ((c.Deck==p1)&&r4)) (G8 O O) O (Dnil (hK2 (Gx (fin1 BL h))))

def Qi (l:List G4) (wanted:G4→Option Bool):Option (List Int):=
 each (fun y21 i21 (s21:(List Int)) nx21=>
  jp (fun kj24=>
   bnd (wanted y21) fun r27=>
   bif r27 then
   (need (decide ((s21.length+[(i21:Int)].length)*8≤140737488355328∧s21.length+[(i21:Int)].length≤maxLen)) <|
    kj24 (s21++[(i21:Int)]))
   else
   (kj24 s21)) fun(j24:(List Int))=>
  nx21 j24)
 (fun(s21:(List Int))=>
  some s21) l 0 []
theorem G56 (l:List G4) (wanted:G4→Option Bool) (wanted_f:FuncId) (wanted_c:List AV) (wanted_B:Hk Ek wanted_f=true) (wanted_d:Yp (fun _=>false) wanted_c=true) (wanted_w:∀ a0 q,wanted a0=some q→Pure Ek wanted_f ([.agg (G4.cs a0)]++wanted_c) (·=BL q)) (r:(List Int)) (h:Qi l wanted=some r):Pure Ek 84 [E3 l,.fn wanted_f wanted_c] (·=E0 r):=by
 unfold Qi at h
 refine H6 [.tmp 4] Tryz.func84 O O (Jr fun hK1=>(JLh (E0 ([]:List Int)) (Hf 1 O O) O (G7 (hK1 (Jr fun hK2=>(JLh (OW 1143 1 G0 ([]:List Int)) (G45 1143 3 1 O O O) O (G7 (hK2 (Js fun hK3=>Jr fun hK4=>(Yv (E3 l) O (JLl Ji O O O fun hm9=>(Yv (G0 0) O (G7 (hK4 (Gw ?_)))))))))))))))
 obtain⟨b21,kx21,hb21,hkx21,h⟩:=J0 h
 refine Hp (fun i21 (s21:(List Int))=>each b21 kx21 (List.drop i21 l) i21 s21=some r) (fun i21 s21=>[(1,.fn wanted_f wanted_c),(5,OW 1143 1 G0 s21),(8,E3 l),(9,Ej l.length),(10,Ej i21)]) (fun i21 s21=>[(1143,.spare 3 1 s21.length s21.length)]) (fun i21=>l.length - i21) 0 [] h ⟨⟨.same (Q8 _ _ wanted_d),.same O,.same O,.same O,.same O,G⟩,⟨⟨_,O,.same⟩,G⟩,O⟩ ?_
 clear h
 intro i21 s21 hi21 K21 e21
 refine Jr fun hK22=>(JLh (BL (decide ((i21:Int) < (l.length:Int)))) (Jb O O O) O (G7 (hK22 (Js fun hK23=>Gm O (fun hb=>?_) (fun hb=>?_)))))
 ·
  have hk21:=Jk hb
  obtain⟨y21,nx21,hy21,hn21,h⟩:=Hq hi21 hk21
  replace h:=Ya hb21 h
  refine Gr (hK23 ?_)
  obtain⟨kj24,hkj24,h⟩:=Rm h
  refine Qr (fun j24:(List Int)=>kj24 j24=some r) (fun j24=>[(1,.fn wanted_f wanted_c),(5,OW 1143 1 G0 j24),(8,E3 l),(9,Ej l.length),(10,Ej i21)]) (fun j24=>[(1143,.spare 3 1 j24.length j24.length)]) (fun Kj24 ej24=>?_) ?_
  ·
   refine Gw (Jr fun hK25=>(Yv (Ej i21) O (JLh (Ee y21) (Hb (f:=G4.av) (xs:=l) (y:=y21) O O O Ji hy21 O) O (JLh (.agg (G4.cs y21)) (Gh G3a O O O) O (JLh (.ptr 1144 0) (Hu 1144 12 G17 O O) O (Yv (Ej i21) O (Hw (u:=.junk) (Hj (u:=.agg (G4.cs y21)) (ds:=(G4.cs y21)) Gf2 O O O O O O O O) (G7 (hK25 ?_)))))))))
   refine Gt [(1,.fn wanted_f wanted_c),(5,OW 1143 1 G0 s21),(6,Ej i21),(7,Ee y21),(8,E3 l),(9,Ej l.length),(10,Ej i21)] [(1143,.spare 3 1 s21.length s21.length)] 1144 rfl rfl rfl ⟨⟨_,rfl,.same⟩,G⟩ rfl (by exact⟨.conv (.same (Q8 _ _ wanted_d)),.conv (.same rfl),.conv (.same rfl),.ptr,.conv (.same rfl),.conv (.same rfl),.conv (.same rfl),G⟩) (Jr fun hK26=>(Yv (.fn wanted_f wanted_c) O (JLh (.agg (G4.cs y21)) (Gh G3a O O O) O ?_)))
   obtain⟨r27,hr27,h⟩:=Gd h
   refine JLh (BL r27) (G46 (args:=[.agg (G4.cs y21)]) (caps:=wanted_c) O O (wanted_w y21 _ hr27) wanted_B ⟨O,O,G⟩ wanted_d) O (G7 (hK26 (JCc O h (fun h hb=>?_) (fun h hb=>?_))))
   ·
    refine G3 (Yv (OW 1143 1 G0 s21) O (Yv (Ej i21) O (JLh (E0 [(i21:Int)]) (H9 (xs:=[Ej i21]) O ⟨O,O,G⟩ Gq Q1 O O O O) O ?_)))
    obtain⟨ha28,h⟩:=J7 h
    refine JLh (OW 1143 1 G0 (s21++[(i21:Int)])) (Rc (f:=G0) (xs:=s21) (ys:=[(i21:Int)]) O O O O Gq Zp ha28 (fun _=>O) (.inl O) O) O (Yv (OW 1143 1 G0 (s21++[(i21:Int)])) O (G7 (ej24 _ _ (s21++[(i21:Int)]) h ⟨⟨.same (Q8 _ _ wanted_d),.same O,.same O,.same O,.same O,G⟩,⟨⟨_,O,.same⟩,G⟩,O⟩)))
   ·
    refine Gr (ej24 _ _ s21 h ⟨⟨.same (Q8 _ _ wanted_d),.same O,.same O,.same O,.same O,G⟩,⟨⟨_,O,.same⟩,G⟩,O⟩)
  ·intro j24 h
   replace h:=app1 hkj24 h
   refine G3 (JLh (G0 ((i21+1:Nat):Int)) (Hx (Ho hk21 hm9) O O O) O (Yv (G0 ((i21+1:Nat):Int)) O (G7 (e21 _ _ (i21+1) j24 (app1 hn21 h) (by omega) ⟨⟨.same (Q8 _ _ wanted_d),.same rfl,.same rfl,.same rfl,.same rfl,G⟩,⟨⟨_,rfl,.same⟩,G⟩,rfl⟩))))
 ·
  have h:=app1 hkx21 (Hr hi21 (Hc hb))
  refine Ht (hK3 (Jr fun hK29=>(Yv (OW 1143 1 G0 s21) O (Yv (OW 1143 1 G0 s21) O (G7 (hK29 (Gx (fin1l (fun r:(List Int)=>(E0 r:AV)) h))))))))

def Gcb (s:Gp) (cover:Int) (deck:Bool):Option (List Int):=
 bif ((decide (cover < 0))||(decide ((s.Covers.length:Int)≤cover))) then
 (some [])
 else
 (bnd (Qi s.Columns (fun z0=>G41 z0 deck s cover)) fun r6=>
  some r6)
theorem J9e (s:Gp) (cover:Int) (deck:Bool) (r:(List Int)) (h:Gcb s cover deck=some r):Pure Ek 107 [.agg (Gp.cs s),G0 cover,BL deck] (·=E0 r):=by
 unfold Gcb at h
 refine H6 [.tmp 6] Tryz.func107 O O (Jr fun hK1=>(JLh (.ptr 1158 0) (Jn (cs:=(Gp.cs s)) 1158 O O O O O) O (JLh (.ptr 1159 0) (Jn (cs:=[G0 cover]) 1159 O O O O O) O (JLh (.ptr 1160 0) (Jn (cs:=[BL deck]) 1160 O O O O O) O (JLh (E0 ([]:List Int)) (Hf 1 O O) O (G7 (hK1 ?_)))))))
 refine Gt [(3,Ec s),(4,.ptr 1159 0),(5,.ptr 1160 0)] [(1159,.box 3 [G0 cover]),(1160,.box 4 [BL deck])] 1158 rfl rfl rfl ⟨⟨_,rfl,.boxEq rfl rfl⟩,⟨_,rfl,.boxEq rfl rfl⟩,G⟩ rfl (by exact⟨.ptr,.conv (.same rfl),.conv (.same rfl),G⟩) ?_
 refine Gt [(3,Ec s),(4,.dptr [G0 cover]),(5,.ptr 1160 0)] [(1160,.box 4 [BL deck])] 1159 rfl rfl rfl ⟨⟨_,rfl,.boxEq rfl rfl⟩,G⟩ rfl (by exact⟨.conv (.same rfl),.ptr,.conv (.same rfl),G⟩) ?_
 refine Gt [(3,Ec s),(4,.dptr [G0 cover]),(5,.dptr [BL deck])] [] 1160 rfl rfl rfl G rfl (by exact⟨.conv (.same rfl),.conv (.same rfl),.ptr,G⟩) (Js fun hK2=>?_)
 refine Jr fun hK3=>(JLh (G0 cover) (Gj Gb O O O) O (JLh (BL (decide (cover < 0))) (Jb O O O) O (Yv (BL (decide (cover < 0))) O (JLo (G0 cover) [] O .scf G (fun hc=>Gj Gb O O O) O (JLo (.dptr [E8 s.Covers,G0 s.Light.Kilos,G0 s.Light.X,G0 s.Light.Y,G0 s.Light.Z,E5 s.Rows,E6 s.Frames,E7 s.Tanks,G0 s.G2.Tolerance,G0 s.G2.Trim,G0 s.G2.List_,G0 s.G2.Stability]) [] O .scf G (fun hc=>Gf R3 O O O) O (JLo (E8 s.Covers) [11] O .scf ⟨Ua,G⟩ (fun hc=>Gj Yi O O O) O (JLo (Ej s.Covers.length) [12] O .scf ⟨Ua,G⟩ (fun hc=>Zj (f:=Ga.av) (xs:=s.Covers) R0 O O) O (JLo (BL (decide ((s.Covers.length:Int)≤cover))) [10,13] O .scf ⟨Ua,Ua,G⟩ (fun hc=>Gb4 O O O) O (JLh (BL ((decide (cover < 0))||(decide ((s.Covers.length:Int)≤cover)))) (Zn O O O O) O (G7 (hK3 ?_)))))))))))
 refine JCc O h (fun h hb=>?_) (fun h hb=>?_)
 ·
  refine Jr fun hK4=>(JLh (E0 ([]:List Int)) (Hf 1 O O) O (G7 (hK4 (Gx (fin1 (fun r:(List Int)=>(E0 r:AV)) h)))))
 ·
  refine Gr (hK2 ?_)
  refine Jr fun hK5=>(JLh (Ec s) (Gf Jc O O O) O (JLh (E3 s.Columns) (Gj Jv O O O) O (JLh (.fn 121 [.dptr [BL deck],Ec s,.dptr [G0 cover]]) (Yg (cs:=[.dptr [BL deck],Ec s,.dptr [G0 cover]]) O O) O ?_)))
  obtain⟨r6,hr6,h⟩:=Gd h
  refine JLh (E0 r6) (Gu O (G56 s.Columns (fun z0=>G41 z0 deck s cover) 121 [.dptr [BL deck],Ec s,.dptr [G0 cover]] Jd2 O (fun z0 q hq=>J04 z0 deck s cover q hq) r6 hr6) J50 ⟨O,O,O,O,G⟩) O (Yv (E0 r6) O (G7 (hK5 (Gx (fin1 (fun r:(List Int)=>(E0 r:AV)) h)))))

def Gb1 (s:Gp) (cover:Int):Option (List Int):=
 bnd (Gcb s cover true) fun r3=>
 some r3
theorem M_ship_Upon_w (s:Gp) (cover:Int) (r:(List Int)) (h:Gb1 s cover=some r):Pure Ek 78 [.agg (Gp.cs s),G0 cover] (·=E0 r):=by
 unfold Gb1 at h
 refine H6 [.tmp 4] Tryz.func78 O O (Jr fun hK1=>(JLh (.ptr 1141 0) (Jn (cs:=(Gp.cs s)) 1141 O O O O O) O (JLh (E0 ([]:List Int)) (Hf 1 O O) O (G7 (hK1 (Gt [(1,G0 cover),(2,Ec s)] [] 1141 rfl rfl rfl G rfl (by exact⟨.conv (.same rfl),.ptr,G⟩) ?_))))))
 refine Jr fun hK2=>(JLh (.agg (Gp.cs s)) (Gh H5 O O O) O (Yv (G0 cover) O ?_))
 obtain⟨r3,hr3,h⟩:=Gd h
 refine JLh (E0 r3) (Gu O (J9e s cover true r3 hr3) Jd6 ⟨O,O,O,O,O,O,G⟩) O (Yv (E0 r3) O (G7 (hK2 (Gx (fin1 (fun r:(List Int)=>(E0 r:AV)) h)))))

def Ye (s:List Int) (v:Int):Option Int:=
 each (fun y18 i18 (s18:Unit) nx18=>
  bif decide (v=y18) then
  (some (i18:Int))
  else
  (nx18 ()))
 (fun(s18:Unit)=>
  some (-1)) s 0 ()
theorem H61 (s:List Int) (v:Int) (r:Int) (h:Ye s v=some r):Pure Ek 98 [E0 s,G0 v] (·=G0 r):=by
 unfold Ye at h
 refine H6 [.tmp 4] Tryz.func98 O O (Jr fun hK1=>(Yv (G0 0) O (G7 (hK1 (Js fun hK2=>Jr fun hK3=>(Yv (E0 s) O (JLl Gq O O O fun hm7=>(Yv (G0 0) O (G7 (hK3 (Gw ?_)))))))))))
 obtain⟨b18,kx18,hb18,hkx18,h⟩:=J0 h
 refine Hp (fun i18 (s18:Unit)=>each b18 kx18 (List.drop i18 s) i18 s18=some r) (fun i18 s18=>[(0,E0 s),(1,G0 v),(7,Ej s.length),(8,Ej i18)]) (fun i18 s18=>[]) (fun i18=>s.length - i18) 0 () h ⟨(by repeat' constructor),G,rfl⟩ ?_
 clear h
 intro i18 s18 hi18 K18 e18
 refine Jr fun hK19=>(JLh (BL (decide ((i18:Int) < (s.length:Int)))) (Jb O O O) O (G7 (hK19 (Js fun hK20=>Gm O (fun hb=>?_) (fun hb=>?_)))))
 ·
  have hk18:=Jk hb
  obtain⟨y18,nx18,hy18,hn18,h⟩:=Hq hi18 hk18
  replace h:=Ya hb18 h
  refine Gr (hK20 (Js fun hK21=>Gw (Jr fun hK22=>(Yv (Ej i18) O (Yv (Ej i18) O (G7 (hK22 (Jr fun hK23=>(Yv (G0 v) O (Yv (E0 s) O (Yv (Ej i18) O (JLh (.dptr [G0 y18]) (Hb (f:=G0) (xs:=s) (y:=y18) O O O Gq hy18 O) O (JLh (G0 y18) (Gj Gb O O O) O (JLh (BL (decide (v=y18))) (Q0 O O O) O (G7 (hK23 (JCc O h (fun h hb=>?_) (fun h hb=>?_))))))))))))))))))
  ·
   refine Jr fun hK24=>(Yv (Ej i18) O (Yv (Ej i18) O (G7 (hK24 (Gx (fin1 G0 h))))))
  ·
   refine Gr (hK21 (G3 (JLh (G0 ((i18+1:Nat):Int)) (Hx (Ho hk18 hm7) O O O) O (Yv (G0 ((i18+1:Nat):Int)) O (G7 (e18 _ _ (i18+1) () (app1 hn18 h) (by omega) ⟨(by repeat' constructor),G,rfl⟩))))))
 ·
  have h:=app1 hkx18 (Hr hi18 (Hc hb))
  refine Ht (hK2 (Jr fun hK25=>(Yv (G0 (-1)) O (G7 (hK25 (Gx (fin1 G0 h)))))))

def Qc (s:List Int) (v:Int):Option Bool:=
 bnd (Ye s v) fun r3=>
 some (decide (0≤r3))
theorem Yy (s:List Int) (v:Int) (r:Bool) (h:Qc s v=some r):Pure Ek 62 [E0 s,G0 v] (·=BL r):=by
 unfold Qc at h
 refine H6 [.tmp 4] Tryz.func62 O O (Jr fun hK1=>(Yv (BL false) O (G7 (hK1 (Jr fun hK2=>(Yv (E0 s) O (Yv (G0 v) O ?_)))))))
 obtain⟨r3,hr3,h⟩:=Gd h
 refine JLh (G0 r3) (Gu O (H61 s v r3 hr3) Jec ⟨O,O,O,O,G⟩) O (JLh (BL (decide (0≤r3))) (Gb4 O O O) O (Yv (BL (decide (0≤r3))) O (G7 (hK2 (Gx (fin1 BL h))))))

def G74 (s:Gp) (l:List Stowed) (cover:Int):Option (List Int):=
 bnd (Gb1 s cover) fun r3=>
 each (fun y23 i23 (s23:(List Int)) nx23=>
  jp (fun kj26=>
   bnd (Qc r3 y23.Slot.G4) fun r29=>
   bif r29 then
   (need (decide ((s23.length+[y23.G9].length)*8≤140737488355328∧s23.length+[y23.G9].length≤maxLen)) <|
    kj26 (s23++[y23.G9]))
   else
   (kj26 s23)) fun(j26:(List Int))=>
  nx23 j26)
 (fun(s23:(List Int))=>
  some s23) l 0 []
theorem H8c (s:Gp) (l:List Stowed) (cover:Int) (r:(List Int)) (h:G74 s l cover=some r):Pure Ek 46 [.agg (Gp.cs s),E1 l,G0 cover] (·=E0 r):=by
 unfold G74 at h
 refine H6 [.tmp 6] Tryz.func46 O O (Jr fun hK1=>(JLh (.ptr 1113 0) (Jn (cs:=(Gp.cs s)) 1113 O O O O O) O (JLh (E0 ([]:List Int)) (Hf 1 O O) O (G7 (hK1 (Gt [(1,E1 l),(2,G0 cover),(3,Ec s)] [] 1113 rfl rfl rfl G rfl (by exact⟨.conv (.same rfl),.conv (.same rfl),.ptr,G⟩) ?_))))))
 refine Jr fun hK2=>(JLh (.agg (Gp.cs s)) (Gh H5 O O O) O (Yv (G0 cover) O ?_))
 obtain⟨r3,hr3,h⟩:=Gd h
 refine JLh (E0 r3) (Gu O (M_ship_Upon_w s cover r3 hr3) Jf1 ⟨O,O,O,O,G⟩) O (Yv (E0 r3) O (G7 (hK2 (Jr fun hK4=>(JLh (OW 1114 1 G0 ([]:List Int)) (G45 1114 3 1 O O O) O (G7 (hK4 (Js fun hK5=>Jr fun hK6=>(Yv (E1 l) O (JLl H2 O O O fun hm15=>(Yv (G0 0) O (G7 (hK6 (Gw ?_))))))))))))))
 obtain⟨b23,kx23,hb23,hkx23,h⟩:=J0 h
 refine Hp (fun i23 (s23:(List Int))=>each b23 kx23 (List.drop i23 l) i23 s23=some r) (fun i23 s23=>[(7,E0 r3),(8,OW 1114 1 G0 s23),(14,E1 l),(15,Ej l.length),(16,Ej i23)]) (fun i23 s23=>[(1114,.spare 3 1 s23.length s23.length)]) (fun i23=>l.length - i23) 0 [] h ⟨(by repeat' constructor),⟨⟨_,rfl,.same⟩,G⟩,rfl⟩ ?_
 clear h
 intro i23 s23 hi23 K23 e23
 refine Jr fun hK24=>(JLh (BL (decide ((i23:Int) < (l.length:Int)))) (Jb O O O) O (G7 (hK24 (Js fun hK25=>Gm O (fun hb=>?_) (fun hb=>?_)))))
 ·
  have hk23:=Jk hb
  obtain⟨y23,nx23,hy23,hn23,h⟩:=Hq hi23 hk23
  replace h:=Ya hb23 h
  refine Gr (hK25 ?_)
  obtain⟨kj26,hkj26,h⟩:=Rm h
  refine Qr (fun j26:(List Int)=>kj26 j26=some r) (fun j26=>[(7,E0 r3),(8,OW 1114 1 G0 j26),(14,E1 l),(15,Ej l.length),(16,Ej i23)]) (fun j26=>[(1114,.spare 3 1 j26.length j26.length)]) (fun Kj26 ej26=>?_) ?_
  ·
   refine Gw (Jr fun hK27=>(JLh (Ed y23) (Hb (f:=Stowed.av) (xs:=l) (y:=y23) O O O H2 hy23 O) O (JLh (.agg (Stowed.cs y23)) (Gh R4 O O O) O (JLh (.ptr 1115 0) (Hu 1115 4 Jx O O) O (Hw (u:=.junk) (Hj (u:=.agg (Stowed.cs y23)) (ds:=[G0 y23.G9,G0 y23.Slot.G4,G0 y23.Slot.Tier,U8 y23.Slot.Half]) Rk O O O O O O O O) (G7 (hK27 (Gt [(7,E0 r3),(8,OW 1114 1 G0 s23),(10,Ed y23),(14,E1 l),(15,Ej l.length),(16,Ej i23)] [(1114,.spare 3 1 s23.length s23.length)] 1115 rfl rfl rfl ⟨⟨_,rfl,.same⟩,G⟩ rfl (by repeat' (first | exact .ptr | constructor)) ?_))))))))
   refine Jr fun hK28=>(Yv (E0 r3) O (JLh (.dptr ((Stowed.cs y23).drop 1)) (Gf Jq O O O) O (JLh (.dptr ((Stowed.cs y23).drop 1)) (Gf Jy O O O) O (JLh (G0 y23.Slot.G4) (Gj Gb O O O) O ?_))))
   obtain⟨r29,hr29,h⟩:=Gd h
   refine JLh (BL r29) (Gu O (Yy r3 y23.Slot.G4 r29 hr29) H1e ⟨O,O,O,O,G⟩) O (G7 (hK28 (JCc O h (fun h hb=>?_) (fun h hb=>?_))))
   ·
    refine G3 (Yv (OW 1114 1 G0 s23) O (JLh (Ed y23) (Gf Hg O O O) O (JLh (G0 y23.G9) (Gj Gb O O O) O (JLh (E0 [y23.G9]) (H9 (xs:=[G0 y23.G9]) O ⟨O,O,G⟩ Gq Q1 O O O O) O ?_))))
    obtain⟨ha30,h⟩:=J7 h
    refine JLh (OW 1114 1 G0 (s23++[y23.G9])) (Rc (f:=G0) (xs:=s23) (ys:=[y23.G9]) O O O O Gq Zp ha30 (fun _=>O) (.inl O) O) O (Yv (OW 1114 1 G0 (s23++[y23.G9])) O (G7 (ej26 _ _ (s23++[y23.G9]) h ⟨(by repeat' constructor),⟨⟨_,rfl,.same⟩,G⟩,rfl⟩)))
   ·
    refine Gr (ej26 _ _ s23 h ⟨(by repeat' constructor),⟨⟨_,rfl,.same⟩,G⟩,rfl⟩)
  ·intro j26 h
   replace h:=app1 hkj26 h
   refine G3 (JLh (G0 ((i23+1:Nat):Int)) (Hx (Ho hk23 hm15) O O O) O (Yv (G0 ((i23+1:Nat):Int)) O (G7 (e23 _ _ (i23+1) j26 (app1 hn23 h) (by omega) ⟨(by repeat' constructor),⟨⟨_,rfl,.same⟩,G⟩,rfl⟩))))
 ·
  have h:=app1 hkx23 (Hr hi23 (Hc hb))
  refine Ht (hK5 (Jr fun hK31=>(Yv (OW 1114 1 G0 s23) O (Yv (OW 1114 1 G0 s23) O (G7 (hK31 (Gx (fin1l (fun r:(List Int)=>(E0 r:AV)) h))))))))
end
end Go.Proofs.YtpgkkengffpnpaaGreat
