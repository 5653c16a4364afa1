/-
 Models of functions of the program,and that they return what the models say.
-/
import Derived.Test.YtknalejjpofoaaaGreatSpecT
set_option maxRecDepth 100000
set_option maxHeartbeats 1000000
set_option linter.unusedVariables false
set_option linter.unusedSimpArgs false
namespace Go.Proofs.YtknalejjpofoaaaGreat
open Go.RowKit
noncomputable section
structure Hq where
 s:Gw
 boxes:List Gd
 l:List Stowed
 open_:List Int
 x:Stowed
 deriving DecidableEq,Inhabited
def Hq.cs (x:Hq):List AV:=[E4 x.s.Columns,E5 x.s.Covers,G0 x.s.Light.Kilos,G0 x.s.Light.X,G0 x.s.Light.Y,G0 x.s.Light.Z,E7 x.s.Rows,E8 x.s.Frames,E9 x.s.Tanks,G0 x.s.G2.Tolerance,G0 x.s.G2.Trim,G0 x.s.G2.List_,G0 x.s.G2.Stability,E3 x.boxes,E1 x.l,E2 x.open_,G0 x.x.Gd,G0 x.x.Slot.G4,G0 x.x.Slot.Tier,U8 x.x.Slot.Half]
def Hq.av (x:Hq):AV:=.agg x.cs
abbrev Em (x:Hq):AV:=.dptr (Hq.cs x)
namespace XPF
open XAF
open XCF
open XVF
open XMF
theorem tq_56 (a b:Move):Hb8 Ep 4 56 [.int .u8 a.Kind,.int .i64 a.Gd,.int .i64 a.Slot.G4,.int .i64 a.Slot.Tier,.int .u8 a.Slot.Half,.int .i64 a.G9] [.int .u8 b.Kind,.int .i64 b.Gd,.int .i64 b.Slot.G4,.int .i64 b.Slot.Tier,.int .u8 b.Slot.Half,.int .i64 b.G9]=some (decide (a=b)):=by
 refine(show _=some ((a.Kind==b.Kind)&&((a.Gd==b.Gd)&&(((a.Slot.G4==b.Slot.G4)&&((a.Slot.Tier==b.Slot.Tier)&&((a.Slot.Half==b.Slot.Half)&&true)))&&((a.G9==b.G9)&&true)))) by kernel_rfl).trans (congrArg some ?_)
 rw [Bool.eq_iff_iff]
 simp only [Bool.and_eq_true,beq_iff_eq,decide_eq_true_eq,Bool.and_true]
 constructor
 ·intro h; obtain⟨_,_,⟨_,_,_⟩,_⟩:=a; obtain⟨_,_,⟨_,_,_⟩,_⟩:=b; simp_all
 ·intro h; subst h; simp
theorem tq_82 (a b:Stowed):Hb8 Ep 4 82 [.int .i64 a.Gd,.int .i64 a.Slot.G4,.int .i64 a.Slot.Tier,.int .u8 a.Slot.Half] [.int .i64 b.Gd,.int .i64 b.Slot.G4,.int .i64 b.Slot.Tier,.int .u8 b.Slot.Half]=some (decide (a=b)):=by
 refine(show _=some ((a.Gd==b.Gd)&&(((a.Slot.G4==b.Slot.G4)&&((a.Slot.Tier==b.Slot.Tier)&&((a.Slot.Half==b.Slot.Half)&&true)))&&true)) by kernel_rfl).trans (congrArg some ?_)
 rw [Bool.eq_iff_iff]
 simp only [Bool.and_eq_true,beq_iff_eq,decide_eq_true_eq,Bool.and_true]
 constructor
 ·intro h; obtain⟨_,⟨_,_,_⟩⟩:=a; obtain⟨_,⟨_,_,_⟩⟩:=b; simp_all
 ·intro h; subst h; simp
theorem tq_94 (a b:H8):Hb8 Ep 4 94 [.int .i64 a.Bay,.int .i64 a.Phase,.int .i64 a.Lifts,.int .i64 a.Covers] [.int .i64 b.Bay,.int .i64 b.Phase,.int .i64 b.Lifts,.int .i64 b.Covers]=some (decide (a=b)):=by
 refine(show _=some ((a.Bay==b.Bay)&&((a.Phase==b.Phase)&&((a.Lifts==b.Lifts)&&((a.Covers==b.Covers)&&true)))) by kernel_rfl).trans (congrArg some ?_)
 rw [Bool.eq_iff_iff]
 simp only [Bool.and_eq_true,beq_iff_eq,decide_eq_true_eq,Bool.and_true]
 constructor
 ·intro h; obtain⟨_,_,_,_⟩:=a; obtain⟨_,_,_,_⟩:=b; simp_all
 ·intro h; subst h; simp
theorem Gd7:Gbf Ep 124 20=true:=by kernel_rfl
theorem Q95:G14 Ep 56=true:=by kernel_rfl
theorem J95:G14 Ep 82=true:=by kernel_rfl
theorem J94:G14 Ep 94=true:=by kernel_rfl
theorem H99:arr1B Ep 125 4=true:=by kernel_rfl
theorem Qe3:arrB Ep 125 60 1=true:=by kernel_rfl
theorem Q8d:H5 Ep 108=true:=by kernel_rfl
theorem Q80:H5 Ep 127=true:=by kernel_rfl
theorem Qde:H5 Ep 14=true:=by kernel_rfl
theorem Qdd:H5 Ep 15=true:=by kernel_rfl
theorem Qdc:H5 Ep 16=true:=by kernel_rfl
theorem Qdb:H5 Ep 17=true:=by kernel_rfl
theorem Qda:H5 Ep 18=true:=by kernel_rfl
theorem Jfe:H5 Ep 19=true:=by kernel_rfl
theorem Qd9:H5 Ep 20=true:=by kernel_rfl
theorem Qd8:H5 Ep 21=true:=by kernel_rfl
theorem Qd7:H5 Ep 22=true:=by kernel_rfl
theorem H98:H5 Ep 36=true:=by kernel_rfl
theorem Qcd:H5 Ep 37=true:=by kernel_rfl
theorem Jfb:H5 Ep 38=true:=by kernel_rfl
theorem Jfa:H5 Ep 39=true:=by kernel_rfl
theorem tf_call_4:H5 Ep 4=true:=by kernel_rfl
theorem Qcc:H5 Ep 40=true:=by kernel_rfl
theorem Qcb:H5 Ep 41=true:=by kernel_rfl
theorem Qca:H5 Ep 42=true:=by kernel_rfl
theorem Qc9:H5 Ep 43=true:=by kernel_rfl
theorem H97:H5 Ep 44=true:=by kernel_rfl
theorem Qc8:H5 Ep 47=true:=by kernel_rfl
theorem Qc7:H5 Ep 48=true:=by kernel_rfl
theorem Qc6:H5 Ep 49=true:=by kernel_rfl
theorem tf_call_5:H5 Ep 5=true:=by kernel_rfl
theorem Qc5:H5 Ep 50=true:=by kernel_rfl
theorem Jf8:H5 Ep 51=true:=by kernel_rfl
theorem Qc2:H5 Ep 56=true:=by kernel_rfl
theorem tf_call_6:H5 Ep 6=true:=by kernel_rfl
theorem Qbe:H5 Ep 69=true:=by kernel_rfl
theorem tf_call_7:H5 Ep 7=true:=by kernel_rfl
theorem Qbd:H5 Ep 71=true:=by kernel_rfl
theorem Jf0:H5 Ep 72=true:=by kernel_rfl
theorem Qbc:H5 Ep 75=true:=by kernel_rfl
theorem Qbb:H5 Ep 76=true:=by kernel_rfl
theorem tf_call_8:H5 Ep 8=true:=by kernel_rfl
theorem Qba:H5 Ep 80=true:=by kernel_rfl
theorem Qb6:H5 Ep 86=true:=by kernel_rfl
theorem Qb5:H5 Ep 87=true:=by kernel_rfl
theorem Qb4:H5 Ep 88=true:=by kernel_rfl
theorem tf_call_9:H5 Ep 9=true:=by kernel_rfl
theorem tf_eqg_56:Ep.eqGuardType Ep.depth 56=false:=by kernel_rfl
theorem Q55:Ep.eqGuardType Ep.depth 82=false:=by kernel_rfl
theorem Q54:Ep.eqGuardType Ep.depth 94=false:=by kernel_rfl
theorem H28:Ji Ep 124 0 0=true:=by kernel_rfl
theorem Je5:Ji Ep 124 1 13=true:=by kernel_rfl
theorem G61:Ji Ep 124 2 14=true:=by kernel_rfl
theorem Je4:Ji Ep 124 3 15=true:=by kernel_rfl
theorem G34:Ji Ep 124 4 16=true:=by kernel_rfl
theorem G26:Ji Ep 56 1 1=true:=by kernel_rfl
theorem Q47:placesOf Ep 124=some [(0,13),(13,1),(14,1),(15,1),(16,4)]:=by kernel_rfl
theorem Q62:placesOf Ep 35=some [(0,1),(1,1),(2,4),(6,1),(7,1),(8,1),(9,4)]:=by kernel_rfl
theorem Q61:Rk Ep 37=true:=by kernel_rfl
theorem Q77:R6 Ep 124 20=true:=by kernel_rfl
theorem Q6f:(Ep.info? 124).bind (fun i=>i.zero.map Value.cells)=some (List.toArray [.slice none 0 0,.slice none 0 0,E0,E0,E0,E0,.slice none 0 0,.slice none 0 0,.slice none 0 0,E0,E0,E0,E0,.slice none 0 0,.slice none 0 0,.slice none 0 0,E0,E0,E0,.int .u8 0]):=by kernel_rfl
theorem Q6e:(Ep.info? 125).bind (fun i=>i.zero.map Value.cells)=some (List.toArray [.nilFunc,.nilFunc,.nilFunc,.nilFunc]):=by kernel_rfl
theorem Q60:R3 Ep 124 20=true:=by kernel_rfl
theorem J8f:R3 Ep 35 13=true:=by kernel_rfl
end XPF
open XAF
open XCF
open XVF
open XMF
open XPF

def Yj (s:Gw) (boxes:List Gd) (l:List Stowed) (open_:List Int):Option Bool:=
 each (fun y22 i22 (s22:Unit) nx22=>
  bnd (bif ((!((decide (y22 < 0))||(decide ((s.Covers.length:Int)≤y22))))&&(decide (0 < (i22:Int)))) then Rc ((i22:Int) - 1) some else some 0) fun v28=>
  bnd (bif ((!((decide (y22 < 0))||(decide ((s.Covers.length:Int)≤y22))))&&(decide (0 < (i22:Int)))) then Q9 open_ v28 some else some default) fun y29=>
  bif (((decide (y22 < 0))||(decide ((s.Covers.length:Int)≤y22)))||((decide (0 < (i22:Int)))&&(decide (y22≤y29)))) then
  (some false)
  else
  (nx22 ()))
 (fun(s22:Unit)=>
  bnd (Re s boxes l) fun r32=>
  some r32) open_ 0 ()
theorem G79 (s:Gw) (boxes:List Gd) (l:List Stowed) (open_:List Int) (r:Bool) (h:Yj s boxes l open_=some r):Pure Ep 36 [.agg (Gw.cs s),E3 boxes,E1 l,E2 open_] (·=BL r):=by
 unfold Yj at h
 refine Gz [.tmp 8] Tryz.func36 O O (Jr fun hK1=>(JLh (.ptr 1099 0) (Jm (cs:=(Gw.cs s)) 1099 O O O O O) O (Yb (BL false) O (G7 (hK1 (Gq [(1,E3 boxes),(2,E1 l),(3,E2 open_),(4,Ef s)] [] 1099 rfl rfl rfl ø rfl (by repeat' (first | exact .ptr | constructor)) (Js fun hK2=>?_)))))))
 refine Jr fun hK3=>(Yb (E2 open_) O (JLl Gt O O O fun hm12=>(Yb (G0 0) O (G7 (hK3 (Gj ?_))))))
 obtain⟨b22,kx22,hb22,hkx22,h⟩:=J2 h
 refine Hb (fun i22 (s22:Unit)=>each b22 kx22 (List.drop i22 open_) i22 s22=some r) (fun i22 s22=>[(1,E3 boxes),(2,E1 l),(3,E2 open_),(4,Ef s),(11,E2 open_),(12,Eo open_.length),(13,Eo i22)]) (fun i22 s22=>[]) (fun i22=>open_.length - i22) 0 () h ⟨(.sm O O),ø,rfl⟩ ?_
 clear h
 intro i22 s22 hi22 K22 e22
 refine Jr fun hK23=>(JLh (BL (decide ((i22:Int) < (open_.length:Int)))) (J0 O O O) O (G7 (hK23 (Js fun hK24=>Gf O (fun hb=>?_) (fun hb=>?_)))))
 ·
  have hk22:=Jk hb
  obtain⟨y22,nx22,hy22,hn22,h⟩:=Hs hi22 hk22
  replace h:=Y4 hb22 h
  refine Gi (hK24 (Js fun hK25=>Gj (Jr fun hK26=>(Yb (Eo i22) O (JLh (.dptr [G0 y22]) (H3 (f:=G0) (xs:=open_) (y:=y22) O O O Gt hy22 O) O (JLh (G0 y22) (Gh Gb O O O) O (Yb (Eo i22) O (Yb (G0 y22) O (G7 (hK26 ?_))))))))))
  refine Jr fun hK27=>(Yb (G0 y22) O (JLh (BL (decide (y22 < 0))) (J0 O O O) O (Yb (BL (decide (y22 < 0))) O (JLo (G0 y22) [] O .scf ø (fun hc=>G6 O O) O (JLo (.dptr [E5 s.Covers,G0 s.Light.Kilos,G0 s.Light.X,G0 s.Light.Y,G0 s.Light.Z,E7 s.Rows,E8 s.Frames,E9 s.Tanks,G0 s.G2.Tolerance,G0 s.G2.Trim,G0 s.G2.List_,G0 s.G2.Stability]) [] O .scf ø (fun hc=>Ga Qq O O O) O (JLo (E5 s.Covers) [22] O .scf ⟨Ua,ø⟩ (fun hc=>Gh Rx O O O) O (JLo (Eo s.Covers.length) [23] O .scf ⟨Ua,ø⟩ (fun hc=>Yv (f:=G9.av) (xs:=s.Covers) Qs O O) O (JLo (BL (decide ((s.Covers.length:Int)≤y22))) [21,24] O .scf ⟨Ua,Ua,ø⟩ (fun hc=>G2f O O O) O (JLh (BL ((decide (y22 < 0))||(decide ((s.Covers.length:Int)≤y22)))) (G0b O O O O) O (Yb (BL ((decide (y22 < 0))||(decide ((s.Covers.length:Int)≤y22)))) O (JLo (Eo i22) [] O .scf ø (fun hc=>G6 O O) O (JLo (BL (decide (0 < (i22:Int)))) [28] O .scf ⟨Ua,ø⟩ (fun hc=>G43 O O O) O (JLo (BL (decide (0 < (i22:Int)))) [29] O .scf ⟨Ua,ø⟩ (fun hc=>G6 O O) O ?_)))))))))))))
  refine JLo (G0 y22) [] O .optt ø (fun hc=>G6 O O) O (JLo (E2 open_) [] O .optt ø (fun hc=>G6 O O) O (JLo (Eo i22) [] O .optt ø (fun hc=>G6 O O) O ?_))
  obtain⟨v28,hv28,h⟩:=Ge h
  refine JLo (G0 v28) [33] O .optt ⟨Ua,ø⟩ (fun hc=>Zn (G8d (Gx hc hv28)) O O O) O ?_
  obtain⟨y29,hy29,h⟩:=Ge h
  refine JLo (.dptr [G0 y29]) [32,34] O .optt ⟨Ua,Ua,ø⟩ (fun hc=>(match Yz (Gx hc hy29) with | ⟨_,hm_,hy_⟩=>H3 (f:=G0) (xs:=open_) (y:=y29) O O O Gt hy_ hm_)) O (JLo (G0 y29) [35] O .optt ⟨Ua,ø⟩ (fun hc=>Gh Gb O O O) O (JLo (BL (decide (y22≤y29))) [31,36] O .optt ⟨Ua,Ua,ø⟩ (fun hc=>H4a O O O) O (Gc (u:=BL ((decide (0 < (i22:Int)))&&(decide (y22≤y29)))) [(30,BL (decide (0 < (i22:Int)))),(37,_)] O O O .scf ⟨.all id,.part,ø⟩ (fun hc=>Qr O O O O) ?_)))
  refine JLh (BL (((decide (y22 < 0))||(decide ((s.Covers.length:Int)≤y22)))||((decide (0 < (i22:Int)))&&(decide (y22≤y29))))) (G0b O O O O) O (G7 (hK27 (JCc O h (fun h hb=>?_) (fun h hb=>?_))))
  ·
   refine Jr fun hK30=>(Yb (BL false) O (G7 (hK30 (Gs (fin1 BL h)))))
  ·
   refine Gi (hK25 (G3 (JLh (G0 ((i22+1:Nat):Int)) (Hu (Hj hk22 hm12) O O O) O (Yb (G0 ((i22+1:Nat):Int)) O (G7 (e22 _ _ (i22+1) () (app1 hn22 h) (by omega) ⟨(.sm O O),ø,rfl⟩))))))
 ·
  have h:=app1 hkx22 (Ht hi22 (Ha hb))
  refine Hm (hK2 (Jr fun hK31=>(JLh (.agg (Gw.cs s)) (Gg Ho O O O) O (Yb (E3 boxes) O (Yb (E1 l) O ?_)))))
  obtain⟨r32,hr32,h⟩:=Ge h
  refine JLh (BL r32) (Gv O (G35 s boxes l r32 hr32) Gd6 ⟨O,O,O,O,O,O,ø⟩) O (Yb (BL r32) O (G7 (hK31 (Gs (fin1 BL h)))))

def G6c (c:G4) (p1:Bool) (p2:Gw) (p3:Int):Option Bool:=
 bnd (bif (c.Deck==p1) then Q9 p2.Covers p3 some else some default) fun y3=>
 bnd (bif (c.Deck==p1) then G59 y3 c else some default) fun r4=>
 some ((c.Deck==p1)&&r4)
theorem J86 (c:G4) (p1:Bool) (p2:Gw) (p3:Int) (r:Bool) (h:G6c c p1 p2 p3=some r):Pure Ep 127 [.agg (G4.cs c),.dptr [BL p1],Ef p2,.dptr [G0 p3]] (·=BL r):=by
 unfold G6c at h
 refine Gz [.tmp 5] Tryz.func127 O O (Jr fun hK1=>(JLh (.ptr 1190 0) (Jm (cs:=(G4.cs c)) 1190 O O O O O) O (Yb (BL false) O (G7 (hK1 (Gq [(1,.dptr [BL p1]),(2,Ef p2),(3,.dptr [G0 p3]),(4,Ei c)] [] 1190 rfl rfl rfl ø rfl (by repeat' (first | exact .ptr | constructor)) (Js fun hK2=>?_)))))))
 obtain⟨y3,hy3,h⟩:=Ge h
 obtain⟨r4,hr4,h⟩:=Ge h
 refine JC_d0 Q6 (by kernel_rfl) (Dq (.dptr [BL c.Deck,G0 c.Tiers,G0 c.Height,G0 c.Kilos20,G0 c.Kilos40,G0 c.Lash,E2 c.Plugs,G0 c.X,G0 c.Y,G0 c.Z]) (Ga Ye O O O) O (Dq (BL c.Deck) (Gh Qm O O O) O (Dq (BL p1) (Gh Qm O O O) O (Dq (BL (c.Deck==p1)) (J6e H7a O O O) O (Dq (BL (c.Deck==p1)) (G6 O O) O (Do (.dptr ((Gw.cs p2).drop 1)) [] O .sct ø (fun hc=>Ga Qq O O O) O (Do (E5 p2.Covers) [11] O .sct ⟨Ua,ø⟩ (fun hc=>Gh Rx O O O) O (Do (G0 p3) [] O .sct ø (fun hc=>Gh Gb O O O) O (Do (.dptr [G0 y3.Bay,E2 y3.Rows]) [12,13] O .sct ⟨Ua,Ua,ø⟩ (fun hc=>(match Yz (Gx hc hy3) with | ⟨_,hm_,hy_⟩=>H3 (f:=G9.av) (xs:=p2.Covers) (y:=y3) O O O Qs hy_ hm_)) O (Do (.agg [G0 y3.Bay,E2 y3.Rows]) [14] O .sct ⟨Ua,ø⟩ (fun hc=>Gg H7b O O O) O (Do (.agg (G4.cs c)) [] O .sct ø (fun hc=>Gg G74 O O O) O (Do (BL r4) [15,16] O .sct ⟨Ua,Ua,ø⟩ (fun hc=>Gv (args:=[.agg [G0 y3.Bay,E2 y3.Rows],.agg (G4.cs c)]) O (Hb6 y3 c r4 (Gx hc hr4)) J92 ⟨O,O,O,O,ø⟩) O (Dq (BL ((c.Deck==p1)&&r4)) (Qr O O O O) O ?_)))))))))))))
 refine Dq (BL ((c.Deck==p1)&&r4)) (G8 O O) O (Dnil (hK2 (Gs (fin1 BL h))))

def H18 (s:Gw) (cover:Int) (deck:Bool):Option (List Int):=
 bif ((decide (cover < 0))||(decide ((s.Covers.length:Int)≤cover))) then
 (some [])
 else
 (bnd (Qp s.Columns (fun z0=>G6c z0 deck s cover)) fun r6=>
  some r6)
theorem Q32 (s:Gw) (cover:Int) (deck:Bool) (r:(List Int)) (h:H18 s cover deck=some r):Pure Ep 108 [.agg (Gw.cs s),G0 cover,BL deck] (·=E2 r):=by
 unfold H18 at h
 refine Gz [.tmp 6] Tryz.func108 O O (Jr fun hK1=>(JLh (.ptr 1179 0) (Jm (cs:=(Gw.cs s)) 1179 O O O O O) O (JLh (.ptr 1180 0) (Jm (cs:=[G0 cover]) 1180 O O O O O) O (JLh (.ptr 1181 0) (Jm (cs:=[BL deck]) 1181 O O O O O) O (JLh (E2 ([]:List Int)) (Hf 1 O O) O (G7 (hK1 ?_)))))))
 refine Gq [(3,Ef s),(4,.ptr 1180 0),(5,.ptr 1181 0)] [(1180,.box 3 [G0 cover]),(1181,.box 4 [BL deck])] 1179 rfl rfl rfl ⟨⟨_,rfl,.boxEq rfl rfl⟩,⟨_,rfl,.boxEq rfl rfl⟩,ø⟩ rfl (by exact⟨.ptr,.conv (.same rfl),.conv (.same rfl),ø⟩) ?_
 refine Gq [(3,Ef s),(4,.dptr [G0 cover]),(5,.ptr 1181 0)] [(1181,.box 4 [BL deck])] 1180 rfl rfl rfl ⟨⟨_,rfl,.boxEq rfl rfl⟩,ø⟩ rfl (by exact⟨.conv (.same rfl),.ptr,.conv (.same rfl),ø⟩) ?_
 refine Gq [(3,Ef s),(4,.dptr [G0 cover]),(5,.dptr [BL deck])] [] 1181 rfl rfl rfl ø rfl (by exact⟨.conv (.same rfl),.conv (.same rfl),.ptr,ø⟩) (Js fun hK2=>?_)
 refine Jr fun hK3=>(JLh (G0 cover) (Gh Gb O O O) O (JLh (BL (decide (cover < 0))) (J0 O O O) O (Yb (BL (decide (cover < 0))) O (JLo (G0 cover) [] O .scf ø (fun hc=>Gh Gb O O O) O (JLo (.dptr [E5 s.Covers,G0 s.Light.Kilos,G0 s.Light.X,G0 s.Light.Y,G0 s.Light.Z,E7 s.Rows,E8 s.Frames,E9 s.Tanks,G0 s.G2.Tolerance,G0 s.G2.Trim,G0 s.G2.List_,G0 s.G2.Stability]) [] O .scf ø (fun hc=>Ga Qq O O O) O (JLo (E5 s.Covers) [11] O .scf ⟨Ua,ø⟩ (fun hc=>Gh Rx O O O) O (JLo (Eo s.Covers.length) [12] O .scf ⟨Ua,ø⟩ (fun hc=>Yv (f:=G9.av) (xs:=s.Covers) Qs O O) O (JLo (BL (decide ((s.Covers.length:Int)≤cover))) [10,13] O .scf ⟨Ua,Ua,ø⟩ (fun hc=>G2f O O O) O (JLh (BL ((decide (cover < 0))||(decide ((s.Covers.length:Int)≤cover)))) (G0b O O O O) O (G7 (hK3 ?_)))))))))))
 refine JCc O h ?_ ?_<;>intro h hb
 ·
  refine Jr fun hK4=>(JLh (E2 ([]:List Int)) (Hf 1 O O) O (G7 (hK4 (Gs (fin1 (fun r:(List Int)=>(E2 r:AV)) h)))))
 ·
  refine Gi (hK2 ?_)
  refine Jr fun hK5=>(JLh (Ef s) (Ga J6 O O O) O (JLh (E4 s.Columns) (Gh Jj O O O) O (JLh (.fn 127 [.dptr [BL deck],Ef s,.dptr [G0 cover]]) (Z1 (cs:=[.dptr [BL deck],Ef s,.dptr [G0 cover]]) O O) O ?_)))
  obtain⟨r6,hr6,h⟩:=Ge h
  refine JLh (E2 r6) (Gv O (G80 s.Columns (fun z0=>G6c z0 deck s cover) 127 [.dptr [BL deck],Ef s,.dptr [G0 cover]] Q80 O (fun z0 q hq=>J86 z0 deck s cover q hq) r6 hr6) Jfd ⟨O,O,O,O,ø⟩) O (Yb (E2 r6) O (G7 (hK5 (Gs (fin1 (fun r:(List Int)=>(E2 r:AV)) h)))))

def Gff (s:Gw) (cover:Int):Option (List Int):=
 bnd (H18 s cover true) fun r3=>
 some r3
theorem M_ship_Upon_w (s:Gw) (cover:Int) (r:(List Int)) (h:Gff s cover=some r):Pure Ep 69 [.agg (Gw.cs s),G0 cover] (·=E2 r):=by
 unfold Gff at h
 refine Gz [.tmp 4] Tryz.func69 O O (Jr fun hK1=>(JLh (.ptr 1148 0) (Jm (cs:=(Gw.cs s)) 1148 O O O O O) O (JLh (E2 ([]:List Int)) (Hf 1 O O) O (G7 (hK1 (Gq [(1,G0 cover),(2,Ef s)] [] 1148 rfl rfl rfl ø rfl (by exact⟨.conv (.same rfl),.ptr,ø⟩) ?_))))))
 refine Jr fun hK2=>(JLh (.agg (Gw.cs s)) (Gg Ho O O O) O (Yb (G0 cover) O ?_))
 obtain⟨r3,hr3,h⟩:=Ge h
 refine JLh (E2 r3) (Gv O (Q32 s cover true r3 hr3) Q8d ⟨O,O,O,O,O,O,ø⟩) O (Yb (E2 r3) O (G7 (hK2 (Gs (fin1 (fun r:(List Int)=>(E2 r:AV)) h)))))

def Gf8 (s:Gw) (l:List Stowed) (cover:Int):Option (List Int):=
 bnd (Gff s cover) fun r3=>
 each (fun y23 i23 (s23:(List Int)) nx23=>
  jp (fun kj26=>
   bnd (Jb r3 y23.Slot.G4) fun r29=>
   bif r29 then
   (need (decide ((s23.length+[y23.Gd].length)*8≤140737488355328∧s23.length+[y23.Gd].length≤maxLen)) <|
    kj26 (s23++[y23.Gd]))
   else
   (kj26 s23)) fun(j26:(List Int))=>
  nx23 j26)
 (fun(s23:(List Int))=>
  some s23) l 0 []
theorem M_stow_upon_w (s:Gw) (l:List Stowed) (cover:Int) (r:(List Int)) (h:Gf8 s l cover=some r):Pure Ep 37 [.agg (Gw.cs s),E1 l,G0 cover] (·=E2 r):=by
 unfold Gf8 at h
 refine Gz [.tmp 6] Tryz.func37 O O (Jr fun hK1=>(JLh (.ptr 1100 0) (Jm (cs:=(Gw.cs s)) 1100 O O O O O) O (JLh (E2 ([]:List Int)) (Hf 1 O O) O (G7 (hK1 (Gq [(1,E1 l),(2,G0 cover),(3,Ef s)] [] 1100 rfl rfl rfl ø rfl (by exact⟨.conv (.same rfl),.conv (.same rfl),.ptr,ø⟩) ?_))))))
 refine Jr fun hK2=>(JLh (.agg (Gw.cs s)) (Gg Ho O O O) O (Yb (G0 cover) O ?_))
 obtain⟨r3,hr3,h⟩:=Ge h
 refine JLh (E2 r3) (Gv O (M_ship_Upon_w s cover r3 hr3) Qbe ⟨O,O,O,O,ø⟩) O (Yb (E2 r3) O (G7 (hK2 (Jr fun hK4=>(JLh (OW 1101 1 G0 ([]:List Int)) (G24 1101 3 1 O O O) O (G7 (hK4 (Js fun hK5=>Jr fun hK6=>(Yb (E1 l) O (JLl Gy O O O fun hm15=>(Yb (G0 0) O (G7 (hK6 (Gj ?_))))))))))))))
 obtain⟨b23,kx23,hb23,hkx23,h⟩:=J2 h
 refine Hb (fun i23 (s23:(List Int))=>each b23 kx23 (List.drop i23 l) i23 s23=some r) (fun i23 s23=>[(7,E2 r3),(8,OW 1101 1 G0 s23),(14,E1 l),(15,Eo l.length),(16,Eo i23)]) (fun i23 s23=>[(1101,.spare 3 1 s23.length s23.length)]) (fun i23=>l.length - i23) 0 [] h ⟨(.sm O O),⟨⟨_,rfl,.same⟩,ø⟩,rfl⟩ ?_
 clear h
 intro i23 s23 hi23 K23 e23
 refine Jr fun hK24=>(JLh (BL (decide ((i23:Int) < (l.length:Int)))) (J0 O O O) O (G7 (hK24 (Js fun hK25=>Gf O (fun hb=>?_) (fun hb=>?_)))))
 ·
  have hk23:=Jk hb
  obtain⟨y23,nx23,hy23,hn23,h⟩:=Hs hi23 hk23
  replace h:=Y4 hb23 h
  refine Gi (hK25 ?_)
  obtain⟨kj26,hkj26,h⟩:=Qo h
  refine Jx (fun j26:(List Int)=>kj26 j26=some r) (fun j26=>[(7,E2 r3),(8,OW 1101 1 G0 j26),(14,E1 l),(15,Eo l.length),(16,Eo i23)]) (fun j26=>[(1101,.spare 3 1 j26.length j26.length)]) (fun Kj26 ej26=>?_) ?_
  ·
   refine Gj (Jr fun hK27=>(JLh (Eg y23) (H3 (f:=Stowed.av) (xs:=l) (y:=y23) O O O Gy hy23 O) O (JLh (.agg (Stowed.cs y23)) (Gg Jg O O O) O (JLh (.ptr 1102 0) (Hx 1102 4 Jo O O) O (Hw (u:=.junk) (Hd (u:=.agg (Stowed.cs y23)) (ds:=[G0 y23.Gd,G0 y23.Slot.G4,G0 y23.Slot.Tier,U8 y23.Slot.Half]) Qh O O O O O O O O) (G7 (hK27 (Gq [(7,E2 r3),(8,OW 1101 1 G0 s23),(10,Eg y23),(14,E1 l),(15,Eo l.length),(16,Eo i23)] [(1101,.spare 3 1 s23.length s23.length)] 1102 rfl rfl rfl ⟨⟨_,rfl,.same⟩,ø⟩ rfl (by repeat' (first | exact .ptr | constructor)) ?_))))))))
   refine Jr fun hK28=>(Yb (E2 r3) O (JLh (.dptr ((Stowed.cs y23).drop 1)) (Ga Hr O O O) O (JLh (.dptr ((Stowed.cs y23).drop 1)) (Ga J9 O O O) O (JLh (G0 y23.Slot.G4) (Gh Gb O O O) O ?_))))
   obtain⟨r29,hr29,h⟩:=Ge h
   refine JLh (BL r29) (Gv O (Y8 r3 y23.Slot.G4 r29 hr29) H2a ⟨O,O,O,O,ø⟩) O (G7 (hK28 (JCc O h (fun h hb=>?_) (fun h hb=>?_))))
   ·
    refine G3 (Yb (OW 1101 1 G0 s23) O (JLh (Eg y23) (Ga J5 O O O) O (JLh (G0 y23.Gd) (Gh Gb O O O) O (JLh (E2 [y23.Gd]) (H6 (xs:=[G0 y23.Gd]) O ⟨O,O,ø⟩ Gt Qn O O O O) O ?_))))
    obtain⟨ha30,h⟩:=Jd h
    refine JLh (OW 1101 1 G0 (s23++[y23.Gd])) (Qk (f:=G0) (xs:=s23) (ys:=[y23.Gd]) O O O O Gt Yy ha30 (fun _=>O) (.inl O) O) O (Yb (OW 1101 1 G0 (s23++[y23.Gd])) O (G7 (ej26 _ _ (s23++[y23.Gd]) h ⟨(.sm O O),⟨⟨_,rfl,.same⟩,ø⟩,rfl⟩)))
   ·
    refine Gi (ej26 _ _ s23 h ⟨(.sm O O),⟨⟨_,rfl,.same⟩,ø⟩,rfl⟩)
  ·intro j26 h
   replace h:=app1 hkj26 h
   refine G3 (JLh (G0 ((i23+1:Nat):Int)) (Hu (Hj hk23 hm15) O O O) O (Yb (G0 ((i23+1:Nat):Int)) O (G7 (e23 _ _ (i23+1) j26 (app1 hn23 h) (by omega) ⟨(.sm O O),⟨⟨_,rfl,.same⟩,ø⟩,rfl⟩))))
 ·
  have h:=app1 hkx23 (Ht hi23 (Ha hb))
  refine Hm (hK5 (Jr fun hK31=>(Yb (OW 1101 1 G0 s23) O (Yb (OW 1101 1 G0 s23) O (G7 (hK31 (Gs (fin1l (fun r:(List Int)=>(E2 r:AV)) h))))))))

def G6f (x:Int) (y:Int):Option Bool:=
 bnd (Yu x) fun r3=>
 bnd (bif r3 then Yu y else some default) fun r4=>
 some ((r3&&(!r4))||(decide (x < y)))
theorem J8a (x:Int) (y:Int) (r:Bool) (h:G6f x y=some r):Pure Ep 71 [G0 x,G0 y] (·=BL r):=by
 unfold G6f at h
 refine Gz [.tmp 4] Tryz.func71 O O (Jr fun hK1=>(Yb (BL false) O (G7 (hK1 (Jr fun hK2=>(Yb (G0 x) O ?_))))))
 obtain⟨r3,hr3,h⟩:=Ge h
 refine JLh (BL r3) (Gv O (G5e x r3 hr3) H95 ⟨O,O,ø⟩) O (Yb (BL r3) O (JLo (G0 y) [] O .sct ø (fun hc=>G6 O O) O ?_))
 obtain⟨r4,hr4,h⟩:=Ge h
 refine JLo (BL r4) [8] O .sct ⟨Ua,ø⟩ (fun hc=>Gv (args:=[G0 y]) O (G5e y r4 (Gx hc hr4)) H95 ⟨O,O,ø⟩) O (JLo (BL (!r4)) [9] O .sct ⟨Ua,ø⟩ (fun hc=>Rv (b:=r4) O O) O (JLh (BL (r3&&(!r4))) (Qr O O O O) O (Yb (BL (r3&&(!r4))) O (JLo (G0 x) [] O .scf ø (fun hc=>G6 O O) O (JLo (G0 y) [] O .scf ø (fun hc=>G6 O O) O (JLo (BL (decide (x < y))) [13,14] O .scf ⟨Ua,Ua,ø⟩ (fun hc=>J0 O O O) O (JLh (BL ((r3&&(!r4))||(decide (x < y)))) (G0b O O O O) O (Yb (BL ((r3&&(!r4))||(decide (x < y)))) O (G7 (hK2 (Gs (fin1 BL h))))))))))))

def G0f (x:Int):Option Bool:=
 some (decide (x≠x))
theorem Gfc (x:Int) (r:Bool) (h:G0f x=some r):Pure Ep 72 [G0 x] (·=BL r):=by
 unfold G0f at h
 refine Gz [.tmp 2] Tryz.func72 O O (Jr fun hK1=>(Yb (BL false) O (G7 (hK1 (Jr fun hK2=>(Yb (G0 x) O (Yb (G0 x) O (JLh (BL (decide (x≠x))) (G71 O O O) O (Yb (BL (decide (x≠x))) O (G7 (hK2 (Gs (fin1 BL h)))))))))))))

def Qt (F:Nat) (x:List Int) (target:Int):Option (Int×Bool):=
 loop (fun nx16 (s16:Int×Int)=>
  bif decide (s16.1 < s16.2) then
  (Rc (s16.1+s16.2) fun v20=>
   Rc (G81 .u64 (IntKind.u64.wrap v20) 1) fun v21=>
   Q9 x v21 fun y23=>
   bnd (G6f y23 target) fun r25=>
   bif r25 then
   (Rc (v21+1) fun v26=>
    nx16 (v26,s16.2))
   else
   (nx16 (s16.1,v21)))
  else
  (bnd (bif decide (s16.1 < (x.length:Int)) then Q9 x s16.1 some else some default) fun y28=>
   bnd (bif ((decide (s16.1 < (x.length:Int)))&&!(decide (y28=target))) then Q9 x s16.1 some else some default) fun y29=>
   bnd (bif ((decide (s16.1 < (x.length:Int)))&&!(decide (y28=target))) then G0f y29 else some default) fun r30=>
   bnd (bif (((decide (s16.1 < (x.length:Int)))&&!(decide (y28=target)))&&r30) then G0f target else some default) fun r31=>
   some (s16.1,((decide (s16.1 < (x.length:Int)))&&((decide (y28=target))||(r30&&r31)))))) F (0,(x.length:Int))
theorem G5d (F:Nat) (x:List Int) (target:Int) (r:Int×Bool) (h:Qt F x target=some r):Pure Ep 38 [E2 x,G0 target] (·=.tup [G0 r.1,BL r.2]):=by
 unfold Qt at h
 refine Gz [.tmp 4,.tmp 5] Tryz.func38 O O (Jr fun hK1=>(Yb (G0 0) O (Yb (BL false) O (G7 (hK1 (Jr fun hK2=>(Yb (E2 x) O (JLl Gt O O O fun hm11=>(Yb (Eo x.length) O (G7 (hK2 (Jr fun hK3=>(Yb (Eo x.length) O (Yb (G0 0) O (Yb (Eo x.length) O (G7 (hK3 (Js fun hK4=>Gj ?_))))))))))))))))))
 obtain⟨b16,hb16,h⟩:=G48 h
 refine Hb (fun i16 (s16:Int×Int)=>loop b16 i16 s16=some r) (fun i16 s16=>[(0,E2 x),(1,G0 target),(6,Eo x.length),(7,G0 s16.1),(8,G0 s16.2)]) (fun i16 s16=>[]) (fun i16=>i16) F (0,(x.length:Int)) h ⟨(.sm O O),ø,rfl⟩ ?_
 clear h
 intro i16 s16 hi16 K16 e16
 obtain⟨m16,nx16,hm_16,hn16,h⟩:=G0c hi16
 replace h:=J35 hb16 h
 refine Js fun hK17=>Jr fun hK18=>(Yb (G0 s16.1) O (Yb (G0 s16.2) O (JLh (BL (decide (s16.1 < s16.2))) (J0 O O O) O (G7 (hK18 (JCc O h (fun h hb=>?_) (fun h hb=>?_)))))))
 ·
  refine Gi (hK17 (Gj (Jr fun hK19=>(Yb (G0 s16.1) O (Yb (G0 s16.2) O ?_)))))
  obtain⟨v20,hv20,h⟩:=Hv h
  refine JLh (G0 v20) (Hu hv20 O O O) O (JLh (.sc (.int .u64 (IntKind.u64.wrap v20))) (G4e H26 Zf O O O) O (JLh (.sc (.int .u64 (G81 .u64 (IntKind.u64.wrap v20) 1))) (He9 (s:=1) O O O O) O ?_))
  obtain⟨v21,hv21,h⟩:=Hv h
  refine JLh (G0 v21) (G4e Zf H26 hv21 O O) O (Yb (G0 v21) O (G7 (hK19 (Jr fun hK22=>(Yb (E2 x) O (Yb (G0 v21) O ?_))))))
  obtain⟨m24,y23,hm24,hy23,h⟩:=Y0 h
  refine JLh (.dptr [G0 y23]) (H3 (f:=G0) (xs:=x) (y:=y23) O O O Gt hy23 hm24) O (JLh (G0 y23) (Gh Gb O O O) O (Yb (G0 target) O ?_))
  obtain⟨r25,hr25,h⟩:=Ge h
  refine JLh (BL r25) (Gv O (J8a y23 target r25 hr25) Qbd ⟨O,O,O,O,ø⟩) O (G7 (hK22 (JCc O h (fun h hb=>?_) (fun h hb=>?_))))
  ·
   refine G3 (Yb (G0 v21) O ?_)
   obtain⟨v26,hv26,h⟩:=Hv h
   refine JLh (G0 v26) (Hu hv26 O O O) O (Yb (G0 v26) O (G7 (e16 _ _ m16 (v26,s16.2) (app1 hn16 h) (by omega) ⟨(.sm O O),ø,rfl⟩)))
  ·
   refine G3 (Yb (G0 v21) O (Yb (G0 v21) O (G7 (e16 _ _ m16 (s16.1,v21) (app1 hn16 h) (by omega) ⟨(.sm O O),ø,rfl⟩))))
 ·
  refine Hm (hK4 (Jr fun hK27=>(Yb (G0 s16.1) O (Yb (G0 s16.1) O (Yb (Eo x.length) O (JLh (BL (decide (s16.1 < (x.length:Int)))) (J0 O O O) O (Yb (BL (decide (s16.1 < (x.length:Int)))) O (JLo (E2 x) [] O .sct ø (fun hc=>G6 O O) O (JLo (G0 s16.1) [] O .sct ø (fun hc=>G6 O O) O ?_)))))))))
  obtain⟨y28,hy28,h⟩:=Ge h
  refine JLo (.dptr [G0 y28]) [36,37] O .sct ⟨Ua,Ua,ø⟩ (fun hc=>(match Yz (Gx hc hy28) with | ⟨_,hm_,hy_⟩=>H3 (f:=G0) (xs:=x) (y:=y28) O O O Gt hy_ hm_)) O (JLo (G0 y28) [38] O .sct ⟨Ua,ø⟩ (fun hc=>Gh Gb O O O) O (JLo (G0 target) [] O .sct ø (fun hc=>G6 O O) O (JLo (BL (decide (y28=target))) [39,40] O .sct ⟨Ua,Ua,ø⟩ (fun hc=>Jz O O O) O (JLo (BL (decide (y28=target))) [41] O .sct ⟨Ua,ø⟩ (fun hc=>G6 O O) O (JLo (E2 x) [] O .optf ø (fun hc=>G6 O O) O (JLo (G0 s16.1) [] O .optf ø (fun hc=>G6 O O) O ?_))))))
  obtain⟨y29,hy29,h⟩:=Ge h
  refine JLo (.dptr [G0 y29]) [43,44] O .optf ⟨Ua,Ua,ø⟩ (fun hc=>(match Yz (Gx hc hy29) with | ⟨_,hm_,hy_⟩=>H3 (f:=G0) (xs:=x) (y:=y29) O O O Gt hy_ hm_)) O (JLo (G0 y29) [45] O .optf ⟨Ua,ø⟩ (fun hc=>Gh Gb O O O) O ?_)
  obtain⟨r30,hr30,h⟩:=Ge h
  refine JLo (BL r30) [46] O .optf ⟨Ua,ø⟩ (fun hc=>Gv (args:=[G0 y29]) O (Gfc y29 r30 (Gx hc hr30)) Jf0 ⟨O,O,ø⟩) O (JLo (BL r30) [47] O .optf ⟨Ua,ø⟩ (fun hc=>G6 O O) O (JLo (G0 target) [] O .optt ø (fun hc=>G6 O O) O ?_))
  obtain⟨r31,hr31,h⟩:=Ge h
  refine JLo (BL r31) [49] O .optt ⟨Ua,ø⟩ (fun hc=>Gv (args:=[G0 target]) O (Gfc target r31 (Gx hc hr31)) Jf0 ⟨O,O,ø⟩) O (Gc (u:=BL (r30&&r31)) [(48,BL r30),(50,_)] O O O .optf ⟨.all id,.part,ø⟩ (fun hc=>Qr O O O O) ?_)
  refine Gc (u:=BL ((decide (y28=target))||(r30&&r31))) [(42,BL (decide (y28=target))),(51,_)] O O O .sct ⟨.all id,.part,ø⟩ (fun hc=>G0b O O O O) ?_
  refine JLh (BL ((decide (s16.1 < (x.length:Int)))&&((decide (y28=target))||(r30&&r31)))) (Qr O O O O) O (Yb (G0 s16.1) O (Yb (BL ((decide (s16.1 < (x.length:Int)))&&((decide (y28=target))||(r30&&r31)))) O (G7 (hK27 (Gs (⟨[G0 s16.1,BL ((decide (s16.1 < (x.length:Int)))&&((decide (y28=target))||(r30&&r31)))],[],ø,O,⟨⟨_,O,.conv (.same O)⟩,⟨_,O,.conv (.same O)⟩,ø⟩,O,congrArg (fun r:Int×Bool=>(.tup [G0 r.1,BL r.2]:AV)) (Option.some.inj h)⟩))))))

def Gfb (F:Nat) (s:Gw) (boxes:List Gd) (l:List Stowed) (open_:List Int) (cover:Int):Option ((List Int)×Int):=
 bnd (Yj s boxes l open_) fun r4=>
 bif (!r4) then
 (some ([],2))
 else
 (bif ((decide (cover < 0))||(decide ((s.Covers.length:Int)≤cover))) then
  (some ([],6))
  else
  (bnd (Gf8 s l cover) fun r9=>
   bif decide (0 < (r9.length:Int)) then
   (some ([],95))
   else
   (bnd (Qt F open_ cover) fun r12=>
    bif r12.2 then
    (bnd (Q3 open_) fun r16=>
     some (r16,0))
    else
    (bnd (G51 open_ r12.1 cover) fun r18=>
     some (r18,0)))))
theorem M_stow_Open_w (F:Nat) (s:Gw) (boxes:List Gd) (l:List Stowed) (open_:List Int) (cover:Int) (r:(List Int)×Int) (h:Gfb F s boxes l open_ cover=some r):Pure Ep 14 [.agg (Gw.cs s),E3 boxes,E1 l,E2 open_,G0 cover] (·=.tup [E2 r.1,G0 r.2]):=by
 unfold Gfb at h
 refine Gz [.tmp 10,.tmp 11] Tryz.func14 O O (Jr fun hK1=>(JLh (.ptr 1051 0) (Jm (cs:=(Gw.cs s)) 1051 O O O O O) O (JLh (E2 ([]:List Int)) (Hf 1 O O) O (Yb (G0 0) O (G7 (hK1 ?_))))))
 refine Gq [(1,E3 boxes),(2,E1 l),(3,E2 open_),(4,G0 cover),(5,Ef s)] [] 1051 rfl rfl rfl ø rfl (by repeat' (first | exact .ptr | constructor)) (Js fun hK2=>Gj ?_)
 refine Jr fun hK3=>(JLh (.agg (Gw.cs s)) (Gg Ho O O O) O (Yb (E3 boxes) O (Yb (E1 l) O (Yb (E2 open_) O ?_))))
 obtain⟨r4,hr4,h⟩:=Ge h
 refine JLh (BL r4) (Gv O (G79 s boxes l open_ r4 hr4) H98 ⟨O,O,O,O,O,O,O,O,ø⟩) O (JLh (BL (!r4)) (Rv (b:=r4) O O) O (Yb (BL (!r4)) O (G7 (hK3 (JCc O h (fun h hb=>?_) (fun h hb=>?_))))))
 ·
  refine Jr fun hK5=>(JLh (E2 ([]:List Int)) (Hf 1 O O) O (Yb (G0 2) O (G7 (hK5 (Gs (⟨[E2 ([]:List Int),G0 2],[],ø,O,⟨⟨_,O,.conv (.same O)⟩,⟨_,O,.conv (.same O)⟩,ø⟩,O,congrArg (fun r:(List Int)×Int=>(.tup [E2 r.1,G0 r.2]:AV)) (Option.some.inj h)⟩))))))
 ·
  refine Jr fun hK6=>(Yb (G0 cover) O (JLh (BL (decide (cover < 0))) (J0 O O O) O (Yb (BL (decide (cover < 0))) O (JLo (G0 cover) [] O .scf ø (fun hc=>G6 O O) O (JLo (.dptr [E5 s.Covers,G0 s.Light.Kilos,G0 s.Light.X,G0 s.Light.Y,G0 s.Light.Z,E7 s.Rows,E8 s.Frames,E9 s.Tanks,G0 s.G2.Tolerance,G0 s.G2.Trim,G0 s.G2.List_,G0 s.G2.Stability]) [] O .scf ø (fun hc=>Ga Qq O O O) O (JLo (E5 s.Covers) [26] O .scf ⟨Ua,ø⟩ (fun hc=>Gh Rx O O O) O (JLo (Eo s.Covers.length) [27] O .scf ⟨Ua,ø⟩ (fun hc=>Yv (f:=G9.av) (xs:=s.Covers) Qs O O) O (JLo (BL (decide ((s.Covers.length:Int)≤cover))) [25,28] O .scf ⟨Ua,Ua,ø⟩ (fun hc=>G2f O O O) O (JLh (BL ((decide (cover < 0))||(decide ((s.Covers.length:Int)≤cover)))) (G0b O O O O) O (Yb (BL ((decide (cover < 0))||(decide ((s.Covers.length:Int)≤cover)))) O (G7 (hK6 ?_))))))))))))
  refine JCc O h ?_ ?_<;>intro h hb
  ·
   refine Jr fun hK7=>(JLh (E2 ([]:List Int)) (Hf 1 O O) O (Yb (G0 6) O (G7 (hK7 (Gs (⟨[E2 ([]:List Int),G0 6],[],ø,O,⟨⟨_,O,.conv (.same O)⟩,⟨_,O,.conv (.same O)⟩,ø⟩,O,congrArg (fun r:(List Int)×Int=>(.tup [E2 r.1,G0 r.2]:AV)) (Option.some.inj h)⟩))))))
  ·
   refine Jr fun hK8=>(JLh (.agg (Gw.cs s)) (Gg Ho O O O) O (Yb (E1 l) O (Yb (G0 cover) O ?_)))
   obtain⟨r9,hr9,h⟩:=Ge h
   refine JLh (E2 r9) (Gv O (M_stow_upon_w s l cover r9 hr9) Qcd ⟨O,O,O,O,O,O,ø⟩) O (JLl Gt O O O fun hm36=>(JLh (BL (decide (0 < (r9.length:Int)))) (G43 O O O) O (Yb (BL (decide (0 < (r9.length:Int)))) O (G7 (hK8 (JCc O h (fun h hb=>?_) (fun h hb=>?_)))))))
   ·
    refine Jr fun hK10=>(JLh (E2 ([]:List Int)) (Hf 1 O O) O (Yb (G0 95) O (G7 (hK10 (Gs (⟨[E2 ([]:List Int),G0 95],[],ø,O,⟨⟨_,O,.conv (.same O)⟩,⟨_,O,.conv (.same O)⟩,ø⟩,O,congrArg (fun r:(List Int)×Int=>(.tup [E2 r.1,G0 r.2]:AV)) (Option.some.inj h)⟩))))))
   ·
    refine Gi (hK2 (Jr fun hK11=>(Yb (E2 open_) O (Yb (G0 cover) O ?_))))
    obtain⟨r12,hr12,h⟩:=Ge h
    refine JLh (.tup [G0 r12.1,BL r12.2]) (Gv O (G5d F open_ cover r12 hr12) Jfb ⟨O,O,O,O,ø⟩) O (Yb (.tup [G0 r12.1,BL r12.2]) O (JLh (G0 r12.1) (Hk O O O) O (JLh (BL r12.2) (Hk O O O) O (Yb (G0 r12.1) O (Yb (BL r12.2) O (G7 (hK11 (Js fun hK13=>Jr fun hK14=>(Yb (BL r12.2) O (G7 (hK14 (JCc O h (fun h hb=>?_) (fun h hb=>?_)))))))))))))
    ·
     refine Jr fun hK15=>(Yb (E2 open_) O ?_)
     obtain⟨r16,hr16,h⟩:=Ge h
     refine JLh (E2 r16) (Gv O (Gfd open_ r16 hr16) Jfa ⟨O,O,ø⟩) O (Yb (E2 r16) O (Yb (G0 0) O (G7 (hK15 (Gs (⟨[E2 r16,G0 0],[],ø,O,⟨⟨_,O,.conv (.same O)⟩,⟨_,O,.conv (.same O)⟩,ø⟩,O,congrArg (fun r:(List Int)×Int=>(.tup [E2 r.1,G0 r.2]:AV)) (Option.some.inj h)⟩))))))
    ·
     refine Gi (hK13 (Jr fun hK17=>(Yb (E2 open_) O (Yb (G0 r12.1) O (Yb (G0 cover) O ?_)))))
     obtain⟨r18,hr18,h⟩:=Ge h
     refine JLh (E2 r18) (Gv O (J61.down open_ r12.1 cover r18 hr18) Qcc ⟨O,O,O,O,O,O,ø⟩) O (Yb (E2 r18) O (Yb (G0 0) O (G7 (hK17 (Gs (⟨[E2 r18,G0 0],[],ø,O,⟨⟨_,O,.conv (.same O)⟩,⟨_,O,.conv (.same O)⟩,ø⟩,O,congrArg (fun r:(List Int)×Int=>(.tup [E2 r.1,G0 r.2]:AV)) (Option.some.inj h)⟩))))))

def Gc3 (F:Nat) (s:Gw) (boxes:List Gd) (l:List Stowed) (open_:List Int) (cover:Int):Option ((List Int)×Int):=
 bnd (Yj s boxes l open_) fun r4=>
 bif (!r4) then
 (some ([],2))
 else
 (bif ((decide (cover < 0))||(decide ((s.Covers.length:Int)≤cover))) then
  (some ([],6))
  else
  (bnd (Qt F open_ cover) fun r9=>
   bif (!r9.2) then
   (bnd (Q3 open_) fun r13=>
    some (r13,0))
   else
   (bnd (G0d open_ r9.1) fun r15=>
    some (r15,0))))
theorem Q2d (F:Nat) (s:Gw) (boxes:List Gd) (l:List Stowed) (open_:List Int) (cover:Int) (r:(List Int)×Int) (h:Gc3 F s boxes l open_ cover=some r):Pure Ep 15 [.agg (Gw.cs s),E3 boxes,E1 l,E2 open_,G0 cover] (·=.tup [E2 r.1,G0 r.2]):=by
 unfold Gc3 at h
 refine Gz [.tmp 10,.tmp 11] Tryz.func15 O O (Jr fun hK1=>(JLh (.ptr 1052 0) (Jm (cs:=(Gw.cs s)) 1052 O O O O O) O (JLh (E2 ([]:List Int)) (Hf 1 O O) O (Yb (G0 0) O (G7 (hK1 ?_))))))
 refine Gq [(1,E3 boxes),(2,E1 l),(3,E2 open_),(4,G0 cover),(5,Ef s)] [] 1052 rfl rfl rfl ø rfl (by repeat' (first | exact .ptr | constructor)) (Js fun hK2=>Gj ?_)
 refine Jr fun hK3=>(JLh (.agg (Gw.cs s)) (Gg Ho O O O) O (Yb (E3 boxes) O (Yb (E1 l) O (Yb (E2 open_) O ?_))))
 obtain⟨r4,hr4,h⟩:=Ge h
 refine JLh (BL r4) (Gv O (G79 s boxes l open_ r4 hr4) H98 ⟨O,O,O,O,O,O,O,O,ø⟩) O (JLh (BL (!r4)) (Rv (b:=r4) O O) O (Yb (BL (!r4)) O (G7 (hK3 (JCc O h (fun h hb=>?_) (fun h hb=>?_))))))
 ·
  refine Jr fun hK5=>(JLh (E2 ([]:List Int)) (Hf 1 O O) O (Yb (G0 2) O (G7 (hK5 (Gs (⟨[E2 ([]:List Int),G0 2],[],ø,O,⟨⟨_,O,.conv (.same O)⟩,⟨_,O,.conv (.same O)⟩,ø⟩,O,congrArg (fun r:(List Int)×Int=>(.tup [E2 r.1,G0 r.2]:AV)) (Option.some.inj h)⟩))))))
 ·
  refine Jr fun hK6=>(Yb (G0 cover) O (JLh (BL (decide (cover < 0))) (J0 O O O) O (Yb (BL (decide (cover < 0))) O (JLo (G0 cover) [] O .scf ø (fun hc=>G6 O O) O (JLo (.dptr [E5 s.Covers,G0 s.Light.Kilos,G0 s.Light.X,G0 s.Light.Y,G0 s.Light.Z,E7 s.Rows,E8 s.Frames,E9 s.Tanks,G0 s.G2.Tolerance,G0 s.G2.Trim,G0 s.G2.List_,G0 s.G2.Stability]) [] O .scf ø (fun hc=>Ga Qq O O O) O (JLo (E5 s.Covers) [26] O .scf ⟨Ua,ø⟩ (fun hc=>Gh Rx O O O) O (JLo (Eo s.Covers.length) [27] O .scf ⟨Ua,ø⟩ (fun hc=>Yv (f:=G9.av) (xs:=s.Covers) Qs O O) O (JLo (BL (decide ((s.Covers.length:Int)≤cover))) [25,28] O .scf ⟨Ua,Ua,ø⟩ (fun hc=>G2f O O O) O (JLh (BL ((decide (cover < 0))||(decide ((s.Covers.length:Int)≤cover)))) (G0b O O O O) O (Yb (BL ((decide (cover < 0))||(decide ((s.Covers.length:Int)≤cover)))) O (G7 (hK6 ?_))))))))))))
  refine JCc O h ?_ ?_<;>intro h hb
  ·
   refine Jr fun hK7=>(JLh (E2 ([]:List Int)) (Hf 1 O O) O (Yb (G0 6) O (G7 (hK7 (Gs (⟨[E2 ([]:List Int),G0 6],[],ø,O,⟨⟨_,O,.conv (.same O)⟩,⟨_,O,.conv (.same O)⟩,ø⟩,O,congrArg (fun r:(List Int)×Int=>(.tup [E2 r.1,G0 r.2]:AV)) (Option.some.inj h)⟩))))))
  ·
   refine Gi (hK2 (Jr fun hK8=>(Yb (E2 open_) O (Yb (G0 cover) O ?_))))
   obtain⟨r9,hr9,h⟩:=Ge h
   refine JLh (.tup [G0 r9.1,BL r9.2]) (Gv O (G5d F open_ cover r9 hr9) Jfb ⟨O,O,O,O,ø⟩) O (Yb (.tup [G0 r9.1,BL r9.2]) O (JLh (G0 r9.1) (Hk O O O) O (JLh (BL r9.2) (Hk O O O) O (Yb (G0 r9.1) O (Yb (BL r9.2) O (G7 (hK8 (Js fun hK10=>Jr fun hK11=>(Yb (BL r9.2) O (JLh (BL (!r9.2)) (Rv (b:=r9.2) O O) O (G7 (hK11 (JCc O h (fun h hb=>?_) (fun h hb=>?_))))))))))))))
   ·
    refine Jr fun hK12=>(Yb (E2 open_) O ?_)
    obtain⟨r13,hr13,h⟩:=Ge h
    refine JLh (E2 r13) (Gv O (Gfd open_ r13 hr13) Jfa ⟨O,O,ø⟩) O (Yb (E2 r13) O (Yb (G0 0) O (G7 (hK12 (Gs (⟨[E2 r13,G0 0],[],ø,O,⟨⟨_,O,.conv (.same O)⟩,⟨_,O,.conv (.same O)⟩,ø⟩,O,congrArg (fun r:(List Int)×Int=>(.tup [E2 r.1,G0 r.2]:AV)) (Option.some.inj h)⟩))))))
   ·
    refine Gi (hK10 (Jr fun hK14=>(Yb (E2 open_) O (Yb (G0 r9.1) O ?_))))
    obtain⟨r15,hr15,h⟩:=Ge h
    refine JLh (E2 r15) (Gv O (Hdd.down open_ r9.1 r15 hr15) Qcb ⟨O,O,O,O,ø⟩) O (Yb (E2 r15) O (Yb (G0 0) O (G7 (hK14 (Gs (⟨[E2 r15,G0 0],[],ø,O,⟨⟨_,O,.conv (.same O)⟩,⟨_,O,.conv (.same O)⟩,ø⟩,O,congrArg (fun r:(List Int)×Int=>(.tup [E2 r.1,G0 r.2]:AV)) (Option.some.inj h)⟩))))))

def G90 (x:Stowed) (p1:Int):Option Bool:=
 some (decide (x.Gd=p1))
theorem Jc0 (x:Stowed) (p1:Int) (r:Bool) (h:G90 x p1=some r):Pure Ep 80 [.agg (Stowed.cs x),.dptr [G0 p1]] (·=BL r):=by
 unfold G90 at h
 refine Gz [.tmp 3] Tryz.func80 O O (Jr fun hK1=>(JLh (.ptr 1153 0) (Jm (cs:=[G0 x.Gd,G0 x.Slot.G4,G0 x.Slot.Tier,U8 x.Slot.Half]) 1153 O O O O O) O (Yb (BL false) O (G7 (hK1 (Gq [(1,.dptr [G0 p1]),(2,Eg x)] [] 1153 rfl rfl rfl ø rfl (by exact⟨.conv (.same rfl),.ptr,ø⟩) (Jr fun hK2=>(JLh (Eg x) (Ga J5 O O O) O (JLh (G0 x.Gd) (Gh Gb O O O) O (JLh (G0 p1) (Gh Gb O O O) O (JLh (BL (decide (x.Gd=p1))) (Jz O O O) O (Yb (BL (decide (x.Gd=p1))) O (G7 (hK2 (Gs (fin1 BL h))))))))))))))))

def G20 (l:List Stowed) (id_:Int):Option Int:=
 bnd (Q2 l (fun z0=>G90 z0 id_)) fun r3=>
 some r3
theorem Geb (l:List Stowed) (id_:Int) (r:Int) (h:G20 l id_=some r):Pure Ep 44 [E1 l,G0 id_] (·=G0 r):=by
 unfold G20 at h
 refine Gz [.tmp 4] Tryz.func44 O O (Jr fun hK1=>(JLh (.ptr 1105 0) (Jm (cs:=[G0 id_]) 1105 O O O O O) O (Yb (G0 0) O (G7 (hK1 (Gq [(0,E1 l),(3,.dptr [G0 id_])] [] 1105 rfl rfl rfl ø rfl (by exact⟨.conv (.same rfl),.ptr,ø⟩) (Jr fun hK2=>(Yb (E1 l) O (JLh (.fn 80 [.dptr [G0 id_]]) (Z1 (cs:=[.dptr [G0 id_]]) O O) O ?_)))))))))
 obtain⟨r3,hr3,h⟩:=Ge h
 refine JLh (G0 r3) (Gv O (Z0 l (fun z0=>G90 z0 id_) 80 [.dptr [G0 id_]] Qba O (fun z0 q hq=>Jc0 z0 id_ q hq) r3 hr3) J24 ⟨O,O,O,O,ø⟩) O (Yb (G0 r3) O (G7 (hK2 (Gs (fin1 G0 h)))))

def G7a (l:List Stowed) (id_:Int):Option ((List Int)×Int):=
 bnd (G20 l id_) fun r3=>
 bif decide (r3 < 0) then
 (some ([],6))
 else
 (each (fun y30 i30 (s30:(List Int)) nx30=>
   jp (fun kj33=>
    Q9 l r3 fun y36=>
    bnd (Gae y30.Slot y36.Slot) fun r38=>
    bif r38 then
    (need (decide ((s30.length+[y30.Gd].length)*8≤140737488355328∧s30.length+[y30.Gd].length≤maxLen)) <|
     kj33 (s30++[y30.Gd]))
    else
    (kj33 s30)) fun(j33:(List Int))=>
   nx30 j33)
  (fun(s30:(List Int))=>
   some (s30,0)) l 0 [])
theorem Q2e (l:List Stowed) (id_:Int) (r:(List Int)×Int) (h:G7a l id_=some r):Pure Ep 75 [E1 l,G0 id_] (·=.tup [E2 r.1,G0 r.2]):=by
 unfold G7a at h
 refine Gz [.tmp 4,.tmp 5] Tryz.func75 O O (Jr fun hK1=>(JLh (E2 ([]:List Int)) (Hf 1 O O) O (Yb (G0 0) O (G7 (hK1 (Jr fun hK2=>(Yb (E1 l) O (Yb (G0 id_) O ?_))))))))
 obtain⟨r3,hr3,h⟩:=Ge h
 refine JLh (G0 r3) (Gv O (Geb l id_ r3 hr3) H97 ⟨O,O,O,O,ø⟩) O (Yb (G0 r3) O (G7 (hK2 (Js fun hK4=>Jr fun hK5=>(Yb (G0 r3) O (JLh (BL (decide (r3 < 0))) (J0 O O O) O (G7 (hK5 (JCc O h (fun h hb=>?_) (fun h hb=>?_))))))))))
 ·
  refine Jr fun hK6=>(JLh (E2 ([]:List Int)) (Hf 1 O O) O (Yb (G0 6) O (G7 (hK6 (Gs (⟨[E2 ([]:List Int),G0 6],[],ø,O,⟨⟨_,O,.conv (.same O)⟩,⟨_,O,.conv (.same O)⟩,ø⟩,O,congrArg (fun r:(List Int)×Int=>(.tup [E2 r.1,G0 r.2]:AV)) (Option.some.inj h)⟩))))))
 ·
  refine Gi (hK4 (Jr fun hK7=>(JLh (OW 1149 1 G0 ([]:List Int)) (G24 1149 3 1 O O O) O (G7 (hK7 (Js fun hK8=>Jr fun hK9=>(Yb (E1 l) O (JLl Gy O O O fun hm16=>(Yb (G0 0) O (G7 (hK9 (Gj ?_))))))))))))
  obtain⟨b30,kx30,hb30,hkx30,h⟩:=J2 h
  refine Hb (fun i30 (s30:(List Int))=>each b30 kx30 (List.drop i30 l) i30 s30=some r) (fun i30 s30=>[(0,E1 l),(6,G0 r3),(7,OW 1149 1 G0 s30),(15,E1 l),(16,Eo l.length),(17,Eo i30)]) (fun i30 s30=>[(1149,.spare 3 1 s30.length s30.length)]) (fun i30=>l.length - i30) 0 [] h ⟨(.sm O O),⟨⟨_,rfl,.same⟩,ø⟩,rfl⟩ ?_
  clear h
  intro i30 s30 hi30 K30 e30
  refine Jr fun hK31=>(JLh (BL (decide ((i30:Int) < (l.length:Int)))) (J0 O O O) O (G7 (hK31 (Js fun hK32=>Gf O (fun hb=>?_) (fun hb=>?_)))))
  ·
   have hk30:=Jk hb
   obtain⟨y30,nx30,hy30,hn30,h⟩:=Hs hi30 hk30
   replace h:=Y4 hb30 h
   refine Gi (hK32 ?_)
   obtain⟨kj33,hkj33,h⟩:=Qo h
   refine Jx (fun j33:(List Int)=>kj33 j33=some r) (fun j33=>[(0,E1 l),(6,G0 r3),(7,OW 1149 1 G0 j33),(15,E1 l),(16,Eo l.length),(17,Eo i30)]) (fun j33=>[(1149,.spare 3 1 j33.length j33.length)]) (fun Kj33 ej33=>?_) ?_
   ·
    refine Gj (Jr fun hK34=>(JLh (Eg y30) (H3 (f:=Stowed.av) (xs:=l) (y:=y30) O O O Gy hy30 O) O (JLh (.agg (Stowed.cs y30)) (Gg Jg O O O) O (JLh (.ptr 1150 0) (Hx 1150 4 Jo O O) O (Hw (u:=.junk) (Hd (u:=.agg (Stowed.cs y30)) (ds:=[G0 y30.Gd,G0 y30.Slot.G4,G0 y30.Slot.Tier,U8 y30.Slot.Half]) Qh O O O O O O O O) (G7 (hK34 (Gq [(0,E1 l),(6,G0 r3),(7,OW 1149 1 G0 s30),(9,Eg y30),(15,E1 l),(16,Eo l.length),(17,Eo i30)] [(1149,.spare 3 1 s30.length s30.length)] 1150 rfl rfl rfl ⟨⟨_,rfl,.same⟩,ø⟩ rfl (by repeat' (first | exact .ptr | constructor)) (Js fun hK35=>?_)))))))))
    refine Rm (l':=[(0,E1 l),(6,G0 r3),(7,OW 1149 1 G0 s30),(9,Eg y30),(15,E1 l),(16,Eo l.length),(17,Eo i30)]) (L':=[(1149,.spare 3 1 s30.length s30.length)]) ⟨(.sm O O),⟨⟨_,rfl,.same⟩,ø⟩,rfl⟩ ?_
    obtain⟨m37,y36,hm37,hy36,h⟩:=Y0 h
    obtain⟨r38,hr38,h⟩:=Ge h
    refine JC_d0 Q6 (by kernel_rfl) (Dq (.dptr ((Stowed.cs y30).drop 1)) (Ga Hr O O O) O (Dq (.agg ((Stowed.cs y30).drop 1)) (Gg Jh O O O) O (Dq (E1 l) (G6 O O) O (Dq (G0 r3) (G6 O O) O (Dq (Eg y36) (H3 (f:=Stowed.av) (xs:=l) (y:=y36) O O O Gy hy36 hm37) O (Dq (.dptr ((Stowed.cs y36).drop 1)) (Ga Hr O O O) O (Dq (.agg ((Stowed.cs y36).drop 1)) (Gg Jh O O O) O (Dq (BL r38) (Gv (args:=[.agg ((Stowed.cs y30).drop 1),.agg ((Stowed.cs y36).drop 1)]) O (J18 y30.Slot y36.Slot r38 hr38) J93 ⟨O,O,O,O,ø⟩) O (Dnil (hK35 (JCc O h (fun h hb=>?_) (fun h hb=>?_))))))))))))
    ·
     refine G3 (Yb (OW 1149 1 G0 s30) O (JLh (Eg y30) (Ga J5 O O O) O (JLh (G0 y30.Gd) (Gh Gb O O O) O (JLh (E2 [y30.Gd]) (H6 (xs:=[G0 y30.Gd]) O ⟨O,O,ø⟩ Gt Qn O O O O) O ?_))))
     obtain⟨ha39,h⟩:=Jd h
     refine JLh (OW 1149 1 G0 (s30++[y30.Gd])) (Qk (f:=G0) (xs:=s30) (ys:=[y30.Gd]) O O O O Gt Yy ha39 (fun _=>O) (.inl O) O) O (Yb (OW 1149 1 G0 (s30++[y30.Gd])) O (G7 (ej33 _ _ (s30++[y30.Gd]) h ⟨(.sm O O),⟨⟨_,rfl,.same⟩,ø⟩,rfl⟩)))
    ·
     refine Gi (ej33 _ _ s30 h ⟨(.sm O O),⟨⟨_,rfl,.same⟩,ø⟩,rfl⟩)
   ·intro j33 h
    replace h:=app1 hkj33 h
    refine G3 (JLh (G0 ((i30+1:Nat):Int)) (Hu (Hj hk30 hm16) O O O) O (Yb (G0 ((i30+1:Nat):Int)) O (G7 (e30 _ _ (i30+1) j33 (app1 hn30 h) (by omega) ⟨(.sm O O),⟨⟨_,rfl,.same⟩,ø⟩,rfl⟩))))
  ·
   have h:=app1 hkx30 (Ht hi30 (Ha hb))
   refine Hm (hK8 (Jr fun hK40=>(Yb (OW 1149 1 G0 s30) O (Yb (OW 1149 1 G0 s30) O (Yb (G0 0) O (G7 (hK40 (Gs (⟨[E2 s30,G0 0],[],ø,O,⟨⟨_,O,.conv (.list O)⟩,⟨_,O,.conv (.same O)⟩,ø⟩,O,congrArg (fun r:(List Int)×Int=>(.tup [E2 r.1,G0 r.2]:AV)) (Option.some.inj h)⟩)))))))))

def Gc2 (s:Gw) (column:Int):Option Int:=
 Q9 s.Columns column fun y4=>
 bif y4.Deck then
 (some (-1))
 else
 (bnd (Qv s column) fun r8=>
  some r8)
theorem Q2c (s:Gw) (column:Int) (r:Int) (h:Gc2 s column=some r):Pure Ep 76 [.agg (Gw.cs s),G0 column] (·=G0 r):=by
 unfold Gc2 at h
 refine Gz [.tmp 4] Tryz.func76 O O (Jr fun hK1=>(JLh (.ptr 1151 0) (Jm (cs:=(Gw.cs s)) 1151 O O O O O) O (Yb (G0 0) O (G7 (hK1 (Gq [(1,G0 column),(2,Ef s)] [] 1151 rfl rfl rfl ø rfl (by exact⟨.conv (.same rfl),.ptr,ø⟩) (Js fun hK2=>?_)))))))
 refine Jr fun hK3=>(JLh (Ef s) (Ga J6 O O O) O (JLh (E4 s.Columns) (Gh Jj O O O) O (Yb (G0 column) O ?_)))
 obtain⟨m5,y4,hm5,hy4,h⟩:=Y0 h
 refine JLh (Ei y4) (H3 (f:=G4.av) (xs:=s.Columns) (y:=y4) O O O Je hy4 hm5) O (JLh (.dptr ((G4.cs y4).drop 2)) (Ga Ye O O O) O (JLh (BL y4.Deck) (Gh Qm O O O) O (G7 (hK3 (JCc O h (fun h hb=>?_) (fun h hb=>?_))))))
 ·
  refine Jr fun hK6=>(Yb (G0 (-1)) O (G7 (hK6 (Gs (fin1 G0 h)))))
 ·
  refine Gi (hK2 (Jr fun hK7=>(JLh (.agg (Gw.cs s)) (Gg Ho O O O) O (Yb (G0 column) O ?_))))
  obtain⟨r8,hr8,h⟩:=Ge h
  refine JLh (G0 r8) (Gv O (G3a s column r8 hr8) H29 ⟨O,O,O,O,ø⟩) O (Yb (G0 r8) O (G7 (hK7 (Gs (fin1 G0 h)))))

def Gad (s:Gw) (boxes:List Gd) (l:List Stowed) (open_:List Int) (id_:Int):Option Int:=
 bnd (Yj s boxes l open_) fun r4=>
 bif (!r4) then
 (some 2)
 else
 (bnd (G7a l id_) fun r7=>
  bif decide (r7.2≠0) then
  (some r7.2)
  else
  (bif decide (0 < (r7.1.length:Int)) then
   (some 90)
   else
   (bnd (G20 l id_) fun r15=>
    Q9 l r15 fun y16=>
    bnd (Gc2 s y16.Slot.G4) fun r18=>
    bnd (bif decide (0≤r18) then Jb open_ r18 else some default) fun r20=>
    bif ((decide (0≤r18))&&(!r20)) then
    (some 91)
    else
    (some 0))))
theorem M_stow_Free_w (s:Gw) (boxes:List Gd) (l:List Stowed) (open_:List Int) (id_:Int) (r:Int) (h:Gad s boxes l open_ id_=some r):Pure Ep 42 [.agg (Gw.cs s),E3 boxes,E1 l,E2 open_,G0 id_] (·=G0 r):=by
 unfold Gad at h
 refine Gz [.tmp 10] Tryz.func42 O O (Jr fun hK1=>(JLh (.ptr 1104 0) (Jm (cs:=(Gw.cs s)) 1104 O O O O O) O (Yb (G0 0) O (G7 (hK1 (Gq [(1,E3 boxes),(2,E1 l),(3,E2 open_),(4,G0 id_),(5,Ef s)] [] 1104 rfl rfl rfl ø rfl (by repeat' (first | exact .ptr | constructor)) ?_))))))
 refine Js fun hK2=>Jr fun hK3=>(JLh (.agg (Gw.cs s)) (Gg Ho O O O) O (Yb (E3 boxes) O (Yb (E1 l) O (Yb (E2 open_) O ?_))))
 obtain⟨r4,hr4,h⟩:=Ge h
 refine JLh (BL r4) (Gv O (G79 s boxes l open_ r4 hr4) H98 ⟨O,O,O,O,O,O,O,O,ø⟩) O (JLh (BL (!r4)) (Rv (b:=r4) O O) O (G7 (hK3 (JCc O h (fun h hb=>?_) (fun h hb=>?_)))))
 ·
  refine Jr fun hK5=>(Yb (G0 2) O (G7 (hK5 (Gs (fin1 G0 h)))))
 ·
  refine Gi (hK2 (Jr fun hK6=>(Yb (E1 l) O (Yb (G0 id_) O ?_))))
  obtain⟨r7,hr7,h⟩:=Ge h
  refine JLh (.tup [E2 r7.1,G0 r7.2]) (Gv O (Q2e l id_ r7 hr7) Qbc ⟨O,O,O,O,ø⟩) O (Yb (.tup [E2 r7.1,G0 r7.2]) O (JLh (E2 r7.1) (Hk O O O) O (JLh (G0 r7.2) (Hk O O O) O (Yb (E2 r7.1) O (Yb (G0 r7.2) O (G7 (hK6 (Js fun hK8=>Gj (Jr fun hK9=>(Yb (G0 r7.2) O (JLh (BL (decide (r7.2≠0))) (G71 O O O) O (Yb (BL (decide (r7.2≠0))) O (G7 (hK9 (JCc O h (fun h hb=>?_) (fun h hb=>?_))))))))))))))))
  ·
   refine Jr fun hK10=>(Yb (G0 r7.2) O (Yb (G0 r7.2) O (G7 (hK10 (Gs (fin1 G0 h))))))
  ·
   refine Jr fun hK11=>(Yb (E2 r7.1) O (JLl Gt O O O fun hm32=>(JLh (BL (decide (0 < (r7.1.length:Int)))) (G43 O O O) O (Yb (BL (decide (0 < (r7.1.length:Int)))) O (G7 (hK11 (JCc O h (fun h hb=>?_) (fun h hb=>?_))))))))
   ·
    refine Jr fun hK12=>(Yb (G0 90) O (G7 (hK12 (Gs (fin1 G0 h)))))
   ·
    refine Gi (hK8 (Js fun hK13=>Js fun hK14=>?_))
    obtain⟨r15,hr15,h⟩:=Ge h
    obtain⟨m17,y16,hm17,hy16,h⟩:=Y0 h
    obtain⟨r18,hr18,h⟩:=Ge h
    refine JC_d0 Q6 (by kernel_rfl) (Dq (.agg (Gw.cs s)) (Gg Ho O O O) O (Dq (E1 l) (G6 O O) O (Dq (E1 l) (G6 O O) O (Dq (G0 id_) (G6 O O) O (Dq (G0 r15) (Gv (args:=[E1 l,G0 id_]) O (Geb l id_ r15 hr15) H97 ⟨O,O,O,O,ø⟩) O (Dq (Eg y16) (H3 (f:=Stowed.av) (xs:=l) (y:=y16) O O O Gy hy16 hm17) O (Dq (.dptr ((Stowed.cs y16).drop 1)) (Ga Hr O O O) O (Dq (.dptr ((Stowed.cs y16).drop 1)) (Ga J9 O O O) O (Dq (G0 y16.Slot.G4) (Gh Gb O O O) O (Dq (G0 r18) (Gv (args:=[.agg (Gw.cs s),G0 y16.Slot.G4]) O (Q2c s y16.Slot.G4 r18 hr18) Qbb ⟨O,O,O,O,ø⟩) O (Dq (G0 r18) (G8 O O) O (Dnil ?_))))))))))))
    refine hK14 (Jr fun hK19=>(Yb (G0 r18) O (JLh (BL (decide (0≤r18))) (G2f O O O) O (Yb (BL (decide (0≤r18))) O (JLo (E2 open_) [] O .sct ø (fun hc=>G6 O O) O (JLo (G0 r18) [] O .sct ø (fun hc=>G6 O O) O ?_))))))
    obtain⟨r20,hr20,h⟩:=Ge h
    refine JLo (BL r20) [47,48] O .sct ⟨Ua,Ua,ø⟩ (fun hc=>Gv (args:=[E2 open_,G0 r18]) O (Y8 open_ r18 r20 (Gx hc hr20)) H2a ⟨O,O,O,O,ø⟩) O (JLo (BL (!r20)) [49] O .sct ⟨Ua,ø⟩ (fun hc=>Rv (b:=r20) O O) O (JLh (BL ((decide (0≤r18))&&(!r20))) (Qr O O O O) O (G7 (hK19 (JCc O h (fun h hb=>?_) (fun h hb=>?_))))))
    ·
     refine Jr fun hK21=>(Yb (G0 91) O (G7 (hK21 (Gs (fin1 G0 h)))))
    ·
     refine Gi (hK13 (Jr fun hK22=>(Yb (G0 0) O (G7 (hK22 (Gs (fin1 G0 h)))))))

def Gfa (s:Gw) (boxes:List Gd) (l:List Stowed) (open_:List Int) (id_:Int):Option ((List Stowed)×Int):=
 bnd (Gad s boxes l open_ id_) fun r4=>
 bif decide (r4≠0) then
 (some ([],r4))
 else
 (bnd (G20 l id_) fun r8=>
  bnd (Ru l r8) fun r9=>
  some (r9,0))
theorem M_stow_Take_w (s:Gw) (boxes:List Gd) (l:List Stowed) (open_:List Int) (id_:Int) (r:(List Stowed)×Int) (h:Gfa s boxes l open_ id_=some r):Pure Ep 16 [.agg (Gw.cs s),E3 boxes,E1 l,E2 open_,G0 id_] (·=.tup [E1 r.1,G0 r.2]):=by
 unfold Gfa at h
 refine Gz [.tmp 10,.tmp 11] Tryz.func16 O O (Jr fun hK1=>(JLh (.ptr 1053 0) (Jm (cs:=(Gw.cs s)) 1053 O O O O O) O (JLh (E1 ([]:List Stowed)) (Hf 4 O O) O (Yb (G0 0) O (G7 (hK1 ?_))))))
 refine Gq [(1,E3 boxes),(2,E1 l),(3,E2 open_),(4,G0 id_),(5,Ef s)] [] 1053 rfl rfl rfl ø rfl (by repeat' (first | exact .ptr | constructor)) (Js fun hK2=>?_)
 refine Jr fun hK3=>(JLh (.agg (Gw.cs s)) (Gg Ho O O O) O (Yb (E3 boxes) O (Yb (E1 l) O (Yb (E2 open_) O (Yb (G0 id_) O ?_)))))
 obtain⟨r4,hr4,h⟩:=Ge h
 refine JLh (G0 r4) (Gv O (M_stow_Free_w s boxes l open_ id_ r4 hr4) Qca ⟨O,O,O,O,O,O,O,O,O,O,ø⟩) O (Yb (G0 r4) O (G7 (hK3 (Jr fun hK5=>(Yb (G0 r4) O (JLh (BL (decide (r4≠0))) (G71 O O O) O (G7 (hK5 (JCc O h (fun h hb=>?_) (fun h hb=>?_))))))))))
 ·
  refine Jr fun hK6=>(Yb (G0 r4) O (JLh (E1 ([]:List Stowed)) (Hf 4 O O) O (Yb (G0 r4) O (G7 (hK6 (Gs (⟨[E1 ([]:List Stowed),G0 r4],[],ø,O,⟨⟨_,O,.conv (.same O)⟩,⟨_,O,.conv (.same O)⟩,ø⟩,O,congrArg (fun r:(List Stowed)×Int=>(.tup [E1 r.1,G0 r.2]:AV)) (Option.some.inj h)⟩)))))))
 ·
  refine Gi (hK2 (Jr fun hK7=>(Yb (E1 l) O (Yb (E1 l) O (Yb (G0 id_) O ?_)))))
  obtain⟨r8,hr8,h⟩:=Ge h
  refine JLh (G0 r8) (Gv O (Geb l id_ r8 hr8) H97 ⟨O,O,O,O,ø⟩) O ?_
  obtain⟨r9,hr9,h⟩:=Ge h
  refine JLh (E1 r9) (Gv O (H3f.down l r8 r9 hr9) Qc9 ⟨O,O,O,O,ø⟩) O (Yb (E1 r9) O (Yb (G0 0) O (G7 (hK7 (Gs (⟨[E1 r9,G0 0],[],ø,O,⟨⟨_,O,.conv (.same O)⟩,⟨_,O,.conv (.same O)⟩,ø⟩,O,congrArg (fun r:(List Stowed)×Int=>(.tup [E1 r.1,G0 r.2]:AV)) (Option.some.inj h)⟩))))))

def Zw (p:Hq):Option Bool:=
 bnd (Qv p.s p.x.Slot.G4) fun r4=>
 bnd (bif decide (0≤r4) then Q9 p.s.Columns p.x.Slot.G4 some else some default) fun y6=>
 bnd (bif decide (0≤r4) then Jb p.open_ r4 else some default) fun r7=>
 some ((decide (0≤r4))&&(y6.Deck==r7))
theorem Hba (p:Hq) (r:Bool) (h:Zw p=some r):Pure Ep 47 [.agg (Hq.cs p)] (·=BL r):=by
 unfold Zw at h
 refine Gz [.tmp 2] Tryz.func47 O O (Jr fun hK1=>(JLh (.ptr 1110 0) (Jm (cs:=(Hq.cs p)) 1110 O O O O O) O (Yb (BL false) O (G7 (hK1 ?_)))))
 refine Gq [(1,Em p)] [] 1110 rfl rfl rfl ø rfl (by exact⟨.ptr,ø⟩) (Jr fun hK2=>(JLh (Eg p.x) (Ga G34 O O O) O (JLh (.dptr ((Stowed.cs p.x).drop 1)) (Ga Hr O O O) O (JLh (.dptr ((Stowed.cs p.x).drop 1)) (Ga J9 O O O) O (JLh (G0 p.x.Slot.G4) (Gh Gb O O O) O (Yb (G0 p.x.Slot.G4) O (G7 (hK2 ?_))))))))
 refine Jr fun hK3=>(JLh (Em p) (Ga H28 O O O) O (JLh (.agg (Gw.cs p.s)) (Gg Ho O O O) O (Yb (G0 p.x.Slot.G4) O ?_)))
 obtain⟨r4,hr4,h⟩:=Ge h
 refine JLh (G0 r4) (Gv O (G3a p.s p.x.Slot.G4 r4 hr4) H29 ⟨O,O,O,O,ø⟩) O (Yb (G0 r4) O (G7 (hK3 (Js fun hK5=>?_))))
 obtain⟨y6,hy6,h⟩:=Ge h
 obtain⟨r7,hr7,h⟩:=Ge h
 refine JC_d0 Q6 (by kernel_rfl) (Dq (G0 r4) (G6 O O) O (Dq (BL (decide (0≤r4))) (G2f O O O) O (Dq (BL (decide (0≤r4))) (G6 O O) O (Do (Em p) [] O .sct ø (fun hc=>Ga H28 O O O) O (Do (Em p) [16] O .sct ⟨Ua,ø⟩ (fun hc=>Ga J6 O O O) O (Do (E4 p.s.Columns) [17] O .sct ⟨Ua,ø⟩ (fun hc=>Gh Jj O O O) O (Do (G0 p.x.Slot.G4) [] O .sct ø (fun hc=>G6 O O) O (Do (Ei y6) [18,19] O .sct ⟨Ua,Ua,ø⟩ (fun hc=>(match Yz (Gx hc hy6) with | ⟨_,hm_,hy_⟩=>H3 (f:=G4.av) (xs:=p.s.Columns) (y:=y6) O O O Je hy_ hm_)) O (Do (.dptr ((G4.cs y6).drop 2)) [20] O .sct ⟨Ua,ø⟩ (fun hc=>Ga Ye O O O) O (Do (BL y6.Deck) [21] O .sct ⟨Ua,ø⟩ (fun hc=>Gh Qm O O O) O (Do (.dptr [E2 p.open_,G0 p.x.Gd,G0 p.x.Slot.G4,G0 p.x.Slot.Tier,U8 p.x.Slot.Half]) [] O .sct ø (fun hc=>Ga Je4 O O O) O (Do (E2 p.open_) [23] O .sct ⟨Ua,ø⟩ (fun hc=>Gh Z3 O O O) O (Do (G0 r4) [] O .sct ø (fun hc=>G6 O O) O ?_)))))))))))))
 refine Do (BL r7) [24,25] O .sct ⟨Ua,Ua,ø⟩ (fun hc=>Gv (args:=[E2 p.open_,G0 r4]) O (Y8 p.open_ r4 r7 (Gx hc hr7)) H2a ⟨O,O,O,O,ø⟩) O (Do (BL (y6.Deck==r7)) [22,26] O .sct ⟨Ua,Ua,ø⟩ (fun hc=>J6e H7a O O O) O (Dq (BL ((decide (0≤r4))&&(y6.Deck==r7))) (Qr O O O O) O (Dq (BL ((decide (0≤r4))&&(y6.Deck==r7))) (G8 O O) O (Dnil (hK5 (Gs (fin1 BL h)))))))

def R9 (y:Stowed) (p1:Hq):Option Bool:=
 bnd (Gaf p1.x.Slot y.Slot) fun r3=>
 some r3
theorem Hab (y:Stowed) (p1:Hq) (r:Bool) (h:R9 y p1=some r):Pure Ep 87 [.agg (Stowed.cs y),Em p1] (·=BL r):=by
 unfold R9 at h
 refine Gz [.tmp 3] Tryz.func87 O O (Jr fun hK1=>(JLh (.ptr 1157 0) (Jm (cs:=[G0 y.Gd,G0 y.Slot.G4,G0 y.Slot.Tier,U8 y.Slot.Half]) 1157 O O O O O) O (Yb (BL false) O (G7 (hK1 (Gq [(1,Em p1),(2,Eg y)] [] 1157 rfl rfl rfl ø rfl (by exact⟨.conv (.same rfl),.ptr,ø⟩) (Jr fun hK2=>(JLh (.dptr ((Hq.cs p1).drop 16)) (Ga G34 O O O) O (JLh (.dptr ((Hq.cs p1).drop 17)) (Ga Hr O O O) O (JLh (.agg ((Hq.cs p1).drop 17)) (Gg Jh O O O) O (JLh (.dptr ((Stowed.cs y).drop 1)) (Ga Hr O O O) O (JLh (.agg ((Stowed.cs y).drop 1)) (Gg Jh O O O) O ?_))))))))))))
 obtain⟨r3,hr3,h⟩:=Ge h
 refine JLh (BL r3) (Gv O (J19 p1.x.Slot y.Slot r3 hr3) Jf5 ⟨O,O,O,O,ø⟩) O (Yb (BL r3) O (G7 (hK2 (Gs (fin1 BL h)))))

def R5 (s:List Stowed) (f:Stowed→Option Bool):Option Bool:=
 bnd (Q2 s f) fun r3=>
 some (decide (0≤r3))
theorem Gb5 (s:List Stowed) (f:Stowed→Option Bool) (f_f:FuncId) (f_c:List AV) (f_B:H5 Ep f_f=true) (f_d:R0 (fun _=>false) f_c=true) (f_w:∀ a0 q,f a0=some q→Pure Ep f_f ([.agg (Stowed.cs a0)]++f_c) (·=BL q)) (r:Bool) (h:R5 s f=some r):Pure Ep 86 [E1 s,.fn f_f f_c] (·=BL r):=by
 unfold R5 at h
 refine Gz [.tmp 4] Tryz.func86 O O (Jr fun hK1=>(Yb (BL false) O (G7 (hK1 (Jr fun hK2=>(Yb (E1 s) O (Yb (.fn f_f f_c) O ?_)))))))
 obtain⟨r3,hr3,h⟩:=Ge h
 refine JLh (G0 r3) (Gv O (Z0 s f f_f f_c f_B f_d f_w r3 hr3) J24 ⟨O,O,O,f_d,ø⟩) O (JLh (BL (decide (0≤r3))) (G2f O O O) O (Yb (BL (decide (0≤r3))) O (G7 (hK2 (Gs (fin1 BL h))))))

def G0e (p:Hq):Option Bool:=
 bnd (R5 p.l (fun z0=>R9 z0 p)) fun r3=>
 some r3
theorem He1 (p:Hq) (r:Bool) (h:G0e p=some r):Pure Ep 48 [.agg (Hq.cs p)] (·=BL r):=by
 unfold G0e at h
 refine Gz [.tmp 2] Tryz.func48 O O (Jr fun hK1=>(JLh (.ptr 1111 0) (Jm (cs:=(Hq.cs p)) 1111 O O O O O) O (Yb (BL false) O (G7 (hK1 ?_)))))
 refine Gq [(1,Em p)] [] 1111 rfl rfl rfl ø rfl (by exact⟨.ptr,ø⟩) ?_
 refine Jr fun hK2=>(JLh (.dptr [E1 p.l,E2 p.open_,G0 p.x.Gd,G0 p.x.Slot.G4,G0 p.x.Slot.Tier,U8 p.x.Slot.Half]) (Ga G61 O O O) O (JLh (E1 p.l) (Gh Rw O O O) O (JLh (.fn 87 [.dptr (Hq.cs p)]) (Z1 (cs:=[.dptr (Hq.cs p)]) O O) O ?_)))
 obtain⟨r3,hr3,h⟩:=Ge h
 refine JLh (BL r3) (Gv O (Gb5 p.l (fun z0=>R9 z0 p) 87 [.dptr (Hq.cs p)] Qb5 O (fun z0 q hq=>Hab z0 p q hq) r3 hr3) Qb6 ⟨O,O,O,O,ø⟩) O (Yb (BL r3) O (G7 (hK2 (Gs (fin1 BL h)))))

def G1f (p:Hq):Option Bool:=
 bnd (G78 p.l) fun r3=>
 bnd (Gb0 p.x.Slot r3) fun r4=>
 some (!r4)
theorem Hac (p:Hq) (r:Bool) (h:G1f p=some r):Pure Ep 49 [.agg (Hq.cs p)] (·=BL r):=by
 unfold G1f at h
 refine Gz [.tmp 2] Tryz.func49 O O (Jr fun hK1=>(JLh (.ptr 1112 0) (Jm (cs:=(Hq.cs p)) 1112 O O O O O) O (Yb (BL false) O (G7 (hK1 ?_)))))
 refine Gq [(1,Em p)] [] 1112 rfl rfl rfl ø rfl (by exact⟨.ptr,ø⟩) (Js fun hK2=>?_)
 obtain⟨r3,hr3,h⟩:=Ge h
 obtain⟨r4,hr4,h⟩:=Ge h
 refine JC_d0 Q6 (by kernel_rfl) (Dq (Eg p.x) (Ga G34 O O O) O (Dq (.dptr ((Stowed.cs p.x).drop 1)) (Ga Hr O O O) O (Dq (.agg ((Stowed.cs p.x).drop 1)) (Gg Jh O O O) O (Dq (.dptr [E1 p.l,E2 p.open_,G0 p.x.Gd,G0 p.x.Slot.G4,G0 p.x.Slot.Tier,U8 p.x.Slot.Half]) (Ga G61 O O O) O (Dq (E1 p.l) (Gh Rw O O O) O (Dq (Ea r3) (Gv (args:=[E1 p.l]) O (He0 p.l r3 hr3) Jf7 ⟨O,O,ø⟩) O (Dq (BL r4) (Gv (args:=[.agg ((Stowed.cs p.x).drop 1),Ea r3]) O (J1a p.x.Slot r3 r4 hr4) Jf6 ⟨O,O,O,O,ø⟩) O (Dq (BL (!r4)) (Rv (b:=r4) O O) O (Dq (BL (!r4)) (G8 O O) O (Dnil (hK2 (Gs (fin1 BL h)))))))))))))

def Rr (F:Nat) (p:Hq):Option (List Stowed):=
 loop (fun nx10 (s10:Int)=>
  bnd (bif decide (s10 < (p.l.length:Int)) then Q9 p.l s10 some else some default) fun y13=>
  bif ((decide (s10 < (p.l.length:Int)))&&(decide (y13.Gd < p.x.Gd))) then
  (Rc (s10+1) fun v14=>
   nx10 v14)
  else
  (bnd (Ro p.l s10 p.x) fun r16=>
   some r16)) F 0
abbrev Kc (p:Hq):List AV:=[E1 p.l,E2 p.open_,G0 p.x.Gd,G0 p.x.Slot.G4,G0 p.x.Slot.Tier,U8 p.x.Slot.Half]
theorem Gac (F:Nat) (p:Hq) (r:(List Stowed)) (h:Rr F p=some r):Pure Ep 51 [.agg (Hq.cs p)] (·=E1 r):=by
 unfold Rr at h
 refine Gz [.tmp 2] Tryz.func51 O O (Jr fun hK1=>(JLh (.ptr 1114 0) (Jm (cs:=(Hq.cs p)) 1114 O O O O O) O (JLh (E1 ([]:List Stowed)) (Hf 4 O O) O (G7 (hK1 ?_)))))
 refine Gq [(1,Em p)] [] 1114 rfl rfl rfl ø rfl (by exact⟨.ptr,ø⟩) (Jr fun hK2=>(Yb (G0 0) O (G7 (hK2 (Js fun hK3=>Gj ?_)))))
 obtain⟨b10,hb10,h⟩:=G48 h
 refine Hb (fun i10 (s10:Int)=>loop b10 i10 s10=some r) (fun i10 s10=>[(1,Em p),(3,G0 s10)]) (fun i10 s10=>[]) (fun i10=>i10) F 0 h ⟨(.sm O O),ø,O⟩ ?_
 clear h
 intro i10 s10 hi10 K10 e10
 obtain⟨m10,nx10,hm_10,hn10,h⟩:=G0c hi10
 replace h:=J35 hb10 h
 refine Js fun hK11=>Js fun hK12=>?_
 obtain⟨y13,hy13,h⟩:=Ge h
 refine JC_d0 Q6 (by kernel_rfl) (Dq (G0 s10) (G6 O O) O (Dq (.dptr (Kc p)) (Ga G61 O O O) O (Dq (E1 p.l) (Gh Rw O O O) O (Dq (Eo p.l.length) (Yv (f:=Stowed.av) (xs:=p.l) Gy O O) O (Dq (BL (decide (s10 < (p.l.length:Int)))) (J0 O O O) O (Dq (BL (decide (s10 < (p.l.length:Int)))) (G6 O O) O (Do (.dptr (Kc p)) [] O .sct ø (fun hc=>Ga G61 O O O) O (Do (E1 p.l) [10] O .sct ⟨Ua,ø⟩ (fun hc=>Gh Rw O O O) O (Do (G0 s10) [] O .sct ø (fun hc=>G6 O O) O (Do (Eg y13) [11,12] O .sct ⟨Ua,Ua,ø⟩ (fun hc=>(match Yz (Gx hc hy13) with | ⟨_,hm_,hy_⟩=>H3 (f:=Stowed.av) (xs:=p.l) (y:=y13) O O O Gy hy_ hm_)) O (Do (Eg y13) [13] O .sct ⟨Ua,ø⟩ (fun hc=>Ga J5 O O O) O (Do (G0 y13.Gd) [14] O .sct ⟨Ua,ø⟩ (fun hc=>Gh Gb O O O) O (Do (Eg p.x) [] O .sct ø (fun hc=>Ga G34 O O O) O ?_)))))))))))))
 refine Do (Eg p.x) [16] O .sct ⟨Ua,ø⟩ (fun hc=>Ga J5 O O O) O (Do (G0 p.x.Gd) [17] O .sct ⟨Ua,ø⟩ (fun hc=>Gh Gb O O O) O (Do (BL (decide (y13.Gd < p.x.Gd))) [15,18] O .sct ⟨Ua,Ua,ø⟩ (fun hc=>J0 O O O) O (Dq (BL ((decide (s10 < (p.l.length:Int)))&&(decide (y13.Gd < p.x.Gd)))) (Qr O O O O) O (Dnil (hK12 (JCc O h (fun h hb=>?_) (fun h hb=>?_)))))))
 ·
  refine Gi (hK11 (Gj (G3 (Yb (G0 s10) O ?_))))
  obtain⟨v14,hv14,h⟩:=Hv h
  refine JLh (G0 v14) (Hu hv14 O O O) O (Yb (G0 v14) O (G7 (e10 _ _ m10 v14 (app1 hn10 h) (by omega) ⟨(.sm O O),ø,rfl⟩)))
 ·
  refine Hm (hK3 (Jr fun hK15=>(JLh (.dptr (Kc p)) (Ga G61 O O O) O (JLh (E1 p.l) (Gh Rw O O O) O (Yb (G0 s10) O (JLh (Eg p.x) (Ga G34 O O O) O (JLh (.agg (Stowed.cs p.x)) (Gg Jg O O O) O ?_)))))))
  obtain⟨r16,hr16,h⟩:=Ge h
  refine JLh (E1 r16) (Gv O (H83.down p.l s10 p.x r16 hr16) Qb4 ⟨O,O,O,O,O,O,ø⟩) O (Yb (E1 r16) O (G7 (hK15 (Gs (fin1 (fun r:(List Stowed)=>(E1 r:AV)) h)))))

def G33 (F:Nat) (p:Hq):Option Bool:=
 bnd (Rr F p) fun r3=>
 bnd (G66 p.s p.boxes r3 p.x.Slot.G4) fun r4=>
 some (!r4)
theorem Hbb (F:Nat) (p:Hq) (r:Bool) (h:G33 F p=some r):Pure Ep 50 [.agg (Hq.cs p)] (·=BL r):=by
 unfold G33 at h
 refine Gz [.tmp 2] Tryz.func50 O O (Jr fun hK1=>(JLh (.ptr 1113 0) (Jm (cs:=(Hq.cs p)) 1113 O O O O O) O (Yb (BL false) O (G7 (hK1 ?_)))))
 refine Gq [(1,Em p)] [] 1113 rfl rfl rfl ø rfl (by exact⟨.ptr,ø⟩) (Js fun hK2=>?_)
 obtain⟨r3,hr3,h⟩:=Ge h
 obtain⟨r4,hr4,h⟩:=Ge h
 refine JC_d0 Q6 (by kernel_rfl) (Dq (Em p) (Ga H28 O O O) O (Dq (.agg (Gw.cs p.s)) (Gg Ho O O O) O (Dq (.dptr [E3 p.boxes,E1 p.l,E2 p.open_,G0 p.x.Gd,G0 p.x.Slot.G4,G0 p.x.Slot.Tier,U8 p.x.Slot.Half]) (Ga Je5 O O O) O (Dq (E3 p.boxes) (Gh Q61 O O O) O (Dq (.agg (Hq.cs p)) (Gg Gd7 O O O) O (Dq (E1 r3) (Gv (args:=[.agg (Hq.cs p)]) O (Gac F p r3 hr3) Jf8 ⟨O,O,ø⟩) O (Dq (Eg p.x) (Ga G34 O O O) O (Dq (.dptr ((Stowed.cs p.x).drop 1)) (Ga Hr O O O) O (Dq (.dptr ((Stowed.cs p.x).drop 1)) (Ga J9 O O O) O (Dq (G0 p.x.Slot.G4) (Gh Gb O O O) O (Dq (BL r4) (Gv (args:=[.agg (Gw.cs p.s),E3 p.boxes,E1 r3,G0 p.x.Slot.G4]) O (J17 p.s p.boxes r3 p.x.Slot.G4 r4 hr4) Jf4 ⟨O,O,O,O,O,O,O,O,ø⟩) O (Dq (BL (!r4)) (Rv (b:=r4) O O) O (Dq (BL (!r4)) (G8 O O) O (Dnil ?_))))))))))))))
 refine hK2 (Gs (fin1 BL h))

def Ga2 (F:Nat) (s:Gw) (boxes:List Gd) (l:List Stowed) (open_:List Int) (x:Stowed):Option ((List Stowed)×Int):=
 bnd (Yj s boxes l open_) fun r4=>
 bif (!r4) then
 (some ([],2))
 else
 (bnd (G67 boxes x.Gd) fun r7=>
  bif ((!r7.2)||((decide (r7.1.Size≠20))&&(decide (r7.1.Size≠40)))) then
  (some ([],6))
  else
  (bnd (G20 l x.Gd) fun r12=>
   bif decide (0≤r12) then
   (some ([],96))
   else
   (bnd (G7b s x.Slot r7.1.Size) fun r15=>
    bif (!r15) then
    (some ([],97))
    else
    (need (decide (4≤9223372036854775807)) <|
     upto (fun i60 (s60:Unit) nx60=>
      jp (fun kj63=>
       bif decide ((i60:Int)=0) then
       (bnd (Zw (Hq.mk s boxes l open_ x)) fun r67=>
        bif r67 then
        (Rc (91+(i60:Int)) fun v69=>
         some ([],v69))
        else
        (kj63 ()))
       else
       (bif decide ((i60:Int)=1) then
        (bnd (G0e (Hq.mk s boxes l open_ x)) fun r71=>
         bif r71 then
         (Rc (91+(i60:Int)) fun v73=>
          some ([],v73))
         else
         (kj63 ()))
        else
        (bif decide ((i60:Int)=2) then
         (bnd (G1f (Hq.mk s boxes l open_ x)) fun r75=>
          bif r75 then
          (Rc (91+(i60:Int)) fun v77=>
           some ([],v77))
          else
          (kj63 ()))
         else
         (bif decide ((i60:Int)=3) then
          (bnd (G33 F (Hq.mk s boxes l open_ x)) fun r79=>
           bif r79 then
           (Rc (91+(i60:Int)) fun v81=>
            some ([],v81))
           else
           (kj63 ()))
          else
          (none))))) fun(j63:Unit)=>
      nx60 ())
     (fun(s60:Unit)=>
      bnd (Rr F (Hq.mk s boxes l open_ x)) fun r83=>
      some (r83,0)) (4:Int).toNat 0 ()))))
abbrev Kd (s:Gw) (boxes:List Gd) (l:List Stowed) (open_:List Int) (x:Stowed):List AV:=[E4 s.Columns,E5 s.Covers,G0 s.Light.Kilos,G0 s.Light.X,G0 s.Light.Y,G0 s.Light.Z,E7 s.Rows,E8 s.Frames,E9 s.Tanks,G0 s.G2.Tolerance,G0 s.G2.Trim,G0 s.G2.List_,G0 s.G2.Stability,E3 boxes,E1 l,E2 open_,G0 x.Gd,G0 x.Slot.G4,G0 x.Slot.Tier,U8 x.Slot.Half]
abbrev Ke (s:Gw) (boxes:List Gd) (l:List Stowed) (open_:List Int) (x:Stowed):List AV:=[.agg (Kd s boxes l open_ x)]
theorem M_stow_Put_w (F:Nat) (s:Gw) (boxes:List Gd) (l:List Stowed) (open_:List Int) (x:Stowed) (r:(List Stowed)×Int) (h:Ga2 F s boxes l open_ x=some r):Pure Ep 17 [.agg (Gw.cs s),E3 boxes,E1 l,E2 open_,.agg (Stowed.cs x)] (·=.tup [E1 r.1,G0 r.2]):=by
 unfold Ga2 at h
 refine Gz [.tmp 10,.tmp 11] Tryz.func17 O O (Jr fun hK1=>(JLh (.ptr 1054 0) (Jm (cs:=(Gw.cs s)) 1054 O O O O O) O (JLh (.ptr 1055 0) (Jm (cs:=[G0 x.Gd,G0 x.Slot.G4,G0 x.Slot.Tier,U8 x.Slot.Half]) 1055 O O O O O) O (JLh (E1 ([]:List Stowed)) (Hf 4 O O) O (Yb (G0 0) O (G7 (hK1 ?_)))))))
 refine Gq [(1,E3 boxes),(2,E1 l),(3,E2 open_),(5,Ef s),(9,.ptr 1055 0)] [(1055,.box 82 [G0 x.Gd,G0 x.Slot.G4,G0 x.Slot.Tier,U8 x.Slot.Half])] 1054 rfl rfl rfl ⟨⟨_,rfl,.boxEq rfl rfl⟩,ø⟩ rfl (by repeat' (first | exact .ptr | constructor)) ?_
 refine Gq [(1,E3 boxes),(2,E1 l),(3,E2 open_),(5,Ef s),(9,Eg x)] [] 1055 rfl rfl rfl ø rfl (by repeat' (first | exact .ptr | constructor)) (Js fun hK2=>?_)
 refine Jr fun hK3=>(JLh (.agg (Gw.cs s)) (Gg Ho O O O) O (Yb (E3 boxes) O (Yb (E1 l) O (Yb (E2 open_) O ?_))))
 obtain⟨r4,hr4,h⟩:=Ge h
 refine JLh (BL r4) (Gv O (G79 s boxes l open_ r4 hr4) H98 ⟨O,O,O,O,O,O,O,O,ø⟩) O (JLh (BL (!r4)) (Rv (b:=r4) O O) O (G7 (hK3 (JCc O h (fun h hb=>?_) (fun h hb=>?_)))))
 ·
  refine Jr fun hK5=>(JLh (E1 ([]:List Stowed)) (Hf 4 O O) O (Yb (G0 2) O (G7 (hK5 (Gs (⟨[E1 ([]:List Stowed),G0 2],[],ø,O,⟨⟨_,O,.conv (.same O)⟩,⟨_,O,.conv (.same O)⟩,ø⟩,O,congrArg (fun r:(List Stowed)×Int=>(.tup [E1 r.1,G0 r.2]:AV)) (Option.some.inj h)⟩))))))
 ·
  refine Gi (hK2 (Jr fun hK6=>(Yb (E3 boxes) O (JLh (Eg x) (Ga J5 O O O) O (JLh (G0 x.Gd) (Gh Gb O O O) O ?_)))))
  obtain⟨r7,hr7,h⟩:=Ge h
  refine JLh (.tup [.agg (Gd.cs r7.1),BL r7.2]) (Gv O (H73 boxes x.Gd r7 hr7) J26 ⟨O,O,O,O,ø⟩) O (Yb (.tup [.agg (Gd.cs r7.1),BL r7.2]) O (JLh (.agg (Gd.cs r7.1)) (Hk O O O) O (JLh (BL r7.2) (Hk O O O) O (JLh (.ptr 1056 0) (Hx 1056 9 Rz O O) O (Hw (u:=.junk) (Hd (u:=.agg (Gd.cs r7.1)) (ds:=(Gd.cs r7.1)) Zo O O O O O O O O) (Yb (BL r7.2) O (G7 (hK6 ?_))))))))
  refine Gq [(1,E3 boxes),(2,E1 l),(3,E2 open_),(5,Ef s),(9,Eg x),(12,Eh r7.1),(13,BL r7.2)] [] 1056 rfl rfl rfl ø rfl (by repeat' (first | exact .ptr | constructor)) (Js fun hK8=>Gj ?_)
  refine Jr fun hK9=>(Yb (BL r7.2) O (JLh (BL (!r7.2)) (Rv (b:=r7.2) O O) O (Yb (BL (!r7.2)) O (JLo (.dptr ((Gd.cs r7.1).drop 2)) [] O .scf ø (fun hc=>Ga G03 O O O) O (JLo (U8 r7.1.Size) [34] O .scf ⟨Ua,ø⟩ (fun hc=>Gh Hz O O O) O (JLo (BL (decide (r7.1.Size≠20))) [35] O .scf ⟨Ua,ø⟩ (fun hc=>G71 O O O) O (JLo (BL (decide (r7.1.Size≠20))) [36] O .scf ⟨Ua,ø⟩ (fun hc=>G6 O O) O (JLo (.dptr ((Gd.cs r7.1).drop 2)) [] O .optt ø (fun hc=>Ga G03 O O O) O (JLo (U8 r7.1.Size) [38] O .optt ⟨Ua,ø⟩ (fun hc=>Gh Hz O O O) O (JLo (BL (decide (r7.1.Size≠40))) [39] O .optt ⟨Ua,ø⟩ (fun hc=>G71 O O O) O (Gc (u:=BL ((decide (r7.1.Size≠20))&&(decide (r7.1.Size≠40)))) [(37,BL (decide (r7.1.Size≠20))),(40,_)] O O O .scf ⟨.all id,.part,ø⟩ (fun hc=>Qr O O O O) ?_)))))))))))
  refine JLh (BL ((!r7.2)||((decide (r7.1.Size≠20))&&(decide (r7.1.Size≠40))))) (G0b O O O O) O (Yb (BL ((!r7.2)||((decide (r7.1.Size≠20))&&(decide (r7.1.Size≠40))))) O (G7 (hK9 (JCc O h (fun h hb=>?_) (fun h hb=>?_)))))
  ·
   refine Jr fun hK10=>(JLh (E1 ([]:List Stowed)) (Hf 4 O O) O (Yb (G0 6) O (G7 (hK10 (Gs (⟨[E1 ([]:List Stowed),G0 6],[],ø,O,⟨⟨_,O,.conv (.same O)⟩,⟨_,O,.conv (.same O)⟩,ø⟩,O,congrArg (fun r:(List Stowed)×Int=>(.tup [E1 r.1,G0 r.2]:AV)) (Option.some.inj h)⟩))))))
  ·
   refine Jr fun hK11=>(Yb (E1 l) O (JLh (Eg x) (Ga J5 O O O) O (JLh (G0 x.Gd) (Gh Gb O O O) O ?_)))
   obtain⟨r12,hr12,h⟩:=Ge h
   refine JLh (G0 r12) (Gv O (Geb l x.Gd r12 hr12) H97 ⟨O,O,O,O,ø⟩) O (JLh (BL (decide (0≤r12))) (G2f O O O) O (Yb (BL (decide (0≤r12))) O (G7 (hK11 (JCc O h (fun h hb=>?_) (fun h hb=>?_))))))
   ·
    refine Jr fun hK13=>(JLh (E1 ([]:List Stowed)) (Hf 4 O O) O (Yb (G0 96) O (G7 (hK13 (Gs (⟨[E1 ([]:List Stowed),G0 96],[],ø,O,⟨⟨_,O,.conv (.same O)⟩,⟨_,O,.conv (.same O)⟩,ø⟩,O,congrArg (fun r:(List Stowed)×Int=>(.tup [E1 r.1,G0 r.2]:AV)) (Option.some.inj h)⟩))))))
   ·
    refine Jr fun hK14=>(JLh (.agg (Gw.cs s)) (Gg Ho O O O) O (JLh (.dptr ((Stowed.cs x).drop 1)) (Ga Hr O O O) O (JLh (.agg ((Stowed.cs x).drop 1)) (Gg Jh O O O) O (JLh (.dptr ((Gd.cs r7.1).drop 2)) (Ga G03 O O O) O (JLh (U8 r7.1.Size) (Gh Hz O O O) O ?_)))))
    obtain⟨r15,hr15,h⟩:=Ge h
    refine JLh (BL r15) (Gv O (He2 s x.Slot r7.1.Size r15 hr15) Jf9 ⟨O,O,O,O,O,O,ø⟩) O (JLh (BL (!r15)) (Rv (b:=r15) O O) O (Yb (BL (!r15)) O (G7 (hK14 (JCc O h (fun h hb=>?_) (fun h hb=>?_))))))
    ·
     refine Jr fun hK16=>(JLh (E1 ([]:List Stowed)) (Hf 4 O O) O (Yb (G0 97) O (G7 (hK16 (Gs (⟨[E1 ([]:List Stowed),G0 97],[],ø,O,⟨⟨_,O,.conv (.same O)⟩,⟨_,O,.conv (.same O)⟩,ø⟩,O,congrArg (fun r:(List Stowed)×Int=>(.tup [E1 r.1,G0 r.2]:AV)) (Option.some.inj h)⟩))))))
    ·
     refine Gi (hK8 ?_)
     refine Jr fun hK17=>(JLh (.agg (Gw.cs s)) (Gg Ho O O O) O (Yb (E3 boxes) O (Yb (E1 l) O (Yb (E2 open_) O (JLh (.agg (Stowed.cs x)) (Gg Jg O O O) O (JLh (.agg (Kd s boxes l open_ x)) (J3 (cs:=(Kd s boxes l open_ x)) [(0,13),(13,1),(14,1),(15,1),(16,4)] [E4 ([]:List G4),E5 ([]:List G9),G0 0,G0 0,G0 0,G0 0,E7 ([]:List Row),E8 ([]:List Frame),E9 ([]:List Gk),G0 0,G0 0,G0 0,G0 0,E3 ([]:List Gd),E1 ([]:List Stowed),E2 ([]:List Int),G0 0,G0 0,G0 0,U8 0] [.slice none 0 0,.slice none 0 0,E0,E0,E0,E0,.slice none 0 0,.slice none 0 0,.slice none 0 0,E0,E0,E0,E0,.slice none 0 0,.slice none 0 0,.slice none 0 0,E0,E0,E0,.int .u8 0] Q47 Q6f ⟨.inr ⟨_,O,O⟩,.inr ⟨_,O,O⟩,.inl O,.inl O,.inl O,.inl O,.inr ⟨_,O,O⟩,.inr ⟨_,O,O⟩,.inr ⟨_,O,O⟩,.inl O,.inl O,.inl O,.inl O,.inr ⟨_,O,O⟩,.inr ⟨_,O,O⟩,.inr ⟨_,O,O⟩,.inl O,.inl O,.inl O,.inl O,ø⟩ O O) O (JLh (.ptr 1057 0) (Hx 1057 20 Q60 O O) O (Hw (u:=.junk) (Hd (u:=.agg (Kd s boxes l open_ x)) (ds:=(Kd s boxes l open_ x)) Q77 O O O O O O O O) (G7 (hK17 ?_))))))))))
     refine Gq [(14,.dptr (Kd s boxes l open_ x))] [] 1057 rfl rfl rfl ø rfl (by exact⟨.ptr,ø⟩) (Js fun hK18=>?_)
     refine Jr fun hK19=>(JLh (.agg (Kd s boxes l open_ x)) (Gg Gd7 O O O) O (JLh (.bfn 47 (Ke s boxes l open_ x)) (H66 (cs:=(Ke s boxes l open_ x)) O O) O (JLh (.agg (Kd s boxes l open_ x)) (Gg Gd7 O O O) O (JLh (.bfn 48 (Ke s boxes l open_ x)) (H66 (cs:=(Ke s boxes l open_ x)) O O) O (JLh (.agg (Kd s boxes l open_ x)) (Gg Gd7 O O O) O (JLh (.bfn 49 (Ke s boxes l open_ x)) (H66 (cs:=(Ke s boxes l open_ x)) O O) O (JLh (.agg (Kd s boxes l open_ x)) (Gg Gd7 O O O) O (JLh (.bfn 50 (Ke s boxes l open_ x)) (H66 (cs:=(Ke s boxes l open_ x)) O O) O (JLh (.agg [.bfn 47 (Ke s boxes l open_ x),.bfn 48 (Ke s boxes l open_ x),.bfn 49 (Ke s boxes l open_ x),.bfn 50 (Ke s boxes l open_ x)]) (Haf (cs:=[.bfn 47 (Ke s boxes l open_ x),.bfn 48 (Ke s boxes l open_ x),.bfn 49 (Ke s boxes l open_ x),.bfn 50 (Ke s boxes l open_ x)]) [.nilFunc,.nilFunc,.nilFunc,.nilFunc] Qe3 Q6e O O) O (Yb (G0 0) O (G7 (hK19 ?_))))))))))))
     refine Gj ?_
     obtain⟨hx60,h⟩:=Jd h
     obtain⟨b60,kx60,hb60,hkx60,h⟩:=H52 h
     refine Hb (fun i60 (s60:Unit)=>upto b60 kx60 ((4:Int).toNat - i60) i60 s60=some r) (fun i60 s60=>[(14,.dptr (Kd s boxes l open_ x)),(71,.agg [.bfn 47 (Ke s boxes l open_ x),.bfn 48 (Ke s boxes l open_ x),.bfn 49 (Ke s boxes l open_ x),.bfn 50 (Ke s boxes l open_ x)]),(72,Eo i60)]) (fun i60 s60=>[]) (fun i60=>(4:Int).toNat - i60) 0 () h ⟨(.sm O O),ø,O⟩ ?_
     clear h
     intro i60 s60 hi60 K60 e60
     refine Jr fun hK61=>(JLh (BL (decide ((i60:Int) < 4))) (J0 O O O) O (G7 (hK61 (Js fun hK62=>Gf O (fun hb=>?_) (fun hb=>?_)))))
     ·
      have hk60:=Gf4 hb
      obtain⟨nx60,hn60,h⟩:=Gee hi60 hk60
      replace h:=app3 hb60 h
      refine Gi (hK62 ?_)
      obtain⟨kj63,hkj63,h⟩:=Qo h
      refine Jx (fun j63:Unit=>kj63 j63=some r) (fun j63=>[(14,.dptr (Kd s boxes l open_ x)),(71,.agg [.bfn 47 (Ke s boxes l open_ x),.bfn 48 (Ke s boxes l open_ x),.bfn 49 (Ke s boxes l open_ x),.bfn 50 (Ke s boxes l open_ x)]),(72,Eo i60)]) (fun j63=>[]) (fun Kj63 ej63=>?_) ?_
      ·
       refine Gj (Jr fun hK64=>(Yb (Eo i60) O ((Decidable.em ((i60:Int)=0)).elim (fun hq65_0=>?_) (fun hq65_0=>?_))))
       ·
        replace h:=Gx (decide_eq_true hq65_0) h
        refine JLh (.bfn 47 (Ke s boxes l open_ x)) (J00 (j:=0) H99 O O O hq65_0 O O) O (Yb (Eo i60) O (Yb (.bfn 47 (Ke s boxes l open_ x)) O (G7 (hK64 ?_))))
        refine Jr fun hK66=>(Yb (.bfn 47 (Ke s boxes l open_ x)) O ?_)
        obtain⟨r67,hr67,h⟩:=Ge h
        refine JLh (BL r67) (J01 (args:=[]) (firsts:=(Ke s boxes l open_ x)) O O (Hba (Hq.mk s boxes l open_ x) r67 hr67) Qc8 ø O) O (G7 (hK66 (JCc O h (fun h hb=>?_) (fun h hb=>?_))))
        ·
         refine Jr fun hK68=>(Yb (Eo i60) O ?_)
         obtain⟨v69,hv69,h⟩:=Hv h
         refine JLh (G0 v69) (Hu hv69 O O O) O (JLh (E1 ([]:List Stowed)) (Hf 4 O O) O (Yb (G0 v69) O (G7 (hK68 (Gs (⟨[E1 ([]:List Stowed),G0 v69],[],ø,O,⟨⟨_,O,.conv (.same O)⟩,⟨_,O,.conv (.same O)⟩,ø⟩,O,congrArg (fun r:(List Stowed)×Int=>(.tup [E1 r.1,G0 r.2]:AV)) (Option.some.inj h)⟩))))))
        ·
         refine Gi (ej63 _ _ () h ⟨(.sm O O),ø,O⟩)
       ·
        replace h:=H9 (decide_eq_false hq65_0) h
        refine(Decidable.em ((i60:Int)=1)).elim (fun hq65_1=>?_) (fun hq65_1=>?_)
        ·
         replace h:=Gx (decide_eq_true hq65_1) h
         refine JLh (.bfn 48 (Ke s boxes l open_ x)) (J00 (j:=1) H99 O O O hq65_1 O O) O (Yb (Eo i60) O (Yb (.bfn 48 (Ke s boxes l open_ x)) O (G7 (hK64 ?_))))
         refine Jr fun hK70=>(Yb (.bfn 48 (Ke s boxes l open_ x)) O ?_)
         obtain⟨r71,hr71,h⟩:=Ge h
         refine JLh (BL r71) (J01 (args:=[]) (firsts:=(Ke s boxes l open_ x)) O O (He1 (Hq.mk s boxes l open_ x) r71 hr71) Qc7 ø O) O (G7 (hK70 (JCc O h (fun h hb=>?_) (fun h hb=>?_))))
         ·
          refine Jr fun hK72=>(Yb (Eo i60) O ?_)
          obtain⟨v73,hv73,h⟩:=Hv h
          refine JLh (G0 v73) (Hu hv73 O O O) O (JLh (E1 ([]:List Stowed)) (Hf 4 O O) O (Yb (G0 v73) O (G7 (hK72 (Gs (⟨[E1 ([]:List Stowed),G0 v73],[],ø,O,⟨⟨_,O,.conv (.same O)⟩,⟨_,O,.conv (.same O)⟩,ø⟩,O,congrArg (fun r:(List Stowed)×Int=>(.tup [E1 r.1,G0 r.2]:AV)) (Option.some.inj h)⟩))))))
         ·
          refine Gi (ej63 _ _ () h ⟨(.sm O O),ø,O⟩)
        ·
         replace h:=H9 (decide_eq_false hq65_1) h
         refine(Decidable.em ((i60:Int)=2)).elim (fun hq65_2=>?_) (fun hq65_2=>?_)
         ·
          replace h:=Gx (decide_eq_true hq65_2) h
          refine JLh (.bfn 49 (Ke s boxes l open_ x)) (J00 (j:=2) H99 O O O hq65_2 O O) O (Yb (Eo i60) O (Yb (.bfn 49 (Ke s boxes l open_ x)) O (G7 (hK64 ?_))))
          refine Jr fun hK74=>(Yb (.bfn 49 (Ke s boxes l open_ x)) O ?_)
          obtain⟨r75,hr75,h⟩:=Ge h
          refine JLh (BL r75) (J01 (args:=[]) (firsts:=(Ke s boxes l open_ x)) O O (Hac (Hq.mk s boxes l open_ x) r75 hr75) Qc6 ø O) O (G7 (hK74 (JCc O h (fun h hb=>?_) (fun h hb=>?_))))
          ·
           refine Jr fun hK76=>(Yb (Eo i60) O ?_)
           obtain⟨v77,hv77,h⟩:=Hv h
           refine JLh (G0 v77) (Hu hv77 O O O) O (JLh (E1 ([]:List Stowed)) (Hf 4 O O) O (Yb (G0 v77) O (G7 (hK76 (Gs (⟨[E1 ([]:List Stowed),G0 v77],[],ø,O,⟨⟨_,O,.conv (.same O)⟩,⟨_,O,.conv (.same O)⟩,ø⟩,O,congrArg (fun r:(List Stowed)×Int=>(.tup [E1 r.1,G0 r.2]:AV)) (Option.some.inj h)⟩))))))
          ·
           refine Gi (ej63 _ _ () h ⟨(.sm O O),ø,O⟩)
         ·
          replace h:=H9 (decide_eq_false hq65_2) h
          refine(Decidable.em ((i60:Int)=3)).elim (fun hq65_3=>?_) (fun hq65_3=>?_)
          ·
           replace h:=Gx (decide_eq_true hq65_3) h
           refine JLh (.bfn 50 (Ke s boxes l open_ x)) (J00 (j:=3) H99 O O O hq65_3 O O) O (Yb (Eo i60) O (Yb (.bfn 50 (Ke s boxes l open_ x)) O (G7 (hK64 ?_))))
           refine Jr fun hK78=>(Yb (.bfn 50 (Ke s boxes l open_ x)) O ?_)
           obtain⟨r79,hr79,h⟩:=Ge h
           refine JLh (BL r79) (J01 (args:=[]) (firsts:=(Ke s boxes l open_ x)) O O (Hbb F (Hq.mk s boxes l open_ x) r79 hr79) Qc5 ø O) O (G7 (hK78 (JCc O h (fun h hb=>?_) (fun h hb=>?_))))
           ·
            refine Jr fun hK80=>(Yb (Eo i60) O ?_)
            obtain⟨v81,hv81,h⟩:=Hv h
            refine JLh (G0 v81) (Hu hv81 O O O) O (JLh (E1 ([]:List Stowed)) (Hf 4 O O) O (Yb (G0 v81) O (G7 (hK80 (Gs (⟨[E1 ([]:List Stowed),G0 v81],[],ø,O,⟨⟨_,O,.conv (.same O)⟩,⟨_,O,.conv (.same O)⟩,ø⟩,O,congrArg (fun r:(List Stowed)×Int=>(.tup [E1 r.1,G0 r.2]:AV)) (Option.some.inj h)⟩))))))
           ·
            refine Gi (ej63 _ _ () h ⟨(.sm O O),ø,O⟩)
          ·
           replace h:=H9 (decide_eq_false hq65_3) h
           cases h
      ·intro j63 h
       replace h:=app1 hkj63 h
       refine G3 (JLh (G0 ((i60+1:Nat):Int)) (Hu (Hj hk60 (Ga3 hx60)) O O O) O (Yb (G0 ((i60+1:Nat):Int)) O (G7 (e60 _ _ (i60+1) () (app1 hn60 h) (by omega) ⟨(.sm O O),ø,rfl⟩))))
     ·
      have h:=app1 hkx60 (Gef hi60 (G1c hb))
      refine Hm (hK18 (Jr fun hK82=>(JLh (.agg (Kd s boxes l open_ x)) (Gg Gd7 O O O) O ?_)))
      obtain⟨r83,hr83,h⟩:=Ge h
      refine JLh (E1 r83) (Gv O (Gac F (Hq.mk s boxes l open_ x) r83 hr83) Jf8 ⟨O,O,ø⟩) O (Yb (E1 r83) O (Yb (G0 0) O (G7 (hK82 (Gs (⟨[E1 r83,G0 0],[],ø,O,⟨⟨_,O,.conv (.same O)⟩,⟨_,O,.conv (.same O)⟩,ø⟩,O,congrArg (fun r:(List Stowed)×Int=>(.tup [E1 r.1,G0 r.2]:AV)) (Option.some.inj h)⟩))))))
end
end Go.Proofs.YtknalejjpofoaaaGreat
