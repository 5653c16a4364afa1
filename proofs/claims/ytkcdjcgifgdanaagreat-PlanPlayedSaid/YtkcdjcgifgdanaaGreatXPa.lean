/-
 Models of functions of the program,and that they return what the models say.
-/
import Derived.Test.YtkcdjcgifgdanaaGreatXV
set_option linter.unnecessarySimpa false
set_option maxRecDepth 100000
set_option maxHeartbeats 1000000
set_option linter.unusedVariables false
set_option linter.unusedSimpArgs false
namespace Go.Proofs.YtkcdjcgifgdanaaGreat
open Go.RowKit
noncomputable section
structure Hj where
 s:Gw
 boxes:List Gd
 l:List Stowed
 open_:List Int
 x:Stowed
 deriving DecidableEq,Inhabited
def Hj.cs (x:Hj):List AV:=[E3 x.s.Columns,E4 x.s.Covers,G0 x.s.Light.Kilos,G0 x.s.Light.X,G0 x.s.Light.Y,G0 x.s.Light.Z,E5 x.s.Rows,E6 x.s.Frames,E7 x.s.Tanks,G0 x.s.G2.Tolerance,G0 x.s.G2.Trim,G0 x.s.G2.List_,G0 x.s.G2.Stability,E2 x.boxes,E0 x.l,E1 x.open_,G0 x.x.Gd,G0 x.x.Slot.G4,G0 x.x.Slot.Tier,U8 x.x.Slot.Half]
def Hj.av (x:Hj):AV:=.agg x.cs
abbrev Eh (x:Hj):AV:=.dptr (Hj.cs x)
namespace XPF
open XAF
open XCF
open XVF
theorem tq_80 (a b:Stowed):Hb5 Ej 4 80 [.int .i64 a.Gd,.int .i64 a.Slot.G4,.int .i64 a.Slot.Tier,.int .u8 a.Slot.Half] [.int .i64 b.Gd,.int .i64 b.Slot.G4,.int .i64 b.Slot.Tier,.int .u8 b.Slot.Half]=some (decide (a=b)):=by
 refine(show _=some ((a.Gd==b.Gd)&&(((a.Slot.G4==b.Slot.G4)&&((a.Slot.Tier==b.Slot.Tier)&&((a.Slot.Half==b.Slot.Half)&&true)))&&true)) by kernel_rfl).trans (congrArg some ?_)
 rw [Bool.eq_iff_iff]
 simp only [Bool.and_eq_true,beq_iff_eq,decide_eq_true_eq,Bool.and_true]
 constructor
 ·intro h; obtain⟨_,⟨_,_,_⟩⟩:=a; obtain⟨_,⟨_,_,_⟩⟩:=b; simp_all
 ·intro h; subst h; simp
theorem G92:Ga9 Ej 133 20=true:=by kernel_rfl
theorem Je1:G0a Ej 80=true:=by kernel_rfl
theorem H2e:arr1B Ej 134 4=true:=by kernel_rfl
theorem Q23:arrB Ej 134 58 1=true:=by kernel_rfl
theorem G1d:Hf Ej 10=true:=by kernel_rfl
theorem Jdb:Hf Ej 115=true:=by kernel_rfl
theorem Jda:Hf Ej 116=true:=by kernel_rfl
theorem J15:Hf Ej 117=true:=by kernel_rfl
theorem Q22:Hf Ej 12=true:=by kernel_rfl
theorem Jd9:Hf Ej 126=true:=by kernel_rfl
theorem Q19:Hf Ej 26=true:=by kernel_rfl
theorem Q18:Hf Ej 27=true:=by kernel_rfl
theorem Q17:Hf Ej 28=true:=by kernel_rfl
theorem Q16:Hf Ej 29=true:=by kernel_rfl
theorem Q15:Hf Ej 30=true:=by kernel_rfl
theorem Q14:Hf Ej 31=true:=by kernel_rfl
theorem Q13:Hf Ej 32=true:=by kernel_rfl
theorem Ze:Hf Ej 33=true:=by kernel_rfl
theorem Q12:Hf Ej 34=true:=by kernel_rfl
theorem H2d:Hf Ej 35=true:=by kernel_rfl
theorem tf_call_4:Hf Ej 4=true:=by kernel_rfl
theorem tf_call_5:Hf Ej 5=true:=by kernel_rfl
theorem H2a:Hf Ej 56=true:=by kernel_rfl
theorem Q0a:Hf Ej 57=true:=by kernel_rfl
theorem J60:Hf Ej 58=true:=by kernel_rfl
theorem J5f:Hf Ej 59=true:=by kernel_rfl
theorem Q09:Hf Ej 60=true:=by kernel_rfl
theorem Q08:Hf Ej 61=true:=by kernel_rfl
theorem Q07:Hf Ej 62=true:=by kernel_rfl
theorem H29:Hf Ej 63=true:=by kernel_rfl
theorem Q06:Hf Ej 64=true:=by kernel_rfl
theorem Q05:Hf Ej 65=true:=by kernel_rfl
theorem Q04:Hf Ej 66=true:=by kernel_rfl
theorem Q03:Hf Ej 67=true:=by kernel_rfl
theorem Q02:Hf Ej 68=true:=by kernel_rfl
theorem J5e:Hf Ej 69=true:=by kernel_rfl
theorem Hf3:Hf Ej 7=true:=by kernel_rfl
theorem Hf2:Hf Ej 8=true:=by kernel_rfl
theorem Jfa:Hf Ej 85=true:=by kernel_rfl
theorem Ha5:Hf Ej 86=true:=by kernel_rfl
theorem Jf9:Hf Ej 87=true:=by kernel_rfl
theorem J58:Hf Ej 88=true:=by kernel_rfl
theorem tf_call_9:Hf Ej 9=true:=by kernel_rfl
theorem Jf8:Hf Ej 90=true:=by kernel_rfl
theorem Jf7:Hf Ej 91=true:=by kernel_rfl
theorem Jf6:Hf Ej 94=true:=by kernel_rfl
theorem Jf5:Hf Ej 96=true:=by kernel_rfl
theorem Jf4:Hf Ej 97=true:=by kernel_rfl
theorem Jf3:Hf Ej 98=true:=by kernel_rfl
theorem tf_eqg_80:Ej.eqGuardType Ej.depth 80=false:=by kernel_rfl
theorem Gd1:Jk Ej 133 0 0=true:=by kernel_rfl
theorem J53:Jk Ej 133 1 13=true:=by kernel_rfl
theorem G35:Jk Ej 133 2 14=true:=by kernel_rfl
theorem J52:Jk Ej 133 3 15=true:=by kernel_rfl
theorem G10:Jk Ej 133 4 16=true:=by kernel_rfl
theorem J4f:Hdc Ej 159 .u64=true:=by kernel_rfl
theorem Jb0:placesOf Ej 133=some [(0,13),(13,1),(14,1),(15,1),(16,4)]:=by kernel_rfl
theorem Jc8:placesOf Ej 35=some [(0,1),(1,1),(2,4),(6,1),(7,1),(8,1),(9,4)]:=by kernel_rfl
theorem Jc7:R7 Ej 37=true:=by kernel_rfl
theorem Jd7:R3 Ej 133 20=true:=by kernel_rfl
theorem Jd3:(Ej.info? 133).bind (fun i=>i.zero.map Value.cells)=some (List.toArray [.slice none 0 0,.slice none 0 0,.int .i64 0,.int .i64 0,.int .i64 0,.int .i64 0,.slice none 0 0,.slice none 0 0,.slice none 0 0,.int .i64 0,.int .i64 0,.int .i64 0,.int .i64 0,.slice none 0 0,.slice none 0 0,.slice none 0 0,.int .i64 0,.int .i64 0,.int .i64 0,.int .u8 0]):=by kernel_rfl
theorem Jd2:(Ej.info? 134).bind (fun i=>i.zero.map Value.cells)=some (List.toArray [.nilFunc,.nilFunc,.nilFunc,.nilFunc]):=by kernel_rfl
theorem Jc6:R6 Ej 133 20=true:=by kernel_rfl
theorem J11:R6 Ej 35 13=true:=by kernel_rfl
end XPF
open XAF
open XCF
open XVF
open XPF

def Y6 (s:Gw) (boxes:List Gd) (l:List Stowed) (open_:List Int):Option Bool:=
 each (fun y22 i22 (s22:Unit) nx22=>
  bnd (bif ((!((decide (y22 < 0))||(decide ((s.Covers.length:Int)≤y22))))&&(decide (0 < (i22:Int)))) then G0d ((i22:Int) - 1) some else some 0) fun v28=>
  bnd (bif ((!((decide (y22 < 0))||(decide ((s.Covers.length:Int)≤y22))))&&(decide (0 < (i22:Int)))) then Rx open_ v28 some else some default) fun y29=>
  bif (((decide (y22 < 0))||(decide ((s.Covers.length:Int)≤y22)))||((decide (0 < (i22:Int)))&&(decide (y22≤y29)))) then
  (some false)
  else
  (nx22 ()))
 (fun(s22:Unit)=>
  bnd (R2 s boxes l) fun r32=>
  some r32) open_ 0 ()
theorem G49 (s:Gw) (boxes:List Gd) (l:List Stowed) (open_:List Int) (r:Bool) (h:Y6 s boxes l open_=some r):Pure Ej 56 [.agg (Gw.cs s),E2 boxes,E0 l,E1 open_] (·=BL r):=by
 unfold Y6 at h
 refine H1 [.tmp 8] Tryz.func56 O O (Jr fun hK1=>(JLh (.ptr 1125 0) (Jm (cs:=(Gw.cs s)) 1125 O O O O O) O (Ru (BL false) O (G7 (hK1 (Gp [(1,E2 boxes),(2,E0 l),(3,E1 open_),(4,Ec s)] [] 1125 rfl rfl rfl G rfl (by repeat' (first | exact .ptr | constructor)) (Js fun hK2=>?_)))))))
 refine Jr fun hK3=>(Ru (E1 open_) O (JLl Gv O O O fun hm12=>(Ru (G0 0) O (G7 (hK3 (Gq ?_))))))
 obtain⟨b22,kx22,hb22,hkx22,h⟩:=Hx h
 refine Hg (fun i22 (s22:Unit)=>each b22 kx22 (List.drop i22 open_) i22 s22=some r) (fun i22 s22=>[(1,E2 boxes),(2,E0 l),(3,E1 open_),(4,Ec s),(11,E1 open_),(12,Ei open_.length),(13,Ei i22)]) (fun i22 s22=>[]) (fun i22=>open_.length - i22) 0 () h ⟨(by repeat' constructor),G,rfl⟩ ?_
 clear h
 intro i22 s22 hi22 K22 e22
 refine Jr fun hK23=>(JLh (BL (decide ((i22:Int) < (open_.length:Int)))) (Hz O O O) O (G7 (hK23 (Js fun hK24=>Gk O (fun hb=>?_) (fun hb=>?_)))))
 ·
  have hk22:=Jb hb
  obtain⟨y22,nx22,hy22,hn22,h⟩:=Ho hi22 hk22
  replace h:=Rw hb22 h
  refine Gn (hK24 (Js fun hK25=>Gq (Jr fun hK26=>(Ru (Ei i22) O (JLh (.dptr [G0 y22]) (H4 (f:=G0) (xs:=open_) (y:=y22) O O O Gv hy22 O) O (JLh (G0 y22) (Gf Gc O O O) O (Ru (Ei i22) O (Ru (G0 y22) O (G7 (hK26 ?_))))))))))
  refine Jr fun hK27=>(Ru (G0 y22) O (JLh (BL (decide (y22 < 0))) (Hz O O O) O (Ru (BL (decide (y22 < 0))) O (JLo (G0 y22) [] O .scf G (fun hc=>G6 O O) O (JLo (.dptr [E4 s.Covers,G0 s.Light.Kilos,G0 s.Light.X,G0 s.Light.Y,G0 s.Light.Z,E5 s.Rows,E6 s.Frames,E7 s.Tanks,G0 s.G2.Tolerance,G0 s.G2.Trim,G0 s.G2.List_,G0 s.G2.Stability]) [] O .scf G (fun hc=>Ga Q5 O O O) O (JLo (E4 s.Covers) [22] O .scf ⟨Ua,G⟩ (fun hc=>Gf Qo O O O) O (JLo (Ei s.Covers.length) [23] O .scf ⟨Ua,G⟩ (fun hc=>Z4 (f:=G9.av) (xs:=s.Covers) Q8 O O) O (JLo (BL (decide ((s.Covers.length:Int)≤y22))) [21,24] O .scf ⟨Ua,Ua,G⟩ (fun hc=>G8a O O O) O (JLh (BL ((decide (y22 < 0))||(decide ((s.Covers.length:Int)≤y22)))) (G09 O O O O) O (Ru (BL ((decide (y22 < 0))||(decide ((s.Covers.length:Int)≤y22)))) O (JLo (Ei i22) [] O .scf G (fun hc=>G6 O O) O (JLo (BL (decide (0 < (i22:Int)))) [28] O .scf ⟨Ua,G⟩ (fun hc=>G76 O O O) O (JLo (BL (decide (0 < (i22:Int)))) [29] O .scf ⟨Ua,G⟩ (fun hc=>G6 O O) O ?_)))))))))))))
  refine JLo (G0 y22) [] O .optt G (fun hc=>G6 O O) O (JLo (E1 open_) [] O .optt G (fun hc=>G6 O O) O (JLo (Ei i22) [] O .optt G (fun hc=>G6 O O) O ?_))
  obtain⟨v28,hv28,h⟩:=Ge h
  refine JLo (G0 v28) [33] O .optt ⟨Ua,G⟩ (fun hc=>Gea (H16 (H2 hc hv28)) O O O) O ?_
  obtain⟨y29,hy29,h⟩:=Ge h
  refine JLo (.dptr [G0 y29]) [32,34] O .optt ⟨Ua,Ua,G⟩ (fun hc=>(match Qq (H2 hc hy29) with | ⟨_,hm_,hy_⟩=>H4 (f:=G0) (xs:=open_) (y:=y29) O O O Gv hy_ hm_)) O (JLo (G0 y29) [35] O .optt ⟨Ua,G⟩ (fun hc=>Gf Gc O O O) O (JLo (BL (decide (y22≤y29))) [31,36] O .optt ⟨Ua,Ua,G⟩ (fun hc=>Ha1 O O O) O (Gb (u:=BL ((decide (0 < (i22:Int)))&&(decide (y22≤y29)))) [(30,BL (decide (0 < (i22:Int)))),(37,_)] O O O .scf ⟨.all id,.part,G⟩ (fun hc=>Qa O O O O) ?_)))
  refine JLh (BL (((decide (y22 < 0))||(decide ((s.Covers.length:Int)≤y22)))||((decide (0 < (i22:Int)))&&(decide (y22≤y29))))) (G09 O O O O) O (G7 (hK27 (JCc O h (fun h hb=>?_) (fun h hb=>?_))))
  ·
   refine Jr fun hK30=>(Ru (BL false) O (G7 (hK30 (Gr (fin1 BL h)))))
  ·
   refine Gn (hK25 (G3 (JLh (G0 ((i22+1:Nat):Int)) (Hu (He hk22 hm12) O O O) O (Ru (G0 ((i22+1:Nat):Int)) O (G7 (e22 _ _ (i22+1) () (app1 hn22 h) (by omega) ⟨(by repeat' constructor),G,rfl⟩))))))
 ·
  have h:=app1 hkx22 (Hp hi22 (H7 hb))
  refine Hr (hK2 (Jr fun hK31=>(JLh (.agg (Gw.cs s)) (Gi Hq O O O) O (Ru (E2 boxes) O (Ru (E0 l) O ?_)))))
  obtain⟨r32,hr32,h⟩:=Ge h
  refine JLh (BL r32) (Gt O (G11 s boxes l r32 hr32) G90 ⟨O,O,O,O,O,O,G⟩) O (Ru (BL r32) O (G7 (hK31 (Gr (fin1 BL h)))))

def G3e (c:G4) (p1:Bool) (p2:Gw) (p3:Int):Option Bool:=
 bnd (bif (c.Deck==p1) then Rx p2.Covers p3 some else some default) fun y3=>
 bnd (bif (c.Deck==p1) then G2c y3 c else some default) fun r4=>
 some ((c.Deck==p1)&&r4)
theorem J09 (c:G4) (p1:Bool) (p2:Gw) (p3:Int) (r:Bool) (h:G3e c p1 p2 p3=some r):Pure Ej 126 [.agg (G4.cs c),.dptr [BL p1],Ec p2,.dptr [G0 p3]] (·=BL r):=by
 unfold G3e at h
 refine H1 [.tmp 5] Tryz.func126 O O (Jr fun hK1=>(JLh (.ptr 1163 0) (Jm (cs:=(G4.cs c)) 1163 O O O O O) O (Ru (BL false) O (G7 (hK1 (Gp [(1,.dptr [BL p1]),(2,Ec p2),(3,.dptr [G0 p3]),(4,Ef c)] [] 1163 rfl rfl rfl G rfl (by repeat' (first | exact .ptr | constructor)) (Js fun hK2=>?_)))))))
 obtain⟨y3,hy3,h⟩:=Ge h
 obtain⟨r4,hr4,h⟩:=Ge h
 refine JC_d0 Qb (by kernel_rfl) (Dq (.dptr [BL c.Deck,G0 c.Tiers,G0 c.Height,G0 c.Kilos20,G0 c.Kilos40,G0 c.Lash,E1 c.Plugs,G0 c.X,G0 c.Y,G0 c.Z]) (Ga Rf O O O) O (Dq (BL c.Deck) (Gf Q9 O O O) O (Dq (BL p1) (Gf Q9 O O O) O (Dq (BL (c.Deck==p1)) (Hed G91 O O O) O (Dq (BL (c.Deck==p1)) (G6 O O) O (Do (.dptr ((Gw.cs p2).drop 1)) [] O .sct G (fun hc=>Ga Q5 O O O) O (Do (E4 p2.Covers) [11] O .sct ⟨Ua,G⟩ (fun hc=>Gf Qo O O O) O (Do (G0 p3) [] O .sct G (fun hc=>Gf Gc O O O) O (Do (.dptr [G0 y3.Bay,E1 y3.Rows]) [12,13] O .sct ⟨Ua,Ua,G⟩ (fun hc=>(match Qq (H2 hc hy3) with | ⟨_,hm_,hy_⟩=>H4 (f:=G9.av) (xs:=p2.Covers) (y:=y3) O O O Q8 hy_ hm_)) O (Do (.agg [G0 y3.Bay,E1 y3.Rows]) [14] O .sct ⟨Ua,G⟩ (fun hc=>Gi H12 O O O) O (Do (.agg (G4.cs c)) [] O .sct G (fun hc=>Gi G44 O O O) O (Do (BL r4) [15,16] O .sct ⟨Ua,Ua,G⟩ (fun hc=>Gt (args:=[.agg [G0 y3.Bay,E1 y3.Rows],.agg (G4.cs c)]) O (H4c y3 c r4 (H2 hc hr4)) J59 ⟨O,O,O,O,G⟩) O (Dq (BL ((c.Deck==p1)&&r4)) (Qa O O O O) O ?_)))))))))))))
 refine Dq (BL ((c.Deck==p1)&&r4)) (G8 O O) O (Dnil (hK2 (Gr (fin1 BL h))))

def Gc8 (s:Gw) (cover:Int) (deck:Bool):Option (List Int):=
 bif ((decide (cover < 0))||(decide ((s.Covers.length:Int)≤cover))) then
 (some [])
 else
 (bnd (Qe s.Columns (fun z0=>G3e z0 deck s cover)) fun r6=>
  some r6)
theorem J9c (s:Gw) (cover:Int) (deck:Bool) (r:(List Int)) (h:Gc8 s cover deck=some r):Pure Ej 115 [.agg (Gw.cs s),G0 cover,BL deck] (·=E1 r):=by
 unfold Gc8 at h
 refine H1 [.tmp 6] Tryz.func115 O O (Jr fun hK1=>(JLh (.ptr 1160 0) (Jm (cs:=(Gw.cs s)) 1160 O O O O O) O (JLh (.ptr 1161 0) (Jm (cs:=[G0 cover]) 1161 O O O O O) O (JLh (.ptr 1162 0) (Jm (cs:=[BL deck]) 1162 O O O O O) O (JLh (E1 ([]:List Int)) (Ht 1 O O) O (G7 (hK1 ?_)))))))
 refine Gp [(3,Ec s),(4,.ptr 1161 0),(5,.ptr 1162 0)] [(1161,.box 3 [G0 cover]),(1162,.box 4 [BL deck])] 1160 rfl rfl rfl ⟨⟨_,rfl,.boxEq rfl rfl⟩,⟨_,rfl,.boxEq rfl rfl⟩,G⟩ rfl (by exact⟨.ptr,.conv (.same rfl),.conv (.same rfl),G⟩) ?_
 refine Gp [(3,Ec s),(4,.dptr [G0 cover]),(5,.ptr 1162 0)] [(1162,.box 4 [BL deck])] 1161 rfl rfl rfl ⟨⟨_,rfl,.boxEq rfl rfl⟩,G⟩ rfl (by exact⟨.conv (.same rfl),.ptr,.conv (.same rfl),G⟩) ?_
 refine Gp [(3,Ec s),(4,.dptr [G0 cover]),(5,.dptr [BL deck])] [] 1162 rfl rfl rfl G rfl (by exact⟨.conv (.same rfl),.conv (.same rfl),.ptr,G⟩) (Js fun hK2=>?_)
 refine Jr fun hK3=>(JLh (G0 cover) (Gf Gc O O O) O (JLh (BL (decide (cover < 0))) (Hz O O O) O (Ru (BL (decide (cover < 0))) O (JLo (G0 cover) [] O .scf G (fun hc=>Gf Gc O O O) O (JLo (.dptr [E4 s.Covers,G0 s.Light.Kilos,G0 s.Light.X,G0 s.Light.Y,G0 s.Light.Z,E5 s.Rows,E6 s.Frames,E7 s.Tanks,G0 s.G2.Tolerance,G0 s.G2.Trim,G0 s.G2.List_,G0 s.G2.Stability]) [] O .scf G (fun hc=>Ga Q5 O O O) O (JLo (E4 s.Covers) [11] O .scf ⟨Ua,G⟩ (fun hc=>Gf Qo O O O) O (JLo (Ei s.Covers.length) [12] O .scf ⟨Ua,G⟩ (fun hc=>Z4 (f:=G9.av) (xs:=s.Covers) Q8 O O) O (JLo (BL (decide ((s.Covers.length:Int)≤cover))) [10,13] O .scf ⟨Ua,Ua,G⟩ (fun hc=>G8a O O O) O (JLh (BL ((decide (cover < 0))||(decide ((s.Covers.length:Int)≤cover)))) (G09 O O O O) O (G7 (hK3 ?_)))))))))))
 refine JCc O h (fun h hb=>?_) (fun h hb=>?_)
 ·
  refine Jr fun hK4=>(JLh (E1 ([]:List Int)) (Ht 1 O O) O (G7 (hK4 (Gr (fin1 (fun r:(List Int)=>(E1 r:AV)) h)))))
 ·
  refine Gn (hK2 ?_)
  refine Jr fun hK5=>(JLh (Ec s) (Ga J2 O O O) O (JLh (E3 s.Columns) (Gf Ja O O O) O (JLh (.fn 126 [.dptr [BL deck],Ec s,.dptr [G0 cover]]) (Rk (cs:=[.dptr [BL deck],Ec s,.dptr [G0 cover]]) O O) O ?_)))
  obtain⟨r6,hr6,h⟩:=Ge h
  refine JLh (E1 r6) (Gt O (G4f s.Columns (fun z0=>G3e z0 deck s cover) 126 [.dptr [BL deck],Ec s,.dptr [G0 cover]] Jd9 O (fun z0 q hq=>J09 z0 deck s cover q hq) r6 hr6) J69 ⟨O,O,O,O,G⟩) O (Ru (E1 r6) O (G7 (hK5 (Gr (fin1 (fun r:(List Int)=>(E1 r:AV)) h)))))

def Gb1 (s:Gw) (cover:Int):Option (List Int):=
 bnd (Gc8 s cover true) fun r3=>
 some r3
theorem M_ship_Upon_w (s:Gw) (cover:Int) (r:(List Int)) (h:Gb1 s cover=some r):Pure Ej 85 [.agg (Gw.cs s),G0 cover] (·=E1 r):=by
 unfold Gb1 at h
 refine H1 [.tmp 4] Tryz.func85 O O (Jr fun hK1=>(JLh (.ptr 1149 0) (Jm (cs:=(Gw.cs s)) 1149 O O O O O) O (JLh (E1 ([]:List Int)) (Ht 1 O O) O (G7 (hK1 (Gp [(1,G0 cover),(2,Ec s)] [] 1149 rfl rfl rfl G rfl (by exact⟨.conv (.same rfl),.ptr,G⟩) ?_))))))
 refine Jr fun hK2=>(JLh (.agg (Gw.cs s)) (Gi Hq O O O) O (Ru (G0 cover) O ?_))
 obtain⟨r3,hr3,h⟩:=Ge h
 refine JLh (E1 r3) (Gt O (J9c s cover true r3 hr3) Jdb ⟨O,O,O,O,O,O,G⟩) O (Ru (E1 r3) O (G7 (hK2 (Gr (fin1 (fun r:(List Int)=>(E1 r:AV)) h)))))

def Yf (s:List Int) (v:Int):Option Int:=
 each (fun y18 i18 (s18:Unit) nx18=>
  bif decide (v=y18) then
  (some (i18:Int))
  else
  (nx18 ()))
 (fun(s18:Unit)=>
  some (-1)) s 0 ()
theorem H74 (s:List Int) (v:Int) (r:Int) (h:Yf s v=some r):Pure Ej 116 [E1 s,G0 v] (·=G0 r):=by
 unfold Yf at h
 refine H1 [.tmp 4] Tryz.func116 O O (Jr fun hK1=>(Ru (G0 0) O (G7 (hK1 (Js fun hK2=>Jr fun hK3=>(Ru (E1 s) O (JLl Gv O O O fun hm7=>(Ru (G0 0) O (G7 (hK3 (Gq ?_)))))))))))
 obtain⟨b18,kx18,hb18,hkx18,h⟩:=Hx h
 refine Hg (fun i18 (s18:Unit)=>each b18 kx18 (List.drop i18 s) i18 s18=some r) (fun i18 s18=>[(0,E1 s),(1,G0 v),(7,Ei s.length),(8,Ei i18)]) (fun i18 s18=>[]) (fun i18=>s.length - i18) 0 () h ⟨(by repeat' constructor),G,rfl⟩ ?_
 clear h
 intro i18 s18 hi18 K18 e18
 refine Jr fun hK19=>(JLh (BL (decide ((i18:Int) < (s.length:Int)))) (Hz O O O) O (G7 (hK19 (Js fun hK20=>Gk O (fun hb=>?_) (fun hb=>?_)))))
 ·
  have hk18:=Jb hb
  obtain⟨y18,nx18,hy18,hn18,h⟩:=Ho hi18 hk18
  replace h:=Rw hb18 h
  refine Gn (hK20 (Js fun hK21=>Gq (Jr fun hK22=>(Ru (Ei i18) O (Ru (Ei i18) O (G7 (hK22 (Jr fun hK23=>(Ru (G0 v) O (Ru (E1 s) O (Ru (Ei i18) O (JLh (.dptr [G0 y18]) (H4 (f:=G0) (xs:=s) (y:=y18) O O O Gv hy18 O) O (JLh (G0 y18) (Gf Gc O O O) O (JLh (BL (decide (v=y18))) (Qh O O O) O (G7 (hK23 (JCc O h (fun h hb=>?_) (fun h hb=>?_))))))))))))))))))
  ·
   refine Jr fun hK24=>(Ru (Ei i18) O (Ru (Ei i18) O (G7 (hK24 (Gr (fin1 G0 h))))))
  ·
   refine Gn (hK21 (G3 (JLh (G0 ((i18+1:Nat):Int)) (Hu (He hk18 hm7) O O O) O (Ru (G0 ((i18+1:Nat):Int)) O (G7 (e18 _ _ (i18+1) () (app1 hn18 h) (by omega) ⟨(by repeat' constructor),G,rfl⟩))))))
 ·
  have h:=app1 hkx18 (Hp hi18 (H7 hb))
  refine Hr (hK2 (Jr fun hK25=>(Ru (G0 (-1)) O (G7 (hK25 (Gr (fin1 G0 h)))))))

def Qn (s:List Int) (v:Int):Option Bool:=
 bnd (Yf s v) fun r3=>
 some (decide (0≤r3))
theorem G12 (s:List Int) (v:Int) (r:Bool) (h:Qn s v=some r):Pure Ej 86 [E1 s,G0 v] (·=BL r):=by
 unfold Qn at h
 refine H1 [.tmp 4] Tryz.func86 O O (Jr fun hK1=>(Ru (BL false) O (G7 (hK1 (Jr fun hK2=>(Ru (E1 s) O (Ru (G0 v) O ?_)))))))
 obtain⟨r3,hr3,h⟩:=Ge h
 refine JLh (G0 r3) (Gt O (H74 s v r3 hr3) Jda ⟨O,O,O,O,G⟩) O (JLh (BL (decide (0≤r3))) (G8a O O O) O (Ru (BL (decide (0≤r3))) O (G7 (hK2 (Gr (fin1 BL h))))))

def Gab (s:Gw) (l:List Stowed) (cover:Int):Option (List Int):=
 bnd (Gb1 s cover) fun r3=>
 each (fun y23 i23 (s23:(List Int)) nx23=>
  jp (fun kj26=>
   bnd (Qn r3 y23.Slot.G4) fun r29=>
   bif r29 then
   (need (decide ((s23.length+[y23.Gd].length)*8≤140737488355328∧s23.length+[y23.Gd].length≤maxLen)) <|
    kj26 (s23++[y23.Gd]))
   else
   (kj26 s23)) fun(j26:(List Int))=>
  nx23 j26)
 (fun(s23:(List Int))=>
  some s23) l 0 []
theorem M_stow_upon_w (s:Gw) (l:List Stowed) (cover:Int) (r:(List Int)) (h:Gab s l cover=some r):Pure Ej 57 [.agg (Gw.cs s),E0 l,G0 cover] (·=E1 r):=by
 unfold Gab at h
 refine H1 [.tmp 6] Tryz.func57 O O (Jr fun hK1=>(JLh (.ptr 1126 0) (Jm (cs:=(Gw.cs s)) 1126 O O O O O) O (JLh (E1 ([]:List Int)) (Ht 1 O O) O (G7 (hK1 (Gp [(1,E0 l),(2,G0 cover),(3,Ec s)] [] 1126 rfl rfl rfl G rfl (by exact⟨.conv (.same rfl),.conv (.same rfl),.ptr,G⟩) ?_))))))
 refine Jr fun hK2=>(JLh (.agg (Gw.cs s)) (Gi Hq O O O) O (Ru (G0 cover) O ?_))
 obtain⟨r3,hr3,h⟩:=Ge h
 refine JLh (E1 r3) (Gt O (M_ship_Upon_w s cover r3 hr3) Jfa ⟨O,O,O,O,G⟩) O (Ru (E1 r3) O (G7 (hK2 (Jr fun hK4=>(JLh (OW 1127 1 G0 ([]:List Int)) (G61 1127 3 1 O O O) O (G7 (hK4 (Js fun hK5=>Jr fun hK6=>(Ru (E0 l) O (JLl Gx O O O fun hm15=>(Ru (G0 0) O (G7 (hK6 (Gq ?_))))))))))))))
 obtain⟨b23,kx23,hb23,hkx23,h⟩:=Hx h
 refine Hg (fun i23 (s23:(List Int))=>each b23 kx23 (List.drop i23 l) i23 s23=some r) (fun i23 s23=>[(7,E1 r3),(8,OW 1127 1 G0 s23),(14,E0 l),(15,Ei l.length),(16,Ei i23)]) (fun i23 s23=>[(1127,.spare 3 1 s23.length s23.length)]) (fun i23=>l.length - i23) 0 [] h ⟨(by repeat' constructor),⟨⟨_,rfl,.same⟩,G⟩,rfl⟩ ?_
 clear h
 intro i23 s23 hi23 K23 e23
 refine Jr fun hK24=>(JLh (BL (decide ((i23:Int) < (l.length:Int)))) (Hz O O O) O (G7 (hK24 (Js fun hK25=>Gk O (fun hb=>?_) (fun hb=>?_)))))
 ·
  have hk23:=Jb hb
  obtain⟨y23,nx23,hy23,hn23,h⟩:=Ho hi23 hk23
  replace h:=Rw hb23 h
  refine Gn (hK25 ?_)
  obtain⟨kj26,hkj26,h⟩:=Rg h
  refine Qg (fun j26:(List Int)=>kj26 j26=some r) (fun j26=>[(7,E1 r3),(8,OW 1127 1 G0 j26),(14,E0 l),(15,Ei l.length),(16,Ei i23)]) (fun j26=>[(1127,.spare 3 1 j26.length j26.length)]) (fun Kj26 ej26=>?_) ?_
  ·
   refine Gq (Jr fun hK27=>(JLh (Ed y23) (H4 (f:=Stowed.av) (xs:=l) (y:=y23) O O O Gx hy23 O) O (JLh (.agg (Stowed.cs y23)) (Gi Q0 O O O) O (JLh (.ptr 1128 0) (Hn 1128 4 Je O O) O (Hs (u:=.junk) (Ha (u:=.agg (Stowed.cs y23)) (ds:=[G0 y23.Gd,G0 y23.Slot.G4,G0 y23.Slot.Tier,U8 y23.Slot.Half]) Qv O O O O O O O O) (G7 (hK27 (Gp [(7,E1 r3),(8,OW 1127 1 G0 s23),(10,Ed y23),(14,E0 l),(15,Ei l.length),(16,Ei i23)] [(1127,.spare 3 1 s23.length s23.length)] 1128 rfl rfl rfl ⟨⟨_,rfl,.same⟩,G⟩ rfl (by repeat' (first | exact .ptr | constructor)) ?_))))))))
   refine Jr fun hK28=>(Ru (E1 r3) O (JLh (.dptr ((Stowed.cs y23).drop 1)) (Ga J1 O O O) O (JLh (.dptr ((Stowed.cs y23).drop 1)) (Ga Jf O O O) O (JLh (G0 y23.Slot.G4) (Gf Gc O O O) O ?_))))
   obtain⟨r29,hr29,h⟩:=Ge h
   refine JLh (BL r29) (Gt O (G12 r3 y23.Slot.G4 r29 hr29) Ha5 ⟨O,O,O,O,G⟩) O (G7 (hK28 (JCc O h (fun h hb=>?_) (fun h hb=>?_))))
   ·
    refine G3 (Ru (OW 1127 1 G0 s23) O (JLh (Ed y23) (Ga Hv O O O) O (JLh (G0 y23.Gd) (Gf Gc O O O) O (JLh (E1 [y23.Gd]) (H9 (xs:=[G0 y23.Gd]) O ⟨O,O,G⟩ Gv Y0 O O O O) O ?_))))
    obtain⟨ha30,h⟩:=Jj h
    refine JLh (OW 1127 1 G0 (s23++[y23.Gd])) (Rc (f:=G0) (xs:=s23) (ys:=[y23.Gd]) O O O O Gv G43 ha30 (fun _=>O) (.inl O) O) O (Ru (OW 1127 1 G0 (s23++[y23.Gd])) O (G7 (ej26 _ _ (s23++[y23.Gd]) h ⟨(by repeat' constructor),⟨⟨_,rfl,.same⟩,G⟩,rfl⟩)))
   ·
    refine Gn (ej26 _ _ s23 h ⟨(by repeat' constructor),⟨⟨_,rfl,.same⟩,G⟩,rfl⟩)
  ·intro j26 h
   replace h:=app1 hkj26 h
   refine G3 (JLh (G0 ((i23+1:Nat):Int)) (Hu (He hk23 hm15) O O O) O (Ru (G0 ((i23+1:Nat):Int)) O (G7 (e23 _ _ (i23+1) j26 (app1 hn23 h) (by omega) ⟨(by repeat' constructor),⟨⟨_,rfl,.same⟩,G⟩,rfl⟩))))
 ·
  have h:=app1 hkx23 (Hp hi23 (H7 hb))
  refine Hr (hK5 (Jr fun hK31=>(Ru (OW 1127 1 G0 s23) O (Ru (OW 1127 1 G0 s23) O (G7 (hK31 (Gr (fin1l (fun r:(List Int)=>(E1 r:AV)) h))))))))

def G26 (x:Int):Option Bool:=
 some (decide (x≠x))
theorem H01 (x:Int) (r:Bool) (h:G26 x=some r):Pure Ej 117 [G0 x] (·=BL r):=by
 unfold G26 at h
 refine H1 [.tmp 2] Tryz.func117 O O (Jr fun hK1=>(Ru (BL false) O (G7 (hK1 (Jr fun hK2=>(Ru (G0 x) O (Ru (G0 x) O (JLh (BL (decide (x≠x))) (G50 O O O) O (Ru (BL (decide (x≠x))) O (G7 (hK2 (Gr (fin1 BL h)))))))))))))

def G3f (x:Int) (y:Int):Option Bool:=
 bnd (G26 x) fun r3=>
 bnd (bif r3 then G26 y else some default) fun r4=>
 some ((r3&&(!r4))||(decide (x < y)))
theorem J0d (x:Int) (y:Int) (r:Bool) (h:G3f x y=some r):Pure Ej 87 [G0 x,G0 y] (·=BL r):=by
 unfold G3f at h
 refine H1 [.tmp 4] Tryz.func87 O O (Jr fun hK1=>(Ru (BL false) O (G7 (hK1 (Jr fun hK2=>(Ru (G0 x) O ?_))))))
 obtain⟨r3,hr3,h⟩:=Ge h
 refine JLh (BL r3) (Gt O (H01 x r3 hr3) J15 ⟨O,O,G⟩) O (Ru (BL r3) O (JLo (G0 y) [] O .sct G (fun hc=>G6 O O) O ?_))
 obtain⟨r4,hr4,h⟩:=Ge h
 refine JLo (BL r4) [8] O .sct ⟨Ua,G⟩ (fun hc=>Gt (args:=[G0 y]) O (H01 y r4 (H2 hc hr4)) J15 ⟨O,O,G⟩) O (JLo (BL (!r4)) [9] O .sct ⟨Ua,G⟩ (fun hc=>Rj (b:=r4) O O) O (JLh (BL (r3&&(!r4))) (Qa O O O O) O (Ru (BL (r3&&(!r4))) O (JLo (G0 x) [] O .scf G (fun hc=>G6 O O) O (JLo (G0 y) [] O .scf G (fun hc=>G6 O O) O (JLo (BL (decide (x < y))) [13,14] O .scf ⟨Ua,Ua,G⟩ (fun hc=>Hz O O O) O (JLh (BL ((r3&&(!r4))||(decide (x < y)))) (G09 O O O O) O (Ru (BL ((r3&&(!r4))||(decide (x < y)))) O (G7 (hK2 (Gr (fin1 BL h))))))))))))

def Zh (x:Int):Option Bool:=
 some (decide (x≠x))
theorem Gae (x:Int) (r:Bool) (h:Zh x=some r):Pure Ej 88 [G0 x] (·=BL r):=by
 unfold Zh at h
 refine H1 [.tmp 2] Tryz.func88 O O (Jr fun hK1=>(Ru (BL false) O (G7 (hK1 (Jr fun hK2=>(Ru (G0 x) O (Ru (G0 x) O (JLh (BL (decide (x≠x))) (G50 O O O) O (Ru (BL (decide (x≠x))) O (G7 (hK2 (Gr (fin1 BL h)))))))))))))

def Qi (F:Nat) (x:List Int) (target:Int):Option (Int×Bool):=
 loop (fun nx16 (s16:Int×Int)=>
  bif decide (s16.1 < s16.2) then
  (G0d (s16.1+s16.2) fun v20=>
   G0d (Hf9 .u64 (IntKind.u64.wrap v20) 1) fun v21=>
   Rx x v21 fun y23=>
   bnd (G3f y23 target) fun r25=>
   bif r25 then
   (G0d (v21+1) fun v26=>
    nx16 (v26,s16.2))
   else
   (nx16 (s16.1,v21)))
  else
  (bnd (bif decide (s16.1 < (x.length:Int)) then Rx x s16.1 some else some default) fun y28=>
   bnd (bif ((decide (s16.1 < (x.length:Int)))&&!(decide (y28=target))) then Rx x s16.1 some else some default) fun y29=>
   bnd (bif ((decide (s16.1 < (x.length:Int)))&&!(decide (y28=target))) then Zh y29 else some default) fun r30=>
   bnd (bif (((decide (s16.1 < (x.length:Int)))&&!(decide (y28=target)))&&r30) then Zh target else some default) fun r31=>
   some (s16.1,((decide (s16.1 < (x.length:Int)))&&((decide (y28=target))||(r30&&r31)))))) F (0,(x.length:Int))
theorem G31 (F:Nat) (x:List Int) (target:Int) (r:Int×Bool) (h:Qi F x target=some r):Pure Ej 58 [E1 x,G0 target] (·=.tup [G0 r.1,BL r.2]):=by
 unfold Qi at h
 refine H1 [.tmp 4,.tmp 5] Tryz.func58 O O (Jr fun hK1=>(Ru (G0 0) O (Ru (BL false) O (G7 (hK1 (Jr fun hK2=>(Ru (E1 x) O (JLl Gv O O O fun hm11=>(Ru (Ei x.length) O (G7 (hK2 (Jr fun hK3=>(Ru (Ei x.length) O (Ru (G0 0) O (Ru (Ei x.length) O (G7 (hK3 (Js fun hK4=>Gq ?_))))))))))))))))))
 obtain⟨b16,hb16,h⟩:=Hd9 h
 refine Hg (fun i16 (s16:Int×Int)=>loop b16 i16 s16=some r) (fun i16 s16=>[(0,E1 x),(1,G0 target),(6,Ei x.length),(7,G0 s16.1),(8,G0 s16.2)]) (fun i16 s16=>[]) (fun i16=>i16) F (0,(x.length:Int)) h ⟨(by repeat' constructor),G,rfl⟩ ?_
 clear h
 intro i16 s16 hi16 K16 e16
 obtain⟨m16,nx16,hm_16,hn16,h⟩:=H5c hi16
 replace h:=app2 hb16 h
 refine Js fun hK17=>Jr fun hK18=>(Ru (G0 s16.1) O (Ru (G0 s16.2) O (JLh (BL (decide (s16.1 < s16.2))) (Hz O O O) O (G7 (hK18 (JCc O h (fun h hb=>?_) (fun h hb=>?_)))))))
 ·
  refine Gn (hK17 (Gq (Jr fun hK19=>(Ru (G0 s16.1) O (Ru (G0 s16.2) O ?_)))))
  obtain⟨v20,hv20,h⟩:=J7 h
  refine JLh (G0 v20) (Hu hv20 O O O) O (JLh (.sc (.int .u64 (IntKind.u64.wrap v20))) (Gbe J4f G22 O O O) O (JLh (.sc (.int .u64 (Hf9 .u64 (IntKind.u64.wrap v20) 1))) (Q29 (s:=1) O O O O) O ?_))
  obtain⟨v21,hv21,h⟩:=J7 h
  refine JLh (G0 v21) (Gbe G22 J4f hv21 O O) O (Ru (G0 v21) O (G7 (hK19 (Jr fun hK22=>(Ru (E1 x) O (Ru (G0 v21) O ?_))))))
  obtain⟨m24,y23,hm24,hy23,h⟩:=Yd h
  refine JLh (.dptr [G0 y23]) (H4 (f:=G0) (xs:=x) (y:=y23) O O O Gv hy23 hm24) O (JLh (G0 y23) (Gf Gc O O O) O (Ru (G0 target) O ?_))
  obtain⟨r25,hr25,h⟩:=Ge h
  refine JLh (BL r25) (Gt O (J0d y23 target r25 hr25) Jf9 ⟨O,O,O,O,G⟩) O (G7 (hK22 (JCc O h (fun h hb=>?_) (fun h hb=>?_))))
  ·
   refine G3 (Ru (G0 v21) O ?_)
   obtain⟨v26,hv26,h⟩:=J7 h
   refine JLh (G0 v26) (Hu hv26 O O O) O (Ru (G0 v26) O (G7 (e16 _ _ m16 (v26,s16.2) (app1 hn16 h) (by omega) ⟨(by repeat' constructor),G,rfl⟩)))
  ·
   refine G3 (Ru (G0 v21) O (Ru (G0 v21) O (G7 (e16 _ _ m16 (s16.1,v21) (app1 hn16 h) (by omega) ⟨(by repeat' constructor),G,rfl⟩))))
 ·
  refine Hr (hK4 (Jr fun hK27=>(Ru (G0 s16.1) O (Ru (G0 s16.1) O (Ru (Ei x.length) O (JLh (BL (decide (s16.1 < (x.length:Int)))) (Hz O O O) O (Ru (BL (decide (s16.1 < (x.length:Int)))) O (JLo (E1 x) [] O .sct G (fun hc=>G6 O O) O (JLo (G0 s16.1) [] O .sct G (fun hc=>G6 O O) O ?_)))))))))
  obtain⟨y28,hy28,h⟩:=Ge h
  refine JLo (.dptr [G0 y28]) [36,37] O .sct ⟨Ua,Ua,G⟩ (fun hc=>(match Qq (H2 hc hy28) with | ⟨_,hm_,hy_⟩=>H4 (f:=G0) (xs:=x) (y:=y28) O O O Gv hy_ hm_)) O (JLo (G0 y28) [38] O .sct ⟨Ua,G⟩ (fun hc=>Gf Gc O O O) O (JLo (G0 target) [] O .sct G (fun hc=>G6 O O) O (JLo (BL (decide (y28=target))) [39,40] O .sct ⟨Ua,Ua,G⟩ (fun hc=>Qh O O O) O (JLo (BL (decide (y28=target))) [41] O .sct ⟨Ua,G⟩ (fun hc=>G6 O O) O (JLo (E1 x) [] O .optf G (fun hc=>G6 O O) O (JLo (G0 s16.1) [] O .optf G (fun hc=>G6 O O) O ?_))))))
  obtain⟨y29,hy29,h⟩:=Ge h
  refine JLo (.dptr [G0 y29]) [43,44] O .optf ⟨Ua,Ua,G⟩ (fun hc=>(match Qq (H2 hc hy29) with | ⟨_,hm_,hy_⟩=>H4 (f:=G0) (xs:=x) (y:=y29) O O O Gv hy_ hm_)) O (JLo (G0 y29) [45] O .optf ⟨Ua,G⟩ (fun hc=>Gf Gc O O O) O ?_)
  obtain⟨r30,hr30,h⟩:=Ge h
  refine JLo (BL r30) [46] O .optf ⟨Ua,G⟩ (fun hc=>Gt (args:=[G0 y29]) O (Gae y29 r30 (H2 hc hr30)) J58 ⟨O,O,G⟩) O (JLo (BL r30) [47] O .optf ⟨Ua,G⟩ (fun hc=>G6 O O) O (JLo (G0 target) [] O .optt G (fun hc=>G6 O O) O ?_))
  obtain⟨r31,hr31,h⟩:=Ge h
  refine JLo (BL r31) [49] O .optt ⟨Ua,G⟩ (fun hc=>Gt (args:=[G0 target]) O (Gae target r31 (H2 hc hr31)) J58 ⟨O,O,G⟩) O (Gb (u:=BL (r30&&r31)) [(48,BL r30),(50,_)] O O O .optf ⟨.all id,.part,G⟩ (fun hc=>Qa O O O O) ?_)
  refine Gb (u:=BL ((decide (y28=target))||(r30&&r31))) [(42,BL (decide (y28=target))),(51,_)] O O O .sct ⟨.all id,.part,G⟩ (fun hc=>G09 O O O O) ?_
  refine JLh (BL ((decide (s16.1 < (x.length:Int)))&&((decide (y28=target))||(r30&&r31)))) (Qa O O O O) O (Ru (G0 s16.1) O (Ru (BL ((decide (s16.1 < (x.length:Int)))&&((decide (y28=target))||(r30&&r31)))) O (G7 (hK27 (Gr (⟨[G0 s16.1,BL ((decide (s16.1 < (x.length:Int)))&&((decide (y28=target))||(r30&&r31)))],[],G,O,⟨⟨_,O,.conv (.same O)⟩,⟨_,O,.conv (.same O)⟩,G⟩,O,congrArg (fun r:Int×Bool=>(.tup [G0 r.1,BL r.2]:AV)) (Option.some.inj h)⟩))))))

def Gad (F:Nat) (s:Gw) (boxes:List Gd) (l:List Stowed) (open_:List Int) (cover:Int):Option ((List Int)×Int):=
 bnd (Y6 s boxes l open_) fun r4=>
 bif (!r4) then
 (some ([],2))
 else
 (bif ((decide (cover < 0))||(decide ((s.Covers.length:Int)≤cover))) then
  (some ([],6))
  else
  (bnd (Gab s l cover) fun r9=>
   bif decide (0 < (r9.length:Int)) then
   (some ([],95))
   else
   (bnd (Qi F open_ cover) fun r12=>
    bif r12.2 then
    (bnd (Jv open_) fun r16=>
     some (r16,0))
    else
    (bnd (G24 open_ r12.1 cover) fun r18=>
     some (r18,0)))))
theorem M_stow_Open_w (F:Nat) (s:Gw) (boxes:List Gd) (l:List Stowed) (open_:List Int) (cover:Int) (r:(List Int)×Int) (h:Gad F s boxes l open_ cover=some r):Pure Ej 26 [.agg (Gw.cs s),E2 boxes,E0 l,E1 open_,G0 cover] (·=.tup [E1 r.1,G0 r.2]):=by
 unfold Gad at h
 refine H1 [.tmp 10,.tmp 11] Tryz.func26 O O (Jr fun hK1=>(JLh (.ptr 1079 0) (Jm (cs:=(Gw.cs s)) 1079 O O O O O) O (JLh (E1 ([]:List Int)) (Ht 1 O O) O (Ru (G0 0) O (G7 (hK1 ?_))))))
 refine Gp [(1,E2 boxes),(2,E0 l),(3,E1 open_),(4,G0 cover),(5,Ec s)] [] 1079 rfl rfl rfl G rfl (by repeat' (first | exact .ptr | constructor)) (Js fun hK2=>Gq ?_)
 refine Jr fun hK3=>(JLh (.agg (Gw.cs s)) (Gi Hq O O O) O (Ru (E2 boxes) O (Ru (E0 l) O (Ru (E1 open_) O ?_))))
 obtain⟨r4,hr4,h⟩:=Ge h
 refine JLh (BL r4) (Gt O (G49 s boxes l open_ r4 hr4) H2a ⟨O,O,O,O,O,O,O,O,G⟩) O (JLh (BL (!r4)) (Rj (b:=r4) O O) O (Ru (BL (!r4)) O (G7 (hK3 (JCc O h (fun h hb=>?_) (fun h hb=>?_))))))
 ·
  refine Jr fun hK5=>(JLh (E1 ([]:List Int)) (Ht 1 O O) O (Ru (G0 2) O (G7 (hK5 (Gr (⟨[E1 ([]:List Int),G0 2],[],G,O,⟨⟨_,O,.conv (.same O)⟩,⟨_,O,.conv (.same O)⟩,G⟩,O,congrArg (fun r:(List Int)×Int=>(.tup [E1 r.1,G0 r.2]:AV)) (Option.some.inj h)⟩))))))
 ·
  refine Jr fun hK6=>(Ru (G0 cover) O (JLh (BL (decide (cover < 0))) (Hz O O O) O (Ru (BL (decide (cover < 0))) O (JLo (G0 cover) [] O .scf G (fun hc=>G6 O O) O (JLo (.dptr [E4 s.Covers,G0 s.Light.Kilos,G0 s.Light.X,G0 s.Light.Y,G0 s.Light.Z,E5 s.Rows,E6 s.Frames,E7 s.Tanks,G0 s.G2.Tolerance,G0 s.G2.Trim,G0 s.G2.List_,G0 s.G2.Stability]) [] O .scf G (fun hc=>Ga Q5 O O O) O (JLo (E4 s.Covers) [26] O .scf ⟨Ua,G⟩ (fun hc=>Gf Qo O O O) O (JLo (Ei s.Covers.length) [27] O .scf ⟨Ua,G⟩ (fun hc=>Z4 (f:=G9.av) (xs:=s.Covers) Q8 O O) O (JLo (BL (decide ((s.Covers.length:Int)≤cover))) [25,28] O .scf ⟨Ua,Ua,G⟩ (fun hc=>G8a O O O) O (JLh (BL ((decide (cover < 0))||(decide ((s.Covers.length:Int)≤cover)))) (G09 O O O O) O (Ru (BL ((decide (cover < 0))||(decide ((s.Covers.length:Int)≤cover)))) O (G7 (hK6 ?_))))))))))))
  refine JCc O h (fun h hb=>?_) (fun h hb=>?_)
  ·
   refine Jr fun hK7=>(JLh (E1 ([]:List Int)) (Ht 1 O O) O (Ru (G0 6) O (G7 (hK7 (Gr (⟨[E1 ([]:List Int),G0 6],[],G,O,⟨⟨_,O,.conv (.same O)⟩,⟨_,O,.conv (.same O)⟩,G⟩,O,congrArg (fun r:(List Int)×Int=>(.tup [E1 r.1,G0 r.2]:AV)) (Option.some.inj h)⟩))))))
  ·
   refine Jr fun hK8=>(JLh (.agg (Gw.cs s)) (Gi Hq O O O) O (Ru (E0 l) O (Ru (G0 cover) O ?_)))
   obtain⟨r9,hr9,h⟩:=Ge h
   refine JLh (E1 r9) (Gt O (M_stow_upon_w s l cover r9 hr9) Q0a ⟨O,O,O,O,O,O,G⟩) O (JLl Gv O O O fun hm36=>(JLh (BL (decide (0 < (r9.length:Int)))) (G76 O O O) O (Ru (BL (decide (0 < (r9.length:Int)))) O (G7 (hK8 (JCc O h (fun h hb=>?_) (fun h hb=>?_)))))))
   ·
    refine Jr fun hK10=>(JLh (E1 ([]:List Int)) (Ht 1 O O) O (Ru (G0 95) O (G7 (hK10 (Gr (⟨[E1 ([]:List Int),G0 95],[],G,O,⟨⟨_,O,.conv (.same O)⟩,⟨_,O,.conv (.same O)⟩,G⟩,O,congrArg (fun r:(List Int)×Int=>(.tup [E1 r.1,G0 r.2]:AV)) (Option.some.inj h)⟩))))))
   ·
    refine Gn (hK2 (Jr fun hK11=>(Ru (E1 open_) O (Ru (G0 cover) O ?_))))
    obtain⟨r12,hr12,h⟩:=Ge h
    refine JLh (.tup [G0 r12.1,BL r12.2]) (Gt O (G31 F open_ cover r12 hr12) J60 ⟨O,O,O,O,G⟩) O (Ru (.tup [G0 r12.1,BL r12.2]) O (JLh (G0 r12.1) (H6 O O O) O (JLh (BL r12.2) (H6 O O O) O (Ru (G0 r12.1) O (Ru (BL r12.2) O (G7 (hK11 (Js fun hK13=>Jr fun hK14=>(Ru (BL r12.2) O (G7 (hK14 (JCc O h (fun h hb=>?_) (fun h hb=>?_)))))))))))))
    ·
     refine Jr fun hK15=>(Ru (E1 open_) O ?_)
     obtain⟨r16,hr16,h⟩:=Ge h
     refine JLh (E1 r16) (Gt O (Gaf open_ r16 hr16) J5f ⟨O,O,G⟩) O (Ru (E1 r16) O (Ru (G0 0) O (G7 (hK15 (Gr (⟨[E1 r16,G0 0],[],G,O,⟨⟨_,O,.conv (.same O)⟩,⟨_,O,.conv (.same O)⟩,G⟩,O,congrArg (fun r:(List Int)×Int=>(.tup [E1 r.1,G0 r.2]:AV)) (Option.some.inj h)⟩))))))
    ·
     refine Gn (hK13 (Jr fun hK17=>(Ru (E1 open_) O (Ru (G0 r12.1) O (Ru (G0 cover) O ?_)))))
     obtain⟨r18,hr18,h⟩:=Ge h
     refine JLh (E1 r18) (Gt O (He3.down open_ r12.1 cover r18 hr18) Q09 ⟨O,O,O,O,O,O,G⟩) O (Ru (E1 r18) O (Ru (G0 0) O (G7 (hK17 (Gr (⟨[E1 r18,G0 0],[],G,O,⟨⟨_,O,.conv (.same O)⟩,⟨_,O,.conv (.same O)⟩,G⟩,O,congrArg (fun r:(List Int)×Int=>(.tup [E1 r.1,G0 r.2]:AV)) (Option.some.inj h)⟩))))))

def Hy (l:List Int) (n:Int):Option Bool:=
 each (fun y18 i18 (s18:Unit) nx18=>
  bif decide (y18=n) then
  (some true)
  else
  (nx18 ()))
 (fun(s18:Unit)=>
  some false) l 0 ()
theorem Jz (l:List Int) (n:Int) (r:Bool) (h:Hy l n=some r):Pure Ej 10 [E1 l,G0 n] (·=BL r):=by
 unfold Hy at h
 refine H1 [.tmp 4] Tryz.func10 O O (Jr fun hK1=>(Ru (BL false) O (G7 (hK1 (Js fun hK2=>Jr fun hK3=>(Ru (E1 l) O (JLl Gv O O O fun hm8=>(Ru (G0 0) O (G7 (hK3 (Gq ?_)))))))))))
 obtain⟨b18,kx18,hb18,hkx18,h⟩:=Hx h
 refine Hg (fun i18 (s18:Unit)=>each b18 kx18 (List.drop i18 l) i18 s18=some r) (fun i18 s18=>[(1,G0 n),(7,E1 l),(8,Ei l.length),(9,Ei i18)]) (fun i18 s18=>[]) (fun i18=>l.length - i18) 0 () h ⟨(by repeat' constructor),G,rfl⟩ ?_
 clear h
 intro i18 s18 hi18 K18 e18
 refine Jr fun hK19=>(JLh (BL (decide ((i18:Int) < (l.length:Int)))) (Hz O O O) O (G7 (hK19 (Js fun hK20=>Gk O (fun hb=>?_) (fun hb=>?_)))))
 ·
  have hk18:=Jb hb
  obtain⟨y18,nx18,hy18,hn18,h⟩:=Ho hi18 hk18
  replace h:=Rw hb18 h
  refine Gn (hK20 (Js fun hK21=>Gq (Jr fun hK22=>(JLh (.dptr [G0 y18]) (H4 (f:=G0) (xs:=l) (y:=y18) O O O Gv hy18 O) O (JLh (G0 y18) (Gf Gc O O O) O (Ru (G0 y18) O (G7 (hK22 (Jr fun hK23=>(Ru (G0 y18) O (Ru (G0 n) O (JLh (BL (decide (y18=n))) (Qh O O O) O (G7 (hK23 (JCc O h (fun h hb=>?_) (fun h hb=>?_))))))))))))))))
  ·
   refine Jr fun hK24=>(Ru (BL true) O (G7 (hK24 (Gr (fin1 BL h)))))
  ·
   refine Gn (hK21 (G3 (JLh (G0 ((i18+1:Nat):Int)) (Hu (He hk18 hm8) O O O) O (Ru (G0 ((i18+1:Nat):Int)) O (G7 (e18 _ _ (i18+1) () (app1 hn18 h) (by omega) ⟨(by repeat' constructor),G,rfl⟩))))))
 ·
  have h:=app1 hkx18 (Hp hi18 (H7 hb))
  refine Hr (hK2 (Jr fun hK25=>(Ru (BL false) O (G7 (hK25 (Gr (fin1 BL h)))))))

def Ro (s:Gw) (before:List Stowed) (after:List Stowed) (set:List Int) (k:Int):Option Bool:=
 each (fun y4 i4 (s4:Unit) nx4=>
  each (fun y38 i38 (s38:Unit) nx38=>
   Rx s.Columns y38.Slot.G4 fun y44=>
   bnd (Hy set y38.Gd) fun r47=>
   bnd (bif (r47&&(!y44.Deck)) then Rx s.Covers k some else some default) fun y48=>
   bnd (bif ((r47&&(!y44.Deck))&&(decide (y44.Bay=y48.Bay))) then Rx s.Covers k some else some default) fun y49=>
   bnd (bif ((r47&&(!y44.Deck))&&(decide (y44.Bay=y48.Bay))) then Hy y49.Rows y44.Row else some default) fun r50=>
   bif (((r47&&(!y44.Deck))&&(decide (y44.Bay=y48.Bay)))&&r50) then
   (some true)
   else
   (nx38 ()))
  (fun(s38:Unit)=>
   nx4 ()) y4 0 ())
 (fun(s4:Unit)=>
  some false) [before,after] 0 ()
theorem Ged (s:Gw) (before:List Stowed) (after:List Stowed) (set:List Int) (k:Int) (r:Bool) (h:Ro s before after set k=some r):Pure Ej 27 [.agg (Gw.cs s),E0 before,E0 after,E1 set,G0 k] (·=BL r):=by
 unfold Ro at h
 refine H1 [.tmp 10] Tryz.func27 O O (Jr fun hK1=>(JLh (.ptr 1080 0) (Jm (cs:=(Gw.cs s)) 1080 O O O O O) O (Ru (BL false) O (G7 (hK1 (Gp [(1,E0 before),(2,E0 after),(3,E1 set),(4,G0 k),(5,Ec s)] [] 1080 rfl rfl rfl G rfl (by repeat' (first | exact .ptr | constructor)) ?_))))))
 refine Js fun hK2=>Jr fun hK3=>(Ru (E0 before) O (Ru (E0 after) O (JLh (LS 1 (E0) [before,after]) (H9 (xs:=[E0 before,E0 after]) O ⟨O,O,O,O,G⟩ J9 G34 O O O O) O (JLl J9 O O O fun hm19=>(Ru (G0 0) O (G7 (hK3 (Gq ?_))))))))
 obtain⟨b4,kx4,hb4,hkx4,h⟩:=Hx h
 refine Hg (fun i4 (s4:Unit)=>each b4 kx4 (List.drop i4 [before,after]) i4 s4=some r) (fun i4 s4=>[(3,E1 set),(4,G0 k),(5,Ec s),(18,LS 1 (E0) [before,after]),(19,G0 ([before,after].length:Int)),(20,Ei i4)]) (fun i4 s4=>[]) (fun i4=>[before,after].length - i4) 0 () h ⟨(by repeat' constructor),G,rfl⟩ ?_
 clear h
 intro i4 s4 hi4 K4 e4
 refine Jr fun hK5=>(JLh (BL (decide ((i4:Int) < ([before,after].length:Int)))) (Hz O O O) O (G7 (hK5 (Js fun hK6=>Gk O (fun hb=>?_) (fun hb=>?_)))))
 ·
  have hk4:=Jb hb
  obtain⟨y4,nx4,hy4,hn4,h⟩:=Ho hi4 hk4
  replace h:=Rw hb4 h
  refine Gn (hK6 (Js fun hK7=>Gq (Jr fun hK8=>(JLh (.dptr [E0 y4]) (H4 (f:=(E0)) (xs:=[before,after]) (y:=y4) O O O J9 hy4 O) O (JLh (E0 y4) (Gf Q2 O O O) O (Ru (E0 y4) O (G7 (hK8 (Jr fun hK9=>(Ru (E0 y4) O (JLl Gx O O O fun hm25=>(Ru (G0 0) O (G7 (hK9 (Gq ?_)))))))))))))))
  obtain⟨b38,kx38,hb38,hkx38,h⟩:=Hx h
  refine Hg (fun i38 (s38:Unit)=>each b38 kx38 (List.drop i38 y4) i38 s38=some r) (fun i38 s38=>[(3,E1 set),(4,G0 k),(5,Ec s),(18,LS 1 (E0) [before,after]),(19,G0 ([before,after].length:Int)),(20,Ei i4),(24,E0 y4),(25,Ei y4.length),(26,Ei i38)]) (fun i38 s38=>[]) (fun i38=>y4.length - i38) 0 () h ⟨(by repeat' constructor),G,rfl⟩ ?_
  clear h
  intro i38 s38 hi38 K38 e38
  refine Jr fun hK39=>(JLh (BL (decide ((i38:Int) < (y4.length:Int)))) (Hz O O O) O (G7 (hK39 (Js fun hK40=>Gk O (fun hb=>?_) (fun hb=>?_)))))
  ·
   have hk38:=Jb hb
   obtain⟨y38,nx38,hy38,hn38,h⟩:=Ho hi38 hk38
   replace h:=Rw hb38 h
   refine Gn (hK40 (Js fun hK41=>Gq (Jr fun hK42=>(JLh (Ed y38) (H4 (f:=Stowed.av) (xs:=y4) (y:=y38) O O O Gx hy38 O) O (JLh (.agg (Stowed.cs y38)) (Gi Q0 O O O) O (JLh (.ptr 1081 0) (Hn 1081 4 Je O O) O (Hs (u:=.junk) (Ha (u:=.agg (Stowed.cs y38)) (ds:=[G0 y38.Gd,G0 y38.Slot.G4,G0 y38.Slot.Tier,U8 y38.Slot.Half]) Qv O O O O O O O O) (G7 (hK42 ?_)))))))))
   refine Gp [(3,E1 set),(4,G0 k),(5,Ec s),(14,Ed y38),(18,LS 1 (E0) [before,after]),(19,G0 ([before,after].length:Int)),(20,Ei i4),(24,E0 y4),(25,Ei y4.length),(26,Ei i38)] [] 1081 rfl rfl rfl G rfl (by repeat' (first | exact .ptr | constructor)) ?_
   refine Jr fun hK43=>(JLh (Ec s) (Ga J2 O O O) O (JLh (E3 s.Columns) (Gf Ja O O O) O (JLh (.dptr ((Stowed.cs y38).drop 1)) (Ga J1 O O O) O (JLh (.dptr ((Stowed.cs y38).drop 1)) (Ga Jf O O O) O (JLh (G0 y38.Slot.G4) (Gf Gc O O O) O ?_)))))
   obtain⟨m45,y44,hm45,hy44,h⟩:=Yd h
   refine JLh (Ef y44) (H4 (f:=G4.av) (xs:=s.Columns) (y:=y44) O O O J5 hy44 hm45) O (JLh (.agg (G4.cs y44)) (Gi G44 O O O) O (JLh (.ptr 1082 0) (Hn 1082 12 G17 O O) O (Hs (u:=.junk) (Ha (u:=.agg (G4.cs y44)) (ds:=(G4.cs y44)) Gcf O O O O O O O O) (G7 (hK43 ?_)))))
   refine Gp [(3,E1 set),(4,G0 k),(5,Ec s),(14,Ed y38),(15,Ef y44),(18,LS 1 (E0) [before,after]),(19,G0 ([before,after].length:Int)),(20,Ei i4),(24,E0 y4),(25,Ei y4.length),(26,Ei i38)] [] 1082 rfl rfl rfl G rfl (by repeat' (first | exact .ptr | constructor)) (Js fun hK46=>?_)
   obtain⟨r47,hr47,h⟩:=Ge h
   obtain⟨y48,hy48,h⟩:=Ge h
   obtain⟨y49,hy49,h⟩:=Ge h
   obtain⟨r50,hr50,h⟩:=Ge h
   refine JC_d0 Qb (by kernel_rfl) (Dq (E1 set) (G6 O O) O (Dq (Ed y38) (Ga Hv O O O) O (Dq (G0 y38.Gd) (Gf Gc O O O) O (Dq (BL r47) (Gt (args:=[E1 set,G0 y38.Gd]) O (Jz set y38.Gd r47 hr47) G1d ⟨O,O,O,O,G⟩) O (Dq (BL r47) (G6 O O) O (Do (.dptr ((G4.cs y44).drop 2)) [] O .sct G (fun hc=>Ga Rf O O O) O (Do (BL y44.Deck) [42] O .sct ⟨Ua,G⟩ (fun hc=>Gf Q9 O O O) O (Do (BL (!y44.Deck)) [43] O .sct ⟨Ua,G⟩ (fun hc=>Rj (b:=y44.Deck) O O) O (Dq (BL (r47&&(!y44.Deck))) (Qa O O O O) O (Dq (BL (r47&&(!y44.Deck))) (G6 O O) O (Do (Ef y44) [] O .sct G (fun hc=>Ga Zz O O O) O (Do (G0 y44.Bay) [47] O .sct ⟨Ua,G⟩ (fun hc=>Gf Gc O O O) O (Do (.dptr [E4 s.Covers,G0 s.Light.Kilos,G0 s.Light.X,G0 s.Light.Y,G0 s.Light.Z,E5 s.Rows,E6 s.Frames,E7 s.Tanks,G0 s.G2.Tolerance,G0 s.G2.Trim,G0 s.G2.List_,G0 s.G2.Stability]) [] O .sct G (fun hc=>Ga Q5 O O O) O ?_)))))))))))))
   refine Do (E4 s.Covers) [49] O .sct ⟨Ua,G⟩ (fun hc=>Gf Qo O O O) O (Do (G0 k) [] O .sct G (fun hc=>G6 O O) O (Do (.dptr [G0 y48.Bay,E1 y48.Rows]) [50,51] O .sct ⟨Ua,Ua,G⟩ (fun hc=>(match Qq (H2 hc hy48) with | ⟨_,hm_,hy_⟩=>H4 (f:=G9.av) (xs:=s.Covers) (y:=y48) O O O Q8 hy_ hm_)) O (Do (.dptr [G0 y48.Bay,E1 y48.Rows]) [52] O .sct ⟨Ua,G⟩ (fun hc=>Ga G54 O O O) O (Do (G0 y48.Bay) [53] O .sct ⟨Ua,G⟩ (fun hc=>Gf Gc O O O) O (Do (BL (decide (y44.Bay=y48.Bay))) [48,54] O .sct ⟨Ua,Ua,G⟩ (fun hc=>Qh O O O) O (Dq (BL ((r47&&(!y44.Deck))&&(decide (y44.Bay=y48.Bay)))) (Qa O O O O) O (Dq (BL ((r47&&(!y44.Deck))&&(decide (y44.Bay=y48.Bay)))) (G6 O O) O (Do (.dptr [E4 s.Covers,G0 s.Light.Kilos,G0 s.Light.X,G0 s.Light.Y,G0 s.Light.Z,E5 s.Rows,E6 s.Frames,E7 s.Tanks,G0 s.G2.Tolerance,G0 s.G2.Trim,G0 s.G2.List_,G0 s.G2.Stability]) [] O .sct G (fun hc=>Ga Q5 O O O) O (Do (E4 s.Covers) [58] O .sct ⟨Ua,G⟩ (fun hc=>Gf Qo O O O) O (Do (G0 k) [] O .sct G (fun hc=>G6 O O) O (Do (.dptr [G0 y49.Bay,E1 y49.Rows]) [59,60] O .sct ⟨Ua,Ua,G⟩ (fun hc=>(match Qq (H2 hc hy49) with | ⟨_,hm_,hy_⟩=>H4 (f:=G9.av) (xs:=s.Covers) (y:=y49) O O O Q8 hy_ hm_)) O (Do (.dptr [E1 y49.Rows]) [61] O .sct ⟨Ua,G⟩ (fun hc=>Ga G53 O O O) O (Do (E1 y49.Rows) [62] O .sct ⟨Ua,G⟩ (fun hc=>Gf Q1 O O O) O ?_)))))))))))))
   refine Do (.dptr ((G4.cs y44).drop 1)) [] O .sct G (fun hc=>Ga Zy O O O) O (Do (G0 y44.Row) [64] O .sct ⟨Ua,G⟩ (fun hc=>Gf Gc O O O) O (Do (BL r50) [63,65] O .sct ⟨Ua,Ua,G⟩ (fun hc=>Gt (args:=[E1 y49.Rows,G0 y44.Row]) O (Jz y49.Rows y44.Row r50 (H2 hc hr50)) G1d ⟨O,O,O,O,G⟩) O (Dq (BL (((r47&&(!y44.Deck))&&(decide (y44.Bay=y48.Bay)))&&r50)) (Qa O O O O) O (Dnil (hK46 (JCc O h (fun h hb=>?_) (fun h hb=>?_)))))))
   ·
    refine Jr fun hK51=>(Ru (BL true) O (G7 (hK51 (Gr (fin1 BL h)))))
   ·
    refine Gn (hK41 (G3 (JLh (G0 ((i38+1:Nat):Int)) (Hu (He hk38 hm25) O O O) O (Ru (G0 ((i38+1:Nat):Int)) O (G7 (e38 _ _ (i38+1) () (app1 hn38 h) (by omega) ⟨(by repeat' constructor),G,rfl⟩))))))
  ·
   have h:=app1 hkx38 (Hp hi38 (H7 hb))
   refine Hr (hK7 (G3 (JLh (G0 ((i4+1:Nat):Int)) (Hu (He hk4 hm19) O O O) O (Ru (G0 ((i4+1:Nat):Int)) O (G7 (e4 _ _ (i4+1) () (app1 hn4 h) (by omega) ⟨(by repeat' constructor),G,rfl⟩))))))
 ·
  have h:=app1 hkx4 (Hp hi4 (H7 hb))
  refine Hr (hK2 (Jr fun hK52=>(Ru (BL false) O (G7 (hK52 (Gr (fin1 BL h)))))))

def G5b (x:Stowed) (p1:Int):Option Bool:=
 some (decide (x.Gd=p1))
theorem J34 (x:Stowed) (p1:Int) (r:Bool) (h:G5b x p1=some r):Pure Ej 94 [.agg (Stowed.cs x),.dptr [G0 p1]] (·=BL r):=by
 unfold G5b at h
 refine H1 [.tmp 3] Tryz.func94 O O (Jr fun hK1=>(JLh (.ptr 1154 0) (Jm (cs:=[G0 x.Gd,G0 x.Slot.G4,G0 x.Slot.Tier,U8 x.Slot.Half]) 1154 O O O O O) O (Ru (BL false) O (G7 (hK1 (Gp [(1,.dptr [G0 p1]),(2,Ed x)] [] 1154 rfl rfl rfl G rfl (by exact⟨.conv (.same rfl),.ptr,G⟩) (Jr fun hK2=>(JLh (Ed x) (Ga Hv O O O) O (JLh (G0 x.Gd) (Gf Gc O O O) O (JLh (G0 p1) (Gf Gc O O O) O (JLh (BL (decide (x.Gd=p1))) (Qh O O O) O (Ru (BL (decide (x.Gd=p1))) O (G7 (hK2 (Gr (fin1 BL h))))))))))))))))

def Zu (l:List Stowed) (id_:Int):Option Int:=
 bnd (Ju l (fun z0=>G5b z0 id_)) fun r3=>
 some r3
theorem Ga0 (l:List Stowed) (id_:Int) (r:Int) (h:Zu l id_=some r):Pure Ej 63 [E0 l,G0 id_] (·=G0 r):=by
 unfold Zu at h
 refine H1 [.tmp 4] Tryz.func63 O O (Jr fun hK1=>(JLh (.ptr 1131 0) (Jm (cs:=[G0 id_]) 1131 O O O O O) O (Ru (G0 0) O (G7 (hK1 (Gp [(0,E0 l),(3,.dptr [G0 id_])] [] 1131 rfl rfl rfl G rfl (by exact⟨.conv (.same rfl),.ptr,G⟩) (Jr fun hK2=>(Ru (E0 l) O (JLh (.fn 94 [.dptr [G0 id_]]) (Rk (cs:=[.dptr [G0 id_]]) O O) O ?_)))))))))
 obtain⟨r3,hr3,h⟩:=Ge h
 refine JLh (G0 r3) (Gt O (Yg l (fun z0=>G5b z0 id_) 94 [.dptr [G0 id_]] Jf6 O (fun z0 q hq=>J34 z0 id_ q hq) r3 hr3) Ha7 ⟨O,O,O,O,G⟩) O (Ru (G0 r3) O (G7 (hK2 (Gr (fin1 G0 h)))))

def G20 (l:List Stowed) (id_:Int):Option ((List Int)×Int):=
 bnd (Zu l id_) fun r3=>
 bif decide (r3 < 0) then
 (some ([],6))
 else
 (each (fun y30 i30 (s30:(List Int)) nx30=>
   jp (fun kj33=>
    Rx l r3 fun y36=>
    bnd (G72 y30.Slot y36.Slot) fun r38=>
    bif r38 then
    (need (decide ((s30.length+[y30.Gd].length)*8≤140737488355328∧s30.length+[y30.Gd].length≤maxLen)) <|
     kj33 (s30++[y30.Gd]))
    else
    (kj33 s30)) fun(j33:(List Int))=>
   nx30 j33)
  (fun(s30:(List Int))=>
   some (s30,0)) l 0 [])
theorem J98 (l:List Stowed) (id_:Int) (r:(List Int)×Int) (h:G20 l id_=some r):Pure Ej 90 [E0 l,G0 id_] (·=.tup [E1 r.1,G0 r.2]):=by
 unfold G20 at h
 refine H1 [.tmp 4,.tmp 5] Tryz.func90 O O (Jr fun hK1=>(JLh (E1 ([]:List Int)) (Ht 1 O O) O (Ru (G0 0) O (G7 (hK1 (Jr fun hK2=>(Ru (E0 l) O (Ru (G0 id_) O ?_))))))))
 obtain⟨r3,hr3,h⟩:=Ge h
 refine JLh (G0 r3) (Gt O (Ga0 l id_ r3 hr3) H29 ⟨O,O,O,O,G⟩) O (Ru (G0 r3) O (G7 (hK2 (Js fun hK4=>Jr fun hK5=>(Ru (G0 r3) O (JLh (BL (decide (r3 < 0))) (Hz O O O) O (G7 (hK5 (JCc O h (fun h hb=>?_) (fun h hb=>?_))))))))))
 ·
  refine Jr fun hK6=>(JLh (E1 ([]:List Int)) (Ht 1 O O) O (Ru (G0 6) O (G7 (hK6 (Gr (⟨[E1 ([]:List Int),G0 6],[],G,O,⟨⟨_,O,.conv (.same O)⟩,⟨_,O,.conv (.same O)⟩,G⟩,O,congrArg (fun r:(List Int)×Int=>(.tup [E1 r.1,G0 r.2]:AV)) (Option.some.inj h)⟩))))))
 ·
  refine Gn (hK4 (Jr fun hK7=>(JLh (OW 1150 1 G0 ([]:List Int)) (G61 1150 3 1 O O O) O (G7 (hK7 (Js fun hK8=>Jr fun hK9=>(Ru (E0 l) O (JLl Gx O O O fun hm16=>(Ru (G0 0) O (G7 (hK9 (Gq ?_))))))))))))
  obtain⟨b30,kx30,hb30,hkx30,h⟩:=Hx h
  refine Hg (fun i30 (s30:(List Int))=>each b30 kx30 (List.drop i30 l) i30 s30=some r) (fun i30 s30=>[(0,E0 l),(6,G0 r3),(7,OW 1150 1 G0 s30),(15,E0 l),(16,Ei l.length),(17,Ei i30)]) (fun i30 s30=>[(1150,.spare 3 1 s30.length s30.length)]) (fun i30=>l.length - i30) 0 [] h ⟨(by repeat' constructor),⟨⟨_,rfl,.same⟩,G⟩,rfl⟩ ?_
  clear h
  intro i30 s30 hi30 K30 e30
  refine Jr fun hK31=>(JLh (BL (decide ((i30:Int) < (l.length:Int)))) (Hz O O O) O (G7 (hK31 (Js fun hK32=>Gk O (fun hb=>?_) (fun hb=>?_)))))
  ·
   have hk30:=Jb hb
   obtain⟨y30,nx30,hy30,hn30,h⟩:=Ho hi30 hk30
   replace h:=Rw hb30 h
   refine Gn (hK32 ?_)
   obtain⟨kj33,hkj33,h⟩:=Rg h
   refine Qg (fun j33:(List Int)=>kj33 j33=some r) (fun j33=>[(0,E0 l),(6,G0 r3),(7,OW 1150 1 G0 j33),(15,E0 l),(16,Ei l.length),(17,Ei i30)]) (fun j33=>[(1150,.spare 3 1 j33.length j33.length)]) (fun Kj33 ej33=>?_) ?_
   ·
    refine Gq (Jr fun hK34=>(JLh (Ed y30) (H4 (f:=Stowed.av) (xs:=l) (y:=y30) O O O Gx hy30 O) O (JLh (.agg (Stowed.cs y30)) (Gi Q0 O O O) O (JLh (.ptr 1151 0) (Hn 1151 4 Je O O) O (Hs (u:=.junk) (Ha (u:=.agg (Stowed.cs y30)) (ds:=[G0 y30.Gd,G0 y30.Slot.G4,G0 y30.Slot.Tier,U8 y30.Slot.Half]) Qv O O O O O O O O) (G7 (hK34 (Gp [(0,E0 l),(6,G0 r3),(7,OW 1150 1 G0 s30),(9,Ed y30),(15,E0 l),(16,Ei l.length),(17,Ei i30)] [(1150,.spare 3 1 s30.length s30.length)] 1151 rfl rfl rfl ⟨⟨_,rfl,.same⟩,G⟩ rfl (by repeat' (first | exact .ptr | constructor)) (Js fun hK35=>?_)))))))))
    refine Yj (l':=[(0,E0 l),(6,G0 r3),(7,OW 1150 1 G0 s30),(9,Ed y30),(15,E0 l),(16,Ei l.length),(17,Ei i30)]) (L':=[(1150,.spare 3 1 s30.length s30.length)]) ⟨(by repeat' constructor),⟨⟨_,rfl,.same⟩,G⟩,rfl⟩ ?_
    obtain⟨m37,y36,hm37,hy36,h⟩:=Yd h
    obtain⟨r38,hr38,h⟩:=Ge h
    refine JC_d0 Qb (by kernel_rfl) (Dq (.dptr ((Stowed.cs y30).drop 1)) (Ga J1 O O O) O (Dq (.agg ((Stowed.cs y30).drop 1)) (Gi Jp O O O) O (Dq (E0 l) (G6 O O) O (Dq (G0 r3) (G6 O O) O (Dq (Ed y36) (H4 (f:=Stowed.av) (xs:=l) (y:=y36) O O O Gx hy36 hm37) O (Dq (.dptr ((Stowed.cs y36).drop 1)) (Ga J1 O O O) O (Dq (.agg ((Stowed.cs y36).drop 1)) (Gi Jp O O O) O (Dq (BL r38) (Gt (args:=[.agg ((Stowed.cs y30).drop 1),.agg ((Stowed.cs y36).drop 1)]) O (H9c y30.Slot y36.Slot r38 hr38) J62 ⟨O,O,O,O,G⟩) O (Dnil (hK35 (JCc O h (fun h hb=>?_) (fun h hb=>?_))))))))))))
    ·
     refine G3 (Ru (OW 1150 1 G0 s30) O (JLh (Ed y30) (Ga Hv O O O) O (JLh (G0 y30.Gd) (Gf Gc O O O) O (JLh (E1 [y30.Gd]) (H9 (xs:=[G0 y30.Gd]) O ⟨O,O,G⟩ Gv Y0 O O O O) O ?_))))
     obtain⟨ha39,h⟩:=Jj h
     refine JLh (OW 1150 1 G0 (s30++[y30.Gd])) (Rc (f:=G0) (xs:=s30) (ys:=[y30.Gd]) O O O O Gv G43 ha39 (fun _=>O) (.inl O) O) O (Ru (OW 1150 1 G0 (s30++[y30.Gd])) O (G7 (ej33 _ _ (s30++[y30.Gd]) h ⟨(by repeat' constructor),⟨⟨_,rfl,.same⟩,G⟩,rfl⟩)))
    ·
     refine Gn (ej33 _ _ s30 h ⟨(by repeat' constructor),⟨⟨_,rfl,.same⟩,G⟩,rfl⟩)
   ·intro j33 h
    replace h:=app1 hkj33 h
    refine G3 (JLh (G0 ((i30+1:Nat):Int)) (Hu (He hk30 hm16) O O O) O (Ru (G0 ((i30+1:Nat):Int)) O (G7 (e30 _ _ (i30+1) j33 (app1 hn30 h) (by omega) ⟨(by repeat' constructor),⟨⟨_,rfl,.same⟩,G⟩,rfl⟩))))
  ·
   have h:=app1 hkx30 (Hp hi30 (H7 hb))
   refine Hr (hK8 (Jr fun hK40=>(Ru (OW 1150 1 G0 s30) O (Ru (OW 1150 1 G0 s30) O (Ru (G0 0) O (G7 (hK40 (Gr (⟨[E1 s30,G0 0],[],G,O,⟨⟨_,O,.conv (.list O)⟩,⟨_,O,.conv (.same O)⟩,G⟩,O,congrArg (fun r:(List Int)×Int=>(.tup [E1 r.1,G0 r.2]:AV)) (Option.some.inj h)⟩)))))))))

def G83 (s:Gw) (column:Int):Option Int:=
 Rx s.Columns column fun y4=>
 bif y4.Deck then
 (some (-1))
 else
 (bnd (Ri s column) fun r8=>
  some r8)
theorem J96 (s:Gw) (column:Int) (r:Int) (h:G83 s column=some r):Pure Ej 91 [.agg (Gw.cs s),G0 column] (·=G0 r):=by
 unfold G83 at h
 refine H1 [.tmp 4] Tryz.func91 O O (Jr fun hK1=>(JLh (.ptr 1152 0) (Jm (cs:=(Gw.cs s)) 1152 O O O O O) O (Ru (G0 0) O (G7 (hK1 (Gp [(1,G0 column),(2,Ec s)] [] 1152 rfl rfl rfl G rfl (by exact⟨.conv (.same rfl),.ptr,G⟩) (Js fun hK2=>?_)))))))
 refine Jr fun hK3=>(JLh (Ec s) (Ga J2 O O O) O (JLh (E3 s.Columns) (Gf Ja O O O) O (Ru (G0 column) O ?_)))
 obtain⟨m5,y4,hm5,hy4,h⟩:=Yd h
 refine JLh (Ef y4) (H4 (f:=G4.av) (xs:=s.Columns) (y:=y4) O O O J5 hy4 hm5) O (JLh (.dptr ((G4.cs y4).drop 2)) (Ga Rf O O O) O (JLh (BL y4.Deck) (Gf Q9 O O O) O (G7 (hK3 (JCc O h (fun h hb=>?_) (fun h hb=>?_))))))
 ·
  refine Jr fun hK6=>(Ru (G0 (-1)) O (G7 (hK6 (Gr (fin1 G0 h)))))
 ·
  refine Gn (hK2 (Jr fun hK7=>(JLh (.agg (Gw.cs s)) (Gi Hq O O O) O (Ru (G0 column) O ?_))))
  obtain⟨r8,hr8,h⟩:=Ge h
  refine JLh (G0 r8) (Gt O (G4c s column r8 hr8) H2b ⟨O,O,O,O,G⟩) O (Ru (G0 r8) O (G7 (hK7 (Gr (fin1 G0 h)))))

def G1a (s:Gw) (boxes:List Gd) (l:List Stowed) (open_:List Int) (id_:Int):Option Int:=
 bnd (Y6 s boxes l open_) fun r4=>
 bif (!r4) then
 (some 2)
 else
 (bnd (G20 l id_) fun r7=>
  bif decide (r7.2≠0) then
  (some r7.2)
  else
  (bif decide (0 < (r7.1.length:Int)) then
   (some 90)
   else
   (bnd (Zu l id_) fun r15=>
    Rx l r15 fun y16=>
    bnd (G83 s y16.Slot.G4) fun r18=>
    bnd (bif decide (0≤r18) then Qn open_ r18 else some default) fun r20=>
    bif ((decide (0≤r18))&&(!r20)) then
    (some 91)
    else
    (some 0))))
theorem M_stow_Free_w (s:Gw) (boxes:List Gd) (l:List Stowed) (open_:List Int) (id_:Int) (r:Int) (h:G1a s boxes l open_ id_=some r):Pure Ej 61 [.agg (Gw.cs s),E2 boxes,E0 l,E1 open_,G0 id_] (·=G0 r):=by
 unfold G1a at h
 refine H1 [.tmp 10] Tryz.func61 O O (Jr fun hK1=>(JLh (.ptr 1130 0) (Jm (cs:=(Gw.cs s)) 1130 O O O O O) O (Ru (G0 0) O (G7 (hK1 (Gp [(1,E2 boxes),(2,E0 l),(3,E1 open_),(4,G0 id_),(5,Ec s)] [] 1130 rfl rfl rfl G rfl (by repeat' (first | exact .ptr | constructor)) ?_))))))
 refine Js fun hK2=>Jr fun hK3=>(JLh (.agg (Gw.cs s)) (Gi Hq O O O) O (Ru (E2 boxes) O (Ru (E0 l) O (Ru (E1 open_) O ?_))))
 obtain⟨r4,hr4,h⟩:=Ge h
 refine JLh (BL r4) (Gt O (G49 s boxes l open_ r4 hr4) H2a ⟨O,O,O,O,O,O,O,O,G⟩) O (JLh (BL (!r4)) (Rj (b:=r4) O O) O (G7 (hK3 (JCc O h (fun h hb=>?_) (fun h hb=>?_)))))
 ·
  refine Jr fun hK5=>(Ru (G0 2) O (G7 (hK5 (Gr (fin1 G0 h)))))
 ·
  refine Gn (hK2 (Jr fun hK6=>(Ru (E0 l) O (Ru (G0 id_) O ?_))))
  obtain⟨r7,hr7,h⟩:=Ge h
  refine JLh (.tup [E1 r7.1,G0 r7.2]) (Gt O (J98 l id_ r7 hr7) Jf8 ⟨O,O,O,O,G⟩) O (Ru (.tup [E1 r7.1,G0 r7.2]) O (JLh (E1 r7.1) (H6 O O O) O (JLh (G0 r7.2) (H6 O O O) O (Ru (E1 r7.1) O (Ru (G0 r7.2) O (G7 (hK6 (Js fun hK8=>Gq (Jr fun hK9=>(Ru (G0 r7.2) O (JLh (BL (decide (r7.2≠0))) (G50 O O O) O (Ru (BL (decide (r7.2≠0))) O (G7 (hK9 (JCc O h (fun h hb=>?_) (fun h hb=>?_))))))))))))))))
  ·
   refine Jr fun hK10=>(Ru (G0 r7.2) O (Ru (G0 r7.2) O (G7 (hK10 (Gr (fin1 G0 h))))))
  ·
   refine Jr fun hK11=>(Ru (E1 r7.1) O (JLl Gv O O O fun hm32=>(JLh (BL (decide (0 < (r7.1.length:Int)))) (G76 O O O) O (Ru (BL (decide (0 < (r7.1.length:Int)))) O (G7 (hK11 (JCc O h (fun h hb=>?_) (fun h hb=>?_))))))))
   ·
    refine Jr fun hK12=>(Ru (G0 90) O (G7 (hK12 (Gr (fin1 G0 h)))))
   ·
    refine Gn (hK8 (Js fun hK13=>Js fun hK14=>?_))
    obtain⟨r15,hr15,h⟩:=Ge h
    obtain⟨m17,y16,hm17,hy16,h⟩:=Yd h
    obtain⟨r18,hr18,h⟩:=Ge h
    refine JC_d0 Qb (by kernel_rfl) (Dq (.agg (Gw.cs s)) (Gi Hq O O O) O (Dq (E0 l) (G6 O O) O (Dq (E0 l) (G6 O O) O (Dq (G0 id_) (G6 O O) O (Dq (G0 r15) (Gt (args:=[E0 l,G0 id_]) O (Ga0 l id_ r15 hr15) H29 ⟨O,O,O,O,G⟩) O (Dq (Ed y16) (H4 (f:=Stowed.av) (xs:=l) (y:=y16) O O O Gx hy16 hm17) O (Dq (.dptr ((Stowed.cs y16).drop 1)) (Ga J1 O O O) O (Dq (.dptr ((Stowed.cs y16).drop 1)) (Ga Jf O O O) O (Dq (G0 y16.Slot.G4) (Gf Gc O O O) O (Dq (G0 r18) (Gt (args:=[.agg (Gw.cs s),G0 y16.Slot.G4]) O (J96 s y16.Slot.G4 r18 hr18) Jf7 ⟨O,O,O,O,G⟩) O (Dq (G0 r18) (G8 O O) O (Dnil ?_))))))))))))
    refine hK14 (Jr fun hK19=>(Ru (G0 r18) O (JLh (BL (decide (0≤r18))) (G8a O O O) O (Ru (BL (decide (0≤r18))) O (JLo (E1 open_) [] O .sct G (fun hc=>G6 O O) O (JLo (G0 r18) [] O .sct G (fun hc=>G6 O O) O ?_))))))
    obtain⟨r20,hr20,h⟩:=Ge h
    refine JLo (BL r20) [47,48] O .sct ⟨Ua,Ua,G⟩ (fun hc=>Gt (args:=[E1 open_,G0 r18]) O (G12 open_ r18 r20 (H2 hc hr20)) Ha5 ⟨O,O,O,O,G⟩) O (JLo (BL (!r20)) [49] O .sct ⟨Ua,G⟩ (fun hc=>Rj (b:=r20) O O) O (JLh (BL ((decide (0≤r18))&&(!r20))) (Qa O O O O) O (G7 (hK19 (JCc O h (fun h hb=>?_) (fun h hb=>?_))))))
    ·
     refine Jr fun hK21=>(Ru (G0 91) O (G7 (hK21 (Gr (fin1 G0 h)))))
    ·
     refine Gn (hK13 (Jr fun hK22=>(Ru (G0 0) O (G7 (hK22 (Gr (fin1 G0 h)))))))

def G3b (s:Gw) (boxes:List Gd) (l:List Stowed) (open_:List Int) (id_:Int):Option ((List Stowed)×Int):=
 bnd (G1a s boxes l open_ id_) fun r4=>
 bif decide (r4≠0) then
 (some ([],r4))
 else
 (bnd (Zu l id_) fun r8=>
  bnd (Rh l r8) fun r9=>
  some (r9,0))
theorem M_stow_Take_w (s:Gw) (boxes:List Gd) (l:List Stowed) (open_:List Int) (id_:Int) (r:(List Stowed)×Int) (h:G3b s boxes l open_ id_=some r):Pure Ej 28 [.agg (Gw.cs s),E2 boxes,E0 l,E1 open_,G0 id_] (·=.tup [E0 r.1,G0 r.2]):=by
 unfold G3b at h
 refine H1 [.tmp 10,.tmp 11] Tryz.func28 O O (Jr fun hK1=>(JLh (.ptr 1083 0) (Jm (cs:=(Gw.cs s)) 1083 O O O O O) O (JLh (E0 ([]:List Stowed)) (Ht 4 O O) O (Ru (G0 0) O (G7 (hK1 ?_))))))
 refine Gp [(1,E2 boxes),(2,E0 l),(3,E1 open_),(4,G0 id_),(5,Ec s)] [] 1083 rfl rfl rfl G rfl (by repeat' (first | exact .ptr | constructor)) (Js fun hK2=>?_)
 refine Jr fun hK3=>(JLh (.agg (Gw.cs s)) (Gi Hq O O O) O (Ru (E2 boxes) O (Ru (E0 l) O (Ru (E1 open_) O (Ru (G0 id_) O ?_)))))
 obtain⟨r4,hr4,h⟩:=Ge h
 refine JLh (G0 r4) (Gt O (M_stow_Free_w s boxes l open_ id_ r4 hr4) Q08 ⟨O,O,O,O,O,O,O,O,O,O,G⟩) O (Ru (G0 r4) O (G7 (hK3 (Jr fun hK5=>(Ru (G0 r4) O (JLh (BL (decide (r4≠0))) (G50 O O O) O (G7 (hK5 (JCc O h (fun h hb=>?_) (fun h hb=>?_))))))))))
 ·
  refine Jr fun hK6=>(Ru (G0 r4) O (JLh (E0 ([]:List Stowed)) (Ht 4 O O) O (Ru (G0 r4) O (G7 (hK6 (Gr (⟨[E0 ([]:List Stowed),G0 r4],[],G,O,⟨⟨_,O,.conv (.same O)⟩,⟨_,O,.conv (.same O)⟩,G⟩,O,congrArg (fun r:(List Stowed)×Int=>(.tup [E0 r.1,G0 r.2]:AV)) (Option.some.inj h)⟩)))))))
 ·
  refine Gn (hK2 (Jr fun hK7=>(Ru (E0 l) O (Ru (E0 l) O (Ru (G0 id_) O ?_)))))
  obtain⟨r8,hr8,h⟩:=Ge h
  refine JLh (G0 r8) (Gt O (Ga0 l id_ r8 hr8) H29 ⟨O,O,O,O,G⟩) O ?_
  obtain⟨r9,hr9,h⟩:=Ge h
  refine JLh (E0 r9) (Gt O (Ge1.down l r8 r9 hr9) Q07 ⟨O,O,O,O,G⟩) O (Ru (E0 r9) O (Ru (G0 0) O (G7 (hK7 (Gr (⟨[E0 r9,G0 0],[],G,O,⟨⟨_,O,.conv (.same O)⟩,⟨_,O,.conv (.same O)⟩,G⟩,O,congrArg (fun r:(List Stowed)×Int=>(.tup [E0 r.1,G0 r.2]:AV)) (Option.some.inj h)⟩))))))

def G84 (F:Nat) (s:Gw) (boxes:List Gd) (l:List Stowed) (open_:List Int) (cover:Int):Option ((List Int)×Int):=
 bnd (Y6 s boxes l open_) fun r4=>
 bif (!r4) then
 (some ([],2))
 else
 (bif ((decide (cover < 0))||(decide ((s.Covers.length:Int)≤cover))) then
  (some ([],6))
  else
  (bnd (Qi F open_ cover) fun r9=>
   bif (!r9.2) then
   (bnd (Jv open_) fun r13=>
    some (r13,0))
   else
   (bnd (Zf open_ r9.1) fun r15=>
    some (r15,0))))
theorem J97 (F:Nat) (s:Gw) (boxes:List Gd) (l:List Stowed) (open_:List Int) (cover:Int) (r:(List Int)×Int) (h:G84 F s boxes l open_ cover=some r):Pure Ej 29 [.agg (Gw.cs s),E2 boxes,E0 l,E1 open_,G0 cover] (·=.tup [E1 r.1,G0 r.2]):=by
 unfold G84 at h
 refine H1 [.tmp 10,.tmp 11] Tryz.func29 O O (Jr fun hK1=>(JLh (.ptr 1084 0) (Jm (cs:=(Gw.cs s)) 1084 O O O O O) O (JLh (E1 ([]:List Int)) (Ht 1 O O) O (Ru (G0 0) O (G7 (hK1 ?_))))))
 refine Gp [(1,E2 boxes),(2,E0 l),(3,E1 open_),(4,G0 cover),(5,Ec s)] [] 1084 rfl rfl rfl G rfl (by repeat' (first | exact .ptr | constructor)) (Js fun hK2=>Gq ?_)
 refine Jr fun hK3=>(JLh (.agg (Gw.cs s)) (Gi Hq O O O) O (Ru (E2 boxes) O (Ru (E0 l) O (Ru (E1 open_) O ?_))))
 obtain⟨r4,hr4,h⟩:=Ge h
 refine JLh (BL r4) (Gt O (G49 s boxes l open_ r4 hr4) H2a ⟨O,O,O,O,O,O,O,O,G⟩) O (JLh (BL (!r4)) (Rj (b:=r4) O O) O (Ru (BL (!r4)) O (G7 (hK3 (JCc O h (fun h hb=>?_) (fun h hb=>?_))))))
 ·
  refine Jr fun hK5=>(JLh (E1 ([]:List Int)) (Ht 1 O O) O (Ru (G0 2) O (G7 (hK5 (Gr (⟨[E1 ([]:List Int),G0 2],[],G,O,⟨⟨_,O,.conv (.same O)⟩,⟨_,O,.conv (.same O)⟩,G⟩,O,congrArg (fun r:(List Int)×Int=>(.tup [E1 r.1,G0 r.2]:AV)) (Option.some.inj h)⟩))))))
 ·
  refine Jr fun hK6=>(Ru (G0 cover) O (JLh (BL (decide (cover < 0))) (Hz O O O) O (Ru (BL (decide (cover < 0))) O (JLo (G0 cover) [] O .scf G (fun hc=>G6 O O) O (JLo (.dptr [E4 s.Covers,G0 s.Light.Kilos,G0 s.Light.X,G0 s.Light.Y,G0 s.Light.Z,E5 s.Rows,E6 s.Frames,E7 s.Tanks,G0 s.G2.Tolerance,G0 s.G2.Trim,G0 s.G2.List_,G0 s.G2.Stability]) [] O .scf G (fun hc=>Ga Q5 O O O) O (JLo (E4 s.Covers) [26] O .scf ⟨Ua,G⟩ (fun hc=>Gf Qo O O O) O (JLo (Ei s.Covers.length) [27] O .scf ⟨Ua,G⟩ (fun hc=>Z4 (f:=G9.av) (xs:=s.Covers) Q8 O O) O (JLo (BL (decide ((s.Covers.length:Int)≤cover))) [25,28] O .scf ⟨Ua,Ua,G⟩ (fun hc=>G8a O O O) O (JLh (BL ((decide (cover < 0))||(decide ((s.Covers.length:Int)≤cover)))) (G09 O O O O) O (Ru (BL ((decide (cover < 0))||(decide ((s.Covers.length:Int)≤cover)))) O (G7 (hK6 ?_))))))))))))
  refine JCc O h (fun h hb=>?_) (fun h hb=>?_)
  ·
   refine Jr fun hK7=>(JLh (E1 ([]:List Int)) (Ht 1 O O) O (Ru (G0 6) O (G7 (hK7 (Gr (⟨[E1 ([]:List Int),G0 6],[],G,O,⟨⟨_,O,.conv (.same O)⟩,⟨_,O,.conv (.same O)⟩,G⟩,O,congrArg (fun r:(List Int)×Int=>(.tup [E1 r.1,G0 r.2]:AV)) (Option.some.inj h)⟩))))))
  ·
   refine Gn (hK2 (Jr fun hK8=>(Ru (E1 open_) O (Ru (G0 cover) O ?_))))
   obtain⟨r9,hr9,h⟩:=Ge h
   refine JLh (.tup [G0 r9.1,BL r9.2]) (Gt O (G31 F open_ cover r9 hr9) J60 ⟨O,O,O,O,G⟩) O (Ru (.tup [G0 r9.1,BL r9.2]) O (JLh (G0 r9.1) (H6 O O O) O (JLh (BL r9.2) (H6 O O O) O (Ru (G0 r9.1) O (Ru (BL r9.2) O (G7 (hK8 (Js fun hK10=>Jr fun hK11=>(Ru (BL r9.2) O (JLh (BL (!r9.2)) (Rj (b:=r9.2) O O) O (G7 (hK11 (JCc O h (fun h hb=>?_) (fun h hb=>?_))))))))))))))
   ·
    refine Jr fun hK12=>(Ru (E1 open_) O ?_)
    obtain⟨r13,hr13,h⟩:=Ge h
    refine JLh (E1 r13) (Gt O (Gaf open_ r13 hr13) J5f ⟨O,O,G⟩) O (Ru (E1 r13) O (Ru (G0 0) O (G7 (hK12 (Gr (⟨[E1 r13,G0 0],[],G,O,⟨⟨_,O,.conv (.same O)⟩,⟨_,O,.conv (.same O)⟩,G⟩,O,congrArg (fun r:(List Int)×Int=>(.tup [E1 r.1,G0 r.2]:AV)) (Option.some.inj h)⟩))))))
   ·
    refine Gn (hK10 (Jr fun hK14=>(Ru (E1 open_) O (Ru (G0 r9.1) O ?_))))
    obtain⟨r15,hr15,h⟩:=Ge h
    refine JLh (E1 r15) (Gt O (H6e.down open_ r9.1 r15 hr15) Q06 ⟨O,O,O,O,G⟩) O (Ru (E1 r15) O (Ru (G0 0) O (G7 (hK14 (Gr (⟨[E1 r15,G0 0],[],G,O,⟨⟨_,O,.conv (.same O)⟩,⟨_,O,.conv (.same O)⟩,G⟩,O,congrArg (fun r:(List Int)×Int=>(.tup [E1 r.1,G0 r.2]:AV)) (Option.some.inj h)⟩))))))

def Z0 (p:Hj):Option Bool:=
 bnd (Ri p.s p.x.Slot.G4) fun r4=>
 bnd (bif decide (0≤r4) then Rx p.s.Columns p.x.Slot.G4 some else some default) fun y6=>
 bnd (bif decide (0≤r4) then Qn p.open_ r4 else some default) fun r7=>
 some ((decide (0≤r4))&&(y6.Deck==r7))
theorem H4e (p:Hj) (r:Bool) (h:Z0 p=some r):Pure Ej 65 [.agg (Hj.cs p)] (·=BL r):=by
 unfold Z0 at h
 refine H1 [.tmp 2] Tryz.func65 O O (Jr fun hK1=>(JLh (.ptr 1132 0) (Jm (cs:=(Hj.cs p)) 1132 O O O O O) O (Ru (BL false) O (G7 (hK1 ?_)))))
 refine Gp [(1,Eh p)] [] 1132 rfl rfl rfl G rfl (by exact⟨.ptr,G⟩) (Jr fun hK2=>(JLh (Ed p.x) (Ga G10 O O O) O (JLh (.dptr ((Stowed.cs p.x).drop 1)) (Ga J1 O O O) O (JLh (.dptr ((Stowed.cs p.x).drop 1)) (Ga Jf O O O) O (JLh (G0 p.x.Slot.G4) (Gf Gc O O O) O (Ru (G0 p.x.Slot.G4) O (G7 (hK2 ?_))))))))
 refine Jr fun hK3=>(JLh (Eh p) (Ga Gd1 O O O) O (JLh (.agg (Gw.cs p.s)) (Gi Hq O O O) O (Ru (G0 p.x.Slot.G4) O ?_)))
 obtain⟨r4,hr4,h⟩:=Ge h
 refine JLh (G0 r4) (Gt O (G4c p.s p.x.Slot.G4 r4 hr4) H2b ⟨O,O,O,O,G⟩) O (Ru (G0 r4) O (G7 (hK3 (Js fun hK5=>?_))))
 obtain⟨y6,hy6,h⟩:=Ge h
 obtain⟨r7,hr7,h⟩:=Ge h
 refine JC_d0 Qb (by kernel_rfl) (Dq (G0 r4) (G6 O O) O (Dq (BL (decide (0≤r4))) (G8a O O O) O (Dq (BL (decide (0≤r4))) (G6 O O) O (Do (Eh p) [] O .sct G (fun hc=>Ga Gd1 O O O) O (Do (Eh p) [16] O .sct ⟨Ua,G⟩ (fun hc=>Ga J2 O O O) O (Do (E3 p.s.Columns) [17] O .sct ⟨Ua,G⟩ (fun hc=>Gf Ja O O O) O (Do (G0 p.x.Slot.G4) [] O .sct G (fun hc=>G6 O O) O (Do (Ef y6) [18,19] O .sct ⟨Ua,Ua,G⟩ (fun hc=>(match Qq (H2 hc hy6) with | ⟨_,hm_,hy_⟩=>H4 (f:=G4.av) (xs:=p.s.Columns) (y:=y6) O O O J5 hy_ hm_)) O (Do (.dptr ((G4.cs y6).drop 2)) [20] O .sct ⟨Ua,G⟩ (fun hc=>Ga Rf O O O) O (Do (BL y6.Deck) [21] O .sct ⟨Ua,G⟩ (fun hc=>Gf Q9 O O O) O (Do (.dptr [E1 p.open_,G0 p.x.Gd,G0 p.x.Slot.G4,G0 p.x.Slot.Tier,U8 p.x.Slot.Half]) [] O .sct G (fun hc=>Ga J52 O O O) O (Do (E1 p.open_) [23] O .sct ⟨Ua,G⟩ (fun hc=>Gf Q1 O O O) O (Do (G0 r4) [] O .sct G (fun hc=>G6 O O) O ?_)))))))))))))
 refine Do (BL r7) [24,25] O .sct ⟨Ua,Ua,G⟩ (fun hc=>Gt (args:=[E1 p.open_,G0 r4]) O (G12 p.open_ r4 r7 (H2 hc hr7)) Ha5 ⟨O,O,O,O,G⟩) O (Do (BL (y6.Deck==r7)) [22,26] O .sct ⟨Ua,Ua,G⟩ (fun hc=>Hed G91 O O O) O (Dq (BL ((decide (0≤r4))&&(y6.Deck==r7))) (Qa O O O O) O (Dq (BL ((decide (0≤r4))&&(y6.Deck==r7))) (G8 O O) O (Dnil (hK5 (Gr (fin1 BL h)))))))

def Qx (y:Stowed) (p1:Hj):Option Bool:=
 bnd (G73 p1.x.Slot y.Slot) fun r3=>
 some r3
theorem H3f (y:Stowed) (p1:Hj) (r:Bool) (h:Qx y p1=some r):Pure Ej 97 [.agg (Stowed.cs y),Eh p1] (·=BL r):=by
 unfold Qx at h
 refine H1 [.tmp 3] Tryz.func97 O O (Jr fun hK1=>(JLh (.ptr 1155 0) (Jm (cs:=[G0 y.Gd,G0 y.Slot.G4,G0 y.Slot.Tier,U8 y.Slot.Half]) 1155 O O O O O) O (Ru (BL false) O (G7 (hK1 (Gp [(1,Eh p1),(2,Ed y)] [] 1155 rfl rfl rfl G rfl (by exact⟨.conv (.same rfl),.ptr,G⟩) (Jr fun hK2=>(JLh (.dptr ((Hj.cs p1).drop 16)) (Ga G10 O O O) O (JLh (.dptr ((Hj.cs p1).drop 17)) (Ga J1 O O O) O (JLh (.agg ((Hj.cs p1).drop 17)) (Gi Jp O O O) O (JLh (.dptr ((Stowed.cs y).drop 1)) (Ga J1 O O O) O (JLh (.agg ((Stowed.cs y).drop 1)) (Gi Jp O O O) O ?_))))))))))))
 obtain⟨r3,hr3,h⟩:=Ge h
 refine JLh (BL r3) (Gt O (H9d p1.x.Slot y.Slot r3 hr3) J64 ⟨O,O,O,O,G⟩) O (Ru (BL r3) O (G7 (hK2 (Gr (fin1 BL h)))))

def Qu (s:List Stowed) (f:Stowed→Option Bool):Option Bool:=
 bnd (Ju s f) fun r3=>
 some (decide (0≤r3))
theorem G7a (s:List Stowed) (f:Stowed→Option Bool) (f_f:FuncId) (f_c:List AV) (f_B:Hf Ej f_f=true) (f_d:Ya (fun _=>false) f_c=true) (f_w:∀ a0 q,f a0=some q→Pure Ej f_f ([.agg (Stowed.cs a0)]++f_c) (·=BL q)) (r:Bool) (h:Qu s f=some r):Pure Ej 96 [E0 s,.fn f_f f_c] (·=BL r):=by
 unfold Qu at h
 refine H1 [.tmp 4] Tryz.func96 O O (Jr fun hK1=>(Ru (BL false) O (G7 (hK1 (Jr fun hK2=>(Ru (E0 s) O (Ru (.fn f_f f_c) O ?_)))))))
 obtain⟨r3,hr3,h⟩:=Ge h
 refine JLh (G0 r3) (Gt O (Yg s f f_f f_c f_B f_d f_w r3 hr3) Ha7 ⟨O,O,O,f_d,G⟩) O (JLh (BL (decide (0≤r3))) (G8a O O O) O (Ru (BL (decide (0≤r3))) O (G7 (hK2 (Gr (fin1 BL h))))))

def Zg (p:Hj):Option Bool:=
 bnd (Qu p.l (fun z0=>Qx z0 p)) fun r3=>
 some r3
theorem H72 (p:Hj) (r:Bool) (h:Zg p=some r):Pure Ej 66 [.agg (Hj.cs p)] (·=BL r):=by
 unfold Zg at h
 refine H1 [.tmp 2] Tryz.func66 O O (Jr fun hK1=>(JLh (.ptr 1133 0) (Jm (cs:=(Hj.cs p)) 1133 O O O O O) O (Ru (BL false) O (G7 (hK1 ?_)))))
 refine Gp [(1,Eh p)] [] 1133 rfl rfl rfl G rfl (by exact⟨.ptr,G⟩) ?_
 refine Jr fun hK2=>(JLh (.dptr [E0 p.l,E1 p.open_,G0 p.x.Gd,G0 p.x.Slot.G4,G0 p.x.Slot.Tier,U8 p.x.Slot.Half]) (Ga G35 O O O) O (JLh (E0 p.l) (Gf Q2 O O O) O (JLh (.fn 97 [.dptr (Hj.cs p)]) (Rk (cs:=[.dptr (Hj.cs p)]) O O) O ?_)))
 obtain⟨r3,hr3,h⟩:=Ge h
 refine JLh (BL r3) (Gt O (G7a p.l (fun z0=>Qx z0 p) 97 [.dptr (Hj.cs p)] Jf4 O (fun z0 q hq=>H3f z0 p q hq) r3 hr3) Jf5 ⟨O,O,O,O,G⟩) O (Ru (BL r3) O (G7 (hK2 (Gr (fin1 BL h)))))

def Zt (p:Hj):Option Bool:=
 bnd (G48 p.l) fun r3=>
 bnd (G74 p.x.Slot r3) fun r4=>
 some (!r4)
theorem H40 (p:Hj) (r:Bool) (h:Zt p=some r):Pure Ej 67 [.agg (Hj.cs p)] (·=BL r):=by
 unfold Zt at h
 refine H1 [.tmp 2] Tryz.func67 O O (Jr fun hK1=>(JLh (.ptr 1134 0) (Jm (cs:=(Hj.cs p)) 1134 O O O O O) O (Ru (BL false) O (G7 (hK1 ?_)))))
 refine Gp [(1,Eh p)] [] 1134 rfl rfl rfl G rfl (by exact⟨.ptr,G⟩) (Js fun hK2=>?_)
 obtain⟨r3,hr3,h⟩:=Ge h
 obtain⟨r4,hr4,h⟩:=Ge h
 refine JC_d0 Qb (by kernel_rfl) (Dq (Ed p.x) (Ga G10 O O O) O (Dq (.dptr ((Stowed.cs p.x).drop 1)) (Ga J1 O O O) O (Dq (.agg ((Stowed.cs p.x).drop 1)) (Gi Jp O O O) O (Dq (.dptr [E0 p.l,E1 p.open_,G0 p.x.Gd,G0 p.x.Slot.G4,G0 p.x.Slot.Tier,U8 p.x.Slot.Half]) (Ga G35 O O O) O (Dq (E0 p.l) (Gf Q2 O O O) O (Dq (E8 r3) (Gt (args:=[E0 p.l]) O (H71 p.l r3 hr3) J67 ⟨O,O,G⟩) O (Dq (BL r4) (Gt (args:=[.agg ((Stowed.cs p.x).drop 1),E8 r3]) O (H9e p.x.Slot r3 r4 hr4) J65 ⟨O,O,O,O,G⟩) O (Dq (BL (!r4)) (Rj (b:=r4) O O) O (Dq (BL (!r4)) (G8 O O) O (Dnil (hK2 (Gr (fin1 BL h)))))))))))))

def Rb (F:Nat) (p:Hj):Option (List Stowed):=
 loop (fun nx10 (s10:Int)=>
  bnd (bif decide (s10 < (p.l.length:Int)) then Rx p.l s10 some else some default) fun y13=>
  bif ((decide (s10 < (p.l.length:Int)))&&(decide (y13.Gd < p.x.Gd))) then
  (G0d (s10+1) fun v14=>
   nx10 v14)
  else
  (bnd (R9 p.l s10 p.x) fun r16=>
   some r16)) F 0
theorem G71 (F:Nat) (p:Hj) (r:(List Stowed)) (h:Rb F p=some r):Pure Ej 69 [.agg (Hj.cs p)] (·=E0 r):=by
 unfold Rb at h
 refine H1 [.tmp 2] Tryz.func69 O O (Jr fun hK1=>(JLh (.ptr 1136 0) (Jm (cs:=(Hj.cs p)) 1136 O O O O O) O (JLh (E0 ([]:List Stowed)) (Ht 4 O O) O (G7 (hK1 ?_)))))
 refine Gp [(1,Eh p)] [] 1136 rfl rfl rfl G rfl (by exact⟨.ptr,G⟩) (Jr fun hK2=>(Ru (G0 0) O (G7 (hK2 (Js fun hK3=>Gq ?_)))))
 obtain⟨b10,hb10,h⟩:=Hd9 h
 refine Hg (fun i10 (s10:Int)=>loop b10 i10 s10=some r) (fun i10 s10=>[(1,Eh p),(3,G0 s10)]) (fun i10 s10=>[]) (fun i10=>i10) F 0 h ⟨⟨.same O,.same O,G⟩,G,O⟩ ?_
 clear h
 intro i10 s10 hi10 K10 e10
 obtain⟨m10,nx10,hm_10,hn10,h⟩:=H5c hi10
 replace h:=app2 hb10 h
 refine Js fun hK11=>Js fun hK12=>?_
 obtain⟨y13,hy13,h⟩:=Ge h
 refine JC_d0 Qb (by kernel_rfl) (Dq (G0 s10) (G6 O O) O (Dq (.dptr [E0 p.l,E1 p.open_,G0 p.x.Gd,G0 p.x.Slot.G4,G0 p.x.Slot.Tier,U8 p.x.Slot.Half]) (Ga G35 O O O) O (Dq (E0 p.l) (Gf Q2 O O O) O (Dq (Ei p.l.length) (Z4 (f:=Stowed.av) (xs:=p.l) Gx O O) O (Dq (BL (decide (s10 < (p.l.length:Int)))) (Hz O O O) O (Dq (BL (decide (s10 < (p.l.length:Int)))) (G6 O O) O (Do (.dptr [E0 p.l,E1 p.open_,G0 p.x.Gd,G0 p.x.Slot.G4,G0 p.x.Slot.Tier,U8 p.x.Slot.Half]) [] O .sct G (fun hc=>Ga G35 O O O) O (Do (E0 p.l) [10] O .sct ⟨Ua,G⟩ (fun hc=>Gf Q2 O O O) O (Do (G0 s10) [] O .sct G (fun hc=>G6 O O) O (Do (Ed y13) [11,12] O .sct ⟨Ua,Ua,G⟩ (fun hc=>(match Qq (H2 hc hy13) with | ⟨_,hm_,hy_⟩=>H4 (f:=Stowed.av) (xs:=p.l) (y:=y13) O O O Gx hy_ hm_)) O (Do (Ed y13) [13] O .sct ⟨Ua,G⟩ (fun hc=>Ga Hv O O O) O (Do (G0 y13.Gd) [14] O .sct ⟨Ua,G⟩ (fun hc=>Gf Gc O O O) O (Do (Ed p.x) [] O .sct G (fun hc=>Ga G10 O O O) O ?_)))))))))))))
 refine Do (Ed p.x) [16] O .sct ⟨Ua,G⟩ (fun hc=>Ga Hv O O O) O (Do (G0 p.x.Gd) [17] O .sct ⟨Ua,G⟩ (fun hc=>Gf Gc O O O) O (Do (BL (decide (y13.Gd < p.x.Gd))) [15,18] O .sct ⟨Ua,Ua,G⟩ (fun hc=>Hz O O O) O (Dq (BL ((decide (s10 < (p.l.length:Int)))&&(decide (y13.Gd < p.x.Gd)))) (Qa O O O O) O (Dnil (hK12 (JCc O h (fun h hb=>?_) (fun h hb=>?_)))))))
 ·
  refine Gn (hK11 (Gq (G3 (Ru (G0 s10) O ?_))))
  obtain⟨v14,hv14,h⟩:=J7 h
  refine JLh (G0 v14) (Hu hv14 O O O) O (Ru (G0 v14) O (G7 (e10 _ _ m10 v14 (app1 hn10 h) (by omega) ⟨⟨.same rfl,.same rfl,G⟩,G,rfl⟩)))
 ·
  refine Hr (hK3 (Jr fun hK15=>(JLh (.dptr [E0 p.l,E1 p.open_,G0 p.x.Gd,G0 p.x.Slot.G4,G0 p.x.Slot.Tier,U8 p.x.Slot.Half]) (Ga G35 O O O) O (JLh (E0 p.l) (Gf Q2 O O O) O (Ru (G0 s10) O (JLh (Ed p.x) (Ga G10 O O O) O (JLh (.agg (Stowed.cs p.x)) (Gi Q0 O O O) O ?_)))))))
  obtain⟨r16,hr16,h⟩:=Ge h
  refine JLh (E0 r16) (Gt O (H19.down p.l s10 p.x r16 hr16) Jf3 ⟨O,O,O,O,O,O,G⟩) O (Ru (E0 r16) O (G7 (hK15 (Gr (fin1 (fun r:(List Stowed)=>(E0 r:AV)) h)))))

def G0e (F:Nat) (p:Hj):Option Bool:=
 bnd (Rb F p) fun r3=>
 bnd (G3a p.s p.boxes r3 p.x.Slot.G4) fun r4=>
 some (!r4)
theorem H4f (F:Nat) (p:Hj) (r:Bool) (h:G0e F p=some r):Pure Ej 68 [.agg (Hj.cs p)] (·=BL r):=by
 unfold G0e at h
 refine H1 [.tmp 2] Tryz.func68 O O (Jr fun hK1=>(JLh (.ptr 1135 0) (Jm (cs:=(Hj.cs p)) 1135 O O O O O) O (Ru (BL false) O (G7 (hK1 ?_)))))
 refine Gp [(1,Eh p)] [] 1135 rfl rfl rfl G rfl (by exact⟨.ptr,G⟩) (Js fun hK2=>?_)
 obtain⟨r3,hr3,h⟩:=Ge h
 obtain⟨r4,hr4,h⟩:=Ge h
 refine JC_d0 Qb (by kernel_rfl) (Dq (Eh p) (Ga Gd1 O O O) O (Dq (.agg (Gw.cs p.s)) (Gi Hq O O O) O (Dq (.dptr [E2 p.boxes,E0 p.l,E1 p.open_,G0 p.x.Gd,G0 p.x.Slot.G4,G0 p.x.Slot.Tier,U8 p.x.Slot.Half]) (Ga J53 O O O) O (Dq (E2 p.boxes) (Gf Jc7 O O O) O (Dq (.agg (Hj.cs p)) (Gi G92 O O O) O (Dq (E0 r3) (Gt (args:=[.agg (Hj.cs p)]) O (G71 F p r3 hr3) J5e ⟨O,O,G⟩) O (Dq (Ed p.x) (Ga G10 O O O) O (Dq (.dptr ((Stowed.cs p.x).drop 1)) (Ga J1 O O O) O (Dq (.dptr ((Stowed.cs p.x).drop 1)) (Ga Jf O O O) O (Dq (G0 p.x.Slot.G4) (Gf Gc O O O) O (Dq (BL r4) (Gt (args:=[.agg (Gw.cs p.s),E2 p.boxes,E0 r3,G0 p.x.Slot.G4]) O (H9b p.s p.boxes r3 p.x.Slot.G4 r4 hr4) J63 ⟨O,O,O,O,O,O,O,O,G⟩) O (Dq (BL (!r4)) (Rj (b:=r4) O O) O (Dq (BL (!r4)) (G8 O O) O (Dnil ?_))))))))))))))
 refine hK2 (Gr (fin1 BL h))
end
end Go.Proofs.YtkcdjcgifgdanaaGreat
