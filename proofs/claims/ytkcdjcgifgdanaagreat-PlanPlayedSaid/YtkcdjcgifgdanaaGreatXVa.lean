/-
 Models of functions of the program,and that they return what the models say.
-/
import Derived.Test.YtkcdjcgifgdanaaGreatSpecW
set_option linter.unnecessarySimpa false
set_option maxRecDepth 100000
set_option maxHeartbeats 1000000
set_option linter.unusedVariables false
set_option linter.unusedSimpArgs false
namespace Go.Proofs.YtkcdjcgifgdanaaGreat
open Go.RowKit
noncomputable section
structure Hi where
 Bay:Int
 Row:Int
 Tiers:Int
 Deck:Bool
 deriving DecidableEq,Inhabited
def Hi.cs (x:Hi):List AV:=[U8 x.Bay,U8 x.Row,U8 x.Tiers,BL x.Deck]
def Hi.av (x:Hi):AV:=.agg x.cs
abbrev Eb:=LS 4 Hi.av
structure Gd where
 ID:Int
 Number:ByteArray
 Size:Int
 High:Bool
 Kilos:Int
 Load:Int
 Discharge:Int
 Class:Int
 Reefer:Bool
 deriving DecidableEq,Inhabited
def Gd.cs (x:Gd):List AV:=[G0 x.ID,ST x.Number,U8 x.Size,BL x.High,G0 x.Kilos,G0 x.Load,G0 x.Discharge,U8 x.Class,BL x.Reefer]
def Gd.av (x:Gd):AV:=.agg x.cs
abbrev Ee (x:Gd):AV:=.dptr (Gd.cs x)
abbrev E2:=LS 9 Gd.av
structure Hd where
 G4:Int
 Kilos:Int
 Load:Int
 Stay:Int
 Small:Bool
 High:Bool
 deriving DecidableEq,Inhabited
def Hd.cs (x:Hd):List AV:=[U8 x.G4,U8 x.Kilos,U8 x.Load,U8 x.Stay,BL x.Small,BL x.High]
def Hd.av (x:Hd):AV:=.agg x.cs
abbrev Ea:=LS 6 Hd.av
namespace XVF
open XAF
open XCF
theorem tq_78 (a b:Slot):Hb5 Ej 4 78 [.int .i64 a.G4,.int .i64 a.Tier,.int .u8 a.Half] [.int .i64 b.G4,.int .i64 b.Tier,.int .u8 b.Half]=some (decide (a=b)):=by
 refine(show _=some ((a.G4==b.G4)&&((a.Tier==b.Tier)&&((a.Half==b.Half)&&true))) by kernel_rfl).trans (congrArg some ?_)
 rw [Bool.eq_iff_iff]
 simp only [Bool.and_eq_true,beq_iff_eq,decide_eq_true_eq,Bool.and_true]
 constructor
 ·intro h; obtain⟨_,_,_⟩:=a; obtain⟨_,_,_⟩:=b; simp_all
 ·intro h; subst h; simp
theorem Hq:Ga9 Ej 35 13=true:=by kernel_rfl
theorem Ys:Ga9 Ej 41 2=true:=by kernel_rfl
theorem Zc:Ga9 Ej 55 9=true:=by kernel_rfl
theorem tf_agg_61:Ga9 Ej 61 4=true:=by kernel_rfl
theorem tf_agg_70:Ga9 Ej 70 6=true:=by kernel_rfl
theorem Jp:Ga9 Ej 78 3=true:=by kernel_rfl
theorem Q0:Ga9 Ej 80 4=true:=by kernel_rfl
theorem H54:G0a Ej 78=true:=by kernel_rfl
theorem G91:J29 Ej 4=true:=by kernel_rfl
theorem Je0:Hf Ej 100=true:=by kernel_rfl
theorem Jdf:Hf Ej 101=true:=by kernel_rfl
theorem Jde:Hf Ej 102=true:=by kernel_rfl
theorem Jdd:Hf Ej 103=true:=by kernel_rfl
theorem Jdc:Hf Ej 104=true:=by kernel_rfl
theorem Ha9:Hf Ej 11=true:=by kernel_rfl
theorem Q21:Hf Ej 13=true:=by kernel_rfl
theorem Q20:Hf Ej 14=true:=by kernel_rfl
theorem J6c:Hf Ej 15=true:=by kernel_rfl
theorem Q1f:Hf Ej 16=true:=by kernel_rfl
theorem G90:Hf Ej 17=true:=by kernel_rfl
theorem Q1e:Hf Ej 18=true:=by kernel_rfl
theorem J6b:Hf Ej 19=true:=by kernel_rfl
theorem Q1d:Hf Ej 20=true:=by kernel_rfl
theorem Q1c:Hf Ej 21=true:=by kernel_rfl
theorem Q1b:Hf Ej 22=true:=by kernel_rfl
theorem J6a:Hf Ej 23=true:=by kernel_rfl
theorem Q1a:Hf Ej 24=true:=by kernel_rfl
theorem G69:Hf Ej 25=true:=by kernel_rfl
theorem J69:Hf Ej 36=true:=by kernel_rfl
theorem Q11:Hf Ej 37=true:=by kernel_rfl
theorem J68:Hf Ej 38=true:=by kernel_rfl
theorem Q10:Hf Ej 39=true:=by kernel_rfl
theorem J67:Hf Ej 41=true:=by kernel_rfl
theorem Ha8:Hf Ej 42=true:=by kernel_rfl
theorem J66:Hf Ej 43=true:=by kernel_rfl
theorem J65:Hf Ej 44=true:=by kernel_rfl
theorem J64:Hf Ej 45=true:=by kernel_rfl
theorem J63:Hf Ej 46=true:=by kernel_rfl
theorem Q0e:Hf Ej 47=true:=by kernel_rfl
theorem Q0d:Hf Ej 48=true:=by kernel_rfl
theorem H2c:Hf Ej 49=true:=by kernel_rfl
theorem Q0c:Hf Ej 50=true:=by kernel_rfl
theorem H2b:Hf Ej 51=true:=by kernel_rfl
theorem J62:Hf Ej 52=true:=by kernel_rfl
theorem J61:Hf Ej 53=true:=by kernel_rfl
theorem Ha7:Hf Ej 54=true:=by kernel_rfl
theorem Q0b:Hf Ej 55=true:=by kernel_rfl
theorem Hf4:Hf Ej 6=true:=by kernel_rfl
theorem Q01:Hf Ej 70=true:=by kernel_rfl
theorem Q00:Hf Ej 72=true:=by kernel_rfl
theorem Jff:Hf Ej 73=true:=by kernel_rfl
theorem Jfe:Hf Ej 74=true:=by kernel_rfl
theorem Ha6:Hf Ej 76=true:=by kernel_rfl
theorem Jfd:Hf Ej 77=true:=by kernel_rfl
theorem J5b:Hf Ej 78=true:=by kernel_rfl
theorem J5a:Hf Ej 79=true:=by kernel_rfl
theorem Jfc:Hf Ej 80=true:=by kernel_rfl
theorem Jfb:Hf Ej 81=true:=by kernel_rfl
theorem J59:Hf Ej 82=true:=by kernel_rfl
theorem Jf2:Hf Ej 99=true:=by kernel_rfl
theorem J57:Y3 Ej 47 1 24=true:=by kernel_rfl
theorem Jf1:Y3 Ej 50 1 24=true:=by kernel_rfl
theorem J56:Y3 Ej 55 9 64=true:=by kernel_rfl
theorem Jf0:Y3 Ej 63 12 112=true:=by kernel_rfl
theorem J55:Y3 Ej 67 2 32=true:=by kernel_rfl
theorem J54:Y3 Ej 78 3 24=true:=by kernel_rfl
theorem Hf1:Ej.eqGuardType Ej.depth 78=false:=by kernel_rfl
theorem Jq:Jk Ej 55 0 0=true:=by kernel_rfl
theorem Z7:Jk Ej 55 2 2=true:=by kernel_rfl
theorem H07:Jk Ej 55 3 3=true:=by kernel_rfl
theorem G00:Jk Ej 55 5 5=true:=by kernel_rfl
theorem G27:Jk Ej 55 6 6=true:=by kernel_rfl
theorem Jba:Jk Ej 61 0 0=true:=by kernel_rfl
theorem Jb9:Jk Ej 61 1 1=true:=by kernel_rfl
theorem Jb8:Jk Ej 61 2 2=true:=by kernel_rfl
theorem Jb7:Jk Ej 61 3 3=true:=by kernel_rfl
theorem Jb3:Jk Ej 70 0 0=true:=by kernel_rfl
theorem H96:Jk Ej 70 1 1=true:=by kernel_rfl
theorem H95:Jk Ej 70 2 2=true:=by kernel_rfl
theorem Jb2:Jk Ej 70 3 3=true:=by kernel_rfl
theorem Jb1:Jk Ej 70 4 4=true:=by kernel_rfl
theorem H94:Jk Ej 70 5 5=true:=by kernel_rfl
theorem Jf:Jk Ej 78 0 0=true:=by kernel_rfl
theorem Ry:Jk Ej 78 1 1=true:=by kernel_rfl
theorem Yh:Jk Ej 78 2 2=true:=by kernel_rfl
theorem Hv:Jk Ej 80 0 0=true:=by kernel_rfl
theorem J1:Jk Ej 80 1 1=true:=by kernel_rfl
theorem G22:Hdc Ej 3 .i64=true:=by kernel_rfl
theorem G52:Hdc Ej 5 .u8=true:=by kernel_rfl
theorem J4e:G78 Ej 102 3 78=true:=by kernel_rfl
theorem J4d:G78 Ej 117 3 152=true:=by kernel_rfl
theorem Jbc:G78 Ej 68 3 3=true:=by kernel_rfl
theorem Jaf:placesOf Ej 152=some []:=by kernel_rfl
theorem H28:placesOf Ej 41=some [(0,1),(1,1)]:=by kernel_rfl
theorem G42:placesOf Ej 55=some [(0,1),(1,1),(2,1),(3,1),(4,1),(5,1),(6,1),(7,1),(8,1)]:=by kernel_rfl
theorem G1c:placesOf Ej 63=some [(0,1),(1,1),(2,1),(3,1),(4,1),(5,1),(6,1),(7,1),(8,1),(9,1),(10,1),(11,1)]:=by kernel_rfl
theorem H27:placesOf Ej 67=some [(0,1),(1,1)]:=by kernel_rfl
theorem H26:placesOf Ej 80=some [(0,1),(1,3)]:=by kernel_rfl
theorem H06:R7 Ej 104=true:=by kernel_rfl
theorem Jae:R7 Ej 117=true:=by kernel_rfl
theorem G9c:R7 Ej 118=true:=by kernel_rfl
theorem Gc1:R7 Ej 39=true:=by kernel_rfl
theorem Jd8:R3 Ej 104 1=true:=by kernel_rfl
theorem J14:R3 Ej 117 1=true:=by kernel_rfl
theorem J13:R3 Ej 118 1=true:=by kernel_rfl
theorem Jd5:R3 Ej 152 0=true:=by kernel_rfl
theorem J4c:R3 Ej 25 1=true:=by kernel_rfl
theorem J4b:R3 Ej 26 1=true:=by kernel_rfl
theorem Gcb:R3 Ej 3 1=true:=by kernel_rfl
theorem H25:R3 Ej 35 13=true:=by kernel_rfl
theorem Ha4:R3 Ej 38 1=true:=by kernel_rfl
theorem Jef:R3 Ej 39 1=true:=by kernel_rfl
theorem tf_size_4:R3 Ej 4 1=true:=by kernel_rfl
theorem G67:R3 Ej 41 2=true:=by kernel_rfl
theorem J4a:R3 Ej 47 1=true:=by kernel_rfl
theorem tf_size_5:R3 Ej 5 1=true:=by kernel_rfl
theorem Jee:R3 Ej 50 1=true:=by kernel_rfl
theorem Yv:R3 Ej 55 9=true:=by kernel_rfl
theorem Jed:R3 Ej 61 4=true:=by kernel_rfl
theorem Jec:R3 Ej 70 6=true:=by kernel_rfl
theorem Ye:R3 Ej 78 3=true:=by kernel_rfl
theorem Qv:R3 Ej 80 4=true:=by kernel_rfl
theorem Y1:sliceB Ej 104 78 3=true:=by kernel_rfl
theorem Gf5:sliceB Ej 22 61 4=true:=by kernel_rfl
theorem Gf4:sliceB Ej 24 70 6=true:=by kernel_rfl
theorem Jw:sliceB Ej 37 55 9=true:=by kernel_rfl
theorem Z6:sliceB Ej 39 50 1=true:=by kernel_rfl
theorem Jd4:(Ej.info? 104).bind (fun i=>i.zero.map Value.cells)=some (List.toArray [.slice none 0 0]):=by kernel_rfl
theorem Jd1:(Ej.info? 152).bind (fun i=>i.zero.map Value.cells)=some (List.toArray []):=by kernel_rfl
theorem tf_zero_3:(Ej.info? 3).bind (fun i=>i.zero.map Value.cells)=some (List.toArray [.int .i64 0]):=by kernel_rfl
theorem H24:(Ej.info? 35).bind (fun i=>i.zero.map Value.cells)=some (List.toArray [.slice none 0 0,.slice none 0 0,.int .i64 0,.int .i64 0,.int .i64 0,.int .i64 0,.slice none 0 0,.slice none 0 0,.slice none 0 0,.int .i64 0,.int .i64 0,.int .i64 0,.int .i64 0]):=by kernel_rfl
theorem Jeb:(Ej.info? 39).bind (fun i=>i.zero.map Value.cells)=some (List.toArray [.slice none 0 0]):=by kernel_rfl
theorem G8f:(Ej.info? 41).bind (fun i=>i.zero.map Value.cells)=some (List.toArray [.slice none 0 0,.slice none 0 0]):=by kernel_rfl
theorem Jea:(Ej.info? 47).bind (fun i=>i.zero.map Value.cells)=some (List.toArray [.slice none 0 0]):=by kernel_rfl
theorem J48:(Ej.info? 50).bind (fun i=>i.zero.map Value.cells)=some (List.toArray [.slice none 0 0]):=by kernel_rfl
theorem G66:(Ej.info? 55).bind (fun i=>i.zero.map Value.cells)=some (List.toArray [.int .i64 0,.string ByteArray.empty,.int .u8 0,.bool false,.int .i64 0,.int .i64 0,.int .i64 0,.int .u8 0,.bool false]):=by kernel_rfl
theorem G65:(Ej.info? 63).bind (fun i=>i.zero.map Value.cells)=some (List.toArray [.int .i64 0,.int .i64 0,.bool false,.int .i64 0,.int .i64 0,.int .i64 0,.int .i64 0,.int .i64 0,.slice none 0 0,.int .i64 0,.int .i64 0,.int .i64 0]):=by kernel_rfl
theorem Ha3:(Ej.info? 67).bind (fun i=>i.zero.map Value.cells)=some (List.toArray [.int .i64 0,.slice none 0 0]):=by kernel_rfl
theorem H23:(Ej.info? 80).bind (fun i=>i.zero.map Value.cells)=some (List.toArray [.int .i64 0,.int .i64 0,.int .i64 0,.int .u8 0]):=by kernel_rfl
theorem Hc7:R6 Ej 117 1=true:=by kernel_rfl
theorem Hc6:R6 Ej 118 1=true:=by kernel_rfl
theorem Jc5:R6 Ej 152 0=true:=by kernel_rfl
theorem Y0:R6 Ej 3 1=true:=by kernel_rfl
theorem J10:R6 Ej 38 1=true:=by kernel_rfl
theorem H51:R6 Ej 41 2=true:=by kernel_rfl
theorem G34:R6 Ej 47 1=true:=by kernel_rfl
theorem Jd0:R6 Ej 50 1=true:=by kernel_rfl
theorem Rn:R6 Ej 55 9=true:=by kernel_rfl
theorem Jcf:R6 Ej 61 4=true:=by kernel_rfl
theorem Jce:R6 Ej 70 6=true:=by kernel_rfl
theorem Rm:R6 Ej 78 3=true:=by kernel_rfl
theorem Je:R6 Ej 80 4=true:=by kernel_rfl
theorem tf_zv_152:(Ej.info? 152).bind (·.zero)=some (.agg #[]):=by kernel_rfl
theorem tf_zv_78:(Ej.info? 78).bind (·.zero)=some (.agg #[.int .i64 0,.int .i64 0,.int .u8 0]):=by kernel_rfl
theorem tk_3:Gf1 Ej 3 (fun n:Int=>Value.int .i64 n):=Gf1.of_int (by kernel_rfl)
end XVF
open XAF
open XCF
open XVF

def Ga1 (c:G4) (p1:Int) (p2:Int) (p3:Bool):Option Bool:=
 some (((decide (c.Bay=p1))&&(decide (c.Row=p2)))&&(c.Deck==p3))
theorem J36 (c:G4) (p1:Int) (p2:Int) (p3:Bool) (r:Bool) (h:Ga1 c p1 p2 p3=some r):Pure Ej 37 [.agg (G4.cs c),.dptr [G0 p1],.dptr [G0 p2],.dptr [BL p3]] (·=BL r):=by
 unfold Ga1 at h
 refine H1 [.tmp 5] Tryz.func37 O O (Jr fun hK1=>(JLh (.ptr 1095 0) (Jm (cs:=(G4.cs c)) 1095 O O O O O) O (Ru (BL false) O (G7 (hK1 (Gp [(1,.dptr [G0 p1]),(2,.dptr [G0 p2]),(3,.dptr [BL p3]),(4,Ef c)] [] 1095 rfl rfl rfl G rfl (by repeat' (first | exact .ptr | constructor)) ?_))))))
 refine Jr fun hK2=>(JLh (Ef c) (Ga Zz O O O) O (JLh (G0 c.Bay) (Gf Gc O O O) O (JLh (G0 p1) (Gf Gc O O O) O (JLh (BL (decide (c.Bay=p1))) (Qh O O O) O (Ru (BL (decide (c.Bay=p1))) O (JLo (.dptr [G0 c.Row,BL c.Deck,G0 c.Tiers,G0 c.Height,G0 c.Kilos20,G0 c.Kilos40,G0 c.Lash,E1 c.Plugs,G0 c.X,G0 c.Y,G0 c.Z]) [] O .sct G (fun hc=>Ga Zy O O O) O (JLo (G0 c.Row) [11] O .sct ⟨Ua,G⟩ (fun hc=>Gf Gc O O O) O (JLo (G0 p2) [] O .sct G (fun hc=>Gf Gc O O O) O (JLo (BL (decide (c.Row=p2))) [12,13] O .sct ⟨Ua,Ua,G⟩ (fun hc=>Qh O O O) O (JLh (BL ((decide (c.Bay=p1))&&(decide (c.Row=p2)))) (Qa O O O O) O (Ru (BL ((decide (c.Bay=p1))&&(decide (c.Row=p2)))) O (JLo (.dptr [BL c.Deck,G0 c.Tiers,G0 c.Height,G0 c.Kilos20,G0 c.Kilos40,G0 c.Lash,E1 c.Plugs,G0 c.X,G0 c.Y,G0 c.Z]) [] O .sct G (fun hc=>Ga Rf O O O) O (JLo (BL c.Deck) [17] O .sct ⟨Ua,G⟩ (fun hc=>Gf Q9 O O O) O ?_)))))))))))))
 refine JLo (BL p3) [] O .sct G (fun hc=>Gf Q9 O O O) O (JLo (BL (c.Deck==p3)) [18,19] O .sct ⟨Ua,Ua,G⟩ (fun hc=>Hed G91 O O O) O (JLh (BL (((decide (c.Bay=p1))&&(decide (c.Row=p2)))&&(c.Deck==p3))) (Qa O O O O) O (Ru (BL (((decide (c.Bay=p1))&&(decide (c.Row=p2)))&&(c.Deck==p3))) O (G7 (hK2 (Gr (fin1 BL h)))))))

def Qe (l:List G4) (wanted:G4→Option Bool):Option (List Int):=
 each (fun y21 i21 (s21:(List Int)) nx21=>
  jp (fun kj24=>
   bnd (wanted y21) fun r27=>
   bif r27 then
   (need (decide ((s21.length+[(i21:Int)].length)*8≤140737488355328∧s21.length+[(i21:Int)].length≤maxLen)) <|
    kj24 (s21++[(i21:Int)]))
   else
   (kj24 s21)) fun(j24:(List Int))=>
  nx21 j24)
 (fun(s21:(List Int))=>
  some s21) l 0 []
theorem G4f (l:List G4) (wanted:G4→Option Bool) (wanted_f:FuncId) (wanted_c:List AV) (wanted_B:Hf Ej wanted_f=true) (wanted_d:Ya (fun _=>false) wanted_c=true) (wanted_w:∀ a0 q,wanted a0=some q→Pure Ej wanted_f ([.agg (G4.cs a0)]++wanted_c) (·=BL q)) (r:(List Int)) (h:Qe l wanted=some r):Pure Ej 36 [E3 l,.fn wanted_f wanted_c] (·=E1 r):=by
 unfold Qe at h
 refine H1 [.tmp 4] Tryz.func36 O O (Jr fun hK1=>(JLh (E1 ([]:List Int)) (Ht 1 O O) O (G7 (hK1 (Jr fun hK2=>(JLh (OW 1093 1 G0 ([]:List Int)) (G61 1093 3 1 O O O) O (G7 (hK2 (Js fun hK3=>Jr fun hK4=>(Ru (E3 l) O (JLl J5 O O O fun hm9=>(Ru (G0 0) O (G7 (hK4 (Gq ?_)))))))))))))))
 obtain⟨b21,kx21,hb21,hkx21,h⟩:=Hx h
 refine Hg (fun i21 (s21:(List Int))=>each b21 kx21 (List.drop i21 l) i21 s21=some r) (fun i21 s21=>[(1,.fn wanted_f wanted_c),(5,OW 1093 1 G0 s21),(8,E3 l),(9,Ei l.length),(10,Ei i21)]) (fun i21 s21=>[(1093,.spare 3 1 s21.length s21.length)]) (fun i21=>l.length - i21) 0 [] h ⟨⟨.same (Jc _ _ wanted_d),.same O,.same O,.same O,.same O,G⟩,⟨⟨_,O,.same⟩,G⟩,O⟩ ?_
 clear h
 intro i21 s21 hi21 K21 e21
 refine Jr fun hK22=>(JLh (BL (decide ((i21:Int) < (l.length:Int)))) (Hz O O O) O (G7 (hK22 (Js fun hK23=>Gk O (fun hb=>?_) (fun hb=>?_)))))
 ·
  have hk21:=Jb hb
  obtain⟨y21,nx21,hy21,hn21,h⟩:=Ho hi21 hk21
  replace h:=Rw hb21 h
  refine Gn (hK23 ?_)
  obtain⟨kj24,hkj24,h⟩:=Rg h
  refine Qg (fun j24:(List Int)=>kj24 j24=some r) (fun j24=>[(1,.fn wanted_f wanted_c),(5,OW 1093 1 G0 j24),(8,E3 l),(9,Ei l.length),(10,Ei i21)]) (fun j24=>[(1093,.spare 3 1 j24.length j24.length)]) (fun Kj24 ej24=>?_) ?_
  ·
   refine Gq (Jr fun hK25=>(Ru (Ei i21) O (JLh (Ef y21) (H4 (f:=G4.av) (xs:=l) (y:=y21) O O O J5 hy21 O) O (JLh (.agg (G4.cs y21)) (Gi G44 O O O) O (JLh (.ptr 1094 0) (Hn 1094 12 G17 O O) O (Ru (Ei i21) O (Hs (u:=.junk) (Ha (u:=.agg (G4.cs y21)) (ds:=(G4.cs y21)) Gcf O O O O O O O O) (G7 (hK25 ?_)))))))))
   refine Gp [(1,.fn wanted_f wanted_c),(5,OW 1093 1 G0 s21),(6,Ei i21),(7,Ef y21),(8,E3 l),(9,Ei l.length),(10,Ei i21)] [(1093,.spare 3 1 s21.length s21.length)] 1094 rfl rfl rfl ⟨⟨_,rfl,.same⟩,G⟩ rfl (by exact⟨.conv (.same (Jc _ _ wanted_d)),.conv (.same rfl),.conv (.same rfl),.ptr,.conv (.same rfl),.conv (.same rfl),.conv (.same rfl),G⟩) (Jr fun hK26=>(Ru (.fn wanted_f wanted_c) O (JLh (.agg (G4.cs y21)) (Gi G44 O O O) O ?_)))
   obtain⟨r27,hr27,h⟩:=Ge h
   refine JLh (BL r27) (G15 (args:=[.agg (G4.cs y21)]) (caps:=wanted_c) O O (wanted_w y21 _ hr27) wanted_B ⟨O,O,G⟩ wanted_d) O (G7 (hK26 (JCc O h (fun h hb=>?_) (fun h hb=>?_))))
   ·
    refine G3 (Ru (OW 1093 1 G0 s21) O (Ru (Ei i21) O (JLh (E1 [(i21:Int)]) (H9 (xs:=[Ei i21]) O ⟨O,O,G⟩ Gv Y0 O O O O) O ?_)))
    obtain⟨ha28,h⟩:=Jj h
    refine JLh (OW 1093 1 G0 (s21++[(i21:Int)])) (Rc (f:=G0) (xs:=s21) (ys:=[(i21:Int)]) O O O O Gv G43 ha28 (fun _=>O) (.inl O) O) O (Ru (OW 1093 1 G0 (s21++[(i21:Int)])) O (G7 (ej24 _ _ (s21++[(i21:Int)]) h ⟨⟨.same (Jc _ _ wanted_d),.same O,.same O,.same O,.same O,G⟩,⟨⟨_,O,.same⟩,G⟩,O⟩)))
   ·
    refine Gn (ej24 _ _ s21 h ⟨⟨.same (Jc _ _ wanted_d),.same O,.same O,.same O,.same O,G⟩,⟨⟨_,O,.same⟩,G⟩,O⟩)
  ·intro j24 h
   replace h:=app1 hkj24 h
   refine G3 (JLh (G0 ((i21+1:Nat):Int)) (Hu (He hk21 hm9) O O O) O (Ru (G0 ((i21+1:Nat):Int)) O (G7 (e21 _ _ (i21+1) j24 (app1 hn21 h) (by omega) ⟨⟨.same (Jc _ _ wanted_d),.same rfl,.same rfl,.same rfl,.same rfl,G⟩,⟨⟨_,rfl,.same⟩,G⟩,rfl⟩))))
 ·
  have h:=app1 hkx21 (Hp hi21 (H7 hb))
  refine Hr (hK3 (Jr fun hK29=>(Ru (OW 1093 1 G0 s21) O (Ru (OW 1093 1 G0 s21) O (G7 (hK29 (Gr (fin1l (fun r:(List Int)=>(E1 r:AV)) h))))))))

def Gb2 (s:Gw) (bay:Int) (row:Int) (deck:Bool):Option (Int×Bool):=
 bnd (Qe s.Columns (fun z0=>Ga1 z0 bay row deck)) fun r3=>
 bif decide ((r3.length:Int)=0) then
 (some (0,false))
 else
 (Rx r3 0 fun y8=>
  some (y8,true))
theorem M_ship_Find_w (s:Gw) (bay:Int) (row:Int) (deck:Bool) (r:Int×Bool) (h:Gb2 s bay row deck=some r):Pure Ej 13 [.agg (Gw.cs s),G0 bay,G0 row,BL deck] (·=.tup [G0 r.1,BL r.2]):=by
 unfold Gb2 at h
 refine H1 [.tmp 8,.tmp 9] Tryz.func13 O O (Jr fun hK1=>(JLh (.ptr 1033 0) (Jm (cs:=(Gw.cs s)) 1033 O O O O O) O (JLh (.ptr 1034 0) (Jm (cs:=[G0 bay]) 1034 O O O O O) O (JLh (.ptr 1035 0) (Jm (cs:=[G0 row]) 1035 O O O O O) O (JLh (.ptr 1036 0) (Jm (cs:=[BL deck]) 1036 O O O O O) O (Ru (G0 0) O (Ru (BL false) O (G7 (hK1 ?_)))))))))
 refine Gp [(4,Ec s),(5,.ptr 1034 0),(6,.ptr 1035 0),(7,.ptr 1036 0)] [(1034,.box 3 [G0 bay]),(1035,.box 3 [G0 row]),(1036,.box 4 [BL deck])] 1033 rfl rfl rfl ⟨⟨_,rfl,.boxEq rfl rfl⟩,⟨_,rfl,.boxEq rfl rfl⟩,⟨_,rfl,.boxEq rfl rfl⟩,G⟩ rfl (by repeat' (first | exact .ptr | constructor)) ?_
 refine Gp [(4,Ec s),(5,.dptr [G0 bay]),(6,.ptr 1035 0),(7,.ptr 1036 0)] [(1035,.box 3 [G0 row]),(1036,.box 4 [BL deck])] 1034 rfl rfl rfl ⟨⟨_,rfl,.boxEq rfl rfl⟩,⟨_,rfl,.boxEq rfl rfl⟩,G⟩ rfl (by repeat' (first | exact .ptr | constructor)) ?_
 refine Gp [(4,Ec s),(5,.dptr [G0 bay]),(6,.dptr [G0 row]),(7,.ptr 1036 0)] [(1036,.box 4 [BL deck])] 1035 rfl rfl rfl ⟨⟨_,rfl,.boxEq rfl rfl⟩,G⟩ rfl (by repeat' (first | exact .ptr | constructor)) ?_
 refine Gp [(4,Ec s),(5,.dptr [G0 bay]),(6,.dptr [G0 row]),(7,.dptr [BL deck])] [] 1036 rfl rfl rfl G rfl (by repeat' (first | exact .ptr | constructor)) ?_
 refine Jr fun hK2=>(JLh (Ec s) (Ga J2 O O O) O (JLh (E3 s.Columns) (Gf Ja O O O) O (JLh (.fn 37 [.dptr [G0 bay],.dptr [G0 row],.dptr [BL deck]]) (Rk (cs:=[.dptr [G0 bay],.dptr [G0 row],.dptr [BL deck]]) O O) O ?_)))
 obtain⟨r3,hr3,h⟩:=Ge h
 refine JLh (E1 r3) (Gt O (G4f s.Columns (fun z0=>Ga1 z0 bay row deck) 37 [.dptr [G0 bay],.dptr [G0 row],.dptr [BL deck]] Q11 O (fun z0 q hq=>J36 z0 bay row deck q hq) r3 hr3) J69 ⟨O,O,O,O,G⟩) O (Ru (E1 r3) O (G7 (hK2 (Js fun hK4=>Jr fun hK5=>(Ru (E1 r3) O (JLl Gv O O O fun hm16=>(JLh (BL (decide ((r3.length:Int)=0))) (Qh O O O) O (G7 (hK5 (JCc O h (fun h hb=>?_) (fun h hb=>?_)))))))))))
 ·
  refine Jr fun hK6=>(Ru (G0 0) O (Ru (BL false) O (G7 (hK6 (Gr (⟨[G0 0,BL false],[],G,O,⟨⟨_,O,.conv (.same O)⟩,⟨_,O,.conv (.same O)⟩,G⟩,O,congrArg (fun r:Int×Bool=>(.tup [G0 r.1,BL r.2]:AV)) (Option.some.inj h)⟩))))))
 ·
  refine Gn (hK4 (Jr fun hK7=>(Ru (E1 r3) O ?_)))
  obtain⟨m9,y8,hm9,hy8,h⟩:=Yd h
  refine JLh (.dptr [G0 y8]) (H4 (f:=G0) (xs:=r3) (y:=y8) O O O Gv hy8 hm9) O (JLh (G0 y8) (Gf Gc O O O) O (Ru (G0 y8) O (Ru (BL true) O (G7 (hK7 (Gr (⟨[G0 y8,BL true],[],G,O,⟨⟨_,O,.conv (.same O)⟩,⟨_,O,.conv (.same O)⟩,G⟩,O,congrArg (fun r:Int×Bool=>(.tup [G0 r.1,BL r.2]:AV)) (Option.some.inj h)⟩)))))))

def Y5 (l:List Hi) (covers:Int):Option Gw:=
 bnd (H5a (min (l.length:Int) 12) l.length) fun m5=>
 each (fun y106 i106 (s106:(List G4)×(List G9)×Int×Int×Int×Int×(List Row)×(List Frame)×(List Gj)×Int×Int×Int×Int) nx106=>
  jp (fun kj109=>
   G0d (y106.Bay) fun v112=>
   bnd (H46 v112 5) fun v113=>
   G0d (y106.Row) fun v114=>
   bnd (H46 v114 5) fun v115=>
   G0d (y106.Tiers) fun v116=>
   bnd (H46 v116 4) fun v117=>
   G0d (2+v117) fun v118=>
   G0d (13000*v113) fun v120=>
   G0d (v120 - 26000) fun v121=>
   G0d (2500*v115) fun v122=>
   G0d (v122 - 5000) fun v123=>
   jp (fun kj124=>
    bif y106.Deck then
    (kj124 20000)
    else
    (kj124 2000)) fun(j124:Int)=>
   bnd (Gb2 (Gw.mk s106.1 s106.2.1 (Light.mk s106.2.2.1 s106.2.2.2.1 s106.2.2.2.2.1 s106.2.2.2.2.2.1) s106.2.2.2.2.2.2.1 s106.2.2.2.2.2.2.2.1 s106.2.2.2.2.2.2.2.2.1 (G2.mk s106.2.2.2.2.2.2.2.2.2.1 s106.2.2.2.2.2.2.2.2.2.2.1 s106.2.2.2.2.2.2.2.2.2.2.2.1 s106.2.2.2.2.2.2.2.2.2.2.2.2)) v113 v115 y106.Deck) fun r127=>
   bif (!r127.2) then
   (need (decide ((s106.1.length+[(G4.mk v113 v115 y106.Deck v118 0 500000000 500000000 0 [] v121 v123 j124)].length)*112≤140737488355328∧s106.1.length+[(G4.mk v113 v115 y106.Deck v118 0 500000000 500000000 0 [] v121 v123 j124)].length≤maxLen)) <|
    kj109 (s106.1++[(G4.mk v113 v115 y106.Deck v118 0 500000000 500000000 0 [] v121 v123 j124)]))
   else
   (kj109 s106.1)) fun(j109:(List G4))=>
  nx106 (j109,s106.2.1,s106.2.2.1,s106.2.2.2.1,s106.2.2.2.2.1,s106.2.2.2.2.2.1,s106.2.2.2.2.2.2.1,s106.2.2.2.2.2.2.2.1,s106.2.2.2.2.2.2.2.2.1,s106.2.2.2.2.2.2.2.2.2.1,s106.2.2.2.2.2.2.2.2.2.2.1,s106.2.2.2.2.2.2.2.2.2.2.2.1,s106.2.2.2.2.2.2.2.2.2.2.2.2))
 (fun(s106:(List G4)×(List G9)×Int×Int×Int×Int×(List Row)×(List Frame)×(List Gj)×Int×Int×Int×Int)=>
  jp (fun kj130=>
   bif decide ((s106.1.length:Int)=0) then
   (kj130 ([(G4.mk 0 0 false 3 0 500000000 500000000 0 [] 0 0 2000)]))
   else
   (kj130 s106.1)) fun(j130:(List G4))=>
  need (decide (5≤9223372036854775807)) <|
  upto (fun i200 (s200:(List G4)×(List G9)×Int×Int×Int×Int×(List Row)×(List Frame)×(List Gj)×Int×Int×Int×Int) nx200=>
   jp (fun kj203=>
    jp (fun kj204=>
     G0d (2*(i200:Int)) fun v206=>
     bnd (H5a v206 4294967295) fun m207=>
     bif decide ((band .u32 (Hf9 .u32 covers m207) 1)=1) then
     (need (decide ((s200.2.1.length+[(G9.mk (i200:Int) [0,1])].length)*32≤140737488355328∧s200.2.1.length+[(G9.mk (i200:Int) [0,1])].length≤maxLen)) <|
      kj204 (s200.2.1++[(G9.mk (i200:Int) [0,1])]))
     else
     (kj204 s200.2.1)) fun(j204:(List G9))=>
    G0d (2*(i200:Int)) fun v210=>
    G0d (v210+1) fun v211=>
    bnd (H5a v211 4294967295) fun m212=>
    bif decide ((band .u32 (Hf9 .u32 covers m212) 1)=1) then
    (need (decide ((j204.length+[(G9.mk (i200:Int) [2,3,4])].length)*32≤140737488355328∧j204.length+[(G9.mk (i200:Int) [2,3,4])].length≤maxLen)) <|
     kj203 (j204++[(G9.mk (i200:Int) [2,3,4])]))
    else
    (kj203 j204)) fun(j203:(List G9))=>
   nx200 (s200.1,j203,s200.2.2.1,s200.2.2.2.1,s200.2.2.2.2.1,s200.2.2.2.2.2.1,s200.2.2.2.2.2.2.1,s200.2.2.2.2.2.2.2.1,s200.2.2.2.2.2.2.2.2.1,s200.2.2.2.2.2.2.2.2.2.1,s200.2.2.2.2.2.2.2.2.2.2.1,s200.2.2.2.2.2.2.2.2.2.2.2.1,s200.2.2.2.2.2.2.2.2.2.2.2.2))
  (fun(s200:(List G4)×(List G9)×Int×Int×Int×Int×(List Row)×(List Frame)×(List Gj)×Int×Int×Int×Int)=>
   some (Gw.mk s200.1 s200.2.1 (Light.mk s200.2.2.1 s200.2.2.2.1 s200.2.2.2.2.1 s200.2.2.2.2.2.1) s200.2.2.2.2.2.2.1 s200.2.2.2.2.2.2.2.1 s200.2.2.2.2.2.2.2.2.1 (G2.mk s200.2.2.2.2.2.2.2.2.2.1 s200.2.2.2.2.2.2.2.2.2.2.1 s200.2.2.2.2.2.2.2.2.2.2.2.1 s200.2.2.2.2.2.2.2.2.2.2.2.2))) (5:Int).toNat 0 (j130,s106.2.1,s106.2.2.1,s106.2.2.2.1,s106.2.2.2.2.1,s106.2.2.2.2.2.1,s106.2.2.2.2.2.2.1,s106.2.2.2.2.2.2.2.1,s106.2.2.2.2.2.2.2.2.1,s106.2.2.2.2.2.2.2.2.2.1,s106.2.2.2.2.2.2.2.2.2.2.1,s106.2.2.2.2.2.2.2.2.2.2.2.1,s106.2.2.2.2.2.2.2.2.2.2.2.2)) (l.take m5) 0 ([],[],0,0,0,0,[],[],[],0,0,0,0)
theorem H0c (l:List Hi) (covers:Int) (r:Gw) (h:Y5 l covers=some r):Pure Ej 4 [Eb l,.sc (.int .u32 covers)] (·=.agg (Gw.cs r)):=by
 unfold Y5 at h
 refine H1 [.cell 4 35] Tryz.func4 O O (Jr fun hK1=>(JLh (.ptr 1004 0) (G16 1004 [E3 ([]:List G4),E4 ([]:List G9),G0 0,G0 0,G0 0,G0 0,E5 ([]:List Row),E6 ([]:List Frame),E7 ([]:List Gj),G0 0,G0 0,G0 0,G0 0] [.slice none 0 0,.slice none 0 0,.int .i64 0,.int .i64 0,.int .i64 0,.int .i64 0,.slice none 0 0,.slice none 0 0,.slice none 0 0,.int .i64 0,.int .i64 0,.int .i64 0,.int .i64 0] H24 ⟨.inr ⟨_,O,O⟩,.inr ⟨_,O,O⟩,.inl O,.inl O,.inl O,.inl O,.inr ⟨_,O,O⟩,.inr ⟨_,O,O⟩,.inr ⟨_,O,O⟩,.inl O,.inl O,.inl O,.inl O,G⟩ O O) O (G7 (hK1 ?_))))
 refine Jr fun hK2=>(JLh (.ptr 1005 0) (G16 1005 [.sc (.slice none 0 0),.sc (.slice none 0 0),G0 0,G0 0,G0 0,G0 0,E5 ([]:List Row),E6 ([]:List Frame),E7 ([]:List Gj),G0 0,G0 0,G0 0,G0 0] [.slice none 0 0,.slice none 0 0,.int .i64 0,.int .i64 0,.int .i64 0,.int .i64 0,.slice none 0 0,.slice none 0 0,.slice none 0 0,.int .i64 0,.int .i64 0,.int .i64 0,.int .i64 0] H24 ⟨.inl O,.inl O,.inl O,.inl O,.inl O,.inl O,.inr ⟨_,O,O⟩,.inr ⟨_,O,O⟩,.inr ⟨_,O,O⟩,.inl O,.inl O,.inl O,.inl O,G⟩ O O) O (Ge8 1005 0 1008 63 12 O O O (cs':=[OW 1008 12 G4.av ([]:List G4),.sc (.slice none 0 0),G0 0,G0 0,G0 0,G0 0,E5 ([]:List Row),E6 ([]:List Frame),E7 ([]:List Gj),G0 0,G0 0,G0 0,G0 0]) O ?_))
 refine Ge8 1005 1 1009 67 2 O O O (cs':=[OW 1008 12 G4.av ([]:List G4),OW 1009 2 G9.av ([]:List G9),G0 0,G0 0,G0 0,G0 0,E5 ([]:List Row),E6 ([]:List Frame),E7 ([]:List Gj),G0 0,G0 0,G0 0,G0 0]) O (G7 (hK2 (Js fun hK3=>Jr fun hK4=>(Ru (Eb l) O (Ru (Eb l) O (JLl Gf5 O O O fun hm14=>(JLh (G0 (min (l.length:Int) 12)) (A_min O O O) O ?_)))))))
 obtain⟨m5,hm5,h⟩:=Ge h
 refine JLh (Eb (l.take m5)) (Hbc (f:=Hi.av) (xs:=l) O O O Gf5 (G94 hm5)) O (JLl Gf5 O O O fun hm17=>(Ru (G0 0) O (G7 (hK4 (Gq ?_)))))
 obtain⟨b106,kx106,hb106,hkx106,h⟩:=Hx h
 refine Hg (fun i106 (s106:(List G4)×(List G9)×Int×Int×Int×Int×(List Row)×(List Frame)×(List Gj)×Int×Int×Int×Int)=>each b106 kx106 (List.drop i106 (l.take m5)) i106 s106=some r) (fun i106 s106=>[(1,.sc (.int .u32 covers)),(4,.ptr 1004 0),(5,.ptr 1005 0),(16,Eb (l.take m5)),(17,G0 ((l.take m5).length:Int)),(18,Ei i106)]) (fun i106 s106=>[(1008,.spare 63 12 s106.1.length s106.1.length),(1009,.spare 67 2 s106.2.1.length s106.2.1.length),(1004,.box 35 [E3 ([]:List G4),E4 ([]:List G9),G0 0,G0 0,G0 0,G0 0,E5 ([]:List Row),E6 ([]:List Frame),E7 ([]:List Gj),G0 0,G0 0,G0 0,G0 0]),(1005,.box 35 [OW 1008 12 G4.av s106.1,OW 1009 2 G9.av s106.2.1,G0 s106.2.2.1,G0 s106.2.2.2.1,G0 s106.2.2.2.2.1,G0 s106.2.2.2.2.2.1,E5 s106.2.2.2.2.2.2.1,E6 s106.2.2.2.2.2.2.2.1,E7 s106.2.2.2.2.2.2.2.2.1,G0 s106.2.2.2.2.2.2.2.2.2.1,G0 s106.2.2.2.2.2.2.2.2.2.2.1,G0 s106.2.2.2.2.2.2.2.2.2.2.2.1,G0 s106.2.2.2.2.2.2.2.2.2.2.2.2])]) (fun i106=>(l.take m5).length - i106) 0 ([],[],0,0,0,0,[],[],[],0,0,0,0) h ⟨(by repeat' constructor),⟨⟨_,rfl,.same⟩,⟨_,rfl,.same⟩,⟨_,rfl,.boxL rfl (by repeat' constructor)⟩,⟨_,rfl,.boxL rfl (by repeat' constructor)⟩,G⟩,rfl⟩ ?_
 clear h
 intro i106 s106 hi106 K106 e106
 refine Jr fun hK107=>(JLh (BL (decide ((i106:Int) < ((l.take m5).length:Int)))) (Hz O O O) O (G7 (hK107 (Js fun hK108=>Gk O (fun hb=>?_) (fun hb=>?_)))))
 ·
  have hk106:=Jb hb
  obtain⟨y106,nx106,hy106,hn106,h⟩:=Ho hi106 hk106
  replace h:=Rw hb106 h
  refine Gn (hK108 ?_)
  obtain⟨kj109,hkj109,h⟩:=Rg h
  refine Qg (fun j109:(List G4)=>kj109 j109=some r) (fun j109=>[(1,.sc (.int .u32 covers)),(4,.ptr 1004 0),(5,.ptr 1005 0),(16,Eb (l.take m5)),(17,G0 ((l.take m5).length:Int)),(18,Ei i106)]) (fun j109=>[(1008,.spare 63 12 j109.length j109.length),(1009,.spare 67 2 s106.2.1.length s106.2.1.length),(1004,.box 35 [E3 ([]:List G4),E4 ([]:List G9),G0 0,G0 0,G0 0,G0 0,E5 ([]:List Row),E6 ([]:List Frame),E7 ([]:List Gj),G0 0,G0 0,G0 0,G0 0]),(1005,.box 35 [OW 1008 12 G4.av j109,OW 1009 2 G9.av s106.2.1,G0 s106.2.2.1,G0 s106.2.2.2.1,G0 s106.2.2.2.2.1,G0 s106.2.2.2.2.2.1,E5 s106.2.2.2.2.2.2.1,E6 s106.2.2.2.2.2.2.2.1,E7 s106.2.2.2.2.2.2.2.2.1,G0 s106.2.2.2.2.2.2.2.2.2.1,G0 s106.2.2.2.2.2.2.2.2.2.2.1,G0 s106.2.2.2.2.2.2.2.2.2.2.2.1,G0 s106.2.2.2.2.2.2.2.2.2.2.2.2])]) (fun Kj109 ej109=>?_) ?_
  ·
   refine Gq (Jr fun hK110=>(JLh (.dptr (Hi.cs y106)) (H4 (f:=Hi.av) (xs:=(l.take m5)) (y:=y106) O O O Gf5 hy106 O) O (JLh (.agg (Hi.cs y106)) (Gi tf_agg_61 O O O) O (JLh (.ptr 1006 0) (Hn 1006 4 Jcf O O) O (Hs (u:=.junk) (Ha (u:=.agg (Hi.cs y106)) (ds:=[U8 y106.Bay,U8 y106.Row,U8 y106.Tiers,BL y106.Deck]) Jed O O O O O O O O) (G7 (hK110 ?_)))))))
   refine Gp [(1,.sc (.int .u32 covers)),(4,.ptr 1004 0),(5,.ptr 1005 0),(7,.dptr (Hi.cs y106)),(16,Eb (l.take m5)),(17,G0 ((l.take m5).length:Int)),(18,Ei i106)] [(1008,.spare 63 12 s106.1.length s106.1.length),(1009,.spare 67 2 s106.2.1.length s106.2.1.length),(1004,.box 35 [E3 ([]:List G4),E4 ([]:List G9),G0 0,G0 0,G0 0,G0 0,E5 ([]:List Row),E6 ([]:List Frame),E7 ([]:List Gj),G0 0,G0 0,G0 0,G0 0]),(1005,.box 35 [OW 1008 12 G4.av s106.1,OW 1009 2 G9.av s106.2.1,G0 s106.2.2.1,G0 s106.2.2.2.1,G0 s106.2.2.2.2.1,G0 s106.2.2.2.2.2.1,E5 s106.2.2.2.2.2.2.1,E6 s106.2.2.2.2.2.2.2.1,E7 s106.2.2.2.2.2.2.2.2.1,G0 s106.2.2.2.2.2.2.2.2.2.1,G0 s106.2.2.2.2.2.2.2.2.2.2.1,G0 s106.2.2.2.2.2.2.2.2.2.2.2.1,G0 s106.2.2.2.2.2.2.2.2.2.2.2.2])] 1006 rfl rfl rfl ⟨⟨_,rfl,.same⟩,⟨_,rfl,.same⟩,⟨_,rfl,.boxEq rfl rfl⟩,⟨_,rfl,.boxEq rfl rfl⟩,G⟩ rfl (by repeat' (first | exact .ptr | constructor)) ?_
   refine Jr fun hK111=>(JLh (.dptr (Hi.cs y106)) (Ga Jba O O O) O (JLh (U8 y106.Bay) (Gf J6 O O O) O ?_))
   obtain⟨v112,hv112,h⟩:=J7 h
   refine JLh (G0 v112) (Gbe G22 G52 hv112 O O) O ?_
   obtain⟨v113,hv113,h⟩:=Ge h
   refine JLh (G0 v113) (Hec (R8 hv113).1 (R8 hv113).2 O O O) O (JLh (.dptr ((Hi.cs y106).drop 1)) (Ga Jb9 O O O) O (JLh (U8 y106.Row) (Gf J6 O O O) O ?_))
   obtain⟨v114,hv114,h⟩:=J7 h
   refine JLh (G0 v114) (Gbe G22 G52 hv114 O O) O ?_
   obtain⟨v115,hv115,h⟩:=Ge h
   refine JLh (G0 v115) (Hec (R8 hv115).1 (R8 hv115).2 O O O) O (JLh (.dptr [BL y106.Deck]) (Ga Jb7 O O O) O (JLh (BL y106.Deck) (Gf Q9 O O O) O (JLh (.dptr [U8 y106.Tiers,BL y106.Deck]) (Ga Jb8 O O O) O (JLh (U8 y106.Tiers) (Gf J6 O O O) O ?_))))
   obtain⟨v116,hv116,h⟩:=J7 h
   refine JLh (G0 v116) (Gbe G22 G52 hv116 O O) O ?_
   obtain⟨v117,hv117,h⟩:=Ge h
   refine JLh (G0 v117) (Hec (R8 hv117).1 (R8 hv117).2 O O O) O ?_
   obtain⟨v118,hv118,h⟩:=J7 h
   refine JLh (G0 v118) (Hu hv118 O O O) O (JLh (.agg [G0 v113,G0 v115,BL y106.Deck,G0 v118,G0 0,G0 500000000,G0 500000000,G0 0,E1 ([]:List Int),G0 0,G0 0,G0 0]) (J8 (cs:=[G0 v113,G0 v115,BL y106.Deck,G0 v118,G0 0,G0 500000000,G0 500000000,G0 0,E1 ([]:List Int),G0 0,G0 0,G0 0]) [(0,1),(1,1),(2,1),(3,1),(4,1),(5,1),(6,1),(7,1),(8,1),(9,1),(10,1),(11,1)] [G0 0,G0 0,BL false,G0 0,G0 0,G0 0,G0 0,G0 0,E1 ([]:List Int),G0 0,G0 0,G0 0] [.int .i64 0,.int .i64 0,.bool false,.int .i64 0,.int .i64 0,.int .i64 0,.int .i64 0,.int .i64 0,.slice none 0 0,.int .i64 0,.int .i64 0,.int .i64 0] G1c G65 ⟨.inl O,.inl O,.inl O,.inl O,.inl O,.inl O,.inl O,.inl O,.inr ⟨_,O,O⟩,.inl O,.inl O,.inl O,G⟩ O O) O (JLh (.ptr 1007 0) (Hn 1007 12 G17 O O) O (Hs (u:=.junk) (Ha (u:=.agg [G0 v113,G0 v115,BL y106.Deck,G0 v118,G0 0,G0 500000000,G0 500000000,G0 0,E1 ([]:List Int),G0 0,G0 0,G0 0]) (ds:=[G0 v113,G0 v115,BL y106.Deck,G0 v118,G0 0,G0 500000000,G0 500000000,G0 0,E1 ([]:List Int),G0 0,G0 0,G0 0]) Gcf O O O O O O O O) (G7 (hK111 ?_)))))
   refine Jr fun hK119=>(JLh (.ptr 1007 0) (Qf Zz O O) O (JLh (G0 v113) (Qj Gc O O O O) O ?_))
   obtain⟨v120,hv120,h⟩:=J7 h
   refine JLh (G0 v120) (J2f hv120 O O O) O ?_
   obtain⟨v121,hv121,h⟩:=J7 h
   refine JLh (G0 v121) (Gea hv121 O O O) O (JLh (.ptr 1007 1) (Qf Zy O O) O (JLh (G0 v115) (Qj Gc O O O O) O ?_))
   obtain⟨v122,hv122,h⟩:=J7 h
   refine JLh (G0 v122) (J2f hv122 O O O) O ?_
   obtain⟨v123,hv123,h⟩:=J7 h
   refine JLh (G0 v123) (Gea hv123 O O O) O (JLh (.ptr 1007 9) (Qf H97 O O) O (Hs (u:=.junk) (Ha (u:=G0 v121) (ds:=[G0 v113,G0 v115,BL y106.Deck,G0 v118,G0 0,G0 500000000,G0 500000000,G0 0,E1 ([]:List Int),G0 v121,G0 0,G0 0]) Gcb O O O O O O O O) (JLh (.ptr 1007 10) (Qf H52 O O) O (Hs (u:=.junk) (Ha (u:=G0 v123) (ds:=[G0 v113,G0 v115,BL y106.Deck,G0 v118,G0 0,G0 500000000,G0 500000000,G0 0,E1 ([]:List Int),G0 v121,G0 v123,G0 0]) Gcb O O O O O O O O) (JLh (.ptr 1007 11) (Qf Gd0 O O) O (Hs (u:=.junk) (Ha (u:=G0 2000) (ds:=[G0 v113,G0 v115,BL y106.Deck,G0 v118,G0 0,G0 500000000,G0 500000000,G0 0,E1 ([]:List Int),G0 v121,G0 v123,G0 2000]) Gcb O O O O O O O O) (G7 (hK119 ?_))))))))
   obtain⟨kj124,hkj124,h⟩:=Rg h
   refine Qg (fun j124:Int=>kj124 j124=some r) (fun j124=>[(1,.sc (.int .u32 covers)),(4,.ptr 1004 0),(5,.ptr 1005 0),(8,.ptr 1007 0),(16,Eb (l.take m5)),(17,G0 ((l.take m5).length:Int)),(18,Ei i106)]) (fun j124=>[(1008,.spare 63 12 s106.1.length s106.1.length),(1009,.spare 67 2 s106.2.1.length s106.2.1.length),(1004,.box 35 [E3 ([]:List G4),E4 ([]:List G9),G0 0,G0 0,G0 0,G0 0,E5 ([]:List Row),E6 ([]:List Frame),E7 ([]:List Gj),G0 0,G0 0,G0 0,G0 0]),(1005,.box 35 [OW 1008 12 G4.av s106.1,OW 1009 2 G9.av s106.2.1,G0 s106.2.2.1,G0 s106.2.2.2.1,G0 s106.2.2.2.2.1,G0 s106.2.2.2.2.2.1,E5 s106.2.2.2.2.2.2.1,E6 s106.2.2.2.2.2.2.2.1,E7 s106.2.2.2.2.2.2.2.2.1,G0 s106.2.2.2.2.2.2.2.2.2.1,G0 s106.2.2.2.2.2.2.2.2.2.2.1,G0 s106.2.2.2.2.2.2.2.2.2.2.2.1,G0 s106.2.2.2.2.2.2.2.2.2.2.2.2]),(1007,.box 63 [G0 v113,G0 v115,BL y106.Deck,G0 v118,G0 0,G0 500000000,G0 500000000,G0 0,E1 ([]:List Int),G0 v121,G0 v123,G0 j124])]) (fun Kj124 ej124=>?_) ?_
   ·
    refine Jr fun hK125=>(JLh (.ptr 1007 2) (Qf Rf O O) O (JLh (BL y106.Deck) (Qj Q9 O O O O) O (G7 (hK125 (JCc O h (fun h hb=>?_) (fun h hb=>?_))))))
    ·
     refine G3 (JLh (.ptr 1007 11) (Qf Gd0 O O) O (Hs (u:=.junk) (Ha (u:=G0 20000) (ds:=[G0 v113,G0 v115,BL y106.Deck,G0 v118,G0 0,G0 500000000,G0 500000000,G0 0,E1 ([]:List Int),G0 v121,G0 v123,G0 20000]) Gcb O O O O O O O O) (G7 (ej124 _ _ 20000 h ⟨(by repeat' constructor),⟨⟨_,rfl,.same⟩,⟨_,rfl,.same⟩,⟨_,rfl,.boxL rfl (by repeat' constructor)⟩,⟨_,rfl,.boxL rfl (by repeat' constructor)⟩,⟨_,rfl,.boxL rfl (by repeat' constructor)⟩,G⟩,rfl⟩))))
    ·
     refine Gn (ej124 _ _ 2000 h ⟨(by repeat' constructor),⟨⟨_,rfl,.same⟩,⟨_,rfl,.same⟩,⟨_,rfl,.boxL rfl (by repeat' constructor)⟩,⟨_,rfl,.boxL rfl (by repeat' constructor)⟩,⟨_,rfl,.boxL rfl (by repeat' constructor)⟩,G⟩,rfl⟩)
   ·intro j124 h
    replace h:=app1 hkj124 h
    refine Jr fun hK126=>(JLh (.agg [OW 1008 12 G4.av s106.1,OW 1009 2 G9.av s106.2.1,G0 s106.2.2.1,G0 s106.2.2.2.1,G0 s106.2.2.2.2.1,G0 s106.2.2.2.2.2.1,E5 s106.2.2.2.2.2.2.1,E6 s106.2.2.2.2.2.2.2.1,E7 s106.2.2.2.2.2.2.2.2.1,G0 s106.2.2.2.2.2.2.2.2.2.1,G0 s106.2.2.2.2.2.2.2.2.2.2.1,G0 s106.2.2.2.2.2.2.2.2.2.2.2.1,G0 s106.2.2.2.2.2.2.2.2.2.2.2.2]) (Hbe Hq O O O O) O (JLh (.ptr 1007 0) (Qf Zz O O) O (JLh (G0 v113) (Qj Gc O O O O) O (JLh (.ptr 1007 1) (Qf Zy O O) O (JLh (G0 v115) (Qj Gc O O O O) O (JLh (.ptr 1007 2) (Qf Rf O O) O (JLh (BL y106.Deck) (Qj Q9 O O O O) O ?_)))))))
    obtain⟨r127,hr127,h⟩:=Ge h
    refine JLh (.tup [G0 r127.1,BL r127.2]) (Gt O (M_ship_Find_w (Gw.mk s106.1 s106.2.1 (Light.mk s106.2.2.1 s106.2.2.2.1 s106.2.2.2.2.1 s106.2.2.2.2.2.1) s106.2.2.2.2.2.2.1 s106.2.2.2.2.2.2.2.1 s106.2.2.2.2.2.2.2.2.1 (G2.mk s106.2.2.2.2.2.2.2.2.2.1 s106.2.2.2.2.2.2.2.2.2.2.1 s106.2.2.2.2.2.2.2.2.2.2.2.1 s106.2.2.2.2.2.2.2.2.2.2.2.2)) v113 v115 y106.Deck r127 hr127) Q21 ⟨O,O,O,O,O,O,O,O,G⟩) O (Ru (.tup [G0 r127.1,BL r127.2]) O (JLh (G0 r127.1) (H6 O O O) O (JLh (BL r127.2) (H6 O O O) O (Ru (G0 r127.1) O (Ru (BL r127.2) O (G7 (hK126 ?_)))))))
    refine Gp [(1,.sc (.int .u32 covers)),(4,.ptr 1004 0),(5,.ptr 1005 0),(8,.dptr [G0 v113,G0 v115,BL y106.Deck,G0 v118,G0 0,G0 500000000,G0 500000000,G0 0,E1 ([]:List Int),G0 v121,G0 v123,G0 j124]),(10,BL r127.2),(16,Eb (l.take m5)),(17,G0 ((l.take m5).length:Int)),(18,Ei i106)] [(1008,.spare 63 12 s106.1.length s106.1.length),(1009,.spare 67 2 s106.2.1.length s106.2.1.length),(1004,.box 35 [E3 ([]:List G4),E4 ([]:List G9),G0 0,G0 0,G0 0,G0 0,E5 ([]:List Row),E6 ([]:List Frame),E7 ([]:List Gj),G0 0,G0 0,G0 0,G0 0]),(1005,.box 35 [OW 1008 12 G4.av s106.1,OW 1009 2 G9.av s106.2.1,G0 s106.2.2.1,G0 s106.2.2.2.1,G0 s106.2.2.2.2.1,G0 s106.2.2.2.2.2.1,E5 s106.2.2.2.2.2.2.1,E6 s106.2.2.2.2.2.2.2.1,E7 s106.2.2.2.2.2.2.2.2.1,G0 s106.2.2.2.2.2.2.2.2.2.1,G0 s106.2.2.2.2.2.2.2.2.2.2.1,G0 s106.2.2.2.2.2.2.2.2.2.2.2.1,G0 s106.2.2.2.2.2.2.2.2.2.2.2.2])] 1007 rfl rfl rfl ⟨⟨_,rfl,.same⟩,⟨_,rfl,.same⟩,⟨_,rfl,.boxEq rfl rfl⟩,⟨_,rfl,.boxEq rfl rfl⟩,G⟩ rfl (by repeat' (first | exact .ptr | constructor)) ?_
    refine Jr fun hK128=>(Ru (BL r127.2) O (JLh (BL (!r127.2)) (Rj (b:=r127.2) O O) O (G7 (hK128 (JCc O h (fun h hb=>?_) (fun h hb=>?_))))))
    ·
     refine G3 (JLh (.ptr 1005 0) (Qf J2 O O) O (JLh (OW 1008 12 G4.av s106.1) (Qj Ja O O O O) O (JLh (.agg [G0 v113,G0 v115,BL y106.Deck,G0 v118,G0 0,G0 500000000,G0 500000000,G0 0,E1 ([]:List Int),G0 v121,G0 v123,G0 j124]) (Gi G44 O O O) O (JLh (E3 ([(G4.mk v113 v115 y106.Deck v118 0 500000000 500000000 0 [] v121 v123 j124)])) (H9 (xs:=[.agg [G0 v113,G0 v115,BL y106.Deck,G0 v118,G0 0,G0 500000000,G0 500000000,G0 0,E1 ([]:List Int),G0 v121,G0 v123,G0 j124]]) O ⟨O,O,G⟩ J5 G17 O O O O) O ?_))))
     obtain⟨ha129,h⟩:=Jj h
     refine JLh (OW 1008 12 G4.av (s106.1++[(G4.mk v113 v115 y106.Deck v118 0 500000000 500000000 0 [] v121 v123 j124)])) (Rc (f:=G4.av) (xs:=s106.1) (ys:=[(G4.mk v113 v115 y106.Deck v118 0 500000000 500000000 0 [] v121 v123 j124)]) O O O O J5 Jf0 ha129 (fun _=>O) (.inl O) O) O (JLh (.ptr 1005 0) (Qf J2 O O) O (Hs (u:=.junk) (Ha (u:=OW 1008 12 G4.av (s106.1++[(G4.mk v113 v115 y106.Deck v118 0 500000000 500000000 0 [] v121 v123 j124)])) (ds:=[OW 1008 12 G4.av (s106.1++[(G4.mk v113 v115 y106.Deck v118 0 500000000 500000000 0 [] v121 v123 j124)]),OW 1009 2 G9.av s106.2.1,G0 s106.2.2.1,G0 s106.2.2.2.1,G0 s106.2.2.2.2.1,G0 s106.2.2.2.2.2.1,E5 s106.2.2.2.2.2.2.1,E6 s106.2.2.2.2.2.2.2.1,E7 s106.2.2.2.2.2.2.2.2.1,G0 s106.2.2.2.2.2.2.2.2.2.1,G0 s106.2.2.2.2.2.2.2.2.2.2.1,G0 s106.2.2.2.2.2.2.2.2.2.2.2.1,G0 s106.2.2.2.2.2.2.2.2.2.2.2.2]) J4c O O O O O O O O) (G7 ?_)))
     exact ej109 _ _ (s106.1++[(G4.mk v113 v115 y106.Deck v118 0 500000000 500000000 0 [] v121 v123 j124)]) h ⟨(by repeat' constructor),⟨⟨_,rfl,.same⟩,⟨_,rfl,.same⟩,⟨_,rfl,.boxL rfl (by repeat' constructor)⟩,⟨_,rfl,.boxL rfl (by repeat' constructor)⟩,G⟩,rfl⟩
    ·
     refine Gn (ej109 _ _ s106.1 h ⟨(by repeat' constructor),⟨⟨_,rfl,.same⟩,⟨_,rfl,.same⟩,⟨_,rfl,.boxL rfl (by repeat' constructor)⟩,⟨_,rfl,.boxL rfl (by repeat' constructor)⟩,G⟩,rfl⟩)
  ·intro j109 h
   replace h:=app1 hkj109 h
   refine G3 (JLh (G0 ((i106+1:Nat):Int)) (Hu (He hk106 hm17) O O O) O (Ru (G0 ((i106+1:Nat):Int)) O (G7 (e106 _ _ (i106+1) (j109,s106.2.1,s106.2.2.1,s106.2.2.2.1,s106.2.2.2.2.1,s106.2.2.2.2.2.1,s106.2.2.2.2.2.2.1,s106.2.2.2.2.2.2.2.1,s106.2.2.2.2.2.2.2.2.1,s106.2.2.2.2.2.2.2.2.2.1,s106.2.2.2.2.2.2.2.2.2.2.1,s106.2.2.2.2.2.2.2.2.2.2.2.1,s106.2.2.2.2.2.2.2.2.2.2.2.2) (app1 hn106 h) (by omega) ⟨(by repeat' constructor),⟨⟨_,rfl,.same⟩,⟨_,rfl,.same⟩,⟨_,rfl,.boxL rfl (by repeat' constructor)⟩,⟨_,rfl,.boxL rfl (by repeat' constructor)⟩,G⟩,rfl⟩))))
 ·
  have h:=app1 hkx106 (Hp hi106 (H7 hb))
  refine Hr (hK3 ?_)
  obtain⟨kj130,hkj130,h⟩:=Rg h
  refine Qg (fun j130:(List G4)=>kj130 j130=some r) (fun j130=>[(1,.sc (.int .u32 covers)),(4,.ptr 1004 0),(5,.ptr 1005 0)]) (fun j130=>[(1009,.spare 67 2 s106.2.1.length s106.2.1.length),(1004,.box 35 [E3 ([]:List G4),E4 ([]:List G9),G0 0,G0 0,G0 0,G0 0,E5 ([]:List Row),E6 ([]:List Frame),E7 ([]:List Gj),G0 0,G0 0,G0 0,G0 0]),(1005,.box 35 [E3 j130,OW 1009 2 G9.av s106.2.1,G0 s106.2.2.1,G0 s106.2.2.2.1,G0 s106.2.2.2.2.1,G0 s106.2.2.2.2.2.1,E5 s106.2.2.2.2.2.2.1,E6 s106.2.2.2.2.2.2.2.1,E7 s106.2.2.2.2.2.2.2.2.1,G0 s106.2.2.2.2.2.2.2.2.2.1,G0 s106.2.2.2.2.2.2.2.2.2.2.1,G0 s106.2.2.2.2.2.2.2.2.2.2.2.1,G0 s106.2.2.2.2.2.2.2.2.2.2.2.2])]) (fun Kj130 ej130=>?_) ?_
  ·
   refine Jr fun hK131=>(JLh (.ptr 1005 0) (Qf J2 O O) O (JLh (OW 1008 12 G4.av s106.1) (Qj Ja O O O O) O (JLl J5 O O O fun hm74=>(JLh (BL (decide ((s106.1.length:Int)=0))) (Qh O O O) O (G7 (hK131 (JCc O h (fun h hb=>?_) (fun h hb=>?_))))))))
   ·
    refine G3 ?_
    refine JLh (.agg [G0 0,G0 0,BL false,G0 3,G0 0,G0 500000000,G0 500000000,G0 0,E1 ([]:List Int),G0 0,G0 0,G0 2000]) (J8 (cs:=[G0 0,G0 0,BL false,G0 3,G0 0,G0 500000000,G0 500000000,G0 0,E1 ([]:List Int),G0 0,G0 0,G0 2000]) [(0,1),(1,1),(2,1),(3,1),(4,1),(5,1),(6,1),(7,1),(8,1),(9,1),(10,1),(11,1)] [G0 0,G0 0,BL false,G0 0,G0 0,G0 0,G0 0,G0 0,E1 ([]:List Int),G0 0,G0 0,G0 0] [.int .i64 0,.int .i64 0,.bool false,.int .i64 0,.int .i64 0,.int .i64 0,.int .i64 0,.int .i64 0,.slice none 0 0,.int .i64 0,.int .i64 0,.int .i64 0] G1c G65 ⟨.inl O,.inl O,.inl O,.inl O,.inl O,.inl O,.inl O,.inl O,.inr ⟨_,O,O⟩,.inl O,.inl O,.inl O,G⟩ O O) O (JLh (E3 ([(G4.mk 0 0 false 3 0 500000000 500000000 0 [] 0 0 2000)])) (H9 (xs:=[.agg [G0 0,G0 0,BL false,G0 3,G0 0,G0 500000000,G0 500000000,G0 0,E1 ([]:List Int),G0 0,G0 0,G0 2000]]) O ⟨O,O,G⟩ J5 G17 O O O O) O (JLh (.ptr 1005 0) (Qf J2 O O) O (Hs (u:=.junk) (Ha (u:=E3 ([(G4.mk 0 0 false 3 0 500000000 500000000 0 [] 0 0 2000)])) (ds:=[E3 ([(G4.mk 0 0 false 3 0 500000000 500000000 0 [] 0 0 2000)]),OW 1009 2 G9.av s106.2.1,G0 s106.2.2.1,G0 s106.2.2.2.1,G0 s106.2.2.2.2.1,G0 s106.2.2.2.2.2.1,E5 s106.2.2.2.2.2.2.1,E6 s106.2.2.2.2.2.2.2.1,E7 s106.2.2.2.2.2.2.2.2.1,G0 s106.2.2.2.2.2.2.2.2.2.1,G0 s106.2.2.2.2.2.2.2.2.2.2.1,G0 s106.2.2.2.2.2.2.2.2.2.2.2.1,G0 s106.2.2.2.2.2.2.2.2.2.2.2.2]) J4c O O O O O O O O) (G7 ?_))))
    exact ej130 _ _ ([(G4.mk 0 0 false 3 0 500000000 500000000 0 [] 0 0 2000)]) h ⟨⟨.same rfl,.same rfl,.same rfl,G⟩,⟨⟨_,rfl,.same⟩,⟨_,rfl,.boxL rfl (by repeat' constructor)⟩,⟨_,rfl,.boxL rfl (by repeat' constructor)⟩,G⟩,rfl⟩
   ·
    refine Gn (ej130 _ _ s106.1 h ⟨⟨.same rfl,.same rfl,.same rfl,G⟩,⟨⟨_,rfl,.same⟩,⟨_,rfl,.boxL rfl (by repeat' constructor)⟩,⟨_,rfl,.boxL rfl ⟨.list rfl,.same rfl,.same rfl,.same rfl,.same rfl,.same rfl,.same rfl,.same rfl,.same rfl,.same rfl,.same rfl,.same rfl,.same rfl,G⟩⟩,G⟩,rfl⟩)
  ·intro j130 h
   replace h:=app1 hkj130 h
   refine Js fun hK132=>Jr fun hK133=>(Ru (G0 0) O (G7 (hK133 (Gq ?_))))
   obtain⟨hx200,h⟩:=Jj h
   obtain⟨b200,kx200,hb200,hkx200,h⟩:=Gf3 h
   refine Hg (fun i200 (s200:(List G4)×(List G9)×Int×Int×Int×Int×(List Row)×(List Frame)×(List Gj)×Int×Int×Int×Int)=>upto b200 kx200 ((5:Int).toNat - i200) i200 s200=some r) (fun i200 s200=>[(1,.sc (.int .u32 covers)),(4,.ptr 1004 0),(5,.ptr 1005 0),(11,Ei i200)]) (fun i200 s200=>[(1009,.spare 67 2 s200.2.1.length s200.2.1.length),(1004,.box 35 [E3 ([]:List G4),E4 ([]:List G9),G0 0,G0 0,G0 0,G0 0,E5 ([]:List Row),E6 ([]:List Frame),E7 ([]:List Gj),G0 0,G0 0,G0 0,G0 0]),(1005,.box 35 [E3 s200.1,OW 1009 2 G9.av s200.2.1,G0 s200.2.2.1,G0 s200.2.2.2.1,G0 s200.2.2.2.2.1,G0 s200.2.2.2.2.2.1,E5 s200.2.2.2.2.2.2.1,E6 s200.2.2.2.2.2.2.2.1,E7 s200.2.2.2.2.2.2.2.2.1,G0 s200.2.2.2.2.2.2.2.2.2.1,G0 s200.2.2.2.2.2.2.2.2.2.2.1,G0 s200.2.2.2.2.2.2.2.2.2.2.2.1,G0 s200.2.2.2.2.2.2.2.2.2.2.2.2])]) (fun i200=>(5:Int).toNat - i200) 0 (j130,s106.2.1,s106.2.2.1,s106.2.2.2.1,s106.2.2.2.2.1,s106.2.2.2.2.2.1,s106.2.2.2.2.2.2.1,s106.2.2.2.2.2.2.2.1,s106.2.2.2.2.2.2.2.2.1,s106.2.2.2.2.2.2.2.2.2.1,s106.2.2.2.2.2.2.2.2.2.2.1,s106.2.2.2.2.2.2.2.2.2.2.2.1,s106.2.2.2.2.2.2.2.2.2.2.2.2) h ⟨(by repeat' constructor),⟨⟨_,rfl,.same⟩,⟨_,rfl,.boxL rfl (by repeat' constructor)⟩,⟨_,rfl,.boxL rfl (by repeat' constructor)⟩,G⟩,rfl⟩ ?_
   clear h
   intro i200 s200 hi200 K200 e200
   refine Js fun hK201=>Jr fun hK202=>(Ru (Ei i200) O (JLh (BL (decide ((i200:Int) < 5))) (Hz O O O) O (G7 (hK202 (Gk O (fun hb=>?_) (fun hb=>?_))))))
   ·
    have hk200:=Ga7 hb
    obtain⟨nx200,hn200,h⟩:=Ga3 hi200 hk200
    replace h:=app3 hb200 h
    refine Gn (hK201 ?_)
    obtain⟨kj203,hkj203,h⟩:=Rg h
    refine Qg (fun j203:(List G9)=>kj203 j203=some r) (fun j203=>[(1,.sc (.int .u32 covers)),(4,.ptr 1004 0),(5,.ptr 1005 0),(11,Ei i200)]) (fun j203=>[(1009,.spare 67 2 j203.length j203.length),(1004,.box 35 [E3 ([]:List G4),E4 ([]:List G9),G0 0,G0 0,G0 0,G0 0,E5 ([]:List Row),E6 ([]:List Frame),E7 ([]:List Gj),G0 0,G0 0,G0 0,G0 0]),(1005,.box 35 [E3 s200.1,OW 1009 2 G9.av j203,G0 s200.2.2.1,G0 s200.2.2.2.1,G0 s200.2.2.2.2.1,G0 s200.2.2.2.2.2.1,E5 s200.2.2.2.2.2.2.1,E6 s200.2.2.2.2.2.2.2.1,E7 s200.2.2.2.2.2.2.2.2.1,G0 s200.2.2.2.2.2.2.2.2.2.1,G0 s200.2.2.2.2.2.2.2.2.2.2.1,G0 s200.2.2.2.2.2.2.2.2.2.2.2.1,G0 s200.2.2.2.2.2.2.2.2.2.2.2.2])]) (fun Kj203 ej203=>?_) ?_
    ·
     refine Gq ?_
     obtain⟨kj204,hkj204,h⟩:=Rg h
     refine Qg (fun j204:(List G9)=>kj204 j204=some r) (fun j204=>[(1,.sc (.int .u32 covers)),(4,.ptr 1004 0),(5,.ptr 1005 0),(11,Ei i200)]) (fun j204=>[(1009,.spare 67 2 j204.length j204.length),(1004,.box 35 [E3 ([]:List G4),E4 ([]:List G9),G0 0,G0 0,G0 0,G0 0,E5 ([]:List Row),E6 ([]:List Frame),E7 ([]:List Gj),G0 0,G0 0,G0 0,G0 0]),(1005,.box 35 [E3 s200.1,OW 1009 2 G9.av j204,G0 s200.2.2.1,G0 s200.2.2.2.1,G0 s200.2.2.2.2.1,G0 s200.2.2.2.2.2.1,E5 s200.2.2.2.2.2.2.1,E6 s200.2.2.2.2.2.2.2.1,E7 s200.2.2.2.2.2.2.2.2.1,G0 s200.2.2.2.2.2.2.2.2.2.1,G0 s200.2.2.2.2.2.2.2.2.2.2.1,G0 s200.2.2.2.2.2.2.2.2.2.2.2.1,G0 s200.2.2.2.2.2.2.2.2.2.2.2.2])]) (fun Kj204 ej204=>?_) ?_
     ·
      refine Jr fun hK205=>(Ru (.sc (.int .u32 covers)) O (Ru (Ei i200) O ?_))
      obtain⟨v206,hv206,h⟩:=J7 h
      refine JLh (G0 v206) (J2f hv206 O O O) O ?_
      obtain⟨m207,hm207,h⟩:=Ge h
      refine JLh (.sc (.int .u32 (Hf9 .u32 covers m207))) (Q29 (s:=m207) (G94 hm207).1 O O O) O (JLh (.sc (.int .u32 (band .u32 (Hf9 .u32 covers m207) 1))) (A_band O O O) O (JLh (BL (decide ((band .u32 (Hf9 .u32 covers m207) 1)=1))) (Qh O O O) O (G7 (hK205 (JCc O h (fun h hb=>?_) (fun h hb=>?_))))))
      ·
       refine G3 (JLh (.ptr 1005 1) (Qf Q5 O O) O (JLh (OW 1009 2 G9.av s200.2.1) (Qj Qo O O O O) O (Ru (Ei i200) O (JLh (E1 [0,1]) (H9 (xs:=[G0 0,G0 1]) O ⟨O,O,O,O,G⟩ Gv Y0 O O O O) O (JLh (.agg [Ei i200,E1 [0,1]]) (J8 (cs:=[Ei i200,E1 [0,1]]) [(0,1),(1,1)] [G0 0,E1 ([]:List Int)] [.int .i64 0,.slice none 0 0] H27 Ha3 ⟨.inl O,.inr ⟨_,O,O⟩,G⟩ O O) O (JLh (E4 ([(G9.mk (i200:Int) [0,1])])) (H9 (xs:=[.agg [Ei i200,E1 [0,1]]]) O ⟨O,O,G⟩ Q8 Ga5 O O O O) O ?_))))))
       obtain⟨ha208,h⟩:=Jj h
       refine JLh (OW 1009 2 G9.av (s200.2.1++[(G9.mk (i200:Int) [0,1])])) (Rc (f:=G9.av) (xs:=s200.2.1) (ys:=[(G9.mk (i200:Int) [0,1])]) O O O O Q8 J55 ha208 (fun _=>O) (.inl O) O) O (JLh (.ptr 1005 1) (Qf Q5 O O) O (Hs (u:=.junk) (Ha (u:=OW 1009 2 G9.av (s200.2.1++[(G9.mk (i200:Int) [0,1])])) (ds:=[E3 s200.1,OW 1009 2 G9.av (s200.2.1++[(G9.mk (i200:Int) [0,1])]),G0 s200.2.2.1,G0 s200.2.2.2.1,G0 s200.2.2.2.2.1,G0 s200.2.2.2.2.2.1,E5 s200.2.2.2.2.2.2.1,E6 s200.2.2.2.2.2.2.2.1,E7 s200.2.2.2.2.2.2.2.2.1,G0 s200.2.2.2.2.2.2.2.2.2.1,G0 s200.2.2.2.2.2.2.2.2.2.2.1,G0 s200.2.2.2.2.2.2.2.2.2.2.2.1,G0 s200.2.2.2.2.2.2.2.2.2.2.2.2]) J4b O O O O O O O O) (G7 ?_)))
       exact ej204 _ _ (s200.2.1++[(G9.mk (i200:Int) [0,1])]) h ⟨(by repeat' constructor),⟨⟨_,rfl,.same⟩,⟨_,rfl,.boxL rfl (by repeat' constructor)⟩,⟨_,rfl,.boxL rfl (by repeat' constructor)⟩,G⟩,rfl⟩
      ·
       refine Gn (ej204 _ _ s200.2.1 h ⟨(by repeat' constructor),⟨⟨_,rfl,.same⟩,⟨_,rfl,.boxL rfl (by repeat' constructor)⟩,⟨_,rfl,.boxL rfl (by repeat' constructor)⟩,G⟩,rfl⟩)
     ·intro j204 h
      replace h:=app1 hkj204 h
      refine Jr fun hK209=>(Ru (.sc (.int .u32 covers)) O (Ru (Ei i200) O ?_))
      obtain⟨v210,hv210,h⟩:=J7 h
      refine JLh (G0 v210) (J2f hv210 O O O) O ?_
      obtain⟨v211,hv211,h⟩:=J7 h
      refine JLh (G0 v211) (Hu hv211 O O O) O ?_
      obtain⟨m212,hm212,h⟩:=Ge h
      refine JLh (.sc (.int .u32 (Hf9 .u32 covers m212))) (Q29 (s:=m212) (G94 hm212).1 O O O) O (JLh (.sc (.int .u32 (band .u32 (Hf9 .u32 covers m212) 1))) (A_band O O O) O (JLh (BL (decide ((band .u32 (Hf9 .u32 covers m212) 1)=1))) (Qh O O O) O (G7 (hK209 (JCc O h (fun h hb=>?_) (fun h hb=>?_))))))
      ·
       refine G3 (JLh (.ptr 1005 1) (Qf Q5 O O) O (JLh (OW 1009 2 G9.av j204) (Qj Qo O O O O) O (Ru (Ei i200) O (JLh (E1 [2,3,4]) (H9 (xs:=[G0 2,G0 3,G0 4]) O ⟨O,O,O,O,O,O,G⟩ Gv Y0 O O O O) O (JLh (.agg [Ei i200,E1 [2,3,4]]) (J8 (cs:=[Ei i200,E1 [2,3,4]]) [(0,1),(1,1)] [G0 0,E1 ([]:List Int)] [.int .i64 0,.slice none 0 0] H27 Ha3 ⟨.inl O,.inr ⟨_,O,O⟩,G⟩ O O) O (JLh (E4 ([(G9.mk (i200:Int) [2,3,4])])) (H9 (xs:=[.agg [Ei i200,E1 [2,3,4]]]) O ⟨O,O,G⟩ Q8 Ga5 O O O O) O ?_))))))
       obtain⟨ha213,h⟩:=Jj h
       refine JLh (OW 1009 2 G9.av (j204++[(G9.mk (i200:Int) [2,3,4])])) (Rc (f:=G9.av) (xs:=j204) (ys:=[(G9.mk (i200:Int) [2,3,4])]) O O O O Q8 J55 ha213 (fun _=>O) (.inl O) O) O (JLh (.ptr 1005 1) (Qf Q5 O O) O (Hs (u:=.junk) (Ha (u:=OW 1009 2 G9.av (j204++[(G9.mk (i200:Int) [2,3,4])])) (ds:=[E3 s200.1,OW 1009 2 G9.av (j204++[(G9.mk (i200:Int) [2,3,4])]),G0 s200.2.2.1,G0 s200.2.2.2.1,G0 s200.2.2.2.2.1,G0 s200.2.2.2.2.2.1,E5 s200.2.2.2.2.2.2.1,E6 s200.2.2.2.2.2.2.2.1,E7 s200.2.2.2.2.2.2.2.2.1,G0 s200.2.2.2.2.2.2.2.2.2.1,G0 s200.2.2.2.2.2.2.2.2.2.2.1,G0 s200.2.2.2.2.2.2.2.2.2.2.2.1,G0 s200.2.2.2.2.2.2.2.2.2.2.2.2]) J4b O O O O O O O O) (G7 ?_)))
       exact ej203 _ _ (j204++[(G9.mk (i200:Int) [2,3,4])]) h ⟨(by repeat' constructor),⟨⟨_,rfl,.same⟩,⟨_,rfl,.boxL rfl (by repeat' constructor)⟩,⟨_,rfl,.boxL rfl (by repeat' constructor)⟩,G⟩,rfl⟩
      ·
       refine Gn (ej203 _ _ j204 h ⟨(by repeat' constructor),⟨⟨_,rfl,.same⟩,⟨_,rfl,.boxL rfl (by repeat' constructor)⟩,⟨_,rfl,.boxL rfl (by repeat' constructor)⟩,G⟩,rfl⟩)
    ·intro j203 h
     replace h:=app1 hkj203 h
     refine G3 (Ru (Ei i200) O (JLh (G0 ((i200+1:Nat):Int)) (Hu (He hk200 (G6c hx200)) O O O) O (Ru (G0 ((i200+1:Nat):Int)) O (G7 (e200 _ _ (i200+1) (s200.1,j203,s200.2.2.1,s200.2.2.2.1,s200.2.2.2.2.1,s200.2.2.2.2.2.1,s200.2.2.2.2.2.2.1,s200.2.2.2.2.2.2.2.1,s200.2.2.2.2.2.2.2.2.1,s200.2.2.2.2.2.2.2.2.2.1,s200.2.2.2.2.2.2.2.2.2.2.1,s200.2.2.2.2.2.2.2.2.2.2.2.1,s200.2.2.2.2.2.2.2.2.2.2.2.2) (app1 hn200 h) (by omega) ⟨(by repeat' constructor),⟨⟨_,rfl,.same⟩,⟨_,rfl,.boxL rfl (by repeat' constructor)⟩,⟨_,rfl,.boxL rfl (by repeat' constructor)⟩,G⟩,rfl⟩)))))
   ·
    have h:=app1 hkx200 (Ga4 hi200 (Zq hb))
    refine Hr (hK132 ?_)
    refine Jr fun hK214=>(JLh (.agg [E3 s200.1,OW 1009 2 G9.av s200.2.1,G0 s200.2.2.1,G0 s200.2.2.2.1,G0 s200.2.2.2.2.1,G0 s200.2.2.2.2.2.1,E5 s200.2.2.2.2.2.2.1,E6 s200.2.2.2.2.2.2.2.1,E7 s200.2.2.2.2.2.2.2.2.1,G0 s200.2.2.2.2.2.2.2.2.2.1,G0 s200.2.2.2.2.2.2.2.2.2.2.1,G0 s200.2.2.2.2.2.2.2.2.2.2.2.1,G0 s200.2.2.2.2.2.2.2.2.2.2.2.2]) (Hbe Hq O O O O) O (Hs (u:=.junk) (Ha (u:=.agg [E3 s200.1,OW 1009 2 G9.av s200.2.1,G0 s200.2.2.1,G0 s200.2.2.2.1,G0 s200.2.2.2.2.1,G0 s200.2.2.2.2.2.1,E5 s200.2.2.2.2.2.2.1,E6 s200.2.2.2.2.2.2.2.1,E7 s200.2.2.2.2.2.2.2.2.1,G0 s200.2.2.2.2.2.2.2.2.2.1,G0 s200.2.2.2.2.2.2.2.2.2.2.1,G0 s200.2.2.2.2.2.2.2.2.2.2.2.1,G0 s200.2.2.2.2.2.2.2.2.2.2.2.2]) (ds:=[E3 s200.1,OW 1009 2 G9.av s200.2.1,G0 s200.2.2.1,G0 s200.2.2.2.1,G0 s200.2.2.2.2.1,G0 s200.2.2.2.2.2.1,E5 s200.2.2.2.2.2.2.1,E6 s200.2.2.2.2.2.2.2.1,E7 s200.2.2.2.2.2.2.2.2.1,G0 s200.2.2.2.2.2.2.2.2.2.1,G0 s200.2.2.2.2.2.2.2.2.2.2.1,G0 s200.2.2.2.2.2.2.2.2.2.2.2.1,G0 s200.2.2.2.2.2.2.2.2.2.2.2.2]) H25 O O O O O O O O) (G7 (hK214 ?_))))
    refine Gr (⟨[.agg [E3 s200.1,E4 s200.2.1,G0 s200.2.2.1,G0 s200.2.2.2.1,G0 s200.2.2.2.2.1,G0 s200.2.2.2.2.2.1,E5 s200.2.2.2.2.2.2.1,E6 s200.2.2.2.2.2.2.2.1,E7 s200.2.2.2.2.2.2.2.2.1,G0 s200.2.2.2.2.2.2.2.2.2.1,G0 s200.2.2.2.2.2.2.2.2.2.2.1,G0 s200.2.2.2.2.2.2.2.2.2.2.2.1,G0 s200.2.2.2.2.2.2.2.2.2.2.2.2]],[],G,O,⟨⟨_,⟨_,_,_,_,O,O,O,.inl ⟨Hq,O⟩⟩,.agg ⟨.same O,.list O,.same O,.same O,.same O,.same O,.same O,.same O,.same O,.same O,.same O,.same O,.same O,G⟩⟩,G⟩,O,congrArg (fun r:Gw=>(.agg (Gw.cs r):AV)) (Option.some.inj h)⟩)

def Ra (l:List Stowed) (x:Stowed):Option (List Stowed):=
 each (fun y19 i19 (s19:(List Stowed)) nx19=>
  jp (fun kj22=>
   bif decide (y19.Gd < x.Gd) then
   (need (decide ((s19.length+[y19].length)*32≤140737488355328∧s19.length+[y19].length≤maxLen)) <|
    kj22 (s19++[y19]))
   else
   (kj22 s19)) fun(j22:(List Stowed))=>
  nx19 j22)
 (fun(s19:(List Stowed))=>
  need (decide ((s19.length+[x].length)*32≤140737488355328∧s19.length+[x].length≤maxLen)) <|
  each (fun y44 i44 (s44:(List Stowed)) nx44=>
   jp (fun kj47=>
    bif decide (x.Gd < y44.Gd) then
    (need (decide ((s44.length+[y44].length)*32≤140737488355328∧s44.length+[y44].length≤maxLen)) <|
     kj47 (s44++[y44]))
    else
    (kj47 s44)) fun(j47:(List Stowed))=>
   nx44 j47)
  (fun(s44:(List Stowed))=>
   some s44) l 0 (s19++[x])) l 0 []
theorem G70 (l:List Stowed) (x:Stowed) (r:(List Stowed)) (h:Ra l x=some r):Pure Ej 38 [E0 l,.agg (Stowed.cs x)] (·=E0 r):=by
 unfold Ra at h
 refine H1 [.tmp 4] Tryz.func38 O O (Jr fun hK1=>(JLh (.ptr 1096 0) (Jm (cs:=[G0 x.Gd,G0 x.Slot.G4,G0 x.Slot.Tier,U8 x.Slot.Half]) 1096 O O O O O) O (JLh (E0 ([]:List Stowed)) (Ht 4 O O) O (G7 (hK1 (Gp [(0,E0 l),(3,Ed x)] [] 1096 rfl rfl rfl G rfl (by exact⟨.conv (.same rfl),.ptr,G⟩) (Jr fun hK2=>(JLh (OW 1097 4 Stowed.av ([]:List Stowed)) (G61 1097 80 4 O O O) O (G7 (hK2 (Js fun hK3=>Jr fun hK4=>(Ru (E0 l) O (JLl Gx O O O fun hm11=>(Ru (G0 0) O (G7 (hK4 (Gq ?_)))))))))))))))))
 obtain⟨b19,kx19,hb19,hkx19,h⟩:=Hx h
 refine Hg (fun i19 (s19:(List Stowed))=>each b19 kx19 (List.drop i19 l) i19 s19=some r) (fun i19 s19=>[(0,E0 l),(3,Ed x),(5,OW 1097 4 Stowed.av s19),(10,E0 l),(11,Ei l.length),(12,Ei i19)]) (fun i19 s19=>[(1097,.spare 80 4 s19.length s19.length)]) (fun i19=>l.length - i19) 0 [] h ⟨(by repeat' constructor),⟨⟨_,rfl,.same⟩,G⟩,rfl⟩ ?_
 clear h
 intro i19 s19 hi19 K19 e19
 refine Jr fun hK20=>(JLh (BL (decide ((i19:Int) < (l.length:Int)))) (Hz O O O) O (G7 (hK20 (Js fun hK21=>Gk O (fun hb=>?_) (fun hb=>?_)))))
 ·
  have hk19:=Jb hb
  obtain⟨y19,nx19,hy19,hn19,h⟩:=Ho hi19 hk19
  replace h:=Rw hb19 h
  refine Gn (hK21 ?_)
  obtain⟨kj22,hkj22,h⟩:=Rg h
  refine Qg (fun j22:(List Stowed)=>kj22 j22=some r) (fun j22=>[(0,E0 l),(3,Ed x),(5,OW 1097 4 Stowed.av j22),(10,E0 l),(11,Ei l.length),(12,Ei i19)]) (fun j22=>[(1097,.spare 80 4 j22.length j22.length)]) (fun Kj22 ej22=>?_) ?_
  ·
   refine Gq (Jr fun hK23=>(JLh (Ed y19) (H4 (f:=Stowed.av) (xs:=l) (y:=y19) O O O Gx hy19 O) O (JLh (.agg (Stowed.cs y19)) (Gi Q0 O O O) O (JLh (.ptr 1098 0) (Hn 1098 4 Je O O) O (Hs (u:=.junk) (Ha (u:=.agg (Stowed.cs y19)) (ds:=[G0 y19.Gd,G0 y19.Slot.G4,G0 y19.Slot.Tier,U8 y19.Slot.Half]) Qv O O O O O O O O) (G7 (hK23 (Gp [(0,E0 l),(3,Ed x),(5,OW 1097 4 Stowed.av s19),(7,Ed y19),(10,E0 l),(11,Ei l.length),(12,Ei i19)] [(1097,.spare 80 4 s19.length s19.length)] 1098 rfl rfl rfl ⟨⟨_,rfl,.same⟩,G⟩ rfl (by repeat' (first | exact .ptr | constructor)) ?_))))))))
   refine Jr fun hK24=>(JLh (Ed y19) (Ga Hv O O O) O (JLh (G0 y19.Gd) (Gf Gc O O O) O (JLh (Ed x) (Ga Hv O O O) O (JLh (G0 x.Gd) (Gf Gc O O O) O (JLh (BL (decide (y19.Gd < x.Gd))) (Hz O O O) O (G7 (hK24 (JCc O h (fun h hb=>?_) (fun h hb=>?_)))))))))
   ·
    refine G3 (Ru (OW 1097 4 Stowed.av s19) O (JLh (.agg (Stowed.cs y19)) (Gi Q0 O O O) O (JLh (E0 [y19]) (H9 (xs:=[.agg (Stowed.cs y19)]) O ⟨O,O,G⟩ Gx Je O O O O) O ?_)))
    obtain⟨ha25,h⟩:=Jj h
    refine JLh (OW 1097 4 Stowed.av (s19++[y19])) (Rc (f:=Stowed.av) (xs:=s19) (ys:=[y19]) O O O O Gx Gd2 ha25 (fun _=>O) (.inl O) O) O (Ru (OW 1097 4 Stowed.av (s19++[y19])) O (G7 (ej22 _ _ (s19++[y19]) h ⟨(by repeat' constructor),⟨⟨_,rfl,.same⟩,G⟩,rfl⟩)))
   ·
    refine Gn (ej22 _ _ s19 h ⟨(by repeat' constructor),⟨⟨_,rfl,.same⟩,G⟩,rfl⟩)
  ·intro j22 h
   replace h:=app1 hkj22 h
   refine G3 (JLh (G0 ((i19+1:Nat):Int)) (Hu (He hk19 hm11) O O O) O (Ru (G0 ((i19+1:Nat):Int)) O (G7 (e19 _ _ (i19+1) j22 (app1 hn19 h) (by omega) ⟨(by repeat' constructor),⟨⟨_,rfl,.same⟩,G⟩,rfl⟩))))
 ·
  have h:=app1 hkx19 (Hp hi19 (H7 hb))
  refine Hr (hK3 (Jr fun hK26=>(Ru (OW 1097 4 Stowed.av s19) O (JLh (.agg (Stowed.cs x)) (Gi Q0 O O O) O (JLh (E0 [x]) (H9 (xs:=[.agg (Stowed.cs x)]) O ⟨O,O,G⟩ Gx Je O O O O) O ?_)))))
  obtain⟨ha27,h⟩:=Jj h
  refine JLh (OW 1097 4 Stowed.av (s19++[x])) (Rc (f:=Stowed.av) (xs:=s19) (ys:=[x]) O O O O Gx Gd2 ha27 (fun _=>O) (.inl O) O) O (Ru (OW 1097 4 Stowed.av (s19++[x])) O (G7 (hK26 (Js fun hK28=>Jr fun hK29=>(Ru (E0 l) O (JLl Gx O O O fun hm31=>(Ru (G0 0) O (G7 (hK29 (Gq ?_))))))))))
  obtain⟨b44,kx44,hb44,hkx44,h⟩:=Hx h
  refine Hg (fun i44 (s44:(List Stowed))=>each b44 kx44 (List.drop i44 l) i44 s44=some r) (fun i44 s44=>[(3,Ed x),(5,OW 1097 4 Stowed.av s44),(30,E0 l),(31,Ei l.length),(32,Ei i44)]) (fun i44 s44=>[(1097,.spare 80 4 s44.length s44.length)]) (fun i44=>l.length - i44) 0 (s19++[x]) h ⟨(by repeat' constructor),⟨⟨_,rfl,.same⟩,G⟩,rfl⟩ ?_
  clear h
  intro i44 s44 hi44 K44 e44
  refine Jr fun hK45=>(JLh (BL (decide ((i44:Int) < (l.length:Int)))) (Hz O O O) O (G7 (hK45 (Js fun hK46=>Gk O (fun hb=>?_) (fun hb=>?_)))))
  ·
   have hk44:=Jb hb
   obtain⟨y44,nx44,hy44,hn44,h⟩:=Ho hi44 hk44
   replace h:=Rw hb44 h
   refine Gn (hK46 ?_)
   obtain⟨kj47,hkj47,h⟩:=Rg h
   refine Qg (fun j47:(List Stowed)=>kj47 j47=some r) (fun j47=>[(3,Ed x),(5,OW 1097 4 Stowed.av j47),(30,E0 l),(31,Ei l.length),(32,Ei i44)]) (fun j47=>[(1097,.spare 80 4 j47.length j47.length)]) (fun Kj47 ej47=>?_) ?_
   ·
    refine Gq (Jr fun hK48=>(JLh (Ed y44) (H4 (f:=Stowed.av) (xs:=l) (y:=y44) O O O Gx hy44 O) O (JLh (.agg (Stowed.cs y44)) (Gi Q0 O O O) O (JLh (.ptr 1099 0) (Hn 1099 4 Je O O) O (Hs (u:=.junk) (Ha (u:=.agg (Stowed.cs y44)) (ds:=[G0 y44.Gd,G0 y44.Slot.G4,G0 y44.Slot.Tier,U8 y44.Slot.Half]) Qv O O O O O O O O) (G7 (hK48 (Gp [(3,Ed x),(5,OW 1097 4 Stowed.av s44),(9,Ed y44),(30,E0 l),(31,Ei l.length),(32,Ei i44)] [(1097,.spare 80 4 s44.length s44.length)] 1099 rfl rfl rfl ⟨⟨_,rfl,.same⟩,G⟩ rfl (by repeat' (first | exact .ptr | constructor)) ?_))))))))
    refine Jr fun hK49=>(JLh (Ed y44) (Ga Hv O O O) O (JLh (G0 y44.Gd) (Gf Gc O O O) O (JLh (Ed x) (Ga Hv O O O) O (JLh (G0 x.Gd) (Gf Gc O O O) O (JLh (BL (decide (x.Gd < y44.Gd))) (G76 O O O) O (G7 (hK49 (JCc O h (fun h hb=>?_) (fun h hb=>?_)))))))))
    ·
     refine G3 (Ru (OW 1097 4 Stowed.av s44) O (JLh (.agg (Stowed.cs y44)) (Gi Q0 O O O) O (JLh (E0 [y44]) (H9 (xs:=[.agg (Stowed.cs y44)]) O ⟨O,O,G⟩ Gx Je O O O O) O ?_)))
     obtain⟨ha50,h⟩:=Jj h
     refine JLh (OW 1097 4 Stowed.av (s44++[y44])) (Rc (f:=Stowed.av) (xs:=s44) (ys:=[y44]) O O O O Gx Gd2 ha50 (fun _=>O) (.inl O) O) O (Ru (OW 1097 4 Stowed.av (s44++[y44])) O (G7 (ej47 _ _ (s44++[y44]) h ⟨(by repeat' constructor),⟨⟨_,rfl,.same⟩,G⟩,rfl⟩)))
    ·
     refine Gn (ej47 _ _ s44 h ⟨(by repeat' constructor),⟨⟨_,rfl,.same⟩,G⟩,rfl⟩)
   ·intro j47 h
    replace h:=app1 hkj47 h
    refine G3 (JLh (G0 ((i44+1:Nat):Int)) (Hu (He hk44 hm31) O O O) O (Ru (G0 ((i44+1:Nat):Int)) O (G7 (e44 _ _ (i44+1) j47 (app1 hn44 h) (by omega) ⟨(by repeat' constructor),⟨⟨_,rfl,.same⟩,G⟩,rfl⟩))))
  ·
   have h:=app1 hkx44 (Hp hi44 (H7 hb))
   refine Hr (hK28 (Jr fun hK51=>(Ru (OW 1097 4 Stowed.av s44) O (Ru (OW 1097 4 Stowed.av s44) O (G7 (hK51 (Gr (fin1l (fun r:(List Stowed)=>(E0 r:AV)) h))))))))

def G48 (l:List Stowed):Option (List Slot):=
 each (fun y17 i17 (s17:(List Slot)) nx17=>
  need (decide ((s17.length+[y17.Slot].length)*24≤140737488355328∧s17.length+[y17.Slot].length≤maxLen)) <|
  nx17 (s17++[y17.Slot]))
 (fun(s17:(List Slot))=>
  some s17) l 0 []
theorem H71 (l:List Stowed) (r:(List Slot)) (h:G48 l=some r):Pure Ej 41 [E0 l] (·=E8 r):=by
 unfold G48 at h
 refine H1 [.tmp 2] Tryz.func41 O O (Jr fun hK1=>(JLh (E8 ([]:List Slot)) (Ht 3 O O) O (G7 (hK1 (Jr fun hK2=>(JLh (OW 1105 3 Slot.av ([]:List Slot)) (G61 1105 78 3 O O O) O (G7 (hK2 (Js fun hK3=>Jr fun hK4=>(Ru (E0 l) O (JLl Gx O O O fun hm7=>(Ru (G0 0) O (G7 (hK4 (Gq ?_)))))))))))))))
 obtain⟨b17,kx17,hb17,hkx17,h⟩:=Hx h
 refine Hg (fun i17 (s17:(List Slot))=>each b17 kx17 (List.drop i17 l) i17 s17=some r) (fun i17 s17=>[(3,OW 1105 3 Slot.av s17),(6,E0 l),(7,Ei l.length),(8,Ei i17)]) (fun i17 s17=>[(1105,.spare 78 3 s17.length s17.length)]) (fun i17=>l.length - i17) 0 [] h ⟨(by repeat' constructor),⟨⟨_,rfl,.same⟩,G⟩,rfl⟩ ?_
 clear h
 intro i17 s17 hi17 K17 e17
 refine Jr fun hK18=>(JLh (BL (decide ((i17:Int) < (l.length:Int)))) (Hz O O O) O (G7 (hK18 (Js fun hK19=>Gk O (fun hb=>?_) (fun hb=>?_)))))
 ·
  have hk17:=Jb hb
  obtain⟨y17,nx17,hy17,hn17,h⟩:=Ho hi17 hk17
  replace h:=Rw hb17 h
  refine Gn (hK19 (Js fun hK20=>Gq (Jr fun hK21=>(JLh (Ed y17) (H4 (f:=Stowed.av) (xs:=l) (y:=y17) O O O Gx hy17 O) O (JLh (.agg (Stowed.cs y17)) (Gi Q0 O O O) O (JLh (.ptr 1106 0) (Hn 1106 4 Je O O) O (Hs (u:=.junk) (Ha (u:=.agg (Stowed.cs y17)) (ds:=[G0 y17.Gd,G0 y17.Slot.G4,G0 y17.Slot.Tier,U8 y17.Slot.Half]) Qv O O O O O O O O) (G7 (hK21 (Gp [(3,OW 1105 3 Slot.av s17),(5,Ed y17),(6,E0 l),(7,Ei l.length),(8,Ei i17)] [(1105,.spare 78 3 s17.length s17.length)] 1106 rfl rfl rfl ⟨⟨_,rfl,.same⟩,G⟩ rfl (by repeat' (first | exact .ptr | constructor)) (G3 ?_)))))))))))
  refine Ru (OW 1105 3 Slot.av s17) O (JLh (.dptr ((Stowed.cs y17).drop 1)) (Ga J1 O O O) O (JLh (.agg ((Stowed.cs y17).drop 1)) (Gi Jp O O O) O (JLh (E8 [y17.Slot]) (H9 (xs:=[.agg ((Stowed.cs y17).drop 1)]) O ⟨O,O,G⟩ Y1 Rm O O O O) O ?_)))
  obtain⟨ha22,h⟩:=Jj h
  refine JLh (OW 1105 3 Slot.av (s17++[y17.Slot])) (Rc (f:=Slot.av) (xs:=s17) (ys:=[y17.Slot]) O O O O Y1 J54 ha22 (fun _=>O) (.inl O) O) O (Ru (OW 1105 3 Slot.av (s17++[y17.Slot])) O (G7 (hK20 (G3 (JLh (G0 ((i17+1:Nat):Int)) (Hu (He hk17 hm7) O O O) O (Ru (G0 ((i17+1:Nat):Int)) O (G7 (e17 _ _ (i17+1) (s17++[y17.Slot]) (app1 hn17 h) (by omega) ⟨(by repeat' constructor),⟨⟨_,rfl,.same⟩,G⟩,rfl⟩))))))))
 ·
  have h:=app1 hkx17 (Hp hi17 (H7 hb))
  refine Hr (hK3 (Jr fun hK23=>(Ru (OW 1105 3 Slot.av s17) O (Ru (OW 1105 3 Slot.av s17) O (G7 (hK23 (Gr (fin1l (fun r:(List Slot)=>(E8 r:AV)) h))))))))

def G5c (b:Gd) (p1:Int):Option Bool:=
 some (decide (b.ID=p1))
theorem J35 (b:Gd) (p1:Int) (r:Bool) (h:G5c b p1=some r):Pure Ej 73 [.agg (Gd.cs b),.dptr [G0 p1]] (·=BL r):=by
 unfold G5c at h
 refine H1 [.tmp 3] Tryz.func73 O O (Jr fun hK1=>(JLh (.ptr 1140 0) (Jm (cs:=(Gd.cs b)) 1140 O O O O O) O (Ru (BL false) O (G7 (hK1 (Gp [(1,.dptr [G0 p1]),(2,Ee b)] [] 1140 rfl rfl rfl G rfl (by exact⟨.conv (.same rfl),.ptr,G⟩) (Jr fun hK2=>(JLh (Ee b) (Ga Jq O O O) O (JLh (G0 b.ID) (Gf Gc O O O) O (JLh (G0 p1) (Gf Gc O O O) O (JLh (BL (decide (b.ID=p1))) (Qh O O O) O (Ru (BL (decide (b.ID=p1))) O (G7 (hK2 (Gr (fin1 BL h))))))))))))))))

def Yc (s:List Gd) (f:Gd→Option Bool):Option Int:=
 each (fun y20 i20 (s20:Unit) nx20=>
  bnd (f y20) fun r26=>
  bif r26 then
  (some (i20:Int))
  else
  (nx20 ()))
 (fun(s20:Unit)=>
  some (-1)) s 0 ()
theorem Gc6 (s:List Gd) (f:Gd→Option Bool) (f_f:FuncId) (f_c:List AV) (f_B:Hf Ej f_f=true) (f_d:Ya (fun _=>false) f_c=true) (f_w:∀ a0 q,f a0=some q→Pure Ej f_f ([.agg (Gd.cs a0)]++f_c) (·=BL q)) (r:Int) (h:Yc s f=some r):Pure Ej 72 [E2 s,.fn f_f f_c] (·=G0 r):=by
 unfold Yc at h
 refine H1 [.tmp 4] Tryz.func72 O O (Jr fun hK1=>(Ru (G0 0) O (G7 (hK1 (Js fun hK2=>Jr fun hK3=>(Ru (E2 s) O (JLl Jw O O O fun hm7=>(Ru (G0 0) O (G7 (hK3 (Gq ?_)))))))))))
 obtain⟨b20,kx20,hb20,hkx20,h⟩:=Hx h
 refine Hg (fun i20 (s20:Unit)=>each b20 kx20 (List.drop i20 s) i20 s20=some r) (fun i20 s20=>[(0,E2 s),(1,.fn f_f f_c),(7,Ei s.length),(8,Ei i20)]) (fun i20 s20=>[]) (fun i20=>s.length - i20) 0 () h ⟨⟨.same O,.same (Jc _ _ f_d),.same O,.same O,G⟩,G,O⟩ ?_
 clear h
 intro i20 s20 hi20 K20 e20
 refine Jr fun hK21=>(JLh (BL (decide ((i20:Int) < (s.length:Int)))) (Hz O O O) O (G7 (hK21 (Js fun hK22=>Gk O (fun hb=>?_) (fun hb=>?_)))))
 ·
  have hk20:=Jb hb
  obtain⟨y20,nx20,hy20,hn20,h⟩:=Ho hi20 hk20
  replace h:=Rw hb20 h
  refine Gn (hK22 (Js fun hK23=>Gq (Jr fun hK24=>(Ru (Ei i20) O (Ru (Ei i20) O (G7 (hK24 (Jr fun hK25=>(Ru (.fn f_f f_c) O (Ru (E2 s) O (Ru (Ei i20) O (JLh (Ee y20) (H4 (f:=Gd.av) (xs:=s) (y:=y20) O O O Jw hy20 O) O (JLh (.agg (Gd.cs y20)) (Gi Zc O O O) O ?_)))))))))))))
  obtain⟨r26,hr26,h⟩:=Ge h
  refine JLh (BL r26) (G15 (args:=[.agg (Gd.cs y20)]) (caps:=f_c) O O (f_w y20 _ hr26) f_B ⟨O,O,G⟩ f_d) O (G7 (hK25 (JCc O h (fun h hb=>?_) (fun h hb=>?_))))
  ·
   refine Jr fun hK27=>(Ru (Ei i20) O (Ru (Ei i20) O (G7 (hK27 (Gr (fin1 G0 h))))))
  ·
   refine Gn (hK23 (G3 (JLh (G0 ((i20+1:Nat):Int)) (Hu (He hk20 hm7) O O O) O (Ru (G0 ((i20+1:Nat):Int)) O (G7 (e20 _ _ (i20+1) () (app1 hn20 h) (by omega) ⟨⟨.same rfl,.same (Jc _ _ f_d),.same rfl,.same rfl,G⟩,G,rfl⟩))))))
 ·
  have h:=app1 hkx20 (Hp hi20 (H7 hb))
  refine Hr (hK2 (Jr fun hK28=>(Ru (G0 (-1)) O (G7 (hK28 (Gr (fin1 G0 h)))))))

def G3c (boxes:List Gd) (id_:Int):Option (Gd×Bool):=
 bnd (Yc boxes (fun z0=>G5c z0 id_)) fun r3=>
 bif decide (r3 < 0) then
 (some ((Gd.mk 0 ByteArray.empty 0 false 0 0 0 0 false),false))
 else
 (Rx boxes r3 fun y8=>
  some (y8,true))
theorem H0d (boxes:List Gd) (id_:Int) (r:Gd×Bool) (h:G3c boxes id_=some r):Pure Ej 42 [E2 boxes,G0 id_] (·=.tup [.agg (Gd.cs r.1),BL r.2]):=by
 unfold G3c at h
 refine H1 [.cell 4 55,.tmp 5] Tryz.func42 O O (Jr fun hK1=>(JLh (.ptr 1107 0) (Jm (cs:=[G0 id_]) 1107 O O O O O) O (JLh (.ptr 1108 0) (G16 1108 [G0 0,ST ByteArray.empty,U8 0,BL false,G0 0,G0 0,G0 0,U8 0,BL false] [.int .i64 0,.string ByteArray.empty,.int .u8 0,.bool false,.int .i64 0,.int .i64 0,.int .i64 0,.int .u8 0,.bool false] G66 ⟨.inl O,.inl O,.inl O,.inl O,.inl O,.inl O,.inl O,.inl O,.inl O,G⟩ O O) O (Ru (BL false) O (G7 (hK1 (Gp [(0,E2 boxes),(3,.dptr [G0 id_]),(4,.ptr 1108 0)] [(1108,.box 55 [G0 0,ST ByteArray.empty,U8 0,BL false,G0 0,G0 0,G0 0,U8 0,BL false])] 1107 rfl rfl rfl ⟨⟨_,rfl,.boxEq rfl rfl⟩,G⟩ rfl (by exact⟨.conv (.same rfl),.ptr,.conv (.same rfl),G⟩) ?_)))))))
 refine Jr fun hK2=>(Ru (E2 boxes) O (JLh (.fn 73 [.dptr [G0 id_]]) (Rk (cs:=[.dptr [G0 id_]]) O O) O ?_))
 obtain⟨r3,hr3,h⟩:=Ge h
 refine JLh (G0 r3) (Gt O (Gc6 boxes (fun z0=>G5c z0 id_) 73 [.dptr [G0 id_]] Jff O (fun z0 q hq=>J35 z0 id_ q hq) r3 hr3) Q00 ⟨O,O,O,O,G⟩) O (Ru (G0 r3) O (G7 (hK2 (Js fun hK4=>Jr fun hK5=>(Ru (G0 r3) O (JLh (BL (decide (r3 < 0))) (Hz O O O) O (G7 (hK5 (JCc O h (fun h hb=>?_) (fun h hb=>?_))))))))))
 ·
  refine Jr fun hK6=>(JLh (.agg [G0 0,ST ByteArray.empty,U8 0,BL false,G0 0,G0 0,G0 0,U8 0,BL false]) (J8 (cs:=[G0 0,ST ByteArray.empty,U8 0,BL false,G0 0,G0 0,G0 0,U8 0,BL false]) [(0,1),(1,1),(2,1),(3,1),(4,1),(5,1),(6,1),(7,1),(8,1)] [G0 0,ST ByteArray.empty,U8 0,BL false,G0 0,G0 0,G0 0,U8 0,BL false] [.int .i64 0,.string ByteArray.empty,.int .u8 0,.bool false,.int .i64 0,.int .i64 0,.int .i64 0,.int .u8 0,.bool false] G42 G66 ⟨.inl O,.inl O,.inl O,.inl O,.inl O,.inl O,.inl O,.inl O,.inl O,G⟩ O O) O (Hs (u:=.junk) (Ha (u:=.agg [G0 0,ST ByteArray.empty,U8 0,BL false,G0 0,G0 0,G0 0,U8 0,BL false]) (ds:=[G0 0,ST ByteArray.empty,U8 0,BL false,G0 0,G0 0,G0 0,U8 0,BL false]) Yv O O O O O O O O) (Ru (BL false) O (G7 (hK6 ?_)))))
  refine Gr (⟨[.agg [G0 0,ST ByteArray.empty,U8 0,BL false,G0 0,G0 0,G0 0,U8 0,BL false],BL false],[],G,O,⟨⟨_,⟨_,_,_,_,O,O,O,.inl ⟨Zc,O⟩⟩,.conv (.same O)⟩,⟨_,O,.conv (.same O)⟩,G⟩,O,congrArg (fun r:Gd×Bool=>(.tup [.agg (Gd.cs r.1),BL r.2]:AV)) (Option.some.inj h)⟩)
 ·
  refine Gn (hK4 (Jr fun hK7=>(Ru (E2 boxes) O (Ru (G0 r3) O ?_))))
  obtain⟨m9,y8,hm9,hy8,h⟩:=Yd h
  refine JLh (Ee y8) (H4 (f:=Gd.av) (xs:=boxes) (y:=y8) O O O Jw hy8 hm9) O (JLh (.agg (Gd.cs y8)) (Gi Zc O O O) O (Hs (u:=.junk) (Ha (u:=.agg (Gd.cs y8)) (ds:=(Gd.cs y8)) Yv O O O O O O O O) (Ru (BL true) O (G7 (hK7 (Gr (⟨[.agg (Gd.cs y8),BL true],[],G,O,⟨⟨_,⟨_,_,_,_,O,O,O,.inl ⟨Zc,O⟩⟩,.conv (.same O)⟩,⟨_,O,.conv (.same O)⟩,G⟩,O,congrArg (fun r:Gd×Bool=>(.tup [.agg (Gd.cs r.1),BL r.2]:AV)) (Option.some.inj h)⟩)))))))

def Yp (s:List Int) (v:Int):Option Int:=
 each (fun y18 i18 (s18:Unit) nx18=>
  bif decide (v=y18) then
  (some (i18:Int))
  else
  (nx18 ()))
 (fun(s18:Unit)=>
  some (-1)) s 0 ()
theorem H41 (s:List Int) (v:Int) (r:Int) (h:Yp s v=some r):Pure Ej 100 [E9 s,U8 v] (·=G0 r):=by
 unfold Yp at h
 refine H1 [.tmp 4] Tryz.func100 O O (Jr fun hK1=>(Ru (G0 0) O (G7 (hK1 (Js fun hK2=>Jr fun hK3=>(Ru (E9 s) O (JLl G41 O O O fun hm7=>(Ru (G0 0) O (G7 (hK3 (Gq ?_)))))))))))
 obtain⟨b18,kx18,hb18,hkx18,h⟩:=Hx h
 refine Hg (fun i18 (s18:Unit)=>each b18 kx18 (List.drop i18 s) i18 s18=some r) (fun i18 s18=>[(0,E9 s),(1,U8 v),(7,Ei s.length),(8,Ei i18)]) (fun i18 s18=>[]) (fun i18=>s.length - i18) 0 () h ⟨(by repeat' constructor),G,rfl⟩ ?_
 clear h
 intro i18 s18 hi18 K18 e18
 refine Jr fun hK19=>(JLh (BL (decide ((i18:Int) < (s.length:Int)))) (Hz O O O) O (G7 (hK19 (Js fun hK20=>Gk O (fun hb=>?_) (fun hb=>?_)))))
 ·
  have hk18:=Jb hb
  obtain⟨y18,nx18,hy18,hn18,h⟩:=Ho hi18 hk18
  replace h:=Rw hb18 h
  refine Gn (hK20 (Js fun hK21=>Gq (Jr fun hK22=>(Ru (Ei i18) O (Ru (Ei i18) O (G7 (hK22 (Jr fun hK23=>(Ru (U8 v) O (Ru (E9 s) O (Ru (Ei i18) O (JLh (.dptr [U8 y18]) (H4 (f:=U8) (xs:=s) (y:=y18) O O O G41 hy18 O) O (JLh (U8 y18) (Gf J6 O O O) O (JLh (BL (decide (v=y18))) (Qh O O O) O (G7 (hK23 (JCc O h (fun h hb=>?_) (fun h hb=>?_))))))))))))))))))
  ·
   refine Jr fun hK24=>(Ru (Ei i18) O (Ru (Ei i18) O (G7 (hK24 (Gr (fin1 G0 h))))))
  ·
   refine Gn (hK21 (G3 (JLh (G0 ((i18+1:Nat):Int)) (Hu (He hk18 hm7) O O O) O (Ru (G0 ((i18+1:Nat):Int)) O (G7 (e18 _ _ (i18+1) () (app1 hn18 h) (by omega) ⟨(by repeat' constructor),G,rfl⟩))))))
 ·
  have h:=app1 hkx18 (Hp hi18 (H7 hb))
  refine Hr (hK2 (Jr fun hK25=>(Ru (G0 (-1)) O (G7 (hK25 (Gr (fin1 G0 h)))))))

def Rt (s:List Int) (v:Int):Option Bool:=
 bnd (Yp s v) fun r3=>
 some (decide (0≤r3))
theorem Gf0 (s:List Int) (v:Int) (r:Bool) (h:Rt s v=some r):Pure Ej 74 [E9 s,U8 v] (·=BL r):=by
 unfold Rt at h
 refine H1 [.tmp 4] Tryz.func74 O O (Jr fun hK1=>(Ru (BL false) O (G7 (hK1 (Jr fun hK2=>(Ru (E9 s) O (Ru (U8 v) O ?_)))))))
 obtain⟨r3,hr3,h⟩:=Ge h
 refine JLh (G0 r3) (Gt O (H41 s v r3 hr3) Je0 ⟨O,O,O,O,G⟩) O (JLh (BL (decide (0≤r3))) (G8a O O O) O (Ru (BL (decide (0≤r3))) O (G7 (hK2 (Gr (fin1 BL h))))))

def G4a (s:Gw) (x:Slot) (size:Int):Option Bool:=
 bnd (bif (((decide (0≤x.G4))&&(decide (x.G4 < (s.Columns.length:Int))))&&(decide (0≤x.Tier))) then Rx s.Columns x.G4 some else some default) fun y3=>
 bnd (bif ((((decide (0≤x.G4))&&(decide (x.G4 < (s.Columns.length:Int))))&&(decide (0≤x.Tier)))&&(decide (x.Tier < y3.Tiers))) then G06 size else some default) fun r4=>
 bnd (bif ((((decide (0≤x.G4))&&(decide (x.G4 < (s.Columns.length:Int))))&&(decide (0≤x.Tier)))&&(decide (x.Tier < y3.Tiers))) then Rt r4 x.Half else some default) fun r5=>
 some (((((decide (0≤x.G4))&&(decide (x.G4 < (s.Columns.length:Int))))&&(decide (0≤x.Tier)))&&(decide (x.Tier < y3.Tiers)))&&r5)
theorem H73 (s:Gw) (x:Slot) (size:Int) (r:Bool) (h:G4a s x size=some r):Pure Ej 43 [.agg (Gw.cs s),.agg [G0 x.G4,G0 x.Tier,U8 x.Half],U8 size] (·=BL r):=by
 unfold G4a at h
 refine H1 [.tmp 6] Tryz.func43 O O (Jr fun hK1=>(JLh (.ptr 1109 0) (Jm (cs:=(Gw.cs s)) 1109 O O O O O) O (JLh (.ptr 1110 0) (Jm (cs:=[G0 x.G4,G0 x.Tier,U8 x.Half]) 1110 O O O O O) O (Ru (BL false) O (G7 (hK1 ?_))))))
 refine Gp [(2,U8 size),(3,Ec s),(4,.ptr 1110 0)] [(1110,.box 78 [G0 x.G4,G0 x.Tier,U8 x.Half])] 1109 rfl rfl rfl ⟨⟨_,rfl,.boxEq rfl rfl⟩,G⟩ rfl (by exact⟨.conv (.same rfl),.ptr,.conv (.same rfl),G⟩) ?_
 refine Gp [(2,U8 size),(3,Ec s),(4,.dptr [G0 x.G4,G0 x.Tier,U8 x.Half])] [] 1110 rfl rfl rfl G rfl (by exact⟨.conv (.same rfl),.conv (.same rfl),.ptr,G⟩) (Js fun hK2=>?_)
 obtain⟨y3,hy3,h⟩:=Ge h
 obtain⟨r4,hr4,h⟩:=Ge h
 obtain⟨r5,hr5,h⟩:=Ge h
 refine JC_d0 Qb (by kernel_rfl) (Dq (.dptr [G0 x.G4,G0 x.Tier,U8 x.Half]) (Ga Jf O O O) O (Dq (G0 x.G4) (Gf Gc O O O) O (Dq (BL (decide (0≤x.G4))) (G8a O O O) O (Dq (BL (decide (0≤x.G4))) (G6 O O) O (Do (.dptr [G0 x.G4,G0 x.Tier,U8 x.Half]) [] O .sct G (fun hc=>Ga Jf O O O) O (Do (G0 x.G4) [11] O .sct ⟨Ua,G⟩ (fun hc=>Gf Gc O O O) O (Do (Ec s) [] O .sct G (fun hc=>Ga J2 O O O) O (Do (E3 s.Columns) [13] O .sct ⟨Ua,G⟩ (fun hc=>Gf Ja O O O) O (Do (Ei s.Columns.length) [14] O .sct ⟨Ua,G⟩ (fun hc=>Z4 (f:=G4.av) (xs:=s.Columns) J5 O O) O (Do (BL (decide (x.G4 < (s.Columns.length:Int)))) [12,15] O .sct ⟨Ua,Ua,G⟩ (fun hc=>Hz O O O) O (Dq (BL ((decide (0≤x.G4))&&(decide (x.G4 < (s.Columns.length:Int))))) (Qa O O O O) O (Dq (BL ((decide (0≤x.G4))&&(decide (x.G4 < (s.Columns.length:Int))))) (G6 O O) O (Do (.dptr [G0 x.Tier,U8 x.Half]) [] O .sct G (fun hc=>Ga Ry O O O) O ?_)))))))))))))
 refine Do (G0 x.Tier) [19] O .sct ⟨Ua,G⟩ (fun hc=>Gf Gc O O O) O (Do (BL (decide (0≤x.Tier))) [20] O .sct ⟨Ua,G⟩ (fun hc=>G8a O O O) O (Dq (BL (((decide (0≤x.G4))&&(decide (x.G4 < (s.Columns.length:Int))))&&(decide (0≤x.Tier)))) (Qa O O O O) O (Dq (BL (((decide (0≤x.G4))&&(decide (x.G4 < (s.Columns.length:Int))))&&(decide (0≤x.Tier)))) (G6 O O) O (Do (.dptr [G0 x.Tier,U8 x.Half]) [] O .sct G (fun hc=>Ga Ry O O O) O (Do (G0 x.Tier) [24] O .sct ⟨Ua,G⟩ (fun hc=>Gf Gc O O O) O (Do (Ec s) [] O .sct G (fun hc=>Ga J2 O O O) O (Do (E3 s.Columns) [26] O .sct ⟨Ua,G⟩ (fun hc=>Gf Ja O O O) O (Do (.dptr [G0 x.G4,G0 x.Tier,U8 x.Half]) [] O .sct G (fun hc=>Ga Jf O O O) O (Do (G0 x.G4) [28] O .sct ⟨Ua,G⟩ (fun hc=>Gf Gc O O O) O (Do (Ef y3) [27,29] O .sct ⟨Ua,Ua,G⟩ (fun hc=>(match Qq (H2 hc hy3) with | ⟨_,hm_,hy_⟩=>H4 (f:=G4.av) (xs:=s.Columns) (y:=y3) O O O J5 hy_ hm_)) O (Do (.dptr ((G4.cs y3).drop 3)) [30] O .sct ⟨Ua,G⟩ (fun hc=>Ga G9d O O O) O (Do (G0 y3.Tiers) [31] O .sct ⟨Ua,G⟩ (fun hc=>Gf Gc O O O) O (Do (BL (decide (x.Tier < y3.Tiers))) [25,32] O .sct ⟨Ua,Ua,G⟩ (fun hc=>Hz O O O) O ?_)))))))))))))
 refine Dq (BL ((((decide (0≤x.G4))&&(decide (x.G4 < (s.Columns.length:Int))))&&(decide (0≤x.Tier)))&&(decide (x.Tier < y3.Tiers)))) (Qa O O O O) O (Dq (BL ((((decide (0≤x.G4))&&(decide (x.G4 < (s.Columns.length:Int))))&&(decide (0≤x.Tier)))&&(decide (x.Tier < y3.Tiers)))) (G6 O O) O (Do (U8 size) [] O .sct G (fun hc=>G6 O O) O (Do (E9 r4) [36] O .sct ⟨Ua,G⟩ (fun hc=>Gt (args:=[U8 size]) O (H4b size r4 (H2 hc hr4)) J5c ⟨O,O,G⟩) O (Do (.dptr [U8 x.Half]) [] O .sct G (fun hc=>Ga Yh O O O) O (Do (U8 x.Half) [38] O .sct ⟨Ua,G⟩ (fun hc=>Gf J6 O O O) O (Do (BL r5) [37,39] O .sct ⟨Ua,Ua,G⟩ (fun hc=>Gt (args:=[E9 r4,U8 x.Half]) O (Gf0 r4 x.Half r5 (H2 hc hr5)) Jfe ⟨O,O,O,O,G⟩) O (Dq (BL (((((decide (0≤x.G4))&&(decide (x.G4 < (s.Columns.length:Int))))&&(decide (0≤x.Tier)))&&(decide (x.Tier < y3.Tiers)))&&r5)) (Qa O O O O) O (Dq (BL (((((decide (0≤x.G4))&&(decide (x.G4 < (s.Columns.length:Int))))&&(decide (0≤x.Tier)))&&(decide (x.Tier < y3.Tiers)))&&r5)) (G8 O O) O (Dnil ?_)))))))))
 refine hK2 (Gr (fin1 BL h))

def Y7 (s:List Slot) (v:Slot):Option Int:=
 each (fun y18 i18 (s18:Unit) nx18=>
  bif decide (v=y18) then
  (some (i18:Int))
  else
  (nx18 ()))
 (fun(s18:Unit)=>
  some (-1)) s 0 ()
theorem H0e (s:List Slot) (v:Slot) (r:Int) (h:Y7 s v=some r):Pure Ej 101 [E8 s,.agg [G0 v.G4,G0 v.Tier,U8 v.Half]] (·=G0 r):=by
 unfold Y7 at h
 refine H1 [.tmp 4] Tryz.func101 O O (Jr fun hK1=>(JLh (.ptr 1157 0) (Jm (cs:=[G0 v.G4,G0 v.Tier,U8 v.Half]) 1157 O O O O O) O (Ru (G0 0) O (G7 (hK1 (Gp [(0,E8 s),(3,.dptr [G0 v.G4,G0 v.Tier,U8 v.Half])] [] 1157 rfl rfl rfl G rfl (by exact⟨.conv (.same rfl),.ptr,G⟩) (Js fun hK2=>Jr fun hK3=>(Ru (E8 s) O (JLl Y1 O O O fun hm7=>(Ru (G0 0) O (G7 (hK3 (Gq ?_)))))))))))))
 obtain⟨b18,kx18,hb18,hkx18,h⟩:=Hx h
 refine Hg (fun i18 (s18:Unit)=>each b18 kx18 (List.drop i18 s) i18 s18=some r) (fun i18 s18=>[(0,E8 s),(3,.dptr [G0 v.G4,G0 v.Tier,U8 v.Half]),(7,Ei s.length),(8,Ei i18)]) (fun i18 s18=>[]) (fun i18=>s.length - i18) 0 () h ⟨(by repeat' constructor),G,rfl⟩ ?_
 clear h
 intro i18 s18 hi18 K18 e18
 refine Jr fun hK19=>(JLh (BL (decide ((i18:Int) < (s.length:Int)))) (Hz O O O) O (G7 (hK19 (Js fun hK20=>Gk O (fun hb=>?_) (fun hb=>?_)))))
 ·
  have hk18:=Jb hb
  obtain⟨y18,nx18,hy18,hn18,h⟩:=Ho hi18 hk18
  replace h:=Rw hb18 h
  refine Gn (hK20 (Js fun hK21=>Gq (Jr fun hK22=>(Ru (Ei i18) O (Ru (Ei i18) O (G7 (hK22 (Js fun hK23=>JC_d0 Qb (by kernel_rfl) (Dq (.agg [G0 v.G4,G0 v.Tier,U8 v.Half]) (Gi Jp O O O) O (Dq (E8 s) (G6 O O) O (Dq (Ei i18) (G6 O O) O (Dq (Eg y18) (H4 (f:=Slot.av) (xs:=s) (y:=y18) O O O Y1 hy18 O) O (Dq (.agg (Slot.cs y18)) (Gi Jp O O O) O (Dq (BL (decide (v=y18))) (A_eqAgg (vs:=[.int .i64 v.G4,.int .i64 v.Tier,.int .u8 v.Half]) (us:=[.int .i64 y18.G4,.int .i64 y18.Tier,.int .u8 y18.Half]) 4 O (tq_78 v y18) H54 Hf1 O O O) O (Dnil (hK23 (JCc O h (fun h hb=>?_) (fun h hb=>?_))))))))))))))))))
  ·
   refine Jr fun hK24=>(Ru (Ei i18) O (Ru (Ei i18) O (G7 (hK24 (Gr (fin1 G0 h))))))
  ·
   refine Gn (hK21 (G3 (JLh (G0 ((i18+1:Nat):Int)) (Hu (He hk18 hm7) O O O) O (Ru (G0 ((i18+1:Nat):Int)) O (G7 (e18 _ _ (i18+1) () (app1 hn18 h) (by omega) ⟨(by repeat' constructor),G,rfl⟩))))))
 ·
  have h:=app1 hkx18 (Hp hi18 (H7 hb))
  refine Hr (hK2 (Jr fun hK25=>(Ru (G0 (-1)) O (G7 (hK25 (Gr (fin1 G0 h)))))))

def R5 (s:List Slot) (v:Slot):Option Bool:=
 bnd (Y7 s v) fun r3=>
 some (decide (0≤r3))
theorem Gc7 (s:List Slot) (v:Slot) (r:Bool) (h:R5 s v=some r):Pure Ej 77 [E8 s,.agg [G0 v.G4,G0 v.Tier,U8 v.Half]] (·=BL r):=by
 unfold R5 at h
 refine H1 [.tmp 4] Tryz.func77 O O (Jr fun hK1=>(JLh (.ptr 1141 0) (Jm (cs:=[G0 v.G4,G0 v.Tier,U8 v.Half]) 1141 O O O O O) O (Ru (BL false) O (G7 (hK1 (Gp [(0,E8 s),(3,.dptr [G0 v.G4,G0 v.Tier,U8 v.Half])] [] 1141 rfl rfl rfl G rfl (by exact⟨.conv (.same rfl),.ptr,G⟩) (Jr fun hK2=>(Ru (E8 s) O (JLh (.agg [G0 v.G4,G0 v.Tier,U8 v.Half]) (Gi Jp O O O) O ?_)))))))))
 obtain⟨r3,hr3,h⟩:=Ge h
 refine JLh (G0 r3) (Gt O (H0e s v r3 hr3) Jdf ⟨O,O,O,O,G⟩) O (JLh (BL (decide (0≤r3))) (G8a O O O) O (Ru (BL (decide (0≤r3))) O (G7 (hK2 (Gr (fin1 BL h))))))

def G07 (half:Int) (p1:List Slot) (p2:Slot):Option Bool:=
 G0d (p2.Tier - 1) fun v3=>
 bnd (R5 p1 (Slot.mk p2.G4 v3 half)) fun r4=>
 some r4
theorem Gbc (half:Int) (p1:List Slot) (p2:Slot) (r:Bool) (h:G07 half p1 p2=some r):Pure Ej 76 [U8 half,.dptr [E8 p1],.dptr [G0 p2.G4,G0 p2.Tier,U8 p2.Half]] (·=BL r):=by
 unfold G07 at h
 refine H1 [.tmp 4] Tryz.func76 O O (Jr fun hK1=>(Ru (BL false) O (G7 (hK1 (Jr fun hK2=>(JLh (E8 p1) (Gf H06 O O O) O (JLh (.dptr [G0 p2.G4,G0 p2.Tier,U8 p2.Half]) (Ga Jf O O O) O (JLh (G0 p2.G4) (Gf Gc O O O) O (JLh (.dptr [G0 p2.Tier,U8 p2.Half]) (Ga Ry O O O) O (JLh (G0 p2.Tier) (Gf Gc O O O) O ?_))))))))))
 obtain⟨v3,hv3,h⟩:=J7 h
 refine JLh (G0 v3) (Gea hv3 O O O) O (Ru (U8 half) O (JLh (.agg [G0 p2.G4,G0 v3,U8 half]) (J8 (cs:=[G0 p2.G4,G0 v3,U8 half]) [(0,1),(1,1),(2,1)] [G0 0,G0 0,U8 0] [.int .i64 0,.int .i64 0,.int .u8 0] Gc2 Gce ⟨.inl O,.inl O,.inl O,G⟩ O O) O ?_))
 obtain⟨r4,hr4,h⟩:=Ge h
 refine JLh (BL r4) (Gt O (Gc7 p1 (Slot.mk p2.G4 v3 half) r4 hr4) Jfd ⟨O,O,O,O,G⟩) O (Ru (BL r4) O (G7 (hK2 (Gr (fin1 BL h)))))

def G74 (x:Slot) (l:List Slot):Option Bool:=
 bif decide (x.Tier≤0) then
 (some true)
 else
 (bnd (G07 x.Half l x) fun r7=>
  bnd (bif ((!r7)&&(decide (x.Half=0))) then G07 1 l x else some default) fun r8=>
  bnd (bif ((!r7)&&((decide (x.Half=0))&&r8)) then G07 2 l x else some default) fun r9=>
  some (r7||(((decide (x.Half=0))&&r8)&&r9)))
theorem H9e (x:Slot) (l:List Slot) (r:Bool) (h:G74 x l=some r):Pure Ej 44 [.agg [G0 x.G4,G0 x.Tier,U8 x.Half],E8 l] (·=BL r):=by
 unfold G74 at h
 refine H1 [.tmp 4] Tryz.func44 O O (Jr fun hK1=>(JLh (.ptr 1111 0) (Jm (cs:=[G0 x.G4,G0 x.Tier,U8 x.Half]) 1111 O O O O O) O (JLh (.ptr 1112 0) (Jm (cs:=[E8 l]) 1112 O O O O O) O (Ru (BL false) O (G7 (hK1 (Gp [(2,.dptr [G0 x.G4,G0 x.Tier,U8 x.Half]),(3,.ptr 1112 0)] [(1112,.box 104 [E8 l])] 1111 rfl rfl rfl ⟨⟨_,rfl,.boxEq rfl rfl⟩,G⟩ rfl (by exact⟨.ptr,.conv (.same rfl),G⟩) (Gp [(2,.dptr [G0 x.G4,G0 x.Tier,U8 x.Half]),(3,.dptr [E8 l])] [] 1112 rfl rfl rfl G rfl (by exact⟨.conv (.same rfl),.ptr,G⟩) (Js fun hK2=>Jr fun hK3=>(JLh (.dptr [G0 x.Tier,U8 x.Half]) (Ga Ry O O O) O (JLh (G0 x.Tier) (Gf Gc O O O) O (JLh (BL (decide (x.Tier≤0))) (Ha1 O O O) O (G7 (hK3 ?_))))))))))))))
 refine JCc O h (fun h hb=>?_) (fun h hb=>?_)
 ·
  refine Jr fun hK4=>(Ru (BL true) O (G7 (hK4 (Gr (fin1 BL h)))))
 ·
  refine Gn (hK2 (Jr fun hK5=>(JLh (.fn 76 [.dptr [E8 l],.dptr [G0 x.G4,G0 x.Tier,U8 x.Half]]) (Rk (cs:=[.dptr [E8 l],.dptr [G0 x.G4,G0 x.Tier,U8 x.Half]]) O O) O (Ru (.fn 76 [.dptr [E8 l],.dptr [G0 x.G4,G0 x.Tier,U8 x.Half]]) O (G7 (hK5 (Jr fun hK6=>(Ru (.fn 76 [.dptr [E8 l],.dptr [G0 x.G4,G0 x.Tier,U8 x.Half]]) O (JLh (.dptr [U8 x.Half]) (Ga Yh O O O) O (JLh (U8 x.Half) (Gf J6 O O O) O ?_))))))))))
  obtain⟨r7,hr7,h⟩:=Ge h
  refine JLh (BL r7) (G15 (args:=[U8 x.Half]) (caps:=[.dptr [E8 l],.dptr [G0 x.G4,G0 x.Tier,U8 x.Half]]) O O (Gbc x.Half l x r7 hr7) Ha6 ⟨O,O,G⟩ O) O (Ru (BL r7) O (JLo (.dptr [U8 x.Half]) [] O .scf G (fun hc=>Ga Yh O O O) O (JLo (U8 x.Half) [15] O .scf ⟨Ua,G⟩ (fun hc=>Gf J6 O O O) O (JLo (BL (decide (x.Half=0))) [16] O .scf ⟨Ua,G⟩ (fun hc=>Qh O O O) O (JLo (BL (decide (x.Half=0))) [17] O .scf ⟨Ua,G⟩ (fun hc=>G6 O O) O (JLo (.fn 76 [.dptr [E8 l],.dptr [G0 x.G4,G0 x.Tier,U8 x.Half]]) [] O .optt G (fun hc=>G6 O O) O ?_))))))
  obtain⟨r8,hr8,h⟩:=Ge h
  refine JLo (BL r8) [19] O .optt ⟨Ua,G⟩ (fun hc=>G15 (args:=[U8 1]) (caps:=[.dptr [E8 l],.dptr [G0 x.G4,G0 x.Tier,U8 x.Half]]) O O (Gbc 1 l x r8 (H2 hc hr8)) Ha6 ⟨O,O,G⟩ O) O (Gb (u:=BL ((decide (x.Half=0))&&r8)) [(18,BL (decide (x.Half=0))),(20,_)] O O O .scf ⟨.all id,.part,G⟩ (fun hc=>Qa O O O O) ?_)
  refine JLo (BL ((decide (x.Half=0))&&r8)) [21] O .scf ⟨Ua,G⟩ (fun hc=>G6 O O) O (JLo (.fn 76 [.dptr [E8 l],.dptr [G0 x.G4,G0 x.Tier,U8 x.Half]]) [] O .optt G (fun hc=>G6 O O) O ?_)
  obtain⟨r9,hr9,h⟩:=Ge h
  refine JLo (BL r9) [23] O .optt ⟨Ua,G⟩ (fun hc=>G15 (args:=[U8 2]) (caps:=[.dptr [E8 l],.dptr [G0 x.G4,G0 x.Tier,U8 x.Half]]) O O (Gbc 2 l x r9 (H2 hc hr9)) Ha6 ⟨O,O,G⟩ O) O (Gb (u:=BL (((decide (x.Half=0))&&r8)&&r9)) [(22,BL ((decide (x.Half=0))&&r8)),(24,_)] O O O .scf ⟨.all id,.part,G⟩ (fun hc=>Qa O O O O) ?_)
  refine JLh (BL (r7||(((decide (x.Half=0))&&r8)&&r9))) (G09 O O O O) O (Ru (BL (r7||(((decide (x.Half=0))&&r8)&&r9))) O (G7 (hK6 (Gr (fin1 BL h)))))

def G2b (a:Int) (b:Int):Option Bool:=
 some (((decide (a=b))||(decide (a=0)))||(decide (b=0)))
theorem H4a (a:Int) (b:Int) (r:Bool) (h:G2b a b=some r):Pure Ej 78 [U8 a,U8 b] (·=BL r):=by
 unfold G2b at h
 refine H1 [.tmp 4] Tryz.func78 O O (Jr fun hK1=>(Ru (BL false) O (G7 (hK1 (Jr fun hK2=>(Ru (U8 a) O (Ru (U8 b) O (JLh (BL (decide (a=b))) (Qh O O O) O (Ru (BL (decide (a=b))) O (JLo (U8 a) [] O .scf G (fun hc=>G6 O O) O (JLo (BL (decide (a=0))) [9] O .scf ⟨Ua,G⟩ (fun hc=>Qh O O O) O (JLh (BL ((decide (a=b))||(decide (a=0)))) (G09 O O O O) O (Ru (BL ((decide (a=b))||(decide (a=0)))) O (JLo (U8 b) [] O .scf G (fun hc=>G6 O O) O (JLo (BL (decide (b=0))) [13] O .scf ⟨Ua,G⟩ (fun hc=>Qh O O O) O (JLh (BL (((decide (a=b))||(decide (a=0)))||(decide (b=0)))) (G09 O O O O) O (Ru (BL (((decide (a=b))||(decide (a=0)))||(decide (b=0)))) O (G7 (hK2 (Gr (fin1 BL h)))))))))))))))))))))

def G73 (a:Slot) (b:Slot):Option Bool:=
 bnd (bif ((decide (a.G4=b.G4))&&(decide (a.Tier=b.Tier))) then G2b a.Half b.Half else some default) fun r3=>
 some (((decide (a.G4=b.G4))&&(decide (a.Tier=b.Tier)))&&r3)
theorem H9d (a:Slot) (b:Slot) (r:Bool) (h:G73 a b=some r):Pure Ej 45 [.agg [G0 a.G4,G0 a.Tier,U8 a.Half],.agg [G0 b.G4,G0 b.Tier,U8 b.Half]] (·=BL r):=by
 unfold G73 at h
 refine H1 [.tmp 4] Tryz.func45 O O (Jr fun hK1=>(JLh (.ptr 1113 0) (Jm (cs:=[G0 a.G4,G0 a.Tier,U8 a.Half]) 1113 O O O O O) O (JLh (.ptr 1114 0) (Jm (cs:=[G0 b.G4,G0 b.Tier,U8 b.Half]) 1114 O O O O O) O (Ru (BL false) O (G7 (hK1 (Gp [(2,.dptr [G0 a.G4,G0 a.Tier,U8 a.Half]),(3,.ptr 1114 0)] [(1114,.box 78 [G0 b.G4,G0 b.Tier,U8 b.Half])] 1113 rfl rfl rfl ⟨⟨_,rfl,.boxEq rfl rfl⟩,G⟩ rfl (by exact⟨.ptr,.conv (.same rfl),G⟩) (Gp [(2,.dptr [G0 a.G4,G0 a.Tier,U8 a.Half]),(3,.dptr [G0 b.G4,G0 b.Tier,U8 b.Half])] [] 1114 rfl rfl rfl G rfl (by exact⟨.conv (.same rfl),.ptr,G⟩) ?_))))))))
 refine Jr fun hK2=>(JLh (.dptr [G0 a.G4,G0 a.Tier,U8 a.Half]) (Ga Jf O O O) O (JLh (G0 a.G4) (Gf Gc O O O) O (JLh (.dptr [G0 b.G4,G0 b.Tier,U8 b.Half]) (Ga Jf O O O) O (JLh (G0 b.G4) (Gf Gc O O O) O (JLh (BL (decide (a.G4=b.G4))) (Qh O O O) O (Ru (BL (decide (a.G4=b.G4))) O (JLo (.dptr [G0 a.Tier,U8 a.Half]) [] O .sct G (fun hc=>Ga Ry O O O) O (JLo (G0 a.Tier) [11] O .sct ⟨Ua,G⟩ (fun hc=>Gf Gc O O O) O (JLo (.dptr [G0 b.Tier,U8 b.Half]) [] O .sct G (fun hc=>Ga Ry O O O) O (JLo (G0 b.Tier) [13] O .sct ⟨Ua,G⟩ (fun hc=>Gf Gc O O O) O (JLo (BL (decide (a.Tier=b.Tier))) [12,14] O .sct ⟨Ua,Ua,G⟩ (fun hc=>Qh O O O) O (JLh (BL ((decide (a.G4=b.G4))&&(decide (a.Tier=b.Tier)))) (Qa O O O O) O (Ru (BL ((decide (a.G4=b.G4))&&(decide (a.Tier=b.Tier)))) O ?_)))))))))))))
 refine JLo (.dptr [U8 a.Half]) [] O .sct G (fun hc=>Ga Yh O O O) O (JLo (U8 a.Half) [18] O .sct ⟨Ua,G⟩ (fun hc=>Gf J6 O O O) O (JLo (.dptr [U8 b.Half]) [] O .sct G (fun hc=>Ga Yh O O O) O (JLo (U8 b.Half) [20] O .sct ⟨Ua,G⟩ (fun hc=>Gf J6 O O O) O ?_)))
 obtain⟨r3,hr3,h⟩:=Ge h
 refine JLo (BL r3) [19,21] O .sct ⟨Ua,Ua,G⟩ (fun hc=>Gt (args:=[U8 a.Half,U8 b.Half]) O (H4a a.Half b.Half r3 (H2 hc hr3)) J5b ⟨O,O,O,O,G⟩) O (JLh (BL (((decide (a.G4=b.G4))&&(decide (a.Tier=b.Tier)))&&r3)) (Qa O O O O) O (Ru (BL (((decide (a.G4=b.G4))&&(decide (a.Tier=b.Tier)))&&r3)) O (G7 (hK2 (Gr (fin1 BL h))))))

def Gac (b:Gd):Option Int:=
 bif b.High then
 (some 2896)
 else
 (some 2591)
theorem M_stow_tall_w (b:Gd) (r:Int) (h:Gac b=some r):Pure Ej 102 [.agg (Gd.cs b)] (·=G0 r):=by
 unfold Gac at h
 refine H1 [.tmp 2] Tryz.func102 O O (Jr fun hK1=>(JLh (.ptr 1158 0) (Jm (cs:=(Gd.cs b)) 1158 O O O O O) O (Ru (G0 0) O (G7 (hK1 (Gp [(1,Ee b)] [] 1158 rfl rfl rfl G rfl (by exact⟨.ptr,G⟩) (Js fun hK2=>Jr fun hK3=>(JLh (.dptr [BL b.High,G0 b.Kilos,G0 b.Load,G0 b.Discharge,U8 b.Class,BL b.Reefer]) (Ga H07 O O O) O (JLh (BL b.High) (Gf Q9 O O O) O (G7 (hK3 (JCc O h (fun h hb=>?_) (fun h hb=>?_)))))))))))))
 ·
  refine Jr fun hK4=>(Ru (G0 2896) O (G7 (hK4 (Gr (fin1 G0 h)))))
 ·
  refine Gn (hK2 (Jr fun hK5=>(Ru (G0 2591) O (G7 (hK5 (Gr (fin1 G0 h)))))))

def G2a (boxes:List Gd) (l:List Stowed) (column:Int) (half:Int):Option Int:=
 each (fun y27 i27 (s27:Int) nx27=>
  jp (fun kj30=>
   bif ((decide (y27.Slot.G4=column))&&((decide (y27.Slot.Half=half))||(decide (y27.Slot.Half=0)))) then
   (bnd (G3c boxes y27.Gd) fun r34=>
    bif r34.2 then
    (bnd (Gac r34.1) fun r36=>
     G0d (s27+r36) fun v37=>
     kj30 v37)
    else
    (kj30 s27))
   else
   (kj30 s27)) fun(j30:Int)=>
  nx27 j30)
 (fun(s27:Int)=>
  some s27) l 0 0
theorem H49 (boxes:List Gd) (l:List Stowed) (column:Int) (half:Int) (r:Int) (h:G2a boxes l column half=some r):Pure Ej 79 [E2 boxes,E0 l,G0 column,U8 half] (·=G0 r):=by
 unfold G2a at h
 refine H1 [.tmp 8] Tryz.func79 O O (Jr fun hK1=>(Ru (G0 0) O (G7 (hK1 (Jr fun hK2=>(Ru (G0 0) O (G7 (hK2 (Js fun hK3=>Jr fun hK4=>(Ru (E0 l) O (JLl Gx O O O fun hm15=>(Ru (G0 0) O (G7 (hK4 (Gq ?_)))))))))))))))
 obtain⟨b27,kx27,hb27,hkx27,h⟩:=Hx h
 refine Hg (fun i27 (s27:Int)=>each b27 kx27 (List.drop i27 l) i27 s27=some r) (fun i27 s27=>[(0,E2 boxes),(2,G0 column),(3,U8 half),(9,G0 s27),(14,E0 l),(15,Ei l.length),(16,Ei i27)]) (fun i27 s27=>[]) (fun i27=>l.length - i27) 0 0 h ⟨(by repeat' constructor),G,rfl⟩ ?_
 clear h
 intro i27 s27 hi27 K27 e27
 refine Jr fun hK28=>(JLh (BL (decide ((i27:Int) < (l.length:Int)))) (Hz O O O) O (G7 (hK28 (Js fun hK29=>Gk O (fun hb=>?_) (fun hb=>?_)))))
 ·
  have hk27:=Jb hb
  obtain⟨y27,nx27,hy27,hn27,h⟩:=Ho hi27 hk27
  replace h:=Rw hb27 h
  refine Gn (hK29 ?_)
  obtain⟨kj30,hkj30,h⟩:=Rg h
  refine Qg (fun j30:Int=>kj30 j30=some r) (fun j30=>[(0,E2 boxes),(2,G0 column),(3,U8 half),(9,G0 j30),(14,E0 l),(15,Ei l.length),(16,Ei i27)]) (fun j30=>[]) (fun Kj30 ej30=>?_) ?_
  ·
   refine Gq (Jr fun hK31=>(JLh (Ed y27) (H4 (f:=Stowed.av) (xs:=l) (y:=y27) O O O Gx hy27 O) O (JLh (.agg (Stowed.cs y27)) (Gi Q0 O O O) O (JLh (.ptr 1142 0) (Hn 1142 4 Je O O) O (Hs (u:=.junk) (Ha (u:=.agg (Stowed.cs y27)) (ds:=[G0 y27.Gd,G0 y27.Slot.G4,G0 y27.Slot.Tier,U8 y27.Slot.Half]) Qv O O O O O O O O) (G7 (hK31 (Gp [(0,E2 boxes),(2,G0 column),(3,U8 half),(9,G0 s27),(11,Ed y27),(14,E0 l),(15,Ei l.length),(16,Ei i27)] [] 1142 rfl rfl rfl G rfl (by repeat' (first | exact .ptr | constructor)) ?_))))))))
   refine Jr fun hK32=>(JLh (.dptr ((Stowed.cs y27).drop 1)) (Ga J1 O O O) O (JLh (.dptr ((Stowed.cs y27).drop 1)) (Ga Jf O O O) O (JLh (G0 y27.Slot.G4) (Gf Gc O O O) O (Ru (G0 column) O (JLh (BL (decide (y27.Slot.G4=column))) (Qh O O O) O (Ru (BL (decide (y27.Slot.G4=column))) O (JLo (.dptr ((Stowed.cs y27).drop 1)) [] O .sct G (fun hc=>Ga J1 O O O) O (JLo (.dptr [U8 y27.Slot.Half]) [26] O .sct ⟨Ua,G⟩ (fun hc=>Ga Yh O O O) O (JLo (U8 y27.Slot.Half) [27] O .sct ⟨Ua,G⟩ (fun hc=>Gf J6 O O O) O (JLo (U8 half) [] O .sct G (fun hc=>G6 O O) O (JLo (BL (decide (y27.Slot.Half=half))) [28,29] O .sct ⟨Ua,Ua,G⟩ (fun hc=>Qh O O O) O (JLo (BL (decide (y27.Slot.Half=half))) [30] O .sct ⟨Ua,G⟩ (fun hc=>G6 O O) O (JLo (.dptr ((Stowed.cs y27).drop 1)) [] O .optf G (fun hc=>Ga J1 O O O) O ?_)))))))))))))
   refine JLo (.dptr [U8 y27.Slot.Half]) [32] O .optf ⟨Ua,G⟩ (fun hc=>Ga Yh O O O) O (JLo (U8 y27.Slot.Half) [33] O .optf ⟨Ua,G⟩ (fun hc=>Gf J6 O O O) O (JLo (BL (decide (y27.Slot.Half=0))) [34] O .optf ⟨Ua,G⟩ (fun hc=>Qh O O O) O (Gb (u:=BL ((decide (y27.Slot.Half=half))||(decide (y27.Slot.Half=0)))) [(31,BL (decide (y27.Slot.Half=half))),(35,_)] O O O .sct ⟨.all id,.part,G⟩ (fun hc=>G09 O O O O) ?_)))
   refine JLh (BL ((decide (y27.Slot.G4=column))&&((decide (y27.Slot.Half=half))||(decide (y27.Slot.Half=0))))) (Qa O O O O) O (G7 (hK32 (JCc O h (fun h hb=>?_) (fun h hb=>?_))))
   ·
    refine Jr fun hK33=>(Ru (E2 boxes) O (JLh (Ed y27) (Ga Hv O O O) O (JLh (G0 y27.Gd) (Gf Gc O O O) O ?_)))
    obtain⟨r34,hr34,h⟩:=Ge h
    refine JLh (.tup [.agg (Gd.cs r34.1),BL r34.2]) (Gt O (H0d boxes y27.Gd r34 hr34) Ha8 ⟨O,O,O,O,G⟩) O (Ru (.tup [.agg (Gd.cs r34.1),BL r34.2]) O (JLh (.agg (Gd.cs r34.1)) (H6 O O O) O (JLh (BL r34.2) (H6 O O O) O (JLh (.ptr 1143 0) (Hn 1143 9 Rn O O) O (Hs (u:=.junk) (Ha (u:=.agg (Gd.cs r34.1)) (ds:=(Gd.cs r34.1)) Yv O O O O O O O O) (Ru (BL r34.2) O (G7 (hK33 ?_))))))))
    refine Gp [(0,E2 boxes),(2,G0 column),(3,U8 half),(9,G0 s27),(12,Ee r34.1),(13,BL r34.2),(14,E0 l),(15,Ei l.length),(16,Ei i27)] [] 1143 rfl rfl rfl G rfl (by repeat' (first | exact .ptr | constructor)) (Jr fun hK35=>(Ru (BL r34.2) O (G7 (hK35 (JCc O h (fun h hb=>?_) (fun h hb=>?_))))))
    ·
     refine G3 (Ru (G0 s27) O (JLh (.agg (Gd.cs r34.1)) (Gi Zc O O O) O ?_))
     obtain⟨r36,hr36,h⟩:=Ge h
     refine JLh (G0 r36) (Gt O (M_stow_tall_w r34.1 r36 hr36) Jde ⟨O,O,G⟩) O ?_
     obtain⟨v37,hv37,h⟩:=J7 h
     refine JLh (G0 v37) (Hu hv37 O O O) O (Ru (G0 v37) O (G7 (ej30 _ _ v37 h ⟨(by repeat' constructor),G,rfl⟩)))
    ·
     refine Gn (ej30 _ _ s27 h ⟨(by repeat' constructor),G,rfl⟩)
   ·
    refine Gn (ej30 _ _ s27 h ⟨(by repeat' constructor),G,rfl⟩)
  ·intro j30 h
   replace h:=app1 hkj30 h
   refine G3 (JLh (G0 ((i27+1:Nat):Int)) (Hu (He hk27 hm15) O O O) O (Ru (G0 ((i27+1:Nat):Int)) O (G7 (e27 _ _ (i27+1) j30 (app1 hn27 h) (by omega) ⟨(by repeat' constructor),G,rfl⟩))))
 ·
  have h:=app1 hkx27 (Hp hi27 (H7 hb))
  refine Hr (hK3 (Jr fun hK38=>(Ru (G0 s27) O (Ru (G0 s27) O (G7 (hK38 (Gr (fin1 G0 h))))))))

def G3a (s:Gw) (boxes:List Gd) (l:List Stowed) (column:Int):Option Bool:=
 Rx s.Columns column fun y3=>
 bnd (bif (!(decide (y3.Height≤0))) then G2a boxes l column 1 else some default) fun r6=>
 bnd (bif ((!(decide (y3.Height≤0)))&&(decide (r6≤y3.Height))) then G2a boxes l column 2 else some default) fun r7=>
 some ((decide (y3.Height≤0))||((decide (r6≤y3.Height))&&(decide (r7≤y3.Height))))
theorem H9b (s:Gw) (boxes:List Gd) (l:List Stowed) (column:Int) (r:Bool) (h:G3a s boxes l column=some r):Pure Ej 46 [.agg (Gw.cs s),E2 boxes,E0 l,G0 column] (·=BL r):=by
 unfold G3a at h
 refine H1 [.tmp 8] Tryz.func46 O O (Jr fun hK1=>(JLh (.ptr 1115 0) (Jm (cs:=(Gw.cs s)) 1115 O O O O O) O (Ru (BL false) O (G7 (hK1 (Gp [(1,E2 boxes),(2,E0 l),(3,G0 column),(4,Ec s)] [] 1115 rfl rfl rfl G rfl (by repeat' (first | exact .ptr | constructor)) ?_))))))
 refine Jr fun hK2=>(JLh (Ec s) (Ga J2 O O O) O (JLh (E3 s.Columns) (Gf Ja O O O) O (Ru (G0 column) O ?_)))
 obtain⟨m4,y3,hm4,hy3,h⟩:=Yd h
 refine JLh (Ef y3) (H4 (f:=G4.av) (xs:=s.Columns) (y:=y3) O O O J5 hy3 hm4) O (JLh (.dptr ((G4.cs y3).drop 4)) (Ga H99 O O O) O (JLh (G0 y3.Height) (Gf Gc O O O) O (Ru (G0 y3.Height) O (G7 (hK2 (Jr fun hK5=>(Ru (G0 y3.Height) O (JLh (BL (decide (y3.Height≤0))) (Ha1 O O O) O (Ru (BL (decide (y3.Height≤0))) O (JLo (E2 boxes) [] O .scf G (fun hc=>G6 O O) O (JLo (E0 l) [] O .scf G (fun hc=>G6 O O) O (JLo (G0 column) [] O .scf G (fun hc=>G6 O O) O ?_))))))))))))
 obtain⟨r6,hr6,h⟩:=Ge h
 refine JLo (G0 r6) [19,20,21] O .scf ⟨Ua,Ua,Ua,G⟩ (fun hc=>Gt (args:=[E2 boxes,E0 l,G0 column,U8 1]) O (H49 boxes l column 1 r6 (H2 hc hr6)) J5a ⟨O,O,O,O,O,O,O,O,G⟩) O (JLo (G0 y3.Height) [] O .scf G (fun hc=>G6 O O) O (JLo (BL (decide (r6≤y3.Height))) [22,23] O .scf ⟨Ua,Ua,G⟩ (fun hc=>Ha1 O O O) O (JLo (BL (decide (r6≤y3.Height))) [24] O .scf ⟨Ua,G⟩ (fun hc=>G6 O O) O (JLo (E2 boxes) [] O .optt G (fun hc=>G6 O O) O (JLo (E0 l) [] O .optt G (fun hc=>G6 O O) O (JLo (G0 column) [] O .optt G (fun hc=>G6 O O) O ?_))))))
 obtain⟨r7,hr7,h⟩:=Ge h
 refine JLo (G0 r7) [26,27,28] O .optt ⟨Ua,Ua,Ua,G⟩ (fun hc=>Gt (args:=[E2 boxes,E0 l,G0 column,U8 2]) O (H49 boxes l column 2 r7 (H2 hc hr7)) J5a ⟨O,O,O,O,O,O,O,O,G⟩) O (JLo (G0 y3.Height) [] O .optt G (fun hc=>G6 O O) O (JLo (BL (decide (r7≤y3.Height))) [29,30] O .optt ⟨Ua,Ua,G⟩ (fun hc=>Ha1 O O O) O (Gb (u:=BL ((decide (r6≤y3.Height))&&(decide (r7≤y3.Height)))) [(25,BL (decide (r6≤y3.Height))),(31,_)] O O O .scf ⟨.all id,.part,G⟩ (fun hc=>Qa O O O O) ?_)))
 refine JLh (BL ((decide (y3.Height≤0))||((decide (r6≤y3.Height))&&(decide (r7≤y3.Height))))) (G09 O O O O) O (Ru (BL ((decide (y3.Height≤0))||((decide (r6≤y3.Height))&&(decide (r7≤y3.Height))))) O (G7 (hK5 (Gr (fin1 BL h)))))

def R2 (s:Gw) (boxes:List Gd) (l:List Stowed):Option Bool:=
 bnd (G1f s) fun r4=>
 bif (!r4) then
 (some false)
 else
 (bnd (G48 l) fun r7=>
  each (fun y10 i10 (s10:Unit) nx10=>
   bnd (G3c boxes y10.Gd) fun r16=>
   bnd (bif ((!(!r16.2))&&(decide (0 < (i10:Int)))) then G0d ((i10:Int) - 1) some else some 0) fun v19=>
   bnd (bif ((!(!r16.2))&&(decide (0 < (i10:Int)))) then Rx l v19 some else some default) fun y20=>
   bnd (bif (!((!r16.2)||((decide (0 < (i10:Int)))&&(decide (y10.Gd≤y20.Gd))))) then G4a s y10.Slot r16.1.Size else some default) fun r21=>
   bnd (bif (!(((!r16.2)||((decide (0 < (i10:Int)))&&(decide (y10.Gd≤y20.Gd))))||(!r21))) then G74 y10.Slot r7 else some default) fun r22=>
   bif ((((!r16.2)||((decide (0 < (i10:Int)))&&(decide (y10.Gd≤y20.Gd))))||(!r21))||(!r22)) then
   (some false)
   else
   (bnd (H5a (i10:Int) r7.length) fun m25=>
    each (fun y42 i42 (s42:Unit) nx42=>
     bnd (G73 y10.Slot y42) fun r48=>
     bif r48 then
     (some false)
     else
     (nx42 ()))
    (fun(s42:Unit)=>
     nx10 ()) (r7.take m25) 0 ()))
  (fun(s10:Unit)=>
   each (fun y64 i64 (s64:Unit) nx64=>
    bnd (G3a s boxes l (i64:Int)) fun r70=>
    bif (!r70) then
    (some false)
    else
    (nx64 ()))
   (fun(s64:Unit)=>
    some true) s.Columns 0 ()) l 0 ())
theorem G11 (s:Gw) (boxes:List Gd) (l:List Stowed) (r:Bool) (h:R2 s boxes l=some r):Pure Ej 17 [.agg (Gw.cs s),E2 boxes,E0 l] (·=BL r):=by
 unfold R2 at h
 refine H1 [.tmp 6] Tryz.func17 O O (Jr fun hK1=>(JLh (.ptr 1054 0) (Jm (cs:=(Gw.cs s)) 1054 O O O O O) O (Ru (BL false) O (G7 (hK1 (Gp [(1,E2 boxes),(2,E0 l),(3,Ec s)] [] 1054 rfl rfl rfl G rfl (by exact⟨.conv (.same rfl),.conv (.same rfl),.ptr,G⟩) (Js fun hK2=>?_)))))))
 refine Jr fun hK3=>(JLh (.agg (Gw.cs s)) (Gi Hq O O O) O ?_)
 obtain⟨r4,hr4,h⟩:=Ge h
 refine JLh (BL r4) (Gt O (H70.down s r4 hr4) J6c ⟨O,O,G⟩) O (JLh (BL (!r4)) (Rj (b:=r4) O O) O (G7 (hK3 (JCc O h (fun h hb=>?_) (fun h hb=>?_)))))
 ·
  refine Jr fun hK5=>(Ru (BL false) O (G7 (hK5 (Gr (fin1 BL h)))))
 ·
  refine Gn (hK2 (Jr fun hK6=>(Ru (E0 l) O ?_)))
  obtain⟨r7,hr7,h⟩:=Ge h
  refine JLh (E8 r7) (Gt O (H71 l r7 hr7) J67 ⟨O,O,G⟩) O (Ru (E8 r7) O (G7 (hK6 (Js fun hK8=>Jr fun hK9=>(Ru (E0 l) O (JLl Gx O O O fun hm21=>(Ru (G0 0) O (G7 (hK9 (Gq ?_))))))))))
  obtain⟨b10,kx10,hb10,hkx10,h⟩:=Hx h
  refine Hg (fun i10 (s10:Unit)=>each b10 kx10 (List.drop i10 l) i10 s10=some r) (fun i10 s10=>[(1,E2 boxes),(2,E0 l),(3,Ec s),(7,E8 r7),(20,E0 l),(21,Ei l.length),(22,Ei i10)]) (fun i10 s10=>[]) (fun i10=>l.length - i10) 0 () h ⟨(by repeat' constructor),G,rfl⟩ ?_
  clear h
  intro i10 s10 hi10 K10 e10
  refine Jr fun hK11=>(JLh (BL (decide ((i10:Int) < (l.length:Int)))) (Hz O O O) O (G7 (hK11 (Js fun hK12=>Gk O (fun hb=>?_) (fun hb=>?_)))))
  ·
   have hk10:=Jb hb
   obtain⟨y10,nx10,hy10,hn10,h⟩:=Ho hi10 hk10
   replace h:=Rw hb10 h
   refine Gn (hK12 (Js fun hK13=>Gq (Jr fun hK14=>(Ru (Ei i10) O (JLh (Ed y10) (H4 (f:=Stowed.av) (xs:=l) (y:=y10) O O O Gx hy10 O) O (JLh (.agg (Stowed.cs y10)) (Gi Q0 O O O) O (JLh (.ptr 1055 0) (Hn 1055 4 Je O O) O (Ru (Ei i10) O (Hs (u:=.junk) (Ha (u:=.agg (Stowed.cs y10)) (ds:=[G0 y10.Gd,G0 y10.Slot.G4,G0 y10.Slot.Tier,U8 y10.Slot.Half]) Qv O O O O O O O O) (G7 (hK14 ?_)))))))))))
   refine Gp [(1,E2 boxes),(2,E0 l),(3,Ec s),(7,E8 r7),(8,Ei i10),(9,Ed y10),(20,E0 l),(21,Ei l.length),(22,Ei i10)] [] 1055 rfl rfl rfl G rfl (by repeat' (first | exact .ptr | constructor)) (Jr fun hK15=>(Ru (E2 boxes) O (JLh (Ed y10) (Ga Hv O O O) O (JLh (G0 y10.Gd) (Gf Gc O O O) O ?_))))
   obtain⟨r16,hr16,h⟩:=Ge h
   refine JLh (.tup [.agg (Gd.cs r16.1),BL r16.2]) (Gt O (H0d boxes y10.Gd r16 hr16) Ha8 ⟨O,O,O,O,G⟩) O (Ru (.tup [.agg (Gd.cs r16.1),BL r16.2]) O (JLh (.agg (Gd.cs r16.1)) (H6 O O O) O (JLh (BL r16.2) (H6 O O O) O (JLh (.ptr 1056 0) (Hn 1056 9 Rn O O) O (Hs (u:=.junk) (Ha (u:=.agg (Gd.cs r16.1)) (ds:=(Gd.cs r16.1)) Yv O O O O O O O O) (Ru (BL r16.2) O (G7 (hK15 ?_))))))))
   refine Gp [(1,E2 boxes),(2,E0 l),(3,Ec s),(7,E8 r7),(8,Ei i10),(9,Ed y10),(10,Ee r16.1),(11,BL r16.2),(20,E0 l),(21,Ei l.length),(22,Ei i10)] [] 1056 rfl rfl rfl G rfl (by repeat' (first | exact .ptr | constructor)) (Js fun hK17=>Js fun hK18=>?_)
   obtain⟨v19,hv19,h⟩:=Ge h
   obtain⟨y20,hy20,h⟩:=Ge h
   obtain⟨r21,hr21,h⟩:=Ge h
   obtain⟨r22,hr22,h⟩:=Ge h
   refine JC_d0 Qb (by kernel_rfl) (Dq (BL r16.2) (G6 O O) O (Dq (BL (!r16.2)) (Rj (b:=r16.2) O O) O (Dq (BL (!r16.2)) (G6 O O) O (Do (Ei i10) [] O .scf G (fun hc=>G6 O O) O (Do (BL (decide (0 < (i10:Int)))) [37] O .scf ⟨Ua,G⟩ (fun hc=>G76 O O O) O (Do (BL (decide (0 < (i10:Int)))) [38] O .scf ⟨Ua,G⟩ (fun hc=>G6 O O) O (Do (Ed y10) [] O .optt G (fun hc=>Ga Hv O O O) O (Do (G0 y10.Gd) [40] O .optt ⟨Ua,G⟩ (fun hc=>Gf Gc O O O) O (Do (E0 l) [] O .optt G (fun hc=>G6 O O) O (Do (Ei i10) [] O .optt G (fun hc=>G6 O O) O (Do (G0 v19) [43] O .optt ⟨Ua,G⟩ (fun hc=>Gea (H16 (H2 hc hv19)) O O O) O (Do (Ed y20) [42,44] O .optt ⟨Ua,Ua,G⟩ (fun hc=>(match Qq (H2 hc hy20) with | ⟨_,hm_,hy_⟩=>H4 (f:=Stowed.av) (xs:=l) (y:=y20) O O O Gx hy_ hm_)) O (Do (Ed y20) [45] O .optt ⟨Ua,G⟩ (fun hc=>Ga Hv O O O) O ?_)))))))))))))
   refine Do (G0 y20.Gd) [46] O .optt ⟨Ua,G⟩ (fun hc=>Gf Gc O O O) O (Do (BL (decide (y10.Gd≤y20.Gd))) [41,47] O .optt ⟨Ua,Ua,G⟩ (fun hc=>Ha1 O O O) O (Dg (.opt (!(!r16.2)) (BL ((decide (0 < (i10:Int)))&&(decide (y10.Gd≤y20.Gd))))) (Hh [(39,BL (decide (0 < (i10:Int)))),(48,_)] O O O .scf ⟨.all id,.part,G⟩ (fun hc=>Qa O O O O) O) O (Dq (BL ((!r16.2)||((decide (0 < (i10:Int)))&&(decide (y10.Gd≤y20.Gd))))) (G09 O O O O) O (Dq (BL ((!r16.2)||((decide (0 < (i10:Int)))&&(decide (y10.Gd≤y20.Gd))))) (G6 O O) O (Do (.agg (Gw.cs s)) [] O .scf G (fun hc=>Gi Hq O O O) O (Do (.dptr ((Stowed.cs y10).drop 1)) [] O .scf G (fun hc=>Ga J1 O O O) O (Do (.agg ((Stowed.cs y10).drop 1)) [53] O .scf ⟨Ua,G⟩ (fun hc=>Gi Jp O O O) O (Do (.dptr ((Gd.cs r16.1).drop 2)) [] O .scf G (fun hc=>Ga Z7 O O O) O (Do (U8 r16.1.Size) [55] O .scf ⟨Ua,G⟩ (fun hc=>Gf J6 O O O) O (Do (BL r21) [52,54,56] O .scf ⟨Ua,Ua,Ua,G⟩ (fun hc=>Gt (args:=[.agg (Gw.cs s),.agg ((Stowed.cs y10).drop 1),U8 r16.1.Size]) O (H73 s y10.Slot r16.1.Size r21 (H2 hc hr21)) J66 ⟨O,O,O,O,O,O,G⟩) O (Do (BL (!r21)) [57] O .scf ⟨Ua,G⟩ (fun hc=>Rj (b:=r21) O O) O (Dq (BL (((!r16.2)||((decide (0 < (i10:Int)))&&(decide (y10.Gd≤y20.Gd))))||(!r21))) (G09 O O O O) O (Dq (BL (((!r16.2)||((decide (0 < (i10:Int)))&&(decide (y10.Gd≤y20.Gd))))||(!r21))) (G6 O O) O ?_)))))))))))))
   refine Do (.dptr ((Stowed.cs y10).drop 1)) [] O .scf G (fun hc=>Ga J1 O O O) O (Do (.agg ((Stowed.cs y10).drop 1)) [61] O .scf ⟨Ua,G⟩ (fun hc=>Gi Jp O O O) O (Do (E8 r7) [] O .scf G (fun hc=>G6 O O) O (Do (BL r22) [62,63] O .scf ⟨Ua,Ua,G⟩ (fun hc=>Gt (args:=[.agg ((Stowed.cs y10).drop 1),E8 r7]) O (H9e y10.Slot r7 r22 (H2 hc hr22)) J65 ⟨O,O,O,O,G⟩) O (Do (BL (!r22)) [64] O .scf ⟨Ua,G⟩ (fun hc=>Rj (b:=r22) O O) O (Dq (BL ((((!r16.2)||((decide (0 < (i10:Int)))&&(decide (y10.Gd≤y20.Gd))))||(!r21))||(!r22))) (G09 O O O O) O (Dnil (hK18 (JCc O h (fun h hb=>?_) (fun h hb=>?_)))))))))
   ·
    refine Jr fun hK23=>(Ru (BL false) O (G7 (hK23 (Gr (fin1 BL h)))))
   ·
    refine Gn (hK17 (Jr fun hK24=>(Ru (E8 r7) O (Ru (Ei i10) O ?_))))
    obtain⟨m25,hm25,h⟩:=Ge h
    refine JLh (E8 (r7.take m25)) (Hbc (f:=Slot.av) (xs:=r7) O O O Y1 (G94 hm25)) O (JLl Y1 O O O fun hm70=>(Ru (G0 0) O (G7 (hK24 (Gq ?_)))))
    obtain⟨b42,kx42,hb42,hkx42,h⟩:=Hx h
    refine Hg (fun i42 (s42:Unit)=>each b42 kx42 (List.drop i42 (r7.take m25)) i42 s42=some r) (fun i42 s42=>[(1,E2 boxes),(2,E0 l),(3,Ec s),(7,E8 r7),(9,Ed y10),(20,E0 l),(21,Ei l.length),(22,Ei i10),(69,E8 (r7.take m25)),(70,G0 ((r7.take m25).length:Int)),(71,Ei i42)]) (fun i42 s42=>[]) (fun i42=>(r7.take m25).length - i42) 0 () h ⟨(by repeat' constructor),G,rfl⟩ ?_
    clear h
    intro i42 s42 hi42 K42 e42
    refine Jr fun hK43=>(JLh (BL (decide ((i42:Int) < ((r7.take m25).length:Int)))) (Hz O O O) O (G7 (hK43 (Js fun hK44=>Gk O (fun hb=>?_) (fun hb=>?_)))))
    ·
     have hk42:=Jb hb
     obtain⟨y42,nx42,hy42,hn42,h⟩:=Ho hi42 hk42
     replace h:=Rw hb42 h
     refine Gn (hK44 (Js fun hK45=>Gq (Jr fun hK46=>(JLh (Eg y42) (H4 (f:=Slot.av) (xs:=(r7.take m25)) (y:=y42) O O O Y1 hy42 O) O (JLh (.agg (Slot.cs y42)) (Gi Jp O O O) O (JLh (.ptr 1057 0) (Hn 1057 3 Rm O O) O (Hs (u:=.junk) (Ha (u:=.agg (Slot.cs y42)) (ds:=[G0 y42.G4,G0 y42.Tier,U8 y42.Half]) Ye O O O O O O O O) (G7 (hK46 ?_)))))))))
     refine Gp [(1,E2 boxes),(2,E0 l),(3,Ec s),(7,E8 r7),(9,Ed y10),(13,Eg y42),(20,E0 l),(21,Ei l.length),(22,Ei i10),(69,E8 (r7.take m25)),(70,G0 ((r7.take m25).length:Int)),(71,Ei i42)] [] 1057 rfl rfl rfl G rfl (by repeat' (first | exact .ptr | constructor)) ?_
     refine Jr fun hK47=>(JLh (.dptr ((Stowed.cs y10).drop 1)) (Ga J1 O O O) O (JLh (.agg ((Stowed.cs y10).drop 1)) (Gi Jp O O O) O (JLh (.agg (Slot.cs y42)) (Gi Jp O O O) O ?_)))
     obtain⟨r48,hr48,h⟩:=Ge h
     refine JLh (BL r48) (Gt O (H9d y10.Slot y42 r48 hr48) J64 ⟨O,O,O,O,G⟩) O (G7 (hK47 (JCc O h (fun h hb=>?_) (fun h hb=>?_))))
     ·
      refine Jr fun hK49=>(Ru (BL false) O (G7 (hK49 (Gr (fin1 BL h)))))
     ·
      refine Gn (hK45 (G3 (JLh (G0 ((i42+1:Nat):Int)) (Hu (He hk42 hm70) O O O) O (Ru (G0 ((i42+1:Nat):Int)) O (G7 (e42 _ _ (i42+1) () (app1 hn42 h) (by omega) ⟨(by repeat' constructor),G,rfl⟩))))))
    ·
     have h:=app1 hkx42 (Hp hi42 (H7 hb))
     refine Hr (hK13 (G3 (JLh (G0 ((i10+1:Nat):Int)) (Hu (He hk10 hm21) O O O) O (Ru (G0 ((i10+1:Nat):Int)) O (G7 (e10 _ _ (i10+1) () (app1 hn10 h) (by omega) ⟨(by repeat' constructor),G,rfl⟩))))))
  ·
   have h:=app1 hkx10 (Hp hi10 (H7 hb))
   refine Hr (hK8 (Js fun hK50=>Jr fun hK51=>(JLh (Ec s) (Ga J2 O O O) O (JLh (E3 s.Columns) (Gf Ja O O O) O (JLl J5 O O O fun hm83=>(Ru (G0 0) O (G7 (hK51 (Gq ?_)))))))))
   obtain⟨b64,kx64,hb64,hkx64,h⟩:=Hx h
   refine Hg (fun i64 (s64:Unit)=>each b64 kx64 (List.drop i64 s.Columns) i64 s64=some r) (fun i64 s64=>[(1,E2 boxes),(2,E0 l),(3,Ec s),(83,Ei s.Columns.length),(84,Ei i64)]) (fun i64 s64=>[]) (fun i64=>s.Columns.length - i64) 0 () h ⟨(by repeat' constructor),G,rfl⟩ ?_
   clear h
   intro i64 s64 hi64 K64 e64
   refine Jr fun hK65=>(JLh (BL (decide ((i64:Int) < (s.Columns.length:Int)))) (Hz O O O) O (G7 (hK65 (Js fun hK66=>Gk O (fun hb=>?_) (fun hb=>?_)))))
   ·
    have hk64:=Jb hb
    obtain⟨y64,nx64,hy64,hn64,h⟩:=Ho hi64 hk64
    replace h:=Rw hb64 h
    refine Gn (hK66 (Js fun hK67=>Gq (Jr fun hK68=>(Ru (Ei i64) O (Ru (Ei i64) O (G7 (hK68 (Jr fun hK69=>(JLh (.agg (Gw.cs s)) (Gi Hq O O O) O (Ru (E2 boxes) O (Ru (E0 l) O (Ru (Ei i64) O ?_))))))))))))
    obtain⟨r70,hr70,h⟩:=Ge h
    refine JLh (BL r70) (Gt O (H9b s boxes l (i64:Int) r70 hr70) J63 ⟨O,O,O,O,O,O,O,O,G⟩) O (JLh (BL (!r70)) (Rj (b:=r70) O O) O (G7 (hK69 (JCc O h (fun h hb=>?_) (fun h hb=>?_)))))
    ·
     refine Jr fun hK71=>(Ru (BL false) O (G7 (hK71 (Gr (fin1 BL h)))))
    ·
     refine Gn (hK67 (G3 (JLh (G0 ((i64+1:Nat):Int)) (Hu (He hk64 hm83) O O O) O (Ru (G0 ((i64+1:Nat):Int)) O (G7 (e64 _ _ (i64+1) () (app1 hn64 h) (by omega) ⟨(by repeat' constructor),G,rfl⟩))))))
   ·
    have h:=app1 hkx64 (Hp hi64 (H7 hb))
    refine Hr (hK50 (Jr fun hK72=>(Ru (BL true) O (G7 (hK72 (Gr (fin1 BL h)))))))

def M_twistlocklaw23_holds (l:List Stowed) (id_:Int):Option Bool:=
 each (fun y18 i18 (s18:Unit) nx18=>
  bif decide (y18.Gd=id_) then
  (some true)
  else
  (nx18 ()))
 (fun(s18:Unit)=>
  some false) l 0 ()
theorem G04 (l:List Stowed) (id_:Int) (r:Bool) (h:M_twistlocklaw23_holds l id_=some r):Pure Ej 11 [E0 l,G0 id_] (·=BL r):=by
 unfold M_twistlocklaw23_holds at h
 refine H1 [.tmp 4] Tryz.func11 O O (Jr fun hK1=>(Ru (BL false) O (G7 (hK1 (Js fun hK2=>Jr fun hK3=>(Ru (E0 l) O (JLl Gx O O O fun hm8=>(Ru (G0 0) O (G7 (hK3 (Gq ?_)))))))))))
 obtain⟨b18,kx18,hb18,hkx18,h⟩:=Hx h
 refine Hg (fun i18 (s18:Unit)=>each b18 kx18 (List.drop i18 l) i18 s18=some r) (fun i18 s18=>[(1,G0 id_),(7,E0 l),(8,Ei l.length),(9,Ei i18)]) (fun i18 s18=>[]) (fun i18=>l.length - i18) 0 () h ⟨(by repeat' constructor),G,rfl⟩ ?_
 clear h
 intro i18 s18 hi18 K18 e18
 refine Jr fun hK19=>(JLh (BL (decide ((i18:Int) < (l.length:Int)))) (Hz O O O) O (G7 (hK19 (Js fun hK20=>Gk O (fun hb=>?_) (fun hb=>?_)))))
 ·
  have hk18:=Jb hb
  obtain⟨y18,nx18,hy18,hn18,h⟩:=Ho hi18 hk18
  replace h:=Rw hb18 h
  refine Gn (hK20 (Js fun hK21=>Gq (Jr fun hK22=>(JLh (Ed y18) (H4 (f:=Stowed.av) (xs:=l) (y:=y18) O O O Gx hy18 O) O (JLh (.agg (Stowed.cs y18)) (Gi Q0 O O O) O (JLh (.ptr 1030 0) (Hn 1030 4 Je O O) O (Hs (u:=.junk) (Ha (u:=.agg (Stowed.cs y18)) (ds:=[G0 y18.Gd,G0 y18.Slot.G4,G0 y18.Slot.Tier,U8 y18.Slot.Half]) Qv O O O O O O O O) (G7 (hK22 (Gp [(1,G0 id_),(6,Ed y18),(7,E0 l),(8,Ei l.length),(9,Ei i18)] [] 1030 rfl rfl rfl G rfl (by repeat' (first | exact .ptr | constructor)) ?_))))))))))
  refine Jr fun hK23=>(JLh (Ed y18) (Ga Hv O O O) O (JLh (G0 y18.Gd) (Gf Gc O O O) O (Ru (G0 id_) O (JLh (BL (decide (y18.Gd=id_))) (Qh O O O) O (G7 (hK23 (JCc O h (fun h hb=>?_) (fun h hb=>?_))))))))
  ·
   refine Jr fun hK24=>(Ru (BL true) O (G7 (hK24 (Gr (fin1 BL h)))))
  ·
   refine Gn (hK21 (G3 (JLh (G0 ((i18+1:Nat):Int)) (Hu (He hk18 hm8) O O O) O (Ru (G0 ((i18+1:Nat):Int)) O (G7 (e18 _ _ (i18+1) () (app1 hn18 h) (by omega) ⟨(by repeat' constructor),G,rfl⟩))))))
 ·
  have h:=app1 hkx18 (Hp hi18 (H7 hb))
  refine Hr (hK2 (Jr fun hK25=>(Ru (BL false) O (G7 (hK25 (Gr (fin1 BL h)))))))

def Gc5 (s:Gw) (size:Int):Option Unit:=
 some ()
theorem J99 (s:Gw) (size:Int) (r:Unit) (h:Gc5 s size=some r):Pure Ej 70 [.agg (Gw.cs s),U8 size] (·=.fn 99 [.dptr (Gw.cs s),.dptr [U8 size]]):=by
 unfold Gc5 at h
 refine H1 [.tmp 4] Tryz.func70 O O (Jr fun hK1=>(JLh (.ptr 1137 0) (Jm (cs:=(Gw.cs s)) 1137 O O O O O) O (JLh (.ptr 1138 0) (Jm (cs:=[U8 size]) 1138 O O O O O) O (Ru (.sc .nilFunc) O (G7 (hK1 ?_))))))
 refine Gp [(2,Ec s),(3,.ptr 1138 0)] [(1138,.box 5 [U8 size])] 1137 rfl rfl rfl ⟨⟨_,rfl,.boxEq rfl rfl⟩,G⟩ rfl (by exact⟨.ptr,.conv (.same rfl),G⟩) (Gp [(2,Ec s),(3,.dptr [U8 size])] [] 1138 rfl rfl rfl G rfl (by exact⟨.conv (.same rfl),.ptr,G⟩) ?_)
 refine Jr fun hK2=>(JLh (.fn 99 [.dptr (Gw.cs s),.dptr [U8 size]]) (Rk (cs:=[.dptr (Gw.cs s),.dptr [U8 size]]) O O) O (Ru (.fn 99 [.dptr (Gw.cs s),.dptr [U8 size]]) O (G7 (hK2 ?_))))
 refine Gr (⟨[.fn 99 [.dptr (Gw.cs s),.dptr [U8 size]]],[],G,O,⟨⟨_,O,.conv (.same O)⟩,G⟩,O,congrArg (fun _:Unit=>(.fn 99 [.dptr (Gw.cs s),.dptr [U8 size]]:AV)) (Option.some.inj h)⟩)
end
end Go.Proofs.YtkcdjcgifgdanaaGreat
