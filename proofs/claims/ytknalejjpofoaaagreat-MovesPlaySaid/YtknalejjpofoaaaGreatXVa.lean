/-
 Models of functions of the program,and that they return what the models say.
-/
import Derived.Test.YtknalejjpofoaaaGreatSpecW
set_option maxRecDepth 100000
set_option maxHeartbeats 1000000
set_option linter.unusedVariables false
set_option linter.unusedSimpArgs false
namespace Go.Proofs.YtknalejjpofoaaaGreat
open Go.RowKit
noncomputable section
structure Hp where
 Bay:Int
 Row:Int
 Tiers:Int
 Deck:Bool
 deriving DecidableEq,Inhabited
def Hp.cs (x:Hp):List AV:=[U8 x.Bay,U8 x.Row,U8 x.Tiers,BL x.Deck]
def Hp.av (x:Hp):AV:=.agg x.cs
abbrev Ee:=LS 4 Hp.av
structure Gd where
 ID:Int
 Number:ByteArray
 Size:Int
 High:Bool
 Kilos:Int
 Load:Int
 Discharge:Int
 Class:Int
 Reefer:Bool
 deriving DecidableEq,Inhabited
def Gd.cs (x:Gd):List AV:=[G0 x.ID,ST x.Number,U8 x.Size,BL x.High,G0 x.Kilos,G0 x.Load,G0 x.Discharge,U8 x.Class,BL x.Reefer]
def Gd.av (x:Gd):AV:=.agg x.cs
abbrev Eh (x:Gd):AV:=.dptr (Gd.cs x)
abbrev E3:=LS 9 Gd.av
structure Hi where
 G4:Int
 Kilos:Int
 Load:Int
 Stay:Int
 Small:Bool
 High:Bool
 deriving DecidableEq,Inhabited
def Hi.cs (x:Hi):List AV:=[U8 x.G4,U8 x.Kilos,U8 x.Load,U8 x.Stay,BL x.Small,BL x.High]
def Hi.av (x:Hi):AV:=.agg x.cs
abbrev Ed:=LS 6 Hi.av
structure H4e where
 States:List (List Stowed)
 Water:List (List Int)
 deriving DecidableEq,Inhabited
def H4e.cs (x:H4e):List AV:=[LS 1 (E1) x.States,LS 1 (E2) x.Water]
def H4e.av (x:H4e):AV:=.agg x.cs
namespace XVF
open XAF
open XCF
theorem tq_54 (a b:Slot):Hb8 Ep 4 54 [.int .i64 a.G4,.int .i64 a.Tier,.int .u8 a.Half] [.int .i64 b.G4,.int .i64 b.Tier,.int .u8 b.Half]=some (decide (a=b)):=by
 refine(show _=some ((a.G4==b.G4)&&((a.Tier==b.Tier)&&((a.Half==b.Half)&&true))) by kernel_rfl).trans (congrArg some ?_)
 rw [Bool.eq_iff_iff]
 simp only [Bool.and_eq_true,beq_iff_eq,decide_eq_true_eq,Bool.and_true]
 constructor
 ·intro h; obtain⟨_,_,_⟩:=a; obtain⟨_,_,_⟩:=b; simp_all
 ·intro h; subst h; simp
theorem Ho:Gbf Ep 35 13=true:=by kernel_rfl
theorem Ga6:Gbf Ep 41 2=true:=by kernel_rfl
theorem G08:Gbf Ep 52 9=true:=by kernel_rfl
theorem Jh:Gbf Ep 54 3=true:=by kernel_rfl
theorem tf_agg_63:Gbf Ep 63 4=true:=by kernel_rfl
theorem tf_agg_72:Gbf Ep 72 6=true:=by kernel_rfl
theorem Jg:Gbf Ep 82 4=true:=by kernel_rfl
theorem J96:G14 Ep 54=true:=by kernel_rfl
theorem H7a:Jb3 Ep 4=true:=by kernel_rfl
theorem Qe1:H5 Ep 10=true:=by kernel_rfl
theorem J93:H5 Ep 100=true:=by kernel_rfl
theorem Q94:H5 Ep 101=true:=by kernel_rfl
theorem Qe0:H5 Ep 11=true:=by kernel_rfl
theorem Q8b:H5 Ep 112=true:=by kernel_rfl
theorem Q8a:H5 Ep 113=true:=by kernel_rfl
theorem Q89:H5 Ep 114=true:=by kernel_rfl
theorem J92:H5 Ep 115=true:=by kernel_rfl
theorem Q87:H5 Ep 119=true:=by kernel_rfl
theorem Q86:H5 Ep 120=true:=by kernel_rfl
theorem Q85:H5 Ep 121=true:=by kernel_rfl
theorem Q7f:H5 Ep 129=true:=by kernel_rfl
theorem Q7e:H5 Ep 130=true:=by kernel_rfl
theorem Jfd:H5 Ep 23=true:=by kernel_rfl
theorem Qd6:H5 Ep 24=true:=by kernel_rfl
theorem Jfc:H5 Ep 25=true:=by kernel_rfl
theorem Gd6:H5 Ep 26=true:=by kernel_rfl
theorem Qd5:H5 Ep 27=true:=by kernel_rfl
theorem Qd4:H5 Ep 28=true:=by kernel_rfl
theorem J27:H5 Ep 29=true:=by kernel_rfl
theorem J26:H5 Ep 45=true:=by kernel_rfl
theorem Jf9:H5 Ep 46=true:=by kernel_rfl
theorem Jf7:H5 Ep 57=true:=by kernel_rfl
theorem Jf6:H5 Ep 58=true:=by kernel_rfl
theorem Jf5:H5 Ep 59=true:=by kernel_rfl
theorem Jf4:H5 Ep 60=true:=by kernel_rfl
theorem Qc1:H5 Ep 61=true:=by kernel_rfl
theorem Qbf:H5 Ep 63=true:=by kernel_rfl
theorem J24:H5 Ep 79=true:=by kernel_rfl
theorem Qb9:H5 Ep 81=true:=by kernel_rfl
theorem Qb8:H5 Ep 82=true:=by kernel_rfl
theorem Qb7:H5 Ep 83=true:=by kernel_rfl
theorem H29:H5 Ep 85=true:=by kernel_rfl
theorem J23:H5 Ep 91=true:=by kernel_rfl
theorem Qb2:H5 Ep 92=true:=by kernel_rfl
theorem Jee:H5 Ep 93=true:=by kernel_rfl
theorem Jed:H5 Ep 94=true:=by kernel_rfl
theorem Qb1:H5 Ep 95=true:=by kernel_rfl
theorem J22:H5 Ep 97=true:=by kernel_rfl
theorem Qb0:H5 Ep 98=true:=by kernel_rfl
theorem J21:H5 Ep 99=true:=by kernel_rfl
theorem Jeb:Y2 Ep 48 1 24=true:=by kernel_rfl
theorem Jea:Y2 Ep 52 9 64=true:=by kernel_rfl
theorem Je9:Y2 Ep 54 3 24=true:=by kernel_rfl
theorem Qae:Y2 Ep 65 12 112=true:=by kernel_rfl
theorem Je7:Y2 Ep 69 2 32=true:=by kernel_rfl
theorem Q56:Ep.eqGuardType Ep.depth 54=false:=by kernel_rfl
theorem G28:Ji Ep 41 0 0=true:=by kernel_rfl
theorem Qf:Ji Ep 52 0 0=true:=by kernel_rfl
theorem G03:Ji Ep 52 2 2=true:=by kernel_rfl
theorem H6b:Ji Ep 52 3 3=true:=by kernel_rfl
theorem G02:Ji Ep 52 5 5=true:=by kernel_rfl
theorem G27:Ji Ep 52 6 6=true:=by kernel_rfl
theorem J9:Ji Ep 54 0 0=true:=by kernel_rfl
theorem Qi:Ji Ep 54 1 1=true:=by kernel_rfl
theorem Rt:Ji Ep 54 2 2=true:=by kernel_rfl
theorem Q51:Ji Ep 63 0 0=true:=by kernel_rfl
theorem Q50:Ji Ep 63 1 1=true:=by kernel_rfl
theorem Q4f:Ji Ep 63 2 2=true:=by kernel_rfl
theorem Q4e:Ji Ep 63 3 3=true:=by kernel_rfl
theorem Q4a:Ji Ep 72 0 0=true:=by kernel_rfl
theorem J0c:Ji Ep 72 1 1=true:=by kernel_rfl
theorem J0b:Ji Ep 72 2 2=true:=by kernel_rfl
theorem Q49:Ji Ep 72 3 3=true:=by kernel_rfl
theorem Q48:Ji Ep 72 4 4=true:=by kernel_rfl
theorem J0a:Ji Ep 72 5 5=true:=by kernel_rfl
theorem J5:Ji Ep 82 0 0=true:=by kernel_rfl
theorem Hr:Ji Ep 82 1 1=true:=by kernel_rfl
theorem Zf:J03 Ep 3 .i64=true:=by kernel_rfl
theorem G18:J03 Ep 5 .u8=true:=by kernel_rfl
theorem Je1:Ga1 Ep 178 3 200=true:=by kernel_rfl
theorem Q53:Ga1 Ep 70 3 3=true:=by kernel_rfl
theorem Q52:Ga1 Ep 97 3 54=true:=by kernel_rfl
theorem Q46:placesOf Ep 200=some []:=by kernel_rfl
theorem J43:placesOf Ep 41=some [(0,1),(1,1)]:=by kernel_rfl
theorem Gb9:placesOf Ep 52=some [(0,1),(1,1),(2,1),(3,1),(4,1),(5,1),(6,1),(7,1),(8,1)]:=by kernel_rfl
theorem G45:placesOf Ep 65=some [(0,1),(1,1),(2,1),(3,1),(4,1),(5,1),(6,1),(7,1),(8,1),(9,1),(10,1),(11,1)]:=by kernel_rfl
theorem H94:placesOf Ep 69=some [(0,1),(1,1)]:=by kernel_rfl
theorem Gb8:placesOf Ep 82=some [(0,1),(1,3)]:=by kernel_rfl
theorem H68:Rk Ep 102=true:=by kernel_rfl
theorem Q45:Rk Ep 178=true:=by kernel_rfl
theorem H67:Rk Ep 179=true:=by kernel_rfl
theorem Zy:Rk Ep 38=true:=by kernel_rfl
theorem Rw:Rk Ep 48=true:=by kernel_rfl
theorem Q78:R6 Ep 102 1=true:=by kernel_rfl
theorem Q74:R6 Ep 178 1=true:=by kernel_rfl
theorem Q73:R6 Ep 179 1=true:=by kernel_rfl
theorem Q72:R6 Ep 200 0=true:=by kernel_rfl
theorem Je0:R6 Ep 25 1=true:=by kernel_rfl
theorem Jdf:R6 Ep 26 1=true:=by kernel_rfl
theorem Zj:R6 Ep 3 1=true:=by kernel_rfl
theorem H92:R6 Ep 35 13=true:=by kernel_rfl
theorem Jde:R6 Ep 38 1=true:=by kernel_rfl
theorem tf_size_4:R6 Ep 4 1=true:=by kernel_rfl
theorem Gd4:R6 Ep 41 2=true:=by kernel_rfl
theorem tf_size_5:R6 Ep 5 1=true:=by kernel_rfl
theorem Qaa:R6 Ep 50 1=true:=by kernel_rfl
theorem Zo:R6 Ep 52 9=true:=by kernel_rfl
theorem G44:R6 Ep 54 3=true:=by kernel_rfl
theorem Qa9:R6 Ep 63 4=true:=by kernel_rfl
theorem Qa8:R6 Ep 72 6=true:=by kernel_rfl
theorem Qh:R6 Ep 82 4=true:=by kernel_rfl
theorem Yg:sliceB Ep 102 54 3=true:=by kernel_rfl
theorem H54:sliceB Ep 22 63 4=true:=by kernel_rfl
theorem H53:sliceB Ep 24 72 6=true:=by kernel_rfl
theorem Q4:sliceB Ep 37 52 9=true:=by kernel_rfl
theorem Qd:sliceB Ep 38 48 1=true:=by kernel_rfl
theorem Q70:(Ep.info? 102).bind (fun i=>i.zero.map Value.cells)=some (List.toArray [.slice none 0 0]):=by kernel_rfl
theorem Q6c:(Ep.info? 200).bind (fun i=>i.zero.map Value.cells)=some (List.toArray []):=by kernel_rfl
theorem H90:(Ep.info? 35).bind (fun i=>i.zero.map Value.cells)=some (List.toArray [.slice none 0 0,.slice none 0 0,E0,E0,E0,E0,.slice none 0 0,.slice none 0 0,.slice none 0 0,E0,E0,E0,E0]):=by kernel_rfl
theorem H23:(Ep.info? 41).bind (fun i=>i.zero.map Value.cells)=some (List.toArray [.slice none 0 0,.slice none 0 0]):=by kernel_rfl
theorem Qa7:(Ep.info? 48).bind (fun i=>i.zero.map Value.cells)=some (List.toArray [.slice none 0 0]):=by kernel_rfl
theorem Qa5:(Ep.info? 50).bind (fun i=>i.zero.map Value.cells)=some (List.toArray [.slice none 0 0]):=by kernel_rfl
theorem Gd3:(Ep.info? 52).bind (fun i=>i.zero.map Value.cells)=some (List.toArray [E0,.string ByteArray.empty,.int .u8 0,.bool false,E0,E0,E0,.int .u8 0,.bool false]):=by kernel_rfl
theorem G9c:(Ep.info? 65).bind (fun i=>i.zero.map Value.cells)=some (List.toArray [E0,E0,.bool false,E0,E0,E0,E0,E0,.slice none 0 0,E0,E0,E0]):=by kernel_rfl
theorem J1f:(Ep.info? 69).bind (fun i=>i.zero.map Value.cells)=some (List.toArray [E0,.slice none 0 0]):=by kernel_rfl
theorem Gd2:(Ep.info? 82).bind (fun i=>i.zero.map Value.cells)=some (List.toArray [E0,E0,E0,.int .u8 0]):=by kernel_rfl
theorem Q5e:R3 Ep 178 1=true:=by kernel_rfl
theorem Q5d:R3 Ep 179 1=true:=by kernel_rfl
theorem Q5c:R3 Ep 200 0=true:=by kernel_rfl
theorem Qn:R3 Ep 3 1=true:=by kernel_rfl
theorem Q6b:R3 Ep 38 1=true:=by kernel_rfl
theorem J8e:R3 Ep 41 2=true:=by kernel_rfl
theorem Hc2:R3 Ep 48 1=true:=by kernel_rfl
theorem Rz:R3 Ep 52 9=true:=by kernel_rfl
theorem G17:R3 Ep 54 3=true:=by kernel_rfl
theorem Q69:R3 Ep 63 4=true:=by kernel_rfl
theorem Q68:R3 Ep 72 6=true:=by kernel_rfl
theorem Jo:R3 Ep 82 4=true:=by kernel_rfl
theorem tf_zv_200:(Ep.info? 200).bind (·.zero)=some (.agg #[]):=by kernel_rfl
theorem tf_zv_54:(Ep.info? 54).bind (·.zero)=some (.agg #[E0,E0,.int .u8 0]):=by kernel_rfl
theorem tk_3:H19 Ep 3 (fun n:Int=>Value.int .i64 n):=H19.of_int (by kernel_rfl)
end XVF
open XAF
open XCF
open XVF

def Gec (c:G4) (p1:Int) (p2:Int) (p3:Bool):Option Bool:=
 some (((decide (c.Bay=p1))&&(decide (c.Row=p2)))&&(c.Deck==p3))
theorem Jc2 (c:G4) (p1:Int) (p2:Int) (p3:Bool) (r:Bool) (h:Gec c p1 p2 p3=some r):Pure Ep 24 [.agg (G4.cs c),.dptr [G0 p1],.dptr [G0 p2],.dptr [BL p3]] (·=BL r):=by
 unfold Gec at h
 refine Gz [.tmp 5] Tryz.func24 O O (Jr fun hK1=>(JLh (.ptr 1071 0) (Jm (cs:=(G4.cs c)) 1071 O O O O O) O (Yb (BL false) O (G7 (hK1 (Gq [(1,.dptr [G0 p1]),(2,.dptr [G0 p2]),(3,.dptr [BL p3]),(4,Ei c)] [] 1071 rfl rfl rfl ø rfl (by repeat' (first | exact .ptr | constructor)) ?_))))))
 refine Jr fun hK2=>(JLh (Ei c) (Ga G00 O O O) O (JLh (G0 c.Bay) (Gh Gb O O O) O (JLh (G0 p1) (Gh Gb O O O) O (JLh (BL (decide (c.Bay=p1))) (Jz O O O) O (Yb (BL (decide (c.Bay=p1))) O (JLo (.dptr [G0 c.Row,BL c.Deck,G0 c.Tiers,G0 c.Height,G0 c.Kilos20,G0 c.Kilos40,G0 c.Lash,E2 c.Plugs,G0 c.X,G0 c.Y,G0 c.Z]) [] O .sct ø (fun hc=>Ga G55 O O O) O (JLo (G0 c.Row) [11] O .sct ⟨Ua,ø⟩ (fun hc=>Gh Gb O O O) O (JLo (G0 p2) [] O .sct ø (fun hc=>Gh Gb O O O) O (JLo (BL (decide (c.Row=p2))) [12,13] O .sct ⟨Ua,Ua,ø⟩ (fun hc=>Jz O O O) O (JLh (BL ((decide (c.Bay=p1))&&(decide (c.Row=p2)))) (Qr O O O O) O (Yb (BL ((decide (c.Bay=p1))&&(decide (c.Row=p2)))) O (JLo (.dptr [BL c.Deck,G0 c.Tiers,G0 c.Height,G0 c.Kilos20,G0 c.Kilos40,G0 c.Lash,E2 c.Plugs,G0 c.X,G0 c.Y,G0 c.Z]) [] O .sct ø (fun hc=>Ga Ye O O O) O (JLo (BL c.Deck) [17] O .sct ⟨Ua,ø⟩ (fun hc=>Gh Qm O O O) O ?_)))))))))))))
 refine JLo (BL p3) [] O .sct ø (fun hc=>Gh Qm O O O) O (JLo (BL (c.Deck==p3)) [18,19] O .sct ⟨Ua,Ua,ø⟩ (fun hc=>J6e H7a O O O) O (JLh (BL (((decide (c.Bay=p1))&&(decide (c.Row=p2)))&&(c.Deck==p3))) (Qr O O O O) O (Yb (BL (((decide (c.Bay=p1))&&(decide (c.Row=p2)))&&(c.Deck==p3))) O (G7 (hK2 (Gs (fin1 BL h)))))))

def Qp (l:List G4) (wanted:G4→Option Bool):Option (List Int):=
 each (fun y21 i21 (s21:(List Int)) nx21=>
  jp (fun kj24=>
   bnd (wanted y21) fun r27=>
   bif r27 then
   (need (decide ((s21.length+[(i21:Int)].length)*8≤140737488355328∧s21.length+[(i21:Int)].length≤maxLen)) <|
    kj24 (s21++[(i21:Int)]))
   else
   (kj24 s21)) fun(j24:(List Int))=>
  nx21 j24)
 (fun(s21:(List Int))=>
  some s21) l 0 []
theorem G80 (l:List G4) (wanted:G4→Option Bool) (wanted_f:FuncId) (wanted_c:List AV) (wanted_B:H5 Ep wanted_f=true) (wanted_d:R0 (fun _=>false) wanted_c=true) (wanted_w:∀ a0 q,wanted a0=some q→Pure Ep wanted_f ([.agg (G4.cs a0)]++wanted_c) (·=BL q)) (r:(List Int)) (h:Qp l wanted=some r):Pure Ep 23 [E4 l,.fn wanted_f wanted_c] (·=E2 r):=by
 unfold Qp at h
 refine Gz [.tmp 4] Tryz.func23 O O (Jr fun hK1=>(JLh (E2 ([]:List Int)) (Hf 1 O O) O (G7 (hK1 (Jr fun hK2=>(JLh (OW 1069 1 G0 ([]:List Int)) (G24 1069 3 1 O O O) O (G7 (hK2 (Js fun hK3=>Jr fun hK4=>(Yb (E4 l) O (JLl Je O O O fun hm9=>(Yb (G0 0) O (G7 (hK4 (Gj ?_)))))))))))))))
 obtain⟨b21,kx21,hb21,hkx21,h⟩:=J2 h
 refine Hb (fun i21 (s21:(List Int))=>each b21 kx21 (List.drop i21 l) i21 s21=some r) (fun i21 s21=>[(1,.fn wanted_f wanted_c),(5,OW 1069 1 G0 s21),(8,E4 l),(9,Eo l.length),(10,Eo i21)]) (fun i21 s21=>[(1069,.spare 3 1 s21.length s21.length)]) (fun i21=>l.length - i21) 0 [] h ⟨⟨.same (He _ _ wanted_d),.same O,.same O,.same O,.same O,ø⟩,⟨⟨_,O,.same⟩,ø⟩,O⟩ ?_
 clear h
 intro i21 s21 hi21 K21 e21
 refine Jr fun hK22=>(JLh (BL (decide ((i21:Int) < (l.length:Int)))) (J0 O O O) O (G7 (hK22 (Js fun hK23=>Gf O (fun hb=>?_) (fun hb=>?_)))))
 ·
  have hk21:=Jk hb
  obtain⟨y21,nx21,hy21,hn21,h⟩:=Hs hi21 hk21
  replace h:=Y4 hb21 h
  refine Gi (hK23 ?_)
  obtain⟨kj24,hkj24,h⟩:=Qo h
  refine Jx (fun j24:(List Int)=>kj24 j24=some r) (fun j24=>[(1,.fn wanted_f wanted_c),(5,OW 1069 1 G0 j24),(8,E4 l),(9,Eo l.length),(10,Eo i21)]) (fun j24=>[(1069,.spare 3 1 j24.length j24.length)]) (fun Kj24 ej24=>?_) ?_
  ·
   refine Gj (Jr fun hK25=>(Yb (Eo i21) O (JLh (Ei y21) (H3 (f:=G4.av) (xs:=l) (y:=y21) O O O Je hy21 O) O (JLh (.agg (G4.cs y21)) (Gg G74 O O O) O (JLh (.ptr 1070 0) (Hx 1070 12 G3f O O) O (Yb (Eo i21) O (Hw (u:=.junk) (Hd (u:=.agg (G4.cs y21)) (ds:=(G4.cs y21)) H24 O O O O O O O O) (G7 (hK25 ?_)))))))))
   refine Gq [(1,.fn wanted_f wanted_c),(5,OW 1069 1 G0 s21),(6,Eo i21),(7,Ei y21),(8,E4 l),(9,Eo l.length),(10,Eo i21)] [(1069,.spare 3 1 s21.length s21.length)] 1070 rfl rfl rfl ⟨⟨_,rfl,.same⟩,ø⟩ rfl (by exact⟨.conv (.same (He _ _ wanted_d)),.conv (.same rfl),.conv (.same rfl),.ptr,.conv (.same rfl),.conv (.same rfl),.conv (.same rfl),ø⟩) (Jr fun hK26=>(Yb (.fn wanted_f wanted_c) O (JLh (.agg (G4.cs y21)) (Gg G74 O O O) O ?_)))
   obtain⟨r27,hr27,h⟩:=Ge h
   refine JLh (BL r27) (G25 (args:=[.agg (G4.cs y21)]) (caps:=wanted_c) O O (wanted_w y21 _ hr27) wanted_B ⟨O,O,ø⟩ wanted_d) O (G7 (hK26 (JCc O h (fun h hb=>?_) (fun h hb=>?_))))
   ·
    refine G3 (Yb (OW 1069 1 G0 s21) O (Yb (Eo i21) O (JLh (E2 [(i21:Int)]) (H6 (xs:=[Eo i21]) O ⟨O,O,ø⟩ Gt Qn O O O O) O ?_)))
    obtain⟨ha28,h⟩:=Jd h
    refine JLh (OW 1069 1 G0 (s21++[(i21:Int)])) (Qk (f:=G0) (xs:=s21) (ys:=[(i21:Int)]) O O O O Gt Yy ha28 (fun _=>O) (.inl O) O) O (Yb (OW 1069 1 G0 (s21++[(i21:Int)])) O (G7 (ej24 _ _ (s21++[(i21:Int)]) h ⟨⟨.same (He _ _ wanted_d),.same O,.same O,.same O,.same O,ø⟩,⟨⟨_,O,.same⟩,ø⟩,O⟩)))
   ·
    refine Gi (ej24 _ _ s21 h ⟨⟨.same (He _ _ wanted_d),.same O,.same O,.same O,.same O,ø⟩,⟨⟨_,O,.same⟩,ø⟩,O⟩)
  ·intro j24 h
   replace h:=app1 hkj24 h
   refine G3 (JLh (G0 ((i21+1:Nat):Int)) (Hu (Hj hk21 hm9) O O O) O (Yb (G0 ((i21+1:Nat):Int)) O (G7 (e21 _ _ (i21+1) j24 (app1 hn21 h) (by omega) ⟨⟨.same (He _ _ wanted_d),.same rfl,.same rfl,.same rfl,.same rfl,ø⟩,⟨⟨_,rfl,.same⟩,ø⟩,rfl⟩))))
 ·
  have h:=app1 hkx21 (Ht hi21 (Ha hb))
  refine Hm (hK3 (Jr fun hK29=>(Yb (OW 1069 1 G0 s21) O (Yb (OW 1069 1 G0 s21) O (G7 (hK29 (Gs (fin1l (fun r:(List Int)=>(E2 r:AV)) h))))))))

def H00 (s:Gw) (bay:Int) (row:Int) (deck:Bool):Option (Int×Bool):=
 bnd (Qp s.Columns (fun z0=>Gec z0 bay row deck)) fun r3=>
 bif decide ((r3.length:Int)=0) then
 (some (0,false))
 else
 (Q9 r3 0 fun y8=>
  some (y8,true))
theorem M_ship_Find_w (s:Gw) (bay:Int) (row:Int) (deck:Bool) (r:Int×Bool) (h:H00 s bay row deck=some r):Pure Ep 10 [.agg (Gw.cs s),G0 bay,G0 row,BL deck] (·=.tup [G0 r.1,BL r.2]):=by
 unfold H00 at h
 refine Gz [.tmp 8,.tmp 9] Tryz.func10 O O (Jr fun hK1=>(JLh (.ptr 1033 0) (Jm (cs:=(Gw.cs s)) 1033 O O O O O) O (JLh (.ptr 1034 0) (Jm (cs:=[G0 bay]) 1034 O O O O O) O (JLh (.ptr 1035 0) (Jm (cs:=[G0 row]) 1035 O O O O O) O (JLh (.ptr 1036 0) (Jm (cs:=[BL deck]) 1036 O O O O O) O (Yb (G0 0) O (Yb (BL false) O (G7 (hK1 ?_)))))))))
 refine Gq [(4,Ef s),(5,.ptr 1034 0),(6,.ptr 1035 0),(7,.ptr 1036 0)] [(1034,.box 3 [G0 bay]),(1035,.box 3 [G0 row]),(1036,.box 4 [BL deck])] 1033 rfl rfl rfl ⟨⟨_,rfl,.boxEq rfl rfl⟩,⟨_,rfl,.boxEq rfl rfl⟩,⟨_,rfl,.boxEq rfl rfl⟩,ø⟩ rfl (by repeat' (first | exact .ptr | constructor)) ?_
 refine Gq [(4,Ef s),(5,.dptr [G0 bay]),(6,.ptr 1035 0),(7,.ptr 1036 0)] [(1035,.box 3 [G0 row]),(1036,.box 4 [BL deck])] 1034 rfl rfl rfl ⟨⟨_,rfl,.boxEq rfl rfl⟩,⟨_,rfl,.boxEq rfl rfl⟩,ø⟩ rfl (by repeat' (first | exact .ptr | constructor)) ?_
 refine Gq [(4,Ef s),(5,.dptr [G0 bay]),(6,.dptr [G0 row]),(7,.ptr 1036 0)] [(1036,.box 4 [BL deck])] 1035 rfl rfl rfl ⟨⟨_,rfl,.boxEq rfl rfl⟩,ø⟩ rfl (by repeat' (first | exact .ptr | constructor)) ?_
 refine Gq [(4,Ef s),(5,.dptr [G0 bay]),(6,.dptr [G0 row]),(7,.dptr [BL deck])] [] 1036 rfl rfl rfl ø rfl (by repeat' (first | exact .ptr | constructor)) ?_
 refine Jr fun hK2=>(JLh (Ef s) (Ga J6 O O O) O (JLh (E4 s.Columns) (Gh Jj O O O) O (JLh (.fn 24 [.dptr [G0 bay],.dptr [G0 row],.dptr [BL deck]]) (Z1 (cs:=[.dptr [G0 bay],.dptr [G0 row],.dptr [BL deck]]) O O) O ?_)))
 obtain⟨r3,hr3,h⟩:=Ge h
 refine JLh (E2 r3) (Gv O (G80 s.Columns (fun z0=>Gec z0 bay row deck) 24 [.dptr [G0 bay],.dptr [G0 row],.dptr [BL deck]] Qd6 O (fun z0 q hq=>Jc2 z0 bay row deck q hq) r3 hr3) Jfd ⟨O,O,O,O,ø⟩) O (Yb (E2 r3) O (G7 (hK2 (Js fun hK4=>Jr fun hK5=>(Yb (E2 r3) O (JLl Gt O O O fun hm16=>(JLh (BL (decide ((r3.length:Int)=0))) (Jz O O O) O (G7 (hK5 (JCc O h (fun h hb=>?_) (fun h hb=>?_)))))))))))
 ·
  refine Jr fun hK6=>(Yb (G0 0) O (Yb (BL false) O (G7 (hK6 (Gs (⟨[G0 0,BL false],[],ø,O,⟨⟨_,O,.conv (.same O)⟩,⟨_,O,.conv (.same O)⟩,ø⟩,O,congrArg (fun r:Int×Bool=>(.tup [G0 r.1,BL r.2]:AV)) (Option.some.inj h)⟩))))))
 ·
  refine Gi (hK4 (Jr fun hK7=>(Yb (E2 r3) O ?_)))
  obtain⟨m9,y8,hm9,hy8,h⟩:=Y0 h
  refine JLh (.dptr [G0 y8]) (H3 (f:=G0) (xs:=r3) (y:=y8) O O O Gt hy8 hm9) O (JLh (G0 y8) (Gh Gb O O O) O (Yb (G0 y8) O (Yb (BL true) O (G7 (hK7 (Gs (⟨[G0 y8,BL true],[],ø,O,⟨⟨_,O,.conv (.same O)⟩,⟨_,O,.conv (.same O)⟩,ø⟩,O,congrArg (fun r:Int×Bool=>(.tup [G0 r.1,BL r.2]:AV)) (Option.some.inj h)⟩)))))))

def Yi (l:List Hp) (covers:Int):Option Gw:=
 bnd (J54 (min (l.length:Int) 12) l.length) fun m5=>
 each (fun y106 i106 (s106:(List G4)×(List G9)×Int×Int×Int×Int×(List Row)×(List Frame)×(List Gk)×Int×Int×Int×Int) nx106=>
  jp (fun kj109=>
   Rc (y106.Bay) fun v112=>
   bnd (Hb1 v112 5) fun v113=>
   Rc (y106.Row) fun v114=>
   bnd (Hb1 v114 5) fun v115=>
   Rc (y106.Tiers) fun v116=>
   bnd (Hb1 v116 4) fun v117=>
   Rc (2+v117) fun v118=>
   Rc (13000*v113) fun v120=>
   Rc (v120 - 26000) fun v121=>
   Rc (2500*v115) fun v122=>
   Rc (v122 - 5000) fun v123=>
   jp (fun kj124=>
    bif y106.Deck then
    (kj124 20000)
    else
    (kj124 2000)) fun(j124:Int)=>
   bnd (H00 (Gw.mk s106.1 s106.2.1 (Light.mk s106.2.2.1 s106.2.2.2.1 s106.2.2.2.2.1 s106.2.2.2.2.2.1) s106.2.2.2.2.2.2.1 s106.2.2.2.2.2.2.2.1 s106.2.2.2.2.2.2.2.2.1 (G2.mk s106.2.2.2.2.2.2.2.2.2.1 s106.2.2.2.2.2.2.2.2.2.2.1 s106.2.2.2.2.2.2.2.2.2.2.2.1 s106.2.2.2.2.2.2.2.2.2.2.2.2)) v113 v115 y106.Deck) fun r127=>
   bif (!r127.2) then
   (need (decide ((s106.1.length+[(G4.mk v113 v115 y106.Deck v118 0 500000000 500000000 0 [] v121 v123 j124)].length)*112≤140737488355328∧s106.1.length+[(G4.mk v113 v115 y106.Deck v118 0 500000000 500000000 0 [] v121 v123 j124)].length≤maxLen)) <|
    kj109 (s106.1++[(G4.mk v113 v115 y106.Deck v118 0 500000000 500000000 0 [] v121 v123 j124)]))
   else
   (kj109 s106.1)) fun(j109:(List G4))=>
  nx106 (j109,s106.2.1,s106.2.2.1,s106.2.2.2.1,s106.2.2.2.2.1,s106.2.2.2.2.2.1,s106.2.2.2.2.2.2.1,s106.2.2.2.2.2.2.2.1,s106.2.2.2.2.2.2.2.2.1,s106.2.2.2.2.2.2.2.2.2.1,s106.2.2.2.2.2.2.2.2.2.2.1,s106.2.2.2.2.2.2.2.2.2.2.2.1,s106.2.2.2.2.2.2.2.2.2.2.2.2))
 (fun(s106:(List G4)×(List G9)×Int×Int×Int×Int×(List Row)×(List Frame)×(List Gk)×Int×Int×Int×Int)=>
  jp (fun kj130=>
   bif decide ((s106.1.length:Int)=0) then
   (kj130 ([(G4.mk 0 0 false 3 0 500000000 500000000 0 [] 0 0 2000)]))
   else
   (kj130 s106.1)) fun(j130:(List G4))=>
  need (decide (5≤9223372036854775807)) <|
  upto (fun i200 (s200:(List G4)×(List G9)×Int×Int×Int×Int×(List Row)×(List Frame)×(List Gk)×Int×Int×Int×Int) nx200=>
   jp (fun kj203=>
    jp (fun kj204=>
     Rc (2*(i200:Int)) fun v206=>
     bnd (J54 v206 4294967295) fun m207=>
     bif decide ((band .u32 (G81 .u32 covers m207) 1)=1) then
     (need (decide ((s200.2.1.length+[(G9.mk (i200:Int) [0,1])].length)*32≤140737488355328∧s200.2.1.length+[(G9.mk (i200:Int) [0,1])].length≤maxLen)) <|
      kj204 (s200.2.1++[(G9.mk (i200:Int) [0,1])]))
     else
     (kj204 s200.2.1)) fun(j204:(List G9))=>
    Rc (2*(i200:Int)) fun v210=>
    Rc (v210+1) fun v211=>
    bnd (J54 v211 4294967295) fun m212=>
    bif decide ((band .u32 (G81 .u32 covers m212) 1)=1) then
    (need (decide ((j204.length+[(G9.mk (i200:Int) [2,3,4])].length)*32≤140737488355328∧j204.length+[(G9.mk (i200:Int) [2,3,4])].length≤maxLen)) <|
     kj203 (j204++[(G9.mk (i200:Int) [2,3,4])]))
    else
    (kj203 j204)) fun(j203:(List G9))=>
   nx200 (s200.1,j203,s200.2.2.1,s200.2.2.2.1,s200.2.2.2.2.1,s200.2.2.2.2.2.1,s200.2.2.2.2.2.2.1,s200.2.2.2.2.2.2.2.1,s200.2.2.2.2.2.2.2.2.1,s200.2.2.2.2.2.2.2.2.2.1,s200.2.2.2.2.2.2.2.2.2.2.1,s200.2.2.2.2.2.2.2.2.2.2.2.1,s200.2.2.2.2.2.2.2.2.2.2.2.2))
  (fun(s200:(List G4)×(List G9)×Int×Int×Int×Int×(List Row)×(List Frame)×(List Gk)×Int×Int×Int×Int)=>
   some (Gw.mk s200.1 s200.2.1 (Light.mk s200.2.2.1 s200.2.2.2.1 s200.2.2.2.2.1 s200.2.2.2.2.2.1) s200.2.2.2.2.2.2.1 s200.2.2.2.2.2.2.2.1 s200.2.2.2.2.2.2.2.2.1 (G2.mk s200.2.2.2.2.2.2.2.2.2.1 s200.2.2.2.2.2.2.2.2.2.2.1 s200.2.2.2.2.2.2.2.2.2.2.2.1 s200.2.2.2.2.2.2.2.2.2.2.2.2))) (5:Int).toNat 0 (j130,s106.2.1,s106.2.2.1,s106.2.2.2.1,s106.2.2.2.2.1,s106.2.2.2.2.2.1,s106.2.2.2.2.2.2.1,s106.2.2.2.2.2.2.2.1,s106.2.2.2.2.2.2.2.2.1,s106.2.2.2.2.2.2.2.2.2.1,s106.2.2.2.2.2.2.2.2.2.2.1,s106.2.2.2.2.2.2.2.2.2.2.2.1,s106.2.2.2.2.2.2.2.2.2.2.2.2)) (l.take m5) 0 ([],[],0,0,0,0,[],[],[],0,0,0,0)
abbrev Eu (s106:(List G4)×(List G9)×Int×Int×Int×Int×(List Row)×(List Frame)×(List Gk)×Int×Int×Int×Int):List AV:=[OW 1011 12 G4.av s106.1,OW 1012 2 G9.av s106.2.1,G0 s106.2.2.1,G0 s106.2.2.2.1,G0 s106.2.2.2.2.1,G0 s106.2.2.2.2.2.1,E7 s106.2.2.2.2.2.2.1,E8 s106.2.2.2.2.2.2.2.1,E9 s106.2.2.2.2.2.2.2.2.1,G0 s106.2.2.2.2.2.2.2.2.2.1,G0 s106.2.2.2.2.2.2.2.2.2.2.1,G0 s106.2.2.2.2.2.2.2.2.2.2.2.1,G0 s106.2.2.2.2.2.2.2.2.2.2.2.2]
abbrev Ev:List AV:=[E4 ([]:List G4),E5 ([]:List G9),G0 0,G0 0,G0 0,G0 0,E7 ([]:List Row),E8 ([]:List Frame),E9 ([]:List Gk),G0 0,G0 0,G0 0,G0 0]
abbrev Ew (s200:(List G4)×(List G9)×Int×Int×Int×Int×(List Row)×(List Frame)×(List Gk)×Int×Int×Int×Int):List AV:=[E4 s200.1,OW 1012 2 G9.av s200.2.1,G0 s200.2.2.1,G0 s200.2.2.2.1,G0 s200.2.2.2.2.1,G0 s200.2.2.2.2.2.1,E7 s200.2.2.2.2.2.2.1,E8 s200.2.2.2.2.2.2.2.1,E9 s200.2.2.2.2.2.2.2.2.1,G0 s200.2.2.2.2.2.2.2.2.2.1,G0 s200.2.2.2.2.2.2.2.2.2.2.1,G0 s200.2.2.2.2.2.2.2.2.2.2.2.1,G0 s200.2.2.2.2.2.2.2.2.2.2.2.2]
theorem H72 (l:List Hp) (covers:Int) (r:Gw) (h:Yi l covers=some r):Pure Ep 4 [Ee l,.sc (.int .u32 covers)] (·=.agg (Gw.cs r)):=by
 unfold Yi at h
 refine Gz [.cell 4 35] Tryz.func4 O O (Jr fun hK1=>(JLh (.ptr 1007 0) (G54 1007 Ev [.slice none 0 0,.slice none 0 0,E0,E0,E0,E0,.slice none 0 0,.slice none 0 0,.slice none 0 0,E0,E0,E0,E0] H90 ⟨.inr ⟨_,O,O⟩,.inr ⟨_,O,O⟩,.inl O,.inl O,.inl O,.inl O,.inr ⟨_,O,O⟩,.inr ⟨_,O,O⟩,.inr ⟨_,O,O⟩,.inl O,.inl O,.inl O,.inl O,ø⟩ O O) O (G7 (hK1 ?_))))
 refine Jr fun hK2=>(JLh (.ptr 1008 0) (G54 1008 [.sc (.slice none 0 0),.sc (.slice none 0 0),G0 0,G0 0,G0 0,G0 0,E7 ([]:List Row),E8 ([]:List Frame),E9 ([]:List Gk),G0 0,G0 0,G0 0,G0 0] [.slice none 0 0,.slice none 0 0,E0,E0,E0,E0,.slice none 0 0,.slice none 0 0,.slice none 0 0,E0,E0,E0,E0] H90 ⟨.inl O,.inl O,.inl O,.inl O,.inl O,.inl O,.inr ⟨_,O,O⟩,.inr ⟨_,O,O⟩,.inr ⟨_,O,O⟩,.inl O,.inl O,.inl O,.inl O,ø⟩ O O) O (H49 1008 0 1011 65 12 O O O (cs':=[OW 1011 12 G4.av ([]:List G4),.sc (.slice none 0 0),G0 0,G0 0,G0 0,G0 0,E7 ([]:List Row),E8 ([]:List Frame),E9 ([]:List Gk),G0 0,G0 0,G0 0,G0 0]) O ?_))
 refine H49 1008 1 1012 69 2 O O O (cs':=[OW 1011 12 G4.av ([]:List G4),OW 1012 2 G9.av ([]:List G9),G0 0,G0 0,G0 0,G0 0,E7 ([]:List Row),E8 ([]:List Frame),E9 ([]:List Gk),G0 0,G0 0,G0 0,G0 0]) O (G7 (hK2 (Js fun hK3=>Jr fun hK4=>(Yb (Ee l) O (Yb (Ee l) O (JLl H54 O O O fun hm14=>(JLh (G0 (min (l.length:Int) 12)) (A_min O O O) O ?_)))))))
 obtain⟨m5,hm5,h⟩:=Ge h
 refine JLh (Ee (l.take m5)) (J3d (f:=Hp.av) (xs:=l) O O O H54 (H7e hm5)) O (JLl H54 O O O fun hm17=>(Yb (G0 0) O (G7 (hK4 (Gj ?_)))))
 obtain⟨b106,kx106,hb106,hkx106,h⟩:=J2 h
 refine Hb (fun i106 (s106:(List G4)×(List G9)×Int×Int×Int×Int×(List Row)×(List Frame)×(List Gk)×Int×Int×Int×Int)=>each b106 kx106 (List.drop i106 (l.take m5)) i106 s106=some r) (fun i106 s106=>[(1,.sc (.int .u32 covers)),(4,.ptr 1007 0),(5,.ptr 1008 0),(16,Ee (l.take m5)),(17,G0 ((l.take m5).length:Int)),(18,Eo i106)]) (fun i106 s106=>[(1011,.spare 65 12 s106.1.length s106.1.length),(1012,.spare 69 2 s106.2.1.length s106.2.1.length),(1007,.box 35 Ev),(1008,.box 35 (Eu s106))]) (fun i106=>(l.take m5).length - i106) 0 ([],[],0,0,0,0,[],[],[],0,0,0,0) h ⟨(.sm O O),⟨⟨_,rfl,.same⟩,⟨_,rfl,.same⟩,⟨_,rfl,.boxL rfl (.sm O O)⟩,⟨_,rfl,.boxL rfl (.sm O O)⟩,ø⟩,rfl⟩ ?_
 clear h
 intro i106 s106 hi106 K106 e106
 refine Jr fun hK107=>(JLh (BL (decide ((i106:Int) < ((l.take m5).length:Int)))) (J0 O O O) O (G7 (hK107 (Js fun hK108=>Gf O (fun hb=>?_) (fun hb=>?_)))))
 ·
  have hk106:=Jk hb
  obtain⟨y106,nx106,hy106,hn106,h⟩:=Hs hi106 hk106
  replace h:=Y4 hb106 h
  refine Gi (hK108 ?_)
  obtain⟨kj109,hkj109,h⟩:=Qo h
  refine Jx (fun j109:(List G4)=>kj109 j109=some r) (fun j109=>[(1,.sc (.int .u32 covers)),(4,.ptr 1007 0),(5,.ptr 1008 0),(16,Ee (l.take m5)),(17,G0 ((l.take m5).length:Int)),(18,Eo i106)]) (fun j109=>[(1011,.spare 65 12 j109.length j109.length),(1012,.spare 69 2 s106.2.1.length s106.2.1.length),(1007,.box 35 Ev),(1008,.box 35 [OW 1011 12 G4.av j109,OW 1012 2 G9.av s106.2.1,G0 s106.2.2.1,G0 s106.2.2.2.1,G0 s106.2.2.2.2.1,G0 s106.2.2.2.2.2.1,E7 s106.2.2.2.2.2.2.1,E8 s106.2.2.2.2.2.2.2.1,E9 s106.2.2.2.2.2.2.2.2.1,G0 s106.2.2.2.2.2.2.2.2.2.1,G0 s106.2.2.2.2.2.2.2.2.2.2.1,G0 s106.2.2.2.2.2.2.2.2.2.2.2.1,G0 s106.2.2.2.2.2.2.2.2.2.2.2.2])]) (fun Kj109 ej109=>?_) ?_
  ·
   refine Gj (Jr fun hK110=>(JLh (.dptr (Hp.cs y106)) (H3 (f:=Hp.av) (xs:=(l.take m5)) (y:=y106) O O O H54 hy106 O) O (JLh (.agg (Hp.cs y106)) (Gg tf_agg_63 O O O) O (JLh (.ptr 1009 0) (Hx 1009 4 Q69 O O) O (Hw (u:=.junk) (Hd (u:=.agg (Hp.cs y106)) (ds:=[U8 y106.Bay,U8 y106.Row,U8 y106.Tiers,BL y106.Deck]) Qa9 O O O O O O O O) (G7 (hK110 ?_)))))))
   refine Gq [(1,.sc (.int .u32 covers)),(4,.ptr 1007 0),(5,.ptr 1008 0),(7,.dptr (Hp.cs y106)),(16,Ee (l.take m5)),(17,G0 ((l.take m5).length:Int)),(18,Eo i106)] [(1011,.spare 65 12 s106.1.length s106.1.length),(1012,.spare 69 2 s106.2.1.length s106.2.1.length),(1007,.box 35 Ev),(1008,.box 35 (Eu s106))] 1009 rfl rfl rfl ⟨⟨_,rfl,.same⟩,⟨_,rfl,.same⟩,⟨_,rfl,.boxEq rfl rfl⟩,⟨_,rfl,.boxEq rfl rfl⟩,ø⟩ rfl (by repeat' (first | exact .ptr | constructor)) ?_
   refine Jr fun hK111=>(JLh (.dptr (Hp.cs y106)) (Ga Q51 O O O) O (JLh (U8 y106.Bay) (Gh Hz O O O) O ?_))
   obtain⟨v112,hv112,h⟩:=Hv h
   refine JLh (G0 v112) (G4e Zf G18 hv112 O O) O ?_
   obtain⟨v113,hv113,h⟩:=Ge h
   refine JLh (G0 v113) (J6d (Rn hv113).1 (Rn hv113).2 O O O) O (JLh (.dptr ((Hp.cs y106).drop 1)) (Ga Q50 O O O) O (JLh (U8 y106.Row) (Gh Hz O O O) O ?_))
   obtain⟨v114,hv114,h⟩:=Hv h
   refine JLh (G0 v114) (G4e Zf G18 hv114 O O) O ?_
   obtain⟨v115,hv115,h⟩:=Ge h
   refine JLh (G0 v115) (J6d (Rn hv115).1 (Rn hv115).2 O O O) O (JLh (.dptr [BL y106.Deck]) (Ga Q4e O O O) O (JLh (BL y106.Deck) (Gh Qm O O O) O (JLh (.dptr [U8 y106.Tiers,BL y106.Deck]) (Ga Q4f O O O) O (JLh (U8 y106.Tiers) (Gh Hz O O O) O ?_))))
   obtain⟨v116,hv116,h⟩:=Hv h
   refine JLh (G0 v116) (G4e Zf G18 hv116 O O) O ?_
   obtain⟨v117,hv117,h⟩:=Ge h
   refine JLh (G0 v117) (J6d (Rn hv117).1 (Rn hv117).2 O O O) O ?_
   obtain⟨v118,hv118,h⟩:=Hv h
   refine JLh (G0 v118) (Hu hv118 O O O) O (JLh (.agg [G0 v113,G0 v115,BL y106.Deck,G0 v118,G0 0,G0 500000000,G0 500000000,G0 0,E2 ([]:List Int),G0 0,G0 0,G0 0]) (J3 (cs:=[G0 v113,G0 v115,BL y106.Deck,G0 v118,G0 0,G0 500000000,G0 500000000,G0 0,E2 ([]:List Int),G0 0,G0 0,G0 0]) [(0,1),(1,1),(2,1),(3,1),(4,1),(5,1),(6,1),(7,1),(8,1),(9,1),(10,1),(11,1)] [G0 0,G0 0,BL false,G0 0,G0 0,G0 0,G0 0,G0 0,E2 ([]:List Int),G0 0,G0 0,G0 0] [E0,E0,.bool false,E0,E0,E0,E0,E0,.slice none 0 0,E0,E0,E0] G45 G9c ⟨.inl O,.inl O,.inl O,.inl O,.inl O,.inl O,.inl O,.inl O,.inr ⟨_,O,O⟩,.inl O,.inl O,.inl O,ø⟩ O O) O (JLh (.ptr 1010 0) (Hx 1010 12 G3f O O) O (Hw (u:=.junk) (Hd (u:=.agg [G0 v113,G0 v115,BL y106.Deck,G0 v118,G0 0,G0 500000000,G0 500000000,G0 0,E2 ([]:List Int),G0 0,G0 0,G0 0]) (ds:=[G0 v113,G0 v115,BL y106.Deck,G0 v118,G0 0,G0 500000000,G0 500000000,G0 0,E2 ([]:List Int),G0 0,G0 0,G0 0]) H24 O O O O O O O O) (G7 (hK111 ?_)))))
   refine Jr fun hK119=>(JLh (.ptr 1010 0) (Jp G00 O O) O (JLh (G0 v113) (Qu Gb O O O O) O ?_))
   obtain⟨v120,hv120,h⟩:=Hv h
   refine JLh (G0 v120) (J1c hv120 O O O) O ?_
   obtain⟨v121,hv121,h⟩:=Hv h
   refine JLh (G0 v121) (Zn hv121 O O O) O (JLh (.ptr 1010 1) (Jp G55 O O) O (JLh (G0 v115) (Qu Gb O O O O) O ?_))
   obtain⟨v122,hv122,h⟩:=Hv h
   refine JLh (G0 v122) (J1c hv122 O O O) O ?_
   obtain⟨v123,hv123,h⟩:=Hv h
   refine JLh (G0 v123) (Zn hv123 O O O) O (JLh (.ptr 1010 9) (Jp J0d O O) O (Hw (u:=.junk) (Hd (u:=G0 v121) (ds:=[G0 v113,G0 v115,BL y106.Deck,G0 v118,G0 0,G0 500000000,G0 500000000,G0 0,E2 ([]:List Int),G0 v121,G0 0,G0 0]) Zj O O O O O O O O) (JLh (.ptr 1010 10) (Jp Hc3 O O) O (Hw (u:=.junk) (Hd (u:=G0 v123) (ds:=[G0 v113,G0 v115,BL y106.Deck,G0 v118,G0 0,G0 500000000,G0 500000000,G0 0,E2 ([]:List Int),G0 v121,G0 v123,G0 0]) Zj O O O O O O O O) (JLh (.ptr 1010 11) (Jp H27 O O) O (Hw (u:=.junk) (Hd (u:=G0 2000) (ds:=[G0 v113,G0 v115,BL y106.Deck,G0 v118,G0 0,G0 500000000,G0 500000000,G0 0,E2 ([]:List Int),G0 v121,G0 v123,G0 2000]) Zj O O O O O O O O) (G7 (hK119 ?_))))))))
   obtain⟨kj124,hkj124,h⟩:=Qo h
   refine Jx (fun j124:Int=>kj124 j124=some r) (fun j124=>[(1,.sc (.int .u32 covers)),(4,.ptr 1007 0),(5,.ptr 1008 0),(8,.ptr 1010 0),(16,Ee (l.take m5)),(17,G0 ((l.take m5).length:Int)),(18,Eo i106)]) (fun j124=>[(1011,.spare 65 12 s106.1.length s106.1.length),(1012,.spare 69 2 s106.2.1.length s106.2.1.length),(1007,.box 35 Ev),(1008,.box 35 (Eu s106)),(1010,.box 65 [G0 v113,G0 v115,BL y106.Deck,G0 v118,G0 0,G0 500000000,G0 500000000,G0 0,E2 ([]:List Int),G0 v121,G0 v123,G0 j124])]) (fun Kj124 ej124=>?_) ?_
   ·
    refine Jr fun hK125=>(JLh (.ptr 1010 2) (Jp Ye O O) O (JLh (BL y106.Deck) (Qu Qm O O O O) O (G7 (hK125 (JCc O h (fun h hb=>?_) (fun h hb=>?_))))))
    ·
     refine G3 (JLh (.ptr 1010 11) (Jp H27 O O) O (Hw (u:=.junk) (Hd (u:=G0 20000) (ds:=[G0 v113,G0 v115,BL y106.Deck,G0 v118,G0 0,G0 500000000,G0 500000000,G0 0,E2 ([]:List Int),G0 v121,G0 v123,G0 20000]) Zj O O O O O O O O) (G7 (ej124 _ _ 20000 h ⟨(.sm O O),⟨⟨_,rfl,.same⟩,⟨_,rfl,.same⟩,⟨_,rfl,.boxL rfl (.sm O O)⟩,⟨_,rfl,.boxL rfl (.sm O O)⟩,⟨_,rfl,.boxL rfl (.sm O O)⟩,ø⟩,rfl⟩))))
    ·
     refine Gi (ej124 _ _ 2000 h ⟨(.sm O O),⟨⟨_,rfl,.same⟩,⟨_,rfl,.same⟩,⟨_,rfl,.boxL rfl (.sm O O)⟩,⟨_,rfl,.boxL rfl (.sm O O)⟩,⟨_,rfl,.boxL rfl (.sm O O)⟩,ø⟩,rfl⟩)
   ·intro j124 h
    replace h:=app1 hkj124 h
    refine Jr fun hK126=>(JLh (.agg (Eu s106)) (Hae Ho O O O O) O (JLh (.ptr 1010 0) (Jp G00 O O) O (JLh (G0 v113) (Qu Gb O O O O) O (JLh (.ptr 1010 1) (Jp G55 O O) O (JLh (G0 v115) (Qu Gb O O O O) O (JLh (.ptr 1010 2) (Jp Ye O O) O (JLh (BL y106.Deck) (Qu Qm O O O O) O ?_)))))))
    obtain⟨r127,hr127,h⟩:=Ge h
    refine JLh (.tup [G0 r127.1,BL r127.2]) (Gv O (M_ship_Find_w (Gw.mk s106.1 s106.2.1 (Light.mk s106.2.2.1 s106.2.2.2.1 s106.2.2.2.2.1 s106.2.2.2.2.2.1) s106.2.2.2.2.2.2.1 s106.2.2.2.2.2.2.2.1 s106.2.2.2.2.2.2.2.2.1 (G2.mk s106.2.2.2.2.2.2.2.2.2.1 s106.2.2.2.2.2.2.2.2.2.2.1 s106.2.2.2.2.2.2.2.2.2.2.2.1 s106.2.2.2.2.2.2.2.2.2.2.2.2)) v113 v115 y106.Deck r127 hr127) Qe1 ⟨O,O,O,O,O,O,O,O,ø⟩) O (Yb (.tup [G0 r127.1,BL r127.2]) O (JLh (G0 r127.1) (Hk O O O) O (JLh (BL r127.2) (Hk O O O) O (Yb (G0 r127.1) O (Yb (BL r127.2) O (G7 (hK126 ?_)))))))
    refine Gq [(1,.sc (.int .u32 covers)),(4,.ptr 1007 0),(5,.ptr 1008 0),(8,.dptr [G0 v113,G0 v115,BL y106.Deck,G0 v118,G0 0,G0 500000000,G0 500000000,G0 0,E2 ([]:List Int),G0 v121,G0 v123,G0 j124]),(10,BL r127.2),(16,Ee (l.take m5)),(17,G0 ((l.take m5).length:Int)),(18,Eo i106)] [(1011,.spare 65 12 s106.1.length s106.1.length),(1012,.spare 69 2 s106.2.1.length s106.2.1.length),(1007,.box 35 Ev),(1008,.box 35 (Eu s106))] 1010 rfl rfl rfl ⟨⟨_,rfl,.same⟩,⟨_,rfl,.same⟩,⟨_,rfl,.boxEq rfl rfl⟩,⟨_,rfl,.boxEq rfl rfl⟩,ø⟩ rfl (by repeat' (first | exact .ptr | constructor)) ?_
    refine Jr fun hK128=>(Yb (BL r127.2) O (JLh (BL (!r127.2)) (Rv (b:=r127.2) O O) O (G7 (hK128 (JCc O h (fun h hb=>?_) (fun h hb=>?_))))))
    ·
     refine G3 (JLh (.ptr 1008 0) (Jp J6 O O) O (JLh (OW 1011 12 G4.av s106.1) (Qu Jj O O O O) O (JLh (.agg [G0 v113,G0 v115,BL y106.Deck,G0 v118,G0 0,G0 500000000,G0 500000000,G0 0,E2 ([]:List Int),G0 v121,G0 v123,G0 j124]) (Gg G74 O O O) O (JLh (E4 ([(G4.mk v113 v115 y106.Deck v118 0 500000000 500000000 0 [] v121 v123 j124)])) (H6 (xs:=[.agg [G0 v113,G0 v115,BL y106.Deck,G0 v118,G0 0,G0 500000000,G0 500000000,G0 0,E2 ([]:List Int),G0 v121,G0 v123,G0 j124]]) O ⟨O,O,ø⟩ Je G3f O O O O) O ?_))))
     obtain⟨ha129,h⟩:=Jd h
     refine JLh (OW 1011 12 G4.av (s106.1++[(G4.mk v113 v115 y106.Deck v118 0 500000000 500000000 0 [] v121 v123 j124)])) (Qk (f:=G4.av) (xs:=s106.1) (ys:=[(G4.mk v113 v115 y106.Deck v118 0 500000000 500000000 0 [] v121 v123 j124)]) O O O O Je Qae ha129 (fun _=>O) (.inl O) O) O (JLh (.ptr 1008 0) (Jp J6 O O) O (Hw (u:=.junk) (Hd (u:=OW 1011 12 G4.av (s106.1++[(G4.mk v113 v115 y106.Deck v118 0 500000000 500000000 0 [] v121 v123 j124)])) (ds:=[OW 1011 12 G4.av (s106.1++[(G4.mk v113 v115 y106.Deck v118 0 500000000 500000000 0 [] v121 v123 j124)]),OW 1012 2 G9.av s106.2.1,G0 s106.2.2.1,G0 s106.2.2.2.1,G0 s106.2.2.2.2.1,G0 s106.2.2.2.2.2.1,E7 s106.2.2.2.2.2.2.1,E8 s106.2.2.2.2.2.2.2.1,E9 s106.2.2.2.2.2.2.2.2.1,G0 s106.2.2.2.2.2.2.2.2.2.1,G0 s106.2.2.2.2.2.2.2.2.2.2.1,G0 s106.2.2.2.2.2.2.2.2.2.2.2.1,G0 s106.2.2.2.2.2.2.2.2.2.2.2.2]) Je0 O O O O O O O O) (G7 ?_)))
     exact ej109 _ _ (s106.1++[(G4.mk v113 v115 y106.Deck v118 0 500000000 500000000 0 [] v121 v123 j124)]) h ⟨(.sm O O),⟨⟨_,rfl,.same⟩,⟨_,rfl,.same⟩,⟨_,rfl,.boxL rfl (.sm O O)⟩,⟨_,rfl,.boxL rfl (.sm O O)⟩,ø⟩,rfl⟩
    ·
     refine Gi (ej109 _ _ s106.1 h ⟨(.sm O O),⟨⟨_,rfl,.same⟩,⟨_,rfl,.same⟩,⟨_,rfl,.boxL rfl (.sm O O)⟩,⟨_,rfl,.boxL rfl (.sm O O)⟩,ø⟩,rfl⟩)
  ·intro j109 h
   replace h:=app1 hkj109 h
   refine G3 (JLh (G0 ((i106+1:Nat):Int)) (Hu (Hj hk106 hm17) O O O) O (Yb (G0 ((i106+1:Nat):Int)) O (G7 (e106 _ _ (i106+1) (j109,s106.2.1,s106.2.2.1,s106.2.2.2.1,s106.2.2.2.2.1,s106.2.2.2.2.2.1,s106.2.2.2.2.2.2.1,s106.2.2.2.2.2.2.2.1,s106.2.2.2.2.2.2.2.2.1,s106.2.2.2.2.2.2.2.2.2.1,s106.2.2.2.2.2.2.2.2.2.2.1,s106.2.2.2.2.2.2.2.2.2.2.2.1,s106.2.2.2.2.2.2.2.2.2.2.2.2) (app1 hn106 h) (by omega) ⟨(.sm O O),⟨⟨_,rfl,.same⟩,⟨_,rfl,.same⟩,⟨_,rfl,.boxL rfl (.sm O O)⟩,⟨_,rfl,.boxL rfl (.sm O O)⟩,ø⟩,rfl⟩))))
 ·
  have h:=app1 hkx106 (Ht hi106 (Ha hb))
  refine Hm (hK3 ?_)
  obtain⟨kj130,hkj130,h⟩:=Qo h
  refine Jx (fun j130:(List G4)=>kj130 j130=some r) (fun j130=>[(1,.sc (.int .u32 covers)),(4,.ptr 1007 0),(5,.ptr 1008 0)]) (fun j130=>[(1012,.spare 69 2 s106.2.1.length s106.2.1.length),(1007,.box 35 Ev),(1008,.box 35 [E4 j130,OW 1012 2 G9.av s106.2.1,G0 s106.2.2.1,G0 s106.2.2.2.1,G0 s106.2.2.2.2.1,G0 s106.2.2.2.2.2.1,E7 s106.2.2.2.2.2.2.1,E8 s106.2.2.2.2.2.2.2.1,E9 s106.2.2.2.2.2.2.2.2.1,G0 s106.2.2.2.2.2.2.2.2.2.1,G0 s106.2.2.2.2.2.2.2.2.2.2.1,G0 s106.2.2.2.2.2.2.2.2.2.2.2.1,G0 s106.2.2.2.2.2.2.2.2.2.2.2.2])]) (fun Kj130 ej130=>?_) ?_
  ·
   refine Jr fun hK131=>(JLh (.ptr 1008 0) (Jp J6 O O) O (JLh (OW 1011 12 G4.av s106.1) (Qu Jj O O O O) O (JLl Je O O O fun hm74=>(JLh (BL (decide ((s106.1.length:Int)=0))) (Jz O O O) O (G7 (hK131 (JCc O h (fun h hb=>?_) (fun h hb=>?_))))))))
   ·
    refine G3 ?_
    refine JLh (.agg [G0 0,G0 0,BL false,G0 3,G0 0,G0 500000000,G0 500000000,G0 0,E2 ([]:List Int),G0 0,G0 0,G0 2000]) (J3 (cs:=[G0 0,G0 0,BL false,G0 3,G0 0,G0 500000000,G0 500000000,G0 0,E2 ([]:List Int),G0 0,G0 0,G0 2000]) [(0,1),(1,1),(2,1),(3,1),(4,1),(5,1),(6,1),(7,1),(8,1),(9,1),(10,1),(11,1)] [G0 0,G0 0,BL false,G0 0,G0 0,G0 0,G0 0,G0 0,E2 ([]:List Int),G0 0,G0 0,G0 0] [E0,E0,.bool false,E0,E0,E0,E0,E0,.slice none 0 0,E0,E0,E0] G45 G9c ⟨.inl O,.inl O,.inl O,.inl O,.inl O,.inl O,.inl O,.inl O,.inr ⟨_,O,O⟩,.inl O,.inl O,.inl O,ø⟩ O O) O (JLh (E4 ([(G4.mk 0 0 false 3 0 500000000 500000000 0 [] 0 0 2000)])) (H6 (xs:=[.agg [G0 0,G0 0,BL false,G0 3,G0 0,G0 500000000,G0 500000000,G0 0,E2 ([]:List Int),G0 0,G0 0,G0 2000]]) O ⟨O,O,ø⟩ Je G3f O O O O) O (JLh (.ptr 1008 0) (Jp J6 O O) O (Hw (u:=.junk) (Hd (u:=E4 ([(G4.mk 0 0 false 3 0 500000000 500000000 0 [] 0 0 2000)])) (ds:=[E4 ([(G4.mk 0 0 false 3 0 500000000 500000000 0 [] 0 0 2000)]),OW 1012 2 G9.av s106.2.1,G0 s106.2.2.1,G0 s106.2.2.2.1,G0 s106.2.2.2.2.1,G0 s106.2.2.2.2.2.1,E7 s106.2.2.2.2.2.2.1,E8 s106.2.2.2.2.2.2.2.1,E9 s106.2.2.2.2.2.2.2.2.1,G0 s106.2.2.2.2.2.2.2.2.2.1,G0 s106.2.2.2.2.2.2.2.2.2.2.1,G0 s106.2.2.2.2.2.2.2.2.2.2.2.1,G0 s106.2.2.2.2.2.2.2.2.2.2.2.2]) Je0 O O O O O O O O) (G7 ?_))))
    exact ej130 _ _ ([(G4.mk 0 0 false 3 0 500000000 500000000 0 [] 0 0 2000)]) h ⟨(.sm O O),⟨⟨_,rfl,.same⟩,⟨_,rfl,.boxL rfl (.sm O O)⟩,⟨_,rfl,.boxL rfl (.sm O O)⟩,ø⟩,rfl⟩
   ·
    refine Gi (ej130 _ _ s106.1 h ⟨(.sm O O),⟨⟨_,rfl,.same⟩,⟨_,rfl,.boxL rfl (.sm O O)⟩,⟨_,rfl,.boxL rfl ⟨.list rfl,.same rfl,.same rfl,.same rfl,.same rfl,.same rfl,.same rfl,.same rfl,.same rfl,.same rfl,.same rfl,.same rfl,.same rfl,ø⟩⟩,ø⟩,rfl⟩)
  ·intro j130 h
   replace h:=app1 hkj130 h
   refine Js fun hK132=>Jr fun hK133=>(Yb (G0 0) O (G7 (hK133 (Gj ?_))))
   obtain⟨hx200,h⟩:=Jd h
   obtain⟨b200,kx200,hb200,hkx200,h⟩:=H52 h
   refine Hb (fun i200 (s200:(List G4)×(List G9)×Int×Int×Int×Int×(List Row)×(List Frame)×(List Gk)×Int×Int×Int×Int)=>upto b200 kx200 ((5:Int).toNat - i200) i200 s200=some r) (fun i200 s200=>[(1,.sc (.int .u32 covers)),(4,.ptr 1007 0),(5,.ptr 1008 0),(11,Eo i200)]) (fun i200 s200=>[(1012,.spare 69 2 s200.2.1.length s200.2.1.length),(1007,.box 35 Ev),(1008,.box 35 (Ew s200))]) (fun i200=>(5:Int).toNat - i200) 0 (j130,s106.2.1,s106.2.2.1,s106.2.2.2.1,s106.2.2.2.2.1,s106.2.2.2.2.2.1,s106.2.2.2.2.2.2.1,s106.2.2.2.2.2.2.2.1,s106.2.2.2.2.2.2.2.2.1,s106.2.2.2.2.2.2.2.2.2.1,s106.2.2.2.2.2.2.2.2.2.2.1,s106.2.2.2.2.2.2.2.2.2.2.2.1,s106.2.2.2.2.2.2.2.2.2.2.2.2) h ⟨(.sm O O),⟨⟨_,rfl,.same⟩,⟨_,rfl,.boxL rfl (.sm O O)⟩,⟨_,rfl,.boxL rfl (.sm O O)⟩,ø⟩,rfl⟩ ?_
   clear h
   intro i200 s200 hi200 K200 e200
   refine Js fun hK201=>Jr fun hK202=>(Yb (Eo i200) O (JLh (BL (decide ((i200:Int) < 5))) (J0 O O O) O (G7 (hK202 (Gf O (fun hb=>?_) (fun hb=>?_))))))
   ·
    have hk200:=Gf4 hb
    obtain⟨nx200,hn200,h⟩:=Gee hi200 hk200
    replace h:=app3 hb200 h
    refine Gi (hK201 ?_)
    obtain⟨kj203,hkj203,h⟩:=Qo h
    refine Jx (fun j203:(List G9)=>kj203 j203=some r) (fun j203=>[(1,.sc (.int .u32 covers)),(4,.ptr 1007 0),(5,.ptr 1008 0),(11,Eo i200)]) (fun j203=>[(1012,.spare 69 2 j203.length j203.length),(1007,.box 35 Ev),(1008,.box 35 [E4 s200.1,OW 1012 2 G9.av j203,G0 s200.2.2.1,G0 s200.2.2.2.1,G0 s200.2.2.2.2.1,G0 s200.2.2.2.2.2.1,E7 s200.2.2.2.2.2.2.1,E8 s200.2.2.2.2.2.2.2.1,E9 s200.2.2.2.2.2.2.2.2.1,G0 s200.2.2.2.2.2.2.2.2.2.1,G0 s200.2.2.2.2.2.2.2.2.2.2.1,G0 s200.2.2.2.2.2.2.2.2.2.2.2.1,G0 s200.2.2.2.2.2.2.2.2.2.2.2.2])]) (fun Kj203 ej203=>?_) ?_
    ·
     refine Gj ?_
     obtain⟨kj204,hkj204,h⟩:=Qo h
     refine Jx (fun j204:(List G9)=>kj204 j204=some r) (fun j204=>[(1,.sc (.int .u32 covers)),(4,.ptr 1007 0),(5,.ptr 1008 0),(11,Eo i200)]) (fun j204=>[(1012,.spare 69 2 j204.length j204.length),(1007,.box 35 Ev),(1008,.box 35 [E4 s200.1,OW 1012 2 G9.av j204,G0 s200.2.2.1,G0 s200.2.2.2.1,G0 s200.2.2.2.2.1,G0 s200.2.2.2.2.2.1,E7 s200.2.2.2.2.2.2.1,E8 s200.2.2.2.2.2.2.2.1,E9 s200.2.2.2.2.2.2.2.2.1,G0 s200.2.2.2.2.2.2.2.2.2.1,G0 s200.2.2.2.2.2.2.2.2.2.2.1,G0 s200.2.2.2.2.2.2.2.2.2.2.2.1,G0 s200.2.2.2.2.2.2.2.2.2.2.2.2])]) (fun Kj204 ej204=>?_) ?_
     ·
      refine Jr fun hK205=>(Yb (.sc (.int .u32 covers)) O (Yb (Eo i200) O ?_))
      obtain⟨v206,hv206,h⟩:=Hv h
      refine JLh (G0 v206) (J1c hv206 O O O) O ?_
      obtain⟨m207,hm207,h⟩:=Ge h
      refine JLh (.sc (.int .u32 (G81 .u32 covers m207))) (He9 (s:=m207) (H7e hm207).1 O O O) O (JLh (.sc (.int .u32 (band .u32 (G81 .u32 covers m207) 1))) (A_band O O O) O (JLh (BL (decide ((band .u32 (G81 .u32 covers m207) 1)=1))) (Jz O O O) O (G7 (hK205 (JCc O h (fun h hb=>?_) (fun h hb=>?_))))))
      ·
       refine G3 (JLh (.ptr 1008 1) (Jp Qq O O) O (JLh (OW 1012 2 G9.av s200.2.1) (Qu Rx O O O O) O (Yb (Eo i200) O (JLh (E2 [0,1]) (H6 (xs:=[G0 0,G0 1]) O ⟨O,O,O,O,ø⟩ Gt Qn O O O O) O (JLh (.agg [Eo i200,E2 [0,1]]) (J3 (cs:=[Eo i200,E2 [0,1]]) [(0,1),(1,1)] [G0 0,E2 ([]:List Int)] [E0,.slice none 0 0] H94 J1f ⟨.inl O,.inr ⟨_,O,O⟩,ø⟩ O O) O (JLh (E5 ([(G9.mk (i200:Int) [0,1])])) (H6 (xs:=[.agg [Eo i200,E2 [0,1]]]) O ⟨O,O,ø⟩ Qs Gf0 O O O O) O ?_))))))
       obtain⟨ha208,h⟩:=Jd h
       refine JLh (OW 1012 2 G9.av (s200.2.1++[(G9.mk (i200:Int) [0,1])])) (Qk (f:=G9.av) (xs:=s200.2.1) (ys:=[(G9.mk (i200:Int) [0,1])]) O O O O Qs Je7 ha208 (fun _=>O) (.inl O) O) O (JLh (.ptr 1008 1) (Jp Qq O O) O (Hw (u:=.junk) (Hd (u:=OW 1012 2 G9.av (s200.2.1++[(G9.mk (i200:Int) [0,1])])) (ds:=[E4 s200.1,OW 1012 2 G9.av (s200.2.1++[(G9.mk (i200:Int) [0,1])]),G0 s200.2.2.1,G0 s200.2.2.2.1,G0 s200.2.2.2.2.1,G0 s200.2.2.2.2.2.1,E7 s200.2.2.2.2.2.2.1,E8 s200.2.2.2.2.2.2.2.1,E9 s200.2.2.2.2.2.2.2.2.1,G0 s200.2.2.2.2.2.2.2.2.2.1,G0 s200.2.2.2.2.2.2.2.2.2.2.1,G0 s200.2.2.2.2.2.2.2.2.2.2.2.1,G0 s200.2.2.2.2.2.2.2.2.2.2.2.2]) Jdf O O O O O O O O) (G7 ?_)))
       exact ej204 _ _ (s200.2.1++[(G9.mk (i200:Int) [0,1])]) h ⟨(.sm O O),⟨⟨_,rfl,.same⟩,⟨_,rfl,.boxL rfl (.sm O O)⟩,⟨_,rfl,.boxL rfl (.sm O O)⟩,ø⟩,rfl⟩
      ·
       refine Gi (ej204 _ _ s200.2.1 h ⟨(.sm O O),⟨⟨_,rfl,.same⟩,⟨_,rfl,.boxL rfl (.sm O O)⟩,⟨_,rfl,.boxL rfl (.sm O O)⟩,ø⟩,rfl⟩)
     ·intro j204 h
      replace h:=app1 hkj204 h
      refine Jr fun hK209=>(Yb (.sc (.int .u32 covers)) O (Yb (Eo i200) O ?_))
      obtain⟨v210,hv210,h⟩:=Hv h
      refine JLh (G0 v210) (J1c hv210 O O O) O ?_
      obtain⟨v211,hv211,h⟩:=Hv h
      refine JLh (G0 v211) (Hu hv211 O O O) O ?_
      obtain⟨m212,hm212,h⟩:=Ge h
      refine JLh (.sc (.int .u32 (G81 .u32 covers m212))) (He9 (s:=m212) (H7e hm212).1 O O O) O (JLh (.sc (.int .u32 (band .u32 (G81 .u32 covers m212) 1))) (A_band O O O) O (JLh (BL (decide ((band .u32 (G81 .u32 covers m212) 1)=1))) (Jz O O O) O (G7 (hK209 (JCc O h (fun h hb=>?_) (fun h hb=>?_))))))
      ·
       refine G3 (JLh (.ptr 1008 1) (Jp Qq O O) O (JLh (OW 1012 2 G9.av j204) (Qu Rx O O O O) O (Yb (Eo i200) O (JLh (E2 [2,3,4]) (H6 (xs:=[G0 2,G0 3,G0 4]) O ⟨O,O,O,O,O,O,ø⟩ Gt Qn O O O O) O (JLh (.agg [Eo i200,E2 [2,3,4]]) (J3 (cs:=[Eo i200,E2 [2,3,4]]) [(0,1),(1,1)] [G0 0,E2 ([]:List Int)] [E0,.slice none 0 0] H94 J1f ⟨.inl O,.inr ⟨_,O,O⟩,ø⟩ O O) O (JLh (E5 ([(G9.mk (i200:Int) [2,3,4])])) (H6 (xs:=[.agg [Eo i200,E2 [2,3,4]]]) O ⟨O,O,ø⟩ Qs Gf0 O O O O) O ?_))))))
       obtain⟨ha213,h⟩:=Jd h
       refine JLh (OW 1012 2 G9.av (j204++[(G9.mk (i200:Int) [2,3,4])])) (Qk (f:=G9.av) (xs:=j204) (ys:=[(G9.mk (i200:Int) [2,3,4])]) O O O O Qs Je7 ha213 (fun _=>O) (.inl O) O) O (JLh (.ptr 1008 1) (Jp Qq O O) O (Hw (u:=.junk) (Hd (u:=OW 1012 2 G9.av (j204++[(G9.mk (i200:Int) [2,3,4])])) (ds:=[E4 s200.1,OW 1012 2 G9.av (j204++[(G9.mk (i200:Int) [2,3,4])]),G0 s200.2.2.1,G0 s200.2.2.2.1,G0 s200.2.2.2.2.1,G0 s200.2.2.2.2.2.1,E7 s200.2.2.2.2.2.2.1,E8 s200.2.2.2.2.2.2.2.1,E9 s200.2.2.2.2.2.2.2.2.1,G0 s200.2.2.2.2.2.2.2.2.2.1,G0 s200.2.2.2.2.2.2.2.2.2.2.1,G0 s200.2.2.2.2.2.2.2.2.2.2.2.1,G0 s200.2.2.2.2.2.2.2.2.2.2.2.2]) Jdf O O O O O O O O) (G7 ?_)))
       exact ej203 _ _ (j204++[(G9.mk (i200:Int) [2,3,4])]) h ⟨(.sm O O),⟨⟨_,rfl,.same⟩,⟨_,rfl,.boxL rfl (.sm O O)⟩,⟨_,rfl,.boxL rfl (.sm O O)⟩,ø⟩,rfl⟩
      ·
       refine Gi (ej203 _ _ j204 h ⟨(.sm O O),⟨⟨_,rfl,.same⟩,⟨_,rfl,.boxL rfl (.sm O O)⟩,⟨_,rfl,.boxL rfl (.sm O O)⟩,ø⟩,rfl⟩)
    ·intro j203 h
     replace h:=app1 hkj203 h
     refine G3 (Yb (Eo i200) O (JLh (G0 ((i200+1:Nat):Int)) (Hu (Hj hk200 (Ga3 hx200)) O O O) O (Yb (G0 ((i200+1:Nat):Int)) O (G7 (e200 _ _ (i200+1) (s200.1,j203,s200.2.2.1,s200.2.2.2.1,s200.2.2.2.2.1,s200.2.2.2.2.2.1,s200.2.2.2.2.2.2.1,s200.2.2.2.2.2.2.2.1,s200.2.2.2.2.2.2.2.2.1,s200.2.2.2.2.2.2.2.2.2.1,s200.2.2.2.2.2.2.2.2.2.2.1,s200.2.2.2.2.2.2.2.2.2.2.2.1,s200.2.2.2.2.2.2.2.2.2.2.2.2) (app1 hn200 h) (by omega) ⟨(.sm O O),⟨⟨_,rfl,.same⟩,⟨_,rfl,.boxL rfl (.sm O O)⟩,⟨_,rfl,.boxL rfl (.sm O O)⟩,ø⟩,rfl⟩)))))
   ·
    have h:=app1 hkx200 (Gef hi200 (G1c hb))
    refine Hm (hK132 ?_)
    refine Jr fun hK214=>(JLh (.agg (Ew s200)) (Hae Ho O O O O) O (Hw (u:=.junk) (Hd (u:=.agg (Ew s200)) (ds:=(Ew s200)) H92 O O O O O O O O) (G7 (hK214 ?_))))
    refine Gs (⟨[.agg [E4 s200.1,E5 s200.2.1,G0 s200.2.2.1,G0 s200.2.2.2.1,G0 s200.2.2.2.2.1,G0 s200.2.2.2.2.2.1,E7 s200.2.2.2.2.2.2.1,E8 s200.2.2.2.2.2.2.2.1,E9 s200.2.2.2.2.2.2.2.2.1,G0 s200.2.2.2.2.2.2.2.2.2.1,G0 s200.2.2.2.2.2.2.2.2.2.2.1,G0 s200.2.2.2.2.2.2.2.2.2.2.2.1,G0 s200.2.2.2.2.2.2.2.2.2.2.2.2]],[],ø,O,⟨⟨_,⟨_,_,_,_,O,O,O,.inl ⟨Ho,O⟩⟩,.agg ⟨.same O,.list O,.same O,.same O,.same O,.same O,.same O,.same O,.same O,.same O,.same O,.same O,.same O,ø⟩⟩,ø⟩,O,congrArg (fun r:Gw=>(.agg (Gw.cs r):AV)) (Option.some.inj h)⟩)

def Rq (l:List Stowed) (x:Stowed):Option (List Stowed):=
 each (fun y19 i19 (s19:(List Stowed)) nx19=>
  jp (fun kj22=>
   bif decide (y19.Gd < x.Gd) then
   (need (decide ((s19.length+[y19].length)*32≤140737488355328∧s19.length+[y19].length≤maxLen)) <|
    kj22 (s19++[y19]))
   else
   (kj22 s19)) fun(j22:(List Stowed))=>
  nx19 j22)
 (fun(s19:(List Stowed))=>
  need (decide ((s19.length+[x].length)*32≤140737488355328∧s19.length+[x].length≤maxLen)) <|
  each (fun y44 i44 (s44:(List Stowed)) nx44=>
   jp (fun kj47=>
    bif decide (x.Gd < y44.Gd) then
    (need (decide ((s44.length+[y44].length)*32≤140737488355328∧s44.length+[y44].length≤maxLen)) <|
     kj47 (s44++[y44]))
    else
    (kj47 s44)) fun(j47:(List Stowed))=>
   nx44 j47)
  (fun(s44:(List Stowed))=>
   some s44) l 0 (s19++[x])) l 0 []
theorem Gab (l:List Stowed) (x:Stowed) (r:(List Stowed)) (h:Rq l x=some r):Pure Ep 25 [E1 l,.agg (Stowed.cs x)] (·=E1 r):=by
 unfold Rq at h
 refine Gz [.tmp 4] Tryz.func25 O O (Jr fun hK1=>(JLh (.ptr 1072 0) (Jm (cs:=[G0 x.Gd,G0 x.Slot.G4,G0 x.Slot.Tier,U8 x.Slot.Half]) 1072 O O O O O) O (JLh (E1 ([]:List Stowed)) (Hf 4 O O) O (G7 (hK1 (Gq [(0,E1 l),(3,Eg x)] [] 1072 rfl rfl rfl ø rfl (by exact⟨.conv (.same rfl),.ptr,ø⟩) (Jr fun hK2=>(JLh (OW 1073 4 Stowed.av ([]:List Stowed)) (G24 1073 82 4 O O O) O (G7 (hK2 (Js fun hK3=>Jr fun hK4=>(Yb (E1 l) O (JLl Gy O O O fun hm11=>(Yb (G0 0) O (G7 (hK4 (Gj ?_)))))))))))))))))
 obtain⟨b19,kx19,hb19,hkx19,h⟩:=J2 h
 refine Hb (fun i19 (s19:(List Stowed))=>each b19 kx19 (List.drop i19 l) i19 s19=some r) (fun i19 s19=>[(0,E1 l),(3,Eg x),(5,OW 1073 4 Stowed.av s19),(10,E1 l),(11,Eo l.length),(12,Eo i19)]) (fun i19 s19=>[(1073,.spare 82 4 s19.length s19.length)]) (fun i19=>l.length - i19) 0 [] h ⟨(.sm O O),⟨⟨_,rfl,.same⟩,ø⟩,rfl⟩ ?_
 clear h
 intro i19 s19 hi19 K19 e19
 refine Jr fun hK20=>(JLh (BL (decide ((i19:Int) < (l.length:Int)))) (J0 O O O) O (G7 (hK20 (Js fun hK21=>Gf O (fun hb=>?_) (fun hb=>?_)))))
 ·
  have hk19:=Jk hb
  obtain⟨y19,nx19,hy19,hn19,h⟩:=Hs hi19 hk19
  replace h:=Y4 hb19 h
  refine Gi (hK21 ?_)
  obtain⟨kj22,hkj22,h⟩:=Qo h
  refine Jx (fun j22:(List Stowed)=>kj22 j22=some r) (fun j22=>[(0,E1 l),(3,Eg x),(5,OW 1073 4 Stowed.av j22),(10,E1 l),(11,Eo l.length),(12,Eo i19)]) (fun j22=>[(1073,.spare 82 4 j22.length j22.length)]) (fun Kj22 ej22=>?_) ?_
  ·
   refine Gj (Jr fun hK23=>(JLh (Eg y19) (H3 (f:=Stowed.av) (xs:=l) (y:=y19) O O O Gy hy19 O) O (JLh (.agg (Stowed.cs y19)) (Gg Jg O O O) O (JLh (.ptr 1074 0) (Hx 1074 4 Jo O O) O (Hw (u:=.junk) (Hd (u:=.agg (Stowed.cs y19)) (ds:=[G0 y19.Gd,G0 y19.Slot.G4,G0 y19.Slot.Tier,U8 y19.Slot.Half]) Qh O O O O O O O O) (G7 (hK23 (Gq [(0,E1 l),(3,Eg x),(5,OW 1073 4 Stowed.av s19),(7,Eg y19),(10,E1 l),(11,Eo l.length),(12,Eo i19)] [(1073,.spare 82 4 s19.length s19.length)] 1074 rfl rfl rfl ⟨⟨_,rfl,.same⟩,ø⟩ rfl (by repeat' (first | exact .ptr | constructor)) ?_))))))))
   refine Jr fun hK24=>(JLh (Eg y19) (Ga J5 O O O) O (JLh (G0 y19.Gd) (Gh Gb O O O) O (JLh (Eg x) (Ga J5 O O O) O (JLh (G0 x.Gd) (Gh Gb O O O) O (JLh (BL (decide (y19.Gd < x.Gd))) (J0 O O O) O (G7 (hK24 (JCc O h (fun h hb=>?_) (fun h hb=>?_)))))))))
   ·
    refine G3 (Yb (OW 1073 4 Stowed.av s19) O (JLh (.agg (Stowed.cs y19)) (Gg Jg O O O) O (JLh (E1 [y19]) (H6 (xs:=[.agg (Stowed.cs y19)]) O ⟨O,O,ø⟩ Gy Jo O O O O) O ?_)))
    obtain⟨ha25,h⟩:=Jd h
    refine JLh (OW 1073 4 Stowed.av (s19++[y19])) (Qk (f:=Stowed.av) (xs:=s19) (ys:=[y19]) O O O O Gy Gd5 ha25 (fun _=>O) (.inl O) O) O (Yb (OW 1073 4 Stowed.av (s19++[y19])) O (G7 (ej22 _ _ (s19++[y19]) h ⟨(.sm O O),⟨⟨_,rfl,.same⟩,ø⟩,rfl⟩)))
   ·
    refine Gi (ej22 _ _ s19 h ⟨(.sm O O),⟨⟨_,rfl,.same⟩,ø⟩,rfl⟩)
  ·intro j22 h
   replace h:=app1 hkj22 h
   refine G3 (JLh (G0 ((i19+1:Nat):Int)) (Hu (Hj hk19 hm11) O O O) O (Yb (G0 ((i19+1:Nat):Int)) O (G7 (e19 _ _ (i19+1) j22 (app1 hn19 h) (by omega) ⟨(.sm O O),⟨⟨_,rfl,.same⟩,ø⟩,rfl⟩))))
 ·
  have h:=app1 hkx19 (Ht hi19 (Ha hb))
  refine Hm (hK3 (Jr fun hK26=>(Yb (OW 1073 4 Stowed.av s19) O (JLh (.agg (Stowed.cs x)) (Gg Jg O O O) O (JLh (E1 [x]) (H6 (xs:=[.agg (Stowed.cs x)]) O ⟨O,O,ø⟩ Gy Jo O O O O) O ?_)))))
  obtain⟨ha27,h⟩:=Jd h
  refine JLh (OW 1073 4 Stowed.av (s19++[x])) (Qk (f:=Stowed.av) (xs:=s19) (ys:=[x]) O O O O Gy Gd5 ha27 (fun _=>O) (.inl O) O) O (Yb (OW 1073 4 Stowed.av (s19++[x])) O (G7 (hK26 (Js fun hK28=>Jr fun hK29=>(Yb (E1 l) O (JLl Gy O O O fun hm31=>(Yb (G0 0) O (G7 (hK29 (Gj ?_))))))))))
  obtain⟨b44,kx44,hb44,hkx44,h⟩:=J2 h
  refine Hb (fun i44 (s44:(List Stowed))=>each b44 kx44 (List.drop i44 l) i44 s44=some r) (fun i44 s44=>[(3,Eg x),(5,OW 1073 4 Stowed.av s44),(30,E1 l),(31,Eo l.length),(32,Eo i44)]) (fun i44 s44=>[(1073,.spare 82 4 s44.length s44.length)]) (fun i44=>l.length - i44) 0 (s19++[x]) h ⟨(.sm O O),⟨⟨_,rfl,.same⟩,ø⟩,rfl⟩ ?_
  clear h
  intro i44 s44 hi44 K44 e44
  refine Jr fun hK45=>(JLh (BL (decide ((i44:Int) < (l.length:Int)))) (J0 O O O) O (G7 (hK45 (Js fun hK46=>Gf O (fun hb=>?_) (fun hb=>?_)))))
  ·
   have hk44:=Jk hb
   obtain⟨y44,nx44,hy44,hn44,h⟩:=Hs hi44 hk44
   replace h:=Y4 hb44 h
   refine Gi (hK46 ?_)
   obtain⟨kj47,hkj47,h⟩:=Qo h
   refine Jx (fun j47:(List Stowed)=>kj47 j47=some r) (fun j47=>[(3,Eg x),(5,OW 1073 4 Stowed.av j47),(30,E1 l),(31,Eo l.length),(32,Eo i44)]) (fun j47=>[(1073,.spare 82 4 j47.length j47.length)]) (fun Kj47 ej47=>?_) ?_
   ·
    refine Gj (Jr fun hK48=>(JLh (Eg y44) (H3 (f:=Stowed.av) (xs:=l) (y:=y44) O O O Gy hy44 O) O (JLh (.agg (Stowed.cs y44)) (Gg Jg O O O) O (JLh (.ptr 1075 0) (Hx 1075 4 Jo O O) O (Hw (u:=.junk) (Hd (u:=.agg (Stowed.cs y44)) (ds:=[G0 y44.Gd,G0 y44.Slot.G4,G0 y44.Slot.Tier,U8 y44.Slot.Half]) Qh O O O O O O O O) (G7 (hK48 (Gq [(3,Eg x),(5,OW 1073 4 Stowed.av s44),(9,Eg y44),(30,E1 l),(31,Eo l.length),(32,Eo i44)] [(1073,.spare 82 4 s44.length s44.length)] 1075 rfl rfl rfl ⟨⟨_,rfl,.same⟩,ø⟩ rfl (by repeat' (first | exact .ptr | constructor)) ?_))))))))
    refine Jr fun hK49=>(JLh (Eg y44) (Ga J5 O O O) O (JLh (G0 y44.Gd) (Gh Gb O O O) O (JLh (Eg x) (Ga J5 O O O) O (JLh (G0 x.Gd) (Gh Gb O O O) O (JLh (BL (decide (x.Gd < y44.Gd))) (G43 O O O) O (G7 (hK49 (JCc O h (fun h hb=>?_) (fun h hb=>?_)))))))))
    ·
     refine G3 (Yb (OW 1073 4 Stowed.av s44) O (JLh (.agg (Stowed.cs y44)) (Gg Jg O O O) O (JLh (E1 [y44]) (H6 (xs:=[.agg (Stowed.cs y44)]) O ⟨O,O,ø⟩ Gy Jo O O O O) O ?_)))
     obtain⟨ha50,h⟩:=Jd h
     refine JLh (OW 1073 4 Stowed.av (s44++[y44])) (Qk (f:=Stowed.av) (xs:=s44) (ys:=[y44]) O O O O Gy Gd5 ha50 (fun _=>O) (.inl O) O) O (Yb (OW 1073 4 Stowed.av (s44++[y44])) O (G7 (ej47 _ _ (s44++[y44]) h ⟨(.sm O O),⟨⟨_,rfl,.same⟩,ø⟩,rfl⟩)))
    ·
     refine Gi (ej47 _ _ s44 h ⟨(.sm O O),⟨⟨_,rfl,.same⟩,ø⟩,rfl⟩)
   ·intro j47 h
    replace h:=app1 hkj47 h
    refine G3 (JLh (G0 ((i44+1:Nat):Int)) (Hu (Hj hk44 hm31) O O O) O (Yb (G0 ((i44+1:Nat):Int)) O (G7 (e44 _ _ (i44+1) j47 (app1 hn44 h) (by omega) ⟨(.sm O O),⟨⟨_,rfl,.same⟩,ø⟩,rfl⟩))))
  ·
   have h:=app1 hkx44 (Ht hi44 (Ha hb))
   refine Hm (hK28 (Jr fun hK51=>(Yb (OW 1073 4 Stowed.av s44) O (Yb (OW 1073 4 Stowed.av s44) O (G7 (hK51 (Gs (fin1l (fun r:(List Stowed)=>(E1 r:AV)) h))))))))

def G78 (l:List Stowed):Option (List Slot):=
 each (fun y17 i17 (s17:(List Slot)) nx17=>
  need (decide ((s17.length+[y17.Slot].length)*24≤140737488355328∧s17.length+[y17.Slot].length≤maxLen)) <|
  nx17 (s17++[y17.Slot]))
 (fun(s17:(List Slot))=>
  some s17) l 0 []
theorem He0 (l:List Stowed) (r:(List Slot)) (h:G78 l=some r):Pure Ep 57 [E1 l] (·=Ea r):=by
 unfold G78 at h
 refine Gz [.tmp 2] Tryz.func57 O O (Jr fun hK1=>(JLh (Ea ([]:List Slot)) (Hf 3 O O) O (G7 (hK1 (Jr fun hK2=>(JLh (OW 1118 3 Slot.av ([]:List Slot)) (G24 1118 54 3 O O O) O (G7 (hK2 (Js fun hK3=>Jr fun hK4=>(Yb (E1 l) O (JLl Gy O O O fun hm7=>(Yb (G0 0) O (G7 (hK4 (Gj ?_)))))))))))))))
 obtain⟨b17,kx17,hb17,hkx17,h⟩:=J2 h
 refine Hb (fun i17 (s17:(List Slot))=>each b17 kx17 (List.drop i17 l) i17 s17=some r) (fun i17 s17=>[(3,OW 1118 3 Slot.av s17),(6,E1 l),(7,Eo l.length),(8,Eo i17)]) (fun i17 s17=>[(1118,.spare 54 3 s17.length s17.length)]) (fun i17=>l.length - i17) 0 [] h ⟨(.sm O O),⟨⟨_,rfl,.same⟩,ø⟩,rfl⟩ ?_
 clear h
 intro i17 s17 hi17 K17 e17
 refine Jr fun hK18=>(JLh (BL (decide ((i17:Int) < (l.length:Int)))) (J0 O O O) O (G7 (hK18 (Js fun hK19=>Gf O (fun hb=>?_) (fun hb=>?_)))))
 ·
  have hk17:=Jk hb
  obtain⟨y17,nx17,hy17,hn17,h⟩:=Hs hi17 hk17
  replace h:=Y4 hb17 h
  refine Gi (hK19 (Js fun hK20=>Gj (Jr fun hK21=>(JLh (Eg y17) (H3 (f:=Stowed.av) (xs:=l) (y:=y17) O O O Gy hy17 O) O (JLh (.agg (Stowed.cs y17)) (Gg Jg O O O) O (JLh (.ptr 1119 0) (Hx 1119 4 Jo O O) O (Hw (u:=.junk) (Hd (u:=.agg (Stowed.cs y17)) (ds:=[G0 y17.Gd,G0 y17.Slot.G4,G0 y17.Slot.Tier,U8 y17.Slot.Half]) Qh O O O O O O O O) (G7 (hK21 (Gq [(3,OW 1118 3 Slot.av s17),(5,Eg y17),(6,E1 l),(7,Eo l.length),(8,Eo i17)] [(1118,.spare 54 3 s17.length s17.length)] 1119 rfl rfl rfl ⟨⟨_,rfl,.same⟩,ø⟩ rfl (by repeat' (first | exact .ptr | constructor)) (G3 ?_)))))))))))
  refine Yb (OW 1118 3 Slot.av s17) O (JLh (.dptr ((Stowed.cs y17).drop 1)) (Ga Hr O O O) O (JLh (.agg ((Stowed.cs y17).drop 1)) (Gg Jh O O O) O (JLh (Ea [y17.Slot]) (H6 (xs:=[.agg ((Stowed.cs y17).drop 1)]) O ⟨O,O,ø⟩ Yg G17 O O O O) O ?_)))
  obtain⟨ha22,h⟩:=Jd h
  refine JLh (OW 1118 3 Slot.av (s17++[y17.Slot])) (Qk (f:=Slot.av) (xs:=s17) (ys:=[y17.Slot]) O O O O Yg Je9 ha22 (fun _=>O) (.inl O) O) O (Yb (OW 1118 3 Slot.av (s17++[y17.Slot])) O (G7 (hK20 (G3 (JLh (G0 ((i17+1:Nat):Int)) (Hu (Hj hk17 hm7) O O O) O (Yb (G0 ((i17+1:Nat):Int)) O (G7 (e17 _ _ (i17+1) (s17++[y17.Slot]) (app1 hn17 h) (by omega) ⟨(.sm O O),⟨⟨_,rfl,.same⟩,ø⟩,rfl⟩))))))))
 ·
  have h:=app1 hkx17 (Ht hi17 (Ha hb))
  refine Hm (hK3 (Jr fun hK23=>(Yb (OW 1118 3 Slot.av s17) O (Yb (OW 1118 3 Slot.av s17) O (G7 (hK23 (Gs (fin1l (fun r:(List Slot)=>(Ea r:AV)) h))))))))

def G91 (b:Gd) (p1:Int):Option Bool:=
 some (decide (b.ID=p1))
theorem Jc1 (b:Gd) (p1:Int) (r:Bool) (h:G91 b p1=some r):Pure Ep 82 [.agg (Gd.cs b),.dptr [G0 p1]] (·=BL r):=by
 unfold G91 at h
 refine Gz [.tmp 3] Tryz.func82 O O (Jr fun hK1=>(JLh (.ptr 1154 0) (Jm (cs:=(Gd.cs b)) 1154 O O O O O) O (Yb (BL false) O (G7 (hK1 (Gq [(1,.dptr [G0 p1]),(2,Eh b)] [] 1154 rfl rfl rfl ø rfl (by exact⟨.conv (.same rfl),.ptr,ø⟩) (Jr fun hK2=>(JLh (Eh b) (Ga Qf O O O) O (JLh (G0 b.ID) (Gh Gb O O O) O (JLh (G0 p1) (Gh Gb O O O) O (JLh (BL (decide (b.ID=p1))) (Jz O O O) O (Yb (BL (decide (b.ID=p1))) O (G7 (hK2 (Gs (fin1 BL h))))))))))))))))

def Yw (s:List Gd) (f:Gd→Option Bool):Option Int:=
 each (fun y20 i20 (s20:Unit) nx20=>
  bnd (f y20) fun r26=>
  bif r26 then
  (some (i20:Int))
  else
  (nx20 ()))
 (fun(s20:Unit)=>
  some (-1)) s 0 ()
theorem H16 (s:List Gd) (f:Gd→Option Bool) (f_f:FuncId) (f_c:List AV) (f_B:H5 Ep f_f=true) (f_d:R0 (fun _=>false) f_c=true) (f_w:∀ a0 q,f a0=some q→Pure Ep f_f ([.agg (Gd.cs a0)]++f_c) (·=BL q)) (r:Int) (h:Yw s f=some r):Pure Ep 81 [E3 s,.fn f_f f_c] (·=G0 r):=by
 unfold Yw at h
 refine Gz [.tmp 4] Tryz.func81 O O (Jr fun hK1=>(Yb (G0 0) O (G7 (hK1 (Js fun hK2=>Jr fun hK3=>(Yb (E3 s) O (JLl Q4 O O O fun hm7=>(Yb (G0 0) O (G7 (hK3 (Gj ?_)))))))))))
 obtain⟨b20,kx20,hb20,hkx20,h⟩:=J2 h
 refine Hb (fun i20 (s20:Unit)=>each b20 kx20 (List.drop i20 s) i20 s20=some r) (fun i20 s20=>[(0,E3 s),(1,.fn f_f f_c),(7,Eo s.length),(8,Eo i20)]) (fun i20 s20=>[]) (fun i20=>s.length - i20) 0 () h ⟨⟨.same O,.same (He _ _ f_d),.same O,.same O,ø⟩,ø,O⟩ ?_
 clear h
 intro i20 s20 hi20 K20 e20
 refine Jr fun hK21=>(JLh (BL (decide ((i20:Int) < (s.length:Int)))) (J0 O O O) O (G7 (hK21 (Js fun hK22=>Gf O (fun hb=>?_) (fun hb=>?_)))))
 ·
  have hk20:=Jk hb
  obtain⟨y20,nx20,hy20,hn20,h⟩:=Hs hi20 hk20
  replace h:=Y4 hb20 h
  refine Gi (hK22 (Js fun hK23=>Gj (Jr fun hK24=>(Yb (Eo i20) O (Yb (Eo i20) O (G7 (hK24 (Jr fun hK25=>(Yb (.fn f_f f_c) O (Yb (E3 s) O (Yb (Eo i20) O (JLh (Eh y20) (H3 (f:=Gd.av) (xs:=s) (y:=y20) O O O Q4 hy20 O) O (JLh (.agg (Gd.cs y20)) (Gg G08 O O O) O ?_)))))))))))))
  obtain⟨r26,hr26,h⟩:=Ge h
  refine JLh (BL r26) (G25 (args:=[.agg (Gd.cs y20)]) (caps:=f_c) O O (f_w y20 _ hr26) f_B ⟨O,O,ø⟩ f_d) O (G7 (hK25 (JCc O h (fun h hb=>?_) (fun h hb=>?_))))
  ·
   refine Jr fun hK27=>(Yb (Eo i20) O (Yb (Eo i20) O (G7 (hK27 (Gs (fin1 G0 h))))))
  ·
   refine Gi (hK23 (G3 (JLh (G0 ((i20+1:Nat):Int)) (Hu (Hj hk20 hm7) O O O) O (Yb (G0 ((i20+1:Nat):Int)) O (G7 (e20 _ _ (i20+1) () (app1 hn20 h) (by omega) ⟨⟨.same rfl,.same (He _ _ f_d),.same rfl,.same rfl,ø⟩,ø,rfl⟩))))))
 ·
  have h:=app1 hkx20 (Ht hi20 (Ha hb))
  refine Hm (hK2 (Jr fun hK28=>(Yb (G0 (-1)) O (G7 (hK28 (Gs (fin1 G0 h)))))))

def G67 (boxes:List Gd) (id_:Int):Option (Gd×Bool):=
 bnd (Yw boxes (fun z0=>G91 z0 id_)) fun r3=>
 bif decide (r3 < 0) then
 (some ((Gd.mk 0 ByteArray.empty 0 false 0 0 0 0 false),false))
 else
 (Q9 boxes r3 fun y8=>
  some (y8,true))
theorem H73 (boxes:List Gd) (id_:Int) (r:Gd×Bool) (h:G67 boxes id_=some r):Pure Ep 45 [E3 boxes,G0 id_] (·=.tup [.agg (Gd.cs r.1),BL r.2]):=by
 unfold G67 at h
 refine Gz [.cell 4 52,.tmp 5] Tryz.func45 O O (Jr fun hK1=>(JLh (.ptr 1106 0) (Jm (cs:=[G0 id_]) 1106 O O O O O) O (JLh (.ptr 1107 0) (G54 1107 [G0 0,ST ByteArray.empty,U8 0,BL false,G0 0,G0 0,G0 0,U8 0,BL false] [E0,.string ByteArray.empty,.int .u8 0,.bool false,E0,E0,E0,.int .u8 0,.bool false] Gd3 ⟨.inl O,.inl O,.inl O,.inl O,.inl O,.inl O,.inl O,.inl O,.inl O,ø⟩ O O) O (Yb (BL false) O (G7 (hK1 (Gq [(0,E3 boxes),(3,.dptr [G0 id_]),(4,.ptr 1107 0)] [(1107,.box 52 [G0 0,ST ByteArray.empty,U8 0,BL false,G0 0,G0 0,G0 0,U8 0,BL false])] 1106 rfl rfl rfl ⟨⟨_,rfl,.boxEq rfl rfl⟩,ø⟩ rfl (by exact⟨.conv (.same rfl),.ptr,.conv (.same rfl),ø⟩) ?_)))))))
 refine Jr fun hK2=>(Yb (E3 boxes) O (JLh (.fn 82 [.dptr [G0 id_]]) (Z1 (cs:=[.dptr [G0 id_]]) O O) O ?_))
 obtain⟨r3,hr3,h⟩:=Ge h
 refine JLh (G0 r3) (Gv O (H16 boxes (fun z0=>G91 z0 id_) 82 [.dptr [G0 id_]] Qb8 O (fun z0 q hq=>Jc1 z0 id_ q hq) r3 hr3) Qb9 ⟨O,O,O,O,ø⟩) O (Yb (G0 r3) O (G7 (hK2 (Js fun hK4=>Jr fun hK5=>(Yb (G0 r3) O (JLh (BL (decide (r3 < 0))) (J0 O O O) O (G7 (hK5 (JCc O h (fun h hb=>?_) (fun h hb=>?_))))))))))
 ·
  refine Jr fun hK6=>(JLh (.agg [G0 0,ST ByteArray.empty,U8 0,BL false,G0 0,G0 0,G0 0,U8 0,BL false]) (J3 (cs:=[G0 0,ST ByteArray.empty,U8 0,BL false,G0 0,G0 0,G0 0,U8 0,BL false]) [(0,1),(1,1),(2,1),(3,1),(4,1),(5,1),(6,1),(7,1),(8,1)] [G0 0,ST ByteArray.empty,U8 0,BL false,G0 0,G0 0,G0 0,U8 0,BL false] [E0,.string ByteArray.empty,.int .u8 0,.bool false,E0,E0,E0,.int .u8 0,.bool false] Gb9 Gd3 ⟨.inl O,.inl O,.inl O,.inl O,.inl O,.inl O,.inl O,.inl O,.inl O,ø⟩ O O) O (Hw (u:=.junk) (Hd (u:=.agg [G0 0,ST ByteArray.empty,U8 0,BL false,G0 0,G0 0,G0 0,U8 0,BL false]) (ds:=[G0 0,ST ByteArray.empty,U8 0,BL false,G0 0,G0 0,G0 0,U8 0,BL false]) Zo O O O O O O O O) (Yb (BL false) O (G7 (hK6 ?_)))))
  refine Gs (⟨[.agg [G0 0,ST ByteArray.empty,U8 0,BL false,G0 0,G0 0,G0 0,U8 0,BL false],BL false],[],ø,O,⟨⟨_,⟨_,_,_,_,O,O,O,.inl ⟨G08,O⟩⟩,.conv (.same O)⟩,⟨_,O,.conv (.same O)⟩,ø⟩,O,congrArg (fun r:Gd×Bool=>(.tup [.agg (Gd.cs r.1),BL r.2]:AV)) (Option.some.inj h)⟩)
 ·
  refine Gi (hK4 (Jr fun hK7=>(Yb (E3 boxes) O (Yb (G0 r3) O ?_))))
  obtain⟨m9,y8,hm9,hy8,h⟩:=Y0 h
  refine JLh (Eh y8) (H3 (f:=Gd.av) (xs:=boxes) (y:=y8) O O O Q4 hy8 hm9) O (JLh (.agg (Gd.cs y8)) (Gg G08 O O O) O (Hw (u:=.junk) (Hd (u:=.agg (Gd.cs y8)) (ds:=(Gd.cs y8)) Zo O O O O O O O O) (Yb (BL true) O (G7 (hK7 (Gs (⟨[.agg (Gd.cs y8),BL true],[],ø,O,⟨⟨_,⟨_,_,_,_,O,O,O,.inl ⟨G08,O⟩⟩,.conv (.same O)⟩,⟨_,O,.conv (.same O)⟩,ø⟩,O,congrArg (fun r:Gd×Bool=>(.tup [.agg (Gd.cs r.1),BL r.2]:AV)) (Option.some.inj h)⟩)))))))

def Zg (s:List Int) (v:Int):Option Int:=
 each (fun y18 i18 (s18:Unit) nx18=>
  bif decide (v=y18) then
  (some (i18:Int))
  else
  (nx18 ()))
 (fun(s18:Unit)=>
  some (-1)) s 0 ()
theorem Had (s:List Int) (v:Int) (r:Int) (h:Zg s v=some r):Pure Ep 112 [Eb s,U8 v] (·=G0 r):=by
 unfold Zg at h
 refine Gz [.tmp 4] Tryz.func112 O O (Jr fun hK1=>(Yb (G0 0) O (G7 (hK1 (Js fun hK2=>Jr fun hK3=>(Yb (Eb s) O (JLl G73 O O O fun hm7=>(Yb (G0 0) O (G7 (hK3 (Gj ?_)))))))))))
 obtain⟨b18,kx18,hb18,hkx18,h⟩:=J2 h
 refine Hb (fun i18 (s18:Unit)=>each b18 kx18 (List.drop i18 s) i18 s18=some r) (fun i18 s18=>[(0,Eb s),(1,U8 v),(7,Eo s.length),(8,Eo i18)]) (fun i18 s18=>[]) (fun i18=>s.length - i18) 0 () h ⟨(.sm O O),ø,rfl⟩ ?_
 clear h
 intro i18 s18 hi18 K18 e18
 refine Jr fun hK19=>(JLh (BL (decide ((i18:Int) < (s.length:Int)))) (J0 O O O) O (G7 (hK19 (Js fun hK20=>Gf O (fun hb=>?_) (fun hb=>?_)))))
 ·
  have hk18:=Jk hb
  obtain⟨y18,nx18,hy18,hn18,h⟩:=Hs hi18 hk18
  replace h:=Y4 hb18 h
  refine Gi (hK20 (Js fun hK21=>Gj (Jr fun hK22=>(Yb (Eo i18) O (Yb (Eo i18) O (G7 (hK22 (Jr fun hK23=>(Yb (U8 v) O (Yb (Eb s) O (Yb (Eo i18) O (JLh (.dptr [U8 y18]) (H3 (f:=U8) (xs:=s) (y:=y18) O O O G73 hy18 O) O (JLh (U8 y18) (Gh Hz O O O) O (JLh (BL (decide (v=y18))) (Jz O O O) O (G7 (hK23 (JCc O h (fun h hb=>?_) (fun h hb=>?_))))))))))))))))))
  ·
   refine Jr fun hK24=>(Yb (Eo i18) O (Yb (Eo i18) O (G7 (hK24 (Gs (fin1 G0 h))))))
  ·
   refine Gi (hK21 (G3 (JLh (G0 ((i18+1:Nat):Int)) (Hu (Hj hk18 hm7) O O O) O (Yb (G0 ((i18+1:Nat):Int)) O (G7 (e18 _ _ (i18+1) () (app1 hn18 h) (by omega) ⟨(.sm O O),ø,rfl⟩))))))
 ·
  have h:=app1 hkx18 (Ht hi18 (Ha hb))
  refine Hm (hK2 (Jr fun hK25=>(Yb (G0 (-1)) O (G7 (hK25 (Gs (fin1 G0 h)))))))

def Y7 (s:List Int) (v:Int):Option Bool:=
 bnd (Zg s v) fun r3=>
 some (decide (0≤r3))
theorem H50 (s:List Int) (v:Int) (r:Bool) (h:Y7 s v=some r):Pure Ep 83 [Eb s,U8 v] (·=BL r):=by
 unfold Y7 at h
 refine Gz [.tmp 4] Tryz.func83 O O (Jr fun hK1=>(Yb (BL false) O (G7 (hK1 (Jr fun hK2=>(Yb (Eb s) O (Yb (U8 v) O ?_)))))))
 obtain⟨r3,hr3,h⟩:=Ge h
 refine JLh (G0 r3) (Gv O (Had s v r3 hr3) Q8b ⟨O,O,O,O,ø⟩) O (JLh (BL (decide (0≤r3))) (G2f O O O) O (Yb (BL (decide (0≤r3))) O (G7 (hK2 (Gs (fin1 BL h))))))

def G7b (s:Gw) (x:Slot) (size:Int):Option Bool:=
 bnd (bif (((decide (0≤x.G4))&&(decide (x.G4 < (s.Columns.length:Int))))&&(decide (0≤x.Tier))) then Q9 s.Columns x.G4 some else some default) fun y3=>
 bnd (bif ((((decide (0≤x.G4))&&(decide (x.G4 < (s.Columns.length:Int))))&&(decide (0≤x.Tier)))&&(decide (x.Tier < y3.Tiers))) then G2c size else some default) fun r4=>
 bnd (bif ((((decide (0≤x.G4))&&(decide (x.G4 < (s.Columns.length:Int))))&&(decide (0≤x.Tier)))&&(decide (x.Tier < y3.Tiers))) then Y7 r4 x.Half else some default) fun r5=>
 some (((((decide (0≤x.G4))&&(decide (x.G4 < (s.Columns.length:Int))))&&(decide (0≤x.Tier)))&&(decide (x.Tier < y3.Tiers)))&&r5)
theorem He2 (s:Gw) (x:Slot) (size:Int) (r:Bool) (h:G7b s x size=some r):Pure Ep 46 [.agg (Gw.cs s),.agg [G0 x.G4,G0 x.Tier,U8 x.Half],U8 size] (·=BL r):=by
 unfold G7b at h
 refine Gz [.tmp 6] Tryz.func46 O O (Jr fun hK1=>(JLh (.ptr 1108 0) (Jm (cs:=(Gw.cs s)) 1108 O O O O O) O (JLh (.ptr 1109 0) (Jm (cs:=[G0 x.G4,G0 x.Tier,U8 x.Half]) 1109 O O O O O) O (Yb (BL false) O (G7 (hK1 ?_))))))
 refine Gq [(2,U8 size),(3,Ef s),(4,.ptr 1109 0)] [(1109,.box 54 [G0 x.G4,G0 x.Tier,U8 x.Half])] 1108 rfl rfl rfl ⟨⟨_,rfl,.boxEq rfl rfl⟩,ø⟩ rfl (by exact⟨.conv (.same rfl),.ptr,.conv (.same rfl),ø⟩) ?_
 refine Gq [(2,U8 size),(3,Ef s),(4,.dptr [G0 x.G4,G0 x.Tier,U8 x.Half])] [] 1109 rfl rfl rfl ø rfl (by exact⟨.conv (.same rfl),.conv (.same rfl),.ptr,ø⟩) (Js fun hK2=>?_)
 obtain⟨y3,hy3,h⟩:=Ge h
 obtain⟨r4,hr4,h⟩:=Ge h
 obtain⟨r5,hr5,h⟩:=Ge h
 refine JC_d0 Q6 (by kernel_rfl) (Dq (.dptr [G0 x.G4,G0 x.Tier,U8 x.Half]) (Ga J9 O O O) O (Dq (G0 x.G4) (Gh Gb O O O) O (Dq (BL (decide (0≤x.G4))) (G2f O O O) O (Dq (BL (decide (0≤x.G4))) (G6 O O) O (Do (.dptr [G0 x.G4,G0 x.Tier,U8 x.Half]) [] O .sct ø (fun hc=>Ga J9 O O O) O (Do (G0 x.G4) [11] O .sct ⟨Ua,ø⟩ (fun hc=>Gh Gb O O O) O (Do (Ef s) [] O .sct ø (fun hc=>Ga J6 O O O) O (Do (E4 s.Columns) [13] O .sct ⟨Ua,ø⟩ (fun hc=>Gh Jj O O O) O (Do (Eo s.Columns.length) [14] O .sct ⟨Ua,ø⟩ (fun hc=>Yv (f:=G4.av) (xs:=s.Columns) Je O O) O (Do (BL (decide (x.G4 < (s.Columns.length:Int)))) [12,15] O .sct ⟨Ua,Ua,ø⟩ (fun hc=>J0 O O O) O (Dq (BL ((decide (0≤x.G4))&&(decide (x.G4 < (s.Columns.length:Int))))) (Qr O O O O) O (Dq (BL ((decide (0≤x.G4))&&(decide (x.G4 < (s.Columns.length:Int))))) (G6 O O) O (Do (.dptr [G0 x.Tier,U8 x.Half]) [] O .sct ø (fun hc=>Ga Qi O O O) O ?_)))))))))))))
 refine Do (G0 x.Tier) [19] O .sct ⟨Ua,ø⟩ (fun hc=>Gh Gb O O O) O (Do (BL (decide (0≤x.Tier))) [20] O .sct ⟨Ua,ø⟩ (fun hc=>G2f O O O) O (Dq (BL (((decide (0≤x.G4))&&(decide (x.G4 < (s.Columns.length:Int))))&&(decide (0≤x.Tier)))) (Qr O O O O) O (Dq (BL (((decide (0≤x.G4))&&(decide (x.G4 < (s.Columns.length:Int))))&&(decide (0≤x.Tier)))) (G6 O O) O (Do (.dptr [G0 x.Tier,U8 x.Half]) [] O .sct ø (fun hc=>Ga Qi O O O) O (Do (G0 x.Tier) [24] O .sct ⟨Ua,ø⟩ (fun hc=>Gh Gb O O O) O (Do (Ef s) [] O .sct ø (fun hc=>Ga J6 O O O) O (Do (E4 s.Columns) [26] O .sct ⟨Ua,ø⟩ (fun hc=>Gh Jj O O O) O (Do (.dptr [G0 x.G4,G0 x.Tier,U8 x.Half]) [] O .sct ø (fun hc=>Ga J9 O O O) O (Do (G0 x.G4) [28] O .sct ⟨Ua,ø⟩ (fun hc=>Gh Gb O O O) O (Do (Ei y3) [27,29] O .sct ⟨Ua,Ua,ø⟩ (fun hc=>(match Yz (Gx hc hy3) with | ⟨_,hm_,hy_⟩=>H3 (f:=G4.av) (xs:=s.Columns) (y:=y3) O O O Je hy_ hm_)) O (Do (.dptr ((G4.cs y3).drop 3)) [30] O .sct ⟨Ua,ø⟩ (fun hc=>Ga Ge5 O O O) O (Do (G0 y3.Tiers) [31] O .sct ⟨Ua,ø⟩ (fun hc=>Gh Gb O O O) O (Do (BL (decide (x.Tier < y3.Tiers))) [25,32] O .sct ⟨Ua,Ua,ø⟩ (fun hc=>J0 O O O) O ?_)))))))))))))
 refine Dq (BL ((((decide (0≤x.G4))&&(decide (x.G4 < (s.Columns.length:Int))))&&(decide (0≤x.Tier)))&&(decide (x.Tier < y3.Tiers)))) (Qr O O O O) O (Dq (BL ((((decide (0≤x.G4))&&(decide (x.G4 < (s.Columns.length:Int))))&&(decide (0≤x.Tier)))&&(decide (x.Tier < y3.Tiers)))) (G6 O O) O (Do (U8 size) [] O .sct ø (fun hc=>G6 O O) O (Do (Eb r4) [36] O .sct ⟨Ua,ø⟩ (fun hc=>Gv (args:=[U8 size]) O (Hb5 size r4 (Gx hc hr4)) Jef ⟨O,O,ø⟩) O (Do (.dptr [U8 x.Half]) [] O .sct ø (fun hc=>Ga Rt O O O) O (Do (U8 x.Half) [38] O .sct ⟨Ua,ø⟩ (fun hc=>Gh Hz O O O) O (Do (BL r5) [37,39] O .sct ⟨Ua,Ua,ø⟩ (fun hc=>Gv (args:=[Eb r4,U8 x.Half]) O (H50 r4 x.Half r5 (Gx hc hr5)) Qb7 ⟨O,O,O,O,ø⟩) O (Dq (BL (((((decide (0≤x.G4))&&(decide (x.G4 < (s.Columns.length:Int))))&&(decide (0≤x.Tier)))&&(decide (x.Tier < y3.Tiers)))&&r5)) (Qr O O O O) O (Dq (BL (((((decide (0≤x.G4))&&(decide (x.G4 < (s.Columns.length:Int))))&&(decide (0≤x.Tier)))&&(decide (x.Tier < y3.Tiers)))&&r5)) (G8 O O) O (Dnil ?_)))))))))
 refine hK2 (Gs (fin1 BL h))

def Yk (s:List Slot) (v:Slot):Option Int:=
 each (fun y18 i18 (s18:Unit) nx18=>
  bif decide (v=y18) then
  (some (i18:Int))
  else
  (nx18 ()))
 (fun(s18:Unit)=>
  some (-1)) s 0 ()
theorem H74 (s:List Slot) (v:Slot) (r:Int) (h:Yk s v=some r):Pure Ep 119 [Ea s,.agg [G0 v.G4,G0 v.Tier,U8 v.Half]] (·=G0 r):=by
 unfold Yk at h
 refine Gz [.tmp 4] Tryz.func119 O O (Jr fun hK1=>(JLh (.ptr 1187 0) (Jm (cs:=[G0 v.G4,G0 v.Tier,U8 v.Half]) 1187 O O O O O) O (Yb (G0 0) O (G7 (hK1 (Gq [(0,Ea s),(3,.dptr [G0 v.G4,G0 v.Tier,U8 v.Half])] [] 1187 rfl rfl rfl ø rfl (by exact⟨.conv (.same rfl),.ptr,ø⟩) (Js fun hK2=>Jr fun hK3=>(Yb (Ea s) O (JLl Yg O O O fun hm7=>(Yb (G0 0) O (G7 (hK3 (Gj ?_)))))))))))))
 obtain⟨b18,kx18,hb18,hkx18,h⟩:=J2 h
 refine Hb (fun i18 (s18:Unit)=>each b18 kx18 (List.drop i18 s) i18 s18=some r) (fun i18 s18=>[(0,Ea s),(3,.dptr [G0 v.G4,G0 v.Tier,U8 v.Half]),(7,Eo s.length),(8,Eo i18)]) (fun i18 s18=>[]) (fun i18=>s.length - i18) 0 () h ⟨(.sm O O),ø,rfl⟩ ?_
 clear h
 intro i18 s18 hi18 K18 e18
 refine Jr fun hK19=>(JLh (BL (decide ((i18:Int) < (s.length:Int)))) (J0 O O O) O (G7 (hK19 (Js fun hK20=>Gf O (fun hb=>?_) (fun hb=>?_)))))
 ·
  have hk18:=Jk hb
  obtain⟨y18,nx18,hy18,hn18,h⟩:=Hs hi18 hk18
  replace h:=Y4 hb18 h
  refine Gi (hK20 (Js fun hK21=>Gj (Jr fun hK22=>(Yb (Eo i18) O (Yb (Eo i18) O (G7 (hK22 (Js fun hK23=>JC_d0 Q6 (by kernel_rfl) (Dq (.agg [G0 v.G4,G0 v.Tier,U8 v.Half]) (Gg Jh O O O) O (Dq (Ea s) (G6 O O) O (Dq (Eo i18) (G6 O O) O (Dq (Ek y18) (H3 (f:=Slot.av) (xs:=s) (y:=y18) O O O Yg hy18 O) O (Dq (.agg (Slot.cs y18)) (Gg Jh O O O) O (Dq (BL (decide (v=y18))) (Jd8 (vs:=[.int .i64 v.G4,.int .i64 v.Tier,.int .u8 v.Half]) (us:=[.int .i64 y18.G4,.int .i64 y18.Tier,.int .u8 y18.Half]) 4 O (tq_54 v y18) J96 Q56 O O O) O (Dnil (hK23 (JCc O h (fun h hb=>?_) (fun h hb=>?_))))))))))))))))))
  ·
   refine Jr fun hK24=>(Yb (Eo i18) O (Yb (Eo i18) O (G7 (hK24 (Gs (fin1 G0 h))))))
  ·
   refine Gi (hK21 (G3 (JLh (G0 ((i18+1:Nat):Int)) (Hu (Hj hk18 hm7) O O O) O (Yb (G0 ((i18+1:Nat):Int)) O (G7 (e18 _ _ (i18+1) () (app1 hn18 h) (by omega) ⟨(.sm O O),ø,rfl⟩))))))
 ·
  have h:=app1 hkx18 (Ht hi18 (Ha hb))
  refine Hm (hK2 (Jr fun hK25=>(Yb (G0 (-1)) O (G7 (hK25 (Gs (fin1 G0 h)))))))

def Rh (s:List Slot) (v:Slot):Option Bool:=
 bnd (Yk s v) fun r3=>
 some (decide (0≤r3))
theorem H17 (s:List Slot) (v:Slot) (r:Bool) (h:Rh s v=some r):Pure Ep 92 [Ea s,.agg [G0 v.G4,G0 v.Tier,U8 v.Half]] (·=BL r):=by
 unfold Rh at h
 refine Gz [.tmp 4] Tryz.func92 O O (Jr fun hK1=>(JLh (.ptr 1158 0) (Jm (cs:=[G0 v.G4,G0 v.Tier,U8 v.Half]) 1158 O O O O O) O (Yb (BL false) O (G7 (hK1 (Gq [(0,Ea s),(3,.dptr [G0 v.G4,G0 v.Tier,U8 v.Half])] [] 1158 rfl rfl rfl ø rfl (by exact⟨.conv (.same rfl),.ptr,ø⟩) (Jr fun hK2=>(Yb (Ea s) O (JLh (.agg [G0 v.G4,G0 v.Tier,U8 v.Half]) (Gg Jh O O O) O ?_)))))))))
 obtain⟨r3,hr3,h⟩:=Ge h
 refine JLh (G0 r3) (Gv O (H74 s v r3 hr3) Q87 ⟨O,O,O,O,ø⟩) O (JLh (BL (decide (0≤r3))) (G2f O O O) O (Yb (BL (decide (0≤r3))) O (G7 (hK2 (Gs (fin1 BL h))))))

def G2d (half:Int) (p1:List Slot) (p2:Slot):Option Bool:=
 Rc (p2.Tier - 1) fun v3=>
 bnd (Rh p1 (Slot.mk p2.G4 v3 half)) fun r4=>
 some r4
theorem H0a (half:Int) (p1:List Slot) (p2:Slot) (r:Bool) (h:G2d half p1 p2=some r):Pure Ep 91 [U8 half,.dptr [Ea p1],.dptr [G0 p2.G4,G0 p2.Tier,U8 p2.Half]] (·=BL r):=by
 unfold G2d at h
 refine Gz [.tmp 4] Tryz.func91 O O (Jr fun hK1=>(Yb (BL false) O (G7 (hK1 (Jr fun hK2=>(JLh (Ea p1) (Gh H68 O O O) O (JLh (.dptr [G0 p2.G4,G0 p2.Tier,U8 p2.Half]) (Ga J9 O O O) O (JLh (G0 p2.G4) (Gh Gb O O O) O (JLh (.dptr [G0 p2.Tier,U8 p2.Half]) (Ga Qi O O O) O (JLh (G0 p2.Tier) (Gh Gb O O O) O ?_))))))))))
 obtain⟨v3,hv3,h⟩:=Hv h
 refine JLh (G0 v3) (Zn hv3 O O O) O (Yb (U8 half) O (JLh (.agg [G0 p2.G4,G0 v3,U8 half]) (J3 (cs:=[G0 p2.G4,G0 v3,U8 half]) [(0,1),(1,1),(2,1)] [G0 0,G0 0,U8 0] [E0,E0,.int .u8 0] H11 H22 ⟨.inl O,.inl O,.inl O,ø⟩ O O) O ?_))
 obtain⟨r4,hr4,h⟩:=Ge h
 refine JLh (BL r4) (Gv O (H17 p1 (Slot.mk p2.G4 v3 half) r4 hr4) Qb2 ⟨O,O,O,O,ø⟩) O (Yb (BL r4) O (G7 (hK2 (Gs (fin1 BL h)))))

def Gb0 (x:Slot) (l:List Slot):Option Bool:=
 bif decide (x.Tier≤0) then
 (some true)
 else
 (bnd (G2d x.Half l x) fun r7=>
  bnd (bif ((!r7)&&(decide (x.Half=0))) then G2d 1 l x else some default) fun r8=>
  bnd (bif ((!r7)&&((decide (x.Half=0))&&r8)) then G2d 2 l x else some default) fun r9=>
  some (r7||(((decide (x.Half=0))&&r8)&&r9)))
abbrev Ex (l:List Slot) (x:Slot):List AV:=[.dptr [Ea l],.dptr [G0 x.G4,G0 x.Tier,U8 x.Half]]
theorem J1a (x:Slot) (l:List Slot) (r:Bool) (h:Gb0 x l=some r):Pure Ep 58 [.agg [G0 x.G4,G0 x.Tier,U8 x.Half],Ea l] (·=BL r):=by
 unfold Gb0 at h
 refine Gz [.tmp 4] Tryz.func58 O O (Jr fun hK1=>(JLh (.ptr 1120 0) (Jm (cs:=[G0 x.G4,G0 x.Tier,U8 x.Half]) 1120 O O O O O) O (JLh (.ptr 1121 0) (Jm (cs:=[Ea l]) 1121 O O O O O) O (Yb (BL false) O (G7 (hK1 (Gq [(2,.dptr [G0 x.G4,G0 x.Tier,U8 x.Half]),(3,.ptr 1121 0)] [(1121,.box 102 [Ea l])] 1120 rfl rfl rfl ⟨⟨_,rfl,.boxEq rfl rfl⟩,ø⟩ rfl (by exact⟨.ptr,.conv (.same rfl),ø⟩) (Gq [(2,.dptr [G0 x.G4,G0 x.Tier,U8 x.Half]),(3,.dptr [Ea l])] [] 1121 rfl rfl rfl ø rfl (by exact⟨.conv (.same rfl),.ptr,ø⟩) (Js fun hK2=>Jr fun hK3=>(JLh (.dptr [G0 x.Tier,U8 x.Half]) (Ga Qi O O O) O (JLh (G0 x.Tier) (Gh Gb O O O) O (JLh (BL (decide (x.Tier≤0))) (H4a O O O) O (G7 (hK3 ?_))))))))))))))
 refine JCc O h ?_ ?_<;>intro h hb
 ·
  refine Jr fun hK4=>(Yb (BL true) O (G7 (hK4 (Gs (fin1 BL h)))))
 ·
  refine Gi (hK2 (Jr fun hK5=>(JLh (.fn 91 (Ex l x)) (Z1 (cs:=(Ex l x)) O O) O (Yb (.fn 91 (Ex l x)) O (G7 (hK5 (Jr fun hK6=>(Yb (.fn 91 (Ex l x)) O (JLh (.dptr [U8 x.Half]) (Ga Rt O O O) O (JLh (U8 x.Half) (Gh Hz O O O) O ?_))))))))))
  obtain⟨r7,hr7,h⟩:=Ge h
  refine JLh (BL r7) (G25 (args:=[U8 x.Half]) (caps:=(Ex l x)) O O (H0a x.Half l x r7 hr7) J23 ⟨O,O,ø⟩ O) O (Yb (BL r7) O (JLo (.dptr [U8 x.Half]) [] O .scf ø (fun hc=>Ga Rt O O O) O (JLo (U8 x.Half) [15] O .scf ⟨Ua,ø⟩ (fun hc=>Gh Hz O O O) O (JLo (BL (decide (x.Half=0))) [16] O .scf ⟨Ua,ø⟩ (fun hc=>Jz O O O) O (JLo (BL (decide (x.Half=0))) [17] O .scf ⟨Ua,ø⟩ (fun hc=>G6 O O) O (JLo (.fn 91 (Ex l x)) [] O .optt ø (fun hc=>G6 O O) O ?_))))))
  obtain⟨r8,hr8,h⟩:=Ge h
  refine JLo (BL r8) [19] O .optt ⟨Ua,ø⟩ (fun hc=>G25 (args:=[U8 1]) (caps:=(Ex l x)) O O (H0a 1 l x r8 (Gx hc hr8)) J23 ⟨O,O,ø⟩ O) O (Gc (u:=BL ((decide (x.Half=0))&&r8)) [(18,BL (decide (x.Half=0))),(20,_)] O O O .scf ⟨.all id,.part,ø⟩ (fun hc=>Qr O O O O) ?_)
  refine JLo (BL ((decide (x.Half=0))&&r8)) [21] O .scf ⟨Ua,ø⟩ (fun hc=>G6 O O) O (JLo (.fn 91 (Ex l x)) [] O .optt ø (fun hc=>G6 O O) O ?_)
  obtain⟨r9,hr9,h⟩:=Ge h
  refine JLo (BL r9) [23] O .optt ⟨Ua,ø⟩ (fun hc=>G25 (args:=[U8 2]) (caps:=(Ex l x)) O O (H0a 2 l x r9 (Gx hc hr9)) J23 ⟨O,O,ø⟩ O) O (Gc (u:=BL (((decide (x.Half=0))&&r8)&&r9)) [(22,BL ((decide (x.Half=0))&&r8)),(24,_)] O O O .scf ⟨.all id,.part,ø⟩ (fun hc=>Qr O O O O) ?_)
  refine JLh (BL (r7||(((decide (x.Half=0))&&r8)&&r9))) (G0b O O O O) O (Yb (BL (r7||(((decide (x.Half=0))&&r8)&&r9))) O (G7 (hK6 (Gs (fin1 BL h)))))

def G58 (a:Int) (b:Int):Option Bool:=
 some (((decide (a=b))||(decide (a=0)))||(decide (b=0)))
theorem Hb4 (a:Int) (b:Int) (r:Bool) (h:G58 a b=some r):Pure Ep 93 [U8 a,U8 b] (·=BL r):=by
 unfold G58 at h
 refine Gz [.tmp 4] Tryz.func93 O O (Jr fun hK1=>(Yb (BL false) O (G7 (hK1 (Jr fun hK2=>(Yb (U8 a) O (Yb (U8 b) O (JLh (BL (decide (a=b))) (Jz O O O) O (Yb (BL (decide (a=b))) O (JLo (U8 a) [] O .scf ø (fun hc=>G6 O O) O (JLo (BL (decide (a=0))) [9] O .scf ⟨Ua,ø⟩ (fun hc=>Jz O O O) O (JLh (BL ((decide (a=b))||(decide (a=0)))) (G0b O O O O) O (Yb (BL ((decide (a=b))||(decide (a=0)))) O (JLo (U8 b) [] O .scf ø (fun hc=>G6 O O) O (JLo (BL (decide (b=0))) [13] O .scf ⟨Ua,ø⟩ (fun hc=>Jz O O O) O (JLh (BL (((decide (a=b))||(decide (a=0)))||(decide (b=0)))) (G0b O O O O) O (Yb (BL (((decide (a=b))||(decide (a=0)))||(decide (b=0)))) O (G7 (hK2 (Gs (fin1 BL h)))))))))))))))))))))

def Gaf (a:Slot) (b:Slot):Option Bool:=
 bnd (bif ((decide (a.G4=b.G4))&&(decide (a.Tier=b.Tier))) then G58 a.Half b.Half else some default) fun r3=>
 some (((decide (a.G4=b.G4))&&(decide (a.Tier=b.Tier)))&&r3)
theorem J19 (a:Slot) (b:Slot) (r:Bool) (h:Gaf a b=some r):Pure Ep 59 [.agg [G0 a.G4,G0 a.Tier,U8 a.Half],.agg [G0 b.G4,G0 b.Tier,U8 b.Half]] (·=BL r):=by
 unfold Gaf at h
 refine Gz [.tmp 4] Tryz.func59 O O (Jr fun hK1=>(JLh (.ptr 1122 0) (Jm (cs:=[G0 a.G4,G0 a.Tier,U8 a.Half]) 1122 O O O O O) O (JLh (.ptr 1123 0) (Jm (cs:=[G0 b.G4,G0 b.Tier,U8 b.Half]) 1123 O O O O O) O (Yb (BL false) O (G7 (hK1 (Gq [(2,.dptr [G0 a.G4,G0 a.Tier,U8 a.Half]),(3,.ptr 1123 0)] [(1123,.box 54 [G0 b.G4,G0 b.Tier,U8 b.Half])] 1122 rfl rfl rfl ⟨⟨_,rfl,.boxEq rfl rfl⟩,ø⟩ rfl (by exact⟨.ptr,.conv (.same rfl),ø⟩) (Gq [(2,.dptr [G0 a.G4,G0 a.Tier,U8 a.Half]),(3,.dptr [G0 b.G4,G0 b.Tier,U8 b.Half])] [] 1123 rfl rfl rfl ø rfl (by exact⟨.conv (.same rfl),.ptr,ø⟩) ?_))))))))
 refine Jr fun hK2=>(JLh (.dptr [G0 a.G4,G0 a.Tier,U8 a.Half]) (Ga J9 O O O) O (JLh (G0 a.G4) (Gh Gb O O O) O (JLh (.dptr [G0 b.G4,G0 b.Tier,U8 b.Half]) (Ga J9 O O O) O (JLh (G0 b.G4) (Gh Gb O O O) O (JLh (BL (decide (a.G4=b.G4))) (Jz O O O) O (Yb (BL (decide (a.G4=b.G4))) O (JLo (.dptr [G0 a.Tier,U8 a.Half]) [] O .sct ø (fun hc=>Ga Qi O O O) O (JLo (G0 a.Tier) [11] O .sct ⟨Ua,ø⟩ (fun hc=>Gh Gb O O O) O (JLo (.dptr [G0 b.Tier,U8 b.Half]) [] O .sct ø (fun hc=>Ga Qi O O O) O (JLo (G0 b.Tier) [13] O .sct ⟨Ua,ø⟩ (fun hc=>Gh Gb O O O) O (JLo (BL (decide (a.Tier=b.Tier))) [12,14] O .sct ⟨Ua,Ua,ø⟩ (fun hc=>Jz O O O) O (JLh (BL ((decide (a.G4=b.G4))&&(decide (a.Tier=b.Tier)))) (Qr O O O O) O (Yb (BL ((decide (a.G4=b.G4))&&(decide (a.Tier=b.Tier)))) O ?_)))))))))))))
 refine JLo (.dptr [U8 a.Half]) [] O .sct ø (fun hc=>Ga Rt O O O) O (JLo (U8 a.Half) [18] O .sct ⟨Ua,ø⟩ (fun hc=>Gh Hz O O O) O (JLo (.dptr [U8 b.Half]) [] O .sct ø (fun hc=>Ga Rt O O O) O (JLo (U8 b.Half) [20] O .sct ⟨Ua,ø⟩ (fun hc=>Gh Hz O O O) O ?_)))
 obtain⟨r3,hr3,h⟩:=Ge h
 refine JLo (BL r3) [19,21] O .sct ⟨Ua,Ua,ø⟩ (fun hc=>Gv (args:=[U8 a.Half,U8 b.Half]) O (Hb4 a.Half b.Half r3 (Gx hc hr3)) Jee ⟨O,O,O,O,ø⟩) O (JLh (BL (((decide (a.G4=b.G4))&&(decide (a.Tier=b.Tier)))&&r3)) (Qr O O O O) O (Yb (BL (((decide (a.G4=b.G4))&&(decide (a.Tier=b.Tier)))&&r3)) O (G7 (hK2 (Gs (fin1 BL h))))))

def Gf9 (b:Gd):Option Int:=
 bif b.High then
 (some 2896)
 else
 (some 2591)
theorem M_stow_tall_w (b:Gd) (r:Int) (h:Gf9 b=some r):Pure Ep 120 [.agg (Gd.cs b)] (·=G0 r):=by
 unfold Gf9 at h
 refine Gz [.tmp 2] Tryz.func120 O O (Jr fun hK1=>(JLh (.ptr 1188 0) (Jm (cs:=(Gd.cs b)) 1188 O O O O O) O (Yb (G0 0) O (G7 (hK1 (Gq [(1,Eh b)] [] 1188 rfl rfl rfl ø rfl (by exact⟨.ptr,ø⟩) (Js fun hK2=>Jr fun hK3=>(JLh (.dptr [BL b.High,G0 b.Kilos,G0 b.Load,G0 b.Discharge,U8 b.Class,BL b.Reefer]) (Ga H6b O O O) O (JLh (BL b.High) (Gh Qm O O O) O (G7 (hK3 (JCc O h (fun h hb=>?_) (fun h hb=>?_)))))))))))))
 ·
  refine Jr fun hK4=>(Yb (G0 2896) O (G7 (hK4 (Gs (fin1 G0 h)))))
 ·
  refine Gi (hK2 (Jr fun hK5=>(Yb (G0 2591) O (G7 (hK5 (Gs (fin1 G0 h)))))))

def G57 (boxes:List Gd) (l:List Stowed) (column:Int) (half:Int):Option Int:=
 each (fun y27 i27 (s27:Int) nx27=>
  jp (fun kj30=>
   bif ((decide (y27.Slot.G4=column))&&((decide (y27.Slot.Half=half))||(decide (y27.Slot.Half=0)))) then
   (bnd (G67 boxes y27.Gd) fun r34=>
    bif r34.2 then
    (bnd (Gf9 r34.1) fun r36=>
     Rc (s27+r36) fun v37=>
     kj30 v37)
    else
    (kj30 s27))
   else
   (kj30 s27)) fun(j30:Int)=>
  nx27 j30)
 (fun(s27:Int)=>
  some s27) l 0 0
theorem Hb3 (boxes:List Gd) (l:List Stowed) (column:Int) (half:Int) (r:Int) (h:G57 boxes l column half=some r):Pure Ep 94 [E3 boxes,E1 l,G0 column,U8 half] (·=G0 r):=by
 unfold G57 at h
 refine Gz [.tmp 8] Tryz.func94 O O (Jr fun hK1=>(Yb (G0 0) O (G7 (hK1 (Jr fun hK2=>(Yb (G0 0) O (G7 (hK2 (Js fun hK3=>Jr fun hK4=>(Yb (E1 l) O (JLl Gy O O O fun hm15=>(Yb (G0 0) O (G7 (hK4 (Gj ?_)))))))))))))))
 obtain⟨b27,kx27,hb27,hkx27,h⟩:=J2 h
 refine Hb (fun i27 (s27:Int)=>each b27 kx27 (List.drop i27 l) i27 s27=some r) (fun i27 s27=>[(0,E3 boxes),(2,G0 column),(3,U8 half),(9,G0 s27),(14,E1 l),(15,Eo l.length),(16,Eo i27)]) (fun i27 s27=>[]) (fun i27=>l.length - i27) 0 0 h ⟨(.sm O O),ø,rfl⟩ ?_
 clear h
 intro i27 s27 hi27 K27 e27
 refine Jr fun hK28=>(JLh (BL (decide ((i27:Int) < (l.length:Int)))) (J0 O O O) O (G7 (hK28 (Js fun hK29=>Gf O (fun hb=>?_) (fun hb=>?_)))))
 ·
  have hk27:=Jk hb
  obtain⟨y27,nx27,hy27,hn27,h⟩:=Hs hi27 hk27
  replace h:=Y4 hb27 h
  refine Gi (hK29 ?_)
  obtain⟨kj30,hkj30,h⟩:=Qo h
  refine Jx (fun j30:Int=>kj30 j30=some r) (fun j30=>[(0,E3 boxes),(2,G0 column),(3,U8 half),(9,G0 j30),(14,E1 l),(15,Eo l.length),(16,Eo i27)]) (fun j30=>[]) (fun Kj30 ej30=>?_) ?_
  ·
   refine Gj (Jr fun hK31=>(JLh (Eg y27) (H3 (f:=Stowed.av) (xs:=l) (y:=y27) O O O Gy hy27 O) O (JLh (.agg (Stowed.cs y27)) (Gg Jg O O O) O (JLh (.ptr 1159 0) (Hx 1159 4 Jo O O) O (Hw (u:=.junk) (Hd (u:=.agg (Stowed.cs y27)) (ds:=[G0 y27.Gd,G0 y27.Slot.G4,G0 y27.Slot.Tier,U8 y27.Slot.Half]) Qh O O O O O O O O) (G7 (hK31 (Gq [(0,E3 boxes),(2,G0 column),(3,U8 half),(9,G0 s27),(11,Eg y27),(14,E1 l),(15,Eo l.length),(16,Eo i27)] [] 1159 rfl rfl rfl ø rfl (by repeat' (first | exact .ptr | constructor)) ?_))))))))
   refine Jr fun hK32=>(JLh (.dptr ((Stowed.cs y27).drop 1)) (Ga Hr O O O) O (JLh (.dptr ((Stowed.cs y27).drop 1)) (Ga J9 O O O) O (JLh (G0 y27.Slot.G4) (Gh Gb O O O) O (Yb (G0 column) O (JLh (BL (decide (y27.Slot.G4=column))) (Jz O O O) O (Yb (BL (decide (y27.Slot.G4=column))) O (JLo (.dptr ((Stowed.cs y27).drop 1)) [] O .sct ø (fun hc=>Ga Hr O O O) O (JLo (.dptr [U8 y27.Slot.Half]) [26] O .sct ⟨Ua,ø⟩ (fun hc=>Ga Rt O O O) O (JLo (U8 y27.Slot.Half) [27] O .sct ⟨Ua,ø⟩ (fun hc=>Gh Hz O O O) O (JLo (U8 half) [] O .sct ø (fun hc=>G6 O O) O (JLo (BL (decide (y27.Slot.Half=half))) [28,29] O .sct ⟨Ua,Ua,ø⟩ (fun hc=>Jz O O O) O (JLo (BL (decide (y27.Slot.Half=half))) [30] O .sct ⟨Ua,ø⟩ (fun hc=>G6 O O) O (JLo (.dptr ((Stowed.cs y27).drop 1)) [] O .optf ø (fun hc=>Ga Hr O O O) O ?_)))))))))))))
   refine JLo (.dptr [U8 y27.Slot.Half]) [32] O .optf ⟨Ua,ø⟩ (fun hc=>Ga Rt O O O) O (JLo (U8 y27.Slot.Half) [33] O .optf ⟨Ua,ø⟩ (fun hc=>Gh Hz O O O) O (JLo (BL (decide (y27.Slot.Half=0))) [34] O .optf ⟨Ua,ø⟩ (fun hc=>Jz O O O) O (Gc (u:=BL ((decide (y27.Slot.Half=half))||(decide (y27.Slot.Half=0)))) [(31,BL (decide (y27.Slot.Half=half))),(35,_)] O O O .sct ⟨.all id,.part,ø⟩ (fun hc=>G0b O O O O) ?_)))
   refine JLh (BL ((decide (y27.Slot.G4=column))&&((decide (y27.Slot.Half=half))||(decide (y27.Slot.Half=0))))) (Qr O O O O) O (G7 (hK32 (JCc O h (fun h hb=>?_) (fun h hb=>?_))))
   ·
    refine Jr fun hK33=>(Yb (E3 boxes) O (JLh (Eg y27) (Ga J5 O O O) O (JLh (G0 y27.Gd) (Gh Gb O O O) O ?_)))
    obtain⟨r34,hr34,h⟩:=Ge h
    refine JLh (.tup [.agg (Gd.cs r34.1),BL r34.2]) (Gv O (H73 boxes y27.Gd r34 hr34) J26 ⟨O,O,O,O,ø⟩) O (Yb (.tup [.agg (Gd.cs r34.1),BL r34.2]) O (JLh (.agg (Gd.cs r34.1)) (Hk O O O) O (JLh (BL r34.2) (Hk O O O) O (JLh (.ptr 1160 0) (Hx 1160 9 Rz O O) O (Hw (u:=.junk) (Hd (u:=.agg (Gd.cs r34.1)) (ds:=(Gd.cs r34.1)) Zo O O O O O O O O) (Yb (BL r34.2) O (G7 (hK33 ?_))))))))
    refine Gq [(0,E3 boxes),(2,G0 column),(3,U8 half),(9,G0 s27),(12,Eh r34.1),(13,BL r34.2),(14,E1 l),(15,Eo l.length),(16,Eo i27)] [] 1160 rfl rfl rfl ø rfl (by repeat' (first | exact .ptr | constructor)) (Jr fun hK35=>(Yb (BL r34.2) O (G7 (hK35 (JCc O h (fun h hb=>?_) (fun h hb=>?_))))))
    ·
     refine G3 (Yb (G0 s27) O (JLh (.agg (Gd.cs r34.1)) (Gg G08 O O O) O ?_))
     obtain⟨r36,hr36,h⟩:=Ge h
     refine JLh (G0 r36) (Gv O (M_stow_tall_w r34.1 r36 hr36) Q86 ⟨O,O,ø⟩) O ?_
     obtain⟨v37,hv37,h⟩:=Hv h
     refine JLh (G0 v37) (Hu hv37 O O O) O (Yb (G0 v37) O (G7 (ej30 _ _ v37 h ⟨(.sm O O),ø,rfl⟩)))
    ·
     refine Gi (ej30 _ _ s27 h ⟨(.sm O O),ø,rfl⟩)
   ·
    refine Gi (ej30 _ _ s27 h ⟨(.sm O O),ø,rfl⟩)
  ·intro j30 h
   replace h:=app1 hkj30 h
   refine G3 (JLh (G0 ((i27+1:Nat):Int)) (Hu (Hj hk27 hm15) O O O) O (Yb (G0 ((i27+1:Nat):Int)) O (G7 (e27 _ _ (i27+1) j30 (app1 hn27 h) (by omega) ⟨(.sm O O),ø,rfl⟩))))
 ·
  have h:=app1 hkx27 (Ht hi27 (Ha hb))
  refine Hm (hK3 (Jr fun hK38=>(Yb (G0 s27) O (Yb (G0 s27) O (G7 (hK38 (Gs (fin1 G0 h))))))))

def G66 (s:Gw) (boxes:List Gd) (l:List Stowed) (column:Int):Option Bool:=
 Q9 s.Columns column fun y3=>
 bnd (bif (!(decide (y3.Height≤0))) then G57 boxes l column 1 else some default) fun r6=>
 bnd (bif ((!(decide (y3.Height≤0)))&&(decide (r6≤y3.Height))) then G57 boxes l column 2 else some default) fun r7=>
 some ((decide (y3.Height≤0))||((decide (r6≤y3.Height))&&(decide (r7≤y3.Height))))
theorem J17 (s:Gw) (boxes:List Gd) (l:List Stowed) (column:Int) (r:Bool) (h:G66 s boxes l column=some r):Pure Ep 60 [.agg (Gw.cs s),E3 boxes,E1 l,G0 column] (·=BL r):=by
 unfold G66 at h
 refine Gz [.tmp 8] Tryz.func60 O O (Jr fun hK1=>(JLh (.ptr 1124 0) (Jm (cs:=(Gw.cs s)) 1124 O O O O O) O (Yb (BL false) O (G7 (hK1 (Gq [(1,E3 boxes),(2,E1 l),(3,G0 column),(4,Ef s)] [] 1124 rfl rfl rfl ø rfl (by repeat' (first | exact .ptr | constructor)) ?_))))))
 refine Jr fun hK2=>(JLh (Ef s) (Ga J6 O O O) O (JLh (E4 s.Columns) (Gh Jj O O O) O (Yb (G0 column) O ?_)))
 obtain⟨m4,y3,hm4,hy3,h⟩:=Y0 h
 refine JLh (Ei y3) (H3 (f:=G4.av) (xs:=s.Columns) (y:=y3) O O O Je hy3 hm4) O (JLh (.dptr ((G4.cs y3).drop 4)) (Ga J0f O O O) O (JLh (G0 y3.Height) (Gh Gb O O O) O (Yb (G0 y3.Height) O (G7 (hK2 (Jr fun hK5=>(Yb (G0 y3.Height) O (JLh (BL (decide (y3.Height≤0))) (H4a O O O) O (Yb (BL (decide (y3.Height≤0))) O (JLo (E3 boxes) [] O .scf ø (fun hc=>G6 O O) O (JLo (E1 l) [] O .scf ø (fun hc=>G6 O O) O (JLo (G0 column) [] O .scf ø (fun hc=>G6 O O) O ?_))))))))))))
 obtain⟨r6,hr6,h⟩:=Ge h
 refine JLo (G0 r6) [19,20,21] O .scf ⟨Ua,Ua,Ua,ø⟩ (fun hc=>Gv (args:=[E3 boxes,E1 l,G0 column,U8 1]) O (Hb3 boxes l column 1 r6 (Gx hc hr6)) Jed ⟨O,O,O,O,O,O,O,O,ø⟩) O (JLo (G0 y3.Height) [] O .scf ø (fun hc=>G6 O O) O (JLo (BL (decide (r6≤y3.Height))) [22,23] O .scf ⟨Ua,Ua,ø⟩ (fun hc=>H4a O O O) O (JLo (BL (decide (r6≤y3.Height))) [24] O .scf ⟨Ua,ø⟩ (fun hc=>G6 O O) O (JLo (E3 boxes) [] O .optt ø (fun hc=>G6 O O) O (JLo (E1 l) [] O .optt ø (fun hc=>G6 O O) O (JLo (G0 column) [] O .optt ø (fun hc=>G6 O O) O ?_))))))
 obtain⟨r7,hr7,h⟩:=Ge h
 refine JLo (G0 r7) [26,27,28] O .optt ⟨Ua,Ua,Ua,ø⟩ (fun hc=>Gv (args:=[E3 boxes,E1 l,G0 column,U8 2]) O (Hb3 boxes l column 2 r7 (Gx hc hr7)) Jed ⟨O,O,O,O,O,O,O,O,ø⟩) O (JLo (G0 y3.Height) [] O .optt ø (fun hc=>G6 O O) O (JLo (BL (decide (r7≤y3.Height))) [29,30] O .optt ⟨Ua,Ua,ø⟩ (fun hc=>H4a O O O) O (Gc (u:=BL ((decide (r6≤y3.Height))&&(decide (r7≤y3.Height)))) [(25,BL (decide (r6≤y3.Height))),(31,_)] O O O .scf ⟨.all id,.part,ø⟩ (fun hc=>Qr O O O O) ?_)))
 refine JLh (BL ((decide (y3.Height≤0))||((decide (r6≤y3.Height))&&(decide (r7≤y3.Height))))) (G0b O O O O) O (Yb (BL ((decide (y3.Height≤0))||((decide (r6≤y3.Height))&&(decide (r7≤y3.Height))))) O (G7 (hK5 (Gs (fin1 BL h)))))

def Re (s:Gw) (boxes:List Gd) (l:List Stowed):Option Bool:=
 bnd (Z7 s) fun r4=>
 bif (!r4) then
 (some false)
 else
 (bnd (G78 l) fun r7=>
  each (fun y10 i10 (s10:Unit) nx10=>
   bnd (G67 boxes y10.Gd) fun r16=>
   bnd (bif ((!(!r16.2))&&(decide (0 < (i10:Int)))) then Rc ((i10:Int) - 1) some else some 0) fun v19=>
   bnd (bif ((!(!r16.2))&&(decide (0 < (i10:Int)))) then Q9 l v19 some else some default) fun y20=>
   bnd (bif (!((!r16.2)||((decide (0 < (i10:Int)))&&(decide (y10.Gd≤y20.Gd))))) then G7b s y10.Slot r16.1.Size else some default) fun r21=>
   bnd (bif (!(((!r16.2)||((decide (0 < (i10:Int)))&&(decide (y10.Gd≤y20.Gd))))||(!r21))) then Gb0 y10.Slot r7 else some default) fun r22=>
   bif ((((!r16.2)||((decide (0 < (i10:Int)))&&(decide (y10.Gd≤y20.Gd))))||(!r21))||(!r22)) then
   (some false)
   else
   (bnd (J54 (i10:Int) r7.length) fun m25=>
    each (fun y42 i42 (s42:Unit) nx42=>
     bnd (Gaf y10.Slot y42) fun r48=>
     bif r48 then
     (some false)
     else
     (nx42 ()))
    (fun(s42:Unit)=>
     nx10 ()) (r7.take m25) 0 ()))
  (fun(s10:Unit)=>
   each (fun y64 i64 (s64:Unit) nx64=>
    bnd (G66 s boxes l (i64:Int)) fun r70=>
    bif (!r70) then
    (some false)
    else
    (nx64 ()))
   (fun(s64:Unit)=>
    some true) s.Columns 0 ()) l 0 ())
theorem G35 (s:Gw) (boxes:List Gd) (l:List Stowed) (r:Bool) (h:Re s boxes l=some r):Pure Ep 26 [.agg (Gw.cs s),E3 boxes,E1 l] (·=BL r):=by
 unfold Re at h
 refine Gz [.tmp 6] Tryz.func26 O O (Jr fun hK1=>(JLh (.ptr 1076 0) (Jm (cs:=(Gw.cs s)) 1076 O O O O O) O (Yb (BL false) O (G7 (hK1 (Gq [(1,E3 boxes),(2,E1 l),(3,Ef s)] [] 1076 rfl rfl rfl ø rfl (by exact⟨.conv (.same rfl),.conv (.same rfl),.ptr,ø⟩) (Js fun hK2=>?_)))))))
 refine Jr fun hK3=>(JLh (.agg (Gw.cs s)) (Gg Ho O O O) O ?_)
 obtain⟨r4,hr4,h⟩:=Ge h
 refine JLh (BL r4) (Gv O (H41.down s r4 hr4) J27 ⟨O,O,ø⟩) O (JLh (BL (!r4)) (Rv (b:=r4) O O) O (G7 (hK3 (JCc O h (fun h hb=>?_) (fun h hb=>?_)))))
 ·
  refine Jr fun hK5=>(Yb (BL false) O (G7 (hK5 (Gs (fin1 BL h)))))
 ·
  refine Gi (hK2 (Jr fun hK6=>(Yb (E1 l) O ?_)))
  obtain⟨r7,hr7,h⟩:=Ge h
  refine JLh (Ea r7) (Gv O (He0 l r7 hr7) Jf7 ⟨O,O,ø⟩) O (Yb (Ea r7) O (G7 (hK6 (Js fun hK8=>Jr fun hK9=>(Yb (E1 l) O (JLl Gy O O O fun hm21=>(Yb (G0 0) O (G7 (hK9 (Gj ?_))))))))))
  obtain⟨b10,kx10,hb10,hkx10,h⟩:=J2 h
  refine Hb (fun i10 (s10:Unit)=>each b10 kx10 (List.drop i10 l) i10 s10=some r) (fun i10 s10=>[(1,E3 boxes),(2,E1 l),(3,Ef s),(7,Ea r7),(20,E1 l),(21,Eo l.length),(22,Eo i10)]) (fun i10 s10=>[]) (fun i10=>l.length - i10) 0 () h ⟨(.sm O O),ø,rfl⟩ ?_
  clear h
  intro i10 s10 hi10 K10 e10
  refine Jr fun hK11=>(JLh (BL (decide ((i10:Int) < (l.length:Int)))) (J0 O O O) O (G7 (hK11 (Js fun hK12=>Gf O (fun hb=>?_) (fun hb=>?_)))))
  ·
   have hk10:=Jk hb
   obtain⟨y10,nx10,hy10,hn10,h⟩:=Hs hi10 hk10
   replace h:=Y4 hb10 h
   refine Gi (hK12 (Js fun hK13=>Gj (Jr fun hK14=>(Yb (Eo i10) O (JLh (Eg y10) (H3 (f:=Stowed.av) (xs:=l) (y:=y10) O O O Gy hy10 O) O (JLh (.agg (Stowed.cs y10)) (Gg Jg O O O) O (JLh (.ptr 1077 0) (Hx 1077 4 Jo O O) O (Yb (Eo i10) O (Hw (u:=.junk) (Hd (u:=.agg (Stowed.cs y10)) (ds:=[G0 y10.Gd,G0 y10.Slot.G4,G0 y10.Slot.Tier,U8 y10.Slot.Half]) Qh O O O O O O O O) (G7 (hK14 ?_)))))))))))
   refine Gq [(1,E3 boxes),(2,E1 l),(3,Ef s),(7,Ea r7),(8,Eo i10),(9,Eg y10),(20,E1 l),(21,Eo l.length),(22,Eo i10)] [] 1077 rfl rfl rfl ø rfl (by repeat' (first | exact .ptr | constructor)) (Jr fun hK15=>(Yb (E3 boxes) O (JLh (Eg y10) (Ga J5 O O O) O (JLh (G0 y10.Gd) (Gh Gb O O O) O ?_))))
   obtain⟨r16,hr16,h⟩:=Ge h
   refine JLh (.tup [.agg (Gd.cs r16.1),BL r16.2]) (Gv O (H73 boxes y10.Gd r16 hr16) J26 ⟨O,O,O,O,ø⟩) O (Yb (.tup [.agg (Gd.cs r16.1),BL r16.2]) O (JLh (.agg (Gd.cs r16.1)) (Hk O O O) O (JLh (BL r16.2) (Hk O O O) O (JLh (.ptr 1078 0) (Hx 1078 9 Rz O O) O (Hw (u:=.junk) (Hd (u:=.agg (Gd.cs r16.1)) (ds:=(Gd.cs r16.1)) Zo O O O O O O O O) (Yb (BL r16.2) O (G7 (hK15 ?_))))))))
   refine Gq [(1,E3 boxes),(2,E1 l),(3,Ef s),(7,Ea r7),(8,Eo i10),(9,Eg y10),(10,Eh r16.1),(11,BL r16.2),(20,E1 l),(21,Eo l.length),(22,Eo i10)] [] 1078 rfl rfl rfl ø rfl (by repeat' (first | exact .ptr | constructor)) (Js fun hK17=>Js fun hK18=>?_)
   obtain⟨v19,hv19,h⟩:=Ge h
   obtain⟨y20,hy20,h⟩:=Ge h
   obtain⟨r21,hr21,h⟩:=Ge h
   obtain⟨r22,hr22,h⟩:=Ge h
   refine JC_d0 Q6 (by kernel_rfl) (Dq (BL r16.2) (G6 O O) O (Dq (BL (!r16.2)) (Rv (b:=r16.2) O O) O (Dq (BL (!r16.2)) (G6 O O) O (Do (Eo i10) [] O .scf ø (fun hc=>G6 O O) O (Do (BL (decide (0 < (i10:Int)))) [37] O .scf ⟨Ua,ø⟩ (fun hc=>G43 O O O) O (Do (BL (decide (0 < (i10:Int)))) [38] O .scf ⟨Ua,ø⟩ (fun hc=>G6 O O) O (Do (Eg y10) [] O .optt ø (fun hc=>Ga J5 O O O) O (Do (G0 y10.Gd) [40] O .optt ⟨Ua,ø⟩ (fun hc=>Gh Gb O O O) O (Do (E1 l) [] O .optt ø (fun hc=>G6 O O) O (Do (Eo i10) [] O .optt ø (fun hc=>G6 O O) O (Do (G0 v19) [43] O .optt ⟨Ua,ø⟩ (fun hc=>Zn (G8d (Gx hc hv19)) O O O) O (Do (Eg y20) [42,44] O .optt ⟨Ua,Ua,ø⟩ (fun hc=>(match Yz (Gx hc hy20) with | ⟨_,hm_,hy_⟩=>H3 (f:=Stowed.av) (xs:=l) (y:=y20) O O O Gy hy_ hm_)) O (Do (Eg y20) [45] O .optt ⟨Ua,ø⟩ (fun hc=>Ga J5 O O O) O ?_)))))))))))))
   refine Do (G0 y20.Gd) [46] O .optt ⟨Ua,ø⟩ (fun hc=>Gh Gb O O O) O (Do (BL (decide (y10.Gd≤y20.Gd))) [41,47] O .optt ⟨Ua,Ua,ø⟩ (fun hc=>H4a O O O) O (Dg (.opt (!(!r16.2)) (BL ((decide (0 < (i10:Int)))&&(decide (y10.Gd≤y20.Gd))))) (Hy [(39,BL (decide (0 < (i10:Int)))),(48,_)] O O O .scf ⟨.all id,.part,ø⟩ (fun hc=>Qr O O O O) O) O (Dq (BL ((!r16.2)||((decide (0 < (i10:Int)))&&(decide (y10.Gd≤y20.Gd))))) (G0b O O O O) O (Dq (BL ((!r16.2)||((decide (0 < (i10:Int)))&&(decide (y10.Gd≤y20.Gd))))) (G6 O O) O (Do (.agg (Gw.cs s)) [] O .scf ø (fun hc=>Gg Ho O O O) O (Do (.dptr ((Stowed.cs y10).drop 1)) [] O .scf ø (fun hc=>Ga Hr O O O) O (Do (.agg ((Stowed.cs y10).drop 1)) [53] O .scf ⟨Ua,ø⟩ (fun hc=>Gg Jh O O O) O (Do (.dptr ((Gd.cs r16.1).drop 2)) [] O .scf ø (fun hc=>Ga G03 O O O) O (Do (U8 r16.1.Size) [55] O .scf ⟨Ua,ø⟩ (fun hc=>Gh Hz O O O) O (Do (BL r21) [52,54,56] O .scf ⟨Ua,Ua,Ua,ø⟩ (fun hc=>Gv (args:=[.agg (Gw.cs s),.agg ((Stowed.cs y10).drop 1),U8 r16.1.Size]) O (He2 s y10.Slot r16.1.Size r21 (Gx hc hr21)) Jf9 ⟨O,O,O,O,O,O,ø⟩) O (Do (BL (!r21)) [57] O .scf ⟨Ua,ø⟩ (fun hc=>Rv (b:=r21) O O) O (Dq (BL (((!r16.2)||((decide (0 < (i10:Int)))&&(decide (y10.Gd≤y20.Gd))))||(!r21))) (G0b O O O O) O (Dq (BL (((!r16.2)||((decide (0 < (i10:Int)))&&(decide (y10.Gd≤y20.Gd))))||(!r21))) (G6 O O) O ?_)))))))))))))
   refine Do (.dptr ((Stowed.cs y10).drop 1)) [] O .scf ø (fun hc=>Ga Hr O O O) O (Do (.agg ((Stowed.cs y10).drop 1)) [61] O .scf ⟨Ua,ø⟩ (fun hc=>Gg Jh O O O) O (Do (Ea r7) [] O .scf ø (fun hc=>G6 O O) O (Do (BL r22) [62,63] O .scf ⟨Ua,Ua,ø⟩ (fun hc=>Gv (args:=[.agg ((Stowed.cs y10).drop 1),Ea r7]) O (J1a y10.Slot r7 r22 (Gx hc hr22)) Jf6 ⟨O,O,O,O,ø⟩) O (Do (BL (!r22)) [64] O .scf ⟨Ua,ø⟩ (fun hc=>Rv (b:=r22) O O) O (Dq (BL ((((!r16.2)||((decide (0 < (i10:Int)))&&(decide (y10.Gd≤y20.Gd))))||(!r21))||(!r22))) (G0b O O O O) O (Dnil (hK18 (JCc O h (fun h hb=>?_) (fun h hb=>?_)))))))))
   ·
    refine Jr fun hK23=>(Yb (BL false) O (G7 (hK23 (Gs (fin1 BL h)))))
   ·
    refine Gi (hK17 (Jr fun hK24=>(Yb (Ea r7) O (Yb (Eo i10) O ?_))))
    obtain⟨m25,hm25,h⟩:=Ge h
    refine JLh (Ea (r7.take m25)) (J3d (f:=Slot.av) (xs:=r7) O O O Yg (H7e hm25)) O (JLl Yg O O O fun hm70=>(Yb (G0 0) O (G7 (hK24 (Gj ?_)))))
    obtain⟨b42,kx42,hb42,hkx42,h⟩:=J2 h
    refine Hb (fun i42 (s42:Unit)=>each b42 kx42 (List.drop i42 (r7.take m25)) i42 s42=some r) (fun i42 s42=>[(1,E3 boxes),(2,E1 l),(3,Ef s),(7,Ea r7),(9,Eg y10),(20,E1 l),(21,Eo l.length),(22,Eo i10),(69,Ea (r7.take m25)),(70,G0 ((r7.take m25).length:Int)),(71,Eo i42)]) (fun i42 s42=>[]) (fun i42=>(r7.take m25).length - i42) 0 () h ⟨(.sm O O),ø,rfl⟩ ?_
    clear h
    intro i42 s42 hi42 K42 e42
    refine Jr fun hK43=>(JLh (BL (decide ((i42:Int) < ((r7.take m25).length:Int)))) (J0 O O O) O (G7 (hK43 (Js fun hK44=>Gf O (fun hb=>?_) (fun hb=>?_)))))
    ·
     have hk42:=Jk hb
     obtain⟨y42,nx42,hy42,hn42,h⟩:=Hs hi42 hk42
     replace h:=Y4 hb42 h
     refine Gi (hK44 (Js fun hK45=>Gj (Jr fun hK46=>(JLh (Ek y42) (H3 (f:=Slot.av) (xs:=(r7.take m25)) (y:=y42) O O O Yg hy42 O) O (JLh (.agg (Slot.cs y42)) (Gg Jh O O O) O (JLh (.ptr 1079 0) (Hx 1079 3 G17 O O) O (Hw (u:=.junk) (Hd (u:=.agg (Slot.cs y42)) (ds:=[G0 y42.G4,G0 y42.Tier,U8 y42.Half]) G44 O O O O O O O O) (G7 (hK46 ?_)))))))))
     refine Gq [(1,E3 boxes),(2,E1 l),(3,Ef s),(7,Ea r7),(9,Eg y10),(13,Ek y42),(20,E1 l),(21,Eo l.length),(22,Eo i10),(69,Ea (r7.take m25)),(70,G0 ((r7.take m25).length:Int)),(71,Eo i42)] [] 1079 rfl rfl rfl ø rfl (by repeat' (first | exact .ptr | constructor)) ?_
     refine Jr fun hK47=>(JLh (.dptr ((Stowed.cs y10).drop 1)) (Ga Hr O O O) O (JLh (.agg ((Stowed.cs y10).drop 1)) (Gg Jh O O O) O (JLh (.agg (Slot.cs y42)) (Gg Jh O O O) O ?_)))
     obtain⟨r48,hr48,h⟩:=Ge h
     refine JLh (BL r48) (Gv O (J19 y10.Slot y42 r48 hr48) Jf5 ⟨O,O,O,O,ø⟩) O (G7 (hK47 (JCc O h (fun h hb=>?_) (fun h hb=>?_))))
     ·
      refine Jr fun hK49=>(Yb (BL false) O (G7 (hK49 (Gs (fin1 BL h)))))
     ·
      refine Gi (hK45 (G3 (JLh (G0 ((i42+1:Nat):Int)) (Hu (Hj hk42 hm70) O O O) O (Yb (G0 ((i42+1:Nat):Int)) O (G7 (e42 _ _ (i42+1) () (app1 hn42 h) (by omega) ⟨(.sm O O),ø,rfl⟩))))))
    ·
     have h:=app1 hkx42 (Ht hi42 (Ha hb))
     refine Hm (hK13 (G3 (JLh (G0 ((i10+1:Nat):Int)) (Hu (Hj hk10 hm21) O O O) O (Yb (G0 ((i10+1:Nat):Int)) O (G7 (e10 _ _ (i10+1) () (app1 hn10 h) (by omega) ⟨(.sm O O),ø,rfl⟩))))))
  ·
   have h:=app1 hkx10 (Ht hi10 (Ha hb))
   refine Hm (hK8 (Js fun hK50=>Jr fun hK51=>(JLh (Ef s) (Ga J6 O O O) O (JLh (E4 s.Columns) (Gh Jj O O O) O (JLl Je O O O fun hm83=>(Yb (G0 0) O (G7 (hK51 (Gj ?_)))))))))
   obtain⟨b64,kx64,hb64,hkx64,h⟩:=J2 h
   refine Hb (fun i64 (s64:Unit)=>each b64 kx64 (List.drop i64 s.Columns) i64 s64=some r) (fun i64 s64=>[(1,E3 boxes),(2,E1 l),(3,Ef s),(83,Eo s.Columns.length),(84,Eo i64)]) (fun i64 s64=>[]) (fun i64=>s.Columns.length - i64) 0 () h ⟨(.sm O O),ø,rfl⟩ ?_
   clear h
   intro i64 s64 hi64 K64 e64
   refine Jr fun hK65=>(JLh (BL (decide ((i64:Int) < (s.Columns.length:Int)))) (J0 O O O) O (G7 (hK65 (Js fun hK66=>Gf O (fun hb=>?_) (fun hb=>?_)))))
   ·
    have hk64:=Jk hb
    obtain⟨y64,nx64,hy64,hn64,h⟩:=Hs hi64 hk64
    replace h:=Y4 hb64 h
    refine Gi (hK66 (Js fun hK67=>Gj (Jr fun hK68=>(Yb (Eo i64) O (Yb (Eo i64) O (G7 (hK68 (Jr fun hK69=>(JLh (.agg (Gw.cs s)) (Gg Ho O O O) O (Yb (E3 boxes) O (Yb (E1 l) O (Yb (Eo i64) O ?_))))))))))))
    obtain⟨r70,hr70,h⟩:=Ge h
    refine JLh (BL r70) (Gv O (J17 s boxes l (i64:Int) r70 hr70) Jf4 ⟨O,O,O,O,O,O,O,O,ø⟩) O (JLh (BL (!r70)) (Rv (b:=r70) O O) O (G7 (hK69 (JCc O h (fun h hb=>?_) (fun h hb=>?_)))))
    ·
     refine Jr fun hK71=>(Yb (BL false) O (G7 (hK71 (Gs (fin1 BL h)))))
    ·
     refine Gi (hK67 (G3 (JLh (G0 ((i64+1:Nat):Int)) (Hu (Hj hk64 hm83) O O O) O (Yb (G0 ((i64+1:Nat):Int)) O (G7 (e64 _ _ (i64+1) () (app1 hn64 h) (by omega) ⟨(.sm O O),ø,rfl⟩))))))
   ·
    have h:=app1 hkx64 (Ht hi64 (Ha hb))
    refine Hm (hK50 (Jr fun hK72=>(Yb (BL true) O (G7 (hK72 (Gs (fin1 BL h)))))))

def M_twistlocklaw23_holds (l:List Stowed) (id_:Int):Option Bool:=
 each (fun y18 i18 (s18:Unit) nx18=>
  bif decide (y18.Gd=id_) then
  (some true)
  else
  (nx18 ()))
 (fun(s18:Unit)=>
  some false) l 0 ()
theorem H71 (l:List Stowed) (id_:Int) (r:Bool) (h:M_twistlocklaw23_holds l id_=some r):Pure Ep 27 [E1 l,G0 id_] (·=BL r):=by
 unfold M_twistlocklaw23_holds at h
 refine Gz [.tmp 4] Tryz.func27 O O (Jr fun hK1=>(Yb (BL false) O (G7 (hK1 (Js fun hK2=>Jr fun hK3=>(Yb (E1 l) O (JLl Gy O O O fun hm8=>(Yb (G0 0) O (G7 (hK3 (Gj ?_)))))))))))
 obtain⟨b18,kx18,hb18,hkx18,h⟩:=J2 h
 refine Hb (fun i18 (s18:Unit)=>each b18 kx18 (List.drop i18 l) i18 s18=some r) (fun i18 s18=>[(1,G0 id_),(7,E1 l),(8,Eo l.length),(9,Eo i18)]) (fun i18 s18=>[]) (fun i18=>l.length - i18) 0 () h ⟨(.sm O O),ø,rfl⟩ ?_
 clear h
 intro i18 s18 hi18 K18 e18
 refine Jr fun hK19=>(JLh (BL (decide ((i18:Int) < (l.length:Int)))) (J0 O O O) O (G7 (hK19 (Js fun hK20=>Gf O (fun hb=>?_) (fun hb=>?_)))))
 ·
  have hk18:=Jk hb
  obtain⟨y18,nx18,hy18,hn18,h⟩:=Hs hi18 hk18
  replace h:=Y4 hb18 h
  refine Gi (hK20 (Js fun hK21=>Gj (Jr fun hK22=>(JLh (Eg y18) (H3 (f:=Stowed.av) (xs:=l) (y:=y18) O O O Gy hy18 O) O (JLh (.agg (Stowed.cs y18)) (Gg Jg O O O) O (JLh (.ptr 1080 0) (Hx 1080 4 Jo O O) O (Hw (u:=.junk) (Hd (u:=.agg (Stowed.cs y18)) (ds:=[G0 y18.Gd,G0 y18.Slot.G4,G0 y18.Slot.Tier,U8 y18.Slot.Half]) Qh O O O O O O O O) (G7 (hK22 (Gq [(1,G0 id_),(6,Eg y18),(7,E1 l),(8,Eo l.length),(9,Eo i18)] [] 1080 rfl rfl rfl ø rfl (by repeat' (first | exact .ptr | constructor)) ?_))))))))))
  refine Jr fun hK23=>(JLh (Eg y18) (Ga J5 O O O) O (JLh (G0 y18.Gd) (Gh Gb O O O) O (Yb (G0 id_) O (JLh (BL (decide (y18.Gd=id_))) (Jz O O O) O (G7 (hK23 (JCc O h (fun h hb=>?_) (fun h hb=>?_))))))))
  ·
   refine Jr fun hK24=>(Yb (BL true) O (G7 (hK24 (Gs (fin1 BL h)))))
  ·
   refine Gi (hK21 (G3 (JLh (G0 ((i18+1:Nat):Int)) (Hu (Hj hk18 hm8) O O O) O (Yb (G0 ((i18+1:Nat):Int)) O (G7 (e18 _ _ (i18+1) () (app1 hn18 h) (by omega) ⟨(.sm O O),ø,rfl⟩))))))
 ·
  have h:=app1 hkx18 (Ht hi18 (Ha hb))
  refine Hm (hK2 (Jr fun hK25=>(Yb (BL false) O (G7 (hK25 (Gs (fin1 BL h)))))))

def H15 (s:Gw) (size:Int):Option Unit:=
 some ()
theorem Q2f (s:Gw) (size:Int) (r:Unit) (h:H15 s size=some r):Pure Ep 61 [.agg (Gw.cs s),U8 size] (·=.fn 95 [.dptr (Gw.cs s),.dptr [U8 size]]):=by
 unfold H15 at h
 refine Gz [.tmp 4] Tryz.func61 O O (Jr fun hK1=>(JLh (.ptr 1125 0) (Jm (cs:=(Gw.cs s)) 1125 O O O O O) O (JLh (.ptr 1126 0) (Jm (cs:=[U8 size]) 1126 O O O O O) O (Yb (.sc .nilFunc) O (G7 (hK1 ?_))))))
 refine Gq [(2,Ef s),(3,.ptr 1126 0)] [(1126,.box 5 [U8 size])] 1125 rfl rfl rfl ⟨⟨_,rfl,.boxEq rfl rfl⟩,ø⟩ rfl (by exact⟨.ptr,.conv (.same rfl),ø⟩) (Gq [(2,Ef s),(3,.dptr [U8 size])] [] 1126 rfl rfl rfl ø rfl (by exact⟨.conv (.same rfl),.ptr,ø⟩) ?_)
 refine Jr fun hK2=>(JLh (.fn 95 [.dptr (Gw.cs s),.dptr [U8 size]]) (Z1 (cs:=[.dptr (Gw.cs s),.dptr [U8 size]]) O O) O (Yb (.fn 95 [.dptr (Gw.cs s),.dptr [U8 size]]) O (G7 (hK2 ?_))))
 refine Gs (⟨[.fn 95 [.dptr (Gw.cs s),.dptr [U8 size]]],[],ø,O,⟨⟨_,O,.conv (.same O)⟩,ø⟩,O,congrArg (fun _:Unit=>(.fn 95 [.dptr (Gw.cs s),.dptr [U8 size]]:AV)) (Option.some.inj h)⟩)

def H45 (s:Gw) (size:Int):Option (List Slot):=
 bnd (H15 s size) fun r5=>
 bnd (Gc0 s size) fun ys8=>
 each (fun y8 i8 (s8:(List Slot)) nx8=>
  need (decide ((s8.length+[y8].length)*24≤140737488355328∧s8.length+[y8].length≤maxLen)) <|
  nx8 (s8++[y8]))
 (fun(s8:(List Slot))=>
  some s8) ys8 0 []
theorem M_slot_All_w (s:Gw) (size:Int) (r:(List Slot)) (h:H45 s size=some r):Pure Ep 28 [.agg (Gw.cs s),U8 size] (·=Ea r):=by
 unfold H45 at h
 refine Gz [.tmp 4] Tryz.func28 O O (Jr fun hK1=>(JLh (.ptr 1081 0) (Jm (cs:=(Gw.cs s)) 1081 O O O O O) O (JLh (Ea ([]:List Slot)) (Hf 3 O O) O (G7 (hK1 (Gq [(1,U8 size),(2,Ef s)] [] 1081 rfl rfl rfl ø rfl (by exact⟨.conv (.same rfl),.ptr,ø⟩) ?_))))))
 refine Jr fun hK2=>(JLh (.ptr 1082 0) (G54 1082 [.sc (.slice none 0 0)] [.slice none 0 0] Q70 ⟨.inl O,ø⟩ O O) O (H49 1082 0 1084 54 3 O O O (cs':=[OW 1084 3 Slot.av ([]:List Slot)]) O (G7 (hK2 (Js fun hK3=>Jr fun hK4=>(JLh (.agg (Gw.cs s)) (Gg Ho O O O) O (Yb (U8 size) O ?_)))))))
 obtain⟨r5,hr5,h⟩:=Ge h
 refine JLh (.fn 95 [.dptr (Gw.cs s),.dptr [U8 size]]) (Gv O (Q2f s size r5 hr5) Qc1 ⟨O,O,O,O,ø⟩) O (G7 (hK4 (Gj ?_)))
 obtain⟨ys8,hy_8,h⟩:=Ge h
 obtain⟨b8,kx8,hb8,hkx8,h⟩:=J2 h
 refine Q64 (ps:=[10]) [(5,.ptr 1082 0),(9,.fn 95 [.dptr (Gw.cs s),.dptr [U8 size]])] (ys8.map (fun y:Slot=>[.agg [G0 y.G4,G0 y.Tier,U8 y.Half]])) (fun i8 (s8:(List Slot))=>each b8 kx8 (List.drop i8 ys8) i8 s8=some r) (fun s8=>[(1084,.spare 54 3 s8.length s8.length),(1082,.box 102 [OW 1084 3 Slot.av s8])]) [] rfl rfl rfl Qb1 (J82.down s size ys8 hy_8) h ⟨(.sm O O),⟨⟨_,rfl,.same⟩,⟨_,rfl,.boxL rfl ⟨.same rfl,trivial⟩⟩,trivial⟩,rfl⟩ rfl (fun us_ hus_=>by obtain⟨_,_,rfl⟩:=List.mem_map.1 hus_; rfl) (fun p_ hp_=>Nat.blt_eq.mp (by revert p_; decide)) (fun _=>(.sm O O)) (fun _=>rfl) ?_ ?_
 ·
  intro i8 us_ s8 hu_ hi8 lr_ K8 e8
  obtain⟨hk8,rfl⟩:=mapf_at hu_
  obtain⟨y8,nx8,hy8,hn8,h⟩:=Hs hi8 hk8
  replace h:=Y4 hb8 h
  obtain⟨_,rfl⟩:=List.getElem?_eq_some_iff.1 hy8
  generalize ys8[i8]=y8 at h ⊢
  change JC _ _ _ _ [(10,.agg [G0 y8.G4,G0 y8.Tier,U8 y8.Half]),(5,.ptr 1082 0),(9,.fn 95 [.dptr (Gw.cs s),.dptr [U8 size]])] [(1084,.spare 54 3 s8.length s8.length),(1082,.box 102 [OW 1084 3 Slot.av s8])]
  refine G3 (JLh (.ptr 1083 0) (Hx 1083 3 G17 O O) O (Hw (u:=.junk) (Hd (u:=.agg [G0 y8.G4,G0 y8.Tier,U8 y8.Half]) (ds:=[G0 y8.G4,G0 y8.Tier,U8 y8.Half]) G44 O O O O O O O O) (G7 (Mid_freeze [(5,.ptr 1082 0),(6,.dptr [G0 y8.G4,G0 y8.Tier,U8 y8.Half])] [(1084,.spare 54 3 s8.length s8.length),(1082,.box 102 [OW 1084 3 Slot.av s8])] 1083 rfl rfl rfl ⟨⟨_,rfl,.same⟩,⟨_,rfl,.boxEq rfl rfl⟩,ø⟩ rfl (by exact⟨.conv (.same rfl),.ptr,ø⟩) (Mid_go (Gj (G3 (JLh (OW 1084 3 Slot.av s8) (Qu H68 O O O O) O (JLh (.agg [G0 y8.G4,G0 y8.Tier,U8 y8.Half]) (Gg Jh O O O) O (JLh (Ea [y8]) (H6 (xs:=[.agg [G0 y8.G4,G0 y8.Tier,U8 y8.Half]]) O ⟨O,O,ø⟩ Yg G17 O O O O) O ?_))))))))))
  obtain⟨ha9,h⟩:=Jd h
  refine JLh (OW 1084 3 Slot.av (s8++[y8])) (Qk (f:=Slot.av) (xs:=s8) (ys:=[y8]) O O O O Yg Je9 ha9 (fun _=>O) (.inl O) O) O (Hw (u:=.junk) (Hd (u:=OW 1084 3 Slot.av (s8++[y8])) (ds:=[OW 1084 3 Slot.av (s8++[y8])]) Q78 O O O O O O O O) (G7 (e8 _ _ (s8++[y8]) (app1 hn8 h) ⟨ø,⟨⟨_,O,.same⟩,⟨_,O,.boxL O ⟨.same O,ø⟩⟩,ø⟩,O⟩)))
 ·
  intro s8 h
  rw [List.length_map] at h
  replace h:=app1 hkx8 (Ht h (Nat.lt_irrefl _))
  refine hK3 (Jr fun hK10=>(JLh (OW 1084 3 Slot.av s8) (Qu H68 O O O O) O (Yb (OW 1084 3 Slot.av s8) O (G7 (hK10 (Rm (l':=[(4,Ea s8)]) (L':=[(1082,.box 102 [Ea s8])]) ⟨⟨.list O,ø⟩,⟨⟨_,O,.boxL O ⟨.list O,ø⟩⟩,ø⟩,O⟩ (Gq [(4,Ea s8)] [] 1082 rfl rfl rfl ø rfl (by exact⟨.conv (.same rfl),ø⟩) (Gs (fin1 (fun r:(List Slot)=>(Ea r:AV)) h)))))))))
end
end Go.Proofs.YtknalejjpofoaaaGreat
