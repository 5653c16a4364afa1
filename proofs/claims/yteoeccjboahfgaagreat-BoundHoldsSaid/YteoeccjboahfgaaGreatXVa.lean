/-
 Models of functions of the program,and that they return what the models say.
-/
import Derived.Test.YteoeccjboahfgaaGreatSpecG
import Derived.Test.YteoeccjboahfgaaGreatSpecG
set_option maxRecDepth 100000
set_option linter.unusedVariables false
set_option linter.unusedSimpArgs false
namespace Go.Proofs.YteoeccjboahfgaaGreat
open Go.RowKit
noncomputable section
structure Hk where
 G9:Int
 Kilos:Int
 Load:Int
 Stay:Int
 Small:Bool
 High:Bool
 deriving DecidableEq,Inhabited
def Hk.cs (x:Hk):List AV:=[U8 x.G9,U8 x.Kilos,U8 x.Load,U8 x.Stay,BL x.Small,BL x.High]
def Hk.av (x:Hk):AV:=.agg x.cs
abbrev Ec:=LS 6 Hk.av
structure Hm where
 Bay:Int
 Row:Int
 Tiers:Int
 Deck:Bool
 deriving DecidableEq,Inhabited
def Hm.cs (x:Hm):List AV:=[U8 x.Bay,U8 x.Row,U8 x.Tiers,BL x.Deck]
def Hm.av (x:Hm):AV:=.agg x.cs
abbrev Ed:=LS 4 Hm.av
namespace XVF
open XAF
theorem tq_103 (a b:Slot):Hbb Tryz.prog 4 103 [.int .i64 a.G9,.int .i64 a.Tier,.int .u8 a.Half] [.int .i64 b.G9,.int .i64 b.Tier,.int .u8 b.Half]=some (decide (a=b)):=by
 refine(show _=some ((a.G9==b.G9)&&((a.Tier==b.Tier)&&((a.Half==b.Half)&&true))) by kernel_rfl).trans (congrArg some ?_)
 rw [Bool.eq_iff_iff]
 simp only [Bool.and_eq_true,beq_iff_eq,decide_eq_true_eq,Bool.and_true]
 constructor
 ·intro h; obtain⟨_,_,_⟩:=a; obtain⟨_,_,_⟩:=b; simp_all
 ·intro h; subst h; simp
theorem Q2:Gab Tryz.prog 103 3=true:=by kernel_rfl
theorem R6:Gab Tryz.prog 107 4=true:=by kernel_rfl
theorem J5:Gab Tryz.prog 36 13=true:=by kernel_rfl
theorem G36:Gab Tryz.prog 42 2=true:=by kernel_rfl
theorem tf_agg_56:Gab Tryz.prog 56 4=true:=by kernel_rfl
theorem tf_agg_66:Gab Tryz.prog 66 6=true:=by kernel_rfl
theorem H37:G16 Tryz.prog 103=true:=by kernel_rfl
theorem Hf4:J2d Tryz.prog 4=true:=by kernel_rfl
theorem Q1a:Ho Tryz.prog 11=true:=by kernel_rfl
theorem Jd3:Ho Tryz.prog 110=true:=by kernel_rfl
theorem Jd2:Ho Tryz.prog 111=true:=by kernel_rfl
theorem Jd1:Ho Tryz.prog 112=true:=by kernel_rfl
theorem Jd0:Ho Tryz.prog 113=true:=by kernel_rfl
theorem Jcf:Ho Tryz.prog 114=true:=by kernel_rfl
theorem Q19:Ho Tryz.prog 12=true:=by kernel_rfl
theorem Q18:Ho Tryz.prog 13=true:=by kernel_rfl
theorem Q0f:Ho Tryz.prog 29=true:=by kernel_rfl
theorem Q0e:Ho Tryz.prog 30=true:=by kernel_rfl
theorem J6a:Ho Tryz.prog 31=true:=by kernel_rfl
theorem Hab:Ho Tryz.prog 32=true:=by kernel_rfl
theorem Q0d:Ho Tryz.prog 33=true:=by kernel_rfl
theorem Q0c:Ho Tryz.prog 34=true:=by kernel_rfl
theorem Q0b:Ho Tryz.prog 35=true:=by kernel_rfl
theorem Q0a:Ho Tryz.prog 36=true:=by kernel_rfl
theorem Q09:Ho Tryz.prog 37=true:=by kernel_rfl
theorem Q08:Ho Tryz.prog 38=true:=by kernel_rfl
theorem Q07:Ho Tryz.prog 39=true:=by kernel_rfl
theorem G67:Ho Tryz.prog 40=true:=by kernel_rfl
theorem H34:Ho Tryz.prog 41=true:=by kernel_rfl
theorem J69:Ho Tryz.prog 42=true:=by kernel_rfl
theorem Jfe:Ho Tryz.prog 57=true:=by kernel_rfl
theorem J63:Ho Tryz.prog 58=true:=by kernel_rfl
theorem Jfd:Ho Tryz.prog 59=true:=by kernel_rfl
theorem Jfc:Ho Tryz.prog 60=true:=by kernel_rfl
theorem Jfb:Ho Tryz.prog 61=true:=by kernel_rfl
theorem Jfa:Ho Tryz.prog 62=true:=by kernel_rfl
theorem Jf9:Ho Tryz.prog 63=true:=by kernel_rfl
theorem Jf8:Ho Tryz.prog 64=true:=by kernel_rfl
theorem Jf7:Ho Tryz.prog 65=true:=by kernel_rfl
theorem Jf6:Ho Tryz.prog 66=true:=by kernel_rfl
theorem Jf5:Ho Tryz.prog 67=true:=by kernel_rfl
theorem Jf4:Ho Tryz.prog 68=true:=by kernel_rfl
theorem H33:Ho Tryz.prog 69=true:=by kernel_rfl
theorem Jf3:Ho Tryz.prog 70=true:=by kernel_rfl
theorem J62:Ho Tryz.prog 71=true:=by kernel_rfl
theorem Jf2:Ho Tryz.prog 72=true:=by kernel_rfl
theorem J61:Ho Tryz.prog 73=true:=by kernel_rfl
theorem Jf1:Ho Tryz.prog 74=true:=by kernel_rfl
theorem Jf0:Ho Tryz.prog 75=true:=by kernel_rfl
theorem Jec:Ho Tryz.prog 83=true:=by kernel_rfl
theorem Jeb:Ho Tryz.prog 84=true:=by kernel_rfl
theorem Jea:Ho Tryz.prog 85=true:=by kernel_rfl
theorem Haa:Ho Tryz.prog 87=true:=by kernel_rfl
theorem Je9:Ho Tryz.prog 88=true:=by kernel_rfl
theorem J5d:Ho Tryz.prog 89=true:=by kernel_rfl
theorem J5c:Ho Tryz.prog 90=true:=by kernel_rfl
theorem Je8:Ho Tryz.prog 91=true:=by kernel_rfl
theorem Je7:Ho Tryz.prog 92=true:=by kernel_rfl
theorem Je6:Ho Tryz.prog 93=true:=by kernel_rfl
theorem Je5:Ho Tryz.prog 94=true:=by kernel_rfl
theorem J1a:Ym Tryz.prog 101 1 24=true:=by kernel_rfl
theorem J19:Ym Tryz.prog 103 3 24=true:=by kernel_rfl
theorem H58:Ym Tryz.prog 107 4 32=true:=by kernel_rfl
theorem Yh:Ym Tryz.prog 3 1 8=true:=by kernel_rfl
theorem Je4:Ym Tryz.prog 57 1 24=true:=by kernel_rfl
theorem J5a:Ym Tryz.prog 59 12 112=true:=by kernel_rfl
theorem J59:Ym Tryz.prog 63 2 32=true:=by kernel_rfl
theorem J58:Ym Tryz.prog 68 9 64=true:=by kernel_rfl
theorem Ha9:Tryz.prog.eqGuardType Tryz.prog.depth 103=false:=by kernel_rfl
theorem Q6:Jk Tryz.prog 103 0 0=true:=by kernel_rfl
theorem Y9:Jk Tryz.prog 103 1 1=true:=by kernel_rfl
theorem Y8:Jk Tryz.prog 103 2 2=true:=by kernel_rfl
theorem Jb:Jk Tryz.prog 107 0 0=true:=by kernel_rfl
theorem Qr:Jk Tryz.prog 107 1 1=true:=by kernel_rfl
theorem Jb7:Jk Tryz.prog 56 0 0=true:=by kernel_rfl
theorem Jb6:Jk Tryz.prog 56 1 1=true:=by kernel_rfl
theorem Jb5:Jk Tryz.prog 56 2 2=true:=by kernel_rfl
theorem Jb4:Jk Tryz.prog 56 3 3=true:=by kernel_rfl
theorem Jb0:Jk Tryz.prog 66 0 0=true:=by kernel_rfl
theorem H9d:Jk Tryz.prog 66 1 1=true:=by kernel_rfl
theorem H9c:Jk Tryz.prog 66 2 2=true:=by kernel_rfl
theorem Jaf:Jk Tryz.prog 66 3 3=true:=by kernel_rfl
theorem Jae:Jk Tryz.prog 66 4 4=true:=by kernel_rfl
theorem H9b:Jk Tryz.prog 66 5 5=true:=by kernel_rfl
theorem Qg:Jk Tryz.prog 68 0 0=true:=by kernel_rfl
theorem H11:Jk Tryz.prog 68 3 3=true:=by kernel_rfl
theorem Yu:H96 Tryz.prog 3 .i64=true:=by kernel_rfl
theorem G3b:H96 Tryz.prog 5 .u8=true:=by kernel_rfl
theorem J53:G54 Tryz.prog 100 3 103=true:=by kernel_rfl
theorem J52:G54 Tryz.prog 151 3 175=true:=by kernel_rfl
theorem Jb8:G54 Tryz.prog 64 3 3=true:=by kernel_rfl
theorem H9a:placesOf Tryz.prog 107=some [(0,1),(1,3)]:=by kernel_rfl
theorem Jad:placesOf Tryz.prog 175=some []:=by kernel_rfl
theorem Hcb:placesOf Tryz.prog 42=some [(0,1),(1,1)]:=by kernel_rfl
theorem H31:placesOf Tryz.prog 59=some [(0,1),(1,1),(2,1),(3,1),(4,1),(5,1),(6,1),(7,1),(8,1),(9,1),(10,1),(11,1)]:=by kernel_rfl
theorem Hca:placesOf Tryz.prog 63=some [(0,1),(1,1)]:=by kernel_rfl
theorem Za:placesOf Tryz.prog 68=some [(0,1),(1,1),(2,1),(3,1),(4,1),(5,1),(6,1),(7,1),(8,1)]:=by kernel_rfl
theorem H0f:Rc Tryz.prog 110=true:=by kernel_rfl
theorem Jac:Rc Tryz.prog 151=true:=by kernel_rfl
theorem Ga0:Rc Tryz.prog 152=true:=by kernel_rfl
theorem Gc6:Rc Tryz.prog 40=true:=by kernel_rfl
theorem J18:R7 Tryz.prog 101 1=true:=by kernel_rfl
theorem Rt:R7 Tryz.prog 103 3=true:=by kernel_rfl
theorem Yj:R7 Tryz.prog 107 4=true:=by kernel_rfl
theorem Jce:R7 Tryz.prog 110 1=true:=by kernel_rfl
theorem J17:R7 Tryz.prog 151 1=true:=by kernel_rfl
theorem J16:R7 Tryz.prog 152 1=true:=by kernel_rfl
theorem Jcd:R7 Tryz.prog 175 0=true:=by kernel_rfl
theorem Ha8:R7 Tryz.prog 26 1=true:=by kernel_rfl
theorem J51:R7 Tryz.prog 27 1=true:=by kernel_rfl
theorem Ha7:R7 Tryz.prog 36 13=true:=by kernel_rfl
theorem Ha6:R7 Tryz.prog 39 1=true:=by kernel_rfl
theorem tf_size_4:R7 Tryz.prog 4 1=true:=by kernel_rfl
theorem Je2:R7 Tryz.prog 40 1=true:=by kernel_rfl
theorem G93:R7 Tryz.prog 42 2=true:=by kernel_rfl
theorem tf_size_5:R7 Tryz.prog 5 1=true:=by kernel_rfl
theorem Je1:R7 Tryz.prog 56 4=true:=by kernel_rfl
theorem Ha5:R7 Tryz.prog 57 1=true:=by kernel_rfl
theorem Je0:R7 Tryz.prog 66 6=true:=by kernel_rfl
theorem Hw:sliceB Tryz.prog 101 107 4=true:=by kernel_rfl
theorem Y7:sliceB Tryz.prog 110 103 3=true:=by kernel_rfl
theorem G6e:sliceB Tryz.prog 22 56 4=true:=by kernel_rfl
theorem Gf9:sliceB Tryz.prog 24 66 6=true:=by kernel_rfl
theorem Gf8:sliceB Tryz.prog 40 57 1=true:=by kernel_rfl
theorem Jcb:(Tryz.prog.info? 101).bind (fun i=>i.zero.map Value.cells)=some (List.toArray [.slice none 0 0]):=by kernel_rfl
theorem J15:(Tryz.prog.info? 107).bind (fun i=>i.zero.map Value.cells)=some (List.toArray [.int .i64 0,.int .i64 0,.int .i64 0,.int .u8 0]):=by kernel_rfl
theorem Jca:(Tryz.prog.info? 110).bind (fun i=>i.zero.map Value.cells)=some (List.toArray [.slice none 0 0]):=by kernel_rfl
theorem Jc9:(Tryz.prog.info? 175).bind (fun i=>i.zero.map Value.cells)=some (List.toArray []):=by kernel_rfl
theorem G01:(Tryz.prog.info? 3).bind (fun i=>i.zero.map Value.cells)=some (List.toArray [.int .i64 0]):=by kernel_rfl
theorem H30:(Tryz.prog.info? 36).bind (fun i=>i.zero.map Value.cells)=some (List.toArray [.slice none 0 0,.slice none 0 0,.int .i64 0,.int .i64 0,.int .i64 0,.int .i64 0,.slice none 0 0,.slice none 0 0,.slice none 0 0,.int .i64 0,.int .i64 0,.int .i64 0,.int .i64 0]):=by kernel_rfl
theorem Jdf:(Tryz.prog.info? 40).bind (fun i=>i.zero.map Value.cells)=some (List.toArray [.slice none 0 0]):=by kernel_rfl
theorem Gd5:(Tryz.prog.info? 42).bind (fun i=>i.zero.map Value.cells)=some (List.toArray [.slice none 0 0,.slice none 0 0]):=by kernel_rfl
theorem J4e:(Tryz.prog.info? 57).bind (fun i=>i.zero.map Value.cells)=some (List.toArray [.slice none 0 0]):=by kernel_rfl
theorem Ha4:(Tryz.prog.info? 59).bind (fun i=>i.zero.map Value.cells)=some (List.toArray [.int .i64 0,.int .i64 0,.bool false,.int .i64 0,.int .i64 0,.int .i64 0,.int .i64 0,.int .i64 0,.slice none 0 0,.int .i64 0,.int .i64 0,.int .i64 0]):=by kernel_rfl
theorem J4d:(Tryz.prog.info? 63).bind (fun i=>i.zero.map Value.cells)=some (List.toArray [.int .i64 0,.slice none 0 0]):=by kernel_rfl
theorem G0c:(Tryz.prog.info? 68).bind (fun i=>i.zero.map Value.cells)=some (List.toArray [.int .i64 0,.string ByteArray.empty,.int .u8 0,.bool false,.int .i64 0,.int .i64 0,.int .i64 0,.int .u8 0,.bool false]):=by kernel_rfl
theorem G79:R1 Tryz.prog 101 1=true:=by kernel_rfl
theorem Rb:R1 Tryz.prog 103 3=true:=by kernel_rfl
theorem Qp:R1 Tryz.prog 107 4=true:=by kernel_rfl
theorem Hc9:R1 Tryz.prog 151 1=true:=by kernel_rfl
theorem Hc8:R1 Tryz.prog 152 1=true:=by kernel_rfl
theorem Jbe:R1 Tryz.prog 175 0=true:=by kernel_rfl
theorem J13:R1 Tryz.prog 39 1=true:=by kernel_rfl
theorem J12:R1 Tryz.prog 42 2=true:=by kernel_rfl
theorem Jc7:R1 Tryz.prog 56 4=true:=by kernel_rfl
theorem J11:R1 Tryz.prog 57 1=true:=by kernel_rfl
theorem Jc6:R1 Tryz.prog 66 6=true:=by kernel_rfl
theorem tf_zv_103:(Tryz.prog.info? 103).bind (·.zero)=some (.agg #[.int .i64 0,.int .i64 0,.int .u8 0]):=by kernel_rfl
theorem tf_zv_175:(Tryz.prog.info? 175).bind (·.zero)=some (.agg #[]):=by kernel_rfl
theorem tk_3:Gd0 Tryz.prog 3 (fun n:Int=>Value.int .i64 n):=Gd0.of_int (by kernel_rfl)
end XVF
open XAF
open XVF

def Rh (l:List G7) (x:G7):Option (List G7):=
 each (fun y19 i19 (s19:(List G7)) nx19=>
  jp (fun kj22=>
   bif decide (y19.Gr < x.Gr) then
   (need (decide ((s19.length+[y19].length)*32≤140737488355328∧s19.length+[y19].length≤maxLen)) <|
    kj22 (s19++[y19]))
   else
   (kj22 s19)) fun(j22:(List G7))=>
  nx19 j22)
 (fun(s19:(List G7))=>
  need (decide ((s19.length+[x].length)*32≤140737488355328∧s19.length+[x].length≤maxLen)) <|
  each (fun y44 i44 (s44:(List G7)) nx44=>
   jp (fun kj47=>
    bif decide (x.Gr < y44.Gr) then
    (need (decide ((s44.length+[y44].length)*32≤140737488355328∧s44.length+[y44].length≤maxLen)) <|
     kj47 (s44++[y44]))
    else
    (kj47 s44)) fun(j47:(List G7))=>
   nx44 j47)
  (fun(s44:(List G7))=>
   some s44) l 0 (s19++[x])) l 0 []
theorem G75 (l:List G7) (x:G7) (r:(List G7)) (h:Rh l x=some r):Pure Tryz.prog 31 [E0 l,.agg (G7.cs x)] (·=E0 r):=by
 unfold Rh at h
 refine H4 [.tmp 4] Tryz.func31 O O (G5 fun K1 hK1=>G3 (JLh (.ptr 1091 0) (Jw (u:=.agg (G7.cs x)) (cs:=[G1 x.Gr,G1 x.Slot.G9,G1 x.Slot.Tier,U8 x.Slot.Half]) 1091 O O O O O) O (JLh (E0 ([]:List G7)) (Q4 4 O O) O (G8 (hK1 _ _ (Gq [(0,E0 l),(3,Ef x)] [] 1091 rfl rfl rfl G rfl (by exact⟨.conv (.same rfl),.ptr,G⟩) (G5 fun K2 hK2=>G3 (JLh (OW 1092 4 G7.av ([]:List G7)) (Zv 1092 107 4 O O O) O (G8 (hK2 _ _ (G5 (fun K3 hK3=>G5 fun K4 hK4=>G3 (JLh (E0 l) (G6 O O) O (Hp (f:=G7.av) (xs:=l) Hw O O (fun hm11=>?_) O O O))))))))))))))
 refine JLh (G1 0) (G6 O O) O (G8 (hK4 _ _ (Gi ?_)))
 obtain⟨b19,kx19,hb19,hkx19,h⟩:=Hy h
 refine Ha (fun i19 (s19:(List G7))=>each b19 kx19 (List.drop i19 l) i19 s19=some r) (fun i19 s19=>[(0,E0 l),(3,Ef x),(5,OW 1092 4 G7.av s19),(10,E0 l),(11,Ek l.length),(12,Ek i19)]) (fun i19 s19=>[(1092,.spare 107 4 s19.length s19.length)]) (fun i19=>l.length - i19) 0 [] h ⟨(by repeat' constructor),⟨⟨_,rfl,.same⟩,G⟩,rfl⟩ ?_
 clear h
 intro i19 s19 hi19 K19 e19
 refine G5 fun K20 hK20=>G3 (JLh (BL (decide ((i19:Int) < (l.length:Int)))) (J2 O O O) O (G8 (hK20 _ _ (G5 (fun K21 hK21=>Gn O (fun hb=>?_) (fun hb=>?_))))))
 ·
  have hk19:=Jd hb
  obtain⟨y19,nx19,hy19,hn19,h⟩:=Hr hi19 hk19
  replace h:=Rq hb19 h
  refine Gp (hK21 _ _ ?_)
  obtain⟨kj22,hkj22,h⟩:=Q7 h
  refine Jm (fun j22:(List G7)=>kj22 j22=some r) (fun j22=>[(0,E0 l),(3,Ef x),(5,OW 1092 4 G7.av j22),(10,E0 l),(11,Ek l.length),(12,Ek i19)]) (fun j22=>[(1092,.spare 107 4 j22.length j22.length)]) (fun Kj22 ej22=>?_) ?_
  ·
   refine Gi (G5 fun K23 hK23=>G3 (JLh (Ef y19) (Gz (f:=G7.av) (xs:=l) (y:=y19) O O O Hw hy19 O) O (JLh (.agg (G7.cs y19)) (Gh R6 O O O) O (JLh (.ptr 1093 0) (Hh 1093 4 Qp O O) O (Hg (u:=.junk) (H5 (u:=.agg (G7.cs y19)) (ds:=[G1 y19.Gr,G1 y19.Slot.G9,G1 y19.Slot.Tier,U8 y19.Slot.Half]) Yj O O O O O O O O) (G8 (hK23 _ _ (Gq [(0,E0 l),(3,Ef x),(5,OW 1092 4 G7.av s19),(7,Ef y19),(10,E0 l),(11,Ek l.length),(12,Ek i19)] [(1092,.spare 107 4 s19.length s19.length)] 1093 rfl rfl rfl ⟨⟨_,rfl,.same⟩,G⟩ rfl (by repeat' (first | exact .ptr | constructor)) ?_))))))))
   refine G5 fun K24 hK24=>G3 (JLh (Ef y19) (Gd Jb O O O) O (JLh (G1 y19.Gr) (Gk Gc O O O) O (JLh (Ef x) (Gd Jb O O O) O (JLh (G1 x.Gr) (Gk Gc O O O) O (JLh (BL (decide (y19.Gr < x.Gr))) (J2 O O O) O (G8 (hK24 _ _ (Gn O (fun hb=>?_) (fun hb=>?_)))))))))
   ·
    replace h:=H1 hb h
    refine G3 (JLh (OW 1092 4 G7.av s19) (G6 O O) O (JLh (.agg (G7.cs y19)) (Gh R6 O O O) O (JLh (E0 [y19]) (Hf (xs:=[.agg (G7.cs y19)]) O ⟨O,O,G⟩ Hw Qp O O O O) O ?_)))
    obtain⟨ha25,h⟩:=Hz h
    refine JLh (OW 1092 4 G7.av (s19++[y19])) (Q5 (f:=G7.av) (xs:=s19) (ys:=[y19]) O O O O Hw H58 ha25 (fun _=>O) (.inl O) O) O (JLh (OW 1092 4 G7.av (s19++[y19])) (Gb O O) O (G8 (ej22 _ _ (s19++[y19]) h ⟨(by repeat' constructor),⟨⟨_,rfl,.same⟩,G⟩,rfl⟩)))
   ·
    replace h:=Hv hb h
    refine Gp (ej22 _ _ s19 h ⟨(by repeat' constructor),⟨⟨_,rfl,.same⟩,G⟩,rfl⟩)
  ·intro j22 h
   replace h:=app1 hkj22 h
   refine G3 (JLh (G1 ((i19+1:Nat):Int)) (Ht (Hn hk19 hm11) O O O) O (JLh (G1 ((i19+1:Nat):Int)) (G6 O O) O (G8 (e19 _ _ (i19+1) j22 (app1 hn19 h) (by omega) ⟨(by repeat' constructor),⟨⟨_,rfl,.same⟩,G⟩,rfl⟩))))
 ·
  have h:=app1 hkx19 (Hs hi19 (H9 hb))
  refine Hi (hK3 _ _ (G5 fun K26 hK26=>G3 (JLh (OW 1092 4 G7.av s19) (G6 O O) O (JLh (.agg (G7.cs x)) (Gh R6 O O O) O (JLh (E0 [x]) (Hf (xs:=[.agg (G7.cs x)]) O ⟨O,O,G⟩ Hw Qp O O O O) O ?_)))))
  obtain⟨ha27,h⟩:=Hz h
  refine JLh (OW 1092 4 G7.av (s19++[x])) (Q5 (f:=G7.av) (xs:=s19) (ys:=[x]) O O O O Hw H58 ha27 (fun _=>O) (.inl O) O) O (JLh (OW 1092 4 G7.av (s19++[x])) (Gb O O) O (G8 (hK26 _ _ (G5 (fun K28 hK28=>G5 fun K29 hK29=>G3 (JLh (E0 l) (G6 O O) O (Hp (f:=G7.av) (xs:=l) Hw O O (fun hm31=>?_) O O O)))))))
  refine JLh (G1 0) (G6 O O) O (G8 (hK29 _ _ (Gi ?_)))
  obtain⟨b44,kx44,hb44,hkx44,h⟩:=Hy h
  refine Ha (fun i44 (s44:(List G7))=>each b44 kx44 (List.drop i44 l) i44 s44=some r) (fun i44 s44=>[(3,Ef x),(5,OW 1092 4 G7.av s44),(30,E0 l),(31,Ek l.length),(32,Ek i44)]) (fun i44 s44=>[(1092,.spare 107 4 s44.length s44.length)]) (fun i44=>l.length - i44) 0 (s19++[x]) h ⟨(by repeat' constructor),⟨⟨_,rfl,.same⟩,G⟩,rfl⟩ ?_
  clear h
  intro i44 s44 hi44 K44 e44
  refine G5 fun K45 hK45=>G3 (JLh (BL (decide ((i44:Int) < (l.length:Int)))) (J2 O O O) O (G8 (hK45 _ _ (G5 (fun K46 hK46=>Gn O (fun hb=>?_) (fun hb=>?_))))))
  ·
   have hk44:=Jd hb
   obtain⟨y44,nx44,hy44,hn44,h⟩:=Hr hi44 hk44
   replace h:=Rq hb44 h
   refine Gp (hK46 _ _ ?_)
   obtain⟨kj47,hkj47,h⟩:=Q7 h
   refine Jm (fun j47:(List G7)=>kj47 j47=some r) (fun j47=>[(3,Ef x),(5,OW 1092 4 G7.av j47),(30,E0 l),(31,Ek l.length),(32,Ek i44)]) (fun j47=>[(1092,.spare 107 4 j47.length j47.length)]) (fun Kj47 ej47=>?_) ?_
   ·
    refine Gi (G5 fun K48 hK48=>G3 (JLh (Ef y44) (Gz (f:=G7.av) (xs:=l) (y:=y44) O O O Hw hy44 O) O (JLh (.agg (G7.cs y44)) (Gh R6 O O O) O (JLh (.ptr 1094 0) (Hh 1094 4 Qp O O) O (Hg (u:=.junk) (H5 (u:=.agg (G7.cs y44)) (ds:=[G1 y44.Gr,G1 y44.Slot.G9,G1 y44.Slot.Tier,U8 y44.Slot.Half]) Yj O O O O O O O O) (G8 (hK48 _ _ (Gq [(3,Ef x),(5,OW 1092 4 G7.av s44),(9,Ef y44),(30,E0 l),(31,Ek l.length),(32,Ek i44)] [(1092,.spare 107 4 s44.length s44.length)] 1094 rfl rfl rfl ⟨⟨_,rfl,.same⟩,G⟩ rfl (by repeat' (first | exact .ptr | constructor)) ?_))))))))
    refine G5 fun K49 hK49=>G3 (JLh (Ef y44) (Gd Jb O O O) O (JLh (G1 y44.Gr) (Gk Gc O O O) O (JLh (Ef x) (Gd Jb O O O) O (JLh (G1 x.Gr) (Gk Gc O O O) O (JLh (BL (decide (x.Gr < y44.Gr))) (Zj O O O) O (G8 (hK49 _ _ (Gn O (fun hb=>?_) (fun hb=>?_)))))))))
    ·
     replace h:=H1 hb h
     refine G3 (JLh (OW 1092 4 G7.av s44) (G6 O O) O (JLh (.agg (G7.cs y44)) (Gh R6 O O O) O (JLh (E0 [y44]) (Hf (xs:=[.agg (G7.cs y44)]) O ⟨O,O,G⟩ Hw Qp O O O O) O ?_)))
     obtain⟨ha50,h⟩:=Hz h
     refine JLh (OW 1092 4 G7.av (s44++[y44])) (Q5 (f:=G7.av) (xs:=s44) (ys:=[y44]) O O O O Hw H58 ha50 (fun _=>O) (.inl O) O) O (JLh (OW 1092 4 G7.av (s44++[y44])) (Gb O O) O (G8 (ej47 _ _ (s44++[y44]) h ⟨(by repeat' constructor),⟨⟨_,rfl,.same⟩,G⟩,rfl⟩)))
    ·
     replace h:=Hv hb h
     refine Gp (ej47 _ _ s44 h ⟨(by repeat' constructor),⟨⟨_,rfl,.same⟩,G⟩,rfl⟩)
   ·intro j47 h
    replace h:=app1 hkj47 h
    refine G3 (JLh (G1 ((i44+1:Nat):Int)) (Ht (Hn hk44 hm31) O O O) O (JLh (G1 ((i44+1:Nat):Int)) (G6 O O) O (G8 (e44 _ _ (i44+1) j47 (app1 hn44 h) (by omega) ⟨(by repeat' constructor),⟨⟨_,rfl,.same⟩,G⟩,rfl⟩))))
  ·
   have h:=app1 hkx44 (Hs hi44 (H9 hb))
   refine Hi (hK28 _ _ (G5 fun K51 hK51=>G3 (JLh (OW 1092 4 G7.av s44) (G6 O O) O (JLh (OW 1092 4 G7.av s44) (Gb O O) O (G8 (hK51 _ _ (Gx (⟨[E0 s44],[],G,O,⟨⟨_,O,.conv (.list O)⟩,G⟩,O,congrArg (fun r:(List G7)=>(E0 r:AV)) (Option.some.inj h)⟩))))))))

def G85 (l:List G7):Option (List Slot):=
 each (fun y17 i17 (s17:(List Slot)) nx17=>
  need (decide ((s17.length+[y17.Slot].length)*24≤140737488355328∧s17.length+[y17.Slot].length≤maxLen)) <|
  nx17 (s17++[y17.Slot]))
 (fun(s17:(List Slot))=>
  some s17) l 0 []
theorem J95 (l:List G7) (r:(List Slot)) (h:G85 l=some r):Pure Tryz.prog 57 [E0 l] (·=E6 r):=by
 unfold G85 at h
 refine H4 [.tmp 2] Tryz.func57 O O (G5 fun K1 hK1=>G3 (JLh (E6 ([]:List Slot)) (Q4 3 O O) O (G8 (hK1 _ _ (G5 fun K2 hK2=>G3 (JLh (OW 1143 3 Slot.av ([]:List Slot)) (Zv 1143 103 3 O O O) O (G8 (hK2 _ _ (G5 (fun K3 hK3=>G5 fun K4 hK4=>G3 (JLh (E0 l) (G6 O O) O (Hp (f:=G7.av) (xs:=l) Hw O O (fun hm7=>?_) O O O))))))))))))
 refine JLh (G1 0) (G6 O O) O (G8 (hK4 _ _ (Gi ?_)))
 obtain⟨b17,kx17,hb17,hkx17,h⟩:=Hy h
 refine Ha (fun i17 (s17:(List Slot))=>each b17 kx17 (List.drop i17 l) i17 s17=some r) (fun i17 s17=>[(3,OW 1143 3 Slot.av s17),(6,E0 l),(7,Ek l.length),(8,Ek i17)]) (fun i17 s17=>[(1143,.spare 103 3 s17.length s17.length)]) (fun i17=>l.length - i17) 0 [] h ⟨(by repeat' constructor),⟨⟨_,rfl,.same⟩,G⟩,rfl⟩ ?_
 clear h
 intro i17 s17 hi17 K17 e17
 refine G5 fun K18 hK18=>G3 (JLh (BL (decide ((i17:Int) < (l.length:Int)))) (J2 O O O) O (G8 (hK18 _ _ (G5 (fun K19 hK19=>Gn O (fun hb=>?_) (fun hb=>?_))))))
 ·
  have hk17:=Jd hb
  obtain⟨y17,nx17,hy17,hn17,h⟩:=Hr hi17 hk17
  replace h:=Rq hb17 h
  refine Gp (hK19 _ _ (G5 (fun K20 hK20=>Gi (G5 fun K21 hK21=>G3 (JLh (Ef y17) (Gz (f:=G7.av) (xs:=l) (y:=y17) O O O Hw hy17 O) O (JLh (.agg (G7.cs y17)) (Gh R6 O O O) O (JLh (.ptr 1144 0) (Hh 1144 4 Qp O O) O (Hg (u:=.junk) (H5 (u:=.agg (G7.cs y17)) (ds:=[G1 y17.Gr,G1 y17.Slot.G9,G1 y17.Slot.Tier,U8 y17.Slot.Half]) Yj O O O O O O O O) (G8 (hK21 _ _ (Gq [(3,OW 1143 3 Slot.av s17),(5,Ef y17),(6,E0 l),(7,Ek l.length),(8,Ek i17)] [(1143,.spare 103 3 s17.length s17.length)] 1144 rfl rfl rfl ⟨⟨_,rfl,.same⟩,G⟩ rfl (by repeat' (first | exact .ptr | constructor)) (G3 ?_))))))))))))
  refine JLh (OW 1143 3 Slot.av s17) (G6 O O) O (JLh (Ei y17.Slot) (Gd Qr O O O) O (JLh (.agg (Slot.cs y17.Slot)) (Gh Q2 O O O) O (JLh (E6 [y17.Slot]) (Hf (xs:=[.agg (Slot.cs y17.Slot)]) O ⟨O,O,G⟩ Y7 Rb O O O O) O ?_)))
  obtain⟨ha22,h⟩:=Hz h
  refine JLh (OW 1143 3 Slot.av (s17++[y17.Slot])) (Q5 (f:=Slot.av) (xs:=s17) (ys:=[y17.Slot]) O O O O Y7 J19 ha22 (fun _=>O) (.inl O) O) O (JLh (OW 1143 3 Slot.av (s17++[y17.Slot])) (Gb O O) O (G8 (hK20 _ _ (G3 (JLh (G1 ((i17+1:Nat):Int)) (Ht (Hn hk17 hm7) O O O) O (JLh (G1 ((i17+1:Nat):Int)) (G6 O O) O (G8 (e17 _ _ (i17+1) (s17++[y17.Slot]) (app1 hn17 h) (by omega) ⟨(by repeat' constructor),⟨⟨_,rfl,.same⟩,G⟩,rfl⟩))))))))
 ·
  have h:=app1 hkx17 (Hs hi17 (H9 hb))
  refine Hi (hK3 _ _ (G5 fun K23 hK23=>G3 (JLh (OW 1143 3 Slot.av s17) (G6 O O) O (JLh (OW 1143 3 Slot.av s17) (Gb O O) O (G8 (hK23 _ _ (Gx (⟨[E6 s17],[],G,O,⟨⟨_,O,.conv (.list O)⟩,G⟩,O,congrArg (fun r:(List Slot)=>(E6 r:AV)) (Option.some.inj h)⟩))))))))

def G57 (b:Gr) (p1:Int):Option Bool:=
 some (decide (b.ID=p1))
theorem J36 (b:Gr) (p1:Int) (r:Bool) (h:G57 b p1=some r):Pure Tryz.prog 84 [.agg (Gr.cs b),.dptr [G1 p1]] (·=BL r):=by
 unfold G57 at h
 refine H4 [.tmp 3] Tryz.func84 O O (G5 fun K1 hK1=>G3 (JLh (.ptr 1170 0) (Jw (u:=.agg (Gr.cs b)) (cs:=(Gr.cs b)) 1170 O O O O O) O (JLh (BL false) (Gb O O) O (G8 (hK1 _ _ (Gq [(1,.dptr [G1 p1]),(2,Eh b)] [] 1170 rfl rfl rfl G rfl (by exact⟨.conv (.same rfl),.ptr,G⟩) (G5 fun K2 hK2=>G3 (JLh (Eh b) (Gd Qg O O O) O (JLh (G1 b.ID) (Gk Gc O O O) O (JLh (G1 p1) (Gk Gc O O O) O (JLh (BL (decide (b.ID=p1))) (Qh O O O) O (JLh (BL (decide (b.ID=p1))) (Gb O O) O (G8 (hK2 _ _ (Gx ?_)))))))))))))))
 exact⟨[BL (decide (b.ID=p1))],[],G,O,⟨⟨_,O,.conv (.same O)⟩,G⟩,O,congrArg (fun r:Bool=>(BL r:AV)) (Option.some.inj h)⟩

def Yk (s:List Gr) (f:Gr→Option Bool):Option Int:=
 each (fun y20 i20 (s20:Unit) nx20=>
  bnd (f y20) fun r26=>
  bif r26 then
  (some (i20:Int))
  else
  (nx20 ()))
 (fun(s20:Unit)=>
  some (-1)) s 0 ()
theorem Gcd (s:List Gr) (f:Gr→Option Bool) (f_f:FuncId) (f_c:List AV) (f_B:Ho Tryz.prog f_f=true) (f_d:Rs (fun _=>false) f_c=true) (f_w:∀ a0 q,f a0=some q→Pure Tryz.prog f_f ([.agg (Gr.cs a0)]++f_c) (·=BL q)) (r:Int) (h:Yk s f=some r):Pure Tryz.prog 83 [E2 s,.fn f_f f_c] (·=G1 r):=by
 unfold Yk at h
 refine H4 [.tmp 4] Tryz.func83 O O (G5 fun K1 hK1=>G3 (JLh (G1 0) (Gb O O) O (G8 (hK1 _ _ (G5 (fun K2 hK2=>G5 fun K3 hK3=>G3 (JLh (E2 s) (G6 O O) O (Hp (f:=Gr.av) (xs:=s) Jg O O (fun hm7=>?_) O O O))))))))
 refine JLh (G1 0) (G6 O O) O (G8 (hK3 _ _ (Gi ?_)))
 obtain⟨b20,kx20,hb20,hkx20,h⟩:=Hy h
 refine Ha (fun i20 (s20:Unit)=>each b20 kx20 (List.drop i20 s) i20 s20=some r) (fun i20 s20=>[(0,E2 s),(1,.fn f_f f_c),(7,Ek s.length),(8,Ek i20)]) (fun i20 s20=>[]) (fun i20=>s.length - i20) 0 () h ⟨⟨.same O,.same (Hx _ _ f_d),.same O,.same O,G⟩,G,O⟩ ?_
 clear h
 intro i20 s20 hi20 K20 e20
 refine G5 fun K21 hK21=>G3 (JLh (BL (decide ((i20:Int) < (s.length:Int)))) (J2 O O O) O (G8 (hK21 _ _ (G5 (fun K22 hK22=>Gn O (fun hb=>?_) (fun hb=>?_))))))
 ·
  have hk20:=Jd hb
  obtain⟨y20,nx20,hy20,hn20,h⟩:=Hr hi20 hk20
  replace h:=Rq hb20 h
  refine Gp (hK22 _ _ (G5 (fun K23 hK23=>Gi (G5 fun K24 hK24=>G3 (JLh (Ek i20) (G6 O O) O (JLh (Ek i20) (Gb O O) O (G8 (hK24 _ _ (G5 fun K25 hK25=>G3 (JLh (.fn f_f f_c) (G6 O O) O (JLh (E2 s) (G6 O O) O (JLh (Ek i20) (G6 O O) O (JLh (Eh y20) (Gz (f:=Gr.av) (xs:=s) (y:=y20) O O O Jg hy20 O) O (JLh (.agg (Gr.cs y20)) (Gh Z1 O O O) O ?_))))))))))))))
  obtain⟨r26,hr26,h⟩:=Gf h
  refine JLh (BL r26) (Yy (args:=[.agg (Gr.cs y20)]) (caps:=f_c) O O (f_w y20 _ hr26) f_B ⟨O,O,G⟩ f_d) O (G8 (hK25 _ _ (Gn O (fun hb=>?_) (fun hb=>?_))))
  ·
   replace h:=H1 hb h
   refine G5 fun K27 hK27=>G3 (JLh (Ek i20) (G6 O O) O (JLh (Ek i20) (Gb O O) O (G8 (hK27 _ _ (Gx (⟨[Ek i20],[],G,O,⟨⟨_,O,.conv (.same O)⟩,G⟩,O,congrArg (fun r:Int=>(G1 r:AV)) (Option.some.inj h)⟩))))))
  ·
   replace h:=Hv hb h
   refine Gp (hK23 _ _ (G3 (JLh (G1 ((i20+1:Nat):Int)) (Ht (Hn hk20 hm7) O O O) O (JLh (G1 ((i20+1:Nat):Int)) (G6 O O) O (G8 (e20 _ _ (i20+1) () (app1 hn20 h) (by omega) ⟨⟨.same rfl,.same (Hx _ _ f_d),.same rfl,.same rfl,G⟩,G,rfl⟩))))))
 ·
  have h:=app1 hkx20 (Hs hi20 (H9 hb))
  refine Hi (hK2 _ _ (G5 fun K28 hK28=>G3 (JLh (G1 (-1)) (Gb O O) O (G8 (hK28 _ _ (Gx (⟨[G1 (-1)],[],G,O,⟨⟨_,O,.conv (.same O)⟩,G⟩,O,congrArg (fun r:Int=>(G1 r:AV)) (Option.some.inj h)⟩)))))))

def G76 (boxes:List Gr) (id_:Int):Option (Gr×Bool):=
 bnd (Yk boxes (fun z0=>G57 z0 id_)) fun r3=>
 bif decide (r3 < 0) then
 (some ((Gr.mk 0 ByteArray.empty 0 false 0 0 0 0 false),false))
 else
 (Rm boxes r3 fun y8=>
  some (y8,true))
theorem Ha2 (boxes:List Gr) (id_:Int) (r:Gr×Bool) (h:G76 boxes id_=some r):Pure Tryz.prog 58 [E2 boxes,G1 id_] (·=.tup [.agg (Gr.cs r.1),BL r.2]):=by
 unfold G76 at h
 refine H4 [.cell 4 68,.tmp 5] Tryz.func58 O O (G5 fun K1 hK1=>G3 (JLh (.ptr 1145 0) (Jw (u:=G1 id_) (cs:=[G1 id_]) 1145 O O O O O) O (JLh (.ptr 1146 0) (G0b 1146 [G1 0,ST ByteArray.empty,U8 0,BL false,G1 0,G1 0,G1 0,U8 0,BL false] [.int .i64 0,.string ByteArray.empty,.int .u8 0,.bool false,.int .i64 0,.int .i64 0,.int .i64 0,.int .u8 0,.bool false] G0c ⟨.inl O,.inl O,.inl O,.inl O,.inl O,.inl O,.inl O,.inl O,.inl O,G⟩ O O) O (JLh (BL false) (Gb O O) O (G8 (hK1 _ _ (Gq [(0,E2 boxes),(3,.dptr [G1 id_]),(4,.ptr 1146 0)] [(1146,.box 68 [G1 0,ST ByteArray.empty,U8 0,BL false,G1 0,G1 0,G1 0,U8 0,BL false])] 1145 rfl rfl rfl ⟨⟨_,rfl,.boxEq rfl rfl⟩,G⟩ rfl (by exact⟨.conv (.same rfl),.ptr,.conv (.same rfl),G⟩) ?_)))))))
 refine G5 fun K2 hK2=>G3 (JLh (E2 boxes) (G6 O O) O (JLh (.fn 84 [.dptr [G1 id_]]) (R9 (cs:=[.dptr [G1 id_]]) O O) O ?_))
 obtain⟨r3,hr3,h⟩:=Gf h
 refine JLh (G1 r3) (Gy (args:=[E2 boxes,.fn 84 [.dptr [G1 id_]]]) O (Gcd boxes (fun z0=>G57 z0 id_) 84 [.dptr [G1 id_]] Jeb O (fun z0 q hq=>J36 z0 id_ q hq) r3 hr3) Jec ⟨O,O,O,O,G⟩) O (JLh (G1 r3) (Gb O O) O (G8 (hK2 _ _ (G5 (fun K4 hK4=>G5 fun K5 hK5=>G3 (JLh (G1 r3) (G6 O O) O (JLh (BL (decide (r3 < 0))) (J2 O O O) O (G8 (hK5 _ _ (Gn O (fun hb=>?_) (fun hb=>?_)))))))))))
 ·
  replace h:=H1 hb h
  refine G5 fun K6 hK6=>G3 (JLh (.agg [G1 0,ST ByteArray.empty,U8 0,BL false,G1 0,G1 0,G1 0,U8 0,BL false]) (Ji (cs:=[G1 0,ST ByteArray.empty,U8 0,BL false,G1 0,G1 0,G1 0,U8 0,BL false]) [(0,1),(1,1),(2,1),(3,1),(4,1),(5,1),(6,1),(7,1),(8,1)] [G1 0,ST ByteArray.empty,U8 0,BL false,G1 0,G1 0,G1 0,U8 0,BL false] [.int .i64 0,.string ByteArray.empty,.int .u8 0,.bool false,.int .i64 0,.int .i64 0,.int .i64 0,.int .u8 0,.bool false] Za G0c ⟨.inl O,.inl O,.inl O,.inl O,.inl O,.inl O,.inl O,.inl O,.inl O,G⟩ O O) O (Hg (u:=.junk) (H5 (u:=.agg [G1 0,ST ByteArray.empty,U8 0,BL false,G1 0,G1 0,G1 0,U8 0,BL false]) (ds:=[G1 0,ST ByteArray.empty,U8 0,BL false,G1 0,G1 0,G1 0,U8 0,BL false]) Z4 O O O O O O O O) (JLh (BL false) (Gb O O) O (G8 (hK6 _ _ ?_)))))
  refine Gx (⟨[.agg [G1 0,ST ByteArray.empty,U8 0,BL false,G1 0,G1 0,G1 0,U8 0,BL false],BL false],[],G,O,⟨⟨_,⟨_,_,_,_,O,O,O,.inl ⟨Z1,O⟩⟩,.conv (.same O)⟩,⟨_,O,.conv (.same O)⟩,G⟩,O,congrArg (fun r:Gr×Bool=>(.tup [.agg (Gr.cs r.1),BL r.2]:AV)) (Option.some.inj h)⟩)
 ·
  replace h:=Hv hb h
  refine Gp (hK4 _ _ (G5 fun K7 hK7=>G3 (JLh (E2 boxes) (G6 O O) O (JLh (G1 r3) (G6 O O) O ?_))))
  obtain⟨m9,y8,hm9,hy8,h⟩:=Qk h
  refine JLh (Eh y8) (Gz (f:=Gr.av) (xs:=boxes) (y:=y8) O O O Jg hy8 hm9) O (JLh (.agg (Gr.cs y8)) (Gh Z1 O O O) O (Hg (u:=.junk) (H5 (u:=.agg (Gr.cs y8)) (ds:=(Gr.cs y8)) Z4 O O O O O O O O) (JLh (BL true) (Gb O O) O (G8 (hK7 _ _ (Gx (⟨[.agg (Gr.cs y8),BL true],[],G,O,⟨⟨_,⟨_,_,_,_,O,O,O,.inl ⟨Z1,O⟩⟩,.conv (.same O)⟩,⟨_,O,.conv (.same O)⟩,G⟩,O,congrArg (fun r:Gr×Bool=>(.tup [.agg (Gr.cs r.1),BL r.2]:AV)) (Option.some.inj h)⟩)))))))

def Yv (s:List Int) (v:Int):Option Int:=
 each (fun y18 i18 (s18:Unit) nx18=>
  bif decide (v=y18) then
  (some (i18:Int))
  else
  (nx18 ()))
 (fun(s18:Unit)=>
  some (-1)) s 0 ()
theorem H47 (s:List Int) (v:Int) (r:Int) (h:Yv s v=some r):Pure Tryz.prog 110 [Eb s,U8 v] (·=G1 r):=by
 unfold Yv at h
 refine H4 [.tmp 4] Tryz.func110 O O (G5 fun K1 hK1=>G3 (JLh (G1 0) (Gb O O) O (G8 (hK1 _ _ (G5 (fun K2 hK2=>G5 fun K3 hK3=>G3 (JLh (Eb s) (G6 O O) O (Hp (f:=U8) (xs:=s) G04 O O (fun hm7=>?_) O O O))))))))
 refine JLh (G1 0) (G6 O O) O (G8 (hK3 _ _ (Gi ?_)))
 obtain⟨b18,kx18,hb18,hkx18,h⟩:=Hy h
 refine Ha (fun i18 (s18:Unit)=>each b18 kx18 (List.drop i18 s) i18 s18=some r) (fun i18 s18=>[(0,Eb s),(1,U8 v),(7,Ek s.length),(8,Ek i18)]) (fun i18 s18=>[]) (fun i18=>s.length - i18) 0 () h ⟨(by repeat' constructor),G,rfl⟩ ?_
 clear h
 intro i18 s18 hi18 K18 e18
 refine G5 fun K19 hK19=>G3 (JLh (BL (decide ((i18:Int) < (s.length:Int)))) (J2 O O O) O (G8 (hK19 _ _ (G5 (fun K20 hK20=>Gn O (fun hb=>?_) (fun hb=>?_))))))
 ·
  have hk18:=Jd hb
  obtain⟨y18,nx18,hy18,hn18,h⟩:=Hr hi18 hk18
  replace h:=Rq hb18 h
  refine Gp (hK20 _ _ (G5 (fun K21 hK21=>Gi (G5 fun K22 hK22=>G3 (JLh (Ek i18) (G6 O O) O (JLh (Ek i18) (Gb O O) O (G8 (hK22 _ _ (G5 fun K23 hK23=>G3 (JLh (U8 v) (G6 O O) O (JLh (Eb s) (G6 O O) O (JLh (Ek i18) (G6 O O) O (JLh (.dptr [U8 y18]) (Gz (f:=U8) (xs:=s) (y:=y18) O O O G04 hy18 O) O (JLh (U8 y18) (Gk J7 O O O) O (JLh (BL (decide (v=y18))) (Qh O O O) O (G8 (hK23 _ _ (Gn O (fun hb=>?_) (fun hb=>?_)))))))))))))))))))
  ·
   replace h:=H1 hb h
   refine G5 fun K24 hK24=>G3 (JLh (Ek i18) (G6 O O) O (JLh (Ek i18) (Gb O O) O (G8 (hK24 _ _ (Gx (⟨[Ek i18],[],G,O,⟨⟨_,O,.conv (.same O)⟩,G⟩,O,congrArg (fun r:Int=>(G1 r:AV)) (Option.some.inj h)⟩))))))
  ·
   replace h:=Hv hb h
   refine Gp (hK21 _ _ (G3 (JLh (G1 ((i18+1:Nat):Int)) (Ht (Hn hk18 hm7) O O O) O (JLh (G1 ((i18+1:Nat):Int)) (G6 O O) O (G8 (e18 _ _ (i18+1) () (app1 hn18 h) (by omega) ⟨(by repeat' constructor),G,rfl⟩))))))
 ·
  have h:=app1 hkx18 (Hs hi18 (H9 hb))
  refine Hi (hK2 _ _ (G5 fun K25 hK25=>G3 (JLh (G1 (-1)) (Gb O O) O (G8 (hK25 _ _ (Gx (⟨[G1 (-1)],[],G,O,⟨⟨_,O,.conv (.same O)⟩,G⟩,O,congrArg (fun r:Int=>(G1 r:AV)) (Option.some.inj h)⟩)))))))

def Rz (s:List Int) (v:Int):Option Bool:=
 bnd (Yv s v) fun r3=>
 some (decide (0≤r3))
theorem Gf1 (s:List Int) (v:Int) (r:Bool) (h:Rz s v=some r):Pure Tryz.prog 85 [Eb s,U8 v] (·=BL r):=by
 unfold Rz at h
 refine H4 [.tmp 4] Tryz.func85 O O (G5 fun K1 hK1=>G3 (JLh (BL false) (Gb O O) O (G8 (hK1 _ _ (G5 fun K2 hK2=>G3 (JLh (Eb s) (G6 O O) O (JLh (U8 v) (G6 O O) O ?_)))))))
 obtain⟨r3,hr3,h⟩:=Gf h
 refine JLh (G1 r3) (Gy (args:=[Eb s,U8 v]) O (H47 s v r3 hr3) Jd3 ⟨O,O,O,O,G⟩) O (JLh (BL (decide (0≤r3))) (G4b O O O) O (JLh (BL (decide (0≤r3))) (Gb O O) O (G8 (hK2 _ _ (Gx (⟨[BL (decide (0≤r3))],[],G,O,⟨⟨_,O,.conv (.same O)⟩,G⟩,O,congrArg (fun r:Bool=>(BL r:AV)) (Option.some.inj h)⟩))))))

def G87 (s:Hc) (x:Slot) (size:Int):Option Bool:=
 bnd (bif (((decide (0≤x.G9))&&(decide (x.G9 < (s.Columns.length:Int))))&&(decide (0≤x.Tier))) then Rm s.Columns x.G9 some else some default) fun y3=>
 bnd (bif ((((decide (0≤x.G9))&&(decide (x.G9 < (s.Columns.length:Int))))&&(decide (0≤x.Tier)))&&(decide (x.Tier < y3.Tiers))) then G11 size else some default) fun r4=>
 bnd (bif ((((decide (0≤x.G9))&&(decide (x.G9 < (s.Columns.length:Int))))&&(decide (0≤x.Tier)))&&(decide (x.Tier < y3.Tiers))) then Rz r4 x.Half else some default) fun r5=>
 some (((((decide (0≤x.G9))&&(decide (x.G9 < (s.Columns.length:Int))))&&(decide (0≤x.Tier)))&&(decide (x.Tier < y3.Tiers)))&&r5)
theorem J97 (s:Hc) (x:Slot) (size:Int) (r:Bool) (h:G87 s x size=some r):Pure Tryz.prog 59 [.agg (Hc.cs s),.agg [G1 x.G9,G1 x.Tier,U8 x.Half],U8 size] (·=BL r):=by
 unfold G87 at h
 refine H4 [.tmp 6] Tryz.func59 O O ?_
 refine G5 fun K1 hK1=>G3 (JLh (.ptr 1147 0) (Jw (u:=.agg (Hc.cs s)) (cs:=(Hc.cs s)) 1147 O O O O O) O (JLh (.ptr 1148 0) (Jw (u:=.agg [G1 x.G9,G1 x.Tier,U8 x.Half]) (cs:=[G1 x.G9,G1 x.Tier,U8 x.Half]) 1148 O O O O O) O (JLh (BL false) (Gb O O) O (G8 (hK1 _ _ ?_)))))
 refine Gq [(2,U8 size),(3,Ee s),(4,.ptr 1148 0)] [(1148,.box 103 [G1 x.G9,G1 x.Tier,U8 x.Half])] 1147 rfl rfl rfl ⟨⟨_,rfl,.boxEq rfl rfl⟩,G⟩ rfl (by exact⟨.conv (.same rfl),.ptr,.conv (.same rfl),G⟩) ?_
 refine Gq [(2,U8 size),(3,Ee s),(4,.dptr [G1 x.G9,G1 x.Tier,U8 x.Half])] [] 1148 rfl rfl rfl G rfl (by exact⟨.conv (.same rfl),.conv (.same rfl),.ptr,G⟩) (G5 (fun K2 hK2=>?_))
 obtain⟨y3,hy3,h⟩:=Gf h
 obtain⟨r4,hr4,h⟩:=Gf h
 obtain⟨r5,hr5,h⟩:=Gf h
 refine Qt [] [0,0,0,0,0,0,0,0,0,0,0,0,0,0,0,0,0,0,0,0,0,0,0,0,0,0,0,0,0,0,0,0,0,0,0,0] [0,0,0,0,0,0,0,0,0,0,0,0,0,0,0,0,0,0,0,0,0,0,0,0,0,0,0,0,0,0,0,0,0,0,0,0] [[]] Jr (by kernel_rfl) rfl rfl ?_
 refine Gm (u:=.dptr [G1 x.G9,G1 x.Tier,U8 x.Half]) O O ⟨Gs (Gd Q6 O O O) O,G⟩ (Gm (u:=G1 x.G9) O O ⟨Gs (Gk Gc O O O) O,G⟩ (Gm (u:=BL (decide (0≤x.G9))) O O ⟨Gs (G4b O O O) O,G⟩ (Gm (u:=BL (decide (0≤x.G9))) O O ⟨Gs (G6 O O) O,G⟩ (Gm (u:=.opt (decide (0≤x.G9)) (.dptr [G1 x.G9,G1 x.Tier,U8 x.Half])) O O ⟨He [] O O O .sct G (fun hc=>Gd Q6 O O O) O,G⟩ (Gm (u:=.opt (decide (0≤x.G9)) (G1 x.G9)) O O ⟨He [(11,.dptr [G1 x.G9,G1 x.Tier,U8 x.Half])] O O O .sct ⟨.all id,G⟩ (fun hc=>Gk Gc O O O) O,G⟩ (Gm (u:=.opt (decide (0≤x.G9)) (Ee s)) O O ⟨He [] O O O .sct G (fun hc=>Gd J0 O O O) O,G⟩ (Gm (u:=.opt (decide (0≤x.G9)) (E5 s.Columns)) O O ⟨He [(13,Ee s)] O O O .sct ⟨.all id,G⟩ (fun hc=>Gk J8 O O O) O,G⟩ (Gm (u:=.opt (decide (0≤x.G9)) (Ek s.Columns.length)) O O ⟨He [(14,E5 s.Columns)] O O O .sct ⟨.all id,G⟩ (fun hc=>Zd (f:=G9.av) (xs:=s.Columns) J3 O O) O,G⟩ (Gm (u:=.opt (decide (0≤x.G9)) (BL (decide (x.G9 < (s.Columns.length:Int))))) O O ⟨He [(12,G1 x.G9),(15,Ek s.Columns.length)] O O O .sct ⟨.all id,.all id,G⟩ (fun hc=>J2 O O O) O,G⟩ (Gm (u:=BL ((decide (0≤x.G9))&&(decide (x.G9 < (s.Columns.length:Int))))) O O ⟨Gs (Qc O O O O) O,G⟩ (Gm (u:=BL ((decide (0≤x.G9))&&(decide (x.G9 < (s.Columns.length:Int))))) O O ⟨Gs (G6 O O) O,G⟩ (Gm (u:=.opt ((decide (0≤x.G9))&&(decide (x.G9 < (s.Columns.length:Int)))) (.dptr [G1 x.Tier,U8 x.Half])) O O ⟨He [] O O O .sct G (fun hc=>Gd Y9 O O O) O,G⟩ (Gm (u:=.opt ((decide (0≤x.G9))&&(decide (x.G9 < (s.Columns.length:Int)))) (G1 x.Tier)) O O ⟨He [(19,.dptr [G1 x.Tier,U8 x.Half])] O O O .sct ⟨.all id,G⟩ (fun hc=>Gk Gc O O O) O,G⟩ ?_)))))))))))))
 refine Gm (u:=.opt ((decide (0≤x.G9))&&(decide (x.G9 < (s.Columns.length:Int)))) (BL (decide (0≤x.Tier)))) O O ⟨He [(20,G1 x.Tier)] O O O .sct ⟨.all id,G⟩ (fun hc=>G4b O O O) O,G⟩ (Gm (u:=BL (((decide (0≤x.G9))&&(decide (x.G9 < (s.Columns.length:Int))))&&(decide (0≤x.Tier)))) O O ⟨Gs (Qc O O O O) O,G⟩ (Gm (u:=BL (((decide (0≤x.G9))&&(decide (x.G9 < (s.Columns.length:Int))))&&(decide (0≤x.Tier)))) O O ⟨Gs (G6 O O) O,G⟩ (Gm (u:=.opt (((decide (0≤x.G9))&&(decide (x.G9 < (s.Columns.length:Int))))&&(decide (0≤x.Tier))) (.dptr [G1 x.Tier,U8 x.Half])) O O ⟨He [] O O O .sct G (fun hc=>Gd Y9 O O O) O,G⟩ (Gm (u:=.opt (((decide (0≤x.G9))&&(decide (x.G9 < (s.Columns.length:Int))))&&(decide (0≤x.Tier))) (G1 x.Tier)) O O ⟨He [(24,.dptr [G1 x.Tier,U8 x.Half])] O O O .sct ⟨.all id,G⟩ (fun hc=>Gk Gc O O O) O,G⟩ (Gm (u:=.opt (((decide (0≤x.G9))&&(decide (x.G9 < (s.Columns.length:Int))))&&(decide (0≤x.Tier))) (Ee s)) O O ⟨He [] O O O .sct G (fun hc=>Gd J0 O O O) O,G⟩ (Gm (u:=.opt (((decide (0≤x.G9))&&(decide (x.G9 < (s.Columns.length:Int))))&&(decide (0≤x.Tier))) (E5 s.Columns)) O O ⟨He [(26,Ee s)] O O O .sct ⟨.all id,G⟩ (fun hc=>Gk J8 O O O) O,G⟩ (Gm (u:=.opt (((decide (0≤x.G9))&&(decide (x.G9 < (s.Columns.length:Int))))&&(decide (0≤x.Tier))) (.dptr [G1 x.G9,G1 x.Tier,U8 x.Half])) O O ⟨He [] O O O .sct G (fun hc=>Gd Q6 O O O) O,G⟩ (Gm (u:=.opt (((decide (0≤x.G9))&&(decide (x.G9 < (s.Columns.length:Int))))&&(decide (0≤x.Tier))) (G1 x.G9)) O O ⟨He [(28,.dptr [G1 x.G9,G1 x.Tier,U8 x.Half])] O O O .sct ⟨.all id,G⟩ (fun hc=>Gk Gc O O O) O,G⟩ (Gm (u:=.opt (((decide (0≤x.G9))&&(decide (x.G9 < (s.Columns.length:Int))))&&(decide (0≤x.Tier))) (Ej y3)) O O ⟨He [(27,E5 s.Columns),(29,G1 x.G9)] O O O .sct ⟨.all id,.all id,G⟩ (fun hc=>(match Yi (H1 hc hy3) with | ⟨_,hm_,hy_⟩=>Gz (f:=G9.av) (xs:=s.Columns) (y:=y3) O O O J3 hy_ hm_)) O,G⟩ (Gm (u:=.opt (((decide (0≤x.G9))&&(decide (x.G9 < (s.Columns.length:Int))))&&(decide (0≤x.Tier))) (.dptr ((G9.cs y3).drop 3))) O O ⟨He [(30,Ej y3)] O O O .sct ⟨.all id,G⟩ (fun hc=>Gd G32 O O O) O,G⟩ (Gm (u:=.opt (((decide (0≤x.G9))&&(decide (x.G9 < (s.Columns.length:Int))))&&(decide (0≤x.Tier))) (G1 y3.Tiers)) O O ⟨He [(31,.dptr ((G9.cs y3).drop 3))] O O O .sct ⟨.all id,G⟩ (fun hc=>Gk Gc O O O) O,G⟩ (Gm (u:=.opt (((decide (0≤x.G9))&&(decide (x.G9 < (s.Columns.length:Int))))&&(decide (0≤x.Tier))) (BL (decide (x.Tier < y3.Tiers)))) O O ⟨He [(25,G1 x.Tier),(32,G1 y3.Tiers)] O O O .sct ⟨.all id,.all id,G⟩ (fun hc=>J2 O O O) O,G⟩ (Gm (u:=BL ((((decide (0≤x.G9))&&(decide (x.G9 < (s.Columns.length:Int))))&&(decide (0≤x.Tier)))&&(decide (x.Tier < y3.Tiers)))) O O ⟨Gs (Qc O O O O) O,G⟩ ?_)))))))))))))
 refine Gm (u:=BL ((((decide (0≤x.G9))&&(decide (x.G9 < (s.Columns.length:Int))))&&(decide (0≤x.Tier)))&&(decide (x.Tier < y3.Tiers)))) O O ⟨Gs (G6 O O) O,G⟩ (Gm (u:=.opt ((((decide (0≤x.G9))&&(decide (x.G9 < (s.Columns.length:Int))))&&(decide (0≤x.Tier)))&&(decide (x.Tier < y3.Tiers))) (U8 size)) O O ⟨He [] O O O .sct G (fun hc=>G6 O O) O,G⟩ (Gm (u:=.opt ((((decide (0≤x.G9))&&(decide (x.G9 < (s.Columns.length:Int))))&&(decide (0≤x.Tier)))&&(decide (x.Tier < y3.Tiers))) (Eb r4)) O O ⟨He [(36,U8 size)] O O O .sct ⟨.all id,G⟩ (fun hc=>Gy (args:=[U8 size]) O (H53 size r4 (H1 hc hr4)) J5e ⟨O,O,G⟩) O,G⟩ (Gm (u:=.opt ((((decide (0≤x.G9))&&(decide (x.G9 < (s.Columns.length:Int))))&&(decide (0≤x.Tier)))&&(decide (x.Tier < y3.Tiers))) (.dptr [U8 x.Half])) O O ⟨He [] O O O .sct G (fun hc=>Gd Y8 O O O) O,G⟩ (Gm (u:=.opt ((((decide (0≤x.G9))&&(decide (x.G9 < (s.Columns.length:Int))))&&(decide (0≤x.Tier)))&&(decide (x.Tier < y3.Tiers))) (U8 x.Half)) O O ⟨He [(38,.dptr [U8 x.Half])] O O O .sct ⟨.all id,G⟩ (fun hc=>Gk J7 O O O) O,G⟩ (Gm (u:=.opt ((((decide (0≤x.G9))&&(decide (x.G9 < (s.Columns.length:Int))))&&(decide (0≤x.Tier)))&&(decide (x.Tier < y3.Tiers))) (BL r5)) O O ⟨He [(37,Eb r4),(39,U8 x.Half)] O O O .sct ⟨.all id,.all id,G⟩ (fun hc=>Gy (args:=[Eb r4,U8 x.Half]) O (Gf1 r4 x.Half r5 (H1 hc hr5)) Jea ⟨O,O,O,O,G⟩) O,G⟩ (Gm (u:=BL (((((decide (0≤x.G9))&&(decide (x.G9 < (s.Columns.length:Int))))&&(decide (0≤x.Tier)))&&(decide (x.Tier < y3.Tiers)))&&r5)) O O ⟨Gs (Qc O O O O) O,G⟩ (Gm (u:=BL (((((decide (0≤x.G9))&&(decide (x.G9 < (s.Columns.length:Int))))&&(decide (0≤x.Tier)))&&(decide (x.Tier < y3.Tiers)))&&r5)) O O ⟨Gs (Gb O O) O,G⟩ (Zu ?_))))))))
 refine hK2 _ _ (Gx (⟨[BL (((((decide (0≤x.G9))&&(decide (x.G9 < (s.Columns.length:Int))))&&(decide (0≤x.Tier)))&&(decide (x.Tier < y3.Tiers)))&&r5)],[],G,O,⟨⟨_,O,.conv (.same O)⟩,G⟩,O,congrArg (fun r:Bool=>(BL r:AV)) (Option.some.inj h)⟩))

def Yd (s:List Slot) (v:Slot):Option Int:=
 each (fun y18 i18 (s18:Unit) nx18=>
  bif decide (v=y18) then
  (some (i18:Int))
  else
  (nx18 ()))
 (fun(s18:Unit)=>
  some (-1)) s 0 ()
theorem H16 (s:List Slot) (v:Slot) (r:Int) (h:Yd s v=some r):Pure Tryz.prog 111 [E6 s,.agg [G1 v.G9,G1 v.Tier,U8 v.Half]] (·=G1 r):=by
 unfold Yd at h
 refine H4 [.tmp 4] Tryz.func111 O O (G5 fun K1 hK1=>G3 (JLh (.ptr 1181 0) (Jw (u:=.agg [G1 v.G9,G1 v.Tier,U8 v.Half]) (cs:=[G1 v.G9,G1 v.Tier,U8 v.Half]) 1181 O O O O O) O (JLh (G1 0) (Gb O O) O (G8 (hK1 _ _ (Gq [(0,E6 s),(3,.dptr [G1 v.G9,G1 v.Tier,U8 v.Half])] [] 1181 rfl rfl rfl G rfl (by exact⟨.conv (.same rfl),.ptr,G⟩) (G5 (fun K2 hK2=>G5 fun K3 hK3=>G3 (JLh (E6 s) (G6 O O) O (Hp (f:=Slot.av) (xs:=s) Y7 O O (fun hm7=>?_) O O O))))))))))
 refine JLh (G1 0) (G6 O O) O (G8 (hK3 _ _ (Gi ?_)))
 obtain⟨b18,kx18,hb18,hkx18,h⟩:=Hy h
 refine Ha (fun i18 (s18:Unit)=>each b18 kx18 (List.drop i18 s) i18 s18=some r) (fun i18 s18=>[(0,E6 s),(3,.dptr [G1 v.G9,G1 v.Tier,U8 v.Half]),(7,Ek s.length),(8,Ek i18)]) (fun i18 s18=>[]) (fun i18=>s.length - i18) 0 () h ⟨(by repeat' constructor),G,rfl⟩ ?_
 clear h
 intro i18 s18 hi18 K18 e18
 refine G5 fun K19 hK19=>G3 (JLh (BL (decide ((i18:Int) < (s.length:Int)))) (J2 O O O) O (G8 (hK19 _ _ (G5 (fun K20 hK20=>Gn O (fun hb=>?_) (fun hb=>?_))))))
 ·
  have hk18:=Jd hb
  obtain⟨y18,nx18,hy18,hn18,h⟩:=Hr hi18 hk18
  replace h:=Rq hb18 h
  refine Gp (hK20 _ _ (G5 (fun K21 hK21=>Gi (G5 fun K22 hK22=>G3 (JLh (Ek i18) (G6 O O) O (JLh (Ek i18) (Gb O O) O (G8 (hK22 _ _ (G5 (fun K23 hK23=>Qt [] [0,0,0,0,0,0] [0,0,0,0,0,0] [[]] Jr (by kernel_rfl) rfl rfl ?_))))))))))
  refine Gm (u:=.agg [G1 v.G9,G1 v.Tier,U8 v.Half]) O O ⟨Gs (Gh Q2 O O O) O,G⟩ (Gm (u:=E6 s) O O ⟨Gs (G6 O O) O,G⟩ (Gm (u:=Ek i18) O O ⟨Gs (G6 O O) O,G⟩ (Gm (u:=Ei y18) O O ⟨Gs (Gz (f:=Slot.av) (xs:=s) (y:=y18) O O O Y7 hy18 O) O,G⟩ (Gm (u:=.agg (Slot.cs y18)) O O ⟨Gs (Gh Q2 O O O) O,G⟩ (Gm (u:=BL (decide (v=y18))) O O ⟨Gs (Jc2 (vs:=[.int .i64 v.G9,.int .i64 v.Tier,.int .u8 v.Half]) (us:=[.int .i64 y18.G9,.int .i64 y18.Tier,.int .u8 y18.Half]) 4 O (tq_103 v y18) H37 Ha9 O O O) O,G⟩ (Zu (hK23 _ _ (Gn O (fun hb=>?_) (fun hb=>?_)))))))))
  ·
   replace h:=H1 hb h
   refine G5 fun K24 hK24=>G3 (JLh (Ek i18) (G6 O O) O (JLh (Ek i18) (Gb O O) O (G8 (hK24 _ _ (Gx (⟨[Ek i18],[],G,O,⟨⟨_,O,.conv (.same O)⟩,G⟩,O,congrArg (fun r:Int=>(G1 r:AV)) (Option.some.inj h)⟩))))))
  ·
   replace h:=Hv hb h
   refine Gp (hK21 _ _ (G3 (JLh (G1 ((i18+1:Nat):Int)) (Ht (Hn hk18 hm7) O O O) O (JLh (G1 ((i18+1:Nat):Int)) (G6 O O) O (G8 (e18 _ _ (i18+1) () (app1 hn18 h) (by omega) ⟨(by repeat' constructor),G,rfl⟩))))))
 ·
  have h:=app1 hkx18 (Hs hi18 (H9 hb))
  refine Hi (hK2 _ _ (G5 fun K25 hK25=>G3 (JLh (G1 (-1)) (Gb O O) O (G8 (hK25 _ _ (Gx (⟨[G1 (-1)],[],G,O,⟨⟨_,O,.conv (.same O)⟩,G⟩,O,congrArg (fun r:Int=>(G1 r:AV)) (Option.some.inj h)⟩)))))))

def Rf (s:List Slot) (v:Slot):Option Bool:=
 bnd (Yd s v) fun r3=>
 some (decide (0≤r3))
theorem Gce (s:List Slot) (v:Slot) (r:Bool) (h:Rf s v=some r):Pure Tryz.prog 88 [E6 s,.agg [G1 v.G9,G1 v.Tier,U8 v.Half]] (·=BL r):=by
 unfold Rf at h
 refine H4 [.tmp 4] Tryz.func88 O O (G5 fun K1 hK1=>G3 (JLh (.ptr 1171 0) (Jw (u:=.agg [G1 v.G9,G1 v.Tier,U8 v.Half]) (cs:=[G1 v.G9,G1 v.Tier,U8 v.Half]) 1171 O O O O O) O (JLh (BL false) (Gb O O) O (G8 (hK1 _ _ (Gq [(0,E6 s),(3,.dptr [G1 v.G9,G1 v.Tier,U8 v.Half])] [] 1171 rfl rfl rfl G rfl (by exact⟨.conv (.same rfl),.ptr,G⟩) (G5 fun K2 hK2=>G3 (JLh (E6 s) (G6 O O) O (JLh (.agg [G1 v.G9,G1 v.Tier,U8 v.Half]) (Gh Q2 O O O) O ?_)))))))))
 obtain⟨r3,hr3,h⟩:=Gf h
 refine JLh (G1 r3) (Gy (args:=[E6 s,.agg [G1 v.G9,G1 v.Tier,U8 v.Half]]) O (H16 s v r3 hr3) Jd2 ⟨O,O,O,O,G⟩) O (JLh (BL (decide (0≤r3))) (G4b O O O) O (JLh (BL (decide (0≤r3))) (Gb O O) O (G8 (hK2 _ _ (Gx (⟨[BL (decide (0≤r3))],[],G,O,⟨⟨_,O,.conv (.same O)⟩,G⟩,O,congrArg (fun r:Bool=>(BL r:AV)) (Option.some.inj h)⟩))))))

def G12 (half:Int) (p1:List Slot) (p2:Slot):Option Bool:=
 Rn (p2.Tier - 1) fun v3=>
 bnd (Rf p1 (Slot.mk p2.G9 v3 half)) fun r4=>
 some r4
theorem Gbe (half:Int) (p1:List Slot) (p2:Slot) (r:Bool) (h:G12 half p1 p2=some r):Pure Tryz.prog 87 [U8 half,.dptr [E6 p1],.dptr [G1 p2.G9,G1 p2.Tier,U8 p2.Half]] (·=BL r):=by
 unfold G12 at h
 refine H4 [.tmp 4] Tryz.func87 O O (G5 fun K1 hK1=>G3 (JLh (BL false) (Gb O O) O (G8 (hK1 _ _ (G5 fun K2 hK2=>G3 (JLh (E6 p1) (Gk H0f O O O) O (JLh (.dptr [G1 p2.G9,G1 p2.Tier,U8 p2.Half]) (Gd Q6 O O O) O (JLh (G1 p2.G9) (Gk Gc O O O) O (JLh (.dptr [G1 p2.Tier,U8 p2.Half]) (Gd Y9 O O O) O (JLh (G1 p2.Tier) (Gk Gc O O O) O ?_))))))))))
 obtain⟨v3,hv3,h⟩:=Hb h
 refine JLh (G1 v3) (G18 hv3 O O O) O (JLh (U8 half) (G6 O O) O (JLh (.agg [G1 p2.G9,G1 v3,U8 half]) (Ji (cs:=[G1 p2.G9,G1 v3,U8 half]) [(0,1),(1,1),(2,1)] [G1 0,G1 0,U8 0] [.int .i64 0,.int .i64 0,.int .u8 0] H10 Gf6 ⟨.inl O,.inl O,.inl O,G⟩ O O) O ?_))
 obtain⟨r4,hr4,h⟩:=Gf h
 refine JLh (BL r4) (Gy (args:=[E6 p1,.agg [G1 p2.G9,G1 v3,U8 half]]) O (Gce p1 (Slot.mk p2.G9 v3 half) r4 hr4) Je9 ⟨O,O,O,O,G⟩) O (JLh (BL r4) (Gb O O) O (G8 (hK2 _ _ (Gx (⟨[BL r4],[],G,O,⟨⟨_,O,.conv (.same O)⟩,G⟩,O,congrArg (fun r:Bool=>(BL r:AV)) (Option.some.inj h)⟩)))))

def Gb1 (x:Slot) (l:List Slot):Option Bool:=
 bif decide (x.Tier≤0) then
 (some true)
 else
 (bnd (G12 x.Half l x) fun r7=>
  bnd (bif ((!r7)&&(decide (x.Half=0))) then G12 1 l x else some default) fun r8=>
  bnd (bif ((!r7)&&((decide (x.Half=0))&&r8)) then G12 2 l x else some default) fun r9=>
  some (r7||(((decide (x.Half=0))&&r8)&&r9)))
theorem M_slot_Held_w (x:Slot) (l:List Slot) (r:Bool) (h:Gb1 x l=some r):Pure Tryz.prog 60 [.agg [G1 x.G9,G1 x.Tier,U8 x.Half],E6 l] (·=BL r):=by
 unfold Gb1 at h
 refine H4 [.tmp 4] Tryz.func60 O O (G5 fun K1 hK1=>G3 (JLh (.ptr 1149 0) (Jw (u:=.agg [G1 x.G9,G1 x.Tier,U8 x.Half]) (cs:=[G1 x.G9,G1 x.Tier,U8 x.Half]) 1149 O O O O O) O (JLh (.ptr 1150 0) (Jw (u:=E6 l) (cs:=[E6 l]) 1150 O O O O O) O (JLh (BL false) (Gb O O) O (G8 (hK1 _ _ (Gq [(2,.dptr [G1 x.G9,G1 x.Tier,U8 x.Half]),(3,.ptr 1150 0)] [(1150,.box 110 [E6 l])] 1149 rfl rfl rfl ⟨⟨_,rfl,.boxEq rfl rfl⟩,G⟩ rfl (by exact⟨.ptr,.conv (.same rfl),G⟩) (Gq [(2,.dptr [G1 x.G9,G1 x.Tier,U8 x.Half]),(3,.dptr [E6 l])] [] 1150 rfl rfl rfl G rfl (by exact⟨.conv (.same rfl),.ptr,G⟩) (G5 (fun K2 hK2=>?_))))))))))
 refine G5 fun K3 hK3=>G3 (JLh (.dptr [G1 x.Tier,U8 x.Half]) (Gd Y9 O O O) O (JLh (G1 x.Tier) (Gk Gc O O O) O (JLh (BL (decide (x.Tier≤0))) (Gc4 O O O) O (G8 (hK3 _ _ (Gn O (fun hb=>?_) (fun hb=>?_)))))))
 ·
  replace h:=H1 hb h
  refine G5 fun K4 hK4=>G3 (JLh (BL true) (Gb O O) O (G8 (hK4 _ _ (Gx (⟨[BL true],[],G,O,⟨⟨_,O,.conv (.same O)⟩,G⟩,O,congrArg (fun r:Bool=>(BL r:AV)) (Option.some.inj h)⟩)))))
 ·
  replace h:=Hv hb h
  refine Gp (hK2 _ _ (G5 fun K5 hK5=>G3 (JLh (.fn 87 [.dptr [E6 l],.dptr [G1 x.G9,G1 x.Tier,U8 x.Half]]) (R9 (cs:=[.dptr [E6 l],.dptr [G1 x.G9,G1 x.Tier,U8 x.Half]]) O O) O (JLh (.fn 87 [.dptr [E6 l],.dptr [G1 x.G9,G1 x.Tier,U8 x.Half]]) (Gb O O) O (G8 (hK5 _ _ (G5 fun K6 hK6=>G3 (JLh (.fn 87 [.dptr [E6 l],.dptr [G1 x.G9,G1 x.Tier,U8 x.Half]]) (G6 O O) O (JLh (.dptr [U8 x.Half]) (Gd Y8 O O O) O (JLh (U8 x.Half) (Gk J7 O O O) O ?_))))))))))
  obtain⟨r7,hr7,h⟩:=Gf h
  refine JLh (BL r7) (Yy (args:=[U8 x.Half]) (caps:=[.dptr [E6 l],.dptr [G1 x.G9,G1 x.Tier,U8 x.Half]]) O O (Gbe x.Half l x r7 hr7) Haa ⟨O,O,G⟩ O) O (JLh (BL r7) (G6 O O) O (Gg (u:=.dptr [U8 x.Half]) [] O O O .scf G (fun hc=>Gd Y8 O O O) ?_))
  refine Gg (u:=U8 x.Half) [(15,.dptr [U8 x.Half])] O O O .scf ⟨.all id,G⟩ (fun hc=>Gk J7 O O O) ?_
  refine Gg (u:=BL (decide (x.Half=0))) [(16,U8 x.Half)] O O O .scf ⟨.all id,G⟩ (fun hc=>Qh O O O) ?_
  refine Gg (u:=BL (decide (x.Half=0))) [(17,BL (decide (x.Half=0)))] O O O .scf ⟨.all id,G⟩ (fun hc=>G6 O O) ?_
  refine Gg (u:=.fn 87 [.dptr [E6 l],.dptr [G1 x.G9,G1 x.Tier,U8 x.Half]]) [] O O O .optt G (fun hc=>G6 O O) ?_
  obtain⟨r8,hr8,h⟩:=Gf h
  refine Gg (u:=BL r8) [(19,.fn 87 [.dptr [E6 l],.dptr [G1 x.G9,G1 x.Tier,U8 x.Half]])] O O O .optt ⟨.all id,G⟩ (fun hc=>Yy (args:=[U8 1]) (caps:=[.dptr [E6 l],.dptr [G1 x.G9,G1 x.Tier,U8 x.Half]]) O O (Gbe 1 l x r8 (H1 hc hr8)) Haa ⟨O,O,G⟩ O) ?_
  refine Gg (u:=BL ((decide (x.Half=0))&&r8)) [(18,BL (decide (x.Half=0))),(20,_)] O O O .scf ⟨.all id,.part,G⟩ (fun hc=>Qc O O O O) ?_
  refine Gg (u:=BL ((decide (x.Half=0))&&r8)) [(21,BL ((decide (x.Half=0))&&r8))] O O O .scf ⟨.all id,G⟩ (fun hc=>G6 O O) ?_
  refine Gg (u:=.fn 87 [.dptr [E6 l],.dptr [G1 x.G9,G1 x.Tier,U8 x.Half]]) [] O O O .optt G (fun hc=>G6 O O) ?_
  obtain⟨r9,hr9,h⟩:=Gf h
  refine Gg (u:=BL r9) [(23,.fn 87 [.dptr [E6 l],.dptr [G1 x.G9,G1 x.Tier,U8 x.Half]])] O O O .optt ⟨.all id,G⟩ (fun hc=>Yy (args:=[U8 2]) (caps:=[.dptr [E6 l],.dptr [G1 x.G9,G1 x.Tier,U8 x.Half]]) O O (Gbe 2 l x r9 (H1 hc hr9)) Haa ⟨O,O,G⟩ O) ?_
  refine Gg (u:=BL (((decide (x.Half=0))&&r8)&&r9)) [(22,BL ((decide (x.Half=0))&&r8)),(24,_)] O O O .scf ⟨.all id,.part,G⟩ (fun hc=>Qc O O O O) ?_
  refine JLh (BL (r7||(((decide (x.Half=0))&&r8)&&r9))) (G2a O O O O) O (JLh (BL (r7||(((decide (x.Half=0))&&r8)&&r9))) (Gb O O) O (G8 (hK6 _ _ (Gx (⟨[BL (r7||(((decide (x.Half=0))&&r8)&&r9))],[],G,O,⟨⟨_,O,.conv (.same O)⟩,G⟩,O,congrArg (fun r:Bool=>(BL r:AV)) (Option.some.inj h)⟩)))))

def G38 (a:Int) (b:Int):Option Bool:=
 some (((decide (a=b))||(decide (a=0)))||(decide (b=0)))
theorem H52 (a:Int) (b:Int) (r:Bool) (h:G38 a b=some r):Pure Tryz.prog 89 [U8 a,U8 b] (·=BL r):=by
 unfold G38 at h
 refine H4 [.tmp 4] Tryz.func89 O O (G5 fun K1 hK1=>G3 (JLh (BL false) (Gb O O) O (G8 (hK1 _ _ (G5 fun K2 hK2=>G3 (JLh (U8 a) (G6 O O) O (JLh (U8 b) (G6 O O) O (JLh (BL (decide (a=b))) (Qh O O O) O (JLh (BL (decide (a=b))) (G6 O O) O (Gg (u:=U8 a) [] O O O .scf G (fun hc=>G6 O O) ?_))))))))))
 refine Gg (u:=BL (decide (a=0))) [(9,U8 a)] O O O .scf ⟨.all id,G⟩ (fun hc=>Qh O O O) ?_
 refine JLh (BL ((decide (a=b))||(decide (a=0)))) (G2a O O O O) O (JLh (BL ((decide (a=b))||(decide (a=0)))) (G6 O O) O (Gg (u:=U8 b) [] O O O .scf G (fun hc=>G6 O O) ?_))
 refine Gg (u:=BL (decide (b=0))) [(13,U8 b)] O O O .scf ⟨.all id,G⟩ (fun hc=>Qh O O O) ?_
 refine JLh (BL (((decide (a=b))||(decide (a=0)))||(decide (b=0)))) (G2a O O O O) O (JLh (BL (((decide (a=b))||(decide (a=0)))||(decide (b=0)))) (Gb O O) O (G8 (hK2 _ _ (Gx (⟨[BL (((decide (a=b))||(decide (a=0)))||(decide (b=0)))],[],G,O,⟨⟨_,O,.conv (.same O)⟩,G⟩,O,congrArg (fun r:Bool=>(BL r:AV)) (Option.some.inj h)⟩)))))

def Gb0 (a:Slot) (b:Slot):Option Bool:=
 bnd (bif ((decide (a.G9=b.G9))&&(decide (a.Tier=b.Tier))) then G38 a.Half b.Half else some default) fun r3=>
 some (((decide (a.G9=b.G9))&&(decide (a.Tier=b.Tier)))&&r3)
theorem M_slot_Meet_w (a:Slot) (b:Slot) (r:Bool) (h:Gb0 a b=some r):Pure Tryz.prog 61 [.agg [G1 a.G9,G1 a.Tier,U8 a.Half],.agg [G1 b.G9,G1 b.Tier,U8 b.Half]] (·=BL r):=by
 unfold Gb0 at h
 refine H4 [.tmp 4] Tryz.func61 O O (G5 fun K1 hK1=>G3 (JLh (.ptr 1151 0) (Jw (u:=.agg [G1 a.G9,G1 a.Tier,U8 a.Half]) (cs:=[G1 a.G9,G1 a.Tier,U8 a.Half]) 1151 O O O O O) O (JLh (.ptr 1152 0) (Jw (u:=.agg [G1 b.G9,G1 b.Tier,U8 b.Half]) (cs:=[G1 b.G9,G1 b.Tier,U8 b.Half]) 1152 O O O O O) O (JLh (BL false) (Gb O O) O (G8 (hK1 _ _ (Gq [(2,.dptr [G1 a.G9,G1 a.Tier,U8 a.Half]),(3,.ptr 1152 0)] [(1152,.box 103 [G1 b.G9,G1 b.Tier,U8 b.Half])] 1151 rfl rfl rfl ⟨⟨_,rfl,.boxEq rfl rfl⟩,G⟩ rfl (by exact⟨.ptr,.conv (.same rfl),G⟩) (Gq [(2,.dptr [G1 a.G9,G1 a.Tier,U8 a.Half]),(3,.dptr [G1 b.G9,G1 b.Tier,U8 b.Half])] [] 1152 rfl rfl rfl G rfl (by exact⟨.conv (.same rfl),.ptr,G⟩) ?_))))))))
 refine G5 fun K2 hK2=>G3 (JLh (.dptr [G1 a.G9,G1 a.Tier,U8 a.Half]) (Gd Q6 O O O) O (JLh (G1 a.G9) (Gk Gc O O O) O (JLh (.dptr [G1 b.G9,G1 b.Tier,U8 b.Half]) (Gd Q6 O O O) O (JLh (G1 b.G9) (Gk Gc O O O) O (JLh (BL (decide (a.G9=b.G9))) (Qh O O O) O (JLh (BL (decide (a.G9=b.G9))) (G6 O O) O (Gg (u:=.dptr [G1 a.Tier,U8 a.Half]) [] O O O .sct G (fun hc=>Gd Y9 O O O) ?_)))))))
 refine Gg (u:=G1 a.Tier) [(11,.dptr [G1 a.Tier,U8 a.Half])] O O O .sct ⟨.all id,G⟩ (fun hc=>Gk Gc O O O) ?_
 refine Gg (u:=.dptr [G1 b.Tier,U8 b.Half]) [] O O O .sct G (fun hc=>Gd Y9 O O O) ?_
 refine Gg (u:=G1 b.Tier) [(13,.dptr [G1 b.Tier,U8 b.Half])] O O O .sct ⟨.all id,G⟩ (fun hc=>Gk Gc O O O) ?_
 refine Gg (u:=BL (decide (a.Tier=b.Tier))) [(12,G1 a.Tier),(14,G1 b.Tier)] O O O .sct ⟨.all id,.all id,G⟩ (fun hc=>Qh O O O) ?_
 refine JLh (BL ((decide (a.G9=b.G9))&&(decide (a.Tier=b.Tier)))) (Qc O O O O) O (JLh (BL ((decide (a.G9=b.G9))&&(decide (a.Tier=b.Tier)))) (G6 O O) O (Gg (u:=.dptr [U8 a.Half]) [] O O O .sct G (fun hc=>Gd Y8 O O O) ?_))
 refine Gg (u:=U8 a.Half) [(18,.dptr [U8 a.Half])] O O O .sct ⟨.all id,G⟩ (fun hc=>Gk J7 O O O) ?_
 refine Gg (u:=.dptr [U8 b.Half]) [] O O O .sct G (fun hc=>Gd Y8 O O O) ?_
 refine Gg (u:=U8 b.Half) [(20,.dptr [U8 b.Half])] O O O .sct ⟨.all id,G⟩ (fun hc=>Gk J7 O O O) ?_
 obtain⟨r3,hr3,h⟩:=Gf h
 refine Gg (u:=BL r3) [(19,U8 a.Half),(21,U8 b.Half)] O O O .sct ⟨.all id,.all id,G⟩ (fun hc=>Gy (args:=[U8 a.Half,U8 b.Half]) O (H52 a.Half b.Half r3 (H1 hc hr3)) J5d ⟨O,O,O,O,G⟩) ?_
 refine JLh (BL (((decide (a.G9=b.G9))&&(decide (a.Tier=b.Tier)))&&r3)) (Qc O O O O) O (JLh (BL (((decide (a.G9=b.G9))&&(decide (a.Tier=b.Tier)))&&r3)) (Gb O O) O (G8 (hK2 _ _ (Gx (⟨[BL (((decide (a.G9=b.G9))&&(decide (a.Tier=b.Tier)))&&r3)],[],G,O,⟨⟨_,O,.conv (.same O)⟩,G⟩,O,congrArg (fun r:Bool=>(BL r:AV)) (Option.some.inj h)⟩)))))

def Gad (b:Gr):Option Int:=
 bif b.High then
 (some 2896)
 else
 (some 2591)
theorem M_stow_tall_w (b:Gr) (r:Int) (h:Gad b=some r):Pure Tryz.prog 112 [.agg (Gr.cs b)] (·=G1 r):=by
 unfold Gad at h
 refine H4 [.tmp 2] Tryz.func112 O O (G5 fun K1 hK1=>G3 (JLh (.ptr 1182 0) (Jw (u:=.agg (Gr.cs b)) (cs:=(Gr.cs b)) 1182 O O O O O) O (JLh (G1 0) (Gb O O) O (G8 (hK1 _ _ (Gq [(1,Eh b)] [] 1182 rfl rfl rfl G rfl (by exact⟨.ptr,G⟩) (G5 (fun K2 hK2=>G5 fun K3 hK3=>G3 (JLh (.dptr ((Gr.cs b).drop 3)) (Gd H11 O O O) O (JLh (BL b.High) (Gk Ru O O O) O (G8 (hK3 _ _ (Gn O (fun hb=>?_) (fun hb=>?_))))))))))))))
 ·
  replace h:=H1 hb h
  refine G5 fun K4 hK4=>G3 (JLh (G1 2896) (Gb O O) O (G8 (hK4 _ _ (Gx (⟨[G1 2896],[],G,O,⟨⟨_,O,.conv (.same O)⟩,G⟩,O,congrArg (fun r:Int=>(G1 r:AV)) (Option.some.inj h)⟩)))))
 ·
  replace h:=Hv hb h
  refine Gp (hK2 _ _ (G5 fun K5 hK5=>G3 (JLh (G1 2591) (Gb O O) O (G8 (hK5 _ _ (Gx (⟨[G1 2591],[],G,O,⟨⟨_,O,.conv (.same O)⟩,G⟩,O,congrArg (fun r:Int=>(G1 r:AV)) (Option.some.inj h)⟩)))))))

def G37 (boxes:List Gr) (l:List G7) (column:Int) (half:Int):Option Int:=
 each (fun y27 i27 (s27:Int) nx27=>
  jp (fun kj30=>
   bif ((decide (y27.Slot.G9=column))&&((decide (y27.Slot.Half=half))||(decide (y27.Slot.Half=0)))) then
   (bnd (G76 boxes y27.Gr) fun r34=>
    bif r34.2 then
    (bnd (Gad r34.1) fun r36=>
     Rn (s27+r36) fun v37=>
     kj30 v37)
    else
    (kj30 s27))
   else
   (kj30 s27)) fun(j30:Int)=>
  nx27 j30)
 (fun(s27:Int)=>
  some s27) l 0 0
theorem H51 (boxes:List Gr) (l:List G7) (column:Int) (half:Int) (r:Int) (h:G37 boxes l column half=some r):Pure Tryz.prog 90 [E2 boxes,E0 l,G1 column,U8 half] (·=G1 r):=by
 unfold G37 at h
 refine H4 [.tmp 8] Tryz.func90 O O (G5 fun K1 hK1=>G3 (JLh (G1 0) (Gb O O) O (G8 (hK1 _ _ (G5 fun K2 hK2=>G3 (JLh (G1 0) (Gb O O) O (G8 (hK2 _ _ (G5 (fun K3 hK3=>G5 fun K4 hK4=>G3 (JLh (E0 l) (G6 O O) O (Hp (f:=G7.av) (xs:=l) Hw O O (fun hm15=>?_) O O O))))))))))))
 refine JLh (G1 0) (G6 O O) O (G8 (hK4 _ _ (Gi ?_)))
 obtain⟨b27,kx27,hb27,hkx27,h⟩:=Hy h
 refine Ha (fun i27 (s27:Int)=>each b27 kx27 (List.drop i27 l) i27 s27=some r) (fun i27 s27=>[(0,E2 boxes),(2,G1 column),(3,U8 half),(9,G1 s27),(14,E0 l),(15,Ek l.length),(16,Ek i27)]) (fun i27 s27=>[]) (fun i27=>l.length - i27) 0 0 h ⟨(by repeat' constructor),G,rfl⟩ ?_
 clear h
 intro i27 s27 hi27 K27 e27
 refine G5 fun K28 hK28=>G3 (JLh (BL (decide ((i27:Int) < (l.length:Int)))) (J2 O O O) O (G8 (hK28 _ _ (G5 (fun K29 hK29=>Gn O (fun hb=>?_) (fun hb=>?_))))))
 ·
  have hk27:=Jd hb
  obtain⟨y27,nx27,hy27,hn27,h⟩:=Hr hi27 hk27
  replace h:=Rq hb27 h
  refine Gp (hK29 _ _ ?_)
  obtain⟨kj30,hkj30,h⟩:=Q7 h
  refine Jm (fun j30:Int=>kj30 j30=some r) (fun j30=>[(0,E2 boxes),(2,G1 column),(3,U8 half),(9,G1 j30),(14,E0 l),(15,Ek l.length),(16,Ek i27)]) (fun j30=>[]) (fun Kj30 ej30=>?_) ?_
  ·
   refine Gi (G5 fun K31 hK31=>G3 (JLh (Ef y27) (Gz (f:=G7.av) (xs:=l) (y:=y27) O O O Hw hy27 O) O (JLh (.agg (G7.cs y27)) (Gh R6 O O O) O (JLh (.ptr 1172 0) (Hh 1172 4 Qp O O) O (Hg (u:=.junk) (H5 (u:=.agg (G7.cs y27)) (ds:=[G1 y27.Gr,G1 y27.Slot.G9,G1 y27.Slot.Tier,U8 y27.Slot.Half]) Yj O O O O O O O O) (G8 (hK31 _ _ (Gq [(0,E2 boxes),(2,G1 column),(3,U8 half),(9,G1 s27),(11,Ef y27),(14,E0 l),(15,Ek l.length),(16,Ek i27)] [] 1172 rfl rfl rfl G rfl (by repeat' (first | exact .ptr | constructor)) ?_))))))))
   refine G5 fun K32 hK32=>G3 (JLh (Ei y27.Slot) (Gd Qr O O O) O (JLh (Ei y27.Slot) (Gd Q6 O O O) O (JLh (G1 y27.Slot.G9) (Gk Gc O O O) O (JLh (G1 column) (G6 O O) O (JLh (BL (decide (y27.Slot.G9=column))) (Qh O O O) O (JLh (BL (decide (y27.Slot.G9=column))) (G6 O O) O (Gg (u:=Ei y27.Slot) [] O O O .sct G (fun hc=>Gd Qr O O O) ?_)))))))
   refine Gg (u:=.dptr [U8 y27.Slot.Half]) [(26,Ei y27.Slot)] O O O .sct ⟨.all id,G⟩ (fun hc=>Gd Y8 O O O) ?_
   refine Gg (u:=U8 y27.Slot.Half) [(27,.dptr [U8 y27.Slot.Half])] O O O .sct ⟨.all id,G⟩ (fun hc=>Gk J7 O O O) ?_
   refine Gg (u:=U8 half) [] O O O .sct G (fun hc=>G6 O O) ?_
   refine Gg (u:=BL (decide (y27.Slot.Half=half))) [(28,U8 y27.Slot.Half),(29,U8 half)] O O O .sct ⟨.all id,.all id,G⟩ (fun hc=>Qh O O O) ?_
   refine Gg (u:=BL (decide (y27.Slot.Half=half))) [(30,BL (decide (y27.Slot.Half=half)))] O O O .sct ⟨.all id,G⟩ (fun hc=>G6 O O) ?_
   refine Gg (u:=Ei y27.Slot) [] O O O .optf G (fun hc=>Gd Qr O O O) ?_
   refine Gg (u:=.dptr [U8 y27.Slot.Half]) [(32,Ei y27.Slot)] O O O .optf ⟨.all id,G⟩ (fun hc=>Gd Y8 O O O) ?_
   refine Gg (u:=U8 y27.Slot.Half) [(33,.dptr [U8 y27.Slot.Half])] O O O .optf ⟨.all id,G⟩ (fun hc=>Gk J7 O O O) ?_
   refine Gg (u:=BL (decide (y27.Slot.Half=0))) [(34,U8 y27.Slot.Half)] O O O .optf ⟨.all id,G⟩ (fun hc=>Qh O O O) ?_
   refine Gg (u:=BL ((decide (y27.Slot.Half=half))||(decide (y27.Slot.Half=0)))) [(31,BL (decide (y27.Slot.Half=half))),(35,_)] O O O .sct ⟨.all id,.part,G⟩ (fun hc=>G2a O O O O) ?_
   refine JLh (BL ((decide (y27.Slot.G9=column))&&((decide (y27.Slot.Half=half))||(decide (y27.Slot.Half=0))))) (Qc O O O O) O (G8 (hK32 _ _ (Gn O (fun hb=>?_) (fun hb=>?_))))
   ·
    replace h:=H1 hb h
    refine G5 fun K33 hK33=>G3 (JLh (E2 boxes) (G6 O O) O (JLh (Ef y27) (Gd Jb O O O) O (JLh (G1 y27.Gr) (Gk Gc O O O) O ?_)))
    obtain⟨r34,hr34,h⟩:=Gf h
    refine JLh (.tup [.agg (Gr.cs r34.1),BL r34.2]) (Gy (args:=[E2 boxes,G1 y27.Gr]) O (Ha2 boxes y27.Gr r34 hr34) J63 ⟨O,O,O,O,G⟩) O (JLh (.tup [.agg (Gr.cs r34.1),BL r34.2]) (G6 O O) O (JLh (.agg (Gr.cs r34.1)) (H0 O O O) O (JLh (BL r34.2) (H0 O O O) O (JLh (.ptr 1173 0) (Hh 1173 9 Rg O O) O (Hg (u:=.junk) (H5 (u:=.agg (Gr.cs r34.1)) (ds:=(Gr.cs r34.1)) Z4 O O O O O O O O) (JLh (BL r34.2) (Gb O O) O (G8 (hK33 _ _ ?_))))))))
    refine Gq [(0,E2 boxes),(2,G1 column),(3,U8 half),(9,G1 s27),(12,Eh r34.1),(13,BL r34.2),(14,E0 l),(15,Ek l.length),(16,Ek i27)] [] 1173 rfl rfl rfl G rfl (by repeat' (first | exact .ptr | constructor)) (G5 fun K35 hK35=>G3 (JLh (BL r34.2) (G6 O O) O (G8 (hK35 _ _ (Gn O (fun hb=>?_) (fun hb=>?_))))))
    ·
     replace h:=H1 hb h
     refine G3 (JLh (G1 s27) (G6 O O) O (JLh (.agg (Gr.cs r34.1)) (Gh Z1 O O O) O ?_))
     obtain⟨r36,hr36,h⟩:=Gf h
     refine JLh (G1 r36) (Gy (args:=[.agg (Gr.cs r34.1)]) O (M_stow_tall_w r34.1 r36 hr36) Jd1 ⟨O,O,G⟩) O ?_
     obtain⟨v37,hv37,h⟩:=Hb h
     refine JLh (G1 v37) (Ht hv37 O O O) O (JLh (G1 v37) (Gb O O) O (G8 (ej30 _ _ v37 h ⟨(by repeat' constructor),G,rfl⟩)))
    ·
     replace h:=Hv hb h
     refine Gp (ej30 _ _ s27 h ⟨(by repeat' constructor),G,rfl⟩)
   ·
    replace h:=Hv hb h
    refine Gp (ej30 _ _ s27 h ⟨(by repeat' constructor),G,rfl⟩)
  ·intro j30 h
   replace h:=app1 hkj30 h
   refine G3 (JLh (G1 ((i27+1:Nat):Int)) (Ht (Hn hk27 hm15) O O O) O (JLh (G1 ((i27+1:Nat):Int)) (G6 O O) O (G8 (e27 _ _ (i27+1) j30 (app1 hn27 h) (by omega) ⟨(by repeat' constructor),G,rfl⟩))))
 ·
  have h:=app1 hkx27 (Hs hi27 (H9 hb))
  refine Hi (hK3 _ _ (G5 fun K38 hK38=>G3 (JLh (G1 s27) (G6 O O) O (JLh (G1 s27) (Gb O O) O (G8 (hK38 _ _ (Gx (⟨[G1 s27],[],G,O,⟨⟨_,O,.conv (.same O)⟩,G⟩,O,congrArg (fun r:Int=>(G1 r:AV)) (Option.some.inj h)⟩))))))))

def Gae (s:Hc) (boxes:List Gr) (l:List G7) (column:Int):Option Bool:=
 Rm s.Columns column fun y3=>
 bnd (bif (!(decide (y3.Height≤0))) then G37 boxes l column 1 else some default) fun r6=>
 bnd (bif ((!(decide (y3.Height≤0)))&&(decide (r6≤y3.Height))) then G37 boxes l column 2 else some default) fun r7=>
 some ((decide (y3.Height≤0))||((decide (r6≤y3.Height))&&(decide (r7≤y3.Height))))
theorem M_stow_fits_w (s:Hc) (boxes:List Gr) (l:List G7) (column:Int) (r:Bool) (h:Gae s boxes l column=some r):Pure Tryz.prog 62 [.agg (Hc.cs s),E2 boxes,E0 l,G1 column] (·=BL r):=by
 unfold Gae at h
 refine H4 [.tmp 8] Tryz.func62 O O (G5 fun K1 hK1=>G3 (JLh (.ptr 1153 0) (Jw (u:=.agg (Hc.cs s)) (cs:=(Hc.cs s)) 1153 O O O O O) O (JLh (BL false) (Gb O O) O (G8 (hK1 _ _ ?_)))))
 refine Gq [(1,E2 boxes),(2,E0 l),(3,G1 column),(4,Ee s)] [] 1153 rfl rfl rfl G rfl (by repeat' (first | exact .ptr | constructor)) ?_
 refine G5 fun K2 hK2=>G3 (JLh (Ee s) (Gd J0 O O O) O (JLh (E5 s.Columns) (Gk J8 O O O) O (JLh (G1 column) (G6 O O) O ?_)))
 obtain⟨m4,y3,hm4,hy3,h⟩:=Qk h
 refine JLh (Ej y3) (Gz (f:=G9.av) (xs:=s.Columns) (y:=y3) O O O J3 hy3 hm4) O (JLh (.dptr ((G9.cs y3).drop 4)) (Gd Ha0 O O O) O (JLh (G1 y3.Height) (Gk Gc O O O) O (JLh (G1 y3.Height) (Gb O O) O (G8 (hK2 _ _ (G5 fun K5 hK5=>G3 (JLh (G1 y3.Height) (G6 O O) O (JLh (BL (decide (y3.Height≤0))) (Gc4 O O O) O (JLh (BL (decide (y3.Height≤0))) (G6 O O) O (Gg (u:=E2 boxes) [] O O O .scf G (fun hc=>G6 O O) ?_))))))))))
 refine Gg (u:=E0 l) [] O O O .scf G (fun hc=>G6 O O) ?_
 refine Gg (u:=G1 column) [] O O O .scf G (fun hc=>G6 O O) ?_
 obtain⟨r6,hr6,h⟩:=Gf h
 refine Gg (u:=G1 r6) [(19,E2 boxes),(20,E0 l),(21,G1 column)] O O O .scf ⟨.all id,.all id,.all id,G⟩ (fun hc=>Gy (args:=[E2 boxes,E0 l,G1 column,U8 1]) O (H51 boxes l column 1 r6 (H1 hc hr6)) J5c ⟨O,O,O,O,O,O,O,O,G⟩) ?_
 refine Gg (u:=G1 y3.Height) [] O O O .scf G (fun hc=>G6 O O) ?_
 refine Gg (u:=BL (decide (r6≤y3.Height))) [(22,G1 r6),(23,G1 y3.Height)] O O O .scf ⟨.all id,.all id,G⟩ (fun hc=>Gc4 O O O) ?_
 refine Gg (u:=BL (decide (r6≤y3.Height))) [(24,BL (decide (r6≤y3.Height)))] O O O .scf ⟨.all id,G⟩ (fun hc=>G6 O O) ?_
 refine Gg (u:=E2 boxes) [] O O O .optt G (fun hc=>G6 O O) ?_
 refine Gg (u:=E0 l) [] O O O .optt G (fun hc=>G6 O O) ?_
 refine Gg (u:=G1 column) [] O O O .optt G (fun hc=>G6 O O) ?_
 obtain⟨r7,hr7,h⟩:=Gf h
 refine Gg (u:=G1 r7) [(26,E2 boxes),(27,E0 l),(28,G1 column)] O O O .optt ⟨.all id,.all id,.all id,G⟩ (fun hc=>Gy (args:=[E2 boxes,E0 l,G1 column,U8 2]) O (H51 boxes l column 2 r7 (H1 hc hr7)) J5c ⟨O,O,O,O,O,O,O,O,G⟩) ?_
 refine Gg (u:=G1 y3.Height) [] O O O .optt G (fun hc=>G6 O O) ?_
 refine Gg (u:=BL (decide (r7≤y3.Height))) [(29,G1 r7),(30,G1 y3.Height)] O O O .optt ⟨.all id,.all id,G⟩ (fun hc=>Gc4 O O O) ?_
 refine Gg (u:=BL ((decide (r6≤y3.Height))&&(decide (r7≤y3.Height)))) [(25,BL (decide (r6≤y3.Height))),(31,_)] O O O .scf ⟨.all id,.part,G⟩ (fun hc=>Qc O O O O) ?_
 refine JLh (BL ((decide (y3.Height≤0))||((decide (r6≤y3.Height))&&(decide (r7≤y3.Height))))) (G2a O O O O) O (JLh (BL ((decide (y3.Height≤0))||((decide (r6≤y3.Height))&&(decide (r7≤y3.Height))))) (Gb O O) O (G8 (hK5 _ _ (Gx (⟨[BL ((decide (y3.Height≤0))||((decide (r6≤y3.Height))&&(decide (r7≤y3.Height))))],[],G,O,⟨⟨_,O,.conv (.same O)⟩,G⟩,O,congrArg (fun r:Bool=>(BL r:AV)) (Option.some.inj h)⟩)))))

def G07 (s:Hc) (boxes:List Gr) (l:List G7):Option Bool:=
 bnd (Ya s) fun r4=>
 bif (!r4) then
 (some false)
 else
 (bnd (G85 l) fun r7=>
  each (fun y10 i10 (s10:Unit) nx10=>
   bnd (G76 boxes y10.Gr) fun r16=>
   bnd (bif ((!(!r16.2))&&(decide (0 < (i10:Int)))) then Rn ((i10:Int) - 1) some else some 0) fun v19=>
   bnd (bif ((!(!r16.2))&&(decide (0 < (i10:Int)))) then Rm l v19 some else some default) fun y20=>
   bnd (bif (!((!r16.2)||((decide (0 < (i10:Int)))&&(decide (y10.Gr≤y20.Gr))))) then G87 s y10.Slot r16.1.Size else some default) fun r21=>
   bnd (bif (!(((!r16.2)||((decide (0 < (i10:Int)))&&(decide (y10.Gr≤y20.Gr))))||(!r21))) then Gb1 y10.Slot r7 else some default) fun r22=>
   bif ((((!r16.2)||((decide (0 < (i10:Int)))&&(decide (y10.Gr≤y20.Gr))))||(!r21))||(!r22)) then
   (some false)
   else
   (bnd (Ga8 (i10:Int) r7.length) fun m25=>
    each (fun y42 i42 (s42:Unit) nx42=>
     bnd (Gb0 y10.Slot y42) fun r48=>
     bif r48 then
     (some false)
     else
     (nx42 ()))
    (fun(s42:Unit)=>
     nx10 ()) (r7.take m25) 0 ()))
  (fun(s10:Unit)=>
   each (fun y64 i64 (s64:Unit) nx64=>
    bnd (Gae s boxes l (i64:Int)) fun r70=>
    bif (!r70) then
    (some false)
    else
    (nx64 ()))
   (fun(s64:Unit)=>
    some true) s.Columns 0 ()) l 0 ())
theorem Ge8 (s:Hc) (boxes:List Gr) (l:List G7) (r:Bool) (h:G07 s boxes l=some r):Pure Tryz.prog 32 [.agg (Hc.cs s),E2 boxes,E0 l] (·=BL r):=by
 unfold G07 at h
 refine H4 [.tmp 6] Tryz.func32 O O (G5 fun K1 hK1=>G3 (JLh (.ptr 1095 0) (Jw (u:=.agg (Hc.cs s)) (cs:=(Hc.cs s)) 1095 O O O O O) O (JLh (BL false) (Gb O O) O (G8 (hK1 _ _ ?_)))))
 refine Gq [(1,E2 boxes),(2,E0 l),(3,Ee s)] [] 1095 rfl rfl rfl G rfl (by exact⟨.conv (.same rfl),.conv (.same rfl),.ptr,G⟩) (G5 (fun K2 hK2=>G5 fun K3 hK3=>G3 (JLh (.agg (Hc.cs s)) (Gh J5 O O O) O ?_)))
 obtain⟨r4,hr4,h⟩:=Gf h
 refine JLh (BL r4) (Gy (args:=[.agg (Hc.cs s)]) O (G84.down s r4 hr4) H34 ⟨O,O,G⟩) O (JLh (BL (!r4)) (Zy (b:=r4) O O) O (G8 (hK3 _ _ (Gn O (fun hb=>?_) (fun hb=>?_)))))
 ·
  replace h:=H1 hb h
  refine G5 fun K5 hK5=>G3 (JLh (BL false) (Gb O O) O (G8 (hK5 _ _ (Gx (⟨[BL false],[],G,O,⟨⟨_,O,.conv (.same O)⟩,G⟩,O,congrArg (fun r:Bool=>(BL r:AV)) (Option.some.inj h)⟩)))))
 ·
  replace h:=Hv hb h
  refine Gp (hK2 _ _ (G5 fun K6 hK6=>G3 (JLh (E0 l) (G6 O O) O ?_)))
  obtain⟨r7,hr7,h⟩:=Gf h
  refine JLh (E6 r7) (Gy (args:=[E0 l]) O (J95 l r7 hr7) Jfe ⟨O,O,G⟩) O (JLh (E6 r7) (Gb O O) O (G8 (hK6 _ _ (G5 (fun K8 hK8=>G5 fun K9 hK9=>G3 (JLh (E0 l) (G6 O O) O (Hp (f:=G7.av) (xs:=l) Hw O O (fun hm21=>?_) O O O)))))))
  refine JLh (G1 0) (G6 O O) O (G8 (hK9 _ _ (Gi ?_)))
  obtain⟨b10,kx10,hb10,hkx10,h⟩:=Hy h
  refine Ha (fun i10 (s10:Unit)=>each b10 kx10 (List.drop i10 l) i10 s10=some r) (fun i10 s10=>[(1,E2 boxes),(2,E0 l),(3,Ee s),(7,E6 r7),(20,E0 l),(21,Ek l.length),(22,Ek i10)]) (fun i10 s10=>[]) (fun i10=>l.length - i10) 0 () h ⟨(by repeat' constructor),G,rfl⟩ ?_
  clear h
  intro i10 s10 hi10 K10 e10
  refine G5 fun K11 hK11=>G3 (JLh (BL (decide ((i10:Int) < (l.length:Int)))) (J2 O O O) O (G8 (hK11 _ _ (G5 (fun K12 hK12=>Gn O (fun hb=>?_) (fun hb=>?_))))))
  ·
   have hk10:=Jd hb
   obtain⟨y10,nx10,hy10,hn10,h⟩:=Hr hi10 hk10
   replace h:=Rq hb10 h
   refine Gp (hK12 _ _ (G5 (fun K13 hK13=>Gi (G5 fun K14 hK14=>G3 (JLh (Ek i10) (G6 O O) O (JLh (Ef y10) (Gz (f:=G7.av) (xs:=l) (y:=y10) O O O Hw hy10 O) O (JLh (.agg (G7.cs y10)) (Gh R6 O O O) O (JLh (.ptr 1096 0) (Hh 1096 4 Qp O O) O (JLh (Ek i10) (Gb O O) O (Hg (u:=.junk) (H5 (u:=.agg (G7.cs y10)) (ds:=[G1 y10.Gr,G1 y10.Slot.G9,G1 y10.Slot.Tier,U8 y10.Slot.Half]) Yj O O O O O O O O) (G8 (hK14 _ _ ?_))))))))))))
   refine Gq [(1,E2 boxes),(2,E0 l),(3,Ee s),(7,E6 r7),(8,Ek i10),(9,Ef y10),(20,E0 l),(21,Ek l.length),(22,Ek i10)] [] 1096 rfl rfl rfl G rfl (by repeat' (first | exact .ptr | constructor)) (G5 fun K15 hK15=>G3 (JLh (E2 boxes) (G6 O O) O (JLh (Ef y10) (Gd Jb O O O) O (JLh (G1 y10.Gr) (Gk Gc O O O) O ?_))))
   obtain⟨r16,hr16,h⟩:=Gf h
   refine JLh (.tup [.agg (Gr.cs r16.1),BL r16.2]) (Gy (args:=[E2 boxes,G1 y10.Gr]) O (Ha2 boxes y10.Gr r16 hr16) J63 ⟨O,O,O,O,G⟩) O (JLh (.tup [.agg (Gr.cs r16.1),BL r16.2]) (G6 O O) O (JLh (.agg (Gr.cs r16.1)) (H0 O O O) O (JLh (BL r16.2) (H0 O O O) O (JLh (.ptr 1097 0) (Hh 1097 9 Rg O O) O (Hg (u:=.junk) (H5 (u:=.agg (Gr.cs r16.1)) (ds:=(Gr.cs r16.1)) Z4 O O O O O O O O) (JLh (BL r16.2) (Gb O O) O (G8 (hK15 _ _ ?_))))))))
   refine Gq [(1,E2 boxes),(2,E0 l),(3,Ee s),(7,E6 r7),(8,Ek i10),(9,Ef y10),(10,Eh r16.1),(11,BL r16.2),(20,E0 l),(21,Ek l.length),(22,Ek i10)] [] 1097 rfl rfl rfl G rfl (by repeat' (first | exact .ptr | constructor)) (G5 (fun K17 hK17=>G5 (fun K18 hK18=>?_)))
   obtain⟨v19,hv19,h⟩:=Gf h
   obtain⟨y20,hy20,h⟩:=Gf h
   obtain⟨r21,hr21,h⟩:=Gf h
   obtain⟨r22,hr22,h⟩:=Gf h
   refine Qt [] [0,0,0,0,0,0,0,0,0,0,0,0,0,0,0,0,0,0,0,0,0,0,0,0,0,0,0,0,0,0,0,0,0] [0,0,0,0,0,0,0,0,0,0,0,0,0,0,0,0,0,0,0,0,0,0,0,0,0,0,0,0,0,0,0,0,0] [[]] Jr (by kernel_rfl) rfl rfl ?_
   refine Gm (u:=BL r16.2) O O ⟨Gs (G6 O O) O,G⟩ (Gm (u:=BL (!r16.2)) O O ⟨Gs (Zy (b:=r16.2) O O) O,G⟩ (Gm (u:=BL (!r16.2)) O O ⟨Gs (G6 O O) O,G⟩ (Gm (u:=.opt (!(!r16.2)) (Ek i10)) O O ⟨He [] O O O .scf G (fun hc=>G6 O O) O,G⟩ (Gm (u:=.opt (!(!r16.2)) (BL (decide (0 < (i10:Int))))) O O ⟨He [(37,Ek i10)] O O O .scf ⟨.all id,G⟩ (fun hc=>Zj O O O) O,G⟩ (Gm (u:=.opt (!(!r16.2)) (BL (decide (0 < (i10:Int))))) O O ⟨He [(38,BL (decide (0 < (i10:Int))))] O O O .scf ⟨.all id,G⟩ (fun hc=>G6 O O) O,G⟩ (Gm (u:=.opt ((!(!r16.2))&&(decide (0 < (i10:Int)))) (Ef y10)) O O ⟨He [] O O O .optt G (fun hc=>Gd Jb O O O) O,G⟩ (Gm (u:=.opt ((!(!r16.2))&&(decide (0 < (i10:Int)))) (G1 y10.Gr)) O O ⟨He [(40,Ef y10)] O O O .optt ⟨.all id,G⟩ (fun hc=>Gk Gc O O O) O,G⟩ (Gm (u:=.opt ((!(!r16.2))&&(decide (0 < (i10:Int)))) (E0 l)) O O ⟨He [] O O O .optt G (fun hc=>G6 O O) O,G⟩ (Gm (u:=.opt ((!(!r16.2))&&(decide (0 < (i10:Int)))) (Ek i10)) O O ⟨He [] O O O .optt G (fun hc=>G6 O O) O,G⟩ (Gm (u:=.opt ((!(!r16.2))&&(decide (0 < (i10:Int)))) (G1 v19)) O O ⟨He [(43,Ek i10)] O O O .optt ⟨.all id,G⟩ (fun hc=>G18 (H68 (H1 hc hv19)) O O O) O,G⟩ (Gm (u:=.opt ((!(!r16.2))&&(decide (0 < (i10:Int)))) (Ef y20)) O O ⟨He [(42,E0 l),(44,G1 v19)] O O O .optt ⟨.all id,.all id,G⟩ (fun hc=>(match Yi (H1 hc hy20) with | ⟨_,hm_,hy_⟩=>Gz (f:=G7.av) (xs:=l) (y:=y20) O O O Hw hy_ hm_)) O,G⟩ (Gm (u:=.opt ((!(!r16.2))&&(decide (0 < (i10:Int)))) (Ef y20)) O O ⟨He [(45,Ef y20)] O O O .optt ⟨.all id,G⟩ (fun hc=>Gd Jb O O O) O,G⟩ (Gm (u:=.opt ((!(!r16.2))&&(decide (0 < (i10:Int)))) (G1 y20.Gr)) O O ⟨He [(46,Ef y20)] O O O .optt ⟨.all id,G⟩ (fun hc=>Gk Gc O O O) O,G⟩ ?_)))))))))))))
   refine Gm (u:=.opt ((!(!r16.2))&&(decide (0 < (i10:Int)))) (BL (decide (y10.Gr≤y20.Gr)))) O O ⟨He [(41,G1 y10.Gr),(47,G1 y20.Gr)] O O O .optt ⟨.all id,.all id,G⟩ (fun hc=>Gc4 O O O) O,G⟩ (Gm (u:=.opt (!(!r16.2)) (BL ((decide (0 < (i10:Int)))&&(decide (y10.Gr≤y20.Gr))))) O O ⟨He [(39,BL (decide (0 < (i10:Int)))),(48,_)] O O O .scf ⟨.all id,.part,G⟩ (fun hc=>Qc O O O O) O,G⟩ (Gm (u:=BL ((!r16.2)||((decide (0 < (i10:Int)))&&(decide (y10.Gr≤y20.Gr))))) O O ⟨Gs (G2a O O O O) O,G⟩ (Gm (u:=BL ((!r16.2)||((decide (0 < (i10:Int)))&&(decide (y10.Gr≤y20.Gr))))) O O ⟨Gs (G6 O O) O,G⟩ (Gm (u:=.opt (!((!r16.2)||((decide (0 < (i10:Int)))&&(decide (y10.Gr≤y20.Gr))))) (.agg (Hc.cs s))) O O ⟨He [] O O O .scf G (fun hc=>Gh J5 O O O) O,G⟩ (Gm (u:=.opt (!((!r16.2)||((decide (0 < (i10:Int)))&&(decide (y10.Gr≤y20.Gr))))) (Ei y10.Slot)) O O ⟨He [] O O O .scf G (fun hc=>Gd Qr O O O) O,G⟩ (Gm (u:=.opt (!((!r16.2)||((decide (0 < (i10:Int)))&&(decide (y10.Gr≤y20.Gr))))) (.agg (Slot.cs y10.Slot))) O O ⟨He [(53,Ei y10.Slot)] O O O .scf ⟨.all id,G⟩ (fun hc=>Gh Q2 O O O) O,G⟩ (Gm (u:=.opt (!((!r16.2)||((decide (0 < (i10:Int)))&&(decide (y10.Gr≤y20.Gr))))) (.dptr ((Gr.cs r16.1).drop 2))) O O ⟨He [] O O O .scf G (fun hc=>Gd G0d O O O) O,G⟩ (Gm (u:=.opt (!((!r16.2)||((decide (0 < (i10:Int)))&&(decide (y10.Gr≤y20.Gr))))) (U8 r16.1.Size)) O O ⟨He [(55,.dptr ((Gr.cs r16.1).drop 2))] O O O .scf ⟨.all id,G⟩ (fun hc=>Gk J7 O O O) O,G⟩ (Gm (u:=.opt (!((!r16.2)||((decide (0 < (i10:Int)))&&(decide (y10.Gr≤y20.Gr))))) (BL r21)) O O ⟨He [(52,.agg (Hc.cs s)),(54,.agg (Slot.cs y10.Slot)),(56,U8 r16.1.Size)] O O O .scf ⟨.all id,.all id,.all id,G⟩ (fun hc=>Gy (args:=[.agg (Hc.cs s),.agg (Slot.cs y10.Slot),U8 r16.1.Size]) O (J97 s y10.Slot r16.1.Size r21 (H1 hc hr21)) Jfd ⟨O,O,O,O,O,O,G⟩) O,G⟩ (Gm (u:=.opt (!((!r16.2)||((decide (0 < (i10:Int)))&&(decide (y10.Gr≤y20.Gr))))) (BL (!r21))) O O ⟨He [(57,BL r21)] O O O .scf ⟨.all id,G⟩ (fun hc=>Zy (b:=r21) O O) O,G⟩ (Gm (u:=BL (((!r16.2)||((decide (0 < (i10:Int)))&&(decide (y10.Gr≤y20.Gr))))||(!r21))) O O ⟨Gs (G2a O O O O) O,G⟩ (Gm (u:=BL (((!r16.2)||((decide (0 < (i10:Int)))&&(decide (y10.Gr≤y20.Gr))))||(!r21))) O O ⟨Gs (G6 O O) O,G⟩ (Gm (u:=.opt (!(((!r16.2)||((decide (0 < (i10:Int)))&&(decide (y10.Gr≤y20.Gr))))||(!r21))) (Ei y10.Slot)) O O ⟨He [] O O O .scf G (fun hc=>Gd Qr O O O) O,G⟩ ?_)))))))))))))
   refine Gm (u:=.opt (!(((!r16.2)||((decide (0 < (i10:Int)))&&(decide (y10.Gr≤y20.Gr))))||(!r21))) (.agg (Slot.cs y10.Slot))) O O ⟨He [(61,Ei y10.Slot)] O O O .scf ⟨.all id,G⟩ (fun hc=>Gh Q2 O O O) O,G⟩ (Gm (u:=.opt (!(((!r16.2)||((decide (0 < (i10:Int)))&&(decide (y10.Gr≤y20.Gr))))||(!r21))) (E6 r7)) O O ⟨He [] O O O .scf G (fun hc=>G6 O O) O,G⟩ (Gm (u:=.opt (!(((!r16.2)||((decide (0 < (i10:Int)))&&(decide (y10.Gr≤y20.Gr))))||(!r21))) (BL r22)) O O ⟨He [(62,.agg (Slot.cs y10.Slot)),(63,E6 r7)] O O O .scf ⟨.all id,.all id,G⟩ (fun hc=>Gy (args:=[.agg (Slot.cs y10.Slot),E6 r7]) O (M_slot_Held_w y10.Slot r7 r22 (H1 hc hr22)) Jfc ⟨O,O,O,O,G⟩) O,G⟩ (Gm (u:=.opt (!(((!r16.2)||((decide (0 < (i10:Int)))&&(decide (y10.Gr≤y20.Gr))))||(!r21))) (BL (!r22))) O O ⟨He [(64,BL r22)] O O O .scf ⟨.all id,G⟩ (fun hc=>Zy (b:=r22) O O) O,G⟩ (Gm (u:=BL ((((!r16.2)||((decide (0 < (i10:Int)))&&(decide (y10.Gr≤y20.Gr))))||(!r21))||(!r22))) O O ⟨Gs (G2a O O O O) O,G⟩ (Zu ?_)))))
   refine hK18 _ _ (Gn O (fun hb=>?_) (fun hb=>?_))
   ·
    replace h:=H1 hb h
    refine G5 fun K23 hK23=>G3 (JLh (BL false) (Gb O O) O (G8 (hK23 _ _ (Gx (⟨[BL false],[],G,O,⟨⟨_,O,.conv (.same O)⟩,G⟩,O,congrArg (fun r:Bool=>(BL r:AV)) (Option.some.inj h)⟩)))))
   ·
    replace h:=Hv hb h
    refine Gp (hK17 _ _ (G5 fun K24 hK24=>G3 (JLh (E6 r7) (G6 O O) O (JLh (Ek i10) (G6 O O) O ?_))))
    obtain⟨m25,hm25,h⟩:=Gf h
    refine JLh (E6 (r7.take m25)) (H4c (f:=Slot.av) (xs:=r7) O O O Y7 (Yo hm25)) O (Hp (f:=Slot.av) (xs:=(r7.take m25)) Y7 O O (fun hm70=>?_) O O O)
    refine JLh (G1 0) (G6 O O) O (G8 (hK24 _ _ (Gi ?_)))
    obtain⟨b42,kx42,hb42,hkx42,h⟩:=Hy h
    refine Ha (fun i42 (s42:Unit)=>each b42 kx42 (List.drop i42 (r7.take m25)) i42 s42=some r) (fun i42 s42=>[(1,E2 boxes),(2,E0 l),(3,Ee s),(7,E6 r7),(9,Ef y10),(20,E0 l),(21,Ek l.length),(22,Ek i10),(69,E6 (r7.take m25)),(70,G1 ((r7.take m25).length:Int)),(71,Ek i42)]) (fun i42 s42=>[]) (fun i42=>(r7.take m25).length - i42) 0 () h ⟨(by repeat' constructor),G,rfl⟩ ?_
    clear h
    intro i42 s42 hi42 K42 e42
    refine G5 fun K43 hK43=>G3 (JLh (BL (decide ((i42:Int) < ((r7.take m25).length:Int)))) (J2 O O O) O (G8 (hK43 _ _ (G5 (fun K44 hK44=>Gn O (fun hb=>?_) (fun hb=>?_))))))
    ·
     have hk42:=Jd hb
     obtain⟨y42,nx42,hy42,hn42,h⟩:=Hr hi42 hk42
     replace h:=Rq hb42 h
     refine Gp (hK44 _ _ (G5 (fun K45 hK45=>Gi (G5 fun K46 hK46=>G3 (JLh (Ei y42) (Gz (f:=Slot.av) (xs:=(r7.take m25)) (y:=y42) O O O Y7 hy42 O) O (JLh (.agg (Slot.cs y42)) (Gh Q2 O O O) O (JLh (.ptr 1098 0) (Hh 1098 3 Rb O O) O (Hg (u:=.junk) (H5 (u:=.agg (Slot.cs y42)) (ds:=[G1 y42.G9,G1 y42.Tier,U8 y42.Half]) Rt O O O O O O O O) (G8 (hK46 _ _ ?_))))))))))
     refine Gq [(1,E2 boxes),(2,E0 l),(3,Ee s),(7,E6 r7),(9,Ef y10),(13,Ei y42),(20,E0 l),(21,Ek l.length),(22,Ek i10),(69,E6 (r7.take m25)),(70,G1 ((r7.take m25).length:Int)),(71,Ek i42)] [] 1098 rfl rfl rfl G rfl (by repeat' (first | exact .ptr | constructor)) ?_
     refine G5 fun K47 hK47=>G3 (JLh (Ei y10.Slot) (Gd Qr O O O) O (JLh (.agg (Slot.cs y10.Slot)) (Gh Q2 O O O) O (JLh (.agg (Slot.cs y42)) (Gh Q2 O O O) O ?_)))
     obtain⟨r48,hr48,h⟩:=Gf h
     refine JLh (BL r48) (Gy (args:=[.agg (Slot.cs y10.Slot),.agg (Slot.cs y42)]) O (M_slot_Meet_w y10.Slot y42 r48 hr48) Jfb ⟨O,O,O,O,G⟩) O (G8 (hK47 _ _ (Gn O (fun hb=>?_) (fun hb=>?_))))
     ·
      replace h:=H1 hb h
      refine G5 fun K49 hK49=>G3 (JLh (BL false) (Gb O O) O (G8 (hK49 _ _ (Gx (⟨[BL false],[],G,O,⟨⟨_,O,.conv (.same O)⟩,G⟩,O,congrArg (fun r:Bool=>(BL r:AV)) (Option.some.inj h)⟩)))))
     ·
      replace h:=Hv hb h
      refine Gp (hK45 _ _ (G3 (JLh (G1 ((i42+1:Nat):Int)) (Ht (Hn hk42 hm70) O O O) O (JLh (G1 ((i42+1:Nat):Int)) (G6 O O) O (G8 (e42 _ _ (i42+1) () (app1 hn42 h) (by omega) ⟨(by repeat' constructor),G,rfl⟩))))))
    ·
     have h:=app1 hkx42 (Hs hi42 (H9 hb))
     refine Hi (hK13 _ _ (G3 (JLh (G1 ((i10+1:Nat):Int)) (Ht (Hn hk10 hm21) O O O) O (JLh (G1 ((i10+1:Nat):Int)) (G6 O O) O (G8 (e10 _ _ (i10+1) () (app1 hn10 h) (by omega) ⟨(by repeat' constructor),G,rfl⟩))))))
  ·
   have h:=app1 hkx10 (Hs hi10 (H9 hb))
   refine Hi (hK8 _ _ (G5 (fun K50 hK50=>G5 fun K51 hK51=>G3 (JLh (Ee s) (Gd J0 O O O) O (JLh (E5 s.Columns) (Gk J8 O O O) O (Hp (f:=G9.av) (xs:=s.Columns) J3 O O (fun hm83=>?_) O O O))))))
   refine JLh (G1 0) (G6 O O) O (G8 (hK51 _ _ (Gi ?_)))
   obtain⟨b64,kx64,hb64,hkx64,h⟩:=Hy h
   refine Ha (fun i64 (s64:Unit)=>each b64 kx64 (List.drop i64 s.Columns) i64 s64=some r) (fun i64 s64=>[(1,E2 boxes),(2,E0 l),(3,Ee s),(83,Ek s.Columns.length),(84,Ek i64)]) (fun i64 s64=>[]) (fun i64=>s.Columns.length - i64) 0 () h ⟨(by repeat' constructor),G,rfl⟩ ?_
   clear h
   intro i64 s64 hi64 K64 e64
   refine G5 fun K65 hK65=>G3 (JLh (BL (decide ((i64:Int) < (s.Columns.length:Int)))) (J2 O O O) O (G8 (hK65 _ _ (G5 (fun K66 hK66=>Gn O (fun hb=>?_) (fun hb=>?_))))))
   ·
    have hk64:=Jd hb
    obtain⟨y64,nx64,hy64,hn64,h⟩:=Hr hi64 hk64
    replace h:=Rq hb64 h
    refine Gp (hK66 _ _ (G5 (fun K67 hK67=>Gi (G5 fun K68 hK68=>G3 (JLh (Ek i64) (G6 O O) O (JLh (Ek i64) (Gb O O) O (G8 (hK68 _ _ (G5 fun K69 hK69=>G3 (JLh (.agg (Hc.cs s)) (Gh J5 O O O) O (JLh (E2 boxes) (G6 O O) O (JLh (E0 l) (G6 O O) O (JLh (Ek i64) (G6 O O) O ?_)))))))))))))
    obtain⟨r70,hr70,h⟩:=Gf h
    refine JLh (BL r70) (Gy (args:=[.agg (Hc.cs s),E2 boxes,E0 l,Ek i64]) O (M_stow_fits_w s boxes l (i64:Int) r70 hr70) Jfa ⟨O,O,O,O,O,O,O,O,G⟩) O (JLh (BL (!r70)) (Zy (b:=r70) O O) O (G8 (hK69 _ _ (Gn O (fun hb=>?_) (fun hb=>?_)))))
    ·
     replace h:=H1 hb h
     refine G5 fun K71 hK71=>G3 (JLh (BL false) (Gb O O) O (G8 (hK71 _ _ (Gx (⟨[BL false],[],G,O,⟨⟨_,O,.conv (.same O)⟩,G⟩,O,congrArg (fun r:Bool=>(BL r:AV)) (Option.some.inj h)⟩)))))
    ·
     replace h:=Hv hb h
     refine Gp (hK67 _ _ (G3 (JLh (G1 ((i64+1:Nat):Int)) (Ht (Hn hk64 hm83) O O O) O (JLh (G1 ((i64+1:Nat):Int)) (G6 O O) O (G8 (e64 _ _ (i64+1) () (app1 hn64 h) (by omega) ⟨(by repeat' constructor),G,rfl⟩))))))
   ·
    have h:=app1 hkx64 (Hs hi64 (H9 hb))
    refine Hi (hK50 _ _ (G5 fun K72 hK72=>G3 (JLh (BL true) (Gb O O) O (G8 (hK72 _ _ (Gx (⟨[BL true],[],G,O,⟨⟨_,O,.conv (.same O)⟩,G⟩,O,congrArg (fun r:Bool=>(BL r:AV)) (Option.some.inj h)⟩)))))))

def M_twistlocklaw23_holds (l:List G7) (id_:Int):Option Bool:=
 each (fun y18 i18 (s18:Unit) nx18=>
  bif decide (y18.Gr=id_) then
  (some true)
  else
  (nx18 ()))
 (fun(s18:Unit)=>
  some false) l 0 ()
theorem H14 (l:List G7) (id_:Int) (r:Bool) (h:M_twistlocklaw23_holds l id_=some r):Pure Tryz.prog 33 [E0 l,G1 id_] (·=BL r):=by
 unfold M_twistlocklaw23_holds at h
 refine H4 [.tmp 4] Tryz.func33 O O (G5 fun K1 hK1=>G3 (JLh (BL false) (Gb O O) O (G8 (hK1 _ _ (G5 (fun K2 hK2=>G5 fun K3 hK3=>G3 (JLh (E0 l) (G6 O O) O (Hp (f:=G7.av) (xs:=l) Hw O O (fun hm8=>?_) O O O))))))))
 refine JLh (G1 0) (G6 O O) O (G8 (hK3 _ _ (Gi ?_)))
 obtain⟨b18,kx18,hb18,hkx18,h⟩:=Hy h
 refine Ha (fun i18 (s18:Unit)=>each b18 kx18 (List.drop i18 l) i18 s18=some r) (fun i18 s18=>[(1,G1 id_),(7,E0 l),(8,Ek l.length),(9,Ek i18)]) (fun i18 s18=>[]) (fun i18=>l.length - i18) 0 () h ⟨(by repeat' constructor),G,rfl⟩ ?_
 clear h
 intro i18 s18 hi18 K18 e18
 refine G5 fun K19 hK19=>G3 (JLh (BL (decide ((i18:Int) < (l.length:Int)))) (J2 O O O) O (G8 (hK19 _ _ (G5 (fun K20 hK20=>Gn O (fun hb=>?_) (fun hb=>?_))))))
 ·
  have hk18:=Jd hb
  obtain⟨y18,nx18,hy18,hn18,h⟩:=Hr hi18 hk18
  replace h:=Rq hb18 h
  refine Gp (hK20 _ _ (G5 (fun K21 hK21=>Gi (G5 fun K22 hK22=>G3 (JLh (Ef y18) (Gz (f:=G7.av) (xs:=l) (y:=y18) O O O Hw hy18 O) O (JLh (.agg (G7.cs y18)) (Gh R6 O O O) O (JLh (.ptr 1099 0) (Hh 1099 4 Qp O O) O (Hg (u:=.junk) (H5 (u:=.agg (G7.cs y18)) (ds:=[G1 y18.Gr,G1 y18.Slot.G9,G1 y18.Slot.Tier,U8 y18.Slot.Half]) Yj O O O O O O O O) (G8 (hK22 _ _ (Gq [(1,G1 id_),(6,Ef y18),(7,E0 l),(8,Ek l.length),(9,Ek i18)] [] 1099 rfl rfl rfl G rfl (by repeat' (first | exact .ptr | constructor)) ?_)))))))))))
  refine G5 fun K23 hK23=>G3 (JLh (Ef y18) (Gd Jb O O O) O (JLh (G1 y18.Gr) (Gk Gc O O O) O (JLh (G1 id_) (G6 O O) O (JLh (BL (decide (y18.Gr=id_))) (Qh O O O) O (G8 (hK23 _ _ (Gn O (fun hb=>?_) (fun hb=>?_))))))))
  ·
   replace h:=H1 hb h
   refine G5 fun K24 hK24=>G3 (JLh (BL true) (Gb O O) O (G8 (hK24 _ _ (Gx (⟨[BL true],[],G,O,⟨⟨_,O,.conv (.same O)⟩,G⟩,O,congrArg (fun r:Bool=>(BL r:AV)) (Option.some.inj h)⟩)))))
  ·
   replace h:=Hv hb h
   refine Gp (hK21 _ _ (G3 (JLh (G1 ((i18+1:Nat):Int)) (Ht (Hn hk18 hm8) O O O) O (JLh (G1 ((i18+1:Nat):Int)) (G6 O O) O (G8 (e18 _ _ (i18+1) () (app1 hn18 h) (by omega) ⟨(by repeat' constructor),G,rfl⟩))))))
 ·
  have h:=app1 hkx18 (Hs hi18 (H9 hb))
  refine Hi (hK2 _ _ (G5 fun K25 hK25=>G3 (JLh (BL false) (Gb O O) O (G8 (hK25 _ _ (Gx (⟨[BL false],[],G,O,⟨⟨_,O,.conv (.same O)⟩,G⟩,O,congrArg (fun r:Bool=>(BL r:AV)) (Option.some.inj h)⟩)))))))

def Gcc (s:Hc) (size:Int):Option Unit:=
 some ()
theorem J96 (s:Hc) (size:Int) (r:Unit) (h:Gcc s size=some r):Pure Tryz.prog 63 [.agg (Hc.cs s),U8 size] (·=.fn 91 [.dptr (Hc.cs s),.dptr [U8 size]]):=by
 unfold Gcc at h
 refine H4 [.tmp 4] Tryz.func63 O O (G5 fun K1 hK1=>G3 (JLh (.ptr 1154 0) (Jw (u:=.agg (Hc.cs s)) (cs:=(Hc.cs s)) 1154 O O O O O) O (JLh (.ptr 1155 0) (Jw (u:=U8 size) (cs:=[U8 size]) 1155 O O O O O) O (JLh (.sc .nilFunc) (Gb O O) O (G8 (hK1 _ _ ?_))))))
 refine Gq [(2,Ee s),(3,.ptr 1155 0)] [(1155,.box 5 [U8 size])] 1154 rfl rfl rfl ⟨⟨_,rfl,.boxEq rfl rfl⟩,G⟩ rfl (by exact⟨.ptr,.conv (.same rfl),G⟩) (Gq [(2,Ee s),(3,.dptr [U8 size])] [] 1155 rfl rfl rfl G rfl (by exact⟨.conv (.same rfl),.ptr,G⟩) ?_)
 refine G5 fun K2 hK2=>G3 (JLh (.fn 91 [.dptr (Hc.cs s),.dptr [U8 size]]) (R9 (cs:=[.dptr (Hc.cs s),.dptr [U8 size]]) O O) O (JLh (.fn 91 [.dptr (Hc.cs s),.dptr [U8 size]]) (Gb O O) O (G8 (hK2 _ _ ?_))))
 refine Gx (⟨[.fn 91 [.dptr (Hc.cs s),.dptr [U8 size]]],[],G,O,⟨⟨_,O,.conv (.same O)⟩,G⟩,O,congrArg (fun _:Unit=>(.fn 91 [.dptr (Hc.cs s),.dptr [U8 size]]:AV)) (Option.some.inj h)⟩)

def Ge9 (s:Hc) (size:Int):Option (List Slot):=
 bnd (Gcc s size) fun r5=>
 bnd (G83 s size) fun ys8=>
 each (fun y8 i8 (s8:(List Slot)) nx8=>
  need (decide ((s8.length+[y8].length)*24≤140737488355328∧s8.length+[y8].length≤maxLen)) <|
  nx8 (s8++[y8]))
 (fun(s8:(List Slot))=>
  some s8) ys8 0 []
theorem M_slot_All_w (s:Hc) (size:Int) (r:(List Slot)) (h:Ge9 s size=some r):Pure Tryz.prog 34 [.agg (Hc.cs s),U8 size] (·=E6 r):=by
 unfold Ge9 at h
 refine H4 [.tmp 4] Tryz.func34 O O (G5 fun K1 hK1=>G3 (JLh (.ptr 1100 0) (Jw (u:=.agg (Hc.cs s)) (cs:=(Hc.cs s)) 1100 O O O O O) O (JLh (E6 ([]:List Slot)) (Q4 3 O O) O (G8 (hK1 _ _ ?_)))))
 refine Gq [(1,U8 size),(2,Ee s)] [] 1100 rfl rfl rfl G rfl (by exact⟨.conv (.same rfl),.ptr,G⟩) (G5 fun K2 hK2=>G3 (JLh (.ptr 1101 0) (G0b 1101 [.sc (.slice none 0 0)] [.slice none 0 0] Jca ⟨.inl O,G⟩ O O) O (G6d 1101 0 1103 103 3 O O O (cs':=[OW 1103 3 Slot.av ([]:List Slot)]) O (G8 (hK2 _ _ (G5 (fun K3 hK3=>?_)))))))
 refine G5 fun K4 hK4=>G3 (JLh (.agg (Hc.cs s)) (Gh J5 O O O) O (JLh (U8 size) (G6 O O) O ?_))
 obtain⟨r5,hr5,h⟩:=Gf h
 refine JLh (.fn 91 [.dptr (Hc.cs s),.dptr [U8 size]]) (Gy (args:=[.agg (Hc.cs s),U8 size]) O (J96 s size r5 hr5) Jf9 ⟨O,O,O,O,G⟩) O (G8 (hK4 _ _ (Gi ?_)))
 obtain⟨ys8,hy_8,h⟩:=Gf h
 obtain⟨b8,kx8,hb8,hkx8,h⟩:=Hy h
 refine He6 (ps:=[10]) [(5,.ptr 1101 0),(9,.fn 91 [.dptr (Hc.cs s),.dptr [U8 size]])] (ys8.map (fun y:Slot=>[.agg [G1 y.G9,G1 y.Tier,U8 y.Half]])) (fun i8 (s8:(List Slot))=>each b8 kx8 (List.drop i8 ys8) i8 s8=some r) (fun s8=>[(1103,.spare 103 3 s8.length s8.length),(1101,.box 110 [OW 1103 3 Slot.av s8])]) [] rfl rfl rfl Je8 (J02.down s size ys8 hy_8) h ⟨⟨.same rfl,.same rfl,trivial⟩,⟨⟨_,rfl,.same⟩,⟨_,rfl,.boxL rfl ⟨.same rfl,trivial⟩⟩,trivial⟩,rfl⟩ rfl (fun us_ hus_=>by obtain⟨_,_,rfl⟩:=List.mem_map.1 hus_; rfl) (fun p_ hp_=>Nat.blt_eq.mp (by revert p_; decide)) (fun _=>⟨.same rfl,.same rfl,trivial⟩) (fun _=>rfl) ?_ ?_
 ·
  intro i8 us_ s8 hu_ hi8 lr_ K8 e8
  obtain⟨hk8,rfl⟩:=mapf_at hu_
  obtain⟨y8,nx8,hy8,hn8,h⟩:=Hr hi8 hk8
  replace h:=Rq hb8 h
  obtain⟨_,rfl⟩:=List.getElem?_eq_some_iff.1 hy8
  generalize ys8[i8]=y8 at h ⊢
  change JC _ _ _ _ [(10,.agg [G1 y8.G9,G1 y8.Tier,U8 y8.Half]),(5,.ptr 1101 0),(9,.fn 91 [.dptr (Hc.cs s),.dptr [U8 size]])] [(1103,.spare 103 3 s8.length s8.length),(1101,.box 110 [OW 1103 3 Slot.av s8])]
  refine G3 (JLh (.ptr 1102 0) (Hh 1102 3 Rb O O) O (Hg (u:=.junk) (H5 (u:=.agg [G1 y8.G9,G1 y8.Tier,U8 y8.Half]) (ds:=[G1 y8.G9,G1 y8.Tier,U8 y8.Half]) Rt O O O O O O O O) (G8 (J94 [(5,.ptr 1101 0),(6,.dptr [G1 y8.G9,G1 y8.Tier,U8 y8.Half])] [(1103,.spare 103 3 s8.length s8.length),(1101,.box 110 [OW 1103 3 Slot.av s8])] 1102 rfl rfl rfl ⟨⟨_,rfl,.same⟩,⟨_,rfl,.boxEq rfl rfl⟩,G⟩ rfl (by exact⟨.conv (.same rfl),.ptr,G⟩) (Mid_go (Gi (G3 ?_)))))))
  refine JLh (OW 1103 3 Slot.av s8) (Jv H0f O O O O) O (JLh (.agg [G1 y8.G9,G1 y8.Tier,U8 y8.Half]) (Gh Q2 O O O) O (JLh (E6 [y8]) (Hf (xs:=[.agg [G1 y8.G9,G1 y8.Tier,U8 y8.Half]]) O ⟨O,O,G⟩ Y7 Rb O O O O) O ?_))
  obtain⟨ha9,h⟩:=Hz h
  refine JLh (OW 1103 3 Slot.av (s8++[y8])) (Q5 (f:=Slot.av) (xs:=s8) (ys:=[y8]) O O O O Y7 J19 ha9 (fun _=>O) (.inl O) O) O (Hg (u:=.junk) (H5 (u:=OW 1103 3 Slot.av (s8++[y8])) (ds:=[OW 1103 3 Slot.av (s8++[y8])]) Jce O O O O O O O O) (G8 (e8 _ _ (s8++[y8]) (app1 hn8 h) ⟨G,⟨⟨_,O,.same⟩,⟨_,O,.boxL O ⟨.same O,G⟩⟩,G⟩,O⟩)))
 ·
  intro s8 h
  rw [List.length_map] at h
  replace h:=app1 hkx8 (Hs h (Nat.lt_irrefl _))
  refine hK3 _ _ (G5 fun K10 hK10=>G3 (JLh (OW 1103 3 Slot.av s8) (Jv H0f O O O O) O (JLh (OW 1103 3 Slot.av s8) (Gb O O) O (G8 (hK10 _ _ (Re (l':=[(4,E6 s8)]) (L':=[(1101,.box 110 [E6 s8])]) ⟨⟨.list O,G⟩,⟨⟨_,O,.boxL O ⟨.list O,G⟩⟩,G⟩,O⟩ (Gq [(4,E6 s8)] [] 1101 rfl rfl rfl G rfl (by exact⟨.conv (.same rfl),G⟩) (Gx (⟨[E6 s8],[],G,O,⟨⟨_,O,.conv (.same O)⟩,G⟩,O,congrArg (fun r:(List Slot)=>(E6 r:AV)) (Option.some.inj h)⟩)))))))))
end
end Go.Proofs.YteoeccjboahfgaaGreat
