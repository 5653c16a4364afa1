/-
 Models of functions of the program,and that they return what the models say.
-/
import Derived.Test.YtkfhfoljfbjknaaGreatProg
import Derived.Test.YtkfhfoljfbjknaaGreatSortM
import Derived.Test.YtkfhfoljfbjknaaGreatSortLay
import Derived.Test.YtkfhfoljfbjknaaGreatRel
import Derived.Test.YtkfhfoljfbjknaaGreatLit0
import Derived.Test.YtkfhfoljfbjknaaGreatXA
import Derived.Test.YtkfhfoljfbjknaaGreatSpecA
import Derived.Test.YtkfhfoljfbjknaaGreatSpecI
import Derived.Test.YtkfhfoljfbjknaaGreatSpecJ
set_option maxRecDepth 100000
set_option linter.unusedVariables false
set_option linter.unusedSimpArgs false
namespace Go.Proofs.YtkfhfoljfbjknaaGreat
open Go.RowKit
noncomputable section
structure Gp where
 ID:Int
 Number:ByteArray
 Size:Int
 High:Bool
 Kilos:Int
 Load:Int
 Discharge:Int
 Class:Int
 Reefer:Bool
 deriving DecidableEq,Inhabited
def Gp.cs (x:Gp):List AV:=[G0 x.ID,ST x.Number,U8 x.Size,BL x.High,G0 x.Kilos,G0 x.Load,G0 x.Discharge,U8 x.Class,BL x.Reefer]
def Gp.av (x:Gp):AV:=.agg x.cs
abbrev Eh (x:Gp):AV:=.dptr (Gp.cs x)
abbrev E2:=LS 9 Gp.av
structure Hh where
 G5:Int
 Kilos:Int
 Load:Int
 Stay:Int
 Small:Bool
 High:Bool
 deriving DecidableEq,Inhabited
def Hh.cs (x:Hh):List AV:=[U8 x.G5,U8 x.Kilos,U8 x.Load,U8 x.Stay,BL x.Small,BL x.High]
def Hh.av (x:Hh):AV:=.agg x.cs
abbrev Ec:=LS 6 Hh.av
structure Hr where
 Bay:Int
 Row:Int
 Tiers:Int
 Deck:Bool
 deriving DecidableEq,Inhabited
def Hr.cs (x:Hr):List AV:=[U8 x.Bay,U8 x.Row,U8 x.Tiers,BL x.Deck]
def Hr.av (x:Hr):AV:=.agg x.cs
abbrev Ed:=LS 4 Hr.av
namespace XVF
open XAF
theorem tq_57 (a b:Slot):eqAt Tryz.prog 4 57 [.int .i64 a.G5,.int .i64 a.Tier,.int .u8 a.Half] [.int .i64 b.G5,.int .i64 b.Tier,.int .u8 b.Half]=some (decide (a=b)):=by
 refine(show _=some ((a.G5==b.G5)&&((a.Tier==b.Tier)&&((a.Half==b.Half)&&true))) by kernel_rfl).trans (congrArg some ?_)
 rw [Bool.eq_iff_iff]
 simp only [Bool.and_eq_true,beq_iff_eq,decide_eq_true_eq,Bool.and_true]
 constructor
 ·intro h; obtain⟨_,_,_⟩:=a; obtain⟨_,_,_⟩:=b; simp_all
 ·intro h; subst h; simp
theorem J0:aggB Tryz.prog 35 13=true:=by kernel_rfl
theorem Ru:aggB Tryz.prog 41 2=true:=by kernel_rfl
theorem Jp:aggB Tryz.prog 57 3=true:=by kernel_rfl
theorem Rq:aggB Tryz.prog 61 9=true:=by kernel_rfl
theorem tf_agg_68:aggB Tryz.prog 68 4=true:=by kernel_rfl
theorem tf_agg_76:aggB Tryz.prog 76 6=true:=by kernel_rfl
theorem Jf:aggB Tryz.prog 86 4=true:=by kernel_rfl
theorem tf_aggof_57:aggOf Tryz.prog 57=true:=by kernel_rfl
theorem tf_bool_4:boolB Tryz.prog 4=true:=by kernel_rfl
theorem tf_call_13:Hb Tryz.prog 13=true:=by kernel_rfl
theorem tf_call_14:Hb Tryz.prog 14=true:=by kernel_rfl
theorem tf_call_15:Hb Tryz.prog 15=true:=by kernel_rfl
theorem tf_call_17:Hb Tryz.prog 17=true:=by kernel_rfl
theorem tf_call_18:Hb Tryz.prog 18=true:=by kernel_rfl
theorem tf_call_19:Hb Tryz.prog 19=true:=by kernel_rfl
theorem tf_call_24:Hb Tryz.prog 24=true:=by kernel_rfl
theorem tf_call_25:Hb Tryz.prog 25=true:=by kernel_rfl
theorem tf_call_26:Hb Tryz.prog 26=true:=by kernel_rfl
theorem tf_call_27:Hb Tryz.prog 27=true:=by kernel_rfl
theorem tf_call_28:Hb Tryz.prog 28=true:=by kernel_rfl
theorem tf_call_29:Hb Tryz.prog 29=true:=by kernel_rfl
theorem tf_call_30:Hb Tryz.prog 30=true:=by kernel_rfl
theorem tf_call_31:Hb Tryz.prog 31=true:=by kernel_rfl
theorem tf_call_32:Hb Tryz.prog 32=true:=by kernel_rfl
theorem tf_call_33:Hb Tryz.prog 33=true:=by kernel_rfl
theorem tf_call_35:Hb Tryz.prog 35=true:=by kernel_rfl
theorem tf_call_36:Hb Tryz.prog 36=true:=by kernel_rfl
theorem tf_call_37:Hb Tryz.prog 37=true:=by kernel_rfl
theorem Yq:Hb Tryz.prog 38=true:=by kernel_rfl
theorem tf_call_39:Hb Tryz.prog 39=true:=by kernel_rfl
theorem tf_call_40:Hb Tryz.prog 40=true:=by kernel_rfl
theorem tf_call_41:Hb Tryz.prog 41=true:=by kernel_rfl
theorem tf_call_42:Hb Tryz.prog 42=true:=by kernel_rfl
theorem tf_call_43:Hb Tryz.prog 43=true:=by kernel_rfl
theorem tf_call_44:Hb Tryz.prog 44=true:=by kernel_rfl
theorem tf_call_45:Hb Tryz.prog 45=true:=by kernel_rfl
theorem tf_call_46:Hb Tryz.prog 46=true:=by kernel_rfl
theorem tf_call_47:Hb Tryz.prog 47=true:=by kernel_rfl
theorem tf_call_48:Hb Tryz.prog 48=true:=by kernel_rfl
theorem tf_call_49:Hb Tryz.prog 49=true:=by kernel_rfl
theorem tf_call_55:Hb Tryz.prog 55=true:=by kernel_rfl
theorem tf_call_62:Hb Tryz.prog 62=true:=by kernel_rfl
theorem tf_call_63:Hb Tryz.prog 63=true:=by kernel_rfl
theorem tf_call_64:Hb Tryz.prog 64=true:=by kernel_rfl
theorem tf_call_65:Hb Tryz.prog 65=true:=by kernel_rfl
theorem tf_call_66:Hb Tryz.prog 66=true:=by kernel_rfl
theorem tf_call_67:Hb Tryz.prog 67=true:=by kernel_rfl
theorem tf_call_68:Hb Tryz.prog 68=true:=by kernel_rfl
theorem tf_call_70:Hb Tryz.prog 70=true:=by kernel_rfl
theorem tf_call_71:Hb Tryz.prog 71=true:=by kernel_rfl
theorem tf_call_72:Hb Tryz.prog 72=true:=by kernel_rfl
theorem tf_call_73:Hb Tryz.prog 73=true:=by kernel_rfl
theorem tf_call_74:Hb Tryz.prog 74=true:=by kernel_rfl
theorem tf_call_75:Hb Tryz.prog 75=true:=by kernel_rfl
theorem tf_call_76:Hb Tryz.prog 76=true:=by kernel_rfl
theorem tf_call_81:Hb Tryz.prog 81=true:=by kernel_rfl
theorem tf_call_90:Hb Tryz.prog 90=true:=by kernel_rfl
theorem tf_call_91:Hb Tryz.prog 91=true:=by kernel_rfl
theorem tf_call_92:Hb Tryz.prog 92=true:=by kernel_rfl
theorem tf_call_93:Hb Tryz.prog 93=true:=by kernel_rfl
theorem tf_call_94:Hb Tryz.prog 94=true:=by kernel_rfl
theorem tf_elem_3:elemB Tryz.prog 3 1 8=true:=by kernel_rfl
theorem tf_elem_50:elemB Tryz.prog 50 1 24=true:=by kernel_rfl
theorem tf_elem_52:elemB Tryz.prog 52 1 24=true:=by kernel_rfl
theorem tf_elem_57:elemB Tryz.prog 57 3 24=true:=by kernel_rfl
theorem tf_elem_61:elemB Tryz.prog 61 9 64=true:=by kernel_rfl
theorem tf_elem_70:elemB Tryz.prog 70 12 112=true:=by kernel_rfl
theorem tf_elem_74:elemB Tryz.prog 74 2 32=true:=by kernel_rfl
theorem Yo:elemB Tryz.prog 86 4 32=true:=by kernel_rfl
theorem tf_eqg_57:Tryz.prog.eqGuardType Tryz.prog.depth 57=false:=by kernel_rfl
theorem J8:Jh Tryz.prog 57 0 0=true:=by kernel_rfl
theorem Q7:Jh Tryz.prog 57 1 1=true:=by kernel_rfl
theorem Qx:Jh Tryz.prog 57 2 2=true:=by kernel_rfl
theorem Ji:Jh Tryz.prog 61 0 0=true:=by kernel_rfl
theorem Yg:Jh Tryz.prog 61 2 2=true:=by kernel_rfl
theorem tf_field_61_3:Jh Tryz.prog 61 3 3=true:=by kernel_rfl
theorem Y3:Jh Tryz.prog 61 5 5=true:=by kernel_rfl
theorem Y9:Jh Tryz.prog 61 6 6=true:=by kernel_rfl
theorem tf_field_68_0:Jh Tryz.prog 68 0 0=true:=by kernel_rfl
theorem tf_field_68_1:Jh Tryz.prog 68 1 1=true:=by kernel_rfl
theorem tf_field_68_2:Jh Tryz.prog 68 2 2=true:=by kernel_rfl
theorem tf_field_68_3:Jh Tryz.prog 68 3 3=true:=by kernel_rfl
theorem tf_field_76_0:Jh Tryz.prog 76 0 0=true:=by kernel_rfl
theorem tf_field_76_1:Jh Tryz.prog 76 1 1=true:=by kernel_rfl
theorem tf_field_76_2:Jh Tryz.prog 76 2 2=true:=by kernel_rfl
theorem tf_field_76_3:Jh Tryz.prog 76 3 3=true:=by kernel_rfl
theorem tf_field_76_4:Jh Tryz.prog 76 4 4=true:=by kernel_rfl
theorem tf_field_76_5:Jh Tryz.prog 76 5 5=true:=by kernel_rfl
theorem J5:Jh Tryz.prog 86 0 0=true:=by kernel_rfl
theorem J1:Jh Tryz.prog 86 1 1=true:=by kernel_rfl
theorem Rs:intB Tryz.prog 3 .i64=true:=by kernel_rfl
theorem Rx:intB Tryz.prog 5 .u8=true:=by kernel_rfl
theorem tf_map_123:mapB Tryz.prog 123 3 157=true:=by kernel_rfl
theorem R5:mapB Tryz.prog 55 3 3=true:=by kernel_rfl
theorem tf_map_97:mapB Tryz.prog 97 3 57=true:=by kernel_rfl
theorem tf_places_157:placesOf Tryz.prog 157=some []:=by kernel_rfl
theorem tf_places_41:placesOf Tryz.prog 41=some [(0,1),(1,1)]:=by kernel_rfl
theorem Yv:placesOf Tryz.prog 61=some [(0,1),(1,1),(2,1),(3,1),(4,1),(5,1),(6,1),(7,1),(8,1)]:=by kernel_rfl
theorem Y6:placesOf Tryz.prog 70=some [(0,1),(1,1),(2,1),(3,1),(4,1),(5,1),(6,1),(7,1),(8,1),(9,1),(10,1),(11,1)]:=by kernel_rfl
theorem tf_places_74:placesOf Tryz.prog 74=some [(0,1),(1,1)]:=by kernel_rfl
theorem tf_places_86:placesOf Tryz.prog 86=some [(0,1),(1,3)]:=by kernel_rfl
theorem tf_scalar_101:scalarB Tryz.prog 101=true:=by kernel_rfl
theorem tf_scalar_123:scalarB Tryz.prog 123=true:=by kernel_rfl
theorem tf_scalar_124:scalarB Tryz.prog 124=true:=by kernel_rfl
theorem tf_scalar_39:scalarB Tryz.prog 39=true:=by kernel_rfl
theorem tf_size_101:sizeB Tryz.prog 101 1=true:=by kernel_rfl
theorem tf_size_123:sizeB Tryz.prog 123 1=true:=by kernel_rfl
theorem tf_size_124:sizeB Tryz.prog 124 1=true:=by kernel_rfl
theorem tf_size_157:sizeB Tryz.prog 157 0=true:=by kernel_rfl
theorem tf_size_25:sizeB Tryz.prog 25 1=true:=by kernel_rfl
theorem tf_size_26:sizeB Tryz.prog 26 1=true:=by kernel_rfl
theorem R9:sizeB Tryz.prog 3 1=true:=by kernel_rfl
theorem tf_size_35:sizeB Tryz.prog 35 13=true:=by kernel_rfl
theorem tf_size_38:sizeB Tryz.prog 38 1=true:=by kernel_rfl
theorem tf_size_39:sizeB Tryz.prog 39 1=true:=by kernel_rfl
theorem tf_size_4:sizeB Tryz.prog 4 1=true:=by kernel_rfl
theorem tf_size_41:sizeB Tryz.prog 41 2=true:=by kernel_rfl
theorem tf_size_5:sizeB Tryz.prog 5 1=true:=by kernel_rfl
theorem tf_size_50:sizeB Tryz.prog 50 1=true:=by kernel_rfl
theorem tf_size_52:sizeB Tryz.prog 52 1=true:=by kernel_rfl
theorem R8:sizeB Tryz.prog 57 3=true:=by kernel_rfl
theorem Rr:sizeB Tryz.prog 61 9=true:=by kernel_rfl
theorem tf_size_68:sizeB Tryz.prog 68 4=true:=by kernel_rfl
theorem tf_size_76:sizeB Tryz.prog 76 6=true:=by kernel_rfl
theorem Jz:sizeB Tryz.prog 86 4=true:=by kernel_rfl
theorem R2:sliceB Tryz.prog 101 57 3=true:=by kernel_rfl
theorem tf_slice_22:sliceB Tryz.prog 22 68 4=true:=by kernel_rfl
theorem tf_slice_24:sliceB Tryz.prog 24 76 6=true:=by kernel_rfl
theorem Jm:sliceB Tryz.prog 37 61 9=true:=by kernel_rfl
theorem tf_slice_39:sliceB Tryz.prog 39 52 1=true:=by kernel_rfl
theorem Gx:sliceB Tryz.prog 50 86 4=true:=by kernel_rfl
theorem tf_zero_101:(Tryz.prog.info? 101).bind (fun i=>i.zero.map Value.cells)=some (List.toArray [.slice none 0 0]):=by kernel_rfl
theorem tf_zero_157:(Tryz.prog.info? 157).bind (fun i=>i.zero.map Value.cells)=some (List.toArray []):=by kernel_rfl
theorem tf_zero_3:(Tryz.prog.info? 3).bind (fun i=>i.zero.map Value.cells)=some (List.toArray [.int .i64 0]):=by kernel_rfl
theorem tf_zero_35:(Tryz.prog.info? 35).bind (fun i=>i.zero.map Value.cells)=some (List.toArray [.slice none 0 0,.slice none 0 0,.int .i64 0,.int .i64 0,.int .i64 0,.int .i64 0,.slice none 0 0,.slice none 0 0,.slice none 0 0,.int .i64 0,.int .i64 0,.int .i64 0,.int .i64 0]):=by kernel_rfl
theorem tf_zero_39:(Tryz.prog.info? 39).bind (fun i=>i.zero.map Value.cells)=some (List.toArray [.slice none 0 0]):=by kernel_rfl
theorem tf_zero_41:(Tryz.prog.info? 41).bind (fun i=>i.zero.map Value.cells)=some (List.toArray [.slice none 0 0,.slice none 0 0]):=by kernel_rfl
theorem tf_zero_50:(Tryz.prog.info? 50).bind (fun i=>i.zero.map Value.cells)=some (List.toArray [.slice none 0 0]):=by kernel_rfl
theorem tf_zero_52:(Tryz.prog.info? 52).bind (fun i=>i.zero.map Value.cells)=some (List.toArray [.slice none 0 0]):=by kernel_rfl
theorem tf_zero_61:(Tryz.prog.info? 61).bind (fun i=>i.zero.map Value.cells)=some (List.toArray [.int .i64 0,.string ByteArray.empty,.int .u8 0,.bool false,.int .i64 0,.int .i64 0,.int .i64 0,.int .u8 0,.bool false]):=by kernel_rfl
theorem Yj:(Tryz.prog.info? 70).bind (fun i=>i.zero.map Value.cells)=some (List.toArray [.int .i64 0,.int .i64 0,.bool false,.int .i64 0,.int .i64 0,.int .i64 0,.int .i64 0,.int .i64 0,.slice none 0 0,.int .i64 0,.int .i64 0,.int .i64 0]):=by kernel_rfl
theorem tf_zero_74:(Tryz.prog.info? 74).bind (fun i=>i.zero.map Value.cells)=some (List.toArray [.int .i64 0,.slice none 0 0]):=by kernel_rfl
theorem tf_zero_86:(Tryz.prog.info? 86).bind (fun i=>i.zero.map Value.cells)=some (List.toArray [.int .i64 0,.int .i64 0,.int .i64 0,.int .u8 0]):=by kernel_rfl
theorem tf_zsize_123:zsizeB Tryz.prog 123 1=true:=by kernel_rfl
theorem tf_zsize_124:zsizeB Tryz.prog 124 1=true:=by kernel_rfl
theorem tf_zsize_157:zsizeB Tryz.prog 157 0=true:=by kernel_rfl
theorem Rh:zsizeB Tryz.prog 3 1=true:=by kernel_rfl
theorem tf_zsize_38:zsizeB Tryz.prog 38 1=true:=by kernel_rfl
theorem tf_zsize_41:zsizeB Tryz.prog 41 2=true:=by kernel_rfl
theorem Ys:zsizeB Tryz.prog 50 1=true:=by kernel_rfl
theorem tf_zsize_52:zsizeB Tryz.prog 52 1=true:=by kernel_rfl
theorem Qz:zsizeB Tryz.prog 57 3=true:=by kernel_rfl
theorem R6:zsizeB Tryz.prog 61 9=true:=by kernel_rfl
theorem tf_zsize_68:zsizeB Tryz.prog 68 4=true:=by kernel_rfl
theorem tf_zsize_76:zsizeB Tryz.prog 76 6=true:=by kernel_rfl
theorem Jb:zsizeB Tryz.prog 86 4=true:=by kernel_rfl
theorem tf_zv_157:(Tryz.prog.info? 157).bind (·.zero)=some (.agg #[]):=by kernel_rfl
theorem tf_zv_57:(Tryz.prog.info? 57).bind (·.zero)=some (.agg #[.int .i64 0,.int .i64 0,.int .u8 0]):=by kernel_rfl
theorem tk_3:KeyL Tryz.prog 3 (fun n:Int=>Value.int .i64 n):=KeyL.of_int (by kernel_rfl)
end XVF
open XAF
open XVF

def M_twistlocklaw23_with (l:List G2) (x:G2):Option (List G2):=
 each (fun y19 i19 (s19:(List G2)) nx19=>
  jp (fun kj22=>
   bif decide (y19.Gp < x.Gp) then
   (need (decide ((s19.length+[y19].length)*32≤140737488355328∧s19.length+[y19].length≤maxLen)) <|
    kj22 (s19++[y19]))
   else
   (kj22 s19)) fun(j22:(List G2))=>
  nx19 j22)
 (fun(s19:(List G2))=>
  need (decide ((s19.length+[x].length)*32≤140737488355328∧s19.length+[x].length≤maxLen)) <|
  each (fun y44 i44 (s44:(List G2)) nx44=>
   jp (fun kj47=>
    bif decide (x.Gp < y44.Gp) then
    (need (decide ((s44.length+[y44].length)*32≤140737488355328∧s44.length+[y44].length≤maxLen)) <|
     kj47 (s44++[y44]))
    else
    (kj47 s44)) fun(j47:(List G2))=>
   nx44 j47)
  (fun(s44:(List G2))=>
   some s44) l 0 (s19++[x])) l 0 []
theorem M_twistlocklaw23_with_w (l:List G2) (x:G2) (r:(List G2)) (h:M_twistlocklaw23_with l x=some r):Pure Tryz.prog 26 [E0 l,.agg (G2.cs x)] (·=E0 r):=by
 unfold M_twistlocklaw23_with at h
 refine H9 [.tmp 4] Tryz.func26 O O ?_
 refine G6 fun K1 hK1=>G3 ?_
 refine JLg (.ptr 1091 0) (Q1 (u:=.agg (G2.cs x)) (cs:=[G0 x.Gp,G0 x.Slot.G5,G0 x.Slot.Tier,U8 x.Slot.Half]) 1091 O O O O O) ?_
 refine JLg (E0 ([]:List G2)) (Jj 4 O O) ?_
 refine G8 (hK1 _ _ ?_)
 refine Gk [(0,E0 l),(3,Ef x)] [] 1091 rfl rfl rfl G rfl (by exact⟨.conv (.same rfl),.ptr,G⟩) ?_
 refine G6 fun K2 hK2=>G3 ?_
 refine JLg (OW 1092 4 G2.av ([]:List G2)) (Yx 1092 86 4 O O O) ?_
 refine G8 (hK2 _ _ ?_)
 refine G6 (fun K3 hK3=>?_)
 refine G6 fun K4 hK4=>G3 ?_
 refine JLg (E0 l) (G7 O O) ?_
 refine Hs (f:=G2.av) (xs:=l) Gx O O (fun hm11=>?_) O O O
 refine JLg (G0 0) (G7 O O) ?_
 refine G8 (hK4 _ _ ?_)
 refine Gg ?_
 obtain⟨b19,kx19,hb19,hkx19,h⟩:=Hu h
 refine H7 (fun i19 (s19:(List G2))=>each b19 kx19 (List.drop i19 l) i19 s19=some r) (fun i19 s19=>[(0,E0 l),(3,Ef x),(5,OW 1092 4 G2.av s19),(10,E0 l),(11,Em l.length),(12,Em i19)]) (fun i19 s19=>[(1092,.spare 86 4 s19.length s19.length)]) (fun i19=>l.length - i19) 0 [] h ⟨(by repeat' constructor),⟨⟨_,rfl,.same⟩,G⟩,rfl⟩ ?_
 clear h
 intro i19 s19 hi19 K19 e19
 refine G6 fun K20 hK20=>G3 ?_
 refine JLg (BL (decide ((i19:Int) < (l.length:Int)))) (Hy O O O) ?_
 refine G8 (hK20 _ _ ?_)
 refine G6 (fun K21 hK21=>?_)
 refine Gh O (fun hb=>?_) (fun hb=>?_)
 ·
  have hk19:=J9 hb
  obtain⟨y19,nx19,hy19,hn19,h⟩:=Hn hi19 hk19
  replace h:=app4 hb19 h
  refine Gj ?_
  refine hK21 _ _ ?_
  obtain⟨kj22,hkj22,h⟩:=Qd h
  refine Jq (fun j22:(List G2)=>kj22 j22=some r) (fun j22=>[(0,E0 l),(3,Ef x),(5,OW 1092 4 G2.av j22),(10,E0 l),(11,Em l.length),(12,Em i19)]) (fun j22=>[(1092,.spare 86 4 j22.length j22.length)]) (fun Kj22 ej22=>?_) ?_
  ·
   refine Gg ?_
   refine G6 fun K23 hK23=>G3 ?_
   refine JLg (Ef y19) (H0 (f:=G2.av) (xs:=l) (y:=y19) O O O Gx hy19 O) ?_
   refine JLg (.agg (G2.cs y19)) (Gi Jf O O O) ?_
   refine JLg (.ptr 1093 0) (Hi 1093 4 Jb O O) ?_
   refine Hj (u:=.junk) (H2 (u:=.agg (G2.cs y19)) (ds:=[G0 y19.Gp,G0 y19.Slot.G5,G0 y19.Slot.Tier,U8 y19.Slot.Half]) Jz O O O O O O O O) ?_
   refine G8 (hK23 _ _ ?_)
   refine Gk [(0,E0 l),(3,Ef x),(5,OW 1092 4 G2.av s19),(7,Ef y19),(10,E0 l),(11,Em l.length),(12,Em i19)] [(1092,.spare 86 4 s19.length s19.length)] 1093 rfl rfl rfl ⟨⟨_,rfl,.same⟩,G⟩ rfl (by repeat' (first | exact .ptr | constructor)) ?_
   refine G6 fun K24 hK24=>G3 ?_
   refine JLg (Ef y19) (Gc J5 O O O) ?_
   refine JLg (G0 y19.Gp) (Gf Gb O O O) ?_
   refine JLg (Ef x) (Gc J5 O O O) ?_
   refine JLg (G0 x.Gp) (Gf Gb O O O) ?_
   refine JLg (BL (decide (y19.Gp < x.Gp))) (Hy O O O) ?_
   refine G8 (hK24 _ _ ?_)
   refine Gh O (fun hb=>?_) (fun hb=>?_)
   ·
    replace h:=Gv hb h
    refine G3 ?_
    refine JLg (OW 1092 4 G2.av s19) (G7 O O) ?_
    refine JLg (.agg (G2.cs y19)) (Gi Jf O O O) ?_
    refine JLg (E0 [y19]) (Hd (xs:=[.agg (G2.cs y19)]) O ⟨O,O,G⟩ Gx Jb O O O O) ?_
    obtain⟨ha25,h⟩:=Je h
    refine JLg (OW 1092 4 G2.av (s19++[y19])) (Qu (f:=G2.av) (xs:=s19) (ys:=[y19]) O O O O Gx Yo ha25 (fun _=>O) (.inl O) O) ?_
    refine JLg (OW 1092 4 G2.av (s19++[y19])) (G9 O O) ?_
    refine G8 ?_
    exact ej22 _ _ (s19++[y19]) h ⟨(by repeat' constructor),⟨⟨_,rfl,.same⟩,G⟩,rfl⟩
   ·
    replace h:=Hp hb h
    refine Gj ?_
    exact ej22 _ _ s19 h ⟨(by repeat' constructor),⟨⟨_,rfl,.same⟩,G⟩,rfl⟩
  ·intro j22 h
   replace h:=app1 hkj22 h
   refine G3 ?_
   refine JLg (G0 ((i19+1:Nat):Int)) (Ht (Hc hk19 hm11) O O O) ?_
   refine JLg (G0 ((i19+1:Nat):Int)) (G7 O O) ?_
   refine G8 ?_
   exact e19 _ _ (i19+1) j22 (app1 hn19 h) (by omega) ⟨(by repeat' constructor),⟨⟨_,rfl,.same⟩,G⟩,rfl⟩
 ·
  have h:=app1 hkx19 (Ho hi19 (H3 hb))
  refine Hk ?_
  refine hK3 _ _ ?_
  refine G6 fun K26 hK26=>G3 ?_
  refine JLg (OW 1092 4 G2.av s19) (G7 O O) ?_
  refine JLg (.agg (G2.cs x)) (Gi Jf O O O) ?_
  refine JLg (E0 [x]) (Hd (xs:=[.agg (G2.cs x)]) O ⟨O,O,G⟩ Gx Jb O O O O) ?_
  obtain⟨ha27,h⟩:=Je h
  refine JLg (OW 1092 4 G2.av (s19++[x])) (Qu (f:=G2.av) (xs:=s19) (ys:=[x]) O O O O Gx Yo ha27 (fun _=>O) (.inl O) O) ?_
  refine JLg (OW 1092 4 G2.av (s19++[x])) (G9 O O) ?_
  refine G8 (hK26 _ _ ?_)
  refine G6 (fun K28 hK28=>?_)
  refine G6 fun K29 hK29=>G3 ?_
  refine JLg (E0 l) (G7 O O) ?_
  refine Hs (f:=G2.av) (xs:=l) Gx O O (fun hm31=>?_) O O O
  refine JLg (G0 0) (G7 O O) ?_
  refine G8 (hK29 _ _ ?_)
  refine Gg ?_
  obtain⟨b44,kx44,hb44,hkx44,h⟩:=Hu h
  refine H7 (fun i44 (s44:(List G2))=>each b44 kx44 (List.drop i44 l) i44 s44=some r) (fun i44 s44=>[(3,Ef x),(5,OW 1092 4 G2.av s44),(30,E0 l),(31,Em l.length),(32,Em i44)]) (fun i44 s44=>[(1092,.spare 86 4 s44.length s44.length)]) (fun i44=>l.length - i44) 0 (s19++[x]) h ⟨(by repeat' constructor),⟨⟨_,rfl,.same⟩,G⟩,rfl⟩ ?_
  clear h
  intro i44 s44 hi44 K44 e44
  refine G6 fun K45 hK45=>G3 ?_
  refine JLg (BL (decide ((i44:Int) < (l.length:Int)))) (Hy O O O) ?_
  refine G8 (hK45 _ _ ?_)
  refine G6 (fun K46 hK46=>?_)
  refine Gh O (fun hb=>?_) (fun hb=>?_)
  ·
   have hk44:=J9 hb
   obtain⟨y44,nx44,hy44,hn44,h⟩:=Hn hi44 hk44
   replace h:=app4 hb44 h
   refine Gj ?_
   refine hK46 _ _ ?_
   obtain⟨kj47,hkj47,h⟩:=Qd h
   refine Jq (fun j47:(List G2)=>kj47 j47=some r) (fun j47=>[(3,Ef x),(5,OW 1092 4 G2.av j47),(30,E0 l),(31,Em l.length),(32,Em i44)]) (fun j47=>[(1092,.spare 86 4 j47.length j47.length)]) (fun Kj47 ej47=>?_) ?_
   ·
    refine Gg ?_
    refine G6 fun K48 hK48=>G3 ?_
    refine JLg (Ef y44) (H0 (f:=G2.av) (xs:=l) (y:=y44) O O O Gx hy44 O) ?_
    refine JLg (.agg (G2.cs y44)) (Gi Jf O O O) ?_
    refine JLg (.ptr 1094 0) (Hi 1094 4 Jb O O) ?_
    refine Hj (u:=.junk) (H2 (u:=.agg (G2.cs y44)) (ds:=[G0 y44.Gp,G0 y44.Slot.G5,G0 y44.Slot.Tier,U8 y44.Slot.Half]) Jz O O O O O O O O) ?_
    refine G8 (hK48 _ _ ?_)
    refine Gk [(3,Ef x),(5,OW 1092 4 G2.av s44),(9,Ef y44),(30,E0 l),(31,Em l.length),(32,Em i44)] [(1092,.spare 86 4 s44.length s44.length)] 1094 rfl rfl rfl ⟨⟨_,rfl,.same⟩,G⟩ rfl (by repeat' (first | exact .ptr | constructor)) ?_
    refine G6 fun K49 hK49=>G3 ?_
    refine JLg (Ef y44) (Gc J5 O O O) ?_
    refine JLg (G0 y44.Gp) (Gf Gb O O O) ?_
    refine JLg (Ef x) (Gc J5 O O O) ?_
    refine JLg (G0 x.Gp) (Gf Gb O O O) ?_
    refine JLg (BL (decide (x.Gp < y44.Gp))) (Yd O O O) ?_
    refine G8 (hK49 _ _ ?_)
    refine Gh O (fun hb=>?_) (fun hb=>?_)
    ·
     replace h:=Gv hb h
     refine G3 ?_
     refine JLg (OW 1092 4 G2.av s44) (G7 O O) ?_
     refine JLg (.agg (G2.cs y44)) (Gi Jf O O O) ?_
     refine JLg (E0 [y44]) (Hd (xs:=[.agg (G2.cs y44)]) O ⟨O,O,G⟩ Gx Jb O O O O) ?_
     obtain⟨ha50,h⟩:=Je h
     refine JLg (OW 1092 4 G2.av (s44++[y44])) (Qu (f:=G2.av) (xs:=s44) (ys:=[y44]) O O O O Gx Yo ha50 (fun _=>O) (.inl O) O) ?_
     refine JLg (OW 1092 4 G2.av (s44++[y44])) (G9 O O) ?_
     refine G8 ?_
     exact ej47 _ _ (s44++[y44]) h ⟨(by repeat' constructor),⟨⟨_,rfl,.same⟩,G⟩,rfl⟩
    ·
     replace h:=Hp hb h
     refine Gj ?_
     exact ej47 _ _ s44 h ⟨(by repeat' constructor),⟨⟨_,rfl,.same⟩,G⟩,rfl⟩
   ·intro j47 h
    replace h:=app1 hkj47 h
    refine G3 ?_
    refine JLg (G0 ((i44+1:Nat):Int)) (Ht (Hc hk44 hm31) O O O) ?_
    refine JLg (G0 ((i44+1:Nat):Int)) (G7 O O) ?_
    refine G8 ?_
    exact e44 _ _ (i44+1) j47 (app1 hn44 h) (by omega) ⟨(by repeat' constructor),⟨⟨_,rfl,.same⟩,G⟩,rfl⟩
  ·
   have h:=app1 hkx44 (Ho hi44 (H3 hb))
   refine Hk ?_
   refine hK28 _ _ ?_
   refine G6 fun K51 hK51=>G3 ?_
   refine JLg (OW 1092 4 G2.av s44) (G7 O O) ?_
   refine JLg (OW 1092 4 G2.av s44) (G9 O O) ?_
   refine G8 (hK51 _ _ ?_)
   refine Gu ?_
   exact⟨[E0 s44],[],G,O,⟨⟨_,O,.conv (.list O)⟩,G⟩,O,congrArg (fun r:(List G2)=>(E0 r:AV)) (Option.some.inj h)⟩

def M_stow_taken (l:List G2):Option (List Slot):=
 each (fun y17 i17 (s17:(List Slot)) nx17=>
  need (decide ((s17.length+[y17.Slot].length)*24≤140737488355328∧s17.length+[y17.Slot].length≤maxLen)) <|
  nx17 (s17++[y17.Slot]))
 (fun(s17:(List Slot))=>
  some s17) l 0 []
theorem M_stow_taken_w (l:List G2) (r:(List Slot)) (h:M_stow_taken l=some r):Pure Tryz.prog 39 [E0 l] (·=E5 r):=by
 unfold M_stow_taken at h
 refine H9 [.tmp 2] Tryz.func39 O O ?_
 refine G6 fun K1 hK1=>G3 ?_
 refine JLg (E5 ([]:List Slot)) (Jj 3 O O) ?_
 refine G8 (hK1 _ _ ?_)
 refine G6 fun K2 hK2=>G3 ?_
 refine JLg (OW 1119 3 Slot.av ([]:List Slot)) (Yx 1119 57 3 O O O) ?_
 refine G8 (hK2 _ _ ?_)
 refine G6 (fun K3 hK3=>?_)
 refine G6 fun K4 hK4=>G3 ?_
 refine JLg (E0 l) (G7 O O) ?_
 refine Hs (f:=G2.av) (xs:=l) Gx O O (fun hm7=>?_) O O O
 refine JLg (G0 0) (G7 O O) ?_
 refine G8 (hK4 _ _ ?_)
 refine Gg ?_
 obtain⟨b17,kx17,hb17,hkx17,h⟩:=Hu h
 refine H7 (fun i17 (s17:(List Slot))=>each b17 kx17 (List.drop i17 l) i17 s17=some r) (fun i17 s17=>[(3,OW 1119 3 Slot.av s17),(6,E0 l),(7,Em l.length),(8,Em i17)]) (fun i17 s17=>[(1119,.spare 57 3 s17.length s17.length)]) (fun i17=>l.length - i17) 0 [] h ⟨(by repeat' constructor),⟨⟨_,rfl,.same⟩,G⟩,rfl⟩ ?_
 clear h
 intro i17 s17 hi17 K17 e17
 refine G6 fun K18 hK18=>G3 ?_
 refine JLg (BL (decide ((i17:Int) < (l.length:Int)))) (Hy O O O) ?_
 refine G8 (hK18 _ _ ?_)
 refine G6 (fun K19 hK19=>?_)
 refine Gh O (fun hb=>?_) (fun hb=>?_)
 ·
  have hk17:=J9 hb
  obtain⟨y17,nx17,hy17,hn17,h⟩:=Hn hi17 hk17
  replace h:=app4 hb17 h
  refine Gj ?_
  refine hK19 _ _ ?_
  refine G6 (fun K20 hK20=>?_)
  refine Gg ?_
  refine G6 fun K21 hK21=>G3 ?_
  refine JLg (Ef y17) (H0 (f:=G2.av) (xs:=l) (y:=y17) O O O Gx hy17 O) ?_
  refine JLg (.agg (G2.cs y17)) (Gi Jf O O O) ?_
  refine JLg (.ptr 1120 0) (Hi 1120 4 Jb O O) ?_
  refine Hj (u:=.junk) (H2 (u:=.agg (G2.cs y17)) (ds:=[G0 y17.Gp,G0 y17.Slot.G5,G0 y17.Slot.Tier,U8 y17.Slot.Half]) Jz O O O O O O O O) ?_
  refine G8 (hK21 _ _ ?_)
  refine Gk [(3,OW 1119 3 Slot.av s17),(5,Ef y17),(6,E0 l),(7,Em l.length),(8,Em i17)] [(1119,.spare 57 3 s17.length s17.length)] 1120 rfl rfl rfl ⟨⟨_,rfl,.same⟩,G⟩ rfl (by repeat' (first | exact .ptr | constructor)) ?_
  refine G3 ?_
  refine JLg (OW 1119 3 Slot.av s17) (G7 O O) ?_
  refine JLg (Eg y17.Slot) (Gc J1 O O O) ?_
  refine JLg (.agg (Slot.cs y17.Slot)) (Gi Jp O O O) ?_
  refine JLg (E5 [y17.Slot]) (Hd (xs:=[.agg (Slot.cs y17.Slot)]) O ⟨O,O,G⟩ R2 Qz O O O O) ?_
  obtain⟨ha22,h⟩:=Je h
  refine JLg (OW 1119 3 Slot.av (s17++[y17.Slot])) (Qu (f:=Slot.av) (xs:=s17) (ys:=[y17.Slot]) O O O O R2 tf_elem_57 ha22 (fun _=>O) (.inl O) O) ?_
  refine JLg (OW 1119 3 Slot.av (s17++[y17.Slot])) (G9 O O) ?_
  refine G8 (hK20 _ _ ?_)
  refine G3 ?_
  refine JLg (G0 ((i17+1:Nat):Int)) (Ht (Hc hk17 hm7) O O O) ?_
  refine JLg (G0 ((i17+1:Nat):Int)) (G7 O O) ?_
  refine G8 ?_
  exact e17 _ _ (i17+1) (s17++[y17.Slot]) (app1 hn17 h) (by omega) ⟨(by repeat' constructor),⟨⟨_,rfl,.same⟩,G⟩,rfl⟩
 ·
  have h:=app1 hkx17 (Ho hi17 (H3 hb))
  refine Hk ?_
  refine hK3 _ _ ?_
  refine G6 fun K23 hK23=>G3 ?_
  refine JLg (OW 1119 3 Slot.av s17) (G7 O O) ?_
  refine JLg (OW 1119 3 Slot.av s17) (G9 O O) ?_
  refine G8 (hK23 _ _ ?_)
  refine Gu ?_
  exact⟨[E5 s17],[],G,O,⟨⟨_,O,.conv (.list O)⟩,G⟩,O,congrArg (fun r:(List Slot)=>(E5 r:AV)) (Option.some.inj h)⟩

def M_stow_Find_1 (b:Gp) (p1:Int):Option Bool:=
 some (decide (b.ID=p1))
theorem M_stow_Find_1_w (b:Gp) (p1:Int) (r:Bool) (h:M_stow_Find_1 b p1=some r):Pure Tryz.prog 67 [.agg (Gp.cs b),.dptr [G0 p1]] (·=BL r):=by
 unfold M_stow_Find_1 at h
 refine H9 [.tmp 3] Tryz.func67 O O ?_
 refine G6 fun K1 hK1=>G3 ?_
 refine JLg (.ptr 1155 0) (Q1 (u:=.agg (Gp.cs b)) (cs:=(Gp.cs b)) 1155 O O O O O) ?_
 refine JLg (BL false) (G9 O O) ?_
 refine G8 (hK1 _ _ ?_)
 refine Gk [(1,.dptr [G0 p1]),(2,Eh b)] [] 1155 rfl rfl rfl G rfl (by exact⟨.conv (.same rfl),.ptr,G⟩) ?_
 refine G6 fun K2 hK2=>G3 ?_
 refine JLg (Eh b) (Gc Ji O O O) ?_
 refine JLg (G0 b.ID) (Gf Gb O O O) ?_
 refine JLg (G0 p1) (Gf Gb O O O) ?_
 refine JLg (BL (decide (b.ID=p1))) (Qb O O O) ?_
 refine JLg (BL (decide (b.ID=p1))) (G9 O O) ?_
 refine G8 (hK2 _ _ ?_)
 refine Gu ?_
 exact⟨[BL (decide (b.ID=p1))],[],G,O,⟨⟨_,O,.conv (.same O)⟩,G⟩,O,congrArg (fun r:Bool=>(BL r:AV)) (Option.some.inj h)⟩

def M_slices_IndexFunc_apiBox (s:List Gp) (f:Gp→Option Bool):Option Int:=
 each (fun y20 i20 (s20:Unit) nx20=>
  bnd (f y20) fun r26=>
  bif r26 then
  (some (i20:Int))
  else
  (nx20 ()))
 (fun(s20:Unit)=>
  some (-1)) s 0 ()
theorem M_slices_IndexFunc_apiBox_w (s:List Gp) (f:Gp→Option Bool) (f_f:FuncId) (f_c:List AV) (f_B:Hb Tryz.prog f_f=true) (f_d:Qm (fun _=>false) f_c=true) (f_w:∀ a0 q,f a0=some q→Pure Tryz.prog f_f ([.agg (Gp.cs a0)]++f_c) (·=BL q)) (r:Int) (h:M_slices_IndexFunc_apiBox s f=some r):Pure Tryz.prog 66 [E2 s,.fn f_f f_c] (·=G0 r):=by
 unfold M_slices_IndexFunc_apiBox at h
 refine H9 [.tmp 4] Tryz.func66 O O ?_
 refine G6 fun K1 hK1=>G3 ?_
 refine JLg (G0 0) (G9 O O) ?_
 refine G8 (hK1 _ _ ?_)
 refine G6 (fun K2 hK2=>?_)
 refine G6 fun K3 hK3=>G3 ?_
 refine JLg (E2 s) (G7 O O) ?_
 refine Hs (f:=Gp.av) (xs:=s) Jm O O (fun hm7=>?_) O O O
 refine JLg (G0 0) (G7 O O) ?_
 refine G8 (hK3 _ _ ?_)
 refine Gg ?_
 obtain⟨b20,kx20,hb20,hkx20,h⟩:=Hu h
 refine H7 (fun i20 (s20:Unit)=>each b20 kx20 (List.drop i20 s) i20 s20=some r) (fun i20 s20=>[(0,E2 s),(1,.fn f_f f_c),(7,Em s.length),(8,Em i20)]) (fun i20 s20=>[]) (fun i20=>s.length - i20) 0 () h ⟨⟨.same O,.same (H8 _ _ f_d),.same O,.same O,G⟩,G,O⟩ ?_
 clear h
 intro i20 s20 hi20 K20 e20
 refine G6 fun K21 hK21=>G3 ?_
 refine JLg (BL (decide ((i20:Int) < (s.length:Int)))) (Hy O O O) ?_
 refine G8 (hK21 _ _ ?_)
 refine G6 (fun K22 hK22=>?_)
 refine Gh O (fun hb=>?_) (fun hb=>?_)
 ·
  have hk20:=J9 hb
  obtain⟨y20,nx20,hy20,hn20,h⟩:=Hn hi20 hk20
  replace h:=app4 hb20 h
  refine Gj ?_
  refine hK22 _ _ ?_
  refine G6 (fun K23 hK23=>?_)
  refine Gg ?_
  refine G6 fun K24 hK24=>G3 ?_
  refine JLg (Em i20) (G7 O O) ?_
  refine JLg (Em i20) (G9 O O) ?_
  refine G8 (hK24 _ _ ?_)
  refine G6 fun K25 hK25=>G3 ?_
  refine JLg (.fn f_f f_c) (G7 O O) ?_
  refine JLg (E2 s) (G7 O O) ?_
  refine JLg (Em i20) (G7 O O) ?_
  refine JLg (Eh y20) (H0 (f:=Gp.av) (xs:=s) (y:=y20) O O O Jm hy20 O) ?_
  refine JLg (.agg (Gp.cs y20)) (Gi Rq O O O) ?_
  obtain⟨r26,hr26,h⟩:=Ge h
  refine JLg (BL r26) (Rk (args:=[.agg (Gp.cs y20)]) (caps:=f_c) O O (f_w y20 _ hr26) f_B ⟨O,O,G⟩ f_d) ?_
  refine G8 (hK25 _ _ ?_)
  refine Gh O (fun hb=>?_) (fun hb=>?_)
  ·
   replace h:=Gv hb h
   refine G6 fun K27 hK27=>G3 ?_
   refine JLg (Em i20) (G7 O O) ?_
   refine JLg (Em i20) (G9 O O) ?_
   refine G8 (hK27 _ _ ?_)
   refine Gu ?_
   exact⟨[Em i20],[],G,O,⟨⟨_,O,.conv (.same O)⟩,G⟩,O,congrArg (fun r:Int=>(G0 r:AV)) (Option.some.inj h)⟩
  ·
   replace h:=Hp hb h
   refine Gj ?_
   refine hK23 _ _ ?_
   refine G3 ?_
   refine JLg (G0 ((i20+1:Nat):Int)) (Ht (Hc hk20 hm7) O O O) ?_
   refine JLg (G0 ((i20+1:Nat):Int)) (G7 O O) ?_
   refine G8 ?_
   exact e20 _ _ (i20+1) () (app1 hn20 h) (by omega) ⟨⟨.same rfl,.same (H8 _ _ f_d),.same rfl,.same rfl,G⟩,G,rfl⟩
 ·
  have h:=app1 hkx20 (Ho hi20 (H3 hb))
  refine Hk ?_
  refine hK2 _ _ ?_
  refine G6 fun K28 hK28=>G3 ?_
  refine JLg (G0 (-1)) (G9 O O) ?_
  refine G8 (hK28 _ _ ?_)
  refine Gu ?_
  exact⟨[G0 (-1)],[],G,O,⟨⟨_,O,.conv (.same O)⟩,G⟩,O,congrArg (fun r:Int=>(G0 r:AV)) (Option.some.inj h)⟩

def M_stow_Find (boxes:List Gp) (id_:Int):Option (Gp×Bool):=
 bnd (M_slices_IndexFunc_apiBox boxes (fun z0=>M_stow_Find_1 z0 id_)) fun r3=>
 bif decide (r3 < 0) then
 (some ((Gp.mk 0 ByteArray.empty 0 false 0 0 0 0 false),false))
 else
 (Jy boxes r3 fun y8=>
  some (y8,true))
theorem M_stow_Find_w (boxes:List Gp) (id_:Int) (r:Gp×Bool) (h:M_stow_Find boxes id_=some r):Pure Tryz.prog 40 [E2 boxes,G0 id_] (·=.tup [.agg (Gp.cs r.1),BL r.2]):=by
 unfold M_stow_Find at h
 refine H9 [.cell 4 61,.tmp 5] Tryz.func40 O O ?_
 refine G6 fun K1 hK1=>G3 ?_
 refine JLg (.ptr 1121 0) (Q1 (u:=G0 id_) (cs:=[G0 id_]) 1121 O O O O O) ?_
 refine JLg (.ptr 1122 0) (Y1 1122 [G0 0,ST ByteArray.empty,U8 0,BL false,G0 0,G0 0,G0 0,U8 0,BL false] [.int .i64 0,.string ByteArray.empty,.int .u8 0,.bool false,.int .i64 0,.int .i64 0,.int .i64 0,.int .u8 0,.bool false] tf_zero_61 ⟨.inl O,.inl O,.inl O,.inl O,.inl O,.inl O,.inl O,.inl O,.inl O,G⟩ O O) ?_
 refine JLg (BL false) (G9 O O) ?_
 refine G8 (hK1 _ _ ?_)
 refine Gk [(0,E2 boxes),(3,.dptr [G0 id_]),(4,.ptr 1122 0)] [(1122,.box 61 [G0 0,ST ByteArray.empty,U8 0,BL false,G0 0,G0 0,G0 0,U8 0,BL false])] 1121 rfl rfl rfl ⟨⟨_,rfl,.boxEq rfl rfl⟩,G⟩ rfl (by exact⟨.conv (.same rfl),.ptr,.conv (.same rfl),G⟩) ?_
 refine G6 fun K2 hK2=>G3 ?_
 refine JLg (E2 boxes) (G7 O O) ?_
 refine JLg (.fn 67 [.dptr [G0 id_]]) (R4 (cs:=[.dptr [G0 id_]]) O O) ?_
 obtain⟨r3,hr3,h⟩:=Ge h
 refine JLg (G0 r3) (H1 (args:=[E2 boxes,.fn 67 [.dptr [G0 id_]]]) O (M_slices_IndexFunc_apiBox_w boxes (fun z0=>M_stow_Find_1 z0 id_) 67 [.dptr [G0 id_]] tf_call_67 O (fun z0 q hq=>M_stow_Find_1_w z0 id_ q hq) r3 hr3) tf_call_66 ⟨O,O,O,O,G⟩) ?_
 refine JLg (G0 r3) (G9 O O) ?_
 refine G8 (hK2 _ _ ?_)
 refine G6 (fun K4 hK4=>?_)
 refine G6 fun K5 hK5=>G3 ?_
 refine JLg (G0 r3) (G7 O O) ?_
 refine JLg (BL (decide (r3 < 0))) (Hy O O O) ?_
 refine G8 (hK5 _ _ ?_)
 refine Gh O (fun hb=>?_) (fun hb=>?_)
 ·
  replace h:=Gv hb h
  refine G6 fun K6 hK6=>G3 ?_
  refine JLg (.agg [G0 0,ST ByteArray.empty,U8 0,BL false,G0 0,G0 0,G0 0,U8 0,BL false]) (J4 (cs:=[G0 0,ST ByteArray.empty,U8 0,BL false,G0 0,G0 0,G0 0,U8 0,BL false]) [(0,1),(1,1),(2,1),(3,1),(4,1),(5,1),(6,1),(7,1),(8,1)] [G0 0,ST ByteArray.empty,U8 0,BL false,G0 0,G0 0,G0 0,U8 0,BL false] [.int .i64 0,.string ByteArray.empty,.int .u8 0,.bool false,.int .i64 0,.int .i64 0,.int .i64 0,.int .u8 0,.bool false] Yv tf_zero_61 ⟨.inl O,.inl O,.inl O,.inl O,.inl O,.inl O,.inl O,.inl O,.inl O,G⟩ O O) ?_
  refine Hj (u:=.junk) (H2 (u:=.agg [G0 0,ST ByteArray.empty,U8 0,BL false,G0 0,G0 0,G0 0,U8 0,BL false]) (ds:=[G0 0,ST ByteArray.empty,U8 0,BL false,G0 0,G0 0,G0 0,U8 0,BL false]) Rr O O O O O O O O) ?_
  refine JLg (BL false) (G9 O O) ?_
  refine G8 (hK6 _ _ ?_)
  refine Gu ?_
  exact⟨[.agg [G0 0,ST ByteArray.empty,U8 0,BL false,G0 0,G0 0,G0 0,U8 0,BL false],BL false],[],G,O,⟨⟨_,⟨_,_,_,_,O,O,O,.inl ⟨Rq,O⟩⟩,.conv (.same O)⟩,⟨_,O,.conv (.same O)⟩,G⟩,O,congrArg (fun r:Gp×Bool=>(.tup [.agg (Gp.cs r.1),BL r.2]:AV)) (Option.some.inj h)⟩
 ·
  replace h:=Hp hb h
  refine Gj ?_
  refine hK4 _ _ ?_
  refine G6 fun K7 hK7=>G3 ?_
  refine JLg (E2 boxes) (G7 O O) ?_
  refine JLg (G0 r3) (G7 O O) ?_
  obtain⟨m9,y8,hm9,hy8,h⟩:=R3 h
  refine JLg (Eh y8) (H0 (f:=Gp.av) (xs:=boxes) (y:=y8) O O O Jm hy8 hm9) ?_
  refine JLg (.agg (Gp.cs y8)) (Gi Rq O O O) ?_
  refine Hj (u:=.junk) (H2 (u:=.agg (Gp.cs y8)) (ds:=(Gp.cs y8)) Rr O O O O O O O O) ?_
  refine JLg (BL true) (G9 O O) ?_
  refine G8 (hK7 _ _ ?_)
  refine Gu ?_
  exact⟨[.agg (Gp.cs y8),BL true],[],G,O,⟨⟨_,⟨_,_,_,_,O,O,O,.inl ⟨Rq,O⟩⟩,.conv (.same O)⟩,⟨_,O,.conv (.same O)⟩,G⟩,O,congrArg (fun r:Gp×Bool=>(.tup [.agg (Gp.cs r.1),BL r.2]:AV)) (Option.some.inj h)⟩

def M_slices_Index_uint8 (s:List Int) (v:Int):Option Int:=
 each (fun y18 i18 (s18:Unit) nx18=>
  bif decide (v=y18) then
  (some (i18:Int))
  else
  (nx18 ()))
 (fun(s18:Unit)=>
  some (-1)) s 0 ()
theorem M_slices_Index_uint8_w (s:List Int) (v:Int) (r:Int) (h:M_slices_Index_uint8 s v=some r):Pure Tryz.prog 90 [Ea s,U8 v] (·=G0 r):=by
 unfold M_slices_Index_uint8 at h
 refine H9 [.tmp 4] Tryz.func90 O O ?_
 refine G6 fun K1 hK1=>G3 ?_
 refine JLg (G0 0) (G9 O O) ?_
 refine G8 (hK1 _ _ ?_)
 refine G6 (fun K2 hK2=>?_)
 refine G6 fun K3 hK3=>G3 ?_
 refine JLg (Ea s) (G7 O O) ?_
 refine Hs (f:=U8) (xs:=s) Yc O O (fun hm7=>?_) O O O
 refine JLg (G0 0) (G7 O O) ?_
 refine G8 (hK3 _ _ ?_)
 refine Gg ?_
 obtain⟨b18,kx18,hb18,hkx18,h⟩:=Hu h
 refine H7 (fun i18 (s18:Unit)=>each b18 kx18 (List.drop i18 s) i18 s18=some r) (fun i18 s18=>[(0,Ea s),(1,U8 v),(7,Em s.length),(8,Em i18)]) (fun i18 s18=>[]) (fun i18=>s.length - i18) 0 () h ⟨(by repeat' constructor),G,rfl⟩ ?_
 clear h
 intro i18 s18 hi18 K18 e18
 refine G6 fun K19 hK19=>G3 ?_
 refine JLg (BL (decide ((i18:Int) < (s.length:Int)))) (Hy O O O) ?_
 refine G8 (hK19 _ _ ?_)
 refine G6 (fun K20 hK20=>?_)
 refine Gh O (fun hb=>?_) (fun hb=>?_)
 ·
  have hk18:=J9 hb
  obtain⟨y18,nx18,hy18,hn18,h⟩:=Hn hi18 hk18
  replace h:=app4 hb18 h
  refine Gj ?_
  refine hK20 _ _ ?_
  refine G6 (fun K21 hK21=>?_)
  refine Gg ?_
  refine G6 fun K22 hK22=>G3 ?_
  refine JLg (Em i18) (G7 O O) ?_
  refine JLg (Em i18) (G9 O O) ?_
  refine G8 (hK22 _ _ ?_)
  refine G6 fun K23 hK23=>G3 ?_
  refine JLg (U8 v) (G7 O O) ?_
  refine JLg (Ea s) (G7 O O) ?_
  refine JLg (Em i18) (G7 O O) ?_
  refine JLg (.dptr [U8 y18]) (H0 (f:=U8) (xs:=s) (y:=y18) O O O Yc hy18 O) ?_
  refine JLg (U8 y18) (Gf Hx O O O) ?_
  refine JLg (BL (decide (v=y18))) (Qb O O O) ?_
  refine G8 (hK23 _ _ ?_)
  refine Gh O (fun hb=>?_) (fun hb=>?_)
  ·
   replace h:=Gv hb h
   refine G6 fun K24 hK24=>G3 ?_
   refine JLg (Em i18) (G7 O O) ?_
   refine JLg (Em i18) (G9 O O) ?_
   refine G8 (hK24 _ _ ?_)
   refine Gu ?_
   exact⟨[Em i18],[],G,O,⟨⟨_,O,.conv (.same O)⟩,G⟩,O,congrArg (fun r:Int=>(G0 r:AV)) (Option.some.inj h)⟩
  ·
   replace h:=Hp hb h
   refine Gj ?_
   refine hK21 _ _ ?_
   refine G3 ?_
   refine JLg (G0 ((i18+1:Nat):Int)) (Ht (Hc hk18 hm7) O O O) ?_
   refine JLg (G0 ((i18+1:Nat):Int)) (G7 O O) ?_
   refine G8 ?_
   exact e18 _ _ (i18+1) () (app1 hn18 h) (by omega) ⟨(by repeat' constructor),G,rfl⟩
 ·
  have h:=app1 hkx18 (Ho hi18 (H3 hb))
  refine Hk ?_
  refine hK2 _ _ ?_
  refine G6 fun K25 hK25=>G3 ?_
  refine JLg (G0 (-1)) (G9 O O) ?_
  refine G8 (hK25 _ _ ?_)
  refine Gu ?_
  exact⟨[G0 (-1)],[],G,O,⟨⟨_,O,.conv (.same O)⟩,G⟩,O,congrArg (fun r:Int=>(G0 r:AV)) (Option.some.inj h)⟩

def M_slices_Contains_uint8 (s:List Int) (v:Int):Option Bool:=
 bnd (M_slices_Index_uint8 s v) fun r3=>
 some (decide (0≤r3))
theorem M_slices_Contains_uint8_w (s:List Int) (v:Int) (r:Bool) (h:M_slices_Contains_uint8 s v=some r):Pure Tryz.prog 68 [Ea s,U8 v] (·=BL r):=by
 unfold M_slices_Contains_uint8 at h
 refine H9 [.tmp 4] Tryz.func68 O O ?_
 refine G6 fun K1 hK1=>G3 ?_
 refine JLg (BL false) (G9 O O) ?_
 refine G8 (hK1 _ _ ?_)
 refine G6 fun K2 hK2=>G3 ?_
 refine JLg (Ea s) (G7 O O) ?_
 refine JLg (U8 v) (G7 O O) ?_
 obtain⟨r3,hr3,h⟩:=Ge h
 refine JLg (G0 r3) (H1 (args:=[Ea s,U8 v]) O (M_slices_Index_uint8_w s v r3 hr3) tf_call_90 ⟨O,O,O,O,G⟩) ?_
 refine JLg (BL (decide (0≤r3))) (Yu O O O) ?_
 refine JLg (BL (decide (0≤r3))) (G9 O O) ?_
 refine G8 (hK2 _ _ ?_)
 refine Gu ?_
 exact⟨[BL (decide (0≤r3))],[],G,O,⟨⟨_,O,.conv (.same O)⟩,G⟩,O,congrArg (fun r:Bool=>(BL r:AV)) (Option.some.inj h)⟩

def M_slot_Right (s:Gz) (x:Slot) (size:Int):Option Bool:=
 bnd (bif (((decide (0≤x.G5))&&(decide (x.G5 < (s.Columns.length:Int))))&&(decide (0≤x.Tier))) then Jy s.Columns x.G5 some else some default) fun y3=>
 bnd (bif ((((decide (0≤x.G5))&&(decide (x.G5 < (s.Columns.length:Int))))&&(decide (0≤x.Tier)))&&(decide (x.Tier < y3.Tiers))) then M_slot_halves size else some default) fun r4=>
 bnd (bif ((((decide (0≤x.G5))&&(decide (x.G5 < (s.Columns.length:Int))))&&(decide (0≤x.Tier)))&&(decide (x.Tier < y3.Tiers))) then M_slices_Contains_uint8 r4 x.Half else some default) fun r5=>
 some (((((decide (0≤x.G5))&&(decide (x.G5 < (s.Columns.length:Int))))&&(decide (0≤x.Tier)))&&(decide (x.Tier < y3.Tiers)))&&r5)
theorem M_slot_Right_w (s:Gz) (x:Slot) (size:Int) (r:Bool) (h:M_slot_Right s x size=some r):Pure Tryz.prog 41 [.agg (Gz.cs s),.agg [G0 x.G5,G0 x.Tier,U8 x.Half],U8 size] (·=BL r):=by
 unfold M_slot_Right at h
 refine H9 [.tmp 6] Tryz.func41 O O ?_
 refine G6 fun K1 hK1=>G3 ?_
 refine JLg (.ptr 1123 0) (Q1 (u:=.agg (Gz.cs s)) (cs:=(Gz.cs s)) 1123 O O O O O) ?_
 refine JLg (.ptr 1124 0) (Q1 (u:=.agg [G0 x.G5,G0 x.Tier,U8 x.Half]) (cs:=[G0 x.G5,G0 x.Tier,U8 x.Half]) 1124 O O O O O) ?_
 refine JLg (BL false) (G9 O O) ?_
 refine G8 (hK1 _ _ ?_)
 refine Gk [(2,U8 size),(3,Ee s),(4,.ptr 1124 0)] [(1124,.box 57 [G0 x.G5,G0 x.Tier,U8 x.Half])] 1123 rfl rfl rfl ⟨⟨_,rfl,.boxEq rfl rfl⟩,G⟩ rfl (by exact⟨.conv (.same rfl),.ptr,.conv (.same rfl),G⟩) ?_
 refine Gk [(2,U8 size),(3,Ee s),(4,.dptr [G0 x.G5,G0 x.Tier,U8 x.Half])] [] 1124 rfl rfl rfl G rfl (by exact⟨.conv (.same rfl),.conv (.same rfl),.ptr,G⟩) ?_
 refine G6 (fun K2 hK2=>?_)
 obtain⟨y3,hy3,h⟩:=Ge h
 obtain⟨r4,hr4,h⟩:=Ge h
 obtain⟨r5,hr5,h⟩:=Ge h
 refine Qp [] [0,0,0,0,0,0,0,0,0,0,0,0,0,0,0,0,0,0,0,0,0,0,0,0,0,0,0,0,0,0,0,0,0,0,0,0] [0,0,0,0,0,0,0,0,0,0,0,0,0,0,0,0,0,0,0,0,0,0,0,0,0,0,0,0,0,0,0,0,0,0,0,0] [[]] Q5 (by kernel_rfl) rfl rfl ?_
 refine Gn (u:=.dptr [G0 x.G5,G0 x.Tier,U8 x.Half]) O O ⟨Gs (Gc J8 O O O) O,G⟩ ?_
 refine Gn (u:=G0 x.G5) O O ⟨Gs (Gf Gb O O O) O,G⟩ ?_
 refine Gn (u:=BL (decide (0≤x.G5))) O O ⟨Gs (Yu O O O) O,G⟩ ?_
 refine Gn (u:=BL (decide (0≤x.G5))) O O ⟨Gs (G7 O O) O,G⟩ ?_
 refine Gn (u:=.opt (decide (0≤x.G5)) (.dptr [G0 x.G5,G0 x.Tier,U8 x.Half])) O O ⟨Hf [] O O O .sct G (fun hc=>Gc J8 O O O) O,G⟩ ?_
 refine Gn (u:=.opt (decide (0≤x.G5)) (G0 x.G5)) O O ⟨Hf [(11,.dptr [G0 x.G5,G0 x.Tier,U8 x.Half])] O O O .sct ⟨.all id,G⟩ (fun hc=>Gf Gb O O O) O,G⟩ ?_
 refine Gn (u:=.opt (decide (0≤x.G5)) (Ee s)) O O ⟨Hf [] O O O .sct G (fun hc=>Gc J6 O O O) O,G⟩ ?_
 refine Gn (u:=.opt (decide (0≤x.G5)) (E4 s.Columns)) O O ⟨Hf [(13,Ee s)] O O O .sct ⟨.all id,G⟩ (fun hc=>Gf Jd O O O) O,G⟩ ?_
 refine Gn (u:=.opt (decide (0≤x.G5)) (Em s.Columns.length)) O O ⟨Hf [(14,E4 s.Columns)] O O O .sct ⟨.all id,G⟩ (fun hc=>Yz (f:=G5.av) (xs:=s.Columns) J7 O O) O,G⟩ ?_
 refine Gn (u:=.opt (decide (0≤x.G5)) (BL (decide (x.G5 < (s.Columns.length:Int))))) O O ⟨Hf [(12,G0 x.G5),(15,Em s.Columns.length)] O O O .sct ⟨.all id,.all id,G⟩ (fun hc=>Hy O O O) O,G⟩ ?_
 refine Gn (u:=BL ((decide (0≤x.G5))&&(decide (x.G5 < (s.Columns.length:Int))))) O O ⟨Gs (Qr O O O O) O,G⟩ ?_
 refine Gn (u:=BL ((decide (0≤x.G5))&&(decide (x.G5 < (s.Columns.length:Int))))) O O ⟨Gs (G7 O O) O,G⟩ ?_
 refine Gn (u:=.opt ((decide (0≤x.G5))&&(decide (x.G5 < (s.Columns.length:Int)))) (.dptr [G0 x.Tier,U8 x.Half])) O O ⟨Hf [] O O O .sct G (fun hc=>Gc Q7 O O O) O,G⟩ ?_
 refine Gn (u:=.opt ((decide (0≤x.G5))&&(decide (x.G5 < (s.Columns.length:Int)))) (G0 x.Tier)) O O ⟨Hf [(19,.dptr [G0 x.Tier,U8 x.Half])] O O O .sct ⟨.all id,G⟩ (fun hc=>Gf Gb O O O) O,G⟩ ?_
 refine Gn (u:=.opt ((decide (0≤x.G5))&&(decide (x.G5 < (s.Columns.length:Int)))) (BL (decide (0≤x.Tier)))) O O ⟨Hf [(20,G0 x.Tier)] O O O .sct ⟨.all id,G⟩ (fun hc=>Yu O O O) O,G⟩ ?_
 refine Gn (u:=BL (((decide (0≤x.G5))&&(decide (x.G5 < (s.Columns.length:Int))))&&(decide (0≤x.Tier)))) O O ⟨Gs (Qr O O O O) O,G⟩ ?_
 refine Gn (u:=BL (((decide (0≤x.G5))&&(decide (x.G5 < (s.Columns.length:Int))))&&(decide (0≤x.Tier)))) O O ⟨Gs (G7 O O) O,G⟩ ?_
 refine Gn (u:=.opt (((decide (0≤x.G5))&&(decide (x.G5 < (s.Columns.length:Int))))&&(decide (0≤x.Tier))) (.dptr [G0 x.Tier,U8 x.Half])) O O ⟨Hf [] O O O .sct G (fun hc=>Gc Q7 O O O) O,G⟩ ?_
 refine Gn (u:=.opt (((decide (0≤x.G5))&&(decide (x.G5 < (s.Columns.length:Int))))&&(decide (0≤x.Tier))) (G0 x.Tier)) O O ⟨Hf [(24,.dptr [G0 x.Tier,U8 x.Half])] O O O .sct ⟨.all id,G⟩ (fun hc=>Gf Gb O O O) O,G⟩ ?_
 refine Gn (u:=.opt (((decide (0≤x.G5))&&(decide (x.G5 < (s.Columns.length:Int))))&&(decide (0≤x.Tier))) (Ee s)) O O ⟨Hf [] O O O .sct G (fun hc=>Gc J6 O O O) O,G⟩ ?_
 refine Gn (u:=.opt (((decide (0≤x.G5))&&(decide (x.G5 < (s.Columns.length:Int))))&&(decide (0≤x.Tier))) (E4 s.Columns)) O O ⟨Hf [(26,Ee s)] O O O .sct ⟨.all id,G⟩ (fun hc=>Gf Jd O O O) O,G⟩ ?_
 refine Gn (u:=.opt (((decide (0≤x.G5))&&(decide (x.G5 < (s.Columns.length:Int))))&&(decide (0≤x.Tier))) (.dptr [G0 x.G5,G0 x.Tier,U8 x.Half])) O O ⟨Hf [] O O O .sct G (fun hc=>Gc J8 O O O) O,G⟩ ?_
 refine Gn (u:=.opt (((decide (0≤x.G5))&&(decide (x.G5 < (s.Columns.length:Int))))&&(decide (0≤x.Tier))) (G0 x.G5)) O O ⟨Hf [(28,.dptr [G0 x.G5,G0 x.Tier,U8 x.Half])] O O O .sct ⟨.all id,G⟩ (fun hc=>Gf Gb O O O) O,G⟩ ?_
 refine Gn (u:=.opt (((decide (0≤x.G5))&&(decide (x.G5 < (s.Columns.length:Int))))&&(decide (0≤x.Tier))) (Ei y3)) O O ⟨Hf [(27,E4 s.Columns),(29,G0 x.G5)] O O O .sct ⟨.all id,.all id,G⟩ (fun hc=>(match Rv (Gv hc hy3) with | ⟨_,hm_,hy_⟩=>H0 (f:=G5.av) (xs:=s.Columns) (y:=y3) O O O J7 hy_ hm_)) O,G⟩ ?_
 refine Gn (u:=.opt (((decide (0≤x.G5))&&(decide (x.G5 < (s.Columns.length:Int))))&&(decide (0≤x.Tier))) (.dptr ((G5.cs y3).drop 3))) O O ⟨Hf [(30,Ei y3)] O O O .sct ⟨.all id,G⟩ (fun hc=>Gc tf_field_70_3 O O O) O,G⟩ ?_
 refine Gn (u:=.opt (((decide (0≤x.G5))&&(decide (x.G5 < (s.Columns.length:Int))))&&(decide (0≤x.Tier))) (G0 y3.Tiers)) O O ⟨Hf [(31,.dptr ((G5.cs y3).drop 3))] O O O .sct ⟨.all id,G⟩ (fun hc=>Gf Gb O O O) O,G⟩ ?_
 refine Gn (u:=.opt (((decide (0≤x.G5))&&(decide (x.G5 < (s.Columns.length:Int))))&&(decide (0≤x.Tier))) (BL (decide (x.Tier < y3.Tiers)))) O O ⟨Hf [(25,G0 x.Tier),(32,G0 y3.Tiers)] O O O .sct ⟨.all id,.all id,G⟩ (fun hc=>Hy O O O) O,G⟩ ?_
 refine Gn (u:=BL ((((decide (0≤x.G5))&&(decide (x.G5 < (s.Columns.length:Int))))&&(decide (0≤x.Tier)))&&(decide (x.Tier < y3.Tiers)))) O O ⟨Gs (Qr O O O O) O,G⟩ ?_
 refine Gn (u:=BL ((((decide (0≤x.G5))&&(decide (x.G5 < (s.Columns.length:Int))))&&(decide (0≤x.Tier)))&&(decide (x.Tier < y3.Tiers)))) O O ⟨Gs (G7 O O) O,G⟩ ?_
 refine Gn (u:=.opt ((((decide (0≤x.G5))&&(decide (x.G5 < (s.Columns.length:Int))))&&(decide (0≤x.Tier)))&&(decide (x.Tier < y3.Tiers))) (U8 size)) O O ⟨Hf [] O O O .sct G (fun hc=>G7 O O) O,G⟩ ?_
 refine Gn (u:=.opt ((((decide (0≤x.G5))&&(decide (x.G5 < (s.Columns.length:Int))))&&(decide (0≤x.Tier)))&&(decide (x.Tier < y3.Tiers))) (Ea r4)) O O ⟨Hf [(36,U8 size)] O O O .sct ⟨.all id,G⟩ (fun hc=>H1 (args:=[U8 size]) O (M_slot_halves_w size r4 (Gv hc hr4)) tf_call_69 ⟨O,O,G⟩) O,G⟩ ?_
 refine Gn (u:=.opt ((((decide (0≤x.G5))&&(decide (x.G5 < (s.Columns.length:Int))))&&(decide (0≤x.Tier)))&&(decide (x.Tier < y3.Tiers))) (.dptr [U8 x.Half])) O O ⟨Hf [] O O O .sct G (fun hc=>Gc Qx O O O) O,G⟩ ?_
 refine Gn (u:=.opt ((((decide (0≤x.G5))&&(decide (x.G5 < (s.Columns.length:Int))))&&(decide (0≤x.Tier)))&&(decide (x.Tier < y3.Tiers))) (U8 x.Half)) O O ⟨Hf [(38,.dptr [U8 x.Half])] O O O .sct ⟨.all id,G⟩ (fun hc=>Gf Hx O O O) O,G⟩ ?_
 refine Gn (u:=.opt ((((decide (0≤x.G5))&&(decide (x.G5 < (s.Columns.length:Int))))&&(decide (0≤x.Tier)))&&(decide (x.Tier < y3.Tiers))) (BL r5)) O O ⟨Hf [(37,Ea r4),(39,U8 x.Half)] O O O .sct ⟨.all id,.all id,G⟩ (fun hc=>H1 (args:=[Ea r4,U8 x.Half]) O (M_slices_Contains_uint8_w r4 x.Half r5 (Gv hc hr5)) tf_call_68 ⟨O,O,O,O,G⟩) O,G⟩ ?_
 refine Gn (u:=BL (((((decide (0≤x.G5))&&(decide (x.G5 < (s.Columns.length:Int))))&&(decide (0≤x.Tier)))&&(decide (x.Tier < y3.Tiers)))&&r5)) O O ⟨Gs (Qr O O O O) O,G⟩ ?_
 refine Gn (u:=BL (((((decide (0≤x.G5))&&(decide (x.G5 < (s.Columns.length:Int))))&&(decide (0≤x.Tier)))&&(decide (x.Tier < y3.Tiers)))&&r5)) O O ⟨Gs (G9 O O) O,G⟩ ?_
 refine Ry ?_
 refine hK2 _ _ ?_
 refine Gu ?_
 exact⟨[BL (((((decide (0≤x.G5))&&(decide (x.G5 < (s.Columns.length:Int))))&&(decide (0≤x.Tier)))&&(decide (x.Tier < y3.Tiers)))&&r5)],[],G,O,⟨⟨_,O,.conv (.same O)⟩,G⟩,O,congrArg (fun r:Bool=>(BL r:AV)) (Option.some.inj h)⟩

def M_slices_Index_apiSlot (s:List Slot) (v:Slot):Option Int:=
 each (fun y18 i18 (s18:Unit) nx18=>
  bif decide (v=y18) then
  (some (i18:Int))
  else
  (nx18 ()))
 (fun(s18:Unit)=>
  some (-1)) s 0 ()
theorem M_slices_Index_apiSlot_w (s:List Slot) (v:Slot) (r:Int) (h:M_slices_Index_apiSlot s v=some r):Pure Tryz.prog 91 [E5 s,.agg [G0 v.G5,G0 v.Tier,U8 v.Half]] (·=G0 r):=by
 unfold M_slices_Index_apiSlot at h
 refine H9 [.tmp 4] Tryz.func91 O O ?_
 refine G6 fun K1 hK1=>G3 ?_
 refine JLg (.ptr 1174 0) (Q1 (u:=.agg [G0 v.G5,G0 v.Tier,U8 v.Half]) (cs:=[G0 v.G5,G0 v.Tier,U8 v.Half]) 1174 O O O O O) ?_
 refine JLg (G0 0) (G9 O O) ?_
 refine G8 (hK1 _ _ ?_)
 refine Gk [(0,E5 s),(3,.dptr [G0 v.G5,G0 v.Tier,U8 v.Half])] [] 1174 rfl rfl rfl G rfl (by exact⟨.conv (.same rfl),.ptr,G⟩) ?_
 refine G6 (fun K2 hK2=>?_)
 refine G6 fun K3 hK3=>G3 ?_
 refine JLg (E5 s) (G7 O O) ?_
 refine Hs (f:=Slot.av) (xs:=s) R2 O O (fun hm7=>?_) O O O
 refine JLg (G0 0) (G7 O O) ?_
 refine G8 (hK3 _ _ ?_)
 refine Gg ?_
 obtain⟨b18,kx18,hb18,hkx18,h⟩:=Hu h
 refine H7 (fun i18 (s18:Unit)=>each b18 kx18 (List.drop i18 s) i18 s18=some r) (fun i18 s18=>[(0,E5 s),(3,.dptr [G0 v.G5,G0 v.Tier,U8 v.Half]),(7,Em s.length),(8,Em i18)]) (fun i18 s18=>[]) (fun i18=>s.length - i18) 0 () h ⟨(by repeat' constructor),G,rfl⟩ ?_
 clear h
 intro i18 s18 hi18 K18 e18
 refine G6 fun K19 hK19=>G3 ?_
 refine JLg (BL (decide ((i18:Int) < (s.length:Int)))) (Hy O O O) ?_
 refine G8 (hK19 _ _ ?_)
 refine G6 (fun K20 hK20=>?_)
 refine Gh O (fun hb=>?_) (fun hb=>?_)
 ·
  have hk18:=J9 hb
  obtain⟨y18,nx18,hy18,hn18,h⟩:=Hn hi18 hk18
  replace h:=app4 hb18 h
  refine Gj ?_
  refine hK20 _ _ ?_
  refine G6 (fun K21 hK21=>?_)
  refine Gg ?_
  refine G6 fun K22 hK22=>G3 ?_
  refine JLg (Em i18) (G7 O O) ?_
  refine JLg (Em i18) (G9 O O) ?_
  refine G8 (hK22 _ _ ?_)
  refine G6 (fun K23 hK23=>?_)
  refine Qp [] [0,0,0,0,0,0] [0,0,0,0,0,0] [[]] Q5 (by kernel_rfl) rfl rfl ?_
  refine Gn (u:=.agg [G0 v.G5,G0 v.Tier,U8 v.Half]) O O ⟨Gs (Gi Jp O O O) O,G⟩ ?_
  refine Gn (u:=E5 s) O O ⟨Gs (G7 O O) O,G⟩ ?_
  refine Gn (u:=Em i18) O O ⟨Gs (G7 O O) O,G⟩ ?_
  refine Gn (u:=Eg y18) O O ⟨Gs (H0 (f:=Slot.av) (xs:=s) (y:=y18) O O O R2 hy18 O) O,G⟩ ?_
  refine Gn (u:=.agg (Slot.cs y18)) O O ⟨Gs (Gi Jp O O O) O,G⟩ ?_
  refine Gn (u:=BL (decide (v=y18))) O O ⟨Gs (A_eqAgg (vs:=[.int .i64 v.G5,.int .i64 v.Tier,.int .u8 v.Half]) (us:=[.int .i64 y18.G5,.int .i64 y18.Tier,.int .u8 y18.Half]) 4 O (tq_57 v y18) tf_aggof_57 tf_eqg_57 O O O) O,G⟩ ?_
  refine Ry ?_
  refine hK23 _ _ ?_
  refine Gh O (fun hb=>?_) (fun hb=>?_)
  ·
   replace h:=Gv hb h
   refine G6 fun K24 hK24=>G3 ?_
   refine JLg (Em i18) (G7 O O) ?_
   refine JLg (Em i18) (G9 O O) ?_
   refine G8 (hK24 _ _ ?_)
   refine Gu ?_
   exact⟨[Em i18],[],G,O,⟨⟨_,O,.conv (.same O)⟩,G⟩,O,congrArg (fun r:Int=>(G0 r:AV)) (Option.some.inj h)⟩
  ·
   replace h:=Hp hb h
   refine Gj ?_
   refine hK21 _ _ ?_
   refine G3 ?_
   refine JLg (G0 ((i18+1:Nat):Int)) (Ht (Hc hk18 hm7) O O O) ?_
   refine JLg (G0 ((i18+1:Nat):Int)) (G7 O O) ?_
   refine G8 ?_
   exact e18 _ _ (i18+1) () (app1 hn18 h) (by omega) ⟨(by repeat' constructor),G,rfl⟩
 ·
  have h:=app1 hkx18 (Ho hi18 (H3 hb))
  refine Hk ?_
  refine hK2 _ _ ?_
  refine G6 fun K25 hK25=>G3 ?_
  refine JLg (G0 (-1)) (G9 O O) ?_
  refine G8 (hK25 _ _ ?_)
  refine Gu ?_
  exact⟨[G0 (-1)],[],G,O,⟨⟨_,O,.conv (.same O)⟩,G⟩,O,congrArg (fun r:Int=>(G0 r:AV)) (Option.some.inj h)⟩

def M_slices_Contains_apiSlot (s:List Slot) (v:Slot):Option Bool:=
 bnd (M_slices_Index_apiSlot s v) fun r3=>
 some (decide (0≤r3))
theorem M_slices_Contains_apiSlot_w (s:List Slot) (v:Slot) (r:Bool) (h:M_slices_Contains_apiSlot s v=some r):Pure Tryz.prog 71 [E5 s,.agg [G0 v.G5,G0 v.Tier,U8 v.Half]] (·=BL r):=by
 unfold M_slices_Contains_apiSlot at h
 refine H9 [.tmp 4] Tryz.func71 O O ?_
 refine G6 fun K1 hK1=>G3 ?_
 refine JLg (.ptr 1156 0) (Q1 (u:=.agg [G0 v.G5,G0 v.Tier,U8 v.Half]) (cs:=[G0 v.G5,G0 v.Tier,U8 v.Half]) 1156 O O O O O) ?_
 refine JLg (BL false) (G9 O O) ?_
 refine G8 (hK1 _ _ ?_)
 refine Gk [(0,E5 s),(3,.dptr [G0 v.G5,G0 v.Tier,U8 v.Half])] [] 1156 rfl rfl rfl G rfl (by exact⟨.conv (.same rfl),.ptr,G⟩) ?_
 refine G6 fun K2 hK2=>G3 ?_
 refine JLg (E5 s) (G7 O O) ?_
 refine JLg (.agg [G0 v.G5,G0 v.Tier,U8 v.Half]) (Gi Jp O O O) ?_
 obtain⟨r3,hr3,h⟩:=Ge h
 refine JLg (G0 r3) (H1 (args:=[E5 s,.agg [G0 v.G5,G0 v.Tier,U8 v.Half]]) O (M_slices_Index_apiSlot_w s v r3 hr3) tf_call_91 ⟨O,O,O,O,G⟩) ?_
 refine JLg (BL (decide (0≤r3))) (Yu O O O) ?_
 refine JLg (BL (decide (0≤r3))) (G9 O O) ?_
 refine G8 (hK2 _ _ ?_)
 refine Gu ?_
 exact⟨[BL (decide (0≤r3))],[],G,O,⟨⟨_,O,.conv (.same O)⟩,G⟩,O,congrArg (fun r:Bool=>(BL r:AV)) (Option.some.inj h)⟩

def M_slot_Held_1 (half:Int) (p1:List Slot) (p2:Slot):Option Bool:=
 chk (p2.Tier - 1) fun v3=>
 bnd (M_slices_Contains_apiSlot p1 (Slot.mk p2.G5 v3 half)) fun r4=>
 some r4
theorem M_slot_Held_1_w (half:Int) (p1:List Slot) (p2:Slot) (r:Bool) (h:M_slot_Held_1 half p1 p2=some r):Pure Tryz.prog 70 [U8 half,.dptr [E5 p1],.dptr [G0 p2.G5,G0 p2.Tier,U8 p2.Half]] (·=BL r):=by
 unfold M_slot_Held_1 at h
 refine H9 [.tmp 4] Tryz.func70 O O ?_
 refine G6 fun K1 hK1=>G3 ?_
 refine JLg (BL false) (G9 O O) ?_
 refine G8 (hK1 _ _ ?_)
 refine G6 fun K2 hK2=>G3 ?_
 refine JLg (E5 p1) (Gf tf_scalar_101 O O O) ?_
 refine JLg (.dptr [G0 p2.G5,G0 p2.Tier,U8 p2.Half]) (Gc J8 O O O) ?_
 refine JLg (G0 p2.G5) (Gf Gb O O O) ?_
 refine JLg (.dptr [G0 p2.Tier,U8 p2.Half]) (Gc Q7 O O O) ?_
 refine JLg (G0 p2.Tier) (Gf Gb O O O) ?_
 obtain⟨v3,hv3,h⟩:=Hm h
 refine JLg (G0 v3) (Rz hv3 O O O) ?_
 refine JLg (U8 half) (G7 O O) ?_
 refine JLg (.agg [G0 p2.G5,G0 v3,U8 half]) (J4 (cs:=[G0 p2.G5,G0 v3,U8 half]) [(0,1),(1,1),(2,1)] [G0 0,G0 0,U8 0] [.int .i64 0,.int .i64 0,.int .u8 0] tf_places_57 tf_zero_57 ⟨.inl O,.inl O,.inl O,G⟩ O O) ?_
 obtain⟨r4,hr4,h⟩:=Ge h
 refine JLg (BL r4) (H1 (args:=[E5 p1,.agg [G0 p2.G5,G0 v3,U8 half]]) O (M_slices_Contains_apiSlot_w p1 (Slot.mk p2.G5 v3 half) r4 hr4) tf_call_71 ⟨O,O,O,O,G⟩) ?_
 refine JLg (BL r4) (G9 O O) ?_
 refine G8 (hK2 _ _ ?_)
 refine Gu ?_
 exact⟨[BL r4],[],G,O,⟨⟨_,O,.conv (.same O)⟩,G⟩,O,congrArg (fun r:Bool=>(BL r:AV)) (Option.some.inj h)⟩

def M_slot_Held (x:Slot) (l:List Slot):Option Bool:=
 bif decide (x.Tier≤0) then
 (some true)
 else
 (bnd (M_slot_Held_1 x.Half l x) fun r7=>
  bnd (bif ((!r7)&&(decide (x.Half=0))) then M_slot_Held_1 1 l x else some default) fun r8=>
  bnd (bif ((!r7)&&((decide (x.Half=0))&&r8)) then M_slot_Held_1 2 l x else some default) fun r9=>
  some (r7||(((decide (x.Half=0))&&r8)&&r9)))
theorem M_slot_Held_w (x:Slot) (l:List Slot) (r:Bool) (h:M_slot_Held x l=some r):Pure Tryz.prog 42 [.agg [G0 x.G5,G0 x.Tier,U8 x.Half],E5 l] (·=BL r):=by
 unfold M_slot_Held at h
 refine H9 [.tmp 4] Tryz.func42 O O ?_
 refine G6 fun K1 hK1=>G3 ?_
 refine JLg (.ptr 1125 0) (Q1 (u:=.agg [G0 x.G5,G0 x.Tier,U8 x.Half]) (cs:=[G0 x.G5,G0 x.Tier,U8 x.Half]) 1125 O O O O O) ?_
 refine JLg (.ptr 1126 0) (Q1 (u:=E5 l) (cs:=[E5 l]) 1126 O O O O O) ?_
 refine JLg (BL false) (G9 O O) ?_
 refine G8 (hK1 _ _ ?_)
 refine Gk [(2,.dptr [G0 x.G5,G0 x.Tier,U8 x.Half]),(3,.ptr 1126 0)] [(1126,.box 101 [E5 l])] 1125 rfl rfl rfl ⟨⟨_,rfl,.boxEq rfl rfl⟩,G⟩ rfl (by exact⟨.ptr,.conv (.same rfl),G⟩) ?_
 refine Gk [(2,.dptr [G0 x.G5,G0 x.Tier,U8 x.Half]),(3,.dptr [E5 l])] [] 1126 rfl rfl rfl G rfl (by exact⟨.conv (.same rfl),.ptr,G⟩) ?_
 refine G6 (fun K2 hK2=>?_)
 refine G6 fun K3 hK3=>G3 ?_
 refine JLg (.dptr [G0 x.Tier,U8 x.Half]) (Gc Q7 O O O) ?_
 refine JLg (G0 x.Tier) (Gf Gb O O O) ?_
 refine JLg (BL (decide (x.Tier≤0))) (A_leq O O O) ?_
 refine G8 (hK3 _ _ ?_)
 refine Gh O (fun hb=>?_) (fun hb=>?_)
 ·
  replace h:=Gv hb h
  refine G6 fun K4 hK4=>G3 ?_
  refine JLg (BL true) (G9 O O) ?_
  refine G8 (hK4 _ _ ?_)
  refine Gu ?_
  exact⟨[BL true],[],G,O,⟨⟨_,O,.conv (.same O)⟩,G⟩,O,congrArg (fun r:Bool=>(BL r:AV)) (Option.some.inj h)⟩
 ·
  replace h:=Hp hb h
  refine Gj ?_
  refine hK2 _ _ ?_
  refine G6 fun K5 hK5=>G3 ?_
  refine JLg (.fn 70 [.dptr [E5 l],.dptr [G0 x.G5,G0 x.Tier,U8 x.Half]]) (R4 (cs:=[.dptr [E5 l],.dptr [G0 x.G5,G0 x.Tier,U8 x.Half]]) O O) ?_
  refine JLg (.fn 70 [.dptr [E5 l],.dptr [G0 x.G5,G0 x.Tier,U8 x.Half]]) (G9 O O) ?_
  refine G8 (hK5 _ _ ?_)
  refine G6 fun K6 hK6=>G3 ?_
  refine JLg (.fn 70 [.dptr [E5 l],.dptr [G0 x.G5,G0 x.Tier,U8 x.Half]]) (G7 O O) ?_
  refine JLg (.dptr [U8 x.Half]) (Gc Qx O O O) ?_
  refine JLg (U8 x.Half) (Gf Hx O O O) ?_
  obtain⟨r7,hr7,h⟩:=Ge h
  refine JLg (BL r7) (Rk (args:=[U8 x.Half]) (caps:=[.dptr [E5 l],.dptr [G0 x.G5,G0 x.Tier,U8 x.Half]]) O O (M_slot_Held_1_w x.Half l x r7 hr7) tf_call_70 ⟨O,O,G⟩ O) ?_
  refine JLg (BL r7) (G7 O O) ?_
  refine Gd (u:=.dptr [U8 x.Half]) [] O O O .scf G (fun hc=>Gc Qx O O O) ?_
  refine Gd (u:=U8 x.Half) [(15,.dptr [U8 x.Half])] O O O .scf ⟨.all id,G⟩ (fun hc=>Gf Hx O O O) ?_
  refine Gd (u:=BL (decide (x.Half=0))) [(16,U8 x.Half)] O O O .scf ⟨.all id,G⟩ (fun hc=>Qb O O O) ?_
  refine Gd (u:=BL (decide (x.Half=0))) [(17,BL (decide (x.Half=0)))] O O O .scf ⟨.all id,G⟩ (fun hc=>G7 O O) ?_
  refine Gd (u:=.fn 70 [.dptr [E5 l],.dptr [G0 x.G5,G0 x.Tier,U8 x.Half]]) [] O O O .optt G (fun hc=>G7 O O) ?_
  obtain⟨r8,hr8,h⟩:=Ge h
  refine Gd (u:=BL r8) [(19,.fn 70 [.dptr [E5 l],.dptr [G0 x.G5,G0 x.Tier,U8 x.Half]])] O O O .optt ⟨.all id,G⟩ (fun hc=>Rk (args:=[U8 1]) (caps:=[.dptr [E5 l],.dptr [G0 x.G5,G0 x.Tier,U8 x.Half]]) O O (M_slot_Held_1_w 1 l x r8 (Gv hc hr8)) tf_call_70 ⟨O,O,G⟩ O) ?_
  refine Gd (u:=BL ((decide (x.Half=0))&&r8)) [(18,BL (decide (x.Half=0))),(20,_)] O O O .scf ⟨.all id,.part,G⟩ (fun hc=>Qr O O O O) ?_
  refine Gd (u:=BL ((decide (x.Half=0))&&r8)) [(21,BL ((decide (x.Half=0))&&r8))] O O O .scf ⟨.all id,G⟩ (fun hc=>G7 O O) ?_
  refine Gd (u:=.fn 70 [.dptr [E5 l],.dptr [G0 x.G5,G0 x.Tier,U8 x.Half]]) [] O O O .optt G (fun hc=>G7 O O) ?_
  obtain⟨r9,hr9,h⟩:=Ge h
  refine Gd (u:=BL r9) [(23,.fn 70 [.dptr [E5 l],.dptr [G0 x.G5,G0 x.Tier,U8 x.Half]])] O O O .optt ⟨.all id,G⟩ (fun hc=>Rk (args:=[U8 2]) (caps:=[.dptr [E5 l],.dptr [G0 x.G5,G0 x.Tier,U8 x.Half]]) O O (M_slot_Held_1_w 2 l x r9 (Gv hc hr9)) tf_call_70 ⟨O,O,G⟩ O) ?_
  refine Gd (u:=BL (((decide (x.Half=0))&&r8)&&r9)) [(22,BL ((decide (x.Half=0))&&r8)),(24,_)] O O O .scf ⟨.all id,.part,G⟩ (fun hc=>Qr O O O O) ?_
  refine JLg (BL (r7||(((decide (x.Half=0))&&r8)&&r9))) (Y4 O O O O) ?_
  refine JLg (BL (r7||(((decide (x.Half=0))&&r8)&&r9))) (G9 O O) ?_
  refine G8 (hK6 _ _ ?_)
  refine Gu ?_
  exact⟨[BL (r7||(((decide (x.Half=0))&&r8)&&r9))],[],G,O,⟨⟨_,O,.conv (.same O)⟩,G⟩,O,congrArg (fun r:Bool=>(BL r:AV)) (Option.some.inj h)⟩

def M_slot_shares (a:Int) (b:Int):Option Bool:=
 some (((decide (a=b))||(decide (a=0)))||(decide (b=0)))
theorem M_slot_shares_w (a:Int) (b:Int) (r:Bool) (h:M_slot_shares a b=some r):Pure Tryz.prog 72 [U8 a,U8 b] (·=BL r):=by
 unfold M_slot_shares at h
 refine H9 [.tmp 4] Tryz.func72 O O ?_
 refine G6 fun K1 hK1=>G3 ?_
 refine JLg (BL false) (G9 O O) ?_
 refine G8 (hK1 _ _ ?_)
 refine G6 fun K2 hK2=>G3 ?_
 refine JLg (U8 a) (G7 O O) ?_
 refine JLg (U8 b) (G7 O O) ?_
 refine JLg (BL (decide (a=b))) (Qb O O O) ?_
 refine JLg (BL (decide (a=b))) (G7 O O) ?_
 refine Gd (u:=U8 a) [] O O O .scf G (fun hc=>G7 O O) ?_
 refine Gd (u:=BL (decide (a=0))) [(9,U8 a)] O O O .scf ⟨.all id,G⟩ (fun hc=>Qb O O O) ?_
 refine JLg (BL ((decide (a=b))||(decide (a=0)))) (Y4 O O O O) ?_
 refine JLg (BL ((decide (a=b))||(decide (a=0)))) (G7 O O) ?_
 refine Gd (u:=U8 b) [] O O O .scf G (fun hc=>G7 O O) ?_
 refine Gd (u:=BL (decide (b=0))) [(13,U8 b)] O O O .scf ⟨.all id,G⟩ (fun hc=>Qb O O O) ?_
 refine JLg (BL (((decide (a=b))||(decide (a=0)))||(decide (b=0)))) (Y4 O O O O) ?_
 refine JLg (BL (((decide (a=b))||(decide (a=0)))||(decide (b=0)))) (G9 O O) ?_
 refine G8 (hK2 _ _ ?_)
 refine Gu ?_
 exact⟨[BL (((decide (a=b))||(decide (a=0)))||(decide (b=0)))],[],G,O,⟨⟨_,O,.conv (.same O)⟩,G⟩,O,congrArg (fun r:Bool=>(BL r:AV)) (Option.some.inj h)⟩

def M_slot_Meet (a:Slot) (b:Slot):Option Bool:=
 bnd (bif ((decide (a.G5=b.G5))&&(decide (a.Tier=b.Tier))) then M_slot_shares a.Half b.Half else some default) fun r3=>
 some (((decide (a.G5=b.G5))&&(decide (a.Tier=b.Tier)))&&r3)
theorem M_slot_Meet_w (a:Slot) (b:Slot) (r:Bool) (h:M_slot_Meet a b=some r):Pure Tryz.prog 43 [.agg [G0 a.G5,G0 a.Tier,U8 a.Half],.agg [G0 b.G5,G0 b.Tier,U8 b.Half]] (·=BL r):=by
 unfold M_slot_Meet at h
 refine H9 [.tmp 4] Tryz.func43 O O ?_
 refine G6 fun K1 hK1=>G3 ?_
 refine JLg (.ptr 1127 0) (Q1 (u:=.agg [G0 a.G5,G0 a.Tier,U8 a.Half]) (cs:=[G0 a.G5,G0 a.Tier,U8 a.Half]) 1127 O O O O O) ?_
 refine JLg (.ptr 1128 0) (Q1 (u:=.agg [G0 b.G5,G0 b.Tier,U8 b.Half]) (cs:=[G0 b.G5,G0 b.Tier,U8 b.Half]) 1128 O O O O O) ?_
 refine JLg (BL false) (G9 O O) ?_
 refine G8 (hK1 _ _ ?_)
 refine Gk [(2,.dptr [G0 a.G5,G0 a.Tier,U8 a.Half]),(3,.ptr 1128 0)] [(1128,.box 57 [G0 b.G5,G0 b.Tier,U8 b.Half])] 1127 rfl rfl rfl ⟨⟨_,rfl,.boxEq rfl rfl⟩,G⟩ rfl (by exact⟨.ptr,.conv (.same rfl),G⟩) ?_
 refine Gk [(2,.dptr [G0 a.G5,G0 a.Tier,U8 a.Half]),(3,.dptr [G0 b.G5,G0 b.Tier,U8 b.Half])] [] 1128 rfl rfl rfl G rfl (by exact⟨.conv (.same rfl),.ptr,G⟩) ?_
 refine G6 fun K2 hK2=>G3 ?_
 refine JLg (.dptr [G0 a.G5,G0 a.Tier,U8 a.Half]) (Gc J8 O O O) ?_
 refine JLg (G0 a.G5) (Gf Gb O O O) ?_
 refine JLg (.dptr [G0 b.G5,G0 b.Tier,U8 b.Half]) (Gc J8 O O O) ?_
 refine JLg (G0 b.G5) (Gf Gb O O O) ?_
 refine JLg (BL (decide (a.G5=b.G5))) (Qb O O O) ?_
 refine JLg (BL (decide (a.G5=b.G5))) (G7 O O) ?_
 refine Gd (u:=.dptr [G0 a.Tier,U8 a.Half]) [] O O O .sct G (fun hc=>Gc Q7 O O O) ?_
 refine Gd (u:=G0 a.Tier) [(11,.dptr [G0 a.Tier,U8 a.Half])] O O O .sct ⟨.all id,G⟩ (fun hc=>Gf Gb O O O) ?_
 refine Gd (u:=.dptr [G0 b.Tier,U8 b.Half]) [] O O O .sct G (fun hc=>Gc Q7 O O O) ?_
 refine Gd (u:=G0 b.Tier) [(13,.dptr [G0 b.Tier,U8 b.Half])] O O O .sct ⟨.all id,G⟩ (fun hc=>Gf Gb O O O) ?_
 refine Gd (u:=BL (decide (a.Tier=b.Tier))) [(12,G0 a.Tier),(14,G0 b.Tier)] O O O .sct ⟨.all id,.all id,G⟩ (fun hc=>Qb O O O) ?_
 refine JLg (BL ((decide (a.G5=b.G5))&&(decide (a.Tier=b.Tier)))) (Qr O O O O) ?_
 refine JLg (BL ((decide (a.G5=b.G5))&&(decide (a.Tier=b.Tier)))) (G7 O O) ?_
 refine Gd (u:=.dptr [U8 a.Half]) [] O O O .sct G (fun hc=>Gc Qx O O O) ?_
 refine Gd (u:=U8 a.Half) [(18,.dptr [U8 a.Half])] O O O .sct ⟨.all id,G⟩ (fun hc=>Gf Hx O O O) ?_
 refine Gd (u:=.dptr [U8 b.Half]) [] O O O .sct G (fun hc=>Gc Qx O O O) ?_
 refine Gd (u:=U8 b.Half) [(20,.dptr [U8 b.Half])] O O O .sct ⟨.all id,G⟩ (fun hc=>Gf Hx O O O) ?_
 obtain⟨r3,hr3,h⟩:=Ge h
 refine Gd (u:=BL r3) [(19,U8 a.Half),(21,U8 b.Half)] O O O .sct ⟨.all id,.all id,G⟩ (fun hc=>H1 (args:=[U8 a.Half,U8 b.Half]) O (M_slot_shares_w a.Half b.Half r3 (Gv hc hr3)) tf_call_72 ⟨O,O,O,O,G⟩) ?_
 refine JLg (BL (((decide (a.G5=b.G5))&&(decide (a.Tier=b.Tier)))&&r3)) (Qr O O O O) ?_
 refine JLg (BL (((decide (a.G5=b.G5))&&(decide (a.Tier=b.Tier)))&&r3)) (G9 O O) ?_
 refine G8 (hK2 _ _ ?_)
 refine Gu ?_
 exact⟨[BL (((decide (a.G5=b.G5))&&(decide (a.Tier=b.Tier)))&&r3)],[],G,O,⟨⟨_,O,.conv (.same O)⟩,G⟩,O,congrArg (fun r:Bool=>(BL r:AV)) (Option.some.inj h)⟩

def M_stow_tall (b:Gp):Option Int:=
 bif b.High then
 (some 2896)
 else
 (some 2591)
theorem M_stow_tall_w (b:Gp) (r:Int) (h:M_stow_tall b=some r):Pure Tryz.prog 92 [.agg (Gp.cs b)] (·=G0 r):=by
 unfold M_stow_tall at h
 refine H9 [.tmp 2] Tryz.func92 O O ?_
 refine G6 fun K1 hK1=>G3 ?_
 refine JLg (.ptr 1175 0) (Q1 (u:=.agg (Gp.cs b)) (cs:=(Gp.cs b)) 1175 O O O O O) ?_
 refine JLg (G0 0) (G9 O O) ?_
 refine G8 (hK1 _ _ ?_)
 refine Gk [(1,Eh b)] [] 1175 rfl rfl rfl G rfl (by exact⟨.ptr,G⟩) ?_
 refine G6 (fun K2 hK2=>?_)
 refine G6 fun K3 hK3=>G3 ?_
 refine JLg (.dptr [BL b.High,G0 b.Kilos,G0 b.Load,G0 b.Discharge,U8 b.Class,BL b.Reefer]) (Gc tf_field_61_3 O O O) ?_
 refine JLg (BL b.High) (Gf Qj O O O) ?_
 refine G8 (hK3 _ _ ?_)
 refine Gh O (fun hb=>?_) (fun hb=>?_)
 ·
  replace h:=Gv hb h
  refine G6 fun K4 hK4=>G3 ?_
  refine JLg (G0 2896) (G9 O O) ?_
  refine G8 (hK4 _ _ ?_)
  refine Gu ?_
  exact⟨[G0 2896],[],G,O,⟨⟨_,O,.conv (.same O)⟩,G⟩,O,congrArg (fun r:Int=>(G0 r:AV)) (Option.some.inj h)⟩
 ·
  replace h:=Hp hb h
  refine Gj ?_
  refine hK2 _ _ ?_
  refine G6 fun K5 hK5=>G3 ?_
  refine JLg (G0 2591) (G9 O O) ?_
  refine G8 (hK5 _ _ ?_)
  refine Gu ?_
  exact⟨[G0 2591],[],G,O,⟨⟨_,O,.conv (.same O)⟩,G⟩,O,congrArg (fun r:Int=>(G0 r:AV)) (Option.some.inj h)⟩

def M_stow_Height (boxes:List Gp) (l:List G2) (column:Int) (half:Int):Option Int:=
 each (fun y27 i27 (s27:Int) nx27=>
  jp (fun kj30=>
   bif ((decide (y27.Slot.G5=column))&&((decide (y27.Slot.Half=half))||(decide (y27.Slot.Half=0)))) then
   (bnd (M_stow_Find boxes y27.Gp) fun r34=>
    bif r34.2 then
    (bnd (M_stow_tall r34.1) fun r36=>
     chk (s27+r36) fun v37=>
     kj30 v37)
    else
    (kj30 s27))
   else
   (kj30 s27)) fun(j30:Int)=>
  nx27 j30)
 (fun(s27:Int)=>
  some s27) l 0 0
theorem M_stow_Height_w (boxes:List Gp) (l:List G2) (column:Int) (half:Int) (r:Int) (h:M_stow_Height boxes l column half=some r):Pure Tryz.prog 73 [E2 boxes,E0 l,G0 column,U8 half] (·=G0 r):=by
 unfold M_stow_Height at h
 refine H9 [.tmp 8] Tryz.func73 O O ?_
 refine G6 fun K1 hK1=>G3 ?_
 refine JLg (G0 0) (G9 O O) ?_
 refine G8 (hK1 _ _ ?_)
 refine G6 fun K2 hK2=>G3 ?_
 refine JLg (G0 0) (G9 O O) ?_
 refine G8 (hK2 _ _ ?_)
 refine G6 (fun K3 hK3=>?_)
 refine G6 fun K4 hK4=>G3 ?_
 refine JLg (E0 l) (G7 O O) ?_
 refine Hs (f:=G2.av) (xs:=l) Gx O O (fun hm15=>?_) O O O
 refine JLg (G0 0) (G7 O O) ?_
 refine G8 (hK4 _ _ ?_)
 refine Gg ?_
 obtain⟨b27,kx27,hb27,hkx27,h⟩:=Hu h
 refine H7 (fun i27 (s27:Int)=>each b27 kx27 (List.drop i27 l) i27 s27=some r) (fun i27 s27=>[(0,E2 boxes),(2,G0 column),(3,U8 half),(9,G0 s27),(14,E0 l),(15,Em l.length),(16,Em i27)]) (fun i27 s27=>[]) (fun i27=>l.length - i27) 0 0 h ⟨(by repeat' constructor),G,rfl⟩ ?_
 clear h
 intro i27 s27 hi27 K27 e27
 refine G6 fun K28 hK28=>G3 ?_
 refine JLg (BL (decide ((i27:Int) < (l.length:Int)))) (Hy O O O) ?_
 refine G8 (hK28 _ _ ?_)
 refine G6 (fun K29 hK29=>?_)
 refine Gh O (fun hb=>?_) (fun hb=>?_)
 ·
  have hk27:=J9 hb
  obtain⟨y27,nx27,hy27,hn27,h⟩:=Hn hi27 hk27
  replace h:=app4 hb27 h
  refine Gj ?_
  refine hK29 _ _ ?_
  obtain⟨kj30,hkj30,h⟩:=Qd h
  refine Jq (fun j30:Int=>kj30 j30=some r) (fun j30=>[(0,E2 boxes),(2,G0 column),(3,U8 half),(9,G0 j30),(14,E0 l),(15,Em l.length),(16,Em i27)]) (fun j30=>[]) (fun Kj30 ej30=>?_) ?_
  ·
   refine Gg ?_
   refine G6 fun K31 hK31=>G3 ?_
   refine JLg (Ef y27) (H0 (f:=G2.av) (xs:=l) (y:=y27) O O O Gx hy27 O) ?_
   refine JLg (.agg (G2.cs y27)) (Gi Jf O O O) ?_
   refine JLg (.ptr 1157 0) (Hi 1157 4 Jb O O) ?_
   refine Hj (u:=.junk) (H2 (u:=.agg (G2.cs y27)) (ds:=[G0 y27.Gp,G0 y27.Slot.G5,G0 y27.Slot.Tier,U8 y27.Slot.Half]) Jz O O O O O O O O) ?_
   refine G8 (hK31 _ _ ?_)
   refine Gk [(0,E2 boxes),(2,G0 column),(3,U8 half),(9,G0 s27),(11,Ef y27),(14,E0 l),(15,Em l.length),(16,Em i27)] [] 1157 rfl rfl rfl G rfl (by repeat' (first | exact .ptr | constructor)) ?_
   refine G6 fun K32 hK32=>G3 ?_
   refine JLg (Eg y27.Slot) (Gc J1 O O O) ?_
   refine JLg (Eg y27.Slot) (Gc J8 O O O) ?_
   refine JLg (G0 y27.Slot.G5) (Gf Gb O O O) ?_
   refine JLg (G0 column) (G7 O O) ?_
   refine JLg (BL (decide (y27.Slot.G5=column))) (Qb O O O) ?_
   refine JLg (BL (decide (y27.Slot.G5=column))) (G7 O O) ?_
   refine Gd (u:=Eg y27.Slot) [] O O O .sct G (fun hc=>Gc J1 O O O) ?_
   refine Gd (u:=.dptr [U8 y27.Slot.Half]) [(26,Eg y27.Slot)] O O O .sct ⟨.all id,G⟩ (fun hc=>Gc Qx O O O) ?_
   refine Gd (u:=U8 y27.Slot.Half) [(27,.dptr [U8 y27.Slot.Half])] O O O .sct ⟨.all id,G⟩ (fun hc=>Gf Hx O O O) ?_
   refine Gd (u:=U8 half) [] O O O .sct G (fun hc=>G7 O O) ?_
   refine Gd (u:=BL (decide (y27.Slot.Half=half))) [(28,U8 y27.Slot.Half),(29,U8 half)] O O O .sct ⟨.all id,.all id,G⟩ (fun hc=>Qb O O O) ?_
   refine Gd (u:=BL (decide (y27.Slot.Half=half))) [(30,BL (decide (y27.Slot.Half=half)))] O O O .sct ⟨.all id,G⟩ (fun hc=>G7 O O) ?_
   refine Gd (u:=Eg y27.Slot) [] O O O .optf G (fun hc=>Gc J1 O O O) ?_
   refine Gd (u:=.dptr [U8 y27.Slot.Half]) [(32,Eg y27.Slot)] O O O .optf ⟨.all id,G⟩ (fun hc=>Gc Qx O O O) ?_
   refine Gd (u:=U8 y27.Slot.Half) [(33,.dptr [U8 y27.Slot.Half])] O O O .optf ⟨.all id,G⟩ (fun hc=>Gf Hx O O O) ?_
   refine Gd (u:=BL (decide (y27.Slot.Half=0))) [(34,U8 y27.Slot.Half)] O O O .optf ⟨.all id,G⟩ (fun hc=>Qb O O O) ?_
   refine Gd (u:=BL ((decide (y27.Slot.Half=half))||(decide (y27.Slot.Half=0)))) [(31,BL (decide (y27.Slot.Half=half))),(35,_)] O O O .sct ⟨.all id,.part,G⟩ (fun hc=>Y4 O O O O) ?_
   refine JLg (BL ((decide (y27.Slot.G5=column))&&((decide (y27.Slot.Half=half))||(decide (y27.Slot.Half=0))))) (Qr O O O O) ?_
   refine G8 (hK32 _ _ ?_)
   refine Gh O (fun hb=>?_) (fun hb=>?_)
   ·
    replace h:=Gv hb h
    refine G6 fun K33 hK33=>G3 ?_
    refine JLg (E2 boxes) (G7 O O) ?_
    refine JLg (Ef y27) (Gc J5 O O O) ?_
    refine JLg (G0 y27.Gp) (Gf Gb O O O) ?_
    obtain⟨r34,hr34,h⟩:=Ge h
    refine JLg (.tup [.agg (Gp.cs r34.1),BL r34.2]) (H1 (args:=[E2 boxes,G0 y27.Gp]) O (M_stow_Find_w boxes y27.Gp r34 hr34) tf_call_40 ⟨O,O,O,O,G⟩) ?_
    refine JLg (.tup [.agg (Gp.cs r34.1),BL r34.2]) (G7 O O) ?_
    refine JLg (.agg (Gp.cs r34.1)) (Hq O O O) ?_
    refine JLg (BL r34.2) (Hq O O O) ?_
    refine JLg (.ptr 1158 0) (Hi 1158 9 R6 O O) ?_
    refine Hj (u:=.junk) (H2 (u:=.agg (Gp.cs r34.1)) (ds:=(Gp.cs r34.1)) Rr O O O O O O O O) ?_
    refine JLg (BL r34.2) (G9 O O) ?_
    refine G8 (hK33 _ _ ?_)
    refine Gk [(0,E2 boxes),(2,G0 column),(3,U8 half),(9,G0 s27),(12,Eh r34.1),(13,BL r34.2),(14,E0 l),(15,Em l.length),(16,Em i27)] [] 1158 rfl rfl rfl G rfl (by repeat' (first | exact .ptr | constructor)) ?_
    refine G6 fun K35 hK35=>G3 ?_
    refine JLg (BL r34.2) (G7 O O) ?_
    refine G8 (hK35 _ _ ?_)
    refine Gh O (fun hb=>?_) (fun hb=>?_)
    ·
     replace h:=Gv hb h
     refine G3 ?_
     refine JLg (G0 s27) (G7 O O) ?_
     refine JLg (.agg (Gp.cs r34.1)) (Gi Rq O O O) ?_
     obtain⟨r36,hr36,h⟩:=Ge h
     refine JLg (G0 r36) (H1 (args:=[.agg (Gp.cs r34.1)]) O (M_stow_tall_w r34.1 r36 hr36) tf_call_92 ⟨O,O,G⟩) ?_
     obtain⟨v37,hv37,h⟩:=Hm h
     refine JLg (G0 v37) (Ht hv37 O O O) ?_
     refine JLg (G0 v37) (G9 O O) ?_
     refine G8 ?_
     exact ej30 _ _ v37 h ⟨(by repeat' constructor),G,rfl⟩
    ·
     replace h:=Hp hb h
     refine Gj ?_
     exact ej30 _ _ s27 h ⟨(by repeat' constructor),G,rfl⟩
   ·
    replace h:=Hp hb h
    refine Gj ?_
    exact ej30 _ _ s27 h ⟨(by repeat' constructor),G,rfl⟩
  ·intro j30 h
   replace h:=app1 hkj30 h
   refine G3 ?_
   refine JLg (G0 ((i27+1:Nat):Int)) (Ht (Hc hk27 hm15) O O O) ?_
   refine JLg (G0 ((i27+1:Nat):Int)) (G7 O O) ?_
   refine G8 ?_
   exact e27 _ _ (i27+1) j30 (app1 hn27 h) (by omega) ⟨(by repeat' constructor),G,rfl⟩
 ·
  have h:=app1 hkx27 (Ho hi27 (H3 hb))
  refine Hk ?_
  refine hK3 _ _ ?_
  refine G6 fun K38 hK38=>G3 ?_
  refine JLg (G0 s27) (G7 O O) ?_
  refine JLg (G0 s27) (G9 O O) ?_
  refine G8 (hK38 _ _ ?_)
  refine Gu ?_
  exact⟨[G0 s27],[],G,O,⟨⟨_,O,.conv (.same O)⟩,G⟩,O,congrArg (fun r:Int=>(G0 r:AV)) (Option.some.inj h)⟩

def M_stow_fits (s:Gz) (boxes:List Gp) (l:List G2) (column:Int):Option Bool:=
 Jy s.Columns column fun y3=>
 bnd (bif (!(decide (y3.Height≤0))) then M_stow_Height boxes l column 1 else some default) fun r6=>
 bnd (bif ((!(decide (y3.Height≤0)))&&(decide (r6≤y3.Height))) then M_stow_Height boxes l column 2 else some default) fun r7=>
 some ((decide (y3.Height≤0))||((decide (r6≤y3.Height))&&(decide (r7≤y3.Height))))
theorem M_stow_fits_w (s:Gz) (boxes:List Gp) (l:List G2) (column:Int) (r:Bool) (h:M_stow_fits s boxes l column=some r):Pure Tryz.prog 44 [.agg (Gz.cs s),E2 boxes,E0 l,G0 column] (·=BL r):=by
 unfold M_stow_fits at h
 refine H9 [.tmp 8] Tryz.func44 O O ?_
 refine G6 fun K1 hK1=>G3 ?_
 refine JLg (.ptr 1129 0) (Q1 (u:=.agg (Gz.cs s)) (cs:=(Gz.cs s)) 1129 O O O O O) ?_
 refine JLg (BL false) (G9 O O) ?_
 refine G8 (hK1 _ _ ?_)
 refine Gk [(1,E2 boxes),(2,E0 l),(3,G0 column),(4,Ee s)] [] 1129 rfl rfl rfl G rfl (by repeat' (first | exact .ptr | constructor)) ?_
 refine G6 fun K2 hK2=>G3 ?_
 refine JLg (Ee s) (Gc J6 O O O) ?_
 refine JLg (E4 s.Columns) (Gf Jd O O O) ?_
 refine JLg (G0 column) (G7 O O) ?_
 obtain⟨m4,y3,hm4,hy3,h⟩:=R3 h
 refine JLg (Ei y3) (H0 (f:=G5.av) (xs:=s.Columns) (y:=y3) O O O J7 hy3 hm4) ?_
 refine JLg (.dptr ((G5.cs y3).drop 4)) (Gc tf_field_70_4 O O O) ?_
 refine JLg (G0 y3.Height) (Gf Gb O O O) ?_
 refine JLg (G0 y3.Height) (G9 O O) ?_
 refine G8 (hK2 _ _ ?_)
 refine G6 fun K5 hK5=>G3 ?_
 refine JLg (G0 y3.Height) (G7 O O) ?_
 refine JLg (BL (decide (y3.Height≤0))) (A_leq O O O) ?_
 refine JLg (BL (decide (y3.Height≤0))) (G7 O O) ?_
 refine Gd (u:=E2 boxes) [] O O O .scf G (fun hc=>G7 O O) ?_
 refine Gd (u:=E0 l) [] O O O .scf G (fun hc=>G7 O O) ?_
 refine Gd (u:=G0 column) [] O O O .scf G (fun hc=>G7 O O) ?_
 obtain⟨r6,hr6,h⟩:=Ge h
 refine Gd (u:=G0 r6) [(19,E2 boxes),(20,E0 l),(21,G0 column)] O O O .scf ⟨.all id,.all id,.all id,G⟩ (fun hc=>H1 (args:=[E2 boxes,E0 l,G0 column,U8 1]) O (M_stow_Height_w boxes l column 1 r6 (Gv hc hr6)) tf_call_73 ⟨O,O,O,O,O,O,O,O,G⟩) ?_
 refine Gd (u:=G0 y3.Height) [] O O O .scf G (fun hc=>G7 O O) ?_
 refine Gd (u:=BL (decide (r6≤y3.Height))) [(22,G0 r6),(23,G0 y3.Height)] O O O .scf ⟨.all id,.all id,G⟩ (fun hc=>A_leq O O O) ?_
 refine Gd (u:=BL (decide (r6≤y3.Height))) [(24,BL (decide (r6≤y3.Height)))] O O O .scf ⟨.all id,G⟩ (fun hc=>G7 O O) ?_
 refine Gd (u:=E2 boxes) [] O O O .optt G (fun hc=>G7 O O) ?_
 refine Gd (u:=E0 l) [] O O O .optt G (fun hc=>G7 O O) ?_
 refine Gd (u:=G0 column) [] O O O .optt G (fun hc=>G7 O O) ?_
 obtain⟨r7,hr7,h⟩:=Ge h
 refine Gd (u:=G0 r7) [(26,E2 boxes),(27,E0 l),(28,G0 column)] O O O .optt ⟨.all id,.all id,.all id,G⟩ (fun hc=>H1 (args:=[E2 boxes,E0 l,G0 column,U8 2]) O (M_stow_Height_w boxes l column 2 r7 (Gv hc hr7)) tf_call_73 ⟨O,O,O,O,O,O,O,O,G⟩) ?_
 refine Gd (u:=G0 y3.Height) [] O O O .optt G (fun hc=>G7 O O) ?_
 refine Gd (u:=BL (decide (r7≤y3.Height))) [(29,G0 r7),(30,G0 y3.Height)] O O O .optt ⟨.all id,.all id,G⟩ (fun hc=>A_leq O O O) ?_
 refine Gd (u:=BL ((decide (r6≤y3.Height))&&(decide (r7≤y3.Height)))) [(25,BL (decide (r6≤y3.Height))),(31,_)] O O O .scf ⟨.all id,.part,G⟩ (fun hc=>Qr O O O O) ?_
 refine JLg (BL ((decide (y3.Height≤0))||((decide (r6≤y3.Height))&&(decide (r7≤y3.Height))))) (Y4 O O O O) ?_
 refine JLg (BL ((decide (y3.Height≤0))||((decide (r6≤y3.Height))&&(decide (r7≤y3.Height))))) (G9 O O) ?_
 refine G8 (hK5 _ _ ?_)
 refine Gu ?_
 exact⟨[BL ((decide (y3.Height≤0))||((decide (r6≤y3.Height))&&(decide (r7≤y3.Height))))],[],G,O,⟨⟨_,O,.conv (.same O)⟩,G⟩,O,congrArg (fun r:Bool=>(BL r:AV)) (Option.some.inj h)⟩

def M_stow_Right (s:Gz) (boxes:List Gp) (l:List G2):Option Bool:=
 bnd (S_ship_Right s) fun r4=>
 bif (!r4) then
 (some false)
 else
 (bnd (M_stow_taken l) fun r7=>
  each (fun y10 i10 (s10:Unit) nx10=>
   bnd (M_stow_Find boxes y10.Gp) fun r16=>
   bnd (bif ((!(!r16.2))&&(decide (0 < (i10:Int)))) then chk ((i10:Int) - 1) some else some 0) fun v19=>
   bnd (bif ((!(!r16.2))&&(decide (0 < (i10:Int)))) then Jy l v19 some else some default) fun y20=>
   bnd (bif (!((!r16.2)||((decide (0 < (i10:Int)))&&(decide (y10.Gp≤y20.Gp))))) then M_slot_Right s y10.Slot r16.1.Size else some default) fun r21=>
   bnd (bif (!(((!r16.2)||((decide (0 < (i10:Int)))&&(decide (y10.Gp≤y20.Gp))))||(!r21))) then M_slot_Held y10.Slot r7 else some default) fun r22=>
   bif ((((!r16.2)||((decide (0 < (i10:Int)))&&(decide (y10.Gp≤y20.Gp))))||(!r21))||(!r22)) then
   (some false)
   else
   (bnd (natIn (i10:Int) r7.length) fun m25=>
    each (fun y42 i42 (s42:Unit) nx42=>
     bnd (M_slot_Meet y10.Slot y42) fun r48=>
     bif r48 then
     (some false)
     else
     (nx42 ()))
    (fun(s42:Unit)=>
     nx10 ()) (r7.take m25) 0 ()))
  (fun(s10:Unit)=>
   each (fun y64 i64 (s64:Unit) nx64=>
    bnd (M_stow_fits s boxes l (i64:Int)) fun r70=>
    bif (!r70) then
    (some false)
    else
    (nx64 ()))
   (fun(s64:Unit)=>
    some true) s.Columns 0 ()) l 0 ())
theorem M_stow_Right_w (s:Gz) (boxes:List Gp) (l:List G2) (r:Bool) (h:M_stow_Right s boxes l=some r):Pure Tryz.prog 18 [.agg (Gz.cs s),E2 boxes,E0 l] (·=BL r):=by
 unfold M_stow_Right at h
 refine H9 [.tmp 6] Tryz.func18 O O ?_
 refine G6 fun K1 hK1=>G3 ?_
 refine JLg (.ptr 1063 0) (Q1 (u:=.agg (Gz.cs s)) (cs:=(Gz.cs s)) 1063 O O O O O) ?_
 refine JLg (BL false) (G9 O O) ?_
 refine G8 (hK1 _ _ ?_)
 refine Gk [(1,E2 boxes),(2,E0 l),(3,Ee s)] [] 1063 rfl rfl rfl G rfl (by exact⟨.conv (.same rfl),.conv (.same rfl),.ptr,G⟩) ?_
 refine G6 (fun K2 hK2=>?_)
 refine G6 fun K3 hK3=>G3 ?_
 refine JLg (.agg (Gz.cs s)) (Gi J0 O O O) ?_
 obtain⟨r4,hr4,h⟩:=Ge h
 refine JLg (BL r4) (H1 (args:=[.agg (Gz.cs s)]) O (S_ship_Right_w.down s r4 hr4) tf_call_29 ⟨O,O,G⟩) ?_
 refine JLg (BL (!r4)) (Rj (b:=r4) O O) ?_
 refine G8 (hK3 _ _ ?_)
 refine Gh O (fun hb=>?_) (fun hb=>?_)
 ·
  replace h:=Gv hb h
  refine G6 fun K5 hK5=>G3 ?_
  refine JLg (BL false) (G9 O O) ?_
  refine G8 (hK5 _ _ ?_)
  refine Gu ?_
  exact⟨[BL false],[],G,O,⟨⟨_,O,.conv (.same O)⟩,G⟩,O,congrArg (fun r:Bool=>(BL r:AV)) (Option.some.inj h)⟩
 ·
  replace h:=Hp hb h
  refine Gj ?_
  refine hK2 _ _ ?_
  refine G6 fun K6 hK6=>G3 ?_
  refine JLg (E0 l) (G7 O O) ?_
  obtain⟨r7,hr7,h⟩:=Ge h
  refine JLg (E5 r7) (H1 (args:=[E0 l]) O (M_stow_taken_w l r7 hr7) tf_call_39 ⟨O,O,G⟩) ?_
  refine JLg (E5 r7) (G9 O O) ?_
  refine G8 (hK6 _ _ ?_)
  refine G6 (fun K8 hK8=>?_)
  refine G6 fun K9 hK9=>G3 ?_
  refine JLg (E0 l) (G7 O O) ?_
  refine Hs (f:=G2.av) (xs:=l) Gx O O (fun hm21=>?_) O O O
  refine JLg (G0 0) (G7 O O) ?_
  refine G8 (hK9 _ _ ?_)
  refine Gg ?_
  obtain⟨b10,kx10,hb10,hkx10,h⟩:=Hu h
  refine H7 (fun i10 (s10:Unit)=>each b10 kx10 (List.drop i10 l) i10 s10=some r) (fun i10 s10=>[(1,E2 boxes),(2,E0 l),(3,Ee s),(7,E5 r7),(20,E0 l),(21,Em l.length),(22,Em i10)]) (fun i10 s10=>[]) (fun i10=>l.length - i10) 0 () h ⟨(by repeat' constructor),G,rfl⟩ ?_
  clear h
  intro i10 s10 hi10 K10 e10
  refine G6 fun K11 hK11=>G3 ?_
  refine JLg (BL (decide ((i10:Int) < (l.length:Int)))) (Hy O O O) ?_
  refine G8 (hK11 _ _ ?_)
  refine G6 (fun K12 hK12=>?_)
  refine Gh O (fun hb=>?_) (fun hb=>?_)
  ·
   have hk10:=J9 hb
   obtain⟨y10,nx10,hy10,hn10,h⟩:=Hn hi10 hk10
   replace h:=app4 hb10 h
   refine Gj ?_
   refine hK12 _ _ ?_
   refine G6 (fun K13 hK13=>?_)
   refine Gg ?_
   refine G6 fun K14 hK14=>G3 ?_
   refine JLg (Em i10) (G7 O O) ?_
   refine JLg (Ef y10) (H0 (f:=G2.av) (xs:=l) (y:=y10) O O O Gx hy10 O) ?_
   refine JLg (.agg (G2.cs y10)) (Gi Jf O O O) ?_
   refine JLg (.ptr 1064 0) (Hi 1064 4 Jb O O) ?_
   refine JLg (Em i10) (G9 O O) ?_
   refine Hj (u:=.junk) (H2 (u:=.agg (G2.cs y10)) (ds:=[G0 y10.Gp,G0 y10.Slot.G5,G0 y10.Slot.Tier,U8 y10.Slot.Half]) Jz O O O O O O O O) ?_
   refine G8 (hK14 _ _ ?_)
   refine Gk [(1,E2 boxes),(2,E0 l),(3,Ee s),(7,E5 r7),(8,Em i10),(9,Ef y10),(20,E0 l),(21,Em l.length),(22,Em i10)] [] 1064 rfl rfl rfl G rfl (by repeat' (first | exact .ptr | constructor)) ?_
   refine G6 fun K15 hK15=>G3 ?_
   refine JLg (E2 boxes) (G7 O O) ?_
   refine JLg (Ef y10) (Gc J5 O O O) ?_
   refine JLg (G0 y10.Gp) (Gf Gb O O O) ?_
   obtain⟨r16,hr16,h⟩:=Ge h
   refine JLg (.tup [.agg (Gp.cs r16.1),BL r16.2]) (H1 (args:=[E2 boxes,G0 y10.Gp]) O (M_stow_Find_w boxes y10.Gp r16 hr16) tf_call_40 ⟨O,O,O,O,G⟩) ?_
   refine JLg (.tup [.agg (Gp.cs r16.1),BL r16.2]) (G7 O O) ?_
   refine JLg (.agg (Gp.cs r16.1)) (Hq O O O) ?_
   refine JLg (BL r16.2) (Hq O O O) ?_
   refine JLg (.ptr 1065 0) (Hi 1065 9 R6 O O) ?_
   refine Hj (u:=.junk) (H2 (u:=.agg (Gp.cs r16.1)) (ds:=(Gp.cs r16.1)) Rr O O O O O O O O) ?_
   refine JLg (BL r16.2) (G9 O O) ?_
   refine G8 (hK15 _ _ ?_)
   refine Gk [(1,E2 boxes),(2,E0 l),(3,Ee s),(7,E5 r7),(8,Em i10),(9,Ef y10),(10,Eh r16.1),(11,BL r16.2),(20,E0 l),(21,Em l.length),(22,Em i10)] [] 1065 rfl rfl rfl G rfl (by repeat' (first | exact .ptr | constructor)) ?_
   refine G6 (fun K17 hK17=>?_)
   refine G6 (fun K18 hK18=>?_)
   obtain⟨v19,hv19,h⟩:=Ge h
   obtain⟨y20,hy20,h⟩:=Ge h
   obtain⟨r21,hr21,h⟩:=Ge h
   obtain⟨r22,hr22,h⟩:=Ge h
   refine Qp [] [0,0,0,0,0,0,0,0,0,0,0,0,0,0,0,0,0,0,0,0,0,0,0,0,0,0,0,0,0,0,0,0,0] [0,0,0,0,0,0,0,0,0,0,0,0,0,0,0,0,0,0,0,0,0,0,0,0,0,0,0,0,0,0,0,0,0] [[]] Q5 (by kernel_rfl) rfl rfl ?_
   refine Gn (u:=BL r16.2) O O ⟨Gs (G7 O O) O,G⟩ ?_
   refine Gn (u:=BL (!r16.2)) O O ⟨Gs (Rj (b:=r16.2) O O) O,G⟩ ?_
   refine Gn (u:=BL (!r16.2)) O O ⟨Gs (G7 O O) O,G⟩ ?_
   refine Gn (u:=.opt (!(!r16.2)) (Em i10)) O O ⟨Hf [] O O O .scf G (fun hc=>G7 O O) O,G⟩ ?_
   refine Gn (u:=.opt (!(!r16.2)) (BL (decide (0 < (i10:Int))))) O O ⟨Hf [(37,Em i10)] O O O .scf ⟨.all id,G⟩ (fun hc=>Yd O O O) O,G⟩ ?_
   refine Gn (u:=.opt (!(!r16.2)) (BL (decide (0 < (i10:Int))))) O O ⟨Hf [(38,BL (decide (0 < (i10:Int))))] O O O .scf ⟨.all id,G⟩ (fun hc=>G7 O O) O,G⟩ ?_
   refine Gn (u:=.opt ((!(!r16.2))&&(decide (0 < (i10:Int)))) (Ef y10)) O O ⟨Hf [] O O O .optt G (fun hc=>Gc J5 O O O) O,G⟩ ?_
   refine Gn (u:=.opt ((!(!r16.2))&&(decide (0 < (i10:Int)))) (G0 y10.Gp)) O O ⟨Hf [(40,Ef y10)] O O O .optt ⟨.all id,G⟩ (fun hc=>Gf Gb O O O) O,G⟩ ?_
   refine Gn (u:=.opt ((!(!r16.2))&&(decide (0 < (i10:Int)))) (E0 l)) O O ⟨Hf [] O O O .optt G (fun hc=>G7 O O) O,G⟩ ?_
   refine Gn (u:=.opt ((!(!r16.2))&&(decide (0 < (i10:Int)))) (Em i10)) O O ⟨Hf [] O O O .optt G (fun hc=>G7 O O) O,G⟩ ?_
   refine Gn (u:=.opt ((!(!r16.2))&&(decide (0 < (i10:Int)))) (G0 v19)) O O ⟨Hf [(43,Em i10)] O O O .optt ⟨.all id,G⟩ (fun hc=>Rz (chk_some (Gv hc hv19)) O O O) O,G⟩ ?_
   refine Gn (u:=.opt ((!(!r16.2))&&(decide (0 < (i10:Int)))) (Ef y20)) O O ⟨Hf [(42,E0 l),(44,G0 v19)] O O O .optt ⟨.all id,.all id,G⟩ (fun hc=>(match Rv (Gv hc hy20) with | ⟨_,hm_,hy_⟩=>H0 (f:=G2.av) (xs:=l) (y:=y20) O O O Gx hy_ hm_)) O,G⟩ ?_
   refine Gn (u:=.opt ((!(!r16.2))&&(decide (0 < (i10:Int)))) (Ef y20)) O O ⟨Hf [(45,Ef y20)] O O O .optt ⟨.all id,G⟩ (fun hc=>Gc J5 O O O) O,G⟩ ?_
   refine Gn (u:=.opt ((!(!r16.2))&&(decide (0 < (i10:Int)))) (G0 y20.Gp)) O O ⟨Hf [(46,Ef y20)] O O O .optt ⟨.all id,G⟩ (fun hc=>Gf Gb O O O) O,G⟩ ?_
   refine Gn (u:=.opt ((!(!r16.2))&&(decide (0 < (i10:Int)))) (BL (decide (y10.Gp≤y20.Gp)))) O O ⟨Hf [(41,G0 y10.Gp),(47,G0 y20.Gp)] O O O .optt ⟨.all id,.all id,G⟩ (fun hc=>A_leq O O O) O,G⟩ ?_
   refine Gn (u:=.opt (!(!r16.2)) (BL ((decide (0 < (i10:Int)))&&(decide (y10.Gp≤y20.Gp))))) O O ⟨Hf [(39,BL (decide (0 < (i10:Int)))),(48,_)] O O O .scf ⟨.all id,.part,G⟩ (fun hc=>Qr O O O O) O,G⟩ ?_
   refine Gn (u:=BL ((!r16.2)||((decide (0 < (i10:Int)))&&(decide (y10.Gp≤y20.Gp))))) O O ⟨Gs (Y4 O O O O) O,G⟩ ?_
   refine Gn (u:=BL ((!r16.2)||((decide (0 < (i10:Int)))&&(decide (y10.Gp≤y20.Gp))))) O O ⟨Gs (G7 O O) O,G⟩ ?_
   refine Gn (u:=.opt (!((!r16.2)||((decide (0 < (i10:Int)))&&(decide (y10.Gp≤y20.Gp))))) (.agg (Gz.cs s))) O O ⟨Hf [] O O O .scf G (fun hc=>Gi J0 O O O) O,G⟩ ?_
   refine Gn (u:=.opt (!((!r16.2)||((decide (0 < (i10:Int)))&&(decide (y10.Gp≤y20.Gp))))) (Eg y10.Slot)) O O ⟨Hf [] O O O .scf G (fun hc=>Gc J1 O O O) O,G⟩ ?_
   refine Gn (u:=.opt (!((!r16.2)||((decide (0 < (i10:Int)))&&(decide (y10.Gp≤y20.Gp))))) (.agg (Slot.cs y10.Slot))) O O ⟨Hf [(53,Eg y10.Slot)] O O O .scf ⟨.all id,G⟩ (fun hc=>Gi Jp O O O) O,G⟩ ?_
   refine Gn (u:=.opt (!((!r16.2)||((decide (0 < (i10:Int)))&&(decide (y10.Gp≤y20.Gp))))) (.dptr ((Gp.cs r16.1).drop 2))) O O ⟨Hf [] O O O .scf G (fun hc=>Gc Yg O O O) O,G⟩ ?_
   refine Gn (u:=.opt (!((!r16.2)||((decide (0 < (i10:Int)))&&(decide (y10.Gp≤y20.Gp))))) (U8 r16.1.Size)) O O ⟨Hf [(55,.dptr ((Gp.cs r16.1).drop 2))] O O O .scf ⟨.all id,G⟩ (fun hc=>Gf Hx O O O) O,G⟩ ?_
   refine Gn (u:=.opt (!((!r16.2)||((decide (0 < (i10:Int)))&&(decide (y10.Gp≤y20.Gp))))) (BL r21)) O O ⟨Hf [(52,.agg (Gz.cs s)),(54,.agg (Slot.cs y10.Slot)),(56,U8 r16.1.Size)] O O O .scf ⟨.all id,.all id,.all id,G⟩ (fun hc=>H1 (args:=[.agg (Gz.cs s),.agg (Slot.cs y10.Slot),U8 r16.1.Size]) O (M_slot_Right_w s y10.Slot r16.1.Size r21 (Gv hc hr21)) tf_call_41 ⟨O,O,O,O,O,O,G⟩) O,G⟩ ?_
   refine Gn (u:=.opt (!((!r16.2)||((decide (0 < (i10:Int)))&&(decide (y10.Gp≤y20.Gp))))) (BL (!r21))) O O ⟨Hf [(57,BL r21)] O O O .scf ⟨.all id,G⟩ (fun hc=>Rj (b:=r21) O O) O,G⟩ ?_
   refine Gn (u:=BL (((!r16.2)||((decide (0 < (i10:Int)))&&(decide (y10.Gp≤y20.Gp))))||(!r21))) O O ⟨Gs (Y4 O O O O) O,G⟩ ?_
   refine Gn (u:=BL (((!r16.2)||((decide (0 < (i10:Int)))&&(decide (y10.Gp≤y20.Gp))))||(!r21))) O O ⟨Gs (G7 O O) O,G⟩ ?_
   refine Gn (u:=.opt (!(((!r16.2)||((decide (0 < (i10:Int)))&&(decide (y10.Gp≤y20.Gp))))||(!r21))) (Eg y10.Slot)) O O ⟨Hf [] O O O .scf G (fun hc=>Gc J1 O O O) O,G⟩ ?_
   refine Gn (u:=.opt (!(((!r16.2)||((decide (0 < (i10:Int)))&&(decide (y10.Gp≤y20.Gp))))||(!r21))) (.agg (Slot.cs y10.Slot))) O O ⟨Hf [(61,Eg y10.Slot)] O O O .scf ⟨.all id,G⟩ (fun hc=>Gi Jp O O O) O,G⟩ ?_
   refine Gn (u:=.opt (!(((!r16.2)||((decide (0 < (i10:Int)))&&(decide (y10.Gp≤y20.Gp))))||(!r21))) (E5 r7)) O O ⟨Hf [] O O O .scf G (fun hc=>G7 O O) O,G⟩ ?_
   refine Gn (u:=.opt (!(((!r16.2)||((decide (0 < (i10:Int)))&&(decide (y10.Gp≤y20.Gp))))||(!r21))) (BL r22)) O O ⟨Hf [(62,.agg (Slot.cs y10.Slot)),(63,E5 r7)] O O O .scf ⟨.all id,.all id,G⟩ (fun hc=>H1 (args:=[.agg (Slot.cs y10.Slot),E5 r7]) O (M_slot_Held_w y10.Slot r7 r22 (Gv hc hr22)) tf_call_42 ⟨O,O,O,O,G⟩) O,G⟩ ?_
   refine Gn (u:=.opt (!(((!r16.2)||((decide (0 < (i10:Int)))&&(decide (y10.Gp≤y20.Gp))))||(!r21))) (BL (!r22))) O O ⟨Hf [(64,BL r22)] O O O .scf ⟨.all id,G⟩ (fun hc=>Rj (b:=r22) O O) O,G⟩ ?_
   refine Gn (u:=BL ((((!r16.2)||((decide (0 < (i10:Int)))&&(decide (y10.Gp≤y20.Gp))))||(!r21))||(!r22))) O O ⟨Gs (Y4 O O O O) O,G⟩ ?_
   refine Ry ?_
   refine hK18 _ _ ?_
   refine Gh O (fun hb=>?_) (fun hb=>?_)
   ·
    replace h:=Gv hb h
    refine G6 fun K23 hK23=>G3 ?_
    refine JLg (BL false) (G9 O O) ?_
    refine G8 (hK23 _ _ ?_)
    refine Gu ?_
    exact⟨[BL false],[],G,O,⟨⟨_,O,.conv (.same O)⟩,G⟩,O,congrArg (fun r:Bool=>(BL r:AV)) (Option.some.inj h)⟩
   ·
    replace h:=Hp hb h
    refine Gj ?_
    refine hK17 _ _ ?_
    refine G6 fun K24 hK24=>G3 ?_
    refine JLg (E5 r7) (G7 O O) ?_
    refine JLg (Em i10) (G7 O O) ?_
    obtain⟨m25,hm25,h⟩:=Ge h
    refine JLg (E5 (r7.take m25)) (A_sliceHiM (f:=Slot.av) (xs:=r7) O O O R2 (natIn_out hm25)) ?_
    refine Hs (f:=Slot.av) (xs:=(r7.take m25)) R2 O O (fun hm70=>?_) O O O
    refine JLg (G0 0) (G7 O O) ?_
    refine G8 (hK24 _ _ ?_)
    refine Gg ?_
    obtain⟨b42,kx42,hb42,hkx42,h⟩:=Hu h
    refine H7 (fun i42 (s42:Unit)=>each b42 kx42 (List.drop i42 (r7.take m25)) i42 s42=some r) (fun i42 s42=>[(1,E2 boxes),(2,E0 l),(3,Ee s),(7,E5 r7),(9,Ef y10),(20,E0 l),(21,Em l.length),(22,Em i10),(69,E5 (r7.take m25)),(70,G0 ((r7.take m25).length:Int)),(71,Em i42)]) (fun i42 s42=>[]) (fun i42=>(r7.take m25).length - i42) 0 () h ⟨(by repeat' constructor),G,rfl⟩ ?_
    clear h
    intro i42 s42 hi42 K42 e42
    refine G6 fun K43 hK43=>G3 ?_
    refine JLg (BL (decide ((i42:Int) < ((r7.take m25).length:Int)))) (Hy O O O) ?_
    refine G8 (hK43 _ _ ?_)
    refine G6 (fun K44 hK44=>?_)
    refine Gh O (fun hb=>?_) (fun hb=>?_)
    ·
     have hk42:=J9 hb
     obtain⟨y42,nx42,hy42,hn42,h⟩:=Hn hi42 hk42
     replace h:=app4 hb42 h
     refine Gj ?_
     refine hK44 _ _ ?_
     refine G6 (fun K45 hK45=>?_)
     refine Gg ?_
     refine G6 fun K46 hK46=>G3 ?_
     refine JLg (Eg y42) (H0 (f:=Slot.av) (xs:=(r7.take m25)) (y:=y42) O O O R2 hy42 O) ?_
     refine JLg (.agg (Slot.cs y42)) (Gi Jp O O O) ?_
     refine JLg (.ptr 1066 0) (Hi 1066 3 Qz O O) ?_
     refine Hj (u:=.junk) (H2 (u:=.agg (Slot.cs y42)) (ds:=[G0 y42.G5,G0 y42.Tier,U8 y42.Half]) R8 O O O O O O O O) ?_
     refine G8 (hK46 _ _ ?_)
     refine Gk [(1,E2 boxes),(2,E0 l),(3,Ee s),(7,E5 r7),(9,Ef y10),(13,Eg y42),(20,E0 l),(21,Em l.length),(22,Em i10),(69,E5 (r7.take m25)),(70,G0 ((r7.take m25).length:Int)),(71,Em i42)] [] 1066 rfl rfl rfl G rfl (by repeat' (first | exact .ptr | constructor)) ?_
     refine G6 fun K47 hK47=>G3 ?_
     refine JLg (Eg y10.Slot) (Gc J1 O O O) ?_
     refine JLg (.agg (Slot.cs y10.Slot)) (Gi Jp O O O) ?_
     refine JLg (.agg (Slot.cs y42)) (Gi Jp O O O) ?_
     obtain⟨r48,hr48,h⟩:=Ge h
     refine JLg (BL r48) (H1 (args:=[.agg (Slot.cs y10.Slot),.agg (Slot.cs y42)]) O (M_slot_Meet_w y10.Slot y42 r48 hr48) tf_call_43 ⟨O,O,O,O,G⟩) ?_
     refine G8 (hK47 _ _ ?_)
     refine Gh O (fun hb=>?_) (fun hb=>?_)
     ·
      replace h:=Gv hb h
      refine G6 fun K49 hK49=>G3 ?_
      refine JLg (BL false) (G9 O O) ?_
      refine G8 (hK49 _ _ ?_)
      refine Gu ?_
      exact⟨[BL false],[],G,O,⟨⟨_,O,.conv (.same O)⟩,G⟩,O,congrArg (fun r:Bool=>(BL r:AV)) (Option.some.inj h)⟩
     ·
      replace h:=Hp hb h
      refine Gj ?_
      refine hK45 _ _ ?_
      refine G3 ?_
      refine JLg (G0 ((i42+1:Nat):Int)) (Ht (Hc hk42 hm70) O O O) ?_
      refine JLg (G0 ((i42+1:Nat):Int)) (G7 O O) ?_
      refine G8 ?_
      exact e42 _ _ (i42+1) () (app1 hn42 h) (by omega) ⟨(by repeat' constructor),G,rfl⟩
    ·
     have h:=app1 hkx42 (Ho hi42 (H3 hb))
     refine Hk ?_
     refine hK13 _ _ ?_
     refine G3 ?_
     refine JLg (G0 ((i10+1:Nat):Int)) (Ht (Hc hk10 hm21) O O O) ?_
     refine JLg (G0 ((i10+1:Nat):Int)) (G7 O O) ?_
     refine G8 ?_
     exact e10 _ _ (i10+1) () (app1 hn10 h) (by omega) ⟨(by repeat' constructor),G,rfl⟩
  ·
   have h:=app1 hkx10 (Ho hi10 (H3 hb))
   refine Hk ?_
   refine hK8 _ _ ?_
   refine G6 (fun K50 hK50=>?_)
   refine G6 fun K51 hK51=>G3 ?_
   refine JLg (Ee s) (Gc J6 O O O) ?_
   refine JLg (E4 s.Columns) (Gf Jd O O O) ?_
   refine Hs (f:=G5.av) (xs:=s.Columns) J7 O O (fun hm83=>?_) O O O
   refine JLg (G0 0) (G7 O O) ?_
   refine G8 (hK51 _ _ ?_)
   refine Gg ?_
   obtain⟨b64,kx64,hb64,hkx64,h⟩:=Hu h
   refine H7 (fun i64 (s64:Unit)=>each b64 kx64 (List.drop i64 s.Columns) i64 s64=some r) (fun i64 s64=>[(1,E2 boxes),(2,E0 l),(3,Ee s),(83,Em s.Columns.length),(84,Em i64)]) (fun i64 s64=>[]) (fun i64=>s.Columns.length - i64) 0 () h ⟨(by repeat' constructor),G,rfl⟩ ?_
   clear h
   intro i64 s64 hi64 K64 e64
   refine G6 fun K65 hK65=>G3 ?_
   refine JLg (BL (decide ((i64:Int) < (s.Columns.length:Int)))) (Hy O O O) ?_
   refine G8 (hK65 _ _ ?_)
   refine G6 (fun K66 hK66=>?_)
   refine Gh O (fun hb=>?_) (fun hb=>?_)
   ·
    have hk64:=J9 hb
    obtain⟨y64,nx64,hy64,hn64,h⟩:=Hn hi64 hk64
    replace h:=app4 hb64 h
    refine Gj ?_
    refine hK66 _ _ ?_
    refine G6 (fun K67 hK67=>?_)
    refine Gg ?_
    refine G6 fun K68 hK68=>G3 ?_
    refine JLg (Em i64) (G7 O O) ?_
    refine JLg (Em i64) (G9 O O) ?_
    refine G8 (hK68 _ _ ?_)
    refine G6 fun K69 hK69=>G3 ?_
    refine JLg (.agg (Gz.cs s)) (Gi J0 O O O) ?_
    refine JLg (E2 boxes) (G7 O O) ?_
    refine JLg (E0 l) (G7 O O) ?_
    refine JLg (Em i64) (G7 O O) ?_
    obtain⟨r70,hr70,h⟩:=Ge h
    refine JLg (BL r70) (H1 (args:=[.agg (Gz.cs s),E2 boxes,E0 l,Em i64]) O (M_stow_fits_w s boxes l (i64:Int) r70 hr70) tf_call_44 ⟨O,O,O,O,O,O,O,O,G⟩) ?_
    refine JLg (BL (!r70)) (Rj (b:=r70) O O) ?_
    refine G8 (hK69 _ _ ?_)
    refine Gh O (fun hb=>?_) (fun hb=>?_)
    ·
     replace h:=Gv hb h
     refine G6 fun K71 hK71=>G3 ?_
     refine JLg (BL false) (G9 O O) ?_
     refine G8 (hK71 _ _ ?_)
     refine Gu ?_
     exact⟨[BL false],[],G,O,⟨⟨_,O,.conv (.same O)⟩,G⟩,O,congrArg (fun r:Bool=>(BL r:AV)) (Option.some.inj h)⟩
    ·
     replace h:=Hp hb h
     refine Gj ?_
     refine hK67 _ _ ?_
     refine G3 ?_
     refine JLg (G0 ((i64+1:Nat):Int)) (Ht (Hc hk64 hm83) O O O) ?_
     refine JLg (G0 ((i64+1:Nat):Int)) (G7 O O) ?_
     refine G8 ?_
     exact e64 _ _ (i64+1) () (app1 hn64 h) (by omega) ⟨(by repeat' constructor),G,rfl⟩
   ·
    have h:=app1 hkx64 (Ho hi64 (H3 hb))
    refine Hk ?_
    refine hK50 _ _ ?_
    refine G6 fun K72 hK72=>G3 ?_
    refine JLg (BL true) (G9 O O) ?_
    refine G8 (hK72 _ _ ?_)
    refine Gu ?_
    exact⟨[BL true],[],G,O,⟨⟨_,O,.conv (.same O)⟩,G⟩,O,congrArg (fun r:Bool=>(BL r:AV)) (Option.some.inj h)⟩

def M_twistlocklaw23_holds (l:List G2) (id_:Int):Option Bool:=
 each (fun y18 i18 (s18:Unit) nx18=>
  bif decide (y18.Gp=id_) then
  (some true)
  else
  (nx18 ()))
 (fun(s18:Unit)=>
  some false) l 0 ()
theorem M_twistlocklaw23_holds_w (l:List G2) (id_:Int) (r:Bool) (h:M_twistlocklaw23_holds l id_=some r):Pure Tryz.prog 27 [E0 l,G0 id_] (·=BL r):=by
 unfold M_twistlocklaw23_holds at h
 refine H9 [.tmp 4] Tryz.func27 O O ?_
 refine G6 fun K1 hK1=>G3 ?_
 refine JLg (BL false) (G9 O O) ?_
 refine G8 (hK1 _ _ ?_)
 refine G6 (fun K2 hK2=>?_)
 refine G6 fun K3 hK3=>G3 ?_
 refine JLg (E0 l) (G7 O O) ?_
 refine Hs (f:=G2.av) (xs:=l) Gx O O (fun hm8=>?_) O O O
 refine JLg (G0 0) (G7 O O) ?_
 refine G8 (hK3 _ _ ?_)
 refine Gg ?_
 obtain⟨b18,kx18,hb18,hkx18,h⟩:=Hu h
 refine H7 (fun i18 (s18:Unit)=>each b18 kx18 (List.drop i18 l) i18 s18=some r) (fun i18 s18=>[(1,G0 id_),(7,E0 l),(8,Em l.length),(9,Em i18)]) (fun i18 s18=>[]) (fun i18=>l.length - i18) 0 () h ⟨(by repeat' constructor),G,rfl⟩ ?_
 clear h
 intro i18 s18 hi18 K18 e18
 refine G6 fun K19 hK19=>G3 ?_
 refine JLg (BL (decide ((i18:Int) < (l.length:Int)))) (Hy O O O) ?_
 refine G8 (hK19 _ _ ?_)
 refine G6 (fun K20 hK20=>?_)
 refine Gh O (fun hb=>?_) (fun hb=>?_)
 ·
  have hk18:=J9 hb
  obtain⟨y18,nx18,hy18,hn18,h⟩:=Hn hi18 hk18
  replace h:=app4 hb18 h
  refine Gj ?_
  refine hK20 _ _ ?_
  refine G6 (fun K21 hK21=>?_)
  refine Gg ?_
  refine G6 fun K22 hK22=>G3 ?_
  refine JLg (Ef y18) (H0 (f:=G2.av) (xs:=l) (y:=y18) O O O Gx hy18 O) ?_
  refine JLg (.agg (G2.cs y18)) (Gi Jf O O O) ?_
  refine JLg (.ptr 1095 0) (Hi 1095 4 Jb O O) ?_
  refine Hj (u:=.junk) (H2 (u:=.agg (G2.cs y18)) (ds:=[G0 y18.Gp,G0 y18.Slot.G5,G0 y18.Slot.Tier,U8 y18.Slot.Half]) Jz O O O O O O O O) ?_
  refine G8 (hK22 _ _ ?_)
  refine Gk [(1,G0 id_),(6,Ef y18),(7,E0 l),(8,Em l.length),(9,Em i18)] [] 1095 rfl rfl rfl G rfl (by repeat' (first | exact .ptr | constructor)) ?_
  refine G6 fun K23 hK23=>G3 ?_
  refine JLg (Ef y18) (Gc J5 O O O) ?_
  refine JLg (G0 y18.Gp) (Gf Gb O O O) ?_
  refine JLg (G0 id_) (G7 O O) ?_
  refine JLg (BL (decide (y18.Gp=id_))) (Qb O O O) ?_
  refine G8 (hK23 _ _ ?_)
  refine Gh O (fun hb=>?_) (fun hb=>?_)
  ·
   replace h:=Gv hb h
   refine G6 fun K24 hK24=>G3 ?_
   refine JLg (BL true) (G9 O O) ?_
   refine G8 (hK24 _ _ ?_)
   refine Gu ?_
   exact⟨[BL true],[],G,O,⟨⟨_,O,.conv (.same O)⟩,G⟩,O,congrArg (fun r:Bool=>(BL r:AV)) (Option.some.inj h)⟩
  ·
   replace h:=Hp hb h
   refine Gj ?_
   refine hK21 _ _ ?_
   refine G3 ?_
   refine JLg (G0 ((i18+1:Nat):Int)) (Ht (Hc hk18 hm8) O O O) ?_
   refine JLg (G0 ((i18+1:Nat):Int)) (G7 O O) ?_
   refine G8 ?_
   exact e18 _ _ (i18+1) () (app1 hn18 h) (by omega) ⟨(by repeat' constructor),G,rfl⟩
 ·
  have h:=app1 hkx18 (Ho hi18 (H3 hb))
  refine Hk ?_
  refine hK2 _ _ ?_
  refine G6 fun K25 hK25=>G3 ?_
  refine JLg (BL false) (G9 O O) ?_
  refine G8 (hK25 _ _ ?_)
  refine Gu ?_
  exact⟨[BL false],[],G,O,⟨⟨_,O,.conv (.same O)⟩,G⟩,O,congrArg (fun r:Bool=>(BL r:AV)) (Option.some.inj h)⟩

def M_slot_slots (s:Gz) (size:Int):Option Unit:=
 some ()
theorem M_slot_slots_w (s:Gz) (size:Int) (r:Unit) (h:M_slot_slots s size=some r):Pure Tryz.prog 55 [.agg (Gz.cs s),U8 size] (·=.fn 81 [.dptr (Gz.cs s),.dptr [U8 size]]):=by
 unfold M_slot_slots at h
 refine H9 [.tmp 4] Tryz.func55 O O ?_
 refine G6 fun K1 hK1=>G3 ?_
 refine JLg (.ptr 1141 0) (Q1 (u:=.agg (Gz.cs s)) (cs:=(Gz.cs s)) 1141 O O O O O) ?_
 refine JLg (.ptr 1142 0) (Q1 (u:=U8 size) (cs:=[U8 size]) 1142 O O O O O) ?_
 refine JLg (.sc .nilFunc) (G9 O O) ?_
 refine G8 (hK1 _ _ ?_)
 refine Gk [(2,Ee s),(3,.ptr 1142 0)] [(1142,.box 5 [U8 size])] 1141 rfl rfl rfl ⟨⟨_,rfl,.boxEq rfl rfl⟩,G⟩ rfl (by exact⟨.ptr,.conv (.same rfl),G⟩) ?_
 refine Gk [(2,Ee s),(3,.dptr [U8 size])] [] 1142 rfl rfl rfl G rfl (by exact⟨.conv (.same rfl),.ptr,G⟩) ?_
 refine G6 fun K2 hK2=>G3 ?_
 refine JLg (.fn 81 [.dptr (Gz.cs s),.dptr [U8 size]]) (R4 (cs:=[.dptr (Gz.cs s),.dptr [U8 size]]) O O) ?_
 refine JLg (.fn 81 [.dptr (Gz.cs s),.dptr [U8 size]]) (G9 O O) ?_
 refine G8 (hK2 _ _ ?_)
 refine Gu ?_
 exact⟨[.fn 81 [.dptr (Gz.cs s),.dptr [U8 size]]],[],G,O,⟨⟨_,O,.conv (.same O)⟩,G⟩,O,congrArg (fun _:Unit=>(.fn 81 [.dptr (Gz.cs s),.dptr [U8 size]]:AV)) (Option.some.inj h)⟩

def M_slot_All (s:Gz) (size:Int):Option (List Slot):=
 bnd (M_slot_slots s size) fun r5=>
 bnd (S_slot_slots_1 s size) fun ys8=>
 each (fun y8 i8 (s8:(List Slot)) nx8=>
  need (decide ((s8.length+[y8].length)*24≤140737488355328∧s8.length+[y8].length≤maxLen)) <|
  nx8 (s8++[y8]))
 (fun(s8:(List Slot))=>
  some s8) ys8 0 []
theorem M_slot_All_w (s:Gz) (size:Int) (r:(List Slot)) (h:M_slot_All s size=some r):Pure Tryz.prog 28 [.agg (Gz.cs s),U8 size] (·=E5 r):=by
 unfold M_slot_All at h
 refine H9 [.tmp 4] Tryz.func28 O O ?_
 refine G6 fun K1 hK1=>G3 ?_
 refine JLg (.ptr 1096 0) (Q1 (u:=.agg (Gz.cs s)) (cs:=(Gz.cs s)) 1096 O O O O O) ?_
 refine JLg (E5 ([]:List Slot)) (Jj 3 O O) ?_
 refine G8 (hK1 _ _ ?_)
 refine Gk [(1,U8 size),(2,Ee s)] [] 1096 rfl rfl rfl G rfl (by exact⟨.conv (.same rfl),.ptr,G⟩) ?_
 refine G6 fun K2 hK2=>G3 ?_
 refine JLg (.ptr 1097 0) (Y1 1097 [.sc (.slice none 0 0)] [.slice none 0 0] tf_zero_101 ⟨.inl O,G⟩ O O) ?_
 refine JL_ownCell 1097 0 1099 57 3 O O O (cs':=[OW 1099 3 Slot.av ([]:List Slot)]) O ?_
 refine G8 (hK2 _ _ ?_)
 refine G6 (fun K3 hK3=>?_)
 refine G6 fun K4 hK4=>G3 ?_
 refine JLg (.agg (Gz.cs s)) (Gi J0 O O O) ?_
 refine JLg (U8 size) (G7 O O) ?_
 obtain⟨r5,hr5,h⟩:=Ge h
 refine JLg (.fn 81 [.dptr (Gz.cs s),.dptr [U8 size]]) (H1 (args:=[.agg (Gz.cs s),U8 size]) O (M_slot_slots_w s size r5 hr5) tf_call_55 ⟨O,O,O,O,G⟩) ?_
 refine G8 (hK4 _ _ ?_)
 refine Gg ?_
 obtain⟨ys8,hy_8,h⟩:=Ge h
 obtain⟨b8,kx8,hb8,hkx8,h⟩:=Hu h
 refine JC_rangeFunc (ps:=[10]) [(5,.ptr 1097 0),(9,.fn 81 [.dptr (Gz.cs s),.dptr [U8 size]])] (ys8.map (fun y:Slot=>[.agg [G0 y.G5,G0 y.Tier,U8 y.Half]])) (fun i8 (s8:(List Slot))=>each b8 kx8 (List.drop i8 ys8) i8 s8=some r) (fun s8=>[(1099,.spare 57 3 s8.length s8.length),(1097,.box 101 [OW 1099 3 Slot.av s8])]) [] rfl rfl rfl tf_call_81 (S_slot_slots_1_w.down s size ys8 hy_8) h ⟨⟨.same rfl,.same rfl,trivial⟩,⟨⟨_,rfl,.same⟩,⟨_,rfl,.boxL rfl ⟨.same rfl,trivial⟩⟩,trivial⟩,rfl⟩ rfl (fun us_ hus_=>by obtain⟨_,_,rfl⟩:=List.mem_map.1 hus_; rfl) (fun p_ hp_=>Nat.blt_eq.mp (by revert p_; decide)) (fun _=>⟨.same rfl,.same rfl,trivial⟩) (fun _=>rfl) ?_ ?_
 ·
  intro i8 us_ s8 hu_ hi8 lr_ K8 e8
  obtain⟨hk8,rfl⟩:=mapf_at hu_
  obtain⟨y8,nx8,hy8,hn8,h⟩:=Hn hi8 hk8
  replace h:=app4 hb8 h
  obtain⟨_,rfl⟩:=List.getElem?_eq_some_iff.1 hy8
  generalize ys8[i8]=y8 at h ⊢
  change JC _ _ _ _ [(10,.agg [G0 y8.G5,G0 y8.Tier,U8 y8.Half]),(5,.ptr 1097 0),(9,.fn 81 [.dptr (Gz.cs s),.dptr [U8 size]])] [(1099,.spare 57 3 s8.length s8.length),(1097,.box 101 [OW 1099 3 Slot.av s8])]
  refine G3 ?_
  refine JLg (.ptr 1098 0) (Hi 1098 3 Qz O O) ?_
  refine Hj (u:=.junk) (H2 (u:=.agg [G0 y8.G5,G0 y8.Tier,U8 y8.Half]) (ds:=[G0 y8.G5,G0 y8.Tier,U8 y8.Half]) R8 O O O O O O O O) ?_
  refine G8 ?_
  refine Mid_freeze [(5,.ptr 1097 0),(6,.dptr [G0 y8.G5,G0 y8.Tier,U8 y8.Half])] [(1099,.spare 57 3 s8.length s8.length),(1097,.box 101 [OW 1099 3 Slot.av s8])] 1098 rfl rfl rfl ⟨⟨_,rfl,.same⟩,⟨_,rfl,.boxEq rfl rfl⟩,G⟩ rfl (by exact⟨.conv (.same rfl),.ptr,G⟩) ?_
  refine Mid_go ?_
  refine Gg ?_
  refine G3 ?_
  refine JLg (OW 1099 3 Slot.av s8) (Jx tf_scalar_101 O O O O) ?_
  refine JLg (.agg [G0 y8.G5,G0 y8.Tier,U8 y8.Half]) (Gi Jp O O O) ?_
  refine JLg (E5 [y8]) (Hd (xs:=[.agg [G0 y8.G5,G0 y8.Tier,U8 y8.Half]]) O ⟨O,O,G⟩ R2 Qz O O O O) ?_
  obtain⟨ha9,h⟩:=Je h
  refine JLg (OW 1099 3 Slot.av (s8++[y8])) (Qu (f:=Slot.av) (xs:=s8) (ys:=[y8]) O O O O R2 tf_elem_57 ha9 (fun _=>O) (.inl O) O) ?_
  refine Hj (u:=.junk) (H2 (u:=OW 1099 3 Slot.av (s8++[y8])) (ds:=[OW 1099 3 Slot.av (s8++[y8])]) tf_size_101 O O O O O O O O) ?_
  refine G8 ?_
  exact e8 _ _ (s8++[y8]) (app1 hn8 h) ⟨G,⟨⟨_,O,.same⟩,⟨_,O,.boxL O ⟨.same O,G⟩⟩,G⟩,O⟩
 ·
  intro s8 h
  rw [List.length_map] at h
  replace h:=app1 hkx8 (Ho h (Nat.lt_irrefl _))
  refine hK3 _ _ ?_
  refine G6 fun K10 hK10=>G3 ?_
  refine JLg (OW 1099 3 Slot.av s8) (Jx tf_scalar_101 O O O O) ?_
  refine JLg (OW 1099 3 Slot.av s8) (G9 O O) ?_
  refine G8 (hK10 _ _ ?_)
  refine R0 (l':=[(4,E5 s8)]) (L':=[(1097,.box 101 [E5 s8])]) ⟨⟨.list O,G⟩,⟨⟨_,O,.boxL O ⟨.list O,G⟩⟩,G⟩,O⟩ ?_
  refine Gk [(4,E5 s8)] [] 1097 rfl rfl rfl G rfl (by exact⟨.conv (.same rfl),G⟩) ?_
  refine Gu ?_
  exact⟨[E5 s8],[],G,O,⟨⟨_,O,.conv (.same O)⟩,G⟩,O,congrArg (fun r:(List Slot)=>(E5 r:AV)) (Option.some.inj h)⟩
end
end Go.Proofs.YtkfhfoljfbjknaaGreat
