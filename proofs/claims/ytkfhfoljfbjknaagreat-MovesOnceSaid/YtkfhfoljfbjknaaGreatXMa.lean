/-
 Models of functions of the program,and that they return what the models say.
-/
import Derived.Test.YtkfhfoljfbjknaaGreatProg
import Derived.Test.YtkfhfoljfbjknaaGreatSortM
import Derived.Test.YtkfhfoljfbjknaaGreatSortLay
import Derived.Test.YtkfhfoljfbjknaaGreatRel
import Derived.Test.YtkfhfoljfbjknaaGreatLit0
import Derived.Test.YtkfhfoljfbjknaaGreatXA
import Derived.Test.YtkfhfoljfbjknaaGreatSpecA
import Derived.Test.YtkfhfoljfbjknaaGreatSpecI
import Derived.Test.YtkfhfoljfbjknaaGreatSpecJ
import Derived.Test.YtkfhfoljfbjknaaGreatXVa
import Derived.Test.YtkfhfoljfbjknaaGreatXVb
import Derived.Test.YtkfhfoljfbjknaaGreatXVc
import Derived.Test.YtkfhfoljfbjknaaGreatXV
set_option maxRecDepth 100000
set_option linter.unusedVariables false
set_option linter.unusedSimpArgs false
namespace Go.Proofs.YtkfhfoljfbjknaaGreat
open Go.RowKit
noncomputable section
def tstr_252118256:ByteArray:=ByteArray.mk #[0,1,2,2,3,3,3,3,4,4,4,4,4,4,4,4,5,5,5,5,5,5,5,5,5,5,5,5,5,5,5,5,6,6,6,6,6,6,6,6,6,6,6,6,6,6,6,6,6,6,6,6,6,6,6,6,6,6,6,6,6,6,6,6,7,7,7,7,7,7,7,7,7,7,7,7,7,7,7,7,7,7,7,7,7,7,7,7,7,7,7,7,7,7,7,7,7,7,7,7,7,7,7,7,7,7,7,7,7,7,7,7,7,7,7,7,7,7,7,7,7,7,7,7,7,7,7,7,8,8,8,8,8,8,8,8,8,8,8,8,8,8,8,8,8,8,8,8,8,8,8,8,8,8,8,8,8,8,8,8,8,8,8,8,8,8,8,8,8,8,8,8,8,8,8,8,8,8,8,8,8,8,8,8,8,8,8,8,8,8,8,8,8,8,8,8,8,8,8,8,8,8,8,8,8,8,8,8,8,8,8,8,8,8,8,8,8,8,8,8,8,8,8,8,8,8,8,8,8,8,8,8,8,8,8,8,8,8,8,8,8,8,8,8,8,8,8,8,8,8,8,8,8,8,8,8]
structure Move where
 Kind:Int
 Gp:Int
 Slot:Slot
 Ga:Int
 deriving DecidableEq,Inhabited
def Move.cs (x:Move):List AV:=[U8 x.Kind,G0 x.Gp,G0 x.Slot.G5,G0 x.Slot.Tier,U8 x.Slot.Half,G0 x.Ga]
def Move.av (x:Move):AV:=.agg x.cs
abbrev Ej (x:Move):AV:=.dptr (Move.cs x)
abbrev E3:=LS 6 Move.av
structure H6 where
 Bay:Int
 Phase:Int
 Lifts:Int
 Covers:Int
 deriving DecidableEq,Inhabited
def H6.cs (x:H6):List AV:=[G0 x.Bay,G0 x.Phase,G0 x.Lifts,G0 x.Covers]
def H6.av (x:H6):AV:=.agg x.cs
abbrev Ek (x:H6):AV:=.dptr (H6.cs x)
abbrev Eb:=LS 4 H6.av
structure Hz where
 e0:Int
 e1:Int
 deriving DecidableEq,Inhabited
def Hz.cs (x:Hz):List AV:=[G0 x.e0,G0 x.e1]
def Hz.av (x:Hz):AV:=.agg x.cs
def Hz.ks (x:Hz):List Value:=[.int .i64 x.e0,.int .i64 x.e1]
def Hz.kv (x:Hz):Value:=.agg x.ks.toArray
namespace XMF
open XAF
open XVF
theorem tq_128 (a b:Hz):eqAt Tryz.prog 4 128 [.int .i64 a.e0,.int .i64 a.e1] [.int .i64 b.e0,.int .i64 b.e1]=some (decide (a=b)):=by
 refine(show _=some ((a.e0==b.e0)&&((a.e1==b.e1)&&true)) by kernel_rfl).trans (congrArg some ?_)
 rw [Bool.eq_iff_iff]
 simp only [Bool.and_eq_true,beq_iff_eq,decide_eq_true_eq,Bool.and_true]
 constructor
 ·intro h; obtain⟨_,_⟩:=a; obtain⟨_,_⟩:=b; simp_all
 ·intro h; subst h; simp
theorem tf_agg_128:aggB Tryz.prog 128 2=true:=by kernel_rfl
theorem tf_agg_59:aggB Tryz.prog 59 6=true:=by kernel_rfl
theorem Yt:aggB Tryz.prog 94 4=true:=by kernel_rfl
theorem tf_arr_128:arrB Tryz.prog 128 3 1=true:=by kernel_rfl
theorem tf_call_105:Hb Tryz.prog 105=true:=by kernel_rfl
theorem tf_call_106:Hb Tryz.prog 106=true:=by kernel_rfl
theorem tf_call_107:Hb Tryz.prog 107=true:=by kernel_rfl
theorem tf_call_108:Hb Tryz.prog 108=true:=by kernel_rfl
theorem tf_call_109:Hb Tryz.prog 109=true:=by kernel_rfl
theorem tf_call_110:Hb Tryz.prog 110=true:=by kernel_rfl
theorem tf_call_111:Hb Tryz.prog 111=true:=by kernel_rfl
theorem tf_call_117:Hb Tryz.prog 117=true:=by kernel_rfl
theorem tf_call_125:Hb Tryz.prog 125=true:=by kernel_rfl
theorem tf_call_127:Hb Tryz.prog 127=true:=by kernel_rfl
theorem tf_call_128:Hb Tryz.prog 128=true:=by kernel_rfl
theorem tf_call_129:Hb Tryz.prog 129=true:=by kernel_rfl
theorem tf_call_142:Hb Tryz.prog 142=true:=by kernel_rfl
theorem tf_call_16:Hb Tryz.prog 16=true:=by kernel_rfl
theorem tf_call_34:Hb Tryz.prog 34=true:=by kernel_rfl
theorem tf_call_50:Hb Tryz.prog 50=true:=by kernel_rfl
theorem tf_call_51:Hb Tryz.prog 51=true:=by kernel_rfl
theorem tf_call_52:Hb Tryz.prog 52=true:=by kernel_rfl
theorem Yp:Hb Tryz.prog 53=true:=by kernel_rfl
theorem tf_call_57:Hb Tryz.prog 57=true:=by kernel_rfl
theorem tf_call_58:Hb Tryz.prog 58=true:=by kernel_rfl
theorem tf_call_59:Hb Tryz.prog 59=true:=by kernel_rfl
theorem tf_call_60:Hb Tryz.prog 60=true:=by kernel_rfl
theorem tf_call_61:Hb Tryz.prog 61=true:=by kernel_rfl
theorem tf_call_78:Hb Tryz.prog 78=true:=by kernel_rfl
theorem tf_call_79:Hb Tryz.prog 79=true:=by kernel_rfl
theorem tf_call_8:Hb Tryz.prog 8=true:=by kernel_rfl
theorem tf_call_80:Hb Tryz.prog 80=true:=by kernel_rfl
theorem tf_call_83:Hb Tryz.prog 83=true:=by kernel_rfl
theorem tf_call_84:Hb Tryz.prog 84=true:=by kernel_rfl
theorem tf_call_85:Hb Tryz.prog 85=true:=by kernel_rfl
theorem tf_call_86:Hb Tryz.prog 86=true:=by kernel_rfl
theorem tf_call_87:Hb Tryz.prog 87=true:=by kernel_rfl
theorem tf_call_88:Hb Tryz.prog 88=true:=by kernel_rfl
theorem tf_call_89:Hb Tryz.prog 89=true:=by kernel_rfl
theorem tf_elem_51:elemB Tryz.prog 51 1 24=true:=by kernel_rfl
theorem tf_elem_59:elemB Tryz.prog 59 6 48=true:=by kernel_rfl
theorem tf_elem_94:elemB Tryz.prog 94 4 32=true:=by kernel_rfl
theorem tf_f1_94_2:field1B Tryz.prog 94 2 2=true:=by kernel_rfl
theorem tf_f1_94_3:field1B Tryz.prog 94 3 3=true:=by kernel_rfl
theorem Ro:Jh Tryz.prog 59 0 0=true:=by kernel_rfl
theorem tf_field_59_2:Jh Tryz.prog 59 2 2=true:=by kernel_rfl
theorem Yh:Jh Tryz.prog 59 3 5=true:=by kernel_rfl
theorem Ye:Jh Tryz.prog 94 0 0=true:=by kernel_rfl
theorem tf_field_94_1:Jh Tryz.prog 94 1 1=true:=by kernel_rfl
theorem tf_field_94_2:Jh Tryz.prog 94 2 2=true:=by kernel_rfl
theorem tf_field_94_3:Jh Tryz.prog 94 3 3=true:=by kernel_rfl
theorem tf_int_164:intB Tryz.prog 164 .u64=true:=by kernel_rfl
theorem tf_int_190:intB Tryz.prog 190 .u64=true:=by kernel_rfl
theorem tf_map_127:mapB Tryz.prog 127 128 94=true:=by kernel_rfl
theorem Y7:placesOf Tryz.prog 59=some [(0,1),(1,1),(2,3),(5,1)]:=by kernel_rfl
theorem tf_places_94:placesOf Tryz.prog 94=some [(0,1),(1,1),(2,1),(3,1)]:=by kernel_rfl
theorem tf_scalar_51:scalarB Tryz.prog 51=true:=by kernel_rfl
theorem tf_size_128:sizeB Tryz.prog 128 2=true:=by kernel_rfl
theorem tf_size_51:sizeB Tryz.prog 51 1=true:=by kernel_rfl
theorem tf_size_59:sizeB Tryz.prog 59 6=true:=by kernel_rfl
theorem tf_size_94:sizeB Tryz.prog 94 4=true:=by kernel_rfl
theorem tf_slice_44:sliceB Tryz.prog 44 51 1=true:=by kernel_rfl
theorem Qi:sliceB Tryz.prog 51 59 6=true:=by kernel_rfl
theorem R7:sliceB Tryz.prog 89 94 4=true:=by kernel_rfl
theorem tf_str_9:strB Tryz.prog 9=true:=by kernel_rfl
theorem tf_zero_128:(Tryz.prog.info? 128).bind (fun i=>i.zero.map Value.cells)=some (List.toArray [.int .i64 0,.int .i64 0]):=by kernel_rfl
theorem tf_zero_51:(Tryz.prog.info? 51).bind (fun i=>i.zero.map Value.cells)=some (List.toArray [.slice none 0 0]):=by kernel_rfl
theorem Yk:(Tryz.prog.info? 59).bind (fun i=>i.zero.map Value.cells)=some (List.toArray [.int .u8 0,.int .i64 0,.int .i64 0,.int .i64 0,.int .u8 0,.int .i64 0]):=by kernel_rfl
theorem tf_zero_94:(Tryz.prog.info? 94).bind (fun i=>i.zero.map Value.cells)=some (List.toArray [.int .i64 0,.int .i64 0,.int .i64 0,.int .i64 0]):=by kernel_rfl
theorem tf_zsize_128:zsizeB Tryz.prog 128 2=true:=by kernel_rfl
theorem tf_zsize_51:zsizeB Tryz.prog 51 1=true:=by kernel_rfl
theorem Yr:zsizeB Tryz.prog 59 6=true:=by kernel_rfl
theorem tf_zsize_94:zsizeB Tryz.prog 94 4=true:=by kernel_rfl
theorem tf_zv_94:(Tryz.prog.info? 94).bind (·.zero)=some (.agg #[.int .i64 0,.int .i64 0,.int .i64 0,.int .i64 0]):=by kernel_rfl
theorem tk_128:KeyL Tryz.prog 128 Hz.kv:=KeyL.of_eq Hz.ks (by kernel_rfl) (fun a b h=>by simp only [Hz.ks,List.cons.injEq,Value.int.injEq,Value.bool.injEq,Value.string.injEq,true_and,and_true] at h; obtain⟨_,_⟩:=a; obtain⟨_,_⟩:=b; simp_all) 4 (by decide) (fun a b=>tq_128 a b) (fun a=>by kernel_rfl) (fun a=>by simp [Instr.sameBits,Hz.ks])
end XMF
open XAF
open XVF
open XMF

def M_math_bits_Len64 (x:Int):Option Int:=
 jp (fun kj2=>
  bif decide (4294967296≤x) then
  (kj2 (shrN .u64 x 32,32))
  else
  (kj2 (x,0))) fun(j2:Int×Int)=>
 jp (fun kj5=>
  bif decide (65536≤j2.1) then
  (chk (j2.2+16) fun v8=>
   kj5 (shrN .u64 j2.1 16,v8))
  else
  (kj5 (j2.1,j2.2))) fun(j5:Int×Int)=>
 jp (fun kj9=>
  bif decide (256≤j5.1) then
  (chk (j5.2+8) fun v12=>
   kj9 (shrN .u64 j5.1 8,v12))
  else
  (kj9 (j5.1,j5.2))) fun(j9:Int×Int)=>
 bnd (sidx tstr_252118256 (IntKind.u8.wrap j9.1)) fun v14=>
 chk (v14) fun v15=>
 chk (j9.2+v15) fun v16=>
 some v16
theorem M_math_bits_Len64_w (x:Int) (r:Int) (h:M_math_bits_Len64 x=some r):Pure Tryz.prog 105 [.sc (.int .u64 x)] (·=G0 r):=by
 unfold M_math_bits_Len64 at h
 refine H9 [.tmp 2] Tryz.func105 O O ?_
 refine G6 fun K1 hK1=>G3 ?_
 refine JLg (G0 0) (G9 O O) ?_
 refine G8 (hK1 _ _ ?_)
 obtain⟨kj2,hkj2,h⟩:=Qd h
 refine Jq (fun j2:Int×Int=>kj2 j2=some r) (fun j2=>[(0,.sc (.int .u64 j2.1)),(2,G0 j2.2)]) (fun j2=>[]) (fun Kj2 ej2=>?_) ?_
 ·
  refine G6 fun K3 hK3=>G3 ?_
  refine JLg (.sc (.int .u64 x)) (G7 O O) ?_
  refine JLg (BL (decide (4294967296≤x))) (Yu O O O) ?_
  refine G8 (hK3 _ _ ?_)
  refine Gh O (fun hb=>?_) (fun hb=>?_)
  ·
   replace h:=Gv hb h
   refine G6 fun K4 hK4=>G3 ?_
   refine JLg (.sc (.int .u64 x)) (G7 O O) ?_
   refine JLg (.sc (.int .u64 (shrN .u64 x 32))) (A_shrM (s:=32) O O O O) ?_
   refine JLg (.sc (.int .u64 (shrN .u64 x 32))) (G9 O O) ?_
   refine G8 (hK4 _ _ ?_)
   refine G3 ?_
   refine JLg (G0 32) (G9 O O) ?_
   refine G8 ?_
   exact ej2 _ _ (shrN .u64 x 32,32) h ⟨⟨.same O,.same O,G⟩,G,O⟩
  ·
   replace h:=Hp hb h
   refine Gj ?_
   exact ej2 _ _ (x,0) h ⟨⟨.same O,.same O,G⟩,G,O⟩
 ·intro j2 h
  replace h:=app1 hkj2 h
  obtain⟨kj5,hkj5,h⟩:=Qd h
  refine Jq (fun j5:Int×Int=>kj5 j5=some r) (fun j5=>[(0,.sc (.int .u64 j5.1)),(2,G0 j5.2)]) (fun j5=>[]) (fun Kj5 ej5=>?_) ?_
  ·
   refine G6 fun K6 hK6=>G3 ?_
   refine JLg (.sc (.int .u64 j2.1)) (G7 O O) ?_
   refine JLg (BL (decide (65536≤j2.1))) (Yu O O O) ?_
   refine G8 (hK6 _ _ ?_)
   refine Gh O (fun hb=>?_) (fun hb=>?_)
   ·
    replace h:=Gv hb h
    refine G6 fun K7 hK7=>G3 ?_
    refine JLg (.sc (.int .u64 j2.1)) (G7 O O) ?_
    refine JLg (.sc (.int .u64 (shrN .u64 j2.1 16))) (A_shrM (s:=16) O O O O) ?_
    refine JLg (.sc (.int .u64 (shrN .u64 j2.1 16))) (G9 O O) ?_
    refine G8 (hK7 _ _ ?_)
    refine G3 ?_
    refine JLg (G0 j2.2) (G7 O O) ?_
    obtain⟨v8,hv8,h⟩:=Hm h
    refine JLg (G0 v8) (Ht hv8 O O O) ?_
    refine JLg (G0 v8) (G9 O O) ?_
    refine G8 ?_
    exact ej5 _ _ (shrN .u64 j2.1 16,v8) h ⟨⟨.same O,.same O,G⟩,G,O⟩
   ·
    replace h:=Hp hb h
    refine Gj ?_
    exact ej5 _ _ (j2.1,j2.2) h ⟨⟨.same O,.same O,G⟩,G,O⟩
  ·intro j5 h
   replace h:=app1 hkj5 h
   obtain⟨kj9,hkj9,h⟩:=Qd h
   refine Jq (fun j9:Int×Int=>kj9 j9=some r) (fun j9=>[(0,.sc (.int .u64 j9.1)),(2,G0 j9.2)]) (fun j9=>[]) (fun Kj9 ej9=>?_) ?_
   ·
    refine G6 fun K10 hK10=>G3 ?_
    refine JLg (.sc (.int .u64 j5.1)) (G7 O O) ?_
    refine JLg (BL (decide (256≤j5.1))) (Yu O O O) ?_
    refine G8 (hK10 _ _ ?_)
    refine Gh O (fun hb=>?_) (fun hb=>?_)
    ·
     replace h:=Gv hb h
     refine G6 fun K11 hK11=>G3 ?_
     refine JLg (.sc (.int .u64 j5.1)) (G7 O O) ?_
     refine JLg (.sc (.int .u64 (shrN .u64 j5.1 8))) (A_shrM (s:=8) O O O O) ?_
     refine JLg (.sc (.int .u64 (shrN .u64 j5.1 8))) (G9 O O) ?_
     refine G8 (hK11 _ _ ?_)
     refine G3 ?_
     refine JLg (G0 j5.2) (G7 O O) ?_
     obtain⟨v12,hv12,h⟩:=Hm h
     refine JLg (G0 v12) (Ht hv12 O O O) ?_
     refine JLg (G0 v12) (G9 O O) ?_
     refine G8 ?_
     exact ej9 _ _ (shrN .u64 j5.1 8,v12) h ⟨⟨.same O,.same O,G⟩,G,O⟩
    ·
     replace h:=Hp hb h
     refine Gj ?_
     exact ej9 _ _ (j5.1,j5.2) h ⟨⟨.same O,.same O,G⟩,G,O⟩
   ·intro j9 h
    replace h:=app1 hkj9 h
    refine G6 fun K13 hK13=>G3 ?_
    refine JLg (G0 j9.2) (G7 O O) ?_
    refine JLg (.sc (.int .u64 j9.1)) (G7 O O) ?_
    refine JLg (U8 (IntKind.u8.wrap j9.1)) (Yb Rx tf_int_190 O O O) ?_
    obtain⟨v14,hv14,h⟩:=Ge h
    refine JLg (U8 v14) (A_strIdx tf_str_9 O O O hv14) ?_
    obtain⟨v15,hv15,h⟩:=Hm h
    refine JLg (G0 v15) (Yb Rs Rx hv15 O O) ?_
    obtain⟨v16,hv16,h⟩:=Hm h
    refine JLg (G0 v16) (Ht hv16 O O O) ?_
    refine JLg (G0 v16) (G9 O O) ?_
    refine G8 (hK13 _ _ ?_)
    refine Gu ?_
    exact⟨[G0 v16],[],G,O,⟨⟨_,O,.conv (.same O)⟩,G⟩,O,congrArg (fun r:Int=>(G0 r:AV)) (Option.some.inj h)⟩

def M_math_bits_Len (x:Int):Option Int:=
 bnd (M_math_bits_Len64 x) fun r4=>
 some r4
theorem M_math_bits_Len_w (x:Int) (r:Int) (h:M_math_bits_Len x=some r):Pure Tryz.prog 78 [.sc (.int .u64 x)] (·=G0 r):=by
 unfold M_math_bits_Len at h
 refine H9 [.tmp 2] Tryz.func78 O O ?_
 refine G6 fun K1 hK1=>G3 ?_
 refine JLg (G0 0) (G9 O O) ?_
 refine G8 (hK1 _ _ ?_)
 refine G6 (fun K2 hK2=>?_)
 refine JC_condF O ?_
 refine Gj ?_
 refine hK2 _ _ ?_
 refine G6 fun K3 hK3=>G3 ?_
 refine JLg (.sc (.int .u64 x)) (G7 O O) ?_
 obtain⟨r4,hr4,h⟩:=Ge h
 refine JLg (G0 r4) (H1 (args:=[.sc (.int .u64 x)]) O (M_math_bits_Len64_w x r4 hr4) tf_call_105 ⟨O,O,G⟩) ?_
 refine JLg (G0 r4) (G9 O O) ?_
 refine G8 (hK3 _ _ ?_)
 refine Gu ?_
 exact⟨[G0 r4],[],G,O,⟨⟨_,O,.conv (.same O)⟩,G⟩,O,congrArg (fun r:Int=>(G0 r:AV)) (Option.some.inj h)⟩

def M_moves_call_1 (kind:Int) (l:List G2) (p2:List Move):Option (List Move):=
 each (fun y26 i26 (s26:(List Move)) nx26=>
  need (decide ((s26.length+[(Move.mk kind y26.Gp y26.Slot 0)].length)*48≤140737488355328∧s26.length+[(Move.mk kind y26.Gp y26.Slot 0)].length≤maxLen)) <|
  nx26 (s26++[(Move.mk kind y26.Gp y26.Slot 0)]))
 (fun(s26:(List Move))=>
  some s26) l 0 p2
theorem M_moves_call_1_w (kind:Int) (l:List G2) (p2:List Move) (r:(List Move)) (h:M_moves_call_1 kind l p2=some r):Jr Tryz.prog 57 [U8 kind,E0 l,.ptr 1111 0] [(1111,.box 51 [OW 1112 6 Move.av p2]),(1112,.spare 59 6 p2.length p2.length)] (fun av L'=>av=.tup []∧L'=[(1111,.box 51 [OW 1112 6 Move.av r]),(1112,.spare 59 6 r.length r.length)]):=by
 unfold M_moves_call_1 at h
 refine Ju [1111,1112] [] Tryz.func57 O O (inAll O) ?_
 refine G6 fun K1 hK1=>G3 ?_
 refine JLg (E0 l) (G7 O O) ?_
 refine Hs (f:=G2.av) (xs:=l) Gx O O (fun hm8=>?_) O O O
 refine JLg (G0 0) (G7 O O) ?_
 refine G8 (hK1 _ _ ?_)
 refine Gg ?_
 obtain⟨b26,kx26,hb26,hkx26,h⟩:=Hu h
 refine H7 (fun i26 (s26:(List Move))=>each b26 kx26 (List.drop i26 l) i26 s26=some r) (fun i26 s26=>[(0,U8 kind),(2,.ptr 1111 0),(7,E0 l),(8,Em l.length),(9,Em i26)]) (fun i26 s26=>[(1112,.spare 59 6 s26.length s26.length),(1111,.box 51 [OW 1112 6 Move.av s26])]) (fun i26=>l.length - i26) 0 p2 h ⟨(by repeat' constructor),⟨⟨_,rfl,.same⟩,⟨_,rfl,.boxL rfl ⟨.same rfl,G⟩⟩,G⟩,rfl⟩ ?_
 clear h
 intro i26 s26 hi26 K26 e26
 refine G6 fun K27 hK27=>G3 ?_
 refine JLg (BL (decide ((i26:Int) < (l.length:Int)))) (Hy O O O) ?_
 refine G8 (hK27 _ _ ?_)
 refine G6 (fun K28 hK28=>?_)
 refine Gh O (fun hb=>?_) (fun hb=>?_)
 ·
  have hk26:=J9 hb
  obtain⟨y26,nx26,hy26,hn26,h⟩:=Hn hi26 hk26
  replace h:=app4 hb26 h
  refine Gj ?_
  refine hK28 _ _ ?_
  refine G6 (fun K29 hK29=>?_)
  refine Gg ?_
  refine G6 fun K30 hK30=>G3 ?_
  refine JLg (Ef y26) (H0 (f:=G2.av) (xs:=l) (y:=y26) O O O Gx hy26 O) ?_
  refine JLg (.agg (G2.cs y26)) (Gi Jf O O O) ?_
  refine JLg (.ptr 1144 0) (Hi 1144 4 Jb O O) ?_
  refine Hj (u:=.junk) (H2 (u:=.agg (G2.cs y26)) (ds:=[G0 y26.Gp,G0 y26.Slot.G5,G0 y26.Slot.Tier,U8 y26.Slot.Half]) Jz O O O O O O O O) ?_
  refine G8 (hK30 _ _ ?_)
  refine Gk [(0,U8 kind),(2,.ptr 1111 0),(6,Ef y26),(7,E0 l),(8,Em l.length),(9,Em i26)] [(1112,.spare 59 6 s26.length s26.length),(1111,.box 51 [OW 1112 6 Move.av s26])] 1144 rfl rfl rfl ⟨⟨_,rfl,.same⟩,⟨_,rfl,.boxEq rfl rfl⟩,G⟩ rfl (by repeat' (first | exact .ptr | constructor)) ?_
  refine G3 ?_
  refine JLg (OW 1112 6 Move.av s26) (Jx tf_scalar_51 O O O O) ?_
  refine JLg (U8 kind) (G7 O O) ?_
  refine JLg (Ef y26) (Gc J5 O O O) ?_
  refine JLg (G0 y26.Gp) (Gf Gb O O O) ?_
  refine JLg (Eg y26.Slot) (Gc J1 O O O) ?_
  refine JLg (.agg (Slot.cs y26.Slot)) (Gi Jp O O O) ?_
  refine JLg (.agg [U8 kind,G0 y26.Gp,G0 y26.Slot.G5,G0 y26.Slot.Tier,U8 y26.Slot.Half,G0 0]) (J4 (cs:=[U8 kind,G0 y26.Gp,G0 y26.Slot.G5,G0 y26.Slot.Tier,U8 y26.Slot.Half,G0 0]) [(0,1),(1,1),(2,3),(5,1)] [U8 0,G0 0,G0 0,G0 0,U8 0,G0 0] [.int .u8 0,.int .i64 0,.int .i64 0,.int .i64 0,.int .u8 0,.int .i64 0] Y7 Yk ⟨.inl O,.inl O,.inl O,.inl O,.inl O,.inl O,G⟩ O O) ?_
  refine JLg (E3 [(Move.mk kind y26.Gp y26.Slot 0)]) (Hd (xs:=[.agg [U8 kind,G0 y26.Gp,G0 y26.Slot.G5,G0 y26.Slot.Tier,U8 y26.Slot.Half,G0 0]]) O ⟨O,O,G⟩ Qi Yr O O O O) ?_
  obtain⟨ha31,h⟩:=Je h
  refine JLg (OW 1112 6 Move.av (s26++[(Move.mk kind y26.Gp y26.Slot 0)])) (Qu (f:=Move.av) (xs:=s26) (ys:=[(Move.mk kind y26.Gp y26.Slot 0)]) O O O O Qi tf_elem_59 ha31 (fun _=>O) (.inl O) O) ?_
  refine Hj (u:=.junk) (H2 (u:=OW 1112 6 Move.av (s26++[(Move.mk kind y26.Gp y26.Slot 0)])) (ds:=[OW 1112 6 Move.av (s26++[(Move.mk kind y26.Gp y26.Slot 0)])]) tf_size_51 O O O O O O O O) ?_
  refine G8 (hK29 _ _ ?_)
  refine G3 ?_
  refine JLg (G0 ((i26+1:Nat):Int)) (Ht (Hc hk26 hm8) O O O) ?_
  refine JLg (G0 ((i26+1:Nat):Int)) (G7 O O) ?_
  refine G8 ?_
  exact e26 _ _ (i26+1) (s26++[(Move.mk kind y26.Gp y26.Slot 0)]) (app1 hn26 h) (by omega) ⟨(by repeat' constructor),⟨⟨_,rfl,.same⟩,⟨_,rfl,.boxL rfl ⟨.same rfl,G⟩⟩,G⟩,rfl⟩
 ·
  have h:=app1 hkx26 (Ho hi26 (H3 hb))
  refine Hk ?_
  obtain rfl:=Option.some.inj h
  exact⟨[],[(1111,.box 51 [OW 1112 6 Move.av s26]),(1112,.spare 59 6 s26.length s26.length)],⟨⟨_,O,.boxL O ⟨.same O,G⟩⟩,⟨_,O,.same⟩,G⟩,O,G,O,O⟩

def M_moves_call_2 (kind:Int) (l:List Int) (p2:List Move):Option (List Move):=
 each (fun y26 i26 (s26:(List Move)) nx26=>
  need (decide ((s26.length+[(Move.mk kind 0 (Slot.mk 0 0 0) y26)].length)*48≤140737488355328∧s26.length+[(Move.mk kind 0 (Slot.mk 0 0 0) y26)].length≤maxLen)) <|
  nx26 (s26++[(Move.mk kind 0 (Slot.mk 0 0 0) y26)]))
 (fun(s26:(List Move))=>
  some s26) l 0 p2
theorem M_moves_call_2_w (kind:Int) (l:List Int) (p2:List Move) (r:(List Move)) (h:M_moves_call_2 kind l p2=some r):Jr Tryz.prog 58 [U8 kind,E1 l,.ptr 1111 0] [(1111,.box 51 [OW 1112 6 Move.av p2]),(1112,.spare 59 6 p2.length p2.length)] (fun av L'=>av=.tup []∧L'=[(1111,.box 51 [OW 1112 6 Move.av r]),(1112,.spare 59 6 r.length r.length)]):=by
 unfold M_moves_call_2 at h
 refine Ju [1111,1112] [] Tryz.func58 O O (inAll O) ?_
 refine G6 fun K1 hK1=>G3 ?_
 refine JLg (E1 l) (G7 O O) ?_
 refine Hs (f:=G0) (xs:=l) Gy O O (fun hm8=>?_) O O O
 refine JLg (G0 0) (G7 O O) ?_
 refine G8 (hK1 _ _ ?_)
 refine Gg ?_
 obtain⟨b26,kx26,hb26,hkx26,h⟩:=Hu h
 refine H7 (fun i26 (s26:(List Move))=>each b26 kx26 (List.drop i26 l) i26 s26=some r) (fun i26 s26=>[(0,U8 kind),(2,.ptr 1111 0),(7,E1 l),(8,Em l.length),(9,Em i26)]) (fun i26 s26=>[(1112,.spare 59 6 s26.length s26.length),(1111,.box 51 [OW 1112 6 Move.av s26])]) (fun i26=>l.length - i26) 0 p2 h ⟨(by repeat' constructor),⟨⟨_,rfl,.same⟩,⟨_,rfl,.boxL rfl ⟨.same rfl,G⟩⟩,G⟩,rfl⟩ ?_
 clear h
 intro i26 s26 hi26 K26 e26
 refine G6 fun K27 hK27=>G3 ?_
 refine JLg (BL (decide ((i26:Int) < (l.length:Int)))) (Hy O O O) ?_
 refine G8 (hK27 _ _ ?_)
 refine G6 (fun K28 hK28=>?_)
 refine Gh O (fun hb=>?_) (fun hb=>?_)
 ·
  have hk26:=J9 hb
  obtain⟨y26,nx26,hy26,hn26,h⟩:=Hn hi26 hk26
  replace h:=app4 hb26 h
  refine Gj ?_
  refine hK28 _ _ ?_
  refine G6 (fun K29 hK29=>?_)
  refine Gg ?_
  refine G6 fun K30 hK30=>G3 ?_
  refine JLg (.dptr [G0 y26]) (H0 (f:=G0) (xs:=l) (y:=y26) O O O Gy hy26 O) ?_
  refine JLg (G0 y26) (Gf Gb O O O) ?_
  refine JLg (G0 y26) (G9 O O) ?_
  refine G8 (hK30 _ _ ?_)
  refine G3 ?_
  refine JLg (OW 1112 6 Move.av s26) (Jx tf_scalar_51 O O O O) ?_
  refine JLg (U8 kind) (G7 O O) ?_
  refine JLg (G0 y26) (G7 O O) ?_
  refine JLg (.agg [U8 kind,G0 0,G0 0,G0 0,U8 0,G0 y26]) (J4 (cs:=[U8 kind,G0 0,G0 0,G0 0,U8 0,G0 y26]) [(0,1),(1,1),(2,3),(5,1)] [U8 0,G0 0,G0 0,G0 0,U8 0,G0 0] [.int .u8 0,.int .i64 0,.int .i64 0,.int .i64 0,.int .u8 0,.int .i64 0] Y7 Yk ⟨.inl O,.inl O,.inl O,.inl O,.inl O,.inl O,G⟩ O O) ?_
  refine JLg (E3 [(Move.mk kind 0 (Slot.mk 0 0 0) y26)]) (Hd (xs:=[.agg [U8 kind,G0 0,G0 0,G0 0,U8 0,G0 y26]]) O ⟨O,O,G⟩ Qi Yr O O O O) ?_
  obtain⟨ha31,h⟩:=Je h
  refine JLg (OW 1112 6 Move.av (s26++[(Move.mk kind 0 (Slot.mk 0 0 0) y26)])) (Qu (f:=Move.av) (xs:=s26) (ys:=[(Move.mk kind 0 (Slot.mk 0 0 0) y26)]) O O O O Qi tf_elem_59 ha31 (fun _=>O) (.inl O) O) ?_
  refine Hj (u:=.junk) (H2 (u:=OW 1112 6 Move.av (s26++[(Move.mk kind 0 (Slot.mk 0 0 0) y26)])) (ds:=[OW 1112 6 Move.av (s26++[(Move.mk kind 0 (Slot.mk 0 0 0) y26)])]) tf_size_51 O O O O O O O O) ?_
  refine G8 (hK29 _ _ ?_)
  refine G3 ?_
  refine JLg (G0 ((i26+1:Nat):Int)) (Ht (Hc hk26 hm8) O O O) ?_
  refine JLg (G0 ((i26+1:Nat):Int)) (G7 O O) ?_
  refine G8 ?_
  exact e26 _ _ (i26+1) (s26++[(Move.mk kind 0 (Slot.mk 0 0 0) y26)]) (app1 hn26 h) (by omega) ⟨(by repeat' constructor),⟨⟨_,rfl,.same⟩,⟨_,rfl,.boxL rfl ⟨.same rfl,G⟩⟩,G⟩,rfl⟩
 ·
  have h:=app1 hkx26 (Ho hi26 (H3 hb))
  refine Hk ?_
  obtain rfl:=Option.some.inj h
  exact⟨[],[(1111,.box 51 [OW 1112 6 Move.av s26]),(1112,.spare 59 6 s26.length s26.length)],⟨⟨_,O,.boxL O ⟨.same O,G⟩⟩,⟨_,O,.same⟩,G⟩,O,G,O,O⟩

def M_slices_Index_int (s:List Int) (v:Int):Option Int:=
 each (fun y18 i18 (s18:Unit) nx18=>
  bif decide (v=y18) then
  (some (i18:Int))
  else
  (nx18 ()))
 (fun(s18:Unit)=>
  some (-1)) s 0 ()
theorem M_slices_Index_int_w (s:List Int) (v:Int) (r:Int) (h:M_slices_Index_int s v=some r):Pure Tryz.prog 108 [E1 s,G0 v] (·=G0 r):=by
 unfold M_slices_Index_int at h
 refine H9 [.tmp 4] Tryz.func108 O O ?_
 refine G6 fun K1 hK1=>G3 ?_
 refine JLg (G0 0) (G9 O O) ?_
 refine G8 (hK1 _ _ ?_)
 refine G6 (fun K2 hK2=>?_)
 refine G6 fun K3 hK3=>G3 ?_
 refine JLg (E1 s) (G7 O O) ?_
 refine Hs (f:=G0) (xs:=s) Gy O O (fun hm7=>?_) O O O
 refine JLg (G0 0) (G7 O O) ?_
 refine G8 (hK3 _ _ ?_)
 refine Gg ?_
 obtain⟨b18,kx18,hb18,hkx18,h⟩:=Hu h
 refine H7 (fun i18 (s18:Unit)=>each b18 kx18 (List.drop i18 s) i18 s18=some r) (fun i18 s18=>[(0,E1 s),(1,G0 v),(7,Em s.length),(8,Em i18)]) (fun i18 s18=>[]) (fun i18=>s.length - i18) 0 () h ⟨(by repeat' constructor),G,rfl⟩ ?_
 clear h
 intro i18 s18 hi18 K18 e18
 refine G6 fun K19 hK19=>G3 ?_
 refine JLg (BL (decide ((i18:Int) < (s.length:Int)))) (Hy O O O) ?_
 refine G8 (hK19 _ _ ?_)
 refine G6 (fun K20 hK20=>?_)
 refine Gh O (fun hb=>?_) (fun hb=>?_)
 ·
  have hk18:=J9 hb
  obtain⟨y18,nx18,hy18,hn18,h⟩:=Hn hi18 hk18
  replace h:=app4 hb18 h
  refine Gj ?_
  refine hK20 _ _ ?_
  refine G6 (fun K21 hK21=>?_)
  refine Gg ?_
  refine G6 fun K22 hK22=>G3 ?_
  refine JLg (Em i18) (G7 O O) ?_
  refine JLg (Em i18) (G9 O O) ?_
  refine G8 (hK22 _ _ ?_)
  refine G6 fun K23 hK23=>G3 ?_
  refine JLg (G0 v) (G7 O O) ?_
  refine JLg (E1 s) (G7 O O) ?_
  refine JLg (Em i18) (G7 O O) ?_
  refine JLg (.dptr [G0 y18]) (H0 (f:=G0) (xs:=s) (y:=y18) O O O Gy hy18 O) ?_
  refine JLg (G0 y18) (Gf Gb O O O) ?_
  refine JLg (BL (decide (v=y18))) (Qb O O O) ?_
  refine G8 (hK23 _ _ ?_)
  refine Gh O (fun hb=>?_) (fun hb=>?_)
  ·
   replace h:=Gv hb h
   refine G6 fun K24 hK24=>G3 ?_
   refine JLg (Em i18) (G7 O O) ?_
   refine JLg (Em i18) (G9 O O) ?_
   refine G8 (hK24 _ _ ?_)
   refine Gu ?_
   exact⟨[Em i18],[],G,O,⟨⟨_,O,.conv (.same O)⟩,G⟩,O,congrArg (fun r:Int=>(G0 r:AV)) (Option.some.inj h)⟩
  ·
   replace h:=Hp hb h
   refine Gj ?_
   refine hK21 _ _ ?_
   refine G3 ?_
   refine JLg (G0 ((i18+1:Nat):Int)) (Ht (Hc hk18 hm7) O O O) ?_
   refine JLg (G0 ((i18+1:Nat):Int)) (G7 O O) ?_
   refine G8 ?_
   exact e18 _ _ (i18+1) () (app1 hn18 h) (by omega) ⟨(by repeat' constructor),G,rfl⟩
 ·
  have h:=app1 hkx18 (Ho hi18 (H3 hb))
  refine Hk ?_
  refine hK2 _ _ ?_
  refine G6 fun K25 hK25=>G3 ?_
  refine JLg (G0 (-1)) (G9 O O) ?_
  refine G8 (hK25 _ _ ?_)
  refine Gu ?_
  exact⟨[G0 (-1)],[],G,O,⟨⟨_,O,.conv (.same O)⟩,G⟩,O,congrArg (fun r:Int=>(G0 r:AV)) (Option.some.inj h)⟩

def Q2 (s:List Int) (v:Int):Option Bool:=
 bnd (M_slices_Index_int s v) fun r3=>
 some (decide (0≤r3))
theorem M_slices_Contains_int_w (s:List Int) (v:Int) (r:Bool) (h:Q2 s v=some r):Pure Tryz.prog 85 [E1 s,G0 v] (·=BL r):=by
 unfold Q2 at h
 refine H9 [.tmp 4] Tryz.func85 O O ?_
 refine G6 fun K1 hK1=>G3 ?_
 refine JLg (BL false) (G9 O O) ?_
 refine G8 (hK1 _ _ ?_)
 refine G6 fun K2 hK2=>G3 ?_
 refine JLg (E1 s) (G7 O O) ?_
 refine JLg (G0 v) (G7 O O) ?_
 obtain⟨r3,hr3,h⟩:=Ge h
 refine JLg (G0 r3) (H1 (args:=[E1 s,G0 v]) O (M_slices_Index_int_w s v r3 hr3) tf_call_108 ⟨O,O,O,O,G⟩) ?_
 refine JLg (BL (decide (0≤r3))) (Yu O O O) ?_
 refine JLg (BL (decide (0≤r3))) (G9 O O) ?_
 refine G8 (hK2 _ _ ?_)
 refine Gu ?_
 exact⟨[BL (decide (0≤r3))],[],G,O,⟨⟨_,O,.conv (.same O)⟩,G⟩,O,congrArg (fun r:Bool=>(BL r:AV)) (Option.some.inj h)⟩

def M_cmp_isNaN_int (x:Int):Option Bool:=
 some (decide (x≠x))
theorem M_cmp_isNaN_int_w (x:Int) (r:Bool) (h:M_cmp_isNaN_int x=some r):Pure Tryz.prog 80 [G0 x] (·=BL r):=by
 unfold M_cmp_isNaN_int at h
 refine H9 [.tmp 2] Tryz.func80 O O ?_
 refine G6 fun K1 hK1=>G3 ?_
 refine JLg (BL false) (G9 O O) ?_
 refine G8 (hK1 _ _ ?_)
 refine G6 fun K2 hK2=>G3 ?_
 refine JLg (G0 x) (G7 O O) ?_
 refine JLg (G0 x) (G7 O O) ?_
 refine JLg (BL (decide (x≠x))) (Yy O O O) ?_
 refine JLg (BL (decide (x≠x))) (G9 O O) ?_
 refine G8 (hK2 _ _ ?_)
 refine Gu ?_
 exact⟨[BL (decide (x≠x))],[],G,O,⟨⟨_,O,.conv (.same O)⟩,G⟩,O,congrArg (fun r:Bool=>(BL r:AV)) (Option.some.inj h)⟩

def Jv (x:Int) (y:Int):Option Int:=
 bnd (M_cmp_isNaN_int x) fun r3=>
 bnd (M_cmp_isNaN_int y) fun r5=>
 bif r3 then
 (bif r5 then
  (some 0)
  else
  (some (-1)))
 else
 (bif r5 then
  (some 1)
  else
  (bif decide (x < y) then
   (some (-1))
   else
   (bif decide (y < x) then
    (some 1)
    else
    (some 0))))
theorem M_cmp_Compare_int_w (x:Int) (y:Int) (r:Int) (h:Jv x y=some r):Pure Tryz.prog 53 [G0 x,G0 y] (·=G0 r):=by
 unfold Jv at h
 refine H9 [.tmp 4] Tryz.func53 O O ?_
 refine G6 fun K1 hK1=>G3 ?_
 refine JLg (G0 0) (G9 O O) ?_
 refine G8 (hK1 _ _ ?_)
 refine G6 fun K2 hK2=>G3 ?_
 refine JLg (G0 x) (G7 O O) ?_
 obtain⟨r3,hr3,h⟩:=Ge h
 refine JLg (BL r3) (H1 (args:=[G0 x]) O (M_cmp_isNaN_int_w x r3 hr3) tf_call_80 ⟨O,O,G⟩) ?_
 refine JLg (BL r3) (G9 O O) ?_
 refine G8 (hK2 _ _ ?_)
 refine G6 fun K4 hK4=>G3 ?_
 refine JLg (G0 y) (G7 O O) ?_
 obtain⟨r5,hr5,h⟩:=Ge h
 refine JLg (BL r5) (H1 (args:=[G0 y]) O (M_cmp_isNaN_int_w y r5 hr5) tf_call_80 ⟨O,O,G⟩) ?_
 refine JLg (BL r5) (G9 O O) ?_
 refine G8 (hK4 _ _ ?_)
 refine G6 (fun K6 hK6=>?_)
 refine G6 fun K7 hK7=>G3 ?_
 refine JLg (BL r3) (G7 O O) ?_
 refine G8 (hK7 _ _ ?_)
 refine Gh O (fun hb=>?_) (fun hb=>?_)
 ·
  replace h:=Gv hb h
  refine G6 (fun K8 hK8=>?_)
  refine G6 fun K9 hK9=>G3 ?_
  refine JLg (BL r5) (G7 O O) ?_
  refine G8 (hK9 _ _ ?_)
  refine Gh O (fun hb=>?_) (fun hb=>?_)
  ·
   replace h:=Gv hb h
   refine G6 fun K10 hK10=>G3 ?_
   refine JLg (G0 0) (G9 O O) ?_
   refine G8 (hK10 _ _ ?_)
   refine Gu ?_
   exact⟨[G0 0],[],G,O,⟨⟨_,O,.conv (.same O)⟩,G⟩,O,congrArg (fun r:Int=>(G0 r:AV)) (Option.some.inj h)⟩
  ·
   replace h:=Hp hb h
   refine Gj ?_
   refine hK8 _ _ ?_
   refine G6 fun K11 hK11=>G3 ?_
   refine JLg (G0 (-1)) (G9 O O) ?_
   refine G8 (hK11 _ _ ?_)
   refine Gu ?_
   exact⟨[G0 (-1)],[],G,O,⟨⟨_,O,.conv (.same O)⟩,G⟩,O,congrArg (fun r:Int=>(G0 r:AV)) (Option.some.inj h)⟩
 ·
  replace h:=Hp hb h
  refine Gj ?_
  refine hK6 _ _ ?_
  refine G6 (fun K12 hK12=>?_)
  refine G6 fun K13 hK13=>G3 ?_
  refine JLg (BL r5) (G7 O O) ?_
  refine G8 (hK13 _ _ ?_)
  refine Gh O (fun hb=>?_) (fun hb=>?_)
  ·
   replace h:=Gv hb h
   refine G6 fun K14 hK14=>G3 ?_
   refine JLg (G0 1) (G9 O O) ?_
   refine G8 (hK14 _ _ ?_)
   refine Gu ?_
   exact⟨[G0 1],[],G,O,⟨⟨_,O,.conv (.same O)⟩,G⟩,O,congrArg (fun r:Int=>(G0 r:AV)) (Option.some.inj h)⟩
  ·
   replace h:=Hp hb h
   refine Gj ?_
   refine hK12 _ _ ?_
   refine G6 (fun K15 hK15=>?_)
   refine G6 fun K16 hK16=>G3 ?_
   refine JLg (G0 x) (G7 O O) ?_
   refine JLg (G0 y) (G7 O O) ?_
   refine JLg (BL (decide (x < y))) (Hy O O O) ?_
   refine G8 (hK16 _ _ ?_)
   refine Gh O (fun hb=>?_) (fun hb=>?_)
   ·
    replace h:=Gv hb h
    refine G6 fun K17 hK17=>G3 ?_
    refine JLg (G0 (-1)) (G9 O O) ?_
    refine G8 (hK17 _ _ ?_)
    refine Gu ?_
    exact⟨[G0 (-1)],[],G,O,⟨⟨_,O,.conv (.same O)⟩,G⟩,O,congrArg (fun r:Int=>(G0 r:AV)) (Option.some.inj h)⟩
   ·
    replace h:=Hp hb h
    refine Gj ?_
    refine hK15 _ _ ?_
    refine G6 (fun K18 hK18=>?_)
    refine G6 fun K19 hK19=>G3 ?_
    refine JLg (G0 x) (G7 O O) ?_
    refine JLg (G0 y) (G7 O O) ?_
    refine JLg (BL (decide (y < x))) (Yd O O O) ?_
    refine G8 (hK19 _ _ ?_)
    refine Gh O (fun hb=>?_) (fun hb=>?_)
    ·
     replace h:=Gv hb h
     refine G6 fun K20 hK20=>G3 ?_
     refine JLg (G0 1) (G9 O O) ?_
     refine G8 (hK20 _ _ ?_)
     refine Gu ?_
     exact⟨[G0 1],[],G,O,⟨⟨_,O,.conv (.same O)⟩,G⟩,O,congrArg (fun r:Int=>(G0 r:AV)) (Option.some.inj h)⟩
    ·
     replace h:=Hp hb h
     refine Gj ?_
     refine hK18 _ _ ?_
     refine G6 fun K21 hK21=>G3 ?_
     refine JLg (G0 0) (G9 O O) ?_
     refine G8 (hK21 _ _ ?_)
     refine Gu ?_
     exact⟨[G0 0],[],G,O,⟨⟨_,O,.conv (.same O)⟩,G⟩,O,congrArg (fun r:Int=>(G0 r:AV)) (Option.some.inj h)⟩

def M_cmp_isNaN_uint8 (x:Int):Option Bool:=
 some (decide (x≠x))
theorem M_cmp_isNaN_uint8_w (x:Int) (r:Bool) (h:M_cmp_isNaN_uint8 x=some r):Pure Tryz.prog 128 [U8 x] (·=BL r):=by
 unfold M_cmp_isNaN_uint8 at h
 refine H9 [.tmp 2] Tryz.func128 O O ?_
 refine G6 fun K1 hK1=>G3 ?_
 refine JLg (BL false) (G9 O O) ?_
 refine G8 (hK1 _ _ ?_)
 refine G6 fun K2 hK2=>G3 ?_
 refine JLg (U8 x) (G7 O O) ?_
 refine JLg (U8 x) (G7 O O) ?_
 refine JLg (BL (decide (x≠x))) (Yy O O O) ?_
 refine JLg (BL (decide (x≠x))) (G9 O O) ?_
 refine G8 (hK2 _ _ ?_)
 refine Gu ?_
 exact⟨[BL (decide (x≠x))],[],G,O,⟨⟨_,O,.conv (.same O)⟩,G⟩,O,congrArg (fun r:Bool=>(BL r:AV)) (Option.some.inj h)⟩

def M_cmp_Compare_uint8 (x:Int) (y:Int):Option Int:=
 bnd (M_cmp_isNaN_uint8 x) fun r3=>
 bnd (M_cmp_isNaN_uint8 y) fun r5=>
 bif r3 then
 (bif r5 then
  (some 0)
  else
  (some (-1)))
 else
 (bif r5 then
  (some 1)
  else
  (bif decide (x < y) then
   (some (-1))
   else
   (bif decide (y < x) then
    (some 1)
    else
    (some 0))))
theorem M_cmp_Compare_uint8_w (x:Int) (y:Int) (r:Int) (h:M_cmp_Compare_uint8 x y=some r):Pure Tryz.prog 110 [U8 x,U8 y] (·=G0 r):=by
 unfold M_cmp_Compare_uint8 at h
 refine H9 [.tmp 4] Tryz.func110 O O ?_
 refine G6 fun K1 hK1=>G3 ?_
 refine JLg (G0 0) (G9 O O) ?_
 refine G8 (hK1 _ _ ?_)
 refine G6 fun K2 hK2=>G3 ?_
 refine JLg (U8 x) (G7 O O) ?_
 obtain⟨r3,hr3,h⟩:=Ge h
 refine JLg (BL r3) (H1 (args:=[U8 x]) O (M_cmp_isNaN_uint8_w x r3 hr3) tf_call_128 ⟨O,O,G⟩) ?_
 refine JLg (BL r3) (G9 O O) ?_
 refine G8 (hK2 _ _ ?_)
 refine G6 fun K4 hK4=>G3 ?_
 refine JLg (U8 y) (G7 O O) ?_
 obtain⟨r5,hr5,h⟩:=Ge h
 refine JLg (BL r5) (H1 (args:=[U8 y]) O (M_cmp_isNaN_uint8_w y r5 hr5) tf_call_128 ⟨O,O,G⟩) ?_
 refine JLg (BL r5) (G9 O O) ?_
 refine G8 (hK4 _ _ ?_)
 refine G6 (fun K6 hK6=>?_)
 refine G6 fun K7 hK7=>G3 ?_
 refine JLg (BL r3) (G7 O O) ?_
 refine G8 (hK7 _ _ ?_)
 refine Gh O (fun hb=>?_) (fun hb=>?_)
 ·
  replace h:=Gv hb h
  refine G6 (fun K8 hK8=>?_)
  refine G6 fun K9 hK9=>G3 ?_
  refine JLg (BL r5) (G7 O O) ?_
  refine G8 (hK9 _ _ ?_)
  refine Gh O (fun hb=>?_) (fun hb=>?_)
  ·
   replace h:=Gv hb h
   refine G6 fun K10 hK10=>G3 ?_
   refine JLg (G0 0) (G9 O O) ?_
   refine G8 (hK10 _ _ ?_)
   refine Gu ?_
   exact⟨[G0 0],[],G,O,⟨⟨_,O,.conv (.same O)⟩,G⟩,O,congrArg (fun r:Int=>(G0 r:AV)) (Option.some.inj h)⟩
  ·
   replace h:=Hp hb h
   refine Gj ?_
   refine hK8 _ _ ?_
   refine G6 fun K11 hK11=>G3 ?_
   refine JLg (G0 (-1)) (G9 O O) ?_
   refine G8 (hK11 _ _ ?_)
   refine Gu ?_
   exact⟨[G0 (-1)],[],G,O,⟨⟨_,O,.conv (.same O)⟩,G⟩,O,congrArg (fun r:Int=>(G0 r:AV)) (Option.some.inj h)⟩
 ·
  replace h:=Hp hb h
  refine Gj ?_
  refine hK6 _ _ ?_
  refine G6 (fun K12 hK12=>?_)
  refine G6 fun K13 hK13=>G3 ?_
  refine JLg (BL r5) (G7 O O) ?_
  refine G8 (hK13 _ _ ?_)
  refine Gh O (fun hb=>?_) (fun hb=>?_)
  ·
   replace h:=Gv hb h
   refine G6 fun K14 hK14=>G3 ?_
   refine JLg (G0 1) (G9 O O) ?_
   refine G8 (hK14 _ _ ?_)
   refine Gu ?_
   exact⟨[G0 1],[],G,O,⟨⟨_,O,.conv (.same O)⟩,G⟩,O,congrArg (fun r:Int=>(G0 r:AV)) (Option.some.inj h)⟩
  ·
   replace h:=Hp hb h
   refine Gj ?_
   refine hK12 _ _ ?_
   refine G6 (fun K15 hK15=>?_)
   refine G6 fun K16 hK16=>G3 ?_
   refine JLg (U8 x) (G7 O O) ?_
   refine JLg (U8 y) (G7 O O) ?_
   refine JLg (BL (decide (x < y))) (Hy O O O) ?_
   refine G8 (hK16 _ _ ?_)
   refine Gh O (fun hb=>?_) (fun hb=>?_)
   ·
    replace h:=Gv hb h
    refine G6 fun K17 hK17=>G3 ?_
    refine JLg (G0 (-1)) (G9 O O) ?_
    refine G8 (hK17 _ _ ?_)
    refine Gu ?_
    exact⟨[G0 (-1)],[],G,O,⟨⟨_,O,.conv (.same O)⟩,G⟩,O,congrArg (fun r:Int=>(G0 r:AV)) (Option.some.inj h)⟩
   ·
    replace h:=Hp hb h
    refine Gj ?_
    refine hK15 _ _ ?_
    refine G6 (fun K18 hK18=>?_)
    refine G6 fun K19 hK19=>G3 ?_
    refine JLg (U8 x) (G7 O O) ?_
    refine JLg (U8 y) (G7 O O) ?_
    refine JLg (BL (decide (y < x))) (Yd O O O) ?_
    refine G8 (hK19 _ _ ?_)
    refine Gh O (fun hb=>?_) (fun hb=>?_)
    ·
     replace h:=Gv hb h
     refine G6 fun K20 hK20=>G3 ?_
     refine JLg (G0 1) (G9 O O) ?_
     refine G8 (hK20 _ _ ?_)
     refine Gu ?_
     exact⟨[G0 1],[],G,O,⟨⟨_,O,.conv (.same O)⟩,G⟩,O,congrArg (fun r:Int=>(G0 r:AV)) (Option.some.inj h)⟩
    ·
     replace h:=Hp hb h
     refine Gj ?_
     refine hK18 _ _ ?_
     refine G6 fun K21 hK21=>G3 ?_
     refine JLg (G0 0) (G9 O O) ?_
     refine G8 (hK21 _ _ ?_)
     refine Gu ?_
     exact⟨[G0 0],[],G,O,⟨⟨_,O,.conv (.same O)⟩,G⟩,O,congrArg (fun r:Int=>(G0 r:AV)) (Option.some.inj h)⟩

def M_cmp_Or_int (vals:List Int):Option Int:=
 each (fun y19 i19 (s19:Unit) nx19=>
  bif decide (y19≠0) then
  (some y19)
  else
  (nx19 ()))
 (fun(s19:Unit)=>
  some 0) vals 0 ()
theorem M_cmp_Or_int_w (vals:List Int) (r:Int) (h:M_cmp_Or_int vals=some r):Pure Tryz.prog 52 [E1 vals] (·=G0 r):=by
 unfold M_cmp_Or_int at h
 refine H9 [.tmp 2] Tryz.func52 O O ?_
 refine G6 fun K1 hK1=>G3 ?_
 refine JLg (G0 0) (G9 O O) ?_
 refine G8 (hK1 _ _ ?_)
 refine G6 fun K2 hK2=>G3 ?_
 refine JLg (G0 0) (G9 O O) ?_
 refine G8 (hK2 _ _ ?_)
 refine G6 (fun K3 hK3=>?_)
 refine G6 fun K4 hK4=>G3 ?_
 refine JLg (E1 vals) (G7 O O) ?_
 refine Hs (f:=G0) (xs:=vals) Gy O O (fun hm7=>?_) O O O
 refine JLg (G0 0) (G7 O O) ?_
 refine G8 (hK4 _ _ ?_)
 refine Gg ?_
 obtain⟨b19,kx19,hb19,hkx19,h⟩:=Hu h
 refine H7 (fun i19 (s19:Unit)=>each b19 kx19 (List.drop i19 vals) i19 s19=some r) (fun i19 s19=>[(3,G0 0),(6,E1 vals),(7,Em vals.length),(8,Em i19)]) (fun i19 s19=>[]) (fun i19=>vals.length - i19) 0 () h ⟨(by repeat' constructor),G,rfl⟩ ?_
 clear h
 intro i19 s19 hi19 K19 e19
 refine G6 fun K20 hK20=>G3 ?_
 refine JLg (BL (decide ((i19:Int) < (vals.length:Int)))) (Hy O O O) ?_
 refine G8 (hK20 _ _ ?_)
 refine G6 (fun K21 hK21=>?_)
 refine Gh O (fun hb=>?_) (fun hb=>?_)
 ·
  have hk19:=J9 hb
  obtain⟨y19,nx19,hy19,hn19,h⟩:=Hn hi19 hk19
  replace h:=app4 hb19 h
  refine Gj ?_
  refine hK21 _ _ ?_
  refine G6 (fun K22 hK22=>?_)
  refine Gg ?_
  refine G6 fun K23 hK23=>G3 ?_
  refine JLg (.dptr [G0 y19]) (H0 (f:=G0) (xs:=vals) (y:=y19) O O O Gy hy19 O) ?_
  refine JLg (G0 y19) (Gf Gb O O O) ?_
  refine JLg (G0 y19) (G9 O O) ?_
  refine G8 (hK23 _ _ ?_)
  refine G6 fun K24 hK24=>G3 ?_
  refine JLg (G0 y19) (G7 O O) ?_
  refine JLg (G0 0) (G7 O O) ?_
  refine JLg (BL (decide (y19≠0))) (Yy O O O) ?_
  refine G8 (hK24 _ _ ?_)
  refine Gh O (fun hb=>?_) (fun hb=>?_)
  ·
   replace h:=Gv hb h
   refine G6 fun K25 hK25=>G3 ?_
   refine JLg (G0 y19) (G7 O O) ?_
   refine JLg (G0 y19) (G9 O O) ?_
   refine G8 (hK25 _ _ ?_)
   refine Gu ?_
   exact⟨[G0 y19],[],G,O,⟨⟨_,O,.conv (.same O)⟩,G⟩,O,congrArg (fun r:Int=>(G0 r:AV)) (Option.some.inj h)⟩
  ·
   replace h:=Hp hb h
   refine Gj ?_
   refine hK22 _ _ ?_
   refine G3 ?_
   refine JLg (G0 ((i19+1:Nat):Int)) (Ht (Hc hk19 hm7) O O O) ?_
   refine JLg (G0 ((i19+1:Nat):Int)) (G7 O O) ?_
   refine G8 ?_
   exact e19 _ _ (i19+1) () (app1 hn19 h) (by omega) ⟨(by repeat' constructor),G,rfl⟩
 ·
  have h:=app1 hkx19 (Ho hi19 (H3 hb))
  refine Hk ?_
  refine hK3 _ _ ?_
  refine G6 fun K26 hK26=>G3 ?_
  refine JLg (G0 0) (G7 O O) ?_
  refine JLg (G0 0) (G9 O O) ?_
  refine G8 (hK26 _ _ ?_)
  refine Gu ?_
  exact⟨[G0 0],[],G,O,⟨⟨_,O,.conv (.same O)⟩,G⟩,O,congrArg (fun r:Int=>(G0 r:AV)) (Option.some.inj h)⟩

def M_slot_Compare (a:Slot) (b:Slot):Option Int:=
 bnd (Jv a.G5 b.G5) fun r3=>
 bnd (Jv a.Tier b.Tier) fun r4=>
 bnd (M_cmp_Compare_uint8 a.Half b.Half) fun r5=>
 bnd (M_cmp_Or_int [r3,r4,r5]) fun r6=>
 some r6
theorem M_slot_Compare_w (a:Slot) (b:Slot) (r:Int) (h:M_slot_Compare a b=some r):Pure Tryz.prog 88 [.agg [G0 a.G5,G0 a.Tier,U8 a.Half],.agg [G0 b.G5,G0 b.Tier,U8 b.Half]] (·=G0 r):=by
 unfold M_slot_Compare at h
 refine H9 [.tmp 4] Tryz.func88 O O ?_
 refine G6 fun K1 hK1=>G3 ?_
 refine JLg (.ptr 1171 0) (Q1 (u:=.agg [G0 a.G5,G0 a.Tier,U8 a.Half]) (cs:=[G0 a.G5,G0 a.Tier,U8 a.Half]) 1171 O O O O O) ?_
 refine JLg (.ptr 1172 0) (Q1 (u:=.agg [G0 b.G5,G0 b.Tier,U8 b.Half]) (cs:=[G0 b.G5,G0 b.Tier,U8 b.Half]) 1172 O O O O O) ?_
 refine JLg (G0 0) (G9 O O) ?_
 refine G8 (hK1 _ _ ?_)
 refine Gk [(2,.dptr [G0 a.G5,G0 a.Tier,U8 a.Half]),(3,.ptr 1172 0)] [(1172,.box 57 [G0 b.G5,G0 b.Tier,U8 b.Half])] 1171 rfl rfl rfl ⟨⟨_,rfl,.boxEq rfl rfl⟩,G⟩ rfl (by exact⟨.ptr,.conv (.same rfl),G⟩) ?_
 refine Gk [(2,.dptr [G0 a.G5,G0 a.Tier,U8 a.Half]),(3,.dptr [G0 b.G5,G0 b.Tier,U8 b.Half])] [] 1172 rfl rfl rfl G rfl (by exact⟨.conv (.same rfl),.ptr,G⟩) ?_
 refine G6 (fun K2 hK2=>?_)
 obtain⟨r3,hr3,h⟩:=Ge h
 obtain⟨r4,hr4,h⟩:=Ge h
 obtain⟨r5,hr5,h⟩:=Ge h
 obtain⟨r6,hr6,h⟩:=Ge h
 refine Qp [] [0,0,0,0,0,0,0,0,0,0,0,0,0,0,0,0,0,0] [0,0,0,0,0,0,0,0,0,0,0,0,0,0,0,0,0,0] [[]] Q5 (by kernel_rfl) rfl rfl ?_
 refine Gn (u:=.dptr [G0 a.G5,G0 a.Tier,U8 a.Half]) O O ⟨Gs (Gc J8 O O O) O,G⟩ ?_
 refine Gn (u:=G0 a.G5) O O ⟨Gs (Gf Gb O O O) O,G⟩ ?_
 refine Gn (u:=.dptr [G0 b.G5,G0 b.Tier,U8 b.Half]) O O ⟨Gs (Gc J8 O O O) O,G⟩ ?_
 refine Gn (u:=G0 b.G5) O O ⟨Gs (Gf Gb O O O) O,G⟩ ?_
 refine Gn (u:=G0 r3) O O ⟨Gs (H1 (args:=[G0 a.G5,G0 b.G5]) O (M_cmp_Compare_int_w a.G5 b.G5 r3 hr3) Yp ⟨O,O,O,O,G⟩) O,G⟩ ?_
 refine Gn (u:=.dptr [G0 a.Tier,U8 a.Half]) O O ⟨Gs (Gc Q7 O O O) O,G⟩ ?_
 refine Gn (u:=G0 a.Tier) O O ⟨Gs (Gf Gb O O O) O,G⟩ ?_
 refine Gn (u:=.dptr [G0 b.Tier,U8 b.Half]) O O ⟨Gs (Gc Q7 O O O) O,G⟩ ?_
 refine Gn (u:=G0 b.Tier) O O ⟨Gs (Gf Gb O O O) O,G⟩ ?_
 refine Gn (u:=G0 r4) O O ⟨Gs (H1 (args:=[G0 a.Tier,G0 b.Tier]) O (M_cmp_Compare_int_w a.Tier b.Tier r4 hr4) Yp ⟨O,O,O,O,G⟩) O,G⟩ ?_
 refine Gn (u:=.dptr [U8 a.Half]) O O ⟨Gs (Gc Qx O O O) O,G⟩ ?_
 refine Gn (u:=U8 a.Half) O O ⟨Gs (Gf Hx O O O) O,G⟩ ?_
 refine Gn (u:=.dptr [U8 b.Half]) O O ⟨Gs (Gc Qx O O O) O,G⟩ ?_
 refine Gn (u:=U8 b.Half) O O ⟨Gs (Gf Hx O O O) O,G⟩ ?_
 refine Gn (u:=G0 r5) O O ⟨Gs (H1 (args:=[U8 a.Half,U8 b.Half]) O (M_cmp_Compare_uint8_w a.Half b.Half r5 hr5) tf_call_110 ⟨O,O,O,O,G⟩) O,G⟩ ?_
 refine Gn (u:=E1 [r3,r4,r5]) O O ⟨Gs (Hd (xs:=[G0 r3,G0 r4,G0 r5]) O ⟨O,O,O,O,O,O,G⟩ Gy Rh O O O O) O,G⟩ ?_
 refine Gn (u:=G0 r6) O O ⟨Gs (H1 (args:=[E1 [r3,r4,r5]]) O (M_cmp_Or_int_w [r3,r4,r5] r6 hr6) tf_call_52 ⟨O,O,G⟩) O,G⟩ ?_
 refine Gn (u:=G0 r6) O O ⟨Gs (G9 O O) O,G⟩ ?_
 refine Ry ?_
 refine hK2 _ _ ?_
 refine Gu ?_
 exact⟨[G0 r6],[],G,O,⟨⟨_,O,.conv (.same O)⟩,G⟩,O,congrArg (fun r:Int=>(G0 r:AV)) (Option.some.inj h)⟩

def M_moves_part_1 (a:G2) (b:G2):Option Int:=
 bnd (Jv a.Slot.Tier b.Slot.Tier) fun r3=>
 bnd (M_slot_Compare a.Slot b.Slot) fun r4=>
 bnd (M_cmp_Or_int [r3,r4]) fun r5=>
 some r5
theorem M_moves_part_1_w (a:G2) (b:G2) (r:Int) (h:M_moves_part_1 a b=some r):Pure Tryz.prog 87 [.agg (G2.cs a),.agg (G2.cs b)] (·=G0 r):=by
 unfold M_moves_part_1 at h
 refine H9 [.tmp 4] Tryz.func87 O O ?_
 refine G6 fun K1 hK1=>G3 ?_
 refine JLg (.ptr 1169 0) (Q1 (u:=.agg (G2.cs a)) (cs:=[G0 a.Gp,G0 a.Slot.G5,G0 a.Slot.Tier,U8 a.Slot.Half]) 1169 O O O O O) ?_
 refine JLg (.ptr 1170 0) (Q1 (u:=.agg (G2.cs b)) (cs:=[G0 b.Gp,G0 b.Slot.G5,G0 b.Slot.Tier,U8 b.Slot.Half]) 1170 O O O O O) ?_
 refine JLg (G0 0) (G9 O O) ?_
 refine G8 (hK1 _ _ ?_)
 refine Gk [(2,Ef a),(3,.ptr 1170 0)] [(1170,.box 86 [G0 b.Gp,G0 b.Slot.G5,G0 b.Slot.Tier,U8 b.Slot.Half])] 1169 rfl rfl rfl ⟨⟨_,rfl,.boxEq rfl rfl⟩,G⟩ rfl (by exact⟨.ptr,.conv (.same rfl),G⟩) ?_
 refine Gk [(2,Ef a),(3,Ef b)] [] 1170 rfl rfl rfl G rfl (by exact⟨.conv (.same rfl),.ptr,G⟩) ?_
 refine G6 (fun K2 hK2=>?_)
 obtain⟨r3,hr3,h⟩:=Ge h
 obtain⟨r4,hr4,h⟩:=Ge h
 obtain⟨r5,hr5,h⟩:=Ge h
 refine Qp [] [0,0,0,0,0,0,0,0,0,0,0,0,0,0,0] [0,0,0,0,0,0,0,0,0,0,0,0,0,0,0] [[]] Q5 (by kernel_rfl) rfl rfl ?_
 refine Gn (u:=Eg a.Slot) O O ⟨Gs (Gc J1 O O O) O,G⟩ ?_
 refine Gn (u:=.dptr [G0 a.Slot.Tier,U8 a.Slot.Half]) O O ⟨Gs (Gc Q7 O O O) O,G⟩ ?_
 refine Gn (u:=G0 a.Slot.Tier) O O ⟨Gs (Gf Gb O O O) O,G⟩ ?_
 refine Gn (u:=Eg b.Slot) O O ⟨Gs (Gc J1 O O O) O,G⟩ ?_
 refine Gn (u:=.dptr [G0 b.Slot.Tier,U8 b.Slot.Half]) O O ⟨Gs (Gc Q7 O O O) O,G⟩ ?_
 refine Gn (u:=G0 b.Slot.Tier) O O ⟨Gs (Gf Gb O O O) O,G⟩ ?_
 refine Gn (u:=G0 r3) O O ⟨Gs (H1 (args:=[G0 a.Slot.Tier,G0 b.Slot.Tier]) O (M_cmp_Compare_int_w a.Slot.Tier b.Slot.Tier r3 hr3) Yp ⟨O,O,O,O,G⟩) O,G⟩ ?_
 refine Gn (u:=Eg a.Slot) O O ⟨Gs (Gc J1 O O O) O,G⟩ ?_
 refine Gn (u:=.agg (Slot.cs a.Slot)) O O ⟨Gs (Gi Jp O O O) O,G⟩ ?_
 refine Gn (u:=Eg b.Slot) O O ⟨Gs (Gc J1 O O O) O,G⟩ ?_
 refine Gn (u:=.agg (Slot.cs b.Slot)) O O ⟨Gs (Gi Jp O O O) O,G⟩ ?_
 refine Gn (u:=G0 r4) O O ⟨Gs (H1 (args:=[.agg (Slot.cs a.Slot),.agg (Slot.cs b.Slot)]) O (M_slot_Compare_w a.Slot b.Slot r4 hr4) tf_call_88 ⟨O,O,O,O,G⟩) O,G⟩ ?_
 refine Gn (u:=E1 [r3,r4]) O O ⟨Gs (Hd (xs:=[G0 r3,G0 r4]) O ⟨O,O,O,O,G⟩ Gy Rh O O O O) O,G⟩ ?_
 refine Gn (u:=G0 r5) O O ⟨Gs (H1 (args:=[E1 [r3,r4]]) O (M_cmp_Or_int_w [r3,r4] r5 hr5) tf_call_52 ⟨O,O,G⟩) O,G⟩ ?_
 refine Gn (u:=G0 r5) O O ⟨Gs (G9 O O) O,G⟩ ?_
 refine Ry ?_
 refine hK2 _ _ ?_
 refine Gu ?_
 exact⟨[G0 r5],[],G,O,⟨⟨_,O,.conv (.same O)⟩,G⟩,O,congrArg (fun r:Int=>(G0 r:AV)) (Option.some.inj h)⟩

def J2 (F:Nat) (data:List G2) (a:Int) (b:Int) (cmp:G2→G2→Option Int):Option (List G2):=
 chk (a+1) fun v2=>
 loop (fun nx3 (s3:Int×(List G2))=>
  bif decide (s3.1 < b) then
  (loop (fun nx58 (s58:Int×(List G2))=>
    bnd (bif decide (a < s58.1) then Jy s58.2 s58.1 some else some default) fun y61=>
    bnd (bif decide (a < s58.1) then chk (s58.1 - 1) some else some 0) fun v62=>
    bnd (bif decide (a < s58.1) then Jy s58.2 v62 some else some default) fun y63=>
    bnd (bif decide (a < s58.1) then cmp y61 y63 else some default) fun r64=>
    bif ((decide (a < s58.1))&&(decide (r64 < 0))) then
    (chk (s58.1 - 1) fun v66=>
     chk (s58.1 - 1) fun v67=>
     Jy s58.2 v67 fun y68=>
     Jy s58.2 s58.1 fun y69=>
     Jy s58.2 s58.1 fun y70=>
     Jy (s58.2.set s58.1.toNat y68) v66 fun y71=>
     chk (s58.1 - 1) fun v72=>
     nx58 (v72,((s58.2.set s58.1.toNat y68).set v66.toNat y69)))
    else
    (chk (s3.1+1) fun v73=>
     nx3 (v73,s58.2))) F (s3.1,s3.2))
  else
  (some s3.2)) F (v2,data)
theorem Q0 (F:Nat) (data:List G2) (data_q:Nat) (a:Int) (b:Int) (cmp:G2→G2→Option Int) (cmp_f:FuncId) (cmp_c:List AV) (cmp_B:Hb Tryz.prog cmp_f=true) (cmp_d:Qm (fun _=>false) cmp_c=true) (cmp_w:∀ a0 a1 q,cmp a0 a1=some q→Pure Tryz.prog cmp_f ([.agg (G2.cs a0),.agg (G2.cs a1)]++cmp_c) (·=G0 q)) (r:(List G2)) (h:J2 F data a b cmp=some r):Jr Tryz.prog 125 [.vec 1148 data_q 4 data.length,G0 a,G0 b,.fn cmp_f cmp_c] [(1148,.vec 86 4 data_q (data.map G2.av))] (fun av L'=>av=.tup []∧L'=[(1148,.vec 86 4 data_q (r.map G2.av))]):=by
 unfold J2 at h
 refine Ju [1148] [] Tryz.func125 O O (inAll O) ?_
 refine G6 fun K1 hK1=>G3 ?_
 refine JLg (G0 a) (G7 O O) ?_
 obtain⟨v2,hv2,h⟩:=Hm h
 refine JLg (G0 v2) (Ht hv2 O O O) ?_
 refine JLg (G0 v2) (G9 O O) ?_
 refine G8 (hK1 _ _ ?_)
 refine Gg ?_
 obtain⟨b3,hb3,h⟩:=loop_in h
 refine H7 (fun i3 (s3:Int×(List G2))=>loop b3 i3 s3=some r) (fun i3 s3=>[(0,.vec 1148 data_q 4 data.length),(1,G0 a),(2,G0 b),(3,.fn cmp_f cmp_c),(8,G0 s3.1)]) (fun i3 s3=>[(1148,.vec 86 4 data_q (s3.2.map G2.av))]) (fun i3=>i3) F (v2,data) h ⟨⟨.same O,.same O,.same O,.same (H8 _ _ cmp_d),.same O,G⟩,⟨⟨_,O,.vec⟩,G⟩,O⟩ ?_
 clear h
 intro i3 s3 hi3 K3 e3
 obtain⟨m3,nx3,hm_3,hn3,h⟩:=loop_out hi3
 replace h:=app2 hb3 h
 refine G6 (fun K4 hK4=>?_)
 refine G6 fun K5 hK5=>G3 ?_
 refine JLg (G0 s3.1) (G7 O O) ?_
 refine JLg (G0 b) (G7 O O) ?_
 refine JLg (BL (decide (s3.1 < b))) (Hy O O O) ?_
 refine G8 (hK5 _ _ ?_)
 refine Gh O (fun hb=>?_) (fun hb=>?_)
 ·
  replace h:=Gv hb h
  refine Gj ?_
  refine hK4 _ _ ?_
  refine G6 (fun K6 hK6=>?_)
  refine Gg ?_
  refine G6 fun K7 hK7=>G3 ?_
  refine JLg (G0 s3.1) (G7 O O) ?_
  refine JLg (G0 s3.1) (G9 O O) ?_
  refine G8 (hK7 _ _ ?_)
  refine Gg ?_
  obtain⟨b58,hb58,h⟩:=loop_in h
  refine H7 (fun i58 (s58:Int×(List G2))=>loop b58 i58 s58=some r) (fun i58 s58=>[(0,.vec 1148 data_q 4 data.length),(1,G0 a),(2,G0 b),(3,.fn cmp_f cmp_c),(8,G0 s3.1),(9,G0 s58.1)]) (fun i58 s58=>[(1148,.vec 86 4 data_q (s58.2.map G2.av))]) (fun i58=>i58) F (s3.1,s3.2) h ⟨⟨.same O,.same O,.same O,.same (H8 _ _ cmp_d),.same O,.same O,G⟩,⟨⟨_,O,.vec⟩,G⟩,O⟩ ?_
  clear h
  intro i58 s58 hi58 K58 e58
  obtain⟨m58,nx58,hm_58,hn58,h⟩:=loop_out hi58
  replace h:=app2 hb58 h
  refine G6 (fun K59 hK59=>?_)
  refine G6 (fun K60 hK60=>?_)
  refine R0 (l':=[(0,.vec 1148 data_q 4 data.length),(1,G0 a),(2,G0 b),(3,.fn cmp_f cmp_c),(8,G0 s3.1),(9,G0 s58.1)]) (L':=[(1148,.vec 86 4 data_q (s58.2.map G2.av))]) ⟨⟨.same O,.same O,.same O,.same (H8 _ _ cmp_d),.same O,.same O,G⟩,⟨⟨_,O,.vec⟩,G⟩,O⟩ ?_
  obtain⟨y61,hy61,h⟩:=Ge h
  obtain⟨v62,hv62,h⟩:=Ge h
  obtain⟨y63,hy63,h⟩:=Ge h
  obtain⟨r64,hr64,h⟩:=Ge h
  refine Qp [] [0,0,0,0,0,0,0,0,0,0,0,0,0,0,0,0,0] [0,0,0,0,0,0,0,0,0,0,0,0,0,0,0,0,0] [[(1148,.vec 86 4 data_q (s58.2.map G2.av))]] Q5 (by kernel_rfl) rfl rfl ?_
  refine Gn (u:=G0 s58.1) O O ⟨Gs (G7 O O) O,G⟩ ?_
  refine Gn (u:=G0 a) O O ⟨Gs (G7 O O) O,G⟩ ?_
  refine Gn (u:=BL (decide (a < s58.1))) O O ⟨Gs (Yd O O O) O,G⟩ ?_
  refine Gn (u:=BL (decide (a < s58.1))) O O ⟨Gs (G7 O O) O,G⟩ ?_
  refine Gn (u:=.opt (decide (a < s58.1)) (.fn cmp_f cmp_c)) O O ⟨Hf [] O O O .sct G (fun hc=>G7 O O) O,G⟩ ?_
  refine Gn (u:=.opt (decide (a < s58.1)) (.vec 1148 data_q 4 data.length)) O O ⟨Hf [] O O O .sct G (fun hc=>G7 O O) O,G⟩ ?_
  refine Gn (u:=.opt (decide (a < s58.1)) (G0 s58.1)) O O ⟨Hf [] O O O .sct G (fun hc=>G7 O O) O,G⟩ ?_
  refine Gn (u:=.opt (decide (a < s58.1)) (.vptr 1148 data_q s58.1.toNat 0)) O O ⟨Hf [(23,.vec 1148 data_q 4 data.length),(24,G0 s58.1)] O O O .sct ⟨.all id,.all id,G⟩ (fun hc=>Rg (f:=G2.av) (xs:=s58.2) (y:=y61) O O O O Gx (Ri (Gv hc hy61)) (gidx_some1 (Gv hc hy61))) O,G⟩ ?_
  refine Gn (u:=.opt (decide (a < s58.1)) (.agg (G2.cs y61))) O O ⟨Hf [(25,.vptr 1148 data_q s58.1.toNat 0)] O O O .sct ⟨.all id,G⟩ (fun hc=>Y5 (f:=G2.av) (xs:=s58.2) (y:=y61) Jf O O O (Ri (Gv hc hy61)) O O) O,G⟩ ?_
  refine Gn (u:=.opt (decide (a < s58.1)) (.vec 1148 data_q 4 data.length)) O O ⟨Hf [] O O O .sct G (fun hc=>G7 O O) O,G⟩ ?_
  refine Gn (u:=.opt (decide (a < s58.1)) (G0 s58.1)) O O ⟨Hf [] O O O .sct G (fun hc=>G7 O O) O,G⟩ ?_
  refine Gn (u:=.opt (decide (a < s58.1)) (G0 v62)) O O ⟨Hf [(28,G0 s58.1)] O O O .sct ⟨.all id,G⟩ (fun hc=>Rz (chk_some (Gv hc hv62)) O O O) O,G⟩ ?_
  refine Gn (u:=.opt (decide (a < s58.1)) (.vptr 1148 data_q v62.toNat 0)) O O ⟨Hf [(27,.vec 1148 data_q 4 data.length),(29,G0 v62)] O O O .sct ⟨.all id,.all id,G⟩ (fun hc=>Rg (f:=G2.av) (xs:=s58.2) (y:=y63) O O O O Gx (Ri (Gv hc hy63)) (gidx_some1 (Gv hc hy63))) O,G⟩ ?_
  refine Gn (u:=.opt (decide (a < s58.1)) (.agg (G2.cs y63))) O O ⟨Hf [(30,.vptr 1148 data_q v62.toNat 0)] O O O .sct ⟨.all id,G⟩ (fun hc=>Y5 (f:=G2.av) (xs:=s58.2) (y:=y63) Jf O O O (Ri (Gv hc hy63)) O O) O,G⟩ ?_
  refine Gn (u:=.opt (decide (a < s58.1)) (G0 r64)) O O ⟨Hf [(22,.fn cmp_f cmp_c),(26,.agg (G2.cs y61)),(31,.agg (G2.cs y63))] O O O .sct ⟨.all id,.all id,.all id,G⟩ (fun hc=>Rk (args:=[.agg (G2.cs y61),.agg (G2.cs y63)]) (caps:=cmp_c) O O (cmp_w y61 y63 _ (Gv hc hr64)) cmp_B ⟨O,O,O,O,G⟩ cmp_d) O,G⟩ ?_
  refine Gn (u:=.opt (decide (a < s58.1)) (BL (decide (r64 < 0)))) O O ⟨Hf [(32,G0 r64)] O O O .sct ⟨.all id,G⟩ (fun hc=>Hy O O O) O,G⟩ ?_
  refine Gn (u:=BL ((decide (a < s58.1))&&(decide (r64 < 0)))) O O ⟨Gs (Qr O O O O) O,G⟩ ?_
  refine Ry ?_
  refine hK60 _ _ ?_
  refine Gh O (fun hb=>?_) (fun hb=>?_)
  ·
   replace h:=Gv hb h
   refine Gj ?_
   refine hK59 _ _ ?_
   refine G6 (fun K65 hK65=>?_)
   refine Gg ?_
   refine R0 (l':=[(0,.vec 1148 data_q 4 data.length),(1,G0 a),(2,G0 b),(3,.fn cmp_f cmp_c),(8,G0 s3.1),(9,G0 s58.1)]) (L':=[(1148,.vec 86 4 data_q (s58.2.map G2.av))]) ⟨⟨.same O,.same O,.same O,.same (H8 _ _ cmp_d),.same O,.same O,G⟩,⟨⟨_,O,.vec⟩,G⟩,O⟩ ?_
   obtain⟨v66,hv66,h⟩:=Hm h
   obtain⟨v67,hv67,h⟩:=Hm h
   obtain⟨y68,hmy68,hy68,h⟩:=Re h
   obtain⟨y69,hmy69,hy69,h⟩:=Re h
   obtain⟨y70,hmy70,hy70,h⟩:=Re h
   obtain⟨y71,hmy71,hy71,h⟩:=Re h
   refine Qp [15,17] [0,0,0,0,0,0,0,0,0,0,0,0,0,0,0,0,1,0] [0,0,1,1,1,0,0,0,0,0,0,0,0,0,0,0,1,0] [[(1148,.vec 86 4 data_q (s58.2.map G2.av))],((1148,.vec 86 4 data_q ((s58.2.set s58.1.toNat y68).map G2.av))::[(1148,.vec 86 4 data_q (s58.2.map G2.av))]),((1148,.vec 86 4 data_q (((s58.2.set s58.1.toNat y68).set v66.toNat y69).map G2.av))::((1148,.vec 86 4 data_q ((s58.2.set s58.1.toNat y68).map G2.av))::[(1148,.vec 86 4 data_q (s58.2.map G2.av))]))] Q5 (by kernel_rfl) rfl rfl ?_
   refine Gn (u:=.vec 1148 data_q 4 data.length) O O ⟨Gs (G7 O O) O,G⟩ ?_
   refine Gn (u:=G0 s58.1) O O ⟨Gs (G7 O O) O,G⟩ ?_
   refine Gn (u:=.vec 1148 data_q 4 data.length) O O ⟨Gs (G7 O O) O,Gs (G7 O O) O,G⟩ ?_
   refine Gn (u:=G0 s58.1) O O ⟨Gs (G7 O O) O,Gs (G7 O O) O,G⟩ ?_
   refine Gn (u:=G0 v66) O O ⟨Gs (Rz hv66 O O O) O,Gs (Rz hv66 O O O) O,G⟩ ?_
   refine Gn (u:=.vec 1148 data_q 4 data.length) O O ⟨Gs (G7 O O) O,G⟩ ?_
   refine Gn (u:=G0 s58.1) O O ⟨Gs (G7 O O) O,G⟩ ?_
   refine Gn (u:=G0 v67) O O ⟨Gs (Rz hv67 O O O) O,G⟩ ?_
   refine Gn (u:=.vptr 1148 data_q v67.toNat 0) O O ⟨Gs (Rg (f:=G2.av) (xs:=s58.2) (y:=y68) O O O O Gx hy68 hmy68) O,G⟩ ?_
   refine Gn (u:=.agg (G2.cs y68)) O O ⟨Gs (Y5 (f:=G2.av) (xs:=s58.2) (y:=y68) Jf O O O hy68 O O) O,G⟩ ?_
   refine Gn (u:=.vec 1148 data_q 4 data.length) O O ⟨Gs (G7 O O) O,G⟩ ?_
   refine Gn (u:=G0 s58.1) O O ⟨Gs (G7 O O) O,G⟩ ?_
   refine Gn (u:=.vptr 1148 data_q s58.1.toNat 0) O O ⟨Gs (Rg (f:=G2.av) (xs:=s58.2) (y:=y69) O O O O Gx hy69 hmy69) O,G⟩ ?_
   refine Gn (u:=.agg (G2.cs y69)) O O ⟨Gs (Y5 (f:=G2.av) (xs:=s58.2) (y:=y69) Jf O O O hy69 O O) O,G⟩ ?_
   refine Gn (u:=.vptr 1148 data_q s58.1.toNat 0) O O ⟨Gs (Rg (f:=G2.av) (xs:=s58.2) (y:=y70) O O O O Gx hy70 hmy70) O,G⟩ ?_
   refine D_w0 (u:=.junk) O O O O (Gs (A_vstoreM (f:=G2.av) (xs:=s58.2) (z:=y68) Jz O O O O (List.getElem?_eq_some_iff.1 hy70).1 O O O O) O) ?_
   refine Gn (u:=.vptr 1148 data_q v66.toNat 0) O O ⟨Gs (Rg (f:=G2.av) (xs:=(s58.2.set s58.1.toNat y68)) (y:=y71) O O O O Gx hy71 hmy71) O,G⟩ ?_
   refine D_w0 (u:=.junk) O O O O (Gs (A_vstoreM (f:=G2.av) (xs:=(s58.2.set s58.1.toNat y68)) (z:=y69) Jz O O O O (List.getElem?_eq_some_iff.1 hy71).1 O O O O) O) ?_
   refine Ry ?_
   refine hK65 _ _ ?_
   refine G3 ?_
   refine JLg (G0 s58.1) (G7 O O) ?_
   obtain⟨v72,hv72,h⟩:=Hm h
   refine JLg (G0 v72) (Rz hv72 O O O) ?_
   refine JLg (G0 v72) (G9 O O) ?_
   refine G8 ?_
   exact e58 _ _ m58 (v72,((s58.2.set s58.1.toNat y68).set v66.toNat y69)) (app1 hn58 h) (by omega) ⟨⟨.same rfl,.same rfl,.same rfl,.same (H8 _ _ cmp_d),.same rfl,.same rfl,G⟩,⟨⟨_,rfl,.vec⟩,G⟩,rfl⟩
  ·
   replace h:=Hp hb h
   refine Hk ?_
   refine hK6 _ _ ?_
   refine G3 ?_
   refine JLg (G0 s3.1) (G7 O O) ?_
   obtain⟨v73,hv73,h⟩:=Hm h
   refine JLg (G0 v73) (Ht hv73 O O O) ?_
   refine JLg (G0 v73) (G9 O O) ?_
   refine G8 ?_
   exact e3 _ _ m3 (v73,s58.2) (app1 hn3 h) (by omega) ⟨⟨.same rfl,.same rfl,.same rfl,.same (H8 _ _ cmp_d),.same rfl,G⟩,⟨⟨_,rfl,.vec⟩,G⟩,rfl⟩
 ·
  replace h:=Hp hb h
  refine Hk ?_
  obtain rfl:=Option.some.inj h
  exact⟨[],[(1148,.vec 86 4 data_q (s3.2.map G2.av))],⟨⟨_,O,.vec⟩,G⟩,O,G,O,O⟩

def Qf (F:Nat) (data:List G2) (a:Int) (b:Int) (limit:Int) (cmp:G2→G2→Option Int):Option (List G2):=
 loop (fun nx23 (s23:Int×Int×Int×Bool×Bool)=>
  chk (s23.2.1 - s23.1) fun v25=>
  bif decide (v25≤12) then
  (bnd (J2 F data s23.1 s23.2.1 cmp) fun r29=>
   some r29)
  else
  (bif decide (s23.2.2.1=0) then
   (none)
   else
   (bif (!s23.2.2.2.1) then
    (none)
    else
    (none)))) F (a,b,limit,true,true)
theorem M_slices_pdqsortCmpFunc_apiStowed_p610000011 (F:Nat) (data:List G2) (data_q:Nat) (a:Int) (b:Int) (limit:Int) (cmp:G2→G2→Option Int) (cmp_f:FuncId) (cmp_c:List AV) (cmp_B:Hb Tryz.prog cmp_f=true) (cmp_d:Qm (fun _=>false) cmp_c=true) (cmp_w:∀ a0 a1 q,cmp a0 a1=some q→Pure Tryz.prog cmp_f ([.agg (G2.cs a0),.agg (G2.cs a1)]++cmp_c) (·=G0 q)) (r:(List G2)) (h:Qf F data a b limit cmp=some r):Jr Tryz.prog 127 [.vec 1148 data_q 4 data.length,G0 a,G0 b,G0 limit,.fn cmp_f cmp_c] [(1148,.vec 86 4 data_q (data.map G2.av))] (fun av L'=>av=.tup []∧L'=[(1148,.vec 86 4 data_q (r.map G2.av))]):=by
 unfold Qf at h
 refine Ju [1148] [] Tryz.func127 O O (inAll O) ?_
 refine G6 fun K1 hK1=>G3 ?_
 refine JLg (BL true) (G9 O O) ?_
 refine G8 (hK1 _ _ ?_)
 refine G6 fun K2 hK2=>G3 ?_
 refine JLg (BL true) (G9 O O) ?_
 refine G8 (hK2 _ _ ?_)
 refine Gg ?_
 obtain⟨b23,hb23,h⟩:=loop_in h
 refine H7 (fun i23 (s23:Int×Int×Int×Bool×Bool)=>loop b23 i23 s23=some r) (fun i23 s23=>[(0,.vec 1148 data_q 4 data.length),(1,G0 s23.1),(2,G0 s23.2.1),(3,G0 s23.2.2.1),(4,.fn cmp_f cmp_c),(10,BL s23.2.2.2.1),(11,BL s23.2.2.2.2)]) (fun i23 s23=>[(1148,.vec 86 4 data_q (data.map G2.av))]) (fun i23=>i23) F (a,b,limit,true,true) h ⟨⟨.same O,.same O,.same O,.same O,.same (H8 _ _ cmp_d),.same O,.same O,G⟩,⟨⟨_,O,.vec⟩,G⟩,O⟩ ?_
 clear h
 intro i23 s23 hi23 K23 e23
 obtain⟨m23,nx23,hm_23,hn23,h⟩:=loop_out hi23
 replace h:=app2 hb23 h
 refine Gg ?_
 refine G6 fun K24 hK24=>G3 ?_
 refine JLg (G0 s23.2.1) (G7 O O) ?_
 refine JLg (G0 s23.1) (G7 O O) ?_
 obtain⟨v25,hv25,h⟩:=Hm h
 refine JLg (G0 v25) (Rz hv25 O O O) ?_
 refine JLg (G0 v25) (G9 O O) ?_
 refine G8 (hK24 _ _ ?_)
 refine G6 (fun K26 hK26=>?_)
 refine G6 fun K27 hK27=>G3 ?_
 refine JLg (G0 v25) (G7 O O) ?_
 refine JLg (BL (decide (v25≤12))) (A_leq O O O) ?_
 refine G8 (hK27 _ _ ?_)
 refine Gh O (fun hb=>?_) (fun hb=>?_)
 ·
  replace h:=Gv hb h
  refine G6 fun K28 hK28=>G3 ?_
  refine JLg (.vec 1148 data_q 4 data.length) (G7 O O) ?_
  refine JLg (G0 s23.1) (G7 O O) ?_
  refine JLg (G0 s23.2.1) (G7 O O) ?_
  refine JLg (.fn cmp_f cmp_c) (G7 O O) ?_
  obtain⟨r29,hr29,h⟩:=Ge h
  refine JLg (.tup []) (Rm (args:=[.vec 1148 data_q 4 data.length,G0 s23.1,G0 s23.2.1,.fn cmp_f cmp_c]) (L0:=[(1148,.vec 86 4 data_q (data.map G2.av))]) (Lr:=[(1148,.vec 86 4 data_q (r29.map G2.av))]) O (Q0 F data data_q s23.1 s23.2.1 cmp cmp_f cmp_c cmp_B cmp_d cmp_w r29 hr29) tf_call_125 ⟨.inl O,O,.inl O,O,.inl O,O,.inl O,(H8 _ _ cmp_d),G⟩ ⟨O,G⟩ O O O) ?_
  refine G8 (hK28 _ _ ?_)
  refine Gu ?_
  obtain rfl:=Option.some.inj h
  exact⟨[],[(1148,.vec 86 4 data_q (r29.map G2.av))],⟨⟨_,O,.vec⟩,G⟩,O,G,O,O⟩
 ·
  replace h:=Hp hb h
  refine Gj ?_
  refine hK26 _ _ ?_
  refine G6 (fun K30 hK30=>?_)
  refine G6 fun K31 hK31=>G3 ?_
  refine JLg (G0 s23.2.2.1) (G7 O O) ?_
  refine JLg (BL (decide (s23.2.2.1=0))) (Qb O O O) ?_
  refine G8 (hK31 _ _ ?_)
  refine Gh O (fun hb=>?_) (fun hb=>?_)
  ·
   replace h:=Gv hb h
   refine G6 (fun K32 hK32=>?_)
   cases h
  ·
   replace h:=Hp hb h
   refine Gj ?_
   refine hK30 _ _ ?_
   refine G6 (fun K33 hK33=>?_)
   refine G6 fun K34 hK34=>G3 ?_
   refine JLg (BL s23.2.2.2.1) (G7 O O) ?_
   refine JLg (BL (!s23.2.2.2.1)) (Rj (b:=s23.2.2.2.1) O O) ?_
   refine G8 (hK34 _ _ ?_)
   refine Gh O (fun hb=>?_) (fun hb=>?_)
   ·
    replace h:=Gv hb h
    refine G6 (fun K35 hK35=>?_)
    cases h
   ·
    replace h:=Hp hb h
    refine Gj ?_
    refine hK33 _ _ ?_
    refine G6 (fun K36 hK36=>?_)
    cases h

def Qo (F:Nat) (x:List G2) (cmp:G2→G2→Option Int):Option (List G2):=
 bnd (M_math_bits_Len (IntKind.u64.wrap (x.length:Int))) fun r2=>
 bnd (Qf F x 0 (x.length:Int) r2 cmp) fun r3=>
 some r3
theorem M_slices_SortFunc_apiStowed_p610000011 (F:Nat) (x:List G2) (x_q:Nat) (cmp:G2→G2→Option Int) (cmp_f:FuncId) (cmp_c:List AV) (cmp_B:Hb Tryz.prog cmp_f=true) (cmp_d:Qm (fun _=>false) cmp_c=true) (cmp_w:∀ a0 a1 q,cmp a0 a1=some q→Pure Tryz.prog cmp_f ([.agg (G2.cs a0),.agg (G2.cs a1)]++cmp_c) (·=G0 q)) (r:(List G2)) (h:Qo F x cmp=some r):Jr Tryz.prog 109 [.vec 1148 x_q 4 x.length,.fn cmp_f cmp_c] [(1148,.vec 86 4 x_q (x.map G2.av))] (fun av L'=>av=.tup []∧L'=[(1148,.vec 86 4 x_q (r.map G2.av))]):=by
 unfold Qo at h
 refine Ju [1148] [] Tryz.func109 O O (inAll O) ?_
 refine G6 fun K1 hK1=>G3 ?_
 refine JLg (.vec 1148 x_q 4 x.length) (G7 O O) ?_
 refine JL_vlenM (f:=G2.av) (xs:=x) Gx O O O (fun hm6=>?_) O O O
 refine JLg (Em x.length) (G9 O O) ?_
 refine G8 (hK1 _ _ ?_)
 refine G3 ?_
 refine JLg (.vec 1148 x_q 4 x.length) (G7 O O) ?_
 refine JLg (Em x.length) (G7 O O) ?_
 refine JLg (Em x.length) (G7 O O) ?_
 refine JLg (.sc (.int .u64 (IntKind.u64.wrap (x.length:Int)))) (Yb tf_int_164 Rs O O O) ?_
 obtain⟨r2,hr2,h⟩:=Ge h
 refine JLg (G0 r2) (H1 (args:=[.sc (.int .u64 (IntKind.u64.wrap (x.length:Int)))]) O (M_math_bits_Len_w (IntKind.u64.wrap (x.length:Int)) r2 hr2) tf_call_78 ⟨O,O,G⟩) ?_
 refine JLg (.fn cmp_f cmp_c) (G7 O O) ?_
 obtain⟨r3,hr3,h⟩:=Ge h
 refine JLg (.tup []) (Rm (args:=[.vec 1148 x_q 4 x.length,G0 0,Em x.length,G0 r2,.fn cmp_f cmp_c]) (L0:=[(1148,.vec 86 4 x_q (x.map G2.av))]) (Lr:=[(1148,.vec 86 4 x_q (r3.map G2.av))]) O (M_slices_pdqsortCmpFunc_apiStowed_p610000011 F x x_q 0 (x.length:Int) r2 cmp cmp_f cmp_c cmp_B cmp_d cmp_w r3 hr3) tf_call_127 ⟨.inl O,O,.inl O,O,.inl O,O,.inl O,O,.inl O,(H8 _ _ cmp_d),G⟩ ⟨O,G⟩ O O O) ?_
 refine G8 ?_
 obtain rfl:=Option.some.inj h
 exact⟨[],[(1148,.vec 86 4 x_q (r3.map G2.av))],⟨⟨_,O,.vec⟩,G⟩,O,G,O,O⟩

def M_moves_sorted_apiStowed (F:Nat) (l:List G2) (compare:G2→G2→Option Int):Option (List G2):=
 bnd (Qo F l compare) fun r3=>
 some r3
theorem M_moves_sorted_apiStowed_p610000011 (F:Nat) (l:List G2) (l_q:Nat) (compare:G2→G2→Option Int) (compare_f:FuncId) (compare_c:List AV) (compare_B:Hb Tryz.prog compare_f=true) (compare_d:Qm (fun _=>false) compare_c=true) (compare_w:∀ a0 a1 q,compare a0 a1=some q→Pure Tryz.prog compare_f ([.agg (G2.cs a0),.agg (G2.cs a1)]++compare_c) (·=G0 q)) (r:(List G2)) (h:M_moves_sorted_apiStowed F l compare=some r):Jr Tryz.prog 86 [.vec 1148 l_q 4 l.length,.fn compare_f compare_c] [(1148,.vec 86 4 l_q (l.map G2.av))] (fun av L'=>∃ p:Nat,av=.vec 1148 p 4 r.length∧L'=[(1148,.vec 86 4 p (r.map G2.av))]):=by
 unfold M_moves_sorted_apiStowed at h
 refine Ju [1148] [.tmp 4] Tryz.func86 O O (inAll O) ?_
 refine G6 fun K1 hK1=>G3 ?_
 refine JLg (.vec 1168 (([]:List G2).length) 4 (([]:List G2).length)) (A_vnil 1168 86 4 O O O) ?_
 refine G8 (hK1 _ _ ?_)
 refine G6 fun K2 hK2=>G3 ?_
 refine JLg (.vec 1148 l_q 4 l.length) (G7 O O) ?_
 refine JLg (.fn compare_f compare_c) (G7 O O) ?_
 obtain⟨r3,hr3,h⟩:=Ge h
 refine JLg (.tup []) (Rm (args:=[.vec 1148 l_q 4 l.length,.fn compare_f compare_c]) (L0:=[(1148,.vec 86 4 l_q (l.map G2.av))]) (Lr:=[(1148,.vec 86 4 l_q (r3.map G2.av))]) O (M_slices_SortFunc_apiStowed_p610000011 F l l_q compare compare_f compare_c compare_B compare_d compare_w r3 hr3) tf_call_109 ⟨.inl O,O,.inl O,(H8 _ _ compare_d),G⟩ ⟨O,G⟩ O O O) ?_
 refine G8 (hK2 _ _ ?_)
 refine G6 fun K4 hK4=>G3 ?_
 refine JLg (.vec 1148 l_q 4 l.length) (G7 O O) ?_
 refine JLg (.vec 1148 l_q 4 l.length) (G9 O O) ?_
 refine G8 (hK4 _ _ ?_)
 refine JC_vlen 4 O O (fun hn_=>?_)
 refine Gu ?_
 obtain rfl:=Option.some.inj h
 exact⟨[.vec 1148 l_q 4 l.length],[(1148,.vec 86 4 l_q (r3.map G2.av))],⟨⟨_,O,.vec⟩,G⟩,O,⟨⟨_,O,.conv (.same O)⟩,G⟩,l_q,congrArg (fun n_:Nat=>(.vec 1148 l_q 4 n_:AV)) (hn_.trans (List.length_map _)),O⟩

def M_moves_part (F:Nat) (s:Gz) (l:List G2) (lifted:List Int) (bay:Int) (deck:Bool):Option (List G2):=
 each (fun y49 i49 (s49:(List G2)) nx49=>
  jp (fun kj52=>
   Jy s.Columns y49.Slot.G5 fun y55=>
   bnd (bif ((decide (y55.Bay=bay))&&(y55.Deck==deck)) then Q2 lifted y49.Gp else some default) fun r58=>
   bif (((decide (y55.Bay=bay))&&(y55.Deck==deck))&&r58) then
   (need (decide ((s49.length+[y49].length)*32≤140737488355328∧s49.length+[y49].length≤maxLen)) <|
    kj52 (s49++[y49]))
   else
   (kj52 s49)) fun(j52:(List G2))=>
  nx49 j52)
 (fun(s49:(List G2))=>
  bnd (M_moves_sorted_apiStowed F s49 (fun z0 z1=>M_moves_part_1 z0 z1)) fun r61=>
  some r61) l 0 []
theorem M_moves_part_w (F:Nat) (s:Gz) (l:List G2) (lifted:List Int) (bay:Int) (deck:Bool) (r:(List G2)) (h:M_moves_part F s l lifted bay deck=some r):Pure Tryz.prog 60 [.agg (Gz.cs s),E0 l,E1 lifted,G0 bay,BL deck] (·=E0 r):=by
 unfold M_moves_part at h
 refine H9 [.tmp 10] Tryz.func60 O O ?_
 refine G6 fun K1 hK1=>G3 ?_
 refine JLg (.ptr 1146 0) (Q1 (u:=.agg (Gz.cs s)) (cs:=(Gz.cs s)) 1146 O O O O O) ?_
 refine JLg (E0 ([]:List G2)) (Jj 4 O O) ?_
 refine G8 (hK1 _ _ ?_)
 refine Gk [(1,E0 l),(2,E1 lifted),(3,G0 bay),(4,BL deck),(5,Ee s)] [] 1146 rfl rfl rfl G rfl (by repeat' (first | exact .ptr | constructor)) ?_
 refine G6 fun K2 hK2=>G3 ?_
 refine JLg (.vec 1148 (([]:List G2).length) 4 (([]:List G2).length)) (A_vnil 1148 86 4 O O O) ?_
 refine G8 (hK2 _ _ ?_)
 refine G6 (fun K3 hK3=>?_)
 refine G6 fun K4 hK4=>G3 ?_
 refine JLg (E0 l) (G7 O O) ?_
 refine Hs (f:=G2.av) (xs:=l) Gx O O (fun hm16=>?_) O O O
 refine JLg (G0 0) (G7 O O) ?_
 refine G8 (hK4 _ _ ?_)
 refine Gg ?_
 obtain⟨b49,kx49,hb49,hkx49,h⟩:=Hu h
 refine H7 (fun i49 (s49:(List G2))=>each b49 kx49 (List.drop i49 l) i49 s49=some r) (fun i49 s49=>[(2,E1 lifted),(3,G0 bay),(4,BL deck),(5,Ee s),(11,.vec 1148 s49.length 4 s49.length),(15,E0 l),(16,Em l.length),(17,Em i49)]) (fun i49 s49=>[(1148,.vec 86 4 s49.length (s49.map G2.av))]) (fun i49=>l.length - i49) 0 [] h ⟨(by repeat' constructor),⟨⟨_,rfl,.vec⟩,G⟩,rfl⟩ ?_
 clear h
 intro i49 s49 hi49 K49 e49
 refine G6 fun K50 hK50=>G3 ?_
 refine JLg (BL (decide ((i49:Int) < (l.length:Int)))) (Hy O O O) ?_
 refine G8 (hK50 _ _ ?_)
 refine G6 (fun K51 hK51=>?_)
 refine Gh O (fun hb=>?_) (fun hb=>?_)
 ·
  have hk49:=J9 hb
  obtain⟨y49,nx49,hy49,hn49,h⟩:=Hn hi49 hk49
  replace h:=app4 hb49 h
  refine Gj ?_
  refine hK51 _ _ ?_
  obtain⟨kj52,hkj52,h⟩:=Qd h
  refine Jq (fun j52:(List G2)=>kj52 j52=some r) (fun j52=>[(2,E1 lifted),(3,G0 bay),(4,BL deck),(5,Ee s),(11,.vec 1148 j52.length 4 j52.length),(15,E0 l),(16,Em l.length),(17,Em i49)]) (fun j52=>[(1148,.vec 86 4 j52.length (j52.map G2.av))]) (fun Kj52 ej52=>?_) ?_
  ·
   refine Gg ?_
   refine G6 fun K53 hK53=>G3 ?_
   refine JLg (Ef y49) (H0 (f:=G2.av) (xs:=l) (y:=y49) O O O Gx hy49 O) ?_
   refine JLg (.agg (G2.cs y49)) (Gi Jf O O O) ?_
   refine JLg (.ptr 1149 0) (Hi 1149 4 Jb O O) ?_
   refine Hj (u:=.junk) (H2 (u:=.agg (G2.cs y49)) (ds:=[G0 y49.Gp,G0 y49.Slot.G5,G0 y49.Slot.Tier,U8 y49.Slot.Half]) Jz O O O O O O O O) ?_
   refine G8 (hK53 _ _ ?_)
   refine Gk [(2,E1 lifted),(3,G0 bay),(4,BL deck),(5,Ee s),(11,.vec 1148 s49.length 4 s49.length),(13,Ef y49),(15,E0 l),(16,Em l.length),(17,Em i49)] [(1148,.vec 86 4 s49.length (s49.map G2.av))] 1149 rfl rfl rfl ⟨⟨_,rfl,.vec⟩,G⟩ rfl (by repeat' (first | exact .ptr | constructor)) ?_
   refine G6 fun K54 hK54=>G3 ?_
   refine JLg (Ee s) (Gc J6 O O O) ?_
   refine JLg (E4 s.Columns) (Gf Jd O O O) ?_
   refine JLg (Eg y49.Slot) (Gc J1 O O O) ?_
   refine JLg (Eg y49.Slot) (Gc J8 O O O) ?_
   refine JLg (G0 y49.Slot.G5) (Gf Gb O O O) ?_
   obtain⟨m56,y55,hm56,hy55,h⟩:=R3 h
   refine JLg (Ei y55) (H0 (f:=G5.av) (xs:=s.Columns) (y:=y55) O O O J7 hy55 hm56) ?_
   refine JLg (.agg (G5.cs y55)) (Gi Ya O O O) ?_
   refine JLg (.ptr 1150 0) (Hi 1150 12 Rn O O) ?_
   refine Hj (u:=.junk) (H2 (u:=.agg (G5.cs y55)) (ds:=(G5.cs y55)) Ym O O O O O O O O) ?_
   refine G8 (hK54 _ _ ?_)
   refine Gk [(2,E1 lifted),(3,G0 bay),(4,BL deck),(5,Ee s),(11,.vec 1148 s49.length 4 s49.length),(13,Ef y49),(14,Ei y55),(15,E0 l),(16,Em l.length),(17,Em i49)] [(1148,.vec 86 4 s49.length (s49.map G2.av))] 1150 rfl rfl rfl ⟨⟨_,rfl,.vec⟩,G⟩ rfl (by repeat' (first | exact .ptr | constructor)) ?_
   refine G6 fun K57 hK57=>G3 ?_
   refine JLg (Ei y55) (Gc R1 O O O) ?_
   refine JLg (G0 y55.Bay) (Gf Gb O O O) ?_
   refine JLg (G0 bay) (G7 O O) ?_
   refine JLg (BL (decide (y55.Bay=bay))) (Qb O O O) ?_
   refine JLg (BL (decide (y55.Bay=bay))) (G7 O O) ?_
   refine Gd (u:=.dptr ((G5.cs y55).drop 2)) [] O O O .sct G (fun hc=>Gc Rb O O O) ?_
   refine Gd (u:=BL y55.Deck) [(33,.dptr ((G5.cs y55).drop 2))] O O O .sct ⟨.all id,G⟩ (fun hc=>Gf Qj O O O) ?_
   refine Gd (u:=BL deck) [] O O O .sct G (fun hc=>G7 O O) ?_
   refine Gd (u:=BL (y55.Deck==deck)) [(34,BL y55.Deck),(35,BL deck)] O O O .sct ⟨.all id,.all id,G⟩ (fun hc=>A_eqBool tf_bool_4 O O O) ?_
   refine JLg (BL ((decide (y55.Bay=bay))&&(y55.Deck==deck))) (Qr O O O O) ?_
   refine JLg (BL ((decide (y55.Bay=bay))&&(y55.Deck==deck))) (G7 O O) ?_
   refine Gd (u:=E1 lifted) [] O O O .sct G (fun hc=>G7 O O) ?_
   refine Gd (u:=Ef y49) [] O O O .sct G (fun hc=>Gc J5 O O O) ?_
   refine Gd (u:=G0 y49.Gp) [(40,Ef y49)] O O O .sct ⟨.all id,G⟩ (fun hc=>Gf Gb O O O) ?_
   obtain⟨r58,hr58,h⟩:=Ge h
   refine Gd (u:=BL r58) [(39,E1 lifted),(41,G0 y49.Gp)] O O O .sct ⟨.all id,.all id,G⟩ (fun hc=>H1 (args:=[E1 lifted,G0 y49.Gp]) O (M_slices_Contains_int_w lifted y49.Gp r58 (Gv hc hr58)) tf_call_85 ⟨O,O,O,O,G⟩) ?_
   refine JLg (BL (((decide (y55.Bay=bay))&&(y55.Deck==deck))&&r58)) (Qr O O O O) ?_
   refine G8 (hK57 _ _ ?_)
   refine Gh O (fun hb=>?_) (fun hb=>?_)
   ·
    replace h:=Gv hb h
    refine G3 ?_
    refine JLg (.vec 1148 s49.length 4 s49.length) (G7 O O) ?_
    refine JLg (.agg (G2.cs y49)) (Gi Jf O O O) ?_
    refine JLg (E0 [y49]) (Hd (xs:=[.agg (G2.cs y49)]) O ⟨O,O,G⟩ Gx Jb O O O O) ?_
    obtain⟨ha59,h⟩:=Je h
    refine JLg (.vec 1148 ((s49++[y49]).length) 4 ((s49++[y49]).length)) (A_vappendM (f:=G2.av) (xs:=s49) (ys:=[y49]) (ver:=s49.length) (ver1:=(s49++[y49]).length) rfl rfl rfl rfl Gx Yo ha59 (fun _=>rfl) (.inl rfl) (by simp)) ?_
    refine JLg (.vec 1148 ((s49++[y49]).length) 4 ((s49++[y49]).length)) (G9 O O) ?_
    refine G8 ?_
    exact ej52 _ _ (s49++[y49]) h ⟨(by repeat' constructor),⟨⟨_,rfl,.vec⟩,G⟩,rfl⟩
   ·
    replace h:=Hp hb h
    refine Gj ?_
    exact ej52 _ _ s49 h ⟨(by repeat' constructor),⟨⟨_,rfl,.vec⟩,G⟩,rfl⟩
  ·intro j52 h
   replace h:=app1 hkj52 h
   refine G3 ?_
   refine JLg (G0 ((i49+1:Nat):Int)) (Ht (Hc hk49 hm16) O O O) ?_
   refine JLg (G0 ((i49+1:Nat):Int)) (G7 O O) ?_
   refine G8 ?_
   exact e49 _ _ (i49+1) j52 (app1 hn49 h) (by omega) ⟨(by repeat' constructor),⟨⟨_,rfl,.vec⟩,G⟩,rfl⟩
 ·
  have h:=app1 hkx49 (Ho hi49 (H3 hb))
  refine Hk ?_
  refine hK3 _ _ ?_
  refine G6 fun K60 hK60=>G3 ?_
  refine JLg (.vec 1148 s49.length 4 s49.length) (G7 O O) ?_
  obtain⟨r61,hr61,h⟩:=Ge h
  refine Yw O O O (A_callLE (args:=[.vec 1148 s49.length 4 s49.length,.fn 87 []]) (L0:=[(1148,.vec 86 4 s49.length (s49.map G2.av))]) (u:=fun p=>.vec 1148 p 4 r61.length) (Lr:=fun p=>[(1148,.vec 86 4 p (r61.map G2.av))]) O (M_moves_sorted_apiStowed_p610000011 F s49 s49.length (fun z0 z1=>M_moves_part_1 z0 z1) 87 [] tf_call_87 O (fun z0 z1 q hq=>M_moves_part_1_w z0 z1 q hq) r61 hr61) tf_call_86 ⟨.inl O,O,.inl O,O,G⟩ ⟨O,G⟩ O (fun _=>O)) ?_
  rintro u_ L_ ⟨v62,rfl,rfl⟩
  refine JLg (.vec 1148 v62 4 r61.length) (G9 O O) ?_
  refine G8 (hK60 _ _ ?_)
  refine JC_vfreeze [(10,E0 r61)] [] 1148 rfl rfl G rfl (by exact⟨.vec,G⟩) ?_
  refine Gu ?_
  exact⟨[E0 r61],[],G,O,⟨⟨_,O,.conv (.same O)⟩,G⟩,O,congrArg (fun r:(List G2)=>(E0 r:AV)) (Option.some.inj h)⟩

def M_moves_fromAbove_1 (a:G2) (b:G2):Option Int:=
 bnd (Jv b.Slot.Tier a.Slot.Tier) fun r3=>
 some r3
theorem M_moves_fromAbove_1_w (a:G2) (b:G2) (r:Int) (h:M_moves_fromAbove_1 a b=some r):Pure Tryz.prog 84 [.agg (G2.cs a),.agg (G2.cs b)] (·=G0 r):=by
 unfold M_moves_fromAbove_1 at h
 refine H9 [.tmp 4] Tryz.func84 O O ?_
 refine G6 fun K1 hK1=>G3 ?_
 refine JLg (.ptr 1166 0) (Q1 (u:=.agg (G2.cs a)) (cs:=[G0 a.Gp,G0 a.Slot.G5,G0 a.Slot.Tier,U8 a.Slot.Half]) 1166 O O O O O) ?_
 refine JLg (.ptr 1167 0) (Q1 (u:=.agg (G2.cs b)) (cs:=[G0 b.Gp,G0 b.Slot.G5,G0 b.Slot.Tier,U8 b.Slot.Half]) 1167 O O O O O) ?_
 refine JLg (G0 0) (G9 O O) ?_
 refine G8 (hK1 _ _ ?_)
 refine Gk [(2,Ef a),(3,.ptr 1167 0)] [(1167,.box 86 [G0 b.Gp,G0 b.Slot.G5,G0 b.Slot.Tier,U8 b.Slot.Half])] 1166 rfl rfl rfl ⟨⟨_,rfl,.boxEq rfl rfl⟩,G⟩ rfl (by exact⟨.ptr,.conv (.same rfl),G⟩) ?_
 refine Gk [(2,Ef a),(3,Ef b)] [] 1167 rfl rfl rfl G rfl (by exact⟨.conv (.same rfl),.ptr,G⟩) ?_
 refine G6 fun K2 hK2=>G3 ?_
 refine JLg (Eg b.Slot) (Gc J1 O O O) ?_
 refine JLg (.dptr [G0 b.Slot.Tier,U8 b.Slot.Half]) (Gc Q7 O O O) ?_
 refine JLg (G0 b.Slot.Tier) (Gf Gb O O O) ?_
 refine JLg (Eg a.Slot) (Gc J1 O O O) ?_
 refine JLg (.dptr [G0 a.Slot.Tier,U8 a.Slot.Half]) (Gc Q7 O O O) ?_
 refine JLg (G0 a.Slot.Tier) (Gf Gb O O O) ?_
 obtain⟨r3,hr3,h⟩:=Ge h
 refine JLg (G0 r3) (H1 (args:=[G0 b.Slot.Tier,G0 a.Slot.Tier]) O (M_cmp_Compare_int_w b.Slot.Tier a.Slot.Tier r3 hr3) Yp ⟨O,O,O,O,G⟩) ?_
 refine JLg (G0 r3) (G9 O O) ?_
 refine G8 (hK2 _ _ ?_)
 refine Gu ?_
 exact⟨[G0 r3],[],G,O,⟨⟨_,O,.conv (.same O)⟩,G⟩,O,congrArg (fun r:Int=>(G0 r:AV)) (Option.some.inj h)⟩

def Qg (F:Nat) (data:List Int) (a:Int) (b:Int) (cmp:Int→Int→Option Int):Option (List Int):=
 chk (a+1) fun v2=>
 loop (fun nx3 (s3:Int×(List Int))=>
  bif decide (s3.1 < b) then
  (loop (fun nx58 (s58:Int×(List Int))=>
    bnd (bif decide (a < s58.1) then Jy s58.2 s58.1 some else some default) fun y61=>
    bnd (bif decide (a < s58.1) then chk (s58.1 - 1) some else some 0) fun v62=>
    bnd (bif decide (a < s58.1) then Jy s58.2 v62 some else some default) fun y63=>
    bnd (bif decide (a < s58.1) then cmp y61 y63 else some default) fun r64=>
    bif ((decide (a < s58.1))&&(decide (r64 < 0))) then
    (chk (s58.1 - 1) fun v66=>
     chk (s58.1 - 1) fun v67=>
     Jy s58.2 v67 fun y68=>
     Jy s58.2 s58.1 fun y69=>
     Jy s58.2 s58.1 fun y70=>
     Jy (s58.2.set s58.1.toNat y68) v66 fun y71=>
     chk (s58.1 - 1) fun v72=>
     nx58 (v72,((s58.2.set s58.1.toNat y68).set v66.toNat y69)))
    else
    (chk (s3.1+1) fun v73=>
     nx3 (v73,s58.2))) F (s3.1,s3.2))
  else
  (some s3.2)) F (v2,data)
theorem M_slices_insertionSortCmpFunc_int_p620000011 (F:Nat) (data:List Int) (data_q:Nat) (a:Int) (b:Int) (cmp:Int→Int→Option Int) (cmp_f:FuncId) (cmp_c:List AV) (cmp_B:Hb Tryz.prog cmp_f=true) (cmp_d:Qm (fun _=>false) cmp_c=true) (cmp_w:∀ a0 a1 q,cmp a0 a1=some q→Pure Tryz.prog cmp_f ([G0 a0,G0 a1]++cmp_c) (·=G0 q)) (r:(List Int)) (h:Qg F data a b cmp=some r):Jr Tryz.prog 142 [.vec 1152 data_q 1 data.length,G0 a,G0 b,.fn cmp_f cmp_c] [(1152,.vec 3 1 data_q (data.map G0))] (fun av L'=>av=.tup []∧L'=[(1152,.vec 3 1 data_q (r.map G0))]):=by
 unfold Qg at h
 refine Ju [1152] [] Tryz.func142 O O (inAll O) ?_
 refine G6 fun K1 hK1=>G3 ?_
 refine JLg (G0 a) (G7 O O) ?_
 obtain⟨v2,hv2,h⟩:=Hm h
 refine JLg (G0 v2) (Ht hv2 O O O) ?_
 refine JLg (G0 v2) (G9 O O) ?_
 refine G8 (hK1 _ _ ?_)
 refine Gg ?_
 obtain⟨b3,hb3,h⟩:=loop_in h
 refine H7 (fun i3 (s3:Int×(List Int))=>loop b3 i3 s3=some r) (fun i3 s3=>[(0,.vec 1152 data_q 1 data.length),(1,G0 a),(2,G0 b),(3,.fn cmp_f cmp_c),(8,G0 s3.1)]) (fun i3 s3=>[(1152,.vec 3 1 data_q (s3.2.map G0))]) (fun i3=>i3) F (v2,data) h ⟨⟨.same O,.same O,.same O,.same (H8 _ _ cmp_d),.same O,G⟩,⟨⟨_,O,.vec⟩,G⟩,O⟩ ?_
 clear h
 intro i3 s3 hi3 K3 e3
 obtain⟨m3,nx3,hm_3,hn3,h⟩:=loop_out hi3
 replace h:=app2 hb3 h
 refine G6 (fun K4 hK4=>?_)
 refine G6 fun K5 hK5=>G3 ?_
 refine JLg (G0 s3.1) (G7 O O) ?_
 refine JLg (G0 b) (G7 O O) ?_
 refine JLg (BL (decide (s3.1 < b))) (Hy O O O) ?_
 refine G8 (hK5 _ _ ?_)
 refine Gh O (fun hb=>?_) (fun hb=>?_)
 ·
  replace h:=Gv hb h
  refine Gj ?_
  refine hK4 _ _ ?_
  refine G6 (fun K6 hK6=>?_)
  refine Gg ?_
  refine G6 fun K7 hK7=>G3 ?_
  refine JLg (G0 s3.1) (G7 O O) ?_
  refine JLg (G0 s3.1) (G9 O O) ?_
  refine G8 (hK7 _ _ ?_)
  refine Gg ?_
  obtain⟨b58,hb58,h⟩:=loop_in h
  refine H7 (fun i58 (s58:Int×(List Int))=>loop b58 i58 s58=some r) (fun i58 s58=>[(0,.vec 1152 data_q 1 data.length),(1,G0 a),(2,G0 b),(3,.fn cmp_f cmp_c),(8,G0 s3.1),(9,G0 s58.1)]) (fun i58 s58=>[(1152,.vec 3 1 data_q (s58.2.map G0))]) (fun i58=>i58) F (s3.1,s3.2) h ⟨⟨.same O,.same O,.same O,.same (H8 _ _ cmp_d),.same O,.same O,G⟩,⟨⟨_,O,.vec⟩,G⟩,O⟩ ?_
  clear h
  intro i58 s58 hi58 K58 e58
  obtain⟨m58,nx58,hm_58,hn58,h⟩:=loop_out hi58
  replace h:=app2 hb58 h
  refine G6 (fun K59 hK59=>?_)
  refine G6 (fun K60 hK60=>?_)
  refine R0 (l':=[(0,.vec 1152 data_q 1 data.length),(1,G0 a),(2,G0 b),(3,.fn cmp_f cmp_c),(8,G0 s3.1),(9,G0 s58.1)]) (L':=[(1152,.vec 3 1 data_q (s58.2.map G0))]) ⟨⟨.same O,.same O,.same O,.same (H8 _ _ cmp_d),.same O,.same O,G⟩,⟨⟨_,O,.vec⟩,G⟩,O⟩ ?_
  obtain⟨y61,hy61,h⟩:=Ge h
  obtain⟨v62,hv62,h⟩:=Ge h
  obtain⟨y63,hy63,h⟩:=Ge h
  obtain⟨r64,hr64,h⟩:=Ge h
  refine Qp [] [0,0,0,0,0,0,0,0,0,0,0,0,0,0,0,0,0] [0,0,0,0,0,0,0,0,0,0,0,0,0,0,0,0,0] [[(1152,.vec 3 1 data_q (s58.2.map G0))]] Q5 (by kernel_rfl) rfl rfl ?_
  refine Gn (u:=G0 s58.1) O O ⟨Gs (G7 O O) O,G⟩ ?_
  refine Gn (u:=G0 a) O O ⟨Gs (G7 O O) O,G⟩ ?_
  refine Gn (u:=BL (decide (a < s58.1))) O O ⟨Gs (Yd O O O) O,G⟩ ?_
  refine Gn (u:=BL (decide (a < s58.1))) O O ⟨Gs (G7 O O) O,G⟩ ?_
  refine Gn (u:=.opt (decide (a < s58.1)) (.fn cmp_f cmp_c)) O O ⟨Hf [] O O O .sct G (fun hc=>G7 O O) O,G⟩ ?_
  refine Gn (u:=.opt (decide (a < s58.1)) (.vec 1152 data_q 1 data.length)) O O ⟨Hf [] O O O .sct G (fun hc=>G7 O O) O,G⟩ ?_
  refine Gn (u:=.opt (decide (a < s58.1)) (G0 s58.1)) O O ⟨Hf [] O O O .sct G (fun hc=>G7 O O) O,G⟩ ?_
  refine Gn (u:=.opt (decide (a < s58.1)) (.vptr 1152 data_q s58.1.toNat 0)) O O ⟨Hf [(23,.vec 1152 data_q 1 data.length),(24,G0 s58.1)] O O O .sct ⟨.all id,.all id,G⟩ (fun hc=>Rg (f:=G0) (xs:=s58.2) (y:=y61) O O O O Gy (Ri (Gv hc hy61)) (gidx_some1 (Gv hc hy61))) O,G⟩ ?_
  refine Gn (u:=.opt (decide (a < s58.1)) (G0 y61)) O O ⟨Hf [(25,.vptr 1152 data_q s58.1.toNat 0)] O O O .sct ⟨.all id,G⟩ (fun hc=>A_vloadM (f:=G0) (xs:=s58.2) (y:=y61) Gb O O O (Ri (Gv hc hy61)) O O) O,G⟩ ?_
  refine Gn (u:=.opt (decide (a < s58.1)) (.vec 1152 data_q 1 data.length)) O O ⟨Hf [] O O O .sct G (fun hc=>G7 O O) O,G⟩ ?_
  refine Gn (u:=.opt (decide (a < s58.1)) (G0 s58.1)) O O ⟨Hf [] O O O .sct G (fun hc=>G7 O O) O,G⟩ ?_
  refine Gn (u:=.opt (decide (a < s58.1)) (G0 v62)) O O ⟨Hf [(28,G0 s58.1)] O O O .sct ⟨.all id,G⟩ (fun hc=>Rz (chk_some (Gv hc hv62)) O O O) O,G⟩ ?_
  refine Gn (u:=.opt (decide (a < s58.1)) (.vptr 1152 data_q v62.toNat 0)) O O ⟨Hf [(27,.vec 1152 data_q 1 data.length),(29,G0 v62)] O O O .sct ⟨.all id,.all id,G⟩ (fun hc=>Rg (f:=G0) (xs:=s58.2) (y:=y63) O O O O Gy (Ri (Gv hc hy63)) (gidx_some1 (Gv hc hy63))) O,G⟩ ?_
  refine Gn (u:=.opt (decide (a < s58.1)) (G0 y63)) O O ⟨Hf [(30,.vptr 1152 data_q v62.toNat 0)] O O O .sct ⟨.all id,G⟩ (fun hc=>A_vloadM (f:=G0) (xs:=s58.2) (y:=y63) Gb O O O (Ri (Gv hc hy63)) O O) O,G⟩ ?_
  refine Gn (u:=.opt (decide (a < s58.1)) (G0 r64)) O O ⟨Hf [(22,.fn cmp_f cmp_c),(26,G0 y61),(31,G0 y63)] O O O .sct ⟨.all id,.all id,.all id,G⟩ (fun hc=>Rk (args:=[G0 y61,G0 y63]) (caps:=cmp_c) O O (cmp_w y61 y63 _ (Gv hc hr64)) cmp_B ⟨O,O,O,O,G⟩ cmp_d) O,G⟩ ?_
  refine Gn (u:=.opt (decide (a < s58.1)) (BL (decide (r64 < 0)))) O O ⟨Hf [(32,G0 r64)] O O O .sct ⟨.all id,G⟩ (fun hc=>Hy O O O) O,G⟩ ?_
  refine Gn (u:=BL ((decide (a < s58.1))&&(decide (r64 < 0)))) O O ⟨Gs (Qr O O O O) O,G⟩ ?_
  refine Ry ?_
  refine hK60 _ _ ?_
  refine Gh O (fun hb=>?_) (fun hb=>?_)
  ·
   replace h:=Gv hb h
   refine Gj ?_
   refine hK59 _ _ ?_
   refine G6 (fun K65 hK65=>?_)
   refine Gg ?_
   refine R0 (l':=[(0,.vec 1152 data_q 1 data.length),(1,G0 a),(2,G0 b),(3,.fn cmp_f cmp_c),(8,G0 s3.1),(9,G0 s58.1)]) (L':=[(1152,.vec 3 1 data_q (s58.2.map G0))]) ⟨⟨.same O,.same O,.same O,.same (H8 _ _ cmp_d),.same O,.same O,G⟩,⟨⟨_,O,.vec⟩,G⟩,O⟩ ?_
   obtain⟨v66,hv66,h⟩:=Hm h
   obtain⟨v67,hv67,h⟩:=Hm h
   obtain⟨y68,hmy68,hy68,h⟩:=Re h
   obtain⟨y69,hmy69,hy69,h⟩:=Re h
   obtain⟨y70,hmy70,hy70,h⟩:=Re h
   obtain⟨y71,hmy71,hy71,h⟩:=Re h
   refine Qp [15,17] [0,0,0,0,0,0,0,0,0,0,0,0,0,0,0,0,1,0] [0,0,1,1,1,0,0,0,0,0,0,0,0,0,0,0,1,0] [[(1152,.vec 3 1 data_q (s58.2.map G0))],((1152,.vec 3 1 data_q ((s58.2.set s58.1.toNat y68).map G0))::[(1152,.vec 3 1 data_q (s58.2.map G0))]),((1152,.vec 3 1 data_q (((s58.2.set s58.1.toNat y68).set v66.toNat y69).map G0))::((1152,.vec 3 1 data_q ((s58.2.set s58.1.toNat y68).map G0))::[(1152,.vec 3 1 data_q (s58.2.map G0))]))] Q5 (by kernel_rfl) rfl rfl ?_
   refine Gn (u:=.vec 1152 data_q 1 data.length) O O ⟨Gs (G7 O O) O,G⟩ ?_
   refine Gn (u:=G0 s58.1) O O ⟨Gs (G7 O O) O,G⟩ ?_
   refine Gn (u:=.vec 1152 data_q 1 data.length) O O ⟨Gs (G7 O O) O,Gs (G7 O O) O,G⟩ ?_
   refine Gn (u:=G0 s58.1) O O ⟨Gs (G7 O O) O,Gs (G7 O O) O,G⟩ ?_
   refine Gn (u:=G0 v66) O O ⟨Gs (Rz hv66 O O O) O,Gs (Rz hv66 O O O) O,G⟩ ?_
   refine Gn (u:=.vec 1152 data_q 1 data.length) O O ⟨Gs (G7 O O) O,G⟩ ?_
   refine Gn (u:=G0 s58.1) O O ⟨Gs (G7 O O) O,G⟩ ?_
   refine Gn (u:=G0 v67) O O ⟨Gs (Rz hv67 O O O) O,G⟩ ?_
   refine Gn (u:=.vptr 1152 data_q v67.toNat 0) O O ⟨Gs (Rg (f:=G0) (xs:=s58.2) (y:=y68) O O O O Gy hy68 hmy68) O,G⟩ ?_
   refine Gn (u:=G0 y68) O O ⟨Gs (A_vloadM (f:=G0) (xs:=s58.2) (y:=y68) Gb O O O hy68 O O) O,G⟩ ?_
   refine Gn (u:=.vec 1152 data_q 1 data.length) O O ⟨Gs (G7 O O) O,G⟩ ?_
   refine Gn (u:=G0 s58.1) O O ⟨Gs (G7 O O) O,G⟩ ?_
   refine Gn (u:=.vptr 1152 data_q s58.1.toNat 0) O O ⟨Gs (Rg (f:=G0) (xs:=s58.2) (y:=y69) O O O O Gy hy69 hmy69) O,G⟩ ?_
   refine Gn (u:=G0 y69) O O ⟨Gs (A_vloadM (f:=G0) (xs:=s58.2) (y:=y69) Gb O O O hy69 O O) O,G⟩ ?_
   refine Gn (u:=.vptr 1152 data_q s58.1.toNat 0) O O ⟨Gs (Rg (f:=G0) (xs:=s58.2) (y:=y70) O O O O Gy hy70 hmy70) O,G⟩ ?_
   refine D_w0 (u:=.junk) O O O O (Gs (A_vstoreM (f:=G0) (xs:=s58.2) (z:=y68) R9 O O O O (List.getElem?_eq_some_iff.1 hy70).1 O O O O) O) ?_
   refine Gn (u:=.vptr 1152 data_q v66.toNat 0) O O ⟨Gs (Rg (f:=G0) (xs:=(s58.2.set s58.1.toNat y68)) (y:=y71) O O O O Gy hy71 hmy71) O,G⟩ ?_
   refine D_w0 (u:=.junk) O O O O (Gs (A_vstoreM (f:=G0) (xs:=(s58.2.set s58.1.toNat y68)) (z:=y69) R9 O O O O (List.getElem?_eq_some_iff.1 hy71).1 O O O O) O) ?_
   refine Ry ?_
   refine hK65 _ _ ?_
   refine G3 ?_
   refine JLg (G0 s58.1) (G7 O O) ?_
   obtain⟨v72,hv72,h⟩:=Hm h
   refine JLg (G0 v72) (Rz hv72 O O O) ?_
   refine JLg (G0 v72) (G9 O O) ?_
   refine G8 ?_
   exact e58 _ _ m58 (v72,((s58.2.set s58.1.toNat y68).set v66.toNat y69)) (app1 hn58 h) (by omega) ⟨⟨.same rfl,.same rfl,.same rfl,.same (H8 _ _ cmp_d),.same rfl,.same rfl,G⟩,⟨⟨_,rfl,.vec⟩,G⟩,rfl⟩
  ·
   replace h:=Hp hb h
   refine Hk ?_
   refine hK6 _ _ ?_
   refine G3 ?_
   refine JLg (G0 s3.1) (G7 O O) ?_
   obtain⟨v73,hv73,h⟩:=Hm h
   refine JLg (G0 v73) (Ht hv73 O O O) ?_
   refine JLg (G0 v73) (G9 O O) ?_
   refine G8 ?_
   exact e3 _ _ m3 (v73,s58.2) (app1 hn3 h) (by omega) ⟨⟨.same rfl,.same rfl,.same rfl,.same (H8 _ _ cmp_d),.same rfl,G⟩,⟨⟨_,rfl,.vec⟩,G⟩,rfl⟩
 ·
  replace h:=Hp hb h
  refine Hk ?_
  obtain rfl:=Option.some.inj h
  exact⟨[],[(1152,.vec 3 1 data_q (s3.2.map G0))],⟨⟨_,O,.vec⟩,G⟩,O,G,O,O⟩

def M_slices_pdqsortCmpFunc_int (F:Nat) (data:List Int) (a:Int) (b:Int) (limit:Int) (cmp:Int→Int→Option Int):Option (List Int):=
 loop (fun nx23 (s23:Int×Int×Int×Bool×Bool)=>
  chk (s23.2.1 - s23.1) fun v25=>
  bif decide (v25≤12) then
  (bnd (Qg F data s23.1 s23.2.1 cmp) fun r29=>
   some r29)
  else
  (bif decide (s23.2.2.1=0) then
   (none)
   else
   (bif (!s23.2.2.2.1) then
    (none)
    else
    (none)))) F (a,b,limit,true,true)
theorem M_slices_pdqsortCmpFunc_int_p620000011 (F:Nat) (data:List Int) (data_q:Nat) (a:Int) (b:Int) (limit:Int) (cmp:Int→Int→Option Int) (cmp_f:FuncId) (cmp_c:List AV) (cmp_B:Hb Tryz.prog cmp_f=true) (cmp_d:Qm (fun _=>false) cmp_c=true) (cmp_w:∀ a0 a1 q,cmp a0 a1=some q→Pure Tryz.prog cmp_f ([G0 a0,G0 a1]++cmp_c) (·=G0 q)) (r:(List Int)) (h:M_slices_pdqsortCmpFunc_int F data a b limit cmp=some r):Jr Tryz.prog 129 [.vec 1152 data_q 1 data.length,G0 a,G0 b,G0 limit,.fn cmp_f cmp_c] [(1152,.vec 3 1 data_q (data.map G0))] (fun av L'=>av=.tup []∧L'=[(1152,.vec 3 1 data_q (r.map G0))]):=by
 unfold M_slices_pdqsortCmpFunc_int at h
 refine Ju [1152] [] Tryz.func129 O O (inAll O) ?_
 refine G6 fun K1 hK1=>G3 ?_
 refine JLg (BL true) (G9 O O) ?_
 refine G8 (hK1 _ _ ?_)
 refine G6 fun K2 hK2=>G3 ?_
 refine JLg (BL true) (G9 O O) ?_
 refine G8 (hK2 _ _ ?_)
 refine Gg ?_
 obtain⟨b23,hb23,h⟩:=loop_in h
 refine H7 (fun i23 (s23:Int×Int×Int×Bool×Bool)=>loop b23 i23 s23=some r) (fun i23 s23=>[(0,.vec 1152 data_q 1 data.length),(1,G0 s23.1),(2,G0 s23.2.1),(3,G0 s23.2.2.1),(4,.fn cmp_f cmp_c),(10,BL s23.2.2.2.1),(11,BL s23.2.2.2.2)]) (fun i23 s23=>[(1152,.vec 3 1 data_q (data.map G0))]) (fun i23=>i23) F (a,b,limit,true,true) h ⟨⟨.same O,.same O,.same O,.same O,.same (H8 _ _ cmp_d),.same O,.same O,G⟩,⟨⟨_,O,.vec⟩,G⟩,O⟩ ?_
 clear h
 intro i23 s23 hi23 K23 e23
 obtain⟨m23,nx23,hm_23,hn23,h⟩:=loop_out hi23
 replace h:=app2 hb23 h
 refine Gg ?_
 refine G6 fun K24 hK24=>G3 ?_
 refine JLg (G0 s23.2.1) (G7 O O) ?_
 refine JLg (G0 s23.1) (G7 O O) ?_
 obtain⟨v25,hv25,h⟩:=Hm h
 refine JLg (G0 v25) (Rz hv25 O O O) ?_
 refine JLg (G0 v25) (G9 O O) ?_
 refine G8 (hK24 _ _ ?_)
 refine G6 (fun K26 hK26=>?_)
 refine G6 fun K27 hK27=>G3 ?_
 refine JLg (G0 v25) (G7 O O) ?_
 refine JLg (BL (decide (v25≤12))) (A_leq O O O) ?_
 refine G8 (hK27 _ _ ?_)
 refine Gh O (fun hb=>?_) (fun hb=>?_)
 ·
  replace h:=Gv hb h
  refine G6 fun K28 hK28=>G3 ?_
  refine JLg (.vec 1152 data_q 1 data.length) (G7 O O) ?_
  refine JLg (G0 s23.1) (G7 O O) ?_
  refine JLg (G0 s23.2.1) (G7 O O) ?_
  refine JLg (.fn cmp_f cmp_c) (G7 O O) ?_
  obtain⟨r29,hr29,h⟩:=Ge h
  refine JLg (.tup []) (Rm (args:=[.vec 1152 data_q 1 data.length,G0 s23.1,G0 s23.2.1,.fn cmp_f cmp_c]) (L0:=[(1152,.vec 3 1 data_q (data.map G0))]) (Lr:=[(1152,.vec 3 1 data_q (r29.map G0))]) O (M_slices_insertionSortCmpFunc_int_p620000011 F data data_q s23.1 s23.2.1 cmp cmp_f cmp_c cmp_B cmp_d cmp_w r29 hr29) tf_call_142 ⟨.inl O,O,.inl O,O,.inl O,O,.inl O,(H8 _ _ cmp_d),G⟩ ⟨O,G⟩ O O O) ?_
  refine G8 (hK28 _ _ ?_)
  refine Gu ?_
  obtain rfl:=Option.some.inj h
  exact⟨[],[(1152,.vec 3 1 data_q (r29.map G0))],⟨⟨_,O,.vec⟩,G⟩,O,G,O,O⟩
 ·
  replace h:=Hp hb h
  refine Gj ?_
  refine hK26 _ _ ?_
  refine G6 (fun K30 hK30=>?_)
  refine G6 fun K31 hK31=>G3 ?_
  refine JLg (G0 s23.2.2.1) (G7 O O) ?_
  refine JLg (BL (decide (s23.2.2.1=0))) (Qb O O O) ?_
  refine G8 (hK31 _ _ ?_)
  refine Gh O (fun hb=>?_) (fun hb=>?_)
  ·
   replace h:=Gv hb h
   refine G6 (fun K32 hK32=>?_)
   cases h
  ·
   replace h:=Hp hb h
   refine Gj ?_
   refine hK30 _ _ ?_
   refine G6 (fun K33 hK33=>?_)
   refine G6 fun K34 hK34=>G3 ?_
   refine JLg (BL s23.2.2.2.1) (G7 O O) ?_
   refine JLg (BL (!s23.2.2.2.1)) (Rj (b:=s23.2.2.2.1) O O) ?_
   refine G8 (hK34 _ _ ?_)
   refine Gh O (fun hb=>?_) (fun hb=>?_)
   ·
    replace h:=Gv hb h
    refine G6 (fun K35 hK35=>?_)
    cases h
   ·
    replace h:=Hp hb h
    refine Gj ?_
    refine hK33 _ _ ?_
    refine G6 (fun K36 hK36=>?_)
    cases h

def M_slices_SortFunc_int (F:Nat) (x:List Int) (cmp:Int→Int→Option Int):Option (List Int):=
 bnd (M_math_bits_Len (IntKind.u64.wrap (x.length:Int))) fun r2=>
 bnd (M_slices_pdqsortCmpFunc_int F x 0 (x.length:Int) r2 cmp) fun r3=>
 some r3
theorem M_slices_SortFunc_int_p620000011 (F:Nat) (x:List Int) (x_q:Nat) (cmp:Int→Int→Option Int) (cmp_f:FuncId) (cmp_c:List AV) (cmp_B:Hb Tryz.prog cmp_f=true) (cmp_d:Qm (fun _=>false) cmp_c=true) (cmp_w:∀ a0 a1 q,cmp a0 a1=some q→Pure Tryz.prog cmp_f ([G0 a0,G0 a1]++cmp_c) (·=G0 q)) (r:(List Int)) (h:M_slices_SortFunc_int F x cmp=some r):Jr Tryz.prog 111 [.vec 1152 x_q 1 x.length,.fn cmp_f cmp_c] [(1152,.vec 3 1 x_q (x.map G0))] (fun av L'=>av=.tup []∧L'=[(1152,.vec 3 1 x_q (r.map G0))]):=by
 unfold M_slices_SortFunc_int at h
 refine Ju [1152] [] Tryz.func111 O O (inAll O) ?_
 refine G6 fun K1 hK1=>G3 ?_
 refine JLg (.vec 1152 x_q 1 x.length) (G7 O O) ?_
 refine JL_vlenM (f:=G0) (xs:=x) Gy O O O (fun hm6=>?_) O O O
 refine JLg (Em x.length) (G9 O O) ?_
 refine G8 (hK1 _ _ ?_)
 refine G3 ?_
 refine JLg (.vec 1152 x_q 1 x.length) (G7 O O) ?_
 refine JLg (Em x.length) (G7 O O) ?_
 refine JLg (Em x.length) (G7 O O) ?_
 refine JLg (.sc (.int .u64 (IntKind.u64.wrap (x.length:Int)))) (Yb tf_int_164 Rs O O O) ?_
 obtain⟨r2,hr2,h⟩:=Ge h
 refine JLg (G0 r2) (H1 (args:=[.sc (.int .u64 (IntKind.u64.wrap (x.length:Int)))]) O (M_math_bits_Len_w (IntKind.u64.wrap (x.length:Int)) r2 hr2) tf_call_78 ⟨O,O,G⟩) ?_
 refine JLg (.fn cmp_f cmp_c) (G7 O O) ?_
 obtain⟨r3,hr3,h⟩:=Ge h
 refine JLg (.tup []) (Rm (args:=[.vec 1152 x_q 1 x.length,G0 0,Em x.length,G0 r2,.fn cmp_f cmp_c]) (L0:=[(1152,.vec 3 1 x_q (x.map G0))]) (Lr:=[(1152,.vec 3 1 x_q (r3.map G0))]) O (M_slices_pdqsortCmpFunc_int_p620000011 F x x_q 0 (x.length:Int) r2 cmp cmp_f cmp_c cmp_B cmp_d cmp_w r3 hr3) tf_call_129 ⟨.inl O,O,.inl O,O,.inl O,O,.inl O,O,.inl O,(H8 _ _ cmp_d),G⟩ ⟨O,G⟩ O O O) ?_
 refine G8 ?_
 obtain rfl:=Option.some.inj h
 exact⟨[],[(1152,.vec 3 1 x_q (r3.map G0))],⟨⟨_,O,.vec⟩,G⟩,O,G,O,O⟩

def M_moves_sorted_int (F:Nat) (l:List Int) (compare:Int→Int→Option Int):Option (List Int):=
 bnd (M_slices_SortFunc_int F l compare) fun r3=>
 some r3
theorem M_moves_sorted_int_p620000011 (F:Nat) (l:List Int) (l_q:Nat) (compare:Int→Int→Option Int) (compare_f:FuncId) (compare_c:List AV) (compare_B:Hb Tryz.prog compare_f=true) (compare_d:Qm (fun _=>false) compare_c=true) (compare_w:∀ a0 a1 q,compare a0 a1=some q→Pure Tryz.prog compare_f ([G0 a0,G0 a1]++compare_c) (·=G0 q)) (r:(List Int)) (h:M_moves_sorted_int F l compare=some r):Jr Tryz.prog 89 [.vec 1152 l_q 1 l.length,.fn compare_f compare_c] [(1152,.vec 3 1 l_q (l.map G0))] (fun av L'=>∃ p:Nat,av=.vec 1152 p 1 r.length∧L'=[(1152,.vec 3 1 p (r.map G0))]):=by
 unfold M_moves_sorted_int at h
 refine Ju [1152] [.tmp 4] Tryz.func89 O O (inAll O) ?_
 refine G6 fun K1 hK1=>G3 ?_
 refine JLg (.vec 1173 (([]:List Int).length) 1 (([]:List Int).length)) (A_vnil 1173 3 1 O O O) ?_
 refine G8 (hK1 _ _ ?_)
 refine G6 fun K2 hK2=>G3 ?_
 refine JLg (.vec 1152 l_q 1 l.length) (G7 O O) ?_
 refine JLg (.fn compare_f compare_c) (G7 O O) ?_
 obtain⟨r3,hr3,h⟩:=Ge h
 refine JLg (.tup []) (Rm (args:=[.vec 1152 l_q 1 l.length,.fn compare_f compare_c]) (L0:=[(1152,.vec 3 1 l_q (l.map G0))]) (Lr:=[(1152,.vec 3 1 l_q (r3.map G0))]) O (M_slices_SortFunc_int_p620000011 F l l_q compare compare_f compare_c compare_B compare_d compare_w r3 hr3) tf_call_111 ⟨.inl O,O,.inl O,(H8 _ _ compare_d),G⟩ ⟨O,G⟩ O O O) ?_
 refine G8 (hK2 _ _ ?_)
 refine G6 fun K4 hK4=>G3 ?_
 refine JLg (.vec 1152 l_q 1 l.length) (G7 O O) ?_
 refine JLg (.vec 1152 l_q 1 l.length) (G9 O O) ?_
 refine G8 (hK4 _ _ ?_)
 refine JC_vlen 4 O O (fun hn_=>?_)
 refine Gu ?_
 obtain rfl:=Option.some.inj h
 exact⟨[.vec 1152 l_q 1 l.length],[(1152,.vec 3 1 l_q (r3.map G0))],⟨⟨_,O,.vec⟩,G⟩,O,⟨⟨_,O,.conv (.same O)⟩,G⟩,l_q,congrArg (fun n_:Nat=>(.vec 1152 l_q 1 n_:AV)) (hn_.trans (List.length_map _)),O⟩

def M_moves_needed (F:Nat) (s:Gz) (before:List G2) (after:List G2) (lifted:List Int) (bay:Int):Option (List Int):=
 each (fun y5 i5 (s5:(List Int)) nx5=>
  bnd (M_moves_part F s y5 lifted bay false) fun r11=>
  each (fun y52 i52 (s52:(List Int)) nx52=>
   jp (fun kj55=>
    bnd (M_ship_CoverOf s y52.Slot.G5) fun r58=>
    bnd (bif decide (0≤r58) then Q2 s52 r58 else some default) fun r60=>
    bif ((decide (0≤r58))&&(!r60)) then
    (need (decide ((s52.length+[r58].length)*8≤140737488355328∧s52.length+[r58].length≤maxLen)) <|
     kj55 (s52++[r58]))
    else
    (kj55 s52)) fun(j55:(List Int))=>
   nx52 j55)
  (fun(s52:(List Int))=>
   nx5 s52) r11 0 s5)
 (fun(s5:(List Int))=>
  bnd (M_moves_sorted_int F s5 (fun z0 z1=>Jv z0 z1)) fun r63=>
  some r63) [before,after] 0 []
theorem M_moves_needed_w (F:Nat) (s:Gz) (before:List G2) (after:List G2) (lifted:List Int) (bay:Int) (r:(List Int)) (h:M_moves_needed F s before after lifted bay=some r):Pure Tryz.prog 61 [.agg (Gz.cs s),E0 before,E0 after,E1 lifted,G0 bay] (·=E1 r):=by
 unfold M_moves_needed at h
 refine H9 [.tmp 10] Tryz.func61 O O ?_
 refine G6 fun K1 hK1=>G3 ?_
 refine JLg (.ptr 1151 0) (Q1 (u:=.agg (Gz.cs s)) (cs:=(Gz.cs s)) 1151 O O O O O) ?_
 refine JLg (E1 ([]:List Int)) (Jj 1 O O) ?_
 refine G8 (hK1 _ _ ?_)
 refine Gk [(1,E0 before),(2,E0 after),(3,E1 lifted),(4,G0 bay),(5,Ee s)] [] 1151 rfl rfl rfl G rfl (by repeat' (first | exact .ptr | constructor)) ?_
 refine G6 fun K2 hK2=>G3 ?_
 refine JLg (.vec 1152 (([]:List Int).length) 1 (([]:List Int).length)) (A_vnil 1152 3 1 O O O) ?_
 refine G8 (hK2 _ _ ?_)
 refine G6 (fun K3 hK3=>?_)
 refine G6 fun K4 hK4=>G3 ?_
 refine JLg (E0 before) (G7 O O) ?_
 refine JLg (E0 after) (G7 O O) ?_
 refine JLg (LS 1 (E0) [before,after]) (Hd (xs:=[E0 before,E0 after]) O ⟨O,O,O,O,G⟩ Ja Ys O O O O) ?_
 refine Hs (f:=(E0)) (xs:=[before,after]) Ja O O (fun hm20=>?_) O O O
 refine JLg (G0 0) (G7 O O) ?_
 refine G8 (hK4 _ _ ?_)
 refine Gg ?_
 obtain⟨b5,kx5,hb5,hkx5,h⟩:=Hu h
 refine H7 (fun i5 (s5:(List Int))=>each b5 kx5 (List.drop i5 [before,after]) i5 s5=some r) (fun i5 s5=>[(3,E1 lifted),(4,G0 bay),(5,Ee s),(11,.vec 1152 s5.length 1 s5.length),(19,LS 1 (E0) [before,after]),(20,G0 ([before,after].length:Int)),(21,Em i5)]) (fun i5 s5=>[(1152,.vec 3 1 s5.length (s5.map G0))]) (fun i5=>[before,after].length - i5) 0 [] h ⟨(by repeat' constructor),⟨⟨_,rfl,.vec⟩,G⟩,rfl⟩ ?_
 clear h
 intro i5 s5 hi5 K5 e5
 refine G6 fun K6 hK6=>G3 ?_
 refine JLg (BL (decide ((i5:Int) < ([before,after].length:Int)))) (Hy O O O) ?_
 refine G8 (hK6 _ _ ?_)
 refine G6 (fun K7 hK7=>?_)
 refine Gh O (fun hb=>?_) (fun hb=>?_)
 ·
  have hk5:=J9 hb
  obtain⟨y5,nx5,hy5,hn5,h⟩:=Hn hi5 hk5
  replace h:=app4 hb5 h
  refine Gj ?_
  refine hK7 _ _ ?_
  refine G6 (fun K8 hK8=>?_)
  refine Gg ?_
  refine G6 fun K9 hK9=>G3 ?_
  refine JLg (.dptr [E0 y5]) (H0 (f:=(E0)) (xs:=[before,after]) (y:=y5) O O O Ja hy5 O) ?_
  refine JLg (E0 y5) (Gf Qc O O O) ?_
  refine JLg (E0 y5) (G9 O O) ?_
  refine G8 (hK9 _ _ ?_)
  refine G6 fun K10 hK10=>G3 ?_
  refine JLg (.agg (Gz.cs s)) (Gi J0 O O O) ?_
  refine JLg (E0 y5) (G7 O O) ?_
  refine JLg (E1 lifted) (G7 O O) ?_
  refine JLg (G0 bay) (G7 O O) ?_
  obtain⟨r11,hr11,h⟩:=Ge h
  refine JLg (E0 r11) (H1 (args:=[.agg (Gz.cs s),E0 y5,E1 lifted,G0 bay,BL false]) O (M_moves_part_w F s y5 lifted bay false r11 hr11) tf_call_60 ⟨O,O,O,O,O,O,O,O,O,O,G⟩) ?_
  refine Hs (f:=G2.av) (xs:=r11) Gx O O (fun hm30=>?_) O O O
  refine JLg (G0 0) (G7 O O) ?_
  refine G8 (hK10 _ _ ?_)
  refine Gg ?_
  obtain⟨b52,kx52,hb52,hkx52,h⟩:=Hu h
  refine H7 (fun i52 (s52:(List Int))=>each b52 kx52 (List.drop i52 r11) i52 s52=some r) (fun i52 s52=>[(3,E1 lifted),(4,G0 bay),(5,Ee s),(11,.vec 1152 s52.length 1 s52.length),(19,LS 1 (E0) [before,after]),(20,G0 ([before,after].length:Int)),(21,Em i5),(29,E0 r11),(30,Em r11.length),(31,Em i52)]) (fun i52 s52=>[(1152,.vec 3 1 s52.length (s52.map G0))]) (fun i52=>r11.length - i52) 0 s5 h ⟨(by repeat' constructor),⟨⟨_,rfl,.vec⟩,G⟩,rfl⟩ ?_
  clear h
  intro i52 s52 hi52 K52 e52
  refine G6 fun K53 hK53=>G3 ?_
  refine JLg (BL (decide ((i52:Int) < (r11.length:Int)))) (Hy O O O) ?_
  refine G8 (hK53 _ _ ?_)
  refine G6 (fun K54 hK54=>?_)
  refine Gh O (fun hb=>?_) (fun hb=>?_)
  ·
   have hk52:=J9 hb
   obtain⟨y52,nx52,hy52,hn52,h⟩:=Hn hi52 hk52
   replace h:=app4 hb52 h
   refine Gj ?_
   refine hK54 _ _ ?_
   obtain⟨kj55,hkj55,h⟩:=Qd h
   refine Jq (fun j55:(List Int)=>kj55 j55=some r) (fun j55=>[(3,E1 lifted),(4,G0 bay),(5,Ee s),(11,.vec 1152 j55.length 1 j55.length),(19,LS 1 (E0) [before,after]),(20,G0 ([before,after].length:Int)),(21,Em i5),(29,E0 r11),(30,Em r11.length),(31,Em i52)]) (fun j55=>[(1152,.vec 3 1 j55.length (j55.map G0))]) (fun Kj55 ej55=>?_) ?_
   ·
    refine Gg ?_
    refine G6 fun K56 hK56=>G3 ?_
    refine JLg (Ef y52) (H0 (f:=G2.av) (xs:=r11) (y:=y52) O O O Gx hy52 O) ?_
    refine JLg (.agg (G2.cs y52)) (Gi Jf O O O) ?_
    refine JLg (.ptr 1153 0) (Hi 1153 4 Jb O O) ?_
    refine Hj (u:=.junk) (H2 (u:=.agg (G2.cs y52)) (ds:=[G0 y52.Gp,G0 y52.Slot.G5,G0 y52.Slot.Tier,U8 y52.Slot.Half]) Jz O O O O O O O O) ?_
    refine G8 (hK56 _ _ ?_)
    refine Gk [(3,E1 lifted),(4,G0 bay),(5,Ee s),(11,.vec 1152 s52.length 1 s52.length),(15,Ef y52),(19,LS 1 (E0) [before,after]),(20,G0 ([before,after].length:Int)),(21,Em i5),(29,E0 r11),(30,Em r11.length),(31,Em i52)] [(1152,.vec 3 1 s52.length (s52.map G0))] 1153 rfl rfl rfl ⟨⟨_,rfl,.vec⟩,G⟩ rfl (by repeat' (first | exact .ptr | constructor)) ?_
    refine G6 fun K57 hK57=>G3 ?_
    refine JLg (.agg (Gz.cs s)) (Gi J0 O O O) ?_
    refine JLg (Eg y52.Slot) (Gc J1 O O O) ?_
    refine JLg (Eg y52.Slot) (Gc J8 O O O) ?_
    refine JLg (G0 y52.Slot.G5) (Gf Gb O O O) ?_
    obtain⟨r58,hr58,h⟩:=Ge h
    refine JLg (G0 r58) (H1 (args:=[.agg (Gz.cs s),G0 y52.Slot.G5]) O (M_ship_CoverOf_w s y52.Slot.G5 r58 hr58) tf_call_47 ⟨O,O,O,O,G⟩) ?_
    refine JLg (G0 r58) (G9 O O) ?_
    refine G8 (hK57 _ _ ?_)
    refine G6 fun K59 hK59=>G3 ?_
    refine JLg (G0 r58) (G7 O O) ?_
    refine JLg (BL (decide (0≤r58))) (Yu O O O) ?_
    refine JLg (BL (decide (0≤r58))) (G7 O O) ?_
    refine Gd (u:=.vec 1152 s52.length 1 s52.length) [] O O O .sct G (fun hc=>G7 O O) ?_
    refine Gd (u:=G0 r58) [] O O O .sct G (fun hc=>G7 O O) ?_
    obtain⟨r60,hr60,h⟩:=Ge h
    refine Gd (u:=BL r60) [(43,.vec 1152 s52.length 1 s52.length),(44,G0 r58)] O O O .sct ⟨.all id,.all id,G⟩ (fun hc=>A_callLend (args:=[E1 s52,G0 r58]) O (M_slices_Contains_int_w s52 r58 r60 (Gv hc hr60)) tf_call_85 ⟨.vec O,.data O O,G⟩ O) ?_
    refine Gd (u:=BL (!r60)) [(45,BL r60)] O O O .sct ⟨.all id,G⟩ (fun hc=>Rj (b:=r60) O O) ?_
    refine JLg (BL ((decide (0≤r58))&&(!r60))) (Qr O O O O) ?_
    refine G8 (hK59 _ _ ?_)
    refine Gh O (fun hb=>?_) (fun hb=>?_)
    ·
     replace h:=Gv hb h
     refine G3 ?_
     refine JLg (.vec 1152 s52.length 1 s52.length) (G7 O O) ?_
     refine JLg (G0 r58) (G7 O O) ?_
     refine JLg (E1 [r58]) (Hd (xs:=[G0 r58]) O ⟨O,O,G⟩ Gy Rh O O O O) ?_
     obtain⟨ha61,h⟩:=Je h
     refine JLg (.vec 1152 ((s52++[r58]).length) 1 ((s52++[r58]).length)) (A_vappendM (f:=G0) (xs:=s52) (ys:=[r58]) (ver:=s52.length) (ver1:=(s52++[r58]).length) rfl rfl rfl rfl Gy tf_elem_3 ha61 (fun _=>rfl) (.inl rfl) (by simp)) ?_
     refine JLg (.vec 1152 ((s52++[r58]).length) 1 ((s52++[r58]).length)) (G9 O O) ?_
     refine G8 ?_
     exact ej55 _ _ (s52++[r58]) h ⟨(by repeat' constructor),⟨⟨_,rfl,.vec⟩,G⟩,rfl⟩
    ·
     replace h:=Hp hb h
     refine Gj ?_
     exact ej55 _ _ s52 h ⟨(by repeat' constructor),⟨⟨_,rfl,.vec⟩,G⟩,rfl⟩
   ·intro j55 h
    replace h:=app1 hkj55 h
    refine G3 ?_
    refine JLg (G0 ((i52+1:Nat):Int)) (Ht (Hc hk52 hm30) O O O) ?_
    refine JLg (G0 ((i52+1:Nat):Int)) (G7 O O) ?_
    refine G8 ?_
    exact e52 _ _ (i52+1) j55 (app1 hn52 h) (by omega) ⟨(by repeat' constructor),⟨⟨_,rfl,.vec⟩,G⟩,rfl⟩
  ·
   have h:=app1 hkx52 (Ho hi52 (H3 hb))
   refine Hk ?_
   refine hK8 _ _ ?_
   refine G3 ?_
   refine JLg (G0 ((i5+1:Nat):Int)) (Ht (Hc hk5 hm20) O O O) ?_
   refine JLg (G0 ((i5+1:Nat):Int)) (G7 O O) ?_
   refine G8 ?_
   exact e5 _ _ (i5+1) s52 (app1 hn5 h) (by omega) ⟨(by repeat' constructor),⟨⟨_,rfl,.vec⟩,G⟩,rfl⟩
 ·
  have h:=app1 hkx5 (Ho hi5 (H3 hb))
  refine Hk ?_
  refine hK3 _ _ ?_
  refine G6 fun K62 hK62=>G3 ?_
  refine JLg (.vec 1152 s5.length 1 s5.length) (G7 O O) ?_
  obtain⟨r63,hr63,h⟩:=Ge h
  refine Yw O O O (A_callLE (args:=[.vec 1152 s5.length 1 s5.length,.fn 53 []]) (L0:=[(1152,.vec 3 1 s5.length (s5.map G0))]) (u:=fun p=>.vec 1152 p 1 r63.length) (Lr:=fun p=>[(1152,.vec 3 1 p (r63.map G0))]) O (M_moves_sorted_int_p620000011 F s5 s5.length (fun z0 z1=>Jv z0 z1) 53 [] Yp O (fun z0 z1 q hq=>M_cmp_Compare_int_w z0 z1 q hq) r63 hr63) tf_call_89 ⟨.inl O,O,.inl O,O,G⟩ ⟨O,G⟩ O (fun _=>O)) ?_
  rintro u_ L_ ⟨v64,rfl,rfl⟩
  refine JLg (.vec 1152 v64 1 r63.length) (G9 O O) ?_
  refine G8 (hK62 _ _ ?_)
  refine JC_vfreeze [(10,E1 r63)] [] 1152 rfl rfl G rfl (by exact⟨.vec,G⟩) ?_
  refine Gu ?_
  exact⟨[E1 r63],[],G,O,⟨⟨_,O,.conv (.same O)⟩,G⟩,O,congrArg (fun r:(List Int)=>(E1 r:AV)) (Option.some.inj h)⟩


theorem M_moves_part_n (F:Nat) (s:Gz) (l:List G2) (lifted:List Int) (bay:Int) (deck:Bool) (r:(List G2)) (h:M_moves_part F s l lifted bay deck=some r):Jr Tryz.prog 60 [.agg (Gz.cs s),E0 l,E1 lifted,G0 bay,BL deck] [] (fun av L'=>∃ p:Nat,av=.vec 1148 p 4 r.length∧L'=[(1148,.vec 86 4 p (r.map G2.av))]):=by
 unfold M_moves_part at h
 refine Ju [] [.tmp 10] Tryz.func60 O O (inAll O) ?_
 refine G6 fun K1 hK1=>G3 ?_
 refine JLg (.ptr 1146 0) (Q1 (u:=.agg (Gz.cs s)) (cs:=(Gz.cs s)) 1146 O O O O O) ?_
 refine JLg (.vec 1147 (([]:List G2).length) 4 (([]:List G2).length)) (A_vnil 1147 86 4 O O O) ?_
 refine G8 (hK1 _ _ ?_)
 refine Gk [(1,E0 l),(2,E1 lifted),(3,G0 bay),(4,BL deck),(5,Ee s)] [(1147,.vec 86 4 (([]:List G2).length) (([]:List G2).map G2.av))] 1146 rfl rfl rfl ⟨⟨_,rfl,.vec⟩,G⟩ rfl (by repeat' (first | exact .ptr | constructor)) ?_
 refine G6 fun K2 hK2=>G3 ?_
 refine JLg (.vec 1148 (([]:List G2).length) 4 (([]:List G2).length)) (A_vnil 1148 86 4 O O O) ?_
 refine G8 (hK2 _ _ ?_)
 refine G6 (fun K3 hK3=>?_)
 refine G6 fun K4 hK4=>G3 ?_
 refine JLg (E0 l) (G7 O O) ?_
 refine Hs (f:=G2.av) (xs:=l) Gx O O (fun hm16=>?_) O O O
 refine JLg (G0 0) (G7 O O) ?_
 refine G8 (hK4 _ _ ?_)
 refine Gg ?_
 obtain⟨b49,kx49,hb49,hkx49,h⟩:=Hu h
 refine H7 (fun i49 (s49:(List G2))=>each b49 kx49 (List.drop i49 l) i49 s49=some r) (fun i49 s49=>[(2,E1 lifted),(3,G0 bay),(4,BL deck),(5,Ee s),(11,.vec 1148 s49.length 4 s49.length),(15,E0 l),(16,Em l.length),(17,Em i49)]) (fun i49 s49=>[(1147,.vec 86 4 (([]:List G2).length) (([]:List G2).map G2.av)),(1148,.vec 86 4 s49.length (s49.map G2.av))]) (fun i49=>l.length - i49) 0 [] h ⟨(by repeat' constructor),⟨⟨_,rfl,.vec⟩,⟨_,rfl,.vec⟩,G⟩,rfl⟩ ?_
 clear h
 intro i49 s49 hi49 K49 e49
 refine G6 fun K50 hK50=>G3 ?_
 refine JLg (BL (decide ((i49:Int) < (l.length:Int)))) (Hy O O O) ?_
 refine G8 (hK50 _ _ ?_)
 refine G6 (fun K51 hK51=>?_)
 refine Gh O (fun hb=>?_) (fun hb=>?_)
 ·
  have hk49:=J9 hb
  obtain⟨y49,nx49,hy49,hn49,h⟩:=Hn hi49 hk49
  replace h:=app4 hb49 h
  refine Gj ?_
  refine hK51 _ _ ?_
  obtain⟨kj52,hkj52,h⟩:=Qd h
  refine Jq (fun j52:(List G2)=>kj52 j52=some r) (fun j52=>[(2,E1 lifted),(3,G0 bay),(4,BL deck),(5,Ee s),(11,.vec 1148 j52.length 4 j52.length),(15,E0 l),(16,Em l.length),(17,Em i49)]) (fun j52=>[(1147,.vec 86 4 (([]:List G2).length) (([]:List G2).map G2.av)),(1148,.vec 86 4 j52.length (j52.map G2.av))]) (fun Kj52 ej52=>?_) ?_
  ·
   refine Gg ?_
   refine G6 fun K53 hK53=>G3 ?_
   refine JLg (Ef y49) (H0 (f:=G2.av) (xs:=l) (y:=y49) O O O Gx hy49 O) ?_
   refine JLg (.agg (G2.cs y49)) (Gi Jf O O O) ?_
   refine JLg (.ptr 1149 0) (Hi 1149 4 Jb O O) ?_
   refine Hj (u:=.junk) (H2 (u:=.agg (G2.cs y49)) (ds:=[G0 y49.Gp,G0 y49.Slot.G5,G0 y49.Slot.Tier,U8 y49.Slot.Half]) Jz O O O O O O O O) ?_
   refine G8 (hK53 _ _ ?_)
   refine Gk [(2,E1 lifted),(3,G0 bay),(4,BL deck),(5,Ee s),(11,.vec 1148 s49.length 4 s49.length),(13,Ef y49),(15,E0 l),(16,Em l.length),(17,Em i49)] [(1147,.vec 86 4 (([]:List G2).length) (([]:List G2).map G2.av)),(1148,.vec 86 4 s49.length (s49.map G2.av))] 1149 rfl rfl rfl ⟨⟨_,rfl,.vec⟩,⟨_,rfl,.vec⟩,G⟩ rfl (by repeat' (first | exact .ptr | constructor)) ?_
   refine G6 fun K54 hK54=>G3 ?_
   refine JLg (Ee s) (Gc J6 O O O) ?_
   refine JLg (E4 s.Columns) (Gf Jd O O O) ?_
   refine JLg (Eg y49.Slot) (Gc J1 O O O) ?_
   refine JLg (Eg y49.Slot) (Gc J8 O O O) ?_
   refine JLg (G0 y49.Slot.G5) (Gf Gb O O O) ?_
   obtain⟨m56,y55,hm56,hy55,h⟩:=R3 h
   refine JLg (Ei y55) (H0 (f:=G5.av) (xs:=s.Columns) (y:=y55) O O O J7 hy55 hm56) ?_
   refine JLg (.agg (G5.cs y55)) (Gi Ya O O O) ?_
   refine JLg (.ptr 1150 0) (Hi 1150 12 Rn O O) ?_
   refine Hj (u:=.junk) (H2 (u:=.agg (G5.cs y55)) (ds:=(G5.cs y55)) Ym O O O O O O O O) ?_
   refine G8 (hK54 _ _ ?_)
   refine Gk [(2,E1 lifted),(3,G0 bay),(4,BL deck),(5,Ee s),(11,.vec 1148 s49.length 4 s49.length),(13,Ef y49),(14,Ei y55),(15,E0 l),(16,Em l.length),(17,Em i49)] [(1147,.vec 86 4 (([]:List G2).length) (([]:List G2).map G2.av)),(1148,.vec 86 4 s49.length (s49.map G2.av))] 1150 rfl rfl rfl ⟨⟨_,rfl,.vec⟩,⟨_,rfl,.vec⟩,G⟩ rfl (by repeat' (first | exact .ptr | constructor)) ?_
   refine G6 fun K57 hK57=>G3 ?_
   refine JLg (Ei y55) (Gc R1 O O O) ?_
   refine JLg (G0 y55.Bay) (Gf Gb O O O) ?_
   refine JLg (G0 bay) (G7 O O) ?_
   refine JLg (BL (decide (y55.Bay=bay))) (Qb O O O) ?_
   refine JLg (BL (decide (y55.Bay=bay))) (G7 O O) ?_
   refine Gd (u:=.dptr ((G5.cs y55).drop 2)) [] O O O .sct G (fun hc=>Gc Rb O O O) ?_
   refine Gd (u:=BL y55.Deck) [(33,.dptr ((G5.cs y55).drop 2))] O O O .sct ⟨.all id,G⟩ (fun hc=>Gf Qj O O O) ?_
   refine Gd (u:=BL deck) [] O O O .sct G (fun hc=>G7 O O) ?_
   refine Gd (u:=BL (y55.Deck==deck)) [(34,BL y55.Deck),(35,BL deck)] O O O .sct ⟨.all id,.all id,G⟩ (fun hc=>A_eqBool tf_bool_4 O O O) ?_
   refine JLg (BL ((decide (y55.Bay=bay))&&(y55.Deck==deck))) (Qr O O O O) ?_
   refine JLg (BL ((decide (y55.Bay=bay))&&(y55.Deck==deck))) (G7 O O) ?_
   refine Gd (u:=E1 lifted) [] O O O .sct G (fun hc=>G7 O O) ?_
   refine Gd (u:=Ef y49) [] O O O .sct G (fun hc=>Gc J5 O O O) ?_
   refine Gd (u:=G0 y49.Gp) [(40,Ef y49)] O O O .sct ⟨.all id,G⟩ (fun hc=>Gf Gb O O O) ?_
   obtain⟨r58,hr58,h⟩:=Ge h
   refine Gd (u:=BL r58) [(39,E1 lifted),(41,G0 y49.Gp)] O O O .sct ⟨.all id,.all id,G⟩ (fun hc=>H1 (args:=[E1 lifted,G0 y49.Gp]) O (M_slices_Contains_int_w lifted y49.Gp r58 (Gv hc hr58)) tf_call_85 ⟨O,O,O,O,G⟩) ?_
   refine JLg (BL (((decide (y55.Bay=bay))&&(y55.Deck==deck))&&r58)) (Qr O O O O) ?_
   refine G8 (hK57 _ _ ?_)
   refine Gh O (fun hb=>?_) (fun hb=>?_)
   ·
    replace h:=Gv hb h
    refine G3 ?_
    refine JLg (.vec 1148 s49.length 4 s49.length) (G7 O O) ?_
    refine JLg (.agg (G2.cs y49)) (Gi Jf O O O) ?_
    refine JLg (E0 [y49]) (Hd (xs:=[.agg (G2.cs y49)]) O ⟨O,O,G⟩ Gx Jb O O O O) ?_
    obtain⟨ha59,h⟩:=Je h
    refine JLg (.vec 1148 ((s49++[y49]).length) 4 ((s49++[y49]).length)) (A_vappendM (f:=G2.av) (xs:=s49) (ys:=[y49]) (ver:=s49.length) (ver1:=(s49++[y49]).length) rfl rfl rfl rfl Gx Yo ha59 (fun _=>rfl) (.inl rfl) (by simp)) ?_
    refine JLg (.vec 1148 ((s49++[y49]).length) 4 ((s49++[y49]).length)) (G9 O O) ?_
    refine G8 ?_
    exact ej52 _ _ (s49++[y49]) h ⟨(by repeat' constructor),⟨⟨_,rfl,.vec⟩,⟨_,rfl,.vec⟩,G⟩,rfl⟩
   ·
    replace h:=Hp hb h
    refine Gj ?_
    exact ej52 _ _ s49 h ⟨(by repeat' constructor),⟨⟨_,rfl,.vec⟩,⟨_,rfl,.vec⟩,G⟩,rfl⟩
  ·intro j52 h
   replace h:=app1 hkj52 h
   refine G3 ?_
   refine JLg (G0 ((i49+1:Nat):Int)) (Ht (Hc hk49 hm16) O O O) ?_
   refine JLg (G0 ((i49+1:Nat):Int)) (G7 O O) ?_
   refine G8 ?_
   exact e49 _ _ (i49+1) j52 (app1 hn49 h) (by omega) ⟨(by repeat' constructor),⟨⟨_,rfl,.vec⟩,⟨_,rfl,.vec⟩,G⟩,rfl⟩
 ·
  have h:=app1 hkx49 (Ho hi49 (H3 hb))
  refine Hk ?_
  refine hK3 _ _ ?_
  refine G6 fun K60 hK60=>G3 ?_
  refine JLg (.vec 1148 s49.length 4 s49.length) (G7 O O) ?_
  obtain⟨r61,hr61,h⟩:=Ge h
  refine Yw O O O (A_callLE (args:=[.vec 1148 s49.length 4 s49.length,.fn 87 []]) (L0:=[(1148,.vec 86 4 s49.length (s49.map G2.av))]) (u:=fun p=>.vec 1148 p 4 r61.length) (Lr:=fun p=>[(1148,.vec 86 4 p (r61.map G2.av))]) O (M_moves_sorted_apiStowed_p610000011 F s49 s49.length (fun z0 z1=>M_moves_part_1 z0 z1) 87 [] tf_call_87 O (fun z0 z1 q hq=>M_moves_part_1_w z0 z1 q hq) r61 hr61) tf_call_86 ⟨.inl O,O,.inl O,O,G⟩ ⟨O,G⟩ O (fun _=>O)) ?_
  rintro u_ L_ ⟨v62,rfl,rfl⟩
  refine JLg (.vec 1148 v62 4 r61.length) (G9 O O) ?_
  refine G8 (hK60 _ _ ?_)
  refine JC_vlen 10 O O (fun hn_=>?_)
  refine Gu ?_
  obtain rfl:=Option.some.inj h
  exact⟨[.vec 1148 v62 4 r61.length],[(1148,.vec 86 4 v62 (r61.map G2.av))],⟨⟨_,O,.vec⟩,G⟩,O,⟨⟨_,O,.conv (.same O)⟩,G⟩,v62,congrArg (fun n_:Nat=>(.vec 1148 v62 4 n_:AV)) (hn_.trans (List.length_map _)),O⟩

def Qn (F:Nat) (data:List G2) (n:Int) (cmp:G2→G2→Option Int):Option (List G2):=
 loop (fun nx19 (s19:Int×Int×(List G2))=>
  bif decide (s19.2.1≤n) then
  (bnd (J2 F s19.2.2 s19.1 s19.2.1 cmp) fun r23=>
   chk (s19.2.1+20) fun v26=>
   nx19 (s19.2.1,v26,r23))
  else
  (bnd (J2 F s19.2.2 s19.1 n cmp) fun r28=>
   loop (fun nx30 (s30:Int)=>
    bif decide (s30 < n) then
    (chk (2*s30) fun v34=>
     loop (fun nx40 (s40:Int×Int)=>
      bif decide (s40.2≤n) then
      (none)
      else
      (chk (s40.1+s30) fun v46=>
       bif decide (v46 < n) then
       (none)
       else
       (chk (s30*2) fun v48=>
        nx30 v48))) F (0,v34))
    else
    (some r28)) F 20)) F (0,20,data)
theorem M_slices_stableCmpFunc_apiStowed_p610000011 (F:Nat) (data:List G2) (data_q:Nat) (n:Int) (cmp:G2→G2→Option Int) (cmp_f:FuncId) (cmp_c:List AV) (cmp_B:Hb Tryz.prog cmp_f=true) (cmp_d:Qm (fun _=>false) cmp_c=true) (cmp_w:∀ a0 a1 q,cmp a0 a1=some q→Pure Tryz.prog cmp_f ([.agg (G2.cs a0),.agg (G2.cs a1)]++cmp_c) (·=G0 q)) (r:(List G2)) (h:Qn F data n cmp=some r):Jr Tryz.prog 107 [.vec 1148 data_q 4 data.length,G0 n,.fn cmp_f cmp_c] [(1148,.vec 86 4 data_q (data.map G2.av))] (fun av L'=>av=.tup []∧L'=[(1148,.vec 86 4 data_q (r.map G2.av))]):=by
 unfold Qn at h
 refine Ju [1148] [] Tryz.func107 O O (inAll O) ?_
 refine G6 fun K1 hK1=>G3 ?_
 refine JLg (G0 20) (G9 O O) ?_
 refine G8 (hK1 _ _ ?_)
 refine G6 fun K2 hK2=>G3 ?_
 refine JLg (G0 20) (G7 O O) ?_
 refine JLg (G0 0) (G9 O O) ?_
 refine JLg (G0 20) (G9 O O) ?_
 refine G8 (hK2 _ _ ?_)
 refine G6 (fun K3 hK3=>?_)
 refine Gg ?_
 obtain⟨b19,hb19,h⟩:=loop_in h
 refine H7 (fun i19 (s19:Int×Int×(List G2))=>loop b19 i19 s19=some r) (fun i19 s19=>[(0,.vec 1148 data_q 4 data.length),(1,G0 n),(2,.fn cmp_f cmp_c),(6,G0 20),(7,G0 s19.1),(8,G0 s19.2.1)]) (fun i19 s19=>[(1148,.vec 86 4 data_q (s19.2.2.map G2.av))]) (fun i19=>i19) F (0,20,data) h ⟨⟨.same O,.same O,.same (H8 _ _ cmp_d),.same O,.same O,.same O,G⟩,⟨⟨_,O,.vec⟩,G⟩,O⟩ ?_
 clear h
 intro i19 s19 hi19 K19 e19
 obtain⟨m19,nx19,hm_19,hn19,h⟩:=loop_out hi19
 replace h:=app2 hb19 h
 refine G6 (fun K20 hK20=>?_)
 refine G6 fun K21 hK21=>G3 ?_
 refine JLg (G0 s19.2.1) (G7 O O) ?_
 refine JLg (G0 n) (G7 O O) ?_
 refine JLg (BL (decide (s19.2.1≤n))) (A_leq O O O) ?_
 refine G8 (hK21 _ _ ?_)
 refine Gh O (fun hb=>?_) (fun hb=>?_)
 ·
  replace h:=Gv hb h
  refine Gj ?_
  refine hK20 _ _ ?_
  refine Gg ?_
  refine G6 fun K22 hK22=>G3 ?_
  refine JLg (.vec 1148 data_q 4 data.length) (G7 O O) ?_
  refine JLg (G0 s19.1) (G7 O O) ?_
  refine JLg (G0 s19.2.1) (G7 O O) ?_
  refine JLg (.fn cmp_f cmp_c) (G7 O O) ?_
  obtain⟨r23,hr23,h⟩:=Ge h
  refine JL_vlen 14 O O (fun hn24=>?_)
  refine JLg (.tup []) (Rm (args:=[.vec 1148 data_q 4 s19.2.2.length,G0 s19.1,G0 s19.2.1,.fn cmp_f cmp_c]) (L0:=[(1148,.vec 86 4 data_q (s19.2.2.map G2.av))]) (Lr:=[(1148,.vec 86 4 data_q (r23.map G2.av))]) O (Q0 F s19.2.2 data_q s19.1 s19.2.1 cmp cmp_f cmp_c cmp_B cmp_d cmp_w r23 hr23) tf_call_125 ⟨.inl (congrArg (fun n_:Nat=>(.vec 1148 data_q 4 n_:AV)) (hn24.trans (List.length_map _))),O,.inl O,O,.inl O,O,.inl O,(H8 _ _ cmp_d),G⟩ ⟨O,G⟩ O O O) ?_
  refine G8 (hK22 _ _ ?_)
  refine G6 fun K25 hK25=>G3 ?_
  refine JLg (G0 s19.2.1) (G7 O O) ?_
  refine JLg (G0 s19.2.1) (G9 O O) ?_
  refine G8 (hK25 _ _ ?_)
  refine G3 ?_
  refine JLg (G0 s19.2.1) (G7 O O) ?_
  refine JLg (G0 20) (G7 O O) ?_
  obtain⟨v26,hv26,h⟩:=Hm h
  refine JLg (G0 v26) (Ht hv26 O O O) ?_
  refine JLg (G0 v26) (G9 O O) ?_
  refine G8 ?_
  exact e19 _ _ m19 (s19.2.1,v26,r23) (app1 hn19 h) (by omega) ⟨⟨.same rfl,.same rfl,.same (H8 _ _ cmp_d),.same rfl,.same rfl,.same rfl,G⟩,⟨⟨_,rfl,.vec⟩,G⟩,rfl⟩
 ·
  replace h:=Hp hb h
  refine Hk ?_
  refine hK3 _ _ ?_
  refine G6 fun K27 hK27=>G3 ?_
  refine JLg (.vec 1148 data_q 4 data.length) (G7 O O) ?_
  refine JLg (G0 s19.1) (G7 O O) ?_
  refine JLg (G0 n) (G7 O O) ?_
  refine JLg (.fn cmp_f cmp_c) (G7 O O) ?_
  obtain⟨r28,hr28,h⟩:=Ge h
  refine JL_vlen 23 O O (fun hn29=>?_)
  refine JLg (.tup []) (Rm (args:=[.vec 1148 data_q 4 s19.2.2.length,G0 s19.1,G0 n,.fn cmp_f cmp_c]) (L0:=[(1148,.vec 86 4 data_q (s19.2.2.map G2.av))]) (Lr:=[(1148,.vec 86 4 data_q (r28.map G2.av))]) O (Q0 F s19.2.2 data_q s19.1 n cmp cmp_f cmp_c cmp_B cmp_d cmp_w r28 hr28) tf_call_125 ⟨.inl (congrArg (fun n_:Nat=>(.vec 1148 data_q 4 n_:AV)) (hn29.trans (List.length_map _))),O,.inl O,O,.inl O,O,.inl O,(H8 _ _ cmp_d),G⟩ ⟨O,G⟩ O O O) ?_
  refine G8 (hK27 _ _ ?_)
  refine Gg ?_
  obtain⟨b30,hb30,h⟩:=loop_in h
  refine H7 (fun i30 (s30:Int)=>loop b30 i30 s30=some r) (fun i30 s30=>[(0,.vec 1148 data_q 4 data.length),(1,G0 n),(2,.fn cmp_f cmp_c),(6,G0 s30)]) (fun i30 s30=>[(1148,.vec 86 4 data_q (r28.map G2.av))]) (fun i30=>i30) F 20 h ⟨⟨.same O,.same O,.same (H8 _ _ cmp_d),.same O,G⟩,⟨⟨_,O,.vec⟩,G⟩,O⟩ ?_
  clear h
  intro i30 s30 hi30 K30 e30
  obtain⟨m30,nx30,hm_30,hn30,h⟩:=loop_out hi30
  replace h:=app2 hb30 h
  refine G6 (fun K31 hK31=>?_)
  refine G6 fun K32 hK32=>G3 ?_
  refine JLg (G0 s30) (G7 O O) ?_
  refine JLg (G0 n) (G7 O O) ?_
  refine JLg (BL (decide (s30 < n))) (Hy O O O) ?_
  refine G8 (hK32 _ _ ?_)
  refine Gh O (fun hb=>?_) (fun hb=>?_)
  ·
   replace h:=Gv hb h
   refine Gj ?_
   refine hK31 _ _ ?_
   refine Gg ?_
   refine G6 fun K33 hK33=>G3 ?_
   refine JLg (G0 s30) (G7 O O) ?_
   obtain⟨v34,hv34,h⟩:=Hm h
   refine JLg (G0 v34) (A_mul hv34 O O O) ?_
   refine JLg (G0 0) (G9 O O) ?_
   refine JLg (G0 v34) (G9 O O) ?_
   refine G8 (hK33 _ _ ?_)
   refine G6 (fun K35 hK35=>?_)
   refine Gg ?_
   obtain⟨b40,hb40,h⟩:=loop_in h
   refine H7 (fun i40 (s40:Int×Int)=>loop b40 i40 s40=some r) (fun i40 s40=>[(0,.vec 1148 data_q 4 data.length),(1,G0 n),(2,.fn cmp_f cmp_c),(6,G0 s30),(7,G0 s40.1),(8,G0 s40.2)]) (fun i40 s40=>[(1148,.vec 86 4 data_q (r28.map G2.av))]) (fun i40=>i40) F (0,v34) h ⟨⟨.same O,.same O,.same (H8 _ _ cmp_d),.same O,.same O,.same O,G⟩,⟨⟨_,O,.vec⟩,G⟩,O⟩ ?_
   clear h
   intro i40 s40 hi40 K40 e40
   obtain⟨m40,nx40,hm_40,hn40,h⟩:=loop_out hi40
   replace h:=app2 hb40 h
   refine G6 (fun K41 hK41=>?_)
   refine G6 fun K42 hK42=>G3 ?_
   refine JLg (G0 s40.2) (G7 O O) ?_
   refine JLg (G0 n) (G7 O O) ?_
   refine JLg (BL (decide (s40.2≤n))) (A_leq O O O) ?_
   refine G8 (hK42 _ _ ?_)
   refine Gh O (fun hb=>?_) (fun hb=>?_)
   ·
    replace h:=Gv hb h
    refine Gj ?_
    refine hK41 _ _ ?_
    refine Gg ?_
    refine G6 (fun K43 hK43=>?_)
    cases h
   ·
    replace h:=Hp hb h
    refine Hk ?_
    refine hK35 _ _ ?_
    refine G6 (fun K44 hK44=>?_)
    refine G6 fun K45 hK45=>G3 ?_
    refine JLg (G0 s40.1) (G7 O O) ?_
    refine JLg (G0 s30) (G7 O O) ?_
    obtain⟨v46,hv46,h⟩:=Hm h
    refine JLg (G0 v46) (Ht hv46 O O O) ?_
    refine JLg (G0 v46) (G9 O O) ?_
    refine G8 (hK45 _ _ ?_)
    refine G6 fun K47 hK47=>G3 ?_
    refine JLg (G0 v46) (G7 O O) ?_
    refine JLg (G0 n) (G7 O O) ?_
    refine JLg (BL (decide (v46 < n))) (Hy O O O) ?_
    refine G8 (hK47 _ _ ?_)
    refine Gh O (fun hb=>?_) (fun hb=>?_)
    ·
     replace h:=Gv hb h
     cases h
    ·
     replace h:=Hp hb h
     refine Gj ?_
     refine hK44 _ _ ?_
     refine G3 ?_
     refine JLg (G0 s30) (G7 O O) ?_
     obtain⟨v48,hv48,h⟩:=Hm h
     refine JLg (G0 v48) (A_mul hv48 O O O) ?_
     refine JLg (G0 v48) (G9 O O) ?_
     refine G8 ?_
     exact e30 _ _ m30 v48 (app1 hn30 h) (by omega) ⟨⟨.same rfl,.same rfl,.same (H8 _ _ cmp_d),.same rfl,G⟩,⟨⟨_,rfl,.vec⟩,G⟩,rfl⟩
  ·
   replace h:=Hp hb h
   refine Hk ?_
   obtain rfl:=Option.some.inj h
   exact⟨[],[(1148,.vec 86 4 data_q (r28.map G2.av))],⟨⟨_,O,.vec⟩,G⟩,O,G,O,O⟩

def Q4 (F:Nat) (x:List G2) (cmp:G2→G2→Option Int):Option (List G2):=
 bnd (Qn F x (x.length:Int) cmp) fun r1=>
 some r1
theorem M_slices_SortStableFunc_apiStowed_p610000011 (F:Nat) (x:List G2) (x_q:Nat) (cmp:G2→G2→Option Int) (cmp_f:FuncId) (cmp_c:List AV) (cmp_B:Hb Tryz.prog cmp_f=true) (cmp_d:Qm (fun _=>false) cmp_c=true) (cmp_w:∀ a0 a1 q,cmp a0 a1=some q→Pure Tryz.prog cmp_f ([.agg (G2.cs a0),.agg (G2.cs a1)]++cmp_c) (·=G0 q)) (r:(List G2)) (h:Q4 F x cmp=some r):Jr Tryz.prog 83 [.vec 1148 x_q 4 x.length,.fn cmp_f cmp_c] [(1148,.vec 86 4 x_q (x.map G2.av))] (fun av L'=>av=.tup []∧L'=[(1148,.vec 86 4 x_q (r.map G2.av))]):=by
 unfold Q4 at h
 refine Ju [1148] [] Tryz.func83 O O (inAll O) ?_
 refine G3 ?_
 refine JLg (.vec 1148 x_q 4 x.length) (G7 O O) ?_
 refine JLg (.vec 1148 x_q 4 x.length) (G7 O O) ?_
 refine JL_vlenM (f:=G2.av) (xs:=x) Gx O O O (fun hm6=>?_) O O O
 refine JLg (.fn cmp_f cmp_c) (G7 O O) ?_
 obtain⟨r1,hr1,h⟩:=Ge h
 refine JLg (.tup []) (Rm (args:=[.vec 1148 x_q 4 x.length,Em x.length,.fn cmp_f cmp_c]) (L0:=[(1148,.vec 86 4 x_q (x.map G2.av))]) (Lr:=[(1148,.vec 86 4 x_q (r1.map G2.av))]) O (M_slices_stableCmpFunc_apiStowed_p610000011 F x x_q (x.length:Int) cmp cmp_f cmp_c cmp_B cmp_d cmp_w r1 hr1) tf_call_107 ⟨.inl O,O,.inl O,O,.inl O,(H8 _ _ cmp_d),G⟩ ⟨O,G⟩ O O O) ?_
 refine G8 ?_
 obtain rfl:=Option.some.inj h
 exact⟨[],[(1148,.vec 86 4 x_q (r1.map G2.av))],⟨⟨_,O,.vec⟩,G⟩,O,G,O,O⟩

def M_moves_fromAbove (F:Nat) (l:List G2):Option (List G2):=
 bnd (Q4 F l (fun z0 z1=>M_moves_fromAbove_1 z0 z1)) fun r3=>
 some r3
theorem M_moves_fromAbove_p610000011 (F:Nat) (l:List G2) (l_q:Nat) (r:(List G2)) (h:M_moves_fromAbove F l=some r):Jr Tryz.prog 59 [.vec 1148 l_q 4 l.length] [(1148,.vec 86 4 l_q (l.map G2.av))] (fun av L'=>∃ p:Nat,av=.vec 1148 p 4 r.length∧L'=[(1148,.vec 86 4 p (r.map G2.av))]):=by
 unfold M_moves_fromAbove at h
 refine Ju [1148] [.tmp 2] Tryz.func59 O O (inAll O) ?_
 refine G6 fun K1 hK1=>G3 ?_
 refine JLg (.vec 1145 (([]:List G2).length) 4 (([]:List G2).length)) (A_vnil 1145 86 4 O O O) ?_
 refine G8 (hK1 _ _ ?_)
 refine G6 fun K2 hK2=>G3 ?_
 refine JLg (.vec 1148 l_q 4 l.length) (G7 O O) ?_
 obtain⟨r3,hr3,h⟩:=Ge h
 refine JLg (.tup []) (Rm (args:=[.vec 1148 l_q 4 l.length,.fn 84 []]) (L0:=[(1148,.vec 86 4 l_q (l.map G2.av))]) (Lr:=[(1148,.vec 86 4 l_q (r3.map G2.av))]) O (M_slices_SortStableFunc_apiStowed_p610000011 F l l_q (fun z0 z1=>M_moves_fromAbove_1 z0 z1) 84 [] tf_call_84 O (fun z0 z1 q hq=>M_moves_fromAbove_1_w z0 z1 q hq) r3 hr3) tf_call_83 ⟨.inl O,O,.inl O,O,G⟩ ⟨O,G⟩ O O O) ?_
 refine G8 (hK2 _ _ ?_)
 refine G6 fun K4 hK4=>G3 ?_
 refine JLg (.vec 1148 l_q 4 l.length) (G7 O O) ?_
 refine JLg (.vec 1148 l_q 4 l.length) (G9 O O) ?_
 refine G8 (hK4 _ _ ?_)
 refine JC_vlen 2 O O (fun hn_=>?_)
 refine Gu ?_
 obtain rfl:=Option.some.inj h
 exact⟨[.vec 1148 l_q 4 l.length],[(1148,.vec 86 4 l_q (r3.map G2.av))],⟨⟨_,O,.vec⟩,G⟩,O,⟨⟨_,O,.conv (.same O)⟩,G⟩,l_q,congrArg (fun n_:Nat=>(.vec 1148 l_q 4 n_:AV)) (hn_.trans (List.length_map _)),O⟩

def M_moves_call (F:Nat) (s:Gz) (before:List G2) (after:List G2) (lifted:List Int):Option (List Move):=
 need (decide (40≤9223372036854775807)) <|
 upto (fun i75 (s75:(List Move)) nx75=>
  bnd (M_moves_part F s before lifted (i75:Int) true) fun r81=>
  bnd (M_moves_fromAbove F r81) fun r83=>
  bnd (M_moves_call_1 2 r83 s75) fun r85=>
  bnd (M_moves_needed F s before after lifted (i75:Int)) fun r87=>
  bnd (M_moves_call_2 1 r87 r85) fun r88=>
  bnd (M_moves_part F s before lifted (i75:Int) false) fun r89=>
  bnd (M_moves_fromAbove F r89) fun r91=>
  bnd (M_moves_call_1 2 r91 r88) fun r93=>
  nx75 r93)
 (fun(s75:(List Move))=>
  need (decide (40≤9223372036854775807)) <|
  upto (fun i140 (s140:(List Move)) nx140=>
   bnd (M_moves_part F s after lifted (i140:Int) false) fun r146=>
   bnd (M_moves_call_1 3 r146 s140) fun r147=>
   bnd (M_moves_needed F s before after lifted (i140:Int)) fun r149=>
   bnd (M_moves_call_2 4 r149 r147) fun r150=>
   bnd (M_moves_part F s after lifted (i140:Int) true) fun r151=>
   bnd (M_moves_call_1 3 r151 r150) fun r152=>
   nx140 r152)
  (fun(s140:(List Move))=>
   some s140) (40:Int).toNat 0 s75) (40:Int).toNat 0 []
theorem M_moves_call_w (F:Nat) (s:Gz) (before:List G2) (after:List G2) (lifted:List Int) (r:(List Move)) (h:M_moves_call F s before after lifted=some r):Pure Tryz.prog 34 [.agg (Gz.cs s),E0 before,E0 after,E1 lifted] (·=E3 r):=by
 unfold M_moves_call at h
 refine H9 [.tmp 8] Tryz.func34 O O ?_
 refine G6 fun K1 hK1=>G3 ?_
 refine JLg (.ptr 1110 0) (Q1 (u:=.agg (Gz.cs s)) (cs:=(Gz.cs s)) 1110 O O O O O) ?_
 refine JLg (E3 ([]:List Move)) (Jj 6 O O) ?_
 refine G8 (hK1 _ _ ?_)
 refine Gk [(1,E0 before),(2,E0 after),(3,E1 lifted),(4,Ee s)] [] 1110 rfl rfl rfl G rfl (by repeat' (first | exact .ptr | constructor)) ?_
 refine G6 fun K2 hK2=>G3 ?_
 refine JLg (.ptr 1111 0) (Y1 1111 [.sc (.slice none 0 0)] [.slice none 0 0] tf_zero_51 ⟨.inl O,G⟩ O O) ?_
 refine JL_ownCell 1111 0 1112 59 6 O O O (cs':=[OW 1112 6 Move.av ([]:List Move)]) O ?_
 refine G8 (hK2 _ _ ?_)
 refine G6 fun K3 hK3=>G3 ?_
 refine JLg (.fn 57 [.ptr 1111 0]) (R4 (cs:=[.ptr 1111 0]) O O) ?_
 refine JLg (.fn 57 [.ptr 1111 0]) (G9 O O) ?_
 refine G8 (hK3 _ _ ?_)
 refine G6 fun K4 hK4=>G3 ?_
 refine JLg (.fn 58 [.ptr 1111 0]) (R4 (cs:=[.ptr 1111 0]) O O) ?_
 refine JLg (.fn 58 [.ptr 1111 0]) (G9 O O) ?_
 refine G8 (hK4 _ _ ?_)
 refine G6 (fun K5 hK5=>?_)
 refine G6 fun K6 hK6=>G3 ?_
 refine JLg (G0 0) (G7 O O) ?_
 refine G8 (hK6 _ _ ?_)
 refine Gg ?_
 obtain⟨hx75,h⟩:=Je h
 obtain⟨b75,kx75,hb75,hkx75,h⟩:=upto_in h
 refine H7 (fun i75 (s75:(List Move))=>upto b75 kx75 ((40:Int).toNat - i75) i75 s75=some r) (fun i75 s75=>[(1,E0 before),(2,E0 after),(3,E1 lifted),(4,Ee s),(9,.ptr 1111 0),(10,.fn 57 [.ptr 1111 0]),(11,.fn 58 [.ptr 1111 0]),(16,Em i75)]) (fun i75 s75=>[(1112,.spare 59 6 s75.length s75.length),(1111,.box 51 [OW 1112 6 Move.av s75])]) (fun i75=>(40:Int).toNat - i75) 0 [] h ⟨(by repeat' constructor),⟨⟨_,rfl,.same⟩,⟨_,rfl,.boxL rfl ⟨.same rfl,G⟩⟩,G⟩,rfl⟩ ?_
 clear h
 intro i75 s75 hi75 K75 e75
 refine G6 fun K76 hK76=>G3 ?_
 refine JLg (BL (decide ((i75:Int) < 40))) (Hy O O O) ?_
 refine G8 (hK76 _ _ ?_)
 refine G6 (fun K77 hK77=>?_)
 refine Gh O (fun hb=>?_) (fun hb=>?_)
 ·
  have hk75:=lt_toNat hb
  obtain⟨nx75,hn75,h⟩:=upto_out hi75 hk75
  replace h:=app3 hb75 h
  refine Gj ?_
  refine hK77 _ _ ?_
  refine G6 (fun K78 hK78=>?_)
  refine Gg ?_
  refine G6 fun K79 hK79=>G3 ?_
  refine JLg (Em i75) (G7 O O) ?_
  refine JLg (Em i75) (G9 O O) ?_
  refine G8 (hK79 _ _ ?_)
  refine G6 fun K80 hK80=>G3 ?_
  refine JLg (.fn 57 [.ptr 1111 0]) (G7 O O) ?_
  refine JLg (.agg (Gz.cs s)) (Gi J0 O O O) ?_
  refine JLg (E0 before) (G7 O O) ?_
  refine JLg (E1 lifted) (G7 O O) ?_
  refine JLg (Em i75) (G7 O O) ?_
  obtain⟨r81,hr81,h⟩:=Ge h
  refine Yw O O O (A_callLE (args:=[.agg (Gz.cs s),E0 before,E1 lifted,Em i75,BL true]) (L0:=[]) (u:=fun p=>.vec 1148 p 4 r81.length) (Lr:=fun p=>[(1148,.vec 86 4 p (r81.map G2.av))]) O (M_moves_part_n F s before lifted (i75:Int) true r81 hr81) tf_call_60 ⟨.inl O,O,.inl O,O,.inl O,O,.inl O,O,.inl O,O,G⟩ G O (fun _=>O)) ?_
  rintro u_ L_ ⟨v82,rfl,rfl⟩
  obtain⟨r83,hr83,h⟩:=Ge h
  refine Yw O O O (A_callLE (args:=[.vec 1148 v82 4 r81.length]) (L0:=[(1148,.vec 86 4 v82 (r81.map G2.av))]) (u:=fun p=>.vec 1148 p 4 r83.length) (Lr:=fun p=>[(1148,.vec 86 4 p (r83.map G2.av))]) O (M_moves_fromAbove_p610000011 F r81 v82 r83 hr83) tf_call_59 ⟨.inl O,O,G⟩ ⟨O,G⟩ O (fun _=>O)) ?_
  rintro u_ L_ ⟨v84,rfl,rfl⟩
  refine JL_vfreeze [(1,E0 before),(2,E0 after),(3,E1 lifted),(4,Ee s),(9,.ptr 1111 0),(10,.fn 57 [.ptr 1111 0]),(11,.fn 58 [.ptr 1111 0]),(12,Em i75),(16,Em i75),(17,BL (decide ((i75:Int) < 40))),(18,Em i75),(19,.fn 57 [.ptr 1111 0]),(20,.agg (Gz.cs s)),(21,E0 before),(22,E1 lifted),(23,Em i75),(25,E0 r83)] [(1112,.spare 59 6 s75.length s75.length),(1111,.box 51 [OW 1112 6 Move.av s75])] 1148 rfl rfl ⟨⟨_,rfl,.same⟩,⟨_,rfl,.boxEq rfl rfl⟩,G⟩ rfl (by exact⟨.conv (.same rfl),.conv (.same rfl),.conv (.same rfl),.conv (.same rfl),.conv (.same rfl),.conv (.same rfl),.conv (.same rfl),.conv (.same rfl),.conv (.same rfl),.conv (.same rfl),.conv (.same rfl),.conv (.same rfl),.conv (.same rfl),.conv (.same rfl),.conv (.same rfl),.conv (.same rfl),.vec,G⟩) ?_
  obtain⟨r85,hr85,h⟩:=Ge h
  refine JLg (.tup []) (Yi (args:=[U8 2,E0 r83]) (caps:=[.ptr 1111 0]) (L0:=[(1111,.box 51 [OW 1112 6 Move.av s75]),(1112,.spare 59 6 s75.length s75.length)]) (Lr:=[(1111,.box 51 [OW 1112 6 Move.av r85]),(1112,.spare 59 6 r85.length r85.length)]) O O (M_moves_call_1_w 2 r83 s75 r85 hr85) tf_call_57 ⟨.inl O,O,.inl O,O,G⟩ O ⟨O,O,G⟩ O O O) ?_
  refine G8 (hK80 _ _ ?_)
  refine G6 fun K86 hK86=>G3 ?_
  refine JLg (.fn 58 [.ptr 1111 0]) (G7 O O) ?_
  refine JLg (.agg (Gz.cs s)) (Gi J0 O O O) ?_
  refine JLg (E0 before) (G7 O O) ?_
  refine JLg (E0 after) (G7 O O) ?_
  refine JLg (E1 lifted) (G7 O O) ?_
  refine JLg (Em i75) (G7 O O) ?_
  obtain⟨r87,hr87,h⟩:=Ge h
  refine JLg (E1 r87) (H1 (args:=[.agg (Gz.cs s),E0 before,E0 after,E1 lifted,Em i75]) O (M_moves_needed_w F s before after lifted (i75:Int) r87 hr87) tf_call_61 ⟨O,O,O,O,O,O,O,O,O,O,G⟩) ?_
  obtain⟨r88,hr88,h⟩:=Ge h
  refine JLg (.tup []) (Yi (args:=[U8 1,E1 r87]) (caps:=[.ptr 1111 0]) (L0:=[(1111,.box 51 [OW 1112 6 Move.av r85]),(1112,.spare 59 6 r85.length r85.length)]) (Lr:=[(1111,.box 51 [OW 1112 6 Move.av r88]),(1112,.spare 59 6 r88.length r88.length)]) O O (M_moves_call_2_w 1 r87 r85 r88 hr88) tf_call_58 ⟨.inl O,O,.inl O,O,G⟩ O ⟨O,O,G⟩ O O O) ?_
  refine G8 (hK86 _ _ ?_)
  refine G3 ?_
  refine JLg (.fn 57 [.ptr 1111 0]) (G7 O O) ?_
  refine JLg (.agg (Gz.cs s)) (Gi J0 O O O) ?_
  refine JLg (E0 before) (G7 O O) ?_
  refine JLg (E1 lifted) (G7 O O) ?_
  refine JLg (Em i75) (G7 O O) ?_
  obtain⟨r89,hr89,h⟩:=Ge h
  refine Yw O O O (A_callLE (args:=[.agg (Gz.cs s),E0 before,E1 lifted,Em i75,BL false]) (L0:=[]) (u:=fun p=>.vec 1148 p 4 r89.length) (Lr:=fun p=>[(1148,.vec 86 4 p (r89.map G2.av))]) O (M_moves_part_n F s before lifted (i75:Int) false r89 hr89) tf_call_60 ⟨.inl O,O,.inl O,O,.inl O,O,.inl O,O,.inl O,O,G⟩ G O (fun _=>O)) ?_
  rintro u_ L_ ⟨v90,rfl,rfl⟩
  obtain⟨r91,hr91,h⟩:=Ge h
  refine Yw O O O (A_callLE (args:=[.vec 1148 v90 4 r89.length]) (L0:=[(1148,.vec 86 4 v90 (r89.map G2.av))]) (u:=fun p=>.vec 1148 p 4 r91.length) (Lr:=fun p=>[(1148,.vec 86 4 p (r91.map G2.av))]) O (M_moves_fromAbove_p610000011 F r89 v90 r91 hr91) tf_call_59 ⟨.inl O,O,G⟩ ⟨O,G⟩ O (fun _=>O)) ?_
  rintro u_ L_ ⟨v92,rfl,rfl⟩
  refine JL_vfreeze [(1,E0 before),(2,E0 after),(3,E1 lifted),(4,Ee s),(9,.ptr 1111 0),(10,.fn 57 [.ptr 1111 0]),(11,.fn 58 [.ptr 1111 0]),(12,Em i75),(16,Em i75),(17,BL (decide ((i75:Int) < 40))),(18,Em i75),(19,.fn 57 [.ptr 1111 0]),(20,.agg (Gz.cs s)),(21,E0 before),(22,E1 lifted),(23,Em i75),(25,E0 r83),(26,.tup []),(27,.fn 58 [.ptr 1111 0]),(28,.agg (Gz.cs s)),(29,E0 before),(30,E0 after),(31,E1 lifted),(32,Em i75),(33,E1 r87),(34,.tup []),(35,.fn 57 [.ptr 1111 0]),(36,.agg (Gz.cs s)),(37,E0 before),(38,E1 lifted),(39,Em i75),(41,E0 r91)] [(1112,.spare 59 6 r88.length r88.length),(1111,.box 51 [OW 1112 6 Move.av r88])] 1148 rfl rfl ⟨⟨_,rfl,.same⟩,⟨_,rfl,.boxEq rfl rfl⟩,G⟩ rfl (by exact⟨.conv (.same rfl),.conv (.same rfl),.conv (.same rfl),.conv (.same rfl),.conv (.same rfl),.conv (.same rfl),.conv (.same rfl),.conv (.same rfl),.conv (.same rfl),.conv (.same rfl),.conv (.same rfl),.conv (.same rfl),.conv (.same rfl),.conv (.same rfl),.conv (.same rfl),.conv (.same rfl),.conv (.same rfl),.conv (.same rfl),.conv (.same rfl),.conv (.same rfl),.conv (.same rfl),.conv (.same rfl),.conv (.same rfl),.conv (.same rfl),.conv (.same rfl),.conv (.same rfl),.conv (.same rfl),.conv (.same rfl),.conv (.same rfl),.conv (.same rfl),.conv (.same rfl),.vec,G⟩) ?_
  obtain⟨r93,hr93,h⟩:=Ge h
  refine JLg (.tup []) (Yi (args:=[U8 2,E0 r91]) (caps:=[.ptr 1111 0]) (L0:=[(1111,.box 51 [OW 1112 6 Move.av r88]),(1112,.spare 59 6 r88.length r88.length)]) (Lr:=[(1111,.box 51 [OW 1112 6 Move.av r93]),(1112,.spare 59 6 r93.length r93.length)]) O O (M_moves_call_1_w 2 r91 r88 r93 hr93) tf_call_57 ⟨.inl O,O,.inl O,O,G⟩ O ⟨O,O,G⟩ O O O) ?_
  refine G8 (hK78 _ _ ?_)
  refine G3 ?_
  refine JLg (G0 ((i75+1:Nat):Int)) (Ht (Hc hk75 (toNat_max hx75)) O O O) ?_
  refine JLg (G0 ((i75+1:Nat):Int)) (G7 O O) ?_
  refine G8 ?_
  exact e75 _ _ (i75+1) r93 (app1 hn75 h) (by omega) ⟨(by repeat' constructor),⟨⟨_,rfl,.same⟩,⟨_,rfl,.boxL rfl ⟨.same rfl,G⟩⟩,G⟩,rfl⟩
 ·
  have h:=app1 hkx75 (upto_nil hi75 (not_lt_toNat hb))
  refine Hk ?_
  refine hK5 _ _ ?_
  refine G6 (fun K94 hK94=>?_)
  refine G6 fun K95 hK95=>G3 ?_
  refine JLg (G0 0) (G7 O O) ?_
  refine G8 (hK95 _ _ ?_)
  refine Gg ?_
  obtain⟨hx140,h⟩:=Je h
  obtain⟨b140,kx140,hb140,hkx140,h⟩:=upto_in h
  refine H7 (fun i140 (s140:(List Move))=>upto b140 kx140 ((40:Int).toNat - i140) i140 s140=some r) (fun i140 s140=>[(1,E0 before),(2,E0 after),(3,E1 lifted),(4,Ee s),(9,.ptr 1111 0),(10,.fn 57 [.ptr 1111 0]),(11,.fn 58 [.ptr 1111 0]),(44,Em i140)]) (fun i140 s140=>[(1112,.spare 59 6 s140.length s140.length),(1111,.box 51 [OW 1112 6 Move.av s140])]) (fun i140=>(40:Int).toNat - i140) 0 s75 h ⟨(by repeat' constructor),⟨⟨_,rfl,.same⟩,⟨_,rfl,.boxL rfl ⟨.same rfl,G⟩⟩,G⟩,rfl⟩ ?_
  clear h
  intro i140 s140 hi140 K140 e140
  refine G6 fun K141 hK141=>G3 ?_
  refine JLg (BL (decide ((i140:Int) < 40))) (Hy O O O) ?_
  refine G8 (hK141 _ _ ?_)
  refine G6 (fun K142 hK142=>?_)
  refine Gh O (fun hb=>?_) (fun hb=>?_)
  ·
   have hk140:=lt_toNat hb
   obtain⟨nx140,hn140,h⟩:=upto_out hi140 hk140
   replace h:=app3 hb140 h
   refine Gj ?_
   refine hK142 _ _ ?_
   refine G6 (fun K143 hK143=>?_)
   refine Gg ?_
   refine G6 fun K144 hK144=>G3 ?_
   refine JLg (Em i140) (G7 O O) ?_
   refine JLg (Em i140) (G9 O O) ?_
   refine G8 (hK144 _ _ ?_)
   refine G6 fun K145 hK145=>G3 ?_
   refine JLg (.fn 57 [.ptr 1111 0]) (G7 O O) ?_
   refine JLg (.agg (Gz.cs s)) (Gi J0 O O O) ?_
   refine JLg (E0 after) (G7 O O) ?_
   refine JLg (E1 lifted) (G7 O O) ?_
   refine JLg (Em i140) (G7 O O) ?_
   obtain⟨r146,hr146,h⟩:=Ge h
   refine JLg (E0 r146) (H1 (args:=[.agg (Gz.cs s),E0 after,E1 lifted,Em i140,BL false]) O (M_moves_part_w F s after lifted (i140:Int) false r146 hr146) tf_call_60 ⟨O,O,O,O,O,O,O,O,O,O,G⟩) ?_
   obtain⟨r147,hr147,h⟩:=Ge h
   refine JLg (.tup []) (Yi (args:=[U8 3,E0 r146]) (caps:=[.ptr 1111 0]) (L0:=[(1111,.box 51 [OW 1112 6 Move.av s140]),(1112,.spare 59 6 s140.length s140.length)]) (Lr:=[(1111,.box 51 [OW 1112 6 Move.av r147]),(1112,.spare 59 6 r147.length r147.length)]) O O (M_moves_call_1_w 3 r146 s140 r147 hr147) tf_call_57 ⟨.inl O,O,.inl O,O,G⟩ O ⟨O,O,G⟩ O O O) ?_
   refine G8 (hK145 _ _ ?_)
   refine G6 fun K148 hK148=>G3 ?_
   refine JLg (.fn 58 [.ptr 1111 0]) (G7 O O) ?_
   refine JLg (.agg (Gz.cs s)) (Gi J0 O O O) ?_
   refine JLg (E0 before) (G7 O O) ?_
   refine JLg (E0 after) (G7 O O) ?_
   refine JLg (E1 lifted) (G7 O O) ?_
   refine JLg (Em i140) (G7 O O) ?_
   obtain⟨r149,hr149,h⟩:=Ge h
   refine JLg (E1 r149) (H1 (args:=[.agg (Gz.cs s),E0 before,E0 after,E1 lifted,Em i140]) O (M_moves_needed_w F s before after lifted (i140:Int) r149 hr149) tf_call_61 ⟨O,O,O,O,O,O,O,O,O,O,G⟩) ?_
   obtain⟨r150,hr150,h⟩:=Ge h
   refine JLg (.tup []) (Yi (args:=[U8 4,E1 r149]) (caps:=[.ptr 1111 0]) (L0:=[(1111,.box 51 [OW 1112 6 Move.av r147]),(1112,.spare 59 6 r147.length r147.length)]) (Lr:=[(1111,.box 51 [OW 1112 6 Move.av r150]),(1112,.spare 59 6 r150.length r150.length)]) O O (M_moves_call_2_w 4 r149 r147 r150 hr150) tf_call_58 ⟨.inl O,O,.inl O,O,G⟩ O ⟨O,O,G⟩ O O O) ?_
   refine G8 (hK148 _ _ ?_)
   refine G3 ?_
   refine JLg (.fn 57 [.ptr 1111 0]) (G7 O O) ?_
   refine JLg (.agg (Gz.cs s)) (Gi J0 O O O) ?_
   refine JLg (E0 after) (G7 O O) ?_
   refine JLg (E1 lifted) (G7 O O) ?_
   refine JLg (Em i140) (G7 O O) ?_
   obtain⟨r151,hr151,h⟩:=Ge h
   refine JLg (E0 r151) (H1 (args:=[.agg (Gz.cs s),E0 after,E1 lifted,Em i140,BL true]) O (M_moves_part_w F s after lifted (i140:Int) true r151 hr151) tf_call_60 ⟨O,O,O,O,O,O,O,O,O,O,G⟩) ?_
   obtain⟨r152,hr152,h⟩:=Ge h
   refine JLg (.tup []) (Yi (args:=[U8 3,E0 r151]) (caps:=[.ptr 1111 0]) (L0:=[(1111,.box 51 [OW 1112 6 Move.av r150]),(1112,.spare 59 6 r150.length r150.length)]) (Lr:=[(1111,.box 51 [OW 1112 6 Move.av r152]),(1112,.spare 59 6 r152.length r152.length)]) O O (M_moves_call_1_w 3 r151 r150 r152 hr152) tf_call_57 ⟨.inl O,O,.inl O,O,G⟩ O ⟨O,O,G⟩ O O O) ?_
   refine G8 (hK143 _ _ ?_)
   refine G3 ?_
   refine JLg (G0 ((i140+1:Nat):Int)) (Ht (Hc hk140 (toNat_max hx140)) O O O) ?_
   refine JLg (G0 ((i140+1:Nat):Int)) (G7 O O) ?_
   refine G8 ?_
   exact e140 _ _ (i140+1) r152 (app1 hn140 h) (by omega) ⟨(by repeat' constructor),⟨⟨_,rfl,.same⟩,⟨_,rfl,.boxL rfl ⟨.same rfl,G⟩⟩,G⟩,rfl⟩
  ·
   have h:=app1 hkx140 (upto_nil hi140 (not_lt_toNat hb))
   refine Hk ?_
   refine hK94 _ _ ?_
   refine G6 fun K153 hK153=>G3 ?_
   refine JLg (OW 1112 6 Move.av s140) (Jx tf_scalar_51 O O O O) ?_
   refine JLg (OW 1112 6 Move.av s140) (G9 O O) ?_
   refine G8 (hK153 _ _ ?_)
   refine Gu ?_
   exact⟨[E3 s140],[],G,O,⟨⟨_,O,.conv (.list O)⟩,G⟩,O,congrArg (fun r:(List Move)=>(E3 r:AV)) (Option.some.inj h)⟩

def M_moves_Call (F:Nat) (s:Gz) (boxes:List Gp) (before:List G2) (after:List G2):Option ((List Move)×Int):=
 bnd (Qh F s boxes before after) fun r3=>
 bif decide (r3.2≠0) then
 (some ([],r3.2))
 else
 (bnd (M_moves_call F s before after r3.1) fun r8=>
  some (r8,0))
theorem M_moves_Call_w (F:Nat) (s:Gz) (boxes:List Gp) (before:List G2) (after:List G2) (r:(List Move)×Int) (h:M_moves_Call F s boxes before after=some r):Pure Tryz.prog 16 [.agg (Gz.cs s),E2 boxes,E0 before,E0 after] (·=.tup [E3 r.1,G0 r.2]):=by
 unfold M_moves_Call at h
 refine H9 [.tmp 8,.tmp 9] Tryz.func16 O O ?_
 refine G6 fun K1 hK1=>G3 ?_
 refine JLg (.ptr 1056 0) (Q1 (u:=.agg (Gz.cs s)) (cs:=(Gz.cs s)) 1056 O O O O O) ?_
 refine JLg (E3 ([]:List Move)) (Jj 6 O O) ?_
 refine JLg (G0 0) (G9 O O) ?_
 refine G8 (hK1 _ _ ?_)
 refine Gk [(1,E2 boxes),(2,E0 before),(3,E0 after),(4,Ee s)] [] 1056 rfl rfl rfl G rfl (by repeat' (first | exact .ptr | constructor)) ?_
 refine G6 fun K2 hK2=>G3 ?_
 refine JLg (.agg (Gz.cs s)) (Gi J0 O O O) ?_
 refine JLg (E2 boxes) (G7 O O) ?_
 refine JLg (E0 before) (G7 O O) ?_
 refine JLg (E0 after) (G7 O O) ?_
 obtain⟨r3,hr3,h⟩:=Ge h
 refine JLg (.tup [E1 r3.1,G0 r3.2]) (H1 (args:=[.agg (Gz.cs s),E2 boxes,E0 before,E0 after]) O (M_plan_Lifted_w F s boxes before after r3 hr3) tf_call_8 ⟨O,O,O,O,O,O,O,O,G⟩) ?_
 refine JLg (.tup [E1 r3.1,G0 r3.2]) (G7 O O) ?_
 refine JLg (E1 r3.1) (Hq O O O) ?_
 refine JLg (G0 r3.2) (Hq O O O) ?_
 refine JLg (E1 r3.1) (G9 O O) ?_
 refine JLg (G0 r3.2) (G9 O O) ?_
 refine G8 (hK2 _ _ ?_)
 refine G6 (fun K4 hK4=>?_)
 refine G6 fun K5 hK5=>G3 ?_
 refine JLg (G0 r3.2) (G7 O O) ?_
 refine JLg (BL (decide (r3.2≠0))) (Yy O O O) ?_
 refine G8 (hK5 _ _ ?_)
 refine Gh O (fun hb=>?_) (fun hb=>?_)
 ·
  replace h:=Gv hb h
  refine G6 fun K6 hK6=>G3 ?_
  refine JLg (G0 r3.2) (G7 O O) ?_
  refine JLg (E3 ([]:List Move)) (Jj 6 O O) ?_
  refine JLg (G0 r3.2) (G9 O O) ?_
  refine G8 (hK6 _ _ ?_)
  refine Gu ?_
  exact⟨[E3 ([]:List Move),G0 r3.2],[],G,O,⟨⟨_,O,.conv (.same O)⟩,⟨_,O,.conv (.same O)⟩,G⟩,O,congrArg (fun r:(List Move)×Int=>(.tup [E3 r.1,G0 r.2]:AV)) (Option.some.inj h)⟩
 ·
  replace h:=Hp hb h
  refine Gj ?_
  refine hK4 _ _ ?_
  refine G6 fun K7 hK7=>G3 ?_
  refine JLg (.agg (Gz.cs s)) (Gi J0 O O O) ?_
  refine JLg (E0 before) (G7 O O) ?_
  refine JLg (E0 after) (G7 O O) ?_
  refine JLg (E1 r3.1) (G7 O O) ?_
  obtain⟨r8,hr8,h⟩:=Ge h
  refine JLg (E3 r8) (H1 (args:=[.agg (Gz.cs s),E0 before,E0 after,E1 r3.1]) O (M_moves_call_w F s before after r3.1 r8 hr8) tf_call_34 ⟨O,O,O,O,O,O,O,O,G⟩) ?_
  refine JLg (E3 r8) (G9 O O) ?_
  refine JLg (G0 0) (G9 O O) ?_
  refine G8 (hK7 _ _ ?_)
  refine Gu ?_
  exact⟨[E3 r8,G0 0],[],G,O,⟨⟨_,O,.conv (.same O)⟩,⟨_,O,.conv (.same O)⟩,G⟩,O,congrArg (fun r:(List Move)×Int=>(.tup [E3 r.1,G0 r.2]:AV)) (Option.some.inj h)⟩

def M_moves_Voyage (F:Nat) (s:Gz) (boxes:List Gp) (calls:Int) (p:Plan):Option ((List (List Move))×Int):=
 bnd (M_plan_Check s boxes calls p) fun r4=>
 bif decide (r4.2≠0) then
 (some ([],r4.2))
 else
 (each (fun y27 i27 (s27:(List (List Move))×(List G2)) nx27=>
   bnd (M_moves_Call F s boxes s27.2 y27) fun r33=>
   need (decide ((s27.1.length+[r33.1].length)*24≤140737488355328∧s27.1.length+[r33.1].length≤maxLen)) <|
   nx27 ((s27.1++[r33.1]),y27))
  (fun(s27:(List (List Move))×(List G2))=>
   some (s27.1,0)) p.States 0 ([],[]))
theorem M_moves_Voyage_w (F:Nat) (s:Gz) (boxes:List Gp) (calls:Int) (p:Plan) (r:(List (List Move))×Int) (h:M_moves_Voyage F s boxes calls p=some r):Pure Tryz.prog 6 [.agg (Gz.cs s),E2 boxes,G0 calls,.agg [LS 1 (E0) p.States,LS 1 (E1) p.Water]] (·=.tup [LS 1 (E3) r.1,G0 r.2]):=by
 unfold M_moves_Voyage at h
 refine H9 [.tmp 8,.tmp 9] Tryz.func6 O O ?_
 refine G6 fun K1 hK1=>G3 ?_
 refine JLg (.ptr 1024 0) (Q1 (u:=.agg (Gz.cs s)) (cs:=(Gz.cs s)) 1024 O O O O O) ?_
 refine JLg (.ptr 1025 0) (Q1 (u:=.agg [LS 1 (E0) p.States,LS 1 (E1) p.Water]) (cs:=[LS 1 (E0) p.States,LS 1 (E1) p.Water]) 1025 O O O O O) ?_
 refine JLg (LS 1 (E3) ([]:List (List Move))) (Jj 1 O O) ?_
 refine JLg (G0 0) (G9 O O) ?_
 refine G8 (hK1 _ _ ?_)
 refine Gk [(1,E2 boxes),(2,G0 calls),(4,Ee s),(7,.ptr 1025 0)] [(1025,.box 41 [LS 1 (E0) p.States,LS 1 (E1) p.Water])] 1024 rfl rfl rfl ⟨⟨_,rfl,.boxEq rfl rfl⟩,G⟩ rfl (by repeat' (first | exact .ptr | constructor)) ?_
 refine Gk [(1,E2 boxes),(2,G0 calls),(4,Ee s),(7,.dptr [LS 1 (E0) p.States,LS 1 (E1) p.Water])] [] 1025 rfl rfl rfl G rfl (by repeat' (first | exact .ptr | constructor)) ?_
 refine G6 (fun K2 hK2=>?_)
 refine G6 fun K3 hK3=>G3 ?_
 refine JLg (.agg (Gz.cs s)) (Gi J0 O O O) ?_
 refine JLg (E2 boxes) (G7 O O) ?_
 refine JLg (G0 calls) (G7 O O) ?_
 refine JLg (.agg [LS 1 (E0) p.States,LS 1 (E1) p.Water]) (Gi Ru O O O) ?_
 obtain⟨r4,hr4,h⟩:=Ge h
 refine JLg (.tup [G0 r4.1,G0 r4.2]) (H1 (args:=[.agg (Gz.cs s),E2 boxes,G0 calls,.agg [LS 1 (E0) p.States,LS 1 (E1) p.Water]]) O (M_plan_Check_w s boxes calls p r4 hr4) tf_call_15 ⟨O,O,O,O,O,O,O,O,G⟩) ?_
 refine JLg (.tup [G0 r4.1,G0 r4.2]) (G7 O O) ?_
 refine JLg (G0 r4.1) (Hq O O O) ?_
 refine JLg (G0 r4.2) (Hq O O O) ?_
 refine JLg (G0 r4.1) (G9 O O) ?_
 refine JLg (G0 r4.2) (G9 O O) ?_
 refine G8 (hK3 _ _ ?_)
 refine G6 fun K5 hK5=>G3 ?_
 refine JLg (G0 r4.2) (G7 O O) ?_
 refine JLg (BL (decide (r4.2≠0))) (Yy O O O) ?_
 refine G8 (hK5 _ _ ?_)
 refine Gh O (fun hb=>?_) (fun hb=>?_)
 ·
  replace h:=Gv hb h
  refine G6 fun K6 hK6=>G3 ?_
  refine JLg (G0 r4.2) (G7 O O) ?_
  refine JLg (LS 1 (E3) ([]:List (List Move))) (Jj 1 O O) ?_
  refine JLg (G0 r4.2) (G9 O O) ?_
  refine G8 (hK6 _ _ ?_)
  refine Gu ?_
  exact⟨[LS 1 (E3) ([]:List (List Move)),G0 r4.2],[],G,O,⟨⟨_,O,.conv (.same O)⟩,⟨_,O,.conv (.same O)⟩,G⟩,O,congrArg (fun r:(List (List Move))×Int=>(.tup [LS 1 (E3) r.1,G0 r.2]:AV)) (Option.some.inj h)⟩
 ·
  replace h:=Hp hb h
  refine Gj ?_
  refine hK2 _ _ ?_
  refine G6 fun K7 hK7=>G3 ?_
  refine JLg (OW 1026 1 (E3) ([]:List (List Move))) (Yx 1026 51 1 O O O) ?_
  refine G8 (hK7 _ _ ?_)
  refine G6 fun K8 hK8=>G3 ?_
  refine JLg (E0 ([]:List G2)) (Jj 4 O O) ?_
  refine G8 (hK8 _ _ ?_)
  refine G6 (fun K9 hK9=>?_)
  refine G6 fun K10 hK10=>G3 ?_
  refine JLg (.dptr [LS 1 (E0) p.States,LS 1 (E1) p.Water]) (Gc Qy O O O) ?_
  refine JLg (LS 1 (E0) p.States) (Gf Qk O O O) ?_
  refine Hs (f:=(E0)) (xs:=p.States) Ja O O (fun hm31=>?_) O O O
  refine JLg (G0 0) (G7 O O) ?_
  refine G8 (hK10 _ _ ?_)
  refine Gg ?_
  obtain⟨b27,kx27,hb27,hkx27,h⟩:=Hu h
  refine H7 (fun i27 (s27:(List (List Move))×(List G2))=>each b27 kx27 (List.drop i27 p.States) i27 s27=some r) (fun i27 s27=>[(1,E2 boxes),(4,Ee s),(12,OW 1026 1 (E3) s27.1),(13,E0 s27.2),(30,LS 1 (E0) p.States),(31,Em p.States.length),(32,Em i27)]) (fun i27 s27=>[(1026,.spare 51 1 s27.1.length s27.1.length)]) (fun i27=>p.States.length - i27) 0 ([],[]) h ⟨(by repeat' constructor),⟨⟨_,rfl,.same⟩,G⟩,rfl⟩ ?_
  clear h
  intro i27 s27 hi27 K27 e27
  refine G6 fun K28 hK28=>G3 ?_
  refine JLg (BL (decide ((i27:Int) < (p.States.length:Int)))) (Hy O O O) ?_
  refine G8 (hK28 _ _ ?_)
  refine G6 (fun K29 hK29=>?_)
  refine Gh O (fun hb=>?_) (fun hb=>?_)
  ·
   have hk27:=J9 hb
   obtain⟨y27,nx27,hy27,hn27,h⟩:=Hn hi27 hk27
   replace h:=app4 hb27 h
   refine Gj ?_
   refine hK29 _ _ ?_
   refine G6 (fun K30 hK30=>?_)
   refine Gg ?_
   refine G6 fun K31 hK31=>G3 ?_
   refine JLg (.dptr [E0 y27]) (H0 (f:=(E0)) (xs:=p.States) (y:=y27) O O O Ja hy27 O) ?_
   refine JLg (E0 y27) (Gf Qc O O O) ?_
   refine JLg (E0 y27) (G9 O O) ?_
   refine G8 (hK31 _ _ ?_)
   refine G6 fun K32 hK32=>G3 ?_
   refine JLg (.agg (Gz.cs s)) (Gi J0 O O O) ?_
   refine JLg (E2 boxes) (G7 O O) ?_
   refine JLg (E0 s27.2) (G7 O O) ?_
   refine JLg (E0 y27) (G7 O O) ?_
   obtain⟨r33,hr33,h⟩:=Ge h
   refine JLg (.tup [E3 r33.1,G0 r33.2]) (H1 (args:=[.agg (Gz.cs s),E2 boxes,E0 s27.2,E0 y27]) O (M_moves_Call_w F s boxes s27.2 y27 r33 hr33) tf_call_16 ⟨O,O,O,O,O,O,O,O,G⟩) ?_
   refine JLg (.tup [E3 r33.1,G0 r33.2]) (G7 O O) ?_
   refine JLg (E3 r33.1) (Hq O O O) ?_
   refine JLg (G0 r33.2) (Hq O O O) ?_
   refine JLg (E3 r33.1) (G9 O O) ?_
   refine JLg (G0 r33.2) (G9 O O) ?_
   refine G8 (hK32 _ _ ?_)
   refine G3 ?_
   refine JLg (OW 1026 1 (E3) s27.1) (G7 O O) ?_
   refine JLg (E3 r33.1) (G7 O O) ?_
   refine JLg (LS 1 (E3) [r33.1]) (Hd (xs:=[E3 r33.1]) O ⟨O,O,G⟩ tf_slice_44 tf_zsize_51 O O O O) ?_
   obtain⟨ha34,h⟩:=Je h
   refine JLg (OW 1026 1 (E3) (s27.1++[r33.1])) (Qu (f:=(E3)) (xs:=s27.1) (ys:=[r33.1]) O O O O tf_slice_44 tf_elem_51 ha34 (fun _=>O) (.inl O) O) ?_
   refine JLg (E0 y27) (G7 O O) ?_
   refine JLg (OW 1026 1 (E3) (s27.1++[r33.1])) (G9 O O) ?_
   refine JLg (E0 y27) (G9 O O) ?_
   refine G8 (hK30 _ _ ?_)
   refine G3 ?_
   refine JLg (G0 ((i27+1:Nat):Int)) (Ht (Hc hk27 hm31) O O O) ?_
   refine JLg (G0 ((i27+1:Nat):Int)) (G7 O O) ?_
   refine G8 ?_
   exact e27 _ _ (i27+1) ((s27.1++[r33.1]),y27) (app1 hn27 h) (by omega) ⟨(by repeat' constructor),⟨⟨_,rfl,.same⟩,G⟩,rfl⟩
  ·
   have h:=app1 hkx27 (Ho hi27 (H3 hb))
   refine Hk ?_
   refine hK9 _ _ ?_
   refine G6 fun K35 hK35=>G3 ?_
   refine JLg (OW 1026 1 (E3) s27.1) (G7 O O) ?_
   refine JLg (OW 1026 1 (E3) s27.1) (G9 O O) ?_
   refine JLg (G0 0) (G9 O O) ?_
   refine G8 (hK35 _ _ ?_)
   refine Gu ?_
   exact⟨[LS 1 (E3) s27.1,G0 0],[],G,O,⟨⟨_,O,.conv (.list O)⟩,⟨_,O,.conv (.same O)⟩,G⟩,O,congrArg (fun r:(List (List Move))×Int=>(.tup [LS 1 (E3) r.1,G0 r.2]:AV)) (Option.some.inj h)⟩
end
end Go.Proofs.YtkfhfoljfbjknaaGreat
