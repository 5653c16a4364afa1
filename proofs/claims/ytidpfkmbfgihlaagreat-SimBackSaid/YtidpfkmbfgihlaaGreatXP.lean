/-
 Models of functions of the program,and that they return what the models say.
-/
import Derived.Test.YtidpfkmbfgihlaaGreatXB
set_option maxRecDepth 100000
set_option maxHeartbeats 1000000
set_option linter.unusedVariables false
set_option linter.unusedSimpArgs false
namespace Go.Proofs.YtidpfkmbfgihlaaGreat
open Go.RowKit
noncomputable section
structure H9 where
 x:Move
 e:Int
 deriving DecidableEq,Inhabited
def H9.cs (x:H9):List AV:=[U8 x.x.Kind,I64 x.x.Box,I64 x.x.Slot.G2,I64 x.x.Slot.Tier,U8 x.x.Slot.Half,I64 x.x.G8,I64 x.e]
def H9.av (x:H9):AV:=.agg x.cs
namespace XPF
open XAF
open XCF
open XSF
open XKF
open XTF
open XUF
open XBF
theorem Yf3 (a b:Stowed):J79 Eo 4 55 [.int .i64 a.Box,.int .i64 a.Slot.G2,.int .i64 a.Slot.Tier,.int .u8 a.Slot.Half] [.int .i64 b.Box,.int .i64 b.Slot.G2,.int .i64 b.Slot.Tier,.int .u8 b.Slot.Half]=some (decide (a=b)):=by
 refine(show _=some ((a.Box==b.Box)&&(((a.Slot.G2==b.Slot.G2)&&((a.Slot.Tier==b.Slot.Tier)&&((a.Slot.Half==b.Slot.Half)&&true)))&&true)) by kernel_rfl).trans (congrArg some ?_)
 rw [Bool.eq_iff_iff]
 simp only [Bool.and_eq_true,beq_iff_eq,decide_eq_true_eq,Bool.and_true]
 constructor
 ·intro h; obtain⟨_,⟨_,_,_⟩⟩:=a; obtain⟨_,⟨_,_,_⟩⟩:=b; simp_all
 ·intro h; subst h; simp
theorem Y41:Gf2 Eo 85 7=true:=by kernel_rfl
theorem Q01:G48 Eo 55=true:=by kernel_rfl
theorem H65:H7 Eo 16=true:=by kernel_rfl
theorem Hd4:H7 Eo 20=true:=by kernel_rfl
theorem Rce:H7 Eo 27=true:=by kernel_rfl
theorem G23:H7 Eo 28=true:=by kernel_rfl
theorem Jc9:H7 Eo 6=true:=by kernel_rfl
theorem Rbc:H7 Eo 68=true:=by kernel_rfl
theorem Jc8:H7 Eo 7=true:=by kernel_rfl
theorem Hb0:H7 Eo 8=true:=by kernel_rfl
theorem Haf:H7 Eo 9=true:=by kernel_rfl
theorem Qe1:Eo.eqGuardType Eo.depth 55=false:=by kernel_rfl
theorem Qc9:Jj Eo 85 0 0=true:=by kernel_rfl
theorem J52:Jj Eo 85 1 6=true:=by kernel_rfl
theorem Zv:placesOf Eo 85=some [(0,6),(6,1)]:=by kernel_rfl
theorem Ra9:Yt Eo 85 7=true:=by kernel_rfl
theorem G84:sliceB Eo 46 45 6=true:=by kernel_rfl
theorem J0e:sliceB Eo 86 85 7=true:=by kernel_rfl
theorem G41:(Eo.info? 85).bind (fun i=>i.zero.map Value.cells)=some (List.toArray [.int .u8 0,E0,E0,E0,.int .u8 0,E0,E0]):=by kernel_rfl
theorem Jee:Y1 Eo 85 7=true:=by kernel_rfl
end XPF
open XAF
open XCF
open XSF
open XKF
open XTF
open XUF
open XBF
open XPF

def G44 :Option Gk:=
 some (Gk.mk ([(G2.mk 0 0 false 2 0 0 0 0 [] 0 0 0),(G2.mk 0 1 false 2 0 0 0 0 [] 0 0 0),(G2.mk 0 0 true 3 0 0 0 0 [] 0 0 0),(G2.mk 0 1 true 3 0 0 0 0 [] 0 0 0),(G2.mk 1 1 true 4 0 0 0 0 [] 0 0 0)]) ([(G8.mk 0 [0,1])]) (Light.mk 0 0 0 0) [] [] [] (G4.mk 0 0 0 0))
abbrev Kg:List AV:=[E1 ([]:List G2),E7 ([]:List G8),I64 0,I64 0,I64 0,I64 0,E3 ([]:List Row),E4 ([]:List Frame),E5 ([]:List Gp),I64 0,I64 0,I64 0,I64 0]
theorem H7d  (r:Gk) (h:G44 =some r):Pure Eo 68 [] (·=.agg (Gk.cs r)):=by
 unfold G44 at h
 refine Gy [.cell 0 36] Tryz.func68 O O (Jr fun hK1=>(JLh (.ptr 1115 0) (G58 1115 Kg [.slice none 0 0,.slice none 0 0,E0,E0,E0,E0,.slice none 0 0,.slice none 0 0,.slice none 0 0,E0,E0,E0,E0] G5d ⟨.inr ⟨_,O,O⟩,.inr ⟨_,O,O⟩,.inl O,.inl O,.inl O,.inl O,.inr ⟨_,O,O⟩,.inr ⟨_,O,O⟩,.inr ⟨_,O,O⟩,.inl O,.inl O,.inl O,.inl O,G⟩ O O) O (G5 (hK1 ?_))))
 refine Jr fun hK2=>(JLh (.agg [I64 0,I64 0,BL false,I64 2,I64 0,I64 0,I64 0,I64 0,E2 ([]:List Int),I64 0,I64 0,I64 0]) (Hb (cs:=[I64 0,I64 0,BL false,I64 2,I64 0,I64 0,I64 0,I64 0,E2 ([]:List Int),I64 0,I64 0,I64 0]) [(0,1),(1,1),(2,1),(3,1),(4,1),(5,1),(6,1),(7,1),(8,1),(9,1),(10,1),(11,1)] [I64 0,I64 0,BL false,I64 0,I64 0,I64 0,I64 0,I64 0,E2 ([]:List Int),I64 0,I64 0,I64 0] [E0,E0,.bool false,E0,E0,E0,E0,E0,.slice none 0 0,E0,E0,E0] G60 Gcc ⟨.inl O,.inl O,.inl O,.inl O,.inl O,.inl O,.inl O,.inl O,.inr ⟨_,O,O⟩,.inl O,.inl O,.inl O,G⟩ O O) O (JLh (.agg [I64 0,I64 1,BL false,I64 2,I64 0,I64 0,I64 0,I64 0,E2 ([]:List Int),I64 0,I64 0,I64 0]) (Hb (cs:=[I64 0,I64 1,BL false,I64 2,I64 0,I64 0,I64 0,I64 0,E2 ([]:List Int),I64 0,I64 0,I64 0]) [(0,1),(1,1),(2,1),(3,1),(4,1),(5,1),(6,1),(7,1),(8,1),(9,1),(10,1),(11,1)] [I64 0,I64 0,BL false,I64 0,I64 0,I64 0,I64 0,I64 0,E2 ([]:List Int),I64 0,I64 0,I64 0] [E0,E0,.bool false,E0,E0,E0,E0,E0,.slice none 0 0,E0,E0,E0] G60 Gcc ⟨.inl O,.inl O,.inl O,.inl O,.inl O,.inl O,.inl O,.inl O,.inr ⟨_,O,O⟩,.inl O,.inl O,.inl O,G⟩ O O) O (JLh (.agg [I64 0,I64 0,BL true,I64 3,I64 0,I64 0,I64 0,I64 0,E2 ([]:List Int),I64 0,I64 0,I64 0]) (Hb (cs:=[I64 0,I64 0,BL true,I64 3,I64 0,I64 0,I64 0,I64 0,E2 ([]:List Int),I64 0,I64 0,I64 0]) [(0,1),(1,1),(2,1),(3,1),(4,1),(5,1),(6,1),(7,1),(8,1),(9,1),(10,1),(11,1)] [I64 0,I64 0,BL false,I64 0,I64 0,I64 0,I64 0,I64 0,E2 ([]:List Int),I64 0,I64 0,I64 0] [E0,E0,.bool false,E0,E0,E0,E0,E0,.slice none 0 0,E0,E0,E0] G60 Gcc ⟨.inl O,.inl O,.inl O,.inl O,.inl O,.inl O,.inl O,.inl O,.inr ⟨_,O,O⟩,.inl O,.inl O,.inl O,G⟩ O O) O (JLh (.agg [I64 0,I64 1,BL true,I64 3,I64 0,I64 0,I64 0,I64 0,E2 ([]:List Int),I64 0,I64 0,I64 0]) (Hb (cs:=[I64 0,I64 1,BL true,I64 3,I64 0,I64 0,I64 0,I64 0,E2 ([]:List Int),I64 0,I64 0,I64 0]) [(0,1),(1,1),(2,1),(3,1),(4,1),(5,1),(6,1),(7,1),(8,1),(9,1),(10,1),(11,1)] [I64 0,I64 0,BL false,I64 0,I64 0,I64 0,I64 0,I64 0,E2 ([]:List Int),I64 0,I64 0,I64 0] [E0,E0,.bool false,E0,E0,E0,E0,E0,.slice none 0 0,E0,E0,E0] G60 Gcc ⟨.inl O,.inl O,.inl O,.inl O,.inl O,.inl O,.inl O,.inl O,.inr ⟨_,O,O⟩,.inl O,.inl O,.inl O,G⟩ O O) O (JLh (.agg [I64 1,I64 1,BL true,I64 4,I64 0,I64 0,I64 0,I64 0,E2 ([]:List Int),I64 0,I64 0,I64 0]) (Hb (cs:=[I64 1,I64 1,BL true,I64 4,I64 0,I64 0,I64 0,I64 0,E2 ([]:List Int),I64 0,I64 0,I64 0]) [(0,1),(1,1),(2,1),(3,1),(4,1),(5,1),(6,1),(7,1),(8,1),(9,1),(10,1),(11,1)] [I64 0,I64 0,BL false,I64 0,I64 0,I64 0,I64 0,I64 0,E2 ([]:List Int),I64 0,I64 0,I64 0] [E0,E0,.bool false,E0,E0,E0,E0,E0,.slice none 0 0,E0,E0,E0] G60 Gcc ⟨.inl O,.inl O,.inl O,.inl O,.inl O,.inl O,.inl O,.inl O,.inr ⟨_,O,O⟩,.inl O,.inl O,.inl O,G⟩ O O) O (JLh (E1 ([(G2.mk 0 0 false 2 0 0 0 0 [] 0 0 0),(G2.mk 0 1 false 2 0 0 0 0 [] 0 0 0),(G2.mk 0 0 true 3 0 0 0 0 [] 0 0 0),(G2.mk 0 1 true 3 0 0 0 0 [] 0 0 0),(G2.mk 1 1 true 4 0 0 0 0 [] 0 0 0)])) (H8 (xs:=[.agg [I64 0,I64 0,BL false,I64 2,I64 0,I64 0,I64 0,I64 0,E2 ([]:List Int),I64 0,I64 0,I64 0],.agg [I64 0,I64 1,BL false,I64 2,I64 0,I64 0,I64 0,I64 0,E2 ([]:List Int),I64 0,I64 0,I64 0],.agg [I64 0,I64 0,BL true,I64 3,I64 0,I64 0,I64 0,I64 0,E2 ([]:List Int),I64 0,I64 0,I64 0],.agg [I64 0,I64 1,BL true,I64 3,I64 0,I64 0,I64 0,I64 0,E2 ([]:List Int),I64 0,I64 0,I64 0],.agg [I64 1,I64 1,BL true,I64 4,I64 0,I64 0,I64 0,I64 0,E2 ([]:List Int),I64 0,I64 0,I64 0]]) O ⟨O,O,O,O,O,O,O,O,O,O,G⟩ Ht G2e O O O O) O (JLh (E2 [0,1]) (H8 (xs:=[I64 0,I64 1]) O ⟨O,O,O,O,G⟩ Gx R5 O O O O) O (JLh (.agg [I64 0,E2 [0,1]]) (Hb (cs:=[I64 0,E2 [0,1]]) [(0,1),(1,1)] [I64 0,E2 ([]:List Int)] [E0,.slice none 0 0] Ha2 J0d ⟨.inl O,.inr ⟨_,O,O⟩,G⟩ O O) O (JLh (E7 ([(G8.mk 0 [0,1])])) (H8 (xs:=[.agg [I64 0,E2 [0,1]]]) O ⟨O,O,G⟩ Ji Ge9 O O O O) O (JLh (.agg [E1 ([(G2.mk 0 0 false 2 0 0 0 0 [] 0 0 0),(G2.mk 0 1 false 2 0 0 0 0 [] 0 0 0),(G2.mk 0 0 true 3 0 0 0 0 [] 0 0 0),(G2.mk 0 1 true 3 0 0 0 0 [] 0 0 0),(G2.mk 1 1 true 4 0 0 0 0 [] 0 0 0)]),E7 ([(G8.mk 0 [0,1])]),I64 0,I64 0,I64 0,I64 0,E3 ([]:List Row),E4 ([]:List Frame),E5 ([]:List Gp),I64 0,I64 0,I64 0,I64 0]) (Hb (cs:=[E1 ([(G2.mk 0 0 false 2 0 0 0 0 [] 0 0 0),(G2.mk 0 1 false 2 0 0 0 0 [] 0 0 0),(G2.mk 0 0 true 3 0 0 0 0 [] 0 0 0),(G2.mk 0 1 true 3 0 0 0 0 [] 0 0 0),(G2.mk 1 1 true 4 0 0 0 0 [] 0 0 0)]),E7 ([(G8.mk 0 [0,1])]),I64 0,I64 0,I64 0,I64 0,E3 ([]:List Row),E4 ([]:List Frame),E5 ([]:List Gp),I64 0,I64 0,I64 0,I64 0]) [(0,1),(1,1),(2,4),(6,1),(7,1),(8,1),(9,4)] Kg [.slice none 0 0,.slice none 0 0,E0,E0,E0,E0,.slice none 0 0,.slice none 0 0,.slice none 0 0,E0,E0,E0,E0] Hcc G5d ⟨.inr ⟨_,O,O⟩,.inr ⟨_,O,O⟩,.inl O,.inl O,.inl O,.inl O,.inr ⟨_,O,O⟩,.inr ⟨_,O,O⟩,.inr ⟨_,O,O⟩,.inl O,.inl O,.inl O,.inl O,G⟩ O O) O (Ho (u:=.junk) (Hc (u:=.agg [E1 ([(G2.mk 0 0 false 2 0 0 0 0 [] 0 0 0),(G2.mk 0 1 false 2 0 0 0 0 [] 0 0 0),(G2.mk 0 0 true 3 0 0 0 0 [] 0 0 0),(G2.mk 0 1 true 3 0 0 0 0 [] 0 0 0),(G2.mk 1 1 true 4 0 0 0 0 [] 0 0 0)]),E7 ([(G8.mk 0 [0,1])]),I64 0,I64 0,I64 0,I64 0,E3 ([]:List Row),E4 ([]:List Frame),E5 ([]:List Gp),I64 0,I64 0,I64 0,I64 0]) (ds:=[E1 ([(G2.mk 0 0 false 2 0 0 0 0 [] 0 0 0),(G2.mk 0 1 false 2 0 0 0 0 [] 0 0 0),(G2.mk 0 0 true 3 0 0 0 0 [] 0 0 0),(G2.mk 0 1 true 3 0 0 0 0 [] 0 0 0),(G2.mk 1 1 true 4 0 0 0 0 [] 0 0 0)]),E7 ([(G8.mk 0 [0,1])]),I64 0,I64 0,I64 0,I64 0,E3 ([]:List Row),E4 ([]:List Frame),E5 ([]:List Gp),I64 0,I64 0,I64 0,I64 0]) Zs O O O O O O O O) (G5 (hK2 ?_)))))))))))))
 refine Gq (⟨[.agg [E1 ([(G2.mk 0 0 false 2 0 0 0 0 [] 0 0 0),(G2.mk 0 1 false 2 0 0 0 0 [] 0 0 0),(G2.mk 0 0 true 3 0 0 0 0 [] 0 0 0),(G2.mk 0 1 true 3 0 0 0 0 [] 0 0 0),(G2.mk 1 1 true 4 0 0 0 0 [] 0 0 0)]),E7 ([(G8.mk 0 [0,1])]),I64 0,I64 0,I64 0,I64 0,E3 ([]:List Row),E4 ([]:List Frame),E5 ([]:List Gp),I64 0,I64 0,I64 0,I64 0]],[],G,O,⟨⟨_,⟨_,_,_,_,O,O,O,.inl ⟨Hq,O⟩⟩,.conv (.same O)⟩,G⟩,O,congrArg (fun r:Gk=>(.agg (Gk.cs r):AV)) (Option.some.inj h)⟩)

def Q5 (column:Int) (tier:Int):Option Slot:=
 some (Slot.mk column tier 0)
theorem Q7 (column:Int) (tier:Int) (r:Slot) (h:Q5 column tier=some r):Pure Eo 28 [I64 column,I64 tier] (·=.agg [I64 r.G2,I64 r.Tier,U8 r.Half]):=by
 unfold Q5 at h
 refine Gy [.cell 4 43] Tryz.func28 O O (Jr fun hK1=>(JLh (.ptr 1055 0) (G58 1055 [I64 0,I64 0,U8 0] [E0,E0,.int .u8 0] Gcd ⟨.inl O,.inl O,.inl O,G⟩ O O) O (G5 (hK1 (Jr fun hK2=>(JLm (I64 column) O (JLm (I64 tier) O (JLh (.agg [I64 column,I64 tier,U8 0]) (Hb (cs:=[I64 column,I64 tier,U8 0]) [(0,1),(1,1),(2,1)] [I64 0,I64 0,U8 0] [E0,E0,.int .u8 0] Ga6 Gcd ⟨.inl O,.inl O,.inl O,G⟩ O O) O (Ho (u:=.junk) (Hc (u:=.agg [I64 column,I64 tier,U8 0]) (ds:=[I64 column,I64 tier,U8 0]) Zr O O O O O O O O) (G5 (hK2 (Gq ?_))))))))))))
 exact⟨[.agg [I64 column,I64 tier,U8 0]],[],G,O,⟨⟨_,⟨_,_,_,_,O,O,O,.inl ⟨Hu,O⟩⟩,.conv (.same O)⟩,G⟩,O,congrArg (fun r:Slot=>(.agg [I64 r.G2,I64 r.Tier,U8 r.Half]:AV)) (Option.some.inj h)⟩

def G43 :Option (Gk×(List Box)×(List Stowed)):=
 bnd (G44) fun r3=>
 bnd (Q5 0 0) fun r4=>
 bnd (Q5 3 0) fun r5=>
 some (r3,[(Box.mk 1 ByteArray.empty 40 false 0 0 0 0 false),(Box.mk 2 ByteArray.empty 40 false 0 0 0 0 false),(Box.mk 3 ByteArray.empty 40 false 0 0 0 0 false)],[(Stowed.mk 1 r4),(Stowed.mk 2 r5)])
theorem H7c  (r:Gk×(List Box)×(List Stowed)) (h:G43 =some r):Pure Eo 27 [] (·=.tup [.agg (Gk.cs r.1),E8 r.2.1,E6 r.2.2]):=by
 unfold G43 at h
 refine Gy [.cell 0 36,.tmp 1,.tmp 2] Tryz.func27 O O (Jr fun hK1=>(JLh (.ptr 1054 0) (G58 1054 [E1 ([]:List G2),E7 ([]:List G8),I64 0,I64 0,I64 0,I64 0,E3 ([]:List Row),E4 ([]:List Frame),E5 ([]:List Gp),I64 0,I64 0,I64 0,I64 0] [.slice none 0 0,.slice none 0 0,E0,E0,E0,E0,.slice none 0 0,.slice none 0 0,.slice none 0 0,E0,E0,E0,E0] G5d ⟨.inr ⟨_,O,O⟩,.inr ⟨_,O,O⟩,.inl O,.inl O,.inl O,.inl O,.inr ⟨_,O,O⟩,.inr ⟨_,O,O⟩,.inr ⟨_,O,O⟩,.inl O,.inl O,.inl O,.inl O,G⟩ O O) O (JLh (E8 ([]:List Box)) (Hk 9 O O) O (JLh (E6 ([]:List Stowed)) (Hk 4 O O) O (G5 (hK1 (Jr fun hK2=>?_)))))))
 obtain⟨r3,hr3,h⟩:=Ga h
 refine JLh (.agg (Gk.cs r3)) (Gs O (H7d  r3 hr3) Rbc G) O (JLh (.agg [I64 1,ST ByteArray.empty,U8 40,BL false,I64 0,I64 0,I64 0,U8 0,BL false]) (Hb (cs:=[I64 1,ST ByteArray.empty,U8 40,BL false,I64 0,I64 0,I64 0,U8 0,BL false]) [(0,1),(1,1),(2,1),(3,1),(4,1),(5,1),(6,1),(7,1),(8,1)] [I64 0,ST ByteArray.empty,U8 0,BL false,I64 0,I64 0,I64 0,U8 0,BL false] [E0,.string ByteArray.empty,.int .u8 0,.bool false,E0,E0,E0,.int .u8 0,.bool false] G5f G5c ⟨.inl O,.inl O,.inl O,.inl O,.inl O,.inl O,.inl O,.inl O,.inl O,G⟩ O O) O (JLh (.agg [I64 2,ST ByteArray.empty,U8 40,BL false,I64 0,I64 0,I64 0,U8 0,BL false]) (Hb (cs:=[I64 2,ST ByteArray.empty,U8 40,BL false,I64 0,I64 0,I64 0,U8 0,BL false]) [(0,1),(1,1),(2,1),(3,1),(4,1),(5,1),(6,1),(7,1),(8,1)] [I64 0,ST ByteArray.empty,U8 0,BL false,I64 0,I64 0,I64 0,U8 0,BL false] [E0,.string ByteArray.empty,.int .u8 0,.bool false,E0,E0,E0,.int .u8 0,.bool false] G5f G5c ⟨.inl O,.inl O,.inl O,.inl O,.inl O,.inl O,.inl O,.inl O,.inl O,G⟩ O O) O (JLh (.agg [I64 3,ST ByteArray.empty,U8 40,BL false,I64 0,I64 0,I64 0,U8 0,BL false]) (Hb (cs:=[I64 3,ST ByteArray.empty,U8 40,BL false,I64 0,I64 0,I64 0,U8 0,BL false]) [(0,1),(1,1),(2,1),(3,1),(4,1),(5,1),(6,1),(7,1),(8,1)] [I64 0,ST ByteArray.empty,U8 0,BL false,I64 0,I64 0,I64 0,U8 0,BL false] [E0,.string ByteArray.empty,.int .u8 0,.bool false,E0,E0,E0,.int .u8 0,.bool false] G5f G5c ⟨.inl O,.inl O,.inl O,.inl O,.inl O,.inl O,.inl O,.inl O,.inl O,G⟩ O O) O (JLh (E8 [(Box.mk 1 ByteArray.empty 40 false 0 0 0 0 false),(Box.mk 2 ByteArray.empty 40 false 0 0 0 0 false),(Box.mk 3 ByteArray.empty 40 false 0 0 0 0 false)]) (H8 (xs:=[.agg [I64 1,ST ByteArray.empty,U8 40,BL false,I64 0,I64 0,I64 0,U8 0,BL false],.agg [I64 2,ST ByteArray.empty,U8 40,BL false,I64 0,I64 0,I64 0,U8 0,BL false],.agg [I64 3,ST ByteArray.empty,U8 40,BL false,I64 0,I64 0,I64 0,U8 0,BL false]]) O ⟨O,O,O,O,O,O,G⟩ Y8 Qt O O O O) O ?_))))
 obtain⟨r4,hr4,h⟩:=Ga h
 refine JLh (.agg [I64 r4.G2,I64 r4.Tier,U8 r4.Half]) (Gs O (Q7 0 0 r4 hr4) G23 ⟨O,O,O,O,G⟩) O (JLh (.agg [I64 1,I64 r4.G2,I64 r4.Tier,U8 r4.Half]) (Hb (cs:=[I64 1,I64 r4.G2,I64 r4.Tier,U8 r4.Half]) [(0,1),(1,3)] [I64 0,I64 0,I64 0,U8 0] [E0,E0,E0,.int .u8 0] Rr Z1 ⟨.inl O,.inl O,.inl O,.inl O,G⟩ O O) O ?_)
 obtain⟨r5,hr5,h⟩:=Ga h
 refine JLh (.agg [I64 r5.G2,I64 r5.Tier,U8 r5.Half]) (Gs O (Q7 3 0 r5 hr5) G23 ⟨O,O,O,O,G⟩) O (JLh (.agg [I64 2,I64 r5.G2,I64 r5.Tier,U8 r5.Half]) (Hb (cs:=[I64 2,I64 r5.G2,I64 r5.Tier,U8 r5.Half]) [(0,1),(1,3)] [I64 0,I64 0,I64 0,U8 0] [E0,E0,E0,.int .u8 0] Rr Z1 ⟨.inl O,.inl O,.inl O,.inl O,G⟩ O O) O (JLh (E6 [(Stowed.mk 1 r4),(Stowed.mk 2 r5)]) (H8 (xs:=[.agg [I64 1,I64 r4.G2,I64 r4.Tier,U8 r4.Half],.agg [I64 2,I64 r5.G2,I64 r5.Tier,U8 r5.Half]]) O ⟨O,O,O,O,G⟩ H3 Jw O O O O) O (Ho (u:=.junk) (Hc (u:=.agg (Gk.cs r3)) (ds:=(Gk.cs r3)) Zs O O O O O O O O) (JLm (E8 [(Box.mk 1 ByteArray.empty 40 false 0 0 0 0 false),(Box.mk 2 ByteArray.empty 40 false 0 0 0 0 false),(Box.mk 3 ByteArray.empty 40 false 0 0 0 0 false)]) O (JLm (E6 [(Stowed.mk 1 r4),(Stowed.mk 2 r5)]) O (G5 (hK2 ?_)))))))
 refine Gq (⟨[.agg (Gk.cs r3),E8 [(Box.mk 1 ByteArray.empty 40 false 0 0 0 0 false),(Box.mk 2 ByteArray.empty 40 false 0 0 0 0 false),(Box.mk 3 ByteArray.empty 40 false 0 0 0 0 false)],E6 [(Stowed.mk 1 r4),(Stowed.mk 2 r5)]],[],G,O,⟨⟨_,⟨_,_,_,_,O,O,O,.inl ⟨Hq,O⟩⟩,.conv (.same O)⟩,⟨_,O,.conv (.same O)⟩,⟨_,O,.conv (.same O)⟩,G⟩,O,congrArg (fun r:Gk×(List Box)×(List Stowed)=>(.tup [.agg (Gk.cs r.1),E8 r.2.1,E6 r.2.2]:AV)) (Option.some.inj h)⟩)

def Qu (a:List Int) (b:List Int):Option Bool:=
 bif decide ((a.length:Int)≠(b.length:Int)) then
 (some false)
 else
 (each (fun y24 i24 (s24:Unit) nx24=>
   Yy b (i24:Int) fun y29=>
   bif decide (y24≠y29) then
   (some false)
   else
   (nx24 ()))
  (fun(s24:Unit)=>
   some true) a 0 ())
theorem Zn (a:List Int) (b:List Int) (r:Bool) (h:Qu a b=some r):Pure Eo 20 [E2 a,E2 b] (·=BL r):=by
 unfold Qu at h
 refine Gy [.tmp 4] Tryz.func20 O O (Jr fun hK1=>(JLm (BL false) O (G5 (hK1 (Js fun hK2=>Jr fun hK3=>(JLm (E2 a) O (JLl Gx O O O fun hm7=>(JLm (E2 b) O (JLl Gx O O O fun hm9=>(JLh (BL (decide ((a.length:Int)≠(b.length:Int)))) (Ge8 O O O) O (G5 (hK3 (JCc O h (fun h hb=>?_) (fun h hb=>?_))))))))))))))
 ·
  refine Jr fun hK4=>(JLm (BL false) O (G5 (hK4 (Gq (fin1 BL h)))))
 ·
  refine Gr (hK2 (Js fun hK5=>Jr fun hK6=>(JLm (I64 0) O (G5 (hK6 (Gw ?_))))))
  obtain⟨b24,kx24,hb24,hkx24,h⟩:=Jx h
  refine Jb (fun i24 (s24:Unit)=>each b24 kx24 (List.drop i24 a) i24 s24=some r) (fun i24 s24=>[(0,E2 a),(1,E2 b),(5,En i24)]) (fun i24 s24=>[]) (fun i24=>a.length - i24) 0 () h ⟨(.sm O O),G,O⟩ ?_
  clear h
  intro i24 s24 hi24 K24 e24
  refine Js fun hK25=>Jr fun hK26=>(JLm (En i24) O (JLm (E2 a) O (JLl Gx O O O fun hm13=>(JLh (BL (decide ((i24:Int) < (a.length:Int)))) (Qg O O O) O (G5 (hK26 (Gn O (fun hb=>?_) (fun hb=>?_))))))))
  ·
   have hk24:=Qr hb
   obtain⟨y24,nx24,hy24,hn24,h⟩:=J9 hi24 hk24
   replace h:=G17 hb24 h
   refine Gr (hK25 (Js fun hK27=>Gw (Js fun hK28=>?_)))
   obtain⟨m30,y29,hm30,hy29,h⟩:=Y9 h
   refine JC_d0 J0 (by kernel_rfl) (Dq (E2 a) (G6 O O) O (Dq (En i24) (G6 O O) O (Dq (.dptr [I64 y24]) (Hf (f:=I64) (xs:=a) (y:=y24) O O O Gx hy24 O) O (Dq (I64 y24) (Gg Gc O O O) O (Dq (E2 b) (G6 O O) O (Dq (En i24) (G6 O O) O (Dq (.dptr [I64 y29]) (Hf (f:=I64) (xs:=b) (y:=y29) O O O Gx hy29 hm30) O (Dq (I64 y29) (Gg Gc O O O) O (Dq (BL (decide (y24≠y29))) (Ge8 O O O) O (Dnil (hK28 (JCc O h (fun h hb=>?_) (fun h hb=>?_)))))))))))))
   ·
    refine Jr fun hK31=>(JLm (BL false) O (G5 (hK31 (Gq (fin1 BL h)))))
   ·
    refine Gr (hK27 (G1 (JLm (En i24) O (JLh (I64 ((i24+1:Nat):Int)) (Jf (J6 hk24 hm13) O O O) O (JLm (I64 ((i24+1:Nat):Int)) O (G5 (e24 _ _ (i24+1) () (app1 hn24 h) (by omega) ⟨(.sm O O),G,rfl⟩)))))))
  ·
   have h:=app1 hkx24 (Ja hi24 (Hs hb))
   refine Je (hK5 (Jr fun hK32=>(JLm (BL true) O (G5 (hK32 (Gq (fin1 BL h)))))))

def Q3 (a:List Stowed) (b:List Stowed):Option Bool:=
 bif decide ((a.length:Int)≠(b.length:Int)) then
 (some false)
 else
 (each (fun y24 i24 (s24:Unit) nx24=>
   Yy b (i24:Int) fun y29=>
   bif (!decide (y24=y29)) then
   (some false)
   else
   (nx24 ()))
  (fun(s24:Unit)=>
   some true) a 0 ())
theorem Rv (a:List Stowed) (b:List Stowed) (r:Bool) (h:Q3 a b=some r):Pure Eo 9 [E6 a,E6 b] (·=BL r):=by
 unfold Q3 at h
 refine Gy [.tmp 4] Tryz.func9 O O (Jr fun hK1=>(JLm (BL false) O (G5 (hK1 (Js fun hK2=>Jr fun hK3=>(JLm (E6 a) O (JLl H3 O O O fun hm7=>(JLm (E6 b) O (JLl H3 O O O fun hm9=>(JLh (BL (decide ((a.length:Int)≠(b.length:Int)))) (Ge8 O O O) O (G5 (hK3 (JCc O h (fun h hb=>?_) (fun h hb=>?_))))))))))))))
 ·
  refine Jr fun hK4=>(JLm (BL false) O (G5 (hK4 (Gq (fin1 BL h)))))
 ·
  refine Gr (hK2 (Js fun hK5=>Jr fun hK6=>(JLm (I64 0) O (G5 (hK6 (Gw ?_))))))
  obtain⟨b24,kx24,hb24,hkx24,h⟩:=Jx h
  refine Jb (fun i24 (s24:Unit)=>each b24 kx24 (List.drop i24 a) i24 s24=some r) (fun i24 s24=>[(0,E6 a),(1,E6 b),(5,En i24)]) (fun i24 s24=>[]) (fun i24=>a.length - i24) 0 () h ⟨(.sm O O),G,O⟩ ?_
  clear h
  intro i24 s24 hi24 K24 e24
  refine Js fun hK25=>Jr fun hK26=>(JLm (En i24) O (JLm (E6 a) O (JLl H3 O O O fun hm13=>(JLh (BL (decide ((i24:Int) < (a.length:Int)))) (Qg O O O) O (G5 (hK26 (Gn O (fun hb=>?_) (fun hb=>?_))))))))
  ·
   have hk24:=Qr hb
   obtain⟨y24,nx24,hy24,hn24,h⟩:=J9 hi24 hk24
   replace h:=G17 hb24 h
   refine Gr (hK25 (Js fun hK27=>Gw (Js fun hK28=>?_)))
   obtain⟨m30,y29,hm30,hy29,h⟩:=Y9 h
   refine JC_d0 J0 (by kernel_rfl) (Dq (E6 a) (G6 O O) O (Dq (En i24) (G6 O O) O (Dq (Ei y24) (Hf (f:=Stowed.av) (xs:=a) (y:=y24) O O O H3 hy24 O) O (Dq (.agg (Stowed.cs y24)) (Gi R3 O O O) O (Dq (E6 b) (G6 O O) O (Dq (En i24) (G6 O O) O (Dq (Ei y29) (Hf (f:=Stowed.av) (xs:=b) (y:=y29) O O O H3 hy29 hm30) O (Dq (.agg (Stowed.cs y29)) (Gi R3 O O O) O (Dq (BL (!decide (y24=y29))) (Yea (vs:=[.int .i64 y24.Box,.int .i64 y24.Slot.G2,.int .i64 y24.Slot.Tier,.int .u8 y24.Slot.Half]) (us:=[.int .i64 y29.Box,.int .i64 y29.Slot.G2,.int .i64 y29.Slot.Tier,.int .u8 y29.Slot.Half]) 4 O (Yf3 y24 y29) Q01 Qe1 O O O) O (Dnil (hK28 (JCc O h (fun h hb=>?_) (fun h hb=>?_)))))))))))))
   ·
    refine Jr fun hK31=>(JLm (BL false) O (G5 (hK31 (Gq (fin1 BL h)))))
   ·
    refine Gr (hK27 (G1 (JLm (En i24) O (JLh (I64 ((i24+1:Nat):Int)) (Jf (J6 hk24 hm13) O O O) O (JLm (I64 ((i24+1:Nat):Int)) O (G5 (e24 _ _ (i24+1) () (app1 hn24 h) (by omega) ⟨(.sm O O),G,rfl⟩)))))))
  ·
   have h:=app1 hkx24 (Ja hi24 (Hs hb))
   refine Je (hK5 (Jr fun hK32=>(JLm (BL true) O (G5 (hK32 (Gq (fin1 BL h)))))))

def Yk :Option Bool:=
 bnd (G43) fun r3=>
 bnd (Ge4 r3.1 r3.2.1 r3.2.2 [3]) fun r5=>
 bif ((decide (r5.2≠0))||false) then
 (some false)
 else
 (bnd (Q5 0 0) fun r11=>
  bnd (Q5 3 0) fun r12=>
  bnd (Q5 0 0) fun r13=>
  bnd (Q5 0 1) fun r14=>
  bnd (Q5 0 0) fun r15=>
  bnd (Q5 3 0) fun r16=>
  bnd (Q5 3 0) fun r17=>
  each (fun y50 i50 (s50:Gb) nx50=>
   bnd (G19 s50 y50.x) fun r56=>
   bif decide (r56.1≠y50.e) then
   (some false)
   else
   (nx50 r56.2))
  (fun(s50:Gb)=>
   bnd (Z0 s50) fun r59=>
   bnd (bif decide (r59=4) then Qp s50 else some default) fun r60=>
   bnd (bif decide (r59=4) then Qu r60 [1] else some default) fun r61=>
   bnd (bif ((decide (r59=4))&&r61) then Rw s50 else some default) fun r62=>
   bnd (bif (((decide (r59=4))&&r61)&&(decide ((r62.length:Int)=0))) then Qz s50 else some default) fun r63=>
   bnd (bif (((decide (r59=4))&&r61)&&(decide ((r62.length:Int)=0))) then Q5 3 0 else some default) fun r64=>
   bnd (bif (((decide (r59=4))&&r61)&&(decide ((r62.length:Int)=0))) then Q5 0 0 else some default) fun r65=>
   bnd (bif (((decide (r59=4))&&r61)&&(decide ((r62.length:Int)=0))) then Q3 r63 [(Stowed.mk 2 r64),(Stowed.mk 3 r65)] else some default) fun r66=>
   some ((((decide (r59=4))&&r61)&&(decide ((r62.length:Int)=0)))&&r66)) [(H9.mk (Move.mk 2 1 r11 0) 315),(H9.mk (Move.mk 1 0 (Slot.mk 0 0 0) 0) 312),(H9.mk (Move.mk 2 2 r12 0) 0),(H9.mk (Move.mk 1 0 (Slot.mk 0 0 0) 0) 0),(H9.mk (Move.mk 2 1 r13 0) 0),(H9.mk (Move.mk 3 3 r14 0) 318),(H9.mk (Move.mk 3 3 r15 0) 0),(H9.mk (Move.mk 3 2 r16 0) 315),(H9.mk (Move.mk 4 0 (Slot.mk 0 0 0) 0) 0),(H9.mk (Move.mk 3 2 r17 0) 0)] 0 r5.1)
abbrev Kh (s50:Gb):List AV:=[E1 s50.ship.Columns,E7 s50.ship.Covers,I64 s50.ship.Light.Kilos,I64 s50.ship.Light.X,I64 s50.ship.Light.Y,I64 s50.ship.Light.Z,E3 s50.ship.Rows,E4 s50.ship.Frames,E5 s50.ship.Tanks,I64 s50.ship.G4.Tolerance,I64 s50.ship.G4.Trim,I64 s50.ship.G4.List_,I64 s50.ship.G4.Stability,.mp 1197,.mp 1198,.mp 1199,I64 s50.lifts]
abbrev Ki:List AV:=[U8 0,I64 0,I64 0,I64 0,U8 0,I64 0,I64 0]
abbrev Kj:List AV:=[U8 1,I64 0,I64 0,I64 0,U8 0,I64 0,I64 312]
abbrev Kk:List AV:=[U8 4,I64 0,I64 0,I64 0,U8 0,I64 0,I64 0]
abbrev Km:List AV:=[U8 1,I64 0,I64 0,I64 0,U8 0,I64 0,I64 0]
theorem G42  (r:Bool) (h:Yk =some r):Pure Eo 6 [] (·=BL r):=by
 unfold Yk at h
 refine Gy [.tmp 0] Tryz.func6 O O (Jr fun hK1=>(JLm (BL false) O (G5 (hK1 (Jr fun hK2=>?_)))))
 obtain⟨r3,hr3,h⟩:=Ga h
 refine JLh (.tup [.agg (Gk.cs r3.1),E8 r3.2.1,E6 r3.2.2]) (Gs O (H7c  r3 hr3) Rce G) O (JLm (.tup [.agg (Gk.cs r3.1),E8 r3.2.1,E6 r3.2.2]) O (JLh (.agg (Gk.cs r3.1)) (Gz O O O) O (JLh (E8 r3.2.1) (Gz O O O) O (JLh (E6 r3.2.2) (Gz O O O) O (JLh (.ptr 1013 0) (Hp 1013 13 Gd6 O O) O (Ho (u:=.junk) (Hc (u:=.agg (Gk.cs r3.1)) (ds:=(Gk.cs r3.1)) Zs O O O O O O O O) (JLm (E8 r3.2.1) O (JLm (E6 r3.2.2) O (G5 (hK2 ?_))))))))))
 refine Gm [(1,Eg r3.1),(2,E8 r3.2.1),(3,E6 r3.2.2)] [] 1013 rfl rfl rfl G rfl (by exact⟨.ptr,.conv (.same rfl),.conv (.same rfl),G⟩) (Jr fun hK4=>(JLh (.agg (Gk.cs r3.1)) (Gi Hq O O O) O (JLm (E8 r3.2.1) O (JLm (E6 r3.2.2) O (JLh (E2 [3]) (H8 (xs:=[I64 3]) O ⟨O,O,G⟩ Gx R5 O O O O) O ?_)))))
 obtain⟨r5,hr5,h⟩:=Ga h
 refine JLh (.tup [.ptr 1196 0,I64 r5.2]) (Rs (args:=[.agg (Gk.cs r3.1),E8 r3.2.1,E6 r3.2.2,E2 [3]]) (L0:=[]) (Lr:=[(1196,.box 97 [E1 r5.1.ship.Columns,E7 r5.1.ship.Covers,I64 r5.1.ship.Light.Kilos,I64 r5.1.ship.Light.X,I64 r5.1.ship.Light.Y,I64 r5.1.ship.Light.Z,E3 r5.1.ship.Rows,E4 r5.1.ship.Frames,E5 r5.1.ship.Tanks,I64 r5.1.ship.G4.Tolerance,I64 r5.1.ship.G4.Trim,I64 r5.1.ship.G4.List_,I64 r5.1.ship.G4.Stability,.mp 1197,.mp 1198,.mp 1199,I64 r5.1.lifts]),(1197,TP 93 Slot.kv Box.av r5.1.on),(1198,TP 94 (fun n:Int=>Value.int .i64 n) Box.av r5.1.quay),(1199,TP 95 (fun n:Int=>Value.int .i64 n) I64 r5.1.open_)]) O (Haa r3.1 r3.2.1 r3.2.2 [3] r5 hr5) Hd5 ⟨.inl O,O,.inl O,O,.inl O,O,.inl O,O,G⟩ G O O O) O (JLm (.tup [.ptr 1196 0,I64 r5.2]) O (JLh (.ptr 1196 0) (Gz O O O) O (JLh (I64 r5.2) (Gz O O O) O (JLm (.ptr 1196 0) O (JLm (I64 r5.2) O (G5 (hK4 ?_)))))))
 refine Js fun hK6=>Jr fun hK7=>(JLm (I64 r5.2) O (JLh (BL (decide (r5.2≠0))) (Ge8 O O O) O (JLm (BL (decide (r5.2≠0))) O (JLo (.ptr 1196 0) [] O .scf G (fun hc=>G6 O O) O (JLo (BL false) [24] O .scf ⟨Ua,G⟩ (fun hc=>Jc3 H59 O O) O (JLh (BL ((decide (r5.2≠0))||false)) (G28 O O O O) O (G5 (hK7 (JCc O h (fun h hb=>?_) (fun h hb=>?_))))))))))
 ·
  refine Jr fun hK8=>(JLm (BL false) O (G5 (hK8 (Gq (fin1 BL h)))))
 ·
  refine Gr (hK6 (Js fun hK9=>Jr fun hK10=>?_))
  obtain⟨r11,hr11,h⟩:=Ga h
  refine JLh (.agg (Slot.cs r11)) (Gs O (Q7 0 0 r11 hr11) G23 ⟨O,O,O,O,G⟩) O (JLh (.agg [U8 2,I64 1,I64 r11.G2,I64 r11.Tier,U8 r11.Half,I64 0]) (Hb (cs:=[U8 2,I64 1,I64 r11.G2,I64 r11.Tier,U8 r11.Half,I64 0]) [(0,1),(1,1),(2,3),(5,1)] [U8 0,I64 0,I64 0,I64 0,U8 0,I64 0] [.int .u8 0,E0,E0,E0,.int .u8 0,E0] Qn R6 ⟨.inl O,.inl O,.inl O,.inl O,.inl O,.inl O,G⟩ O O) O (JLh (.agg [U8 2,I64 1,I64 r11.G2,I64 r11.Tier,U8 r11.Half,I64 0,I64 315]) (Hb (cs:=[U8 2,I64 1,I64 r11.G2,I64 r11.Tier,U8 r11.Half,I64 0,I64 315]) [(0,6),(6,1)] Ki [.int .u8 0,E0,E0,E0,.int .u8 0,E0,E0] Zv G41 ⟨.inl O,.inl O,.inl O,.inl O,.inl O,.inl O,.inl O,G⟩ O O) O (JLh (.agg [U8 1,I64 0,I64 0,I64 0,U8 0,I64 0]) (Hb (cs:=[U8 1,I64 0,I64 0,I64 0,U8 0,I64 0]) [(0,1),(1,1),(2,3),(5,1)] [U8 0,I64 0,I64 0,I64 0,U8 0,I64 0] [.int .u8 0,E0,E0,E0,.int .u8 0,E0] Qn R6 ⟨.inl O,.inl O,.inl O,.inl O,.inl O,.inl O,G⟩ O O) O (JLh (.agg Kj) (Hb (cs:=Kj) [(0,6),(6,1)] Ki [.int .u8 0,E0,E0,E0,.int .u8 0,E0,E0] Zv G41 ⟨.inl O,.inl O,.inl O,.inl O,.inl O,.inl O,.inl O,G⟩ O O) O ?_))))
  obtain⟨r12,hr12,h⟩:=Ga h
  refine JLh (.agg (Slot.cs r12)) (Gs O (Q7 3 0 r12 hr12) G23 ⟨O,O,O,O,G⟩) O (JLh (.agg [U8 2,I64 2,I64 r12.G2,I64 r12.Tier,U8 r12.Half,I64 0]) (Hb (cs:=[U8 2,I64 2,I64 r12.G2,I64 r12.Tier,U8 r12.Half,I64 0]) [(0,1),(1,1),(2,3),(5,1)] [U8 0,I64 0,I64 0,I64 0,U8 0,I64 0] [.int .u8 0,E0,E0,E0,.int .u8 0,E0] Qn R6 ⟨.inl O,.inl O,.inl O,.inl O,.inl O,.inl O,G⟩ O O) O (JLh (.agg [U8 2,I64 2,I64 r12.G2,I64 r12.Tier,U8 r12.Half,I64 0,I64 0]) (Hb (cs:=[U8 2,I64 2,I64 r12.G2,I64 r12.Tier,U8 r12.Half,I64 0,I64 0]) [(0,6),(6,1)] Ki [.int .u8 0,E0,E0,E0,.int .u8 0,E0,E0] Zv G41 ⟨.inl O,.inl O,.inl O,.inl O,.inl O,.inl O,.inl O,G⟩ O O) O (JLh (.agg [U8 1,I64 0,I64 0,I64 0,U8 0,I64 0]) (Hb (cs:=[U8 1,I64 0,I64 0,I64 0,U8 0,I64 0]) [(0,1),(1,1),(2,3),(5,1)] [U8 0,I64 0,I64 0,I64 0,U8 0,I64 0] [.int .u8 0,E0,E0,E0,.int .u8 0,E0] Qn R6 ⟨.inl O,.inl O,.inl O,.inl O,.inl O,.inl O,G⟩ O O) O (JLh (.agg Km) (Hb (cs:=Km) [(0,6),(6,1)] Ki [.int .u8 0,E0,E0,E0,.int .u8 0,E0,E0] Zv G41 ⟨.inl O,.inl O,.inl O,.inl O,.inl O,.inl O,.inl O,G⟩ O O) O ?_))))
  obtain⟨r13,hr13,h⟩:=Ga h
  refine JLh (.agg (Slot.cs r13)) (Gs O (Q7 0 0 r13 hr13) G23 ⟨O,O,O,O,G⟩) O (JLh (.agg [U8 2,I64 1,I64 r13.G2,I64 r13.Tier,U8 r13.Half,I64 0]) (Hb (cs:=[U8 2,I64 1,I64 r13.G2,I64 r13.Tier,U8 r13.Half,I64 0]) [(0,1),(1,1),(2,3),(5,1)] [U8 0,I64 0,I64 0,I64 0,U8 0,I64 0] [.int .u8 0,E0,E0,E0,.int .u8 0,E0] Qn R6 ⟨.inl O,.inl O,.inl O,.inl O,.inl O,.inl O,G⟩ O O) O (JLh (.agg [U8 2,I64 1,I64 r13.G2,I64 r13.Tier,U8 r13.Half,I64 0,I64 0]) (Hb (cs:=[U8 2,I64 1,I64 r13.G2,I64 r13.Tier,U8 r13.Half,I64 0,I64 0]) [(0,6),(6,1)] Ki [.int .u8 0,E0,E0,E0,.int .u8 0,E0,E0] Zv G41 ⟨.inl O,.inl O,.inl O,.inl O,.inl O,.inl O,.inl O,G⟩ O O) O ?_))
  obtain⟨r14,hr14,h⟩:=Ga h
  refine JLh (.agg (Slot.cs r14)) (Gs O (Q7 0 1 r14 hr14) G23 ⟨O,O,O,O,G⟩) O (JLh (.agg [U8 3,I64 3,I64 r14.G2,I64 r14.Tier,U8 r14.Half,I64 0]) (Hb (cs:=[U8 3,I64 3,I64 r14.G2,I64 r14.Tier,U8 r14.Half,I64 0]) [(0,1),(1,1),(2,3),(5,1)] [U8 0,I64 0,I64 0,I64 0,U8 0,I64 0] [.int .u8 0,E0,E0,E0,.int .u8 0,E0] Qn R6 ⟨.inl O,.inl O,.inl O,.inl O,.inl O,.inl O,G⟩ O O) O (JLh (.agg [U8 3,I64 3,I64 r14.G2,I64 r14.Tier,U8 r14.Half,I64 0,I64 318]) (Hb (cs:=[U8 3,I64 3,I64 r14.G2,I64 r14.Tier,U8 r14.Half,I64 0,I64 318]) [(0,6),(6,1)] Ki [.int .u8 0,E0,E0,E0,.int .u8 0,E0,E0] Zv G41 ⟨.inl O,.inl O,.inl O,.inl O,.inl O,.inl O,.inl O,G⟩ O O) O ?_))
  obtain⟨r15,hr15,h⟩:=Ga h
  refine JLh (.agg (Slot.cs r15)) (Gs O (Q7 0 0 r15 hr15) G23 ⟨O,O,O,O,G⟩) O (JLh (.agg [U8 3,I64 3,I64 r15.G2,I64 r15.Tier,U8 r15.Half,I64 0]) (Hb (cs:=[U8 3,I64 3,I64 r15.G2,I64 r15.Tier,U8 r15.Half,I64 0]) [(0,1),(1,1),(2,3),(5,1)] [U8 0,I64 0,I64 0,I64 0,U8 0,I64 0] [.int .u8 0,E0,E0,E0,.int .u8 0,E0] Qn R6 ⟨.inl O,.inl O,.inl O,.inl O,.inl O,.inl O,G⟩ O O) O (JLh (.agg [U8 3,I64 3,I64 r15.G2,I64 r15.Tier,U8 r15.Half,I64 0,I64 0]) (Hb (cs:=[U8 3,I64 3,I64 r15.G2,I64 r15.Tier,U8 r15.Half,I64 0,I64 0]) [(0,6),(6,1)] Ki [.int .u8 0,E0,E0,E0,.int .u8 0,E0,E0] Zv G41 ⟨.inl O,.inl O,.inl O,.inl O,.inl O,.inl O,.inl O,G⟩ O O) O ?_))
  obtain⟨r16,hr16,h⟩:=Ga h
  refine JLh (.agg (Slot.cs r16)) (Gs O (Q7 3 0 r16 hr16) G23 ⟨O,O,O,O,G⟩) O (JLh (.agg [U8 3,I64 2,I64 r16.G2,I64 r16.Tier,U8 r16.Half,I64 0]) (Hb (cs:=[U8 3,I64 2,I64 r16.G2,I64 r16.Tier,U8 r16.Half,I64 0]) [(0,1),(1,1),(2,3),(5,1)] [U8 0,I64 0,I64 0,I64 0,U8 0,I64 0] [.int .u8 0,E0,E0,E0,.int .u8 0,E0] Qn R6 ⟨.inl O,.inl O,.inl O,.inl O,.inl O,.inl O,G⟩ O O) O (JLh (.agg [U8 3,I64 2,I64 r16.G2,I64 r16.Tier,U8 r16.Half,I64 0,I64 315]) (Hb (cs:=[U8 3,I64 2,I64 r16.G2,I64 r16.Tier,U8 r16.Half,I64 0,I64 315]) [(0,6),(6,1)] Ki [.int .u8 0,E0,E0,E0,.int .u8 0,E0,E0] Zv G41 ⟨.inl O,.inl O,.inl O,.inl O,.inl O,.inl O,.inl O,G⟩ O O) O (JLh (.agg [U8 4,I64 0,I64 0,I64 0,U8 0,I64 0]) (Hb (cs:=[U8 4,I64 0,I64 0,I64 0,U8 0,I64 0]) [(0,1),(1,1),(2,3),(5,1)] [U8 0,I64 0,I64 0,I64 0,U8 0,I64 0] [.int .u8 0,E0,E0,E0,.int .u8 0,E0] Qn R6 ⟨.inl O,.inl O,.inl O,.inl O,.inl O,.inl O,G⟩ O O) O (JLh (.agg Kk) (Hb (cs:=Kk) [(0,6),(6,1)] Ki [.int .u8 0,E0,E0,E0,.int .u8 0,E0,E0] Zv G41 ⟨.inl O,.inl O,.inl O,.inl O,.inl O,.inl O,.inl O,G⟩ O O) O ?_))))
  obtain⟨r17,hr17,h⟩:=Ga h
  refine JLh (.agg (Slot.cs r17)) (Gs O (Q7 3 0 r17 hr17) G23 ⟨O,O,O,O,G⟩) O (JLh (.agg [U8 3,I64 2,I64 r17.G2,I64 r17.Tier,U8 r17.Half,I64 0]) (Hb (cs:=[U8 3,I64 2,I64 r17.G2,I64 r17.Tier,U8 r17.Half,I64 0]) [(0,1),(1,1),(2,3),(5,1)] [U8 0,I64 0,I64 0,I64 0,U8 0,I64 0] [.int .u8 0,E0,E0,E0,.int .u8 0,E0] Qn R6 ⟨.inl O,.inl O,.inl O,.inl O,.inl O,.inl O,G⟩ O O) O (JLh (.agg [U8 3,I64 2,I64 r17.G2,I64 r17.Tier,U8 r17.Half,I64 0,I64 0]) (Hb (cs:=[U8 3,I64 2,I64 r17.G2,I64 r17.Tier,U8 r17.Half,I64 0,I64 0]) [(0,6),(6,1)] Ki [.int .u8 0,E0,E0,E0,.int .u8 0,E0,E0] Zv G41 ⟨.inl O,.inl O,.inl O,.inl O,.inl O,.inl O,.inl O,G⟩ O O) O (JLh (LS 7 H9.av [(H9.mk (Move.mk 2 1 r11 0) 315),(H9.mk (Move.mk 1 0 (Slot.mk 0 0 0) 0) 312),(H9.mk (Move.mk 2 2 r12 0) 0),(H9.mk (Move.mk 1 0 (Slot.mk 0 0 0) 0) 0),(H9.mk (Move.mk 2 1 r13 0) 0),(H9.mk (Move.mk 3 3 r14 0) 318),(H9.mk (Move.mk 3 3 r15 0) 0),(H9.mk (Move.mk 3 2 r16 0) 315),(H9.mk (Move.mk 4 0 (Slot.mk 0 0 0) 0) 0),(H9.mk (Move.mk 3 2 r17 0) 0)]) (H8 (xs:=[.agg [U8 2,I64 1,I64 r11.G2,I64 r11.Tier,U8 r11.Half,I64 0,I64 315],.agg Kj,.agg [U8 2,I64 2,I64 r12.G2,I64 r12.Tier,U8 r12.Half,I64 0,I64 0],.agg Km,.agg [U8 2,I64 1,I64 r13.G2,I64 r13.Tier,U8 r13.Half,I64 0,I64 0],.agg [U8 3,I64 3,I64 r14.G2,I64 r14.Tier,U8 r14.Half,I64 0,I64 318],.agg [U8 3,I64 3,I64 r15.G2,I64 r15.Tier,U8 r15.Half,I64 0,I64 0],.agg [U8 3,I64 2,I64 r16.G2,I64 r16.Tier,U8 r16.Half,I64 0,I64 315],.agg Kk,.agg [U8 3,I64 2,I64 r17.G2,I64 r17.Tier,U8 r17.Half,I64 0,I64 0]]) O ⟨O,O,O,O,O,O,O,O,O,O,O,O,O,O,O,O,O,O,O,O,G⟩ J0e Jee O O O O) O (JLl J0e O O O fun hm55=>(JLm (I64 0) O (G5 (hK10 ?_)))))))
  refine Gw ?_
  obtain⟨b50,kx50,hb50,hkx50,h⟩:=Jx h
  refine Jb (fun i50 (s50:Gb)=>each b50 kx50 (List.drop i50 [(H9.mk (Move.mk 2 1 r11 0) 315),(H9.mk (Move.mk 1 0 (Slot.mk 0 0 0) 0) 312),(H9.mk (Move.mk 2 2 r12 0) 0),(H9.mk (Move.mk 1 0 (Slot.mk 0 0 0) 0) 0),(H9.mk (Move.mk 2 1 r13 0) 0),(H9.mk (Move.mk 3 3 r14 0) 318),(H9.mk (Move.mk 3 3 r15 0) 0),(H9.mk (Move.mk 3 2 r16 0) 315),(H9.mk (Move.mk 4 0 (Slot.mk 0 0 0) 0) 0),(H9.mk (Move.mk 3 2 r17 0) 0)]) i50 s50=some r) (fun i50 s50=>[(4,.ptr 1196 0),(54,LS 7 H9.av [(H9.mk (Move.mk 2 1 r11 0) 315),(H9.mk (Move.mk 1 0 (Slot.mk 0 0 0) 0) 312),(H9.mk (Move.mk 2 2 r12 0) 0),(H9.mk (Move.mk 1 0 (Slot.mk 0 0 0) 0) 0),(H9.mk (Move.mk 2 1 r13 0) 0),(H9.mk (Move.mk 3 3 r14 0) 318),(H9.mk (Move.mk 3 3 r15 0) 0),(H9.mk (Move.mk 3 2 r16 0) 315),(H9.mk (Move.mk 4 0 (Slot.mk 0 0 0) 0) 0),(H9.mk (Move.mk 3 2 r17 0) 0)]),(55,I64 ([(H9.mk (Move.mk 2 1 r11 0) 315),(H9.mk (Move.mk 1 0 (Slot.mk 0 0 0) 0) 312),(H9.mk (Move.mk 2 2 r12 0) 0),(H9.mk (Move.mk 1 0 (Slot.mk 0 0 0) 0) 0),(H9.mk (Move.mk 2 1 r13 0) 0),(H9.mk (Move.mk 3 3 r14 0) 318),(H9.mk (Move.mk 3 3 r15 0) 0),(H9.mk (Move.mk 3 2 r16 0) 315),(H9.mk (Move.mk 4 0 (Slot.mk 0 0 0) 0) 0),(H9.mk (Move.mk 3 2 r17 0) 0)].length:Int)),(56,En i50)]) (fun i50 s50=>[(1196,.box 97 (Kh s50)),(1197,TP 93 Slot.kv Box.av s50.on),(1198,TP 94 (fun n:Int=>Value.int .i64 n) Box.av s50.quay),(1199,TP 95 (fun n:Int=>Value.int .i64 n) I64 s50.open_)]) (fun i50=>[(H9.mk (Move.mk 2 1 r11 0) 315),(H9.mk (Move.mk 1 0 (Slot.mk 0 0 0) 0) 312),(H9.mk (Move.mk 2 2 r12 0) 0),(H9.mk (Move.mk 1 0 (Slot.mk 0 0 0) 0) 0),(H9.mk (Move.mk 2 1 r13 0) 0),(H9.mk (Move.mk 3 3 r14 0) 318),(H9.mk (Move.mk 3 3 r15 0) 0),(H9.mk (Move.mk 3 2 r16 0) 315),(H9.mk (Move.mk 4 0 (Slot.mk 0 0 0) 0) 0),(H9.mk (Move.mk 3 2 r17 0) 0)].length - i50) 0 r5.1 h ⟨(.sm O O),⟨⟨_,rfl,.boxL rfl (.sm O O)⟩,⟨_,rfl,.map⟩,⟨_,rfl,.map⟩,⟨_,rfl,.map⟩,G⟩,rfl⟩ ?_
  clear h
  intro i50 s50 hi50 K50 e50
  refine Jr fun hK51=>(JLh (BL (decide ((i50:Int) < ([(H9.mk (Move.mk 2 1 r11 0) 315),(H9.mk (Move.mk 1 0 (Slot.mk 0 0 0) 0) 312),(H9.mk (Move.mk 2 2 r12 0) 0),(H9.mk (Move.mk 1 0 (Slot.mk 0 0 0) 0) 0),(H9.mk (Move.mk 2 1 r13 0) 0),(H9.mk (Move.mk 3 3 r14 0) 318),(H9.mk (Move.mk 3 3 r15 0) 0),(H9.mk (Move.mk 3 2 r16 0) 315),(H9.mk (Move.mk 4 0 (Slot.mk 0 0 0) 0) 0),(H9.mk (Move.mk 3 2 r17 0) 0)].length:Int)))) (Qg O O O) O (G5 (hK51 (Js fun hK52=>Gn O (fun hb=>?_) (fun hb=>?_)))))
  ·
   have hk50:=Qr hb
   obtain⟨y50,nx50,hy50,hn50,h⟩:=J9 hi50 hk50
   replace h:=G17 hb50 h
   refine Gr (hK52 (Js fun hK53=>Gw ?_))
   refine Jr fun hK54=>(JLh (.dptr (H9.cs y50)) (Hf (f:=H9.av) (xs:=[(H9.mk (Move.mk 2 1 r11 0) 315),(H9.mk (Move.mk 1 0 (Slot.mk 0 0 0) 0) 312),(H9.mk (Move.mk 2 2 r12 0) 0),(H9.mk (Move.mk 1 0 (Slot.mk 0 0 0) 0) 0),(H9.mk (Move.mk 2 1 r13 0) 0),(H9.mk (Move.mk 3 3 r14 0) 318),(H9.mk (Move.mk 3 3 r15 0) 0),(H9.mk (Move.mk 3 2 r16 0) 315),(H9.mk (Move.mk 4 0 (Slot.mk 0 0 0) 0) 0),(H9.mk (Move.mk 3 2 r17 0) 0)]) (y:=y50) O O O J0e hy50 O) O (JLh (.agg (H9.cs y50)) (Gi Y41 O O O) O (JLh (.ptr 1014 0) (Hp 1014 7 Jee O O) O (Ho (u:=.junk) (Hc (u:=.agg (H9.cs y50)) (ds:=(H9.cs y50)) Ra9 O O O O O O O O) (G5 (hK54 ?_))))))
   refine Gm [(4,.ptr 1196 0),(7,.dptr (H9.cs y50)),(54,LS 7 H9.av [(H9.mk (Move.mk 2 1 r11 0) 315),(H9.mk (Move.mk 1 0 (Slot.mk 0 0 0) 0) 312),(H9.mk (Move.mk 2 2 r12 0) 0),(H9.mk (Move.mk 1 0 (Slot.mk 0 0 0) 0) 0),(H9.mk (Move.mk 2 1 r13 0) 0),(H9.mk (Move.mk 3 3 r14 0) 318),(H9.mk (Move.mk 3 3 r15 0) 0),(H9.mk (Move.mk 3 2 r16 0) 315),(H9.mk (Move.mk 4 0 (Slot.mk 0 0 0) 0) 0),(H9.mk (Move.mk 3 2 r17 0) 0)]),(55,I64 ([(H9.mk (Move.mk 2 1 r11 0) 315),(H9.mk (Move.mk 1 0 (Slot.mk 0 0 0) 0) 312),(H9.mk (Move.mk 2 2 r12 0) 0),(H9.mk (Move.mk 1 0 (Slot.mk 0 0 0) 0) 0),(H9.mk (Move.mk 2 1 r13 0) 0),(H9.mk (Move.mk 3 3 r14 0) 318),(H9.mk (Move.mk 3 3 r15 0) 0),(H9.mk (Move.mk 3 2 r16 0) 315),(H9.mk (Move.mk 4 0 (Slot.mk 0 0 0) 0) 0),(H9.mk (Move.mk 3 2 r17 0) 0)].length:Int)),(56,En i50)] [(1196,.box 97 (Kh s50)),(1197,TP 93 Slot.kv Box.av s50.on),(1198,TP 94 (fun n:Int=>Value.int .i64 n) Box.av s50.quay),(1199,TP 95 (fun n:Int=>Value.int .i64 n) I64 s50.open_)] 1014 rfl rfl rfl ⟨⟨_,rfl,.boxEq rfl rfl⟩,⟨_,rfl,.map⟩,⟨_,rfl,.map⟩,⟨_,rfl,.map⟩,G⟩ rfl (by repeat' (first | exact .ptr | constructor)) ?_
   refine Js fun hK55=>?_
   refine Qc (l':=[(4,.ptr 1196 0),(7,.dptr (H9.cs y50)),(54,LS 7 H9.av [(H9.mk (Move.mk 2 1 r11 0) 315),(H9.mk (Move.mk 1 0 (Slot.mk 0 0 0) 0) 312),(H9.mk (Move.mk 2 2 r12 0) 0),(H9.mk (Move.mk 1 0 (Slot.mk 0 0 0) 0) 0),(H9.mk (Move.mk 2 1 r13 0) 0),(H9.mk (Move.mk 3 3 r14 0) 318),(H9.mk (Move.mk 3 3 r15 0) 0),(H9.mk (Move.mk 3 2 r16 0) 315),(H9.mk (Move.mk 4 0 (Slot.mk 0 0 0) 0) 0),(H9.mk (Move.mk 3 2 r17 0) 0)]),(55,I64 ([(H9.mk (Move.mk 2 1 r11 0) 315),(H9.mk (Move.mk 1 0 (Slot.mk 0 0 0) 0) 312),(H9.mk (Move.mk 2 2 r12 0) 0),(H9.mk (Move.mk 1 0 (Slot.mk 0 0 0) 0) 0),(H9.mk (Move.mk 2 1 r13 0) 0),(H9.mk (Move.mk 3 3 r14 0) 318),(H9.mk (Move.mk 3 3 r15 0) 0),(H9.mk (Move.mk 3 2 r16 0) 315),(H9.mk (Move.mk 4 0 (Slot.mk 0 0 0) 0) 0),(H9.mk (Move.mk 3 2 r17 0) 0)].length:Int)),(56,En i50)]) (L':=[(1196,.box 97 (Kh s50)),(1197,TP 93 Slot.kv Box.av s50.on),(1198,TP 94 (fun n:Int=>Value.int .i64 n) Box.av s50.quay),(1199,TP 95 (fun n:Int=>Value.int .i64 n) I64 s50.open_)]) ⟨(.sm O O),⟨⟨_,rfl,.boxL rfl (.sm O O)⟩,⟨_,rfl,.map⟩,⟨_,rfl,.map⟩,⟨_,rfl,.map⟩,G⟩,rfl⟩ ?_
   obtain⟨r56,hr56,h⟩:=Ga h
   refine J4 [3] [0,0,0,0,0,0,1] [0,0,0,0,1,1,1] [[(1196,.box 97 (Kh s50)),(1197,TP 93 Slot.kv Box.av s50.on),(1198,TP 94 (fun n:Int=>Value.int .i64 n) Box.av s50.quay),(1199,TP 95 (fun n:Int=>Value.int .i64 n) I64 s50.open_)],[(1196,.box 97 [E1 r56.2.ship.Columns,E7 r56.2.ship.Covers,I64 r56.2.ship.Light.Kilos,I64 r56.2.ship.Light.X,I64 r56.2.ship.Light.Y,I64 r56.2.ship.Light.Z,E3 r56.2.ship.Rows,E4 r56.2.ship.Frames,E5 r56.2.ship.Tanks,I64 r56.2.ship.G4.Tolerance,I64 r56.2.ship.G4.Trim,I64 r56.2.ship.G4.List_,I64 r56.2.ship.G4.Stability,.mp 1197,.mp 1198,.mp 1199,I64 r56.2.lifts]),(1197,TP 93 Slot.kv Box.av r56.2.on),(1198,TP 94 (fun n:Int=>Value.int .i64 n) Box.av r56.2.quay),(1199,TP 95 (fun n:Int=>Value.int .i64 n) I64 r56.2.open_)]] J0 (by kernel_rfl) rfl rfl ?_
   refine Gd (u:=.ptr 1196 0) O O ⟨Ge (G6 O O) O,G⟩ (Gd (u:=.dptr (H9.cs y50)) O O ⟨Ge (G9 Qc9 O O O) O,G⟩ (Gd (u:=.agg (Move.cs y50.x)) O O ⟨Ge (Gi G2c O O O) O,G⟩ (D_w (u:=I64 r56.1) O O O O (Ge (Rs (args:=[.ptr 1196 0,.agg (Move.cs y50.x)]) (L0:=[(1196,.box 97 (Kh s50)),(1197,TP 93 Slot.kv Box.av s50.on),(1198,TP 94 (fun n:Int=>Value.int .i64 n) Box.av s50.quay),(1199,TP 95 (fun n:Int=>Value.int .i64 n) I64 s50.open_)]) (Lr:=[(1196,.box 97 [E1 r56.2.ship.Columns,E7 r56.2.ship.Covers,I64 r56.2.ship.Light.Kilos,I64 r56.2.ship.Light.X,I64 r56.2.ship.Light.Y,I64 r56.2.ship.Light.Z,E3 r56.2.ship.Rows,E4 r56.2.ship.Frames,E5 r56.2.ship.Tanks,I64 r56.2.ship.G4.Tolerance,I64 r56.2.ship.G4.Trim,I64 r56.2.ship.G4.List_,I64 r56.2.ship.G4.Stability,.mp 1197,.mp 1198,.mp 1199,I64 r56.2.lifts]),(1197,TP 93 Slot.kv Box.av r56.2.on),(1198,TP 94 (fun n:Int=>Value.int .i64 n) Box.av r56.2.quay),(1199,TP 95 (fun n:Int=>Value.int .i64 n) I64 r56.2.open_)]) O (G9d s50 y50.x r56 hr56) Hb0 ⟨.inl O,O,.inl O,O,G⟩ ⟨O,O,O,O,G⟩ O O O) O) (Gd (u:=.dptr [I64 y50.e]) O O ⟨Ge (G9 J52 O O O) O,Ge (G9 J52 O O O) O,G⟩ (Gd (u:=I64 y50.e) O O ⟨Ge (Gg Hcb O O O) O,Ge (Gg Hcb O O O) O,G⟩ (Gd (u:=BL (decide (r56.1≠y50.e))) O O ⟨Ge (Ge8 O O O) O,G⟩ (Qw ?_)))))))
   refine hK55 (JCc O h (fun h hb=>?_) (fun h hb=>?_))
   ·
    refine Jr fun hK57=>(JLm (BL false) O (G5 (hK57 (Gq (fin1 BL h)))))
   ·
    refine Gr (hK53 (G1 (JLh (I64 ((i50+1:Nat):Int)) (Jf (J6 hk50 hm55) O O O) O (JLm (I64 ((i50+1:Nat):Int)) O (G5 (e50 _ _ (i50+1) r56.2 (app1 hn50 h) (by omega) ⟨(.sm O O),⟨⟨_,rfl,.boxL rfl (.sm O O)⟩,⟨_,rfl,.map⟩,⟨_,rfl,.map⟩,⟨_,rfl,.map⟩,G⟩,rfl⟩))))))
  ·
   have h:=app1 hkx50 (Ja hi50 (Hs hb))
   refine Je (hK9 (Jr fun hK58=>(JLm (.ptr 1196 0) O ?_)))
   obtain⟨r59,hr59,h⟩:=Ga h
   refine JLh (I64 r59) (Z8 (args:=[.dptr (Gb.cs s50)]) O (G3c s50 r59 hr59) H65 ⟨.ptrL O ⟨.data O O,.data O O,.data O O,.data O O,.data O O,.data O O,.data O O,.data O O,.data O O,.data O O,.data O O,.data O O,.data O O,.mp O,.mp O,.mp O,.data O O,G⟩,G⟩ O) O (JLh (BL (decide (r59=4))) (Q0 O O O) O (JLm (BL (decide (r59=4))) O (JLo (.ptr 1196 0) [] O .sct G (fun hc=>G6 O O) O ?_)))
   obtain⟨r60,hr60,h⟩:=Ga h
   refine JLo (E2 r60) [72] O .sct ⟨Ua,G⟩ (fun hc=>Y7 (args:=[.dptr (Gb.cs s50)]) (g:=I64) (r:=r60) O (G65 s50 r60 (H1 hc hr60)) Gcf ⟨.ptrL O ⟨.data O O,.data O O,.data O O,.data O O,.data O O,.data O O,.data O O,.data O O,.data O O,.data O O,.data O O,.data O O,.data O O,.mp O,.mp O,.mp O,.data O O,G⟩,G⟩ (fun _=>O)) O (JLo (E2 [1]) [] O .sct G (fun hc=>H8 (xs:=[I64 1]) O ⟨O,O,G⟩ Gx R5 O O O O) O ?_)
   obtain⟨r61,hr61,h⟩:=Ga h
   refine JLo (BL r61) [73,74] O .sct ⟨Ua,Ua,G⟩ (fun hc=>Gs (args:=[E2 r60,E2 [1]]) O (Zn r60 [1] r61 (H1 hc hr61)) Hd4 ⟨O,O,O,O,G⟩) O (JLh (BL ((decide (r59=4))&&r61)) (Rm O O O O) O (JLm (BL ((decide (r59=4))&&r61)) O (JLo (.ptr 1196 0) [] O .sct G (fun hc=>G6 O O) O ?_)))
   obtain⟨r62,hr62,h⟩:=Ga h
   refine JLo (E2 r62) [78] O .sct ⟨Ua,G⟩ (fun hc=>Y7 (args:=[.dptr (Gb.cs s50)]) (g:=I64) (r:=r62) O (G54 s50 r62 (H1 hc hr62)) H07 ⟨.ptrL O ⟨.data O O,.data O O,.data O O,.data O O,.data O O,.data O O,.data O O,.data O O,.data O O,.data O O,.data O O,.data O O,.data O O,.mp O,.mp O,.mp O,.data O O,G⟩,G⟩ (fun _=>O)) O (JLo (En r62.length) [79] O .sct ⟨Ua,G⟩ (fun hc=>G1a (f:=I64) (xs:=r62) Gx O O) O (JLo (BL (decide ((r62.length:Int)=0))) [80] O .sct ⟨Ua,G⟩ (fun hc=>Q0 O O O) O (JLh (BL (((decide (r59=4))&&r61)&&(decide ((r62.length:Int)=0)))) (Rm O O O O) O (JLm (BL (((decide (r59=4))&&r61)&&(decide ((r62.length:Int)=0)))) O (JLo (.ptr 1196 0) [] O .sct G (fun hc=>G6 O O) O ?_)))))
   obtain⟨r63,hr63,h⟩:=Ga h
   refine JLo (E6 r63) [84] O .sct ⟨Ua,G⟩ (fun hc=>Y7 (args:=[.dptr (Gb.cs s50)]) (g:=Stowed.av) (r:=r63) O (G09.down s50 r63 (H1 hc hr63)) G89 ⟨.ptrL O ⟨.data O O,.data O O,.data O O,.data O O,.data O O,.data O O,.data O O,.data O O,.data O O,.data O O,.data O O,.data O O,.data O O,.mp O,.mp O,.mp O,.data O O,G⟩,G⟩ (fun _=>O)) O ?_
   obtain⟨r64,hr64,h⟩:=Ga h
   refine JLo (.agg (Slot.cs r64)) [] O .sct G (fun hc=>Gs (args:=[I64 3,I64 0]) O (Q7 3 0 r64 (H1 hc hr64)) G23 ⟨O,O,O,O,G⟩) O (JLo (.agg [I64 2,I64 r64.G2,I64 r64.Tier,U8 r64.Half]) [86] O .sct ⟨Ua,G⟩ (fun hc=>Hb (cs:=[I64 2,I64 r64.G2,I64 r64.Tier,U8 r64.Half]) [(0,1),(1,3)] [I64 0,I64 0,I64 0,U8 0] [E0,E0,E0,.int .u8 0] Rr Z1 ⟨.inl O,.inl O,.inl O,.inl O,G⟩ O O) O ?_)
   obtain⟨r65,hr65,h⟩:=Ga h
   refine JLo (.agg (Slot.cs r65)) [] O .sct G (fun hc=>Gs (args:=[I64 0,I64 0]) O (Q7 0 0 r65 (H1 hc hr65)) G23 ⟨O,O,O,O,G⟩) O (JLo (.agg [I64 3,I64 r65.G2,I64 r65.Tier,U8 r65.Half]) [88] O .sct ⟨Ua,G⟩ (fun hc=>Hb (cs:=[I64 3,I64 r65.G2,I64 r65.Tier,U8 r65.Half]) [(0,1),(1,3)] [I64 0,I64 0,I64 0,U8 0] [E0,E0,E0,.int .u8 0] Rr Z1 ⟨.inl O,.inl O,.inl O,.inl O,G⟩ O O) O (JLo (E6 [(Stowed.mk 2 r64),(Stowed.mk 3 r65)]) [87,89] O .sct ⟨Ua,Ua,G⟩ (fun hc=>H8 (xs:=[.agg [I64 2,I64 r64.G2,I64 r64.Tier,U8 r64.Half],.agg [I64 3,I64 r65.G2,I64 r65.Tier,U8 r65.Half]]) O ⟨O,O,O,O,G⟩ H3 Jw O O O O) O ?_))
   obtain⟨r66,hr66,h⟩:=Ga h
   refine JLo (BL r66) [85,90] O .sct ⟨Ua,Ua,G⟩ (fun hc=>Gs (args:=[E6 r63,E6 [(Stowed.mk 2 r64),(Stowed.mk 3 r65)]]) O (Rv r63 [(Stowed.mk 2 r64),(Stowed.mk 3 r65)] r66 (H1 hc hr66)) Haf ⟨O,O,O,O,G⟩) O (JLh (BL ((((decide (r59=4))&&r61)&&(decide ((r62.length:Int)=0)))&&r66)) (Rm O O O O) O (JLm (BL ((((decide (r59=4))&&r61)&&(decide ((r62.length:Int)=0)))&&r66)) O (G5 (hK58 (Gq (fin1 BL h))))))

end
end Go.Proofs.YtidpfkmbfgihlaaGreat
