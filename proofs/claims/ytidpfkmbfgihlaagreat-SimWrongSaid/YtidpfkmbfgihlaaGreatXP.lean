/-
 Models of functions of the program,and that they return what the models say.
-/
import Derived.Test.YtidpfkmbfgihlaaGreatXB
set_option maxRecDepth 100000
set_option maxHeartbeats 1000000
set_option linter.unusedVariables false
set_option linter.unusedSimpArgs false
namespace Go.Proofs.YtidpfkmbfgihlaaGreat
open Go.RowKit
noncomputable section
structure H9 where
 x:Move
 e:Int
 deriving DecidableEq,Inhabited
def H9.cs (x:H9):List AV:=[U8 x.x.Kind,I64 x.x.Box,I64 x.x.Slot.G2,I64 x.x.Slot.Tier,U8 x.x.Slot.Half,I64 x.x.G8,I64 x.e]
def H9.av (x:H9):AV:=.agg x.cs
namespace XPF
open XAF
open XCF
open XSF
open XKF
open XTF
open XUF
open XBF
theorem Yee (a b:Stowed):J78 En 4 55 [.int .i64 a.Box,.int .i64 a.Slot.G2,.int .i64 a.Slot.Tier,.int .u8 a.Slot.Half] [.int .i64 b.Box,.int .i64 b.Slot.G2,.int .i64 b.Slot.Tier,.int .u8 b.Slot.Half]=some (decide (a=b)):=by
 refine(show _=some ((a.Box==b.Box)&&(((a.Slot.G2==b.Slot.G2)&&((a.Slot.Tier==b.Slot.Tier)&&((a.Slot.Half==b.Slot.Half)&&true)))&&true)) by kernel_rfl).trans (congrArg some ?_)
 rw [Bool.eq_iff_iff]
 simp only [Bool.and_eq_true,beq_iff_eq,decide_eq_true_eq,Bool.and_true]
 constructor
 ·intro h; obtain⟨_,⟨_,_,_⟩⟩:=a; obtain⟨_,⟨_,_,_⟩⟩:=b; simp_all
 ·intro h; subst h; simp
theorem Y3b:Gf4 En 85 7=true:=by kernel_rfl
theorem Q02:G4c En 55=true:=by kernel_rfl
theorem H63:H7 En 16=true:=by kernel_rfl
theorem Hcf:H7 En 20=true:=by kernel_rfl
theorem Rcd:H7 En 27=true:=by kernel_rfl
theorem G22:H7 En 28=true:=by kernel_rfl
theorem Jc9:H7 En 6=true:=by kernel_rfl
theorem Rbb:H7 En 68=true:=by kernel_rfl
theorem Jc8:H7 En 7=true:=by kernel_rfl
theorem Hac:H7 En 8=true:=by kernel_rfl
theorem Hab:H7 En 9=true:=by kernel_rfl
theorem Qe4:En.eqGuardType En.depth 55=false:=by kernel_rfl
theorem Qcb:Jj En 85 0 0=true:=by kernel_rfl
theorem J51:Jj En 85 1 6=true:=by kernel_rfl
theorem Zu:placesOf En 85=some [(0,6),(6,1)]:=by kernel_rfl
theorem Ra8:Yt En 85 7=true:=by kernel_rfl
theorem G85:sliceB En 46 45 6=true:=by kernel_rfl
theorem J0a:sliceB En 86 85 7=true:=by kernel_rfl
theorem G45:(En.info? 85).bind (fun i=>i.zero.map Value.cells)=some (List.toArray [.int .u8 0,E0,E0,E0,.int .u8 0,E0,E0]):=by kernel_rfl
theorem Jef:Y2 En 85 7=true:=by kernel_rfl
end XPF
open XAF
open XCF
open XSF
open XKF
open XTF
open XUF
open XBF
open XPF

def G48 :Option Gk:=
 some (Gk.mk ([(G2.mk 0 0 false 2 0 0 0 0 [] 0 0 0),(G2.mk 0 1 false 2 0 0 0 0 [] 0 0 0),(G2.mk 0 0 true 3 0 0 0 0 [] 0 0 0),(G2.mk 0 1 true 3 0 0 0 0 [] 0 0 0),(G2.mk 1 1 true 4 0 0 0 0 [] 0 0 0)]) ([(G8.mk 0 [0,1])]) (Light.mk 0 0 0 0) [] [] [] (G4.mk 0 0 0 0))
abbrev Kf:List AV:=[E1 ([]:List G2),E6 ([]:List G8),I64 0,I64 0,I64 0,I64 0,E3 ([]:List Row),E4 ([]:List Frame),E5 ([]:List Gp),I64 0,I64 0,I64 0,I64 0]
theorem H7a  (r:Gk) (h:G48 =some r):Pure En 68 [] (·=.agg (Gk.cs r)):=by
 unfold G48 at h
 refine Gz [.cell 0 36] Tryz.func68 O O (Jr fun hK1=>(JLh (.ptr 1115 0) (G5d 1115 Kf [.slice none 0 0,.slice none 0 0,E0,E0,E0,E0,.slice none 0 0,.slice none 0 0,.slice none 0 0,E0,E0,E0,E0] G62 ⟨.inr ⟨_,O,O⟩,.inr ⟨_,O,O⟩,.inl O,.inl O,.inl O,.inl O,.inr ⟨_,O,O⟩,.inr ⟨_,O,O⟩,.inr ⟨_,O,O⟩,.inl O,.inl O,.inl O,.inl O,G⟩ O O) O (G5 (hK1 ?_))))
 refine Jr fun hK2=>(JLh (.agg [I64 0,I64 0,BL false,I64 2,I64 0,I64 0,I64 0,I64 0,E2 ([]:List Int),I64 0,I64 0,I64 0]) (Hb (cs:=[I64 0,I64 0,BL false,I64 2,I64 0,I64 0,I64 0,I64 0,E2 ([]:List Int),I64 0,I64 0,I64 0]) [(0,1),(1,1),(2,1),(3,1),(4,1),(5,1),(6,1),(7,1),(8,1),(9,1),(10,1),(11,1)] [I64 0,I64 0,BL false,I64 0,I64 0,I64 0,I64 0,I64 0,E2 ([]:List Int),I64 0,I64 0,I64 0] [E0,E0,.bool false,E0,E0,E0,E0,E0,.slice none 0 0,E0,E0,E0] G65 Gcd ⟨.inl O,.inl O,.inl O,.inl O,.inl O,.inl O,.inl O,.inl O,.inr ⟨_,O,O⟩,.inl O,.inl O,.inl O,G⟩ O O) O (JLh (.agg [I64 0,I64 1,BL false,I64 2,I64 0,I64 0,I64 0,I64 0,E2 ([]:List Int),I64 0,I64 0,I64 0]) (Hb (cs:=[I64 0,I64 1,BL false,I64 2,I64 0,I64 0,I64 0,I64 0,E2 ([]:List Int),I64 0,I64 0,I64 0]) [(0,1),(1,1),(2,1),(3,1),(4,1),(5,1),(6,1),(7,1),(8,1),(9,1),(10,1),(11,1)] [I64 0,I64 0,BL false,I64 0,I64 0,I64 0,I64 0,I64 0,E2 ([]:List Int),I64 0,I64 0,I64 0] [E0,E0,.bool false,E0,E0,E0,E0,E0,.slice none 0 0,E0,E0,E0] G65 Gcd ⟨.inl O,.inl O,.inl O,.inl O,.inl O,.inl O,.inl O,.inl O,.inr ⟨_,O,O⟩,.inl O,.inl O,.inl O,G⟩ O O) O (JLh (.agg [I64 0,I64 0,BL true,I64 3,I64 0,I64 0,I64 0,I64 0,E2 ([]:List Int),I64 0,I64 0,I64 0]) (Hb (cs:=[I64 0,I64 0,BL true,I64 3,I64 0,I64 0,I64 0,I64 0,E2 ([]:List Int),I64 0,I64 0,I64 0]) [(0,1),(1,1),(2,1),(3,1),(4,1),(5,1),(6,1),(7,1),(8,1),(9,1),(10,1),(11,1)] [I64 0,I64 0,BL false,I64 0,I64 0,I64 0,I64 0,I64 0,E2 ([]:List Int),I64 0,I64 0,I64 0] [E0,E0,.bool false,E0,E0,E0,E0,E0,.slice none 0 0,E0,E0,E0] G65 Gcd ⟨.inl O,.inl O,.inl O,.inl O,.inl O,.inl O,.inl O,.inl O,.inr ⟨_,O,O⟩,.inl O,.inl O,.inl O,G⟩ O O) O (JLh (.agg [I64 0,I64 1,BL true,I64 3,I64 0,I64 0,I64 0,I64 0,E2 ([]:List Int),I64 0,I64 0,I64 0]) (Hb (cs:=[I64 0,I64 1,BL true,I64 3,I64 0,I64 0,I64 0,I64 0,E2 ([]:List Int),I64 0,I64 0,I64 0]) [(0,1),(1,1),(2,1),(3,1),(4,1),(5,1),(6,1),(7,1),(8,1),(9,1),(10,1),(11,1)] [I64 0,I64 0,BL false,I64 0,I64 0,I64 0,I64 0,I64 0,E2 ([]:List Int),I64 0,I64 0,I64 0] [E0,E0,.bool false,E0,E0,E0,E0,E0,.slice none 0 0,E0,E0,E0] G65 Gcd ⟨.inl O,.inl O,.inl O,.inl O,.inl O,.inl O,.inl O,.inl O,.inr ⟨_,O,O⟩,.inl O,.inl O,.inl O,G⟩ O O) O (JLh (.agg [I64 1,I64 1,BL true,I64 4,I64 0,I64 0,I64 0,I64 0,E2 ([]:List Int),I64 0,I64 0,I64 0]) (Hb (cs:=[I64 1,I64 1,BL true,I64 4,I64 0,I64 0,I64 0,I64 0,E2 ([]:List Int),I64 0,I64 0,I64 0]) [(0,1),(1,1),(2,1),(3,1),(4,1),(5,1),(6,1),(7,1),(8,1),(9,1),(10,1),(11,1)] [I64 0,I64 0,BL false,I64 0,I64 0,I64 0,I64 0,I64 0,E2 ([]:List Int),I64 0,I64 0,I64 0] [E0,E0,.bool false,E0,E0,E0,E0,E0,.slice none 0 0,E0,E0,E0] G65 Gcd ⟨.inl O,.inl O,.inl O,.inl O,.inl O,.inl O,.inl O,.inl O,.inr ⟨_,O,O⟩,.inl O,.inl O,.inl O,G⟩ O O) O (JLh (E1 ([(G2.mk 0 0 false 2 0 0 0 0 [] 0 0 0),(G2.mk 0 1 false 2 0 0 0 0 [] 0 0 0),(G2.mk 0 0 true 3 0 0 0 0 [] 0 0 0),(G2.mk 0 1 true 3 0 0 0 0 [] 0 0 0),(G2.mk 1 1 true 4 0 0 0 0 [] 0 0 0)])) (H8 (xs:=[.agg [I64 0,I64 0,BL false,I64 2,I64 0,I64 0,I64 0,I64 0,E2 ([]:List Int),I64 0,I64 0,I64 0],.agg [I64 0,I64 1,BL false,I64 2,I64 0,I64 0,I64 0,I64 0,E2 ([]:List Int),I64 0,I64 0,I64 0],.agg [I64 0,I64 0,BL true,I64 3,I64 0,I64 0,I64 0,I64 0,E2 ([]:List Int),I64 0,I64 0,I64 0],.agg [I64 0,I64 1,BL true,I64 3,I64 0,I64 0,I64 0,I64 0,E2 ([]:List Int),I64 0,I64 0,I64 0],.agg [I64 1,I64 1,BL true,I64 4,I64 0,I64 0,I64 0,I64 0,E2 ([]:List Int),I64 0,I64 0,I64 0]]) O ⟨O,O,O,O,O,O,O,O,O,O,G⟩ Ht G32 O O O O) O (JLh (E2 [0,1]) (H8 (xs:=[I64 0,I64 1]) O ⟨O,O,O,O,G⟩ Gy R5 O O O O) O (JLh (.agg [I64 0,E2 [0,1]]) (Hb (cs:=[I64 0,E2 [0,1]]) [(0,1),(1,1)] [I64 0,E2 ([]:List Int)] [E0,.slice none 0 0] H9f J09 ⟨.inl O,.inr ⟨_,O,O⟩,G⟩ O O) O (JLh (E6 ([(G8.mk 0 [0,1])])) (H8 (xs:=[.agg [I64 0,E2 [0,1]]]) O ⟨O,O,G⟩ Ji Gea O O O O) O (JLh (.agg [E1 ([(G2.mk 0 0 false 2 0 0 0 0 [] 0 0 0),(G2.mk 0 1 false 2 0 0 0 0 [] 0 0 0),(G2.mk 0 0 true 3 0 0 0 0 [] 0 0 0),(G2.mk 0 1 true 3 0 0 0 0 [] 0 0 0),(G2.mk 1 1 true 4 0 0 0 0 [] 0 0 0)]),E6 ([(G8.mk 0 [0,1])]),I64 0,I64 0,I64 0,I64 0,E3 ([]:List Row),E4 ([]:List Frame),E5 ([]:List Gp),I64 0,I64 0,I64 0,I64 0]) (Hb (cs:=[E1 ([(G2.mk 0 0 false 2 0 0 0 0 [] 0 0 0),(G2.mk 0 1 false 2 0 0 0 0 [] 0 0 0),(G2.mk 0 0 true 3 0 0 0 0 [] 0 0 0),(G2.mk 0 1 true 3 0 0 0 0 [] 0 0 0),(G2.mk 1 1 true 4 0 0 0 0 [] 0 0 0)]),E6 ([(G8.mk 0 [0,1])]),I64 0,I64 0,I64 0,I64 0,E3 ([]:List Row),E4 ([]:List Frame),E5 ([]:List Gp),I64 0,I64 0,I64 0,I64 0]) [(0,1),(1,1),(2,4),(6,1),(7,1),(8,1),(9,4)] Kf [.slice none 0 0,.slice none 0 0,E0,E0,E0,E0,.slice none 0 0,.slice none 0 0,.slice none 0 0,E0,E0,E0,E0] Hc7 G62 ⟨.inr ⟨_,O,O⟩,.inr ⟨_,O,O⟩,.inl O,.inl O,.inl O,.inl O,.inr ⟨_,O,O⟩,.inr ⟨_,O,O⟩,.inr ⟨_,O,O⟩,.inl O,.inl O,.inl O,.inl O,G⟩ O O) O (Hn (u:=.junk) (Hc (u:=.agg [E1 ([(G2.mk 0 0 false 2 0 0 0 0 [] 0 0 0),(G2.mk 0 1 false 2 0 0 0 0 [] 0 0 0),(G2.mk 0 0 true 3 0 0 0 0 [] 0 0 0),(G2.mk 0 1 true 3 0 0 0 0 [] 0 0 0),(G2.mk 1 1 true 4 0 0 0 0 [] 0 0 0)]),E6 ([(G8.mk 0 [0,1])]),I64 0,I64 0,I64 0,I64 0,E3 ([]:List Row),E4 ([]:List Frame),E5 ([]:List Gp),I64 0,I64 0,I64 0,I64 0]) (ds:=[E1 ([(G2.mk 0 0 false 2 0 0 0 0 [] 0 0 0),(G2.mk 0 1 false 2 0 0 0 0 [] 0 0 0),(G2.mk 0 0 true 3 0 0 0 0 [] 0 0 0),(G2.mk 0 1 true 3 0 0 0 0 [] 0 0 0),(G2.mk 1 1 true 4 0 0 0 0 [] 0 0 0)]),E6 ([(G8.mk 0 [0,1])]),I64 0,I64 0,I64 0,I64 0,E3 ([]:List Row),E4 ([]:List Frame),E5 ([]:List Gp),I64 0,I64 0,I64 0,I64 0]) Zr O O O O O O O O) (G5 (hK2 ?_)))))))))))))
 refine Gq (⟨[.agg [E1 ([(G2.mk 0 0 false 2 0 0 0 0 [] 0 0 0),(G2.mk 0 1 false 2 0 0 0 0 [] 0 0 0),(G2.mk 0 0 true 3 0 0 0 0 [] 0 0 0),(G2.mk 0 1 true 3 0 0 0 0 [] 0 0 0),(G2.mk 1 1 true 4 0 0 0 0 [] 0 0 0)]),E6 ([(G8.mk 0 [0,1])]),I64 0,I64 0,I64 0,I64 0,E3 ([]:List Row),E4 ([]:List Frame),E5 ([]:List Gp),I64 0,I64 0,I64 0,I64 0]],[],G,O,⟨⟨_,⟨_,_,_,_,O,O,O,.inl ⟨Hq,O⟩⟩,.conv (.same O)⟩,G⟩,O,congrArg (fun r:Gk=>(.agg (Gk.cs r):AV)) (Option.some.inj h)⟩)

def Q5 (column:Int) (tier:Int):Option Slot:=
 some (Slot.mk column tier 0)
theorem Q8 (column:Int) (tier:Int) (r:Slot) (h:Q5 column tier=some r):Pure En 28 [I64 column,I64 tier] (·=.agg [I64 r.G2,I64 r.Tier,U8 r.Half]):=by
 unfold Q5 at h
 refine Gz [.cell 4 43] Tryz.func28 O O (Jr fun hK1=>(JLh (.ptr 1055 0) (G5d 1055 [I64 0,I64 0,U8 0] [E0,E0,.int .u8 0] Gce ⟨.inl O,.inl O,.inl O,G⟩ O O) O (G5 (hK1 (Jr fun hK2=>(JLm (I64 column) O (JLm (I64 tier) O (JLh (.agg [I64 column,I64 tier,U8 0]) (Hb (cs:=[I64 column,I64 tier,U8 0]) [(0,1),(1,1),(2,1)] [I64 0,I64 0,U8 0] [E0,E0,.int .u8 0] Ga8 Gce ⟨.inl O,.inl O,.inl O,G⟩ O O) O (Hn (u:=.junk) (Hc (u:=.agg [I64 column,I64 tier,U8 0]) (ds:=[I64 column,I64 tier,U8 0]) Zq O O O O O O O O) (G5 (hK2 (Gq ?_))))))))))))
 exact⟨[.agg [I64 column,I64 tier,U8 0]],[],G,O,⟨⟨_,⟨_,_,_,_,O,O,O,.inl ⟨Hu,O⟩⟩,.conv (.same O)⟩,G⟩,O,congrArg (fun r:Slot=>(.agg [I64 r.G2,I64 r.Tier,U8 r.Half]:AV)) (Option.some.inj h)⟩

def G47 :Option (Gk×(List Box)×(List Stowed)):=
 bnd (G48) fun r3=>
 bnd (Q5 0 0) fun r4=>
 bnd (Q5 3 0) fun r5=>
 some (r3,[(Box.mk 1 ByteArray.empty 40 false 0 0 0 0 false),(Box.mk 2 ByteArray.empty 40 false 0 0 0 0 false),(Box.mk 3 ByteArray.empty 40 false 0 0 0 0 false)],[(Stowed.mk 1 r4),(Stowed.mk 2 r5)])
theorem H79  (r:Gk×(List Box)×(List Stowed)) (h:G47 =some r):Pure En 27 [] (·=.tup [.agg (Gk.cs r.1),E8 r.2.1,E7 r.2.2]):=by
 unfold G47 at h
 refine Gz [.cell 0 36,.tmp 1,.tmp 2] Tryz.func27 O O (Jr fun hK1=>(JLh (.ptr 1054 0) (G5d 1054 [E1 ([]:List G2),E6 ([]:List G8),I64 0,I64 0,I64 0,I64 0,E3 ([]:List Row),E4 ([]:List Frame),E5 ([]:List Gp),I64 0,I64 0,I64 0,I64 0] [.slice none 0 0,.slice none 0 0,E0,E0,E0,E0,.slice none 0 0,.slice none 0 0,.slice none 0 0,E0,E0,E0,E0] G62 ⟨.inr ⟨_,O,O⟩,.inr ⟨_,O,O⟩,.inl O,.inl O,.inl O,.inl O,.inr ⟨_,O,O⟩,.inr ⟨_,O,O⟩,.inr ⟨_,O,O⟩,.inl O,.inl O,.inl O,.inl O,G⟩ O O) O (JLh (E8 ([]:List Box)) (Hj 9 O O) O (JLh (E7 ([]:List Stowed)) (Hj 4 O O) O (G5 (hK1 (Jr fun hK2=>?_)))))))
 obtain⟨r3,hr3,h⟩:=Ga h
 refine JLh (.agg (Gk.cs r3)) (Gs O (H7a  r3 hr3) Rbb G) O (JLh (.agg [I64 1,ST ByteArray.empty,U8 40,BL false,I64 0,I64 0,I64 0,U8 0,BL false]) (Hb (cs:=[I64 1,ST ByteArray.empty,U8 40,BL false,I64 0,I64 0,I64 0,U8 0,BL false]) [(0,1),(1,1),(2,1),(3,1),(4,1),(5,1),(6,1),(7,1),(8,1)] [I64 0,ST ByteArray.empty,U8 0,BL false,I64 0,I64 0,I64 0,U8 0,BL false] [E0,.string ByteArray.empty,.int .u8 0,.bool false,E0,E0,E0,.int .u8 0,.bool false] G64 G61 ⟨.inl O,.inl O,.inl O,.inl O,.inl O,.inl O,.inl O,.inl O,.inl O,G⟩ O O) O (JLh (.agg [I64 2,ST ByteArray.empty,U8 40,BL false,I64 0,I64 0,I64 0,U8 0,BL false]) (Hb (cs:=[I64 2,ST ByteArray.empty,U8 40,BL false,I64 0,I64 0,I64 0,U8 0,BL false]) [(0,1),(1,1),(2,1),(3,1),(4,1),(5,1),(6,1),(7,1),(8,1)] [I64 0,ST ByteArray.empty,U8 0,BL false,I64 0,I64 0,I64 0,U8 0,BL false] [E0,.string ByteArray.empty,.int .u8 0,.bool false,E0,E0,E0,.int .u8 0,.bool false] G64 G61 ⟨.inl O,.inl O,.inl O,.inl O,.inl O,.inl O,.inl O,.inl O,.inl O,G⟩ O O) O (JLh (.agg [I64 3,ST ByteArray.empty,U8 40,BL false,I64 0,I64 0,I64 0,U8 0,BL false]) (Hb (cs:=[I64 3,ST ByteArray.empty,U8 40,BL false,I64 0,I64 0,I64 0,U8 0,BL false]) [(0,1),(1,1),(2,1),(3,1),(4,1),(5,1),(6,1),(7,1),(8,1)] [I64 0,ST ByteArray.empty,U8 0,BL false,I64 0,I64 0,I64 0,U8 0,BL false] [E0,.string ByteArray.empty,.int .u8 0,.bool false,E0,E0,E0,.int .u8 0,.bool false] G64 G61 ⟨.inl O,.inl O,.inl O,.inl O,.inl O,.inl O,.inl O,.inl O,.inl O,G⟩ O O) O (JLh (E8 [(Box.mk 1 ByteArray.empty 40 false 0 0 0 0 false),(Box.mk 2 ByteArray.empty 40 false 0 0 0 0 false),(Box.mk 3 ByteArray.empty 40 false 0 0 0 0 false)]) (H8 (xs:=[.agg [I64 1,ST ByteArray.empty,U8 40,BL false,I64 0,I64 0,I64 0,U8 0,BL false],.agg [I64 2,ST ByteArray.empty,U8 40,BL false,I64 0,I64 0,I64 0,U8 0,BL false],.agg [I64 3,ST ByteArray.empty,U8 40,BL false,I64 0,I64 0,I64 0,U8 0,BL false]]) O ⟨O,O,O,O,O,O,G⟩ Y9 Qt O O O O) O ?_))))
 obtain⟨r4,hr4,h⟩:=Ga h
 refine JLh (.agg [I64 r4.G2,I64 r4.Tier,U8 r4.Half]) (Gs O (Q8 0 0 r4 hr4) G22 ⟨O,O,O,O,G⟩) O (JLh (.agg [I64 1,I64 r4.G2,I64 r4.Tier,U8 r4.Half]) (Hb (cs:=[I64 1,I64 r4.G2,I64 r4.Tier,U8 r4.Half]) [(0,1),(1,3)] [I64 0,I64 0,I64 0,U8 0] [E0,E0,E0,.int .u8 0] Rr Z0 ⟨.inl O,.inl O,.inl O,.inl O,G⟩ O O) O ?_)
 obtain⟨r5,hr5,h⟩:=Ga h
 refine JLh (.agg [I64 r5.G2,I64 r5.Tier,U8 r5.Half]) (Gs O (Q8 3 0 r5 hr5) G22 ⟨O,O,O,O,G⟩) O (JLh (.agg [I64 2,I64 r5.G2,I64 r5.Tier,U8 r5.Half]) (Hb (cs:=[I64 2,I64 r5.G2,I64 r5.Tier,U8 r5.Half]) [(0,1),(1,3)] [I64 0,I64 0,I64 0,U8 0] [E0,E0,E0,.int .u8 0] Rr Z0 ⟨.inl O,.inl O,.inl O,.inl O,G⟩ O O) O (JLh (E7 [(Stowed.mk 1 r4),(Stowed.mk 2 r5)]) (H8 (xs:=[.agg [I64 1,I64 r4.G2,I64 r4.Tier,U8 r4.Half],.agg [I64 2,I64 r5.G2,I64 r5.Tier,U8 r5.Half]]) O ⟨O,O,O,O,G⟩ H3 Jw O O O O) O (Hn (u:=.junk) (Hc (u:=.agg (Gk.cs r3)) (ds:=(Gk.cs r3)) Zr O O O O O O O O) (JLm (E8 [(Box.mk 1 ByteArray.empty 40 false 0 0 0 0 false),(Box.mk 2 ByteArray.empty 40 false 0 0 0 0 false),(Box.mk 3 ByteArray.empty 40 false 0 0 0 0 false)]) O (JLm (E7 [(Stowed.mk 1 r4),(Stowed.mk 2 r5)]) O (G5 (hK2 ?_)))))))
 refine Gq (⟨[.agg (Gk.cs r3),E8 [(Box.mk 1 ByteArray.empty 40 false 0 0 0 0 false),(Box.mk 2 ByteArray.empty 40 false 0 0 0 0 false),(Box.mk 3 ByteArray.empty 40 false 0 0 0 0 false)],E7 [(Stowed.mk 1 r4),(Stowed.mk 2 r5)]],[],G,O,⟨⟨_,⟨_,_,_,_,O,O,O,.inl ⟨Hq,O⟩⟩,.conv (.same O)⟩,⟨_,O,.conv (.same O)⟩,⟨_,O,.conv (.same O)⟩,G⟩,O,congrArg (fun r:Gk×(List Box)×(List Stowed)=>(.tup [.agg (Gk.cs r.1),E8 r.2.1,E7 r.2.2]:AV)) (Option.some.inj h)⟩)

def Qu (a:List Int) (b:List Int):Option Bool:=
 bif decide ((a.length:Int)≠(b.length:Int)) then
 (some false)
 else
 (each (fun y24 i24 (s24:Unit) nx24=>
   Yv b (i24:Int) fun y29=>
   bif decide (y24≠y29) then
   (some false)
   else
   (nx24 ()))
  (fun(s24:Unit)=>
   some true) a 0 ())
theorem Zn (a:List Int) (b:List Int) (r:Bool) (h:Qu a b=some r):Pure En 20 [E2 a,E2 b] (·=BL r):=by
 unfold Qu at h
 refine Gz [.tmp 4] Tryz.func20 O O (Jr fun hK1=>(JLm (BL false) O (G5 (hK1 (Js fun hK2=>Jr fun hK3=>(JLm (E2 a) O (JLl Gy O O O fun hm7=>(JLm (E2 b) O (JLl Gy O O O fun hm9=>(JLh (BL (decide ((a.length:Int)≠(b.length:Int)))) (Ge9 O O O) O (G5 (hK3 (JCc O h (fun h hb=>?_) (fun h hb=>?_))))))))))))))
 ·
  refine Jr fun hK4=>(JLm (BL false) O (G5 (hK4 (Gq (fin1 BL h)))))
 ·
  refine Gr (hK2 (Js fun hK5=>Jr fun hK6=>(JLm (I64 0) O (G5 (hK6 (Gw ?_))))))
  obtain⟨b24,kx24,hb24,hkx24,h⟩:=Jx h
  refine Jb (fun i24 (s24:Unit)=>each b24 kx24 (List.drop i24 a) i24 s24=some r) (fun i24 s24=>[(0,E2 a),(1,E2 b),(5,Em i24)]) (fun i24 s24=>[]) (fun i24=>a.length - i24) 0 () h ⟨(.sm O O),G,O⟩ ?_
  clear h
  intro i24 s24 hi24 K24 e24
  refine Js fun hK25=>Jr fun hK26=>(JLm (Em i24) O (JLm (E2 a) O (JLl Gy O O O fun hm13=>(JLh (BL (decide ((i24:Int) < (a.length:Int)))) (Qh O O O) O (G5 (hK26 (Gn O (fun hb=>?_) (fun hb=>?_))))))))
  ·
   have hk24:=Qr hb
   obtain⟨y24,nx24,hy24,hn24,h⟩:=J9 hi24 hk24
   replace h:=G14 hb24 h
   refine Gr (hK25 (Js fun hK27=>Gw (Js fun hK28=>?_)))
   obtain⟨m30,y29,hm30,hy29,h⟩:=Ya h
   refine JC_d0 J0 (by kernel_rfl) (Dq (E2 a) (G6 O O) O (Dq (Em i24) (G6 O O) O (Dq (.dptr [I64 y24]) (He (f:=I64) (xs:=a) (y:=y24) O O O Gy hy24 O) O (Dq (I64 y24) (Gg Gc O O O) O (Dq (E2 b) (G6 O O) O (Dq (Em i24) (G6 O O) O (Dq (.dptr [I64 y29]) (He (f:=I64) (xs:=b) (y:=y29) O O O Gy hy29 hm30) O (Dq (I64 y29) (Gg Gc O O O) O (Dq (BL (decide (y24≠y29))) (Ge9 O O O) O (Dnil (hK28 (JCc O h (fun h hb=>?_) (fun h hb=>?_)))))))))))))
   ·
    refine Jr fun hK31=>(JLm (BL false) O (G5 (hK31 (Gq (fin1 BL h)))))
   ·
    refine Gr (hK27 (G1 (JLm (Em i24) O (JLh (I64 ((i24+1:Nat):Int)) (Jf (J6 hk24 hm13) O O O) O (JLm (I64 ((i24+1:Nat):Int)) O (G5 (e24 _ _ (i24+1) () (app1 hn24 h) (by omega) ⟨(.sm O O),G,rfl⟩)))))))
  ·
   have h:=app1 hkx24 (Ja hi24 (Hs hb))
   refine Je (hK5 (Jr fun hK32=>(JLm (BL true) O (G5 (hK32 (Gq (fin1 BL h)))))))

def Q3 (a:List Stowed) (b:List Stowed):Option Bool:=
 bif decide ((a.length:Int)≠(b.length:Int)) then
 (some false)
 else
 (each (fun y24 i24 (s24:Unit) nx24=>
   Yv b (i24:Int) fun y29=>
   bif (!decide (y24=y29)) then
   (some false)
   else
   (nx24 ()))
  (fun(s24:Unit)=>
   some true) a 0 ())
theorem Rw (a:List Stowed) (b:List Stowed) (r:Bool) (h:Q3 a b=some r):Pure En 9 [E7 a,E7 b] (·=BL r):=by
 unfold Q3 at h
 refine Gz [.tmp 4] Tryz.func9 O O (Jr fun hK1=>(JLm (BL false) O (G5 (hK1 (Js fun hK2=>Jr fun hK3=>(JLm (E7 a) O (JLl H3 O O O fun hm7=>(JLm (E7 b) O (JLl H3 O O O fun hm9=>(JLh (BL (decide ((a.length:Int)≠(b.length:Int)))) (Ge9 O O O) O (G5 (hK3 (JCc O h (fun h hb=>?_) (fun h hb=>?_))))))))))))))
 ·
  refine Jr fun hK4=>(JLm (BL false) O (G5 (hK4 (Gq (fin1 BL h)))))
 ·
  refine Gr (hK2 (Js fun hK5=>Jr fun hK6=>(JLm (I64 0) O (G5 (hK6 (Gw ?_))))))
  obtain⟨b24,kx24,hb24,hkx24,h⟩:=Jx h
  refine Jb (fun i24 (s24:Unit)=>each b24 kx24 (List.drop i24 a) i24 s24=some r) (fun i24 s24=>[(0,E7 a),(1,E7 b),(5,Em i24)]) (fun i24 s24=>[]) (fun i24=>a.length - i24) 0 () h ⟨(.sm O O),G,O⟩ ?_
  clear h
  intro i24 s24 hi24 K24 e24
  refine Js fun hK25=>Jr fun hK26=>(JLm (Em i24) O (JLm (E7 a) O (JLl H3 O O O fun hm13=>(JLh (BL (decide ((i24:Int) < (a.length:Int)))) (Qh O O O) O (G5 (hK26 (Gn O (fun hb=>?_) (fun hb=>?_))))))))
  ·
   have hk24:=Qr hb
   obtain⟨y24,nx24,hy24,hn24,h⟩:=J9 hi24 hk24
   replace h:=G14 hb24 h
   refine Gr (hK25 (Js fun hK27=>Gw (Js fun hK28=>?_)))
   obtain⟨m30,y29,hm30,hy29,h⟩:=Ya h
   refine JC_d0 J0 (by kernel_rfl) (Dq (E7 a) (G6 O O) O (Dq (Em i24) (G6 O O) O (Dq (Eh y24) (He (f:=Stowed.av) (xs:=a) (y:=y24) O O O H3 hy24 O) O (Dq (.agg (Stowed.cs y24)) (Gi R3 O O O) O (Dq (E7 b) (G6 O O) O (Dq (Em i24) (G6 O O) O (Dq (Eh y29) (He (f:=Stowed.av) (xs:=b) (y:=y29) O O O H3 hy29 hm30) O (Dq (.agg (Stowed.cs y29)) (Gi R3 O O O) O (Dq (BL (!decide (y24=y29))) (Ye5 (vs:=[.int .i64 y24.Box,.int .i64 y24.Slot.G2,.int .i64 y24.Slot.Tier,.int .u8 y24.Slot.Half]) (us:=[.int .i64 y29.Box,.int .i64 y29.Slot.G2,.int .i64 y29.Slot.Tier,.int .u8 y29.Slot.Half]) 4 O (Yee y24 y29) Q02 Qe4 O O O) O (Dnil (hK28 (JCc O h (fun h hb=>?_) (fun h hb=>?_)))))))))))))
   ·
    refine Jr fun hK31=>(JLm (BL false) O (G5 (hK31 (Gq (fin1 BL h)))))
   ·
    refine Gr (hK27 (G1 (JLm (Em i24) O (JLh (I64 ((i24+1:Nat):Int)) (Jf (J6 hk24 hm13) O O O) O (JLm (I64 ((i24+1:Nat):Int)) O (G5 (e24 _ _ (i24+1) () (app1 hn24 h) (by omega) ⟨(.sm O O),G,rfl⟩)))))))
  ·
   have h:=app1 hkx24 (Ja hi24 (Hs hb))
   refine Je (hK5 (Jr fun hK32=>(JLm (BL true) O (G5 (hK32 (Gq (fin1 BL h)))))))

def Ym :Option Bool:=
 bnd (G47) fun r3=>
 bnd (Ge5 r3.1 r3.2.1 r3.2.2 [3]) fun r5=>
 bif ((decide (r5.2≠0))||false) then
 (some false)
 else
 (bnd (Q5 0 0) fun r11=>
  bnd (Q5 3 0) fun r12=>
  bnd (Q5 0 0) fun r13=>
  bnd (Q5 0 1) fun r14=>
  bnd (Q5 0 0) fun r15=>
  bnd (Q5 3 0) fun r16=>
  bnd (Q5 3 0) fun r17=>
  each (fun y50 i50 (s50:Gb) nx50=>
   bnd (Zf s50 y50.x) fun r56=>
   bif decide (r56.1≠y50.e) then
   (some false)
   else
   (nx50 r56.2))
  (fun(s50:Gb)=>
   bnd (G0c s50) fun r59=>
   bnd (bif decide (r59=4) then Qp s50 else some default) fun r60=>
   bnd (bif decide (r59=4) then Qu r60 [1] else some default) fun r61=>
   bnd (bif ((decide (r59=4))&&r61) then Rx s50 else some default) fun r62=>
   bnd (bif (((decide (r59=4))&&r61)&&(decide ((r62.length:Int)=0))) then R0 s50 else some default) fun r63=>
   bnd (bif (((decide (r59=4))&&r61)&&(decide ((r62.length:Int)=0))) then Q5 3 0 else some default) fun r64=>
   bnd (bif (((decide (r59=4))&&r61)&&(decide ((r62.length:Int)=0))) then Q5 0 0 else some default) fun r65=>
   bnd (bif (((decide (r59=4))&&r61)&&(decide ((r62.length:Int)=0))) then Q3 r63 [(Stowed.mk 2 r64),(Stowed.mk 3 r65)] else some default) fun r66=>
   some ((((decide (r59=4))&&r61)&&(decide ((r62.length:Int)=0)))&&r66)) [(H9.mk (Move.mk 2 1 r11 0) 315),(H9.mk (Move.mk 1 0 (Slot.mk 0 0 0) 0) 312),(H9.mk (Move.mk 2 2 r12 0) 0),(H9.mk (Move.mk 1 0 (Slot.mk 0 0 0) 0) 0),(H9.mk (Move.mk 2 1 r13 0) 0),(H9.mk (Move.mk 3 3 r14 0) 318),(H9.mk (Move.mk 3 3 r15 0) 0),(H9.mk (Move.mk 3 2 r16 0) 315),(H9.mk (Move.mk 4 0 (Slot.mk 0 0 0) 0) 0),(H9.mk (Move.mk 3 2 r17 0) 0)] 0 r5.1)
abbrev Kg (s50:Gb):List AV:=[E1 s50.ship.Columns,E6 s50.ship.Covers,I64 s50.ship.Light.Kilos,I64 s50.ship.Light.X,I64 s50.ship.Light.Y,I64 s50.ship.Light.Z,E3 s50.ship.Rows,E4 s50.ship.Frames,E5 s50.ship.Tanks,I64 s50.ship.G4.Tolerance,I64 s50.ship.G4.Trim,I64 s50.ship.G4.List_,I64 s50.ship.G4.Stability,.mp 1197,.mp 1198,.mp 1199,I64 s50.lifts]
abbrev Kh:List AV:=[U8 0,I64 0,I64 0,I64 0,U8 0,I64 0,I64 0]
abbrev Ki:List AV:=[U8 1,I64 0,I64 0,I64 0,U8 0,I64 0,I64 312]
abbrev Kj:List AV:=[U8 1,I64 0,I64 0,I64 0,U8 0,I64 0,I64 0]
abbrev Kk:List AV:=[U8 4,I64 0,I64 0,I64 0,U8 0,I64 0,I64 0]
theorem G46  (r:Bool) (h:Ym =some r):Pure En 6 [] (·=BL r):=by
 unfold Ym at h
 refine Gz [.tmp 0] Tryz.func6 O O (Jr fun hK1=>(JLm (BL false) O (G5 (hK1 (Jr fun hK2=>?_)))))
 obtain⟨r3,hr3,h⟩:=Ga h
 refine JLh (.tup [.agg (Gk.cs r3.1),E8 r3.2.1,E7 r3.2.2]) (Gs O (H79  r3 hr3) Rcd G) O (JLm (.tup [.agg (Gk.cs r3.1),E8 r3.2.1,E7 r3.2.2]) O (JLh (.agg (Gk.cs r3.1)) (H0 O O O) O (JLh (E8 r3.2.1) (H0 O O O) O (JLh (E7 r3.2.2) (H0 O O O) O (JLh (.ptr 1013 0) (Ho 1013 13 Gd7 O O) O (Hn (u:=.junk) (Hc (u:=.agg (Gk.cs r3.1)) (ds:=(Gk.cs r3.1)) Zr O O O O O O O O) (JLm (E8 r3.2.1) O (JLm (E7 r3.2.2) O (G5 (hK2 ?_))))))))))
 refine Gm [(1,Ef r3.1),(2,E8 r3.2.1),(3,E7 r3.2.2)] [] 1013 rfl rfl rfl G rfl (by exact⟨.ptr,.conv (.same rfl),.conv (.same rfl),G⟩) (Jr fun hK4=>(JLh (.agg (Gk.cs r3.1)) (Gi Hq O O O) O (JLm (E8 r3.2.1) O (JLm (E7 r3.2.2) O (JLh (E2 [3]) (H8 (xs:=[I64 3]) O ⟨O,O,G⟩ Gy R5 O O O O) O ?_)))))
 obtain⟨r5,hr5,h⟩:=Ga h
 refine JLh (.tup [.ptr 1196 0,I64 r5.2]) (Rt (args:=[.agg (Gk.cs r3.1),E8 r3.2.1,E7 r3.2.2,E2 [3]]) (L0:=[]) (Lr:=[(1196,.box 97 [E1 r5.1.ship.Columns,E6 r5.1.ship.Covers,I64 r5.1.ship.Light.Kilos,I64 r5.1.ship.Light.X,I64 r5.1.ship.Light.Y,I64 r5.1.ship.Light.Z,E3 r5.1.ship.Rows,E4 r5.1.ship.Frames,E5 r5.1.ship.Tanks,I64 r5.1.ship.G4.Tolerance,I64 r5.1.ship.G4.Trim,I64 r5.1.ship.G4.List_,I64 r5.1.ship.G4.Stability,.mp 1197,.mp 1198,.mp 1199,I64 r5.1.lifts]),(1197,TP 93 Slot.kv Box.av r5.1.on),(1198,TP 94 (fun n:Int=>Value.int .i64 n) Box.av r5.1.quay),(1199,TP 95 (fun n:Int=>Value.int .i64 n) I64 r5.1.open_)]) O (Ha8 r3.1 r3.2.1 r3.2.2 [3] r5 hr5) Hd0 ⟨.inl O,O,.inl O,O,.inl O,O,.inl O,O,G⟩ G O O O) O (JLm (.tup [.ptr 1196 0,I64 r5.2]) O (JLh (.ptr 1196 0) (H0 O O O) O (JLh (I64 r5.2) (H0 O O O) O (JLm (.ptr 1196 0) O (JLm (I64 r5.2) O (G5 (hK4 ?_)))))))
 refine Js fun hK6=>Jr fun hK7=>(JLm (I64 r5.2) O (JLh (BL (decide (r5.2≠0))) (Ge9 O O O) O (JLm (BL (decide (r5.2≠0))) O (JLo (.ptr 1196 0) [] O .scf G (fun hc=>G6 O O) O (JLo (BL false) [24] O .scf ⟨Ua,G⟩ (fun hc=>Jc3 H57 O O) O (JLh (BL ((decide (r5.2≠0))||false)) (G27 O O O O) O (G5 (hK7 (JCc O h (fun h hb=>?_) (fun h hb=>?_))))))))))
 ·
  refine Jr fun hK8=>(JLm (BL false) O (G5 (hK8 (Gq (fin1 BL h)))))
 ·
  refine Gr (hK6 (Js fun hK9=>Jr fun hK10=>?_))
  obtain⟨r11,hr11,h⟩:=Ga h
  refine JLh (.agg (Slot.cs r11)) (Gs O (Q8 0 0 r11 hr11) G22 ⟨O,O,O,O,G⟩) O (JLh (.agg [U8 2,I64 1,I64 r11.G2,I64 r11.Tier,U8 r11.Half,I64 0]) (Hb (cs:=[U8 2,I64 1,I64 r11.G2,I64 r11.Tier,U8 r11.Half,I64 0]) [(0,1),(1,1),(2,3),(5,1)] [U8 0,I64 0,I64 0,I64 0,U8 0,I64 0] [.int .u8 0,E0,E0,E0,.int .u8 0,E0] Qn R6 ⟨.inl O,.inl O,.inl O,.inl O,.inl O,.inl O,G⟩ O O) O (JLh (.agg [U8 2,I64 1,I64 r11.G2,I64 r11.Tier,U8 r11.Half,I64 0,I64 315]) (Hb (cs:=[U8 2,I64 1,I64 r11.G2,I64 r11.Tier,U8 r11.Half,I64 0,I64 315]) [(0,6),(6,1)] Kh [.int .u8 0,E0,E0,E0,.int .u8 0,E0,E0] Zu G45 ⟨.inl O,.inl O,.inl O,.inl O,.inl O,.inl O,.inl O,G⟩ O O) O (JLh (.agg [U8 1,I64 0,I64 0,I64 0,U8 0,I64 0]) (Hb (cs:=[U8 1,I64 0,I64 0,I64 0,U8 0,I64 0]) [(0,1),(1,1),(2,3),(5,1)] [U8 0,I64 0,I64 0,I64 0,U8 0,I64 0] [.int .u8 0,E0,E0,E0,.int .u8 0,E0] Qn R6 ⟨.inl O,.inl O,.inl O,.inl O,.inl O,.inl O,G⟩ O O) O (JLh (.agg Ki) (Hb (cs:=Ki) [(0,6),(6,1)] Kh [.int .u8 0,E0,E0,E0,.int .u8 0,E0,E0] Zu G45 ⟨.inl O,.inl O,.inl O,.inl O,.inl O,.inl O,.inl O,G⟩ O O) O ?_))))
  obtain⟨r12,hr12,h⟩:=Ga h
  refine JLh (.agg (Slot.cs r12)) (Gs O (Q8 3 0 r12 hr12) G22 ⟨O,O,O,O,G⟩) O (JLh (.agg [U8 2,I64 2,I64 r12.G2,I64 r12.Tier,U8 r12.Half,I64 0]) (Hb (cs:=[U8 2,I64 2,I64 r12.G2,I64 r12.Tier,U8 r12.Half,I64 0]) [(0,1),(1,1),(2,3),(5,1)] [U8 0,I64 0,I64 0,I64 0,U8 0,I64 0] [.int .u8 0,E0,E0,E0,.int .u8 0,E0] Qn R6 ⟨.inl O,.inl O,.inl O,.inl O,.inl O,.inl O,G⟩ O O) O (JLh (.agg [U8 2,I64 2,I64 r12.G2,I64 r12.Tier,U8 r12.Half,I64 0,I64 0]) (Hb (cs:=[U8 2,I64 2,I64 r12.G2,I64 r12.Tier,U8 r12.Half,I64 0,I64 0]) [(0,6),(6,1)] Kh [.int .u8 0,E0,E0,E0,.int .u8 0,E0,E0] Zu G45 ⟨.inl O,.inl O,.inl O,.inl O,.inl O,.inl O,.inl O,G⟩ O O) O (JLh (.agg [U8 1,I64 0,I64 0,I64 0,U8 0,I64 0]) (Hb (cs:=[U8 1,I64 0,I64 0,I64 0,U8 0,I64 0]) [(0,1),(1,1),(2,3),(5,1)] [U8 0,I64 0,I64 0,I64 0,U8 0,I64 0] [.int .u8 0,E0,E0,E0,.int .u8 0,E0] Qn R6 ⟨.inl O,.inl O,.inl O,.inl O,.inl O,.inl O,G⟩ O O) O (JLh (.agg Kj) (Hb (cs:=Kj) [(0,6),(6,1)] Kh [.int .u8 0,E0,E0,E0,.int .u8 0,E0,E0] Zu G45 ⟨.inl O,.inl O,.inl O,.inl O,.inl O,.inl O,.inl O,G⟩ O O) O ?_))))
  obtain⟨r13,hr13,h⟩:=Ga h
  refine JLh (.agg (Slot.cs r13)) (Gs O (Q8 0 0 r13 hr13) G22 ⟨O,O,O,O,G⟩) O (JLh (.agg [U8 2,I64 1,I64 r13.G2,I64 r13.Tier,U8 r13.Half,I64 0]) (Hb (cs:=[U8 2,I64 1,I64 r13.G2,I64 r13.Tier,U8 r13.Half,I64 0]) [(0,1),(1,1),(2,3),(5,1)] [U8 0,I64 0,I64 0,I64 0,U8 0,I64 0] [.int .u8 0,E0,E0,E0,.int .u8 0,E0] Qn R6 ⟨.inl O,.inl O,.inl O,.inl O,.inl O,.inl O,G⟩ O O) O (JLh (.agg [U8 2,I64 1,I64 r13.G2,I64 r13.Tier,U8 r13.Half,I64 0,I64 0]) (Hb (cs:=[U8 2,I64 1,I64 r13.G2,I64 r13.Tier,U8 r13.Half,I64 0,I64 0]) [(0,6),(6,1)] Kh [.int .u8 0,E0,E0,E0,.int .u8 0,E0,E0] Zu G45 ⟨.inl O,.inl O,.inl O,.inl O,.inl O,.inl O,.inl O,G⟩ O O) O ?_))
  obtain⟨r14,hr14,h⟩:=Ga h
  refine JLh (.agg (Slot.cs r14)) (Gs O (Q8 0 1 r14 hr14) G22 ⟨O,O,O,O,G⟩) O (JLh (.agg [U8 3,I64 3,I64 r14.G2,I64 r14.Tier,U8 r14.Half,I64 0]) (Hb (cs:=[U8 3,I64 3,I64 r14.G2,I64 r14.Tier,U8 r14.Half,I64 0]) [(0,1),(1,1),(2,3),(5,1)] [U8 0,I64 0,I64 0,I64 0,U8 0,I64 0] [.int .u8 0,E0,E0,E0,.int .u8 0,E0] Qn R6 ⟨.inl O,.inl O,.inl O,.inl O,.inl O,.inl O,G⟩ O O) O (JLh (.agg [U8 3,I64 3,I64 r14.G2,I64 r14.Tier,U8 r14.Half,I64 0,I64 318]) (Hb (cs:=[U8 3,I64 3,I64 r14.G2,I64 r14.Tier,U8 r14.Half,I64 0,I64 318]) [(0,6),(6,1)] Kh [.int .u8 0,E0,E0,E0,.int .u8 0,E0,E0] Zu G45 ⟨.inl O,.inl O,.inl O,.inl O,.inl O,.inl O,.inl O,G⟩ O O) O ?_))
  obtain⟨r15,hr15,h⟩:=Ga h
  refine JLh (.agg (Slot.cs r15)) (Gs O (Q8 0 0 r15 hr15) G22 ⟨O,O,O,O,G⟩) O (JLh (.agg [U8 3,I64 3,I64 r15.G2,I64 r15.Tier,U8 r15.Half,I64 0]) (Hb (cs:=[U8 3,I64 3,I64 r15.G2,I64 r15.Tier,U8 r15.Half,I64 0]) [(0,1),(1,1),(2,3),(5,1)] [U8 0,I64 0,I64 0,I64 0,U8 0,I64 0] [.int .u8 0,E0,E0,E0,.int .u8 0,E0] Qn R6 ⟨.inl O,.inl O,.inl O,.inl O,.inl O,.inl O,G⟩ O O) O (JLh (.agg [U8 3,I64 3,I64 r15.G2,I64 r15.Tier,U8 r15.Half,I64 0,I64 0]) (Hb (cs:=[U8 3,I64 3,I64 r15.G2,I64 r15.Tier,U8 r15.Half,I64 0,I64 0]) [(0,6),(6,1)] Kh [.int .u8 0,E0,E0,E0,.int .u8 0,E0,E0] Zu G45 ⟨.inl O,.inl O,.inl O,.inl O,.inl O,.inl O,.inl O,G⟩ O O) O ?_))
  obtain⟨r16,hr16,h⟩:=Ga h
  refine JLh (.agg (Slot.cs r16)) (Gs O (Q8 3 0 r16 hr16) G22 ⟨O,O,O,O,G⟩) O (JLh (.agg [U8 3,I64 2,I64 r16.G2,I64 r16.Tier,U8 r16.Half,I64 0]) (Hb (cs:=[U8 3,I64 2,I64 r16.G2,I64 r16.Tier,U8 r16.Half,I64 0]) [(0,1),(1,1),(2,3),(5,1)] [U8 0,I64 0,I64 0,I64 0,U8 0,I64 0] [.int .u8 0,E0,E0,E0,.int .u8 0,E0] Qn R6 ⟨.inl O,.inl O,.inl O,.inl O,.inl O,.inl O,G⟩ O O) O (JLh (.agg [U8 3,I64 2,I64 r16.G2,I64 r16.Tier,U8 r16.Half,I64 0,I64 315]) (Hb (cs:=[U8 3,I64 2,I64 r16.G2,I64 r16.Tier,U8 r16.Half,I64 0,I64 315]) [(0,6),(6,1)] Kh [.int .u8 0,E0,E0,E0,.int .u8 0,E0,E0] Zu G45 ⟨.inl O,.inl O,.inl O,.inl O,.inl O,.inl O,.inl O,G⟩ O O) O (JLh (.agg [U8 4,I64 0,I64 0,I64 0,U8 0,I64 0]) (Hb (cs:=[U8 4,I64 0,I64 0,I64 0,U8 0,I64 0]) [(0,1),(1,1),(2,3),(5,1)] [U8 0,I64 0,I64 0,I64 0,U8 0,I64 0] [.int .u8 0,E0,E0,E0,.int .u8 0,E0] Qn R6 ⟨.inl O,.inl O,.inl O,.inl O,.inl O,.inl O,G⟩ O O) O (JLh (.agg Kk) (Hb (cs:=Kk) [(0,6),(6,1)] Kh [.int .u8 0,E0,E0,E0,.int .u8 0,E0,E0] Zu G45 ⟨.inl O,.inl O,.inl O,.inl O,.inl O,.inl O,.inl O,G⟩ O O) O ?_))))
  obtain⟨r17,hr17,h⟩:=Ga h
  refine JLh (.agg (Slot.cs r17)) (Gs O (Q8 3 0 r17 hr17) G22 ⟨O,O,O,O,G⟩) O (JLh (.agg [U8 3,I64 2,I64 r17.G2,I64 r17.Tier,U8 r17.Half,I64 0]) (Hb (cs:=[U8 3,I64 2,I64 r17.G2,I64 r17.Tier,U8 r17.Half,I64 0]) [(0,1),(1,1),(2,3),(5,1)] [U8 0,I64 0,I64 0,I64 0,U8 0,I64 0] [.int .u8 0,E0,E0,E0,.int .u8 0,E0] Qn R6 ⟨.inl O,.inl O,.inl O,.inl O,.inl O,.inl O,G⟩ O O) O (JLh (.agg [U8 3,I64 2,I64 r17.G2,I64 r17.Tier,U8 r17.Half,I64 0,I64 0]) (Hb (cs:=[U8 3,I64 2,I64 r17.G2,I64 r17.Tier,U8 r17.Half,I64 0,I64 0]) [(0,6),(6,1)] Kh [.int .u8 0,E0,E0,E0,.int .u8 0,E0,E0] Zu G45 ⟨.inl O,.inl O,.inl O,.inl O,.inl O,.inl O,.inl O,G⟩ O O) O (JLh (LS 7 H9.av [(H9.mk (Move.mk 2 1 r11 0) 315),(H9.mk (Move.mk 1 0 (Slot.mk 0 0 0) 0) 312),(H9.mk (Move.mk 2 2 r12 0) 0),(H9.mk (Move.mk 1 0 (Slot.mk 0 0 0) 0) 0),(H9.mk (Move.mk 2 1 r13 0) 0),(H9.mk (Move.mk 3 3 r14 0) 318),(H9.mk (Move.mk 3 3 r15 0) 0),(H9.mk (Move.mk 3 2 r16 0) 315),(H9.mk (Move.mk 4 0 (Slot.mk 0 0 0) 0) 0),(H9.mk (Move.mk 3 2 r17 0) 0)]) (H8 (xs:=[.agg [U8 2,I64 1,I64 r11.G2,I64 r11.Tier,U8 r11.Half,I64 0,I64 315],.agg Ki,.agg [U8 2,I64 2,I64 r12.G2,I64 r12.Tier,U8 r12.Half,I64 0,I64 0],.agg Kj,.agg [U8 2,I64 1,I64 r13.G2,I64 r13.Tier,U8 r13.Half,I64 0,I64 0],.agg [U8 3,I64 3,I64 r14.G2,I64 r14.Tier,U8 r14.Half,I64 0,I64 318],.agg [U8 3,I64 3,I64 r15.G2,I64 r15.Tier,U8 r15.Half,I64 0,I64 0],.agg [U8 3,I64 2,I64 r16.G2,I64 r16.Tier,U8 r16.Half,I64 0,I64 315],.agg Kk,.agg [U8 3,I64 2,I64 r17.G2,I64 r17.Tier,U8 r17.Half,I64 0,I64 0]]) O ⟨O,O,O,O,O,O,O,O,O,O,O,O,O,O,O,O,O,O,O,O,G⟩ J0a Jef O O O O) O (JLl J0a O O O fun hm55=>(JLm (I64 0) O (G5 (hK10 ?_)))))))
  refine Gw ?_
  obtain⟨b50,kx50,hb50,hkx50,h⟩:=Jx h
  refine Jb (fun i50 (s50:Gb)=>each b50 kx50 (List.drop i50 [(H9.mk (Move.mk 2 1 r11 0) 315),(H9.mk (Move.mk 1 0 (Slot.mk 0 0 0) 0) 312),(H9.mk (Move.mk 2 2 r12 0) 0),(H9.mk (Move.mk 1 0 (Slot.mk 0 0 0) 0) 0),(H9.mk (Move.mk 2 1 r13 0) 0),(H9.mk (Move.mk 3 3 r14 0) 318),(H9.mk (Move.mk 3 3 r15 0) 0),(H9.mk (Move.mk 3 2 r16 0) 315),(H9.mk (Move.mk 4 0 (Slot.mk 0 0 0) 0) 0),(H9.mk (Move.mk 3 2 r17 0) 0)]) i50 s50=some r) (fun i50 s50=>[(4,.ptr 1196 0),(54,LS 7 H9.av [(H9.mk (Move.mk 2 1 r11 0) 315),(H9.mk (Move.mk 1 0 (Slot.mk 0 0 0) 0) 312),(H9.mk (Move.mk 2 2 r12 0) 0),(H9.mk (Move.mk 1 0 (Slot.mk 0 0 0) 0) 0),(H9.mk (Move.mk 2 1 r13 0) 0),(H9.mk (Move.mk 3 3 r14 0) 318),(H9.mk (Move.mk 3 3 r15 0) 0),(H9.mk (Move.mk 3 2 r16 0) 315),(H9.mk (Move.mk 4 0 (Slot.mk 0 0 0) 0) 0),(H9.mk (Move.mk 3 2 r17 0) 0)]),(55,I64 ([(H9.mk (Move.mk 2 1 r11 0) 315),(H9.mk (Move.mk 1 0 (Slot.mk 0 0 0) 0) 312),(H9.mk (Move.mk 2 2 r12 0) 0),(H9.mk (Move.mk 1 0 (Slot.mk 0 0 0) 0) 0),(H9.mk (Move.mk 2 1 r13 0) 0),(H9.mk (Move.mk 3 3 r14 0) 318),(H9.mk (Move.mk 3 3 r15 0) 0),(H9.mk (Move.mk 3 2 r16 0) 315),(H9.mk (Move.mk 4 0 (Slot.mk 0 0 0) 0) 0),(H9.mk (Move.mk 3 2 r17 0) 0)].length:Int)),(56,Em i50)]) (fun i50 s50=>[(1196,.box 97 (Kg s50)),(1197,TP 93 Slot.kv Box.av s50.on),(1198,TP 94 (fun n:Int=>Value.int .i64 n) Box.av s50.quay),(1199,TP 95 (fun n:Int=>Value.int .i64 n) I64 s50.open_)]) (fun i50=>[(H9.mk (Move.mk 2 1 r11 0) 315),(H9.mk (Move.mk 1 0 (Slot.mk 0 0 0) 0) 312),(H9.mk (Move.mk 2 2 r12 0) 0),(H9.mk (Move.mk 1 0 (Slot.mk 0 0 0) 0) 0),(H9.mk (Move.mk 2 1 r13 0) 0),(H9.mk (Move.mk 3 3 r14 0) 318),(H9.mk (Move.mk 3 3 r15 0) 0),(H9.mk (Move.mk 3 2 r16 0) 315),(H9.mk (Move.mk 4 0 (Slot.mk 0 0 0) 0) 0),(H9.mk (Move.mk 3 2 r17 0) 0)].length - i50) 0 r5.1 h ⟨(.sm O O),⟨⟨_,rfl,.boxL rfl (.sm O O)⟩,⟨_,rfl,.map⟩,⟨_,rfl,.map⟩,⟨_,rfl,.map⟩,G⟩,rfl⟩ ?_
  clear h
  intro i50 s50 hi50 K50 e50
  refine Jr fun hK51=>(JLh (BL (decide ((i50:Int) < ([(H9.mk (Move.mk 2 1 r11 0) 315),(H9.mk (Move.mk 1 0 (Slot.mk 0 0 0) 0) 312),(H9.mk (Move.mk 2 2 r12 0) 0),(H9.mk (Move.mk 1 0 (Slot.mk 0 0 0) 0) 0),(H9.mk (Move.mk 2 1 r13 0) 0),(H9.mk (Move.mk 3 3 r14 0) 318),(H9.mk (Move.mk 3 3 r15 0) 0),(H9.mk (Move.mk 3 2 r16 0) 315),(H9.mk (Move.mk 4 0 (Slot.mk 0 0 0) 0) 0),(H9.mk (Move.mk 3 2 r17 0) 0)].length:Int)))) (Qh O O O) O (G5 (hK51 (Js fun hK52=>Gn O (fun hb=>?_) (fun hb=>?_)))))
  ·
   have hk50:=Qr hb
   obtain⟨y50,nx50,hy50,hn50,h⟩:=J9 hi50 hk50
   replace h:=G14 hb50 h
   refine Gr (hK52 (Js fun hK53=>Gw ?_))
   refine Jr fun hK54=>(JLh (.dptr (H9.cs y50)) (He (f:=H9.av) (xs:=[(H9.mk (Move.mk 2 1 r11 0) 315),(H9.mk (Move.mk 1 0 (Slot.mk 0 0 0) 0) 312),(H9.mk (Move.mk 2 2 r12 0) 0),(H9.mk (Move.mk 1 0 (Slot.mk 0 0 0) 0) 0),(H9.mk (Move.mk 2 1 r13 0) 0),(H9.mk (Move.mk 3 3 r14 0) 318),(H9.mk (Move.mk 3 3 r15 0) 0),(H9.mk (Move.mk 3 2 r16 0) 315),(H9.mk (Move.mk 4 0 (Slot.mk 0 0 0) 0) 0),(H9.mk (Move.mk 3 2 r17 0) 0)]) (y:=y50) O O O J0a hy50 O) O (JLh (.agg (H9.cs y50)) (Gi Y3b O O O) O (JLh (.ptr 1014 0) (Ho 1014 7 Jef O O) O (Hn (u:=.junk) (Hc (u:=.agg (H9.cs y50)) (ds:=(H9.cs y50)) Ra8 O O O O O O O O) (G5 (hK54 ?_))))))
   refine Gm [(4,.ptr 1196 0),(7,.dptr (H9.cs y50)),(54,LS 7 H9.av [(H9.mk (Move.mk 2 1 r11 0) 315),(H9.mk (Move.mk 1 0 (Slot.mk 0 0 0) 0) 312),(H9.mk (Move.mk 2 2 r12 0) 0),(H9.mk (Move.mk 1 0 (Slot.mk 0 0 0) 0) 0),(H9.mk (Move.mk 2 1 r13 0) 0),(H9.mk (Move.mk 3 3 r14 0) 318),(H9.mk (Move.mk 3 3 r15 0) 0),(H9.mk (Move.mk 3 2 r16 0) 315),(H9.mk (Move.mk 4 0 (Slot.mk 0 0 0) 0) 0),(H9.mk (Move.mk 3 2 r17 0) 0)]),(55,I64 ([(H9.mk (Move.mk 2 1 r11 0) 315),(H9.mk (Move.mk 1 0 (Slot.mk 0 0 0) 0) 312),(H9.mk (Move.mk 2 2 r12 0) 0),(H9.mk (Move.mk 1 0 (Slot.mk 0 0 0) 0) 0),(H9.mk (Move.mk 2 1 r13 0) 0),(H9.mk (Move.mk 3 3 r14 0) 318),(H9.mk (Move.mk 3 3 r15 0) 0),(H9.mk (Move.mk 3 2 r16 0) 315),(H9.mk (Move.mk 4 0 (Slot.mk 0 0 0) 0) 0),(H9.mk (Move.mk 3 2 r17 0) 0)].length:Int)),(56,Em i50)] [(1196,.box 97 (Kg s50)),(1197,TP 93 Slot.kv Box.av s50.on),(1198,TP 94 (fun n:Int=>Value.int .i64 n) Box.av s50.quay),(1199,TP 95 (fun n:Int=>Value.int .i64 n) I64 s50.open_)] 1014 rfl rfl rfl ⟨⟨_,rfl,.boxEq rfl rfl⟩,⟨_,rfl,.map⟩,⟨_,rfl,.map⟩,⟨_,rfl,.map⟩,G⟩ rfl (by repeat' (first | exact .ptr | constructor)) ?_
   refine Js fun hK55=>?_
   refine Qd (l':=[(4,.ptr 1196 0),(7,.dptr (H9.cs y50)),(54,LS 7 H9.av [(H9.mk (Move.mk 2 1 r11 0) 315),(H9.mk (Move.mk 1 0 (Slot.mk 0 0 0) 0) 312),(H9.mk (Move.mk 2 2 r12 0) 0),(H9.mk (Move.mk 1 0 (Slot.mk 0 0 0) 0) 0),(H9.mk (Move.mk 2 1 r13 0) 0),(H9.mk (Move.mk 3 3 r14 0) 318),(H9.mk (Move.mk 3 3 r15 0) 0),(H9.mk (Move.mk 3 2 r16 0) 315),(H9.mk (Move.mk 4 0 (Slot.mk 0 0 0) 0) 0),(H9.mk (Move.mk 3 2 r17 0) 0)]),(55,I64 ([(H9.mk (Move.mk 2 1 r11 0) 315),(H9.mk (Move.mk 1 0 (Slot.mk 0 0 0) 0) 312),(H9.mk (Move.mk 2 2 r12 0) 0),(H9.mk (Move.mk 1 0 (Slot.mk 0 0 0) 0) 0),(H9.mk (Move.mk 2 1 r13 0) 0),(H9.mk (Move.mk 3 3 r14 0) 318),(H9.mk (Move.mk 3 3 r15 0) 0),(H9.mk (Move.mk 3 2 r16 0) 315),(H9.mk (Move.mk 4 0 (Slot.mk 0 0 0) 0) 0),(H9.mk (Move.mk 3 2 r17 0) 0)].length:Int)),(56,Em i50)]) (L':=[(1196,.box 97 (Kg s50)),(1197,TP 93 Slot.kv Box.av s50.on),(1198,TP 94 (fun n:Int=>Value.int .i64 n) Box.av s50.quay),(1199,TP 95 (fun n:Int=>Value.int .i64 n) I64 s50.open_)]) ⟨(.sm O O),⟨⟨_,rfl,.boxL rfl (.sm O O)⟩,⟨_,rfl,.map⟩,⟨_,rfl,.map⟩,⟨_,rfl,.map⟩,G⟩,rfl⟩ ?_
   obtain⟨r56,hr56,h⟩:=Ga h
   refine J4 [3] [0,0,0,0,0,0,1] [0,0,0,0,1,1,1] [[(1196,.box 97 (Kg s50)),(1197,TP 93 Slot.kv Box.av s50.on),(1198,TP 94 (fun n:Int=>Value.int .i64 n) Box.av s50.quay),(1199,TP 95 (fun n:Int=>Value.int .i64 n) I64 s50.open_)],[(1196,.box 97 [E1 r56.2.ship.Columns,E6 r56.2.ship.Covers,I64 r56.2.ship.Light.Kilos,I64 r56.2.ship.Light.X,I64 r56.2.ship.Light.Y,I64 r56.2.ship.Light.Z,E3 r56.2.ship.Rows,E4 r56.2.ship.Frames,E5 r56.2.ship.Tanks,I64 r56.2.ship.G4.Tolerance,I64 r56.2.ship.G4.Trim,I64 r56.2.ship.G4.List_,I64 r56.2.ship.G4.Stability,.mp 1197,.mp 1198,.mp 1199,I64 r56.2.lifts]),(1197,TP 93 Slot.kv Box.av r56.2.on),(1198,TP 94 (fun n:Int=>Value.int .i64 n) Box.av r56.2.quay),(1199,TP 95 (fun n:Int=>Value.int .i64 n) I64 r56.2.open_)]] J0 (by kernel_rfl) rfl rfl ?_
   refine Gd (u:=.ptr 1196 0) O O ⟨Ge (G6 O O) O,G⟩ (Gd (u:=.dptr (H9.cs y50)) O O ⟨Ge (G9 Qcb O O O) O,G⟩ (Gd (u:=.agg (Move.cs y50.x)) O O ⟨Ge (Gi G2e O O O) O,G⟩ (D_w (u:=I64 r56.1) O O O O (Ge (Rt (args:=[.ptr 1196 0,.agg (Move.cs y50.x)]) (L0:=[(1196,.box 97 (Kg s50)),(1197,TP 93 Slot.kv Box.av s50.on),(1198,TP 94 (fun n:Int=>Value.int .i64 n) Box.av s50.quay),(1199,TP 95 (fun n:Int=>Value.int .i64 n) I64 s50.open_)]) (Lr:=[(1196,.box 97 [E1 r56.2.ship.Columns,E6 r56.2.ship.Covers,I64 r56.2.ship.Light.Kilos,I64 r56.2.ship.Light.X,I64 r56.2.ship.Light.Y,I64 r56.2.ship.Light.Z,E3 r56.2.ship.Rows,E4 r56.2.ship.Frames,E5 r56.2.ship.Tanks,I64 r56.2.ship.G4.Tolerance,I64 r56.2.ship.G4.Trim,I64 r56.2.ship.G4.List_,I64 r56.2.ship.G4.Stability,.mp 1197,.mp 1198,.mp 1199,I64 r56.2.lifts]),(1197,TP 93 Slot.kv Box.av r56.2.on),(1198,TP 94 (fun n:Int=>Value.int .i64 n) Box.av r56.2.quay),(1199,TP 95 (fun n:Int=>Value.int .i64 n) I64 r56.2.open_)]) O (G9f s50 y50.x r56 hr56) Hac ⟨.inl O,O,.inl O,O,G⟩ ⟨O,O,O,O,G⟩ O O O) O) (Gd (u:=.dptr [I64 y50.e]) O O ⟨Ge (G9 J51 O O O) O,Ge (G9 J51 O O O) O,G⟩ (Gd (u:=I64 y50.e) O O ⟨Ge (Gg Hc6 O O O) O,Ge (Gg Hc6 O O O) O,G⟩ (Gd (u:=BL (decide (r56.1≠y50.e))) O O ⟨Ge (Ge9 O O O) O,G⟩ (Qw ?_)))))))
   refine hK55 (JCc O h (fun h hb=>?_) (fun h hb=>?_))
   ·
    refine Jr fun hK57=>(JLm (BL false) O (G5 (hK57 (Gq (fin1 BL h)))))
   ·
    refine Gr (hK53 (G1 (JLh (I64 ((i50+1:Nat):Int)) (Jf (J6 hk50 hm55) O O O) O (JLm (I64 ((i50+1:Nat):Int)) O (G5 (e50 _ _ (i50+1) r56.2 (app1 hn50 h) (by omega) ⟨(.sm O O),⟨⟨_,rfl,.boxL rfl (.sm O O)⟩,⟨_,rfl,.map⟩,⟨_,rfl,.map⟩,⟨_,rfl,.map⟩,G⟩,rfl⟩))))))
  ·
   have h:=app1 hkx50 (Ja hi50 (Hs hb))
   refine Je (hK9 (Jr fun hK58=>(JLm (.ptr 1196 0) O ?_)))
   obtain⟨r59,hr59,h⟩:=Ga h
   refine JLh (I64 r59) (Z6 (args:=[.dptr (Gb.cs s50)]) O (G40 s50 r59 hr59) H63 ⟨.ptrL O ⟨.data O O,.data O O,.data O O,.data O O,.data O O,.data O O,.data O O,.data O O,.data O O,.data O O,.data O O,.data O O,.data O O,.mp O,.mp O,.mp O,.data O O,G⟩,G⟩ O) O (JLh (BL (decide (r59=4))) (Q0 O O O) O (JLm (BL (decide (r59=4))) O (JLo (.ptr 1196 0) [] O .sct G (fun hc=>G6 O O) O ?_)))
   obtain⟨r60,hr60,h⟩:=Ga h
   refine JLo (E2 r60) [72] O .sct ⟨Ua,G⟩ (fun hc=>Y7 (args:=[.dptr (Gb.cs s50)]) (g:=I64) (r:=r60) O (G69 s50 r60 (H2 hc hr60)) Gd0 ⟨.ptrL O ⟨.data O O,.data O O,.data O O,.data O O,.data O O,.data O O,.data O O,.data O O,.data O O,.data O O,.data O O,.data O O,.data O O,.mp O,.mp O,.mp O,.data O O,G⟩,G⟩ (fun _=>O)) O (JLo (E2 [1]) [] O .sct G (fun hc=>H8 (xs:=[I64 1]) O ⟨O,O,G⟩ Gy R5 O O O O) O ?_)
   obtain⟨r61,hr61,h⟩:=Ga h
   refine JLo (BL r61) [73,74] O .sct ⟨Ua,Ua,G⟩ (fun hc=>Gs (args:=[E2 r60,E2 [1]]) O (Zn r60 [1] r61 (H2 hc hr61)) Hcf ⟨O,O,O,O,G⟩) O (JLh (BL ((decide (r59=4))&&r61)) (Rm O O O O) O (JLm (BL ((decide (r59=4))&&r61)) O (JLo (.ptr 1196 0) [] O .sct G (fun hc=>G6 O O) O ?_)))
   obtain⟨r62,hr62,h⟩:=Ga h
   refine JLo (E2 r62) [78] O .sct ⟨Ua,G⟩ (fun hc=>Y7 (args:=[.dptr (Gb.cs s50)]) (g:=I64) (r:=r62) O (G59 s50 r62 (H2 hc hr62)) H07 ⟨.ptrL O ⟨.data O O,.data O O,.data O O,.data O O,.data O O,.data O O,.data O O,.data O O,.data O O,.data O O,.data O O,.data O O,.data O O,.mp O,.mp O,.mp O,.data O O,G⟩,G⟩ (fun _=>O)) O (JLo (Em r62.length) [79] O .sct ⟨Ua,G⟩ (fun hc=>G17 (f:=I64) (xs:=r62) Gy O O) O (JLo (BL (decide ((r62.length:Int)=0))) [80] O .sct ⟨Ua,G⟩ (fun hc=>Q0 O O O) O (JLh (BL (((decide (r59=4))&&r61)&&(decide ((r62.length:Int)=0)))) (Rm O O O O) O (JLm (BL (((decide (r59=4))&&r61)&&(decide ((r62.length:Int)=0)))) O (JLo (.ptr 1196 0) [] O .sct G (fun hc=>G6 O O) O ?_)))))
   obtain⟨r63,hr63,h⟩:=Ga h
   refine JLo (E7 r63) [84] O .sct ⟨Ua,G⟩ (fun hc=>Y7 (args:=[.dptr (Gb.cs s50)]) (g:=Stowed.av) (r:=r63) O (G06.down s50 r63 (H2 hc hr63)) G8a ⟨.ptrL O ⟨.data O O,.data O O,.data O O,.data O O,.data O O,.data O O,.data O O,.data O O,.data O O,.data O O,.data O O,.data O O,.data O O,.mp O,.mp O,.mp O,.data O O,G⟩,G⟩ (fun _=>O)) O ?_
   obtain⟨r64,hr64,h⟩:=Ga h
   refine JLo (.agg (Slot.cs r64)) [] O .sct G (fun hc=>Gs (args:=[I64 3,I64 0]) O (Q8 3 0 r64 (H2 hc hr64)) G22 ⟨O,O,O,O,G⟩) O (JLo (.agg [I64 2,I64 r64.G2,I64 r64.Tier,U8 r64.Half]) [86] O .sct ⟨Ua,G⟩ (fun hc=>Hb (cs:=[I64 2,I64 r64.G2,I64 r64.Tier,U8 r64.Half]) [(0,1),(1,3)] [I64 0,I64 0,I64 0,U8 0] [E0,E0,E0,.int .u8 0] Rr Z0 ⟨.inl O,.inl O,.inl O,.inl O,G⟩ O O) O ?_)
   obtain⟨r65,hr65,h⟩:=Ga h
   refine JLo (.agg (Slot.cs r65)) [] O .sct G (fun hc=>Gs (args:=[I64 0,I64 0]) O (Q8 0 0 r65 (H2 hc hr65)) G22 ⟨O,O,O,O,G⟩) O (JLo (.agg [I64 3,I64 r65.G2,I64 r65.Tier,U8 r65.Half]) [88] O .sct ⟨Ua,G⟩ (fun hc=>Hb (cs:=[I64 3,I64 r65.G2,I64 r65.Tier,U8 r65.Half]) [(0,1),(1,3)] [I64 0,I64 0,I64 0,U8 0] [E0,E0,E0,.int .u8 0] Rr Z0 ⟨.inl O,.inl O,.inl O,.inl O,G⟩ O O) O (JLo (E7 [(Stowed.mk 2 r64),(Stowed.mk 3 r65)]) [87,89] O .sct ⟨Ua,Ua,G⟩ (fun hc=>H8 (xs:=[.agg [I64 2,I64 r64.G2,I64 r64.Tier,U8 r64.Half],.agg [I64 3,I64 r65.G2,I64 r65.Tier,U8 r65.Half]]) O ⟨O,O,O,O,G⟩ H3 Jw O O O O) O ?_))
   obtain⟨r66,hr66,h⟩:=Ga h
   refine JLo (BL r66) [85,90] O .sct ⟨Ua,Ua,G⟩ (fun hc=>Gs (args:=[E7 r63,E7 [(Stowed.mk 2 r64),(Stowed.mk 3 r65)]]) O (Rw r63 [(Stowed.mk 2 r64),(Stowed.mk 3 r65)] r66 (H2 hc hr66)) Hab ⟨O,O,O,O,G⟩) O (JLh (BL ((((decide (r59=4))&&r61)&&(decide ((r62.length:Int)=0)))&&r66)) (Rm O O O O) O (JLm (BL ((((decide (r59=4))&&r61)&&(decide ((r62.length:Int)=0)))&&r66)) O (G5 (hK58 (Gq (fin1 BL h))))))

def Zm (places:List Ha) (covers:Int) (drops:List Gu) (way:Int) (n:Int):Option Bool:=
 bnd (Ym) fun r4=>
 bif (!r4) then
 (some false)
 else
 (bnd (Qs places covers drops) fun r7=>
  bnd (Gd9 n 100) fun v11=>
  chk (n) fun v12=>
  chk ((r7.1.Covers.length:Int)+v12) fun v13=>
  chk (n) fun v14=>
  chk ((-1) - v14) fun v15=>
  chk (n) fun v16=>
  chk (1+v16) fun v17=>
  chk (n) fun v18=>
  chk (1+v18) fun v19=>
  chk (way) fun v22=>
  bnd (Gd9 v22 ([(Move.mk 0 0 (Slot.mk 0 0 0) 0),(Move.mk (IntKind.u8.wrap (5+v11)) 0 (Slot.mk 0 0 0) 0),(Move.mk 1 0 (Slot.mk 0 0 0) v13),(Move.mk 4 0 (Slot.mk 0 0 0) v15),(Move.mk 1 v17 (Slot.mk 0 0 0) 0),(Move.mk 4 0 (Slot.mk 0 0 1) 0),(Move.mk 2 0 (Slot.mk 0 0 0) v19),(Move.mk 3 0 (Slot.mk 0 0 0) (-1))].length:Int)) fun v23=>
  Yv [(Move.mk 0 0 (Slot.mk 0 0 0) 0),(Move.mk (IntKind.u8.wrap (5+v11)) 0 (Slot.mk 0 0 0) 0),(Move.mk 1 0 (Slot.mk 0 0 0) v13),(Move.mk 4 0 (Slot.mk 0 0 0) v15),(Move.mk 1 v17 (Slot.mk 0 0 0) 0),(Move.mk 4 0 (Slot.mk 0 0 1) 0),(Move.mk 2 0 (Slot.mk 0 0 0) v19),(Move.mk 3 0 (Slot.mk 0 0 0) (-1))] v23 fun y24=>
  bnd (Zf r7.2.2.2 y24) fun r26=>
  bnd (bif (!(decide (r26.1≠310))) then R0 r26.2 else some default) fun r27=>
  bnd (bif (!(decide (r26.1≠310))) then Q3 r27 r7.2.2.1 else some default) fun r28=>
  bif ((decide (r26.1≠310))||(!r28)) then
  (some false)
  else
  (bnd (Qp r26.2) fun r31=>
   jp (fun kj33=>
    bnd (Gd9 way 5) fun v35=>
    bif decide (v35=0) then
    (bnd (Qc r7.2.2.1) fun r37=>
     need (decide ((r37.length+[(Stowed.mk 999 (Slot.mk 0 0 0))].length)*32≤140737488355328∧r37.length+[(Stowed.mk 999 (Slot.mk 0 0 0))].length≤maxLen)) <|
     kj33 (r7.2.1,(r37++[(Stowed.mk 999 (Slot.mk 0 0 0))]),r31,r7.1.Columns))
    else
    (bif decide (v35=1) then
     (bnd (Qo r7.1.Columns) fun r40=>
      Yv r7.1.Columns 0 fun y41=>
      need (decide ((r40.length+[y41].length)*112≤140737488355328∧r40.length+[y41].length≤maxLen)) <|
      kj33 (r7.2.1,r7.2.2.1,r31,(r40++[y41])))
     else
     (bif decide (v35=2) then
      (need (decide ((r31.length+[999].length)*8≤140737488355328∧r31.length+[999].length≤maxLen)) <|
       kj33 (r7.2.1,r7.2.2.1,(r31++[999]),r7.1.Columns))
      else
      (bif decide (v35=3) then
       (need (decide ((r31.length+[0].length)*8≤140737488355328∧r31.length+[0].length≤maxLen)) <|
        kj33 (r7.2.1,r7.2.2.1,(r31++[0]),r7.1.Columns))
       else
       (need (decide ((r7.2.1.length+[(Box.mk 1000 ByteArray.empty 30 false 0 0 0 0 false)].length)*64≤140737488355328∧r7.2.1.length+[(Box.mk 1000 ByteArray.empty 30 false 0 0 0 0 false)].length≤maxLen)) <|
        need (decide ((r31.length+[1000].length)*8≤140737488355328∧r31.length+[1000].length≤maxLen)) <|
        kj33 ((r7.2.1++[(Box.mk 1000 ByteArray.empty 30 false 0 0 0 0 false)]),r7.2.2.1,(r31++[1000]),r7.1.Columns)))))) fun(j33:(List Box)×(List Stowed)×(List Int)×(List G2))=>
   bnd (G1f (Gk.mk j33.2.2.2 r7.1.Covers r7.1.Light r7.1.Rows r7.1.Frames r7.1.Tanks r7.1.G4) j33.1 j33.2.1 j33.2.2.1) fun r52=>
   some (decide (r52=2))))
theorem H4e (places:List Ha) (covers:Int) (drops:List Gu) (way:Int) (n:Int) (r:Bool) (h:Zm places covers drops way n=some r):Pure En 3 [Ec places,.sc (.int .u32 covers),Ea drops,U8 way,U8 n] (·=BL r):=by
 unfold Zm at h
 refine Gz [.tmp 10] Tryz.func3 O O (Jr fun hK1=>(JLm (BL false) O (G5 (hK1 (Js fun hK2=>Jr fun hK3=>?_)))))
 obtain⟨r4,hr4,h⟩:=Ga h
 refine JLh (BL r4) (Gs O (G46  r4 hr4) Jc9 G) O (JLh (BL (!r4)) (Qx (b:=r4) O O) O (G5 (hK3 (JCc O h (fun h hb=>?_) (fun h hb=>?_)))))
 ·
  refine Jr fun hK5=>(JLm (BL false) O (G5 (hK5 (Gq (fin1 BL h)))))
 ·
  refine Gr (hK2 (Jr fun hK6=>(JLm (Ec places) O (JLm (.sc (.int .u32 covers)) O (JLm (Ea drops) O ?_)))))
  obtain⟨r7,hr7,h⟩:=Ga h
  refine JLh (.tup [.agg (Gk.cs r7.1),OW 1063 9 Box.av r7.2.1,E7 r7.2.2.1,.ptr 1196 0]) (Rt (args:=[Ec places,.sc (.int .u32 covers),Ea drops]) (L0:=[]) (Lr:=[(1196,.box 97 [E1 r7.2.2.2.ship.Columns,E6 r7.2.2.2.ship.Covers,I64 r7.2.2.2.ship.Light.Kilos,I64 r7.2.2.2.ship.Light.X,I64 r7.2.2.2.ship.Light.Y,I64 r7.2.2.2.ship.Light.Z,E3 r7.2.2.2.ship.Rows,E4 r7.2.2.2.ship.Frames,E5 r7.2.2.2.ship.Tanks,I64 r7.2.2.2.ship.G4.Tolerance,I64 r7.2.2.2.ship.G4.Trim,I64 r7.2.2.2.ship.G4.List_,I64 r7.2.2.2.ship.G4.Stability,.mp 1197,.mp 1198,.mp 1199,I64 r7.2.2.2.lifts]),(1197,TP 93 Slot.kv Box.av r7.2.2.2.on),(1198,TP 94 (fun n:Int=>Value.int .i64 n) Box.av r7.2.2.2.quay),(1199,TP 95 (fun n:Int=>Value.int .i64 n) I64 r7.2.2.2.open_),(1063,.spare 60 9 r7.2.1.length r7.2.1.length)]) O (Hba places covers drops r7 hr7) Jc8 ⟨.inl O,O,.inl O,O,.inl O,O,G⟩ G O O O) O (JLm (.tup [.agg (Gk.cs r7.1),OW 1063 9 Box.av r7.2.1,E7 r7.2.2.1,.ptr 1196 0]) O (JLh (.agg (Gk.cs r7.1)) (H0 O O O) O (JLh (OW 1063 9 Box.av r7.2.1) (H0 O O O) O (JLh (E7 r7.2.2.1) (H0 O O O) O (JLh (.ptr 1196 0) (H0 O O O) O (JLh (.ptr 1001 0) (Ho 1001 13 Gd7 O O) O (Hn (u:=.junk) (Hc (u:=.agg (Gk.cs r7.1)) (ds:=(Gk.cs r7.1)) Zr O O O O O O O O) (JLm (OW 1063 9 Box.av r7.2.1) O (JLm (E7 r7.2.2.1) O (JLm (.ptr 1196 0) O (G5 (hK6 ?_))))))))))))
  refine Js fun hK8=>Jr fun hK9=>(JLm (.ptr 1196 0) O (JLh (BL false) (Jc3 H57 O O) O (G5 (hK9 (G26 O (Gr (hK8 (Jr fun hK10=>(JLh (.agg [U8 0,I64 0,I64 0,I64 0,U8 0,I64 0]) (Hb (cs:=[U8 0,I64 0,I64 0,I64 0,U8 0,I64 0]) [(0,1),(1,1),(2,3),(5,1)] [U8 0,I64 0,I64 0,I64 0,U8 0,I64 0] [.int .u8 0,E0,E0,E0,.int .u8 0,E0] Qn R6 ⟨.inl O,.inl O,.inl O,.inl O,.inl O,.inl O,G⟩ O O) O (JLm (U8 n) O ?_))))))))))
  obtain⟨v11,hv11,h⟩:=Ga h
  refine JLh (U8 v11) (H03 (Jq hv11).1 (Jq hv11).2 O O O) O (JLh (U8 (IntKind.u8.wrap (5+v11))) (Jf O O O O) O (JLh (.agg [U8 (IntKind.u8.wrap (5+v11)),I64 0,I64 0,I64 0,U8 0,I64 0]) (Hb (cs:=[U8 (IntKind.u8.wrap (5+v11)),I64 0,I64 0,I64 0,U8 0,I64 0]) [(0,1),(1,1),(2,3),(5,1)] [U8 0,I64 0,I64 0,I64 0,U8 0,I64 0] [.int .u8 0,E0,E0,E0,.int .u8 0,E0] Qn R6 ⟨.inl O,.inl O,.inl O,.inl O,.inl O,.inl O,G⟩ O O) O (JLh (.ptr 1001 1) (Hg Jo O O) O (JLh (E6 r7.1.Covers) (Hx Qb O O O O) O (JLl Ji O O O fun hm39=>(JLm (U8 n) O ?_))))))
  obtain⟨v12,hv12,h⟩:=Jd h
  refine JLh (I64 v12) (G6e Zb G00 hv12 O O) O ?_
  obtain⟨v13,hv13,h⟩:=Jd h
  refine JLh (I64 v13) (Jf hv13 O O O) O (JLh (.agg [U8 1,I64 0,I64 0,I64 0,U8 0,I64 v13]) (Hb (cs:=[U8 1,I64 0,I64 0,I64 0,U8 0,I64 v13]) [(0,1),(1,1),(2,3),(5,1)] [U8 0,I64 0,I64 0,I64 0,U8 0,I64 0] [.int .u8 0,E0,E0,E0,.int .u8 0,E0] Qn R6 ⟨.inl O,.inl O,.inl O,.inl O,.inl O,.inl O,G⟩ O O) O (JLm (U8 n) O ?_))
  obtain⟨v14,hv14,h⟩:=Jd h
  refine JLh (I64 v14) (G6e Zb G00 hv14 O O) O ?_
  obtain⟨v15,hv15,h⟩:=Jd h
  refine JLh (I64 v15) (H46 hv15 O O O) O (JLh (.agg [U8 4,I64 0,I64 0,I64 0,U8 0,I64 v15]) (Hb (cs:=[U8 4,I64 0,I64 0,I64 0,U8 0,I64 v15]) [(0,1),(1,1),(2,3),(5,1)] [U8 0,I64 0,I64 0,I64 0,U8 0,I64 0] [.int .u8 0,E0,E0,E0,.int .u8 0,E0] Qn R6 ⟨.inl O,.inl O,.inl O,.inl O,.inl O,.inl O,G⟩ O O) O (JLm (U8 n) O ?_))
  obtain⟨v16,hv16,h⟩:=Jd h
  refine JLh (I64 v16) (G6e Zb G00 hv16 O O) O ?_
  obtain⟨v17,hv17,h⟩:=Jd h
  refine JLh (I64 v17) (Jf hv17 O O O) O (JLh (.agg [U8 1,I64 v17,I64 0,I64 0,U8 0,I64 0]) (Hb (cs:=[U8 1,I64 v17,I64 0,I64 0,U8 0,I64 0]) [(0,1),(1,1),(2,3),(5,1)] [U8 0,I64 0,I64 0,I64 0,U8 0,I64 0] [.int .u8 0,E0,E0,E0,.int .u8 0,E0] Qn R6 ⟨.inl O,.inl O,.inl O,.inl O,.inl O,.inl O,G⟩ O O) O (JLh (.agg [I64 0,I64 0,U8 1]) (Hb (cs:=[I64 0,I64 0,U8 1]) [(0,1),(1,1),(2,1)] [I64 0,I64 0,U8 0] [E0,E0,.int .u8 0] Ga8 Gce ⟨.inl O,.inl O,.inl O,G⟩ O O) O (JLh (.agg [U8 4,I64 0,I64 0,I64 0,U8 1,I64 0]) (Hb (cs:=[U8 4,I64 0,I64 0,I64 0,U8 1,I64 0]) [(0,1),(1,1),(2,3),(5,1)] [U8 0,I64 0,I64 0,I64 0,U8 0,I64 0] [.int .u8 0,E0,E0,E0,.int .u8 0,E0] Qn R6 ⟨.inl O,.inl O,.inl O,.inl O,.inl O,.inl O,G⟩ O O) O (JLm (U8 n) O ?_))))
  obtain⟨v18,hv18,h⟩:=Jd h
  refine JLh (I64 v18) (G6e Zb G00 hv18 O O) O ?_
  obtain⟨v19,hv19,h⟩:=Jd h
  refine JLh (I64 v19) (Jf hv19 O O O) O (JLh (.agg [U8 2,I64 0,I64 0,I64 0,U8 0,I64 v19]) (Hb (cs:=[U8 2,I64 0,I64 0,I64 0,U8 0,I64 v19]) [(0,1),(1,1),(2,3),(5,1)] [U8 0,I64 0,I64 0,I64 0,U8 0,I64 0] [.int .u8 0,E0,E0,E0,.int .u8 0,E0] Qn R6 ⟨.inl O,.inl O,.inl O,.inl O,.inl O,.inl O,G⟩ O O) O (JLh (.agg [U8 3,I64 0,I64 0,I64 0,U8 0,I64 (-1)]) (Hb (cs:=[U8 3,I64 0,I64 0,I64 0,U8 0,I64 (-1)]) [(0,1),(1,1),(2,3),(5,1)] [U8 0,I64 0,I64 0,I64 0,U8 0,I64 0] [.int .u8 0,E0,E0,E0,.int .u8 0,E0] Qn R6 ⟨.inl O,.inl O,.inl O,.inl O,.inl O,.inl O,G⟩ O O) O (JLh (LS 6 Move.av [(Move.mk 0 0 (Slot.mk 0 0 0) 0),(Move.mk (IntKind.u8.wrap (5+v11)) 0 (Slot.mk 0 0 0) 0),(Move.mk 1 0 (Slot.mk 0 0 0) v13),(Move.mk 4 0 (Slot.mk 0 0 0) v15),(Move.mk 1 v17 (Slot.mk 0 0 0) 0),(Move.mk 4 0 (Slot.mk 0 0 1) 0),(Move.mk 2 0 (Slot.mk 0 0 0) v19),(Move.mk 3 0 (Slot.mk 0 0 0) (-1))]) (H8 (xs:=[.agg [U8 0,I64 0,I64 0,I64 0,U8 0,I64 0],.agg [U8 (IntKind.u8.wrap (5+v11)),I64 0,I64 0,I64 0,U8 0,I64 0],.agg [U8 1,I64 0,I64 0,I64 0,U8 0,I64 v13],.agg [U8 4,I64 0,I64 0,I64 0,U8 0,I64 v15],.agg [U8 1,I64 v17,I64 0,I64 0,U8 0,I64 0],.agg [U8 4,I64 0,I64 0,I64 0,U8 1,I64 0],.agg [U8 2,I64 0,I64 0,I64 0,U8 0,I64 v19],.agg [U8 3,I64 0,I64 0,I64 0,U8 0,I64 (-1)]]) O ⟨O,O,O,O,O,O,O,O,O,O,O,O,O,O,O,O,G⟩ G85 Gd6 O O O O) O (JLm (LS 6 Move.av [(Move.mk 0 0 (Slot.mk 0 0 0) 0),(Move.mk (IntKind.u8.wrap (5+v11)) 0 (Slot.mk 0 0 0) 0),(Move.mk 1 0 (Slot.mk 0 0 0) v13),(Move.mk 4 0 (Slot.mk 0 0 0) v15),(Move.mk 1 v17 (Slot.mk 0 0 0) 0),(Move.mk 4 0 (Slot.mk 0 0 1) 0),(Move.mk 2 0 (Slot.mk 0 0 0) v19),(Move.mk 3 0 (Slot.mk 0 0 0) (-1))]) O (G5 (hK10 ?_))))))
  refine Js fun hK20=>Jr fun hK21=>(JLm (.ptr 1196 0) O (JLm (LS 6 Move.av [(Move.mk 0 0 (Slot.mk 0 0 0) 0),(Move.mk (IntKind.u8.wrap (5+v11)) 0 (Slot.mk 0 0 0) 0),(Move.mk 1 0 (Slot.mk 0 0 0) v13),(Move.mk 4 0 (Slot.mk 0 0 0) v15),(Move.mk 1 v17 (Slot.mk 0 0 0) 0),(Move.mk 4 0 (Slot.mk 0 0 1) 0),(Move.mk 2 0 (Slot.mk 0 0 0) v19),(Move.mk 3 0 (Slot.mk 0 0 0) (-1))]) O (JLm (U8 way) O ?_)))
  obtain⟨v22,hv22,h⟩:=Jd h
  refine JLh (I64 v22) (G6e Zb G00 hv22 O O) O (JLm (LS 6 Move.av [(Move.mk 0 0 (Slot.mk 0 0 0) 0),(Move.mk (IntKind.u8.wrap (5+v11)) 0 (Slot.mk 0 0 0) 0),(Move.mk 1 0 (Slot.mk 0 0 0) v13),(Move.mk 4 0 (Slot.mk 0 0 0) v15),(Move.mk 1 v17 (Slot.mk 0 0 0) 0),(Move.mk 4 0 (Slot.mk 0 0 1) 0),(Move.mk 2 0 (Slot.mk 0 0 0) v19),(Move.mk 3 0 (Slot.mk 0 0 0) (-1))]) O (JLl G85 O O O fun hm65=>?_))
  obtain⟨v23,hv23,h⟩:=Ga h
  refine JLh (I64 v23) (H03 (Jq hv23).1 (Jq hv23).2 O O O) O ?_
  obtain⟨m25,y24,hm25,hy24,h⟩:=Ya h
  refine JLh (Ed y24) (He (f:=Move.av) (xs:=[(Move.mk 0 0 (Slot.mk 0 0 0) 0),(Move.mk (IntKind.u8.wrap (5+v11)) 0 (Slot.mk 0 0 0) 0),(Move.mk 1 0 (Slot.mk 0 0 0) v13),(Move.mk 4 0 (Slot.mk 0 0 0) v15),(Move.mk 1 v17 (Slot.mk 0 0 0) 0),(Move.mk 4 0 (Slot.mk 0 0 1) 0),(Move.mk 2 0 (Slot.mk 0 0 0) v19),(Move.mk 3 0 (Slot.mk 0 0 0) (-1))]) (y:=y24) O O O G85 hy24 hm25) O (JLh (.agg (Move.cs y24)) (Gi G2e O O O) O ?_)
  obtain⟨r26,hr26,h⟩:=Ga h
  refine JLh (I64 r26.1) (Rt (args:=[.ptr 1196 0,.agg (Move.cs y24)]) (L0:=[(1196,.box 97 [E1 r7.2.2.2.ship.Columns,E6 r7.2.2.2.ship.Covers,I64 r7.2.2.2.ship.Light.Kilos,I64 r7.2.2.2.ship.Light.X,I64 r7.2.2.2.ship.Light.Y,I64 r7.2.2.2.ship.Light.Z,E3 r7.2.2.2.ship.Rows,E4 r7.2.2.2.ship.Frames,E5 r7.2.2.2.ship.Tanks,I64 r7.2.2.2.ship.G4.Tolerance,I64 r7.2.2.2.ship.G4.Trim,I64 r7.2.2.2.ship.G4.List_,I64 r7.2.2.2.ship.G4.Stability,.mp 1197,.mp 1198,.mp 1199,I64 r7.2.2.2.lifts]),(1197,TP 93 Slot.kv Box.av r7.2.2.2.on),(1198,TP 94 (fun n:Int=>Value.int .i64 n) Box.av r7.2.2.2.quay),(1199,TP 95 (fun n:Int=>Value.int .i64 n) I64 r7.2.2.2.open_)]) (Lr:=[(1196,.box 97 [E1 r26.2.ship.Columns,E6 r26.2.ship.Covers,I64 r26.2.ship.Light.Kilos,I64 r26.2.ship.Light.X,I64 r26.2.ship.Light.Y,I64 r26.2.ship.Light.Z,E3 r26.2.ship.Rows,E4 r26.2.ship.Frames,E5 r26.2.ship.Tanks,I64 r26.2.ship.G4.Tolerance,I64 r26.2.ship.G4.Trim,I64 r26.2.ship.G4.List_,I64 r26.2.ship.G4.Stability,.mp 1197,.mp 1198,.mp 1199,I64 r26.2.lifts]),(1197,TP 93 Slot.kv Box.av r26.2.on),(1198,TP 94 (fun n:Int=>Value.int .i64 n) Box.av r26.2.quay),(1199,TP 95 (fun n:Int=>Value.int .i64 n) I64 r26.2.open_)]) O (G9f r7.2.2.2 y24 r26 hr26) Hac ⟨.inl O,O,.inl O,O,G⟩ ⟨O,O,O,O,G⟩ O O O) O (JLh (BL (decide (r26.1≠310))) (Ge9 O O O) O (JLm (BL (decide (r26.1≠310))) O (JLo (.ptr 1196 0) [] O .scf G (fun hc=>G6 O O) O ?_)))
  obtain⟨r27,hr27,h⟩:=Ga h
  refine JLo (E7 r27) [72] O .scf ⟨Ua,G⟩ (fun hc=>Y7 (args:=[.dptr (Gb.cs r26.2)]) (g:=Stowed.av) (r:=r27) O (G06.down r26.2 r27 (H2 hc hr27)) G8a ⟨.ptrL O ⟨.data O O,.data O O,.data O O,.data O O,.data O O,.data O O,.data O O,.data O O,.data O O,.data O O,.data O O,.data O O,.data O O,.mp O,.mp O,.mp O,.data O O,G⟩,G⟩ (fun _=>O)) O (JLo (E7 r7.2.2.1) [] O .scf G (fun hc=>G6 O O) O ?_)
  obtain⟨r28,hr28,h⟩:=Ga h
  refine JLo (BL r28) [73,74] O .scf ⟨Ua,Ua,G⟩ (fun hc=>Gs (args:=[E7 r27,E7 r7.2.2.1]) O (Rw r27 r7.2.2.1 r28 (H2 hc hr28)) Hab ⟨O,O,O,O,G⟩) O (JLo (BL (!r28)) [75] O .scf ⟨Ua,G⟩ (fun hc=>Qx (b:=r28) O O) O (JLh (BL ((decide (r26.1≠310))||(!r28))) (G27 O O O O) O (G5 (hK21 (JCc O h (fun h hb=>?_) (fun h hb=>?_))))))
  ·
   refine Jr fun hK29=>(JLm (BL false) O (G5 (hK29 (Gq (fin1 BL h)))))
  ·
   refine Gr (hK20 (Jr fun hK30=>(JLm (.ptr 1196 0) O ?_)))
   obtain⟨r31,hr31,h⟩:=Ga h
   refine Zp O O O (R3e (args:=[.dptr (Gb.cs r26.2)]) (g:=I64) (r:=r31) O (G69 r26.2 r31 hr31) Gd0 ⟨.ptrL O ⟨.data O O,.data O O,.data O O,.data O O,.data O O,.data O O,.data O O,.data O O,.data O O,.data O O,.data O O,.data O O,.data O O,.mp O,.mp O,.mp O,.data O O,G⟩,G⟩ (fun _=>O) O) ?_
   rintro u_ L_ ⟨v32,rfl,rfl⟩
   refine Y9e (f:=I64) (xs:=r31) 79 1002 O O O (JLm (OW 1002 1 I64 r31) O (G5 (hK30 ?_)))
   obtain⟨kj33,hkj33,h⟩:=Yu h
   refine Rg (fun j33:(List Box)×(List Stowed)×(List Int)×(List G2)=>kj33 j33=some r) (fun j33=>[(11,.ptr 1001 0),(12,OW 1063 9 Box.av j33.1),(13,E7 j33.2.1),(16,OW 1002 1 I64 j33.2.2.1)]) (fun j33=>[(1196,.box 97 [E1 r26.2.ship.Columns,E6 r26.2.ship.Covers,I64 r26.2.ship.Light.Kilos,I64 r26.2.ship.Light.X,I64 r26.2.ship.Light.Y,I64 r26.2.ship.Light.Z,E3 r26.2.ship.Rows,E4 r26.2.ship.Frames,E5 r26.2.ship.Tanks,I64 r26.2.ship.G4.Tolerance,I64 r26.2.ship.G4.Trim,I64 r26.2.ship.G4.List_,I64 r26.2.ship.G4.Stability,.mp 1197,.mp 1198,.mp 1199,I64 r26.2.lifts]),(1197,TP 93 Slot.kv Box.av r26.2.on),(1198,TP 94 (fun n:Int=>Value.int .i64 n) Box.av r26.2.quay),(1199,TP 95 (fun n:Int=>Value.int .i64 n) I64 r26.2.open_),(1063,.spare 60 9 j33.1.length j33.1.length),(1186,.vec 3 1 (v32+1) (([]:List Int).map I64)),(1002,.spare 3 1 j33.2.2.1.length j33.2.2.1.length),(1001,.box 36 [E1 j33.2.2.2,E6 r7.1.Covers,I64 r7.1.Light.Kilos,I64 r7.1.Light.X,I64 r7.1.Light.Y,I64 r7.1.Light.Z,E3 r7.1.Rows,E4 r7.1.Frames,E5 r7.1.Tanks,I64 r7.1.G4.Tolerance,I64 r7.1.G4.Trim,I64 r7.1.G4.List_,I64 r7.1.G4.Stability])]) (fun Kj33 ej33=>?_) ?_
   ·
    refine Jr fun hK34=>(JLm (U8 way) O ?_)
    obtain⟨v35,hv35,h⟩:=Ga h
    refine JLh (U8 v35) (H03 (Jq hv35).1 (Jq hv35).2 O O O) O (G5 (hK34 (Gw (Jr fun hK36=>(JLh (BL (decide (v35=0))) (Q0 O O O) O (JLm (BL (decide (v35=0))) O (G5 (hK36 (JCc O h (fun h hb=>?_) (fun h hb=>?_))))))))))
    ·
     refine G1 (JLm (E7 r7.2.2.1) O ?_)
     obtain⟨r37,hr37,h⟩:=Ga h
     refine JLh (OW 1029 4 Stowed.av r37) (Rt (args:=[E7 r7.2.2.1]) (L0:=[]) (Lr:=[(1029,.spare 55 4 r37.length r37.length)]) O ((Yc r7.2.2.1 r37 hr37).toOwn 1029 O) J6a ⟨.inl O,O,G⟩ G O O O) O (JLh (.agg [I64 999,I64 0,I64 0,U8 0]) (Hb (cs:=[I64 999,I64 0,I64 0,U8 0]) [(0,1),(1,3)] [I64 0,I64 0,I64 0,U8 0] [E0,E0,E0,.int .u8 0] Rr Z0 ⟨.inl O,.inl O,.inl O,.inl O,G⟩ O O) O (JLh (E7 [(Stowed.mk 999 (Slot.mk 0 0 0))]) (H8 (xs:=[.agg [I64 999,I64 0,I64 0,U8 0]]) O ⟨O,O,G⟩ H3 Jw O O O O) O ?_))
     obtain⟨ha38,h⟩:=J7 h
     refine JLh (OW 1029 4 Stowed.av (r37++[(Stowed.mk 999 (Slot.mk 0 0 0))])) (Qk (f:=Stowed.av) (xs:=r37) (ys:=[(Stowed.mk 999 (Slot.mk 0 0 0))]) O O O O H3 G21 ha38 (fun _=>O) (.inl O) O) O (JLm (OW 1029 4 Stowed.av (r37++[(Stowed.mk 999 (Slot.mk 0 0 0))])) O (G5 (ej33 _ _ (r7.2.1,(r37++[(Stowed.mk 999 (Slot.mk 0 0 0))]),r31,r7.1.Columns) h ⟨⟨.same rfl,.same rfl,.list rfl,.same rfl,G⟩,⟨⟨_,rfl,.boxL rfl (.sm O O)⟩,⟨_,rfl,.map⟩,⟨_,rfl,.map⟩,⟨_,rfl,.map⟩,⟨_,rfl,.same⟩,⟨_,rfl,.vec⟩,⟨_,rfl,.same⟩,⟨_,rfl,.boxL rfl (.sm O O)⟩,G⟩,rfl⟩)))
    ·
     refine Jr fun hK39=>(JLh (BL (decide (v35=1))) (Q0 O O O) O (JLm (BL (decide (v35=1))) O (G5 (hK39 (JCc O h (fun h hb=>?_) (fun h hb=>?_))))))
     ·
      refine Qd (l':=[(11,.ptr 1001 0),(12,OW 1063 9 Box.av r7.2.1),(13,E7 r7.2.2.1),(16,OW 1002 1 I64 r31)]) (L':=[(1196,.box 97 [E1 r26.2.ship.Columns,E6 r26.2.ship.Covers,I64 r26.2.ship.Light.Kilos,I64 r26.2.ship.Light.X,I64 r26.2.ship.Light.Y,I64 r26.2.ship.Light.Z,E3 r26.2.ship.Rows,E4 r26.2.ship.Frames,E5 r26.2.ship.Tanks,I64 r26.2.ship.G4.Tolerance,I64 r26.2.ship.G4.Trim,I64 r26.2.ship.G4.List_,I64 r26.2.ship.G4.Stability,.mp 1197,.mp 1198,.mp 1199,I64 r26.2.lifts]),(1197,TP 93 Slot.kv Box.av r26.2.on),(1198,TP 94 (fun n:Int=>Value.int .i64 n) Box.av r26.2.quay),(1199,TP 95 (fun n:Int=>Value.int .i64 n) I64 r26.2.open_),(1063,.spare 60 9 r7.2.1.length r7.2.1.length),(1001,.box 36 (Gk.cs r7.1)),(1186,.vec 3 1 (v32+1) (([]:List Int).map I64)),(1002,.spare 3 1 r31.length r31.length)]) ⟨(.sm O O),⟨⟨_,rfl,.boxL rfl (.sm O O)⟩,⟨_,rfl,.map⟩,⟨_,rfl,.map⟩,⟨_,rfl,.map⟩,⟨_,rfl,.same⟩,⟨_,rfl,.boxL rfl (.sm O O)⟩,⟨_,rfl,.vec⟩,⟨_,rfl,.same⟩,G⟩,rfl⟩ ?_
      obtain⟨r40,hr40,h⟩:=Ga h
      obtain⟨m42,y41,hm42,hy41,h⟩:=Ya h
      obtain⟨ha43,h⟩:=J7 h
      refine J4 [2,8,10] [0,0,0,0,0,0,0,0,0,2,0] [0,0,0,1,1,1,1,1,0,2,0] [[(1196,.box 97 [E1 r26.2.ship.Columns,E6 r26.2.ship.Covers,I64 r26.2.ship.Light.Kilos,I64 r26.2.ship.Light.X,I64 r26.2.ship.Light.Y,I64 r26.2.ship.Light.Z,E3 r26.2.ship.Rows,E4 r26.2.ship.Frames,E5 r26.2.ship.Tanks,I64 r26.2.ship.G4.Tolerance,I64 r26.2.ship.G4.Trim,I64 r26.2.ship.G4.List_,I64 r26.2.ship.G4.Stability,.mp 1197,.mp 1198,.mp 1199,I64 r26.2.lifts]),(1197,TP 93 Slot.kv Box.av r26.2.on),(1198,TP 94 (fun n:Int=>Value.int .i64 n) Box.av r26.2.quay),(1199,TP 95 (fun n:Int=>Value.int .i64 n) I64 r26.2.open_),(1063,.spare 60 9 r7.2.1.length r7.2.1.length),(1001,.box 36 (Gk.cs r7.1)),(1186,.vec 3 1 (v32+1) (([]:List Int).map I64)),(1002,.spare 3 1 r31.length r31.length)],((1031,.spare 58 12 r40.length r40.length)::[(1196,.box 97 [E1 r26.2.ship.Columns,E6 r26.2.ship.Covers,I64 r26.2.ship.Light.Kilos,I64 r26.2.ship.Light.X,I64 r26.2.ship.Light.Y,I64 r26.2.ship.Light.Z,E3 r26.2.ship.Rows,E4 r26.2.ship.Frames,E5 r26.2.ship.Tanks,I64 r26.2.ship.G4.Tolerance,I64 r26.2.ship.G4.Trim,I64 r26.2.ship.G4.List_,I64 r26.2.ship.G4.Stability,.mp 1197,.mp 1198,.mp 1199,I64 r26.2.lifts]),(1197,TP 93 Slot.kv Box.av r26.2.on),(1198,TP 94 (fun n:Int=>Value.int .i64 n) Box.av r26.2.quay),(1199,TP 95 (fun n:Int=>Value.int .i64 n) I64 r26.2.open_),(1063,.spare 60 9 r7.2.1.length r7.2.1.length),(1001,.box 36 (Gk.cs r7.1)),(1186,.vec 3 1 (v32+1) (([]:List Int).map I64)),(1002,.spare 3 1 r31.length r31.length)]),((1031,.spare 58 12 (r40++[y41]).length (r40++[y41]).length)::((1031,.spare 58 12 r40.length r40.length)::[(1196,.box 97 [E1 r26.2.ship.Columns,E6 r26.2.ship.Covers,I64 r26.2.ship.Light.Kilos,I64 r26.2.ship.Light.X,I64 r26.2.ship.Light.Y,I64 r26.2.ship.Light.Z,E3 r26.2.ship.Rows,E4 r26.2.ship.Frames,E5 r26.2.ship.Tanks,I64 r26.2.ship.G4.Tolerance,I64 r26.2.ship.G4.Trim,I64 r26.2.ship.G4.List_,I64 r26.2.ship.G4.Stability,.mp 1197,.mp 1198,.mp 1199,I64 r26.2.lifts]),(1197,TP 93 Slot.kv Box.av r26.2.on),(1198,TP 94 (fun n:Int=>Value.int .i64 n) Box.av r26.2.quay),(1199,TP 95 (fun n:Int=>Value.int .i64 n) I64 r26.2.open_),(1063,.spare 60 9 r7.2.1.length r7.2.1.length),(1001,.box 36 (Gk.cs r7.1)),(1186,.vec 3 1 (v32+1) (([]:List Int).map I64)),(1002,.spare 3 1 r31.length r31.length)])),((1001,.box 36 [OW 1031 12 G2.av (r40++[y41]),E6 r7.1.Covers,I64 r7.1.Light.Kilos,I64 r7.1.Light.X,I64 r7.1.Light.Y,I64 r7.1.Light.Z,E3 r7.1.Rows,E4 r7.1.Frames,E5 r7.1.Tanks,I64 r7.1.G4.Tolerance,I64 r7.1.G4.Trim,I64 r7.1.G4.List_,I64 r7.1.G4.Stability])::((1031,.spare 58 12 (r40++[y41]).length (r40++[y41]).length)::((1031,.spare 58 12 r40.length r40.length)::[(1196,.box 97 [E1 r26.2.ship.Columns,E6 r26.2.ship.Covers,I64 r26.2.ship.Light.Kilos,I64 r26.2.ship.Light.X,I64 r26.2.ship.Light.Y,I64 r26.2.ship.Light.Z,E3 r26.2.ship.Rows,E4 r26.2.ship.Frames,E5 r26.2.ship.Tanks,I64 r26.2.ship.G4.Tolerance,I64 r26.2.ship.G4.Trim,I64 r26.2.ship.G4.List_,I64 r26.2.ship.G4.Stability,.mp 1197,.mp 1198,.mp 1199,I64 r26.2.lifts]),(1197,TP 93 Slot.kv Box.av r26.2.on),(1198,TP 94 (fun n:Int=>Value.int .i64 n) Box.av r26.2.quay),(1199,TP 95 (fun n:Int=>Value.int .i64 n) I64 r26.2.open_),(1063,.spare 60 9 r7.2.1.length r7.2.1.length),(1001,.box 36 (Gk.cs r7.1)),(1186,.vec 3 1 (v32+1) (([]:List Int).map I64)),(1002,.spare 3 1 r31.length r31.length)])))] J0 (by kernel_rfl) rfl rfl ?_
      refine Gd (u:=.ptr 1001 0) O O ⟨Ge (Hg Hv O O) O,G⟩ (Gd (u:=E1 r7.1.Columns) O O ⟨Ge (Hx J8 O O O O) O,G⟩ (D_w (u:=OW 1031 12 G2.av r40) O O O O (Ge (Rt (args:=[E1 r7.1.Columns]) (L0:=[]) (Lr:=[(1031,.spare 58 12 r40.length r40.length)]) O ((H7e r7.1.Columns r40 hr40).toOwn 1031 O) J69 ⟨.inl O,O,G⟩ G O O O) O) (Gd (u:=.ptr 1001 0) O O ⟨Ge (Hg Hv O O) O,Ge (Hg Hv O O) O,G⟩ (Gd (u:=E1 r7.1.Columns) O O ⟨Ge (Hx J8 O O O O) O,Ge (Hx J8 O O O O) O,G⟩ (Gd (u:=Ei y41) O O ⟨Ge (He (f:=G2.av) (xs:=r7.1.Columns) (y:=y41) O O O Ht hy41 hm42) O,Ge (He (f:=G2.av) (xs:=r7.1.Columns) (y:=y41) O O O Ht hy41 hm42) O,G⟩ (Gd (u:=.agg (G2.cs y41)) O O ⟨Ge (Gi G79 O O O) O,Ge (Gi G79 O O O) O,G⟩ (Gd (u:=E1 [y41]) O O ⟨Ge (H8 (xs:=[.agg (G2.cs y41)]) O ⟨O,O,G⟩ Ht G32 O O O O) O,Ge (H8 (xs:=[.agg (G2.cs y41)]) O ⟨O,O,G⟩ Ht G32 O O O O) O,G⟩ (D_w (u:=OW 1031 12 G2.av (r40++[y41])) O O O O (Ge (Qk (f:=G2.av) (xs:=r40) (ys:=[y41]) O O O O Ht Hc8 ha43 (fun _=>O) (.inl O) O) O) (Gd (u:=.ptr 1001 0) O O ⟨Ge (Hg Hv O O) O,G⟩ (H82 (u:=.junk) O O O O (Ge (Hc (u:=OW 1031 12 G2.av (r40++[y41])) (ds:=[OW 1031 12 G2.av (r40++[y41]),E6 r7.1.Covers,I64 r7.1.Light.Kilos,I64 r7.1.Light.X,I64 r7.1.Light.Y,I64 r7.1.Light.Z,E3 r7.1.Rows,E4 r7.1.Frames,E5 r7.1.Tanks,I64 r7.1.G4.Tolerance,I64 r7.1.G4.Trim,I64 r7.1.G4.List_,I64 r7.1.G4.Stability]) J61 O O O O O O O O) O) (Qw ?_)))))))))))
      exact ej33 _ _ (r7.2.1,r7.2.2.1,r31,(r40++[y41])) h ⟨(.sm O O),⟨⟨_,rfl,.boxL rfl (.sm O O)⟩,⟨_,rfl,.map⟩,⟨_,rfl,.map⟩,⟨_,rfl,.map⟩,⟨_,rfl,.same⟩,⟨_,rfl,.vec⟩,⟨_,rfl,.same⟩,⟨_,rfl,.boxL rfl ⟨.list rfl,.same rfl,.same rfl,.same rfl,.same rfl,.same rfl,.same rfl,.same rfl,.same rfl,.same rfl,.same rfl,.same rfl,.same rfl,G⟩⟩,G⟩,rfl⟩
     ·
      refine Jr fun hK44=>(JLh (BL (decide (v35=2))) (Q0 O O O) O (JLm (BL (decide (v35=2))) O (G5 (hK44 (JCc O h (fun h hb=>?_) (fun h hb=>?_))))))
      ·
       refine G1 (JLm (OW 1002 1 I64 r31) O (JLh (E2 [999]) (H8 (xs:=[I64 999]) O ⟨O,O,G⟩ Gy R5 O O O O) O ?_))
       obtain⟨ha45,h⟩:=J7 h
       refine JLh (OW 1002 1 I64 (r31++[999])) (Qk (f:=I64) (xs:=r31) (ys:=[999]) O O O O Gy Zs ha45 (fun _=>O) (.inl O) O) O (JLm (OW 1002 1 I64 (r31++[999])) O (G5 (ej33 _ _ (r7.2.1,r7.2.2.1,(r31++[999]),r7.1.Columns) h ⟨(.sm O O),⟨⟨_,rfl,.boxL rfl (.sm O O)⟩,⟨_,rfl,.map⟩,⟨_,rfl,.map⟩,⟨_,rfl,.map⟩,⟨_,rfl,.same⟩,⟨_,rfl,.vec⟩,⟨_,rfl,.same⟩,⟨_,rfl,.boxL rfl (.sm O O)⟩,G⟩,rfl⟩)))
      ·
       refine Jr fun hK46=>(JLh (BL (decide (v35=3))) (Q0 O O O) O (JLm (BL (decide (v35=3))) O (G5 (hK46 (JCc O h (fun h hb=>?_) (fun h hb=>?_))))))
       ·
        refine G1 (JLm (OW 1002 1 I64 r31) O (JLh (E2 [0]) (H8 (xs:=[I64 0]) O ⟨O,O,G⟩ Gy R5 O O O O) O ?_))
        obtain⟨ha47,h⟩:=J7 h
        refine JLh (OW 1002 1 I64 (r31++[0])) (Qk (f:=I64) (xs:=r31) (ys:=[0]) O O O O Gy Zs ha47 (fun _=>O) (.inl O) O) O (JLm (OW 1002 1 I64 (r31++[0])) O (G5 (ej33 _ _ (r7.2.1,r7.2.2.1,(r31++[0]),r7.1.Columns) h ⟨(.sm O O),⟨⟨_,rfl,.boxL rfl (.sm O O)⟩,⟨_,rfl,.map⟩,⟨_,rfl,.map⟩,⟨_,rfl,.map⟩,⟨_,rfl,.same⟩,⟨_,rfl,.vec⟩,⟨_,rfl,.same⟩,⟨_,rfl,.boxL rfl (.sm O O)⟩,G⟩,rfl⟩)))
       ·
        refine Jr fun hK48=>(JLm (OW 1063 9 Box.av r7.2.1) O (JLh (.agg [I64 1000,ST ByteArray.empty,U8 30,BL false,I64 0,I64 0,I64 0,U8 0,BL false]) (Hb (cs:=[I64 1000,ST ByteArray.empty,U8 30,BL false,I64 0,I64 0,I64 0,U8 0,BL false]) [(0,1),(1,1),(2,1),(3,1),(4,1),(5,1),(6,1),(7,1),(8,1)] [I64 0,ST ByteArray.empty,U8 0,BL false,I64 0,I64 0,I64 0,U8 0,BL false] [E0,.string ByteArray.empty,.int .u8 0,.bool false,E0,E0,E0,.int .u8 0,.bool false] G64 G61 ⟨.inl O,.inl O,.inl O,.inl O,.inl O,.inl O,.inl O,.inl O,.inl O,G⟩ O O) O (JLh (E8 [(Box.mk 1000 ByteArray.empty 30 false 0 0 0 0 false)]) (H8 (xs:=[.agg [I64 1000,ST ByteArray.empty,U8 30,BL false,I64 0,I64 0,I64 0,U8 0,BL false]]) O ⟨O,O,G⟩ Y9 Qt O O O O) O ?_)))
        obtain⟨ha49,h⟩:=J7 h
        refine JLh (OW 1063 9 Box.av (r7.2.1++[(Box.mk 1000 ByteArray.empty 30 false 0 0 0 0 false)])) (Qk (f:=Box.av) (xs:=r7.2.1) (ys:=[(Box.mk 1000 ByteArray.empty 30 false 0 0 0 0 false)]) O O O O Y9 J62 ha49 (fun _=>O) (.inl O) O) O (JLm (OW 1063 9 Box.av (r7.2.1++[(Box.mk 1000 ByteArray.empty 30 false 0 0 0 0 false)])) O (G5 (hK48 (G1 (JLm (OW 1002 1 I64 r31) O (JLh (E2 [1000]) (H8 (xs:=[I64 1000]) O ⟨O,O,G⟩ Gy R5 O O O O) O ?_))))))
        obtain⟨ha50,h⟩:=J7 h
        refine JLh (OW 1002 1 I64 (r31++[1000])) (Qk (f:=I64) (xs:=r31) (ys:=[1000]) O O O O Gy Zs ha50 (fun _=>O) (.inl O) O) O (JLm (OW 1002 1 I64 (r31++[1000])) O (G5 (ej33 _ _ ((r7.2.1++[(Box.mk 1000 ByteArray.empty 30 false 0 0 0 0 false)]),r7.2.2.1,(r31++[1000]),r7.1.Columns) h ⟨(.sm O O),⟨⟨_,rfl,.boxL rfl (.sm O O)⟩,⟨_,rfl,.map⟩,⟨_,rfl,.map⟩,⟨_,rfl,.map⟩,⟨_,rfl,.same⟩,⟨_,rfl,.vec⟩,⟨_,rfl,.same⟩,⟨_,rfl,.boxL rfl (.sm O O)⟩,G⟩,rfl⟩)))
   ·intro j33 h
    replace h:=app1 hkj33 h
    refine Jr fun hK51=>(JLh (.agg [E1 j33.2.2.2,E6 r7.1.Covers,I64 r7.1.Light.Kilos,I64 r7.1.Light.X,I64 r7.1.Light.Y,I64 r7.1.Light.Z,E3 r7.1.Rows,E4 r7.1.Frames,E5 r7.1.Tanks,I64 r7.1.G4.Tolerance,I64 r7.1.G4.Trim,I64 r7.1.G4.List_,I64 r7.1.G4.Stability]) (Ga5 Hq O O O O) O (JLm (OW 1063 9 Box.av j33.1) O (JLm (E7 j33.2.1) O (JLm (OW 1002 1 I64 j33.2.2.1) O ?_))))
    obtain⟨r52,hr52,h⟩:=Ga h
    refine JLh (.tup [.sc (.pointer none),I64 r52]) (Gs O (Q2e (Gk.mk j33.2.2.2 r7.1.Covers r7.1.Light r7.1.Rows r7.1.Frames r7.1.Tanks r7.1.G4) j33.1 j33.2.1 j33.2.2.1 r52 hr52) Hd0 ⟨O,O,O,O,O,O,O,O,G⟩) O (JLm (.tup [.sc (.pointer none),I64 r52]) O (JLh (.sc (.pointer none)) (H0 O O O) O (JLh (I64 r52) (H0 O O O) O (JLm (.sc (.pointer none)) O (JLm (I64 r52) O (G5 (hK51 (Jr fun hK53=>(JLm (.sc (.pointer none)) O (JLh (BL true) (Yb0 H57 O O) O (JLm (BL true) O (JLo (I64 r52) [] O .sct G (fun hc=>G6 O O) O (JLo (BL (decide (r52=2))) [129] O .sct ⟨Ua,G⟩ (fun hc=>Q0 O O O) O (JLh (BL (decide (r52=2))) (Rm (b:=true) (d:=(decide (r52=2))) O O O O) O (JLm (BL (decide (r52=2))) O (G5 (hK53 (Gq (fin1 BL h)))))))))))))))))))
end
end Go.Proofs.YtidpfkmbfgihlaaGreat
