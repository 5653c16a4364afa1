/- Walks of functions. -/
import Derived.Test.YtidpfkmbfgihlaaGreatXB
set_option maxRecDepth 100000
set_option maxHeartbeats 1000000
set_option linter.unusedVariables false
set_option linter.unusedSimpArgs false
namespace Go.Proofs.YtidpfkmbfgihlaaGreat
open Go.RowKit
noncomputable section
structure Ha where
 x:Move
 e:Int
 deriving DecidableEq,Inhabited
def Ha.cs (x:Ha):List AV:=[U8 x.x.Kind,I64 x.x.Box,I64 x.x.Slot.G2,I64 x.x.Slot.Tier,U8 x.x.Slot.Half,I64 x.x.G8,I64 x.e]
def Ha.av (x:Ha):AV:=.agg x.cs
namespace XPF
open XAF
open XCF
open XSF
open XKF
open XTF
open XUF
open XBF
theorem Z04 (a b:Stowed):J81 Eo 4 55 [.int .i64 a.Box,.int .i64 a.Slot.G2,.int .i64 a.Slot.Tier,.int .u8 a.Slot.Half] [.int .i64 b.Box,.int .i64 b.Slot.G2,.int .i64 b.Slot.Tier,.int .u8 b.Slot.Half]=some (decide (a=b)):=by
 refine(show _=some ((a.Box==b.Box)&&(((a.Slot.G2==b.Slot.G2)&&((a.Slot.Tier==b.Slot.Tier)&&((a.Slot.Half==b.Slot.Half)&&true)))&&true)) by kernel_rfl).trans (congrArg some ?_)
 rw [Bool.eq_iff_iff]
 simp only [Mh,beq_iff_eq,Mi,Bool.and_true]
 constructor
 ·intro h; obtain⟨_,⟨_,_,_⟩⟩:=a; obtain⟨_,⟨_,_,_⟩⟩:=b; simp_all
 ·intro h; subst h; simp
theorem Y50:Gf6 Eo 85 7=true:=by kernel_rfl
theorem Q0d:G4f Eo 55=true:=by kernel_rfl
theorem H6e:H7 Eo 16=true:=by kernel_rfl
theorem Hdd:H7 Eo 20=true:=by kernel_rfl
theorem Rdc:H7 Eo 27=true:=by kernel_rfl
theorem G2a:H7 Eo 28=true:=by kernel_rfl
theorem Jd2:H7 Eo 6=true:=by kernel_rfl
theorem Rca:H7 Eo 68=true:=by kernel_rfl
theorem Jd1:H7 Eo 7=true:=by kernel_rfl
theorem Hb6:H7 Eo 8=true:=by kernel_rfl
theorem Hb5:H7 Eo 9=true:=by kernel_rfl
theorem Qec:Eo.eqGuardType Eo.depth 55=false:=by kernel_rfl
theorem Qd4:Jk Eo 85 0 0=true:=by kernel_rfl
theorem J5a:Jk Eo 85 1 6=true:=by kernel_rfl
theorem G01:placesOf Eo 85=some [(0,6),(6,1)]:=by kernel_rfl
theorem Rb7:Yx Eo 85 7=true:=by kernel_rfl
theorem J13:sliceB Eo 86 85 7=true:=by kernel_rfl
theorem G49:(Eo.info? 85).bind (fun i=>i.zero.map Value.cells)=some (List.toArray [.int .u8 0,E0,E0,E0,.int .u8 0,E0,E0]):=by kernel_rfl
theorem Jfa:Y4 Eo 85 7=true:=by kernel_rfl
end XPF
open XAF
open XCF
open XSF
open XKF
open XTF
open XUF
open XBF
open XPF

def G4c :Option Gk:=
 some (Gk.mk ([(G2.mk 0 0 false 2 0 0 0 0 [] 0 0 0),(G2.mk 0 1 false 2 0 0 0 0 [] 0 0 0),(G2.mk 0 0 true 3 0 0 0 0 [] 0 0 0),(G2.mk 0 1 true 3 0 0 0 0 [] 0 0 0),(G2.mk 1 1 true 4 0 0 0 0 [] 0 0 0)]) ([(G8.mk 0 [0,1])]) (Light.mk 0 0 0 0) [] [] [] (G4.mk 0 0 0 0))
abbrev Kg:List AV:=[E3 ([]:List G2),E7 ([]:List G8),I64 0,I64 0,I64 0,I64 0,E4 ([]:List Row),E5 ([]:List Frame),E6 ([]:List Gp),I64 0,I64 0,I64 0,I64 0]
theorem H85  (r:Gk) (h:G4c =some r):Pure Eo 68 [] (·=.agg (Gk.cs r)):=by
 unfold G4c at h
 refine H0 [.cell 0 36] Tryz.func68 O O (Jr fun a=>(JLh (.ptr 1115 0) (G5f 1115 Kg [.slice none 0 0,.slice none 0 0,E0,E0,E0,E0,.slice none 0 0,.slice none 0 0,.slice none 0 0,E0,E0,E0,E0] G64 ⟨.inr ⟨_,O,O⟩,.inr ⟨_,O,O⟩,.inl O,.inl O,.inl O,.inl O,.inr ⟨_,O,O⟩,.inr ⟨_,O,O⟩,.inr ⟨_,O,O⟩,.inl O,.inl O,.inl O,.inl O,G⟩ O O) O (G5 (a ?_))))
 refine Jr fun b=>(JLh (.agg [I64 0,I64 0,BL false,I64 2,I64 0,I64 0,I64 0,I64 0,E1 ([]:List Int),I64 0,I64 0,I64 0]) (Hb (cs:=[I64 0,I64 0,BL false,I64 2,I64 0,I64 0,I64 0,I64 0,E1 ([]:List Int),I64 0,I64 0,I64 0]) [(0,1),(1,1),(2,1),(3,1),(4,1),(5,1),(6,1),(7,1),(8,1),(9,1),(10,1),(11,1)] [I64 0,I64 0,BL false,I64 0,I64 0,I64 0,I64 0,I64 0,E1 ([]:List Int),I64 0,I64 0,I64 0] [E0,E0,.bool false,E0,E0,E0,E0,E0,.slice none 0 0,E0,E0,E0] G67 Gd0 ⟨.inl O,.inl O,.inl O,.inl O,.inl O,.inl O,.inl O,.inl O,.inr ⟨_,O,O⟩,.inl O,.inl O,.inl O,G⟩ O O) O (JLh (.agg [I64 0,I64 1,BL false,I64 2,I64 0,I64 0,I64 0,I64 0,E1 ([]:List Int),I64 0,I64 0,I64 0]) (Hb (cs:=[I64 0,I64 1,BL false,I64 2,I64 0,I64 0,I64 0,I64 0,E1 ([]:List Int),I64 0,I64 0,I64 0]) [(0,1),(1,1),(2,1),(3,1),(4,1),(5,1),(6,1),(7,1),(8,1),(9,1),(10,1),(11,1)] [I64 0,I64 0,BL false,I64 0,I64 0,I64 0,I64 0,I64 0,E1 ([]:List Int),I64 0,I64 0,I64 0] [E0,E0,.bool false,E0,E0,E0,E0,E0,.slice none 0 0,E0,E0,E0] G67 Gd0 ⟨.inl O,.inl O,.inl O,.inl O,.inl O,.inl O,.inl O,.inl O,.inr ⟨_,O,O⟩,.inl O,.inl O,.inl O,G⟩ O O) O (JLh (.agg [I64 0,I64 0,BL true,I64 3,I64 0,I64 0,I64 0,I64 0,E1 ([]:List Int),I64 0,I64 0,I64 0]) (Hb (cs:=[I64 0,I64 0,BL true,I64 3,I64 0,I64 0,I64 0,I64 0,E1 ([]:List Int),I64 0,I64 0,I64 0]) [(0,1),(1,1),(2,1),(3,1),(4,1),(5,1),(6,1),(7,1),(8,1),(9,1),(10,1),(11,1)] [I64 0,I64 0,BL false,I64 0,I64 0,I64 0,I64 0,I64 0,E1 ([]:List Int),I64 0,I64 0,I64 0] [E0,E0,.bool false,E0,E0,E0,E0,E0,.slice none 0 0,E0,E0,E0] G67 Gd0 ⟨.inl O,.inl O,.inl O,.inl O,.inl O,.inl O,.inl O,.inl O,.inr ⟨_,O,O⟩,.inl O,.inl O,.inl O,G⟩ O O) O (JLh (.agg [I64 0,I64 1,BL true,I64 3,I64 0,I64 0,I64 0,I64 0,E1 ([]:List Int),I64 0,I64 0,I64 0]) (Hb (cs:=[I64 0,I64 1,BL true,I64 3,I64 0,I64 0,I64 0,I64 0,E1 ([]:List Int),I64 0,I64 0,I64 0]) [(0,1),(1,1),(2,1),(3,1),(4,1),(5,1),(6,1),(7,1),(8,1),(9,1),(10,1),(11,1)] [I64 0,I64 0,BL false,I64 0,I64 0,I64 0,I64 0,I64 0,E1 ([]:List Int),I64 0,I64 0,I64 0] [E0,E0,.bool false,E0,E0,E0,E0,E0,.slice none 0 0,E0,E0,E0] G67 Gd0 ⟨.inl O,.inl O,.inl O,.inl O,.inl O,.inl O,.inl O,.inl O,.inr ⟨_,O,O⟩,.inl O,.inl O,.inl O,G⟩ O O) O (JLh (.agg [I64 1,I64 1,BL true,I64 4,I64 0,I64 0,I64 0,I64 0,E1 ([]:List Int),I64 0,I64 0,I64 0]) (Hb (cs:=[I64 1,I64 1,BL true,I64 4,I64 0,I64 0,I64 0,I64 0,E1 ([]:List Int),I64 0,I64 0,I64 0]) [(0,1),(1,1),(2,1),(3,1),(4,1),(5,1),(6,1),(7,1),(8,1),(9,1),(10,1),(11,1)] [I64 0,I64 0,BL false,I64 0,I64 0,I64 0,I64 0,I64 0,E1 ([]:List Int),I64 0,I64 0,I64 0] [E0,E0,.bool false,E0,E0,E0,E0,E0,.slice none 0 0,E0,E0,E0] G67 Gd0 ⟨.inl O,.inl O,.inl O,.inl O,.inl O,.inl O,.inl O,.inl O,.inr ⟨_,O,O⟩,.inl O,.inl O,.inl O,G⟩ O O) O (JLh (E3 ([(G2.mk 0 0 false 2 0 0 0 0 [] 0 0 0),(G2.mk 0 1 false 2 0 0 0 0 [] 0 0 0),(G2.mk 0 0 true 3 0 0 0 0 [] 0 0 0),(G2.mk 0 1 true 3 0 0 0 0 [] 0 0 0),(G2.mk 1 1 true 4 0 0 0 0 [] 0 0 0)])) (H9 (xs:=[.agg [I64 0,I64 0,BL false,I64 2,I64 0,I64 0,I64 0,I64 0,E1 ([]:List Int),I64 0,I64 0,I64 0],.agg [I64 0,I64 1,BL false,I64 2,I64 0,I64 0,I64 0,I64 0,E1 ([]:List Int),I64 0,I64 0,I64 0],.agg [I64 0,I64 0,BL true,I64 3,I64 0,I64 0,I64 0,I64 0,E1 ([]:List Int),I64 0,I64 0,I64 0],.agg [I64 0,I64 1,BL true,I64 3,I64 0,I64 0,I64 0,I64 0,E1 ([]:List Int),I64 0,I64 0,I64 0],.agg [I64 1,I64 1,BL true,I64 4,I64 0,I64 0,I64 0,I64 0,E1 ([]:List Int),I64 0,I64 0,I64 0]]) O ⟨O,O,O,O,O,O,O,O,O,O,G⟩ Ht G35 O O O O) O (JLh (E1 [0,1]) (H9 (xs:=[I64 0,I64 1]) O ⟨O,O,O,O,G⟩ Gz R6 O O O O) O (JLh (.agg [I64 0,E1 [0,1]]) (Hb (cs:=[I64 0,E1 [0,1]]) [(0,1),(1,1)] [I64 0,E1 ([]:List Int)] [E0,.slice none 0 0] Ha9 J12 ⟨.inl O,.inr ⟨_,O,O⟩,G⟩ O O) O (JLh (E7 ([(G8.mk 0 [0,1])])) (H9 (xs:=[.agg [I64 0,E1 [0,1]]]) O ⟨O,O,G⟩ Jj Ged O O O O) O (JLh (.agg [E3 ([(G2.mk 0 0 false 2 0 0 0 0 [] 0 0 0),(G2.mk 0 1 false 2 0 0 0 0 [] 0 0 0),(G2.mk 0 0 true 3 0 0 0 0 [] 0 0 0),(G2.mk 0 1 true 3 0 0 0 0 [] 0 0 0),(G2.mk 1 1 true 4 0 0 0 0 [] 0 0 0)]),E7 ([(G8.mk 0 [0,1])]),I64 0,I64 0,I64 0,I64 0,E4 ([]:List Row),E5 ([]:List Frame),E6 ([]:List Gp),I64 0,I64 0,I64 0,I64 0]) (Hb (cs:=[E3 ([(G2.mk 0 0 false 2 0 0 0 0 [] 0 0 0),(G2.mk 0 1 false 2 0 0 0 0 [] 0 0 0),(G2.mk 0 0 true 3 0 0 0 0 [] 0 0 0),(G2.mk 0 1 true 3 0 0 0 0 [] 0 0 0),(G2.mk 1 1 true 4 0 0 0 0 [] 0 0 0)]),E7 ([(G8.mk 0 [0,1])]),I64 0,I64 0,I64 0,I64 0,E4 ([]:List Row),E5 ([]:List Frame),E6 ([]:List Gp),I64 0,I64 0,I64 0,I64 0]) [(0,1),(1,1),(2,4),(6,1),(7,1),(8,1),(9,4)] Kg [.slice none 0 0,.slice none 0 0,E0,E0,E0,E0,.slice none 0 0,.slice none 0 0,.slice none 0 0,E0,E0,E0,E0] Hd5 G64 ⟨.inr ⟨_,O,O⟩,.inr ⟨_,O,O⟩,.inl O,.inl O,.inl O,.inl O,.inr ⟨_,O,O⟩,.inr ⟨_,O,O⟩,.inr ⟨_,O,O⟩,.inl O,.inl O,.inl O,.inl O,G⟩ O O) O (Hp (u:=.junk) (Hc (u:=.agg [E3 ([(G2.mk 0 0 false 2 0 0 0 0 [] 0 0 0),(G2.mk 0 1 false 2 0 0 0 0 [] 0 0 0),(G2.mk 0 0 true 3 0 0 0 0 [] 0 0 0),(G2.mk 0 1 true 3 0 0 0 0 [] 0 0 0),(G2.mk 1 1 true 4 0 0 0 0 [] 0 0 0)]),E7 ([(G8.mk 0 [0,1])]),I64 0,I64 0,I64 0,I64 0,E4 ([]:List Row),E5 ([]:List Frame),E6 ([]:List Gp),I64 0,I64 0,I64 0,I64 0]) (ds:=[E3 ([(G2.mk 0 0 false 2 0 0 0 0 [] 0 0 0),(G2.mk 0 1 false 2 0 0 0 0 [] 0 0 0),(G2.mk 0 0 true 3 0 0 0 0 [] 0 0 0),(G2.mk 0 1 true 3 0 0 0 0 [] 0 0 0),(G2.mk 1 1 true 4 0 0 0 0 [] 0 0 0)]),E7 ([(G8.mk 0 [0,1])]),I64 0,I64 0,I64 0,I64 0,E4 ([]:List Row),E5 ([]:List Frame),E6 ([]:List Gp),I64 0,I64 0,I64 0,I64 0]) Zw O O O O O O O O) (G5 (b ?_)))))))))))))
 refine Gq (⟨[.agg [E3 ([(G2.mk 0 0 false 2 0 0 0 0 [] 0 0 0),(G2.mk 0 1 false 2 0 0 0 0 [] 0 0 0),(G2.mk 0 0 true 3 0 0 0 0 [] 0 0 0),(G2.mk 0 1 true 3 0 0 0 0 [] 0 0 0),(G2.mk 1 1 true 4 0 0 0 0 [] 0 0 0)]),E7 ([(G8.mk 0 [0,1])]),I64 0,I64 0,I64 0,I64 0,E4 ([]:List Row),E5 ([]:List Frame),E6 ([]:List Gp),I64 0,I64 0,I64 0,I64 0]],[],G,O,⟨⟨_,⟨_,_,_,_,O,O,O,.inl ⟨Hr,O⟩⟩,.conv (.same O)⟩,G⟩,O,congrArg (fun r:Gk=>(.agg (Gk.cs r):AV)) (M5 h)⟩)

def Q5 (column:Int) (tier:Int):Option Slot:=
 some (Slot.mk column tier 0)
theorem Q7 (column:Int) (tier:Int) (r:Slot) (h:Q5 column tier=some r):Pure Eo 28 [I64 column,I64 tier] (·=.agg [I64 r.G2,I64 r.Tier,U8 r.Half]):=by
 unfold Q5 at h
 refine H0 [.cell 4 43] Tryz.func28 O O (Jr fun a=>(JLh (.ptr 1055 0) (G5f 1055 [I64 0,I64 0,U8 0] [E0,E0,.int .u8 0] Gd1 (zzQ O) O O) O (G5 (a (Jr fun b=>(JLm (I64 column) O (JLm (I64 tier) O (JLh (.agg [I64 column,I64 tier,U8 0]) (Hb (cs:=[I64 column,I64 tier,U8 0]) [(0,1),(1,1),(2,1)] [I64 0,I64 0,U8 0] [E0,E0,.int .u8 0] Gac Gd1 (zzQ O) O O) O (Hp (u:=.junk) (Hc (u:=.agg [I64 column,I64 tier,U8 0]) (ds:=[I64 column,I64 tier,U8 0]) Zv O O O O O O O O) (G5 (b (Gq ?_))))))))))))
 exact⟨[.agg [I64 column,I64 tier,U8 0]],[],G,O,⟨⟨_,⟨_,_,_,_,O,O,O,.inl ⟨Hu,O⟩⟩,.conv (.same O)⟩,G⟩,O,congrArg (fun r:Slot=>(.agg [I64 r.G2,I64 r.Tier,U8 r.Half]:AV)) (M5 h)⟩

def G4b :Option (Gk×(List Box)×(List Stowed)):=
 bnd (G4c) fun a=>
 bnd (Q5 0 0) fun b=>
 bnd (Q5 3 0) fun c=>
 some (a,[(Box.mk 1 ByteArray.empty 40 false 0 0 0 0 false),(Box.mk 2 ByteArray.empty 40 false 0 0 0 0 false),(Box.mk 3 ByteArray.empty 40 false 0 0 0 0 false)],[(Stowed.mk 1 b),(Stowed.mk 2 c)])
theorem H84  (r:Gk×(List Box)×(List Stowed)) (h:G4b =some r):Pure Eo 27 [] (·=.tup [.agg (Gk.cs r.1),E8 r.2.1,E2 r.2.2]):=by
 unfold G4b at h
 refine H0 [.cell 0 36,.tmp 1,.tmp 2] Tryz.func27 O O (Jr fun d=>(JLh (.ptr 1054 0) (G5f 1054 [E3 ([]:List G2),E7 ([]:List G8),I64 0,I64 0,I64 0,I64 0,E4 ([]:List Row),E5 ([]:List Frame),E6 ([]:List Gp),I64 0,I64 0,I64 0,I64 0] [.slice none 0 0,.slice none 0 0,E0,E0,E0,E0,.slice none 0 0,.slice none 0 0,.slice none 0 0,E0,E0,E0,E0] G64 ⟨.inr ⟨_,O,O⟩,.inr ⟨_,O,O⟩,.inl O,.inl O,.inl O,.inl O,.inr ⟨_,O,O⟩,.inr ⟨_,O,O⟩,.inr ⟨_,O,O⟩,.inl O,.inl O,.inl O,.inl O,G⟩ O O) O (JLh (E8 ([]:List Box)) (Hm 9 O O) O (JLh (E2 ([]:List Stowed)) (Hm 4 O O) O (G5 (d (Jr fun e=>?_)))))))
 obtain⟨c,f,h⟩:=Ga h
 refine JLh (.agg (Gk.cs c)) (Gt O (H85  c f) Rca G) O (JLh (.agg [I64 1,ST Ky,U8 40,BL false,I64 0,I64 0,I64 0,U8 0,BL false]) (Hb (cs:=[I64 1,ST Ky,U8 40,BL false,I64 0,I64 0,I64 0,U8 0,BL false]) [(0,1),(1,1),(2,1),(3,1),(4,1),(5,1),(6,1),(7,1),(8,1)] [I64 0,ST Ky,U8 0,BL false,I64 0,I64 0,I64 0,U8 0,BL false] [E0,.string ByteArray.empty,.int .u8 0,.bool false,E0,E0,E0,.int .u8 0,.bool false] G66 G63 (zzQ O) O O) O (JLh (.agg [I64 2,ST Ky,U8 40,BL false,I64 0,I64 0,I64 0,U8 0,BL false]) (Hb (cs:=[I64 2,ST Ky,U8 40,BL false,I64 0,I64 0,I64 0,U8 0,BL false]) [(0,1),(1,1),(2,1),(3,1),(4,1),(5,1),(6,1),(7,1),(8,1)] [I64 0,ST Ky,U8 0,BL false,I64 0,I64 0,I64 0,U8 0,BL false] [E0,.string ByteArray.empty,.int .u8 0,.bool false,E0,E0,E0,.int .u8 0,.bool false] G66 G63 (zzQ O) O O) O (JLh (.agg [I64 3,ST Ky,U8 40,BL false,I64 0,I64 0,I64 0,U8 0,BL false]) (Hb (cs:=[I64 3,ST Ky,U8 40,BL false,I64 0,I64 0,I64 0,U8 0,BL false]) [(0,1),(1,1),(2,1),(3,1),(4,1),(5,1),(6,1),(7,1),(8,1)] [I64 0,ST Ky,U8 0,BL false,I64 0,I64 0,I64 0,U8 0,BL false] [E0,.string ByteArray.empty,.int .u8 0,.bool false,E0,E0,E0,.int .u8 0,.bool false] G66 G63 (zzQ O) O O) O (JLh (E8 [(Box.mk 1 ByteArray.empty 40 false 0 0 0 0 false),(Box.mk 2 ByteArray.empty 40 false 0 0 0 0 false),(Box.mk 3 ByteArray.empty 40 false 0 0 0 0 false)]) (H9 (xs:=[.agg [I64 1,ST Ky,U8 40,BL false,I64 0,I64 0,I64 0,U8 0,BL false],.agg [I64 2,ST Ky,U8 40,BL false,I64 0,I64 0,I64 0,U8 0,BL false],.agg [I64 3,ST Ky,U8 40,BL false,I64 0,I64 0,I64 0,U8 0,BL false]]) O ⟨O,O,O,O,O,O,G⟩ Yb Qt O O O O) O ?_))))
 obtain⟨a,g,h⟩:=Ga h
 refine JLh (.agg [I64 a.G2,I64 a.Tier,U8 a.Half]) (Gt O (Q7 0 0 a g) G2a ⟨O,O,O,O,G⟩) O (JLh (.agg [I64 1,I64 a.G2,I64 a.Tier,U8 a.Half]) (Hb (cs:=[I64 1,I64 a.G2,I64 a.Tier,U8 a.Half]) [(0,1),(1,3)] [I64 0,I64 0,I64 0,U8 0] [E0,E0,E0,.int .u8 0] Rt Z4 (zzQ O) O O) O ?_)
 obtain⟨b,i,h⟩:=Ga h
 refine JLh (.agg [I64 b.G2,I64 b.Tier,U8 b.Half]) (Gt O (Q7 3 0 b i) G2a ⟨O,O,O,O,G⟩) O (JLh (.agg [I64 2,I64 b.G2,I64 b.Tier,U8 b.Half]) (Hb (cs:=[I64 2,I64 b.G2,I64 b.Tier,U8 b.Half]) [(0,1),(1,3)] [I64 0,I64 0,I64 0,U8 0] [E0,E0,E0,.int .u8 0] Rt Z4 (zzQ O) O O) O (JLh (E2 [(Stowed.mk 1 a),(Stowed.mk 2 b)]) (H9 (xs:=[.agg [I64 1,I64 a.G2,I64 a.Tier,U8 a.Half],.agg [I64 2,I64 b.G2,I64 b.Tier,U8 b.Half]]) O ⟨O,O,O,O,G⟩ H4 Jx O O O O) O (Hp (u:=.junk) (Hc (u:=.agg (Gk.cs c)) (ds:=(Gk.cs c)) Zw O O O O O O O O) (JLm (E8 [(Box.mk 1 ByteArray.empty 40 false 0 0 0 0 false),(Box.mk 2 ByteArray.empty 40 false 0 0 0 0 false),(Box.mk 3 ByteArray.empty 40 false 0 0 0 0 false)]) O (JLm (E2 [(Stowed.mk 1 a),(Stowed.mk 2 b)]) O (G5 (e ?_)))))))
 refine Gq (⟨[.agg (Gk.cs c),E8 [(Box.mk 1 ByteArray.empty 40 false 0 0 0 0 false),(Box.mk 2 ByteArray.empty 40 false 0 0 0 0 false),(Box.mk 3 ByteArray.empty 40 false 0 0 0 0 false)],E2 [(Stowed.mk 1 a),(Stowed.mk 2 b)]],[],G,O,⟨⟨_,⟨_,_,_,_,O,O,O,.inl ⟨Hr,O⟩⟩,.conv (.same O)⟩,⟨_,O,.conv (.same O)⟩,⟨_,O,.conv (.same O)⟩,G⟩,O,congrArg (fun r:Gk×(List Box)×(List Stowed)=>(.tup [.agg (Gk.cs r.1),E8 r.2.1,E2 r.2.2]:AV)) (M5 h)⟩)

def Qu (a:List Int) (b:List Int):Option Bool:=
 bif decide ((a.length:Int)≠(b.length:Int)) then
 (some false)
 else
 (each (fun d e (f:Unit) c=>
   Z3 b (e:Int) fun g=>
   bif decide (d≠g) then
   (some false)
   else
   (c ()))
  (fun(f:Unit)=>
   some true) a 0 ())
theorem Zr (a:List Int) (b:List Int) (r:Bool) (h:Qu a b=some r):Pure Eo 20 [E1 a,E1 b] (·=BL r):=by
 unfold Qu at h
 refine H0 [.tmp 4] Tryz.func20 O O (Jr fun a0=>(JLm (BL false) O (G5 (a0 (Js fun a1=>Jr fun a2=>(JLm (E1 a) O (JLl Gz O O O fun a9=>(JLm (E1 b) O (JLl Gz O O O fun b0=>(JLh (BL (decide ((a.length:Int)≠(b.length:Int)))) (Gec O O O) O (G5 (a2 (JCc O h (fun h hb=>?_) (fun h hb=>?_))))))))))))))
 ·
  refine Jr fun a3=>(JLm (BL false) O (G5 (a3 (Gq (fin1 BL h)))))
 ·
  refine Gr (a1 (Js fun a4=>Jr fun a5=>(JLm (I64 0) O (G5 (a5 (Gx ?_))))))
  obtain⟨a6,l,m,k,h⟩:=Jy h
  refine Jc (fun c (d:Unit)=>each a6 l (List.drop c a) c d=some r) (fun c d=>[(0,E1 a),(1,E1 b),(5,En c)]) (fun c d=>[]) (fun c=>a.length - c) 0 () h ⟨(.sm O O),G,O⟩ ?_
  clear h
  intro c d i b1 a7
  refine Js fun n=>Jr fun o=>(JLm (En c) O (JLm (E1 a) O (JLl Gz O O O fun p=>(JLh (BL (decide ((c:Int) < (a.length:Int)))) (Qg O O O) O (G5 (o (Gn O (fun hb=>?_) (fun hb=>?_))))))))
  ·
   have j:=Qr hb
   obtain⟨e,a8,q,s,h⟩:=Ja i j
   replace h:=G1d m h
   refine Gr (n (Js fun t=>Gx (Js fun u=>?_)))
   obtain⟨b2,g,v,w,h⟩:=Yc h
   refine JC_d0 J0 (by kernel_rfl) (Dq (E1 a) (G6 O O) O (Dq (En c) (G6 O O) O (Dq (.dptr [I64 e]) (Hg (f:=I64) (xs:=a) (y:=e) O O O Gz q O) O (Dq (I64 e) (Gh Gc O O O) O (Dq (E1 b) (G6 O O) O (Dq (En c) (G6 O O) O (Dq (.dptr [I64 g]) (Hg (f:=I64) (xs:=b) (y:=g) O O O Gz w v) O (Dq (I64 g) (Gh Gc O O O) O (Dq (BL (decide (e≠g))) (Gec O O O) O (Dnil (u (JCc O h (fun h hb=>?_) (fun h hb=>?_)))))))))))))
   ·
    refine Jr fun x=>(JLm (BL false) O (G5 (x (Gq (fin1 BL h)))))
   ·
    refine Gr (t (G1 (JLm (En c) O (JLh (I64 ((c+1:Nat):Int)) (Jg (J7 j p) O O O) O (JLm (I64 ((c+1:Nat):Int)) O (G5 (a7 _ _ (c+1) () (app1 s h) (by omega) ⟨(.sm O O),G,rfl⟩)))))))
  ·
   have h:=app1 k (Jb i (Hs hb))
   refine Jf (a4 (Jr fun z=>(JLm (BL true) O (G5 (z (Gq (fin1 BL h)))))))

def Q3 (a:List Stowed) (b:List Stowed):Option Bool:=
 bif decide ((a.length:Int)≠(b.length:Int)) then
 (some false)
 else
 (each (fun d e (f:Unit) c=>
   Z3 b (e:Int) fun g=>
   bif (!decide (d=g)) then
   (some false)
   else
   (c ()))
  (fun(f:Unit)=>
   some true) a 0 ())
theorem Rx (a:List Stowed) (b:List Stowed) (r:Bool) (h:Q3 a b=some r):Pure Eo 9 [E2 a,E2 b] (·=BL r):=by
 unfold Q3 at h
 refine H0 [.tmp 4] Tryz.func9 O O (Jr fun a0=>(JLm (BL false) O (G5 (a0 (Js fun a1=>Jr fun a2=>(JLm (E2 a) O (JLl H4 O O O fun a9=>(JLm (E2 b) O (JLl H4 O O O fun b0=>(JLh (BL (decide ((a.length:Int)≠(b.length:Int)))) (Gec O O O) O (G5 (a2 (JCc O h (fun h hb=>?_) (fun h hb=>?_))))))))))))))
 ·
  refine Jr fun a3=>(JLm (BL false) O (G5 (a3 (Gq (fin1 BL h)))))
 ·
  refine Gr (a1 (Js fun a4=>Jr fun a5=>(JLm (I64 0) O (G5 (a5 (Gx ?_))))))
  obtain⟨a6,l,m,k,h⟩:=Jy h
  refine Jc (fun c (g:Unit)=>each a6 l (List.drop c a) c g=some r) (fun c g=>[(0,E2 a),(1,E2 b),(5,En c)]) (fun c g=>[]) (fun c=>a.length - c) 0 () h ⟨(.sm O O),G,O⟩ ?_
  clear h
  intro c g i b1 a7
  refine Js fun n=>Jr fun o=>(JLm (En c) O (JLm (E2 a) O (JLl H4 O O O fun p=>(JLh (BL (decide ((c:Int) < (a.length:Int)))) (Qg O O O) O (G5 (o (Gn O (fun hb=>?_) (fun hb=>?_))))))))
  ·
   have j:=Qr hb
   obtain⟨d,a8,q,s,h⟩:=Ja i j
   replace h:=G1d m h
   refine Gr (n (Js fun t=>Gx (Js fun u=>?_)))
   obtain⟨b2,e,v,w,h⟩:=Yc h
   refine JC_d0 J0 (by kernel_rfl) (Dq (E2 a) (G6 O O) O (Dq (En c) (G6 O O) O (Dq (Eg d) (Hg (f:=Stowed.av) (xs:=a) (y:=d) O O O H4 q O) O (Dq (.agg (Stowed.cs d)) (Gj R3 O O O) O (Dq (E2 b) (G6 O O) O (Dq (En c) (G6 O O) O (Dq (Eg e) (Hg (f:=Stowed.av) (xs:=b) (y:=e) O O O H4 w v) O (Dq (.agg (Stowed.cs e)) (Gj R3 O O O) O (Dq (BL (!decide (d=e))) (Yfb (vs:=[.int .i64 d.Box,.int .i64 d.Slot.G2,.int .i64 d.Slot.Tier,.int .u8 d.Slot.Half]) (us:=[.int .i64 e.Box,.int .i64 e.Slot.G2,.int .i64 e.Slot.Tier,.int .u8 e.Slot.Half]) 4 O (Z04 d e) Q0d Qec O O O) O (Dnil (u (JCc O h (fun h hb=>?_) (fun h hb=>?_)))))))))))))
   ·
    refine Jr fun x=>(JLm (BL false) O (G5 (x (Gq (fin1 BL h)))))
   ·
    refine Gr (t (G1 (JLm (En c) O (JLh (I64 ((c+1:Nat):Int)) (Jg (J7 j p) O O O) O (JLm (I64 ((c+1:Nat):Int)) O (G5 (a7 _ _ (c+1) () (app1 s h) (by omega) ⟨(.sm O O),G,rfl⟩)))))))
  ·
   have h:=app1 k (Jb i (Hs hb))
   refine Jf (a4 (Jr fun z=>(JLm (BL true) O (G5 (z (Gq (fin1 BL h)))))))

def Yn :Option Bool:=
 bnd (G4b) fun h=>
 bnd (Ge8 h.1 h.2.1 h.2.2 [3]) fun j=>
 bif ((decide (j.2≠0))||false) then
 (some false)
 else
 (bnd (Q5 0 0) fun k=>
  bnd (Q5 3 0) fun l=>
  bnd (Q5 0 0) fun m=>
  bnd (Q5 0 1) fun n=>
  bnd (Q5 0 0) fun o=>
  bnd (Q5 3 0) fun p=>
  bnd (Q5 3 0) fun q=>
  each (fun f w (b:Gb) i=>
   bnd (G1f b f.x) fun g=>
   bif decide (g.1≠f.e) then
   (some false)
   else
   (i g.2))
  (fun(b:Gb)=>
   bnd (Rz b) fun a=>
   bnd (bif decide (a=4) then Qp b else some default) fun r=>
   bnd (bif decide (a=4) then Qu r [1] else some default) fun c=>
   bnd (bif ((decide (a=4))&&c) then Ry b else some default) fun d=>
   bnd (bif (((decide (a=4))&&c)&&(decide ((d.length:Int)=0))) then R0 b else some default) fun s=>
   bnd (bif (((decide (a=4))&&c)&&(decide ((d.length:Int)=0))) then Q5 3 0 else some default) fun t=>
   bnd (bif (((decide (a=4))&&c)&&(decide ((d.length:Int)=0))) then Q5 0 0 else some default) fun u=>
   bnd (bif (((decide (a=4))&&c)&&(decide ((d.length:Int)=0))) then Q3 s [(Stowed.mk 2 t),(Stowed.mk 3 u)] else some default) fun v=>
   some ((((decide (a=4))&&c)&&(decide ((d.length:Int)=0)))&&v)) [(Ha.mk (Move.mk 2 1 k 0) 315),(Ha.mk (Move.mk 1 0 (Slot.mk 0 0 0) 0) 312),(Ha.mk (Move.mk 2 2 l 0) 0),(Ha.mk (Move.mk 1 0 (Slot.mk 0 0 0) 0) 0),(Ha.mk (Move.mk 2 1 m 0) 0),(Ha.mk (Move.mk 3 3 n 0) 318),(Ha.mk (Move.mk 3 3 o 0) 0),(Ha.mk (Move.mk 3 2 p 0) 315),(Ha.mk (Move.mk 4 0 (Slot.mk 0 0 0) 0) 0),(Ha.mk (Move.mk 3 2 q 0) 0)] 0 j.1)
abbrev Kh (a:Gb):List AV:=[E3 a.ship.Columns,E7 a.ship.Covers,I64 a.ship.Light.Kilos,I64 a.ship.Light.X,I64 a.ship.Light.Y,I64 a.ship.Light.Z,E4 a.ship.Rows,E5 a.ship.Frames,E6 a.ship.Tanks,I64 a.ship.G4.Tolerance,I64 a.ship.G4.Trim,I64 a.ship.G4.List_,I64 a.ship.G4.Stability,.mp 1197,.mp 1198,.mp 1199,I64 a.lifts]
abbrev Ki:List AV:=[U8 0,I64 0,I64 0,I64 0,U8 0,I64 0,I64 0]
abbrev Kj:List AV:=[U8 1,I64 0,I64 0,I64 0,U8 0,I64 0,I64 312]
abbrev Kk:List AV:=[U8 4,I64 0,I64 0,I64 0,U8 0,I64 0,I64 0]
abbrev Km:List AV:=[U8 1,I64 0,I64 0,I64 0,U8 0,I64 0,I64 0]
theorem G4a  (r:Bool) (h:Yn =some r):Pure Eo 6 [] (·=BL r):=by
 unfold Yn at h
 refine H0 [.tmp 0] Tryz.func6 O O (Jr fun d5=>(JLm (BL false) O (G5 (d5 (Jr fun d6=>?_)))))
 obtain⟨o,d7,h⟩:=Ga h
 refine JLh (.tup [.agg (Gk.cs o.1),E8 o.2.1,E2 o.2.2]) (Gt O (H84  o d7) Rdc G) O (JLm (.tup [.agg (Gk.cs o.1),E8 o.2.1,E2 o.2.2]) O (JLh (.agg (Gk.cs o.1)) (H1 O O O) O (JLh (E8 o.2.1) (H1 O O O) O (JLh (E2 o.2.2) (H1 O O O) O (JLh (.ptr 1013 0) (Hq 1013 13 Gda O O) O (Hp (u:=.junk) (Hc (u:=.agg (Gk.cs o.1)) (ds:=(Gk.cs o.1)) Zw O O O O O O O O) (JLm (E8 o.2.1) O (JLm (E2 o.2.2) O (G5 (d6 ?_))))))))))
 refine Gm [(1,Ef o.1),(2,E8 o.2.1),(3,E2 o.2.2)] [] 1013 rfl rfl rfl G rfl (by exact⟨.ptr,.conv (.same rfl),.conv (.same rfl),G⟩) (Jr fun d8=>(JLh (.agg (Gk.cs o.1)) (Gj Hr O O O) O (JLm (E8 o.2.1) O (JLm (E2 o.2.2) O (JLh (E1 [3]) (H9 (xs:=[I64 3]) O ⟨O,O,G⟩ Gz R6 O O O O) O ?_)))))
 obtain⟨n,d9,h⟩:=Ga h
 refine JLh (.tup [.ptr 1196 0,I64 n.2]) (Ru (args:=[.agg (Gk.cs o.1),E8 o.2.1,E2 o.2.2,E1 [3]]) (L0:=[]) (Lr:=[(1196,.box 97 [E3 n.1.ship.Columns,E7 n.1.ship.Covers,I64 n.1.ship.Light.Kilos,I64 n.1.ship.Light.X,I64 n.1.ship.Light.Y,I64 n.1.ship.Light.Z,E4 n.1.ship.Rows,E5 n.1.ship.Frames,E6 n.1.ship.Tanks,I64 n.1.ship.G4.Tolerance,I64 n.1.ship.G4.Trim,I64 n.1.ship.G4.List_,I64 n.1.ship.G4.Stability,.mp 1197,.mp 1198,.mp 1199,I64 n.1.lifts]),(1197,TP 93 Slot.kv Box.av n.1.on),(1198,TP 94 Kq Box.av n.1.quay),(1199,TP 95 Kq I64 n.1.open_)]) O (Hb1 o.1 o.2.1 o.2.2 [3] n d9) Hde ⟨.inl O,O,.inl O,O,.inl O,O,.inl O,O,G⟩ G O O O) O (JLm (.tup [.ptr 1196 0,I64 n.2]) O (JLh (.ptr 1196 0) (H1 O O O) O (JLh (I64 n.2) (H1 O O O) O (JLm (.ptr 1196 0) O (JLm (I64 n.2) O (G5 (d8 ?_)))))))
 refine Js fun e0=>Jr fun e1=>(JLm (I64 n.2) O (JLh (BL (decide (n.2≠0))) (Gec O O O) O (JLm (BL (decide (n.2≠0))) O (JLo (.ptr 1196 0) [] O .scf G (fun hc=>G6 O O) O (JLo (BL false) [24] O .scf ⟨Ua,G⟩ (fun hc=>Jcc H61 O O) O (JLh (BL ((decide (n.2≠0))||false)) (G2f O O O O) O (G5 (e1 (JCc O h (fun h hb=>?_) (fun h hb=>?_))))))))))
 ·
  refine Jr fun e2=>(JLm (BL false) O (G5 (e2 (Gq (fin1 BL h)))))
 ·
  refine Gr (e0 (Js fun e3=>Jr fun a6=>?_))
  obtain⟨c,a7,h⟩:=Ga h
  refine JLh (.agg (Slot.cs c)) (Gt O (Q7 0 0 c a7) G2a ⟨O,O,O,O,G⟩) O (JLh (.agg [U8 2,I64 1,I64 c.G2,I64 c.Tier,U8 c.Half,I64 0]) (Hb (cs:=[U8 2,I64 1,I64 c.G2,I64 c.Tier,U8 c.Half,I64 0]) [(0,1),(1,1),(2,3),(5,1)] [U8 0,I64 0,I64 0,I64 0,U8 0,I64 0] [.int .u8 0,E0,E0,E0,.int .u8 0,E0] Qn R7 (zzQ O) O O) O (JLh (.agg [U8 2,I64 1,I64 c.G2,I64 c.Tier,U8 c.Half,I64 0,I64 315]) (Hb (cs:=[U8 2,I64 1,I64 c.G2,I64 c.Tier,U8 c.Half,I64 0,I64 315]) [(0,6),(6,1)] Ki [.int .u8 0,E0,E0,E0,.int .u8 0,E0,E0] G01 G49 (zzQ O) O O) O (JLh (.agg [U8 1,I64 0,I64 0,I64 0,U8 0,I64 0]) (Hb (cs:=[U8 1,I64 0,I64 0,I64 0,U8 0,I64 0]) [(0,1),(1,1),(2,3),(5,1)] [U8 0,I64 0,I64 0,I64 0,U8 0,I64 0] [.int .u8 0,E0,E0,E0,.int .u8 0,E0] Qn R7 (zzQ O) O O) O (JLh (.agg Kj) (Hb (cs:=Kj) [(0,6),(6,1)] Ki [.int .u8 0,E0,E0,E0,.int .u8 0,E0,E0] G01 G49 (zzQ O) O O) O ?_))))
  obtain⟨d,a8,h⟩:=Ga h
  refine JLh (.agg (Slot.cs d)) (Gt O (Q7 3 0 d a8) G2a ⟨O,O,O,O,G⟩) O (JLh (.agg [U8 2,I64 2,I64 d.G2,I64 d.Tier,U8 d.Half,I64 0]) (Hb (cs:=[U8 2,I64 2,I64 d.G2,I64 d.Tier,U8 d.Half,I64 0]) [(0,1),(1,1),(2,3),(5,1)] [U8 0,I64 0,I64 0,I64 0,U8 0,I64 0] [.int .u8 0,E0,E0,E0,.int .u8 0,E0] Qn R7 (zzQ O) O O) O (JLh (.agg [U8 2,I64 2,I64 d.G2,I64 d.Tier,U8 d.Half,I64 0,I64 0]) (Hb (cs:=[U8 2,I64 2,I64 d.G2,I64 d.Tier,U8 d.Half,I64 0,I64 0]) [(0,6),(6,1)] Ki [.int .u8 0,E0,E0,E0,.int .u8 0,E0,E0] G01 G49 (zzQ O) O O) O (JLh (.agg [U8 1,I64 0,I64 0,I64 0,U8 0,I64 0]) (Hb (cs:=[U8 1,I64 0,I64 0,I64 0,U8 0,I64 0]) [(0,1),(1,1),(2,3),(5,1)] [U8 0,I64 0,I64 0,I64 0,U8 0,I64 0] [.int .u8 0,E0,E0,E0,.int .u8 0,E0] Qn R7 (zzQ O) O O) O (JLh (.agg Km) (Hb (cs:=Km) [(0,6),(6,1)] Ki [.int .u8 0,E0,E0,E0,.int .u8 0,E0,E0] G01 G49 (zzQ O) O O) O ?_))))
  obtain⟨i,a9,h⟩:=Ga h
  refine JLh (.agg (Slot.cs i)) (Gt O (Q7 0 0 i a9) G2a ⟨O,O,O,O,G⟩) O (JLh (.agg [U8 2,I64 1,I64 i.G2,I64 i.Tier,U8 i.Half,I64 0]) (Hb (cs:=[U8 2,I64 1,I64 i.G2,I64 i.Tier,U8 i.Half,I64 0]) [(0,1),(1,1),(2,3),(5,1)] [U8 0,I64 0,I64 0,I64 0,U8 0,I64 0] [.int .u8 0,E0,E0,E0,.int .u8 0,E0] Qn R7 (zzQ O) O O) O (JLh (.agg [U8 2,I64 1,I64 i.G2,I64 i.Tier,U8 i.Half,I64 0,I64 0]) (Hb (cs:=[U8 2,I64 1,I64 i.G2,I64 i.Tier,U8 i.Half,I64 0,I64 0]) [(0,6),(6,1)] Ki [.int .u8 0,E0,E0,E0,.int .u8 0,E0,E0] G01 G49 (zzQ O) O O) O ?_))
  obtain⟨j,b0,h⟩:=Ga h
  refine JLh (.agg (Slot.cs j)) (Gt O (Q7 0 1 j b0) G2a ⟨O,O,O,O,G⟩) O (JLh (.agg [U8 3,I64 3,I64 j.G2,I64 j.Tier,U8 j.Half,I64 0]) (Hb (cs:=[U8 3,I64 3,I64 j.G2,I64 j.Tier,U8 j.Half,I64 0]) [(0,1),(1,1),(2,3),(5,1)] [U8 0,I64 0,I64 0,I64 0,U8 0,I64 0] [.int .u8 0,E0,E0,E0,.int .u8 0,E0] Qn R7 (zzQ O) O O) O (JLh (.agg [U8 3,I64 3,I64 j.G2,I64 j.Tier,U8 j.Half,I64 0,I64 318]) (Hb (cs:=[U8 3,I64 3,I64 j.G2,I64 j.Tier,U8 j.Half,I64 0,I64 318]) [(0,6),(6,1)] Ki [.int .u8 0,E0,E0,E0,.int .u8 0,E0,E0] G01 G49 (zzQ O) O O) O ?_))
  obtain⟨k,b1,h⟩:=Ga h
  refine JLh (.agg (Slot.cs k)) (Gt O (Q7 0 0 k b1) G2a ⟨O,O,O,O,G⟩) O (JLh (.agg [U8 3,I64 3,I64 k.G2,I64 k.Tier,U8 k.Half,I64 0]) (Hb (cs:=[U8 3,I64 3,I64 k.G2,I64 k.Tier,U8 k.Half,I64 0]) [(0,1),(1,1),(2,3),(5,1)] [U8 0,I64 0,I64 0,I64 0,U8 0,I64 0] [.int .u8 0,E0,E0,E0,.int .u8 0,E0] Qn R7 (zzQ O) O O) O (JLh (.agg [U8 3,I64 3,I64 k.G2,I64 k.Tier,U8 k.Half,I64 0,I64 0]) (Hb (cs:=[U8 3,I64 3,I64 k.G2,I64 k.Tier,U8 k.Half,I64 0,I64 0]) [(0,6),(6,1)] Ki [.int .u8 0,E0,E0,E0,.int .u8 0,E0,E0] G01 G49 (zzQ O) O O) O ?_))
  obtain⟨l,b2,h⟩:=Ga h
  refine JLh (.agg (Slot.cs l)) (Gt O (Q7 3 0 l b2) G2a ⟨O,O,O,O,G⟩) O (JLh (.agg [U8 3,I64 2,I64 l.G2,I64 l.Tier,U8 l.Half,I64 0]) (Hb (cs:=[U8 3,I64 2,I64 l.G2,I64 l.Tier,U8 l.Half,I64 0]) [(0,1),(1,1),(2,3),(5,1)] [U8 0,I64 0,I64 0,I64 0,U8 0,I64 0] [.int .u8 0,E0,E0,E0,.int .u8 0,E0] Qn R7 (zzQ O) O O) O (JLh (.agg [U8 3,I64 2,I64 l.G2,I64 l.Tier,U8 l.Half,I64 0,I64 315]) (Hb (cs:=[U8 3,I64 2,I64 l.G2,I64 l.Tier,U8 l.Half,I64 0,I64 315]) [(0,6),(6,1)] Ki [.int .u8 0,E0,E0,E0,.int .u8 0,E0,E0] G01 G49 (zzQ O) O O) O (JLh (.agg [U8 4,I64 0,I64 0,I64 0,U8 0,I64 0]) (Hb (cs:=[U8 4,I64 0,I64 0,I64 0,U8 0,I64 0]) [(0,1),(1,1),(2,3),(5,1)] [U8 0,I64 0,I64 0,I64 0,U8 0,I64 0] [.int .u8 0,E0,E0,E0,.int .u8 0,E0] Qn R7 (zzQ O) O O) O (JLh (.agg Kk) (Hb (cs:=Kk) [(0,6),(6,1)] Ki [.int .u8 0,E0,E0,E0,.int .u8 0,E0,E0] G01 G49 (zzQ O) O O) O ?_))))
  obtain⟨m,b3,h⟩:=Ga h
  refine JLh (.agg (Slot.cs m)) (Gt O (Q7 3 0 m b3) G2a ⟨O,O,O,O,G⟩) O (JLh (.agg [U8 3,I64 2,I64 m.G2,I64 m.Tier,U8 m.Half,I64 0]) (Hb (cs:=[U8 3,I64 2,I64 m.G2,I64 m.Tier,U8 m.Half,I64 0]) [(0,1),(1,1),(2,3),(5,1)] [U8 0,I64 0,I64 0,I64 0,U8 0,I64 0] [.int .u8 0,E0,E0,E0,.int .u8 0,E0] Qn R7 (zzQ O) O O) O (JLh (.agg [U8 3,I64 2,I64 m.G2,I64 m.Tier,U8 m.Half,I64 0,I64 0]) (Hb (cs:=[U8 3,I64 2,I64 m.G2,I64 m.Tier,U8 m.Half,I64 0,I64 0]) [(0,6),(6,1)] Ki [.int .u8 0,E0,E0,E0,.int .u8 0,E0,E0] G01 G49 (zzQ O) O O) O (JLh (LS 7 Ha.av [(Ha.mk (Move.mk 2 1 c 0) 315),(Ha.mk (Move.mk 1 0 (Slot.mk 0 0 0) 0) 312),(Ha.mk (Move.mk 2 2 d 0) 0),(Ha.mk (Move.mk 1 0 (Slot.mk 0 0 0) 0) 0),(Ha.mk (Move.mk 2 1 i 0) 0),(Ha.mk (Move.mk 3 3 j 0) 318),(Ha.mk (Move.mk 3 3 k 0) 0),(Ha.mk (Move.mk 3 2 l 0) 315),(Ha.mk (Move.mk 4 0 (Slot.mk 0 0 0) 0) 0),(Ha.mk (Move.mk 3 2 m 0) 0)]) (H9 (xs:=[.agg [U8 2,I64 1,I64 c.G2,I64 c.Tier,U8 c.Half,I64 0,I64 315],.agg Kj,.agg [U8 2,I64 2,I64 d.G2,I64 d.Tier,U8 d.Half,I64 0,I64 0],.agg Km,.agg [U8 2,I64 1,I64 i.G2,I64 i.Tier,U8 i.Half,I64 0,I64 0],.agg [U8 3,I64 3,I64 j.G2,I64 j.Tier,U8 j.Half,I64 0,I64 318],.agg [U8 3,I64 3,I64 k.G2,I64 k.Tier,U8 k.Half,I64 0,I64 0],.agg [U8 3,I64 2,I64 l.G2,I64 l.Tier,U8 l.Half,I64 0,I64 315],.agg Kk,.agg [U8 3,I64 2,I64 m.G2,I64 m.Tier,U8 m.Half,I64 0,I64 0]]) O ⟨O,O,O,O,O,O,O,O,O,O,O,O,O,O,O,O,O,O,O,O,G⟩ J13 Jfa O O O O) O (JLl J13 O O O fun b4=>(JLm (I64 0) O (G5 (a6 ?_)))))))
  refine Gx ?_
  obtain⟨e4,b5,b6,a5,h⟩:=Jy h
  refine Jc (fun p (b:Gb)=>each e4 b5 (List.drop p [(Ha.mk (Move.mk 2 1 c 0) 315),(Ha.mk (Move.mk 1 0 (Slot.mk 0 0 0) 0) 312),(Ha.mk (Move.mk 2 2 d 0) 0),(Ha.mk (Move.mk 1 0 (Slot.mk 0 0 0) 0) 0),(Ha.mk (Move.mk 2 1 i 0) 0),(Ha.mk (Move.mk 3 3 j 0) 318),(Ha.mk (Move.mk 3 3 k 0) 0),(Ha.mk (Move.mk 3 2 l 0) 315),(Ha.mk (Move.mk 4 0 (Slot.mk 0 0 0) 0) 0),(Ha.mk (Move.mk 3 2 m 0) 0)]) p b=some r) (fun p b=>[(4,.ptr 1196 0),(54,LS 7 Ha.av [(Ha.mk (Move.mk 2 1 c 0) 315),(Ha.mk (Move.mk 1 0 (Slot.mk 0 0 0) 0) 312),(Ha.mk (Move.mk 2 2 d 0) 0),(Ha.mk (Move.mk 1 0 (Slot.mk 0 0 0) 0) 0),(Ha.mk (Move.mk 2 1 i 0) 0),(Ha.mk (Move.mk 3 3 j 0) 318),(Ha.mk (Move.mk 3 3 k 0) 0),(Ha.mk (Move.mk 3 2 l 0) 315),(Ha.mk (Move.mk 4 0 (Slot.mk 0 0 0) 0) 0),(Ha.mk (Move.mk 3 2 m 0) 0)]),(55,I64 ([(Ha.mk (Move.mk 2 1 c 0) 315),(Ha.mk (Move.mk 1 0 (Slot.mk 0 0 0) 0) 312),(Ha.mk (Move.mk 2 2 d 0) 0),(Ha.mk (Move.mk 1 0 (Slot.mk 0 0 0) 0) 0),(Ha.mk (Move.mk 2 1 i 0) 0),(Ha.mk (Move.mk 3 3 j 0) 318),(Ha.mk (Move.mk 3 3 k 0) 0),(Ha.mk (Move.mk 3 2 l 0) 315),(Ha.mk (Move.mk 4 0 (Slot.mk 0 0 0) 0) 0),(Ha.mk (Move.mk 3 2 m 0) 0)].length:Int)),(56,En p)]) (fun p b=>[(1196,.box 97 (Kh b)),(1197,TP 93 Slot.kv Box.av b.on),(1198,TP 94 Kq Box.av b.quay),(1199,TP 95 Kq I64 b.open_)]) (fun p=>[(Ha.mk (Move.mk 2 1 c 0) 315),(Ha.mk (Move.mk 1 0 (Slot.mk 0 0 0) 0) 312),(Ha.mk (Move.mk 2 2 d 0) 0),(Ha.mk (Move.mk 1 0 (Slot.mk 0 0 0) 0) 0),(Ha.mk (Move.mk 2 1 i 0) 0),(Ha.mk (Move.mk 3 3 j 0) 318),(Ha.mk (Move.mk 3 3 k 0) 0),(Ha.mk (Move.mk 3 2 l 0) 315),(Ha.mk (Move.mk 4 0 (Slot.mk 0 0 0) 0) 0),(Ha.mk (Move.mk 3 2 m 0) 0)].length - p) 0 n.1 h ⟨(.sm O O),⟨fbQ O (.sm O O),fmQ O,fmQ O,fmQ O,G⟩,rfl⟩ ?_
  clear h
  intro p b a3 e7 e5
  refine Jr fun b7=>(JLh (BL (decide ((p:Int) < ([(Ha.mk (Move.mk 2 1 c 0) 315),(Ha.mk (Move.mk 1 0 (Slot.mk 0 0 0) 0) 312),(Ha.mk (Move.mk 2 2 d 0) 0),(Ha.mk (Move.mk 1 0 (Slot.mk 0 0 0) 0) 0),(Ha.mk (Move.mk 2 1 i 0) 0),(Ha.mk (Move.mk 3 3 j 0) 318),(Ha.mk (Move.mk 3 3 k 0) 0),(Ha.mk (Move.mk 3 2 l 0) 315),(Ha.mk (Move.mk 4 0 (Slot.mk 0 0 0) 0) 0),(Ha.mk (Move.mk 3 2 m 0) 0)].length:Int)))) (Qg O O O) O (G5 (b7 (Js fun b8=>Gn O (fun hb=>?_) (fun hb=>?_)))))
  ·
   have a4:=Qr hb
   obtain⟨q,e6,b9,c0,h⟩:=Ja a3 a4
   replace h:=G1d b6 h
   refine Gr (b8 (Js fun c1=>Gx ?_))
   refine Jr fun c2=>(JLh (.dptr (Ha.cs q)) (Hg (f:=Ha.av) (xs:=[(Ha.mk (Move.mk 2 1 c 0) 315),(Ha.mk (Move.mk 1 0 (Slot.mk 0 0 0) 0) 312),(Ha.mk (Move.mk 2 2 d 0) 0),(Ha.mk (Move.mk 1 0 (Slot.mk 0 0 0) 0) 0),(Ha.mk (Move.mk 2 1 i 0) 0),(Ha.mk (Move.mk 3 3 j 0) 318),(Ha.mk (Move.mk 3 3 k 0) 0),(Ha.mk (Move.mk 3 2 l 0) 315),(Ha.mk (Move.mk 4 0 (Slot.mk 0 0 0) 0) 0),(Ha.mk (Move.mk 3 2 m 0) 0)]) (y:=q) O O O J13 b9 O) O (JLh (.agg (Ha.cs q)) (Gj Y50 O O O) O (JLh (.ptr 1014 0) (Hq 1014 7 Jfa O O) O (Hp (u:=.junk) (Hc (u:=.agg (Ha.cs q)) (ds:=(Ha.cs q)) Rb7 O O O O O O O O) (G5 (c2 ?_))))))
   refine fzQ [(4,.ptr 1196 0),(7,.dptr (Ha.cs q)),(54,LS 7 Ha.av [(Ha.mk (Move.mk 2 1 c 0) 315),(Ha.mk (Move.mk 1 0 (Slot.mk 0 0 0) 0) 312),(Ha.mk (Move.mk 2 2 d 0) 0),(Ha.mk (Move.mk 1 0 (Slot.mk 0 0 0) 0) 0),(Ha.mk (Move.mk 2 1 i 0) 0),(Ha.mk (Move.mk 3 3 j 0) 318),(Ha.mk (Move.mk 3 3 k 0) 0),(Ha.mk (Move.mk 3 2 l 0) 315),(Ha.mk (Move.mk 4 0 (Slot.mk 0 0 0) 0) 0),(Ha.mk (Move.mk 3 2 m 0) 0)]),(55,I64 ([(Ha.mk (Move.mk 2 1 c 0) 315),(Ha.mk (Move.mk 1 0 (Slot.mk 0 0 0) 0) 312),(Ha.mk (Move.mk 2 2 d 0) 0),(Ha.mk (Move.mk 1 0 (Slot.mk 0 0 0) 0) 0),(Ha.mk (Move.mk 2 1 i 0) 0),(Ha.mk (Move.mk 3 3 j 0) 318),(Ha.mk (Move.mk 3 3 k 0) 0),(Ha.mk (Move.mk 3 2 l 0) 315),(Ha.mk (Move.mk 4 0 (Slot.mk 0 0 0) 0) 0),(Ha.mk (Move.mk 3 2 m 0) 0)].length:Int)),(56,En p)] [(1196,.box 97 (Kh b)),(1197,TP 93 Slot.kv Box.av b.on),(1198,TP 94 Kq Box.av b.quay),(1199,TP 95 Kq I64 b.open_)] 1014 rfl rfl rfl ⟨⟨_,rfl,.boxEq rfl rfl⟩,fmQ O,fmQ O,fmQ O,G⟩ rfl ?_
   refine Js fun c3=>?_
   refine Qc (l':=[(4,.ptr 1196 0),(7,.dptr (Ha.cs q)),(54,LS 7 Ha.av [(Ha.mk (Move.mk 2 1 c 0) 315),(Ha.mk (Move.mk 1 0 (Slot.mk 0 0 0) 0) 312),(Ha.mk (Move.mk 2 2 d 0) 0),(Ha.mk (Move.mk 1 0 (Slot.mk 0 0 0) 0) 0),(Ha.mk (Move.mk 2 1 i 0) 0),(Ha.mk (Move.mk 3 3 j 0) 318),(Ha.mk (Move.mk 3 3 k 0) 0),(Ha.mk (Move.mk 3 2 l 0) 315),(Ha.mk (Move.mk 4 0 (Slot.mk 0 0 0) 0) 0),(Ha.mk (Move.mk 3 2 m 0) 0)]),(55,I64 ([(Ha.mk (Move.mk 2 1 c 0) 315),(Ha.mk (Move.mk 1 0 (Slot.mk 0 0 0) 0) 312),(Ha.mk (Move.mk 2 2 d 0) 0),(Ha.mk (Move.mk 1 0 (Slot.mk 0 0 0) 0) 0),(Ha.mk (Move.mk 2 1 i 0) 0),(Ha.mk (Move.mk 3 3 j 0) 318),(Ha.mk (Move.mk 3 3 k 0) 0),(Ha.mk (Move.mk 3 2 l 0) 315),(Ha.mk (Move.mk 4 0 (Slot.mk 0 0 0) 0) 0),(Ha.mk (Move.mk 3 2 m 0) 0)].length:Int)),(56,En p)]) (L':=[(1196,.box 97 (Kh b)),(1197,TP 93 Slot.kv Box.av b.on),(1198,TP 94 Kq Box.av b.quay),(1199,TP 95 Kq I64 b.open_)]) ⟨(.sm O O),⟨fbQ O (.sm O O),fmQ O,fmQ O,fmQ O,G⟩,rfl⟩ ?_
   obtain⟨a,c4,h⟩:=Ga h
   refine J5 [3] [0,0,0,0,0,0,1] [0,0,0,0,1,1,1] [[(1196,.box 97 (Kh b)),(1197,TP 93 Slot.kv Box.av b.on),(1198,TP 94 Kq Box.av b.quay),(1199,TP 95 Kq I64 b.open_)],[(1196,.box 97 [E3 a.2.ship.Columns,E7 a.2.ship.Covers,I64 a.2.ship.Light.Kilos,I64 a.2.ship.Light.X,I64 a.2.ship.Light.Y,I64 a.2.ship.Light.Z,E4 a.2.ship.Rows,E5 a.2.ship.Frames,E6 a.2.ship.Tanks,I64 a.2.ship.G4.Tolerance,I64 a.2.ship.G4.Trim,I64 a.2.ship.G4.List_,I64 a.2.ship.G4.Stability,.mp 1197,.mp 1198,.mp 1199,I64 a.2.lifts]),(1197,TP 93 Slot.kv Box.av a.2.on),(1198,TP 94 Kq Box.av a.2.quay),(1199,TP 95 Kq I64 a.2.open_)]] J0 (by kernel_rfl) rfl rfl ?_
   refine Gd (u:=.ptr 1196 0) O O ⟨Ge (G6 O O) O,G⟩ (Gd (u:=.dptr (Ha.cs q)) O O ⟨Ge (G9 Qd4 O O O) O,G⟩ (Gd (u:=.agg (Move.cs q.x)) O O ⟨Ge (Gj G33 O O O) O,G⟩ (D_w (u:=I64 a.1) O O O O (Ge (Ru (args:=[.ptr 1196 0,.agg (Move.cs q.x)]) (L0:=[(1196,.box 97 (Kh b)),(1197,TP 93 Slot.kv Box.av b.on),(1198,TP 94 Kq Box.av b.quay),(1199,TP 95 Kq I64 b.open_)]) (Lr:=[(1196,.box 97 [E3 a.2.ship.Columns,E7 a.2.ship.Covers,I64 a.2.ship.Light.Kilos,I64 a.2.ship.Light.X,I64 a.2.ship.Light.Y,I64 a.2.ship.Light.Z,E4 a.2.ship.Rows,E5 a.2.ship.Frames,E6 a.2.ship.Tanks,I64 a.2.ship.G4.Tolerance,I64 a.2.ship.G4.Trim,I64 a.2.ship.G4.List_,I64 a.2.ship.G4.Stability,.mp 1197,.mp 1198,.mp 1199,I64 a.2.lifts]),(1197,TP 93 Slot.kv Box.av a.2.on),(1198,TP 94 Kq Box.av a.2.quay),(1199,TP 95 Kq I64 a.2.open_)]) O (Ga3 b q.x a c4) Hb6 ⟨.inl O,O,.inl O,O,G⟩ ⟨O,O,O,O,G⟩ O O O) O) (Gd (u:=.dptr [I64 q.e]) O O ⟨Ge (G9 J5a O O O) O,Ge (G9 J5a O O O) O,G⟩ (Gd (u:=I64 q.e) O O ⟨Ge (Gh Hd4 O O O) O,Ge (Gh Hd4 O O O) O,G⟩ (Gd (u:=BL (decide (a.1≠q.e))) O O ⟨Ge (Gec O O O) O,G⟩ (Qw ?_)))))))
   refine c3 (JCc O h (fun h hb=>?_) (fun h hb=>?_))
   ·
    refine Jr fun c5=>(JLm (BL false) O (G5 (c5 (Gq (fin1 BL h)))))
   ·
    refine Gr (c1 (G1 (JLh (I64 ((p+1:Nat):Int)) (Jg (J7 a4 b4) O O O) O (JLm (I64 ((p+1:Nat):Int)) O (G5 (e5 _ _ (p+1) a.2 (app1 c0 h) (by omega) ⟨(.sm O O),⟨fbQ O (.sm O O),fmQ O,fmQ O,fmQ O,G⟩,rfl⟩))))))
  ·
   have h:=app1 a5 (Jb a3 (Hs hb))
   refine Jf (e3 (Jr fun c6=>(JLm (.ptr 1196 0) O ?_)))
   obtain⟨v,c7,h⟩:=Ga h
   refine JLh (I64 v) (Zc (args:=[.dptr (Gb.cs b)]) O (G44 b v c7) H6e ⟨.ptrL O (dnQ 13 O O ⟨.mp O,.mp O,.mp O,.data O O,G⟩),G⟩ O) O (JLh (BL (decide (v=4))) (Q0 O O O) O (JLm (BL (decide (v=4))) O (JLo (.ptr 1196 0) [] O .sct G (fun hc=>G6 O O) O ?_)))
   obtain⟨a0,c8,h⟩:=Ga h
   refine JLo (E1 a0) [72] O .sct ⟨Ua,G⟩ (fun hc=>Y9 (args:=[.dptr (Gb.cs b)]) (g:=I64) (r:=a0) O (G6b b a0 (H3 hc c8)) Gd3 ⟨.ptrL O (dnQ 13 O O ⟨.mp O,.mp O,.mp O,.data O O,G⟩),G⟩ (fun _=>O)) O (JLo (E1 [1]) [] O .sct G (fun hc=>H9 (xs:=[I64 1]) O ⟨O,O,G⟩ Gz R6 O O O O) O ?_)
   obtain⟨z,c9,h⟩:=Ga h
   refine JLo (BL z) [73,74] O .sct ⟨Ua,Ua,G⟩ (fun hc=>Gt (args:=[E1 a0,E1 [1]]) O (Zr a0 [1] z (H3 hc c9)) Hdd ⟨O,O,O,O,G⟩) O (JLh (BL ((decide (v=4))&&z)) (Ro O O O O) O (JLm (BL ((decide (v=4))&&z)) O (JLo (.ptr 1196 0) [] O .sct G (fun hc=>G6 O O) O ?_)))
   obtain⟨w,d0,h⟩:=Ga h
   refine JLo (E1 w) [78] O .sct ⟨Ua,G⟩ (fun hc=>Y9 (args:=[.dptr (Gb.cs b)]) (g:=I64) (r:=w) O (G5b b w (H3 hc d0)) H0d ⟨.ptrL O (dnQ 13 O O ⟨.mp O,.mp O,.mp O,.data O O,G⟩),G⟩ (fun _=>O)) O (JLo (En w.length) [79] O .sct ⟨Ua,G⟩ (fun hc=>G20 (f:=I64) (xs:=w) Gz O O) O (JLo (BL (decide ((w.length:Int)=0))) [80] O .sct ⟨Ua,G⟩ (fun hc=>Q0 O O O) O (JLh (BL (((decide (v=4))&&z)&&(decide ((w.length:Int)=0)))) (Ro O O O O) O (JLm (BL (((decide (v=4))&&z)&&(decide ((w.length:Int)=0)))) O (JLo (.ptr 1196 0) [] O .sct G (fun hc=>G6 O O) O ?_)))))
   obtain⟨a1,d1,h⟩:=Ga h
   refine JLo (E2 a1) [84] O .sct ⟨Ua,G⟩ (fun hc=>Y9 (args:=[.dptr (Gb.cs b)]) (g:=Stowed.av) (r:=a1) O (G0f.down b a1 (H3 hc d1)) G8e ⟨.ptrL O (dnQ 13 O O ⟨.mp O,.mp O,.mp O,.data O O,G⟩),G⟩ (fun _=>O)) O ?_
   obtain⟨s,d2,h⟩:=Ga h
   refine JLo (.agg (Slot.cs s)) [] O .sct G (fun hc=>Gt (args:=[I64 3,I64 0]) O (Q7 3 0 s (H3 hc d2)) G2a ⟨O,O,O,O,G⟩) O (JLo (.agg [I64 2,I64 s.G2,I64 s.Tier,U8 s.Half]) [86] O .sct ⟨Ua,G⟩ (fun hc=>Hb (cs:=[I64 2,I64 s.G2,I64 s.Tier,U8 s.Half]) [(0,1),(1,3)] [I64 0,I64 0,I64 0,U8 0] [E0,E0,E0,.int .u8 0] Rt Z4 (zzQ O) O O) O ?_)
   obtain⟨t,d3,h⟩:=Ga h
   refine JLo (.agg (Slot.cs t)) [] O .sct G (fun hc=>Gt (args:=[I64 0,I64 0]) O (Q7 0 0 t (H3 hc d3)) G2a ⟨O,O,O,O,G⟩) O (JLo (.agg [I64 3,I64 t.G2,I64 t.Tier,U8 t.Half]) [88] O .sct ⟨Ua,G⟩ (fun hc=>Hb (cs:=[I64 3,I64 t.G2,I64 t.Tier,U8 t.Half]) [(0,1),(1,3)] [I64 0,I64 0,I64 0,U8 0] [E0,E0,E0,.int .u8 0] Rt Z4 (zzQ O) O O) O (JLo (E2 [(Stowed.mk 2 s),(Stowed.mk 3 t)]) [87,89] O .sct ⟨Ua,Ua,G⟩ (fun hc=>H9 (xs:=[.agg [I64 2,I64 s.G2,I64 s.Tier,U8 s.Half],.agg [I64 3,I64 t.G2,I64 t.Tier,U8 t.Half]]) O ⟨O,O,O,O,G⟩ H4 Jx O O O O) O ?_))
   obtain⟨a2,d4,h⟩:=Ga h
   refine JLo (BL a2) [85,90] O .sct ⟨Ua,Ua,G⟩ (fun hc=>Gt (args:=[E2 a1,E2 [(Stowed.mk 2 s),(Stowed.mk 3 t)]]) O (Rx a1 [(Stowed.mk 2 s),(Stowed.mk 3 t)] a2 (H3 hc d4)) Hb5 ⟨O,O,O,O,G⟩) O (JLh (BL ((((decide (v=4))&&z)&&(decide ((w.length:Int)=0)))&&a2)) (Ro O O O O) O (JLm (BL ((((decide (v=4))&&z)&&(decide ((w.length:Int)=0)))&&a2)) O (G5 (c6 (Gq (fin1 BL h))))))

end
end Go.Proofs.YtidpfkmbfgihlaaGreat
