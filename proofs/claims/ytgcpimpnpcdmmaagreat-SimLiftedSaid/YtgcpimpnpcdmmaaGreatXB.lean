/- Walks of functions. -/
import Derived.Test.YtgcpimpnpcdmmaaGreatXM
set_option maxRecDepth 100000
set_option maxHeartbeats 1000000
set_option linter.unusedVariables false
set_option linter.unusedSimpArgs false
namespace Go.Proofs.YtgcpimpnpcdmmaaGreat
open Go.RowKit
noncomputable section
structure H5 where
 x:Move
 e:Int
 deriving DecidableEq,Inhabited
def H5.cs (x:H5):List AV:=[U8 x.x.Kind,I64 x.x.Box,I64 x.x.Slot.G3,I64 x.x.Slot.Tier,U8 x.x.Slot.Half,I64 x.x.G9,I64 x.e]
def H5.av (x:H5):AV:=.agg x.cs
namespace XBF
open XAF
open XCF
open XSF
open XKF
open XTF
open XUF
open XVF
open XMF
theorem Zd1 (a b:G1):Jb2 En 4 64 [.int .i64 a.Box,.int .i64 a.Slot.G3,.int .i64 a.Slot.Tier,.int .u8 a.Slot.Half] [.int .i64 b.Box,.int .i64 b.Slot.G3,.int .i64 b.Slot.Tier,.int .u8 b.Slot.Half]=some (decide (a=b)):=by
 refine(show _=some ((a.Box==b.Box)&&(((a.Slot.G3==b.Slot.G3)&&((a.Slot.Tier==b.Slot.Tier)&&((a.Slot.Half==b.Slot.Half)&&true)))&&true)) by kernel_rfl).trans (congrArg some ?_)
 rw [Bool.eq_iff_iff]
 simp only [Mj,beq_iff_eq,Mk,Bool.and_true]
 constructor
 ·intro h; obtain⟨_,⟨_,_,_⟩⟩:=a; obtain⟨_,⟨_,_,_⟩⟩:=b; simp_all
 ·intro h; subst h; simp
theorem Ya6:H35 En 82 7=true:=by kernel_rfl
theorem Rb9:G51 En 64=true:=by kernel_rfl
theorem Ja7:H0 En 10=true:=by kernel_rfl
theorem Ja5:H0 En 13=true:=by kernel_rfl
theorem Ja3:H0 En 16=true:=by kernel_rfl
theorem Qae:H0 En 18=true:=by kernel_rfl
theorem Qad:H0 En 19=true:=by kernel_rfl
theorem Qac:H0 En 20=true:=by kernel_rfl
theorem Qab:H0 En 21=true:=by kernel_rfl
theorem Qaa:H0 En 22=true:=by kernel_rfl
theorem Y2c:H0 En 26=true:=by kernel_rfl
theorem G29:H0 En 27=true:=by kernel_rfl
theorem Y23:H0 En 38=true:=by kernel_rfl
theorem Y1e:H0 En 52=true:=by kernel_rfl
theorem Ya5:En.eqGuardType En.depth 64=false:=by kernel_rfl
theorem R0e:Ju En 82 0 0=true:=by kernel_rfl
theorem J88:Ju En 82 1 6=true:=by kernel_rfl
theorem Zu:placesOf En 82=some [(0,6),(6,1)]:=by kernel_rfl
theorem Y05:Y7 En 82 7=true:=by kernel_rfl
theorem J36:sliceB En 83 82 7=true:=by kernel_rfl
theorem G47:(En.info? 82).bind (fun i=>i.zero.map Value.cells)=some (List.toArray [.int .u8 0,E0,E0,E0,.int .u8 0,E0,E0]):=by kernel_rfl
theorem Q2e:R1 En 82 7=true:=by kernel_rfl
end XBF
open XAF
open XCF
open XSF
open XKF
open XTF
open XUF
open XVF
open XMF
open XBF

def Zp (y:G1) (a:G1):Option Bool:=
 some (decide (y.Box=a.Box))
theorem H75 (y:G1) (a:G1) (r:Bool) (h:Zp y a=some r):Pure En 38 [.agg (G1.cs y),Eh a] (·=BL r):=by
 unfold Zp at h
 refine Gx [.tmp 3] Tryz.func38 O O (Jr fun b=>(JLh (.ptr 1072 0) (Q4 (cs:=[I64 y.Box,I64 y.Slot.G3,I64 y.Slot.Tier,U8 y.Slot.Half]) 1072 O O O O O) O (JLm (BL false) O (G5 (b (Gn [(1,Eh a),(2,Eh y)] [] 1072 rfl rfl rfl ø rfl (by exact⟨.conv (.same rfl),.ptr,ø⟩) (Jr fun c=>(JLh (Eh y) (Ga J6 O O O) O (JLh (I64 y.Box) (Gg Gb O O O) O (JLh (Eh a) (Ga J6 O O O) O (JLh (I64 a.Box) (Gg Gb O O O) O (JLh (BL (decide (y.Box=a.Box))) (Qk O O O) O (JLm (BL (decide (y.Box=a.Box))) O (G5 (c (Gs (fin1 BL h)))))))))))))))))

def Qy (af:List G1) (bf:List G1):Option (List Int):=
 each (fun b g (a:(List Int)) d=>
  jp (fun c=>
   bnd (Hw bf (fun z0=>Zp z0 b)) fun e=>
   bif (!e) then
   (need (decide ((a.length+[b.Box].length)*8≤140737488355328∧a.length+[b.Box].length≤maxLen)) <|
    c (a++[b.Box]))
   else
   (c a)) fun(f:(List Int))=>
  d f)
 (fun(a:(List Int))=>
  some a) af 0 []
theorem G31 (af:List G1) (bf:List G1) (r:(List Int)) (h:Qy af bf=some r):Pure En 11 [E1 af,E1 bf] (·=E2 r):=by
 unfold Qy at h
 refine Gx [.tmp 4] Tryz.func11 O O (Jr fun a2=>(JLh (E2 ([]:List Int)) (Jh 1 O O) O (G5 (a2 (Jr fun a3=>(JLh (OW 1019 1 I64 ([]:List Int)) (H5f 1019 3 1 O O O) O (G5 (a3 (Js fun a4=>Jr fun a5=>(JLm (E1 af) O (JLl H3 O O O fun a6=>(JLm (I64 0) O (G5 (a5 (Gq ?_)))))))))))))))
 obtain⟨a7,m,n,k,h⟩:=Jc h
 refine Hn (fun d (c:(List Int))=>each a7 m (List.drop d af) d c=some r) (fun d c=>[(1,E1 bf),(5,OW 1019 1 I64 c),(8,E1 af),(9,Em af.length),(10,Em d)]) (fun d c=>[(1019,.spare 3 1 c.length c.length)]) (fun d=>af.length - d) 0 [] h ⟨(.sm O O),⟨⟨_,rfl,.same⟩,ø⟩,rfl⟩ ?_
 clear h
 intro d c i b0 a8
 refine Jr fun o=>(JLh (BL (decide ((d:Int) < (af.length:Int)))) (Jo O O O) O (G5 (o (Js fun p=>Gr O (fun hb=>?_) (fun hb=>?_)))))
 ·
  have j:=Q1 hb
  obtain⟨a,a9,s,t,h⟩:=Ht i j
  replace h:=Zn n h
  refine Gm (p ?_)
  obtain⟨v,l,h⟩:=Rm h
  refine Qi (fun e:(List Int)=>v e=some r) (fun e=>[(1,E1 bf),(5,OW 1019 1 I64 e),(8,E1 af),(9,Em af.length),(10,Em d)]) (fun e=>[(1019,.spare 3 1 e.length e.length)]) (fun Kj24 ej24=>?_) ?_
  ·
   refine Gq (Jr fun w=>(JLh (Eh a) (Hb (f:=G1.av) (xs:=af) (y:=a) O O O H3 s O) O (JLh (.agg (G1.cs a)) (Gk Qd O O O) O (JLh (.ptr 1020 0) (Hk 1020 4 Jy O O) O (Ho (u:=.junk) (H7 (u:=.agg (G1.cs a)) (ds:=[I64 a.Box,I64 a.Slot.G3,I64 a.Slot.Tier,U8 a.Slot.Half]) Rk O O O O O O O O) (G5 (w (fzQ [(1,E1 bf),(5,OW 1019 1 I64 c),(7,Eh a),(8,E1 af),(9,Em af.length),(10,Em d)] [(1019,.spare 3 1 c.length c.length)] 1020 rfl rfl rfl ⟨⟨_,rfl,.same⟩,ø⟩ rfl ?_))))))))
   refine Jr fun x=>(JLm (E1 bf) O (JLh (.fn 38 [.dptr (G1.cs a)]) (Q2 (cs:=[.dptr (G1.cs a)]) O O) O ?_))
   obtain⟨g,z,h⟩:=Ge h
   refine JLh (BL g) (Gu O (Z8 bf (fun z0=>Zp z0 a) 38 [.dptr (G1.cs a)] Y23 O (fun z0 q hq=>H75 z0 a q hq) g z) Ja4 ⟨O,O,O,O,ø⟩) O (JLh (BL (!g)) (Y8 (b:=g) O O) O (G5 (x (JCc O h (fun h hb=>?_) (fun h hb=>?_)))))
   ·
    refine G2 (JLm (OW 1019 1 I64 c) O (JLh (Eh a) (Ga J6 O O O) O (JLh (I64 a.Box) (Gg Gb O O O) O (JLh (E2 [a.Box]) (He (xs:=[I64 a.Box]) O ⟨O,O,ø⟩ H1 Y0 O O O O) O ?_))))
    obtain⟨a0,h⟩:=Ji h
    refine JLh (OW 1019 1 I64 (c++[a.Box])) (Yb (f:=I64) (xs:=c) (ys:=[a.Box]) O O O O H1 G89 a0 (fun _=>O) (.inl O) O) O (JLm (OW 1019 1 I64 (c++[a.Box])) O (G5 (ej24 _ _ (c++[a.Box]) h ⟨(.sm O O),⟨⟨_,rfl,.same⟩,ø⟩,rfl⟩)))
   ·
    refine Gm (ej24 _ _ c h ⟨(.sm O O),⟨⟨_,rfl,.same⟩,ø⟩,rfl⟩)
  ·intro e h
   replace h:=app1 l h
   refine G2 (JLh (I64 ((d+1:Nat):Int)) (Ja (Hp j a6) O O O) O (JLm (I64 ((d+1:Nat):Int)) O (G5 (a8 _ _ (d+1) e (app1 t h) (by omega) ⟨(.sm O O),⟨⟨_,rfl,.same⟩,ø⟩,rfl⟩))))
 ·
  have h:=app1 k (Hu i (Hh hb))
  refine Hr (a4 (Jr fun a1=>(JLm (OW 1019 1 I64 c) O (JLm (OW 1019 1 I64 c) O (G5 (a1 (Gs (fin1l (fun r:(List Int)=>(E2 r:AV)) h))))))))

def G4b :Option Gi:=
 some (Gi.mk ([(G3.mk 0 0 false 2 0 0 0 0 [] 0 0 0),(G3.mk 0 1 false 2 0 0 0 0 [] 0 0 0),(G3.mk 0 0 true 3 0 0 0 0 [] 0 0 0),(G3.mk 0 1 true 3 0 0 0 0 [] 0 0 0),(G3.mk 1 1 true 4 0 0 0 0 [] 0 0 0)]) ([(G9.mk 0 [0,1])]) (Light.mk 0 0 0 0) [] [] [] (G8.mk 0 0 0 0))
abbrev Kk:List AV:=[E3 ([]:List G3),E8 ([]:List G9),I64 0,I64 0,I64 0,I64 0,E4 ([]:List Row),E5 ([]:List Frame),E6 ([]:List H2),I64 0,I64 0,I64 0,I64 0]
theorem H98  (r:Gi) (h:G4b =some r):Pure En 52 [] (·=.agg (Gi.cs r)):=by
 unfold G4b at h
 refine Gx [.cell 0 36] Tryz.func52 O O (Jr fun a=>(JLh (.ptr 1090 0) (G06 1090 Kk [.slice none 0 0,.slice none 0 0,E0,E0,E0,E0,.slice none 0 0,.slice none 0 0,.slice none 0 0,E0,E0,E0,E0] Ge4 ⟨.inr ⟨_,O,O⟩,.inr ⟨_,O,O⟩,.inl O,.inl O,.inl O,.inl O,.inr ⟨_,O,O⟩,.inr ⟨_,O,O⟩,.inr ⟨_,O,O⟩,.inl O,.inl O,.inl O,.inl O,ø⟩ O O) O (G5 (a ?_))))
 refine Jr fun b=>(JLh (.agg [I64 0,I64 0,BL false,I64 2,I64 0,I64 0,I64 0,I64 0,E2 ([]:List Int),I64 0,I64 0,I64 0]) (Hg (cs:=[I64 0,I64 0,BL false,I64 2,I64 0,I64 0,I64 0,I64 0,E2 ([]:List Int),I64 0,I64 0,I64 0]) [(0,1),(1,1),(2,1),(3,1),(4,1),(5,1),(6,1),(7,1),(8,1),(9,1),(10,1),(11,1)] [I64 0,I64 0,BL false,I64 0,I64 0,I64 0,I64 0,I64 0,E2 ([]:List Int),I64 0,I64 0,I64 0] [E0,E0,.bool false,E0,E0,E0,E0,E0,.slice none 0 0,E0,E0,E0] G6f Ge2 ⟨.inl O,.inl O,.inl O,.inl O,.inl O,.inl O,.inl O,.inl O,.inr ⟨_,O,O⟩,.inl O,.inl O,.inl O,ø⟩ O O) O (JLh (.agg [I64 0,I64 1,BL false,I64 2,I64 0,I64 0,I64 0,I64 0,E2 ([]:List Int),I64 0,I64 0,I64 0]) (Hg (cs:=[I64 0,I64 1,BL false,I64 2,I64 0,I64 0,I64 0,I64 0,E2 ([]:List Int),I64 0,I64 0,I64 0]) [(0,1),(1,1),(2,1),(3,1),(4,1),(5,1),(6,1),(7,1),(8,1),(9,1),(10,1),(11,1)] [I64 0,I64 0,BL false,I64 0,I64 0,I64 0,I64 0,I64 0,E2 ([]:List Int),I64 0,I64 0,I64 0] [E0,E0,.bool false,E0,E0,E0,E0,E0,.slice none 0 0,E0,E0,E0] G6f Ge2 ⟨.inl O,.inl O,.inl O,.inl O,.inl O,.inl O,.inl O,.inl O,.inr ⟨_,O,O⟩,.inl O,.inl O,.inl O,ø⟩ O O) O (JLh (.agg [I64 0,I64 0,BL true,I64 3,I64 0,I64 0,I64 0,I64 0,E2 ([]:List Int),I64 0,I64 0,I64 0]) (Hg (cs:=[I64 0,I64 0,BL true,I64 3,I64 0,I64 0,I64 0,I64 0,E2 ([]:List Int),I64 0,I64 0,I64 0]) [(0,1),(1,1),(2,1),(3,1),(4,1),(5,1),(6,1),(7,1),(8,1),(9,1),(10,1),(11,1)] [I64 0,I64 0,BL false,I64 0,I64 0,I64 0,I64 0,I64 0,E2 ([]:List Int),I64 0,I64 0,I64 0] [E0,E0,.bool false,E0,E0,E0,E0,E0,.slice none 0 0,E0,E0,E0] G6f Ge2 ⟨.inl O,.inl O,.inl O,.inl O,.inl O,.inl O,.inl O,.inl O,.inr ⟨_,O,O⟩,.inl O,.inl O,.inl O,ø⟩ O O) O (JLh (.agg [I64 0,I64 1,BL true,I64 3,I64 0,I64 0,I64 0,I64 0,E2 ([]:List Int),I64 0,I64 0,I64 0]) (Hg (cs:=[I64 0,I64 1,BL true,I64 3,I64 0,I64 0,I64 0,I64 0,E2 ([]:List Int),I64 0,I64 0,I64 0]) [(0,1),(1,1),(2,1),(3,1),(4,1),(5,1),(6,1),(7,1),(8,1),(9,1),(10,1),(11,1)] [I64 0,I64 0,BL false,I64 0,I64 0,I64 0,I64 0,I64 0,E2 ([]:List Int),I64 0,I64 0,I64 0] [E0,E0,.bool false,E0,E0,E0,E0,E0,.slice none 0 0,E0,E0,E0] G6f Ge2 ⟨.inl O,.inl O,.inl O,.inl O,.inl O,.inl O,.inl O,.inl O,.inr ⟨_,O,O⟩,.inl O,.inl O,.inl O,ø⟩ O O) O (JLh (.agg [I64 1,I64 1,BL true,I64 4,I64 0,I64 0,I64 0,I64 0,E2 ([]:List Int),I64 0,I64 0,I64 0]) (Hg (cs:=[I64 1,I64 1,BL true,I64 4,I64 0,I64 0,I64 0,I64 0,E2 ([]:List Int),I64 0,I64 0,I64 0]) [(0,1),(1,1),(2,1),(3,1),(4,1),(5,1),(6,1),(7,1),(8,1),(9,1),(10,1),(11,1)] [I64 0,I64 0,BL false,I64 0,I64 0,I64 0,I64 0,I64 0,E2 ([]:List Int),I64 0,I64 0,I64 0] [E0,E0,.bool false,E0,E0,E0,E0,E0,.slice none 0 0,E0,E0,E0] G6f Ge2 ⟨.inl O,.inl O,.inl O,.inl O,.inl O,.inl O,.inl O,.inl O,.inr ⟨_,O,O⟩,.inl O,.inl O,.inl O,ø⟩ O O) O (JLh (E3 ([(G3.mk 0 0 false 2 0 0 0 0 [] 0 0 0),(G3.mk 0 1 false 2 0 0 0 0 [] 0 0 0),(G3.mk 0 0 true 3 0 0 0 0 [] 0 0 0),(G3.mk 0 1 true 3 0 0 0 0 [] 0 0 0),(G3.mk 1 1 true 4 0 0 0 0 [] 0 0 0)])) (He (xs:=[.agg [I64 0,I64 0,BL false,I64 2,I64 0,I64 0,I64 0,I64 0,E2 ([]:List Int),I64 0,I64 0,I64 0],.agg [I64 0,I64 1,BL false,I64 2,I64 0,I64 0,I64 0,I64 0,E2 ([]:List Int),I64 0,I64 0,I64 0],.agg [I64 0,I64 0,BL true,I64 3,I64 0,I64 0,I64 0,I64 0,E2 ([]:List Int),I64 0,I64 0,I64 0],.agg [I64 0,I64 1,BL true,I64 3,I64 0,I64 0,I64 0,I64 0,E2 ([]:List Int),I64 0,I64 0,I64 0],.agg [I64 1,I64 1,BL true,I64 4,I64 0,I64 0,I64 0,I64 0,E2 ([]:List Int),I64 0,I64 0,I64 0]]) O ⟨O,O,O,O,O,O,O,O,O,O,ø⟩ Hy G35 O O O O) O (JLh (E2 [0,1]) (He (xs:=[I64 0,I64 1]) O ⟨O,O,O,O,ø⟩ H1 Y0 O O O O) O (JLh (.agg [I64 0,E2 [0,1]]) (Hg (cs:=[I64 0,E2 [0,1]]) [(0,1),(1,1)] [I64 0,E2 ([]:List Int)] [E0,.slice none 0 0] Hc7 J35 ⟨.inl O,.inr ⟨_,O,O⟩,ø⟩ O O) O (JLh (E8 ([(G9.mk 0 [0,1])])) (He (xs:=[.agg [I64 0,E2 [0,1]]]) O ⟨O,O,ø⟩ Qj H03 O O O O) O (JLh (.agg [E3 ([(G3.mk 0 0 false 2 0 0 0 0 [] 0 0 0),(G3.mk 0 1 false 2 0 0 0 0 [] 0 0 0),(G3.mk 0 0 true 3 0 0 0 0 [] 0 0 0),(G3.mk 0 1 true 3 0 0 0 0 [] 0 0 0),(G3.mk 1 1 true 4 0 0 0 0 [] 0 0 0)]),E8 ([(G9.mk 0 [0,1])]),I64 0,I64 0,I64 0,I64 0,E4 ([]:List Row),E5 ([]:List Frame),E6 ([]:List H2),I64 0,I64 0,I64 0,I64 0]) (Hg (cs:=[E3 ([(G3.mk 0 0 false 2 0 0 0 0 [] 0 0 0),(G3.mk 0 1 false 2 0 0 0 0 [] 0 0 0),(G3.mk 0 0 true 3 0 0 0 0 [] 0 0 0),(G3.mk 0 1 true 3 0 0 0 0 [] 0 0 0),(G3.mk 1 1 true 4 0 0 0 0 [] 0 0 0)]),E8 ([(G9.mk 0 [0,1])]),I64 0,I64 0,I64 0,I64 0,E4 ([]:List Row),E5 ([]:List Frame),E6 ([]:List H2),I64 0,I64 0,I64 0,I64 0]) [(0,1),(1,1),(2,4),(6,1),(7,1),(8,1),(9,4)] Kk [.slice none 0 0,.slice none 0 0,E0,E0,E0,E0,.slice none 0 0,.slice none 0 0,.slice none 0 0,E0,E0,E0,E0] Jc5 Ge4 ⟨.inr ⟨_,O,O⟩,.inr ⟨_,O,O⟩,.inl O,.inl O,.inl O,.inl O,.inr ⟨_,O,O⟩,.inr ⟨_,O,O⟩,.inr ⟨_,O,O⟩,.inl O,.inl O,.inl O,.inl O,ø⟩ O O) O (Ho (u:=.junk) (H7 (u:=.agg [E3 ([(G3.mk 0 0 false 2 0 0 0 0 [] 0 0 0),(G3.mk 0 1 false 2 0 0 0 0 [] 0 0 0),(G3.mk 0 0 true 3 0 0 0 0 [] 0 0 0),(G3.mk 0 1 true 3 0 0 0 0 [] 0 0 0),(G3.mk 1 1 true 4 0 0 0 0 [] 0 0 0)]),E8 ([(G9.mk 0 [0,1])]),I64 0,I64 0,I64 0,I64 0,E4 ([]:List Row),E5 ([]:List Frame),E6 ([]:List H2),I64 0,I64 0,I64 0,I64 0]) (ds:=[E3 ([(G3.mk 0 0 false 2 0 0 0 0 [] 0 0 0),(G3.mk 0 1 false 2 0 0 0 0 [] 0 0 0),(G3.mk 0 0 true 3 0 0 0 0 [] 0 0 0),(G3.mk 0 1 true 3 0 0 0 0 [] 0 0 0),(G3.mk 1 1 true 4 0 0 0 0 [] 0 0 0)]),E8 ([(G9.mk 0 [0,1])]),I64 0,I64 0,I64 0,I64 0,E4 ([]:List Row),E5 ([]:List Frame),E6 ([]:List H2),I64 0,I64 0,I64 0,I64 0]) G6d O O O O O O O O) (G5 (b ?_)))))))))))))
 refine Gs (⟨[.agg [E3 ([(G3.mk 0 0 false 2 0 0 0 0 [] 0 0 0),(G3.mk 0 1 false 2 0 0 0 0 [] 0 0 0),(G3.mk 0 0 true 3 0 0 0 0 [] 0 0 0),(G3.mk 0 1 true 3 0 0 0 0 [] 0 0 0),(G3.mk 1 1 true 4 0 0 0 0 [] 0 0 0)]),E8 ([(G9.mk 0 [0,1])]),I64 0,I64 0,I64 0,I64 0,E4 ([]:List Row),E5 ([]:List Frame),E6 ([]:List H2),I64 0,I64 0,I64 0,I64 0]],[],ø,O,⟨⟨_,⟨_,_,_,_,O,O,O,.inl ⟨Jd,O⟩⟩,.conv (.same O)⟩,ø⟩,O,congrArg (fun r:Gi=>(.agg (Gi.cs r):AV)) (M7 h)⟩)

def Jx (column:Int) (tier:Int):Option Slot:=
 some (Slot.mk column tier 0)
theorem Q5 (column:Int) (tier:Int) (r:Slot) (h:Jx column tier=some r):Pure En 27 [I64 column,I64 tier] (·=.agg [I64 r.G3,I64 r.Tier,U8 r.Half]):=by
 unfold Jx at h
 refine Gx [.cell 4 57] Tryz.func27 O O (Jr fun a=>(JLh (.ptr 1033 0) (G06 1033 [I64 0,I64 0,U8 0] [E0,E0,.int .u8 0] Ge3 (zzQ O) O O) O (G5 (a (Jr fun b=>(JLm (I64 column) O (JLm (I64 tier) O (JLh (.agg [I64 column,I64 tier,U8 0]) (Hg (cs:=[I64 column,I64 tier,U8 0]) [(0,1),(1,1),(2,1)] [I64 0,I64 0,U8 0] [E0,E0,.int .u8 0] H05 Ge3 (zzQ O) O O) O (Ho (u:=.junk) (H7 (u:=.agg [I64 column,I64 tier,U8 0]) (ds:=[I64 column,I64 tier,U8 0]) Yd O O O O O O O O) (G5 (b (Gs ?_))))))))))))
 exact⟨[.agg [I64 column,I64 tier,U8 0]],[],ø,O,⟨⟨_,⟨_,_,_,_,O,O,O,.inl ⟨J2,O⟩⟩,.conv (.same O)⟩,ø⟩,O,congrArg (fun r:Slot=>(.agg [I64 r.G3,I64 r.Tier,U8 r.Half]:AV)) (M7 h)⟩

def G4a :Option (Gi×(List Box)×(List G1)):=
 bnd (G4b) fun a=>
 bnd (Jx 0 0) fun b=>
 bnd (Jx 3 0) fun c=>
 some (a,[(Box.mk 1 ByteArray.empty 40 false 0 0 0 0 false),(Box.mk 2 ByteArray.empty 40 false 0 0 0 0 false),(Box.mk 3 ByteArray.empty 40 false 0 0 0 0 false)],[(G1.mk 1 b),(G1.mk 2 c)])
theorem H97  (r:Gi×(List Box)×(List G1)) (h:G4a =some r):Pure En 26 [] (·=.tup [.agg (Gi.cs r.1),E7 r.2.1,E1 r.2.2]):=by
 unfold G4a at h
 refine Gx [.cell 0 36,.tmp 1,.tmp 2] Tryz.func26 O O (Jr fun d=>(JLh (.ptr 1032 0) (G06 1032 [E3 ([]:List G3),E8 ([]:List G9),I64 0,I64 0,I64 0,I64 0,E4 ([]:List Row),E5 ([]:List Frame),E6 ([]:List H2),I64 0,I64 0,I64 0,I64 0] [.slice none 0 0,.slice none 0 0,E0,E0,E0,E0,.slice none 0 0,.slice none 0 0,.slice none 0 0,E0,E0,E0,E0] Ge4 ⟨.inr ⟨_,O,O⟩,.inr ⟨_,O,O⟩,.inl O,.inl O,.inl O,.inl O,.inr ⟨_,O,O⟩,.inr ⟨_,O,O⟩,.inr ⟨_,O,O⟩,.inl O,.inl O,.inl O,.inl O,ø⟩ O O) O (JLh (E7 ([]:List Box)) (Jh 9 O O) O (JLh (E1 ([]:List G1)) (Jh 4 O O) O (G5 (d (Jr fun e=>?_)))))))
 obtain⟨c,f,h⟩:=Ge h
 refine JLh (.agg (Gi.cs c)) (Gu O (H98  c f) Y1e ø) O (JLh (.agg [I64 1,ST M0,U8 40,BL false,I64 0,I64 0,I64 0,U8 0,BL false]) (Hg (cs:=[I64 1,ST M0,U8 40,BL false,I64 0,I64 0,I64 0,U8 0,BL false]) [(0,1),(1,1),(2,1),(3,1),(4,1),(5,1),(6,1),(7,1),(8,1)] [I64 0,ST M0,U8 0,BL false,I64 0,I64 0,I64 0,U8 0,BL false] [E0,.string ByteArray.empty,.int .u8 0,.bool false,E0,E0,E0,.int .u8 0,.bool false] G85 G63 (zzQ O) O O) O (JLh (.agg [I64 2,ST M0,U8 40,BL false,I64 0,I64 0,I64 0,U8 0,BL false]) (Hg (cs:=[I64 2,ST M0,U8 40,BL false,I64 0,I64 0,I64 0,U8 0,BL false]) [(0,1),(1,1),(2,1),(3,1),(4,1),(5,1),(6,1),(7,1),(8,1)] [I64 0,ST M0,U8 0,BL false,I64 0,I64 0,I64 0,U8 0,BL false] [E0,.string ByteArray.empty,.int .u8 0,.bool false,E0,E0,E0,.int .u8 0,.bool false] G85 G63 (zzQ O) O O) O (JLh (.agg [I64 3,ST M0,U8 40,BL false,I64 0,I64 0,I64 0,U8 0,BL false]) (Hg (cs:=[I64 3,ST M0,U8 40,BL false,I64 0,I64 0,I64 0,U8 0,BL false]) [(0,1),(1,1),(2,1),(3,1),(4,1),(5,1),(6,1),(7,1),(8,1)] [I64 0,ST M0,U8 0,BL false,I64 0,I64 0,I64 0,U8 0,BL false] [E0,.string ByteArray.empty,.int .u8 0,.bool false,E0,E0,E0,.int .u8 0,.bool false] G85 G63 (zzQ O) O O) O (JLh (E7 [(Box.mk 1 ByteArray.empty 40 false 0 0 0 0 false),(Box.mk 2 ByteArray.empty 40 false 0 0 0 0 false),(Box.mk 3 ByteArray.empty 40 false 0 0 0 0 false)]) (He (xs:=[.agg [I64 1,ST M0,U8 40,BL false,I64 0,I64 0,I64 0,U8 0,BL false],.agg [I64 2,ST M0,U8 40,BL false,I64 0,I64 0,I64 0,U8 0,BL false],.agg [I64 3,ST M0,U8 40,BL false,I64 0,I64 0,I64 0,U8 0,BL false]]) O ⟨O,O,O,O,O,O,ø⟩ Y1 Qx O O O O) O ?_))))
 obtain⟨a,g,h⟩:=Ge h
 refine JLh (.agg [I64 a.G3,I64 a.Tier,U8 a.Half]) (Gu O (Q5 0 0 a g) G29 ⟨O,O,O,O,ø⟩) O (JLh (.agg [I64 1,I64 a.G3,I64 a.Tier,U8 a.Half]) (Hg (cs:=[I64 1,I64 a.G3,I64 a.Tier,U8 a.Half]) [(0,1),(1,3)] [I64 0,I64 0,I64 0,U8 0] [E0,E0,E0,.int .u8 0] G37 G99 (zzQ O) O O) O ?_)
 obtain⟨b,i,h⟩:=Ge h
 refine JLh (.agg [I64 b.G3,I64 b.Tier,U8 b.Half]) (Gu O (Q5 3 0 b i) G29 ⟨O,O,O,O,ø⟩) O (JLh (.agg [I64 2,I64 b.G3,I64 b.Tier,U8 b.Half]) (Hg (cs:=[I64 2,I64 b.G3,I64 b.Tier,U8 b.Half]) [(0,1),(1,3)] [I64 0,I64 0,I64 0,U8 0] [E0,E0,E0,.int .u8 0] G37 G99 (zzQ O) O O) O (JLh (E1 [(G1.mk 1 a),(G1.mk 2 b)]) (He (xs:=[.agg [I64 1,I64 a.G3,I64 a.Tier,U8 a.Half],.agg [I64 2,I64 b.G3,I64 b.Tier,U8 b.Half]]) O ⟨O,O,O,O,ø⟩ H3 Jy O O O O) O (Ho (u:=.junk) (H7 (u:=.agg (Gi.cs c)) (ds:=(Gi.cs c)) G6d O O O O O O O O) (JLm (E7 [(Box.mk 1 ByteArray.empty 40 false 0 0 0 0 false),(Box.mk 2 ByteArray.empty 40 false 0 0 0 0 false),(Box.mk 3 ByteArray.empty 40 false 0 0 0 0 false)]) O (JLm (E1 [(G1.mk 1 a),(G1.mk 2 b)]) O (G5 (e ?_)))))))
 refine Gs (⟨[.agg (Gi.cs c),E7 [(Box.mk 1 ByteArray.empty 40 false 0 0 0 0 false),(Box.mk 2 ByteArray.empty 40 false 0 0 0 0 false),(Box.mk 3 ByteArray.empty 40 false 0 0 0 0 false)],E1 [(G1.mk 1 a),(G1.mk 2 b)]],[],ø,O,⟨⟨_,⟨_,_,_,_,O,O,O,.inl ⟨Jd,O⟩⟩,.conv (.same O)⟩,⟨_,O,.conv (.same O)⟩,⟨_,O,.conv (.same O)⟩,ø⟩,O,congrArg (fun r:Gi×(List Box)×(List G1)=>(.tup [.agg (Gi.cs r.1),E7 r.2.1,E1 r.2.2]:AV)) (M7 h)⟩)

def Rv (a:List Int) (b:List Int):Option Bool:=
 bif decide ((a.length:Int)≠(b.length:Int)) then
 (some false)
 else
 (each (fun d e (f:Unit) c=>
   Qw b (e:Int) fun g=>
   bif decide (d≠g) then
   (some false)
   else
   (c ()))
  (fun(f:Unit)=>
   some true) a 0 ())
theorem Gc6 (a:List Int) (b:List Int) (r:Bool) (h:Rv a b=some r):Pure En 21 [E2 a,E2 b] (·=BL r):=by
 unfold Rv at h
 refine Gx [.tmp 4] Tryz.func21 O O (Jr fun a0=>(JLm (BL false) O (G5 (a0 (Js fun a1=>Jr fun a2=>(JLm (E2 a) O (JLl H1 O O O fun a9=>(JLm (E2 b) O (JLl H1 O O O fun b0=>(JLh (BL (decide ((a.length:Int)≠(b.length:Int)))) (Gca O O O) O (G5 (a2 (JCc O h (fun h hb=>?_) (fun h hb=>?_))))))))))))))
 ·
  refine Jr fun a3=>(JLm (BL false) O (G5 (a3 (Gs (fin1 BL h)))))
 ·
  refine Gm (a1 (Js fun a4=>Jr fun a5=>(JLm (I64 0) O (G5 (a5 (Gq ?_))))))
  obtain⟨a6,l,m,k,h⟩:=Jc h
  refine Hn (fun c (d:Unit)=>each a6 l (List.drop c a) c d=some r) (fun c d=>[(0,E2 a),(1,E2 b),(5,Em c)]) (fun c d=>[]) (fun c=>a.length - c) 0 () h ⟨(.sm O O),ø,O⟩ ?_
  clear h
  intro c d i b1 a7
  refine Js fun n=>Jr fun o=>(JLm (Em c) O (JLm (E2 a) O (JLl H1 O O O fun p=>(JLh (BL (decide ((c:Int) < (a.length:Int)))) (Jo O O O) O (G5 (o (Gr O (fun hb=>?_) (fun hb=>?_))))))))
  ·
   have j:=Q1 hb
   obtain⟨e,a8,q,s,h⟩:=Ht i j
   replace h:=Zn m h
   refine Gm (n (Js fun t=>Gq (Js fun u=>?_)))
   obtain⟨b2,g,v,w,h⟩:=Yc h
   refine JC_d0 J9 (by kernel_rfl) (Dq (E2 a) (G6 O O) O (Dq (Em c) (G6 O O) O (Dq (.dptr [I64 e]) (Hb (f:=I64) (xs:=a) (y:=e) O O O H1 q O) O (Dq (I64 e) (Gg Gb O O O) O (Dq (E2 b) (G6 O O) O (Dq (Em c) (G6 O O) O (Dq (.dptr [I64 g]) (Hb (f:=I64) (xs:=b) (y:=g) O O O H1 w v) O (Dq (I64 g) (Gg Gb O O O) O (Dq (BL (decide (e≠g))) (Gca O O O) O (Dnil (u (JCc O h (fun h hb=>?_) (fun h hb=>?_)))))))))))))
   ·
    refine Jr fun x=>(JLm (BL false) O (G5 (x (Gs (fin1 BL h)))))
   ·
    refine Gm (t (G2 (JLm (Em c) O (JLh (I64 ((c+1:Nat):Int)) (Ja (Hp j p) O O O) O (JLm (I64 ((c+1:Nat):Int)) O (G5 (a7 _ _ (c+1) () (app1 s h) (by omega) ⟨(.sm O O),ø,rfl⟩)))))))
  ·
   have h:=app1 k (Hu i (Hh hb))
   refine Hr (a4 (Jr fun z=>(JLm (BL true) O (G5 (z (Gs (fin1 BL h)))))))

def Qz (a:List G1) (b:List G1):Option Bool:=
 bif decide ((a.length:Int)≠(b.length:Int)) then
 (some false)
 else
 (each (fun d e (f:Unit) c=>
   Qw b (e:Int) fun g=>
   bif (!decide (d=g)) then
   (some false)
   else
   (c ()))
  (fun(f:Unit)=>
   some true) a 0 ())
theorem G7a (a:List G1) (b:List G1) (r:Bool) (h:Qz a b=some r):Pure En 18 [E1 a,E1 b] (·=BL r):=by
 unfold Qz at h
 refine Gx [.tmp 4] Tryz.func18 O O (Jr fun a0=>(JLm (BL false) O (G5 (a0 (Js fun a1=>Jr fun a2=>(JLm (E1 a) O (JLl H3 O O O fun a9=>(JLm (E1 b) O (JLl H3 O O O fun b0=>(JLh (BL (decide ((a.length:Int)≠(b.length:Int)))) (Gca O O O) O (G5 (a2 (JCc O h (fun h hb=>?_) (fun h hb=>?_))))))))))))))
 ·
  refine Jr fun a3=>(JLm (BL false) O (G5 (a3 (Gs (fin1 BL h)))))
 ·
  refine Gm (a1 (Js fun a4=>Jr fun a5=>(JLm (I64 0) O (G5 (a5 (Gq ?_))))))
  obtain⟨a6,l,m,k,h⟩:=Jc h
  refine Hn (fun c (g:Unit)=>each a6 l (List.drop c a) c g=some r) (fun c g=>[(0,E1 a),(1,E1 b),(5,Em c)]) (fun c g=>[]) (fun c=>a.length - c) 0 () h ⟨(.sm O O),ø,O⟩ ?_
  clear h
  intro c g i b1 a7
  refine Js fun n=>Jr fun o=>(JLm (Em c) O (JLm (E1 a) O (JLl H3 O O O fun p=>(JLh (BL (decide ((c:Int) < (a.length:Int)))) (Jo O O O) O (G5 (o (Gr O (fun hb=>?_) (fun hb=>?_))))))))
  ·
   have j:=Q1 hb
   obtain⟨d,a8,q,s,h⟩:=Ht i j
   replace h:=Zn m h
   refine Gm (n (Js fun t=>Gq (Js fun u=>?_)))
   obtain⟨b2,e,v,w,h⟩:=Yc h
   refine JC_d0 J9 (by kernel_rfl) (Dq (E1 a) (G6 O O) O (Dq (Em c) (G6 O O) O (Dq (Eh d) (Hb (f:=G1.av) (xs:=a) (y:=d) O O O H3 q O) O (Dq (.agg (G1.cs d)) (Gk Qd O O O) O (Dq (E1 b) (G6 O O) O (Dq (Em c) (G6 O O) O (Dq (Eh e) (Hb (f:=G1.av) (xs:=b) (y:=e) O O O H3 w v) O (Dq (.agg (G1.cs e)) (Gk Qd O O O) O (Dq (BL (!decide (d=e))) (Y9b (vs:=[.int .i64 d.Box,.int .i64 d.Slot.G3,.int .i64 d.Slot.Tier,.int .u8 d.Slot.Half]) (us:=[.int .i64 e.Box,.int .i64 e.Slot.G3,.int .i64 e.Slot.Tier,.int .u8 e.Slot.Half]) 4 O (Zd1 d e) Rb9 Ya5 O O O) O (Dnil (u (JCc O h (fun h hb=>?_) (fun h hb=>?_)))))))))))))
   ·
    refine Jr fun x=>(JLm (BL false) O (G5 (x (Gs (fin1 BL h)))))
   ·
    refine Gm (t (G2 (JLm (Em c) O (JLh (I64 ((c+1:Nat):Int)) (Ja (Hp j p) O O O) O (JLm (I64 ((c+1:Nat):Int)) O (G5 (a7 _ _ (c+1) () (app1 s h) (by omega) ⟨(.sm O O),ø,rfl⟩)))))))
  ·
   have h:=app1 k (Hu i (Hh hb))
   refine Hr (a4 (Jr fun z=>(JLm (BL true) O (G5 (z (Gs (fin1 BL h)))))))

def Zf :Option Bool:=
 bnd (G4a) fun h=>
 bnd (Ga7 h.1 h.2.1 h.2.2 [3]) fun j=>
 bif ((decide (j.2≠0))||false) then
 (some false)
 else
 (bnd (Jx 0 0) fun k=>
  bnd (Jx 3 0) fun l=>
  bnd (Jx 0 0) fun m=>
  bnd (Jx 0 1) fun n=>
  bnd (Jx 0 0) fun o=>
  bnd (Jx 3 0) fun p=>
  bnd (Jx 3 0) fun q=>
  each (fun f w (b:Gc) i=>
   bnd (G1e b f.x) fun g=>
   bif decide (g.1≠f.e) then
   (some false)
   else
   (i g.2))
  (fun(b:Gc)=>
   bnd (G32 b) fun a=>
   bnd (bif decide (a=4) then Z5 b else some default) fun r=>
   bnd (bif decide (a=4) then Rv r [1] else some default) fun c=>
   bnd (bif ((decide (a=4))&&c) then G04 b else some default) fun d=>
   bnd (bif (((decide (a=4))&&c)&&(decide ((d.length:Int)=0))) then G11 b else some default) fun s=>
   bnd (bif (((decide (a=4))&&c)&&(decide ((d.length:Int)=0))) then Jx 3 0 else some default) fun t=>
   bnd (bif (((decide (a=4))&&c)&&(decide ((d.length:Int)=0))) then Jx 0 0 else some default) fun u=>
   bnd (bif (((decide (a=4))&&c)&&(decide ((d.length:Int)=0))) then Qz s [(G1.mk 2 t),(G1.mk 3 u)] else some default) fun v=>
   some ((((decide (a=4))&&c)&&(decide ((d.length:Int)=0)))&&v)) [(H5.mk (Move.mk 2 1 k 0) 315),(H5.mk (Move.mk 1 0 (Slot.mk 0 0 0) 0) 312),(H5.mk (Move.mk 2 2 l 0) 0),(H5.mk (Move.mk 1 0 (Slot.mk 0 0 0) 0) 0),(H5.mk (Move.mk 2 1 m 0) 0),(H5.mk (Move.mk 3 3 n 0) 318),(H5.mk (Move.mk 3 3 o 0) 0),(H5.mk (Move.mk 3 2 p 0) 315),(H5.mk (Move.mk 4 0 (Slot.mk 0 0 0) 0) 0),(H5.mk (Move.mk 3 2 q 0) 0)] 0 j.1)
abbrev Km (a:Gc):List AV:=[E3 a.ship.Columns,E8 a.ship.Covers,I64 a.ship.Light.Kilos,I64 a.ship.Light.X,I64 a.ship.Light.Y,I64 a.ship.Light.Z,E4 a.ship.Rows,E5 a.ship.Frames,E6 a.ship.Tanks,I64 a.ship.G8.Tolerance,I64 a.ship.G8.Trim,I64 a.ship.G8.List_,I64 a.ship.G8.Stability,.mp 1208,.mp 1209,.mp 1210,I64 a.lifts]
abbrev Kn:List AV:=[U8 0,I64 0,I64 0,I64 0,U8 0,I64 0,I64 0]
abbrev Ko:List AV:=[U8 1,I64 0,I64 0,I64 0,U8 0,I64 0,I64 312]
abbrev Kp:List AV:=[U8 4,I64 0,I64 0,I64 0,U8 0,I64 0,I64 0]
abbrev Kq:List AV:=[U8 1,I64 0,I64 0,I64 0,U8 0,I64 0,I64 0]
theorem Gd7  (r:Bool) (h:Zf =some r):Pure En 6 [] (·=BL r):=by
 unfold Zf at h
 refine Gx [.tmp 0] Tryz.func6 O O (Jr fun d5=>(JLm (BL false) O (G5 (d5 (Jr fun d6=>?_)))))
 obtain⟨o,d7,h⟩:=Ge h
 refine JLh (.tup [.agg (Gi.cs o.1),E7 o.2.1,E1 o.2.2]) (Gu O (H97  o d7) Y2c ø) O (JLm (.tup [.agg (Gi.cs o.1),E7 o.2.1,E1 o.2.2]) O (JLh (.agg (Gi.cs o.1)) (Gz O O O) O (JLh (E7 o.2.1) (Gz O O O) O (JLh (E1 o.2.2) (Gz O O O) O (JLh (.ptr 1007 0) (Hk 1007 13 Haf O O) O (Ho (u:=.junk) (H7 (u:=.agg (Gi.cs o.1)) (ds:=(Gi.cs o.1)) G6d O O O O O O O O) (JLm (E7 o.2.1) O (JLm (E1 o.2.2) O (G5 (d6 ?_))))))))))
 refine Gn [(1,Ee o.1),(2,E7 o.2.1),(3,E1 o.2.2)] [] 1007 rfl rfl rfl ø rfl (by exact⟨.ptr,.conv (.same rfl),.conv (.same rfl),ø⟩) (Jr fun d8=>(JLh (.agg (Gi.cs o.1)) (Gk Jd O O O) O (JLm (E7 o.2.1) O (JLm (E1 o.2.2) O (JLh (E2 [3]) (He (xs:=[I64 3]) O ⟨O,O,ø⟩ H1 Y0 O O O O) O ?_)))))
 obtain⟨n,d9,h⟩:=Ge h
 refine JLh (.tup [.ptr 1207 0,I64 n.2]) (Yv (args:=[.agg (Gi.cs o.1),E7 o.2.1,E1 o.2.2,E2 [3]]) (L0:=[]) (Lr:=[(1207,.box 94 [E3 n.1.ship.Columns,E8 n.1.ship.Covers,I64 n.1.ship.Light.Kilos,I64 n.1.ship.Light.X,I64 n.1.ship.Light.Y,I64 n.1.ship.Light.Z,E4 n.1.ship.Rows,E5 n.1.ship.Frames,E6 n.1.ship.Tanks,I64 n.1.ship.G8.Tolerance,I64 n.1.ship.G8.Trim,I64 n.1.ship.G8.List_,I64 n.1.ship.G8.Stability,.mp 1208,.mp 1209,.mp 1210,I64 n.1.lifts]),(1208,TP 90 Slot.kv Box.av n.1.on),(1209,TP 91 Ks Box.av n.1.quay),(1210,TP 92 Ks I64 n.1.open_)]) O (Hd5 o.1 o.2.1 o.2.2 [3] n d9) Ja7 ⟨.inl O,O,.inl O,O,.inl O,O,.inl O,O,ø⟩ ø O O O) O (JLm (.tup [.ptr 1207 0,I64 n.2]) O (JLh (.ptr 1207 0) (Gz O O O) O (JLh (I64 n.2) (Gz O O O) O (JLm (.ptr 1207 0) O (JLm (I64 n.2) O (G5 (d8 ?_)))))))
 refine Js fun e0=>Jr fun e1=>(JLm (I64 n.2) O (JLh (BL (decide (n.2≠0))) (Gca O O O) O (JLm (BL (decide (n.2≠0))) O (JLo (.ptr 1207 0) [] O .scf ø (fun hc=>G6 O O) O (JLo (BL false) [24] O .scf ⟨Ua,ø⟩ (fun hc=>Z34 R1c O O) O (JLh (BL ((decide (n.2≠0))||false)) (G94 O O O O) O (G5 (e1 (JCc O h (fun h hb=>?_) (fun h hb=>?_))))))))))
 ·
  refine Jr fun e2=>(JLm (BL false) O (G5 (e2 (Gs (fin1 BL h)))))
 ·
  refine Gm (e0 (Js fun e3=>Jr fun a6=>?_))
  obtain⟨c,a7,h⟩:=Ge h
  refine JLh (.agg (Slot.cs c)) (Gu O (Q5 0 0 c a7) G29 ⟨O,O,O,O,ø⟩) O (JLh (.agg [U8 2,I64 1,I64 c.G3,I64 c.Tier,U8 c.Half,I64 0]) (Hg (cs:=[U8 2,I64 1,I64 c.G3,I64 c.Tier,U8 c.Half,I64 0]) [(0,1),(1,1),(2,3),(5,1)] [U8 0,I64 0,I64 0,I64 0,U8 0,I64 0] [.int .u8 0,E0,E0,E0,.int .u8 0,E0] Yt G0e (zzQ O) O O) O (JLh (.agg [U8 2,I64 1,I64 c.G3,I64 c.Tier,U8 c.Half,I64 0,I64 315]) (Hg (cs:=[U8 2,I64 1,I64 c.G3,I64 c.Tier,U8 c.Half,I64 0,I64 315]) [(0,6),(6,1)] Kn [.int .u8 0,E0,E0,E0,.int .u8 0,E0,E0] Zu G47 (zzQ O) O O) O (JLh (.agg [U8 1,I64 0,I64 0,I64 0,U8 0,I64 0]) (Hg (cs:=[U8 1,I64 0,I64 0,I64 0,U8 0,I64 0]) [(0,1),(1,1),(2,3),(5,1)] [U8 0,I64 0,I64 0,I64 0,U8 0,I64 0] [.int .u8 0,E0,E0,E0,.int .u8 0,E0] Yt G0e (zzQ O) O O) O (JLh (.agg Ko) (Hg (cs:=Ko) [(0,6),(6,1)] Kn [.int .u8 0,E0,E0,E0,.int .u8 0,E0,E0] Zu G47 (zzQ O) O O) O ?_))))
  obtain⟨d,a8,h⟩:=Ge h
  refine JLh (.agg (Slot.cs d)) (Gu O (Q5 3 0 d a8) G29 ⟨O,O,O,O,ø⟩) O (JLh (.agg [U8 2,I64 2,I64 d.G3,I64 d.Tier,U8 d.Half,I64 0]) (Hg (cs:=[U8 2,I64 2,I64 d.G3,I64 d.Tier,U8 d.Half,I64 0]) [(0,1),(1,1),(2,3),(5,1)] [U8 0,I64 0,I64 0,I64 0,U8 0,I64 0] [.int .u8 0,E0,E0,E0,.int .u8 0,E0] Yt G0e (zzQ O) O O) O (JLh (.agg [U8 2,I64 2,I64 d.G3,I64 d.Tier,U8 d.Half,I64 0,I64 0]) (Hg (cs:=[U8 2,I64 2,I64 d.G3,I64 d.Tier,U8 d.Half,I64 0,I64 0]) [(0,6),(6,1)] Kn [.int .u8 0,E0,E0,E0,.int .u8 0,E0,E0] Zu G47 (zzQ O) O O) O (JLh (.agg [U8 1,I64 0,I64 0,I64 0,U8 0,I64 0]) (Hg (cs:=[U8 1,I64 0,I64 0,I64 0,U8 0,I64 0]) [(0,1),(1,1),(2,3),(5,1)] [U8 0,I64 0,I64 0,I64 0,U8 0,I64 0] [.int .u8 0,E0,E0,E0,.int .u8 0,E0] Yt G0e (zzQ O) O O) O (JLh (.agg Kq) (Hg (cs:=Kq) [(0,6),(6,1)] Kn [.int .u8 0,E0,E0,E0,.int .u8 0,E0,E0] Zu G47 (zzQ O) O O) O ?_))))
  obtain⟨i,a9,h⟩:=Ge h
  refine JLh (.agg (Slot.cs i)) (Gu O (Q5 0 0 i a9) G29 ⟨O,O,O,O,ø⟩) O (JLh (.agg [U8 2,I64 1,I64 i.G3,I64 i.Tier,U8 i.Half,I64 0]) (Hg (cs:=[U8 2,I64 1,I64 i.G3,I64 i.Tier,U8 i.Half,I64 0]) [(0,1),(1,1),(2,3),(5,1)] [U8 0,I64 0,I64 0,I64 0,U8 0,I64 0] [.int .u8 0,E0,E0,E0,.int .u8 0,E0] Yt G0e (zzQ O) O O) O (JLh (.agg [U8 2,I64 1,I64 i.G3,I64 i.Tier,U8 i.Half,I64 0,I64 0]) (Hg (cs:=[U8 2,I64 1,I64 i.G3,I64 i.Tier,U8 i.Half,I64 0,I64 0]) [(0,6),(6,1)] Kn [.int .u8 0,E0,E0,E0,.int .u8 0,E0,E0] Zu G47 (zzQ O) O O) O ?_))
  obtain⟨j,b0,h⟩:=Ge h
  refine JLh (.agg (Slot.cs j)) (Gu O (Q5 0 1 j b0) G29 ⟨O,O,O,O,ø⟩) O (JLh (.agg [U8 3,I64 3,I64 j.G3,I64 j.Tier,U8 j.Half,I64 0]) (Hg (cs:=[U8 3,I64 3,I64 j.G3,I64 j.Tier,U8 j.Half,I64 0]) [(0,1),(1,1),(2,3),(5,1)] [U8 0,I64 0,I64 0,I64 0,U8 0,I64 0] [.int .u8 0,E0,E0,E0,.int .u8 0,E0] Yt G0e (zzQ O) O O) O (JLh (.agg [U8 3,I64 3,I64 j.G3,I64 j.Tier,U8 j.Half,I64 0,I64 318]) (Hg (cs:=[U8 3,I64 3,I64 j.G3,I64 j.Tier,U8 j.Half,I64 0,I64 318]) [(0,6),(6,1)] Kn [.int .u8 0,E0,E0,E0,.int .u8 0,E0,E0] Zu G47 (zzQ O) O O) O ?_))
  obtain⟨k,b1,h⟩:=Ge h
  refine JLh (.agg (Slot.cs k)) (Gu O (Q5 0 0 k b1) G29 ⟨O,O,O,O,ø⟩) O (JLh (.agg [U8 3,I64 3,I64 k.G3,I64 k.Tier,U8 k.Half,I64 0]) (Hg (cs:=[U8 3,I64 3,I64 k.G3,I64 k.Tier,U8 k.Half,I64 0]) [(0,1),(1,1),(2,3),(5,1)] [U8 0,I64 0,I64 0,I64 0,U8 0,I64 0] [.int .u8 0,E0,E0,E0,.int .u8 0,E0] Yt G0e (zzQ O) O O) O (JLh (.agg [U8 3,I64 3,I64 k.G3,I64 k.Tier,U8 k.Half,I64 0,I64 0]) (Hg (cs:=[U8 3,I64 3,I64 k.G3,I64 k.Tier,U8 k.Half,I64 0,I64 0]) [(0,6),(6,1)] Kn [.int .u8 0,E0,E0,E0,.int .u8 0,E0,E0] Zu G47 (zzQ O) O O) O ?_))
  obtain⟨l,b2,h⟩:=Ge h
  refine JLh (.agg (Slot.cs l)) (Gu O (Q5 3 0 l b2) G29 ⟨O,O,O,O,ø⟩) O (JLh (.agg [U8 3,I64 2,I64 l.G3,I64 l.Tier,U8 l.Half,I64 0]) (Hg (cs:=[U8 3,I64 2,I64 l.G3,I64 l.Tier,U8 l.Half,I64 0]) [(0,1),(1,1),(2,3),(5,1)] [U8 0,I64 0,I64 0,I64 0,U8 0,I64 0] [.int .u8 0,E0,E0,E0,.int .u8 0,E0] Yt G0e (zzQ O) O O) O (JLh (.agg [U8 3,I64 2,I64 l.G3,I64 l.Tier,U8 l.Half,I64 0,I64 315]) (Hg (cs:=[U8 3,I64 2,I64 l.G3,I64 l.Tier,U8 l.Half,I64 0,I64 315]) [(0,6),(6,1)] Kn [.int .u8 0,E0,E0,E0,.int .u8 0,E0,E0] Zu G47 (zzQ O) O O) O (JLh (.agg [U8 4,I64 0,I64 0,I64 0,U8 0,I64 0]) (Hg (cs:=[U8 4,I64 0,I64 0,I64 0,U8 0,I64 0]) [(0,1),(1,1),(2,3),(5,1)] [U8 0,I64 0,I64 0,I64 0,U8 0,I64 0] [.int .u8 0,E0,E0,E0,.int .u8 0,E0] Yt G0e (zzQ O) O O) O (JLh (.agg Kp) (Hg (cs:=Kp) [(0,6),(6,1)] Kn [.int .u8 0,E0,E0,E0,.int .u8 0,E0,E0] Zu G47 (zzQ O) O O) O ?_))))
  obtain⟨m,b3,h⟩:=Ge h
  refine JLh (.agg (Slot.cs m)) (Gu O (Q5 3 0 m b3) G29 ⟨O,O,O,O,ø⟩) O (JLh (.agg [U8 3,I64 2,I64 m.G3,I64 m.Tier,U8 m.Half,I64 0]) (Hg (cs:=[U8 3,I64 2,I64 m.G3,I64 m.Tier,U8 m.Half,I64 0]) [(0,1),(1,1),(2,3),(5,1)] [U8 0,I64 0,I64 0,I64 0,U8 0,I64 0] [.int .u8 0,E0,E0,E0,.int .u8 0,E0] Yt G0e (zzQ O) O O) O (JLh (.agg [U8 3,I64 2,I64 m.G3,I64 m.Tier,U8 m.Half,I64 0,I64 0]) (Hg (cs:=[U8 3,I64 2,I64 m.G3,I64 m.Tier,U8 m.Half,I64 0,I64 0]) [(0,6),(6,1)] Kn [.int .u8 0,E0,E0,E0,.int .u8 0,E0,E0] Zu G47 (zzQ O) O O) O (JLh (LS 7 H5.av [(H5.mk (Move.mk 2 1 c 0) 315),(H5.mk (Move.mk 1 0 (Slot.mk 0 0 0) 0) 312),(H5.mk (Move.mk 2 2 d 0) 0),(H5.mk (Move.mk 1 0 (Slot.mk 0 0 0) 0) 0),(H5.mk (Move.mk 2 1 i 0) 0),(H5.mk (Move.mk 3 3 j 0) 318),(H5.mk (Move.mk 3 3 k 0) 0),(H5.mk (Move.mk 3 2 l 0) 315),(H5.mk (Move.mk 4 0 (Slot.mk 0 0 0) 0) 0),(H5.mk (Move.mk 3 2 m 0) 0)]) (He (xs:=[.agg [U8 2,I64 1,I64 c.G3,I64 c.Tier,U8 c.Half,I64 0,I64 315],.agg Ko,.agg [U8 2,I64 2,I64 d.G3,I64 d.Tier,U8 d.Half,I64 0,I64 0],.agg Kq,.agg [U8 2,I64 1,I64 i.G3,I64 i.Tier,U8 i.Half,I64 0,I64 0],.agg [U8 3,I64 3,I64 j.G3,I64 j.Tier,U8 j.Half,I64 0,I64 318],.agg [U8 3,I64 3,I64 k.G3,I64 k.Tier,U8 k.Half,I64 0,I64 0],.agg [U8 3,I64 2,I64 l.G3,I64 l.Tier,U8 l.Half,I64 0,I64 315],.agg Kp,.agg [U8 3,I64 2,I64 m.G3,I64 m.Tier,U8 m.Half,I64 0,I64 0]]) O ⟨O,O,O,O,O,O,O,O,O,O,O,O,O,O,O,O,O,O,O,O,ø⟩ J36 Q2e O O O O) O (JLl J36 O O O fun b4=>(JLm (I64 0) O (G5 (a6 ?_)))))))
  refine Gq ?_
  obtain⟨e4,b5,b6,a5,h⟩:=Jc h
  refine Hn (fun p (b:Gc)=>each e4 b5 (List.drop p [(H5.mk (Move.mk 2 1 c 0) 315),(H5.mk (Move.mk 1 0 (Slot.mk 0 0 0) 0) 312),(H5.mk (Move.mk 2 2 d 0) 0),(H5.mk (Move.mk 1 0 (Slot.mk 0 0 0) 0) 0),(H5.mk (Move.mk 2 1 i 0) 0),(H5.mk (Move.mk 3 3 j 0) 318),(H5.mk (Move.mk 3 3 k 0) 0),(H5.mk (Move.mk 3 2 l 0) 315),(H5.mk (Move.mk 4 0 (Slot.mk 0 0 0) 0) 0),(H5.mk (Move.mk 3 2 m 0) 0)]) p b=some r) (fun p b=>[(4,.ptr 1207 0),(54,LS 7 H5.av [(H5.mk (Move.mk 2 1 c 0) 315),(H5.mk (Move.mk 1 0 (Slot.mk 0 0 0) 0) 312),(H5.mk (Move.mk 2 2 d 0) 0),(H5.mk (Move.mk 1 0 (Slot.mk 0 0 0) 0) 0),(H5.mk (Move.mk 2 1 i 0) 0),(H5.mk (Move.mk 3 3 j 0) 318),(H5.mk (Move.mk 3 3 k 0) 0),(H5.mk (Move.mk 3 2 l 0) 315),(H5.mk (Move.mk 4 0 (Slot.mk 0 0 0) 0) 0),(H5.mk (Move.mk 3 2 m 0) 0)]),(55,I64 ([(H5.mk (Move.mk 2 1 c 0) 315),(H5.mk (Move.mk 1 0 (Slot.mk 0 0 0) 0) 312),(H5.mk (Move.mk 2 2 d 0) 0),(H5.mk (Move.mk 1 0 (Slot.mk 0 0 0) 0) 0),(H5.mk (Move.mk 2 1 i 0) 0),(H5.mk (Move.mk 3 3 j 0) 318),(H5.mk (Move.mk 3 3 k 0) 0),(H5.mk (Move.mk 3 2 l 0) 315),(H5.mk (Move.mk 4 0 (Slot.mk 0 0 0) 0) 0),(H5.mk (Move.mk 3 2 m 0) 0)].length:Int)),(56,Em p)]) (fun p b=>[(1207,.box 94 (Km b)),(1208,TP 90 Slot.kv Box.av b.on),(1209,TP 91 Ks Box.av b.quay),(1210,TP 92 Ks I64 b.open_)]) (fun p=>[(H5.mk (Move.mk 2 1 c 0) 315),(H5.mk (Move.mk 1 0 (Slot.mk 0 0 0) 0) 312),(H5.mk (Move.mk 2 2 d 0) 0),(H5.mk (Move.mk 1 0 (Slot.mk 0 0 0) 0) 0),(H5.mk (Move.mk 2 1 i 0) 0),(H5.mk (Move.mk 3 3 j 0) 318),(H5.mk (Move.mk 3 3 k 0) 0),(H5.mk (Move.mk 3 2 l 0) 315),(H5.mk (Move.mk 4 0 (Slot.mk 0 0 0) 0) 0),(H5.mk (Move.mk 3 2 m 0) 0)].length - p) 0 n.1 h ⟨(.sm O O),⟨fbQ O (.sm O O),fmQ O,fmQ O,fmQ O,ø⟩,rfl⟩ ?_
  clear h
  intro p b a3 e7 e5
  refine Jr fun b7=>(JLh (BL (decide ((p:Int) < ([(H5.mk (Move.mk 2 1 c 0) 315),(H5.mk (Move.mk 1 0 (Slot.mk 0 0 0) 0) 312),(H5.mk (Move.mk 2 2 d 0) 0),(H5.mk (Move.mk 1 0 (Slot.mk 0 0 0) 0) 0),(H5.mk (Move.mk 2 1 i 0) 0),(H5.mk (Move.mk 3 3 j 0) 318),(H5.mk (Move.mk 3 3 k 0) 0),(H5.mk (Move.mk 3 2 l 0) 315),(H5.mk (Move.mk 4 0 (Slot.mk 0 0 0) 0) 0),(H5.mk (Move.mk 3 2 m 0) 0)].length:Int)))) (Jo O O O) O (G5 (b7 (Js fun b8=>Gr O (fun hb=>?_) (fun hb=>?_)))))
  ·
   have a4:=Q1 hb
   obtain⟨q,e6,b9,c0,h⟩:=Ht a3 a4
   replace h:=Zn b6 h
   refine Gm (b8 (Js fun c1=>Gq ?_))
   refine Jr fun c2=>(JLh (.dptr (H5.cs q)) (Hb (f:=H5.av) (xs:=[(H5.mk (Move.mk 2 1 c 0) 315),(H5.mk (Move.mk 1 0 (Slot.mk 0 0 0) 0) 312),(H5.mk (Move.mk 2 2 d 0) 0),(H5.mk (Move.mk 1 0 (Slot.mk 0 0 0) 0) 0),(H5.mk (Move.mk 2 1 i 0) 0),(H5.mk (Move.mk 3 3 j 0) 318),(H5.mk (Move.mk 3 3 k 0) 0),(H5.mk (Move.mk 3 2 l 0) 315),(H5.mk (Move.mk 4 0 (Slot.mk 0 0 0) 0) 0),(H5.mk (Move.mk 3 2 m 0) 0)]) (y:=q) O O O J36 b9 O) O (JLh (.agg (H5.cs q)) (Gk Ya6 O O O) O (JLh (.ptr 1008 0) (Hk 1008 7 Q2e O O) O (Ho (u:=.junk) (H7 (u:=.agg (H5.cs q)) (ds:=(H5.cs q)) Y05 O O O O O O O O) (G5 (c2 ?_))))))
   refine fzQ [(4,.ptr 1207 0),(7,.dptr (H5.cs q)),(54,LS 7 H5.av [(H5.mk (Move.mk 2 1 c 0) 315),(H5.mk (Move.mk 1 0 (Slot.mk 0 0 0) 0) 312),(H5.mk (Move.mk 2 2 d 0) 0),(H5.mk (Move.mk 1 0 (Slot.mk 0 0 0) 0) 0),(H5.mk (Move.mk 2 1 i 0) 0),(H5.mk (Move.mk 3 3 j 0) 318),(H5.mk (Move.mk 3 3 k 0) 0),(H5.mk (Move.mk 3 2 l 0) 315),(H5.mk (Move.mk 4 0 (Slot.mk 0 0 0) 0) 0),(H5.mk (Move.mk 3 2 m 0) 0)]),(55,I64 ([(H5.mk (Move.mk 2 1 c 0) 315),(H5.mk (Move.mk 1 0 (Slot.mk 0 0 0) 0) 312),(H5.mk (Move.mk 2 2 d 0) 0),(H5.mk (Move.mk 1 0 (Slot.mk 0 0 0) 0) 0),(H5.mk (Move.mk 2 1 i 0) 0),(H5.mk (Move.mk 3 3 j 0) 318),(H5.mk (Move.mk 3 3 k 0) 0),(H5.mk (Move.mk 3 2 l 0) 315),(H5.mk (Move.mk 4 0 (Slot.mk 0 0 0) 0) 0),(H5.mk (Move.mk 3 2 m 0) 0)].length:Int)),(56,Em p)] [(1207,.box 94 (Km b)),(1208,TP 90 Slot.kv Box.av b.on),(1209,TP 91 Ks Box.av b.quay),(1210,TP 92 Ks I64 b.open_)] 1008 rfl rfl rfl ⟨⟨_,rfl,.boxEq rfl rfl⟩,fmQ O,fmQ O,fmQ O,ø⟩ rfl ?_
   refine Js fun c3=>?_
   refine Qs (l':=[(4,.ptr 1207 0),(7,.dptr (H5.cs q)),(54,LS 7 H5.av [(H5.mk (Move.mk 2 1 c 0) 315),(H5.mk (Move.mk 1 0 (Slot.mk 0 0 0) 0) 312),(H5.mk (Move.mk 2 2 d 0) 0),(H5.mk (Move.mk 1 0 (Slot.mk 0 0 0) 0) 0),(H5.mk (Move.mk 2 1 i 0) 0),(H5.mk (Move.mk 3 3 j 0) 318),(H5.mk (Move.mk 3 3 k 0) 0),(H5.mk (Move.mk 3 2 l 0) 315),(H5.mk (Move.mk 4 0 (Slot.mk 0 0 0) 0) 0),(H5.mk (Move.mk 3 2 m 0) 0)]),(55,I64 ([(H5.mk (Move.mk 2 1 c 0) 315),(H5.mk (Move.mk 1 0 (Slot.mk 0 0 0) 0) 312),(H5.mk (Move.mk 2 2 d 0) 0),(H5.mk (Move.mk 1 0 (Slot.mk 0 0 0) 0) 0),(H5.mk (Move.mk 2 1 i 0) 0),(H5.mk (Move.mk 3 3 j 0) 318),(H5.mk (Move.mk 3 3 k 0) 0),(H5.mk (Move.mk 3 2 l 0) 315),(H5.mk (Move.mk 4 0 (Slot.mk 0 0 0) 0) 0),(H5.mk (Move.mk 3 2 m 0) 0)].length:Int)),(56,Em p)]) (L':=[(1207,.box 94 (Km b)),(1208,TP 90 Slot.kv Box.av b.on),(1209,TP 91 Ks Box.av b.quay),(1210,TP 92 Ks I64 b.open_)]) ⟨(.sm O O),⟨fbQ O (.sm O O),fmQ O,fmQ O,fmQ O,ø⟩,rfl⟩ ?_
   obtain⟨a,c4,h⟩:=Ge h
   refine Jq [3] [0,0,0,0,0,0,1] [0,0,0,0,1,1,1] [[(1207,.box 94 (Km b)),(1208,TP 90 Slot.kv Box.av b.on),(1209,TP 91 Ks Box.av b.quay),(1210,TP 92 Ks I64 b.open_)],[(1207,.box 94 [E3 a.2.ship.Columns,E8 a.2.ship.Covers,I64 a.2.ship.Light.Kilos,I64 a.2.ship.Light.X,I64 a.2.ship.Light.Y,I64 a.2.ship.Light.Z,E4 a.2.ship.Rows,E5 a.2.ship.Frames,E6 a.2.ship.Tanks,I64 a.2.ship.G8.Tolerance,I64 a.2.ship.G8.Trim,I64 a.2.ship.G8.List_,I64 a.2.ship.G8.Stability,.mp 1208,.mp 1209,.mp 1210,I64 a.2.lifts]),(1208,TP 90 Slot.kv Box.av a.2.on),(1209,TP 91 Ks Box.av a.2.quay),(1210,TP 92 Ks I64 a.2.open_)]] J9 (by kernel_rfl) rfl rfl ?_
   refine Gd (u:=.ptr 1207 0) O O ⟨Gh (G6 O O) O,ø⟩ (Gd (u:=.dptr (H5.cs q)) O O ⟨Gh (Ga R0e O O O) O,ø⟩ (Gd (u:=.agg (Move.cs q.x)) O O ⟨Gh (Gk Gb4 O O O) O,ø⟩ (D_w (u:=I64 a.1) O O O O (Gh (Yv (args:=[.ptr 1207 0,.agg (Move.cs q.x)]) (L0:=[(1207,.box 94 (Km b)),(1208,TP 90 Slot.kv Box.av b.on),(1209,TP 91 Ks Box.av b.quay),(1210,TP 92 Ks I64 b.open_)]) (Lr:=[(1207,.box 94 [E3 a.2.ship.Columns,E8 a.2.ship.Covers,I64 a.2.ship.Light.Kilos,I64 a.2.ship.Light.X,I64 a.2.ship.Light.Y,I64 a.2.ship.Light.Z,E4 a.2.ship.Rows,E5 a.2.ship.Frames,E6 a.2.ship.Tanks,I64 a.2.ship.G8.Tolerance,I64 a.2.ship.G8.Trim,I64 a.2.ship.G8.List_,I64 a.2.ship.G8.Stability,.mp 1208,.mp 1209,.mp 1210,I64 a.2.lifts]),(1208,TP 90 Slot.kv Box.av a.2.on),(1209,TP 91 Ks Box.av a.2.quay),(1210,TP 92 Ks I64 a.2.open_)]) O (H9c b q.x a c4) Ja5 ⟨.inl O,O,.inl O,O,ø⟩ ⟨O,O,O,O,ø⟩ O O O) O) (Gd (u:=.dptr [I64 q.e]) O O ⟨Gh (Ga J88 O O O) O,Gh (Ga J88 O O O) O,ø⟩ (Gd (u:=I64 q.e) O O ⟨Gh (Gg Hf9 O O O) O,Gh (Gg Hf9 O O O) O,ø⟩ (Gd (u:=BL (decide (a.1≠q.e))) O O ⟨Gh (Gca O O O) O,ø⟩ (Rj ?_)))))))
   refine c3 (JCc O h (fun h hb=>?_) (fun h hb=>?_))
   ·
    refine Jr fun c5=>(JLm (BL false) O (G5 (c5 (Gs (fin1 BL h)))))
   ·
    refine Gm (c1 (G2 (JLh (I64 ((p+1:Nat):Int)) (Ja (Hp a4 b4) O O O) O (JLm (I64 ((p+1:Nat):Int)) O (G5 (e5 _ _ (p+1) a.2 (app1 c0 h) (by omega) ⟨(.sm O O),⟨fbQ O (.sm O O),fmQ O,fmQ O,fmQ O,ø⟩,rfl⟩))))))
  ·
   have h:=app1 a5 (Hu a3 (Hh hb))
   refine Hr (e3 (Jr fun c6=>(JLm (.ptr 1207 0) O ?_)))
   obtain⟨v,c7,h⟩:=Ge h
   refine JLh (I64 v) (G69 (args:=[.dptr (Gc.cs b)]) O (H17 b v c7) Ja3 ⟨.ptrL O (dnQ 13 O O ⟨.mp O,.mp O,.mp O,.data O O,ø⟩),ø⟩ O) O (JLh (BL (decide (v=4))) (Qk O O O) O (JLm (BL (decide (v=4))) O (JLo (.ptr 1207 0) [] O .sct ø (fun hc=>G6 O O) O ?_)))
   obtain⟨a0,c8,h⟩:=Ge h
   refine JLo (E2 a0) [72] O .sct ⟨Ua,ø⟩ (fun hc=>Gc3 (args:=[.dptr (Gc.cs b)]) (g:=I64) (r:=a0) O (H9d b a0 (H4 hc c8)) Qaa ⟨.ptrL O (dnQ 13 O O ⟨.mp O,.mp O,.mp O,.data O O,ø⟩),ø⟩ (fun _=>O)) O (JLo (E2 [1]) [] O .sct ø (fun hc=>He (xs:=[I64 1]) O ⟨O,O,ø⟩ H1 Y0 O O O O) O ?_)
   obtain⟨z,c9,h⟩:=Ge h
   refine JLo (BL z) [73,74] O .sct ⟨Ua,Ua,ø⟩ (fun hc=>Gu (args:=[E2 a0,E2 [1]]) O (Gc6 a0 [1] z (H4 hc c9)) Qab ⟨O,O,O,O,ø⟩) O (JLh (BL ((decide (v=4))&&z)) (Y4 O O O O) O (JLm (BL ((decide (v=4))&&z)) O (JLo (.ptr 1207 0) [] O .sct ø (fun hc=>G6 O O) O ?_)))
   obtain⟨w,d0,h⟩:=Ge h
   refine JLo (E2 w) [78] O .sct ⟨Ua,ø⟩ (fun hc=>Gc3 (args:=[.dptr (Gc.cs b)]) (g:=I64) (r:=w) O (Heb b w (H4 hc d0)) Qac ⟨.ptrL O (dnQ 13 O O ⟨.mp O,.mp O,.mp O,.data O O,ø⟩),ø⟩ (fun _=>O)) O (JLo (Em w.length) [79] O .sct ⟨Ua,ø⟩ (fun hc=>H69 (f:=I64) (xs:=w) H1 O O) O (JLo (BL (decide ((w.length:Int)=0))) [80] O .sct ⟨Ua,ø⟩ (fun hc=>Qk O O O) O (JLh (BL (((decide (v=4))&&z)&&(decide ((w.length:Int)=0)))) (Y4 O O O O) O (JLm (BL (((decide (v=4))&&z)&&(decide ((w.length:Int)=0)))) O (JLo (.ptr 1207 0) [] O .sct ø (fun hc=>G6 O O) O ?_)))))
   obtain⟨a1,d1,h⟩:=Ge h
   refine JLo (E1 a1) [84] O .sct ⟨Ua,ø⟩ (fun hc=>Gc3 (args:=[.dptr (Gc.cs b)]) (g:=G1.av) (r:=a1) O (Hbd.down b a1 (H4 hc d1)) Qad ⟨.ptrL O (dnQ 13 O O ⟨.mp O,.mp O,.mp O,.data O O,ø⟩),ø⟩ (fun _=>O)) O ?_
   obtain⟨s,d2,h⟩:=Ge h
   refine JLo (.agg (Slot.cs s)) [] O .sct ø (fun hc=>Gu (args:=[I64 3,I64 0]) O (Q5 3 0 s (H4 hc d2)) G29 ⟨O,O,O,O,ø⟩) O (JLo (.agg [I64 2,I64 s.G3,I64 s.Tier,U8 s.Half]) [86] O .sct ⟨Ua,ø⟩ (fun hc=>Hg (cs:=[I64 2,I64 s.G3,I64 s.Tier,U8 s.Half]) [(0,1),(1,3)] [I64 0,I64 0,I64 0,U8 0] [E0,E0,E0,.int .u8 0] G37 G99 (zzQ O) O O) O ?_)
   obtain⟨t,d3,h⟩:=Ge h
   refine JLo (.agg (Slot.cs t)) [] O .sct ø (fun hc=>Gu (args:=[I64 0,I64 0]) O (Q5 0 0 t (H4 hc d3)) G29 ⟨O,O,O,O,ø⟩) O (JLo (.agg [I64 3,I64 t.G3,I64 t.Tier,U8 t.Half]) [88] O .sct ⟨Ua,ø⟩ (fun hc=>Hg (cs:=[I64 3,I64 t.G3,I64 t.Tier,U8 t.Half]) [(0,1),(1,3)] [I64 0,I64 0,I64 0,U8 0] [E0,E0,E0,.int .u8 0] G37 G99 (zzQ O) O O) O (JLo (E1 [(G1.mk 2 s),(G1.mk 3 t)]) [87,89] O .sct ⟨Ua,Ua,ø⟩ (fun hc=>He (xs:=[.agg [I64 2,I64 s.G3,I64 s.Tier,U8 s.Half],.agg [I64 3,I64 t.G3,I64 t.Tier,U8 t.Half]]) O ⟨O,O,O,O,ø⟩ H3 Jy O O O O) O ?_))
   obtain⟨a2,d4,h⟩:=Ge h
   refine JLo (BL a2) [85,90] O .sct ⟨Ua,Ua,ø⟩ (fun hc=>Gu (args:=[E1 a1,E1 [(G1.mk 2 s),(G1.mk 3 t)]]) O (G7a a1 [(G1.mk 2 s),(G1.mk 3 t)] a2 (H4 hc d4)) Qae ⟨O,O,O,O,ø⟩) O (JLh (BL ((((decide (v=4))&&z)&&(decide ((w.length:Int)=0)))&&a2)) (Y4 O O O O) O (JLm (BL ((((decide (v=4))&&z)&&(decide ((w.length:Int)=0)))&&a2)) O (G5 (c6 (Gs (fin1 BL h))))))
end
end Go.Proofs.YtgcpimpnpcdmmaaGreat
