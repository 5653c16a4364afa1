/-
 Models of functions of the program,and that they return what the models say.
-/
import Derived.Test.YtknalejjpofoaaaGreatXV
set_option maxRecDepth 100000
set_option maxHeartbeats 1000000
set_option linter.unusedVariables false
set_option linter.unusedSimpArgs false
namespace Go.Proofs.YtknalejjpofoaaaGreat
open Go.RowKit
noncomputable section
def Hc0:ByteArray:=ByteArray.mk #[0,1,2,2,3,3,3,3,4,4,4,4,4,4,4,4,5,5,5,5,5,5,5,5,5,5,5,5,5,5,5,5,6,6,6,6,6,6,6,6,6,6,6,6,6,6,6,6,6,6,6,6,6,6,6,6,6,6,6,6,6,6,6,6,7,7,7,7,7,7,7,7,7,7,7,7,7,7,7,7,7,7,7,7,7,7,7,7,7,7,7,7,7,7,7,7,7,7,7,7,7,7,7,7,7,7,7,7,7,7,7,7,7,7,7,7,7,7,7,7,7,7,7,7,7,7,7,7,8,8,8,8,8,8,8,8,8,8,8,8,8,8,8,8,8,8,8,8,8,8,8,8,8,8,8,8,8,8,8,8,8,8,8,8,8,8,8,8,8,8,8,8,8,8,8,8,8,8,8,8,8,8,8,8,8,8,8,8,8,8,8,8,8,8,8,8,8,8,8,8,8,8,8,8,8,8,8,8,8,8,8,8,8,8,8,8,8,8,8,8,8,8,8,8,8,8,8,8,8,8,8,8,8,8,8,8,8,8,8,8,8,8,8,8,8,8,8,8,8,8,8,8,8,8,8,8]
structure Move where
 Kind:Int
 Gd:Int
 Slot:Slot
 G9:Int
 deriving DecidableEq,Inhabited
def Move.cs (x:Move):List AV:=[U8 x.Kind,G0 x.Gd,G0 x.Slot.G4,G0 x.Slot.Tier,U8 x.Slot.Half,G0 x.G9]
def Move.av (x:Move):AV:=.agg x.cs
abbrev Ej (x:Move):AV:=.dptr (Move.cs x)
abbrev E6:=LS 6 Move.av
structure H8 where
 Bay:Int
 Phase:Int
 Lifts:Int
 Covers:Int
 deriving DecidableEq,Inhabited
def H8.cs (x:H8):List AV:=[G0 x.Bay,G0 x.Phase,G0 x.Lifts,G0 x.Covers]
def H8.av (x:H8):AV:=.agg x.cs
abbrev En (x:H8):AV:=.dptr (H8.cs x)
abbrev Ec:=LS 4 H8.av
structure J4 where
 e0:Int
 e1:Int
 deriving DecidableEq,Inhabited
def J4.cs (x:J4):List AV:=[G0 x.e0,G0 x.e1]
def J4.av (x:J4):AV:=.agg x.cs
def J4.ks (x:J4):List Value:=[.int .i64 x.e0,.int .i64 x.e1]
def J4.kv (x:J4):Value:=.agg x.ks.toArray
namespace XMF
open XAF
open XCF
open XVF
theorem tq_128 (a b:J4):Hb8 Ep 4 128 [.int .i64 a.e0,.int .i64 a.e1] [.int .i64 b.e0,.int .i64 b.e1]=some (decide (a=b)):=by
 refine(show _=some ((a.e0==b.e0)&&((a.e1==b.e1)&&true)) by kernel_rfl).trans (congrArg some ?_)
 rw [Bool.eq_iff_iff]
 simp only [Bool.and_eq_true,beq_iff_eq,decide_eq_true_eq,Bool.and_true]
 constructor
 ·intro h; obtain⟨_,_⟩:=a; obtain⟨_,_⟩:=b; simp_all
 ·intro h; subst h; simp
theorem H9a:Gbf Ep 128 2=true:=by kernel_rfl
theorem H1d:Gbf Ep 56 6=true:=by kernel_rfl
theorem Ga5:Gbf Ep 94 4=true:=by kernel_rfl
theorem Qe2:arrB Ep 128 3 1=true:=by kernel_rfl
theorem Q93:H5 Ep 102=true:=by kernel_rfl
theorem Q92:H5 Ep 103=true:=by kernel_rfl
theorem Q91:H5 Ep 104=true:=by kernel_rfl
theorem Q90:H5 Ep 105=true:=by kernel_rfl
theorem Q8f:H5 Ep 106=true:=by kernel_rfl
theorem Q8e:H5 Ep 107=true:=by kernel_rfl
theorem Q8c:H5 Ep 109=true:=by kernel_rfl
theorem Q88:H5 Ep 117=true:=by kernel_rfl
theorem Hc6:H5 Ep 118=true:=by kernel_rfl
theorem Qdf:H5 Ep 12=true:=by kernel_rfl
theorem Q84:H5 Ep 123=true:=by kernel_rfl
theorem Q83:H5 Ep 124=true:=by kernel_rfl
theorem Q82:H5 Ep 125=true:=by kernel_rfl
theorem Q81:H5 Ep 126=true:=by kernel_rfl
theorem Jff:H5 Ep 13=true:=by kernel_rfl
theorem Q7d:H5 Ep 133=true:=by kernel_rfl
theorem Q7c:H5 Ep 142=true:=by kernel_rfl
theorem Hc5:H5 Ep 151=true:=by kernel_rfl
theorem Q7b:H5 Ep 153=true:=by kernel_rfl
theorem J91:H5 Ep 154=true:=by kernel_rfl
theorem Q7a:H5 Ep 155=true:=by kernel_rfl
theorem Q79:H5 Ep 174=true:=by kernel_rfl
theorem Qd3:H5 Ep 30=true:=by kernel_rfl
theorem Qd2:H5 Ep 31=true:=by kernel_rfl
theorem Qd1:H5 Ep 32=true:=by kernel_rfl
theorem Qd0:H5 Ep 33=true:=by kernel_rfl
theorem Qcf:H5 Ep 34=true:=by kernel_rfl
theorem Qce:H5 Ep 35=true:=by kernel_rfl
theorem Qc4:H5 Ep 52=true:=by kernel_rfl
theorem Qc3:H5 Ep 53=true:=by kernel_rfl
theorem J25:H5 Ep 54=true:=by kernel_rfl
theorem G9f:H5 Ep 55=true:=by kernel_rfl
theorem H96:H5 Ep 64=true:=by kernel_rfl
theorem Jf3:H5 Ep 65=true:=by kernel_rfl
theorem Jf2:H5 Ep 66=true:=by kernel_rfl
theorem H2b:H5 Ep 67=true:=by kernel_rfl
theorem Jf1:H5 Ep 68=true:=by kernel_rfl
theorem H2a:H5 Ep 70=true:=by kernel_rfl
theorem Qb3:H5 Ep 89=true:=by kernel_rfl
theorem H95:H5 Ep 90=true:=by kernel_rfl
theorem Qaf:Y2 Ep 49 1 24=true:=by kernel_rfl
theorem Je8:Y2 Ep 56 6 48=true:=by kernel_rfl
theorem Qad:Y2 Ep 94 4 32=true:=by kernel_rfl
theorem Qac:Ha5 Ep 94 2 2=true:=by kernel_rfl
theorem Je6:Ha5 Ep 94 3 3=true:=by kernel_rfl
theorem G01:Ji Ep 56 0 0=true:=by kernel_rfl
theorem G89:Ji Ep 56 2 2=true:=by kernel_rfl
theorem G88:Ji Ep 56 3 5=true:=by kernel_rfl
theorem G86:Ji Ep 94 0 0=true:=by kernel_rfl
theorem Ge3:Ji Ep 94 1 1=true:=by kernel_rfl
theorem H6a:Ji Ep 94 2 2=true:=by kernel_rfl
theorem H69:Ji Ep 94 3 3=true:=by kernel_rfl
theorem H26:J03 Ep 151 .u64=true:=by kernel_rfl
theorem Qab:J03 Ep 217 .u64=true:=by kernel_rfl
theorem H25:Ga1 Ep 127 128 94=true:=by kernel_rfl
theorem G46:placesOf Ep 56=some [(0,1),(1,1),(2,3),(5,1)]:=by kernel_rfl
theorem H93:placesOf Ep 94=some [(0,1),(1,1),(2,1),(3,1)]:=by kernel_rfl
theorem H10:Rk Ep 49=true:=by kernel_rfl
theorem Q76:R6 Ep 128 2=true:=by kernel_rfl
theorem Jdd:R6 Ep 49 1=true:=by kernel_rfl
theorem J20:R6 Ep 56 6=true:=by kernel_rfl
theorem H91:R6 Ep 94 4=true:=by kernel_rfl
theorem Gf1:sliceB Ep 44 49 1=true:=by kernel_rfl
theorem Qz:sliceB Ep 49 56 6=true:=by kernel_rfl
theorem Yr:sliceB Ep 88 94 4=true:=by kernel_rfl
theorem Q71:strB Ep 9=true:=by kernel_rfl
theorem Q6d:(Ep.info? 128).bind (fun i=>i.zero.map Value.cells)=some (List.toArray [E0,E0]):=by kernel_rfl
theorem Qa6:(Ep.info? 49).bind (fun i=>i.zero.map Value.cells)=some (List.toArray [.slice none 0 0]):=by kernel_rfl
theorem G9d:(Ep.info? 56).bind (fun i=>i.zero.map Value.cells)=some (List.toArray [.int .u8 0,E0,E0,E0,.int .u8 0,E0]):=by kernel_rfl
theorem J1e:(Ep.info? 94).bind (fun i=>i.zero.map Value.cells)=some (List.toArray [E0,E0,E0,E0]):=by kernel_rfl
theorem Q5f:R3 Ep 128 2=true:=by kernel_rfl
theorem Q6a:R3 Ep 49 1=true:=by kernel_rfl
theorem Ga4:R3 Ep 56 6=true:=by kernel_rfl
theorem Hc1:R3 Ep 94 4=true:=by kernel_rfl
theorem Jda:(Ep.info? 94).bind (·.zero)=some (.agg #[E0,E0,E0,E0]):=by kernel_rfl
theorem tk_128:H19 Ep 128 J4.kv:=H19.of_eq J4.ks (by kernel_rfl) (fun a b h=>by simp only [J4.ks,List.cons.injEq,Value.int.injEq,Value.bool.injEq,Value.string.injEq,true_and,and_true] at h; obtain⟨_,_⟩:=a; obtain⟨_,_⟩:=b; simp_all) 4 (by decide) (fun a b=>tq_128 a b) (fun a=>by kernel_rfl) (fun a=>by simp [Instr.sameBits,J4.ks])
end XMF
open XAF
open XCF
open XVF
open XMF

def Gcb (x:Int):Option Int:=
 jp (fun kj2=>
  bif decide (4294967296≤x) then
  (kj2 (G81 .u64 x 32,32))
  else
  (kj2 (x,0))) fun(j2:Int×Int)=>
 jp (fun kj5=>
  bif decide (65536≤j2.1) then
  (Rc (j2.2+16) fun v8=>
   kj5 (G81 .u64 j2.1 16,v8))
  else
  (kj5 (j2.1,j2.2))) fun(j5:Int×Int)=>
 jp (fun kj9=>
  bif decide (256≤j5.1) then
  (Rc (j5.2+8) fun v12=>
   kj9 (G81 .u64 j5.1 8,v12))
  else
  (kj9 (j5.1,j5.2))) fun(j9:Int×Int)=>
 bnd (sidx Hc0 (IntKind.u8.wrap j9.1)) fun v14=>
 Rc (v14) fun v15=>
 Rc (j9.2+v15) fun v16=>
 some v16
theorem J06 (x:Int) (r:Int) (h:Gcb x=some r):Pure Ep 142 [.sc (.int .u64 x)] (·=G0 r):=by
 unfold Gcb at h
 refine Gz [.tmp 2] Tryz.func142 O O (Jr fun hK1=>(Yb (G0 0) O (G7 (hK1 ?_))))
 obtain⟨kj2,hkj2,h⟩:=Qo h
 refine Jx (fun j2:Int×Int=>kj2 j2=some r) (fun j2=>[(0,.sc (.int .u64 j2.1)),(2,G0 j2.2)]) (fun j2=>[]) (fun Kj2 ej2=>?_) ?_
 ·
  refine Jr fun hK3=>(Yb (.sc (.int .u64 x)) O (JLh (BL (decide (4294967296≤x))) (G2f O O O) O (G7 (hK3 (JCc O h (fun h hb=>?_) (fun h hb=>?_))))))
  ·
   refine Jr fun hK4=>(Yb (.sc (.int .u64 x)) O (JLh (.sc (.int .u64 (G81 .u64 x 32))) (He9 (s:=32) O O O O) O (Yb (.sc (.int .u64 (G81 .u64 x 32))) O (G7 (hK4 (G3 (Yb (G0 32) O (G7 (ej2 _ _ (G81 .u64 x 32,32) h ⟨(.sm O O),ø,O⟩)))))))))
  ·
   refine Gi (ej2 _ _ (x,0) h ⟨(.sm O O),ø,O⟩)
 ·intro j2 h
  replace h:=app1 hkj2 h
  obtain⟨kj5,hkj5,h⟩:=Qo h
  refine Jx (fun j5:Int×Int=>kj5 j5=some r) (fun j5=>[(0,.sc (.int .u64 j5.1)),(2,G0 j5.2)]) (fun j5=>[]) (fun Kj5 ej5=>?_) ?_
  ·
   refine Jr fun hK6=>(Yb (.sc (.int .u64 j2.1)) O (JLh (BL (decide (65536≤j2.1))) (G2f O O O) O (G7 (hK6 (JCc O h (fun h hb=>?_) (fun h hb=>?_))))))
   ·
    refine Jr fun hK7=>(Yb (.sc (.int .u64 j2.1)) O (JLh (.sc (.int .u64 (G81 .u64 j2.1 16))) (He9 (s:=16) O O O O) O (Yb (.sc (.int .u64 (G81 .u64 j2.1 16))) O (G7 (hK7 (G3 (Yb (G0 j2.2) O ?_)))))))
    obtain⟨v8,hv8,h⟩:=Hv h
    refine JLh (G0 v8) (Hu hv8 O O O) O (Yb (G0 v8) O (G7 (ej5 _ _ (G81 .u64 j2.1 16,v8) h ⟨(.sm O O),ø,O⟩)))
   ·
    refine Gi (ej5 _ _ (j2.1,j2.2) h ⟨(.sm O O),ø,O⟩)
  ·intro j5 h
   replace h:=app1 hkj5 h
   obtain⟨kj9,hkj9,h⟩:=Qo h
   refine Jx (fun j9:Int×Int=>kj9 j9=some r) (fun j9=>[(0,.sc (.int .u64 j9.1)),(2,G0 j9.2)]) (fun j9=>[]) (fun Kj9 ej9=>?_) ?_
   ·
    refine Jr fun hK10=>(Yb (.sc (.int .u64 j5.1)) O (JLh (BL (decide (256≤j5.1))) (G2f O O O) O (G7 (hK10 (JCc O h (fun h hb=>?_) (fun h hb=>?_))))))
    ·
     refine Jr fun hK11=>(Yb (.sc (.int .u64 j5.1)) O (JLh (.sc (.int .u64 (G81 .u64 j5.1 8))) (He9 (s:=8) O O O O) O (Yb (.sc (.int .u64 (G81 .u64 j5.1 8))) O (G7 (hK11 (G3 (Yb (G0 j5.2) O ?_)))))))
     obtain⟨v12,hv12,h⟩:=Hv h
     refine JLh (G0 v12) (Hu hv12 O O O) O (Yb (G0 v12) O (G7 (ej9 _ _ (G81 .u64 j5.1 8,v12) h ⟨(.sm O O),ø,O⟩)))
    ·
     refine Gi (ej9 _ _ (j5.1,j5.2) h ⟨(.sm O O),ø,O⟩)
   ·intro j9 h
    replace h:=app1 hkj9 h
    refine Jr fun hK13=>(Yb (G0 j9.2) O (Yb (.sc (.int .u64 j9.1)) O (JLh (U8 (IntKind.u8.wrap j9.1)) (G4e G18 Qab O O O) O ?_)))
    obtain⟨v14,hv14,h⟩:=Ge h
    refine JLh (U8 v14) (Q9e Q71 O O O hv14) O ?_
    obtain⟨v15,hv15,h⟩:=Hv h
    refine JLh (G0 v15) (G4e Zf G18 hv15 O O) O ?_
    obtain⟨v16,hv16,h⟩:=Hv h
    refine JLh (G0 v16) (Hu hv16 O O O) O (Yb (G0 v16) O (G7 (hK13 (Gs (fin1 G0 h)))))

def Yt (x:Int):Option Int:=
 bnd (Gcb x) fun r4=>
 some r4
theorem Gca (x:Int) (r:Int) (h:Yt x=some r):Pure Ep 118 [.sc (.int .u64 x)] (·=G0 r):=by
 unfold Yt at h
 refine Gz [.tmp 2] Tryz.func118 O O (Jr fun hK1=>(Yb (G0 0) O (G7 (hK1 (Js fun hK2=>Q3a O (Gi (hK2 (Jr fun hK3=>(Yb (.sc (.int .u64 x)) O ?_)))))))))
 obtain⟨r4,hr4,h⟩:=Ge h
 refine JLh (G0 r4) (Gv O (J06 x r4 hr4) Q7c ⟨O,O,ø⟩) O (Yb (G0 r4) O (G7 (hK3 (Gs (fin1 G0 h)))))

def Zh (kind:Int) (l:List Stowed) (p2:List Move):Option (List Move):=
 each (fun y26 i26 (s26:(List Move)) nx26=>
  need (decide ((s26.length+[(Move.mk kind y26.Gd y26.Slot 0)].length)*48≤140737488355328∧s26.length+[(Move.mk kind y26.Gd y26.Slot 0)].length≤maxLen)) <|
  nx26 (s26++[(Move.mk kind y26.Gd y26.Slot 0)]))
 (fun(s26:(List Move))=>
  some s26) l 0 p2
theorem G7d (kind:Int) (l:List Stowed) (p2:List Move) (r:(List Move)) (h:Zh kind l p2=some r):Jn Ep 64 [U8 kind,E1 l,.ptr 1097 0] [(1097,.box 49 [OW 1098 6 Move.av p2]),(1098,.spare 56 6 p2.length p2.length)] (fun av L'=>av=.tup []∧L'=[(1097,.box 49 [OW 1098 6 Move.av r]),(1098,.spare 56 6 r.length r.length)]):=by
 unfold Zh at h
 refine Jq [1097,1098] [] Tryz.func64 O O (G2e O) (Jr fun hK1=>(Yb (E1 l) O (JLl Gy O O O fun hm8=>(Yb (G0 0) O (G7 (hK1 (Gj ?_)))))))
 obtain⟨b26,kx26,hb26,hkx26,h⟩:=J2 h
 refine Hb (fun i26 (s26:(List Move))=>each b26 kx26 (List.drop i26 l) i26 s26=some r) (fun i26 s26=>[(0,U8 kind),(2,.ptr 1097 0),(7,E1 l),(8,Eo l.length),(9,Eo i26)]) (fun i26 s26=>[(1098,.spare 56 6 s26.length s26.length),(1097,.box 49 [OW 1098 6 Move.av s26])]) (fun i26=>l.length - i26) 0 p2 h ⟨(.sm O O),⟨⟨_,rfl,.same⟩,⟨_,rfl,.boxL rfl ⟨.same rfl,ø⟩⟩,ø⟩,rfl⟩ ?_
 clear h
 intro i26 s26 hi26 K26 e26
 refine Jr fun hK27=>(JLh (BL (decide ((i26:Int) < (l.length:Int)))) (J0 O O O) O (G7 (hK27 (Js fun hK28=>Gf O (fun hb=>?_) (fun hb=>?_)))))
 ·
  have hk26:=Jk hb
  obtain⟨y26,nx26,hy26,hn26,h⟩:=Hs hi26 hk26
  replace h:=Y4 hb26 h
  refine Gi (hK28 (Js fun hK29=>Gj (Jr fun hK30=>(JLh (Eg y26) (H3 (f:=Stowed.av) (xs:=l) (y:=y26) O O O Gy hy26 O) O (JLh (.agg (Stowed.cs y26)) (Gg Jg O O O) O (JLh (.ptr 1138 0) (Hx 1138 4 Jo O O) O (Hw (u:=.junk) (Hd (u:=.agg (Stowed.cs y26)) (ds:=[G0 y26.Gd,G0 y26.Slot.G4,G0 y26.Slot.Tier,U8 y26.Slot.Half]) Qh O O O O O O O O) (G7 (hK30 (Gq [(0,U8 kind),(2,.ptr 1097 0),(6,Eg y26),(7,E1 l),(8,Eo l.length),(9,Eo i26)] [(1098,.spare 56 6 s26.length s26.length),(1097,.box 49 [OW 1098 6 Move.av s26])] 1138 rfl rfl rfl ⟨⟨_,rfl,.same⟩,⟨_,rfl,.boxEq rfl rfl⟩,ø⟩ rfl (by repeat' (first | exact .ptr | constructor)) (G3 ?_)))))))))))
  refine JLh (OW 1098 6 Move.av s26) (Qu H10 O O O O) O (Yb (U8 kind) O (JLh (Eg y26) (Ga J5 O O O) O (JLh (G0 y26.Gd) (Gh Gb O O O) O (JLh (.dptr ((Stowed.cs y26).drop 1)) (Ga Hr O O O) O (JLh (.agg ((Stowed.cs y26).drop 1)) (Gg Jh O O O) O (JLh (.agg [U8 kind,G0 y26.Gd,G0 y26.Slot.G4,G0 y26.Slot.Tier,U8 y26.Slot.Half,G0 0]) (J3 (cs:=[U8 kind,G0 y26.Gd,G0 y26.Slot.G4,G0 y26.Slot.Tier,U8 y26.Slot.Half,G0 0]) [(0,1),(1,1),(2,3),(5,1)] [U8 0,G0 0,G0 0,G0 0,U8 0,G0 0] [.int .u8 0,E0,E0,E0,.int .u8 0,E0] G46 G9d ⟨.inl O,.inl O,.inl O,.inl O,.inl O,.inl O,ø⟩ O O) O (JLh (E6 [(Move.mk kind y26.Gd y26.Slot 0)]) (H6 (xs:=[.agg [U8 kind,G0 y26.Gd,G0 y26.Slot.G4,G0 y26.Slot.Tier,U8 y26.Slot.Half,G0 0]]) O ⟨O,O,ø⟩ Qz Ga4 O O O O) O ?_)))))))
  obtain⟨ha31,h⟩:=Jd h
  refine JLh (OW 1098 6 Move.av (s26++[(Move.mk kind y26.Gd y26.Slot 0)])) (Qk (f:=Move.av) (xs:=s26) (ys:=[(Move.mk kind y26.Gd y26.Slot 0)]) O O O O Qz Je8 ha31 (fun _=>O) (.inl O) O) O (Hw (u:=.junk) (Hd (u:=OW 1098 6 Move.av (s26++[(Move.mk kind y26.Gd y26.Slot 0)])) (ds:=[OW 1098 6 Move.av (s26++[(Move.mk kind y26.Gd y26.Slot 0)])]) Jdd O O O O O O O O) (G7 (hK29 (G3 (JLh (G0 ((i26+1:Nat):Int)) (Hu (Hj hk26 hm8) O O O) O (Yb (G0 ((i26+1:Nat):Int)) O (G7 (e26 _ _ (i26+1) (s26++[(Move.mk kind y26.Gd y26.Slot 0)]) (app1 hn26 h) (by omega) ⟨(.sm O O),⟨⟨_,rfl,.same⟩,⟨_,rfl,.boxL rfl ⟨.same rfl,ø⟩⟩,ø⟩,rfl⟩))))))))
 ·
  have h:=app1 hkx26 (Ht hi26 (Ha hb))
  refine Hm ?_
  obtain rfl:=Option.some.inj h
  exact⟨[],[(1097,.box 49 [OW 1098 6 Move.av s26]),(1098,.spare 56 6 s26.length s26.length)],⟨⟨_,O,.boxL O ⟨.same O,ø⟩⟩,⟨_,O,.same⟩,ø⟩,O,ø,O,O⟩

def G3d (kind:Int) (l:List Int) (p2:List Move):Option (List Move):=
 each (fun y26 i26 (s26:(List Move)) nx26=>
  need (decide ((s26.length+[(Move.mk kind 0 (Slot.mk 0 0 0) y26)].length)*48≤140737488355328∧s26.length+[(Move.mk kind 0 (Slot.mk 0 0 0) y26)].length≤maxLen)) <|
  nx26 (s26++[(Move.mk kind 0 (Slot.mk 0 0 0) y26)]))
 (fun(s26:(List Move))=>
  some s26) l 0 p2
theorem H88 (kind:Int) (l:List Int) (p2:List Move) (r:(List Move)) (h:G3d kind l p2=some r):Jn Ep 65 [U8 kind,E2 l,.ptr 1097 0] [(1097,.box 49 [OW 1098 6 Move.av p2]),(1098,.spare 56 6 p2.length p2.length)] (fun av L'=>av=.tup []∧L'=[(1097,.box 49 [OW 1098 6 Move.av r]),(1098,.spare 56 6 r.length r.length)]):=by
 unfold G3d at h
 refine Jq [1097,1098] [] Tryz.func65 O O (G2e O) (Jr fun hK1=>(Yb (E2 l) O (JLl Gt O O O fun hm8=>(Yb (G0 0) O (G7 (hK1 (Gj ?_)))))))
 obtain⟨b26,kx26,hb26,hkx26,h⟩:=J2 h
 refine Hb (fun i26 (s26:(List Move))=>each b26 kx26 (List.drop i26 l) i26 s26=some r) (fun i26 s26=>[(0,U8 kind),(2,.ptr 1097 0),(7,E2 l),(8,Eo l.length),(9,Eo i26)]) (fun i26 s26=>[(1098,.spare 56 6 s26.length s26.length),(1097,.box 49 [OW 1098 6 Move.av s26])]) (fun i26=>l.length - i26) 0 p2 h ⟨(.sm O O),⟨⟨_,rfl,.same⟩,⟨_,rfl,.boxL rfl ⟨.same rfl,ø⟩⟩,ø⟩,rfl⟩ ?_
 clear h
 intro i26 s26 hi26 K26 e26
 refine Jr fun hK27=>(JLh (BL (decide ((i26:Int) < (l.length:Int)))) (J0 O O O) O (G7 (hK27 (Js fun hK28=>Gf O (fun hb=>?_) (fun hb=>?_)))))
 ·
  have hk26:=Jk hb
  obtain⟨y26,nx26,hy26,hn26,h⟩:=Hs hi26 hk26
  replace h:=Y4 hb26 h
  refine Gi (hK28 (Js fun hK29=>Gj (Jr fun hK30=>(JLh (.dptr [G0 y26]) (H3 (f:=G0) (xs:=l) (y:=y26) O O O Gt hy26 O) O (JLh (G0 y26) (Gh Gb O O O) O (Yb (G0 y26) O (G7 (hK30 (G3 ?_)))))))))
  refine JLh (OW 1098 6 Move.av s26) (Qu H10 O O O O) O (Yb (U8 kind) O (Yb (G0 y26) O (JLh (.agg [U8 kind,G0 0,G0 0,G0 0,U8 0,G0 y26]) (J3 (cs:=[U8 kind,G0 0,G0 0,G0 0,U8 0,G0 y26]) [(0,1),(1,1),(2,3),(5,1)] [U8 0,G0 0,G0 0,G0 0,U8 0,G0 0] [.int .u8 0,E0,E0,E0,.int .u8 0,E0] G46 G9d ⟨.inl O,.inl O,.inl O,.inl O,.inl O,.inl O,ø⟩ O O) O (JLh (E6 [(Move.mk kind 0 (Slot.mk 0 0 0) y26)]) (H6 (xs:=[.agg [U8 kind,G0 0,G0 0,G0 0,U8 0,G0 y26]]) O ⟨O,O,ø⟩ Qz Ga4 O O O O) O ?_))))
  obtain⟨ha31,h⟩:=Jd h
  refine JLh (OW 1098 6 Move.av (s26++[(Move.mk kind 0 (Slot.mk 0 0 0) y26)])) (Qk (f:=Move.av) (xs:=s26) (ys:=[(Move.mk kind 0 (Slot.mk 0 0 0) y26)]) O O O O Qz Je8 ha31 (fun _=>O) (.inl O) O) O (Hw (u:=.junk) (Hd (u:=OW 1098 6 Move.av (s26++[(Move.mk kind 0 (Slot.mk 0 0 0) y26)])) (ds:=[OW 1098 6 Move.av (s26++[(Move.mk kind 0 (Slot.mk 0 0 0) y26)])]) Jdd O O O O O O O O) (G7 (hK29 (G3 (JLh (G0 ((i26+1:Nat):Int)) (Hu (Hj hk26 hm8) O O O) O (Yb (G0 ((i26+1:Nat):Int)) O (G7 (e26 _ _ (i26+1) (s26++[(Move.mk kind 0 (Slot.mk 0 0 0) y26)]) (app1 hn26 h) (by omega) ⟨(.sm O O),⟨⟨_,rfl,.same⟩,⟨_,rfl,.boxL rfl ⟨.same rfl,ø⟩⟩,ø⟩,rfl⟩))))))))
 ·
  have h:=app1 hkx26 (Ht hi26 (Ha hb))
  refine Hm ?_
  obtain rfl:=Option.some.inj h
  exact⟨[],[(1097,.box 49 [OW 1098 6 Move.av s26]),(1098,.spare 56 6 s26.length s26.length)],⟨⟨_,O,.boxL O ⟨.same O,ø⟩⟩,⟨_,O,.same⟩,ø⟩,O,ø,O,O⟩

def Ra (s:List Int) (v:Int):Option Int:=
 each (fun y18 i18 (s18:Unit) nx18=>
  bif decide (v=y18) then
  (some (i18:Int))
  else
  (nx18 ()))
 (fun(s18:Unit)=>
  some (-1)) s 0 ()
theorem He3 (s:List Int) (v:Int) (r:Int) (h:Ra s v=some r):Pure Ep 109 [E2 s,G0 v] (·=G0 r):=by
 unfold Ra at h
 refine Gz [.tmp 4] Tryz.func109 O O (Jr fun hK1=>(Yb (G0 0) O (G7 (hK1 (Js fun hK2=>Jr fun hK3=>(Yb (E2 s) O (JLl Gt O O O fun hm7=>(Yb (G0 0) O (G7 (hK3 (Gj ?_)))))))))))
 obtain⟨b18,kx18,hb18,hkx18,h⟩:=J2 h
 refine Hb (fun i18 (s18:Unit)=>each b18 kx18 (List.drop i18 s) i18 s18=some r) (fun i18 s18=>[(0,E2 s),(1,G0 v),(7,Eo s.length),(8,Eo i18)]) (fun i18 s18=>[]) (fun i18=>s.length - i18) 0 () h ⟨(.sm O O),ø,rfl⟩ ?_
 clear h
 intro i18 s18 hi18 K18 e18
 refine Jr fun hK19=>(JLh (BL (decide ((i18:Int) < (s.length:Int)))) (J0 O O O) O (G7 (hK19 (Js fun hK20=>Gf O (fun hb=>?_) (fun hb=>?_)))))
 ·
  have hk18:=Jk hb
  obtain⟨y18,nx18,hy18,hn18,h⟩:=Hs hi18 hk18
  replace h:=Y4 hb18 h
  refine Gi (hK20 (Js fun hK21=>Gj (Jr fun hK22=>(Yb (Eo i18) O (Yb (Eo i18) O (G7 (hK22 (Jr fun hK23=>(Yb (G0 v) O (Yb (E2 s) O (Yb (Eo i18) O (JLh (.dptr [G0 y18]) (H3 (f:=G0) (xs:=s) (y:=y18) O O O Gt hy18 O) O (JLh (G0 y18) (Gh Gb O O O) O (JLh (BL (decide (v=y18))) (Jz O O O) O (G7 (hK23 (JCc O h (fun h hb=>?_) (fun h hb=>?_))))))))))))))))))
  ·
   refine Jr fun hK24=>(Yb (Eo i18) O (Yb (Eo i18) O (G7 (hK24 (Gs (fin1 G0 h))))))
  ·
   refine Gi (hK21 (G3 (JLh (G0 ((i18+1:Nat):Int)) (Hu (Hj hk18 hm7) O O O) O (Yb (G0 ((i18+1:Nat):Int)) O (G7 (e18 _ _ (i18+1) () (app1 hn18 h) (by omega) ⟨(.sm O O),ø,rfl⟩))))))
 ·
  have h:=app1 hkx18 (Ht hi18 (Ha hb))
  refine Hm (hK2 (Jr fun hK25=>(Yb (G0 (-1)) O (G7 (hK25 (Gs (fin1 G0 h)))))))

def Jb (s:List Int) (v:Int):Option Bool:=
 bnd (Ra s v) fun r3=>
 some (decide (0≤r3))
theorem Y8 (s:List Int) (v:Int) (r:Bool) (h:Jb s v=some r):Pure Ep 70 [E2 s,G0 v] (·=BL r):=by
 unfold Jb at h
 refine Gz [.tmp 4] Tryz.func70 O O (Jr fun hK1=>(Yb (BL false) O (G7 (hK1 (Jr fun hK2=>(Yb (E2 s) O (Yb (G0 v) O ?_)))))))
 obtain⟨r3,hr3,h⟩:=Ge h
 refine JLh (G0 r3) (Gv O (He3 s v r3 hr3) Q8c ⟨O,O,O,O,ø⟩) O (JLh (BL (decide (0≤r3))) (G2f O O O) O (Yb (BL (decide (0≤r3))) O (G7 (hK2 (Gs (fin1 BL h))))))

def Yu (x:Int):Option Bool:=
 some (decide (x≠x))
theorem G5e (x:Int) (r:Bool) (h:Yu x=some r):Pure Ep 90 [G0 x] (·=BL r):=by
 unfold Yu at h
 refine Gz [.tmp 2] Tryz.func90 O O (Jr fun hK1=>(Yb (BL false) O (G7 (hK1 (Jr fun hK2=>(Yb (G0 x) O (Yb (G0 x) O (JLh (BL (decide (x≠x))) (G71 O O O) O (Yb (BL (decide (x≠x))) O (G7 (hK2 (Gs (fin1 BL h)))))))))))))

def Qa (x:Int) (y:Int):Option Int:=
 bnd (Yu x) fun r3=>
 bnd (Yu y) fun r5=>
 bif r3 then
 (bif r5 then
  (some 0)
  else
  (some (-1)))
 else
 (bif r5 then
  (some 1)
  else
  (bif decide (x < y) then
   (some (-1))
   else
   (bif decide (y < x) then
    (some 1)
    else
    (some 0))))
theorem Rj (x:Int) (y:Int) (r:Int) (h:Qa x y=some r):Pure Ep 55 [G0 x,G0 y] (·=G0 r):=by
 unfold Qa at h
 refine Gz [.tmp 4] Tryz.func55 O O (Jr fun hK1=>(Yb (G0 0) O (G7 (hK1 (Jr fun hK2=>(Yb (G0 x) O ?_))))))
 obtain⟨r3,hr3,h⟩:=Ge h
 refine JLh (BL r3) (Gv O (G5e x r3 hr3) H95 ⟨O,O,ø⟩) O (Yb (BL r3) O (G7 (hK2 (Jr fun hK4=>(Yb (G0 y) O ?_)))))
 obtain⟨r5,hr5,h⟩:=Ge h
 refine JLh (BL r5) (Gv O (G5e y r5 hr5) H95 ⟨O,O,ø⟩) O (Yb (BL r5) O (G7 (hK4 (Js fun hK6=>Jr fun hK7=>(Yb (BL r3) O (G7 (hK7 (JCc O h (fun h hb=>?_) (fun h hb=>?_)))))))))
 ·
  refine Js fun hK8=>Jr fun hK9=>(Yb (BL r5) O (G7 (hK9 (JCc O h (fun h hb=>?_) (fun h hb=>?_)))))
  ·
   refine Jr fun hK10=>(Yb (G0 0) O (G7 (hK10 (Gs (fin1 G0 h)))))
  ·
   refine Gi (hK8 (Jr fun hK11=>(Yb (G0 (-1)) O (G7 (hK11 (Gs (fin1 G0 h)))))))
 ·
  refine Gi (hK6 (Js fun hK12=>Jr fun hK13=>(Yb (BL r5) O (G7 (hK13 (JCc O h (fun h hb=>?_) (fun h hb=>?_)))))))
  ·
   refine Jr fun hK14=>(Yb (G0 1) O (G7 (hK14 (Gs (fin1 G0 h)))))
  ·
   refine Gi (hK12 (Js fun hK15=>Jr fun hK16=>(Yb (G0 x) O (Yb (G0 y) O (JLh (BL (decide (x < y))) (J0 O O O) O (G7 (hK16 (JCc O h (fun h hb=>?_) (fun h hb=>?_)))))))))
   ·
    refine Jr fun hK17=>(Yb (G0 (-1)) O (G7 (hK17 (Gs (fin1 G0 h)))))
   ·
    refine Gi (hK15 (Js fun hK18=>Jr fun hK19=>(Yb (G0 x) O (Yb (G0 y) O (JLh (BL (decide (y < x))) (G43 O O O) O (G7 (hK19 (JCc O h (fun h hb=>?_) (fun h hb=>?_)))))))))
    ·
     refine Jr fun hK20=>(Yb (G0 1) O (G7 (hK20 (Gs (fin1 G0 h)))))
    ·
     refine Gi (hK18 (Jr fun hK21=>(Yb (G0 0) O (G7 (hK21 (Gs (fin1 G0 h)))))))

def G22 (x:Int):Option Bool:=
 some (decide (x≠x))
theorem H0d (x:Int) (r:Bool) (h:G22 x=some r):Pure Ep 154 [U8 x] (·=BL r):=by
 unfold G22 at h
 refine Gz [.tmp 2] Tryz.func154 O O (Jr fun hK1=>(Yb (BL false) O (G7 (hK1 (Jr fun hK2=>(Yb (U8 x) O (Yb (U8 x) O (JLh (BL (decide (x≠x))) (G71 O O O) O (Yb (BL (decide (x≠x))) O (G7 (hK2 (Gs (fin1 BL h)))))))))))))

def Zx (x:Int) (y:Int):Option Int:=
 bnd (G22 x) fun r3=>
 bnd (G22 y) fun r5=>
 bif r3 then
 (bif r5 then
  (some 0)
  else
  (some (-1)))
 else
 (bif r5 then
  (some 1)
  else
  (bif decide (x < y) then
   (some (-1))
   else
   (bif decide (y < x) then
    (some 1)
    else
    (some 0))))
theorem Hbd (x:Int) (y:Int) (r:Int) (h:Zx x y=some r):Pure Ep 125 [U8 x,U8 y] (·=G0 r):=by
 unfold Zx at h
 refine Gz [.tmp 4] Tryz.func125 O O (Jr fun hK1=>(Yb (G0 0) O (G7 (hK1 (Jr fun hK2=>(Yb (U8 x) O ?_))))))
 obtain⟨r3,hr3,h⟩:=Ge h
 refine JLh (BL r3) (Gv O (H0d x r3 hr3) J91 ⟨O,O,ø⟩) O (Yb (BL r3) O (G7 (hK2 (Jr fun hK4=>(Yb (U8 y) O ?_)))))
 obtain⟨r5,hr5,h⟩:=Ge h
 refine JLh (BL r5) (Gv O (H0d y r5 hr5) J91 ⟨O,O,ø⟩) O (Yb (BL r5) O (G7 (hK4 (Js fun hK6=>Jr fun hK7=>(Yb (BL r3) O (G7 (hK7 (JCc O h (fun h hb=>?_) (fun h hb=>?_)))))))))
 ·
  refine Js fun hK8=>Jr fun hK9=>(Yb (BL r5) O (G7 (hK9 (JCc O h (fun h hb=>?_) (fun h hb=>?_)))))
  ·
   refine Jr fun hK10=>(Yb (G0 0) O (G7 (hK10 (Gs (fin1 G0 h)))))
  ·
   refine Gi (hK8 (Jr fun hK11=>(Yb (G0 (-1)) O (G7 (hK11 (Gs (fin1 G0 h)))))))
 ·
  refine Gi (hK6 (Js fun hK12=>Jr fun hK13=>(Yb (BL r5) O (G7 (hK13 (JCc O h (fun h hb=>?_) (fun h hb=>?_)))))))
  ·
   refine Jr fun hK14=>(Yb (G0 1) O (G7 (hK14 (Gs (fin1 G0 h)))))
  ·
   refine Gi (hK12 (Js fun hK15=>Jr fun hK16=>(Yb (U8 x) O (Yb (U8 y) O (JLh (BL (decide (x < y))) (J0 O O O) O (G7 (hK16 (JCc O h (fun h hb=>?_) (fun h hb=>?_)))))))))
   ·
    refine Jr fun hK17=>(Yb (G0 (-1)) O (G7 (hK17 (Gs (fin1 G0 h)))))
   ·
    refine Gi (hK15 (Js fun hK18=>Jr fun hK19=>(Yb (U8 x) O (Yb (U8 y) O (JLh (BL (decide (y < x))) (G43 O O O) O (G7 (hK19 (JCc O h (fun h hb=>?_) (fun h hb=>?_)))))))))
    ·
     refine Jr fun hK20=>(Yb (G0 1) O (G7 (hK20 (Gs (fin1 G0 h)))))
    ·
     refine Gi (hK18 (Jr fun hK21=>(Yb (G0 0) O (G7 (hK21 (Gs (fin1 G0 h)))))))

def G4d (vals:List Int):Option Int:=
 each (fun y19 i19 (s19:Unit) nx19=>
  bif decide (y19≠0) then
  (some y19)
  else
  (nx19 ()))
 (fun(s19:Unit)=>
  some 0) vals 0 ()
theorem H48 (vals:List Int) (r:Int) (h:G4d vals=some r):Pure Ep 54 [E2 vals] (·=G0 r):=by
 unfold G4d at h
 refine Gz [.tmp 2] Tryz.func54 O O (Jr fun hK1=>(Yb (G0 0) O (G7 (hK1 (Jr fun hK2=>(Yb (G0 0) O (G7 (hK2 (Js fun hK3=>Jr fun hK4=>(Yb (E2 vals) O (JLl Gt O O O fun hm7=>(Yb (G0 0) O (G7 (hK4 (Gj ?_)))))))))))))))
 obtain⟨b19,kx19,hb19,hkx19,h⟩:=J2 h
 refine Hb (fun i19 (s19:Unit)=>each b19 kx19 (List.drop i19 vals) i19 s19=some r) (fun i19 s19=>[(3,G0 0),(6,E2 vals),(7,Eo vals.length),(8,Eo i19)]) (fun i19 s19=>[]) (fun i19=>vals.length - i19) 0 () h ⟨(.sm O O),ø,rfl⟩ ?_
 clear h
 intro i19 s19 hi19 K19 e19
 refine Jr fun hK20=>(JLh (BL (decide ((i19:Int) < (vals.length:Int)))) (J0 O O O) O (G7 (hK20 (Js fun hK21=>Gf O (fun hb=>?_) (fun hb=>?_)))))
 ·
  have hk19:=Jk hb
  obtain⟨y19,nx19,hy19,hn19,h⟩:=Hs hi19 hk19
  replace h:=Y4 hb19 h
  refine Gi (hK21 (Js fun hK22=>Gj (Jr fun hK23=>(JLh (.dptr [G0 y19]) (H3 (f:=G0) (xs:=vals) (y:=y19) O O O Gt hy19 O) O (JLh (G0 y19) (Gh Gb O O O) O (Yb (G0 y19) O (G7 (hK23 (Jr fun hK24=>(Yb (G0 y19) O (Yb (G0 0) O (JLh (BL (decide (y19≠0))) (G71 O O O) O (G7 (hK24 (JCc O h (fun h hb=>?_) (fun h hb=>?_))))))))))))))))
  ·
   refine Jr fun hK25=>(Yb (G0 y19) O (Yb (G0 y19) O (G7 (hK25 (Gs (fin1 G0 h))))))
  ·
   refine Gi (hK22 (G3 (JLh (G0 ((i19+1:Nat):Int)) (Hu (Hj hk19 hm7) O O O) O (Yb (G0 ((i19+1:Nat):Int)) O (G7 (e19 _ _ (i19+1) () (app1 hn19 h) (by omega) ⟨(.sm O O),ø,rfl⟩))))))
 ·
  have h:=app1 hkx19 (Ht hi19 (Ha hb))
  refine Hm (hK3 (Jr fun hK26=>(Yb (G0 0) O (Yb (G0 0) O (G7 (hK26 (Gs (fin1 G0 h))))))))

def G68 (a:Slot) (b:Slot):Option Int:=
 bnd (Qa a.G4 b.G4) fun r3=>
 bnd (Qa a.Tier b.Tier) fun r4=>
 bnd (Zx a.Half b.Half) fun r5=>
 bnd (G4d [r3,r4,r5]) fun r6=>
 some r6
theorem J85 (a:Slot) (b:Slot) (r:Int) (h:G68 a b=some r):Pure Ep 106 [.agg [G0 a.G4,G0 a.Tier,U8 a.Half],.agg [G0 b.G4,G0 b.Tier,U8 b.Half]] (·=G0 r):=by
 unfold G68 at h
 refine Gz [.tmp 4] Tryz.func106 O O (Jr fun hK1=>(JLh (.ptr 1176 0) (Jm (cs:=[G0 a.G4,G0 a.Tier,U8 a.Half]) 1176 O O O O O) O (JLh (.ptr 1177 0) (Jm (cs:=[G0 b.G4,G0 b.Tier,U8 b.Half]) 1177 O O O O O) O (Yb (G0 0) O (G7 (hK1 (Gq [(2,.dptr [G0 a.G4,G0 a.Tier,U8 a.Half]),(3,.ptr 1177 0)] [(1177,.box 54 [G0 b.G4,G0 b.Tier,U8 b.Half])] 1176 rfl rfl rfl ⟨⟨_,rfl,.boxEq rfl rfl⟩,ø⟩ rfl (by exact⟨.ptr,.conv (.same rfl),ø⟩) (Gq [(2,.dptr [G0 a.G4,G0 a.Tier,U8 a.Half]),(3,.dptr [G0 b.G4,G0 b.Tier,U8 b.Half])] [] 1177 rfl rfl rfl ø rfl (by exact⟨.conv (.same rfl),.ptr,ø⟩) (Js fun hK2=>?_)))))))))
 obtain⟨r3,hr3,h⟩:=Ge h
 obtain⟨r4,hr4,h⟩:=Ge h
 obtain⟨r5,hr5,h⟩:=Ge h
 obtain⟨r6,hr6,h⟩:=Ge h
 refine JC_d0 Q6 (by kernel_rfl) (Dq (.dptr [G0 a.G4,G0 a.Tier,U8 a.Half]) (Ga J9 O O O) O (Dq (G0 a.G4) (Gh Gb O O O) O (Dq (.dptr [G0 b.G4,G0 b.Tier,U8 b.Half]) (Ga J9 O O O) O (Dq (G0 b.G4) (Gh Gb O O O) O (Dq (G0 r3) (Gv (args:=[G0 a.G4,G0 b.G4]) O (Rj a.G4 b.G4 r3 hr3) G9f ⟨O,O,O,O,ø⟩) O (Dq (.dptr [G0 a.Tier,U8 a.Half]) (Ga Qi O O O) O (Dq (G0 a.Tier) (Gh Gb O O O) O (Dq (.dptr [G0 b.Tier,U8 b.Half]) (Ga Qi O O O) O (Dq (G0 b.Tier) (Gh Gb O O O) O (Dq (G0 r4) (Gv (args:=[G0 a.Tier,G0 b.Tier]) O (Rj a.Tier b.Tier r4 hr4) G9f ⟨O,O,O,O,ø⟩) O (Dq (.dptr [U8 a.Half]) (Ga Rt O O O) O (Dq (U8 a.Half) (Gh Hz O O O) O (Dq (.dptr [U8 b.Half]) (Ga Rt O O O) O ?_)))))))))))))
 refine Dq (U8 b.Half) (Gh Hz O O O) O (Dq (G0 r5) (Gv (args:=[U8 a.Half,U8 b.Half]) O (Hbd a.Half b.Half r5 hr5) Q82 ⟨O,O,O,O,ø⟩) O (Dq (E2 [r3,r4,r5]) (H6 (xs:=[G0 r3,G0 r4,G0 r5]) O ⟨O,O,O,O,O,O,ø⟩ Gt Qn O O O O) O (Dq (G0 r6) (Gv (args:=[E2 [r3,r4,r5]]) O (H48 [r3,r4,r5] r6 hr6) J25 ⟨O,O,ø⟩) O (Dq (G0 r6) (G8 O O) O (Dnil (hK2 (Gs (fin1 G0 h))))))))

def G3b (a:Stowed) (b:Stowed):Option Int:=
 bnd (Qa a.Slot.Tier b.Slot.Tier) fun r3=>
 bnd (G68 a.Slot b.Slot) fun r4=>
 bnd (G4d [r3,r4]) fun r5=>
 some r5
theorem J88 (a:Stowed) (b:Stowed) (r:Int) (h:G3b a b=some r):Pure Ep 105 [.agg (Stowed.cs a),.agg (Stowed.cs b)] (·=G0 r):=by
 unfold G3b at h
 refine Gz [.tmp 4] Tryz.func105 O O (Jr fun hK1=>(JLh (.ptr 1174 0) (Jm (cs:=[G0 a.Gd,G0 a.Slot.G4,G0 a.Slot.Tier,U8 a.Slot.Half]) 1174 O O O O O) O (JLh (.ptr 1175 0) (Jm (cs:=[G0 b.Gd,G0 b.Slot.G4,G0 b.Slot.Tier,U8 b.Slot.Half]) 1175 O O O O O) O (Yb (G0 0) O (G7 (hK1 (Gq [(2,Eg a),(3,.ptr 1175 0)] [(1175,.box 82 [G0 b.Gd,G0 b.Slot.G4,G0 b.Slot.Tier,U8 b.Slot.Half])] 1174 rfl rfl rfl ⟨⟨_,rfl,.boxEq rfl rfl⟩,ø⟩ rfl (by exact⟨.ptr,.conv (.same rfl),ø⟩) (Gq [(2,Eg a),(3,Eg b)] [] 1175 rfl rfl rfl ø rfl (by exact⟨.conv (.same rfl),.ptr,ø⟩) (Js fun hK2=>?_)))))))))
 obtain⟨r3,hr3,h⟩:=Ge h
 obtain⟨r4,hr4,h⟩:=Ge h
 obtain⟨r5,hr5,h⟩:=Ge h
 refine JC_d0 Q6 (by kernel_rfl) (Dq (.dptr ((Stowed.cs a).drop 1)) (Ga Hr O O O) O (Dq (.dptr [G0 a.Slot.Tier,U8 a.Slot.Half]) (Ga Qi O O O) O (Dq (G0 a.Slot.Tier) (Gh Gb O O O) O (Dq (.dptr ((Stowed.cs b).drop 1)) (Ga Hr O O O) O (Dq (.dptr [G0 b.Slot.Tier,U8 b.Slot.Half]) (Ga Qi O O O) O (Dq (G0 b.Slot.Tier) (Gh Gb O O O) O (Dq (G0 r3) (Gv (args:=[G0 a.Slot.Tier,G0 b.Slot.Tier]) O (Rj a.Slot.Tier b.Slot.Tier r3 hr3) G9f ⟨O,O,O,O,ø⟩) O (Dq (.dptr ((Stowed.cs a).drop 1)) (Ga Hr O O O) O (Dq (.agg ((Stowed.cs a).drop 1)) (Gg Jh O O O) O (Dq (.dptr ((Stowed.cs b).drop 1)) (Ga Hr O O O) O (Dq (.agg ((Stowed.cs b).drop 1)) (Gg Jh O O O) O (Dq (G0 r4) (Gv (args:=[.agg ((Stowed.cs a).drop 1),.agg ((Stowed.cs b).drop 1)]) O (J85 a.Slot b.Slot r4 hr4) Q8f ⟨O,O,O,O,ø⟩) O (Dq (E2 [r3,r4]) (H6 (xs:=[G0 r3,G0 r4]) O ⟨O,O,O,O,ø⟩ Gt Qn O O O O) O ?_)))))))))))))
 refine Dq (G0 r5) (Gv (args:=[E2 [r3,r4]]) O (H48 [r3,r4] r5 hr5) J25 ⟨O,O,ø⟩) O (Dq (G0 r5) (G8 O O) O (Dnil (hK2 (Gs (fin1 G0 h)))))

def J7 (F:Nat) (data:List Stowed) (a:Int) (b:Int) (cmp:Stowed→Stowed→Option Int):Option (List Stowed):=
 Rc (a+1) fun v2=>
 loop (fun nx3 (s3:Int×(List Stowed))=>
  bif decide (s3.1 < b) then
  (loop (fun nx58 (s58:Int×(List Stowed))=>
    bnd (bif decide (a < s58.1) then Q9 s58.2 s58.1 some else some default) fun y61=>
    bnd (bif decide (a < s58.1) then Rc (s58.1 - 1) some else some 0) fun v62=>
    bnd (bif decide (a < s58.1) then Q9 s58.2 v62 some else some default) fun y63=>
    bnd (bif decide (a < s58.1) then cmp y61 y63 else some default) fun r64=>
    bif ((decide (a < s58.1))&&(decide (r64 < 0))) then
    (Rc (s58.1 - 1) fun v66=>
     Rc (s58.1 - 1) fun v67=>
     Q9 s58.2 v67 fun y68=>
     Q9 s58.2 s58.1 fun y69=>
     Q9 s58.2 s58.1 fun y70=>
     Q9 (s58.2.set s58.1.toNat y68) v66 fun y71=>
     Rc (s58.1 - 1) fun v72=>
     nx58 (v72,((s58.2.set s58.1.toNat y68).set v66.toNat y69)))
    else
    (Rc (s3.1+1) fun v73=>
     nx3 (v73,s58.2))) F (s3.1,s3.2))
  else
  (some s3.2)) F (v2,data)
theorem Qc (F:Nat) (data:List Stowed) (data_q:Nat) (a:Int) (b:Int) (cmp:Stowed→Stowed→Option Int) (cmp_f:FuncId) (cmp_c:List AV) (cmp_B:H5 Ep cmp_f=true) (cmp_d:R0 (fun _=>false) cmp_c=true) (cmp_w:∀ a0 a1 q,cmp a0 a1=some q→Pure Ep cmp_f ([.agg (Stowed.cs a0),.agg (Stowed.cs a1)]++cmp_c) (·=G0 q)) (r:(List Stowed)) (h:J7 F data a b cmp=some r):Jn Ep 151 [.vec 1142 data_q 4 data.length,G0 a,G0 b,.fn cmp_f cmp_c] [(1142,.vec 82 4 data_q (data.map Stowed.av))] (fun av L'=>av=.tup []∧L'=[(1142,.vec 82 4 data_q (r.map Stowed.av))]):=by
 unfold J7 at h
 refine Jq [1142] [] Tryz.func151 O O (G2e O) (Jr fun hK1=>(Yb (G0 a) O ?_))
 obtain⟨v2,hv2,h⟩:=Hv h
 refine JLh (G0 v2) (Hu hv2 O O O) O (Yb (G0 v2) O (G7 (hK1 (Gj ?_))))
 obtain⟨b3,hb3,h⟩:=G48 h
 refine Hb (fun i3 (s3:Int×(List Stowed))=>loop b3 i3 s3=some r) (fun i3 s3=>[(0,.vec 1142 data_q 4 data.length),(1,G0 a),(2,G0 b),(3,.fn cmp_f cmp_c),(8,G0 s3.1)]) (fun i3 s3=>[(1142,.vec 82 4 data_q (s3.2.map Stowed.av))]) (fun i3=>i3) F (v2,data) h ⟨⟨.same O,.same O,.same O,.same (He _ _ cmp_d),.same O,ø⟩,⟨⟨_,O,.vec⟩,ø⟩,O⟩ ?_
 clear h
 intro i3 s3 hi3 K3 e3
 obtain⟨m3,nx3,hm_3,hn3,h⟩:=G0c hi3
 replace h:=J35 hb3 h
 refine Js fun hK4=>Jr fun hK5=>(Yb (G0 s3.1) O (Yb (G0 b) O (JLh (BL (decide (s3.1 < b))) (J0 O O O) O (G7 (hK5 (JCc O h (fun h hb=>?_) (fun h hb=>?_)))))))
 ·
  refine Gi (hK4 (Js fun hK6=>Gj (Jr fun hK7=>(Yb (G0 s3.1) O (Yb (G0 s3.1) O (G7 (hK7 (Gj ?_))))))))
  obtain⟨b58,hb58,h⟩:=G48 h
  refine Hb (fun i58 (s58:Int×(List Stowed))=>loop b58 i58 s58=some r) (fun i58 s58=>[(0,.vec 1142 data_q 4 data.length),(1,G0 a),(2,G0 b),(3,.fn cmp_f cmp_c),(8,G0 s3.1),(9,G0 s58.1)]) (fun i58 s58=>[(1142,.vec 82 4 data_q (s58.2.map Stowed.av))]) (fun i58=>i58) F (s3.1,s3.2) h ⟨⟨.same O,.same O,.same O,.same (He _ _ cmp_d),.same O,.same O,ø⟩,⟨⟨_,O,.vec⟩,ø⟩,O⟩ ?_
  clear h
  intro i58 s58 hi58 K58 e58
  obtain⟨m58,nx58,hm_58,hn58,h⟩:=G0c hi58
  replace h:=J35 hb58 h
  refine Js fun hK59=>Js fun hK60=>Rm (l':=[(0,.vec 1142 data_q 4 data.length),(1,G0 a),(2,G0 b),(3,.fn cmp_f cmp_c),(8,G0 s3.1),(9,G0 s58.1)]) (L':=[(1142,.vec 82 4 data_q (s58.2.map Stowed.av))]) ⟨⟨.same O,.same O,.same O,.same (He _ _ cmp_d),.same O,.same O,ø⟩,⟨⟨_,O,.vec⟩,ø⟩,O⟩ ?_
  obtain⟨y61,hy61,h⟩:=Ge h
  obtain⟨v62,hv62,h⟩:=Ge h
  obtain⟨y63,hy63,h⟩:=Ge h
  obtain⟨r64,hr64,h⟩:=Ge h
  refine JC_d0 Q6 (by kernel_rfl) (Dq (G0 s58.1) (G6 O O) O (Dq (G0 a) (G6 O O) O (Dq (BL (decide (a < s58.1))) (G43 O O O) O (Dq (BL (decide (a < s58.1))) (G6 O O) O (Do (.fn cmp_f cmp_c) [] O .sct ø (fun hc=>G6 O O) O (Do (.vec 1142 data_q 4 data.length) [] O .sct ø (fun hc=>G6 O O) O (Do (G0 s58.1) [] O .sct ø (fun hc=>G6 O O) O (Do (.vptr 1142 data_q s58.1.toNat 0) [23,24] O .sct ⟨Ua,Ua,ø⟩ (fun hc=>G13 (f:=Stowed.av) (xs:=s58.2) (y:=y61) O O O O Gy (Zp (Gx hc hy61)) (Gdc (Gx hc hy61))) O (Do (.agg (Stowed.cs y61)) [25] O .sct ⟨Ua,ø⟩ (fun hc=>G42 (f:=Stowed.av) (xs:=s58.2) (y:=y61) Jg O O O (Zp (Gx hc hy61)) O O) O (Do (.vec 1142 data_q 4 data.length) [] O .sct ø (fun hc=>G6 O O) O (Do (G0 s58.1) [] O .sct ø (fun hc=>G6 O O) O (Do (G0 v62) [28] O .sct ⟨Ua,ø⟩ (fun hc=>Zn (G8d (Gx hc hv62)) O O O) O (Do (.vptr 1142 data_q v62.toNat 0) [27,29] O .sct ⟨Ua,Ua,ø⟩ (fun hc=>G13 (f:=Stowed.av) (xs:=s58.2) (y:=y63) O O O O Gy (Zp (Gx hc hy63)) (Gdc (Gx hc hy63))) O ?_)))))))))))))
  refine Do (.agg (Stowed.cs y63)) [30] O .sct ⟨Ua,ø⟩ (fun hc=>G42 (f:=Stowed.av) (xs:=s58.2) (y:=y63) Jg O O O (Zp (Gx hc hy63)) O O) O (Do (G0 r64) [22,26,31] O .sct ⟨Ua,Ua,Ua,ø⟩ (fun hc=>G25 (args:=[.agg (Stowed.cs y61),.agg (Stowed.cs y63)]) (caps:=cmp_c) O O (cmp_w y61 y63 _ (Gx hc hr64)) cmp_B ⟨O,O,O,O,ø⟩ cmp_d) O (Do (BL (decide (r64 < 0))) [32] O .sct ⟨Ua,ø⟩ (fun hc=>J0 O O O) O (Dq (BL ((decide (a < s58.1))&&(decide (r64 < 0)))) (Qr O O O O) O (Dnil (hK60 (JCc O h (fun h hb=>?_) (fun h hb=>?_)))))))
  ·
   refine Gi (hK59 (Js fun hK65=>Gj (Rm (l':=[(0,.vec 1142 data_q 4 data.length),(1,G0 a),(2,G0 b),(3,.fn cmp_f cmp_c),(8,G0 s3.1),(9,G0 s58.1)]) (L':=[(1142,.vec 82 4 data_q (s58.2.map Stowed.av))]) ⟨⟨.same O,.same O,.same O,.same (He _ _ cmp_d),.same O,.same O,ø⟩,⟨⟨_,O,.vec⟩,ø⟩,O⟩ ?_)))
   obtain⟨v66,hv66,h⟩:=Hv h
   obtain⟨v67,hv67,h⟩:=Hv h
   obtain⟨y68,hmy68,hy68,h⟩:=G16 h
   obtain⟨y69,hmy69,hy69,h⟩:=G16 h
   obtain⟨y70,hmy70,hy70,h⟩:=G16 h
   obtain⟨y71,hmy71,hy71,h⟩:=G16 h
   refine Jy [15,17] [0,0,0,0,0,0,0,0,0,0,0,0,0,0,0,0,1,0] [0,0,1,1,1,0,0,0,0,0,0,0,0,0,0,0,1,0] [[(1142,.vec 82 4 data_q (s58.2.map Stowed.av))],((1142,.vec 82 4 data_q ((s58.2.set s58.1.toNat y68).map Stowed.av))::[(1142,.vec 82 4 data_q (s58.2.map Stowed.av))]),((1142,.vec 82 4 data_q (((s58.2.set s58.1.toNat y68).set v66.toNat y69).map Stowed.av))::((1142,.vec 82 4 data_q ((s58.2.set s58.1.toNat y68).map Stowed.av))::[(1142,.vec 82 4 data_q (s58.2.map Stowed.av))]))] Q6 (by kernel_rfl) rfl rfl ?_
   refine Gp (u:=.vec 1142 data_q 4 data.length) O O ⟨Gr (G6 O O) O,ø⟩ (Gp (u:=G0 s58.1) O O ⟨Gr (G6 O O) O,ø⟩ (Gp (u:=.vec 1142 data_q 4 data.length) O O ⟨Gr (G6 O O) O,Gr (G6 O O) O,ø⟩ (Gp (u:=G0 s58.1) O O ⟨Gr (G6 O O) O,Gr (G6 O O) O,ø⟩ (Gp (u:=G0 v66) O O ⟨Gr (Zn hv66 O O O) O,Gr (Zn hv66 O O O) O,ø⟩ (Gp (u:=.vec 1142 data_q 4 data.length) O O ⟨Gr (G6 O O) O,ø⟩ (Gp (u:=G0 s58.1) O O ⟨Gr (G6 O O) O,ø⟩ (Gp (u:=G0 v67) O O ⟨Gr (Zn hv67 O O O) O,ø⟩ (Gp (u:=.vptr 1142 data_q v67.toNat 0) O O ⟨Gr (G13 (f:=Stowed.av) (xs:=s58.2) (y:=y68) O O O O Gy hy68 hmy68) O,ø⟩ (Gp (u:=.agg (Stowed.cs y68)) O O ⟨Gr (G42 (f:=Stowed.av) (xs:=s58.2) (y:=y68) Jg O O O hy68 O O) O,ø⟩ (Gp (u:=.vec 1142 data_q 4 data.length) O O ⟨Gr (G6 O O) O,ø⟩ (Gp (u:=G0 s58.1) O O ⟨Gr (G6 O O) O,ø⟩ (Gp (u:=.vptr 1142 data_q s58.1.toNat 0) O O ⟨Gr (G13 (f:=Stowed.av) (xs:=s58.2) (y:=y69) O O O O Gy hy69 hmy69) O,ø⟩ (Gp (u:=.agg (Stowed.cs y69)) O O ⟨Gr (G42 (f:=Stowed.av) (xs:=s58.2) (y:=y69) Jg O O O hy69 O O) O,ø⟩ ?_)))))))))))))
   refine Gp (u:=.vptr 1142 data_q s58.1.toNat 0) O O ⟨Gr (G13 (f:=Stowed.av) (xs:=s58.2) (y:=y70) O O O O Gy hy70 hmy70) O,ø⟩ (J08 (u:=.junk) O O O O (Gr (H21 (f:=Stowed.av) (xs:=s58.2) (z:=y68) Qh O O O O (List.getElem?_eq_some_iff.1 hy70).1 O O O O) O) (Gp (u:=.vptr 1142 data_q v66.toNat 0) O O ⟨Gr (G13 (f:=Stowed.av) (xs:=(s58.2.set s58.1.toNat y68)) (y:=y71) O O O O Gy hy71 hmy71) O,ø⟩ (J08 (u:=.junk) O O O O (Gr (H21 (f:=Stowed.av) (xs:=(s58.2.set s58.1.toNat y68)) (z:=y69) Qh O O O O (List.getElem?_eq_some_iff.1 hy71).1 O O O O) O) (Yd (hK65 (G3 (Yb (G0 s58.1) O ?_)))))))
   obtain⟨v72,hv72,h⟩:=Hv h
   refine JLh (G0 v72) (Zn hv72 O O O) O (Yb (G0 v72) O (G7 (e58 _ _ m58 (v72,((s58.2.set s58.1.toNat y68).set v66.toNat y69)) (app1 hn58 h) (by omega) ⟨⟨.same rfl,.same rfl,.same rfl,.same (He _ _ cmp_d),.same rfl,.same rfl,ø⟩,⟨⟨_,rfl,.vec⟩,ø⟩,rfl⟩)))
  ·
   refine Hm (hK6 (G3 (Yb (G0 s3.1) O ?_)))
   obtain⟨v73,hv73,h⟩:=Hv h
   refine JLh (G0 v73) (Hu hv73 O O O) O (Yb (G0 v73) O (G7 (e3 _ _ m3 (v73,s58.2) (app1 hn3 h) (by omega) ⟨⟨.same rfl,.same rfl,.same rfl,.same (He _ _ cmp_d),.same rfl,ø⟩,⟨⟨_,rfl,.vec⟩,ø⟩,rfl⟩)))
 ·
  refine Hm ?_
  obtain rfl:=Option.some.inj h
  exact⟨[],[(1142,.vec 82 4 data_q (s3.2.map Stowed.av))],⟨⟨_,O,.vec⟩,ø⟩,O,ø,O,O⟩

def Qw (F:Nat) (data:List Stowed) (a:Int) (b:Int) (limit:Int) (cmp:Stowed→Stowed→Option Int):Option (List Stowed):=
 loop (fun nx23 (s23:Int×Int×Int×Bool×Bool)=>
  Rc (s23.2.1 - s23.1) fun v25=>
  bif decide (v25≤12) then
  (bnd (J7 F data s23.1 s23.2.1 cmp) fun r29=>
   some r29)
  else
  (bif decide (s23.2.2.1=0) then
   (none)
   else
   (bif (!s23.2.2.2.1) then
    (none)
    else
    (none)))) F (a,b,limit,true,true)
theorem G36 (F:Nat) (data:List Stowed) (data_q:Nat) (a:Int) (b:Int) (limit:Int) (cmp:Stowed→Stowed→Option Int) (cmp_f:FuncId) (cmp_c:List AV) (cmp_B:H5 Ep cmp_f=true) (cmp_d:R0 (fun _=>false) cmp_c=true) (cmp_w:∀ a0 a1 q,cmp a0 a1=some q→Pure Ep cmp_f ([.agg (Stowed.cs a0),.agg (Stowed.cs a1)]++cmp_c) (·=G0 q)) (r:(List Stowed)) (h:Qw F data a b limit cmp=some r):Jn Ep 153 [.vec 1142 data_q 4 data.length,G0 a,G0 b,G0 limit,.fn cmp_f cmp_c] [(1142,.vec 82 4 data_q (data.map Stowed.av))] (fun av L'=>av=.tup []∧L'=[(1142,.vec 82 4 data_q (r.map Stowed.av))]):=by
 unfold Qw at h
 refine Jq [1142] [] Tryz.func153 O O (G2e O) (Jr fun hK1=>(Yb (BL true) O (G7 (hK1 (Jr fun hK2=>(Yb (BL true) O (G7 (hK2 (Gj ?_)))))))))
 obtain⟨b23,hb23,h⟩:=G48 h
 refine Hb (fun i23 (s23:Int×Int×Int×Bool×Bool)=>loop b23 i23 s23=some r) (fun i23 s23=>[(0,.vec 1142 data_q 4 data.length),(1,G0 s23.1),(2,G0 s23.2.1),(3,G0 s23.2.2.1),(4,.fn cmp_f cmp_c),(10,BL s23.2.2.2.1),(11,BL s23.2.2.2.2)]) (fun i23 s23=>[(1142,.vec 82 4 data_q (data.map Stowed.av))]) (fun i23=>i23) F (a,b,limit,true,true) h ⟨⟨.same O,.same O,.same O,.same O,.same (He _ _ cmp_d),.same O,.same O,ø⟩,⟨⟨_,O,.vec⟩,ø⟩,O⟩ ?_
 clear h
 intro i23 s23 hi23 K23 e23
 obtain⟨m23,nx23,hm_23,hn23,h⟩:=G0c hi23
 replace h:=J35 hb23 h
 refine Gj (Jr fun hK24=>(Yb (G0 s23.2.1) O (Yb (G0 s23.1) O ?_)))
 obtain⟨v25,hv25,h⟩:=Hv h
 refine JLh (G0 v25) (Zn hv25 O O O) O (Yb (G0 v25) O (G7 (hK24 (Js fun hK26=>Jr fun hK27=>(Yb (G0 v25) O (JLh (BL (decide (v25≤12))) (H4a O O O) O (G7 (hK27 (JCc O h (fun h hb=>?_) (fun h hb=>?_))))))))))
 ·
  refine Jr fun hK28=>(Yb (.vec 1142 data_q 4 data.length) O (Yb (G0 s23.1) O (Yb (G0 s23.2.1) O (Yb (.fn cmp_f cmp_c) O ?_))))
  obtain⟨r29,hr29,h⟩:=Ge h
  refine JLh (.tup []) (Ry (args:=[.vec 1142 data_q 4 data.length,G0 s23.1,G0 s23.2.1,.fn cmp_f cmp_c]) (L0:=[(1142,.vec 82 4 data_q (data.map Stowed.av))]) (Lr:=[(1142,.vec 82 4 data_q (r29.map Stowed.av))]) O (Qc F data data_q s23.1 s23.2.1 cmp cmp_f cmp_c cmp_B cmp_d cmp_w r29 hr29) Hc5 ⟨.inl O,O,.inl O,O,.inl O,O,.inl O,(He _ _ cmp_d),ø⟩ ⟨O,ø⟩ O O O) O (G7 (hK28 (Gs ?_)))
  obtain rfl:=Option.some.inj h
  exact⟨[],[(1142,.vec 82 4 data_q (r29.map Stowed.av))],⟨⟨_,O,.vec⟩,ø⟩,O,ø,O,O⟩
 ·
  refine Gi (hK26 (Js fun hK30=>Jr fun hK31=>(Yb (G0 s23.2.2.1) O (JLh (BL (decide (s23.2.2.1=0))) (Jz O O O) O (G7 (hK31 (JCc O h (fun h hb=>?_) (fun h hb=>?_))))))))
  ·
   refine Js fun hK32=>?_
   cases h
  ·
   refine Gi (hK30 (Js fun hK33=>Jr fun hK34=>(Yb (BL s23.2.2.2.1) O (JLh (BL (!s23.2.2.2.1)) (Rv (b:=s23.2.2.2.1) O O) O (G7 (hK34 (JCc O h (fun h hb=>?_) (fun h hb=>?_))))))))
   ·
    refine Js fun hK35=>?_
    cases h
   ·
    refine Gi (hK33 (Js fun hK36=>?_))
    cases h

def R2 (F:Nat) (x:List Stowed) (cmp:Stowed→Stowed→Option Int):Option (List Stowed):=
 bnd (Yt (IntKind.u64.wrap (x.length:Int))) fun r2=>
 bnd (Qw F x 0 (x.length:Int) r2 cmp) fun r3=>
 some r3
theorem G6a (F:Nat) (x:List Stowed) (x_q:Nat) (cmp:Stowed→Stowed→Option Int) (cmp_f:FuncId) (cmp_c:List AV) (cmp_B:H5 Ep cmp_f=true) (cmp_d:R0 (fun _=>false) cmp_c=true) (cmp_w:∀ a0 a1 q,cmp a0 a1=some q→Pure Ep cmp_f ([.agg (Stowed.cs a0),.agg (Stowed.cs a1)]++cmp_c) (·=G0 q)) (r:(List Stowed)) (h:R2 F x cmp=some r):Jn Ep 124 [.vec 1142 x_q 4 x.length,.fn cmp_f cmp_c] [(1142,.vec 82 4 x_q (x.map Stowed.av))] (fun av L'=>av=.tup []∧L'=[(1142,.vec 82 4 x_q (r.map Stowed.av))]):=by
 unfold R2 at h
 refine Jq [1142] [] Tryz.func124 O O (G2e O) (Jr fun hK1=>(Yb (.vec 1142 x_q 4 x.length) O (J67 (f:=Stowed.av) (xs:=x) Gy O O O (fun hm6=>?_) O O O)))
 refine Yb (Eo x.length) O (G7 (hK1 (G3 (Yb (.vec 1142 x_q 4 x.length) O (Yb (Eo x.length) O (Yb (Eo x.length) O (JLh (.sc (.int .u64 (IntKind.u64.wrap (x.length:Int)))) (G4e H26 Zf O O O) O ?_)))))))
 obtain⟨r2,hr2,h⟩:=Ge h
 refine JLh (G0 r2) (Gv O (Gca (IntKind.u64.wrap (x.length:Int)) r2 hr2) Hc6 ⟨O,O,ø⟩) O (Yb (.fn cmp_f cmp_c) O ?_)
 obtain⟨r3,hr3,h⟩:=Ge h
 refine JLh (.tup []) (Ry (args:=[.vec 1142 x_q 4 x.length,G0 0,Eo x.length,G0 r2,.fn cmp_f cmp_c]) (L0:=[(1142,.vec 82 4 x_q (x.map Stowed.av))]) (Lr:=[(1142,.vec 82 4 x_q (r3.map Stowed.av))]) O (G36 F x x_q 0 (x.length:Int) r2 cmp cmp_f cmp_c cmp_B cmp_d cmp_w r3 hr3) Q7b ⟨.inl O,O,.inl O,O,.inl O,O,.inl O,O,.inl O,(He _ _ cmp_d),ø⟩ ⟨O,ø⟩ O O O) O (G7 ?_)
 obtain rfl:=Option.some.inj h
 exact⟨[],[(1142,.vec 82 4 x_q (r3.map Stowed.av))],⟨⟨_,O,.vec⟩,ø⟩,O,ø,O,O⟩

def Za (F:Nat) (l:List Stowed) (compare:Stowed→Stowed→Option Int):Option (List Stowed):=
 bnd (R2 F l compare) fun r3=>
 some r3
theorem G94 (F:Nat) (l:List Stowed) (l_q:Nat) (compare:Stowed→Stowed→Option Int) (compare_f:FuncId) (compare_c:List AV) (compare_B:H5 Ep compare_f=true) (compare_d:R0 (fun _=>false) compare_c=true) (compare_w:∀ a0 a1 q,compare a0 a1=some q→Pure Ep compare_f ([.agg (Stowed.cs a0),.agg (Stowed.cs a1)]++compare_c) (·=G0 q)) (r:(List Stowed)) (h:Za F l compare=some r):Jn Ep 104 [.vec 1142 l_q 4 l.length,.fn compare_f compare_c] [(1142,.vec 82 4 l_q (l.map Stowed.av))] (fun av L'=>∃ p:Nat,av=.vec 1142 p 4 r.length∧L'=[(1142,.vec 82 4 p (r.map Stowed.av))]):=by
 unfold Za at h
 refine Jq [1142] [.tmp 4] Tryz.func104 O O (G2e O) (Jr fun hK1=>(JLh (.vec 1173 (([]:List Stowed).length) 4 (([]:List Stowed).length)) (H79 1173 82 4 O O O) O (G7 (hK1 (Jr fun hK2=>(Yb (.vec 1142 l_q 4 l.length) O (Yb (.fn compare_f compare_c) O ?_)))))))
 obtain⟨r3,hr3,h⟩:=Ge h
 refine JLh (.tup []) (Ry (args:=[.vec 1142 l_q 4 l.length,.fn compare_f compare_c]) (L0:=[(1142,.vec 82 4 l_q (l.map Stowed.av))]) (Lr:=[(1142,.vec 82 4 l_q (r3.map Stowed.av))]) O (G6a F l l_q compare compare_f compare_c compare_B compare_d compare_w r3 hr3) Q83 ⟨.inl O,O,.inl O,(He _ _ compare_d),ø⟩ ⟨O,ø⟩ O O O) O (G7 (hK2 (Jr fun hK4=>(Yb (.vec 1142 l_q 4 l.length) O (Yb (.vec 1142 l_q 4 l.length) O (G7 (hK4 (H1a 4 O O (fun hn_=>Gs ?_)))))))))
 obtain rfl:=Option.some.inj h
 exact⟨[.vec 1142 l_q 4 l.length],[(1142,.vec 82 4 l_q (r3.map Stowed.av))],⟨⟨_,O,.vec⟩,ø⟩,O,⟨⟨_,O,.conv (.same O)⟩,ø⟩,l_q,congrArg (fun n_:Nat=>(.vec 1142 l_q 4 n_:AV)) (hn_.trans (List.length_map _)),O⟩

def Zb (F:Nat) (s:Gw) (l:List Stowed) (lifted:List Int) (bay:Int) (deck:Bool):Option (List Stowed):=
 each (fun y49 i49 (s49:(List Stowed)) nx49=>
  jp (fun kj52=>
   Q9 s.Columns y49.Slot.G4 fun y55=>
   bnd (bif ((decide (y55.Bay=bay))&&(y55.Deck==deck)) then Jb lifted y49.Gd else some default) fun r58=>
   bif (((decide (y55.Bay=bay))&&(y55.Deck==deck))&&r58) then
   (need (decide ((s49.length+[y49].length)*32≤140737488355328∧s49.length+[y49].length≤maxLen)) <|
    kj52 (s49++[y49]))
   else
   (kj52 s49)) fun(j52:(List Stowed))=>
  nx49 j52)
 (fun(s49:(List Stowed))=>
  bnd (Za F s49 (fun z0 z1=>G3b z0 z1)) fun r61=>
  some r61) l 0 []
theorem H47 (F:Nat) (s:Gw) (l:List Stowed) (lifted:List Int) (bay:Int) (deck:Bool) (r:(List Stowed)) (h:Zb F s l lifted bay deck=some r):Jn Ep 67 [.agg (Gw.cs s),E1 l,E2 lifted,G0 bay,BL deck] [] (fun av L'=>∃ p:Nat,av=.vec 1142 p 4 r.length∧L'=[(1142,.vec 82 4 p (r.map Stowed.av))]):=by
 unfold Zb at h
 refine Jq [] [.tmp 10] Tryz.func67 O O (G2e O) (Jr fun hK1=>(JLh (.ptr 1140 0) (Jm (cs:=(Gw.cs s)) 1140 O O O O O) O (JLh (.vec 1141 (([]:List Stowed).length) 4 (([]:List Stowed).length)) (H79 1141 82 4 O O O) O (G7 (hK1 ?_)))))
 refine Gq [(1,E1 l),(2,E2 lifted),(3,G0 bay),(4,BL deck),(5,Ef s)] [(1141,.vec 82 4 (([]:List Stowed).length) (([]:List Stowed).map Stowed.av))] 1140 rfl rfl rfl ⟨⟨_,rfl,.vec⟩,ø⟩ rfl (by repeat' (first | exact .ptr | constructor)) (Jr fun hK2=>(JLh (.vec 1142 (([]:List Stowed).length) 4 (([]:List Stowed).length)) (H79 1142 82 4 O O O) O (G7 (hK2 (Js fun hK3=>Jr fun hK4=>(Yb (E1 l) O (JLl Gy O O O fun hm16=>(Yb (G0 0) O (G7 (hK4 (Gj ?_)))))))))))
 obtain⟨b49,kx49,hb49,hkx49,h⟩:=J2 h
 refine Hb (fun i49 (s49:(List Stowed))=>each b49 kx49 (List.drop i49 l) i49 s49=some r) (fun i49 s49=>[(2,E2 lifted),(3,G0 bay),(4,BL deck),(5,Ef s),(11,.vec 1142 s49.length 4 s49.length),(15,E1 l),(16,Eo l.length),(17,Eo i49)]) (fun i49 s49=>[(1141,.vec 82 4 (([]:List Stowed).length) (([]:List Stowed).map Stowed.av)),(1142,.vec 82 4 s49.length (s49.map Stowed.av))]) (fun i49=>l.length - i49) 0 [] h ⟨(.sm O O),⟨⟨_,rfl,.vec⟩,⟨_,rfl,.vec⟩,ø⟩,rfl⟩ ?_
 clear h
 intro i49 s49 hi49 K49 e49
 refine Jr fun hK50=>(JLh (BL (decide ((i49:Int) < (l.length:Int)))) (J0 O O O) O (G7 (hK50 (Js fun hK51=>Gf O (fun hb=>?_) (fun hb=>?_)))))
 ·
  have hk49:=Jk hb
  obtain⟨y49,nx49,hy49,hn49,h⟩:=Hs hi49 hk49
  replace h:=Y4 hb49 h
  refine Gi (hK51 ?_)
  obtain⟨kj52,hkj52,h⟩:=Qo h
  refine Jx (fun j52:(List Stowed)=>kj52 j52=some r) (fun j52=>[(2,E2 lifted),(3,G0 bay),(4,BL deck),(5,Ef s),(11,.vec 1142 j52.length 4 j52.length),(15,E1 l),(16,Eo l.length),(17,Eo i49)]) (fun j52=>[(1141,.vec 82 4 (([]:List Stowed).length) (([]:List Stowed).map Stowed.av)),(1142,.vec 82 4 j52.length (j52.map Stowed.av))]) (fun Kj52 ej52=>?_) ?_
  ·
   refine Gj (Jr fun hK53=>(JLh (Eg y49) (H3 (f:=Stowed.av) (xs:=l) (y:=y49) O O O Gy hy49 O) O (JLh (.agg (Stowed.cs y49)) (Gg Jg O O O) O (JLh (.ptr 1143 0) (Hx 1143 4 Jo O O) O (Hw (u:=.junk) (Hd (u:=.agg (Stowed.cs y49)) (ds:=[G0 y49.Gd,G0 y49.Slot.G4,G0 y49.Slot.Tier,U8 y49.Slot.Half]) Qh O O O O O O O O) (G7 (hK53 ?_)))))))
   refine Gq [(2,E2 lifted),(3,G0 bay),(4,BL deck),(5,Ef s),(11,.vec 1142 s49.length 4 s49.length),(13,Eg y49),(15,E1 l),(16,Eo l.length),(17,Eo i49)] [(1141,.vec 82 4 (([]:List Stowed).length) (([]:List Stowed).map Stowed.av)),(1142,.vec 82 4 s49.length (s49.map Stowed.av))] 1143 rfl rfl rfl ⟨⟨_,rfl,.vec⟩,⟨_,rfl,.vec⟩,ø⟩ rfl (by repeat' (first | exact .ptr | constructor)) ?_
   refine Jr fun hK54=>(JLh (Ef s) (Ga J6 O O O) O (JLh (E4 s.Columns) (Gh Jj O O O) O (JLh (.dptr ((Stowed.cs y49).drop 1)) (Ga Hr O O O) O (JLh (.dptr ((Stowed.cs y49).drop 1)) (Ga J9 O O O) O (JLh (G0 y49.Slot.G4) (Gh Gb O O O) O ?_)))))
   obtain⟨m56,y55,hm56,hy55,h⟩:=Y0 h
   refine JLh (Ei y55) (H3 (f:=G4.av) (xs:=s.Columns) (y:=y55) O O O Je hy55 hm56) O (JLh (.agg (G4.cs y55)) (Gg G74 O O O) O (JLh (.ptr 1144 0) (Hx 1144 12 G3f O O) O (Hw (u:=.junk) (Hd (u:=.agg (G4.cs y55)) (ds:=(G4.cs y55)) H24 O O O O O O O O) (G7 (hK54 ?_)))))
   refine Gq [(2,E2 lifted),(3,G0 bay),(4,BL deck),(5,Ef s),(11,.vec 1142 s49.length 4 s49.length),(13,Eg y49),(14,Ei y55),(15,E1 l),(16,Eo l.length),(17,Eo i49)] [(1141,.vec 82 4 (([]:List Stowed).length) (([]:List Stowed).map Stowed.av)),(1142,.vec 82 4 s49.length (s49.map Stowed.av))] 1144 rfl rfl rfl ⟨⟨_,rfl,.vec⟩,⟨_,rfl,.vec⟩,ø⟩ rfl (by repeat' (first | exact .ptr | constructor)) ?_
   refine Jr fun hK57=>(JLh (Ei y55) (Ga G00 O O O) O (JLh (G0 y55.Bay) (Gh Gb O O O) O (Yb (G0 bay) O (JLh (BL (decide (y55.Bay=bay))) (Jz O O O) O (Yb (BL (decide (y55.Bay=bay))) O (JLo (.dptr ((G4.cs y55).drop 2)) [] O .sct ø (fun hc=>Ga Ye O O O) O (JLo (BL y55.Deck) [33] O .sct ⟨Ua,ø⟩ (fun hc=>Gh Qm O O O) O (JLo (BL deck) [] O .sct ø (fun hc=>G6 O O) O (JLo (BL (y55.Deck==deck)) [34,35] O .sct ⟨Ua,Ua,ø⟩ (fun hc=>J6e H7a O O O) O (JLh (BL ((decide (y55.Bay=bay))&&(y55.Deck==deck))) (Qr O O O O) O (Yb (BL ((decide (y55.Bay=bay))&&(y55.Deck==deck))) O (JLo (E2 lifted) [] O .sct ø (fun hc=>G6 O O) O (JLo (Eg y49) [] O .sct ø (fun hc=>Ga J5 O O O) O ?_)))))))))))))
   refine JLo (G0 y49.Gd) [40] O .sct ⟨Ua,ø⟩ (fun hc=>Gh Gb O O O) O ?_
   obtain⟨r58,hr58,h⟩:=Ge h
   refine JLo (BL r58) [39,41] O .sct ⟨Ua,Ua,ø⟩ (fun hc=>Gv (args:=[E2 lifted,G0 y49.Gd]) O (Y8 lifted y49.Gd r58 (Gx hc hr58)) H2a ⟨O,O,O,O,ø⟩) O (JLh (BL (((decide (y55.Bay=bay))&&(y55.Deck==deck))&&r58)) (Qr O O O O) O (G7 (hK57 (JCc O h (fun h hb=>?_) (fun h hb=>?_)))))
   ·
    refine G3 (Yb (.vec 1142 s49.length 4 s49.length) O (JLh (.agg (Stowed.cs y49)) (Gg Jg O O O) O (JLh (E1 [y49]) (H6 (xs:=[.agg (Stowed.cs y49)]) O ⟨O,O,ø⟩ Gy Jo O O O O) O ?_)))
    obtain⟨ha59,h⟩:=Jd h
    refine JLh (.vec 1142 ((s49++[y49]).length) 4 ((s49++[y49]).length)) (G70 (f:=Stowed.av) (xs:=s49) (ys:=[y49]) (ver:=s49.length) (ver1:=(s49++[y49]).length) rfl rfl rfl rfl Gy Gd5 ha59 (fun _=>rfl) (.inl rfl) (by simp)) O (Yb (.vec 1142 ((s49++[y49]).length) 4 ((s49++[y49]).length)) O (G7 (ej52 _ _ (s49++[y49]) h ⟨(.sm O O),⟨⟨_,rfl,.vec⟩,⟨_,rfl,.vec⟩,ø⟩,rfl⟩)))
   ·
    refine Gi (ej52 _ _ s49 h ⟨(.sm O O),⟨⟨_,rfl,.vec⟩,⟨_,rfl,.vec⟩,ø⟩,rfl⟩)
  ·intro j52 h
   replace h:=app1 hkj52 h
   refine G3 (JLh (G0 ((i49+1:Nat):Int)) (Hu (Hj hk49 hm16) O O O) O (Yb (G0 ((i49+1:Nat):Int)) O (G7 (e49 _ _ (i49+1) j52 (app1 hn49 h) (by omega) ⟨(.sm O O),⟨⟨_,rfl,.vec⟩,⟨_,rfl,.vec⟩,ø⟩,rfl⟩))))
 ·
  have h:=app1 hkx49 (Ht hi49 (Ha hb))
  refine Hm (hK3 (Jr fun hK60=>(Yb (.vec 1142 s49.length 4 s49.length) O ?_)))
  obtain⟨r61,hr61,h⟩:=Ge h
  refine G5f O O O (H4b (args:=[.vec 1142 s49.length 4 s49.length,.fn 105 []]) (L0:=[(1142,.vec 82 4 s49.length (s49.map Stowed.av))]) (u:=fun p=>.vec 1142 p 4 r61.length) (Lr:=fun p=>[(1142,.vec 82 4 p (r61.map Stowed.av))]) O (G94 F s49 s49.length (fun z0 z1=>G3b z0 z1) 105 [] Q90 O (fun z0 z1 q hq=>J88 z0 z1 q hq) r61 hr61) Q91 ⟨.inl O,O,.inl O,O,ø⟩ ⟨O,ø⟩ O (fun _=>O)) ?_
  rintro u_ L_ ⟨v62,rfl,rfl⟩
  refine Yb (.vec 1142 v62 4 r61.length) O (G7 (hK60 (H1a 10 O O (fun hn_=>Gs ?_))))
  obtain rfl:=Option.some.inj h
  exact⟨[.vec 1142 v62 4 r61.length],[(1142,.vec 82 4 v62 (r61.map Stowed.av))],⟨⟨_,O,.vec⟩,ø⟩,O,⟨⟨_,O,.conv (.same O)⟩,ø⟩,v62,congrArg (fun n_:Nat=>(.vec 1142 v62 4 n_:AV)) (hn_.trans (List.length_map _)),O⟩

theorem H46 (F:Nat) (s:Gw) (l:List Stowed) (lifted:List Int) (bay:Int) (deck:Bool) (r:(List Stowed)) (h:Zb F s l lifted bay deck=some r):Pure Ep 67 [.agg (Gw.cs s),E1 l,E2 lifted,G0 bay,BL deck] (·=E1 r):=(H47 F s l lifted bay deck r h).data0
def Yp (a:Stowed) (b:Stowed):Option Int:=
 bnd (Qa b.Slot.Tier a.Slot.Tier) fun r3=>
 some r3
theorem Hbc (a:Stowed) (b:Stowed) (r:Int) (h:Yp a b=some r):Pure Ep 103 [.agg (Stowed.cs a),.agg (Stowed.cs b)] (·=G0 r):=by
 unfold Yp at h
 refine Gz [.tmp 4] Tryz.func103 O O (Jr fun hK1=>(JLh (.ptr 1171 0) (Jm (cs:=[G0 a.Gd,G0 a.Slot.G4,G0 a.Slot.Tier,U8 a.Slot.Half]) 1171 O O O O O) O (JLh (.ptr 1172 0) (Jm (cs:=[G0 b.Gd,G0 b.Slot.G4,G0 b.Slot.Tier,U8 b.Slot.Half]) 1172 O O O O O) O (Yb (G0 0) O (G7 (hK1 (Gq [(2,Eg a),(3,.ptr 1172 0)] [(1172,.box 82 [G0 b.Gd,G0 b.Slot.G4,G0 b.Slot.Tier,U8 b.Slot.Half])] 1171 rfl rfl rfl ⟨⟨_,rfl,.boxEq rfl rfl⟩,ø⟩ rfl (by exact⟨.ptr,.conv (.same rfl),ø⟩) (Gq [(2,Eg a),(3,Eg b)] [] 1172 rfl rfl rfl ø rfl (by exact⟨.conv (.same rfl),.ptr,ø⟩) ?_))))))))
 refine Jr fun hK2=>(JLh (.dptr ((Stowed.cs b).drop 1)) (Ga Hr O O O) O (JLh (.dptr [G0 b.Slot.Tier,U8 b.Slot.Half]) (Ga Qi O O O) O (JLh (G0 b.Slot.Tier) (Gh Gb O O O) O (JLh (.dptr ((Stowed.cs a).drop 1)) (Ga Hr O O O) O (JLh (.dptr [G0 a.Slot.Tier,U8 a.Slot.Half]) (Ga Qi O O O) O (JLh (G0 a.Slot.Tier) (Gh Gb O O O) O ?_))))))
 obtain⟨r3,hr3,h⟩:=Ge h
 refine JLh (G0 r3) (Gv O (Rj b.Slot.Tier a.Slot.Tier r3 hr3) G9f ⟨O,O,O,O,ø⟩) O (Yb (G0 r3) O (G7 (hK2 (Gs (fin1 G0 h)))))

def Qx (F:Nat) (data:List Int) (a:Int) (b:Int) (cmp:Int→Int→Option Int):Option (List Int):=
 Rc (a+1) fun v2=>
 loop (fun nx3 (s3:Int×(List Int))=>
  bif decide (s3.1 < b) then
  (loop (fun nx58 (s58:Int×(List Int))=>
    bnd (bif decide (a < s58.1) then Q9 s58.2 s58.1 some else some default) fun y61=>
    bnd (bif decide (a < s58.1) then Rc (s58.1 - 1) some else some 0) fun v62=>
    bnd (bif decide (a < s58.1) then Q9 s58.2 v62 some else some default) fun y63=>
    bnd (bif decide (a < s58.1) then cmp y61 y63 else some default) fun r64=>
    bif ((decide (a < s58.1))&&(decide (r64 < 0))) then
    (Rc (s58.1 - 1) fun v66=>
     Rc (s58.1 - 1) fun v67=>
     Q9 s58.2 v67 fun y68=>
     Q9 s58.2 s58.1 fun y69=>
     Q9 s58.2 s58.1 fun y70=>
     Q9 (s58.2.set s58.1.toNat y68) v66 fun y71=>
     Rc (s58.1 - 1) fun v72=>
     nx58 (v72,((s58.2.set s58.1.toNat y68).set v66.toNat y69)))
    else
    (Rc (s3.1+1) fun v73=>
     nx3 (v73,s58.2))) F (s3.1,s3.2))
  else
  (some s3.2)) F (v2,data)
theorem G37 (F:Nat) (data:List Int) (data_q:Nat) (a:Int) (b:Int) (cmp:Int→Int→Option Int) (cmp_f:FuncId) (cmp_c:List AV) (cmp_B:H5 Ep cmp_f=true) (cmp_d:R0 (fun _=>false) cmp_c=true) (cmp_w:∀ a0 a1 q,cmp a0 a1=some q→Pure Ep cmp_f ([G0 a0,G0 a1]++cmp_c) (·=G0 q)) (r:(List Int)) (h:Qx F data a b cmp=some r):Jn Ep 174 [.vec 1146 data_q 1 data.length,G0 a,G0 b,.fn cmp_f cmp_c] [(1146,.vec 3 1 data_q (data.map G0))] (fun av L'=>av=.tup []∧L'=[(1146,.vec 3 1 data_q (r.map G0))]):=by
 unfold Qx at h
 refine Jq [1146] [] Tryz.func174 O O (G2e O) (Jr fun hK1=>(Yb (G0 a) O ?_))
 obtain⟨v2,hv2,h⟩:=Hv h
 refine JLh (G0 v2) (Hu hv2 O O O) O (Yb (G0 v2) O (G7 (hK1 (Gj ?_))))
 obtain⟨b3,hb3,h⟩:=G48 h
 refine Hb (fun i3 (s3:Int×(List Int))=>loop b3 i3 s3=some r) (fun i3 s3=>[(0,.vec 1146 data_q 1 data.length),(1,G0 a),(2,G0 b),(3,.fn cmp_f cmp_c),(8,G0 s3.1)]) (fun i3 s3=>[(1146,.vec 3 1 data_q (s3.2.map G0))]) (fun i3=>i3) F (v2,data) h ⟨⟨.same O,.same O,.same O,.same (He _ _ cmp_d),.same O,ø⟩,⟨⟨_,O,.vec⟩,ø⟩,O⟩ ?_
 clear h
 intro i3 s3 hi3 K3 e3
 obtain⟨m3,nx3,hm_3,hn3,h⟩:=G0c hi3
 replace h:=J35 hb3 h
 refine Js fun hK4=>Jr fun hK5=>(Yb (G0 s3.1) O (Yb (G0 b) O (JLh (BL (decide (s3.1 < b))) (J0 O O O) O (G7 (hK5 (JCc O h (fun h hb=>?_) (fun h hb=>?_)))))))
 ·
  refine Gi (hK4 (Js fun hK6=>Gj (Jr fun hK7=>(Yb (G0 s3.1) O (Yb (G0 s3.1) O (G7 (hK7 (Gj ?_))))))))
  obtain⟨b58,hb58,h⟩:=G48 h
  refine Hb (fun i58 (s58:Int×(List Int))=>loop b58 i58 s58=some r) (fun i58 s58=>[(0,.vec 1146 data_q 1 data.length),(1,G0 a),(2,G0 b),(3,.fn cmp_f cmp_c),(8,G0 s3.1),(9,G0 s58.1)]) (fun i58 s58=>[(1146,.vec 3 1 data_q (s58.2.map G0))]) (fun i58=>i58) F (s3.1,s3.2) h ⟨⟨.same O,.same O,.same O,.same (He _ _ cmp_d),.same O,.same O,ø⟩,⟨⟨_,O,.vec⟩,ø⟩,O⟩ ?_
  clear h
  intro i58 s58 hi58 K58 e58
  obtain⟨m58,nx58,hm_58,hn58,h⟩:=G0c hi58
  replace h:=J35 hb58 h
  refine Js fun hK59=>Js fun hK60=>Rm (l':=[(0,.vec 1146 data_q 1 data.length),(1,G0 a),(2,G0 b),(3,.fn cmp_f cmp_c),(8,G0 s3.1),(9,G0 s58.1)]) (L':=[(1146,.vec 3 1 data_q (s58.2.map G0))]) ⟨⟨.same O,.same O,.same O,.same (He _ _ cmp_d),.same O,.same O,ø⟩,⟨⟨_,O,.vec⟩,ø⟩,O⟩ ?_
  obtain⟨y61,hy61,h⟩:=Ge h
  obtain⟨v62,hv62,h⟩:=Ge h
  obtain⟨y63,hy63,h⟩:=Ge h
  obtain⟨r64,hr64,h⟩:=Ge h
  refine JC_d0 Q6 (by kernel_rfl) (Dq (G0 s58.1) (G6 O O) O (Dq (G0 a) (G6 O O) O (Dq (BL (decide (a < s58.1))) (G43 O O O) O (Dq (BL (decide (a < s58.1))) (G6 O O) O (Do (.fn cmp_f cmp_c) [] O .sct ø (fun hc=>G6 O O) O (Do (.vec 1146 data_q 1 data.length) [] O .sct ø (fun hc=>G6 O O) O (Do (G0 s58.1) [] O .sct ø (fun hc=>G6 O O) O (Do (.vptr 1146 data_q s58.1.toNat 0) [23,24] O .sct ⟨Ua,Ua,ø⟩ (fun hc=>G13 (f:=G0) (xs:=s58.2) (y:=y61) O O O O Gt (Zp (Gx hc hy61)) (Gdc (Gx hc hy61))) O (Do (G0 y61) [25] O .sct ⟨Ua,ø⟩ (fun hc=>J6b (f:=G0) (xs:=s58.2) (y:=y61) Gb O O O (Zp (Gx hc hy61)) O O) O (Do (.vec 1146 data_q 1 data.length) [] O .sct ø (fun hc=>G6 O O) O (Do (G0 s58.1) [] O .sct ø (fun hc=>G6 O O) O (Do (G0 v62) [28] O .sct ⟨Ua,ø⟩ (fun hc=>Zn (G8d (Gx hc hv62)) O O O) O (Do (.vptr 1146 data_q v62.toNat 0) [27,29] O .sct ⟨Ua,Ua,ø⟩ (fun hc=>G13 (f:=G0) (xs:=s58.2) (y:=y63) O O O O Gt (Zp (Gx hc hy63)) (Gdc (Gx hc hy63))) O ?_)))))))))))))
  refine Do (G0 y63) [30] O .sct ⟨Ua,ø⟩ (fun hc=>J6b (f:=G0) (xs:=s58.2) (y:=y63) Gb O O O (Zp (Gx hc hy63)) O O) O (Do (G0 r64) [22,26,31] O .sct ⟨Ua,Ua,Ua,ø⟩ (fun hc=>G25 (args:=[G0 y61,G0 y63]) (caps:=cmp_c) O O (cmp_w y61 y63 _ (Gx hc hr64)) cmp_B ⟨O,O,O,O,ø⟩ cmp_d) O (Do (BL (decide (r64 < 0))) [32] O .sct ⟨Ua,ø⟩ (fun hc=>J0 O O O) O (Dq (BL ((decide (a < s58.1))&&(decide (r64 < 0)))) (Qr O O O O) O (Dnil (hK60 (JCc O h (fun h hb=>?_) (fun h hb=>?_)))))))
  ·
   refine Gi (hK59 (Js fun hK65=>Gj (Rm (l':=[(0,.vec 1146 data_q 1 data.length),(1,G0 a),(2,G0 b),(3,.fn cmp_f cmp_c),(8,G0 s3.1),(9,G0 s58.1)]) (L':=[(1146,.vec 3 1 data_q (s58.2.map G0))]) ⟨⟨.same O,.same O,.same O,.same (He _ _ cmp_d),.same O,.same O,ø⟩,⟨⟨_,O,.vec⟩,ø⟩,O⟩ ?_)))
   obtain⟨v66,hv66,h⟩:=Hv h
   obtain⟨v67,hv67,h⟩:=Hv h
   obtain⟨y68,hmy68,hy68,h⟩:=G16 h
   obtain⟨y69,hmy69,hy69,h⟩:=G16 h
   obtain⟨y70,hmy70,hy70,h⟩:=G16 h
   obtain⟨y71,hmy71,hy71,h⟩:=G16 h
   refine Jy [15,17] [0,0,0,0,0,0,0,0,0,0,0,0,0,0,0,0,1,0] [0,0,1,1,1,0,0,0,0,0,0,0,0,0,0,0,1,0] [[(1146,.vec 3 1 data_q (s58.2.map G0))],((1146,.vec 3 1 data_q ((s58.2.set s58.1.toNat y68).map G0))::[(1146,.vec 3 1 data_q (s58.2.map G0))]),((1146,.vec 3 1 data_q (((s58.2.set s58.1.toNat y68).set v66.toNat y69).map G0))::((1146,.vec 3 1 data_q ((s58.2.set s58.1.toNat y68).map G0))::[(1146,.vec 3 1 data_q (s58.2.map G0))]))] Q6 (by kernel_rfl) rfl rfl ?_
   refine Gp (u:=.vec 1146 data_q 1 data.length) O O ⟨Gr (G6 O O) O,ø⟩ (Gp (u:=G0 s58.1) O O ⟨Gr (G6 O O) O,ø⟩ (Gp (u:=.vec 1146 data_q 1 data.length) O O ⟨Gr (G6 O O) O,Gr (G6 O O) O,ø⟩ (Gp (u:=G0 s58.1) O O ⟨Gr (G6 O O) O,Gr (G6 O O) O,ø⟩ (Gp (u:=G0 v66) O O ⟨Gr (Zn hv66 O O O) O,Gr (Zn hv66 O O O) O,ø⟩ (Gp (u:=.vec 1146 data_q 1 data.length) O O ⟨Gr (G6 O O) O,ø⟩ (Gp (u:=G0 s58.1) O O ⟨Gr (G6 O O) O,ø⟩ (Gp (u:=G0 v67) O O ⟨Gr (Zn hv67 O O O) O,ø⟩ (Gp (u:=.vptr 1146 data_q v67.toNat 0) O O ⟨Gr (G13 (f:=G0) (xs:=s58.2) (y:=y68) O O O O Gt hy68 hmy68) O,ø⟩ (Gp (u:=G0 y68) O O ⟨Gr (J6b (f:=G0) (xs:=s58.2) (y:=y68) Gb O O O hy68 O O) O,ø⟩ (Gp (u:=.vec 1146 data_q 1 data.length) O O ⟨Gr (G6 O O) O,ø⟩ (Gp (u:=G0 s58.1) O O ⟨Gr (G6 O O) O,ø⟩ (Gp (u:=.vptr 1146 data_q s58.1.toNat 0) O O ⟨Gr (G13 (f:=G0) (xs:=s58.2) (y:=y69) O O O O Gt hy69 hmy69) O,ø⟩ (Gp (u:=G0 y69) O O ⟨Gr (J6b (f:=G0) (xs:=s58.2) (y:=y69) Gb O O O hy69 O O) O,ø⟩ ?_)))))))))))))
   refine Gp (u:=.vptr 1146 data_q s58.1.toNat 0) O O ⟨Gr (G13 (f:=G0) (xs:=s58.2) (y:=y70) O O O O Gt hy70 hmy70) O,ø⟩ (J08 (u:=.junk) O O O O (Gr (H21 (f:=G0) (xs:=s58.2) (z:=y68) Zj O O O O (List.getElem?_eq_some_iff.1 hy70).1 O O O O) O) (Gp (u:=.vptr 1146 data_q v66.toNat 0) O O ⟨Gr (G13 (f:=G0) (xs:=(s58.2.set s58.1.toNat y68)) (y:=y71) O O O O Gt hy71 hmy71) O,ø⟩ (J08 (u:=.junk) O O O O (Gr (H21 (f:=G0) (xs:=(s58.2.set s58.1.toNat y68)) (z:=y69) Zj O O O O (List.getElem?_eq_some_iff.1 hy71).1 O O O O) O) (Yd (hK65 (G3 (Yb (G0 s58.1) O ?_)))))))
   obtain⟨v72,hv72,h⟩:=Hv h
   refine JLh (G0 v72) (Zn hv72 O O O) O (Yb (G0 v72) O (G7 (e58 _ _ m58 (v72,((s58.2.set s58.1.toNat y68).set v66.toNat y69)) (app1 hn58 h) (by omega) ⟨⟨.same rfl,.same rfl,.same rfl,.same (He _ _ cmp_d),.same rfl,.same rfl,ø⟩,⟨⟨_,rfl,.vec⟩,ø⟩,rfl⟩)))
  ·
   refine Hm (hK6 (G3 (Yb (G0 s3.1) O ?_)))
   obtain⟨v73,hv73,h⟩:=Hv h
   refine JLh (G0 v73) (Hu hv73 O O O) O (Yb (G0 v73) O (G7 (e3 _ _ m3 (v73,s58.2) (app1 hn3 h) (by omega) ⟨⟨.same rfl,.same rfl,.same rfl,.same (He _ _ cmp_d),.same rfl,ø⟩,⟨⟨_,rfl,.vec⟩,ø⟩,rfl⟩)))
 ·
  refine Hm ?_
  obtain rfl:=Option.some.inj h
  exact⟨[],[(1146,.vec 3 1 data_q (s3.2.map G0))],⟨⟨_,O,.vec⟩,ø⟩,O,ø,O,O⟩

def Ya (F:Nat) (data:List Int) (a:Int) (b:Int) (limit:Int) (cmp:Int→Int→Option Int):Option (List Int):=
 loop (fun nx23 (s23:Int×Int×Int×Bool×Bool)=>
  Rc (s23.2.1 - s23.1) fun v25=>
  bif decide (v25≤12) then
  (bnd (Qx F data s23.1 s23.2.1 cmp) fun r29=>
   some r29)
  else
  (bif decide (s23.2.2.1=0) then
   (none)
   else
   (bif (!s23.2.2.2.1) then
    (none)
    else
    (none)))) F (a,b,limit,true,true)
theorem G69 (F:Nat) (data:List Int) (data_q:Nat) (a:Int) (b:Int) (limit:Int) (cmp:Int→Int→Option Int) (cmp_f:FuncId) (cmp_c:List AV) (cmp_B:H5 Ep cmp_f=true) (cmp_d:R0 (fun _=>false) cmp_c=true) (cmp_w:∀ a0 a1 q,cmp a0 a1=some q→Pure Ep cmp_f ([G0 a0,G0 a1]++cmp_c) (·=G0 q)) (r:(List Int)) (h:Ya F data a b limit cmp=some r):Jn Ep 155 [.vec 1146 data_q 1 data.length,G0 a,G0 b,G0 limit,.fn cmp_f cmp_c] [(1146,.vec 3 1 data_q (data.map G0))] (fun av L'=>av=.tup []∧L'=[(1146,.vec 3 1 data_q (r.map G0))]):=by
 unfold Ya at h
 refine Jq [1146] [] Tryz.func155 O O (G2e O) (Jr fun hK1=>(Yb (BL true) O (G7 (hK1 (Jr fun hK2=>(Yb (BL true) O (G7 (hK2 (Gj ?_)))))))))
 obtain⟨b23,hb23,h⟩:=G48 h
 refine Hb (fun i23 (s23:Int×Int×Int×Bool×Bool)=>loop b23 i23 s23=some r) (fun i23 s23=>[(0,.vec 1146 data_q 1 data.length),(1,G0 s23.1),(2,G0 s23.2.1),(3,G0 s23.2.2.1),(4,.fn cmp_f cmp_c),(10,BL s23.2.2.2.1),(11,BL s23.2.2.2.2)]) (fun i23 s23=>[(1146,.vec 3 1 data_q (data.map G0))]) (fun i23=>i23) F (a,b,limit,true,true) h ⟨⟨.same O,.same O,.same O,.same O,.same (He _ _ cmp_d),.same O,.same O,ø⟩,⟨⟨_,O,.vec⟩,ø⟩,O⟩ ?_
 clear h
 intro i23 s23 hi23 K23 e23
 obtain⟨m23,nx23,hm_23,hn23,h⟩:=G0c hi23
 replace h:=J35 hb23 h
 refine Gj (Jr fun hK24=>(Yb (G0 s23.2.1) O (Yb (G0 s23.1) O ?_)))
 obtain⟨v25,hv25,h⟩:=Hv h
 refine JLh (G0 v25) (Zn hv25 O O O) O (Yb (G0 v25) O (G7 (hK24 (Js fun hK26=>Jr fun hK27=>(Yb (G0 v25) O (JLh (BL (decide (v25≤12))) (H4a O O O) O (G7 (hK27 (JCc O h (fun h hb=>?_) (fun h hb=>?_))))))))))
 ·
  refine Jr fun hK28=>(Yb (.vec 1146 data_q 1 data.length) O (Yb (G0 s23.1) O (Yb (G0 s23.2.1) O (Yb (.fn cmp_f cmp_c) O ?_))))
  obtain⟨r29,hr29,h⟩:=Ge h
  refine JLh (.tup []) (Ry (args:=[.vec 1146 data_q 1 data.length,G0 s23.1,G0 s23.2.1,.fn cmp_f cmp_c]) (L0:=[(1146,.vec 3 1 data_q (data.map G0))]) (Lr:=[(1146,.vec 3 1 data_q (r29.map G0))]) O (G37 F data data_q s23.1 s23.2.1 cmp cmp_f cmp_c cmp_B cmp_d cmp_w r29 hr29) Q79 ⟨.inl O,O,.inl O,O,.inl O,O,.inl O,(He _ _ cmp_d),ø⟩ ⟨O,ø⟩ O O O) O (G7 (hK28 (Gs ?_)))
  obtain rfl:=Option.some.inj h
  exact⟨[],[(1146,.vec 3 1 data_q (r29.map G0))],⟨⟨_,O,.vec⟩,ø⟩,O,ø,O,O⟩
 ·
  refine Gi (hK26 (Js fun hK30=>Jr fun hK31=>(Yb (G0 s23.2.2.1) O (JLh (BL (decide (s23.2.2.1=0))) (Jz O O O) O (G7 (hK31 (JCc O h (fun h hb=>?_) (fun h hb=>?_))))))))
  ·
   refine Js fun hK32=>?_
   cases h
  ·
   refine Gi (hK30 (Js fun hK33=>Jr fun hK34=>(Yb (BL s23.2.2.2.1) O (JLh (BL (!s23.2.2.2.1)) (Rv (b:=s23.2.2.2.1) O O) O (G7 (hK34 (JCc O h (fun h hb=>?_) (fun h hb=>?_))))))))
   ·
    refine Js fun hK35=>?_
    cases h
   ·
    refine Gi (hK33 (Js fun hK36=>?_))
    cases h

def Yx (F:Nat) (x:List Int) (cmp:Int→Int→Option Int):Option (List Int):=
 bnd (Yt (IntKind.u64.wrap (x.length:Int))) fun r2=>
 bnd (Ya F x 0 (x.length:Int) r2 cmp) fun r3=>
 some r3
theorem Gc5 (F:Nat) (x:List Int) (x_q:Nat) (cmp:Int→Int→Option Int) (cmp_f:FuncId) (cmp_c:List AV) (cmp_B:H5 Ep cmp_f=true) (cmp_d:R0 (fun _=>false) cmp_c=true) (cmp_w:∀ a0 a1 q,cmp a0 a1=some q→Pure Ep cmp_f ([G0 a0,G0 a1]++cmp_c) (·=G0 q)) (r:(List Int)) (h:Yx F x cmp=some r):Jn Ep 126 [.vec 1146 x_q 1 x.length,.fn cmp_f cmp_c] [(1146,.vec 3 1 x_q (x.map G0))] (fun av L'=>av=.tup []∧L'=[(1146,.vec 3 1 x_q (r.map G0))]):=by
 unfold Yx at h
 refine Jq [1146] [] Tryz.func126 O O (G2e O) (Jr fun hK1=>(Yb (.vec 1146 x_q 1 x.length) O (J67 (f:=G0) (xs:=x) Gt O O O (fun hm6=>?_) O O O)))
 refine Yb (Eo x.length) O (G7 (hK1 (G3 (Yb (.vec 1146 x_q 1 x.length) O (Yb (Eo x.length) O (Yb (Eo x.length) O (JLh (.sc (.int .u64 (IntKind.u64.wrap (x.length:Int)))) (G4e H26 Zf O O O) O ?_)))))))
 obtain⟨r2,hr2,h⟩:=Ge h
 refine JLh (G0 r2) (Gv O (Gca (IntKind.u64.wrap (x.length:Int)) r2 hr2) Hc6 ⟨O,O,ø⟩) O (Yb (.fn cmp_f cmp_c) O ?_)
 obtain⟨r3,hr3,h⟩:=Ge h
 refine JLh (.tup []) (Ry (args:=[.vec 1146 x_q 1 x.length,G0 0,Eo x.length,G0 r2,.fn cmp_f cmp_c]) (L0:=[(1146,.vec 3 1 x_q (x.map G0))]) (Lr:=[(1146,.vec 3 1 x_q (r3.map G0))]) O (G69 F x x_q 0 (x.length:Int) r2 cmp cmp_f cmp_c cmp_B cmp_d cmp_w r3 hr3) Q7a ⟨.inl O,O,.inl O,O,.inl O,O,.inl O,O,.inl O,(He _ _ cmp_d),ø⟩ ⟨O,ø⟩ O O O) O (G7 ?_)
 obtain rfl:=Option.some.inj h
 exact⟨[],[(1146,.vec 3 1 x_q (r3.map G0))],⟨⟨_,O,.vec⟩,ø⟩,O,ø,O,O⟩

def G4c (F:Nat) (l:List Int) (compare:Int→Int→Option Int):Option (List Int):=
 bnd (Yx F l compare) fun r3=>
 some r3
theorem H02 (F:Nat) (l:List Int) (l_q:Nat) (compare:Int→Int→Option Int) (compare_f:FuncId) (compare_c:List AV) (compare_B:H5 Ep compare_f=true) (compare_d:R0 (fun _=>false) compare_c=true) (compare_w:∀ a0 a1 q,compare a0 a1=some q→Pure Ep compare_f ([G0 a0,G0 a1]++compare_c) (·=G0 q)) (r:(List Int)) (h:G4c F l compare=some r):Jn Ep 107 [.vec 1146 l_q 1 l.length,.fn compare_f compare_c] [(1146,.vec 3 1 l_q (l.map G0))] (fun av L'=>∃ p:Nat,av=.vec 1146 p 1 r.length∧L'=[(1146,.vec 3 1 p (r.map G0))]):=by
 unfold G4c at h
 refine Jq [1146] [.tmp 4] Tryz.func107 O O (G2e O) (Jr fun hK1=>(JLh (.vec 1178 (([]:List Int).length) 1 (([]:List Int).length)) (H79 1178 3 1 O O O) O (G7 (hK1 (Jr fun hK2=>(Yb (.vec 1146 l_q 1 l.length) O (Yb (.fn compare_f compare_c) O ?_)))))))
 obtain⟨r3,hr3,h⟩:=Ge h
 refine JLh (.tup []) (Ry (args:=[.vec 1146 l_q 1 l.length,.fn compare_f compare_c]) (L0:=[(1146,.vec 3 1 l_q (l.map G0))]) (Lr:=[(1146,.vec 3 1 l_q (r3.map G0))]) O (Gc5 F l l_q compare compare_f compare_c compare_B compare_d compare_w r3 hr3) Q81 ⟨.inl O,O,.inl O,(He _ _ compare_d),ø⟩ ⟨O,ø⟩ O O O) O (G7 (hK2 (Jr fun hK4=>(Yb (.vec 1146 l_q 1 l.length) O (Yb (.vec 1146 l_q 1 l.length) O (G7 (hK4 (H1a 4 O O (fun hn_=>Gs ?_)))))))))
 obtain rfl:=Option.some.inj h
 exact⟨[.vec 1146 l_q 1 l.length],[(1146,.vec 3 1 l_q (r3.map G0))],⟨⟨_,O,.vec⟩,ø⟩,O,⟨⟨_,O,.conv (.same O)⟩,ø⟩,l_q,congrArg (fun n_:Nat=>(.vec 1146 l_q 1 n_:AV)) (hn_.trans (List.length_map _)),O⟩

def G3c (F:Nat) (s:Gw) (before:List Stowed) (after:List Stowed) (lifted:List Int) (bay:Int):Option (List Int):=
 each (fun y5 i5 (s5:(List Int)) nx5=>
  bnd (Zb F s y5 lifted bay false) fun r11=>
  each (fun y52 i52 (s52:(List Int)) nx52=>
   jp (fun kj55=>
    bnd (Qv s y52.Slot.G4) fun r58=>
    bnd (bif decide (0≤r58) then Jb s52 r58 else some default) fun r60=>
    bif ((decide (0≤r58))&&(!r60)) then
    (need (decide ((s52.length+[r58].length)*8≤140737488355328∧s52.length+[r58].length≤maxLen)) <|
     kj55 (s52++[r58]))
    else
    (kj55 s52)) fun(j55:(List Int))=>
   nx52 j55)
  (fun(s52:(List Int))=>
   nx5 s52) r11 0 s5)
 (fun(s5:(List Int))=>
  bnd (G4c F s5 (fun z0 z1=>Qa z0 z1)) fun r63=>
  some r63) [before,after] 0 []
theorem H87 (F:Nat) (s:Gw) (before:List Stowed) (after:List Stowed) (lifted:List Int) (bay:Int) (r:(List Int)) (h:G3c F s before after lifted bay=some r):Pure Ep 68 [.agg (Gw.cs s),E1 before,E1 after,E2 lifted,G0 bay] (·=E2 r):=by
 unfold G3c at h
 refine Gz [.tmp 10] Tryz.func68 O O (Jr fun hK1=>(JLh (.ptr 1145 0) (Jm (cs:=(Gw.cs s)) 1145 O O O O O) O (JLh (E2 ([]:List Int)) (Hf 1 O O) O (G7 (hK1 ?_)))))
 refine Gq [(1,E1 before),(2,E1 after),(3,E2 lifted),(4,G0 bay),(5,Ef s)] [] 1145 rfl rfl rfl ø rfl (by repeat' (first | exact .ptr | constructor)) (Jr fun hK2=>(JLh (.vec 1146 (([]:List Int).length) 1 (([]:List Int).length)) (H79 1146 3 1 O O O) O (G7 (hK2 (Js fun hK3=>?_)))))
 refine Jr fun hK4=>(Yb (E1 before) O (Yb (E1 after) O (JLh (LS 1 (E1) [before,after]) (H6 (xs:=[E1 before,E1 after]) O ⟨O,O,O,O,ø⟩ Qd Hc2 O O O O) O (JLl Qd O O O fun hm20=>(Yb (G0 0) O (G7 (hK4 (Gj ?_))))))))
 obtain⟨b5,kx5,hb5,hkx5,h⟩:=J2 h
 refine Hb (fun i5 (s5:(List Int))=>each b5 kx5 (List.drop i5 [before,after]) i5 s5=some r) (fun i5 s5=>[(3,E2 lifted),(4,G0 bay),(5,Ef s),(11,.vec 1146 s5.length 1 s5.length),(19,LS 1 (E1) [before,after]),(20,G0 ([before,after].length:Int)),(21,Eo i5)]) (fun i5 s5=>[(1146,.vec 3 1 s5.length (s5.map G0))]) (fun i5=>[before,after].length - i5) 0 [] h ⟨(.sm O O),⟨⟨_,rfl,.vec⟩,ø⟩,rfl⟩ ?_
 clear h
 intro i5 s5 hi5 K5 e5
 refine Jr fun hK6=>(JLh (BL (decide ((i5:Int) < ([before,after].length:Int)))) (J0 O O O) O (G7 (hK6 (Js fun hK7=>Gf O (fun hb=>?_) (fun hb=>?_)))))
 ·
  have hk5:=Jk hb
  obtain⟨y5,nx5,hy5,hn5,h⟩:=Hs hi5 hk5
  replace h:=Y4 hb5 h
  refine Gi (hK7 (Js fun hK8=>Gj (Jr fun hK9=>(JLh (.dptr [E1 y5]) (H3 (f:=(E1)) (xs:=[before,after]) (y:=y5) O O O Qd hy5 O) O (JLh (E1 y5) (Gh Rw O O O) O (Yb (E1 y5) O (G7 (hK9 (Jr fun hK10=>(JLh (.agg (Gw.cs s)) (Gg Ho O O O) O (Yb (E1 y5) O (Yb (E2 lifted) O (Yb (G0 bay) O ?_)))))))))))))
  obtain⟨r11,hr11,h⟩:=Ge h
  refine JLh (E1 r11) (Gv O (H46 F s y5 lifted bay false r11 hr11) H2b ⟨O,O,O,O,O,O,O,O,O,O,ø⟩) O (JLl Gy O O O fun hm30=>(Yb (G0 0) O (G7 (hK10 (Gj ?_)))))
  obtain⟨b52,kx52,hb52,hkx52,h⟩:=J2 h
  refine Hb (fun i52 (s52:(List Int))=>each b52 kx52 (List.drop i52 r11) i52 s52=some r) (fun i52 s52=>[(3,E2 lifted),(4,G0 bay),(5,Ef s),(11,.vec 1146 s52.length 1 s52.length),(19,LS 1 (E1) [before,after]),(20,G0 ([before,after].length:Int)),(21,Eo i5),(29,E1 r11),(30,Eo r11.length),(31,Eo i52)]) (fun i52 s52=>[(1146,.vec 3 1 s52.length (s52.map G0))]) (fun i52=>r11.length - i52) 0 s5 h ⟨(.sm O O),⟨⟨_,rfl,.vec⟩,ø⟩,rfl⟩ ?_
  clear h
  intro i52 s52 hi52 K52 e52
  refine Jr fun hK53=>(JLh (BL (decide ((i52:Int) < (r11.length:Int)))) (J0 O O O) O (G7 (hK53 (Js fun hK54=>Gf O (fun hb=>?_) (fun hb=>?_)))))
  ·
   have hk52:=Jk hb
   obtain⟨y52,nx52,hy52,hn52,h⟩:=Hs hi52 hk52
   replace h:=Y4 hb52 h
   refine Gi (hK54 ?_)
   obtain⟨kj55,hkj55,h⟩:=Qo h
   refine Jx (fun j55:(List Int)=>kj55 j55=some r) (fun j55=>[(3,E2 lifted),(4,G0 bay),(5,Ef s),(11,.vec 1146 j55.length 1 j55.length),(19,LS 1 (E1) [before,after]),(20,G0 ([before,after].length:Int)),(21,Eo i5),(29,E1 r11),(30,Eo r11.length),(31,Eo i52)]) (fun j55=>[(1146,.vec 3 1 j55.length (j55.map G0))]) (fun Kj55 ej55=>?_) ?_
   ·
    refine Gj (Jr fun hK56=>(JLh (Eg y52) (H3 (f:=Stowed.av) (xs:=r11) (y:=y52) O O O Gy hy52 O) O (JLh (.agg (Stowed.cs y52)) (Gg Jg O O O) O (JLh (.ptr 1147 0) (Hx 1147 4 Jo O O) O (Hw (u:=.junk) (Hd (u:=.agg (Stowed.cs y52)) (ds:=[G0 y52.Gd,G0 y52.Slot.G4,G0 y52.Slot.Tier,U8 y52.Slot.Half]) Qh O O O O O O O O) (G7 (hK56 ?_)))))))
    refine Gq [(3,E2 lifted),(4,G0 bay),(5,Ef s),(11,.vec 1146 s52.length 1 s52.length),(15,Eg y52),(19,LS 1 (E1) [before,after]),(20,G0 ([before,after].length:Int)),(21,Eo i5),(29,E1 r11),(30,Eo r11.length),(31,Eo i52)] [(1146,.vec 3 1 s52.length (s52.map G0))] 1147 rfl rfl rfl ⟨⟨_,rfl,.vec⟩,ø⟩ rfl (by repeat' (first | exact .ptr | constructor)) ?_
    refine Jr fun hK57=>(JLh (.agg (Gw.cs s)) (Gg Ho O O O) O (JLh (.dptr ((Stowed.cs y52).drop 1)) (Ga Hr O O O) O (JLh (.dptr ((Stowed.cs y52).drop 1)) (Ga J9 O O O) O (JLh (G0 y52.Slot.G4) (Gh Gb O O O) O ?_))))
    obtain⟨r58,hr58,h⟩:=Ge h
    refine JLh (G0 r58) (Gv O (G3a s y52.Slot.G4 r58 hr58) H29 ⟨O,O,O,O,ø⟩) O (Yb (G0 r58) O (G7 (hK57 (Jr fun hK59=>(Yb (G0 r58) O (JLh (BL (decide (0≤r58))) (G2f O O O) O (Yb (BL (decide (0≤r58))) O (JLo (.vec 1146 s52.length 1 s52.length) [] O .sct ø (fun hc=>G6 O O) O (JLo (G0 r58) [] O .sct ø (fun hc=>G6 O O) O ?_)))))))))
    obtain⟨r60,hr60,h⟩:=Ge h
    refine JLo (BL r60) [43,44] O .sct ⟨Ua,Ua,ø⟩ (fun hc=>Qeb (args:=[E2 s52,G0 r58]) O (Y8 s52 r58 r60 (Gx hc hr60)) H2a ⟨.vec O,.data O O,ø⟩ O) O (JLo (BL (!r60)) [45] O .sct ⟨Ua,ø⟩ (fun hc=>Rv (b:=r60) O O) O (JLh (BL ((decide (0≤r58))&&(!r60))) (Qr O O O O) O (G7 (hK59 (JCc O h (fun h hb=>?_) (fun h hb=>?_))))))
    ·
     refine G3 (Yb (.vec 1146 s52.length 1 s52.length) O (Yb (G0 r58) O (JLh (E2 [r58]) (H6 (xs:=[G0 r58]) O ⟨O,O,ø⟩ Gt Qn O O O O) O ?_)))
     obtain⟨ha61,h⟩:=Jd h
     refine JLh (.vec 1146 ((s52++[r58]).length) 1 ((s52++[r58]).length)) (G70 (f:=G0) (xs:=s52) (ys:=[r58]) (ver:=s52.length) (ver1:=(s52++[r58]).length) rfl rfl rfl rfl Gt Yy ha61 (fun _=>rfl) (.inl rfl) (by simp)) O (Yb (.vec 1146 ((s52++[r58]).length) 1 ((s52++[r58]).length)) O (G7 (ej55 _ _ (s52++[r58]) h ⟨(.sm O O),⟨⟨_,rfl,.vec⟩,ø⟩,rfl⟩)))
    ·
     refine Gi (ej55 _ _ s52 h ⟨(.sm O O),⟨⟨_,rfl,.vec⟩,ø⟩,rfl⟩)
   ·intro j55 h
    replace h:=app1 hkj55 h
    refine G3 (JLh (G0 ((i52+1:Nat):Int)) (Hu (Hj hk52 hm30) O O O) O (Yb (G0 ((i52+1:Nat):Int)) O (G7 (e52 _ _ (i52+1) j55 (app1 hn52 h) (by omega) ⟨(.sm O O),⟨⟨_,rfl,.vec⟩,ø⟩,rfl⟩))))
  ·
   have h:=app1 hkx52 (Ht hi52 (Ha hb))
   refine Hm (hK8 (G3 (JLh (G0 ((i5+1:Nat):Int)) (Hu (Hj hk5 hm20) O O O) O (Yb (G0 ((i5+1:Nat):Int)) O (G7 (e5 _ _ (i5+1) s52 (app1 hn5 h) (by omega) ⟨(.sm O O),⟨⟨_,rfl,.vec⟩,ø⟩,rfl⟩))))))
 ·
  have h:=app1 hkx5 (Ht hi5 (Ha hb))
  refine Hm (hK3 (Jr fun hK62=>(Yb (.vec 1146 s5.length 1 s5.length) O ?_)))
  obtain⟨r63,hr63,h⟩:=Ge h
  refine G5f O O O (H4b (args:=[.vec 1146 s5.length 1 s5.length,.fn 55 []]) (L0:=[(1146,.vec 3 1 s5.length (s5.map G0))]) (u:=fun p=>.vec 1146 p 1 r63.length) (Lr:=fun p=>[(1146,.vec 3 1 p (r63.map G0))]) O (H02 F s5 s5.length (fun z0 z1=>Qa z0 z1) 55 [] G9f O (fun z0 z1 q hq=>Rj z0 z1 q hq) r63 hr63) Q8e ⟨.inl O,O,.inl O,O,ø⟩ ⟨O,ø⟩ O (fun _=>O)) ?_
  rintro u_ L_ ⟨v64,rfl,rfl⟩
  refine Yb (.vec 1146 v64 1 r63.length) O (G7 (hK62 (J3a [(10,E2 r63)] [] 1146 rfl rfl ø rfl (by exact⟨.vec,ø⟩) (Gs (fin1 (fun r:(List Int)=>(E2 r:AV)) h)))))


def R1 (F:Nat) (data:List Stowed) (n:Int) (cmp:Stowed→Stowed→Option Int):Option (List Stowed):=
 loop (fun nx19 (s19:Int×Int×(List Stowed))=>
  bif decide (s19.2.1≤n) then
  (bnd (J7 F s19.2.2 s19.1 s19.2.1 cmp) fun r23=>
   Rc (s19.2.1+20) fun v26=>
   nx19 (s19.2.1,v26,r23))
  else
  (bnd (J7 F s19.2.2 s19.1 n cmp) fun r28=>
   loop (fun nx30 (s30:Int)=>
    bif decide (s30 < n) then
    (Rc (2*s30) fun v34=>
     loop (fun nx40 (s40:Int×Int)=>
      bif decide (s40.2≤n) then
      (none)
      else
      (Rc (s40.1+s30) fun v46=>
       bif decide (v46 < n) then
       (none)
       else
       (Rc (s30*2) fun v48=>
        nx30 v48))) F (0,v34))
    else
    (some r28)) F 20)) F (0,20,data)
theorem G3e (F:Nat) (data:List Stowed) (data_q:Nat) (n:Int) (cmp:Stowed→Stowed→Option Int) (cmp_f:FuncId) (cmp_c:List AV) (cmp_B:H5 Ep cmp_f=true) (cmp_d:R0 (fun _=>false) cmp_c=true) (cmp_w:∀ a0 a1 q,cmp a0 a1=some q→Pure Ep cmp_f ([.agg (Stowed.cs a0),.agg (Stowed.cs a1)]++cmp_c) (·=G0 q)) (r:(List Stowed)) (h:R1 F data n cmp=some r):Jn Ep 123 [.vec 1142 data_q 4 data.length,G0 n,.fn cmp_f cmp_c] [(1142,.vec 82 4 data_q (data.map Stowed.av))] (fun av L'=>av=.tup []∧L'=[(1142,.vec 82 4 data_q (r.map Stowed.av))]):=by
 unfold R1 at h
 refine Jq [1142] [] Tryz.func123 O O (G2e O) (Jr fun hK1=>(Yb (G0 20) O (G7 (hK1 (Jr fun hK2=>(Yb (G0 20) O (Yb (G0 0) O (Yb (G0 20) O (G7 (hK2 (Js fun hK3=>Gj ?_)))))))))))
 obtain⟨b19,hb19,h⟩:=G48 h
 refine Hb (fun i19 (s19:Int×Int×(List Stowed))=>loop b19 i19 s19=some r) (fun i19 s19=>[(0,.vec 1142 data_q 4 data.length),(1,G0 n),(2,.fn cmp_f cmp_c),(6,G0 20),(7,G0 s19.1),(8,G0 s19.2.1)]) (fun i19 s19=>[(1142,.vec 82 4 data_q (s19.2.2.map Stowed.av))]) (fun i19=>i19) F (0,20,data) h ⟨⟨.same O,.same O,.same (He _ _ cmp_d),.same O,.same O,.same O,ø⟩,⟨⟨_,O,.vec⟩,ø⟩,O⟩ ?_
 clear h
 intro i19 s19 hi19 K19 e19
 obtain⟨m19,nx19,hm_19,hn19,h⟩:=G0c hi19
 replace h:=J35 hb19 h
 refine Js fun hK20=>Jr fun hK21=>(Yb (G0 s19.2.1) O (Yb (G0 n) O (JLh (BL (decide (s19.2.1≤n))) (H4a O O O) O (G7 (hK21 (JCc O h (fun h hb=>?_) (fun h hb=>?_)))))))
 ·
  refine Gi (hK20 (Gj (Jr fun hK22=>(Yb (.vec 1142 data_q 4 data.length) O (Yb (G0 s19.1) O (Yb (G0 s19.2.1) O (Yb (.fn cmp_f cmp_c) O ?_)))))))
  obtain⟨r23,hr23,h⟩:=Ge h
  refine JL_vlen 14 O O (fun hn24=>JLh (.tup []) (Ry (args:=[.vec 1142 data_q 4 s19.2.2.length,G0 s19.1,G0 s19.2.1,.fn cmp_f cmp_c]) (L0:=[(1142,.vec 82 4 data_q (s19.2.2.map Stowed.av))]) (Lr:=[(1142,.vec 82 4 data_q (r23.map Stowed.av))]) O (Qc F s19.2.2 data_q s19.1 s19.2.1 cmp cmp_f cmp_c cmp_B cmp_d cmp_w r23 hr23) Hc5 ⟨.inl (congrArg (fun n_:Nat=>(.vec 1142 data_q 4 n_:AV)) (hn24.trans (List.length_map _))),O,.inl O,O,.inl O,O,.inl O,(He _ _ cmp_d),ø⟩ ⟨O,ø⟩ O O O) O (G7 (hK22 (Jr fun hK25=>(Yb (G0 s19.2.1) O (Yb (G0 s19.2.1) O (G7 (hK25 (G3 (Yb (G0 s19.2.1) O (Yb (G0 20) O ?_)))))))))))
  obtain⟨v26,hv26,h⟩:=Hv h
  refine JLh (G0 v26) (Hu hv26 O O O) O (Yb (G0 v26) O (G7 (e19 _ _ m19 (s19.2.1,v26,r23) (app1 hn19 h) (by omega) ⟨⟨.same rfl,.same rfl,.same (He _ _ cmp_d),.same rfl,.same rfl,.same rfl,ø⟩,⟨⟨_,rfl,.vec⟩,ø⟩,rfl⟩)))
 ·
  refine Hm (hK3 (Jr fun hK27=>(Yb (.vec 1142 data_q 4 data.length) O (Yb (G0 s19.1) O (Yb (G0 n) O (Yb (.fn cmp_f cmp_c) O ?_))))))
  obtain⟨r28,hr28,h⟩:=Ge h
  refine JL_vlen 23 O O (fun hn29=>JLh (.tup []) (Ry (args:=[.vec 1142 data_q 4 s19.2.2.length,G0 s19.1,G0 n,.fn cmp_f cmp_c]) (L0:=[(1142,.vec 82 4 data_q (s19.2.2.map Stowed.av))]) (Lr:=[(1142,.vec 82 4 data_q (r28.map Stowed.av))]) O (Qc F s19.2.2 data_q s19.1 n cmp cmp_f cmp_c cmp_B cmp_d cmp_w r28 hr28) Hc5 ⟨.inl (congrArg (fun n_:Nat=>(.vec 1142 data_q 4 n_:AV)) (hn29.trans (List.length_map _))),O,.inl O,O,.inl O,O,.inl O,(He _ _ cmp_d),ø⟩ ⟨O,ø⟩ O O O) O (G7 (hK27 (Gj ?_))))
  obtain⟨b30,hb30,h⟩:=G48 h
  refine Hb (fun i30 (s30:Int)=>loop b30 i30 s30=some r) (fun i30 s30=>[(0,.vec 1142 data_q 4 data.length),(1,G0 n),(2,.fn cmp_f cmp_c),(6,G0 s30)]) (fun i30 s30=>[(1142,.vec 82 4 data_q (r28.map Stowed.av))]) (fun i30=>i30) F 20 h ⟨⟨.same O,.same O,.same (He _ _ cmp_d),.same O,ø⟩,⟨⟨_,O,.vec⟩,ø⟩,O⟩ ?_
  clear h
  intro i30 s30 hi30 K30 e30
  obtain⟨m30,nx30,hm_30,hn30,h⟩:=G0c hi30
  replace h:=J35 hb30 h
  refine Js fun hK31=>Jr fun hK32=>(Yb (G0 s30) O (Yb (G0 n) O (JLh (BL (decide (s30 < n))) (J0 O O O) O (G7 (hK32 (JCc O h (fun h hb=>?_) (fun h hb=>?_)))))))
  ·
   refine Gi (hK31 (Gj (Jr fun hK33=>(Yb (G0 s30) O ?_))))
   obtain⟨v34,hv34,h⟩:=Hv h
   refine JLh (G0 v34) (J1c hv34 O O O) O (Yb (G0 0) O (Yb (G0 v34) O (G7 (hK33 (Js fun hK35=>Gj ?_)))))
   obtain⟨b40,hb40,h⟩:=G48 h
   refine Hb (fun i40 (s40:Int×Int)=>loop b40 i40 s40=some r) (fun i40 s40=>[(0,.vec 1142 data_q 4 data.length),(1,G0 n),(2,.fn cmp_f cmp_c),(6,G0 s30),(7,G0 s40.1),(8,G0 s40.2)]) (fun i40 s40=>[(1142,.vec 82 4 data_q (r28.map Stowed.av))]) (fun i40=>i40) F (0,v34) h ⟨⟨.same O,.same O,.same (He _ _ cmp_d),.same O,.same O,.same O,ø⟩,⟨⟨_,O,.vec⟩,ø⟩,O⟩ ?_
   clear h
   intro i40 s40 hi40 K40 e40
   obtain⟨m40,nx40,hm_40,hn40,h⟩:=G0c hi40
   replace h:=J35 hb40 h
   refine Js fun hK41=>Jr fun hK42=>(Yb (G0 s40.2) O (Yb (G0 n) O (JLh (BL (decide (s40.2≤n))) (H4a O O O) O (G7 (hK42 (JCc O h (fun h hb=>?_) (fun h hb=>?_)))))))
   ·
    refine Gi (hK41 (Gj (Js fun hK43=>?_)))
    cases h
   ·
    refine Hm (hK35 (Js fun hK44=>Jr fun hK45=>(Yb (G0 s40.1) O (Yb (G0 s30) O ?_))))
    obtain⟨v46,hv46,h⟩:=Hv h
    refine JLh (G0 v46) (Hu hv46 O O O) O (Yb (G0 v46) O (G7 (hK45 (Jr fun hK47=>(Yb (G0 v46) O (Yb (G0 n) O (JLh (BL (decide (v46 < n))) (J0 O O O) O (G7 (hK47 (JCc O h (fun h hb=>?_) (fun h hb=>?_)))))))))))
    ·
     cases h
    ·
     refine Gi (hK44 (G3 (Yb (G0 s30) O ?_)))
     obtain⟨v48,hv48,h⟩:=Hv h
     refine JLh (G0 v48) (J1c hv48 O O O) O (Yb (G0 v48) O (G7 (e30 _ _ m30 v48 (app1 hn30 h) (by omega) ⟨⟨.same rfl,.same rfl,.same (He _ _ cmp_d),.same rfl,ø⟩,⟨⟨_,rfl,.vec⟩,ø⟩,rfl⟩)))
  ·
   refine Hm ?_
   obtain rfl:=Option.some.inj h
   exact⟨[],[(1142,.vec 82 4 data_q (r28.map Stowed.av))],⟨⟨_,O,.vec⟩,ø⟩,O,ø,O,O⟩

def Qg (F:Nat) (x:List Stowed) (cmp:Stowed→Stowed→Option Int):Option (List Stowed):=
 bnd (R1 F x (x.length:Int) cmp) fun r1=>
 some r1
theorem G38 (F:Nat) (x:List Stowed) (x_q:Nat) (cmp:Stowed→Stowed→Option Int) (cmp_f:FuncId) (cmp_c:List AV) (cmp_B:H5 Ep cmp_f=true) (cmp_d:R0 (fun _=>false) cmp_c=true) (cmp_w:∀ a0 a1 q,cmp a0 a1=some q→Pure Ep cmp_f ([.agg (Stowed.cs a0),.agg (Stowed.cs a1)]++cmp_c) (·=G0 q)) (r:(List Stowed)) (h:Qg F x cmp=some r):Jn Ep 102 [.vec 1142 x_q 4 x.length,.fn cmp_f cmp_c] [(1142,.vec 82 4 x_q (x.map Stowed.av))] (fun av L'=>av=.tup []∧L'=[(1142,.vec 82 4 x_q (r.map Stowed.av))]):=by
 unfold Qg at h
 refine Jq [1142] [] Tryz.func102 O O (G2e O) (G3 (Yb (.vec 1142 x_q 4 x.length) O (Yb (.vec 1142 x_q 4 x.length) O (J67 (f:=Stowed.av) (xs:=x) Gy O O O (fun hm6=>?_) O O O))))
 refine Yb (.fn cmp_f cmp_c) O ?_
 obtain⟨r1,hr1,h⟩:=Ge h
 refine JLh (.tup []) (Ry (args:=[.vec 1142 x_q 4 x.length,Eo x.length,.fn cmp_f cmp_c]) (L0:=[(1142,.vec 82 4 x_q (x.map Stowed.av))]) (Lr:=[(1142,.vec 82 4 x_q (r1.map Stowed.av))]) O (G3e F x x_q (x.length:Int) cmp cmp_f cmp_c cmp_B cmp_d cmp_w r1 hr1) Q84 ⟨.inl O,O,.inl O,O,.inl O,(He _ _ cmp_d),ø⟩ ⟨O,ø⟩ O O O) O (G7 ?_)
 obtain rfl:=Option.some.inj h
 exact⟨[],[(1142,.vec 82 4 x_q (r1.map Stowed.av))],⟨⟨_,O,.vec⟩,ø⟩,O,ø,O,O⟩

def Zm (F:Nat) (l:List Stowed):Option (List Stowed):=
 bnd (Qg F l (fun z0 z1=>Yp z0 z1)) fun r3=>
 some r3
theorem G53 (F:Nat) (l:List Stowed) (l_q:Nat) (r:(List Stowed)) (h:Zm F l=some r):Jn Ep 66 [.vec 1142 l_q 4 l.length] [(1142,.vec 82 4 l_q (l.map Stowed.av))] (fun av L'=>∃ p:Nat,av=.vec 1142 p 4 r.length∧L'=[(1142,.vec 82 4 p (r.map Stowed.av))]):=by
 unfold Zm at h
 refine Jq [1142] [.tmp 2] Tryz.func66 O O (G2e O) (Jr fun hK1=>(JLh (.vec 1139 (([]:List Stowed).length) 4 (([]:List Stowed).length)) (H79 1139 82 4 O O O) O (G7 (hK1 (Jr fun hK2=>(Yb (.vec 1142 l_q 4 l.length) O ?_))))))
 obtain⟨r3,hr3,h⟩:=Ge h
 refine JLh (.tup []) (Ry (args:=[.vec 1142 l_q 4 l.length,.fn 103 []]) (L0:=[(1142,.vec 82 4 l_q (l.map Stowed.av))]) (Lr:=[(1142,.vec 82 4 l_q (r3.map Stowed.av))]) O (G38 F l l_q (fun z0 z1=>Yp z0 z1) 103 [] Q92 O (fun z0 z1 q hq=>Hbc z0 z1 q hq) r3 hr3) Q93 ⟨.inl O,O,.inl O,O,ø⟩ ⟨O,ø⟩ O O O) O (G7 (hK2 (Jr fun hK4=>(Yb (.vec 1142 l_q 4 l.length) O (Yb (.vec 1142 l_q 4 l.length) O (G7 (hK4 (H1a 2 O O (fun hn_=>Gs ?_)))))))))
 obtain rfl:=Option.some.inj h
 exact⟨[.vec 1142 l_q 4 l.length],[(1142,.vec 82 4 l_q (r3.map Stowed.av))],⟨⟨_,O,.vec⟩,ø⟩,O,⟨⟨_,O,.conv (.same O)⟩,ø⟩,l_q,congrArg (fun n_:Nat=>(.vec 1142 l_q 4 n_:AV)) (hn_.trans (List.length_map _)),O⟩

def Gc9 (F:Nat) (s:Gw) (before:List Stowed) (after:List Stowed) (lifted:List Int):Option (List Move):=
 need (decide (40≤9223372036854775807)) <|
 upto (fun i75 (s75:(List Move)) nx75=>
  bnd (Zb F s before lifted (i75:Int) true) fun r81=>
  bnd (Zm F r81) fun r83=>
  bnd (Zh 2 r83 s75) fun r85=>
  bnd (G3c F s before after lifted (i75:Int)) fun r87=>
  bnd (G3d 1 r87 r85) fun r88=>
  bnd (Zb F s before lifted (i75:Int) false) fun r89=>
  bnd (Zm F r89) fun r91=>
  bnd (Zh 2 r91 r88) fun r93=>
  nx75 r93)
 (fun(s75:(List Move))=>
  need (decide (40≤9223372036854775807)) <|
  upto (fun i140 (s140:(List Move)) nx140=>
   bnd (Zb F s after lifted (i140:Int) false) fun r146=>
   bnd (Zh 3 r146 s140) fun r147=>
   bnd (G3c F s before after lifted (i140:Int)) fun r149=>
   bnd (G3d 4 r149 r147) fun r150=>
   bnd (Zb F s after lifted (i140:Int) true) fun r151=>
   bnd (Zh 3 r151 r150) fun r152=>
   nx140 r152)
  (fun(s140:(List Move))=>
   some s140) (40:Int).toNat 0 s75) (40:Int).toNat 0 []
theorem Q37 (F:Nat) (s:Gw) (before:List Stowed) (after:List Stowed) (lifted:List Int) (r:(List Move)) (h:Gc9 F s before after lifted=some r):Pure Ep 35 [.agg (Gw.cs s),E1 before,E1 after,E2 lifted] (·=E6 r):=by
 unfold Gc9 at h
 refine Gz [.tmp 8] Tryz.func35 O O (Jr fun hK1=>(JLh (.ptr 1096 0) (Jm (cs:=(Gw.cs s)) 1096 O O O O O) O (JLh (E6 ([]:List Move)) (Hf 6 O O) O (G7 (hK1 ?_)))))
 refine Gq [(1,E1 before),(2,E1 after),(3,E2 lifted),(4,Ef s)] [] 1096 rfl rfl rfl ø rfl (by repeat' (first | exact .ptr | constructor)) (Jr fun hK2=>(JLh (.ptr 1097 0) (G54 1097 [.sc (.slice none 0 0)] [.slice none 0 0] Qa6 ⟨.inl O,ø⟩ O O) O (H49 1097 0 1098 56 6 O O O (cs':=[OW 1098 6 Move.av ([]:List Move)]) O (G7 (hK2 (Jr fun hK3=>(JLh (.fn 64 [.ptr 1097 0]) (Z1 (cs:=[.ptr 1097 0]) O O) O (Yb (.fn 64 [.ptr 1097 0]) O (G7 (hK3 ?_))))))))))
 refine Jr fun hK4=>(JLh (.fn 65 [.ptr 1097 0]) (Z1 (cs:=[.ptr 1097 0]) O O) O (Yb (.fn 65 [.ptr 1097 0]) O (G7 (hK4 (Js fun hK5=>Jr fun hK6=>(Yb (G0 0) O (G7 (hK6 (Gj ?_)))))))))
 obtain⟨hx75,h⟩:=Jd h
 obtain⟨b75,kx75,hb75,hkx75,h⟩:=H52 h
 refine Hb (fun i75 (s75:(List Move))=>upto b75 kx75 ((40:Int).toNat - i75) i75 s75=some r) (fun i75 s75=>[(1,E1 before),(2,E1 after),(3,E2 lifted),(4,Ef s),(9,.ptr 1097 0),(10,.fn 64 [.ptr 1097 0]),(11,.fn 65 [.ptr 1097 0]),(16,Eo i75)]) (fun i75 s75=>[(1098,.spare 56 6 s75.length s75.length),(1097,.box 49 [OW 1098 6 Move.av s75])]) (fun i75=>(40:Int).toNat - i75) 0 [] h ⟨(.sm O O),⟨⟨_,rfl,.same⟩,⟨_,rfl,.boxL rfl ⟨.same rfl,ø⟩⟩,ø⟩,rfl⟩ ?_
 clear h
 intro i75 s75 hi75 K75 e75
 refine Jr fun hK76=>(JLh (BL (decide ((i75:Int) < 40))) (J0 O O O) O (G7 (hK76 (Js fun hK77=>Gf O (fun hb=>?_) (fun hb=>?_)))))
 ·
  have hk75:=Gf4 hb
  obtain⟨nx75,hn75,h⟩:=Gee hi75 hk75
  replace h:=app3 hb75 h
  refine Gi (hK77 (Js fun hK78=>Gj (Jr fun hK79=>(Yb (Eo i75) O (Yb (Eo i75) O (G7 (hK79 (Jr fun hK80=>(Yb (.fn 64 [.ptr 1097 0]) O (JLh (.agg (Gw.cs s)) (Gg Ho O O O) O (Yb (E1 before) O (Yb (E2 lifted) O (Yb (Eo i75) O ?_)))))))))))))
  obtain⟨r81,hr81,h⟩:=Ge h
  refine G5f O O O (H4b (args:=[.agg (Gw.cs s),E1 before,E2 lifted,Eo i75,BL true]) (L0:=[]) (u:=fun p=>.vec 1142 p 4 r81.length) (Lr:=fun p=>[(1142,.vec 82 4 p (r81.map Stowed.av))]) O (H47 F s before lifted (i75:Int) true r81 hr81) H2b ⟨.inl O,O,.inl O,O,.inl O,O,.inl O,O,.inl O,O,ø⟩ ø O (fun _=>O)) ?_
  rintro u_ L_ ⟨v82,rfl,rfl⟩
  obtain⟨r83,hr83,h⟩:=Ge h
  refine G5f O O O (H4b (args:=[.vec 1142 v82 4 r81.length]) (L0:=[(1142,.vec 82 4 v82 (r81.map Stowed.av))]) (u:=fun p=>.vec 1142 p 4 r83.length) (Lr:=fun p=>[(1142,.vec 82 4 p (r83.map Stowed.av))]) O (G53 F r81 v82 r83 hr83) Jf2 ⟨.inl O,O,ø⟩ ⟨O,ø⟩ O (fun _=>O)) ?_
  rintro u_ L_ ⟨v84,rfl,rfl⟩
  refine Q38 [(1,E1 before),(2,E1 after),(3,E2 lifted),(4,Ef s),(9,.ptr 1097 0),(10,.fn 64 [.ptr 1097 0]),(11,.fn 65 [.ptr 1097 0]),(12,Eo i75),(16,Eo i75),(17,BL (decide ((i75:Int) < 40))),(18,Eo i75),(19,.fn 64 [.ptr 1097 0]),(20,.agg (Gw.cs s)),(21,E1 before),(22,E2 lifted),(23,Eo i75),(25,E1 r83)] [(1098,.spare 56 6 s75.length s75.length),(1097,.box 49 [OW 1098 6 Move.av s75])] 1142 rfl rfl ⟨⟨_,rfl,.same⟩,⟨_,rfl,.boxEq rfl rfl⟩,ø⟩ rfl (by exact⟨.conv (.same rfl),.conv (.same rfl),.conv (.same rfl),.conv (.same rfl),.conv (.same rfl),.conv (.same rfl),.conv (.same rfl),.conv (.same rfl),.conv (.same rfl),.conv (.same rfl),.conv (.same rfl),.conv (.same rfl),.conv (.same rfl),.conv (.same rfl),.conv (.same rfl),.conv (.same rfl),.vec,ø⟩) ?_
  obtain⟨r85,hr85,h⟩:=Ge h
  refine JLh (.tup []) (Gcd (args:=[U8 2,E1 r83]) (caps:=[.ptr 1097 0]) (L0:=[(1097,.box 49 [OW 1098 6 Move.av s75]),(1098,.spare 56 6 s75.length s75.length)]) (Lr:=[(1097,.box 49 [OW 1098 6 Move.av r85]),(1098,.spare 56 6 r85.length r85.length)]) O O (G7d 2 r83 s75 r85 hr85) H96 ⟨.inl O,O,.inl O,O,ø⟩ O ⟨O,O,ø⟩ O O O) O (G7 (hK80 ?_))
  refine Jr fun hK86=>(Yb (.fn 65 [.ptr 1097 0]) O (JLh (.agg (Gw.cs s)) (Gg Ho O O O) O (Yb (E1 before) O (Yb (E1 after) O (Yb (E2 lifted) O (Yb (Eo i75) O ?_))))))
  obtain⟨r87,hr87,h⟩:=Ge h
  refine JLh (E2 r87) (Gv O (H87 F s before after lifted (i75:Int) r87 hr87) Jf1 ⟨O,O,O,O,O,O,O,O,O,O,ø⟩) O ?_
  obtain⟨r88,hr88,h⟩:=Ge h
  refine JLh (.tup []) (Gcd (args:=[U8 1,E2 r87]) (caps:=[.ptr 1097 0]) (L0:=[(1097,.box 49 [OW 1098 6 Move.av r85]),(1098,.spare 56 6 r85.length r85.length)]) (Lr:=[(1097,.box 49 [OW 1098 6 Move.av r88]),(1098,.spare 56 6 r88.length r88.length)]) O O (H88 1 r87 r85 r88 hr88) Jf3 ⟨.inl O,O,.inl O,O,ø⟩ O ⟨O,O,ø⟩ O O O) O (G7 (hK86 (G3 (Yb (.fn 64 [.ptr 1097 0]) O (JLh (.agg (Gw.cs s)) (Gg Ho O O O) O (Yb (E1 before) O (Yb (E2 lifted) O (Yb (Eo i75) O ?_))))))))
  obtain⟨r89,hr89,h⟩:=Ge h
  refine G5f O O O (H4b (args:=[.agg (Gw.cs s),E1 before,E2 lifted,Eo i75,BL false]) (L0:=[]) (u:=fun p=>.vec 1142 p 4 r89.length) (Lr:=fun p=>[(1142,.vec 82 4 p (r89.map Stowed.av))]) O (H47 F s before lifted (i75:Int) false r89 hr89) H2b ⟨.inl O,O,.inl O,O,.inl O,O,.inl O,O,.inl O,O,ø⟩ ø O (fun _=>O)) ?_
  rintro u_ L_ ⟨v90,rfl,rfl⟩
  obtain⟨r91,hr91,h⟩:=Ge h
  refine G5f O O O (H4b (args:=[.vec 1142 v90 4 r89.length]) (L0:=[(1142,.vec 82 4 v90 (r89.map Stowed.av))]) (u:=fun p=>.vec 1142 p 4 r91.length) (Lr:=fun p=>[(1142,.vec 82 4 p (r91.map Stowed.av))]) O (G53 F r89 v90 r91 hr91) Jf2 ⟨.inl O,O,ø⟩ ⟨O,ø⟩ O (fun _=>O)) ?_
  rintro u_ L_ ⟨v92,rfl,rfl⟩
  refine Q38 [(1,E1 before),(2,E1 after),(3,E2 lifted),(4,Ef s),(9,.ptr 1097 0),(10,.fn 64 [.ptr 1097 0]),(11,.fn 65 [.ptr 1097 0]),(12,Eo i75),(16,Eo i75),(17,BL (decide ((i75:Int) < 40))),(18,Eo i75),(19,.fn 64 [.ptr 1097 0]),(20,.agg (Gw.cs s)),(21,E1 before),(22,E2 lifted),(23,Eo i75),(25,E1 r83),(26,.tup []),(27,.fn 65 [.ptr 1097 0]),(28,.agg (Gw.cs s)),(29,E1 before),(30,E1 after),(31,E2 lifted),(32,Eo i75),(33,E2 r87),(34,.tup []),(35,.fn 64 [.ptr 1097 0]),(36,.agg (Gw.cs s)),(37,E1 before),(38,E2 lifted),(39,Eo i75),(41,E1 r91)] [(1098,.spare 56 6 r88.length r88.length),(1097,.box 49 [OW 1098 6 Move.av r88])] 1142 rfl rfl ⟨⟨_,rfl,.same⟩,⟨_,rfl,.boxEq rfl rfl⟩,ø⟩ rfl (by exact⟨.conv (.same rfl),.conv (.same rfl),.conv (.same rfl),.conv (.same rfl),.conv (.same rfl),.conv (.same rfl),.conv (.same rfl),.conv (.same rfl),.conv (.same rfl),.conv (.same rfl),.conv (.same rfl),.conv (.same rfl),.conv (.same rfl),.conv (.same rfl),.conv (.same rfl),.conv (.same rfl),.conv (.same rfl),.conv (.same rfl),.conv (.same rfl),.conv (.same rfl),.conv (.same rfl),.conv (.same rfl),.conv (.same rfl),.conv (.same rfl),.conv (.same rfl),.conv (.same rfl),.conv (.same rfl),.conv (.same rfl),.conv (.same rfl),.conv (.same rfl),.conv (.same rfl),.vec,ø⟩) ?_
  obtain⟨r93,hr93,h⟩:=Ge h
  refine JLh (.tup []) (Gcd (args:=[U8 2,E1 r91]) (caps:=[.ptr 1097 0]) (L0:=[(1097,.box 49 [OW 1098 6 Move.av r88]),(1098,.spare 56 6 r88.length r88.length)]) (Lr:=[(1097,.box 49 [OW 1098 6 Move.av r93]),(1098,.spare 56 6 r93.length r93.length)]) O O (G7d 2 r91 r88 r93 hr93) H96 ⟨.inl O,O,.inl O,O,ø⟩ O ⟨O,O,ø⟩ O O O) O (G7 (hK78 (G3 (JLh (G0 ((i75+1:Nat):Int)) (Hu (Hj hk75 (Ga3 hx75)) O O O) O (Yb (G0 ((i75+1:Nat):Int)) O (G7 (e75 _ _ (i75+1) r93 (app1 hn75 h) (by omega) ⟨(.sm O O),⟨⟨_,rfl,.same⟩,⟨_,rfl,.boxL rfl ⟨.same rfl,ø⟩⟩,ø⟩,rfl⟩)))))))
 ·
  have h:=app1 hkx75 (Gef hi75 (G1c hb))
  refine Hm (hK5 (Js fun hK94=>Jr fun hK95=>(Yb (G0 0) O (G7 (hK95 (Gj ?_))))))
  obtain⟨hx140,h⟩:=Jd h
  obtain⟨b140,kx140,hb140,hkx140,h⟩:=H52 h
  refine Hb (fun i140 (s140:(List Move))=>upto b140 kx140 ((40:Int).toNat - i140) i140 s140=some r) (fun i140 s140=>[(1,E1 before),(2,E1 after),(3,E2 lifted),(4,Ef s),(9,.ptr 1097 0),(10,.fn 64 [.ptr 1097 0]),(11,.fn 65 [.ptr 1097 0]),(44,Eo i140)]) (fun i140 s140=>[(1098,.spare 56 6 s140.length s140.length),(1097,.box 49 [OW 1098 6 Move.av s140])]) (fun i140=>(40:Int).toNat - i140) 0 s75 h ⟨(.sm O O),⟨⟨_,rfl,.same⟩,⟨_,rfl,.boxL rfl ⟨.same rfl,ø⟩⟩,ø⟩,rfl⟩ ?_
  clear h
  intro i140 s140 hi140 K140 e140
  refine Jr fun hK141=>(JLh (BL (decide ((i140:Int) < 40))) (J0 O O O) O (G7 (hK141 (Js fun hK142=>Gf O (fun hb=>?_) (fun hb=>?_)))))
  ·
   have hk140:=Gf4 hb
   obtain⟨nx140,hn140,h⟩:=Gee hi140 hk140
   replace h:=app3 hb140 h
   refine Gi (hK142 (Js fun hK143=>Gj (Jr fun hK144=>(Yb (Eo i140) O (Yb (Eo i140) O (G7 (hK144 (Jr fun hK145=>(Yb (.fn 64 [.ptr 1097 0]) O (JLh (.agg (Gw.cs s)) (Gg Ho O O O) O (Yb (E1 after) O (Yb (E2 lifted) O (Yb (Eo i140) O ?_)))))))))))))
   obtain⟨r146,hr146,h⟩:=Ge h
   refine JLh (E1 r146) (Gv O (H46 F s after lifted (i140:Int) false r146 hr146) H2b ⟨O,O,O,O,O,O,O,O,O,O,ø⟩) O ?_
   obtain⟨r147,hr147,h⟩:=Ge h
   refine JLh (.tup []) (Gcd (args:=[U8 3,E1 r146]) (caps:=[.ptr 1097 0]) (L0:=[(1097,.box 49 [OW 1098 6 Move.av s140]),(1098,.spare 56 6 s140.length s140.length)]) (Lr:=[(1097,.box 49 [OW 1098 6 Move.av r147]),(1098,.spare 56 6 r147.length r147.length)]) O O (G7d 3 r146 s140 r147 hr147) H96 ⟨.inl O,O,.inl O,O,ø⟩ O ⟨O,O,ø⟩ O O O) O (G7 (hK145 ?_))
   refine Jr fun hK148=>(Yb (.fn 65 [.ptr 1097 0]) O (JLh (.agg (Gw.cs s)) (Gg Ho O O O) O (Yb (E1 before) O (Yb (E1 after) O (Yb (E2 lifted) O (Yb (Eo i140) O ?_))))))
   obtain⟨r149,hr149,h⟩:=Ge h
   refine JLh (E2 r149) (Gv O (H87 F s before after lifted (i140:Int) r149 hr149) Jf1 ⟨O,O,O,O,O,O,O,O,O,O,ø⟩) O ?_
   obtain⟨r150,hr150,h⟩:=Ge h
   refine JLh (.tup []) (Gcd (args:=[U8 4,E2 r149]) (caps:=[.ptr 1097 0]) (L0:=[(1097,.box 49 [OW 1098 6 Move.av r147]),(1098,.spare 56 6 r147.length r147.length)]) (Lr:=[(1097,.box 49 [OW 1098 6 Move.av r150]),(1098,.spare 56 6 r150.length r150.length)]) O O (H88 4 r149 r147 r150 hr150) Jf3 ⟨.inl O,O,.inl O,O,ø⟩ O ⟨O,O,ø⟩ O O O) O (G7 (hK148 (G3 (Yb (.fn 64 [.ptr 1097 0]) O (JLh (.agg (Gw.cs s)) (Gg Ho O O O) O (Yb (E1 after) O (Yb (E2 lifted) O (Yb (Eo i140) O ?_))))))))
   obtain⟨r151,hr151,h⟩:=Ge h
   refine JLh (E1 r151) (Gv O (H46 F s after lifted (i140:Int) true r151 hr151) H2b ⟨O,O,O,O,O,O,O,O,O,O,ø⟩) O ?_
   obtain⟨r152,hr152,h⟩:=Ge h
   refine JLh (.tup []) (Gcd (args:=[U8 3,E1 r151]) (caps:=[.ptr 1097 0]) (L0:=[(1097,.box 49 [OW 1098 6 Move.av r150]),(1098,.spare 56 6 r150.length r150.length)]) (Lr:=[(1097,.box 49 [OW 1098 6 Move.av r152]),(1098,.spare 56 6 r152.length r152.length)]) O O (G7d 3 r151 r150 r152 hr152) H96 ⟨.inl O,O,.inl O,O,ø⟩ O ⟨O,O,ø⟩ O O O) O (G7 (hK143 (G3 (JLh (G0 ((i140+1:Nat):Int)) (Hu (Hj hk140 (Ga3 hx140)) O O O) O (Yb (G0 ((i140+1:Nat):Int)) O (G7 (e140 _ _ (i140+1) r152 (app1 hn140 h) (by omega) ⟨(.sm O O),⟨⟨_,rfl,.same⟩,⟨_,rfl,.boxL rfl ⟨.same rfl,ø⟩⟩,ø⟩,rfl⟩)))))))
  ·
   have h:=app1 hkx140 (Gef hi140 (G1c hb))
   refine Hm (hK94 (Jr fun hK153=>(JLh (OW 1098 6 Move.av s140) (Qu H10 O O O O) O (Yb (OW 1098 6 Move.av s140) O (G7 (hK153 (Gs (fin1l (fun r:(List Move)=>(E6 r:AV)) h))))))))

def G7e (F:Nat) (s:Gw) (boxes:List Gd) (before:List Stowed) (after:List Stowed):Option ((List Move)×Int):=
 bnd (Z9 F s boxes before after) fun r3=>
 bif decide (r3.2≠0) then
 (some ([],r3.2))
 else
 (bnd (Gc9 F s before after r3.1) fun r8=>
  some (r8,0))
theorem He4 (F:Nat) (s:Gw) (boxes:List Gd) (before:List Stowed) (after:List Stowed) (r:(List Move)×Int) (h:G7e F s boxes before after=some r):Pure Ep 13 [.agg (Gw.cs s),E3 boxes,E1 before,E1 after] (·=.tup [E6 r.1,G0 r.2]):=by
 unfold G7e at h
 refine Gz [.tmp 8,.tmp 9] Tryz.func13 O O (Jr fun hK1=>(JLh (.ptr 1050 0) (Jm (cs:=(Gw.cs s)) 1050 O O O O O) O (JLh (E6 ([]:List Move)) (Hf 6 O O) O (Yb (G0 0) O (G7 (hK1 ?_))))))
 refine Gq [(1,E3 boxes),(2,E1 before),(3,E1 after),(4,Ef s)] [] 1050 rfl rfl rfl ø rfl (by repeat' (first | exact .ptr | constructor)) (Jr fun hK2=>(JLh (.agg (Gw.cs s)) (Gg Ho O O O) O (Yb (E3 boxes) O (Yb (E1 before) O (Yb (E1 after) O ?_)))))
 obtain⟨r3,hr3,h⟩:=Ge h
 refine JLh (.tup [E2 r3.1,G0 r3.2]) (Gv O (Jc5 F s boxes before after r3 hr3) Qcf ⟨O,O,O,O,O,O,O,O,ø⟩) O (Yb (.tup [E2 r3.1,G0 r3.2]) O (JLh (E2 r3.1) (Hk O O O) O (JLh (G0 r3.2) (Hk O O O) O (Yb (E2 r3.1) O (Yb (G0 r3.2) O (G7 (hK2 (Js fun hK4=>Jr fun hK5=>(Yb (G0 r3.2) O (JLh (BL (decide (r3.2≠0))) (G71 O O O) O (G7 (hK5 (JCc O h (fun h hb=>?_) (fun h hb=>?_))))))))))))))
 ·
  refine Jr fun hK6=>(Yb (G0 r3.2) O (JLh (E6 ([]:List Move)) (Hf 6 O O) O (Yb (G0 r3.2) O (G7 (hK6 (Gs (⟨[E6 ([]:List Move),G0 r3.2],[],ø,O,⟨⟨_,O,.conv (.same O)⟩,⟨_,O,.conv (.same O)⟩,ø⟩,O,congrArg (fun r:(List Move)×Int=>(.tup [E6 r.1,G0 r.2]:AV)) (Option.some.inj h)⟩)))))))
 ·
  refine Gi (hK4 (Jr fun hK7=>(JLh (.agg (Gw.cs s)) (Gg Ho O O O) O (Yb (E1 before) O (Yb (E1 after) O (Yb (E2 r3.1) O ?_))))))
  obtain⟨r8,hr8,h⟩:=Ge h
  refine JLh (E6 r8) (Gv O (Q37 F s before after r3.1 r8 hr8) Qce ⟨O,O,O,O,O,O,O,O,ø⟩) O (Yb (E6 r8) O (Yb (G0 0) O (G7 (hK7 (Gs (⟨[E6 r8,G0 0],[],ø,O,⟨⟨_,O,.conv (.same O)⟩,⟨_,O,.conv (.same O)⟩,ø⟩,O,congrArg (fun r:(List Move)×Int=>(.tup [E6 r.1,G0 r.2]:AV)) (Option.some.inj h)⟩))))))
end
end Go.Proofs.YtknalejjpofoaaaGreat
