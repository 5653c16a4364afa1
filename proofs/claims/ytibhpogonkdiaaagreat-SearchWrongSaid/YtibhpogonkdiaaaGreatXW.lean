/- Walks of functions. -/
import Derived.Test.YtibhpogonkdiaaaGreatXV
set_option linter.unnecessarySimpa false
set_option maxRecDepth 100000
set_option maxHeartbeats 1000000
set_option linter.unusedVariables false
set_option linter.unusedSimpArgs false
namespace Go.Proofs.YtibhpogonkdiaaaGreat
open Go.RowKit
noncomputable section

namespace XWF
open XAF
open XCF
open XFF
open XSF
open XLF
open XVF
theorem Rd0 (a b:G1):H65 Em 4 65 [.int .i64 a.Box,.int .i64 a.Slot.G5,.int .i64 a.Slot.Tier,.int .u8 a.Slot.Half] [.int .i64 b.Box,.int .i64 b.Slot.G5,.int .i64 b.Slot.Tier,.int .u8 b.Slot.Half]=some (decide (a=b)):=by
 refine(show _=some ((a.Box==b.Box)&&(((a.Slot.G5==b.Slot.G5)&&((a.Slot.Tier==b.Slot.Tier)&&((a.Slot.Half==b.Slot.Half)&&true)))&&true)) by kernel_rfl).trans (congrArg some ?_)
 rw [Bool.eq_iff_iff]
 simp only [Mc,beq_iff_eq,Md,Bool.and_true]
 constructor
 ·intro h; obtain⟨_,⟨_,_,_⟩⟩:=a; obtain⟨_,⟨_,_,_⟩⟩:=b; simp_all
 ·intro h; subst h; simp
theorem J19:G10 Em 65=true:=by kernel_rfl
theorem J70:He Em 10=true:=by kernel_rfl
theorem G98:He Em 33=true:=by kernel_rfl
theorem Qb8:He Em 34=true:=by kernel_rfl
theorem Jcf:He Em 7=true:=by kernel_rfl
theorem Gd4:He Em 8=true:=by kernel_rfl
theorem Zg:He Em 9=true:=by kernel_rfl
theorem Jcd:Em.eqGuardType Em.depth 65=false:=by kernel_rfl
end XWF
open XAF
open XCF
open XFF
open XSF
open XLF
open XVF
open XWF

def Jf (columns:Int):Option Ge:=
 need (decide (columns≤9223372036854775807)) <|
 upto (fun b (a:(List G5)×(List Gt)×Int×Int×Int×Int×(List Row)×(List Frame)×(List Hw)×Int×Int×Int×Int) c=>
  need (decide ((a.1.length+[(G5.mk 0 (b:Int) false 2 0 0 0 0 [] 0 0 0)].length)*112≤140737488355328∧a.1.length+[(G5.mk 0 (b:Int) false 2 0 0 0 0 [] 0 0 0)].length≤maxLen)) <|
  c ((a.1++[(G5.mk 0 (b:Int) false 2 0 0 0 0 [] 0 0 0)]),a.2.1,a.2.2.1,a.2.2.2.1,a.2.2.2.2.1,a.2.2.2.2.2.1,a.2.2.2.2.2.2.1,a.2.2.2.2.2.2.2.1,a.2.2.2.2.2.2.2.2.1,a.2.2.2.2.2.2.2.2.2.1,a.2.2.2.2.2.2.2.2.2.2.1,a.2.2.2.2.2.2.2.2.2.2.2.1,a.2.2.2.2.2.2.2.2.2.2.2.2))
 (fun(a:(List G5)×(List Gt)×Int×Int×Int×Int×(List Row)×(List Frame)×(List Hw)×Int×Int×Int×Int)=>
  some (Ge.mk a.1 a.2.1 (Light.mk a.2.2.1 a.2.2.2.1 a.2.2.2.2.1 a.2.2.2.2.2.1) a.2.2.2.2.2.2.1 a.2.2.2.2.2.2.2.1 a.2.2.2.2.2.2.2.2.1 (Gg.mk a.2.2.2.2.2.2.2.2.2.1 a.2.2.2.2.2.2.2.2.2.2.1 a.2.2.2.2.2.2.2.2.2.2.2.1 a.2.2.2.2.2.2.2.2.2.2.2.2))) columns.toNat 0 ([],[],0,0,0,0,[],[],[],0,0,0,0)
abbrev Kh (a:(List G5)×(List Gt)×Int×Int×Int×Int×(List Row)×(List Frame)×(List Hw)×Int×Int×Int×Int):List AV:=[OW 1091 12 G5.av a.1,Eb a.2.1,I64 a.2.2.1,I64 a.2.2.2.1,I64 a.2.2.2.2.1,I64 a.2.2.2.2.2.1,E7 a.2.2.2.2.2.2.1,E8 a.2.2.2.2.2.2.2.1,E9 a.2.2.2.2.2.2.2.2.1,I64 a.2.2.2.2.2.2.2.2.2.1,I64 a.2.2.2.2.2.2.2.2.2.2.1,I64 a.2.2.2.2.2.2.2.2.2.2.2.1,I64 a.2.2.2.2.2.2.2.2.2.2.2.2]
abbrev Ki:List AV:=[Ea ([]:List G5),Eb ([]:List Gt),I64 0,I64 0,I64 0,I64 0,E7 ([]:List Row),E8 ([]:List Frame),E9 ([]:List Hw),I64 0,I64 0,I64 0,I64 0]
theorem Qy (columns:Int) (r:Ge) (h:Jf columns=some r):Pure Em 33 [I64 columns] (·=.agg (Ge.cs r)):=by
 unfold Jf at h
 refine H7 [.cell 2 34] Tryz.func33 O O (Jr fun s=>(JLh (.ptr 1089 0) (Y7 1089 Ki [.slice none 0 0,.slice none 0 0,E0,E0,E0,E0,.slice none 0 0,.slice none 0 0,.slice none 0 0,E0,E0,E0,E0] G95 ⟨.inr ⟨_,O,O⟩,.inr ⟨_,O,O⟩,.inl O,.inl O,.inl O,.inl O,.inr ⟨_,O,O⟩,.inr ⟨_,O,O⟩,.inr ⟨_,O,O⟩,.inl O,.inl O,.inl O,.inl O,ø⟩ O O) O (G6 (s ?_))))
 refine Jr fun t=>(JLh (.ptr 1090 0) (Y7 1090 [.sc (.slice none 0 0),Eb ([]:List Gt),I64 0,I64 0,I64 0,I64 0,E7 ([]:List Row),E8 ([]:List Frame),E9 ([]:List Hw),I64 0,I64 0,I64 0,I64 0] [.slice none 0 0,.slice none 0 0,E0,E0,E0,E0,.slice none 0 0,.slice none 0 0,.slice none 0 0,E0,E0,E0,E0] G95 ⟨.inl O,.inr ⟨_,O,O⟩,.inl O,.inl O,.inl O,.inl O,.inr ⟨_,O,O⟩,.inr ⟨_,O,O⟩,.inr ⟨_,O,O⟩,.inl O,.inl O,.inl O,.inl O,ø⟩ O O) O ?_)
 refine Ga2 1090 0 1091 41 12 O O O (cs':=[OW 1091 12 G5.av ([]:List G5),Eb ([]:List Gt),I64 0,I64 0,I64 0,I64 0,E7 ([]:List Row),E8 ([]:List Frame),E9 ([]:List Hw),I64 0,I64 0,I64 0,I64 0]) O (G6 (t (Js fun v=>Jr fun w=>(JLm (I64 columns) O (JLm (I64 0) O (G6 (w (Gk ?_))))))))
 obtain⟨g,h⟩:=J0 h
 obtain⟨x,i,j,e,h⟩:=Ga5 h
 refine Hi (fun b (a:(List G5)×(List Gt)×Int×Int×Int×Int×(List Row)×(List Frame)×(List Hw)×Int×Int×Int×Int)=>upto x i (columns.toNat - b) b a=some r) (fun b a=>[(2,.ptr 1089 0),(3,.ptr 1090 0),(5,I64 columns),(6,Ek b)]) (fun b a=>[(1091,.spare 41 12 a.1.length a.1.length),(1089,.box 34 Ki),(1090,.box 34 (Kh a))]) (fun b=>columns.toNat - b) 0 ([],[],0,0,0,0,[],[],[],0,0,0,0) h ⟨(.sm O O),⟨⟨_,rfl,.same⟩,fbQ O (.sm O O),fbQ O (.sm O O),ø⟩,rfl⟩ ?_
 clear h
 intro b a c a0 y
 refine Jr fun k=>(JLh (BL (decide ((b:Int) < columns))) (Jc O O O) O (G6 (k (Js fun l=>Gn O (fun hb=>?_) (fun hb=>?_)))))
 ·
  have d:=G55 hb
  obtain⟨z,m,h⟩:=G50 c d
  replace h:=J03 j h
  refine Gp (l (Js fun n=>Gk (Jr fun o=>(JLm (Ek b) O (JLm (Ek b) O (G6 (o (G2 ?_))))))))
  refine JLh (.ptr 1090 0) (J7 Hk O O) O (JLh (OW 1091 12 G5.av a.1) (Ji J2 O O O O) O (JLm (Ek b) O (JLh (.agg [I64 0,Ek b,BL false,I64 2,I64 0,I64 0,I64 0,I64 0,E5 ([]:List Int),I64 0,I64 0,I64 0]) (J6 (cs:=[I64 0,Ek b,BL false,I64 2,I64 0,I64 0,I64 0,I64 0,E5 ([]:List Int),I64 0,I64 0,I64 0]) [(0,1),(1,1),(2,1),(3,1),(4,1),(5,1),(6,1),(7,1),(8,1),(9,1),(10,1),(11,1)] [I64 0,I64 0,BL false,I64 0,I64 0,I64 0,I64 0,I64 0,E5 ([]:List Int),I64 0,I64 0,I64 0] [E0,E0,.bool false,E0,E0,E0,E0,E0,.slice none 0 0,E0,E0,E0] G75 Gdc ⟨.inl O,.inl O,.inl O,.inl O,.inl O,.inl O,.inl O,.inl O,.inr ⟨_,O,O⟩,.inl O,.inl O,.inl O,ø⟩ O O) O (JLh (Ea ([(G5.mk 0 (b:Int) false 2 0 0 0 0 [] 0 0 0)])) (H8 (xs:=[.agg [I64 0,Ek b,BL false,I64 2,I64 0,I64 0,I64 0,I64 0,E5 ([]:List Int),I64 0,I64 0,I64 0]]) O ⟨O,O,ø⟩ Hj Yq O O O O) O ?_))))
  obtain⟨p,h⟩:=J0 h
  refine JLh (OW 1091 12 G5.av (a.1++[(G5.mk 0 (b:Int) false 2 0 0 0 0 [] 0 0 0)])) (Qz (f:=G5.av) (xs:=a.1) (ys:=[(G5.mk 0 (b:Int) false 2 0 0 0 0 [] 0 0 0)]) O O O O Hj H32 p (fun _=>O) (.inl O) O) O (JLh (.ptr 1090 0) (J7 Hk O O) O (Hb (u:=.junk) (Gz (u:=OW 1091 12 G5.av (a.1++[(G5.mk 0 (b:Int) false 2 0 0 0 0 [] 0 0 0)])) (ds:=[OW 1091 12 G5.av (a.1++[(G5.mk 0 (b:Int) false 2 0 0 0 0 [] 0 0 0)]),Eb a.2.1,I64 a.2.2.1,I64 a.2.2.2.1,I64 a.2.2.2.2.1,I64 a.2.2.2.2.2.1,E7 a.2.2.2.2.2.2.1,E8 a.2.2.2.2.2.2.2.1,E9 a.2.2.2.2.2.2.2.2.1,I64 a.2.2.2.2.2.2.2.2.2.1,I64 a.2.2.2.2.2.2.2.2.2.2.1,I64 a.2.2.2.2.2.2.2.2.2.2.2.1,I64 a.2.2.2.2.2.2.2.2.2.2.2.2]) H2f O O O O O O O O) (G6 (n ?_))))
  refine G2 (JLh (I64 ((b+1:Nat):Int)) (Hv (Ha d (Zs g)) O O O) O (JLm (I64 ((b+1:Nat):Int)) O (G6 (y _ _ (b+1) ((a.1++[(G5.mk 0 (b:Int) false 2 0 0 0 0 [] 0 0 0)]),a.2.1,a.2.2.1,a.2.2.2.1,a.2.2.2.2.1,a.2.2.2.2.2.1,a.2.2.2.2.2.2.1,a.2.2.2.2.2.2.2.1,a.2.2.2.2.2.2.2.2.1,a.2.2.2.2.2.2.2.2.2.1,a.2.2.2.2.2.2.2.2.2.2.1,a.2.2.2.2.2.2.2.2.2.2.2.1,a.2.2.2.2.2.2.2.2.2.2.2.2) (app1 m h) (by omega) ⟨(.sm O O),⟨⟨_,rfl,.same⟩,fbQ O (.sm O O),fbQ O (.sm O O),ø⟩,rfl⟩))))
 ·
  have h:=app1 e (G51 c (Yn hb))
  refine Ho (v ?_)
  refine Jr fun q=>(JLh (.agg (Kh a)) (G0f Hm O O O O) O (Hb (u:=.junk) (Gz (u:=.agg (Kh a)) (ds:=(Kh a)) G37 O O O O O O O O) (G6 (q ?_))))
  refine Gy (⟨[.agg [Ea a.1,Eb a.2.1,I64 a.2.2.1,I64 a.2.2.2.1,I64 a.2.2.2.2.1,I64 a.2.2.2.2.2.1,E7 a.2.2.2.2.2.2.1,E8 a.2.2.2.2.2.2.2.1,E9 a.2.2.2.2.2.2.2.2.1,I64 a.2.2.2.2.2.2.2.2.2.1,I64 a.2.2.2.2.2.2.2.2.2.2.1,I64 a.2.2.2.2.2.2.2.2.2.2.2.1,I64 a.2.2.2.2.2.2.2.2.2.2.2.2]],[],ø,O,⟨⟨_,⟨_,_,_,_,O,O,O,.inl ⟨Hm,O⟩⟩,.agg ⟨.list O,.same O,.same O,.same O,.same O,.same O,.same O,.same O,.same O,.same O,.same O,.same O,.same O,ø⟩⟩,ø⟩,O,congrArg (fun r:Ge=>(.agg (Ge.cs r):AV)) (M0 h)⟩)

def Zm (a:List G1) (b:List G1):Option Bool:=
 bif decide ((a.length:Int)≠(b.length:Int)) then
 (some false)
 else
 (each (fun d e (f:Unit) c=>
   Jz b (e:Int) fun g=>
   bif (!decide (d=g)) then
   (some false)
   else
   (c ()))
  (fun(f:Unit)=>
   some true) a 0 ())
theorem Gc2 (a:List G1) (b:List G1) (r:Bool) (h:Zm a b=some r):Pure Em 34 [E4 a,E4 b] (·=BL r):=by
 unfold Zm at h
 refine H7 [.tmp 4] Tryz.func34 O O (Jr fun a0=>(JLm (BL false) O (G6 (a0 (Js fun a1=>Jr fun a2=>(JLm (E4 a) O (JLl H6 O O O fun a9=>(JLm (E4 b) O (JLl H6 O O O fun b0=>(JLh (BL (decide ((a.length:Int)≠(b.length:Int)))) (H27 O O O) O (G6 (a2 (JCc O h (fun h hb=>?_) (fun h hb=>?_))))))))))))))
 ·
  refine Jr fun a3=>(JLm (BL false) O (G6 (a3 (Gy (fin1 BL h)))))
 ·
  refine Gp (a1 (Js fun a4=>Jr fun a5=>(JLm (I64 0) O (G6 (a5 (Gk ?_))))))
  obtain⟨a6,l,m,k,h⟩:=J3 h
  refine Hi (fun c (g:Unit)=>each a6 l (List.drop c a) c g=some r) (fun c g=>[(0,E4 a),(1,E4 b),(5,Ek c)]) (fun c g=>[]) (fun c=>a.length - c) 0 () h ⟨(.sm O O),ø,O⟩ ?_
  clear h
  intro c g i b1 a7
  refine Js fun n=>Jr fun o=>(JLm (Ek c) O (JLm (E4 a) O (JLl H6 O O O fun p=>(JLh (BL (decide ((c:Int) < (a.length:Int)))) (Jc O O O) O (G6 (o (Gn O (fun hb=>?_) (fun hb=>?_))))))))
  ·
   have j:=Jk hb
   obtain⟨d,a8,q,s,h⟩:=Hr i j
   replace h:=Ry m h
   refine Gp (n (Js fun t=>Gk (Js fun u=>?_)))
   obtain⟨b2,e,v,w,h⟩:=Qm h
   refine JC_d0 Q0 (by kernel_rfl) (Dq (E4 a) (G4 O O) O (Dq (Ek c) (G4 O O) O (Dq (Eg d) (H3 (f:=G1.av) (xs:=a) (y:=d) O O O H6 q O) O (Dq (.agg (G1.cs d)) (Gi Qk O O O) O (Dq (E4 b) (G4 O O) O (Dq (Ek c) (G4 O O) O (Dq (Eg e) (H3 (f:=G1.av) (xs:=b) (y:=e) O O O H6 w v) O (Dq (.agg (G1.cs e)) (Gi Qk O O O) O (Dq (BL (!decide (d=e))) (R19 (vs:=[.int .i64 d.Box,.int .i64 d.Slot.G5,.int .i64 d.Slot.Tier,.int .u8 d.Slot.Half]) (us:=[.int .i64 e.Box,.int .i64 e.Slot.G5,.int .i64 e.Slot.Tier,.int .u8 e.Slot.Half]) 4 O (Rd0 d e) J19 Jcd O O O) O (Dnil (u (JCc O h (fun h hb=>?_) (fun h hb=>?_)))))))))))))
   ·
    refine Jr fun x=>(JLm (BL false) O (G6 (x (Gy (fin1 BL h)))))
   ·
    refine Gp (t (G2 (JLm (Ek c) O (JLh (I64 ((c+1:Nat):Int)) (Hv (Ha j p) O O O) O (JLm (I64 ((c+1:Nat):Int)) O (G6 (a7 _ _ (c+1) () (app1 s h) (by omega) ⟨(.sm O O),ø,rfl⟩)))))))
  ·
   have h:=app1 k (Hs i (H9 hb))
   refine Ho (a4 (Jr fun z=>(JLm (BL true) O (G6 (z (Gy (fin1 BL h)))))))

def R6 (F:Nat) :Option Bool:=
 bnd (Jf 1) fun o=>
 bnd (J1 F o [(Box.mk 1 ByteArray.empty 40 false 0 0 2 0 false),(Box.mk 2 ByteArray.empty 40 false 0 1 3 0 false)] 4) fun b=>
 bnd (Jf 2) fun p=>
 bnd (J1 F p [(Box.mk 1 ByteArray.empty 40 false 0 0 2 0 false),(Box.mk 2 ByteArray.empty 40 false 0 1 3 0 false)] 4) fun a=>
 bnd (Jf 2) fun h=>
 bnd (Jg F h [(Box.mk 1 ByteArray.empty 40 false 0 0 2 0 false),(Box.mk 2 ByteArray.empty 40 false 0 1 3 0 false)] [1,2]) fun d=>
 bnd (Jf 1) fun i=>
 bnd (J1 F i [(Box.mk 1 ByteArray.empty 40 false 0 0 1 0 false),(Box.mk 2 ByteArray.empty 40 false 0 0 1 0 false),(Box.mk 3 ByteArray.empty 40 false 0 0 1 0 false)] 2) fun e=>
 chk (b.2.2+a.2.2) fun j=>
 chk (j+d.2) fun c=>
 bnd (bif (((((decide (c=0))&&(decide (b.2.1=1)))&&(decide (a.2.1=0)))&&(decide ((b.1.States.length:Int)=4)))&&(decide ((a.1.States.length:Int)=4))) then Jz a.1.States 1 some else some default) fun k=>
 bnd (bif (((((decide (c=0))&&(decide (b.2.1=1)))&&(decide (a.2.1=0)))&&(decide ((b.1.States.length:Int)=4)))&&(decide ((a.1.States.length:Int)=4))) then Zm k [(G1.mk 1 (Slot.mk 0 0 0)),(G1.mk 2 (Slot.mk 1 0 0))] else some default) fun f=>
 bnd (bif ((((((((decide (c=0))&&(decide (b.2.1=1)))&&(decide (a.2.1=0)))&&(decide ((b.1.States.length:Int)=4)))&&(decide ((a.1.States.length:Int)=4)))&&f)&&(decide ((d.1.length:Int)=6)))&&(decide (e.2.2=4))) then Jf 3 else some default) fun l=>
 bnd (bif ((((((((decide (c=0))&&(decide (b.2.1=1)))&&(decide (a.2.1=0)))&&(decide ((b.1.States.length:Int)=4)))&&(decide ((a.1.States.length:Int)=4)))&&f)&&(decide ((d.1.length:Int)=6)))&&(decide (e.2.2=4))) then Jo l [(Box.mk 1 ByteArray.empty 40 false 0 0 2 0 false),(Box.mk 2 ByteArray.empty 40 false 0 1 3 0 false)] 4 else some default) fun g=>
 bnd (bif (((((((((decide (c=0))&&(decide (b.2.1=1)))&&(decide (a.2.1=0)))&&(decide ((b.1.States.length:Int)=4)))&&(decide ((a.1.States.length:Int)=4)))&&f)&&(decide ((d.1.length:Int)=6)))&&(decide (e.2.2=4)))&&g) then Jf 4 else some default) fun m=>
 bnd (bif (((((((((decide (c=0))&&(decide (b.2.1=1)))&&(decide (a.2.1=0)))&&(decide ((b.1.States.length:Int)=4)))&&(decide ((a.1.States.length:Int)=4)))&&f)&&(decide ((d.1.length:Int)=6)))&&(decide (e.2.2=4)))&&g) then Jo m [(Box.mk 1 ByteArray.empty 40 false 0 0 2 0 false),(Box.mk 2 ByteArray.empty 40 false 0 1 3 0 false)] 4 else some default) fun n=>
 some ((((((((((decide (c=0))&&(decide (b.2.1=1)))&&(decide (a.2.1=0)))&&(decide ((b.1.States.length:Int)=4)))&&(decide ((a.1.States.length:Int)=4)))&&f)&&(decide ((d.1.length:Int)=6)))&&(decide (e.2.2=4)))&&g)&&(!n))
theorem G57 (F:Nat)  (r:Bool) (h:R6 F =some r):Pure Em 10 [] (·=BL r):=by
 unfold R6 at h
 refine H7 [.tmp 0] Tryz.func10 O O (Jr fun b0=>(JLm (BL false) O (G6 (b0 ?_))))
 refine Jr fun b1=>(JLh (.agg [I64 1,ST Kt,U8 40,BL false,I64 0,I64 0,I64 2,U8 0,BL false]) (J6 (cs:=[I64 1,ST Kt,U8 40,BL false,I64 0,I64 0,I64 2,U8 0,BL false]) [(0,1),(1,1),(2,1),(3,1),(4,1),(5,1),(6,1),(7,1),(8,1)] [I64 0,ST Kt,U8 0,BL false,I64 0,I64 0,I64 0,U8 0,BL false] [E0,.string ByteArray.empty,.int .u8 0,.bool false,E0,E0,E0,.int .u8 0,.bool false] Y2 Yx (zzQ O) O O) O (JLh (.agg [I64 2,ST Kt,U8 40,BL false,I64 0,I64 1,I64 3,U8 0,BL false]) (J6 (cs:=[I64 2,ST Kt,U8 40,BL false,I64 0,I64 1,I64 3,U8 0,BL false]) [(0,1),(1,1),(2,1),(3,1),(4,1),(5,1),(6,1),(7,1),(8,1)] [I64 0,ST Kt,U8 0,BL false,I64 0,I64 0,I64 0,U8 0,BL false] [E0,.string ByteArray.empty,.int .u8 0,.bool false,E0,E0,E0,.int .u8 0,.bool false] Y2 Yx (zzQ O) O O) O (JLh (E6 [(Box.mk 1 ByteArray.empty 40 false 0 0 2 0 false),(Box.mk 2 ByteArray.empty 40 false 0 1 3 0 false)]) (H8 (xs:=[.agg [I64 1,ST Kt,U8 40,BL false,I64 0,I64 0,I64 2,U8 0,BL false],.agg [I64 2,ST Kt,U8 40,BL false,I64 0,I64 1,I64 3,U8 0,BL false]]) O ⟨O,O,O,O,ø⟩ Hx Qr O O O O) O (JLm (E6 [(Box.mk 1 ByteArray.empty 40 false 0 0 2 0 false),(Box.mk 2 ByteArray.empty 40 false 0 1 3 0 false)]) O (G6 (b1 ?_))))))
 refine Jr fun b2=>?_
 obtain⟨q,b3,h⟩:=Gh h
 refine JLh (.agg (Ge.cs q)) (H0 O (Qy 1 q b3) G98 ⟨O,O,ø⟩) O (JLm (E6 [(Box.mk 1 ByteArray.empty 40 false 0 0 2 0 false),(Box.mk 2 ByteArray.empty 40 false 0 1 3 0 false)]) O ?_)
 obtain⟨a,b4,h⟩:=Gh h
 refine JLh (.tup [.agg [LS 1 (E4) a.1.States,LS 1 (E5) a.1.Water],I64 a.2.1,I64 a.2.2]) (H0 O (Q1 F q [(Box.mk 1 ByteArray.empty 40 false 0 0 2 0 false),(Box.mk 2 ByteArray.empty 40 false 0 1 3 0 false)] 4 a b4) Zg ⟨O,O,O,O,O,O,ø⟩) O (JLm (.tup [.agg [LS 1 (E4) a.1.States,LS 1 (E5) a.1.Water],I64 a.2.1,I64 a.2.2]) O (JLh (.agg [LS 1 (E4) a.1.States,LS 1 (E5) a.1.Water]) (Gv O O O) O (JLh (I64 a.2.1) (Gv O O O) O (JLh (I64 a.2.2) (Gv O O O) O (JLh (.ptr 1030 0) (Hd 1030 2 Za O O) O (Hb (u:=.junk) (Gz (u:=.agg [LS 1 (E4) a.1.States,LS 1 (E5) a.1.Water]) (ds:=[LS 1 (E4) a.1.States,LS 1 (E5) a.1.Water]) R5 O O O O O O O O) (JLm (I64 a.2.1) O (JLm (I64 a.2.2) O (G6 (b2 ?_))))))))))
 refine fzQ [(1,E6 [(Box.mk 1 ByteArray.empty 40 false 0 0 2 0 false),(Box.mk 2 ByteArray.empty 40 false 0 1 3 0 false)]),(2,.dptr [LS 1 (E4) a.1.States,LS 1 (E5) a.1.Water]),(3,I64 a.2.1),(4,I64 a.2.2)] [] 1030 rfl rfl rfl ø rfl (Jr fun b5=>?_)
 obtain⟨s,b6,h⟩:=Gh h
 refine JLh (.agg (Ge.cs s)) (H0 O (Qy 2 s b6) G98 ⟨O,O,ø⟩) O (JLm (E6 [(Box.mk 1 ByteArray.empty 40 false 0 0 2 0 false),(Box.mk 2 ByteArray.empty 40 false 0 1 3 0 false)]) O ?_)
 obtain⟨c,b7,h⟩:=Gh h
 refine JLh (.tup [.agg [LS 1 (E4) c.1.States,LS 1 (E5) c.1.Water],I64 c.2.1,I64 c.2.2]) (H0 O (Q1 F s [(Box.mk 1 ByteArray.empty 40 false 0 0 2 0 false),(Box.mk 2 ByteArray.empty 40 false 0 1 3 0 false)] 4 c b7) Zg ⟨O,O,O,O,O,O,ø⟩) O (JLm (.tup [.agg [LS 1 (E4) c.1.States,LS 1 (E5) c.1.Water],I64 c.2.1,I64 c.2.2]) O (JLh (.agg [LS 1 (E4) c.1.States,LS 1 (E5) c.1.Water]) (Gv O O O) O (JLh (I64 c.2.1) (Gv O O O) O (JLh (I64 c.2.2) (Gv O O O) O (JLh (.ptr 1031 0) (Hd 1031 2 Za O O) O (Hb (u:=.junk) (Gz (u:=.agg [LS 1 (E4) c.1.States,LS 1 (E5) c.1.Water]) (ds:=[LS 1 (E4) c.1.States,LS 1 (E5) c.1.Water]) R5 O O O O O O O O) (JLm (I64 c.2.1) O (JLm (I64 c.2.2) O (G6 (b5 ?_))))))))))
 refine fzQ [(1,E6 [(Box.mk 1 ByteArray.empty 40 false 0 0 2 0 false),(Box.mk 2 ByteArray.empty 40 false 0 1 3 0 false)]),(2,.dptr [LS 1 (E4) a.1.States,LS 1 (E5) a.1.Water]),(3,I64 a.2.1),(4,I64 a.2.2),(5,.dptr [LS 1 (E4) c.1.States,LS 1 (E5) c.1.Water]),(6,I64 c.2.1),(7,I64 c.2.2)] [] 1031 rfl rfl rfl ø rfl (Jr fun b8=>?_)
 obtain⟨o,t,h⟩:=Gh h
 refine JLh (.agg (Ge.cs o)) (H0 O (Qy 2 o t) G98 ⟨O,O,ø⟩) O (JLm (E6 [(Box.mk 1 ByteArray.empty 40 false 0 0 2 0 false),(Box.mk 2 ByteArray.empty 40 false 0 1 3 0 false)]) O (JLh (E5 [1,2]) (H8 (xs:=[I64 1,I64 2]) O ⟨O,O,O,O,ø⟩ Gx R0 O O O O) O ?_))
 obtain⟨e,v,h⟩:=Gh h
 refine JLh (.tup [LS 1 (E4) e.1,I64 e.2]) (H0 O (Yw F o [(Box.mk 1 ByteArray.empty 40 false 0 0 2 0 false),(Box.mk 2 ByteArray.empty 40 false 0 1 3 0 false)] [1,2] e v) Gd4 ⟨O,O,O,O,O,O,ø⟩) O (JLm (.tup [LS 1 (E4) e.1,I64 e.2]) O (JLh (LS 1 (E4) e.1) (Gv O O O) O (JLh (I64 e.2) (Gv O O O) O (JLm (LS 1 (E4) e.1) O (JLm (I64 e.2) O (G6 (b8 ?_)))))))
 refine Jr fun w=>(JLh (.agg [I64 1,ST Kt,U8 40,BL false,I64 0,I64 0,I64 1,U8 0,BL false]) (J6 (cs:=[I64 1,ST Kt,U8 40,BL false,I64 0,I64 0,I64 1,U8 0,BL false]) [(0,1),(1,1),(2,1),(3,1),(4,1),(5,1),(6,1),(7,1),(8,1)] [I64 0,ST Kt,U8 0,BL false,I64 0,I64 0,I64 0,U8 0,BL false] [E0,.string ByteArray.empty,.int .u8 0,.bool false,E0,E0,E0,.int .u8 0,.bool false] Y2 Yx (zzQ O) O O) O (JLh (.agg [I64 2,ST Kt,U8 40,BL false,I64 0,I64 0,I64 1,U8 0,BL false]) (J6 (cs:=[I64 2,ST Kt,U8 40,BL false,I64 0,I64 0,I64 1,U8 0,BL false]) [(0,1),(1,1),(2,1),(3,1),(4,1),(5,1),(6,1),(7,1),(8,1)] [I64 0,ST Kt,U8 0,BL false,I64 0,I64 0,I64 0,U8 0,BL false] [E0,.string ByteArray.empty,.int .u8 0,.bool false,E0,E0,E0,.int .u8 0,.bool false] Y2 Yx (zzQ O) O O) O (JLh (.agg [I64 3,ST Kt,U8 40,BL false,I64 0,I64 0,I64 1,U8 0,BL false]) (J6 (cs:=[I64 3,ST Kt,U8 40,BL false,I64 0,I64 0,I64 1,U8 0,BL false]) [(0,1),(1,1),(2,1),(3,1),(4,1),(5,1),(6,1),(7,1),(8,1)] [I64 0,ST Kt,U8 0,BL false,I64 0,I64 0,I64 0,U8 0,BL false] [E0,.string ByteArray.empty,.int .u8 0,.bool false,E0,E0,E0,.int .u8 0,.bool false] Y2 Yx (zzQ O) O O) O (JLh (E6 [(Box.mk 1 ByteArray.empty 40 false 0 0 1 0 false),(Box.mk 2 ByteArray.empty 40 false 0 0 1 0 false),(Box.mk 3 ByteArray.empty 40 false 0 0 1 0 false)]) (H8 (xs:=[.agg [I64 1,ST Kt,U8 40,BL false,I64 0,I64 0,I64 1,U8 0,BL false],.agg [I64 2,ST Kt,U8 40,BL false,I64 0,I64 0,I64 1,U8 0,BL false],.agg [I64 3,ST Kt,U8 40,BL false,I64 0,I64 0,I64 1,U8 0,BL false]]) O ⟨O,O,O,O,O,O,ø⟩ Hx Qr O O O O) O (JLm (E6 [(Box.mk 1 ByteArray.empty 40 false 0 0 1 0 false),(Box.mk 2 ByteArray.empty 40 false 0 0 1 0 false),(Box.mk 3 ByteArray.empty 40 false 0 0 1 0 false)]) O (G6 (w ?_)))))))
 refine Jr fun x=>?_
 obtain⟨p,z,h⟩:=Gh h
 refine JLh (.agg (Ge.cs p)) (H0 O (Qy 1 p z) G98 ⟨O,O,ø⟩) O (JLm (E6 [(Box.mk 1 ByteArray.empty 40 false 0 0 1 0 false),(Box.mk 2 ByteArray.empty 40 false 0 0 1 0 false),(Box.mk 3 ByteArray.empty 40 false 0 0 1 0 false)]) O ?_)
 obtain⟨d,a0,h⟩:=Gh h
 refine JLh (.tup [.agg [LS 1 (E4) d.1.States,LS 1 (E5) d.1.Water],I64 d.2.1,I64 d.2.2]) (H0 O (Q1 F p [(Box.mk 1 ByteArray.empty 40 false 0 0 1 0 false),(Box.mk 2 ByteArray.empty 40 false 0 0 1 0 false),(Box.mk 3 ByteArray.empty 40 false 0 0 1 0 false)] 2 d a0) Zg ⟨O,O,O,O,O,O,ø⟩) O (JLm (.tup [.agg [LS 1 (E4) d.1.States,LS 1 (E5) d.1.Water],I64 d.2.1,I64 d.2.2]) O (JLh (.agg [LS 1 (E4) d.1.States,LS 1 (E5) d.1.Water]) (Gv O O O) O (JLh (I64 d.2.1) (Gv O O O) O (JLh (I64 d.2.2) (Gv O O O) O (JLh (.ptr 1032 0) (Hd 1032 2 Za O O) O (Hb (u:=.junk) (Gz (u:=.agg [LS 1 (E4) d.1.States,LS 1 (E5) d.1.Water]) (ds:=[LS 1 (E4) d.1.States,LS 1 (E5) d.1.Water]) R5 O O O O O O O O) (JLm (I64 d.2.1) O (JLm (I64 d.2.2) O (G6 (x ?_))))))))))
 refine fzQ [(1,E6 [(Box.mk 1 ByteArray.empty 40 false 0 0 2 0 false),(Box.mk 2 ByteArray.empty 40 false 0 1 3 0 false)]),(2,.dptr [LS 1 (E4) a.1.States,LS 1 (E5) a.1.Water]),(3,I64 a.2.1),(4,I64 a.2.2),(5,.dptr [LS 1 (E4) c.1.States,LS 1 (E5) c.1.Water]),(6,I64 c.2.1),(7,I64 c.2.2),(8,LS 1 (E4) e.1),(9,I64 e.2),(13,I64 d.2.2)] [] 1032 rfl rfl rfl ø rfl (Jr fun a1=>(JLm (I64 a.2.2) O (JLm (I64 c.2.2) O ?_)))
 obtain⟨b9,a2,h⟩:=J5 h
 refine JLh (I64 b9) (Hv a2 O O O) O (JLm (I64 e.2) O ?_)
 obtain⟨g,a3,h⟩:=J5 h
 refine JLh (I64 g) (Hv a3 O O O) O (JLh (BL (decide (g=0))) (Q4 O O O) O (JLm (BL (decide (g=0))) O (JLo (I64 a.2.1) [] O .sct ø (fun hc=>G4 O O) O (JLo (BL (decide (a.2.1=1))) [56] O .sct ⟨Ua,ø⟩ (fun hc=>Q4 O O O) O (JLh (BL ((decide (g=0))&&(decide (a.2.1=1)))) (Qs O O O O) O (JLm (BL ((decide (g=0))&&(decide (a.2.1=1)))) O (JLo (I64 c.2.1) [] O .sct ø (fun hc=>G4 O O) O (JLo (BL (decide (c.2.1=0))) [60] O .sct ⟨Ua,ø⟩ (fun hc=>Q4 O O O) O (JLh (BL (((decide (g=0))&&(decide (a.2.1=1)))&&(decide (c.2.1=0)))) (Qs O O O O) O (JLm (BL (((decide (g=0))&&(decide (a.2.1=1)))&&(decide (c.2.1=0)))) O (JLo (.dptr [LS 1 (E4) a.1.States,LS 1 (E5) a.1.Water]) [] O .sct ø (fun hc=>Gd Yi O O O) O (JLo (LS 1 (E4) a.1.States) [64] O .sct ⟨Ua,ø⟩ (fun hc=>Gf Jy O O O) O (JLo (Ek a.1.States.length) [65] O .sct ⟨Ua,ø⟩ (fun hc=>G25 (f:=(E4)) (xs:=a.1.States) Hz O O) O ?_)))))))))))))
 refine JLo (BL (decide ((a.1.States.length:Int)=4))) [66] O .sct ⟨Ua,ø⟩ (fun hc=>Q4 O O O) O (JLh (BL ((((decide (g=0))&&(decide (a.2.1=1)))&&(decide (c.2.1=0)))&&(decide ((a.1.States.length:Int)=4)))) (Qs O O O O) O (JLm (BL ((((decide (g=0))&&(decide (a.2.1=1)))&&(decide (c.2.1=0)))&&(decide ((a.1.States.length:Int)=4)))) O (JLo (.dptr [LS 1 (E4) c.1.States,LS 1 (E5) c.1.Water]) [] O .sct ø (fun hc=>Gd Yi O O O) O (JLo (LS 1 (E4) c.1.States) [70] O .sct ⟨Ua,ø⟩ (fun hc=>Gf Jy O O O) O (JLo (Ek c.1.States.length) [71] O .sct ⟨Ua,ø⟩ (fun hc=>G25 (f:=(E4)) (xs:=c.1.States) Hz O O) O (JLo (BL (decide ((c.1.States.length:Int)=4))) [72] O .sct ⟨Ua,ø⟩ (fun hc=>Q4 O O O) O (JLh (BL (((((decide (g=0))&&(decide (a.2.1=1)))&&(decide (c.2.1=0)))&&(decide ((a.1.States.length:Int)=4)))&&(decide ((c.1.States.length:Int)=4)))) (Qs O O O O) O (JLm (BL (((((decide (g=0))&&(decide (a.2.1=1)))&&(decide (c.2.1=0)))&&(decide ((a.1.States.length:Int)=4)))&&(decide ((c.1.States.length:Int)=4)))) O (JLo (.dptr [LS 1 (E4) c.1.States,LS 1 (E5) c.1.Water]) [] O .sct ø (fun hc=>Gd Yi O O O) O (JLo (LS 1 (E4) c.1.States) [76] O .sct ⟨Ua,ø⟩ (fun hc=>Gf Jy O O O) O ?_))))))))))
 obtain⟨l,a4,h⟩:=Gh h
 refine JLo (.dptr [E4 l]) [77] O .sct ⟨Ua,ø⟩ (fun hc=>(match G13 (Hc hc a4) with | ⟨_,hm_,hy_⟩=>H3 (f:=(E4)) (xs:=c.1.States) (y:=l) O O O Hz hy_ hm_)) O (JLo (E4 l) [78] O .sct ⟨Ua,ø⟩ (fun hc=>Gf Y1 O O O) O (JLo (.agg [I64 1,I64 0,I64 0,U8 0]) [] O .sct ø (fun hc=>J6 (cs:=[I64 1,I64 0,I64 0,U8 0]) [(0,1),(1,3)] [I64 0,I64 0,I64 0,U8 0] [E0,E0,E0,.int .u8 0] G42 G93 (zzQ O) O O) O (JLo (.agg [I64 1,I64 0,U8 0]) [] O .sct ø (fun hc=>J6 (cs:=[I64 1,I64 0,U8 0]) [(0,1),(1,1),(2,1)] [I64 0,I64 0,U8 0] [E0,E0,.int .u8 0] G74 G94 (zzQ O) O O) O (JLo (.agg [I64 2,I64 1,I64 0,U8 0]) [81] O .sct ⟨Ua,ø⟩ (fun hc=>J6 (cs:=[I64 2,I64 1,I64 0,U8 0]) [(0,1),(1,3)] [I64 0,I64 0,I64 0,U8 0] [E0,E0,E0,.int .u8 0] G42 G93 (zzQ O) O O) O (JLo (E4 [(G1.mk 1 (Slot.mk 0 0 0)),(G1.mk 2 (Slot.mk 1 0 0))]) [80,82] O .sct ⟨Ua,Ua,ø⟩ (fun hc=>H8 (xs:=[.agg [I64 1,I64 0,I64 0,U8 0],.agg [I64 2,I64 1,I64 0,U8 0]]) O ⟨O,O,O,O,ø⟩ H6 Qd O O O O) O ?_)))))
 obtain⟨i,a5,h⟩:=Gh h
 refine JLo (BL i) [79,83] O .sct ⟨Ua,Ua,ø⟩ (fun hc=>H0 (args:=[E4 l,E4 [(G1.mk 1 (Slot.mk 0 0 0)),(G1.mk 2 (Slot.mk 1 0 0))]]) O (Gc2 l [(G1.mk 1 (Slot.mk 0 0 0)),(G1.mk 2 (Slot.mk 1 0 0))] i (Hc hc a5)) Qb8 ⟨O,O,O,O,ø⟩) O (JLh (BL ((((((decide (g=0))&&(decide (a.2.1=1)))&&(decide (c.2.1=0)))&&(decide ((a.1.States.length:Int)=4)))&&(decide ((c.1.States.length:Int)=4)))&&i)) (Qs O O O O) O (JLm (BL ((((((decide (g=0))&&(decide (a.2.1=1)))&&(decide (c.2.1=0)))&&(decide ((a.1.States.length:Int)=4)))&&(decide ((c.1.States.length:Int)=4)))&&i)) O (JLo (LS 1 (E4) e.1) [] O .sct ø (fun hc=>G4 O O) O (JLo (Ek e.1.length) [87] O .sct ⟨Ua,ø⟩ (fun hc=>G25 (f:=(E4)) (xs:=e.1) Hz O O) O (JLo (BL (decide ((e.1.length:Int)=6))) [88] O .sct ⟨Ua,ø⟩ (fun hc=>Q4 O O O) O (JLh (BL (((((((decide (g=0))&&(decide (a.2.1=1)))&&(decide (c.2.1=0)))&&(decide ((a.1.States.length:Int)=4)))&&(decide ((c.1.States.length:Int)=4)))&&i)&&(decide ((e.1.length:Int)=6)))) (Qs O O O O) O (JLm (BL (((((((decide (g=0))&&(decide (a.2.1=1)))&&(decide (c.2.1=0)))&&(decide ((a.1.States.length:Int)=4)))&&(decide ((c.1.States.length:Int)=4)))&&i)&&(decide ((e.1.length:Int)=6)))) O (JLo (I64 d.2.2) [] O .sct ø (fun hc=>G4 O O) O (JLo (BL (decide (d.2.2=4))) [92] O .sct ⟨Ua,ø⟩ (fun hc=>Q4 O O O) O (JLh (BL ((((((((decide (g=0))&&(decide (a.2.1=1)))&&(decide (c.2.1=0)))&&(decide ((a.1.States.length:Int)=4)))&&(decide ((c.1.States.length:Int)=4)))&&i)&&(decide ((e.1.length:Int)=6)))&&(decide (d.2.2=4)))) (Qs O O O O) O (JLm (BL ((((((((decide (g=0))&&(decide (a.2.1=1)))&&(decide (c.2.1=0)))&&(decide ((a.1.States.length:Int)=4)))&&(decide ((c.1.States.length:Int)=4)))&&i)&&(decide ((e.1.length:Int)=6)))&&(decide (d.2.2=4)))) O ?_)))))))))))
 obtain⟨m,a6,h⟩:=Gh h
 refine JLo (.agg (Ge.cs m)) [] O .sct ø (fun hc=>H0 (args:=[I64 3]) O (Qy 3 m (Hc hc a6)) G98 ⟨O,O,ø⟩) O (JLo (E6 [(Box.mk 1 ByteArray.empty 40 false 0 0 2 0 false),(Box.mk 2 ByteArray.empty 40 false 0 1 3 0 false)]) [] O .sct ø (fun hc=>G4 O O) O ?_)
 obtain⟨j,a7,h⟩:=Gh h
 refine JLo (BL j) [96,97] O .sct ⟨Ua,Ua,ø⟩ (fun hc=>H0 (args:=[.agg (Ge.cs m),E6 [(Box.mk 1 ByteArray.empty 40 false 0 0 2 0 false),(Box.mk 2 ByteArray.empty 40 false 0 1 3 0 false)],I64 4]) O (Ga1 m [(Box.mk 1 ByteArray.empty 40 false 0 0 2 0 false),(Box.mk 2 ByteArray.empty 40 false 0 1 3 0 false)] 4 j (Hc hc a7)) Ha4 ⟨O,O,O,O,O,O,ø⟩) O (JLh (BL (((((((((decide (g=0))&&(decide (a.2.1=1)))&&(decide (c.2.1=0)))&&(decide ((a.1.States.length:Int)=4)))&&(decide ((c.1.States.length:Int)=4)))&&i)&&(decide ((e.1.length:Int)=6)))&&(decide (d.2.2=4)))&&j)) (Qs O O O O) O (JLm (BL (((((((((decide (g=0))&&(decide (a.2.1=1)))&&(decide (c.2.1=0)))&&(decide ((a.1.States.length:Int)=4)))&&(decide ((c.1.States.length:Int)=4)))&&i)&&(decide ((e.1.length:Int)=6)))&&(decide (d.2.2=4)))&&j)) O ?_))
 obtain⟨n,a8,h⟩:=Gh h
 refine JLo (.agg (Ge.cs n)) [] O .sct ø (fun hc=>H0 (args:=[I64 4]) O (Qy 4 n (Hc hc a8)) G98 ⟨O,O,ø⟩) O (JLo (E6 [(Box.mk 1 ByteArray.empty 40 false 0 0 2 0 false),(Box.mk 2 ByteArray.empty 40 false 0 1 3 0 false)]) [] O .sct ø (fun hc=>G4 O O) O ?_)
 obtain⟨k,a9,h⟩:=Gh h
 refine JLo (BL k) [101,102] O .sct ⟨Ua,Ua,ø⟩ (fun hc=>H0 (args:=[.agg (Ge.cs n),E6 [(Box.mk 1 ByteArray.empty 40 false 0 0 2 0 false),(Box.mk 2 ByteArray.empty 40 false 0 1 3 0 false)],I64 4]) O (Ga1 n [(Box.mk 1 ByteArray.empty 40 false 0 0 2 0 false),(Box.mk 2 ByteArray.empty 40 false 0 1 3 0 false)] 4 k (Hc hc a9)) Ha4 ⟨O,O,O,O,O,O,ø⟩) O (JLo (BL (!k)) [103] O .sct ⟨Ua,ø⟩ (fun hc=>G11 (b:=k) O O) O (JLh (BL ((((((((((decide (g=0))&&(decide (a.2.1=1)))&&(decide (c.2.1=0)))&&(decide ((a.1.States.length:Int)=4)))&&(decide ((c.1.States.length:Int)=4)))&&i)&&(decide ((e.1.length:Int)=6)))&&(decide (d.2.2=4)))&&j)&&(!k))) (Qs O O O O) O (JLm (BL ((((((((((decide (g=0))&&(decide (a.2.1=1)))&&(decide (c.2.1=0)))&&(decide ((a.1.States.length:Int)=4)))&&(decide ((c.1.States.length:Int)=4)))&&i)&&(decide ((e.1.length:Int)=6)))&&(decide (d.2.2=4)))&&j)&&(!k))) O (G6 (a1 ?_)))))
 refine Gy (fin1 BL h)

end
end Go.Proofs.YtibhpogonkdiaaaGreat
