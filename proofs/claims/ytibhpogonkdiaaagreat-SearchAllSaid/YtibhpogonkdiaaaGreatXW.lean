/- Walks of functions. -/
import Derived.Test.YtibhpogonkdiaaaGreatXV
set_option linter.unnecessarySimpa false
set_option maxRecDepth 100000
set_option maxHeartbeats 1000000
set_option linter.unusedVariables false
set_option linter.unusedSimpArgs false
namespace Go.Proofs.YtibhpogonkdiaaaGreat
open Go.RowKit
noncomputable section

namespace XWF
open XAF
open XCF
open XFF
open XSF
open XLF
open XVF
theorem Ra4 (a b:G1):H55 Em 4 65 [.int .i64 a.Box,.int .i64 a.Slot.G6,.int .i64 a.Slot.Tier,.int .u8 a.Slot.Half] [.int .i64 b.Box,.int .i64 b.Slot.G6,.int .i64 b.Slot.Tier,.int .u8 b.Slot.Half]=some (decide (a=b)):=by
 refine(show _=some ((a.Box==b.Box)&&(((a.Slot.G6==b.Slot.G6)&&((a.Slot.Tier==b.Slot.Tier)&&((a.Slot.Half==b.Slot.Half)&&true)))&&true)) by kernel_rfl).trans (congrArg some ?_)
 rw [Bool.eq_iff_iff]
 simp only [Mb,beq_iff_eq,Mc,Bool.and_true]
 constructor
 ·intro h; obtain⟨_,⟨_,_,_⟩⟩:=a; obtain⟨_,⟨_,_,_⟩⟩:=b; simp_all
 ·intro h; subst h; simp
theorem J06:G02 Em 65=true:=by kernel_rfl
theorem Q9f:H8 Em 10=true:=by kernel_rfl
theorem Q9e:H8 Em 16=true:=by kernel_rfl
theorem G83:H8 Em 33=true:=by kernel_rfl
theorem Q97:H8 Em 34=true:=by kernel_rfl
theorem Qfb:H8 Em 7=true:=by kernel_rfl
theorem Jb3:H8 Em 8=true:=by kernel_rfl
theorem Hde:H8 Em 9=true:=by kernel_rfl
theorem Jb1:Em.eqGuardType Em.depth 65=false:=by kernel_rfl
end XWF
open XAF
open XCF
open XFF
open XSF
open XLF
open XVF
open XWF

def Jc (columns:Int):Option Gf:=
 need (decide (columns≤9223372036854775807)) <|
 upto (fun b (a:(List G6)×(List Gx)×Int×Int×Int×Int×(List Row)×(List Frame)×(List Ja)×Int×Int×Int×Int) c=>
  need (decide ((a.1.length+[(G6.mk 0 (b:Int) false 2 0 0 0 0 [] 0 0 0)].length)*112≤140737488355328∧a.1.length+[(G6.mk 0 (b:Int) false 2 0 0 0 0 [] 0 0 0)].length≤maxLen)) <|
  c ((a.1++[(G6.mk 0 (b:Int) false 2 0 0 0 0 [] 0 0 0)]),a.2.1,a.2.2.1,a.2.2.2.1,a.2.2.2.2.1,a.2.2.2.2.2.1,a.2.2.2.2.2.2.1,a.2.2.2.2.2.2.2.1,a.2.2.2.2.2.2.2.2.1,a.2.2.2.2.2.2.2.2.2.1,a.2.2.2.2.2.2.2.2.2.2.1,a.2.2.2.2.2.2.2.2.2.2.2.1,a.2.2.2.2.2.2.2.2.2.2.2.2))
 (fun(a:(List G6)×(List Gx)×Int×Int×Int×Int×(List Row)×(List Frame)×(List Ja)×Int×Int×Int×Int)=>
  some (Gf.mk a.1 a.2.1 (Light.mk a.2.2.1 a.2.2.2.1 a.2.2.2.2.1 a.2.2.2.2.2.1) a.2.2.2.2.2.2.1 a.2.2.2.2.2.2.2.1 a.2.2.2.2.2.2.2.2.1 (Gm.mk a.2.2.2.2.2.2.2.2.2.1 a.2.2.2.2.2.2.2.2.2.2.1 a.2.2.2.2.2.2.2.2.2.2.2.1 a.2.2.2.2.2.2.2.2.2.2.2.2))) columns.toNat 0 ([],[],0,0,0,0,[],[],[],0,0,0,0)
abbrev Kh (a:(List G6)×(List Gx)×Int×Int×Int×Int×(List Row)×(List Frame)×(List Ja)×Int×Int×Int×Int):List AV:=[OW 1082 12 G6.av a.1,Eb a.2.1,I64 a.2.2.1,I64 a.2.2.2.1,I64 a.2.2.2.2.1,I64 a.2.2.2.2.2.1,E8 a.2.2.2.2.2.2.1,E9 a.2.2.2.2.2.2.2.1,Ea a.2.2.2.2.2.2.2.2.1,I64 a.2.2.2.2.2.2.2.2.2.1,I64 a.2.2.2.2.2.2.2.2.2.2.1,I64 a.2.2.2.2.2.2.2.2.2.2.2.1,I64 a.2.2.2.2.2.2.2.2.2.2.2.2]
abbrev Ki:List AV:=[E7 ([]:List G6),Eb ([]:List Gx),I64 0,I64 0,I64 0,I64 0,E8 ([]:List Row),E9 ([]:List Frame),Ea ([]:List Ja),I64 0,I64 0,I64 0,I64 0]
theorem Qp (columns:Int) (r:Gf) (h:Jc columns=some r):Pure Em 33 [I64 columns] (·=.agg (Gf.cs r)):=by
 unfold Jc at h
 refine H5 [.cell 2 34] Tryz.func33 O O (Jr fun s=>(JLh (.ptr 1080 0) (Ru 1080 Ki [.slice none 0 0,.slice none 0 0,E0,E0,E0,E0,.slice none 0 0,.slice none 0 0,.slice none 0 0,E0,E0,E0,E0] Gc6 ⟨.inr ⟨_,O,O⟩,.inr ⟨_,O,O⟩,.inl O,.inl O,.inl O,.inl O,.inr ⟨_,O,O⟩,.inr ⟨_,O,O⟩,.inr ⟨_,O,O⟩,.inl O,.inl O,.inl O,.inl O,ø⟩ O O) O (G4 (s ?_))))
 refine Jr fun t=>(JLh (.ptr 1081 0) (Ru 1081 [.sc (.slice none 0 0),Eb ([]:List Gx),I64 0,I64 0,I64 0,I64 0,E8 ([]:List Row),E9 ([]:List Frame),Ea ([]:List Ja),I64 0,I64 0,I64 0,I64 0] [.slice none 0 0,.slice none 0 0,E0,E0,E0,E0,.slice none 0 0,.slice none 0 0,.slice none 0 0,E0,E0,E0,E0] Gc6 ⟨.inl O,.inr ⟨_,O,O⟩,.inl O,.inl O,.inl O,.inl O,.inr ⟨_,O,O⟩,.inr ⟨_,O,O⟩,.inr ⟨_,O,O⟩,.inl O,.inl O,.inl O,.inl O,ø⟩ O O) O ?_)
 refine G8d 1081 0 1082 41 12 O O O (cs':=[OW 1082 12 G6.av ([]:List G6),Eb ([]:List Gx),I64 0,I64 0,I64 0,I64 0,E8 ([]:List Row),E9 ([]:List Frame),Ea ([]:List Ja),I64 0,I64 0,I64 0,I64 0]) O (G4 (t (Js fun v=>Jr fun w=>(JLm (I64 columns) O (JLm (I64 0) O (G4 (w (Gi ?_))))))))
 obtain⟨g,h⟩:=Hw h
 obtain⟨x,i,j,e,h⟩:=G90 h
 refine Hf (fun b (a:(List G6)×(List Gx)×Int×Int×Int×Int×(List Row)×(List Frame)×(List Ja)×Int×Int×Int×Int)=>upto x i (columns.toNat - b) b a=some r) (fun b a=>[(2,.ptr 1080 0),(3,.ptr 1081 0),(5,I64 columns),(6,Ek b)]) (fun b a=>[(1082,.spare 41 12 a.1.length a.1.length),(1080,.box 34 Ki),(1081,.box 34 (Kh a))]) (fun b=>columns.toNat - b) 0 ([],[],0,0,0,0,[],[],[],0,0,0,0) h ⟨(.sm O O),⟨⟨_,rfl,.same⟩,fbQ O (.sm O O),fbQ O (.sm O O),ø⟩,rfl⟩ ?_
 clear h
 intro b a c a0 y
 refine Jr fun k=>(JLh (BL (decide ((b:Int) < columns))) (J8 O O O) O (G4 (k (Js fun l=>Gj O (fun hb=>?_) (fun hb=>?_)))))
 ·
  have d:=G46 hb
  obtain⟨z,m,h⟩:=G41 c d
  replace h:=Hef j h
  refine Gn (l (Js fun n=>Gi (Jr fun o=>(JLm (Ek b) O (JLm (Ek b) O (G4 (o (G2 ?_))))))))
  refine JLh (.ptr 1081 0) (J5 Ho O O) O (JLh (OW 1082 12 G6.av a.1) (Jg J2 O O O O) O (JLm (Ek b) O (JLh (.agg [I64 0,Ek b,BL false,I64 2,I64 0,I64 0,I64 0,I64 0,E5 ([]:List Int),I64 0,I64 0,I64 0]) (J9 (cs:=[I64 0,Ek b,BL false,I64 2,I64 0,I64 0,I64 0,I64 0,E5 ([]:List Int),I64 0,I64 0,I64 0]) [(0,1),(1,1),(2,1),(3,1),(4,1),(5,1),(6,1),(7,1),(8,1),(9,1),(10,1),(11,1)] [I64 0,I64 0,BL false,I64 0,I64 0,I64 0,I64 0,I64 0,E5 ([]:List Int),I64 0,I64 0,I64 0] [E0,E0,.bool false,E0,E0,E0,E0,E0,.slice none 0 0,E0,E0,E0] H1e H8c ⟨.inl O,.inl O,.inl O,.inl O,.inl O,.inl O,.inl O,.inl O,.inr ⟨_,O,O⟩,.inl O,.inl O,.inl O,ø⟩ O O) O (JLh (E7 ([(G6.mk 0 (b:Int) false 2 0 0 0 0 [] 0 0 0)])) (He (xs:=[.agg [I64 0,Ek b,BL false,I64 2,I64 0,I64 0,I64 0,I64 0,E5 ([]:List Int),I64 0,I64 0,I64 0]]) O ⟨O,O,ø⟩ Hr Zd O O O O) O ?_))))
  obtain⟨p,h⟩:=Hw h
  refine JLh (OW 1082 12 G6.av (a.1++[(G6.mk 0 (b:Int) false 2 0 0 0 0 [] 0 0 0)])) (Qt (f:=G6.av) (xs:=a.1) (ys:=[(G6.mk 0 (b:Int) false 2 0 0 0 0 [] 0 0 0)]) O O O O Hr J45 p (fun _=>O) (.inl O) O) O (JLh (.ptr 1081 0) (J5 Ho O O) O (Hd (u:=.junk) (Gy (u:=OW 1082 12 G6.av (a.1++[(G6.mk 0 (b:Int) false 2 0 0 0 0 [] 0 0 0)])) (ds:=[OW 1082 12 G6.av (a.1++[(G6.mk 0 (b:Int) false 2 0 0 0 0 [] 0 0 0)]),Eb a.2.1,I64 a.2.2.1,I64 a.2.2.2.1,I64 a.2.2.2.2.1,I64 a.2.2.2.2.2.1,E8 a.2.2.2.2.2.2.1,E9 a.2.2.2.2.2.2.2.1,Ea a.2.2.2.2.2.2.2.2.1,I64 a.2.2.2.2.2.2.2.2.2.1,I64 a.2.2.2.2.2.2.2.2.2.2.1,I64 a.2.2.2.2.2.2.2.2.2.2.2.1,I64 a.2.2.2.2.2.2.2.2.2.2.2.2]) H8d O O O O O O O O) (G4 (n ?_))))
  refine G2 (JLh (I64 ((b+1:Nat):Int)) (Ht (H7 d (Z8 g)) O O O) O (JLm (I64 ((b+1:Nat):Int)) O (G4 (y _ _ (b+1) ((a.1++[(G6.mk 0 (b:Int) false 2 0 0 0 0 [] 0 0 0)]),a.2.1,a.2.2.1,a.2.2.2.1,a.2.2.2.2.1,a.2.2.2.2.2.1,a.2.2.2.2.2.2.1,a.2.2.2.2.2.2.2.1,a.2.2.2.2.2.2.2.2.1,a.2.2.2.2.2.2.2.2.2.1,a.2.2.2.2.2.2.2.2.2.2.1,a.2.2.2.2.2.2.2.2.2.2.2.1,a.2.2.2.2.2.2.2.2.2.2.2.2) (app1 m h) (by omega) ⟨(.sm O O),⟨⟨_,rfl,.same⟩,fbQ O (.sm O O),fbQ O (.sm O O),ø⟩,rfl⟩))))
 ·
  have h:=app1 e (G42 c (Y8 hb))
  refine Hj (v ?_)
  refine Jr fun q=>(JLh (.agg (Kh a)) (G01 J6 O O O O) O (Hd (u:=.junk) (Gy (u:=.agg (Kh a)) (ds:=(Kh a)) Gc7 O O O O O O O O) (G4 (q ?_))))
  refine Gw (⟨[.agg [E7 a.1,Eb a.2.1,I64 a.2.2.1,I64 a.2.2.2.1,I64 a.2.2.2.2.1,I64 a.2.2.2.2.2.1,E8 a.2.2.2.2.2.2.1,E9 a.2.2.2.2.2.2.2.1,Ea a.2.2.2.2.2.2.2.2.1,I64 a.2.2.2.2.2.2.2.2.2.1,I64 a.2.2.2.2.2.2.2.2.2.2.1,I64 a.2.2.2.2.2.2.2.2.2.2.2.1,I64 a.2.2.2.2.2.2.2.2.2.2.2.2]],[],ø,O,⟨⟨_,⟨_,_,_,_,O,O,O,.inl ⟨J6,O⟩⟩,.agg ⟨.list O,.same O,.same O,.same O,.same O,.same O,.same O,.same O,.same O,.same O,.same O,.same O,.same O,ø⟩⟩,ø⟩,O,congrArg (fun r:Gf=>(.agg (Gf.cs r):AV)) (Kz h)⟩)

def Z3 (a:List G1) (b:List G1):Option Bool:=
 bif decide ((a.length:Int)≠(b.length:Int)) then
 (some false)
 else
 (each (fun d e (f:Unit) c=>
   Ju b (e:Int) fun g=>
   bif (!decide (d=g)) then
   (some false)
   else
   (c ()))
  (fun(f:Unit)=>
   some true) a 0 ())
theorem Gae (a:List G1) (b:List G1) (r:Bool) (h:Z3 a b=some r):Pure Em 34 [E4 a,E4 b] (·=BL r):=by
 unfold Z3 at h
 refine H5 [.tmp 4] Tryz.func34 O O (Jr fun a0=>(JLm (BL false) O (G4 (a0 (Js fun a1=>Jr fun a2=>(JLm (E4 a) O (JLl H3 O O O fun a9=>(JLm (E4 b) O (JLl H3 O O O fun b0=>(JLh (BL (decide ((a.length:Int)≠(b.length:Int)))) (H15 O O O) O (G4 (a2 (JCc O h (fun h hb=>?_) (fun h hb=>?_))))))))))))))
 ·
  refine Jr fun a3=>(JLm (BL false) O (G4 (a3 (Gw (fin1 BL h)))))
 ·
  refine Gn (a1 (Js fun a4=>Jr fun a5=>(JLm (I64 0) O (G4 (a5 (Gi ?_))))))
  obtain⟨a6,l,m,k,h⟩:=Hu h
  refine Hf (fun c (g:Unit)=>each a6 l (List.drop c a) c g=some r) (fun c g=>[(0,E4 a),(1,E4 b),(5,Ek c)]) (fun c g=>[]) (fun c=>a.length - c) 0 () h ⟨(.sm O O),ø,O⟩ ?_
  clear h
  intro c g i b1 a7
  refine Js fun n=>Jr fun o=>(JLm (Ek c) O (JLm (E4 a) O (JLl H3 O O O fun p=>(JLh (BL (decide ((c:Int) < (a.length:Int)))) (J8 O O O) O (G4 (o (Gj O (fun hb=>?_) (fun hb=>?_))))))))
  ·
   have j:=Jh hb
   obtain⟨d,a8,q,s,h⟩:=Hk i j
   replace h:=Rh m h
   refine Gn (n (Js fun t=>Gi (Js fun u=>?_)))
   obtain⟨b2,e,v,w,h⟩:=Qc h
   refine JC_d0 Q7 (by kernel_rfl) (Dq (E4 a) (G5 O O) O (Dq (Ek c) (G5 O O) O (Dq (Eg d) (H0 (f:=G1.av) (xs:=a) (y:=d) O O O H3 q O) O (Dq (.agg (G1.cs d)) (Gk Qb O O O) O (Dq (E4 b) (G5 O O) O (Dq (Ek c) (G5 O O) O (Dq (Eg e) (H0 (f:=G1.av) (xs:=b) (y:=e) O O O H3 w v) O (Dq (.agg (G1.cs e)) (Gk Qb O O O) O (Dq (BL (!decide (d=e))) (Qf0 (vs:=[.int .i64 d.Box,.int .i64 d.Slot.G6,.int .i64 d.Slot.Tier,.int .u8 d.Slot.Half]) (us:=[.int .i64 e.Box,.int .i64 e.Slot.G6,.int .i64 e.Slot.Tier,.int .u8 e.Slot.Half]) 4 O (Ra4 d e) J06 Jb1 O O O) O (Dnil (u (JCc O h (fun h hb=>?_) (fun h hb=>?_)))))))))))))
   ·
    refine Jr fun x=>(JLm (BL false) O (G4 (x (Gw (fin1 BL h)))))
   ·
    refine Gn (t (G2 (JLm (Ek c) O (JLh (I64 ((c+1:Nat):Int)) (Ht (H7 j p) O O O) O (JLm (I64 ((c+1:Nat):Int)) O (G4 (a7 _ _ (c+1) () (app1 s h) (by omega) ⟨(.sm O O),ø,rfl⟩)))))))
  ·
   have h:=app1 k (Hm i (H6 hb))
   refine Hj (a4 (Jr fun z=>(JLm (BL true) O (G4 (z (Gw (fin1 BL h)))))))

def Ro (F:Nat) :Option Bool:=
 bnd (Jc 1) fun o=>
 bnd (Qf F o [(Box.mk 1 ByteArray.empty 40 false 0 0 2 0 false),(Box.mk 2 ByteArray.empty 40 false 0 1 3 0 false)] 4) fun b=>
 bnd (Jc 2) fun p=>
 bnd (Qf F p [(Box.mk 1 ByteArray.empty 40 false 0 0 2 0 false),(Box.mk 2 ByteArray.empty 40 false 0 1 3 0 false)] 4) fun a=>
 bnd (Jc 2) fun h=>
 bnd (Yi F h [(Box.mk 1 ByteArray.empty 40 false 0 0 2 0 false),(Box.mk 2 ByteArray.empty 40 false 0 1 3 0 false)] [1,2]) fun d=>
 bnd (Jc 1) fun i=>
 bnd (Qf F i [(Box.mk 1 ByteArray.empty 40 false 0 0 1 0 false),(Box.mk 2 ByteArray.empty 40 false 0 0 1 0 false),(Box.mk 3 ByteArray.empty 40 false 0 0 1 0 false)] 2) fun e=>
 chk (b.2.2+a.2.2) fun j=>
 chk (j+d.2) fun c=>
 bnd (bif (((((decide (c=0))&&(decide (b.2.1=1)))&&(decide (a.2.1=0)))&&(decide ((b.1.States.length:Int)=4)))&&(decide ((a.1.States.length:Int)=4))) then Ju a.1.States 1 some else some default) fun k=>
 bnd (bif (((((decide (c=0))&&(decide (b.2.1=1)))&&(decide (a.2.1=0)))&&(decide ((b.1.States.length:Int)=4)))&&(decide ((a.1.States.length:Int)=4))) then Z3 k [(G1.mk 1 (Slot.mk 0 0 0)),(G1.mk 2 (Slot.mk 1 0 0))] else some default) fun f=>
 bnd (bif ((((((((decide (c=0))&&(decide (b.2.1=1)))&&(decide (a.2.1=0)))&&(decide ((b.1.States.length:Int)=4)))&&(decide ((a.1.States.length:Int)=4)))&&f)&&(decide ((d.1.length:Int)=6)))&&(decide (e.2.2=4))) then Jc 3 else some default) fun l=>
 bnd (bif ((((((((decide (c=0))&&(decide (b.2.1=1)))&&(decide (a.2.1=0)))&&(decide ((b.1.States.length:Int)=4)))&&(decide ((a.1.States.length:Int)=4)))&&f)&&(decide ((d.1.length:Int)=6)))&&(decide (e.2.2=4))) then G0b l [(Box.mk 1 ByteArray.empty 40 false 0 0 2 0 false),(Box.mk 2 ByteArray.empty 40 false 0 1 3 0 false)] 4 else some default) fun g=>
 bnd (bif (((((((((decide (c=0))&&(decide (b.2.1=1)))&&(decide (a.2.1=0)))&&(decide ((b.1.States.length:Int)=4)))&&(decide ((a.1.States.length:Int)=4)))&&f)&&(decide ((d.1.length:Int)=6)))&&(decide (e.2.2=4)))&&g) then Jc 4 else some default) fun m=>
 bnd (bif (((((((((decide (c=0))&&(decide (b.2.1=1)))&&(decide (a.2.1=0)))&&(decide ((b.1.States.length:Int)=4)))&&(decide ((a.1.States.length:Int)=4)))&&f)&&(decide ((d.1.length:Int)=6)))&&(decide (e.2.2=4)))&&g) then G0b m [(Box.mk 1 ByteArray.empty 40 false 0 0 2 0 false),(Box.mk 2 ByteArray.empty 40 false 0 1 3 0 false)] 4 else some default) fun n=>
 some ((((((((((decide (c=0))&&(decide (b.2.1=1)))&&(decide (a.2.1=0)))&&(decide ((b.1.States.length:Int)=4)))&&(decide ((a.1.States.length:Int)=4)))&&f)&&(decide ((d.1.length:Int)=6)))&&(decide (e.2.2=4)))&&g)&&(!n))
theorem Gfd (F:Nat)  (r:Bool) (h:Ro F =some r):Pure Em 10 [] (·=BL r):=by
 unfold Ro at h
 refine H5 [.tmp 0] Tryz.func10 O O (Jr fun b0=>(JLm (BL false) O (G4 (b0 ?_))))
 refine Jr fun b1=>(JLh (.agg [I64 1,ST Ks,U8 40,BL false,I64 0,I64 0,I64 2,U8 0,BL false]) (J9 (cs:=[I64 1,ST Ks,U8 40,BL false,I64 0,I64 0,I64 2,U8 0,BL false]) [(0,1),(1,1),(2,1),(3,1),(4,1),(5,1),(6,1),(7,1),(8,1)] [I64 0,ST Ks,U8 0,BL false,I64 0,I64 0,I64 0,U8 0,BL false] [E0,.string ByteArray.empty,.int .u8 0,.bool false,E0,E0,E0,.int .u8 0,.bool false] Yr Zv (zzQ O) O O) O (JLh (.agg [I64 2,ST Ks,U8 40,BL false,I64 0,I64 1,I64 3,U8 0,BL false]) (J9 (cs:=[I64 2,ST Ks,U8 40,BL false,I64 0,I64 1,I64 3,U8 0,BL false]) [(0,1),(1,1),(2,1),(3,1),(4,1),(5,1),(6,1),(7,1),(8,1)] [I64 0,ST Ks,U8 0,BL false,I64 0,I64 0,I64 0,U8 0,BL false] [E0,.string ByteArray.empty,.int .u8 0,.bool false,E0,E0,E0,.int .u8 0,.bool false] Yr Zv (zzQ O) O O) O (JLh (E6 [(Box.mk 1 ByteArray.empty 40 false 0 0 2 0 false),(Box.mk 2 ByteArray.empty 40 false 0 1 3 0 false)]) (He (xs:=[.agg [I64 1,ST Ks,U8 40,BL false,I64 0,I64 0,I64 2,U8 0,BL false],.agg [I64 2,ST Ks,U8 40,BL false,I64 0,I64 1,I64 3,U8 0,BL false]]) O ⟨O,O,O,O,ø⟩ Jd Qq O O O O) O (JLm (E6 [(Box.mk 1 ByteArray.empty 40 false 0 0 2 0 false),(Box.mk 2 ByteArray.empty 40 false 0 1 3 0 false)]) O (G4 (b1 ?_))))))
 refine Jr fun b2=>?_
 obtain⟨q,b3,h⟩:=Gg h
 refine JLh (.agg (Gf.cs q)) (H2 O (Qp 1 q b3) G83 ⟨O,O,ø⟩) O (JLm (E6 [(Box.mk 1 ByteArray.empty 40 false 0 0 2 0 false),(Box.mk 2 ByteArray.empty 40 false 0 1 3 0 false)]) O ?_)
 obtain⟨a,b4,h⟩:=Gg h
 refine JLh (.tup [.agg [LS 1 (E4) a.1.States,LS 1 (E5) a.1.Water],I64 a.2.1,I64 a.2.2]) (H2 O (G8c F q [(Box.mk 1 ByteArray.empty 40 false 0 0 2 0 false),(Box.mk 2 ByteArray.empty 40 false 0 1 3 0 false)] 4 a b4) Hde ⟨O,O,O,O,O,O,ø⟩) O (JLm (.tup [.agg [LS 1 (E4) a.1.States,LS 1 (E5) a.1.Water],I64 a.2.1,I64 a.2.2]) O (JLh (.agg [LS 1 (E4) a.1.States,LS 1 (E5) a.1.Water]) (Hp O O O) O (JLh (I64 a.2.1) (Hp O O O) O (JLh (I64 a.2.2) (Hp O O O) O (JLh (.ptr 1021 0) (Hg 1021 2 Ge4 O O) O (Hd (u:=.junk) (Gy (u:=.agg [LS 1 (E4) a.1.States,LS 1 (E5) a.1.Water]) (ds:=[LS 1 (E4) a.1.States,LS 1 (E5) a.1.Water]) Yz O O O O O O O O) (JLm (I64 a.2.1) O (JLm (I64 a.2.2) O (G4 (b2 ?_))))))))))
 refine fzQ [(1,E6 [(Box.mk 1 ByteArray.empty 40 false 0 0 2 0 false),(Box.mk 2 ByteArray.empty 40 false 0 1 3 0 false)]),(2,.dptr [LS 1 (E4) a.1.States,LS 1 (E5) a.1.Water]),(3,I64 a.2.1),(4,I64 a.2.2)] [] 1021 rfl rfl rfl ø rfl (Jr fun b5=>?_)
 obtain⟨s,b6,h⟩:=Gg h
 refine JLh (.agg (Gf.cs s)) (H2 O (Qp 2 s b6) G83 ⟨O,O,ø⟩) O (JLm (E6 [(Box.mk 1 ByteArray.empty 40 false 0 0 2 0 false),(Box.mk 2 ByteArray.empty 40 false 0 1 3 0 false)]) O ?_)
 obtain⟨c,b7,h⟩:=Gg h
 refine JLh (.tup [.agg [LS 1 (E4) c.1.States,LS 1 (E5) c.1.Water],I64 c.2.1,I64 c.2.2]) (H2 O (G8c F s [(Box.mk 1 ByteArray.empty 40 false 0 0 2 0 false),(Box.mk 2 ByteArray.empty 40 false 0 1 3 0 false)] 4 c b7) Hde ⟨O,O,O,O,O,O,ø⟩) O (JLm (.tup [.agg [LS 1 (E4) c.1.States,LS 1 (E5) c.1.Water],I64 c.2.1,I64 c.2.2]) O (JLh (.agg [LS 1 (E4) c.1.States,LS 1 (E5) c.1.Water]) (Hp O O O) O (JLh (I64 c.2.1) (Hp O O O) O (JLh (I64 c.2.2) (Hp O O O) O (JLh (.ptr 1022 0) (Hg 1022 2 Ge4 O O) O (Hd (u:=.junk) (Gy (u:=.agg [LS 1 (E4) c.1.States,LS 1 (E5) c.1.Water]) (ds:=[LS 1 (E4) c.1.States,LS 1 (E5) c.1.Water]) Yz O O O O O O O O) (JLm (I64 c.2.1) O (JLm (I64 c.2.2) O (G4 (b5 ?_))))))))))
 refine fzQ [(1,E6 [(Box.mk 1 ByteArray.empty 40 false 0 0 2 0 false),(Box.mk 2 ByteArray.empty 40 false 0 1 3 0 false)]),(2,.dptr [LS 1 (E4) a.1.States,LS 1 (E5) a.1.Water]),(3,I64 a.2.1),(4,I64 a.2.2),(5,.dptr [LS 1 (E4) c.1.States,LS 1 (E5) c.1.Water]),(6,I64 c.2.1),(7,I64 c.2.2)] [] 1022 rfl rfl rfl ø rfl (Jr fun b8=>?_)
 obtain⟨o,t,h⟩:=Gg h
 refine JLh (.agg (Gf.cs o)) (H2 O (Qp 2 o t) G83 ⟨O,O,ø⟩) O (JLm (E6 [(Box.mk 1 ByteArray.empty 40 false 0 0 2 0 false),(Box.mk 2 ByteArray.empty 40 false 0 1 3 0 false)]) O (JLh (E5 [1,2]) (He (xs:=[I64 1,I64 2]) O ⟨O,O,O,O,ø⟩ Gv Rm O O O O) O ?_))
 obtain⟨e,v,h⟩:=Gg h
 refine JLh (.tup [LS 1 (E4) e.1,I64 e.2]) (H2 O (Gf2 F o [(Box.mk 1 ByteArray.empty 40 false 0 0 2 0 false),(Box.mk 2 ByteArray.empty 40 false 0 1 3 0 false)] [1,2] e v) Jb3 ⟨O,O,O,O,O,O,ø⟩) O (JLm (.tup [LS 1 (E4) e.1,I64 e.2]) O (JLh (LS 1 (E4) e.1) (Hp O O O) O (JLh (I64 e.2) (Hp O O O) O (JLm (LS 1 (E4) e.1) O (JLm (I64 e.2) O (G4 (b8 ?_)))))))
 refine Jr fun w=>(JLh (.agg [I64 1,ST Ks,U8 40,BL false,I64 0,I64 0,I64 1,U8 0,BL false]) (J9 (cs:=[I64 1,ST Ks,U8 40,BL false,I64 0,I64 0,I64 1,U8 0,BL false]) [(0,1),(1,1),(2,1),(3,1),(4,1),(5,1),(6,1),(7,1),(8,1)] [I64 0,ST Ks,U8 0,BL false,I64 0,I64 0,I64 0,U8 0,BL false] [E0,.string ByteArray.empty,.int .u8 0,.bool false,E0,E0,E0,.int .u8 0,.bool false] Yr Zv (zzQ O) O O) O (JLh (.agg [I64 2,ST Ks,U8 40,BL false,I64 0,I64 0,I64 1,U8 0,BL false]) (J9 (cs:=[I64 2,ST Ks,U8 40,BL false,I64 0,I64 0,I64 1,U8 0,BL false]) [(0,1),(1,1),(2,1),(3,1),(4,1),(5,1),(6,1),(7,1),(8,1)] [I64 0,ST Ks,U8 0,BL false,I64 0,I64 0,I64 0,U8 0,BL false] [E0,.string ByteArray.empty,.int .u8 0,.bool false,E0,E0,E0,.int .u8 0,.bool false] Yr Zv (zzQ O) O O) O (JLh (.agg [I64 3,ST Ks,U8 40,BL false,I64 0,I64 0,I64 1,U8 0,BL false]) (J9 (cs:=[I64 3,ST Ks,U8 40,BL false,I64 0,I64 0,I64 1,U8 0,BL false]) [(0,1),(1,1),(2,1),(3,1),(4,1),(5,1),(6,1),(7,1),(8,1)] [I64 0,ST Ks,U8 0,BL false,I64 0,I64 0,I64 0,U8 0,BL false] [E0,.string ByteArray.empty,.int .u8 0,.bool false,E0,E0,E0,.int .u8 0,.bool false] Yr Zv (zzQ O) O O) O (JLh (E6 [(Box.mk 1 ByteArray.empty 40 false 0 0 1 0 false),(Box.mk 2 ByteArray.empty 40 false 0 0 1 0 false),(Box.mk 3 ByteArray.empty 40 false 0 0 1 0 false)]) (He (xs:=[.agg [I64 1,ST Ks,U8 40,BL false,I64 0,I64 0,I64 1,U8 0,BL false],.agg [I64 2,ST Ks,U8 40,BL false,I64 0,I64 0,I64 1,U8 0,BL false],.agg [I64 3,ST Ks,U8 40,BL false,I64 0,I64 0,I64 1,U8 0,BL false]]) O ⟨O,O,O,O,O,O,ø⟩ Jd Qq O O O O) O (JLm (E6 [(Box.mk 1 ByteArray.empty 40 false 0 0 1 0 false),(Box.mk 2 ByteArray.empty 40 false 0 0 1 0 false),(Box.mk 3 ByteArray.empty 40 false 0 0 1 0 false)]) O (G4 (w ?_)))))))
 refine Jr fun x=>?_
 obtain⟨p,z,h⟩:=Gg h
 refine JLh (.agg (Gf.cs p)) (H2 O (Qp 1 p z) G83 ⟨O,O,ø⟩) O (JLm (E6 [(Box.mk 1 ByteArray.empty 40 false 0 0 1 0 false),(Box.mk 2 ByteArray.empty 40 false 0 0 1 0 false),(Box.mk 3 ByteArray.empty 40 false 0 0 1 0 false)]) O ?_)
 obtain⟨d,a0,h⟩:=Gg h
 refine JLh (.tup [.agg [LS 1 (E4) d.1.States,LS 1 (E5) d.1.Water],I64 d.2.1,I64 d.2.2]) (H2 O (G8c F p [(Box.mk 1 ByteArray.empty 40 false 0 0 1 0 false),(Box.mk 2 ByteArray.empty 40 false 0 0 1 0 false),(Box.mk 3 ByteArray.empty 40 false 0 0 1 0 false)] 2 d a0) Hde ⟨O,O,O,O,O,O,ø⟩) O (JLm (.tup [.agg [LS 1 (E4) d.1.States,LS 1 (E5) d.1.Water],I64 d.2.1,I64 d.2.2]) O (JLh (.agg [LS 1 (E4) d.1.States,LS 1 (E5) d.1.Water]) (Hp O O O) O (JLh (I64 d.2.1) (Hp O O O) O (JLh (I64 d.2.2) (Hp O O O) O (JLh (.ptr 1023 0) (Hg 1023 2 Ge4 O O) O (Hd (u:=.junk) (Gy (u:=.agg [LS 1 (E4) d.1.States,LS 1 (E5) d.1.Water]) (ds:=[LS 1 (E4) d.1.States,LS 1 (E5) d.1.Water]) Yz O O O O O O O O) (JLm (I64 d.2.1) O (JLm (I64 d.2.2) O (G4 (x ?_))))))))))
 refine fzQ [(1,E6 [(Box.mk 1 ByteArray.empty 40 false 0 0 2 0 false),(Box.mk 2 ByteArray.empty 40 false 0 1 3 0 false)]),(2,.dptr [LS 1 (E4) a.1.States,LS 1 (E5) a.1.Water]),(3,I64 a.2.1),(4,I64 a.2.2),(5,.dptr [LS 1 (E4) c.1.States,LS 1 (E5) c.1.Water]),(6,I64 c.2.1),(7,I64 c.2.2),(8,LS 1 (E4) e.1),(9,I64 e.2),(13,I64 d.2.2)] [] 1023 rfl rfl rfl ø rfl (Jr fun a1=>(JLm (I64 a.2.2) O (JLm (I64 c.2.2) O ?_)))
 obtain⟨b9,a2,h⟩:=Hx h
 refine JLh (I64 b9) (Ht a2 O O O) O (JLm (I64 e.2) O ?_)
 obtain⟨g,a3,h⟩:=Hx h
 refine JLh (I64 g) (Ht a3 O O O) O (JLh (BL (decide (g=0))) (Qn O O O) O (JLm (BL (decide (g=0))) O (JLo (I64 a.2.1) [] O .sct ø (fun hc=>G5 O O) O (JLo (BL (decide (a.2.1=1))) [56] O .sct ⟨Ua,ø⟩ (fun hc=>Qn O O O) O (JLh (BL ((decide (g=0))&&(decide (a.2.1=1)))) (Rg O O O O) O (JLm (BL ((decide (g=0))&&(decide (a.2.1=1)))) O (JLo (I64 c.2.1) [] O .sct ø (fun hc=>G5 O O) O (JLo (BL (decide (c.2.1=0))) [60] O .sct ⟨Ua,ø⟩ (fun hc=>Qn O O O) O (JLh (BL (((decide (g=0))&&(decide (a.2.1=1)))&&(decide (c.2.1=0)))) (Rg O O O O) O (JLm (BL (((decide (g=0))&&(decide (a.2.1=1)))&&(decide (c.2.1=0)))) O (JLo (.dptr [LS 1 (E4) a.1.States,LS 1 (E5) a.1.Water]) [] O .sct ø (fun hc=>Gb Yt O O O) O (JLo (LS 1 (E4) a.1.States) [64] O .sct ⟨Ua,ø⟩ (fun hc=>Ge Jv O O O) O (JLo (Ek a.1.States.length) [65] O .sct ⟨Ua,ø⟩ (fun hc=>G24 (f:=(E4)) (xs:=a.1.States) Hv O O) O ?_)))))))))))))
 refine JLo (BL (decide ((a.1.States.length:Int)=4))) [66] O .sct ⟨Ua,ø⟩ (fun hc=>Qn O O O) O (JLh (BL ((((decide (g=0))&&(decide (a.2.1=1)))&&(decide (c.2.1=0)))&&(decide ((a.1.States.length:Int)=4)))) (Rg O O O O) O (JLm (BL ((((decide (g=0))&&(decide (a.2.1=1)))&&(decide (c.2.1=0)))&&(decide ((a.1.States.length:Int)=4)))) O (JLo (.dptr [LS 1 (E4) c.1.States,LS 1 (E5) c.1.Water]) [] O .sct ø (fun hc=>Gb Yt O O O) O (JLo (LS 1 (E4) c.1.States) [70] O .sct ⟨Ua,ø⟩ (fun hc=>Ge Jv O O O) O (JLo (Ek c.1.States.length) [71] O .sct ⟨Ua,ø⟩ (fun hc=>G24 (f:=(E4)) (xs:=c.1.States) Hv O O) O (JLo (BL (decide ((c.1.States.length:Int)=4))) [72] O .sct ⟨Ua,ø⟩ (fun hc=>Qn O O O) O (JLh (BL (((((decide (g=0))&&(decide (a.2.1=1)))&&(decide (c.2.1=0)))&&(decide ((a.1.States.length:Int)=4)))&&(decide ((c.1.States.length:Int)=4)))) (Rg O O O O) O (JLm (BL (((((decide (g=0))&&(decide (a.2.1=1)))&&(decide (c.2.1=0)))&&(decide ((a.1.States.length:Int)=4)))&&(decide ((c.1.States.length:Int)=4)))) O (JLo (.dptr [LS 1 (E4) c.1.States,LS 1 (E5) c.1.Water]) [] O .sct ø (fun hc=>Gb Yt O O O) O (JLo (LS 1 (E4) c.1.States) [76] O .sct ⟨Ua,ø⟩ (fun hc=>Ge Jv O O O) O ?_))))))))))
 obtain⟨l,a4,h⟩:=Gg h
 refine JLo (.dptr [E4 l]) [77] O .sct ⟨Ua,ø⟩ (fun hc=>(match G05 (H9 hc a4) with | ⟨_,hm_,hy_⟩=>H0 (f:=(E4)) (xs:=c.1.States) (y:=l) O O O Hv hy_ hm_)) O (JLo (E4 l) [78] O .sct ⟨Ua,ø⟩ (fun hc=>Ge Rn O O O) O (JLo (.agg [I64 1,I64 0,I64 0,U8 0]) [] O .sct ø (fun hc=>J9 (cs:=[I64 1,I64 0,I64 0,U8 0]) [(0,1),(1,3)] [I64 0,I64 0,I64 0,U8 0] [E0,E0,E0,.int .u8 0] G35 G7f (zzQ O) O O) O (JLo (.agg [I64 1,I64 0,U8 0]) [] O .sct ø (fun hc=>J9 (cs:=[I64 1,I64 0,U8 0]) [(0,1),(1,1),(2,1)] [I64 0,I64 0,U8 0] [E0,E0,.int .u8 0] G64 G80 (zzQ O) O O) O (JLo (.agg [I64 2,I64 1,I64 0,U8 0]) [81] O .sct ⟨Ua,ø⟩ (fun hc=>J9 (cs:=[I64 2,I64 1,I64 0,U8 0]) [(0,1),(1,3)] [I64 0,I64 0,I64 0,U8 0] [E0,E0,E0,.int .u8 0] G35 G7f (zzQ O) O O) O (JLo (E4 [(G1.mk 1 (Slot.mk 0 0 0)),(G1.mk 2 (Slot.mk 1 0 0))]) [80,82] O .sct ⟨Ua,Ua,ø⟩ (fun hc=>He (xs:=[.agg [I64 1,I64 0,I64 0,U8 0],.agg [I64 2,I64 1,I64 0,U8 0]]) O ⟨O,O,O,O,ø⟩ H3 Q2 O O O O) O ?_)))))
 obtain⟨i,a5,h⟩:=Gg h
 refine JLo (BL i) [79,83] O .sct ⟨Ua,Ua,ø⟩ (fun hc=>H2 (args:=[E4 l,E4 [(G1.mk 1 (Slot.mk 0 0 0)),(G1.mk 2 (Slot.mk 1 0 0))]]) O (Gae l [(G1.mk 1 (Slot.mk 0 0 0)),(G1.mk 2 (Slot.mk 1 0 0))] i (H9 hc a5)) Q97 ⟨O,O,O,O,ø⟩) O (JLh (BL ((((((decide (g=0))&&(decide (a.2.1=1)))&&(decide (c.2.1=0)))&&(decide ((a.1.States.length:Int)=4)))&&(decide ((c.1.States.length:Int)=4)))&&i)) (Rg O O O O) O (JLm (BL ((((((decide (g=0))&&(decide (a.2.1=1)))&&(decide (c.2.1=0)))&&(decide ((a.1.States.length:Int)=4)))&&(decide ((c.1.States.length:Int)=4)))&&i)) O (JLo (LS 1 (E4) e.1) [] O .sct ø (fun hc=>G5 O O) O (JLo (Ek e.1.length) [87] O .sct ⟨Ua,ø⟩ (fun hc=>G24 (f:=(E4)) (xs:=e.1) Hv O O) O (JLo (BL (decide ((e.1.length:Int)=6))) [88] O .sct ⟨Ua,ø⟩ (fun hc=>Qn O O O) O (JLh (BL (((((((decide (g=0))&&(decide (a.2.1=1)))&&(decide (c.2.1=0)))&&(decide ((a.1.States.length:Int)=4)))&&(decide ((c.1.States.length:Int)=4)))&&i)&&(decide ((e.1.length:Int)=6)))) (Rg O O O O) O (JLm (BL (((((((decide (g=0))&&(decide (a.2.1=1)))&&(decide (c.2.1=0)))&&(decide ((a.1.States.length:Int)=4)))&&(decide ((c.1.States.length:Int)=4)))&&i)&&(decide ((e.1.length:Int)=6)))) O (JLo (I64 d.2.2) [] O .sct ø (fun hc=>G5 O O) O (JLo (BL (decide (d.2.2=4))) [92] O .sct ⟨Ua,ø⟩ (fun hc=>Qn O O O) O (JLh (BL ((((((((decide (g=0))&&(decide (a.2.1=1)))&&(decide (c.2.1=0)))&&(decide ((a.1.States.length:Int)=4)))&&(decide ((c.1.States.length:Int)=4)))&&i)&&(decide ((e.1.length:Int)=6)))&&(decide (d.2.2=4)))) (Rg O O O O) O (JLm (BL ((((((((decide (g=0))&&(decide (a.2.1=1)))&&(decide (c.2.1=0)))&&(decide ((a.1.States.length:Int)=4)))&&(decide ((c.1.States.length:Int)=4)))&&i)&&(decide ((e.1.length:Int)=6)))&&(decide (d.2.2=4)))) O ?_)))))))))))
 obtain⟨m,a6,h⟩:=Gg h
 refine JLo (.agg (Gf.cs m)) [] O .sct ø (fun hc=>H2 (args:=[I64 3]) O (Qp 3 m (H9 hc a6)) G83 ⟨O,O,ø⟩) O (JLo (E6 [(Box.mk 1 ByteArray.empty 40 false 0 0 2 0 false),(Box.mk 2 ByteArray.empty 40 false 0 1 3 0 false)]) [] O .sct ø (fun hc=>G5 O O) O ?_)
 obtain⟨j,a7,h⟩:=Gg h
 refine JLo (BL j) [96,97] O .sct ⟨Ua,Ua,ø⟩ (fun hc=>H2 (args:=[.agg (Gf.cs m),E6 [(Box.mk 1 ByteArray.empty 40 false 0 0 2 0 false),(Box.mk 2 ByteArray.empty 40 false 0 1 3 0 false)],I64 4]) O (G8b m [(Box.mk 1 ByteArray.empty 40 false 0 0 2 0 false),(Box.mk 2 ByteArray.empty 40 false 0 1 3 0 false)] 4 j (H9 hc a7)) H91 ⟨O,O,O,O,O,O,ø⟩) O (JLh (BL (((((((((decide (g=0))&&(decide (a.2.1=1)))&&(decide (c.2.1=0)))&&(decide ((a.1.States.length:Int)=4)))&&(decide ((c.1.States.length:Int)=4)))&&i)&&(decide ((e.1.length:Int)=6)))&&(decide (d.2.2=4)))&&j)) (Rg O O O O) O (JLm (BL (((((((((decide (g=0))&&(decide (a.2.1=1)))&&(decide (c.2.1=0)))&&(decide ((a.1.States.length:Int)=4)))&&(decide ((c.1.States.length:Int)=4)))&&i)&&(decide ((e.1.length:Int)=6)))&&(decide (d.2.2=4)))&&j)) O ?_))
 obtain⟨n,a8,h⟩:=Gg h
 refine JLo (.agg (Gf.cs n)) [] O .sct ø (fun hc=>H2 (args:=[I64 4]) O (Qp 4 n (H9 hc a8)) G83 ⟨O,O,ø⟩) O (JLo (E6 [(Box.mk 1 ByteArray.empty 40 false 0 0 2 0 false),(Box.mk 2 ByteArray.empty 40 false 0 1 3 0 false)]) [] O .sct ø (fun hc=>G5 O O) O ?_)
 obtain⟨k,a9,h⟩:=Gg h
 refine JLo (BL k) [101,102] O .sct ⟨Ua,Ua,ø⟩ (fun hc=>H2 (args:=[.agg (Gf.cs n),E6 [(Box.mk 1 ByteArray.empty 40 false 0 0 2 0 false),(Box.mk 2 ByteArray.empty 40 false 0 1 3 0 false)],I64 4]) O (G8b n [(Box.mk 1 ByteArray.empty 40 false 0 0 2 0 false),(Box.mk 2 ByteArray.empty 40 false 0 1 3 0 false)] 4 k (H9 hc a9)) H91 ⟨O,O,O,O,O,O,ø⟩) O (JLo (BL (!k)) [103] O .sct ⟨Ua,ø⟩ (fun hc=>G03 (b:=k) O O) O (JLh (BL ((((((((((decide (g=0))&&(decide (a.2.1=1)))&&(decide (c.2.1=0)))&&(decide ((a.1.States.length:Int)=4)))&&(decide ((c.1.States.length:Int)=4)))&&i)&&(decide ((e.1.length:Int)=6)))&&(decide (d.2.2=4)))&&j)&&(!k))) (Rg O O O O) O (JLm (BL ((((((((((decide (g=0))&&(decide (a.2.1=1)))&&(decide (c.2.1=0)))&&(decide ((a.1.States.length:Int)=4)))&&(decide ((c.1.States.length:Int)=4)))&&i)&&(decide ((e.1.length:Int)=6)))&&(decide (d.2.2=4)))&&j)&&(!k))) O (G4 (a1 ?_)))))
 refine Gw (fin1 BL h)

def R3 (F:Nat) (s:Gf) (n:Int):Option Int:=
 each (fun t v (d:(List Int)) h=>
  loop (fun e (b:Int×(List Int))=>
   bif decide (b.1≤(min t.Tiers 4)) then
   (loop (fun f (a:Int×(List Int))=>
     bif decide (a.1 < 5) then
     (Ju a.2 a.1 fun i=>
      chk (a.1 - b.1) fun j=>
      Ju d j fun k=>
      chk (i+k) fun l=>
      Ju a.2 a.1 fun u=>
      chk (a.1+1) fun m=>
      f (m,(a.2.set a.1.toNat l)))
     else
     (chk (b.1+1) fun o=>
      e (o,a.2))) F (b.1,b.2))
   else
   (h b.2)) F (0,[0,0,0,0,0]))
 (fun(d:(List Int))=>
  Ju d n fun p=>
  loop (fun g (c:Int×Int)=>
   bif decide (c.2≤n) then
   (chk (c.1*c.2) fun q=>
    chk (c.2+1) fun r=>
    g (q,r))
   else
   (some c.1)) F (p,2)) s.Columns 0 [1,0,0,0,0]
theorem H0e (F:Nat) (s:Gf) (n:Int) (r:Int) (h:R3 F s n=some r):Pure Em 16 [.agg (Gf.cs s),I64 n] (·=I64 r):=by
 unfold R3 at h
 refine H5 [.tmp 4] Tryz.func16 O O (Jr fun e4=>(JLh (.ptr 1043 0) (Jt (cs:=(Gf.cs s)) 1043 O O O O O) O (JLm (I64 0) O (G4 (e4 (Gh [(1,I64 n),(2,Ef s)] [] 1043 rfl rfl rfl ø rfl (by exact⟨.conv (.same rfl),.ptr,ø⟩) (Jr fun e6=>(JLh (E5 [1,0,0,0,0]) (He (xs:=[I64 1,I64 0,I64 0,I64 0,I64 0]) O ⟨O,O,O,O,O,O,O,O,O,O,ø⟩ Gv Rm O O O O) O (JLm (E5 [1,0,0,0,0]) O (G4 (e6 (Js fun e7=>?_))))))))))))
 refine Jr fun e8=>(JLh (Ef s) (Gb Ho O O O) O (JLh (E7 s.Columns) (Ge J2 O O O) O (JLl Hr O O O fun a5=>(JLm (I64 0) O (G4 (e8 (Gi ?_)))))))
 obtain⟨b5,e9,f0,a6,h⟩:=Hu h
 refine Hf (fun d (e:(List Int))=>each b5 e9 (List.drop d s.Columns) d e=some r) (fun d e=>[(1,I64 n),(5,E5 e),(15,E7 s.Columns),(16,Ek s.Columns.length),(17,Ek d)]) (fun d e=>[]) (fun d=>s.Columns.length - d) 0 [1,0,0,0,0] h ⟨(.sm O O),ø,rfl⟩ ?_
 clear h
 intro d e a3 K5 e5
 refine Jr fun f1=>(JLh (BL (decide ((d:Int) < (s.Columns.length:Int)))) (J8 O O O) O (G4 (f1 (Js fun f2=>Gj O (fun hb=>?_) (fun hb=>?_)))))
 ·
  have a4:=Jh hb
  obtain⟨g,h3,f3,f4,h⟩:=Hk a3 a4
  replace h:=Rh f0 h
  refine Gn (f2 (Js fun f5=>Gi (Jr fun f6=>(JLh (Eh g) (H0 (f:=G6.av) (xs:=s.Columns) (y:=g) O O O Hr f3 O) O (JLh (.agg (G6.cs g)) (Gk G37 O O O) O (JLh (.ptr 1044 0) (Hg 1044 12 Zd O O) O (Hd (u:=.junk) (Gy (u:=.agg (G6.cs g)) (ds:=(G6.cs g)) G81 O O O O O O O O) (G4 (f6 (fzQ [(1,I64 n),(5,E5 e),(7,Eh g),(15,E7 s.Columns),(16,Ek s.Columns.length),(17,Ek d)] [] 1044 rfl rfl rfl ø rfl ?_))))))))))
  refine Jr fun a7=>(JLh (.vec 1045 ([0,0,0,0,0].length) 1 ([0,0,0,0,0].length)) (J93 1045 (f:=I64) [0,0,0,0,0] O ⟨O,O,O,O,O,O,O,O,O,O,ø⟩ Gv Rm O O O O O) O (JLm (.vec 1045 ([0,0,0,0,0].length) 1 ([0,0,0,0,0].length)) O (G4 (a7 (Js fun a8=>Jr fun a9=>(JLm (I64 0) O (G4 (a9 (Gi ?_)))))))))
  obtain⟨f7,b0,h⟩:=J35 h
  refine Hf (fun i (b:Int×(List Int))=>loop f7 i b=some r) (fun i b=>[(1,I64 n),(5,E5 e),(7,Eh g),(8,.vec 1045 ([0,0,0,0,0].length) 1 ([0,0,0,0,0].length)),(9,I64 b.1),(15,E7 s.Columns),(16,Ek s.Columns.length),(17,Ek d)]) (fun i b=>[(1045,.vec 3 1 ([0,0,0,0,0].length) (b.2.map I64))]) (fun i=>i) F (0,[0,0,0,0,0]) h ⟨(.sm O O),⟨⟨_,rfl,.vec⟩,ø⟩,rfl⟩ ?_
  clear h
  intro i b b1 h4 f8
  obtain⟨f9,h0,hm_13,b2,h⟩:=Hc2 b1
  replace h:=R88 b0 h
  refine Js fun b3=>Jr fun b4=>(JLm (I64 b.1) O (JLh (.dptr ((G6.cs g).drop 3)) (Gb Rj O O O) O (JLh (I64 g.Tiers) (Ge G9 O O O) O (JLh (I64 (min g.Tiers 4)) (Je0 O O O) O (JLh (BL (decide (b.1≤(min g.Tiers 4)))) (Gf7 O O O) O (G4 (b4 (JCc O h (fun h hb=>?_) (fun h hb=>?_)))))))))
  ·
   refine Gn (b3 (Js fun b6=>Gi (Jr fun b7=>(JLm (I64 b.1) O (JLm (I64 b.1) O (G4 (b7 (Gi ?_))))))))
   obtain⟨g0,b8,h⟩:=J35 h
   refine Hf (fun j (a:Int×(List Int))=>loop g0 j a=some r) (fun j a=>[(1,I64 n),(5,E5 e),(7,Eh g),(8,.vec 1045 ([0,0,0,0,0].length) 1 ([0,0,0,0,0].length)),(9,I64 b.1),(10,I64 a.1),(15,E7 s.Columns),(16,Ek s.Columns.length),(17,Ek d)]) (fun j a=>[(1045,.vec 3 1 ([0,0,0,0,0].length) (a.2.map I64))]) (fun j=>j) F (b.1,b.2) h ⟨(.sm O O),⟨⟨_,rfl,.vec⟩,ø⟩,rfl⟩ ?_
   clear h
   intro j a b9 h5 g1
   obtain⟨g2,h1,hm_52,c0,h⟩:=Hc2 b9
   replace h:=R88 b8 h
   refine Js fun c1=>Jr fun c2=>(JLm (I64 a.1) O (JLh (BL (decide (a.1 < 5))) (J8 O O O) O (G4 (c2 (JCc O h (fun h hb=>?_) (fun h hb=>?_))))))
   ·
    refine Gn (c1 (Js fun c3=>Gi (Rt (l':=[(1,I64 n),(5,E5 e),(7,Eh g),(8,.vec 1045 ([0,0,0,0,0].length) 1 ([0,0,0,0,0].length)),(9,I64 b.1),(10,I64 a.1),(15,E7 s.Columns),(16,Ek s.Columns.length),(17,Ek d)]) (L':=[(1045,.vec 3 1 ([0,0,0,0,0].length) (a.2.map I64))]) ⟨(.sm O O),⟨⟨_,rfl,.vec⟩,ø⟩,rfl⟩ ?_)))
    obtain⟨o,a1,p,h⟩:=Gc1 h
    obtain⟨g3,c4,h⟩:=Hx h
    obtain⟨h6,q,c5,c6,h⟩:=Qc h
    obtain⟨m,c7,h⟩:=Hx h
    obtain⟨g4,a2,t,h⟩:=Gc1 h
    refine Qy [12] (.replicate 13 0) (.replicate 13 0) [[(1045,.vec 3 1 ([0,0,0,0,0].length) (a.2.map I64))],((1045,.vec 3 1 ([0,0,0,0,0].length) ((a.2.set a.1.toNat m).map I64))::[(1045,.vec 3 1 ([0,0,0,0,0].length) (a.2.map I64))])] Q7 (by kernel_rfl) rfl rfl ?_
    refine Gq (u:=.vec 1045 ([0,0,0,0,0].length) 1 ([0,0,0,0,0].length)) O O ⟨Gr (G5 O O) O,ø⟩ (Gq (u:=I64 a.1) O O ⟨Gr (G5 O O) O,ø⟩ (Gq (u:=.vptr 1045 ([0,0,0,0,0].length) a.1.toNat 0) O O ⟨Gr (H72 (f:=I64) (xs:=a.2) (y:=o) O O O O Gv p a1) O,ø⟩ (Gq (u:=I64 o) O O ⟨Gr (J8f (f:=I64) (xs:=a.2) (y:=o) G9 O O O p O O) O,ø⟩ (Gq (u:=E5 e) O O ⟨Gr (G5 O O) O,ø⟩ (Gq (u:=I64 a.1) O O ⟨Gr (G5 O O) O,ø⟩ (Gq (u:=I64 b.1) O O ⟨Gr (G5 O O) O,ø⟩ (Gq (u:=I64 g3) O O ⟨Gr (Gf6 c4 O O O) O,ø⟩ (Gq (u:=.dptr [I64 q]) O O ⟨Gr (H0 (f:=I64) (xs:=e) (y:=q) O O O Gv c6 c5) O,ø⟩ (Gq (u:=I64 q) O O ⟨Gr (Ge G9 O O O) O,ø⟩ (Gq (u:=I64 m) O O ⟨Gr (Ht c7 O O O) O,ø⟩ (Gq (u:=.vptr 1045 ([0,0,0,0,0].length) a.1.toNat 0) O O ⟨Gr (H72 (f:=I64) (xs:=a.2) (y:=g4) O O O O Gv t a2) O,ø⟩ ?_)))))))))))
    refine J2d (u:=.junk) O O O O (Gr (Jdf (f:=I64) (xs:=a.2) (z:=m) Yy O O O O (Kx t).1 O O O O) O) (Zs (c3 (G2 (JLm (I64 a.1) O ?_))))
    obtain⟨v,c8,h⟩:=Hx h
    refine JLh (I64 v) (Ht c8 O O O) O (JLm (I64 v) O (G4 (g1 _ _ g2 (v,(a.2.set a.1.toNat m)) (app1 c0 h) (by omega) ⟨(.sm O O),⟨⟨_,rfl,.vec⟩,ø⟩,rfl⟩)))
   ·
    refine Hj (b6 (G2 (JLm (I64 b.1) O ?_)))
    obtain⟨w,c9,h⟩:=Hx h
    refine JLh (I64 w) (Ht c9 O O O) O (JLm (I64 w) O (G4 (f8 _ _ f9 (w,a.2) (app1 b2 h) (by omega) ⟨(.sm O O),⟨⟨_,rfl,.vec⟩,ø⟩,rfl⟩)))
  ·
   refine Hj (a8 (H34 [(1,I64 n),(8,E5 b.2),(15,E7 s.Columns),(16,Ek s.Columns.length),(17,Ek d)] [] 1045 rfl rfl ø rfl (by exact⟨.conv (.same rfl),.vec,.conv (.same rfl),.conv (.same rfl),.conv (.same rfl),ø⟩) (G2 (JLm (E5 b.2) O (JLm (E5 b.2) O (G4 (f5 (G2 (JLh (I64 ((d+1:Nat):Int)) (Ht (H7 a4 a5) O O O) O (JLm (I64 ((d+1:Nat):Int)) O (G4 (e5 _ _ (d+1) b.2 (app1 f4 h) (by omega) ⟨(.sm O O),ø,rfl⟩))))))))))))
 ·
  have h:=app1 a6 (Hm a3 (H6 hb))
  refine Hj (e7 (Jr fun d0=>(JLm (E5 e) O (JLm (I64 n) O ?_))))
  obtain⟨h7,l,d1,d2,h⟩:=Qc h
  refine JLh (.dptr [I64 l]) (H0 (f:=I64) (xs:=e) (y:=l) O O O Gv d2 d1) O (JLh (I64 l) (Ge G9 O O O) O (JLm (I64 l) O (G4 (d0 (Js fun d3=>Jr fun d4=>(JLm (I64 2) O (G4 (d4 (Gi ?_)))))))))
  obtain⟨g5,d5,h⟩:=J35 h
  refine Hf (fun k (c:Int×Int)=>loop g5 k c=some r) (fun k c=>[(1,I64 n),(11,I64 c.1),(12,I64 c.2)]) (fun k c=>[]) (fun k=>k) F (l,2) h ⟨(.sm O O),ø,O⟩ ?_
  clear h
  intro k c d6 h8 g6
  obtain⟨g7,h2,hm_76,d7,h⟩:=Hc2 d6
  replace h:=R88 d5 h
  refine Js fun d8=>Jr fun d9=>(JLm (I64 c.2) O (JLm (I64 n) O (JLh (BL (decide (c.2≤n))) (Gf7 O O O) O (G4 (d9 (JCc O h (fun h hb=>?_) (fun h hb=>?_)))))))
  ·
   refine Gn (d8 (Js fun e0=>Gi (G2 (JLm (I64 c.1) O (JLm (I64 c.2) O ?_)))))
   obtain⟨x,e1,h⟩:=Hx h
   refine JLh (I64 x) (H66 e1 O O O) O (JLm (I64 x) O (G4 (e0 (G2 (JLm (I64 c.2) O ?_)))))
   obtain⟨a0,e2,h⟩:=Hx h
   refine JLh (I64 a0) (Ht e2 O O O) O (JLm (I64 a0) O (G4 (g6 _ _ g7 (x,a0) (app1 d7 h) (by omega) ⟨(.sm O O),ø,rfl⟩)))
  ·
   refine Hj (d3 (Jr fun e3=>(JLm (I64 c.1) O (JLm (I64 c.1) O (G4 (e3 (Gw (fin1 I64 h))))))))

def Rq (F:Nat) (l:List H4) (covers:Int) (many:Int) (slots:List Int):Option Bool:=
 bnd (Y0 l covers) fun p=>
 chk (many) fun v8=>
 bnd (Geb v8 5) fun v9=>
 need (decide (v9≤9223372036854775807)) <|
 upto (fun a0 (a:(List Box)×(List Int)) a2=>
  chk (2*((a0+1:Nat):Int)) fun q=>
  need (decide ((a.1.length+[(Box.mk q ByteArray.empty 40 false 0 0 1 0 false)].length)*64≤140737488355328∧a.1.length+[(Box.mk q ByteArray.empty 40 false 0 0 1 0 false)].length≤maxLen)) <|
  chk (2*((a0+1:Nat):Int)) fun r=>
  need (decide ((a.2.length+[r].length)*8≤140737488355328∧a.2.length+[r].length≤maxLen)) <|
  a2 ((a.1++[(Box.mk q ByteArray.empty 40 false 0 0 1 0 false)]),(a.2++[r])))
 (fun(a:(List Box)×(List Int))=>
  bnd (Yi F p a.1 a.2) fun g=>
  bif decide (g.2≠0) then
  (some false)
  else
  (bnd (G89 p 40) fun s=>
   bif decide ((s.length:Int)=0) then
   (some false)
   else
   (each (fun t a1 (c:(List G1)) a3=>
     jp (fun j=>
      bif decide (0 < (slots.length:Int)) then
      (bnd (Geb (a1:Int) (slots.length:Int)) fun a4=>
       Ju slots a4 fun a5=>
       chk (a5) fun a6=>
       chk (a6+(a1:Int)) fun a7=>
       j a7)
      else
      (j 0)) fun(a8:Int)=>
     bnd (Geb a8 (s.length:Int)) fun a9=>
     Ju s a9 fun h=>
     need (decide ((c.length+[(G1.mk t h)].length)*32≤140737488355328∧c.length+[(G1.mk t h)].length≤maxLen)) <|
     a3 (c++[(G1.mk t h)]))
    (fun(c:(List G1))=>
     each (fun d u (b:Int) x=>
      jp (fun k=>
       bnd (Qw p a.1 d) fun b0=>
       bif ((!b0)||(decide ((d.length:Int)≠(a.2.length:Int)))) then
       (some false)
       else
       (each (fun b1 b2 (e:Bool) y=>
         bnd (bif e then Ju c (b2:Int) some else some default) fun b3=>
         y (e&&(decide (b1=b3))))
        (fun(e:Bool)=>
         jp (fun m=>
          bif e then
          (chk (b+1) fun b4=>
           m b4)
          else
          (m b)) fun(v:Int)=>
         bif decide (0 < (u:Int)) then
         (each (fun b5 b6 (f:Int) z=>
           jp (fun n=>
            bif decide (f=0) then
            (chk ((u:Int) - 1) fun b7=>
            Ju g.1 b7 fun b8=>
            Ju b8 (b6:Int) fun b9=>
            bnd (G07 b9.Slot b5.Slot) fun c0=>
            n c0)
            else
            (n f)) fun(c1:Int)=>
           z c1)
          (fun(f:Int)=>
           bif decide (f≠(-1)) then
           (some false)
           else
           (k v)) d 0 0)
         else
         (k v)) d 0 true)) fun(c2:Int)=>
      x c2)
     (fun(b:Int)=>
      jp (fun o=>
       bnd (Qw p a.1 c) fun c3=>
       bif c3 then
       (o 1)
       else
       (o 0)) fun(i:Int)=>
      bnd (bif decide (b=i) then R3 F p (a.2.length:Int) else some default) fun w=>
      bnd (bif ((decide (b=i))&&(decide ((g.1.length:Int)=w))) then Ro F else some default) fun c4=>
      some (((decide (b=i))&&(decide ((g.1.length:Int)=w)))&&c4)) g.1 0 0) a.2 0 []))) v9.toNat 0 ([],[])
theorem Gad (F:Nat) (l:List H4) (covers:Int) (many:Int) (slots:List Int) (r:Bool) (h:Rq F l covers many slots=some r):Pure Em 5 [Ee l,.sc (.int .u32 covers),U8 many,Ed slots] (·=BL r):=by
 unfold Rq at h
 refine H5 [.tmp 8] Tryz.func5 O O (Jr fun p7=>(JLm (BL false) O (G4 (p7 (Jr fun p8=>(JLm (Ee l) O (JLm (.sc (.int .u32 covers)) O ?_)))))))
 obtain⟨n,p9,h⟩:=Gg h
 refine JLh (.agg (Gf.cs n)) (H2 O (H0f l covers n p9) Qfb ⟨O,O,O,O,ø⟩) O (JLh (.ptr 1001 0) (Hg 1001 13 Hfd O O) O (Hd (u:=.junk) (Gy (u:=.agg (Gf.cs n)) (ds:=(Gf.cs n)) Gc7 O O O O O O O O) (G4 (p8 (Gh [(2,U8 many),(3,Ed slots),(9,Ef n)] [] 1001 rfl rfl rfl ø rfl (by exact⟨.conv (.same rfl),.conv (.same rfl),.ptr,ø⟩) (Jr fun q0=>(JLh (OW 1002 9 Box.av ([]:List Box)) (G31 1002 37 9 O O O) O (G4 (q0 ?_)))))))))
 refine Jr fun q1=>(JLh (OW 1003 1 I64 ([]:List Int)) (G31 1003 3 1 O O O) O (G4 (q1 (Js fun q2=>Jr fun q3=>(JLm (U8 many) O ?_)))))
 obtain⟨v8,q4,h⟩:=Hx h
 refine JLh (I64 v8) (Gde G2b G2a q4 O O) O ?_
 obtain⟨v9,l5,h⟩:=Gg h
 refine JLh (I64 v9) (H65 (Qj l5).1 (Qj l5).2 O O O) O (JLm (I64 0) O (G4 (q3 (Gi ?_))))
 obtain⟨b4,h⟩:=Hw h
 obtain⟨q5,l6,l7,d9,h⟩:=G90 h
 refine Hf (fun o (a:(List Box)×(List Int))=>upto q5 l6 (v9.toNat - o) o a=some r) (fun o a=>[(3,Ed slots),(9,Ef n),(10,OW 1002 9 Box.av a.1),(11,OW 1003 1 I64 a.2),(33,I64 v9),(34,Ek o)]) (fun o a=>[(1002,.spare 37 9 a.1.length a.1.length),(1003,.spare 3 1 a.2.length a.2.length)]) (fun o=>v9.toNat - o) 0 ([],[]) h ⟨(.sm O O),⟨⟨_,rfl,.same⟩,⟨_,rfl,.same⟩,ø⟩,rfl⟩ ?_
 clear h
 intro o a c7 s7 q6
 refine Jr fun l8=>(JLh (BL (decide ((o:Int) < v9))) (J8 O O O) O (G4 (l8 (Js fun l9=>Gj O (fun hb=>?_) (fun hb=>?_)))))
 ·
  have b0:=G46 hb
  obtain⟨r4,m0,h⟩:=G41 c7 b0
  replace h:=Hef l7 h
  refine Gn (l9 (Js fun m1=>Gi (Jr fun m2=>(JLm (Ek o) O (JLm (Ek o) O (G4 (m2 (Jr fun m3=>(JLm (OW 1002 9 Box.av a.1) O (JLm (Ek o) O (JLh (I64 ((o+1:Nat):Int)) (Ht (H7 b0 (Z8 b4)) O O O) O ?_)))))))))))
  obtain⟨a2,m4,h⟩:=Hx h
  refine JLh (I64 a2) (H66 m4 O O O) O (JLh (.agg [I64 a2,ST Ks,U8 40,BL false,I64 0,I64 0,I64 1,U8 0,BL false]) (J9 (cs:=[I64 a2,ST Ks,U8 40,BL false,I64 0,I64 0,I64 1,U8 0,BL false]) [(0,1),(1,1),(2,1),(3,1),(4,1),(5,1),(6,1),(7,1),(8,1)] [I64 0,ST Ks,U8 0,BL false,I64 0,I64 0,I64 0,U8 0,BL false] [E0,.string ByteArray.empty,.int .u8 0,.bool false,E0,E0,E0,.int .u8 0,.bool false] Yr Zv (zzQ O) O O) O (JLh (E6 [(Box.mk a2 ByteArray.empty 40 false 0 0 1 0 false)]) (He (xs:=[.agg [I64 a2,ST Ks,U8 40,BL false,I64 0,I64 0,I64 1,U8 0,BL false]]) O ⟨O,O,ø⟩ Jd Qq O O O O) O ?_))
  obtain⟨m5,h⟩:=Hw h
  refine JLh (OW 1002 9 Box.av (a.1++[(Box.mk a2 ByteArray.empty 40 false 0 0 1 0 false)])) (Qt (f:=Box.av) (xs:=a.1) (ys:=[(Box.mk a2 ByteArray.empty 40 false 0 0 1 0 false)]) O O O O Jd H8e m5 (fun _=>O) (.inl O) O) O (JLm (OW 1002 9 Box.av (a.1++[(Box.mk a2 ByteArray.empty 40 false 0 0 1 0 false)])) O (G4 (m3 (G2 (JLm (OW 1003 1 I64 a.2) O (JLm (Ek o) O (JLh (I64 ((o+1:Nat):Int)) (Ht (H7 b0 (Z8 b4)) O O O) O ?_)))))))
  obtain⟨a9,m6,h⟩:=Hx h
  refine JLh (I64 a9) (H66 m6 O O O) O (JLh (E5 [a9]) (He (xs:=[I64 a9]) O ⟨O,O,ø⟩ Gv Rm O O O O) O ?_)
  obtain⟨m7,h⟩:=Hw h
  refine JLh (OW 1003 1 I64 (a.2++[a9])) (Qt (f:=I64) (xs:=a.2) (ys:=[a9]) O O O O Gv G36 m7 (fun _=>O) (.inl O) O) O (JLm (OW 1003 1 I64 (a.2++[a9])) O (G4 (m1 (G2 (JLh (I64 ((o+1:Nat):Int)) (Ht (H7 b0 (Z8 b4)) O O O) O (JLm (I64 ((o+1:Nat):Int)) O (G4 (q6 _ _ (o+1) ((a.1++[(Box.mk a2 ByteArray.empty 40 false 0 0 1 0 false)]),(a.2++[a9])) (app1 m0 h) (by omega) ⟨(.sm O O),⟨⟨_,rfl,.same⟩,⟨_,rfl,.same⟩,ø⟩,rfl⟩))))))))
 ·
  have h:=app1 d9 (G42 c7 (Y8 hb))
  refine Hj (q2 (Jr fun m8=>(JLh (.agg (Gf.cs n)) (Gk J6 O O O) O (JLm (OW 1002 9 Box.av a.1) O (JLm (OW 1003 1 I64 a.2) O ?_)))))
  obtain⟨c,m9,h⟩:=Gg h
  refine JLh (.tup [LS 1 (E4) c.1,I64 c.2]) (H2 O (Gf2 F n a.1 a.2 c m9) Jb3 ⟨O,O,O,O,O,O,ø⟩) O (JLm (.tup [LS 1 (E4) c.1,I64 c.2]) O (JLh (LS 1 (E4) c.1) (Hp O O O) O (JLh (I64 c.2) (Hp O O O) O (JLm (LS 1 (E4) c.1) O (JLm (I64 c.2) O (G4 (m8 (Js fun n0=>Jr fun n1=>(JLm (I64 c.2) O (JLh (BL (decide (c.2≠0))) (H15 O O O) O (G4 (n1 (JCc O h (fun h hb=>?_) (fun h hb=>?_))))))))))))))
  ·
   refine Jr fun n2=>(JLm (BL false) O (G4 (n2 (Gw (fin1 BL h)))))
  ·
   refine Gn (n0 (Jr fun n3=>(JLh (OW 1004 4 G1.av ([]:List G1)) (G31 1004 65 4 O O O) O (G4 (n3 (Jr fun n4=>(JLh (.agg (Gf.cs n)) (Gk J6 O O O) O ?_)))))))
   obtain⟨a0,n5,h⟩:=Gg h
   refine JLh (Ec a0) (H2 O (Hd0 n 40 a0 n5) J58 ⟨O,O,O,O,ø⟩) O (JLm (Ec a0) O (G4 (n4 (Js fun n6=>Jr fun n7=>(JLm (Ec a0) O (JLl R2 O O O fun r5=>(JLh (BL (decide ((a0.length:Int)=0))) (Qn O O O) O (G4 (n7 (JCc O h (fun h hb=>?_) (fun h hb=>?_)))))))))))
   ·
    refine Jr fun n8=>(JLm (BL false) O (G4 (n8 (Gw (fin1 BL h)))))
   ·
    refine Gn (n6 (Js fun n9=>Jr fun o0=>(JLm (OW 1003 1 I64 a.2) O (JLl Gv O O O fun o1=>(JLm (I64 0) O (G4 (o0 (Gi ?_))))))))
    obtain⟨q7,o2,o3,e0,h⟩:=Hu h
    refine Hf (fun p (e:(List G1))=>each q7 o2 (List.drop p a.2) p e=some r) (fun p e=>[(3,Ed slots),(9,Ef n),(10,OW 1002 9 Box.av a.1),(11,OW 1003 1 I64 a.2),(13,LS 1 (E4) c.1),(15,OW 1004 4 G1.av e),(16,Ec a0),(65,OW 1003 1 I64 a.2),(66,Ek a.2.length),(67,Ek p)]) (fun p e=>[(1002,.spare 37 9 a.1.length a.1.length),(1003,.spare 3 1 a.2.length a.2.length),(1004,.spare 65 4 e.length e.length)]) (fun p=>a.2.length - p) 0 [] h ⟨(.sm O O),⟨⟨_,rfl,.same⟩,⟨_,rfl,.same⟩,⟨_,rfl,.same⟩,ø⟩,rfl⟩ ?_
    clear h
    intro p e c8 s8 q8
    refine Jr fun e1=>(JLh (BL (decide ((p:Int) < (a.2.length:Int)))) (J8 O O O) O (G4 (e1 (Js fun e2=>Gj O (fun hb=>?_) (fun hb=>?_)))))
    ·
     have c9:=Jh hb
     obtain⟨w,r6,o4,o5,h⟩:=Hk c8 c9
     replace h:=Rh o3 h
     refine Gn (e2 (Js fun e3=>Gi (Jr fun e4=>(JLm (Ek p) O (JLh (.dptr [I64 w]) (H0 (f:=I64) (xs:=a.2) (y:=w) O O O Gv o4 O) O (JLh (I64 w) (Ge G9 O O O) O (JLm (Ek p) O (JLm (I64 w) O (G4 (e4 (Jr fun e5=>(JLm (I64 0) O (G4 (e5 ?_))))))))))))))
     obtain⟨e6,d0,h⟩:=Qr h
     refine Q0 (fun a3:Int=>e6 a3=some r) (fun a3=>[(3,Ed slots),(9,Ef n),(10,OW 1002 9 Box.av a.1),(11,OW 1003 1 I64 a.2),(13,LS 1 (E4) c.1),(15,OW 1004 4 G1.av e),(16,Ec a0),(18,I64 w),(19,I64 a3),(65,OW 1003 1 I64 a.2),(66,Ek a.2.length),(67,Ek p)]) (fun a3=>[(1002,.spare 37 9 a.1.length a.1.length),(1003,.spare 3 1 a.2.length a.2.length),(1004,.spare 65 4 e.length e.length)]) (fun Kj105 ej105=>?_) ?_
     ·
      refine Jr fun e7=>(JLm (Ed slots) O (JLl Ze O O O fun r7=>(JLh (BL (decide (0 < (slots.length:Int)))) (G1b O O O) O (G4 (e7 (JCc O h (fun h hb=>?_) (fun h hb=>?_)))))))
      ·
       refine G2 (JLm (Ed slots) O (JLm (Ek p) O (JLm (Ed slots) O (JLl Ze O O O fun r8=>?_))))
       obtain⟨o6,b8,h⟩:=Gg h
       refine JLh (I64 o6) (H65 (Qj b8).1 (Qj b8).2 O O O) O ?_
       obtain⟨r9,b5,e8,e9,h⟩:=Qc h
       refine JLh (.dptr [U8 b5]) (H0 (f:=U8) (xs:=slots) (y:=b5) O O O Ze e9 e8) O (JLh (U8 b5) (Ge Hz O O O) O ?_)
       obtain⟨o7,f0,h⟩:=Hx h
       refine JLh (I64 o7) (Gde G2b G2a f0 O O) O (JLm (Ek p) O ?_)
       obtain⟨b6,f1,h⟩:=Hx h
       refine JLh (I64 b6) (Ht f1 O O O) O (JLm (I64 b6) O (G4 (ej105 _ _ b6 h ⟨(.sm O O),⟨⟨_,rfl,.same⟩,⟨_,rfl,.same⟩,⟨_,rfl,.same⟩,ø⟩,rfl⟩)))
      ·
       refine Gn (ej105 _ _ 0 h ⟨(.sm O O),⟨⟨_,rfl,.same⟩,⟨_,rfl,.same⟩,⟨_,rfl,.same⟩,ø⟩,rfl⟩)
     ·intro a3 h
      replace h:=app1 d0 h
      refine G2 (JLm (OW 1004 4 G1.av e) O (JLm (I64 w) O (JLm (Ec a0) O (JLm (I64 a3) O (JLm (Ec a0) O (JLl R2 O O O fun s0=>?_))))))
      obtain⟨o8,b9,h⟩:=Gg h
      refine JLh (I64 o8) (H65 (Qj b9).1 (Qj b9).2 O O O) O ?_
      obtain⟨s1,k,f2,f3,h⟩:=Qc h
      refine JLh (Ej k) (H0 (f:=Slot.av) (xs:=a0) (y:=k) O O O R2 f3 f2) O (JLh (.agg (Slot.cs k)) (Gk Jw O O O) O (JLh (.agg [I64 w,I64 k.G6,I64 k.Tier,U8 k.Half]) (J9 (cs:=[I64 w,I64 k.G6,I64 k.Tier,U8 k.Half]) [(0,1),(1,3)] [I64 0,I64 0,I64 0,U8 0] [E0,E0,E0,.int .u8 0] G35 G7f (zzQ O) O O) O (JLh (E4 [(G1.mk w k)]) (He (xs:=[.agg [I64 w,I64 k.G6,I64 k.Tier,U8 k.Half]]) O ⟨O,O,ø⟩ H3 Q2 O O O O) O ?_)))
      obtain⟨f4,h⟩:=Hw h
      refine JLh (OW 1004 4 G1.av (e++[(G1.mk w k)])) (Qt (f:=G1.av) (xs:=e) (ys:=[(G1.mk w k)]) O O O O H3 Gca f4 (fun _=>O) (.inl O) O) O (JLm (OW 1004 4 G1.av (e++[(G1.mk w k)])) O (G4 (e3 (G2 (JLh (I64 ((p+1:Nat):Int)) (Ht (H7 c9 o1) O O O) O (JLm (I64 ((p+1:Nat):Int)) O (G4 (q8 _ _ (p+1) (e++[(G1.mk w k)]) (app1 o5 h) (by omega) ⟨(.sm O O),⟨⟨_,rfl,.same⟩,⟨_,rfl,.same⟩,⟨_,rfl,.same⟩,ø⟩,rfl⟩))))))))
    ·
     have h:=app1 e0 (Hm c8 (H6 hb))
     refine Hj (n9 (Jr fun f5=>(JLm (I64 0) O (G4 (f5 (Js fun f6=>Jr fun f7=>(JLm (LS 1 (E4) c.1) O (JLl Hv O O O fun o9=>(JLm (I64 0) O (G4 (f7 (Gi ?_))))))))))))
     obtain⟨p0,f8,f9,d1,h⟩:=Hu h
     refine Hf (fun g (m:Int)=>each p0 f8 (List.drop g c.1) g m=some r) (fun g m=>[(9,Ef n),(10,OW 1002 9 Box.av a.1),(11,OW 1003 1 I64 a.2),(13,LS 1 (E4) c.1),(15,OW 1004 4 G1.av e),(20,I64 m),(98,LS 1 (E4) c.1),(99,Ek c.1.length),(100,Ek g)]) (fun g m=>[(1002,.spare 37 9 a.1.length a.1.length),(1003,.spare 3 1 a.2.length a.2.length),(1004,.spare 65 4 e.length e.length)]) (fun g=>c.1.length - g) 0 0 h ⟨(.sm O O),⟨⟨_,rfl,.same⟩,⟨_,rfl,.same⟩,⟨_,rfl,.same⟩,ø⟩,rfl⟩ ?_
     clear h
     intro g m c0 s2 p1
     refine Jr fun g0=>(JLh (BL (decide ((g:Int) < (c.1.length:Int)))) (J8 O O O) O (G4 (g0 (Js fun g1=>Gj O (fun hb=>?_) (fun hb=>?_)))))
     ·
      have c1:=Jh hb
      obtain⟨d,q9,g2,g3,h⟩:=Hk c0 c1
      replace h:=Rh f9 h
      refine Gn (g1 ?_)
      obtain⟨g4,d2,h⟩:=Qr h
      refine Q0 (fun a4:Int=>g4 a4=some r) (fun a4=>[(9,Ef n),(10,OW 1002 9 Box.av a.1),(11,OW 1003 1 I64 a.2),(13,LS 1 (E4) c.1),(15,OW 1004 4 G1.av e),(20,I64 a4),(98,LS 1 (E4) c.1),(99,Ek c.1.length),(100,Ek g)]) (fun a4=>[(1002,.spare 37 9 a.1.length a.1.length),(1003,.spare 3 1 a.2.length a.2.length),(1004,.spare 65 4 e.length e.length)]) (fun Kj122 ej122=>?_) ?_
      ·
       refine Gi (Jr fun g5=>(JLm (Ek g) O (JLh (.dptr [E4 d]) (H0 (f:=(E4)) (xs:=c.1) (y:=d) O O O Hv g2 O) O (JLh (E4 d) (Ge Rn O O O) O (JLm (Ek g) O (JLm (E4 d) O (G4 (g5 (Js fun g6=>Jr fun g7=>(JLh (.agg (Gf.cs n)) (Gk J6 O O O) O (JLm (OW 1002 9 Box.av a.1) O (JLm (E4 d) O ?_))))))))))))
       obtain⟨a5,g8,h⟩:=Gg h
       refine JLh (BL a5) (H2 O (Z4 n a.1 d a5 g8) G51 ⟨O,O,O,O,O,O,ø⟩) O (JLh (BL (!a5)) (G03 (b:=a5) O O) O (JLm (BL (!a5)) O (JLo (E4 d) [] O .scf ø (fun hc=>G5 O O) O (JLo (Ek d.length) [111] O .scf ⟨Ua,ø⟩ (fun hc=>G24 (f:=G1.av) (xs:=d) H3 O O) O (JLo (OW 1003 1 I64 a.2) [] O .scf ø (fun hc=>G5 O O) O (JLo (Ek a.2.length) [113] O .scf ⟨Ua,ø⟩ (fun hc=>G24 (f:=I64) (xs:=a.2) Gv O O) O (JLo (BL (decide ((d.length:Int)≠(a.2.length:Int)))) [112,114] O .scf ⟨Ua,Ua,ø⟩ (fun hc=>H15 O O O) O (JLh (BL ((!a5)||(decide ((d.length:Int)≠(a.2.length:Int))))) (G18 O O O O) O (G4 (g7 (JCc O h (fun h hb=>?_) (fun h hb=>?_))))))))))))
       ·
        refine Jr fun g9=>(JLm (BL false) O (G4 (g9 (Gw (fin1 BL h)))))
       ·
        refine Gn (g6 (Jr fun h0=>(JLm (BL true) O (G4 (h0 (Js fun h1=>Jr fun h2=>(JLm (E4 d) O (JLl H3 O O O fun h3=>(JLm (I64 0) O (G4 (h2 (Gi ?_))))))))))))
        obtain⟨p2,h4,h5,d3,h⟩:=Hu h
        refine Hf (fun j (q:Bool)=>each p2 h4 (List.drop j d) j q=some r) (fun j q=>[(9,Ef n),(10,OW 1002 9 Box.av a.1),(11,OW 1003 1 I64 a.2),(13,LS 1 (E4) c.1),(15,OW 1004 4 G1.av e),(20,I64 m),(21,Ek g),(22,E4 d),(23,BL q),(98,LS 1 (E4) c.1),(99,Ek c.1.length),(100,Ek g),(118,Ek d.length),(119,Ek j)]) (fun j q=>[(1002,.spare 37 9 a.1.length a.1.length),(1003,.spare 3 1 a.2.length a.2.length),(1004,.spare 65 4 e.length e.length)]) (fun j=>d.length - j) 0 true h ⟨(.sm O O),⟨⟨_,rfl,.same⟩,⟨_,rfl,.same⟩,⟨_,rfl,.same⟩,ø⟩,rfl⟩ ?_
        clear h
        intro j q c2 s3 p3
        refine Jr fun h6=>(JLh (BL (decide ((j:Int) < (d.length:Int)))) (J8 O O O) O (G4 (h6 (Js fun h7=>Gj O (fun hb=>?_) (fun hb=>?_)))))
        ·
         have c3:=Jh hb
         obtain⟨s,r0,h8,h9,h⟩:=Hk c2 c3
         replace h:=Rh h5 h
         refine Gn (h7 (Js fun i0=>Gi (Jr fun i1=>(JLm (Ek j) O (JLm (Ek j) O (G4 (i1 (Rt (l':=[(9,Ef n),(10,OW 1002 9 Box.av a.1),(11,OW 1003 1 I64 a.2),(13,LS 1 (E4) c.1),(15,OW 1004 4 G1.av e),(20,I64 m),(21,Ek g),(22,E4 d),(23,BL q),(24,Ek j),(98,LS 1 (E4) c.1),(99,Ek c.1.length),(100,Ek g),(118,Ek d.length),(119,Ek j)]) (L':=[(1002,.spare 37 9 a.1.length a.1.length),(1003,.spare 3 1 a.2.length a.2.length),(1004,.spare 65 4 e.length e.length)]) ⟨(.sm O O),⟨⟨_,rfl,.same⟩,⟨_,rfl,.same⟩,⟨_,rfl,.same⟩,ø⟩,rfl⟩ ?_))))))))
         obtain⟨t,i2,h⟩:=Gg h
         refine JC_d0 Q7 (by kernel_rfl) (Dq (BL q) (G5 O O) O (Dq (BL q) (G5 O O) O (Do (E4 d) [] O .sct ø (fun hc=>G5 O O) O (Do (Ek j) [] O .sct ø (fun hc=>G5 O O) O (Do (Eg s) [124,125] O .sct ⟨Ua,Ua,ø⟩ (fun hc=>H0 (f:=G1.av) (xs:=d) (y:=s) O O O H3 h8 O) O (Do (.agg (G1.cs s)) [126] O .sct ⟨Ua,ø⟩ (fun hc=>Gk Qb O O O) O (Do (OW 1004 4 G1.av e) [] O .sct ø (fun hc=>G5 O O) O (Do (Ek j) [] O .sct ø (fun hc=>G5 O O) O (Do (Eg t) [128,129] O .sct ⟨Ua,Ua,ø⟩ (fun hc=>(match G05 (H9 hc i2) with | ⟨_,hm_,hy_⟩=>H0 (f:=G1.av) (xs:=e) (y:=t) O O O H3 hy_ hm_)) O (Do (.agg (G1.cs t)) [130] O .sct ⟨Ua,ø⟩ (fun hc=>Gk Qb O O O) O (Do (BL (decide (s=t))) [127,131] O .sct ⟨Ua,Ua,ø⟩ (fun hc=>Qf2 (vs:=[.int .i64 s.Box,.int .i64 s.Slot.G6,.int .i64 s.Slot.Tier,.int .u8 s.Slot.Half]) (us:=[.int .i64 t.Box,.int .i64 t.Slot.G6,.int .i64 t.Slot.Tier,.int .u8 t.Slot.Half]) 4 O (Ra4 s t) J06 Jb1 O O O) O (Dq (BL (q&&(decide (s=t)))) (Rg O O O O) O (Dq (BL (q&&(decide (s=t)))) (G7 O O) O (Dnil ?_))))))))))))))
         refine i0 (G2 (JLh (I64 ((j+1:Nat):Int)) (Ht (H7 c3 h3) O O O) O (JLm (I64 ((j+1:Nat):Int)) O (G4 (p3 _ _ (j+1) (q&&(decide (s=t))) (app1 h9 h) (by omega) ⟨(.sm O O),⟨⟨_,rfl,.same⟩,⟨_,rfl,.same⟩,⟨_,rfl,.same⟩,ø⟩,rfl⟩)))))
        ·
         have h:=app1 d3 (Hm c2 (H6 hb))
         refine Hj (h1 ?_)
         obtain⟨i3,d4,h⟩:=Qr h
         refine Q0 (fun x:Int=>i3 x=some r) (fun x=>[(9,Ef n),(10,OW 1002 9 Box.av a.1),(11,OW 1003 1 I64 a.2),(13,LS 1 (E4) c.1),(15,OW 1004 4 G1.av e),(20,I64 x),(21,Ek g),(22,E4 d),(98,LS 1 (E4) c.1),(99,Ek c.1.length),(100,Ek g)]) (fun x=>[(1002,.spare 37 9 a.1.length a.1.length),(1003,.spare 3 1 a.2.length a.2.length),(1004,.spare 65 4 e.length e.length)]) (fun Kj147 ej147=>?_) ?_
         ·
          refine Jr fun i4=>(JLm (BL q) O (G4 (i4 (JCc O h (fun h hb=>?_) (fun h hb=>?_)))))
          ·
           refine G2 (JLm (I64 m) O ?_)
           obtain⟨b7,i5,h⟩:=Hx h
           refine JLh (I64 b7) (Ht i5 O O O) O (JLm (I64 b7) O (G4 (ej147 _ _ b7 h ⟨(.sm O O),⟨⟨_,rfl,.same⟩,⟨_,rfl,.same⟩,⟨_,rfl,.same⟩,ø⟩,rfl⟩)))
          ·
           refine Gn (ej147 _ _ m h ⟨(.sm O O),⟨⟨_,rfl,.same⟩,⟨_,rfl,.same⟩,⟨_,rfl,.same⟩,ø⟩,rfl⟩)
         ·intro x h
          replace h:=app1 d4 h
          refine Jr fun i6=>(JLm (Ek g) O (JLh (BL (decide (0 < (g:Int)))) (G1b O O O) O (G4 (i6 (JCc O h (fun h hb=>?_) (fun h hb=>?_))))))
          ·
           refine Jr fun i7=>(JLm (I64 0) O (G4 (i7 (Js fun i8=>Jr fun i9=>(JLm (E4 d) O (JLl H3 O O O fun j0=>(JLm (I64 0) O (G4 (i9 (Gi ?_))))))))))
           obtain⟨p4,j1,j2,d5,h⟩:=Hu h
           refine Hf (fun i (z:Int)=>each p4 j1 (List.drop i d) i z=some r) (fun i z=>[(9,Ef n),(10,OW 1002 9 Box.av a.1),(11,OW 1003 1 I64 a.2),(13,LS 1 (E4) c.1),(15,OW 1004 4 G1.av e),(20,I64 x),(21,Ek g),(22,E4 d),(25,I64 z),(98,LS 1 (E4) c.1),(99,Ek c.1.length),(100,Ek g),(141,Ek d.length),(142,Ek i)]) (fun i z=>[(1002,.spare 37 9 a.1.length a.1.length),(1003,.spare 3 1 a.2.length a.2.length),(1004,.spare 65 4 e.length e.length)]) (fun i=>d.length - i) 0 0 h ⟨(.sm O O),⟨⟨_,rfl,.same⟩,⟨_,rfl,.same⟩,⟨_,rfl,.same⟩,ø⟩,rfl⟩ ?_
           clear h
           intro i z c4 s4 p5
           refine Jr fun j3=>(JLh (BL (decide ((i:Int) < (d.length:Int)))) (J8 O O O) O (G4 (j3 (Js fun j4=>Gj O (fun hb=>?_) (fun hb=>?_)))))
           ·
            have c5:=Jh hb
            obtain⟨a6,r1,j5,j6,h⟩:=Hk c4 c5
            replace h:=Rh j2 h
            refine Gn (j4 ?_)
            obtain⟨j7,d6,h⟩:=Qr h
            refine Q0 (fun a7:Int=>j7 a7=some r) (fun a7=>[(9,Ef n),(10,OW 1002 9 Box.av a.1),(11,OW 1003 1 I64 a.2),(13,LS 1 (E4) c.1),(15,OW 1004 4 G1.av e),(20,I64 x),(21,Ek g),(22,E4 d),(25,I64 a7),(98,LS 1 (E4) c.1),(99,Ek c.1.length),(100,Ek g),(141,Ek d.length),(142,Ek i)]) (fun a7=>[(1002,.spare 37 9 a.1.length a.1.length),(1003,.spare 3 1 a.2.length a.2.length),(1004,.spare 65 4 e.length e.length)]) (fun Kj181 ej181=>?_) ?_
            ·
             refine Gi (Jr fun j8=>(JLm (Ek i) O (JLm (Ek i) O (G4 (j8 (Jr fun j9=>(JLm (I64 z) O (JLh (BL (decide (z=0))) (Qn O O O) O (G4 (j9 (JCc O h (fun h hb=>?_) (fun h hb=>?_))))))))))))
             ·
              refine Rt (l':=[(9,Ef n),(10,OW 1002 9 Box.av a.1),(11,OW 1003 1 I64 a.2),(13,LS 1 (E4) c.1),(15,OW 1004 4 G1.av e),(20,I64 x),(21,Ek g),(22,E4 d),(26,Ek i),(98,LS 1 (E4) c.1),(99,Ek c.1.length),(100,Ek g),(141,Ek d.length),(142,Ek i)]) (L':=[(1002,.spare 37 9 a.1.length a.1.length),(1003,.spare 3 1 a.2.length a.2.length),(1004,.spare 65 4 e.length e.length)]) ⟨(.sm O O),⟨⟨_,rfl,.same⟩,⟨_,rfl,.same⟩,⟨_,rfl,.same⟩,ø⟩,rfl⟩ ?_
              obtain⟨p6,k0,h⟩:=Hx h
              obtain⟨s5,b1,k1,k2,h⟩:=Qc h
              obtain⟨s6,a8,k3,k4,h⟩:=Qc h
              obtain⟨b2,k5,h⟩:=Gg h
              refine JC_d0 Q7 (by kernel_rfl) (Dq (LS 1 (E4) c.1) (G5 O O) O (Dq (Ek g) (G5 O O) O (Dq (I64 p6) (Gf6 k0 O O O) O (Dq (.dptr [E4 b1]) (H0 (f:=(E4)) (xs:=c.1) (y:=b1) O O O Hv k2 k1) O (Dq (E4 b1) (Ge Rn O O O) O (Dq (Ek i) (G5 O O) O (Dq (Eg a8) (H0 (f:=G1.av) (xs:=b1) (y:=a8) O O O H3 k4 k3) O (Dq (.dptr ((G1.cs a8).drop 1)) (Gb Jx O O O) O (Dq (.agg ((G1.cs a8).drop 1)) (Gk Jw O O O) O (Dq (E4 d) (G5 O O) O (Dq (Ek i) (G5 O O) O (Dq (Eg a6) (H0 (f:=G1.av) (xs:=d) (y:=a6) O O O H3 j5 O) O (Dq (.dptr ((G1.cs a6).drop 1)) (Gb Jx O O O) O ?_)))))))))))))
              refine Dq (.agg ((G1.cs a6).drop 1)) (Gk Jw O O O) O (Dq (I64 b2) (H2 (args:=[.agg ((G1.cs a8).drop 1),.agg ((G1.cs a6).drop 1)]) O (H10 a8.Slot a6.Slot b2 k5) J57 ⟨O,O,O,O,ø⟩) O (Dq (I64 b2) (G7 O O) O (Dnil (ej181 _ _ b2 h ⟨(.sm O O),⟨⟨_,rfl,.same⟩,⟨_,rfl,.same⟩,⟨_,rfl,.same⟩,ø⟩,rfl⟩))))
             ·
              refine Gn (ej181 _ _ z h ⟨(.sm O O),⟨⟨_,rfl,.same⟩,⟨_,rfl,.same⟩,⟨_,rfl,.same⟩,ø⟩,rfl⟩)
            ·intro a7 h
             replace h:=app1 d6 h
             refine G2 (JLh (I64 ((i+1:Nat):Int)) (Ht (H7 c5 j0) O O O) O (JLm (I64 ((i+1:Nat):Int)) O (G4 (p5 _ _ (i+1) a7 (app1 j6 h) (by omega) ⟨(.sm O O),⟨⟨_,rfl,.same⟩,⟨_,rfl,.same⟩,⟨_,rfl,.same⟩,ø⟩,rfl⟩))))
           ·
            have h:=app1 d5 (Hm c4 (H6 hb))
            refine Hj (i8 (Jr fun k6=>(JLm (I64 z) O (JLh (BL (decide (z≠(-1)))) (H15 O O O) O (G4 (k6 (JCc O h (fun h hb=>?_) (fun h hb=>?_))))))))
            ·
             refine Jr fun k7=>(JLm (BL false) O (G4 (k7 (Gw (fin1 BL h)))))
            ·
             refine Gn (ej122 _ _ x h ⟨(.sm O O),⟨⟨_,rfl,.same⟩,⟨_,rfl,.same⟩,⟨_,rfl,.same⟩,ø⟩,rfl⟩)
          ·
           refine Gn (ej122 _ _ x h ⟨(.sm O O),⟨⟨_,rfl,.same⟩,⟨_,rfl,.same⟩,⟨_,rfl,.same⟩,ø⟩,rfl⟩)
      ·intro a4 h
       replace h:=app1 d2 h
       refine G2 (JLh (I64 ((g+1:Nat):Int)) (Ht (H7 c1 o9) O O O) O (JLm (I64 ((g+1:Nat):Int)) O (G4 (p1 _ _ (g+1) a4 (app1 g3 h) (by omega) ⟨(.sm O O),⟨⟨_,rfl,.same⟩,⟨_,rfl,.same⟩,⟨_,rfl,.same⟩,ø⟩,rfl⟩))))
     ·
      have h:=app1 d1 (Hm c0 (H6 hb))
      refine Hj (f6 (Jr fun k8=>(JLm (I64 0) O (G4 (k8 ?_)))))
      obtain⟨k9,d7,h⟩:=Qr h
      refine Q0 (fun v:Int=>k9 v=some r) (fun v=>[(9,Ef n),(11,OW 1003 1 I64 a.2),(13,LS 1 (E4) c.1),(20,I64 m),(27,I64 v)]) (fun v=>[(1003,.spare 3 1 a.2.length a.2.length)]) (fun Kj193 ej193=>?_) ?_
      ·
       refine Jr fun l0=>(JLh (.agg (Gf.cs n)) (Gk J6 O O O) O (JLm (OW 1002 9 Box.av a.1) O (JLm (OW 1004 4 G1.av e) O ?_)))
       obtain⟨d8,l1,h⟩:=Gg h
       refine JLh (BL d8) (H2 O (Z4 n a.1 e d8 l1) G51 ⟨O,O,O,O,O,O,ø⟩) O (G4 (l0 (JCc O h (fun h hb=>?_) (fun h hb=>?_))))
       ·
        refine G2 (JLm (I64 1) O (G4 (ej193 _ _ 1 h ⟨(.sm O O),⟨⟨_,rfl,.same⟩,ø⟩,rfl⟩)))
       ·
        refine Gn (ej193 _ _ 0 h ⟨(.sm O O),⟨⟨_,rfl,.same⟩,ø⟩,rfl⟩)
      ·intro v h
       replace h:=app1 d7 h
       refine Jr fun l2=>(JLm (I64 m) O (JLm (I64 v) O (JLh (BL (decide (m=v))) (Qn O O O) O (JLm (BL (decide (m=v))) O (JLo (LS 1 (E4) c.1) [] O .sct ø (fun hc=>G5 O O) O (JLo (Ek c.1.length) [174] O .sct ⟨Ua,ø⟩ (fun hc=>G24 (f:=(E4)) (xs:=c.1) Hv O O) O (JLo (.agg (Gf.cs n)) [] O .sct ø (fun hc=>Gk J6 O O O) O (JLo (OW 1003 1 I64 a.2) [] O .sct ø (fun hc=>G5 O O) O (JLo (Ek a.2.length) [177] O .sct ⟨Ua,ø⟩ (fun hc=>G24 (f:=I64) (xs:=a.2) Gv O O) O ?_)))))))))
       obtain⟨a1,l3,h⟩:=Gg h
       refine JLo (I64 a1) [176,178] O .sct ⟨Ua,Ua,ø⟩ (fun hc=>H2 (args:=[.agg (Gf.cs n),Ek a.2.length]) O (H0e F n (a.2.length:Int) a1 (H9 hc l3)) Q9e ⟨O,O,O,O,ø⟩) O (JLo (BL (decide ((c.1.length:Int)=a1))) [175,179] O .sct ⟨Ua,Ua,ø⟩ (fun hc=>Qn O O O) O (JLh (BL ((decide (m=v))&&(decide ((c.1.length:Int)=a1)))) (Rg O O O O) O (JLm (BL ((decide (m=v))&&(decide ((c.1.length:Int)=a1)))) O ?_)))
       obtain⟨b3,l4,h⟩:=Gg h
       refine JLo (BL b3) [] O .sct ø (fun hc=>H2 (args:=[]) O (Gfd F b3 (H9 hc l4)) Q9f ø) O (JLh (BL (((decide (m=v))&&(decide ((c.1.length:Int)=a1)))&&b3)) (Rg O O O O) O (JLm (BL (((decide (m=v))&&(decide ((c.1.length:Int)=a1)))&&b3)) O (G4 (l2 (Gw (fin1 BL h))))))
end
end Go.Proofs.YtibhpogonkdiaaaGreat
