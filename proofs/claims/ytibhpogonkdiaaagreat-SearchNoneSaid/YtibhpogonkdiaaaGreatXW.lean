/- Walks of functions. -/
import Derived.Test.YtibhpogonkdiaaaGreatXV
set_option linter.unnecessarySimpa false
set_option maxRecDepth 100000
set_option maxHeartbeats 1000000
set_option linter.unusedVariables false
set_option linter.unusedSimpArgs false
namespace Go.Proofs.YtibhpogonkdiaaaGreat
open Go.RowKit
noncomputable section

namespace XWF
open XAF
open XCF
open XFF
open XSF
open XLF
open XVF
theorem Y38 (a b:G1):H93 En 4 65 [.int .i64 a.Box,.int .i64 a.Slot.G4,.int .i64 a.Slot.Tier,.int .u8 a.Slot.Half] [.int .i64 b.Box,.int .i64 b.Slot.G4,.int .i64 b.Slot.Tier,.int .u8 b.Slot.Half]=some (decide (a=b)):=by
 refine(show _=some ((a.Box==b.Box)&&(((a.Slot.G4==b.Slot.G4)&&((a.Slot.Tier==b.Slot.Tier)&&((a.Slot.Half==b.Slot.Half)&&true)))&&true)) by kernel_rfl).trans (congrArg some ?_)
 rw [Bool.eq_iff_iff]
 simp only [Ma,beq_iff_eq,Mb,Bool.and_true]
 constructor
 ·intro h; obtain⟨_,⟨_,_,_⟩⟩:=a; obtain⟨_,⟨_,_,_⟩⟩:=b; simp_all
 ·intro h; subst h; simp
theorem J57:G29 En 65=true:=by kernel_rfl
theorem Hdc:Hh En 10=true:=by kernel_rfl
theorem Gc1:Hh En 33=true:=by kernel_rfl
theorem R10:Hh En 34=true:=by kernel_rfl
theorem Gfc:Hh En 8=true:=by kernel_rfl
theorem Z1:Hh En 9=true:=by kernel_rfl
theorem Q19:En.eqGuardType En.depth 65=false:=by kernel_rfl
end XWF
open XAF
open XCF
open XFF
open XSF
open XLF
open XVF
open XWF

def Jj (columns:Int):Option Gb:=
 need (decide (columns≤9223372036854775807)) <|
 upto (fun b (a:(List G4)×(List Gs)×Int×Int×Int×Int×(List Row)×(List Frame)×(List Hu)×Int×Int×Int×Int) c=>
  need (decide ((a.1.length+[(G4.mk 0 (b:Int) false 2 0 0 0 0 [] 0 0 0)].length)*112≤140737488355328∧a.1.length+[(G4.mk 0 (b:Int) false 2 0 0 0 0 [] 0 0 0)].length≤maxLen)) <|
  c ((a.1++[(G4.mk 0 (b:Int) false 2 0 0 0 0 [] 0 0 0)]),a.2.1,a.2.2.1,a.2.2.2.1,a.2.2.2.2.1,a.2.2.2.2.2.1,a.2.2.2.2.2.2.1,a.2.2.2.2.2.2.2.1,a.2.2.2.2.2.2.2.2.1,a.2.2.2.2.2.2.2.2.2.1,a.2.2.2.2.2.2.2.2.2.2.1,a.2.2.2.2.2.2.2.2.2.2.2.1,a.2.2.2.2.2.2.2.2.2.2.2.2))
 (fun(a:(List G4)×(List Gs)×Int×Int×Int×Int×(List Row)×(List Frame)×(List Hu)×Int×Int×Int×Int)=>
  some (Gb.mk a.1 a.2.1 (Light.mk a.2.2.1 a.2.2.2.1 a.2.2.2.2.1 a.2.2.2.2.2.1) a.2.2.2.2.2.2.1 a.2.2.2.2.2.2.2.1 a.2.2.2.2.2.2.2.2.1 (Gi.mk a.2.2.2.2.2.2.2.2.2.1 a.2.2.2.2.2.2.2.2.2.2.1 a.2.2.2.2.2.2.2.2.2.2.2.1 a.2.2.2.2.2.2.2.2.2.2.2.2))) columns.toNat 0 ([],[],0,0,0,0,[],[],[],0,0,0,0)
abbrev Kf (a:(List G4)×(List Gs)×Int×Int×Int×Int×(List Row)×(List Frame)×(List Hu)×Int×Int×Int×Int):List AV:=[OW 1101 12 G4.av a.1,E9 a.2.1,I64 a.2.2.1,I64 a.2.2.2.1,I64 a.2.2.2.2.1,I64 a.2.2.2.2.2.1,Ea a.2.2.2.2.2.2.1,Eb a.2.2.2.2.2.2.2.1,Ec a.2.2.2.2.2.2.2.2.1,I64 a.2.2.2.2.2.2.2.2.2.1,I64 a.2.2.2.2.2.2.2.2.2.2.1,I64 a.2.2.2.2.2.2.2.2.2.2.2.1,I64 a.2.2.2.2.2.2.2.2.2.2.2.2]
abbrev Kg:List AV:=[E7 ([]:List G4),E9 ([]:List Gs),I64 0,I64 0,I64 0,I64 0,Ea ([]:List Row),Eb ([]:List Frame),Ec ([]:List Hu),I64 0,I64 0,I64 0,I64 0]
theorem Ra (columns:Int) (r:Gb) (h:Jj columns=some r):Pure En 33 [I64 columns] (·=.agg (Gb.cs r)):=by
 unfold Jj at h
 refine Ha [.cell 2 34] Tryz.func33 O O (Jr fun s=>(JLh (.ptr 1099 0) (Yc 1099 Kg [.slice none 0 0,.slice none 0 0,E0,E0,E0,E0,.slice none 0 0,.slice none 0 0,.slice none 0 0,E0,E0,E0,E0] G85 ⟨.inr ⟨_,O,O⟩,.inr ⟨_,O,O⟩,.inl O,.inl O,.inl O,.inl O,.inr ⟨_,O,O⟩,.inr ⟨_,O,O⟩,.inr ⟨_,O,O⟩,.inl O,.inl O,.inl O,.inl O,ø⟩ O O) O (G6 (s ?_))))
 refine Jr fun t=>(JLh (.ptr 1100 0) (Yc 1100 [.sc (.slice none 0 0),E9 ([]:List Gs),I64 0,I64 0,I64 0,I64 0,Ea ([]:List Row),Eb ([]:List Frame),Ec ([]:List Hu),I64 0,I64 0,I64 0,I64 0] [.slice none 0 0,.slice none 0 0,E0,E0,E0,E0,.slice none 0 0,.slice none 0 0,.slice none 0 0,E0,E0,E0,E0] G85 ⟨.inl O,.inr ⟨_,O,O⟩,.inl O,.inl O,.inl O,.inl O,.inr ⟨_,O,O⟩,.inr ⟨_,O,O⟩,.inr ⟨_,O,O⟩,.inl O,.inl O,.inl O,.inl O,ø⟩ O O) O ?_)
 refine G8c 1100 0 1101 41 12 O O O (cs':=[OW 1101 12 G4.av ([]:List G4),E9 ([]:List Gs),I64 0,I64 0,I64 0,I64 0,Ea ([]:List Row),Eb ([]:List Frame),Ec ([]:List Hu),I64 0,I64 0,I64 0,I64 0]) O (G6 (t (Js fun v=>Jr fun w=>(JLm (I64 columns) O (JLm (I64 0) O (G6 (w (Gk ?_))))))))
 obtain⟨g,h⟩:=J9 h
 obtain⟨x,i,j,e,h⟩:=Gcc h
 refine Hk (fun b (a:(List G4)×(List Gs)×Int×Int×Int×Int×(List Row)×(List Frame)×(List Hu)×Int×Int×Int×Int)=>upto x i (columns.toNat - b) b a=some r) (fun b a=>[(2,.ptr 1099 0),(3,.ptr 1100 0),(5,I64 columns),(6,Em b)]) (fun b a=>[(1101,.spare 41 12 a.1.length a.1.length),(1099,.box 34 Kg),(1100,.box 34 (Kf a))]) (fun b=>columns.toNat - b) 0 ([],[],0,0,0,0,[],[],[],0,0,0,0) h ⟨(.sm O O),⟨⟨_,rfl,.same⟩,fbQ O (.sm O O),fbQ O (.sm O O),ø⟩,rfl⟩ ?_
 clear h
 intro b a c a0 y
 refine Jr fun k=>(JLh (BL (decide ((b:Int) < columns))) (Jf O O O) O (G6 (k (Js fun l=>Gn O (fun hb=>?_) (fun hb=>?_)))))
 ·
  have d:=G76 hb
  obtain⟨z,m,h⟩:=G70 c d
  replace h:=J3f j h
  refine Gp (l (Js fun n=>Gk (Jr fun o=>(JLm (Em b) O (JLm (Em b) O (G6 (o (G2 ?_))))))))
  refine JLh (.ptr 1100 0) (J7 Hm O O) O (JLh (OW 1101 12 G4.av a.1) (Jm J3 O O O O) O (JLm (Em b) O (JLh (.agg [I64 0,Em b,BL false,I64 2,I64 0,I64 0,I64 0,I64 0,E5 ([]:List Int),I64 0,I64 0,I64 0]) (Ja (cs:=[I64 0,Em b,BL false,I64 2,I64 0,I64 0,I64 0,I64 0,E5 ([]:List Int),I64 0,I64 0,I64 0]) [(0,1),(1,1),(2,1),(3,1),(4,1),(5,1),(6,1),(7,1),(8,1),(9,1),(10,1),(11,1)] [I64 0,I64 0,BL false,I64 0,I64 0,I64 0,I64 0,I64 0,E5 ([]:List Int),I64 0,I64 0,I64 0] [E0,E0,.bool false,E0,E0,E0,E0,E0,.slice none 0 0,E0,E0,E0] G63 Gbd ⟨.inl O,.inl O,.inl O,.inl O,.inl O,.inl O,.inl O,.inl O,.inr ⟨_,O,O⟩,.inl O,.inl O,.inl O,ø⟩ O O) O (JLh (E7 ([(G4.mk 0 (b:Int) false 2 0 0 0 0 [] 0 0 0)])) (H7 (xs:=[.agg [I64 0,Em b,BL false,I64 2,I64 0,I64 0,I64 0,I64 0,E5 ([]:List Int),I64 0,I64 0,I64 0]]) O ⟨O,O,ø⟩ Ho Yu O O O O) O ?_))))
  obtain⟨p,h⟩:=J9 h
  refine JLh (OW 1101 12 G4.av (a.1++[(G4.mk 0 (b:Int) false 2 0 0 0 0 [] 0 0 0)])) (R0 (f:=G4.av) (xs:=a.1) (ys:=[(G4.mk 0 (b:Int) false 2 0 0 0 0 [] 0 0 0)]) O O O O Ho H0b p (fun _=>O) (.inl O) O) O (JLh (.ptr 1100 0) (J7 Hm O O) O (Hb (u:=.junk) (H0 (u:=OW 1101 12 G4.av (a.1++[(G4.mk 0 (b:Int) false 2 0 0 0 0 [] 0 0 0)])) (ds:=[OW 1101 12 G4.av (a.1++[(G4.mk 0 (b:Int) false 2 0 0 0 0 [] 0 0 0)]),E9 a.2.1,I64 a.2.2.1,I64 a.2.2.2.1,I64 a.2.2.2.2.1,I64 a.2.2.2.2.2.1,Ea a.2.2.2.2.2.2.1,Eb a.2.2.2.2.2.2.2.1,Ec a.2.2.2.2.2.2.2.2.1,I64 a.2.2.2.2.2.2.2.2.2.1,I64 a.2.2.2.2.2.2.2.2.2.2.1,I64 a.2.2.2.2.2.2.2.2.2.2.2.1,I64 a.2.2.2.2.2.2.2.2.2.2.2.2]) Gbf O O O O O O O O) (G6 (n ?_))))
  refine G2 (JLh (I64 ((b+1:Nat):Int)) (Hz (He d (G0c g)) O O O) O (JLm (I64 ((b+1:Nat):Int)) O (G6 (y _ _ (b+1) ((a.1++[(G4.mk 0 (b:Int) false 2 0 0 0 0 [] 0 0 0)]),a.2.1,a.2.2.1,a.2.2.2.1,a.2.2.2.2.1,a.2.2.2.2.2.1,a.2.2.2.2.2.2.1,a.2.2.2.2.2.2.2.1,a.2.2.2.2.2.2.2.2.1,a.2.2.2.2.2.2.2.2.2.1,a.2.2.2.2.2.2.2.2.2.2.1,a.2.2.2.2.2.2.2.2.2.2.2.1,a.2.2.2.2.2.2.2.2.2.2.2.2) (app1 m h) (by omega) ⟨(.sm O O),⟨⟨_,rfl,.same⟩,fbQ O (.sm O O),fbQ O (.sm O O),ø⟩,rfl⟩))))
 ·
  have h:=app1 e (G71 c (Z8 hb))
  refine Hr (v ?_)
  refine Jr fun q=>(JLh (.agg (Kf a)) (G28 Hn O O O O) O (Hb (u:=.junk) (H0 (u:=.agg (Kf a)) (ds:=(Kf a)) G3b O O O O O O O O) (G6 (q ?_))))
  refine H2 (⟨[.agg [E7 a.1,E9 a.2.1,I64 a.2.2.1,I64 a.2.2.2.1,I64 a.2.2.2.2.1,I64 a.2.2.2.2.2.1,Ea a.2.2.2.2.2.2.1,Eb a.2.2.2.2.2.2.2.1,Ec a.2.2.2.2.2.2.2.2.1,I64 a.2.2.2.2.2.2.2.2.2.1,I64 a.2.2.2.2.2.2.2.2.2.2.1,I64 a.2.2.2.2.2.2.2.2.2.2.2.1,I64 a.2.2.2.2.2.2.2.2.2.2.2.2]],[],ø,O,⟨⟨_,⟨_,_,_,_,O,O,O,.inl ⟨Hn,O⟩⟩,.agg ⟨.list O,.same O,.same O,.same O,.same O,.same O,.same O,.same O,.same O,.same O,.same O,.same O,.same O,ø⟩⟩,ø⟩,O,congrArg (fun r:Gb=>(.agg (Gb.cs r):AV)) (Ky h)⟩)

def G05 (a:List G1) (b:List G1):Option Bool:=
 bif decide ((a.length:Int)≠(b.length:Int)) then
 (some false)
 else
 (each (fun d e (f:Unit) c=>
   Q4 b (e:Int) fun g=>
   bif (!decide (d=g)) then
   (some false)
   else
   (c ()))
  (fun(f:Unit)=>
   some true) a 0 ())
theorem Gea (a:List G1) (b:List G1) (r:Bool) (h:G05 a b=some r):Pure En 34 [E4 a,E4 b] (·=BL r):=by
 unfold G05 at h
 refine Ha [.tmp 4] Tryz.func34 O O (Jr fun a0=>(JLm (BL false) O (G6 (a0 (Js fun a1=>Jr fun a2=>(JLm (E4 a) O (JLl Hd O O O fun a9=>(JLm (E4 b) O (JLl Hd O O O fun b0=>(JLh (BL (decide ((a.length:Int)≠(b.length:Int)))) (Gf1 O O O) O (G6 (a2 (JCc O h (fun h hb=>?_) (fun h hb=>?_))))))))))))))
 ·
  refine Jr fun a3=>(JLm (BL false) O (G6 (a3 (H2 (fin1 BL h)))))
 ·
  refine Gp (a1 (Js fun a4=>Jr fun a5=>(JLm (I64 0) O (G6 (a5 (Gk ?_))))))
  obtain⟨a6,l,m,k,h⟩:=J5 h
  refine Hk (fun c (g:Unit)=>each a6 l (List.drop c a) c g=some r) (fun c g=>[(0,E4 a),(1,E4 b),(5,Em c)]) (fun c g=>[]) (fun c=>a.length - c) 0 () h ⟨(.sm O O),ø,O⟩ ?_
  clear h
  intro c g i b1 a7
  refine Js fun n=>Jr fun o=>(JLm (Em c) O (JLm (E4 a) O (JLl Hd O O O fun p=>(JLh (BL (decide ((c:Int) < (a.length:Int)))) (Jf O O O) O (G6 (o (Gn O (fun hb=>?_) (fun hb=>?_))))))))
  ·
   have j:=Jn hb
   obtain⟨d,a8,q,s,h⟩:=Hs i j
   replace h:=Rx m h
   refine Gp (n (Js fun t=>Gk (Js fun u=>?_)))
   obtain⟨b2,e,v,w,h⟩:=Qx h
   refine JC_d0 Q3 (by kernel_rfl) (Dq (E4 a) (G5 O O) O (Dq (Em c) (G5 O O) O (Dq (Eg d) (H4 (f:=G1.av) (xs:=a) (y:=d) O O O Hd q O) O (Dq (.agg (G1.cs d)) (Gg Qw O O O) O (Dq (E4 b) (G5 O O) O (Dq (Em c) (G5 O O) O (Dq (Eg e) (H4 (f:=G1.av) (xs:=b) (y:=e) O O O Hd w v) O (Dq (.agg (G1.cs e)) (Gg Qw O O O) O (Dq (BL (!decide (d=e))) (R73 (vs:=[.int .i64 d.Box,.int .i64 d.Slot.G4,.int .i64 d.Slot.Tier,.int .u8 d.Slot.Half]) (us:=[.int .i64 e.Box,.int .i64 e.Slot.G4,.int .i64 e.Slot.Tier,.int .u8 e.Slot.Half]) 4 O (Y38 d e) J57 Q19 O O O) O (Dnil (u (JCc O h (fun h hb=>?_) (fun h hb=>?_)))))))))))))
   ·
    refine Jr fun x=>(JLm (BL false) O (G6 (x (H2 (fin1 BL h)))))
   ·
    refine Gp (t (G2 (JLm (Em c) O (JLh (I64 ((c+1:Nat):Int)) (Hz (He j p) O O O) O (JLm (I64 ((c+1:Nat):Int)) O (G6 (a7 _ _ (c+1) () (app1 s h) (by omega) ⟨(.sm O O),ø,rfl⟩)))))))
  ·
   have h:=app1 k (Ht i (H9 hb))
   refine Hr (a4 (Jr fun z=>(JLm (BL true) O (G6 (z (H2 (fin1 BL h)))))))

def R7 (F:Nat) :Option Bool:=
 bnd (Jj 1) fun o=>
 bnd (Hp F o [(Box.mk 1 ByteArray.empty 40 false 0 0 2 0 false),(Box.mk 2 ByteArray.empty 40 false 0 1 3 0 false)] 4) fun b=>
 bnd (Jj 2) fun p=>
 bnd (Hp F p [(Box.mk 1 ByteArray.empty 40 false 0 0 2 0 false),(Box.mk 2 ByteArray.empty 40 false 0 1 3 0 false)] 4) fun a=>
 bnd (Jj 2) fun h=>
 bnd (Jk F h [(Box.mk 1 ByteArray.empty 40 false 0 0 2 0 false),(Box.mk 2 ByteArray.empty 40 false 0 1 3 0 false)] [1,2]) fun d=>
 bnd (Jj 1) fun i=>
 bnd (Hp F i [(Box.mk 1 ByteArray.empty 40 false 0 0 1 0 false),(Box.mk 2 ByteArray.empty 40 false 0 0 1 0 false),(Box.mk 3 ByteArray.empty 40 false 0 0 1 0 false)] 2) fun e=>
 chk (b.2.2+a.2.2) fun j=>
 chk (j+d.2) fun c=>
 bnd (bif (((((decide (c=0))&&(decide (b.2.1=1)))&&(decide (a.2.1=0)))&&(decide ((b.1.States.length:Int)=4)))&&(decide ((a.1.States.length:Int)=4))) then Q4 a.1.States 1 some else some default) fun k=>
 bnd (bif (((((decide (c=0))&&(decide (b.2.1=1)))&&(decide (a.2.1=0)))&&(decide ((b.1.States.length:Int)=4)))&&(decide ((a.1.States.length:Int)=4))) then G05 k [(G1.mk 1 (Slot.mk 0 0 0)),(G1.mk 2 (Slot.mk 1 0 0))] else some default) fun f=>
 bnd (bif ((((((((decide (c=0))&&(decide (b.2.1=1)))&&(decide (a.2.1=0)))&&(decide ((b.1.States.length:Int)=4)))&&(decide ((a.1.States.length:Int)=4)))&&f)&&(decide ((d.1.length:Int)=6)))&&(decide (e.2.2=4))) then Jj 3 else some default) fun l=>
 bnd (bif ((((((((decide (c=0))&&(decide (b.2.1=1)))&&(decide (a.2.1=0)))&&(decide ((b.1.States.length:Int)=4)))&&(decide ((a.1.States.length:Int)=4)))&&f)&&(decide ((d.1.length:Int)=6)))&&(decide (e.2.2=4))) then Jo l [(Box.mk 1 ByteArray.empty 40 false 0 0 2 0 false),(Box.mk 2 ByteArray.empty 40 false 0 1 3 0 false)] 4 else some default) fun g=>
 bnd (bif (((((((((decide (c=0))&&(decide (b.2.1=1)))&&(decide (a.2.1=0)))&&(decide ((b.1.States.length:Int)=4)))&&(decide ((a.1.States.length:Int)=4)))&&f)&&(decide ((d.1.length:Int)=6)))&&(decide (e.2.2=4)))&&g) then Jj 4 else some default) fun m=>
 bnd (bif (((((((((decide (c=0))&&(decide (b.2.1=1)))&&(decide (a.2.1=0)))&&(decide ((b.1.States.length:Int)=4)))&&(decide ((a.1.States.length:Int)=4)))&&f)&&(decide ((d.1.length:Int)=6)))&&(decide (e.2.2=4)))&&g) then Jo m [(Box.mk 1 ByteArray.empty 40 false 0 0 2 0 false),(Box.mk 2 ByteArray.empty 40 false 0 1 3 0 false)] 4 else some default) fun n=>
 some ((((((((((decide (c=0))&&(decide (b.2.1=1)))&&(decide (a.2.1=0)))&&(decide ((b.1.States.length:Int)=4)))&&(decide ((a.1.States.length:Int)=4)))&&f)&&(decide ((d.1.length:Int)=6)))&&(decide (e.2.2=4)))&&g)&&(!n))
theorem G23 (F:Nat)  (r:Bool) (h:R7 F =some r):Pure En 10 [] (·=BL r):=by
 unfold R7 at h
 refine Ha [.tmp 0] Tryz.func10 O O (Jr fun b0=>(JLm (BL false) O (G6 (b0 ?_))))
 refine Jr fun b1=>(JLh (.agg [I64 1,ST Kr,U8 40,BL false,I64 0,I64 0,I64 2,U8 0,BL false]) (Ja (cs:=[I64 1,ST Kr,U8 40,BL false,I64 0,I64 0,I64 2,U8 0,BL false]) [(0,1),(1,1),(2,1),(3,1),(4,1),(5,1),(6,1),(7,1),(8,1)] [I64 0,ST Kr,U8 0,BL false,I64 0,I64 0,I64 0,U8 0,BL false] [E0,.string ByteArray.empty,.int .u8 0,.bool false,E0,E0,E0,.int .u8 0,.bool false] Ym Zh (zzQ O) O O) O (JLh (.agg [I64 2,ST Kr,U8 40,BL false,I64 0,I64 1,I64 3,U8 0,BL false]) (Ja (cs:=[I64 2,ST Kr,U8 40,BL false,I64 0,I64 1,I64 3,U8 0,BL false]) [(0,1),(1,1),(2,1),(3,1),(4,1),(5,1),(6,1),(7,1),(8,1)] [I64 0,ST Kr,U8 0,BL false,I64 0,I64 0,I64 0,U8 0,BL false] [E0,.string ByteArray.empty,.int .u8 0,.bool false,E0,E0,E0,.int .u8 0,.bool false] Ym Zh (zzQ O) O O) O (JLh (E6 [(Box.mk 1 ByteArray.empty 40 false 0 0 2 0 false),(Box.mk 2 ByteArray.empty 40 false 0 1 3 0 false)]) (H7 (xs:=[.agg [I64 1,ST Kr,U8 40,BL false,I64 0,I64 0,I64 2,U8 0,BL false],.agg [I64 2,ST Kr,U8 40,BL false,I64 0,I64 1,I64 3,U8 0,BL false]]) O ⟨O,O,O,O,ø⟩ Hw Qm O O O O) O (JLm (E6 [(Box.mk 1 ByteArray.empty 40 false 0 0 2 0 false),(Box.mk 2 ByteArray.empty 40 false 0 1 3 0 false)]) O (G6 (b1 ?_))))))
 refine Jr fun b2=>?_
 obtain⟨q,b3,h⟩:=Gh h
 refine JLh (.agg (Gb.cs q)) (H3 O (Ra 1 q b3) Gc1 ⟨O,O,ø⟩) O (JLm (E6 [(Box.mk 1 ByteArray.empty 40 false 0 0 2 0 false),(Box.mk 2 ByteArray.empty 40 false 0 1 3 0 false)]) O ?_)
 obtain⟨a,b4,h⟩:=Gh h
 refine JLh (.tup [.agg [LS 1 (E4) a.1.States,LS 1 (E5) a.1.Water],I64 a.2.1,I64 a.2.2]) (H3 O (Jy F q [(Box.mk 1 ByteArray.empty 40 false 0 0 2 0 false),(Box.mk 2 ByteArray.empty 40 false 0 1 3 0 false)] 4 a b4) Z1 ⟨O,O,O,O,O,O,ø⟩) O (JLm (.tup [.agg [LS 1 (E4) a.1.States,LS 1 (E5) a.1.Water],I64 a.2.1,I64 a.2.2]) O (JLh (.agg [LS 1 (E4) a.1.States,LS 1 (E5) a.1.Water]) (Gv O O O) O (JLh (I64 a.2.1) (Gv O O O) O (JLh (I64 a.2.2) (Gv O O O) O (JLh (.ptr 1038 0) (Hc 1038 2 Y4 O O) O (Hb (u:=.junk) (H0 (u:=.agg [LS 1 (E4) a.1.States,LS 1 (E5) a.1.Water]) (ds:=[LS 1 (E4) a.1.States,LS 1 (E5) a.1.Water]) Qv O O O O O O O O) (JLm (I64 a.2.1) O (JLm (I64 a.2.2) O (G6 (b2 ?_))))))))))
 refine fzQ [(1,E6 [(Box.mk 1 ByteArray.empty 40 false 0 0 2 0 false),(Box.mk 2 ByteArray.empty 40 false 0 1 3 0 false)]),(2,.dptr [LS 1 (E4) a.1.States,LS 1 (E5) a.1.Water]),(3,I64 a.2.1),(4,I64 a.2.2)] [] 1038 rfl rfl rfl ø rfl (Jr fun b5=>?_)
 obtain⟨s,b6,h⟩:=Gh h
 refine JLh (.agg (Gb.cs s)) (H3 O (Ra 2 s b6) Gc1 ⟨O,O,ø⟩) O (JLm (E6 [(Box.mk 1 ByteArray.empty 40 false 0 0 2 0 false),(Box.mk 2 ByteArray.empty 40 false 0 1 3 0 false)]) O ?_)
 obtain⟨c,b7,h⟩:=Gh h
 refine JLh (.tup [.agg [LS 1 (E4) c.1.States,LS 1 (E5) c.1.Water],I64 c.2.1,I64 c.2.2]) (H3 O (Jy F s [(Box.mk 1 ByteArray.empty 40 false 0 0 2 0 false),(Box.mk 2 ByteArray.empty 40 false 0 1 3 0 false)] 4 c b7) Z1 ⟨O,O,O,O,O,O,ø⟩) O (JLm (.tup [.agg [LS 1 (E4) c.1.States,LS 1 (E5) c.1.Water],I64 c.2.1,I64 c.2.2]) O (JLh (.agg [LS 1 (E4) c.1.States,LS 1 (E5) c.1.Water]) (Gv O O O) O (JLh (I64 c.2.1) (Gv O O O) O (JLh (I64 c.2.2) (Gv O O O) O (JLh (.ptr 1039 0) (Hc 1039 2 Y4 O O) O (Hb (u:=.junk) (H0 (u:=.agg [LS 1 (E4) c.1.States,LS 1 (E5) c.1.Water]) (ds:=[LS 1 (E4) c.1.States,LS 1 (E5) c.1.Water]) Qv O O O O O O O O) (JLm (I64 c.2.1) O (JLm (I64 c.2.2) O (G6 (b5 ?_))))))))))
 refine fzQ [(1,E6 [(Box.mk 1 ByteArray.empty 40 false 0 0 2 0 false),(Box.mk 2 ByteArray.empty 40 false 0 1 3 0 false)]),(2,.dptr [LS 1 (E4) a.1.States,LS 1 (E5) a.1.Water]),(3,I64 a.2.1),(4,I64 a.2.2),(5,.dptr [LS 1 (E4) c.1.States,LS 1 (E5) c.1.Water]),(6,I64 c.2.1),(7,I64 c.2.2)] [] 1039 rfl rfl rfl ø rfl (Jr fun b8=>?_)
 obtain⟨o,t,h⟩:=Gh h
 refine JLh (.agg (Gb.cs o)) (H3 O (Ra 2 o t) Gc1 ⟨O,O,ø⟩) O (JLm (E6 [(Box.mk 1 ByteArray.empty 40 false 0 0 2 0 false),(Box.mk 2 ByteArray.empty 40 false 0 1 3 0 false)]) O (JLh (E5 [1,2]) (H7 (xs:=[I64 1,I64 2]) O ⟨O,O,O,O,ø⟩ H1 Rb O O O O) O ?_))
 obtain⟨e,v,h⟩:=Gh h
 refine JLh (.tup [LS 1 (E4) e.1,I64 e.2]) (H3 O (Zf F o [(Box.mk 1 ByteArray.empty 40 false 0 0 2 0 false),(Box.mk 2 ByteArray.empty 40 false 0 1 3 0 false)] [1,2] e v) Gfc ⟨O,O,O,O,O,O,ø⟩) O (JLm (.tup [LS 1 (E4) e.1,I64 e.2]) O (JLh (LS 1 (E4) e.1) (Gv O O O) O (JLh (I64 e.2) (Gv O O O) O (JLm (LS 1 (E4) e.1) O (JLm (I64 e.2) O (G6 (b8 ?_)))))))
 refine Jr fun w=>(JLh (.agg [I64 1,ST Kr,U8 40,BL false,I64 0,I64 0,I64 1,U8 0,BL false]) (Ja (cs:=[I64 1,ST Kr,U8 40,BL false,I64 0,I64 0,I64 1,U8 0,BL false]) [(0,1),(1,1),(2,1),(3,1),(4,1),(5,1),(6,1),(7,1),(8,1)] [I64 0,ST Kr,U8 0,BL false,I64 0,I64 0,I64 0,U8 0,BL false] [E0,.string ByteArray.empty,.int .u8 0,.bool false,E0,E0,E0,.int .u8 0,.bool false] Ym Zh (zzQ O) O O) O (JLh (.agg [I64 2,ST Kr,U8 40,BL false,I64 0,I64 0,I64 1,U8 0,BL false]) (Ja (cs:=[I64 2,ST Kr,U8 40,BL false,I64 0,I64 0,I64 1,U8 0,BL false]) [(0,1),(1,1),(2,1),(3,1),(4,1),(5,1),(6,1),(7,1),(8,1)] [I64 0,ST Kr,U8 0,BL false,I64 0,I64 0,I64 0,U8 0,BL false] [E0,.string ByteArray.empty,.int .u8 0,.bool false,E0,E0,E0,.int .u8 0,.bool false] Ym Zh (zzQ O) O O) O (JLh (.agg [I64 3,ST Kr,U8 40,BL false,I64 0,I64 0,I64 1,U8 0,BL false]) (Ja (cs:=[I64 3,ST Kr,U8 40,BL false,I64 0,I64 0,I64 1,U8 0,BL false]) [(0,1),(1,1),(2,1),(3,1),(4,1),(5,1),(6,1),(7,1),(8,1)] [I64 0,ST Kr,U8 0,BL false,I64 0,I64 0,I64 0,U8 0,BL false] [E0,.string ByteArray.empty,.int .u8 0,.bool false,E0,E0,E0,.int .u8 0,.bool false] Ym Zh (zzQ O) O O) O (JLh (E6 [(Box.mk 1 ByteArray.empty 40 false 0 0 1 0 false),(Box.mk 2 ByteArray.empty 40 false 0 0 1 0 false),(Box.mk 3 ByteArray.empty 40 false 0 0 1 0 false)]) (H7 (xs:=[.agg [I64 1,ST Kr,U8 40,BL false,I64 0,I64 0,I64 1,U8 0,BL false],.agg [I64 2,ST Kr,U8 40,BL false,I64 0,I64 0,I64 1,U8 0,BL false],.agg [I64 3,ST Kr,U8 40,BL false,I64 0,I64 0,I64 1,U8 0,BL false]]) O ⟨O,O,O,O,O,O,ø⟩ Hw Qm O O O O) O (JLm (E6 [(Box.mk 1 ByteArray.empty 40 false 0 0 1 0 false),(Box.mk 2 ByteArray.empty 40 false 0 0 1 0 false),(Box.mk 3 ByteArray.empty 40 false 0 0 1 0 false)]) O (G6 (w ?_)))))))
 refine Jr fun x=>?_
 obtain⟨p,z,h⟩:=Gh h
 refine JLh (.agg (Gb.cs p)) (H3 O (Ra 1 p z) Gc1 ⟨O,O,ø⟩) O (JLm (E6 [(Box.mk 1 ByteArray.empty 40 false 0 0 1 0 false),(Box.mk 2 ByteArray.empty 40 false 0 0 1 0 false),(Box.mk 3 ByteArray.empty 40 false 0 0 1 0 false)]) O ?_)
 obtain⟨d,a0,h⟩:=Gh h
 refine JLh (.tup [.agg [LS 1 (E4) d.1.States,LS 1 (E5) d.1.Water],I64 d.2.1,I64 d.2.2]) (H3 O (Jy F p [(Box.mk 1 ByteArray.empty 40 false 0 0 1 0 false),(Box.mk 2 ByteArray.empty 40 false 0 0 1 0 false),(Box.mk 3 ByteArray.empty 40 false 0 0 1 0 false)] 2 d a0) Z1 ⟨O,O,O,O,O,O,ø⟩) O (JLm (.tup [.agg [LS 1 (E4) d.1.States,LS 1 (E5) d.1.Water],I64 d.2.1,I64 d.2.2]) O (JLh (.agg [LS 1 (E4) d.1.States,LS 1 (E5) d.1.Water]) (Gv O O O) O (JLh (I64 d.2.1) (Gv O O O) O (JLh (I64 d.2.2) (Gv O O O) O (JLh (.ptr 1040 0) (Hc 1040 2 Y4 O O) O (Hb (u:=.junk) (H0 (u:=.agg [LS 1 (E4) d.1.States,LS 1 (E5) d.1.Water]) (ds:=[LS 1 (E4) d.1.States,LS 1 (E5) d.1.Water]) Qv O O O O O O O O) (JLm (I64 d.2.1) O (JLm (I64 d.2.2) O (G6 (x ?_))))))))))
 refine fzQ [(1,E6 [(Box.mk 1 ByteArray.empty 40 false 0 0 2 0 false),(Box.mk 2 ByteArray.empty 40 false 0 1 3 0 false)]),(2,.dptr [LS 1 (E4) a.1.States,LS 1 (E5) a.1.Water]),(3,I64 a.2.1),(4,I64 a.2.2),(5,.dptr [LS 1 (E4) c.1.States,LS 1 (E5) c.1.Water]),(6,I64 c.2.1),(7,I64 c.2.2),(8,LS 1 (E4) e.1),(9,I64 e.2),(13,I64 d.2.2)] [] 1040 rfl rfl rfl ø rfl (Jr fun a1=>(JLm (I64 a.2.2) O (JLm (I64 c.2.2) O ?_)))
 obtain⟨b9,a2,h⟩:=J6 h
 refine JLh (I64 b9) (Hz a2 O O O) O (JLm (I64 e.2) O ?_)
 obtain⟨g,a3,h⟩:=J6 h
 refine JLh (I64 g) (Hz a3 O O O) O (JLh (BL (decide (g=0))) (Q6 O O O) O (JLm (BL (decide (g=0))) O (JLo (I64 a.2.1) [] O .sct ø (fun hc=>G5 O O) O (JLo (BL (decide (a.2.1=1))) [56] O .sct ⟨Ua,ø⟩ (fun hc=>Q6 O O O) O (JLh (BL ((decide (g=0))&&(decide (a.2.1=1)))) (Qr O O O O) O (JLm (BL ((decide (g=0))&&(decide (a.2.1=1)))) O (JLo (I64 c.2.1) [] O .sct ø (fun hc=>G5 O O) O (JLo (BL (decide (c.2.1=0))) [60] O .sct ⟨Ua,ø⟩ (fun hc=>Q6 O O O) O (JLh (BL (((decide (g=0))&&(decide (a.2.1=1)))&&(decide (c.2.1=0)))) (Qr O O O O) O (JLm (BL (((decide (g=0))&&(decide (a.2.1=1)))&&(decide (c.2.1=0)))) O (JLo (.dptr [LS 1 (E4) a.1.States,LS 1 (E5) a.1.Water]) [] O .sct ø (fun hc=>Gc Yh O O O) O (JLo (LS 1 (E4) a.1.States) [64] O .sct ⟨Ua,ø⟩ (fun hc=>Gf Q1 O O O) O (JLo (Em a.1.States.length) [65] O .sct ⟨Ua,ø⟩ (fun hc=>G32 (f:=(E4)) (xs:=a.1.States) J8 O O) O ?_)))))))))))))
 refine JLo (BL (decide ((a.1.States.length:Int)=4))) [66] O .sct ⟨Ua,ø⟩ (fun hc=>Q6 O O O) O (JLh (BL ((((decide (g=0))&&(decide (a.2.1=1)))&&(decide (c.2.1=0)))&&(decide ((a.1.States.length:Int)=4)))) (Qr O O O O) O (JLm (BL ((((decide (g=0))&&(decide (a.2.1=1)))&&(decide (c.2.1=0)))&&(decide ((a.1.States.length:Int)=4)))) O (JLo (.dptr [LS 1 (E4) c.1.States,LS 1 (E5) c.1.Water]) [] O .sct ø (fun hc=>Gc Yh O O O) O (JLo (LS 1 (E4) c.1.States) [70] O .sct ⟨Ua,ø⟩ (fun hc=>Gf Q1 O O O) O (JLo (Em c.1.States.length) [71] O .sct ⟨Ua,ø⟩ (fun hc=>G32 (f:=(E4)) (xs:=c.1.States) J8 O O) O (JLo (BL (decide ((c.1.States.length:Int)=4))) [72] O .sct ⟨Ua,ø⟩ (fun hc=>Q6 O O O) O (JLh (BL (((((decide (g=0))&&(decide (a.2.1=1)))&&(decide (c.2.1=0)))&&(decide ((a.1.States.length:Int)=4)))&&(decide ((c.1.States.length:Int)=4)))) (Qr O O O O) O (JLm (BL (((((decide (g=0))&&(decide (a.2.1=1)))&&(decide (c.2.1=0)))&&(decide ((a.1.States.length:Int)=4)))&&(decide ((c.1.States.length:Int)=4)))) O (JLo (.dptr [LS 1 (E4) c.1.States,LS 1 (E5) c.1.Water]) [] O .sct ø (fun hc=>Gc Yh O O O) O (JLo (LS 1 (E4) c.1.States) [76] O .sct ⟨Ua,ø⟩ (fun hc=>Gf Q1 O O O) O ?_))))))))))
 obtain⟨l,a4,h⟩:=Gh h
 refine JLo (.dptr [E4 l]) [77] O .sct ⟨Ua,ø⟩ (fun hc=>(match G2d (Hg hc a4) with | ⟨_,hm_,hy_⟩=>H4 (f:=(E4)) (xs:=c.1.States) (y:=l) O O O J8 hy_ hm_)) O (JLo (E4 l) [78] O .sct ⟨Ua,ø⟩ (fun hc=>Gf Yk O O O) O (JLo (.agg [I64 1,I64 0,I64 0,U8 0]) [] O .sct ø (fun hc=>Ja (cs:=[I64 1,I64 0,I64 0,U8 0]) [(0,1),(1,3)] [I64 0,I64 0,I64 0,U8 0] [E0,E0,E0,.int .u8 0] G62 Gbb (zzQ O) O O) O (JLo (.agg [I64 1,I64 0,U8 0]) [] O .sct ø (fun hc=>Ja (cs:=[I64 1,I64 0,U8 0]) [(0,1),(1,1),(2,1)] [I64 0,I64 0,U8 0] [E0,E0,.int .u8 0] G9d Gbc (zzQ O) O O) O (JLo (.agg [I64 2,I64 1,I64 0,U8 0]) [81] O .sct ⟨Ua,ø⟩ (fun hc=>Ja (cs:=[I64 2,I64 1,I64 0,U8 0]) [(0,1),(1,3)] [I64 0,I64 0,I64 0,U8 0] [E0,E0,E0,.int .u8 0] G62 Gbb (zzQ O) O O) O (JLo (E4 [(G1.mk 1 (Slot.mk 0 0 0)),(G1.mk 2 (Slot.mk 1 0 0))]) [80,82] O .sct ⟨Ua,Ua,ø⟩ (fun hc=>H7 (xs:=[.agg [I64 1,I64 0,I64 0,U8 0],.agg [I64 2,I64 1,I64 0,U8 0]]) O ⟨O,O,O,O,ø⟩ Hd Qk O O O O) O ?_)))))
 obtain⟨i,a5,h⟩:=Gh h
 refine JLo (BL i) [79,83] O .sct ⟨Ua,Ua,ø⟩ (fun hc=>H3 (args:=[E4 l,E4 [(G1.mk 1 (Slot.mk 0 0 0)),(G1.mk 2 (Slot.mk 1 0 0))]]) O (Gea l [(G1.mk 1 (Slot.mk 0 0 0)),(G1.mk 2 (Slot.mk 1 0 0))] i (Hg hc a5)) R10 ⟨O,O,O,O,ø⟩) O (JLh (BL ((((((decide (g=0))&&(decide (a.2.1=1)))&&(decide (c.2.1=0)))&&(decide ((a.1.States.length:Int)=4)))&&(decide ((c.1.States.length:Int)=4)))&&i)) (Qr O O O O) O (JLm (BL ((((((decide (g=0))&&(decide (a.2.1=1)))&&(decide (c.2.1=0)))&&(decide ((a.1.States.length:Int)=4)))&&(decide ((c.1.States.length:Int)=4)))&&i)) O (JLo (LS 1 (E4) e.1) [] O .sct ø (fun hc=>G5 O O) O (JLo (Em e.1.length) [87] O .sct ⟨Ua,ø⟩ (fun hc=>G32 (f:=(E4)) (xs:=e.1) J8 O O) O (JLo (BL (decide ((e.1.length:Int)=6))) [88] O .sct ⟨Ua,ø⟩ (fun hc=>Q6 O O O) O (JLh (BL (((((((decide (g=0))&&(decide (a.2.1=1)))&&(decide (c.2.1=0)))&&(decide ((a.1.States.length:Int)=4)))&&(decide ((c.1.States.length:Int)=4)))&&i)&&(decide ((e.1.length:Int)=6)))) (Qr O O O O) O (JLm (BL (((((((decide (g=0))&&(decide (a.2.1=1)))&&(decide (c.2.1=0)))&&(decide ((a.1.States.length:Int)=4)))&&(decide ((c.1.States.length:Int)=4)))&&i)&&(decide ((e.1.length:Int)=6)))) O (JLo (I64 d.2.2) [] O .sct ø (fun hc=>G5 O O) O (JLo (BL (decide (d.2.2=4))) [92] O .sct ⟨Ua,ø⟩ (fun hc=>Q6 O O O) O (JLh (BL ((((((((decide (g=0))&&(decide (a.2.1=1)))&&(decide (c.2.1=0)))&&(decide ((a.1.States.length:Int)=4)))&&(decide ((c.1.States.length:Int)=4)))&&i)&&(decide ((e.1.length:Int)=6)))&&(decide (d.2.2=4)))) (Qr O O O O) O (JLm (BL ((((((((decide (g=0))&&(decide (a.2.1=1)))&&(decide (c.2.1=0)))&&(decide ((a.1.States.length:Int)=4)))&&(decide ((c.1.States.length:Int)=4)))&&i)&&(decide ((e.1.length:Int)=6)))&&(decide (d.2.2=4)))) O ?_)))))))))))
 obtain⟨m,a6,h⟩:=Gh h
 refine JLo (.agg (Gb.cs m)) [] O .sct ø (fun hc=>H3 (args:=[I64 3]) O (Ra 3 m (Hg hc a6)) Gc1 ⟨O,O,ø⟩) O (JLo (E6 [(Box.mk 1 ByteArray.empty 40 false 0 0 2 0 false),(Box.mk 2 ByteArray.empty 40 false 0 1 3 0 false)]) [] O .sct ø (fun hc=>G5 O O) O ?_)
 obtain⟨j,a7,h⟩:=Gh h
 refine JLo (BL j) [96,97] O .sct ⟨Ua,Ua,ø⟩ (fun hc=>H3 (args:=[.agg (Gb.cs m),E6 [(Box.mk 1 ByteArray.empty 40 false 0 0 2 0 false),(Box.mk 2 ByteArray.empty 40 false 0 1 3 0 false)],I64 4]) O (Gc8 m [(Box.mk 1 ByteArray.empty 40 false 0 0 2 0 false),(Box.mk 2 ByteArray.empty 40 false 0 1 3 0 false)] 4 j (Hg hc a7)) Hd9 ⟨O,O,O,O,O,O,ø⟩) O (JLh (BL (((((((((decide (g=0))&&(decide (a.2.1=1)))&&(decide (c.2.1=0)))&&(decide ((a.1.States.length:Int)=4)))&&(decide ((c.1.States.length:Int)=4)))&&i)&&(decide ((e.1.length:Int)=6)))&&(decide (d.2.2=4)))&&j)) (Qr O O O O) O (JLm (BL (((((((((decide (g=0))&&(decide (a.2.1=1)))&&(decide (c.2.1=0)))&&(decide ((a.1.States.length:Int)=4)))&&(decide ((c.1.States.length:Int)=4)))&&i)&&(decide ((e.1.length:Int)=6)))&&(decide (d.2.2=4)))&&j)) O ?_))
 obtain⟨n,a8,h⟩:=Gh h
 refine JLo (.agg (Gb.cs n)) [] O .sct ø (fun hc=>H3 (args:=[I64 4]) O (Ra 4 n (Hg hc a8)) Gc1 ⟨O,O,ø⟩) O (JLo (E6 [(Box.mk 1 ByteArray.empty 40 false 0 0 2 0 false),(Box.mk 2 ByteArray.empty 40 false 0 1 3 0 false)]) [] O .sct ø (fun hc=>G5 O O) O ?_)
 obtain⟨k,a9,h⟩:=Gh h
 refine JLo (BL k) [101,102] O .sct ⟨Ua,Ua,ø⟩ (fun hc=>H3 (args:=[.agg (Gb.cs n),E6 [(Box.mk 1 ByteArray.empty 40 false 0 0 2 0 false),(Box.mk 2 ByteArray.empty 40 false 0 1 3 0 false)],I64 4]) O (Gc8 n [(Box.mk 1 ByteArray.empty 40 false 0 0 2 0 false),(Box.mk 2 ByteArray.empty 40 false 0 1 3 0 false)] 4 k (Hg hc a9)) Hd9 ⟨O,O,O,O,O,O,ø⟩) O (JLo (BL (!k)) [103] O .sct ⟨Ua,ø⟩ (fun hc=>G1f (b:=k) O O) O (JLh (BL ((((((((((decide (g=0))&&(decide (a.2.1=1)))&&(decide (c.2.1=0)))&&(decide ((a.1.States.length:Int)=4)))&&(decide ((c.1.States.length:Int)=4)))&&i)&&(decide ((e.1.length:Int)=6)))&&(decide (d.2.2=4)))&&j)&&(!k))) (Qr O O O O) O (JLm (BL ((((((((((decide (g=0))&&(decide (a.2.1=1)))&&(decide (c.2.1=0)))&&(decide ((a.1.States.length:Int)=4)))&&(decide ((c.1.States.length:Int)=4)))&&i)&&(decide ((e.1.length:Int)=6)))&&(decide (d.2.2=4)))&&j)&&(!k))) O (G6 (a1 ?_)))))
 refine H2 (fin1 BL h)

end
end Go.Proofs.YtibhpogonkdiaaaGreat
