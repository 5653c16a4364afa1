/-
 Models of functions of the program,and that they return what the models say.
-/
import Derived.Test.YtpgkkengffpnpaaGreatXB
set_option linter.unnecessarySimpa false
set_option maxRecDepth 100000
set_option maxHeartbeats 1000000
set_option linter.unusedVariables false
set_option linter.unusedSimpArgs false
namespace Go.Proofs.YtpgkkengffpnpaaGreat
open Go.RowKit
noncomputable section
structure J3 where
 e0:Int
 e1:Int
 deriving DecidableEq,Inhabited
def J3.cs (x:J3):List AV:=[G0 x.e0,G0 x.e1]
def J3.av (x:J3):AV:=.agg x.cs
def J3.ks (x:J3):List Value:=[.int .i64 x.e0,.int .i64 x.e1]
def J3.kv (x:J3):Value:=.agg x.ks.toArray
namespace XPF
open XAF
open XCF
open XGF
open XHF
open XBF
theorem tq_57 (a b:J3):H90 Ek 4 57 [.int .i64 a.e0,.int .i64 a.e1] [.int .i64 b.e0,.int .i64 b.e1]=some (decide (a=b)):=by
 refine(show _=some ((a.e0==b.e0)&&((a.e1==b.e1)&&true)) by kernel_rfl).trans (congrArg some ?_)
 rw [Bool.eq_iff_iff]
 simp only [Bool.and_eq_true,beq_iff_eq,decide_eq_true_eq,Bool.and_true]
 constructor
 ·intro h; obtain⟨_,_⟩:=a; obtain⟨_,_⟩:=b; simp_all
 ·intro h; subst h; simp
theorem J9c:arrB Ek 57 3 1=true:=by kernel_rfl
theorem H10:Hj Ek 10=true:=by kernel_rfl
theorem Z8:Hj Ek 11=true:=by kernel_rfl
theorem H0f:Hj Ek 12=true:=by kernel_rfl
theorem G8a:Hj Ek 13=true:=by kernel_rfl
theorem G89:Hj Ek 15=true:=by kernel_rfl
theorem G88:Hj Ek 16=true:=by kernel_rfl
theorem G61:Hj Ek 18=true:=by kernel_rfl
theorem J46:Hj Ek 21=true:=by kernel_rfl
theorem J45:Hj Ek 22=true:=by kernel_rfl
theorem J43:Hj Ek 26=true:=by kernel_rfl
theorem J42:Hj Ek 27=true:=by kernel_rfl
theorem Jed:Hj Ek 35=true:=by kernel_rfl
theorem Gc6:Hj Ek 36=true:=by kernel_rfl
theorem Jec:Hj Ek 37=true:=by kernel_rfl
theorem Jeb:Hj Ek 38=true:=by kernel_rfl
theorem Je0:Hj Ek 60=true:=by kernel_rfl
theorem Jdf:Hj Ek 61=true:=by kernel_rfl
theorem Jd9:Hj Ek 72=true:=by kernel_rfl
theorem Gfd:Hj Ek 8=true:=by kernel_rfl
theorem H52:Hj Ek 9=true:=by kernel_rfl
theorem H6d:Jo Ek 61 4 4=true:=by kernel_rfl
theorem H50:G6f Ek 56 57 3=true:=by kernel_rfl
theorem Ja6:placesOf Ek 35=some [(0,1),(1,1),(2,4),(6,1),(7,1),(8,1),(9,4)]:=by kernel_rfl
theorem J23:(Ek.info? 57).bind (fun i=>i.zero.map Value.cells)=some (List.toArray [.int .i64 0,.int .i64 0]):=by kernel_rfl
theorem G0a:R4 Ek 35 13=true:=by kernel_rfl
theorem tk_57:Gc0 Ek 57 J3.kv:=Gc0.of_eq J3.ks (by kernel_rfl) (fun a b h=>by simp only [J3.ks,List.cons.injEq,Value.int.injEq,Value.bool.injEq,Value.string.injEq,true_and,and_true] at h; obtain⟨_,_⟩:=a; obtain⟨_,_⟩:=b; simp_all) 4 (by decide) (fun a b=>tq_57 a b) (fun a=>by kernel_rfl) (fun a=>by simp [Instr.sameBits,J3.ks])
end XPF
open XAF
open XCF
open XGF
open XHF
open XBF
open XPF

def Jd (l:List Gx) (covers:Int) (drops:List Gn) (most:Int):Option (Gs×(List Ga)×(List Stowed)):=
 bnd (Ro l covers) fun r3=>
 bnd (Ra r3 drops most) fun r5=>
 each (fun y41 i41 (s41:(List Ga)) nx41=>
  Yy s41 (i41:Int) fun y46=>
  bnd (quo64 y46.Kilos 100) fun v47=>
  bnd (H71 v47 4) fun v48=>
  G09 (1+v48) fun v49=>
  Yy s41 (i41:Int) fun y50=>
  nx41 (s41.set (i41:Int).toNat (Ga.mk y50.ID y50.Number y50.Size y50.High y50.Kilos y50.Load v49 y50.Class y50.Reefer)))
 (fun(s41:(List Ga))=>
  some (r3,s41,r5.2)) r5.1 0 r5.1
theorem G05 (l:List Gx) (covers:Int) (drops:List Gn) (most:Int) (r:Gs×(List Ga)×(List Stowed)) (h:Jd l covers drops most=some r):Pure Ek 8 [Eb l,.sc (.int .u32 covers),Ea drops,G0 most] (·=.tup [.agg (Gs.cs r.1),E2 r.2.1,E1 r.2.2]):=by
 unfold Jd at h
 refine H4 [.cell 8 35,.tmp 9,.tmp 10] Tryz.func8 O O (Jr fun hK1=>(JLh (.ptr 1021 0) (G83 1021 [E3 ([]:List G4),E7 ([]:List G9),G0 0,G0 0,G0 0,G0 0,E4 ([]:List Row),E5 ([]:List Frame),E6 ([]:List Gi),G0 0,G0 0,G0 0,G0 0] [.slice none 0 0,.slice none 0 0,.int .i64 0,.int .i64 0,.int .i64 0,.int .i64 0,.slice none 0 0,.slice none 0 0,.slice none 0 0,.int .i64 0,.int .i64 0,.int .i64 0,.int .i64 0] G86 ⟨.inr ⟨_,O,O⟩,.inr ⟨_,O,O⟩,.inl O,.inl O,.inl O,.inl O,.inr ⟨_,O,O⟩,.inr ⟨_,O,O⟩,.inr ⟨_,O,O⟩,.inl O,.inl O,.inl O,.inl O,G⟩ O O) O (JLh (E2 ([]:List Ga)) (He 9 O O) O (JLh (E1 ([]:List Stowed)) (He 4 O O) O (G7 (hK1 ?_))))))
 refine Jr fun hK2=>(Yk (Eb l) O (Yk (.sc (.int .u32 covers)) O ?_))
 obtain⟨r3,hr3,h⟩:=Gd h
 refine JLh (.agg (Gs.cs r3)) (Gt O (G56 l covers r3 hr3) J46 ⟨O,O,O,O,G⟩) O (JLh (.ptr 1023 0) (Hu 1023 13 G0a O O) O (Hw (u:=.junk) (Hi (u:=.agg (Gs.cs r3)) (ds:=(Gs.cs r3)) Yt O O O O O O O O) (G7 (hK2 ?_))))
 refine Gr [(2,Ea drops),(3,G0 most),(8,.ptr 1021 0),(11,Ec r3)] [(1021,.box 35 [E3 ([]:List G4),E7 ([]:List G9),G0 0,G0 0,G0 0,G0 0,E4 ([]:List Row),E5 ([]:List Frame),E6 ([]:List Gi),G0 0,G0 0,G0 0,G0 0])] 1023 rfl rfl rfl ⟨⟨_,rfl,.boxEq rfl rfl⟩,G⟩ rfl (by repeat' (first | exact .ptr | constructor)) (Jr fun hK4=>(JLh (.agg (Gs.cs r3)) (Gg H3 O O O) O (Yk (Ea drops) O (Yk (G0 most) O ?_))))
 obtain⟨r5,hr5,h⟩:=Gd h
 refine G5d O O O (Hcd (args:=[.agg (Gs.cs r3),Ea drops,G0 most]) (L0:=[]) (u:=fun p=>.tup [.vec 1063 p 9 r5.1.length,E1 r5.2]) (Lr:=fun p=>[(1063,.vec 61 9 p (r5.1.map Ga.av))]) O (G4c r3 drops most r5 hr5) J45 ⟨.inl O,O,.inl O,O,.inl O,O,G⟩ G O (fun _=>O)) ?_
 rintro u_ L_ ⟨v6,rfl,rfl⟩
 refine Yk (.tup [.vec 1063 v6 9 r5.1.length,E1 r5.2]) O (JLh (.vec 1063 v6 9 r5.1.length) (Gm O O O) O (JLh (E1 r5.2) (Gm O O O) O (Yk (.vec 1063 v6 9 r5.1.length) O (Yk (E1 r5.2) O (G7 (hK4 (Js fun hK7=>Jr fun hK8=>(Yk (.vec 1063 v6 9 r5.1.length) O (Jc0 (f:=Ga.av) (xs:=r5.1) Q6 O O O (fun hm26=>?_) O O O)))))))))
 refine Yk (G0 0) O (G7 (hK8 (Gv ?_)))
 obtain⟨b41,kx41,hb41,hkx41,h⟩:=J0 h
 refine Ho (fun i41 (s41:(List Ga))=>each b41 kx41 (List.drop i41 r5.1) i41 s41=some r) (fun i41 s41=>[(8,.ptr 1021 0),(11,Ec r3),(12,.vec 1063 v6 9 r5.1.length),(13,E1 r5.2),(26,Ej r5.1.length),(27,Ej i41)]) (fun i41 s41=>[(1063,.vec 61 9 v6 (s41.map Ga.av)),(1021,.box 35 [E3 ([]:List G4),E7 ([]:List G9),G0 0,G0 0,G0 0,G0 0,E4 ([]:List Row),E5 ([]:List Frame),E6 ([]:List Gi),G0 0,G0 0,G0 0,G0 0])]) (fun i41=>r5.1.length - i41) 0 r5.1 h ⟨(by repeat' constructor),⟨⟨_,rfl,.vec⟩,⟨_,rfl,.boxL rfl (by repeat' constructor)⟩,G⟩,rfl⟩ ?_
 clear h
 intro i41 s41 hi41 K41 e41
 refine Jr fun hK42=>(JLh (BL (decide ((i41:Int) < (r5.1.length:Int)))) (J9 O O O) O (G7 (hK42 (Js fun hK43=>Gk O (fun hb=>?_) (fun hb=>?_)))))
 ·
  have hk41:=Jg hb
  obtain⟨y41,nx41,hy41,hn41,h⟩:=Hp hi41 hk41
  replace h:=Rz hb41 h
  refine Gq (hK43 (Js fun hK44=>Gv (Jr fun hK45=>(Yk (Ej i41) O (Yk (Ej i41) O (G7 (hK45 (G3 (Yk (.vec 1063 v6 9 r5.1.length) O (Yk (Ej i41) O (Yk (.vec 1063 v6 9 r5.1.length) O (Yk (Ej i41) O ?_))))))))))))
  obtain⟨y46,hmy46,hy46,h⟩:=H60 h
  refine JLh (.vptr 1063 v6 ((i41:Int).toNat) 0) (J1d (f:=Ga.av) (xs:=s41) (y:=y46) O O O O Q6 hy46 hmy46) O (JLh (.vptr 1063 v6 ((i41:Int).toNat) 4) (Hc6 H6d O O O) O (JLh (G0 y46.Kilos) (Jc4 (f:=Ga.av) (xs:=s41) (y:=y46) Gb O O O hy46 O O) O ?_))
  obtain⟨v47,hv47,h⟩:=Gd h
  refine JLh (G0 v47) (A_quo (H58 hv47).1 (H58 hv47).2 O O O) O ?_
  obtain⟨v48,hv48,h⟩:=Gd h
  refine JLh (G0 v48) (J8f (Yn hv48).1 (Yn hv48).2 O O O) O ?_
  obtain⟨v49,hv49,h⟩:=Jm h
  refine JLh (G0 v49) (Hx hv49 O O O) O ?_
  obtain⟨y50,hmy50,hy50,h⟩:=H60 h
  refine JLh (.vptr 1063 v6 ((i41:Int).toNat) 0) (J1d (f:=Ga.av) (xs:=s41) (y:=y50) O O O O Q6 hy50 hmy50) O (JLh (.vptr 1063 v6 ((i41:Int).toNat) 6) (Hc6 G95 O O O) O (Hw (u:=.junk) (J9e (f:=Ga.av) (xs:=s41) (e:=y50) (z:=(Ga.mk y50.ID y50.Number y50.Size y50.High y50.Kilos y50.Load v49 y50.Class y50.Reefer)) (u:=G0 v49) G3e O O O O hy50 O O O O O) (G7 (hK44 (G3 (JLh (G0 ((i41+1:Nat):Int)) (Hx (Hn hk41 hm26) O O O) O (Yk (G0 ((i41+1:Nat):Int)) O (G7 (e41 _ _ (i41+1) (s41.set (i41:Int).toNat (Ga.mk y50.ID y50.Number y50.Size y50.High y50.Kilos y50.Load v49 y50.Class y50.Reefer)) (app1 hn41 h) (by omega) ⟨(by repeat' constructor),⟨⟨_,rfl,.vec⟩,⟨_,rfl,.boxL rfl (by repeat' constructor)⟩,G⟩,rfl⟩)))))))))
 ·
  have h:=app1 hkx41 (Hq hi41 (Hb hb))
  refine Ht (hK7 (Jr fun hK51=>(JLh (.agg (Gs.cs r3)) (Gg H3 O O O) O (Yk (.vec 1063 v6 9 r5.1.length) O (Yk (E1 r5.2) O (Hw (u:=.junk) (Hi (u:=.agg (Gs.cs r3)) (ds:=(Gs.cs r3)) Yt O O O O O O O O) (Yk (.vec 1063 v6 9 r5.1.length) O (Yk (E1 r5.2) O (G7 (hK51 ?_))))))))))
  refine H96 [(8,.ptr 1021 0),(9,E2 s41),(10,E1 r5.2)] [(1021,.box 35 (Gs.cs r3))] 1063 rfl rfl ⟨⟨_,rfl,.boxEq rfl rfl⟩,G⟩ rfl (by exact⟨.conv (.same rfl),.vec,.conv (.same rfl),G⟩) (Gw (⟨[.agg (Gs.cs r3),E2 s41,E1 r5.2],[],G,O,⟨⟨_,⟨_,_,_,_,O,O,O,.inl ⟨H3,O⟩⟩,.conv (.same O)⟩,⟨_,O,.conv (.same O)⟩,⟨_,O,.conv (.same O)⟩,G⟩,O,congrArg (fun r:Gs×(List Ga)×(List Stowed)=>(.tup [.agg (Gs.cs r.1),E2 r.2.1,E1 r.2.2]:AV)) (Option.some.inj h)⟩))

def G4a (x:Stowed) (p1:Int):Option Bool:=
 some (decide (x.Ga=p1))
theorem J86 (x:Stowed) (p1:Int) (r:Bool) (h:G4a x p1=some r):Pure Ek 60 [.agg (Stowed.cs x),.dptr [G0 p1]] (·=BL r):=by
 unfold G4a at h
 refine H4 [.tmp 3] Tryz.func60 O O (Jr fun hK1=>(JLh (.ptr 1130 0) (Jj (cs:=[G0 x.Ga,G0 x.Slot.G4,G0 x.Slot.Tier,U8 x.Slot.Half]) 1130 O O O O O) O (Yk (BL false) O (G7 (hK1 (Gr [(1,.dptr [G0 p1]),(2,Ed x)] [] 1130 rfl rfl rfl G rfl (by exact⟨.conv (.same rfl),.ptr,G⟩) (Jr fun hK2=>(JLh (Ed x) (Gf Hf O O O) O (JLh (G0 x.Ga) (Gh Gb O O O) O (JLh (G0 p1) (Gh Gb O O O) O (JLh (BL (decide (x.Ga=p1))) (Jx O O O) O (Yk (BL (decide (x.Ga=p1))) O (G7 (hK2 (Gw (fin1 BL h))))))))))))))))

def G91 (l:List Stowed) (id_:Int):Option Bool:=
 bnd (Jq l (fun z0=>G4a z0 id_)) fun r3=>
 some r3
theorem Hc1 (l:List Stowed) (id_:Int) (r:Bool) (h:G91 l id_=some r):Pure Ek 26 [E1 l,G0 id_] (·=BL r):=by
 unfold G91 at h
 refine H4 [.tmp 4] Tryz.func26 O O (Jr fun hK1=>(JLh (.ptr 1076 0) (Jj (cs:=[G0 id_]) 1076 O O O O O) O (Yk (BL false) O (G7 (hK1 (Gr [(0,E1 l),(3,.dptr [G0 id_])] [] 1076 rfl rfl rfl G rfl (by exact⟨.conv (.same rfl),.ptr,G⟩) (Jr fun hK2=>(Yk (E1 l) O (JLh (.fn 60 [.dptr [G0 id_]]) (Y4 (cs:=[.dptr [G0 id_]]) O O) O ?_)))))))))
 obtain⟨r3,hr3,h⟩:=Gd h
 refine JLh (BL r3) (Gt O (Zf l (fun z0=>G4a z0 id_) 60 [.dptr [G0 id_]] Je0 O (fun z0 q hq=>J86 z0 id_ q hq) r3 hr3) J37 ⟨O,O,O,O,G⟩) O (Yk (BL r3) O (G7 (hK2 (Gw (fin1 BL h)))))

def Yr (F:Nat) (other:Int) (p1:Gs) (p2:List Ga) (p3:List Stowed) (p4:Int) (p5:Int):Option Bool:=
 bnd (Rn F p1 p2 p3 [other]) fun r3=>
 bnd (J4 p2 other) fun r5=>
 bnd (bif decide (r5 < p4) then Q7 r3.1 p5 else some default) fun r6=>
 some ((decide (r5 < p4))&&r6)
theorem H6c (F:Nat) (other:Int) (p1:Gs) (p2:List Ga) (p3:List Stowed) (p4:Int) (p5:Int) (r:Bool) (h:Yr F other p1 p2 p3 p4 p5=some r):Pure Ek 61 [G0 other,Ec p1,.dptr [E2 p2],.dptr [E1 p3],.dptr [G0 p4],.dptr [G0 p5]] (·=BL r):=by
 unfold Yr at h
 refine H4 [.tmp 7] Tryz.func61 O O (Jr fun hK1=>(Yk (BL false) O (G7 (hK1 (Jr fun hK2=>(JLh (.agg (Gs.cs p1)) (Gg H3 O O O) O (JLh (E2 p2) (Gh Y7 O O O) O (JLh (E1 p3) (Gh Qd O O O) O (Yk (G0 other) O (JLh (E0 [other]) (H7 (xs:=[G0 other]) O ⟨O,O,G⟩ Gp Jy O O O O) O ?_))))))))))
 obtain⟨r3,hr3,h⟩:=Gd h
 refine JLh (.tup [E0 r3.1,G0 r3.2]) (Gt O (Gd7.down F p1 p2 p3 [other] r3 hr3) H85 ⟨O,O,O,O,O,O,O,O,G⟩) O (Yk (.tup [E0 r3.1,G0 r3.2]) O (JLh (E0 r3.1) (Gm O O O) O (JLh (G0 r3.2) (Gm O O O) O (Yk (E0 r3.1) O (Yk (G0 r3.2) O (G7 (hK2 (Js fun hK4=>?_))))))))
 obtain⟨r5,hr5,h⟩:=Gd h
 obtain⟨r6,hr6,h⟩:=Gd h
 refine JC_d0 Q9 (by kernel_rfl) (Dq (E2 p2) (Gh Y7 O O O) O (Dq (G0 other) (G5 O O) O (Dq (G0 r5) (Gt (args:=[E2 p2,G0 other]) O (Qo p2 other r5 hr5) G2d ⟨O,O,O,O,G⟩) O (Dq (G0 p4) (Gh Gb O O O) O (Dq (BL (decide (r5 < p4))) (J9 O O O) O (Dq (BL (decide (r5 < p4))) (G5 O O) O (Do (E0 r3.1) [] O .sct G (fun hc=>G5 O O) O (Do (G0 p5) [] O .sct G (fun hc=>Gh Gb O O O) O (Do (BL r6) [25,26] O .sct ⟨Ua,Ua,G⟩ (fun hc=>Gt (args:=[E0 r3.1,G0 p5]) O (Yq r3.1 p5 r6 (H2 hc hr6)) H0d ⟨O,O,O,O,G⟩) O (Dq (BL ((decide (r5 < p4))&&r6)) (Q8 O O O O) O (Dq (BL ((decide (r5 < p4))&&r6)) (G8 O O) O (Dnil (hK4 (Gw (fin1 BL h)))))))))))))))

def Zi (F:Nat) (s:Gs) (boxes:List Ga) (l:List Stowed) (id_:Int):Option (List Int):=
 bnd (J4 boxes id_) fun r3=>
 each (fun y24 i24 (s24:(List Int)) nx24=>
  jp (fun kj27=>
   bnd (bif decide (y24.Ga≠id_) then Yr F y24.Ga s boxes l r3 id_ else some default) fun r30=>
   bif ((decide (y24.Ga≠id_))&&r30) then
   (need (decide ((s24.length+[y24.Ga].length)*8≤140737488355328∧s24.length+[y24.Ga].length≤maxLen)) <|
    kj27 (s24++[y24.Ga]))
   else
   (kj27 s24)) fun(j27:(List Int))=>
  nx24 j27)
 (fun(s24:(List Int))=>
  some s24) l 0 []
theorem Ged (F:Nat) (s:Gs) (boxes:List Ga) (l:List Stowed) (id_:Int) (r:(List Int)) (h:Zi F s boxes l id_=some r):Pure Ek 27 [.agg (Gs.cs s),E2 boxes,E1 l,G0 id_] (·=E0 r):=by
 unfold Zi at h
 refine H4 [.tmp 8] Tryz.func27 O O (Jr fun hK1=>(JLh (.ptr 1077 0) (Jj (cs:=(Gs.cs s)) 1077 O O O O O) O (JLh (.ptr 1078 0) (Jj (cs:=[E2 boxes]) 1078 O O O O O) O (JLh (.ptr 1079 0) (Jj (cs:=[E1 l]) 1079 O O O O O) O (JLh (.ptr 1080 0) (Jj (cs:=[G0 id_]) 1080 O O O O O) O (JLh (E0 ([]:List Int)) (He 1 O O) O (G7 (hK1 ?_))))))))
 refine Gr [(4,Ec s),(5,.ptr 1078 0),(6,.ptr 1079 0),(7,.ptr 1080 0)] [(1078,.box 36 [E2 boxes]),(1079,.box 37 [E1 l]),(1080,.box 3 [G0 id_])] 1077 rfl rfl rfl ⟨⟨_,rfl,.boxEq rfl rfl⟩,⟨_,rfl,.boxEq rfl rfl⟩,⟨_,rfl,.boxEq rfl rfl⟩,G⟩ rfl (by repeat' (first | exact .ptr | constructor)) ?_
 refine Gr [(4,Ec s),(5,.dptr [E2 boxes]),(6,.ptr 1079 0),(7,.ptr 1080 0)] [(1079,.box 37 [E1 l]),(1080,.box 3 [G0 id_])] 1078 rfl rfl rfl ⟨⟨_,rfl,.boxEq rfl rfl⟩,⟨_,rfl,.boxEq rfl rfl⟩,G⟩ rfl (by repeat' (first | exact .ptr | constructor)) ?_
 refine Gr [(4,Ec s),(5,.dptr [E2 boxes]),(6,.dptr [E1 l]),(7,.ptr 1080 0)] [(1080,.box 3 [G0 id_])] 1079 rfl rfl rfl ⟨⟨_,rfl,.boxEq rfl rfl⟩,G⟩ rfl (by repeat' (first | exact .ptr | constructor)) ?_
 refine Gr [(4,Ec s),(5,.dptr [E2 boxes]),(6,.dptr [E1 l]),(7,.dptr [G0 id_])] [] 1080 rfl rfl rfl G rfl (by repeat' (first | exact .ptr | constructor)) (Jr fun hK2=>(JLh (E2 boxes) (Gh Y7 O O O) O (JLh (G0 id_) (Gh Gb O O O) O ?_)))
 obtain⟨r3,hr3,h⟩:=Gd h
 refine JLh (G0 r3) (Gt O (Qo boxes id_ r3 hr3) G2d ⟨O,O,O,O,G⟩) O (JLh (.ptr 1081 0) (Hu 1081 1 Jy O O) O (Hw (u:=.junk) (Hi (u:=G0 r3) (ds:=[G0 r3]) G3e O O O O O O O O) (G7 (hK2 (Gr [(4,Ec s),(5,.dptr [E2 boxes]),(6,.dptr [E1 l]),(7,.dptr [G0 id_]),(9,.dptr [G0 r3])] [] 1081 rfl rfl rfl G rfl (by repeat' (first | exact .ptr | constructor)) ?_)))))
 refine Jr fun hK4=>(JLh (.fn 61 [.dptr (Gs.cs s),.dptr [E2 boxes],.dptr [E1 l],.dptr [G0 r3],.dptr [G0 id_]]) (Y4 (cs:=[.dptr (Gs.cs s),.dptr [E2 boxes],.dptr [E1 l],.dptr [G0 r3],.dptr [G0 id_]]) O O) O (Yk (.fn 61 [.dptr (Gs.cs s),.dptr [E2 boxes],.dptr [E1 l],.dptr [G0 r3],.dptr [G0 id_]]) O (G7 (hK4 ?_))))
 refine Jr fun hK5=>(JLh (OW 1082 1 G0 ([]:List Int)) (G3b 1082 3 1 O O O) O (G7 (hK5 (Js fun hK6=>Jr fun hK7=>(JLh (E1 l) (Gh Qd O O O) O (JLl H1 O O O fun hm19=>(Yk (G0 0) O (G7 (hK7 (Gv ?_))))))))))
 obtain⟨b24,kx24,hb24,hkx24,h⟩:=J0 h
 refine Ho (fun i24 (s24:(List Int))=>each b24 kx24 (List.drop i24 l) i24 s24=some r) (fun i24 s24=>[(7,.dptr [G0 id_]),(10,.fn 61 [.dptr (Gs.cs s),.dptr [E2 boxes],.dptr [E1 l],.dptr [G0 r3],.dptr [G0 id_]]),(11,OW 1082 1 G0 s24),(18,E1 l),(19,Ej l.length),(20,Ej i24)]) (fun i24 s24=>[(1082,.spare 3 1 s24.length s24.length)]) (fun i24=>l.length - i24) 0 [] h ⟨(by repeat' constructor),⟨⟨_,rfl,.same⟩,G⟩,rfl⟩ ?_
 clear h
 intro i24 s24 hi24 K24 e24
 refine Jr fun hK25=>(JLh (BL (decide ((i24:Int) < (l.length:Int)))) (J9 O O O) O (G7 (hK25 (Js fun hK26=>Gk O (fun hb=>?_) (fun hb=>?_)))))
 ·
  have hk24:=Jg hb
  obtain⟨y24,nx24,hy24,hn24,h⟩:=Hp hi24 hk24
  replace h:=Rz hb24 h
  refine Gq (hK26 ?_)
  obtain⟨kj27,hkj27,h⟩:=R9 h
  refine Qi (fun j27:(List Int)=>kj27 j27=some r) (fun j27=>[(7,.dptr [G0 id_]),(10,.fn 61 [.dptr (Gs.cs s),.dptr [E2 boxes],.dptr [E1 l],.dptr [G0 r3],.dptr [G0 id_]]),(11,OW 1082 1 G0 j27),(18,E1 l),(19,Ej l.length),(20,Ej i24)]) (fun j27=>[(1082,.spare 3 1 j27.length j27.length)]) (fun Kj27 ej27=>?_) ?_
  ·
   refine Gv (Jr fun hK28=>(JLh (Ed y24) (Ha (f:=Stowed.av) (xs:=l) (y:=y24) O O O H1 hy24 O) O (JLh (.agg (Stowed.cs y24)) (Gg Qv O O O) O (JLh (.ptr 1083 0) (Hu 1083 4 Ju O O) O (Hw (u:=.junk) (Hi (u:=.agg (Stowed.cs y24)) (ds:=[G0 y24.Ga,G0 y24.Slot.G4,G0 y24.Slot.Tier,U8 y24.Slot.Half]) R8 O O O O O O O O) (G7 (hK28 ?_)))))))
   refine Gr [(7,.dptr [G0 id_]),(10,.fn 61 [.dptr (Gs.cs s),.dptr [E2 boxes],.dptr [E1 l],.dptr [G0 r3],.dptr [G0 id_]]),(11,OW 1082 1 G0 s24),(13,Ed y24),(18,E1 l),(19,Ej l.length),(20,Ej i24)] [(1082,.spare 3 1 s24.length s24.length)] 1083 rfl rfl rfl ⟨⟨_,rfl,.same⟩,G⟩ rfl (by repeat' (first | exact .ptr | constructor)) ?_
   refine Jr fun hK29=>(JLh (Ed y24) (Gf Hf O O O) O (JLh (G0 y24.Ga) (Gh Gb O O O) O (JLh (G0 id_) (Gh Gb O O O) O (JLh (BL (decide (y24.Ga≠id_))) (Zs O O O) O (Yk (BL (decide (y24.Ga≠id_))) O (JLo (.fn 61 [.dptr (Gs.cs s),.dptr [E2 boxes],.dptr [E1 l],.dptr [G0 r3],.dptr [G0 id_]]) [] O .sct G (fun hc=>G5 O O) O (JLo (Ed y24) [] O .sct G (fun hc=>Gf Hf O O O) O (JLo (G0 y24.Ga) [30] O .sct ⟨Ua,G⟩ (fun hc=>Gh Gb O O O) O ?_))))))))
   obtain⟨r30,hr30,h⟩:=Gd h
   refine JLo (BL r30) [29,31] O .sct ⟨Ua,Ua,G⟩ (fun hc=>G3c (args:=[G0 y24.Ga]) (caps:=[.dptr (Gs.cs s),.dptr [E2 boxes],.dptr [E1 l],.dptr [G0 r3],.dptr [G0 id_]]) O O (H6c F y24.Ga s boxes l r3 id_ r30 (H2 hc hr30)) Jdf ⟨O,O,G⟩ O) O (JLh (BL ((decide (y24.Ga≠id_))&&r30)) (Q8 O O O O) O (G7 (hK29 (JCc O h (fun h hb=>?_) (fun h hb=>?_)))))
   ·
    refine G3 (Yk (OW 1082 1 G0 s24) O (JLh (Ed y24) (Gf Hf O O O) O (JLh (G0 y24.Ga) (Gh Gb O O O) O (JLh (E0 [y24.Ga]) (H7 (xs:=[G0 y24.Ga]) O ⟨O,O,G⟩ Gp Jy O O O O) O ?_))))
    obtain⟨ha31,h⟩:=J5 h
    refine JLh (OW 1082 1 G0 (s24++[y24.Ga])) (R3 (f:=G0) (xs:=s24) (ys:=[y24.Ga]) O O O O Gp Zh ha31 (fun _=>O) (.inl O) O) O (Yk (OW 1082 1 G0 (s24++[y24.Ga])) O (G7 (ej27 _ _ (s24++[y24.Ga]) h ⟨(by repeat' constructor),⟨⟨_,rfl,.same⟩,G⟩,rfl⟩)))
   ·
    refine Gq (ej27 _ _ s24 h ⟨(by repeat' constructor),⟨⟨_,rfl,.same⟩,G⟩,rfl⟩)
  ·intro j27 h
   replace h:=app1 hkj27 h
   refine G3 (JLh (G0 ((i24+1:Nat):Int)) (Hx (Hn hk24 hm19) O O O) O (Yk (G0 ((i24+1:Nat):Int)) O (G7 (e24 _ _ (i24+1) j27 (app1 hn24 h) (by omega) ⟨(by repeat' constructor),⟨⟨_,rfl,.same⟩,G⟩,rfl⟩))))
 ·
  have h:=app1 hkx24 (Hq hi24 (Hb hb))
  refine Ht (hK6 (Jr fun hK32=>(Yk (OW 1082 1 G0 s24) O (Yk (OW 1082 1 G0 s24) O (G7 (hK32 (Gw (fin1l (fun r:(List Int)=>(E0 r:AV)) h))))))))

def Jp (F:Nat) (s:Gs) (boxes:List Ga) (l:List Stowed) (id_:Int):Option ((List Int)×Int):=
 bnd (Q2 s boxes l) fun r4=>
 bif (!r4) then
 (some ([],2))
 else
 (bnd (G91 l id_) fun r7=>
  bif (!r7) then
  (some ([],6))
  else
  (bnd (Zi F s boxes l id_) fun r10=>
   some (r10,0)))
theorem Q3 (F:Nat) (s:Gs) (boxes:List Ga) (l:List Stowed) (id_:Int) (r:(List Int)×Int) (h:Jp F s boxes l id_=some r):Pure Ek 11 [.agg (Gs.cs s),E2 boxes,E1 l,G0 id_] (·=.tup [E0 r.1,G0 r.2]):=by
 unfold Jp at h
 refine H4 [.tmp 8,.tmp 9] Tryz.func11 O O (Jr fun hK1=>(JLh (.ptr 1034 0) (Jj (cs:=(Gs.cs s)) 1034 O O O O O) O (JLh (E0 ([]:List Int)) (He 1 O O) O (Yk (G0 0) O (G7 (hK1 ?_))))))
 refine Gr [(1,E2 boxes),(2,E1 l),(3,G0 id_),(4,Ec s)] [] 1034 rfl rfl rfl G rfl (by repeat' (first | exact .ptr | constructor)) (Js fun hK2=>Gv (Jr fun hK3=>(JLh (.agg (Gs.cs s)) (Gg H3 O O O) O (Yk (E2 boxes) O (Yk (E1 l) O ?_)))))
 obtain⟨r4,hr4,h⟩:=Gd h
 refine JLh (BL r4) (Gt O (Yf s boxes l r4 hr4) G2e ⟨O,O,O,O,O,O,G⟩) O (JLh (BL (!r4)) (Ri (b:=r4) O O) O (Yk (BL (!r4)) O (G7 (hK3 (JCc O h (fun h hb=>?_) (fun h hb=>?_))))))
 ·
  refine Jr fun hK5=>(JLh (E0 ([]:List Int)) (He 1 O O) O (Yk (G0 2) O (G7 (hK5 (Gw (⟨[E0 ([]:List Int),G0 2],[],G,O,⟨⟨_,O,.conv (.same O)⟩,⟨_,O,.conv (.same O)⟩,G⟩,O,congrArg (fun r:(List Int)×Int=>(.tup [E0 r.1,G0 r.2]:AV)) (Option.some.inj h)⟩))))))
 ·
  refine Jr fun hK6=>(Yk (E1 l) O (Yk (G0 id_) O ?_))
  obtain⟨r7,hr7,h⟩:=Gd h
  refine JLh (BL r7) (Gt O (Hc1 l id_ r7 hr7) J43 ⟨O,O,O,O,G⟩) O (JLh (BL (!r7)) (Ri (b:=r7) O O) O (Yk (BL (!r7)) O (G7 (hK6 (JCc O h (fun h hb=>?_) (fun h hb=>?_))))))
  ·
   refine Jr fun hK8=>(JLh (E0 ([]:List Int)) (He 1 O O) O (Yk (G0 6) O (G7 (hK8 (Gw (⟨[E0 ([]:List Int),G0 6],[],G,O,⟨⟨_,O,.conv (.same O)⟩,⟨_,O,.conv (.same O)⟩,G⟩,O,congrArg (fun r:(List Int)×Int=>(.tup [E0 r.1,G0 r.2]:AV)) (Option.some.inj h)⟩))))))
  ·
   refine Gq (hK2 (Jr fun hK9=>(JLh (.agg (Gs.cs s)) (Gg H3 O O O) O (Yk (E2 boxes) O (Yk (E1 l) O (Yk (G0 id_) O ?_))))))
   obtain⟨r10,hr10,h⟩:=Gd h
   refine JLh (E0 r10) (Gt O (Ged F s boxes l id_ r10 hr10) J42 ⟨O,O,O,O,O,O,O,O,G⟩) O (Yk (E0 r10) O (Yk (G0 0) O (G7 (hK9 (Gw (⟨[E0 r10,G0 0],[],G,O,⟨⟨_,O,.conv (.same O)⟩,⟨_,O,.conv (.same O)⟩,G⟩,O,congrArg (fun r:(List Int)×Int=>(.tup [E0 r.1,G0 r.2]:AV)) (Option.some.inj h)⟩))))))

def M_twistlocklaw22_holds (l:List Int) (n:Int):Option Bool:=
 each (fun y18 i18 (s18:Unit) nx18=>
  bif decide (y18=n) then
  (some true)
  else
  (nx18 ()))
 (fun(s18:Unit)=>
  some false) l 0 ()
theorem Qj (l:List Int) (n:Int) (r:Bool) (h:M_twistlocklaw22_holds l n=some r):Pure Ek 13 [E0 l,G0 n] (·=BL r):=by
 unfold M_twistlocklaw22_holds at h
 refine H4 [.tmp 4] Tryz.func13 O O (Jr fun hK1=>(Yk (BL false) O (G7 (hK1 (Js fun hK2=>Jr fun hK3=>(Yk (E0 l) O (JLl Gp O O O fun hm8=>(Yk (G0 0) O (G7 (hK3 (Gv ?_)))))))))))
 obtain⟨b18,kx18,hb18,hkx18,h⟩:=J0 h
 refine Ho (fun i18 (s18:Unit)=>each b18 kx18 (List.drop i18 l) i18 s18=some r) (fun i18 s18=>[(1,G0 n),(7,E0 l),(8,Ej l.length),(9,Ej i18)]) (fun i18 s18=>[]) (fun i18=>l.length - i18) 0 () h ⟨(by repeat' constructor),G,rfl⟩ ?_
 clear h
 intro i18 s18 hi18 K18 e18
 refine Jr fun hK19=>(JLh (BL (decide ((i18:Int) < (l.length:Int)))) (J9 O O O) O (G7 (hK19 (Js fun hK20=>Gk O (fun hb=>?_) (fun hb=>?_)))))
 ·
  have hk18:=Jg hb
  obtain⟨y18,nx18,hy18,hn18,h⟩:=Hp hi18 hk18
  replace h:=Rz hb18 h
  refine Gq (hK20 (Js fun hK21=>Gv (Jr fun hK22=>(JLh (.dptr [G0 y18]) (Ha (f:=G0) (xs:=l) (y:=y18) O O O Gp hy18 O) O (JLh (G0 y18) (Gh Gb O O O) O (Yk (G0 y18) O (G7 (hK22 (Jr fun hK23=>(Yk (G0 y18) O (Yk (G0 n) O (JLh (BL (decide (y18=n))) (Jx O O O) O (G7 (hK23 (JCc O h (fun h hb=>?_) (fun h hb=>?_))))))))))))))))
  ·
   refine Jr fun hK24=>(Yk (BL true) O (G7 (hK24 (Gw (fin1 BL h)))))
  ·
   refine Gq (hK21 (G3 (JLh (G0 ((i18+1:Nat):Int)) (Hx (Hn hk18 hm8) O O O) O (Yk (G0 ((i18+1:Nat):Int)) O (G7 (e18 _ _ (i18+1) () (app1 hn18 h) (by omega) ⟨(by repeat' constructor),G,rfl⟩))))))
 ·
  have h:=app1 hkx18 (Hq hi18 (Hb hb))
  refine Ht (hK2 (Jr fun hK25=>(Yk (BL false) O (G7 (hK25 (Gw (fin1 BL h)))))))

def Jz (boxes:List Ga) (id_:Int):Option Int:=
 each (fun y18 i18 (s18:Unit) nx18=>
  bif decide (y18.ID=id_) then
  (some y18.Discharge)
  else
  (nx18 ()))
 (fun(s18:Unit)=>
  some 0) boxes 0 ()
theorem Rx (boxes:List Ga) (id_:Int) (r:Int) (h:Jz boxes id_=some r):Pure Ek 12 [E2 boxes,G0 id_] (·=G0 r):=by
 unfold Jz at h
 refine H4 [.tmp 4] Tryz.func12 O O (Jr fun hK1=>(Yk (G0 0) O (G7 (hK1 (Js fun hK2=>Jr fun hK3=>(Yk (E2 boxes) O (JLl Q6 O O O fun hm8=>(Yk (G0 0) O (G7 (hK3 (Gv ?_)))))))))))
 obtain⟨b18,kx18,hb18,hkx18,h⟩:=J0 h
 refine Ho (fun i18 (s18:Unit)=>each b18 kx18 (List.drop i18 boxes) i18 s18=some r) (fun i18 s18=>[(1,G0 id_),(7,E2 boxes),(8,Ej boxes.length),(9,Ej i18)]) (fun i18 s18=>[]) (fun i18=>boxes.length - i18) 0 () h ⟨(by repeat' constructor),G,rfl⟩ ?_
 clear h
 intro i18 s18 hi18 K18 e18
 refine Jr fun hK19=>(JLh (BL (decide ((i18:Int) < (boxes.length:Int)))) (J9 O O O) O (G7 (hK19 (Js fun hK20=>Gk O (fun hb=>?_) (fun hb=>?_)))))
 ·
  have hk18:=Jg hb
  obtain⟨y18,nx18,hy18,hn18,h⟩:=Hp hi18 hk18
  replace h:=Rz hb18 h
  refine Gq (hK20 (Js fun hK21=>Gv (Jr fun hK22=>(JLh (Ef y18) (Ha (f:=Ga.av) (xs:=boxes) (y:=y18) O O O Q6 hy18 O) O (JLh (.agg (Ga.cs y18)) (Gg G3f O O O) O (JLh (.ptr 1035 0) (Hu 1035 9 Ru O O) O (Hw (u:=.junk) (Hi (u:=.agg (Ga.cs y18)) (ds:=(Ga.cs y18)) Zu O O O O O O O O) (G7 (hK22 (Gr [(1,G0 id_),(6,Ef y18),(7,E2 boxes),(8,Ej boxes.length),(9,Ej i18)] [] 1035 rfl rfl rfl G rfl (by repeat' (first | exact .ptr | constructor)) ?_))))))))))
  refine Jr fun hK23=>(JLh (Ef y18) (Gf G1d O O O) O (JLh (G0 y18.ID) (Gh Gb O O O) O (Yk (G0 id_) O (JLh (BL (decide (y18.ID=id_))) (Jx O O O) O (G7 (hK23 (JCc O h (fun h hb=>?_) (fun h hb=>?_))))))))
  ·
   refine Jr fun hK24=>(JLh (.dptr ((Ga.cs y18).drop 6)) (Gf G95 O O O) O (JLh (G0 y18.Discharge) (Gh Gb O O O) O (Yk (G0 y18.Discharge) O (G7 (hK24 (Gw (fin1 G0 h)))))))
  ·
   refine Gq (hK21 (G3 (JLh (G0 ((i18+1:Nat):Int)) (Hx (Hn hk18 hm8) O O O) O (Yk (G0 ((i18+1:Nat):Int)) O (G7 (e18 _ _ (i18+1) () (app1 hn18 h) (by omega) ⟨(by repeat' constructor),G,rfl⟩))))))
 ·
  have h:=app1 hkx18 (Hq hi18 (Hb hb))
  refine Ht (hK2 (Jr fun hK25=>(Yk (G0 0) O (G7 (hK25 (Gw (fin1 G0 h)))))))

def Zx :Option Gs:=
 some (Gs.mk ([(G4.mk 0 0 false 2 0 0 0 0 [] 0 0 0),(G4.mk 0 1 false 2 0 0 0 0 [] 0 0 0),(G4.mk 0 0 true 3 0 0 0 0 [] 0 0 0),(G4.mk 0 1 true 3 0 0 0 0 [] 0 0 0),(G4.mk 1 1 true 4 0 0 0 0 [] 0 0 0)]) ([(G9.mk 0 [0,1])]) (Light.mk 0 0 0 0) [] [] [] (G2.mk 0 0 0 0))
theorem Gd8  (r:Gs) (h:Zx =some r):Pure Ek 35 [] (·=.agg (Gs.cs r)):=by
 unfold Zx at h
 refine H4 [.cell 0 35] Tryz.func35 O O (Jr fun hK1=>(JLh (.ptr 1100 0) (G83 1100 [E3 ([]:List G4),E7 ([]:List G9),G0 0,G0 0,G0 0,G0 0,E4 ([]:List Row),E5 ([]:List Frame),E6 ([]:List Gi),G0 0,G0 0,G0 0,G0 0] [.slice none 0 0,.slice none 0 0,.int .i64 0,.int .i64 0,.int .i64 0,.int .i64 0,.slice none 0 0,.slice none 0 0,.slice none 0 0,.int .i64 0,.int .i64 0,.int .i64 0,.int .i64 0] G86 ⟨.inr ⟨_,O,O⟩,.inr ⟨_,O,O⟩,.inl O,.inl O,.inl O,.inl O,.inr ⟨_,O,O⟩,.inr ⟨_,O,O⟩,.inr ⟨_,O,O⟩,.inl O,.inl O,.inl O,.inl O,G⟩ O O) O (G7 (hK1 ?_))))
 refine Jr fun hK2=>(JLh (.agg [G0 0,G0 0,BL false,G0 2,G0 0,G0 0,G0 0,G0 0,E0 ([]:List Int),G0 0,G0 0,G0 0]) (Hz (cs:=[G0 0,G0 0,BL false,G0 2,G0 0,G0 0,G0 0,G0 0,E0 ([]:List Int),G0 0,G0 0,G0 0]) [(0,1),(1,1),(2,1),(3,1),(4,1),(5,1),(6,1),(7,1),(8,1),(9,1),(10,1),(11,1)] [G0 0,G0 0,BL false,G0 0,G0 0,G0 0,G0 0,G0 0,E0 ([]:List Int),G0 0,G0 0,G0 0] [.int .i64 0,.int .i64 0,.bool false,.int .i64 0,.int .i64 0,.int .i64 0,.int .i64 0,.int .i64 0,.slice none 0 0,.int .i64 0,.int .i64 0,.int .i64 0] Zv G2b ⟨.inl O,.inl O,.inl O,.inl O,.inl O,.inl O,.inl O,.inl O,.inr ⟨_,O,O⟩,.inl O,.inl O,.inl O,G⟩ O O) O (JLh (.agg [G0 0,G0 1,BL false,G0 2,G0 0,G0 0,G0 0,G0 0,E0 ([]:List Int),G0 0,G0 0,G0 0]) (Hz (cs:=[G0 0,G0 1,BL false,G0 2,G0 0,G0 0,G0 0,G0 0,E0 ([]:List Int),G0 0,G0 0,G0 0]) [(0,1),(1,1),(2,1),(3,1),(4,1),(5,1),(6,1),(7,1),(8,1),(9,1),(10,1),(11,1)] [G0 0,G0 0,BL false,G0 0,G0 0,G0 0,G0 0,G0 0,E0 ([]:List Int),G0 0,G0 0,G0 0] [.int .i64 0,.int .i64 0,.bool false,.int .i64 0,.int .i64 0,.int .i64 0,.int .i64 0,.int .i64 0,.slice none 0 0,.int .i64 0,.int .i64 0,.int .i64 0] Zv G2b ⟨.inl O,.inl O,.inl O,.inl O,.inl O,.inl O,.inl O,.inl O,.inr ⟨_,O,O⟩,.inl O,.inl O,.inl O,G⟩ O O) O (JLh (.agg [G0 0,G0 0,BL true,G0 3,G0 0,G0 0,G0 0,G0 0,E0 ([]:List Int),G0 0,G0 0,G0 0]) (Hz (cs:=[G0 0,G0 0,BL true,G0 3,G0 0,G0 0,G0 0,G0 0,E0 ([]:List Int),G0 0,G0 0,G0 0]) [(0,1),(1,1),(2,1),(3,1),(4,1),(5,1),(6,1),(7,1),(8,1),(9,1),(10,1),(11,1)] [G0 0,G0 0,BL false,G0 0,G0 0,G0 0,G0 0,G0 0,E0 ([]:List Int),G0 0,G0 0,G0 0] [.int .i64 0,.int .i64 0,.bool false,.int .i64 0,.int .i64 0,.int .i64 0,.int .i64 0,.int .i64 0,.slice none 0 0,.int .i64 0,.int .i64 0,.int .i64 0] Zv G2b ⟨.inl O,.inl O,.inl O,.inl O,.inl O,.inl O,.inl O,.inl O,.inr ⟨_,O,O⟩,.inl O,.inl O,.inl O,G⟩ O O) O (JLh (.agg [G0 0,G0 1,BL true,G0 3,G0 0,G0 0,G0 0,G0 0,E0 ([]:List Int),G0 0,G0 0,G0 0]) (Hz (cs:=[G0 0,G0 1,BL true,G0 3,G0 0,G0 0,G0 0,G0 0,E0 ([]:List Int),G0 0,G0 0,G0 0]) [(0,1),(1,1),(2,1),(3,1),(4,1),(5,1),(6,1),(7,1),(8,1),(9,1),(10,1),(11,1)] [G0 0,G0 0,BL false,G0 0,G0 0,G0 0,G0 0,G0 0,E0 ([]:List Int),G0 0,G0 0,G0 0] [.int .i64 0,.int .i64 0,.bool false,.int .i64 0,.int .i64 0,.int .i64 0,.int .i64 0,.int .i64 0,.slice none 0 0,.int .i64 0,.int .i64 0,.int .i64 0] Zv G2b ⟨.inl O,.inl O,.inl O,.inl O,.inl O,.inl O,.inl O,.inl O,.inr ⟨_,O,O⟩,.inl O,.inl O,.inl O,G⟩ O O) O (JLh (.agg [G0 1,G0 1,BL true,G0 4,G0 0,G0 0,G0 0,G0 0,E0 ([]:List Int),G0 0,G0 0,G0 0]) (Hz (cs:=[G0 1,G0 1,BL true,G0 4,G0 0,G0 0,G0 0,G0 0,E0 ([]:List Int),G0 0,G0 0,G0 0]) [(0,1),(1,1),(2,1),(3,1),(4,1),(5,1),(6,1),(7,1),(8,1),(9,1),(10,1),(11,1)] [G0 0,G0 0,BL false,G0 0,G0 0,G0 0,G0 0,G0 0,E0 ([]:List Int),G0 0,G0 0,G0 0] [.int .i64 0,.int .i64 0,.bool false,.int .i64 0,.int .i64 0,.int .i64 0,.int .i64 0,.int .i64 0,.slice none 0 0,.int .i64 0,.int .i64 0,.int .i64 0] Zv G2b ⟨.inl O,.inl O,.inl O,.inl O,.inl O,.inl O,.inl O,.inl O,.inr ⟨_,O,O⟩,.inl O,.inl O,.inl O,G⟩ O O) O (JLh (E3 ([(G4.mk 0 0 false 2 0 0 0 0 [] 0 0 0),(G4.mk 0 1 false 2 0 0 0 0 [] 0 0 0),(G4.mk 0 0 true 3 0 0 0 0 [] 0 0 0),(G4.mk 0 1 true 3 0 0 0 0 [] 0 0 0),(G4.mk 1 1 true 4 0 0 0 0 [] 0 0 0)])) (H7 (xs:=[.agg [G0 0,G0 0,BL false,G0 2,G0 0,G0 0,G0 0,G0 0,E0 ([]:List Int),G0 0,G0 0,G0 0],.agg [G0 0,G0 1,BL false,G0 2,G0 0,G0 0,G0 0,G0 0,E0 ([]:List Int),G0 0,G0 0,G0 0],.agg [G0 0,G0 0,BL true,G0 3,G0 0,G0 0,G0 0,G0 0,E0 ([]:List Int),G0 0,G0 0,G0 0],.agg [G0 0,G0 1,BL true,G0 3,G0 0,G0 0,G0 0,G0 0,E0 ([]:List Int),G0 0,G0 0,G0 0],.agg [G0 1,G0 1,BL true,G0 4,G0 0,G0 0,G0 0,G0 0,E0 ([]:List Int),G0 0,G0 0,G0 0]]) O ⟨O,O,O,O,O,O,O,O,O,O,G⟩ Je G0c O O O O) O (JLh (E0 [0,1]) (H7 (xs:=[G0 0,G0 1]) O ⟨O,O,O,O,G⟩ Gp Jy O O O O) O (JLh (.agg [G0 0,E0 [0,1]]) (Hz (cs:=[G0 0,E0 [0,1]]) [(0,1),(1,1)] [G0 0,E0 ([]:List Int)] [.int .i64 0,.slice none 0 0] Gf4 H2d ⟨.inl O,.inr ⟨_,O,O⟩,G⟩ O O) O (JLh (E7 ([(G9.mk 0 [0,1])])) (H7 (xs:=[.agg [G0 0,E0 [0,1]]]) O ⟨O,O,G⟩ Qs G72 O O O O) O (JLh (.agg [E3 ([(G4.mk 0 0 false 2 0 0 0 0 [] 0 0 0),(G4.mk 0 1 false 2 0 0 0 0 [] 0 0 0),(G4.mk 0 0 true 3 0 0 0 0 [] 0 0 0),(G4.mk 0 1 true 3 0 0 0 0 [] 0 0 0),(G4.mk 1 1 true 4 0 0 0 0 [] 0 0 0)]),E7 ([(G9.mk 0 [0,1])]),G0 0,G0 0,G0 0,G0 0,E4 ([]:List Row),E5 ([]:List Frame),E6 ([]:List Gi),G0 0,G0 0,G0 0,G0 0]) (Hz (cs:=[E3 ([(G4.mk 0 0 false 2 0 0 0 0 [] 0 0 0),(G4.mk 0 1 false 2 0 0 0 0 [] 0 0 0),(G4.mk 0 0 true 3 0 0 0 0 [] 0 0 0),(G4.mk 0 1 true 3 0 0 0 0 [] 0 0 0),(G4.mk 1 1 true 4 0 0 0 0 [] 0 0 0)]),E7 ([(G9.mk 0 [0,1])]),G0 0,G0 0,G0 0,G0 0,E4 ([]:List Row),E5 ([]:List Frame),E6 ([]:List Gi),G0 0,G0 0,G0 0,G0 0]) [(0,1),(1,1),(2,4),(6,1),(7,1),(8,1),(9,4)] [E3 ([]:List G4),E7 ([]:List G9),G0 0,G0 0,G0 0,G0 0,E4 ([]:List Row),E5 ([]:List Frame),E6 ([]:List Gi),G0 0,G0 0,G0 0,G0 0] [.slice none 0 0,.slice none 0 0,.int .i64 0,.int .i64 0,.int .i64 0,.int .i64 0,.slice none 0 0,.slice none 0 0,.slice none 0 0,.int .i64 0,.int .i64 0,.int .i64 0,.int .i64 0] Ja6 G86 ⟨.inr ⟨_,O,O⟩,.inr ⟨_,O,O⟩,.inl O,.inl O,.inl O,.inl O,.inr ⟨_,O,O⟩,.inr ⟨_,O,O⟩,.inr ⟨_,O,O⟩,.inl O,.inl O,.inl O,.inl O,G⟩ O O) O (Hw (u:=.junk) (Hi (u:=.agg [E3 ([(G4.mk 0 0 false 2 0 0 0 0 [] 0 0 0),(G4.mk 0 1 false 2 0 0 0 0 [] 0 0 0),(G4.mk 0 0 true 3 0 0 0 0 [] 0 0 0),(G4.mk 0 1 true 3 0 0 0 0 [] 0 0 0),(G4.mk 1 1 true 4 0 0 0 0 [] 0 0 0)]),E7 ([(G9.mk 0 [0,1])]),G0 0,G0 0,G0 0,G0 0,E4 ([]:List Row),E5 ([]:List Frame),E6 ([]:List Gi),G0 0,G0 0,G0 0,G0 0]) (ds:=[E3 ([(G4.mk 0 0 false 2 0 0 0 0 [] 0 0 0),(G4.mk 0 1 false 2 0 0 0 0 [] 0 0 0),(G4.mk 0 0 true 3 0 0 0 0 [] 0 0 0),(G4.mk 0 1 true 3 0 0 0 0 [] 0 0 0),(G4.mk 1 1 true 4 0 0 0 0 [] 0 0 0)]),E7 ([(G9.mk 0 [0,1])]),G0 0,G0 0,G0 0,G0 0,E4 ([]:List Row),E5 ([]:List Frame),E6 ([]:List Gi),G0 0,G0 0,G0 0,G0 0]) Yt O O O O O O O O) (G7 (hK2 ?_)))))))))))))
 refine Gw (⟨[.agg [E3 ([(G4.mk 0 0 false 2 0 0 0 0 [] 0 0 0),(G4.mk 0 1 false 2 0 0 0 0 [] 0 0 0),(G4.mk 0 0 true 3 0 0 0 0 [] 0 0 0),(G4.mk 0 1 true 3 0 0 0 0 [] 0 0 0),(G4.mk 1 1 true 4 0 0 0 0 [] 0 0 0)]),E7 ([(G9.mk 0 [0,1])]),G0 0,G0 0,G0 0,G0 0,E4 ([]:List Row),E5 ([]:List Frame),E6 ([]:List Gi),G0 0,G0 0,G0 0,G0 0]],[],G,O,⟨⟨_,⟨_,_,_,_,O,O,O,.inl ⟨H3,O⟩⟩,.conv (.same O)⟩,G⟩,O,congrArg (fun r:Gs=>(.agg (Gs.cs r):AV)) (Option.some.inj h)⟩)

def Qz (box:Int) (column:Int) (tier:Int) (half:Int):Option Stowed:=
 some (Stowed.mk box (Slot.mk column tier half))
theorem Y0 (box:Int) (column:Int) (tier:Int) (half:Int) (r:Stowed) (h:Qz box column tier half=some r):Pure Ek 36 [G0 box,G0 column,G0 tier,U8 half] (·=.agg (Stowed.cs r)):=by
 unfold Qz at h
 refine H4 [.cell 8 49] Tryz.func36 O O (Jr fun hK1=>(JLh (.ptr 1101 0) (G83 1101 [G0 0,G0 0,G0 0,U8 0] [.int .i64 0,.int .i64 0,.int .i64 0,.int .u8 0] G0d ⟨.inl O,.inl O,.inl O,.inl O,G⟩ O O) O (G7 (hK1 ?_))))
 refine Jr fun hK2=>(Yk (G0 box) O (Yk (G0 column) O (Yk (G0 tier) O (Yk (U8 half) O (JLh (.agg [G0 column,G0 tier,U8 half]) (Hz (cs:=[G0 column,G0 tier,U8 half]) [(0,1),(1,1),(2,1)] [G0 0,G0 0,U8 0] [.int .i64 0,.int .i64 0,.int .u8 0] G10 G5f ⟨.inl O,.inl O,.inl O,G⟩ O O) O (JLh (.agg [G0 box,G0 column,G0 tier,U8 half]) (Hz (cs:=[G0 box,G0 column,G0 tier,U8 half]) [(0,1),(1,3)] [G0 0,G0 0,G0 0,U8 0] [.int .i64 0,.int .i64 0,.int .i64 0,.int .u8 0] Zk G0d ⟨.inl O,.inl O,.inl O,.inl O,G⟩ O O) O (Hw (u:=.junk) (Hi (u:=.agg [G0 box,G0 column,G0 tier,U8 half]) (ds:=[G0 box,G0 column,G0 tier,U8 half]) R8 O O O O O O O O) (G7 (hK2 (Gw ?_))))))))))
 exact⟨[.agg [G0 box,G0 column,G0 tier,U8 half]],[],G,O,⟨⟨_,⟨_,_,_,_,O,O,O,.inl ⟨Qv,O⟩⟩,.conv (.same O)⟩,G⟩,O,congrArg (fun r:Stowed=>(.agg (Stowed.cs r):AV)) (Option.some.inj h)⟩

def Zj (F:Nat) (s:Gs) (boxes:List Ga) (l:List Stowed):Option (Int×(List Int)×(List Int)×Int):=
 bnd (Q2 s boxes l) fun r4=>
 bif (!r4) then
 (some (0,[],[],2))
 else
 (bif decide ((l.length:Int)=0) then
  (some (0,[],[],6))
  else
  (Yy l 0 fun y10=>
   bnd (J4 boxes y10.Ga) fun r12=>
   each (fun y27 i27 (s27:Int) nx27=>
    bnd (J4 boxes y27.Ga) fun r32=>
    nx27 (min s27 r32))
   (fun(s27:Int)=>
    each (fun y52 i52 (s52:(List Int)) nx52=>
     jp (fun kj55=>
      bnd (J4 boxes y52.Ga) fun r58=>
      bif decide (r58=s27) then
      (need (decide ((s52.length+[y52.Ga].length)*8≤140737488355328∧s52.length+[y52.Ga].length≤maxLen)) <|
       kj55 (s52++[y52.Ga]))
      else
      (kj55 s52)) fun(j55:(List Int))=>
     nx52 j55)
    (fun(s52:(List Int))=>
     bnd (Rn F s boxes l s52) fun r61=>
     each (fun y80 i80 (s80:(List Int)) nx80=>
      jp (fun kj83=>
       bnd (J4 boxes y80) fun r86=>
       bif decide (r86≠s27) then
       (need (decide ((s80.length+[y80].length)*8≤140737488355328∧s80.length+[y80].length≤maxLen)) <|
        kj83 (s80++[y80]))
       else
       (kj83 s80)) fun(j83:(List Int))=>
      nx80 j83)
     (fun(s80:(List Int))=>
      some (s27,s52,s80,0)) r61.1 0 []) l 0 []) l 0 r12))
theorem G27 (F:Nat) (s:Gs) (boxes:List Ga) (l:List Stowed) (r:Int×(List Int)×(List Int)×Int) (h:Zj F s boxes l=some r):Pure Ek 10 [.agg (Gs.cs s),E2 boxes,E1 l] (·=.tup [G0 r.1,E0 r.2.1,E0 r.2.2.1,G0 r.2.2.2]):=by
 unfold Zj at h
 refine H4 [.tmp 6,.tmp 7,.tmp 8,.tmp 9] Tryz.func10 O O (Jr fun hK1=>(JLh (.ptr 1029 0) (Jj (cs:=(Gs.cs s)) 1029 O O O O O) O (Yk (G0 0) O (JLh (E0 ([]:List Int)) (He 1 O O) O (JLh (E0 ([]:List Int)) (He 1 O O) O (Yk (G0 0) O (G7 (hK1 ?_))))))))
 refine Gr [(1,E2 boxes),(2,E1 l),(3,Ec s)] [] 1029 rfl rfl rfl G rfl (by exact⟨.conv (.same rfl),.conv (.same rfl),.ptr,G⟩) (Js fun hK2=>Jr fun hK3=>(JLh (.agg (Gs.cs s)) (Gg H3 O O O) O (Yk (E2 boxes) O (Yk (E1 l) O ?_))))
 obtain⟨r4,hr4,h⟩:=Gd h
 refine JLh (BL r4) (Gt O (Yf s boxes l r4 hr4) G2e ⟨O,O,O,O,O,O,G⟩) O (JLh (BL (!r4)) (Ri (b:=r4) O O) O (G7 (hK3 (JCc O h (fun h hb=>?_) (fun h hb=>?_)))))
 ·
  refine Jr fun hK5=>(Yk (G0 0) O (JLh (E0 ([]:List Int)) (He 1 O O) O (JLh (E0 ([]:List Int)) (He 1 O O) O (Yk (G0 2) O (G7 (hK5 (Gw (⟨[G0 0,E0 ([]:List Int),E0 ([]:List Int),G0 2],[],G,O,⟨⟨_,O,.conv (.same O)⟩,⟨_,O,.conv (.same O)⟩,⟨_,O,.conv (.same O)⟩,⟨_,O,.conv (.same O)⟩,G⟩,O,congrArg (fun r:Int×(List Int)×(List Int)×Int=>(.tup [G0 r.1,E0 r.2.1,E0 r.2.2.1,G0 r.2.2.2]:AV)) (Option.some.inj h)⟩))))))))
 ·
  refine Gq (hK2 (Js fun hK6=>Jr fun hK7=>(Yk (E1 l) O (JLl H1 O O O fun hm27=>(JLh (BL (decide ((l.length:Int)=0))) (Jx O O O) O (G7 (hK7 (JCc O h (fun h hb=>?_) (fun h hb=>?_)))))))))
  ·
   refine Jr fun hK8=>(Yk (G0 0) O (JLh (E0 ([]:List Int)) (He 1 O O) O (JLh (E0 ([]:List Int)) (He 1 O O) O (Yk (G0 6) O (G7 (hK8 (Gw (⟨[G0 0,E0 ([]:List Int),E0 ([]:List Int),G0 6],[],G,O,⟨⟨_,O,.conv (.same O)⟩,⟨_,O,.conv (.same O)⟩,⟨_,O,.conv (.same O)⟩,⟨_,O,.conv (.same O)⟩,G⟩,O,congrArg (fun r:Int×(List Int)×(List Int)×Int=>(.tup [G0 r.1,E0 r.2.1,E0 r.2.2.1,G0 r.2.2.2]:AV)) (Option.some.inj h)⟩))))))))
  ·
   refine Gq (hK6 (Jr fun hK9=>(Yk (E2 boxes) O (Yk (E1 l) O ?_))))
   obtain⟨m11,y10,hm11,hy10,h⟩:=Yx h
   refine JLh (Ed y10) (Ha (f:=Stowed.av) (xs:=l) (y:=y10) O O O H1 hy10 hm11) O (JLh (Ed y10) (Gf Hf O O O) O (JLh (G0 y10.Ga) (Gh Gb O O O) O ?_))
   obtain⟨r12,hr12,h⟩:=Gd h
   refine JLh (G0 r12) (Gt O (Qo boxes y10.Ga r12 hr12) G2d ⟨O,O,O,O,G⟩) O (Yk (G0 r12) O (G7 (hK9 (Js fun hK13=>Jr fun hK14=>(Yk (E1 l) O (JLl H1 O O O fun hm36=>(Yk (G0 0) O (G7 (hK14 (Gv ?_))))))))))
   obtain⟨b27,kx27,hb27,hkx27,h⟩:=J0 h
   refine Ho (fun i27 (s27:Int)=>each b27 kx27 (List.drop i27 l) i27 s27=some r) (fun i27 s27=>[(1,E2 boxes),(2,E1 l),(3,Ec s),(10,G0 s27),(35,E1 l),(36,Ej l.length),(37,Ej i27)]) (fun i27 s27=>[]) (fun i27=>l.length - i27) 0 r12 h ⟨(by repeat' constructor),G,rfl⟩ ?_
   clear h
   intro i27 s27 hi27 K27 e27
   refine Jr fun hK28=>(JLh (BL (decide ((i27:Int) < (l.length:Int)))) (J9 O O O) O (G7 (hK28 (Js fun hK29=>Gk O (fun hb=>?_) (fun hb=>?_)))))
   ·
    have hk27:=Jg hb
    obtain⟨y27,nx27,hy27,hn27,h⟩:=Hp hi27 hk27
    replace h:=Rz hb27 h
    refine Gq (hK29 (Js fun hK30=>Gv (Jr fun hK31=>(JLh (Ed y27) (Ha (f:=Stowed.av) (xs:=l) (y:=y27) O O O H1 hy27 O) O (JLh (.agg (Stowed.cs y27)) (Gg Qv O O O) O (JLh (.ptr 1030 0) (Hu 1030 4 Ju O O) O (Hw (u:=.junk) (Hi (u:=.agg (Stowed.cs y27)) (ds:=[G0 y27.Ga,G0 y27.Slot.G4,G0 y27.Slot.Tier,U8 y27.Slot.Half]) R8 O O O O O O O O) (G7 (hK31 ?_)))))))))
    refine Gr [(1,E2 boxes),(2,E1 l),(3,Ec s),(10,G0 s27),(12,Ed y27),(35,E1 l),(36,Ej l.length),(37,Ej i27)] [] 1030 rfl rfl rfl G rfl (by repeat' (first | exact .ptr | constructor)) (G3 (Yk (G0 s27) O (Yk (E2 boxes) O (JLh (Ed y27) (Gf Hf O O O) O (JLh (G0 y27.Ga) (Gh Gb O O O) O ?_)))))
    obtain⟨r32,hr32,h⟩:=Gd h
    refine JLh (G0 r32) (Gt O (Qo boxes y27.Ga r32 hr32) G2d ⟨O,O,O,O,G⟩) O (JLh (G0 (min s27 r32)) (A_min O O O) O (Yk (G0 (min s27 r32)) O (G7 (hK30 (G3 (JLh (G0 ((i27+1:Nat):Int)) (Hx (Hn hk27 hm36) O O O) O (Yk (G0 ((i27+1:Nat):Int)) O (G7 (e27 _ _ (i27+1) (min s27 r32) (app1 hn27 h) (by omega) ⟨(by repeat' constructor),G,rfl⟩)))))))))
   ·
    have h:=app1 hkx27 (Hq hi27 (Hb hb))
    refine Ht (hK13 (Jr fun hK33=>(JLh (OW 1031 1 G0 ([]:List Int)) (G3b 1031 3 1 O O O) O (JLh (OW 1032 1 G0 ([]:List Int)) (G3b 1032 3 1 O O O) O (G7 (hK33 (Js fun hK34=>Jr fun hK35=>(Yk (E1 l) O (JLl H1 O O O fun hm49=>(Yk (G0 0) O (G7 (hK35 (Gv ?_)))))))))))))
    obtain⟨b52,kx52,hb52,hkx52,h⟩:=J0 h
    refine Ho (fun i52 (s52:(List Int))=>each b52 kx52 (List.drop i52 l) i52 s52=some r) (fun i52 s52=>[(1,E2 boxes),(2,E1 l),(3,Ec s),(10,G0 s27),(13,OW 1031 1 G0 s52),(14,OW 1032 1 G0 ([]:List Int)),(48,E1 l),(49,Ej l.length),(50,Ej i52)]) (fun i52 s52=>[(1031,.spare 3 1 s52.length s52.length),(1032,.spare 3 1 ([]:List Int).length ([]:List Int).length)]) (fun i52=>l.length - i52) 0 [] h ⟨(by repeat' constructor),⟨⟨_,rfl,.same⟩,⟨_,rfl,.same⟩,G⟩,rfl⟩ ?_
    clear h
    intro i52 s52 hi52 K52 e52
    refine Jr fun hK53=>(JLh (BL (decide ((i52:Int) < (l.length:Int)))) (J9 O O O) O (G7 (hK53 (Js fun hK54=>Gk O (fun hb=>?_) (fun hb=>?_)))))
    ·
     have hk52:=Jg hb
     obtain⟨y52,nx52,hy52,hn52,h⟩:=Hp hi52 hk52
     replace h:=Rz hb52 h
     refine Gq (hK54 ?_)
     obtain⟨kj55,hkj55,h⟩:=R9 h
     refine Qi (fun j55:(List Int)=>kj55 j55=some r) (fun j55=>[(1,E2 boxes),(2,E1 l),(3,Ec s),(10,G0 s27),(13,OW 1031 1 G0 j55),(14,OW 1032 1 G0 ([]:List Int)),(48,E1 l),(49,Ej l.length),(50,Ej i52)]) (fun j55=>[(1031,.spare 3 1 j55.length j55.length),(1032,.spare 3 1 ([]:List Int).length ([]:List Int).length)]) (fun Kj55 ej55=>?_) ?_
     ·
      refine Gv (Jr fun hK56=>(JLh (Ed y52) (Ha (f:=Stowed.av) (xs:=l) (y:=y52) O O O H1 hy52 O) O (JLh (.agg (Stowed.cs y52)) (Gg Qv O O O) O (JLh (.ptr 1033 0) (Hu 1033 4 Ju O O) O (Hw (u:=.junk) (Hi (u:=.agg (Stowed.cs y52)) (ds:=[G0 y52.Ga,G0 y52.Slot.G4,G0 y52.Slot.Tier,U8 y52.Slot.Half]) R8 O O O O O O O O) (G7 (hK56 ?_)))))))
      refine Gr [(1,E2 boxes),(2,E1 l),(3,Ec s),(10,G0 s27),(13,OW 1031 1 G0 s52),(14,OW 1032 1 G0 ([]:List Int)),(16,Ed y52),(48,E1 l),(49,Ej l.length),(50,Ej i52)] [(1031,.spare 3 1 s52.length s52.length),(1032,.spare 3 1 ([]:List Int).length ([]:List Int).length)] 1033 rfl rfl rfl ⟨⟨_,rfl,.same⟩,⟨_,rfl,.same⟩,G⟩ rfl (by repeat' (first | exact .ptr | constructor)) ?_
      refine Jr fun hK57=>(Yk (E2 boxes) O (JLh (Ed y52) (Gf Hf O O O) O (JLh (G0 y52.Ga) (Gh Gb O O O) O ?_)))
      obtain⟨r58,hr58,h⟩:=Gd h
      refine JLh (G0 r58) (Gt O (Qo boxes y52.Ga r58 hr58) G2d ⟨O,O,O,O,G⟩) O (Yk (G0 s27) O (JLh (BL (decide (r58=s27))) (Jx O O O) O (G7 (hK57 (JCc O h (fun h hb=>?_) (fun h hb=>?_))))))
      ·
       refine G3 (Yk (OW 1031 1 G0 s52) O (JLh (Ed y52) (Gf Hf O O O) O (JLh (G0 y52.Ga) (Gh Gb O O O) O (JLh (E0 [y52.Ga]) (H7 (xs:=[G0 y52.Ga]) O ⟨O,O,G⟩ Gp Jy O O O O) O ?_))))
       obtain⟨ha59,h⟩:=J5 h
       refine JLh (OW 1031 1 G0 (s52++[y52.Ga])) (R3 (f:=G0) (xs:=s52) (ys:=[y52.Ga]) O O O O Gp Zh ha59 (fun _=>O) (.inl O) O) O (Yk (OW 1031 1 G0 (s52++[y52.Ga])) O (G7 (ej55 _ _ (s52++[y52.Ga]) h ⟨(by repeat' constructor),⟨⟨_,rfl,.same⟩,⟨_,rfl,.same⟩,G⟩,rfl⟩)))
      ·
       refine Gq (ej55 _ _ s52 h ⟨(by repeat' constructor),⟨⟨_,rfl,.same⟩,⟨_,rfl,.same⟩,G⟩,rfl⟩)
     ·intro j55 h
      replace h:=app1 hkj55 h
      refine G3 (JLh (G0 ((i52+1:Nat):Int)) (Hx (Hn hk52 hm49) O O O) O (Yk (G0 ((i52+1:Nat):Int)) O (G7 (e52 _ _ (i52+1) j55 (app1 hn52 h) (by omega) ⟨(by repeat' constructor),⟨⟨_,rfl,.same⟩,⟨_,rfl,.same⟩,G⟩,rfl⟩))))
    ·
     have h:=app1 hkx52 (Hq hi52 (Hb hb))
     refine Ht (hK34 (Jr fun hK60=>(JLh (.agg (Gs.cs s)) (Gg H3 O O O) O (Yk (E2 boxes) O (Yk (E1 l) O (Yk (OW 1031 1 G0 s52) O ?_))))))
     obtain⟨r61,hr61,h⟩:=Gd h
     refine JLh (.tup [E0 r61.1,G0 r61.2]) (Gt O (Gd7.down F s boxes l s52 r61 hr61) H85 ⟨O,O,O,O,O,O,O,O,G⟩) O (Yk (.tup [E0 r61.1,G0 r61.2]) O (JLh (E0 r61.1) (Gm O O O) O (JLh (G0 r61.2) (Gm O O O) O (Yk (E0 r61.1) O (Yk (G0 r61.2) O (G7 (hK60 (Js fun hK62=>Jr fun hK63=>(Yk (E0 r61.1) O (JLl Gp O O O fun hm75=>(Yk (G0 0) O (G7 (hK63 (Gv ?_))))))))))))))
     obtain⟨b80,kx80,hb80,hkx80,h⟩:=J0 h
     refine Ho (fun i80 (s80:(List Int))=>each b80 kx80 (List.drop i80 r61.1) i80 s80=some r) (fun i80 s80=>[(1,E2 boxes),(10,G0 s27),(13,OW 1031 1 G0 s52),(14,OW 1032 1 G0 s80),(74,E0 r61.1),(75,Ej r61.1.length),(76,Ej i80)]) (fun i80 s80=>[(1031,.spare 3 1 s52.length s52.length),(1032,.spare 3 1 s80.length s80.length)]) (fun i80=>r61.1.length - i80) 0 [] h ⟨(by repeat' constructor),⟨⟨_,rfl,.same⟩,⟨_,rfl,.same⟩,G⟩,rfl⟩ ?_
     clear h
     intro i80 s80 hi80 K80 e80
     refine Jr fun hK81=>(JLh (BL (decide ((i80:Int) < (r61.1.length:Int)))) (J9 O O O) O (G7 (hK81 (Js fun hK82=>Gk O (fun hb=>?_) (fun hb=>?_)))))
     ·
      have hk80:=Jg hb
      obtain⟨y80,nx80,hy80,hn80,h⟩:=Hp hi80 hk80
      replace h:=Rz hb80 h
      refine Gq (hK82 ?_)
      obtain⟨kj83,hkj83,h⟩:=R9 h
      refine Qi (fun j83:(List Int)=>kj83 j83=some r) (fun j83=>[(1,E2 boxes),(10,G0 s27),(13,OW 1031 1 G0 s52),(14,OW 1032 1 G0 j83),(74,E0 r61.1),(75,Ej r61.1.length),(76,Ej i80)]) (fun j83=>[(1031,.spare 3 1 s52.length s52.length),(1032,.spare 3 1 j83.length j83.length)]) (fun Kj83 ej83=>?_) ?_
      ·
       refine Gv (Jr fun hK84=>(JLh (.dptr [G0 y80]) (Ha (f:=G0) (xs:=r61.1) (y:=y80) O O O Gp hy80 O) O (JLh (G0 y80) (Gh Gb O O O) O (Yk (G0 y80) O (G7 (hK84 (Jr fun hK85=>(Yk (E2 boxes) O (Yk (G0 y80) O ?_)))))))))
       obtain⟨r86,hr86,h⟩:=Gd h
       refine JLh (G0 r86) (Gt O (Qo boxes y80 r86 hr86) G2d ⟨O,O,O,O,G⟩) O (Yk (G0 s27) O (JLh (BL (decide (r86≠s27))) (Zs O O O) O (G7 (hK85 (JCc O h (fun h hb=>?_) (fun h hb=>?_))))))
       ·
        refine G3 (Yk (OW 1032 1 G0 s80) O (Yk (G0 y80) O (JLh (E0 [y80]) (H7 (xs:=[G0 y80]) O ⟨O,O,G⟩ Gp Jy O O O O) O ?_)))
        obtain⟨ha87,h⟩:=J5 h
        refine JLh (OW 1032 1 G0 (s80++[y80])) (R3 (f:=G0) (xs:=s80) (ys:=[y80]) O O O O Gp Zh ha87 (fun _=>O) (.inl O) O) O (Yk (OW 1032 1 G0 (s80++[y80])) O (G7 (ej83 _ _ (s80++[y80]) h ⟨(by repeat' constructor),⟨⟨_,rfl,.same⟩,⟨_,rfl,.same⟩,G⟩,rfl⟩)))
       ·
        refine Gq (ej83 _ _ s80 h ⟨(by repeat' constructor),⟨⟨_,rfl,.same⟩,⟨_,rfl,.same⟩,G⟩,rfl⟩)
      ·intro j83 h
       replace h:=app1 hkj83 h
       refine G3 (JLh (G0 ((i80+1:Nat):Int)) (Hx (Hn hk80 hm75) O O O) O (Yk (G0 ((i80+1:Nat):Int)) O (G7 (e80 _ _ (i80+1) j83 (app1 hn80 h) (by omega) ⟨(by repeat' constructor),⟨⟨_,rfl,.same⟩,⟨_,rfl,.same⟩,G⟩,rfl⟩))))
     ·
      have h:=app1 hkx80 (Hq hi80 (Hb hb))
      refine Ht (hK62 (Jr fun hK88=>(Yk (G0 s27) O (Yk (OW 1031 1 G0 s52) O (Yk (OW 1032 1 G0 s80) O (Yk (G0 s27) O (Yk (OW 1031 1 G0 s52) O (Yk (OW 1032 1 G0 s80) O (Yk (G0 0) O (G7 (hK88 (Gw (⟨[G0 s27,E0 s52,E0 s80,G0 0],[],G,O,⟨⟨_,O,.conv (.same O)⟩,⟨_,O,.conv (.list O)⟩,⟨_,O,.conv (.list O)⟩,⟨_,O,.conv (.same O)⟩,G⟩,O,congrArg (fun r:Int×(List Int)×(List Int)×Int=>(.tup [G0 r.1,E0 r.2.1,E0 r.2.2.1,G0 r.2.2.2]:AV)) (Option.some.inj h)⟩)))))))))))))

def H1c (s:Gs) (boxes:List Ga) (l:List Stowed) (b:Ga):Option Unit:=
 some ()
theorem J85 (s:Gs) (boxes:List Ga) (l:List Stowed) (b:Ga) (r:Unit) (h:H1c s boxes l b=some r):Pure Ek 38 [.agg (Gs.cs s),E2 boxes,E1 l,.agg (Ga.cs b)] (·=.fn 72 [.dptr (Gs.cs s),Ef b,.dptr [E2 boxes],.dptr [E1 l]]):=by
 unfold H1c at h
 refine H4 [.tmp 8] Tryz.func38 O O (Jr fun hK1=>(JLh (.ptr 1102 0) (Jj (cs:=(Gs.cs s)) 1102 O O O O O) O (JLh (.ptr 1103 0) (Jj (cs:=[E2 boxes]) 1103 O O O O O) O (JLh (.ptr 1104 0) (Jj (cs:=[E1 l]) 1104 O O O O O) O (JLh (.ptr 1105 0) (Jj (cs:=(Ga.cs b)) 1105 O O O O O) O (Yk (.sc .nilFunc) O (G7 (hK1 ?_))))))))
 refine Gr [(4,Ec s),(5,.ptr 1103 0),(6,.ptr 1104 0),(7,.ptr 1105 0)] [(1103,.box 36 [E2 boxes]),(1104,.box 37 [E1 l]),(1105,.box 61 (Ga.cs b))] 1102 rfl rfl rfl ⟨⟨_,rfl,.boxEq rfl rfl⟩,⟨_,rfl,.boxEq rfl rfl⟩,⟨_,rfl,.boxEq rfl rfl⟩,G⟩ rfl (by repeat' (first | exact .ptr | constructor)) ?_
 refine Gr [(4,Ec s),(5,.dptr [E2 boxes]),(6,.ptr 1104 0),(7,.ptr 1105 0)] [(1104,.box 37 [E1 l]),(1105,.box 61 (Ga.cs b))] 1103 rfl rfl rfl ⟨⟨_,rfl,.boxEq rfl rfl⟩,⟨_,rfl,.boxEq rfl rfl⟩,G⟩ rfl (by repeat' (first | exact .ptr | constructor)) ?_
 refine Gr [(4,Ec s),(5,.dptr [E2 boxes]),(6,.dptr [E1 l]),(7,.ptr 1105 0)] [(1105,.box 61 (Ga.cs b))] 1104 rfl rfl rfl ⟨⟨_,rfl,.boxEq rfl rfl⟩,G⟩ rfl (by repeat' (first | exact .ptr | constructor)) ?_
 refine Gr [(4,Ec s),(5,.dptr [E2 boxes]),(6,.dptr [E1 l]),(7,Ef b)] [] 1105 rfl rfl rfl G rfl (by repeat' (first | exact .ptr | constructor)) ?_
 refine Jr fun hK2=>(JLh (.fn 72 [.dptr (Gs.cs s),Ef b,.dptr [E2 boxes],.dptr [E1 l]]) (Y4 (cs:=[.dptr (Gs.cs s),Ef b,.dptr [E2 boxes],.dptr [E1 l]]) O O) O (Yk (.fn 72 [.dptr (Gs.cs s),Ef b,.dptr [E2 boxes],.dptr [E1 l]]) O (G7 (hK2 ?_))))
 refine Gw ?_
 exact⟨[.fn 72 [.dptr (Gs.cs s),Ef b,.dptr [E2 boxes],.dptr [E1 l]]],[],G,O,⟨⟨_,O,.conv (.same O)⟩,G⟩,O,congrArg (fun _:Unit=>(.fn 72 [.dptr (Gs.cs s),Ef b,.dptr [E2 boxes],.dptr [E1 l]]:AV)) (Option.some.inj h)⟩

def Yi (F:Nat) (s:Gs) (boxes:List Ga) (l:List Stowed) (id_:Int):Option ((List Slot)×Int×Int):=
 bnd (Q2 s boxes l) fun r4=>
 bif (!r4) then
 (some ([],0,2))
 else
 (bnd (Zq boxes id_) fun r7=>
  bif ((!r7.2)||((decide (r7.1.Size≠20))&&(decide (r7.1.Size≠40)))) then
  (some ([],0,6))
  else
  (bnd (G91 l id_) fun r12=>
   bif r12 then
   (some ([],0,96))
   else
   (bnd (H1c s boxes l r7.1) fun r18=>
    bnd (H42 F s r7.1 boxes l) fun ys35=>
    each (fun y35 i35 (s35:(List Slot)×Int×Nat) nx35=>
     bnd (Zi F s boxes y35.2 id_) fun r38=>
     jp (fun kj39=>
      bif ((decide ((s35.1.length:Int)=0))||(decide ((r38.length:Int) < s35.2.1))) then
      (kj39 ((s35.2.2+1),(r38.length:Int),[]))
      else
      (kj39 (s35.2.2,s35.2.1,s35.1))) fun(j39:Nat×Int×(List Slot))=>
     bif decide ((r38.length:Int)=j39.2.1) then
     (need (decide ((j39.2.2.length+[y35.1].length)*24≤140737488355328∧j39.2.2.length+[y35.1].length≤maxLen)) <|
      nx35 ((j39.2.2++[y35.1]),j39.2.1,(j39.1+1)))
     else
     (nx35 (j39.2.2,j39.2.1,j39.1)))
    (fun(s35:(List Slot)×Int×Nat)=>
     bif decide ((s35.1.length:Int)=0) then
     (some ([],0,4))
     else
     (some (s35.1,s35.2.1,0))) ys35 0 ([],0,0))))
theorem Z7 (F:Nat) (s:Gs) (boxes:List Ga) (l:List Stowed) (id_:Int) (r:(List Slot)×Int×Int) (h:Yi F s boxes l id_=some r):Pure Ek 16 [.agg (Gs.cs s),E2 boxes,E1 l,G0 id_] (·=.tup [E8 r.1,G0 r.2.1,G0 r.2.2]):=by
 unfold Yi at h
 refine H4 [.tmp 8,.tmp 9,.tmp 10] Tryz.func16 O O (Jr fun hK1=>(JLh (.ptr 1041 0) (Jj (cs:=(Gs.cs s)) 1041 O O O O O) O (JLh (.ptr 1042 0) (Jj (cs:=[E2 boxes]) 1042 O O O O O) O (JLh (.ptr 1043 0) (Jj (cs:=[G0 id_]) 1043 O O O O O) O (JLh (E8 ([]:List Slot)) (He 3 O O) O (Yk (G0 0) O (Yk (G0 0) O (G7 (hK1 ?_)))))))))
 refine Gr [(2,E1 l),(4,Ec s),(5,.ptr 1042 0),(7,.ptr 1043 0)] [(1042,.box 36 [E2 boxes]),(1043,.box 3 [G0 id_])] 1041 rfl rfl rfl ⟨⟨_,rfl,.boxEq rfl rfl⟩,⟨_,rfl,.boxEq rfl rfl⟩,G⟩ rfl (by repeat' (first | exact .ptr | constructor)) ?_
 refine Gr [(2,E1 l),(4,Ec s),(5,.dptr [E2 boxes]),(7,.ptr 1043 0)] [(1043,.box 3 [G0 id_])] 1042 rfl rfl rfl ⟨⟨_,rfl,.boxEq rfl rfl⟩,G⟩ rfl (by repeat' (first | exact .ptr | constructor)) ?_
 refine Gr [(2,E1 l),(4,Ec s),(5,.dptr [E2 boxes]),(7,.dptr [G0 id_])] [] 1043 rfl rfl rfl G rfl (by repeat' (first | exact .ptr | constructor)) (Js fun hK2=>Jr fun hK3=>(JLh (.agg (Gs.cs s)) (Gg H3 O O O) O (JLh (E2 boxes) (Gh Y7 O O O) O (Yk (E1 l) O ?_))))
 obtain⟨r4,hr4,h⟩:=Gd h
 refine JLh (BL r4) (Gt O (Yf s boxes l r4 hr4) G2e ⟨O,O,O,O,O,O,G⟩) O (JLh (BL (!r4)) (Ri (b:=r4) O O) O (G7 (hK3 (JCc O h (fun h hb=>?_) (fun h hb=>?_)))))
 ·
  refine Jr fun hK5=>(JLh (E8 ([]:List Slot)) (He 3 O O) O (Yk (G0 0) O (Yk (G0 2) O (G7 (hK5 (Gw (⟨[E8 ([]:List Slot),G0 0,G0 2],[],G,O,⟨⟨_,O,.conv (.same O)⟩,⟨_,O,.conv (.same O)⟩,⟨_,O,.conv (.same O)⟩,G⟩,O,congrArg (fun r:(List Slot)×Int×Int=>(.tup [E8 r.1,G0 r.2.1,G0 r.2.2]:AV)) (Option.some.inj h)⟩)))))))
 ·
  refine Gq (hK2 (Jr fun hK6=>(JLh (E2 boxes) (Gh Y7 O O O) O (JLh (G0 id_) (Gh Gb O O O) O ?_))))
  obtain⟨r7,hr7,h⟩:=Gd h
  refine JLh (.tup [.agg (Ga.cs r7.1),BL r7.2]) (Gt O (G58 boxes id_ r7 hr7) Gc7 ⟨O,O,O,O,G⟩) O (Yk (.tup [.agg (Ga.cs r7.1),BL r7.2]) O (JLh (.agg (Ga.cs r7.1)) (Gm O O O) O (JLh (BL r7.2) (Gm O O O) O (JLh (.ptr 1044 0) (Hu 1044 9 Ru O O) O (Hw (u:=.junk) (Hi (u:=.agg (Ga.cs r7.1)) (ds:=(Ga.cs r7.1)) Zu O O O O O O O O) (Yk (BL r7.2) O (G7 (hK6 ?_))))))))
  refine Gr [(2,E1 l),(4,Ec s),(5,.dptr [E2 boxes]),(7,.dptr [G0 id_]),(11,Ef r7.1),(12,BL r7.2)] [] 1044 rfl rfl rfl G rfl (by repeat' (first | exact .ptr | constructor)) (Js fun hK8=>Gv ?_)
  refine Jr fun hK9=>(Yk (BL r7.2) O (JLh (BL (!r7.2)) (Ri (b:=r7.2) O O) O (Yk (BL (!r7.2)) O (JLo (.dptr ((Ga.cs r7.1).drop 2)) [] O .scf G (fun hc=>Gf Rj O O O) O (JLo (U8 r7.1.Size) [33] O .scf ⟨Ua,G⟩ (fun hc=>Gh J8 O O O) O (JLo (BL (decide (r7.1.Size≠20))) [34] O .scf ⟨Ua,G⟩ (fun hc=>Zs O O O) O (JLo (BL (decide (r7.1.Size≠20))) [35] O .scf ⟨Ua,G⟩ (fun hc=>G5 O O) O (JLo (.dptr ((Ga.cs r7.1).drop 2)) [] O .optt G (fun hc=>Gf Rj O O O) O (JLo (U8 r7.1.Size) [37] O .optt ⟨Ua,G⟩ (fun hc=>Gh J8 O O O) O (JLo (BL (decide (r7.1.Size≠40))) [38] O .optt ⟨Ua,G⟩ (fun hc=>Zs O O O) O (Gc (u:=BL ((decide (r7.1.Size≠20))&&(decide (r7.1.Size≠40)))) [(36,BL (decide (r7.1.Size≠20))),(39,_)] O O O .scf ⟨.all id,.part,G⟩ (fun hc=>Q8 O O O O) ?_)))))))))))
  refine JLh (BL ((!r7.2)||((decide (r7.1.Size≠20))&&(decide (r7.1.Size≠40))))) (Ze O O O O) O (Yk (BL ((!r7.2)||((decide (r7.1.Size≠20))&&(decide (r7.1.Size≠40))))) O (G7 (hK9 (JCc O h (fun h hb=>?_) (fun h hb=>?_)))))
  ·
   refine Jr fun hK10=>(JLh (E8 ([]:List Slot)) (He 3 O O) O (Yk (G0 0) O (Yk (G0 6) O (G7 (hK10 (Gw (⟨[E8 ([]:List Slot),G0 0,G0 6],[],G,O,⟨⟨_,O,.conv (.same O)⟩,⟨_,O,.conv (.same O)⟩,⟨_,O,.conv (.same O)⟩,G⟩,O,congrArg (fun r:(List Slot)×Int×Int=>(.tup [E8 r.1,G0 r.2.1,G0 r.2.2]:AV)) (Option.some.inj h)⟩)))))))
  ·
   refine Jr fun hK11=>(Yk (E1 l) O (JLh (G0 id_) (Gh Gb O O O) O ?_))
   obtain⟨r12,hr12,h⟩:=Gd h
   refine JLh (BL r12) (Gt O (Hc1 l id_ r12 hr12) J43 ⟨O,O,O,O,G⟩) O (Yk (BL r12) O (G7 (hK11 (JCc O h (fun h hb=>?_) (fun h hb=>?_)))))
   ·
    refine Jr fun hK13=>(JLh (E8 ([]:List Slot)) (He 3 O O) O (Yk (G0 0) O (Yk (G0 96) O (G7 (hK13 (Gw (⟨[E8 ([]:List Slot),G0 0,G0 96],[],G,O,⟨⟨_,O,.conv (.same O)⟩,⟨_,O,.conv (.same O)⟩,⟨_,O,.conv (.same O)⟩,G⟩,O,congrArg (fun r:(List Slot)×Int×Int=>(.tup [E8 r.1,G0 r.2.1,G0 r.2.2]:AV)) (Option.some.inj h)⟩)))))))
   ·
    refine Gq (hK8 (Jr fun hK14=>(JLh (.ptr 1045 0) (G83 1045 [.sc (.slice none 0 0)] [.slice none 0 0] J22 ⟨.inl O,G⟩ O O) O (H1d 1045 0 1048 47 3 O O O (cs':=[.own 1048 0 3 (([]:List Slot).map Slot.av)]) O (G7 (hK14 (Jr fun hK15=>(JLh (.ptr 1046 0) (Hu 1046 1 Jy O O) O (Hw (u:=.junk) (Hi (u:=G0 0) (ds:=[G0 0]) G3e O O O O O O O O) (G7 (hK15 (Js fun hK16=>?_))))))))))))
    refine Jr fun hK17=>(JLh (.agg (Gs.cs s)) (Gg H3 O O O) O (JLh (E2 boxes) (Gh Y7 O O O) O (Yk (E1 l) O (JLh (.agg (Ga.cs r7.1)) (Gg G3f O O O) O ?_))))
    obtain⟨r18,hr18,h⟩:=Gd h
    refine JLh (.fn 72 [.dptr (Gs.cs s),Ef r7.1,.dptr [E2 boxes],.dptr [E1 l]]) (Gt O (J85 s boxes l r7.1 r18 hr18) Jeb ⟨O,O,O,O,O,O,O,O,G⟩) O (G7 (hK17 (Gv ?_)))
    obtain⟨ys35,hy_35,h⟩:=Gd h
    obtain⟨b35,kx35,hb35,hkx35,h⟩:=J0 h
    refine Hc3 (ps:=[51,52]) [(4,Ec s),(5,.dptr [E2 boxes]),(7,.dptr [G0 id_]),(13,.ptr 1045 0),(14,.ptr 1046 0),(50,.fn 72 [.dptr (Gs.cs s),Ef r7.1,.dptr [E2 boxes],.dptr [E1 l]])] (ys35.map (fun y:Slot×(List Stowed)=>[.agg (Slot.cs y.1),E1 y.2])) (fun i35 (s35:(List Slot)×Int×Nat)=>each b35 kx35 (List.drop i35 ys35) i35 s35=some r) (fun s35=>[(1048,.spare 47 3 s35.2.2 s35.1.length),(1045,.box 62 [.own 1048 s35.2.2 3 (s35.1.map Slot.av)]),(1046,.box 3 [G0 s35.2.1])]) ([],0,0) rfl rfl rfl Jd9 (He1.down F s r7.1 boxes l ys35 hy_35) h ⟨(by repeat' constructor),⟨⟨_,rfl,.same⟩,⟨_,rfl,.boxL rfl ⟨.same rfl,trivial⟩⟩,⟨_,rfl,.boxL rfl ⟨.same rfl,trivial⟩⟩,trivial⟩,rfl⟩ rfl (fun us_ hus_=>by obtain⟨_,_,rfl⟩:=List.mem_map.1 hus_; rfl) (fun p_ hp_=>Nat.blt_eq.mp (by revert p_; decide)) (fun _=>(by repeat' constructor)) (fun _=>rfl) ?_ ?_
    ·
     intro i35 us_ s35 hu_ hi35 lr_ K35 e35
     obtain⟨hk35,rfl⟩:=mapf_at hu_
     obtain⟨y35,nx35,hy35,hn35,h⟩:=Hp hi35 hk35
     replace h:=Rz hb35 h
     obtain⟨_,rfl⟩:=List.getElem?_eq_some_iff.1 hy35
     generalize ys35[i35]=y35 at h ⊢
     change JC _ _ _ _ [(52,E1 y35.2),(51,.agg (Slot.cs y35.1)),(4,Ec s),(5,.dptr [E2 boxes]),(7,.dptr [G0 id_]),(13,.ptr 1045 0),(14,.ptr 1046 0),(50,.fn 72 [.dptr (Gs.cs s),Ef r7.1,.dptr [E2 boxes],.dptr [E1 l]])] [(1048,.spare 47 3 s35.2.2 s35.1.length),(1045,.box 62 [.own 1048 s35.2.2 3 (s35.1.map Slot.av)]),(1046,.box 3 [G0 s35.2.1])]
     refine Jr fun hK36=>(JLh (.ptr 1047 0) (Hu 1047 3 Rv O O) O (Hw (u:=.junk) (Hi (u:=.agg (Slot.cs y35.1)) (ds:=[G0 y35.1.G4,G0 y35.1.Tier,U8 y35.1.Half]) G2c O O O O O O O O) (G7 (hK36 ?_))))
     refine Gr [(4,Ec s),(5,.dptr [E2 boxes]),(7,.dptr [G0 id_]),(13,.ptr 1045 0),(14,.ptr 1046 0),(15,Eh y35.1),(52,E1 y35.2)] [(1048,.spare 47 3 s35.2.2 s35.1.length),(1045,.box 62 [.own 1048 s35.2.2 3 (s35.1.map Slot.av)]),(1046,.box 3 [G0 s35.2.1])] 1047 rfl rfl rfl ⟨⟨_,rfl,.same⟩,⟨_,rfl,.boxEq rfl rfl⟩,⟨_,rfl,.boxEq rfl rfl⟩,G⟩ rfl (by repeat' (first | exact .ptr | constructor)) (G3 (Yk (E1 y35.2) O (G7 (Mid_go (Gv ?_)))))
     refine Jr fun hK37=>(JLh (.agg (Gs.cs s)) (Gg H3 O O O) O (JLh (E2 boxes) (Gh Y7 O O O) O (Yk (E1 y35.2) O (JLh (G0 id_) (Gh Gb O O O) O ?_))))
     obtain⟨r38,hr38,h⟩:=Gd h
     refine JLh (E0 r38) (Gt O (Ged F s boxes y35.2 id_ r38 hr38) J42 ⟨O,O,O,O,O,O,O,O,G⟩) O (JLl Gp O O O fun hm58=>(Yk (Ej r38.length) O (G7 (hK37 ?_))))
     obtain⟨kj39,hkj39,h⟩:=R9 h
     refine Qi (fun j39:Nat×Int×(List Slot)=>kj39 j39=some r) (fun j39=>[(13,.ptr 1045 0),(14,.ptr 1046 0),(15,Eh y35.1),(17,Ej r38.length)]) (fun j39=>[(1048,.spare 47 3 j39.1 j39.2.2.length),(1046,.box 3 [G0 j39.2.1]),(1045,.box 62 [.own 1048 j39.1 3 (j39.2.2.map Slot.av)])]) (fun Kj39 ej39=>?_) ?_
     ·
      refine Jr fun hK40=>(JLh (.own 1048 s35.2.2 3 (s35.1.map Slot.av)) (R0 G0e O O O O) O (JLl J1 O O O fun hm60=>(JLh (BL (decide ((s35.1.length:Int)=0))) (Jx O O O) O (Yk (BL (decide ((s35.1.length:Int)=0))) O (JLo (Ej r38.length) [] O .scf G (fun hc=>G5 O O) O (JLo (G0 s35.2.1) [] O .scf G (fun hc=>R0 Gb O O O O) O (JLo (BL (decide ((r38.length:Int) < s35.2.1))) [63,64] O .scf ⟨Ua,Ua,G⟩ (fun hc=>J9 O O O) O (JLh (BL ((decide ((s35.1.length:Int)=0))||(decide ((r38.length:Int) < s35.2.1)))) (Ze O O O O) O (G7 (hK40 (JCc O h (fun h hb=>?_) (fun h hb=>?_))))))))))))
      ·
       refine G3 (Yk (Ej r38.length) O (Hw (u:=.junk) (Hi (u:=.sc (.slice none 0 0)) (ds:=[.sc (.slice none 0 0)]) H7e O O O O O O O O) (Jc1 1045 0 1048 47 3 s35.2.2 O O O (cs':=[.own 1048 (s35.2.2+1) 3 (([]:List Slot).map Slot.av)]) O (Hw (u:=.junk) (Hi (u:=Ej r38.length) (ds:=[Ej r38.length]) G3e O O O O O O O O) (G7 (ej39 _ _ ((s35.2.2+1),(r38.length:Int),[]) h ⟨(by repeat' constructor),⟨⟨_,rfl,.same⟩,⟨_,rfl,.boxL rfl ⟨.same rfl,G⟩⟩,⟨_,rfl,.boxL rfl ⟨.same rfl,G⟩⟩,G⟩,rfl⟩))))))
      ·
       refine Gq (ej39 _ _ (s35.2.2,s35.2.1,s35.1) h ⟨(by repeat' constructor),⟨⟨_,rfl,.same⟩,⟨_,rfl,.boxL rfl ⟨.same rfl,G⟩⟩,⟨_,rfl,.boxL rfl ⟨.same rfl,G⟩⟩,G⟩,rfl⟩)
     ·intro j39 h
      replace h:=app1 hkj39 h
      refine Jr fun hK41=>(Yk (Ej r38.length) O (JLh (G0 j39.2.1) (R0 Gb O O O O) O (JLh (BL (decide ((r38.length:Int)=j39.2.1))) (Jx O O O) O (G7 (hK41 (JCc O h (fun h hb=>?_) (fun h hb=>?_)))))))
      ·
       refine G3 (JLh (.own 1048 j39.1 3 (j39.2.2.map Slot.av)) (R0 G0e O O O O) O (JLh (.agg (Slot.cs y35.1)) (Gg J7 O O O) O (JLh (E8 [y35.1]) (H7 (xs:=[.agg (Slot.cs y35.1)]) O ⟨O,O,G⟩ J1 Rv O O O O) O ?_)))
       obtain⟨ha42,h⟩:=J5 h
       refine JLh (.own 1048 (j39.1+1) 3 ((j39.2.2++[y35.1]).map Slot.av)) (A_appendG (f:=Slot.av) (xs:=j39.2.2) (ys:=[y35.1]) O O O O J1 H81 ha42 (fun _=>O) (.inl O)) O (Hw (u:=.junk) (Hi (u:=.own 1048 (j39.1+1) 3 ((j39.2.2++[y35.1]).map Slot.av)) (ds:=[.own 1048 (j39.1+1) 3 ((j39.2.2++[y35.1]).map Slot.av)]) H7e O O O O O O O O) (G7 (e35 _ _ ((j39.2.2++[y35.1]),j39.2.1,(j39.1+1)) (app1 hn35 h) ⟨G,⟨⟨_,O,.same⟩,⟨_,O,.boxL O ⟨.same O,G⟩⟩,⟨_,O,.boxL O ⟨.same O,G⟩⟩,G⟩,O⟩)))
      ·
       refine Gq (e35 _ _ (j39.2.2,j39.2.1,j39.1) (app1 hn35 h) ⟨G,⟨⟨_,O,.same⟩,⟨_,O,.boxL O ⟨.same O,G⟩⟩,⟨_,O,.boxL O ⟨.same O,G⟩⟩,G⟩,O⟩)
    ·
     intro s35 h
     rw [List.length_map] at h
     replace h:=app1 hkx35 (Hq h (Nat.lt_irrefl _))
     refine hK16 (Js fun hK43=>Jr fun hK44=>(JLh (.own 1048 s35.2.2 3 (s35.1.map Slot.av)) (R0 G0e O O O O) O (JLl J1 O O O fun hm76=>(JLh (BL (decide ((s35.1.length:Int)=0))) (Jx O O O) O (G7 (hK44 (Ya (l':=[(13,.ptr 1045 0),(14,.ptr 1046 0),(77,BL (decide ((s35.1.length:Int)=0)))]) (L':=[(1045,.box 62 [E8 s35.1]),(1046,.box 3 [G0 s35.2.1])]) ⟨⟨.same O,.same O,.same O,G⟩,⟨⟨_,O,.boxL O ⟨.list O,G⟩⟩,⟨_,O,.boxL O ⟨.same O,G⟩⟩,G⟩,O⟩ (Gr [(13,.dptr [E8 s35.1]),(14,.ptr 1046 0),(77,BL (decide ((s35.1.length:Int)=0)))] [(1046,.box 3 [G0 s35.2.1])] 1045 rfl rfl rfl ⟨⟨_,rfl,.boxEq rfl rfl⟩,G⟩ rfl (by exact⟨.ptr,.conv (.same rfl),.conv (.same rfl),G⟩) ?_))))))))
     refine Gr [(13,.dptr [E8 s35.1]),(14,.dptr [G0 s35.2.1]),(77,BL (decide ((s35.1.length:Int)=0)))] [] 1046 rfl rfl rfl G rfl (by exact⟨.conv (.same rfl),.ptr,.conv (.same rfl),G⟩) (JCc O h (fun h hb=>?_) (fun h hb=>?_))
     ·
      refine Jr fun hK45=>(JLh (E8 ([]:List Slot)) (He 3 O O) O (Yk (G0 0) O (Yk (G0 4) O (G7 (hK45 (Gw (⟨[E8 ([]:List Slot),G0 0,G0 4],[],G,O,⟨⟨_,O,.conv (.same O)⟩,⟨_,O,.conv (.same O)⟩,⟨_,O,.conv (.same O)⟩,G⟩,O,congrArg (fun r:(List Slot)×Int×Int=>(.tup [E8 r.1,G0 r.2.1,G0 r.2.2]:AV)) (Option.some.inj h)⟩)))))))
     ·
      refine Gq (hK43 (Js fun hK46=>JC_d0 Q9 (by kernel_rfl) (Dq (E8 s35.1) (Gh G0e O O O) O (Dq (G0 s35.2.1) (Gh Gb O O O) O (Dq (E8 s35.1) (G8 O O) O (Dq (G0 s35.2.1) (G8 O O) O (Dq (G0 0) (G8 O O) O (Dnil (hK46 (Gw (⟨[E8 s35.1,G0 s35.2.1,G0 0],[],G,O,⟨⟨_,O,.conv (.same O)⟩,⟨_,O,.conv (.same O)⟩,⟨_,O,.conv (.same O)⟩,G⟩,O,congrArg (fun r:(List Slot)×Int×Int=>(.tup [E8 r.1,G0 r.2.1,G0 r.2.2]:AV)) (Option.some.inj h)⟩)))))))))))

def J6 (a:List Int) (b:List Int):Option Bool:=
 bif decide ((a.length:Int)≠(b.length:Int)) then
 (some false)
 else
 (each (fun y24 i24 (s24:Unit) nx24=>
   Yy b (i24:Int) fun y29=>
   bif decide (y24≠y29) then
   (some false)
   else
   (nx24 ()))
  (fun(s24:Unit)=>
   some true) a 0 ())
theorem Q0 (a:List Int) (b:List Int) (r:Bool) (h:J6 a b=some r):Pure Ek 18 [E0 a,E0 b] (·=BL r):=by
 unfold J6 at h
 refine H4 [.tmp 4] Tryz.func18 O O (Jr fun hK1=>(Yk (BL false) O (G7 (hK1 (Js fun hK2=>Jr fun hK3=>(Yk (E0 a) O (JLl Gp O O O fun hm7=>(Yk (E0 b) O (JLl Gp O O O fun hm9=>(JLh (BL (decide ((a.length:Int)≠(b.length:Int)))) (Zs O O O) O (G7 (hK3 (JCc O h (fun h hb=>?_) (fun h hb=>?_))))))))))))))
 ·
  refine Jr fun hK4=>(Yk (BL false) O (G7 (hK4 (Gw (fin1 BL h)))))
 ·
  refine Gq (hK2 (Js fun hK5=>Jr fun hK6=>(Yk (G0 0) O (G7 (hK6 (Gv ?_))))))
  obtain⟨b24,kx24,hb24,hkx24,h⟩:=J0 h
  refine Ho (fun i24 (s24:Unit)=>each b24 kx24 (List.drop i24 a) i24 s24=some r) (fun i24 s24=>[(0,E0 a),(1,E0 b),(5,Ej i24)]) (fun i24 s24=>[]) (fun i24=>a.length - i24) 0 () h ⟨⟨.same O,.same O,.same O,G⟩,G,O⟩ ?_
  clear h
  intro i24 s24 hi24 K24 e24
  refine Js fun hK25=>Jr fun hK26=>(Yk (Ej i24) O (Yk (E0 a) O (JLl Gp O O O fun hm13=>(JLh (BL (decide ((i24:Int) < (a.length:Int)))) (J9 O O O) O (G7 (hK26 (Gk O (fun hb=>?_) (fun hb=>?_))))))))
  ·
   have hk24:=Jg hb
   obtain⟨y24,nx24,hy24,hn24,h⟩:=Hp hi24 hk24
   replace h:=Rz hb24 h
   refine Gq (hK25 (Js fun hK27=>Gv (Js fun hK28=>?_)))
   obtain⟨m30,y29,hm30,hy29,h⟩:=Yx h
   refine JC_d0 Q9 (by kernel_rfl) (Dq (E0 a) (G5 O O) O (Dq (Ej i24) (G5 O O) O (Dq (.dptr [G0 y24]) (Ha (f:=G0) (xs:=a) (y:=y24) O O O Gp hy24 O) O (Dq (G0 y24) (Gh Gb O O O) O (Dq (E0 b) (G5 O O) O (Dq (Ej i24) (G5 O O) O (Dq (.dptr [G0 y29]) (Ha (f:=G0) (xs:=b) (y:=y29) O O O Gp hy29 hm30) O (Dq (G0 y29) (Gh Gb O O O) O (Dq (BL (decide (y24≠y29))) (Zs O O O) O (Dnil (hK28 (JCc O h (fun h hb=>?_) (fun h hb=>?_)))))))))))))
   ·
    refine Jr fun hK31=>(Yk (BL false) O (G7 (hK31 (Gw (fin1 BL h)))))
   ·
    refine Gq (hK27 (G3 (Yk (Ej i24) O (JLh (G0 ((i24+1:Nat):Int)) (Hx (Hn hk24 hm13) O O O) O (Yk (G0 ((i24+1:Nat):Int)) O (G7 (e24 _ _ (i24+1) () (app1 hn24 h) (by omega) ⟨⟨.same rfl,.same rfl,.same rfl,G⟩,G,rfl⟩)))))))
  ·
   have h:=app1 hkx24 (Hq hi24 (Hb hb))
   refine Ht (hK5 (Jr fun hK32=>(Yk (BL true) O (G7 (hK32 (Gw (fin1 BL h)))))))

def Zy (a:List Slot) (b:List Slot):Option Bool:=
 bif decide ((a.length:Int)≠(b.length:Int)) then
 (some false)
 else
 (each (fun y24 i24 (s24:Unit) nx24=>
   Yy b (i24:Int) fun y29=>
   bif (!decide (y24=y29)) then
   (some false)
   else
   (nx24 ()))
  (fun(s24:Unit)=>
   some true) a 0 ())
theorem Gd9 (a:List Slot) (b:List Slot) (r:Bool) (h:Zy a b=some r):Pure Ek 37 [E8 a,E8 b] (·=BL r):=by
 unfold Zy at h
 refine H4 [.tmp 4] Tryz.func37 O O (Jr fun hK1=>(Yk (BL false) O (G7 (hK1 (Js fun hK2=>Jr fun hK3=>(Yk (E8 a) O (JLl J1 O O O fun hm7=>(Yk (E8 b) O (JLl J1 O O O fun hm9=>(JLh (BL (decide ((a.length:Int)≠(b.length:Int)))) (Zs O O O) O (G7 (hK3 (JCc O h (fun h hb=>?_) (fun h hb=>?_))))))))))))))
 ·
  refine Jr fun hK4=>(Yk (BL false) O (G7 (hK4 (Gw (fin1 BL h)))))
 ·
  refine Gq (hK2 (Js fun hK5=>Jr fun hK6=>(Yk (G0 0) O (G7 (hK6 (Gv ?_))))))
  obtain⟨b24,kx24,hb24,hkx24,h⟩:=J0 h
  refine Ho (fun i24 (s24:Unit)=>each b24 kx24 (List.drop i24 a) i24 s24=some r) (fun i24 s24=>[(0,E8 a),(1,E8 b),(5,Ej i24)]) (fun i24 s24=>[]) (fun i24=>a.length - i24) 0 () h ⟨⟨.same O,.same O,.same O,G⟩,G,O⟩ ?_
  clear h
  intro i24 s24 hi24 K24 e24
  refine Js fun hK25=>Jr fun hK26=>(Yk (Ej i24) O (Yk (E8 a) O (JLl J1 O O O fun hm13=>(JLh (BL (decide ((i24:Int) < (a.length:Int)))) (J9 O O O) O (G7 (hK26 (Gk O (fun hb=>?_) (fun hb=>?_))))))))
  ·
   have hk24:=Jg hb
   obtain⟨y24,nx24,hy24,hn24,h⟩:=Hp hi24 hk24
   replace h:=Rz hb24 h
   refine Gq (hK25 (Js fun hK27=>Gv (Js fun hK28=>?_)))
   obtain⟨m30,y29,hm30,hy29,h⟩:=Yx h
   refine JC_d0 Q9 (by kernel_rfl) (Dq (E8 a) (G5 O O) O (Dq (Ej i24) (G5 O O) O (Dq (Eh y24) (Ha (f:=Slot.av) (xs:=a) (y:=y24) O O O J1 hy24 O) O (Dq (.agg (Slot.cs y24)) (Gg J7 O O O) O (Dq (E8 b) (G5 O O) O (Dq (Ej i24) (G5 O O) O (Dq (Eh y29) (Ha (f:=Slot.av) (xs:=b) (y:=y29) O O O J1 hy29 hm30) O (Dq (.agg (Slot.cs y29)) (Gg J7 O O O) O (Dq (BL (!decide (y24=y29))) (A_neAgg (vs:=[.int .i64 y24.G4,.int .i64 y24.Tier,.int .u8 y24.Half]) (us:=[.int .i64 y29.G4,.int .i64 y29.Tier,.int .u8 y29.Half]) 4 O (tq_47 y24 y29) Ge5 H51 O O O) O (Dnil (hK28 (JCc O h (fun h hb=>?_) (fun h hb=>?_)))))))))))))
   ·
    refine Jr fun hK31=>(Yk (BL false) O (G7 (hK31 (Gw (fin1 BL h)))))
   ·
    refine Gq (hK27 (G3 (Yk (Ej i24) O (JLh (G0 ((i24+1:Nat):Int)) (Hx (Hn hk24 hm13) O O O) O (Yk (G0 ((i24+1:Nat):Int)) O (G7 (e24 _ _ (i24+1) () (app1 hn24 h) (by omega) ⟨⟨.same rfl,.same rfl,.same rfl,G⟩,G,rfl⟩)))))))
  ·
   have h:=app1 hkx24 (Hq hi24 (Hb hb))
   refine Ht (hK5 (Jr fun hK32=>(Yk (BL true) O (G7 (hK32 (Gw (fin1 BL h)))))))

def Ji (F:Nat) :Option Bool:=
 bnd (Zx) fun r3=>
 bnd (Qz 1 0 0 0) fun r6=>
 bnd (Qz 2 0 1 0) fun r7=>
 bnd (Qz 3 2 1 0) fun r8=>
 bnd (Qz 6 2 0 1) fun r9=>
 bnd (Qz 7 2 0 2) fun r10=>
 bnd (Jp F r3 [(Ga.mk 1 ByteArray.empty 40 false 0 0 1 0 false),(Ga.mk 2 ByteArray.empty 40 false 0 0 2 0 false),(Ga.mk 3 ByteArray.empty 40 false 0 0 3 0 false),(Ga.mk 4 ByteArray.empty 40 false 0 0 1 0 false),(Ga.mk 5 ByteArray.empty 40 false 0 0 1 0 false),(Ga.mk 6 ByteArray.empty 20 false 0 0 1 0 false),(Ga.mk 7 ByteArray.empty 20 false 0 0 2 0 false)] [r6,r7,r8,r9,r10] 2) fun r12=>
 bnd (Jp F r3 [(Ga.mk 1 ByteArray.empty 40 false 0 0 1 0 false),(Ga.mk 2 ByteArray.empty 40 false 0 0 2 0 false),(Ga.mk 3 ByteArray.empty 40 false 0 0 3 0 false),(Ga.mk 4 ByteArray.empty 40 false 0 0 1 0 false),(Ga.mk 5 ByteArray.empty 40 false 0 0 1 0 false),(Ga.mk 6 ByteArray.empty 20 false 0 0 1 0 false),(Ga.mk 7 ByteArray.empty 20 false 0 0 2 0 false)] [r6,r7,r8,r9,r10] 3) fun r14=>
 bnd (Jp F r3 [(Ga.mk 1 ByteArray.empty 40 false 0 0 1 0 false),(Ga.mk 2 ByteArray.empty 40 false 0 0 2 0 false),(Ga.mk 3 ByteArray.empty 40 false 0 0 3 0 false),(Ga.mk 4 ByteArray.empty 40 false 0 0 1 0 false),(Ga.mk 5 ByteArray.empty 40 false 0 0 1 0 false),(Ga.mk 6 ByteArray.empty 20 false 0 0 1 0 false),(Ga.mk 7 ByteArray.empty 20 false 0 0 2 0 false)] [r6,r7,r8,r9,r10] 7) fun r16=>
 bnd (Qw F r3 [(Ga.mk 1 ByteArray.empty 40 false 0 0 1 0 false),(Ga.mk 2 ByteArray.empty 40 false 0 0 2 0 false),(Ga.mk 3 ByteArray.empty 40 false 0 0 3 0 false),(Ga.mk 4 ByteArray.empty 40 false 0 0 1 0 false),(Ga.mk 5 ByteArray.empty 40 false 0 0 1 0 false),(Ga.mk 6 ByteArray.empty 20 false 0 0 1 0 false),(Ga.mk 7 ByteArray.empty 20 false 0 0 2 0 false)] [r6,r7,r8,r9,r10]) fun r18=>
 bnd (Zj F r3 [(Ga.mk 1 ByteArray.empty 40 false 0 0 1 0 false),(Ga.mk 2 ByteArray.empty 40 false 0 0 2 0 false),(Ga.mk 3 ByteArray.empty 40 false 0 0 3 0 false),(Ga.mk 4 ByteArray.empty 40 false 0 0 1 0 false),(Ga.mk 5 ByteArray.empty 40 false 0 0 1 0 false),(Ga.mk 6 ByteArray.empty 20 false 0 0 1 0 false),(Ga.mk 7 ByteArray.empty 20 false 0 0 2 0 false)] [r6,r7,r8,r9,r10]) fun r20=>
 bnd (Yi F r3 [(Ga.mk 1 ByteArray.empty 40 false 0 0 1 0 false),(Ga.mk 2 ByteArray.empty 40 false 0 0 2 0 false),(Ga.mk 3 ByteArray.empty 40 false 0 0 3 0 false),(Ga.mk 4 ByteArray.empty 40 false 0 0 1 0 false),(Ga.mk 5 ByteArray.empty 40 false 0 0 1 0 false),(Ga.mk 6 ByteArray.empty 20 false 0 0 1 0 false),(Ga.mk 7 ByteArray.empty 20 false 0 0 2 0 false)] [r6,r7,r8,r9,r10] 4) fun r22=>
 G09 (r12.2+r14.2) fun v25=>
 G09 (v25+r16.2) fun v26=>
 G09 (v26+r18.2) fun v27=>
 G09 (v27+r20.2.2.2) fun v28=>
 G09 (v28+r22.2.2) fun v29=>
 bnd (bif (!(decide (v29≠0))) then J6 r12.1 [1] else some default) fun r30=>
 bnd (bif (!((decide (v29≠0))||(!r30))) then J6 r14.1 [1,2,6,7] else some default) fun r31=>
 bnd (bif (!(((decide (v29≠0))||(!r30))||(!r31))) then J6 r16.1 [1] else some default) fun r32=>
 bnd (bif (!((((decide (v29≠0))||(!r30))||(!r31))||(!r32))) then J6 r18.1 [2,3,7] else some default) fun r33=>
 bif (((((decide (v29≠0))||(!r30))||(!r31))||(!r32))||(!r33)) then
 (some false)
 else
 (bnd (bif decide (r20.1=1) then J6 r20.2.1 [1,6] else some default) fun r36=>
  bnd (bif ((decide (r20.1=1))&&r36) then J6 r20.2.2.1 [2,3,7] else some default) fun r37=>
  bnd (bif ((((decide (r20.1=1))&&r36)&&r37)&&(decide (r22.2.1=0))) then Zy r22.1 [(Slot.mk 2 2 0),(Slot.mk 3 0 0),(Slot.mk 4 0 0)] else some default) fun r38=>
  some (((((decide (r20.1=1))&&r36)&&r37)&&(decide (r22.2.1=0)))&&r38))
theorem Qk (F:Nat)  (r:Bool) (h:Ji F =some r):Pure Ek 15 [] (·=BL r):=by
 unfold Ji at h
 refine H4 [.tmp 0] Tryz.func15 O O (Jr fun hK1=>(Yk (BL false) O (G7 (hK1 (Jr fun hK2=>?_)))))
 obtain⟨r3,hr3,h⟩:=Gd h
 refine JLh (.agg (Gs.cs r3)) (Gt O (Gd8  r3 hr3) Jed G) O (JLh (.ptr 1040 0) (Hu 1040 13 G0a O O) O (Hw (u:=.junk) (Hi (u:=.agg (Gs.cs r3)) (ds:=(Gs.cs r3)) Yt O O O O O O O O) (G7 (hK2 (Gr [(1,Ec r3)] [] 1040 rfl rfl rfl G rfl (by exact⟨.ptr,G⟩) ?_)))))
 refine Jr fun hK4=>(JLh (.agg [G0 1,ST ByteArray.empty,U8 40,BL false,G0 0,G0 0,G0 1,U8 0,BL false]) (Hz (cs:=[G0 1,ST ByteArray.empty,U8 40,BL false,G0 0,G0 0,G0 1,U8 0,BL false]) [(0,1),(1,1),(2,1),(3,1),(4,1),(5,1),(6,1),(7,1),(8,1)] [G0 0,ST ByteArray.empty,U8 0,BL false,G0 0,G0 0,G0 0,U8 0,BL false] [.int .i64 0,.string ByteArray.empty,.int .u8 0,.bool false,.int .i64 0,.int .i64 0,.int .i64 0,.int .u8 0,.bool false] Rm Ys ⟨.inl O,.inl O,.inl O,.inl O,.inl O,.inl O,.inl O,.inl O,.inl O,G⟩ O O) O (JLh (.agg [G0 2,ST ByteArray.empty,U8 40,BL false,G0 0,G0 0,G0 2,U8 0,BL false]) (Hz (cs:=[G0 2,ST ByteArray.empty,U8 40,BL false,G0 0,G0 0,G0 2,U8 0,BL false]) [(0,1),(1,1),(2,1),(3,1),(4,1),(5,1),(6,1),(7,1),(8,1)] [G0 0,ST ByteArray.empty,U8 0,BL false,G0 0,G0 0,G0 0,U8 0,BL false] [.int .i64 0,.string ByteArray.empty,.int .u8 0,.bool false,.int .i64 0,.int .i64 0,.int .i64 0,.int .u8 0,.bool false] Rm Ys ⟨.inl O,.inl O,.inl O,.inl O,.inl O,.inl O,.inl O,.inl O,.inl O,G⟩ O O) O (JLh (.agg [G0 3,ST ByteArray.empty,U8 40,BL false,G0 0,G0 0,G0 3,U8 0,BL false]) (Hz (cs:=[G0 3,ST ByteArray.empty,U8 40,BL false,G0 0,G0 0,G0 3,U8 0,BL false]) [(0,1),(1,1),(2,1),(3,1),(4,1),(5,1),(6,1),(7,1),(8,1)] [G0 0,ST ByteArray.empty,U8 0,BL false,G0 0,G0 0,G0 0,U8 0,BL false] [.int .i64 0,.string ByteArray.empty,.int .u8 0,.bool false,.int .i64 0,.int .i64 0,.int .i64 0,.int .u8 0,.bool false] Rm Ys ⟨.inl O,.inl O,.inl O,.inl O,.inl O,.inl O,.inl O,.inl O,.inl O,G⟩ O O) O (JLh (.agg [G0 4,ST ByteArray.empty,U8 40,BL false,G0 0,G0 0,G0 1,U8 0,BL false]) (Hz (cs:=[G0 4,ST ByteArray.empty,U8 40,BL false,G0 0,G0 0,G0 1,U8 0,BL false]) [(0,1),(1,1),(2,1),(3,1),(4,1),(5,1),(6,1),(7,1),(8,1)] [G0 0,ST ByteArray.empty,U8 0,BL false,G0 0,G0 0,G0 0,U8 0,BL false] [.int .i64 0,.string ByteArray.empty,.int .u8 0,.bool false,.int .i64 0,.int .i64 0,.int .i64 0,.int .u8 0,.bool false] Rm Ys ⟨.inl O,.inl O,.inl O,.inl O,.inl O,.inl O,.inl O,.inl O,.inl O,G⟩ O O) O (JLh (.agg [G0 5,ST ByteArray.empty,U8 40,BL false,G0 0,G0 0,G0 1,U8 0,BL false]) (Hz (cs:=[G0 5,ST ByteArray.empty,U8 40,BL false,G0 0,G0 0,G0 1,U8 0,BL false]) [(0,1),(1,1),(2,1),(3,1),(4,1),(5,1),(6,1),(7,1),(8,1)] [G0 0,ST ByteArray.empty,U8 0,BL false,G0 0,G0 0,G0 0,U8 0,BL false] [.int .i64 0,.string ByteArray.empty,.int .u8 0,.bool false,.int .i64 0,.int .i64 0,.int .i64 0,.int .u8 0,.bool false] Rm Ys ⟨.inl O,.inl O,.inl O,.inl O,.inl O,.inl O,.inl O,.inl O,.inl O,G⟩ O O) O (JLh (.agg [G0 6,ST ByteArray.empty,U8 20,BL false,G0 0,G0 0,G0 1,U8 0,BL false]) (Hz (cs:=[G0 6,ST ByteArray.empty,U8 20,BL false,G0 0,G0 0,G0 1,U8 0,BL false]) [(0,1),(1,1),(2,1),(3,1),(4,1),(5,1),(6,1),(7,1),(8,1)] [G0 0,ST ByteArray.empty,U8 0,BL false,G0 0,G0 0,G0 0,U8 0,BL false] [.int .i64 0,.string ByteArray.empty,.int .u8 0,.bool false,.int .i64 0,.int .i64 0,.int .i64 0,.int .u8 0,.bool false] Rm Ys ⟨.inl O,.inl O,.inl O,.inl O,.inl O,.inl O,.inl O,.inl O,.inl O,G⟩ O O) O (JLh (.agg [G0 7,ST ByteArray.empty,U8 20,BL false,G0 0,G0 0,G0 2,U8 0,BL false]) (Hz (cs:=[G0 7,ST ByteArray.empty,U8 20,BL false,G0 0,G0 0,G0 2,U8 0,BL false]) [(0,1),(1,1),(2,1),(3,1),(4,1),(5,1),(6,1),(7,1),(8,1)] [G0 0,ST ByteArray.empty,U8 0,BL false,G0 0,G0 0,G0 0,U8 0,BL false] [.int .i64 0,.string ByteArray.empty,.int .u8 0,.bool false,.int .i64 0,.int .i64 0,.int .i64 0,.int .u8 0,.bool false] Rm Ys ⟨.inl O,.inl O,.inl O,.inl O,.inl O,.inl O,.inl O,.inl O,.inl O,G⟩ O O) O (JLh (E2 [(Ga.mk 1 ByteArray.empty 40 false 0 0 1 0 false),(Ga.mk 2 ByteArray.empty 40 false 0 0 2 0 false),(Ga.mk 3 ByteArray.empty 40 false 0 0 3 0 false),(Ga.mk 4 ByteArray.empty 40 false 0 0 1 0 false),(Ga.mk 5 ByteArray.empty 40 false 0 0 1 0 false),(Ga.mk 6 ByteArray.empty 20 false 0 0 1 0 false),(Ga.mk 7 ByteArray.empty 20 false 0 0 2 0 false)]) (H7 (xs:=[.agg [G0 1,ST ByteArray.empty,U8 40,BL false,G0 0,G0 0,G0 1,U8 0,BL false],.agg [G0 2,ST ByteArray.empty,U8 40,BL false,G0 0,G0 0,G0 2,U8 0,BL false],.agg [G0 3,ST ByteArray.empty,U8 40,BL false,G0 0,G0 0,G0 3,U8 0,BL false],.agg [G0 4,ST ByteArray.empty,U8 40,BL false,G0 0,G0 0,G0 1,U8 0,BL false],.agg [G0 5,ST ByteArray.empty,U8 40,BL false,G0 0,G0 0,G0 1,U8 0,BL false],.agg [G0 6,ST ByteArray.empty,U8 20,BL false,G0 0,G0 0,G0 1,U8 0,BL false],.agg [G0 7,ST ByteArray.empty,U8 20,BL false,G0 0,G0 0,G0 2,U8 0,BL false]]) O ⟨O,O,O,O,O,O,O,O,O,O,O,O,O,O,G⟩ Q6 Ru O O O O) O (Yk (E2 [(Ga.mk 1 ByteArray.empty 40 false 0 0 1 0 false),(Ga.mk 2 ByteArray.empty 40 false 0 0 2 0 false),(Ga.mk 3 ByteArray.empty 40 false 0 0 3 0 false),(Ga.mk 4 ByteArray.empty 40 false 0 0 1 0 false),(Ga.mk 5 ByteArray.empty 40 false 0 0 1 0 false),(Ga.mk 6 ByteArray.empty 20 false 0 0 1 0 false),(Ga.mk 7 ByteArray.empty 20 false 0 0 2 0 false)]) O (G7 (hK4 ?_)))))))))))
 refine Jr fun hK5=>?_
 obtain⟨r6,hr6,h⟩:=Gd h
 refine JLh (.agg (Stowed.cs r6)) (Gt O (Y0 1 0 0 0 r6 hr6) Gc6 ⟨O,O,O,O,O,O,O,O,G⟩) O ?_
 obtain⟨r7,hr7,h⟩:=Gd h
 refine JLh (.agg (Stowed.cs r7)) (Gt O (Y0 2 0 1 0 r7 hr7) Gc6 ⟨O,O,O,O,O,O,O,O,G⟩) O ?_
 obtain⟨r8,hr8,h⟩:=Gd h
 refine JLh (.agg (Stowed.cs r8)) (Gt O (Y0 3 2 1 0 r8 hr8) Gc6 ⟨O,O,O,O,O,O,O,O,G⟩) O ?_
 obtain⟨r9,hr9,h⟩:=Gd h
 refine JLh (.agg (Stowed.cs r9)) (Gt O (Y0 6 2 0 1 r9 hr9) Gc6 ⟨O,O,O,O,O,O,O,O,G⟩) O ?_
 obtain⟨r10,hr10,h⟩:=Gd h
 refine JLh (.agg (Stowed.cs r10)) (Gt O (Y0 7 2 0 2 r10 hr10) Gc6 ⟨O,O,O,O,O,O,O,O,G⟩) O (JLh (E1 [r6,r7,r8,r9,r10]) (H7 (xs:=[.agg (Stowed.cs r6),.agg (Stowed.cs r7),.agg (Stowed.cs r8),.agg (Stowed.cs r9),.agg (Stowed.cs r10)]) O ⟨O,O,O,O,O,O,O,O,O,O,G⟩ H1 Ju O O O O) O (Yk (E1 [r6,r7,r8,r9,r10]) O (G7 (hK5 ?_))))
 refine Jr fun hK11=>(JLh (.agg (Gs.cs r3)) (Gg H3 O O O) O (Yk (E2 [(Ga.mk 1 ByteArray.empty 40 false 0 0 1 0 false),(Ga.mk 2 ByteArray.empty 40 false 0 0 2 0 false),(Ga.mk 3 ByteArray.empty 40 false 0 0 3 0 false),(Ga.mk 4 ByteArray.empty 40 false 0 0 1 0 false),(Ga.mk 5 ByteArray.empty 40 false 0 0 1 0 false),(Ga.mk 6 ByteArray.empty 20 false 0 0 1 0 false),(Ga.mk 7 ByteArray.empty 20 false 0 0 2 0 false)]) O (Yk (E1 [r6,r7,r8,r9,r10]) O ?_)))
 obtain⟨r12,hr12,h⟩:=Gd h
 refine JLh (.tup [E0 r12.1,G0 r12.2]) (Gt O (Q3 F r3 [(Ga.mk 1 ByteArray.empty 40 false 0 0 1 0 false),(Ga.mk 2 ByteArray.empty 40 false 0 0 2 0 false),(Ga.mk 3 ByteArray.empty 40 false 0 0 3 0 false),(Ga.mk 4 ByteArray.empty 40 false 0 0 1 0 false),(Ga.mk 5 ByteArray.empty 40 false 0 0 1 0 false),(Ga.mk 6 ByteArray.empty 20 false 0 0 1 0 false),(Ga.mk 7 ByteArray.empty 20 false 0 0 2 0 false)] [r6,r7,r8,r9,r10] 2 r12 hr12) Z8 ⟨O,O,O,O,O,O,O,O,G⟩) O (Yk (.tup [E0 r12.1,G0 r12.2]) O (JLh (E0 r12.1) (Gm O O O) O (JLh (G0 r12.2) (Gm O O O) O (Yk (E0 r12.1) O (Yk (G0 r12.2) O (G7 (hK11 ?_)))))))
 refine Jr fun hK13=>(JLh (.agg (Gs.cs r3)) (Gg H3 O O O) O (Yk (E2 [(Ga.mk 1 ByteArray.empty 40 false 0 0 1 0 false),(Ga.mk 2 ByteArray.empty 40 false 0 0 2 0 false),(Ga.mk 3 ByteArray.empty 40 false 0 0 3 0 false),(Ga.mk 4 ByteArray.empty 40 false 0 0 1 0 false),(Ga.mk 5 ByteArray.empty 40 false 0 0 1 0 false),(Ga.mk 6 ByteArray.empty 20 false 0 0 1 0 false),(Ga.mk 7 ByteArray.empty 20 false 0 0 2 0 false)]) O (Yk (E1 [r6,r7,r8,r9,r10]) O ?_)))
 obtain⟨r14,hr14,h⟩:=Gd h
 refine JLh (.tup [E0 r14.1,G0 r14.2]) (Gt O (Q3 F r3 [(Ga.mk 1 ByteArray.empty 40 false 0 0 1 0 false),(Ga.mk 2 ByteArray.empty 40 false 0 0 2 0 false),(Ga.mk 3 ByteArray.empty 40 false 0 0 3 0 false),(Ga.mk 4 ByteArray.empty 40 false 0 0 1 0 false),(Ga.mk 5 ByteArray.empty 40 false 0 0 1 0 false),(Ga.mk 6 ByteArray.empty 20 false 0 0 1 0 false),(Ga.mk 7 ByteArray.empty 20 false 0 0 2 0 false)] [r6,r7,r8,r9,r10] 3 r14 hr14) Z8 ⟨O,O,O,O,O,O,O,O,G⟩) O (Yk (.tup [E0 r14.1,G0 r14.2]) O (JLh (E0 r14.1) (Gm O O O) O (JLh (G0 r14.2) (Gm O O O) O (Yk (E0 r14.1) O (Yk (G0 r14.2) O (G7 (hK13 ?_)))))))
 refine Jr fun hK15=>(JLh (.agg (Gs.cs r3)) (Gg H3 O O O) O (Yk (E2 [(Ga.mk 1 ByteArray.empty 40 false 0 0 1 0 false),(Ga.mk 2 ByteArray.empty 40 false 0 0 2 0 false),(Ga.mk 3 ByteArray.empty 40 false 0 0 3 0 false),(Ga.mk 4 ByteArray.empty 40 false 0 0 1 0 false),(Ga.mk 5 ByteArray.empty 40 false 0 0 1 0 false),(Ga.mk 6 ByteArray.empty 20 false 0 0 1 0 false),(Ga.mk 7 ByteArray.empty 20 false 0 0 2 0 false)]) O (Yk (E1 [r6,r7,r8,r9,r10]) O ?_)))
 obtain⟨r16,hr16,h⟩:=Gd h
 refine JLh (.tup [E0 r16.1,G0 r16.2]) (Gt O (Q3 F r3 [(Ga.mk 1 ByteArray.empty 40 false 0 0 1 0 false),(Ga.mk 2 ByteArray.empty 40 false 0 0 2 0 false),(Ga.mk 3 ByteArray.empty 40 false 0 0 3 0 false),(Ga.mk 4 ByteArray.empty 40 false 0 0 1 0 false),(Ga.mk 5 ByteArray.empty 40 false 0 0 1 0 false),(Ga.mk 6 ByteArray.empty 20 false 0 0 1 0 false),(Ga.mk 7 ByteArray.empty 20 false 0 0 2 0 false)] [r6,r7,r8,r9,r10] 7 r16 hr16) Z8 ⟨O,O,O,O,O,O,O,O,G⟩) O (Yk (.tup [E0 r16.1,G0 r16.2]) O (JLh (E0 r16.1) (Gm O O O) O (JLh (G0 r16.2) (Gm O O O) O (Yk (E0 r16.1) O (Yk (G0 r16.2) O (G7 (hK15 ?_)))))))
 refine Jr fun hK17=>(JLh (.agg (Gs.cs r3)) (Gg H3 O O O) O (Yk (E2 [(Ga.mk 1 ByteArray.empty 40 false 0 0 1 0 false),(Ga.mk 2 ByteArray.empty 40 false 0 0 2 0 false),(Ga.mk 3 ByteArray.empty 40 false 0 0 3 0 false),(Ga.mk 4 ByteArray.empty 40 false 0 0 1 0 false),(Ga.mk 5 ByteArray.empty 40 false 0 0 1 0 false),(Ga.mk 6 ByteArray.empty 20 false 0 0 1 0 false),(Ga.mk 7 ByteArray.empty 20 false 0 0 2 0 false)]) O (Yk (E1 [r6,r7,r8,r9,r10]) O ?_)))
 obtain⟨r18,hr18,h⟩:=Gd h
 refine JLh (.tup [E0 r18.1,G0 r18.2]) (Gt O (G13.down F r3 [(Ga.mk 1 ByteArray.empty 40 false 0 0 1 0 false),(Ga.mk 2 ByteArray.empty 40 false 0 0 2 0 false),(Ga.mk 3 ByteArray.empty 40 false 0 0 3 0 false),(Ga.mk 4 ByteArray.empty 40 false 0 0 1 0 false),(Ga.mk 5 ByteArray.empty 40 false 0 0 1 0 false),(Ga.mk 6 ByteArray.empty 20 false 0 0 1 0 false),(Ga.mk 7 ByteArray.empty 20 false 0 0 2 0 false)] [r6,r7,r8,r9,r10] r18 hr18) H52 ⟨O,O,O,O,O,O,G⟩) O (Yk (.tup [E0 r18.1,G0 r18.2]) O (JLh (E0 r18.1) (Gm O O O) O (JLh (G0 r18.2) (Gm O O O) O (Yk (E0 r18.1) O (Yk (G0 r18.2) O (G7 (hK17 ?_)))))))
 refine Jr fun hK19=>(JLh (.agg (Gs.cs r3)) (Gg H3 O O O) O (Yk (E2 [(Ga.mk 1 ByteArray.empty 40 false 0 0 1 0 false),(Ga.mk 2 ByteArray.empty 40 false 0 0 2 0 false),(Ga.mk 3 ByteArray.empty 40 false 0 0 3 0 false),(Ga.mk 4 ByteArray.empty 40 false 0 0 1 0 false),(Ga.mk 5 ByteArray.empty 40 false 0 0 1 0 false),(Ga.mk 6 ByteArray.empty 20 false 0 0 1 0 false),(Ga.mk 7 ByteArray.empty 20 false 0 0 2 0 false)]) O (Yk (E1 [r6,r7,r8,r9,r10]) O ?_)))
 obtain⟨r20,hr20,h⟩:=Gd h
 refine JLh (.tup [G0 r20.1,E0 r20.2.1,E0 r20.2.2.1,G0 r20.2.2.2]) (Gt O (G27 F r3 [(Ga.mk 1 ByteArray.empty 40 false 0 0 1 0 false),(Ga.mk 2 ByteArray.empty 40 false 0 0 2 0 false),(Ga.mk 3 ByteArray.empty 40 false 0 0 3 0 false),(Ga.mk 4 ByteArray.empty 40 false 0 0 1 0 false),(Ga.mk 5 ByteArray.empty 40 false 0 0 1 0 false),(Ga.mk 6 ByteArray.empty 20 false 0 0 1 0 false),(Ga.mk 7 ByteArray.empty 20 false 0 0 2 0 false)] [r6,r7,r8,r9,r10] r20 hr20) H10 ⟨O,O,O,O,O,O,G⟩) O (Yk (.tup [G0 r20.1,E0 r20.2.1,E0 r20.2.2.1,G0 r20.2.2.2]) O (JLh (G0 r20.1) (Gm O O O) O (JLh (E0 r20.2.1) (Gm O O O) O (JLh (E0 r20.2.2.1) (Gm O O O) O (JLh (G0 r20.2.2.2) (Gm O O O) O (Yk (G0 r20.1) O (Yk (E0 r20.2.1) O (Yk (E0 r20.2.2.1) O (Yk (G0 r20.2.2.2) O (G7 (hK19 ?_)))))))))))
 refine Jr fun hK21=>(JLh (.agg (Gs.cs r3)) (Gg H3 O O O) O (Yk (E2 [(Ga.mk 1 ByteArray.empty 40 false 0 0 1 0 false),(Ga.mk 2 ByteArray.empty 40 false 0 0 2 0 false),(Ga.mk 3 ByteArray.empty 40 false 0 0 3 0 false),(Ga.mk 4 ByteArray.empty 40 false 0 0 1 0 false),(Ga.mk 5 ByteArray.empty 40 false 0 0 1 0 false),(Ga.mk 6 ByteArray.empty 20 false 0 0 1 0 false),(Ga.mk 7 ByteArray.empty 20 false 0 0 2 0 false)]) O (Yk (E1 [r6,r7,r8,r9,r10]) O ?_)))
 obtain⟨r22,hr22,h⟩:=Gd h
 refine JLh (.tup [E8 r22.1,G0 r22.2.1,G0 r22.2.2]) (Gt O (Z7 F r3 [(Ga.mk 1 ByteArray.empty 40 false 0 0 1 0 false),(Ga.mk 2 ByteArray.empty 40 false 0 0 2 0 false),(Ga.mk 3 ByteArray.empty 40 false 0 0 3 0 false),(Ga.mk 4 ByteArray.empty 40 false 0 0 1 0 false),(Ga.mk 5 ByteArray.empty 40 false 0 0 1 0 false),(Ga.mk 6 ByteArray.empty 20 false 0 0 1 0 false),(Ga.mk 7 ByteArray.empty 20 false 0 0 2 0 false)] [r6,r7,r8,r9,r10] 4 r22 hr22) G88 ⟨O,O,O,O,O,O,O,O,G⟩) O (Yk (.tup [E8 r22.1,G0 r22.2.1,G0 r22.2.2]) O (JLh (E8 r22.1) (Gm O O O) O (JLh (G0 r22.2.1) (Gm O O O) O (JLh (G0 r22.2.2) (Gm O O O) O (Yk (E8 r22.1) O (Yk (G0 r22.2.1) O (Yk (G0 r22.2.2) O (G7 (hK21 (Js fun hK23=>Jr fun hK24=>(Yk (G0 r12.2) O (Yk (G0 r14.2) O ?_))))))))))))
 obtain⟨v25,hv25,h⟩:=Jm h
 refine JLh (G0 v25) (Hx hv25 O O O) O (Yk (G0 r16.2) O ?_)
 obtain⟨v26,hv26,h⟩:=Jm h
 refine JLh (G0 v26) (Hx hv26 O O O) O (Yk (G0 r18.2) O ?_)
 obtain⟨v27,hv27,h⟩:=Jm h
 refine JLh (G0 v27) (Hx hv27 O O O) O (Yk (G0 r20.2.2.2) O ?_)
 obtain⟨v28,hv28,h⟩:=Jm h
 refine JLh (G0 v28) (Hx hv28 O O O) O (Yk (G0 r22.2.2) O ?_)
 obtain⟨v29,hv29,h⟩:=Jm h
 refine JLh (G0 v29) (Hx hv29 O O O) O (JLh (BL (decide (v29≠0))) (Zs O O O) O (Yk (BL (decide (v29≠0))) O (JLo (E0 r12.1) [] O .scf G (fun hc=>G5 O O) O (JLo (E0 [1]) [] O .scf G (fun hc=>H7 (xs:=[G0 1]) O ⟨O,O,G⟩ Gp Jy O O O O) O ?_))))
 obtain⟨r30,hr30,h⟩:=Gd h
 refine JLo (BL r30) [92,93] O .scf ⟨Ua,Ua,G⟩ (fun hc=>Gt (args:=[E0 r12.1,E0 [1]]) O (Q0 r12.1 [1] r30 (H2 hc hr30)) G61 ⟨O,O,O,O,G⟩) O (JLo (BL (!r30)) [94] O .scf ⟨Ua,G⟩ (fun hc=>Ri (b:=r30) O O) O (JLh (BL ((decide (v29≠0))||(!r30))) (Ze O O O O) O (Yk (BL ((decide (v29≠0))||(!r30))) O (JLo (E0 r14.1) [] O .scf G (fun hc=>G5 O O) O (JLo (E0 [1,2,6,7]) [] O .scf G (fun hc=>H7 (xs:=[G0 1,G0 2,G0 6,G0 7]) O ⟨O,O,O,O,O,O,O,O,G⟩ Gp Jy O O O O) O ?_)))))
 obtain⟨r31,hr31,h⟩:=Gd h
 refine JLo (BL r31) [98,99] O .scf ⟨Ua,Ua,G⟩ (fun hc=>Gt (args:=[E0 r14.1,E0 [1,2,6,7]]) O (Q0 r14.1 [1,2,6,7] r31 (H2 hc hr31)) G61 ⟨O,O,O,O,G⟩) O (JLo (BL (!r31)) [100] O .scf ⟨Ua,G⟩ (fun hc=>Ri (b:=r31) O O) O (JLh (BL (((decide (v29≠0))||(!r30))||(!r31))) (Ze O O O O) O (Yk (BL (((decide (v29≠0))||(!r30))||(!r31))) O (JLo (E0 r16.1) [] O .scf G (fun hc=>G5 O O) O (JLo (E0 [1]) [] O .scf G (fun hc=>H7 (xs:=[G0 1]) O ⟨O,O,G⟩ Gp Jy O O O O) O ?_)))))
 obtain⟨r32,hr32,h⟩:=Gd h
 refine JLo (BL r32) [104,105] O .scf ⟨Ua,Ua,G⟩ (fun hc=>Gt (args:=[E0 r16.1,E0 [1]]) O (Q0 r16.1 [1] r32 (H2 hc hr32)) G61 ⟨O,O,O,O,G⟩) O (JLo (BL (!r32)) [106] O .scf ⟨Ua,G⟩ (fun hc=>Ri (b:=r32) O O) O (JLh (BL ((((decide (v29≠0))||(!r30))||(!r31))||(!r32))) (Ze O O O O) O (Yk (BL ((((decide (v29≠0))||(!r30))||(!r31))||(!r32))) O (JLo (E0 r18.1) [] O .scf G (fun hc=>G5 O O) O (JLo (E0 [2,3,7]) [] O .scf G (fun hc=>H7 (xs:=[G0 2,G0 3,G0 7]) O ⟨O,O,O,O,O,O,G⟩ Gp Jy O O O O) O ?_)))))
 obtain⟨r33,hr33,h⟩:=Gd h
 refine JLo (BL r33) [110,111] O .scf ⟨Ua,Ua,G⟩ (fun hc=>Gt (args:=[E0 r18.1,E0 [2,3,7]]) O (Q0 r18.1 [2,3,7] r33 (H2 hc hr33)) G61 ⟨O,O,O,O,G⟩) O (JLo (BL (!r33)) [112] O .scf ⟨Ua,G⟩ (fun hc=>Ri (b:=r33) O O) O (JLh (BL (((((decide (v29≠0))||(!r30))||(!r31))||(!r32))||(!r33))) (Ze O O O O) O (G7 (hK24 (JCc O h (fun h hb=>?_) (fun h hb=>?_))))))
 ·
  refine Jr fun hK34=>(Yk (BL false) O (G7 (hK34 (Gw (fin1 BL h)))))
 ·
  refine Gq (hK23 (Jr fun hK35=>(Yk (G0 r20.1) O (JLh (BL (decide (r20.1=1))) (Jx O O O) O (Yk (BL (decide (r20.1=1))) O (JLo (E0 r20.2.1) [] O .sct G (fun hc=>G5 O O) O (JLo (E0 [1,6]) [] O .sct G (fun hc=>H7 (xs:=[G0 1,G0 6]) O ⟨O,O,O,O,G⟩ Gp Jy O O O O) O ?_)))))))
  obtain⟨r36,hr36,h⟩:=Gd h
  refine JLo (BL r36) [118,119] O .sct ⟨Ua,Ua,G⟩ (fun hc=>Gt (args:=[E0 r20.2.1,E0 [1,6]]) O (Q0 r20.2.1 [1,6] r36 (H2 hc hr36)) G61 ⟨O,O,O,O,G⟩) O (JLh (BL ((decide (r20.1=1))&&r36)) (Q8 O O O O) O (Yk (BL ((decide (r20.1=1))&&r36)) O (JLo (E0 r20.2.2.1) [] O .sct G (fun hc=>G5 O O) O (JLo (E0 [2,3,7]) [] O .sct G (fun hc=>H7 (xs:=[G0 2,G0 3,G0 7]) O ⟨O,O,O,O,O,O,G⟩ Gp Jy O O O O) O ?_))))
  obtain⟨r37,hr37,h⟩:=Gd h
  refine JLo (BL r37) [123,124] O .sct ⟨Ua,Ua,G⟩ (fun hc=>Gt (args:=[E0 r20.2.2.1,E0 [2,3,7]]) O (Q0 r20.2.2.1 [2,3,7] r37 (H2 hc hr37)) G61 ⟨O,O,O,O,G⟩) O (JLh (BL (((decide (r20.1=1))&&r36)&&r37)) (Q8 O O O O) O (Yk (BL (((decide (r20.1=1))&&r36)&&r37)) O (JLo (G0 r22.2.1) [] O .sct G (fun hc=>G5 O O) O (JLo (BL (decide (r22.2.1=0))) [128] O .sct ⟨Ua,G⟩ (fun hc=>Jx O O O) O (JLh (BL ((((decide (r20.1=1))&&r36)&&r37)&&(decide (r22.2.1=0)))) (Q8 O O O O) O (Yk (BL ((((decide (r20.1=1))&&r36)&&r37)&&(decide (r22.2.1=0)))) O (JLo (E8 r22.1) [] O .sct G (fun hc=>G5 O O) O (JLo (.agg [G0 2,G0 2,U8 0]) [] O .sct G (fun hc=>Hz (cs:=[G0 2,G0 2,U8 0]) [(0,1),(1,1),(2,1)] [G0 0,G0 0,U8 0] [.int .i64 0,.int .i64 0,.int .u8 0] G10 G5f ⟨.inl O,.inl O,.inl O,G⟩ O O) O (JLo (.agg [G0 3,G0 0,U8 0]) [] O .sct G (fun hc=>Hz (cs:=[G0 3,G0 0,U8 0]) [(0,1),(1,1),(2,1)] [G0 0,G0 0,U8 0] [.int .i64 0,.int .i64 0,.int .u8 0] G10 G5f ⟨.inl O,.inl O,.inl O,G⟩ O O) O (JLo (.agg [G0 4,G0 0,U8 0]) [] O .sct G (fun hc=>Hz (cs:=[G0 4,G0 0,U8 0]) [(0,1),(1,1),(2,1)] [G0 0,G0 0,U8 0] [.int .i64 0,.int .i64 0,.int .u8 0] G10 G5f ⟨.inl O,.inl O,.inl O,G⟩ O O) O (JLo (E8 [(Slot.mk 2 2 0),(Slot.mk 3 0 0),(Slot.mk 4 0 0)]) [133,134,135] O .sct ⟨Ua,Ua,Ua,G⟩ (fun hc=>H7 (xs:=[.agg [G0 2,G0 2,U8 0],.agg [G0 3,G0 0,U8 0],.agg [G0 4,G0 0,U8 0]]) O ⟨O,O,O,O,O,O,G⟩ J1 Rv O O O O) O ?_)))))))))))
  obtain⟨r38,hr38,h⟩:=Gd h
  refine JLo (BL r38) [132,136] O .sct ⟨Ua,Ua,G⟩ (fun hc=>Gt (args:=[E8 r22.1,E8 [(Slot.mk 2 2 0),(Slot.mk 3 0 0),(Slot.mk 4 0 0)]]) O (Gd9 r22.1 [(Slot.mk 2 2 0),(Slot.mk 3 0 0),(Slot.mk 4 0 0)] r38 (H2 hc hr38)) Jec ⟨O,O,O,O,G⟩) O (JLh (BL (((((decide (r20.1=1))&&r36)&&r37)&&(decide (r22.2.1=0)))&&r38)) (Q8 O O O O) O (Yk (BL (((((decide (r20.1=1))&&r36)&&r37)&&(decide (r22.2.1=0)))&&r38)) O (G7 (hK35 (Gw (fin1 BL h))))))

def Qr (F:Nat) (l:List Gx) (covers:Int) (drops:List Gn):Option Bool:=
 bnd (Jd l covers drops 10) fun r3=>
 bnd (Qw F r3.1 r3.2.1 r3.2.2) fun r5=>
 bif decide (r5.2≠0) then
 (some false)
 else
 (each (fun y13 i13 (s13:Int×(H5 J3 Int)) nx13=>
   bnd (Jp F r3.1 r3.2.1 r3.2.2 y13.Ga) fun r19=>
   bnd (bif (!(decide (r19.2≠0))) then M_twistlocklaw22_holds r5.1 y13.Ga else some default) fun r22=>
   bif ((decide (r19.2≠0))||(!((decide (0 < (r19.1.length:Int)))==r22))) then
   (some false)
   else
   (jp (fun kj24=>
     bif decide (0 < (r19.1.length:Int)) then
     (G09 (s13.1+1) fun v26=>
      kj24 v26)
     else
     (kj24 s13.1)) fun(j24:Int)=>
    each (fun y116 i116 (s116:(H5 J3 Int)) nx116=>
     bnd (Jz r3.2.1 y116) fun r123=>
     bnd (Jz r3.2.1 y13.Ga) fun r124=>
     bnd (bif ((!(decide (r124≤r123)))&&(decide (0 < (i116:Int)))) then G09 ((i116:Int) - 1) some else some 0) fun v125=>
     bnd (bif ((!(decide (r124≤r123)))&&(decide (0 < (i116:Int)))) then Yy r19.1 v125 some else some default) fun y126=>
     bnd (bif (!((decide (r124≤r123))||((decide (0 < (i116:Int)))&&(decide (y116≤y126))))) then some (H5.get s116 (J3.mk y116 y13.Ga) 0) else some 0) fun v127=>
     bif (((decide (r124≤r123))||((decide (0 < (i116:Int)))&&(decide (y116≤y126))))||(decide (0 < v127))) then
     (some false)
     else
     (bnd (some (H5.get s116 (J3.mk y13.Ga y116) 0)) fun v129=>
      G09 (v129+1) fun v130=>
      nx116 (H5.put s116 (J3.mk y13.Ga y116) v130)))
    (fun(s116:(H5 J3 Int))=>
     nx13 (j24,s116)) r19.1 0 s13.2))
  (fun(s13:Int×(H5 J3 Int))=>
   bnd (bif decide (s13.1=(r5.1.length:Int)) then Ji F else some default) fun r132=>
   some ((decide (s13.1=(r5.1.length:Int)))&&r132)) r3.2.2 0 (0,(H5.empty:H5 J3 Int)))
theorem Ga0 (F:Nat) (l:List Gx) (covers:Int) (drops:List Gn) (r:Bool) (h:Qr F l covers drops=some r):Pure Ek 4 [Eb l,.sc (.int .u32 covers),Ea drops] (·=BL r):=by
 unfold Qr at h
 refine H4 [.tmp 6] Tryz.func4 O O (Jr fun hK1=>(Yk (BL false) O (G7 (hK1 (Jr fun hK2=>(Yk (Eb l) O (Yk (.sc (.int .u32 covers)) O (Yk (Ea drops) O ?_))))))))
 obtain⟨r3,hr3,h⟩:=Gd h
 refine JLh (.tup [.agg (Gs.cs r3.1),E2 r3.2.1,E1 r3.2.2]) (Gt O (G05 l covers drops 10 r3 hr3) Gfd ⟨O,O,O,O,O,O,O,O,G⟩) O (Yk (.tup [.agg (Gs.cs r3.1),E2 r3.2.1,E1 r3.2.2]) O (JLh (.agg (Gs.cs r3.1)) (Gm O O O) O (JLh (E2 r3.2.1) (Gm O O O) O (JLh (E1 r3.2.2) (Gm O O O) O (JLh (.ptr 1005 0) (Hu 1005 13 G0a O O) O (Hw (u:=.junk) (Hi (u:=.agg (Gs.cs r3.1)) (ds:=(Gs.cs r3.1)) Yt O O O O O O O O) (Yk (E2 r3.2.1) O (Yk (E1 r3.2.2) O (G7 (hK2 ?_))))))))))
 refine Gr [(7,Ec r3.1),(8,E2 r3.2.1),(9,E1 r3.2.2)] [] 1005 rfl rfl rfl G rfl (by exact⟨.ptr,.conv (.same rfl),.conv (.same rfl),G⟩) (Jr fun hK4=>(JLh (.agg (Gs.cs r3.1)) (Gg H3 O O O) O (Yk (E2 r3.2.1) O (Yk (E1 r3.2.2) O ?_))))
 obtain⟨r5,hr5,h⟩:=Gd h
 refine JLh (.tup [E0 r5.1,G0 r5.2]) (Gt O (G13.down F r3.1 r3.2.1 r3.2.2 r5 hr5) H52 ⟨O,O,O,O,O,O,G⟩) O (Yk (.tup [E0 r5.1,G0 r5.2]) O (JLh (E0 r5.1) (Gm O O O) O (JLh (G0 r5.2) (Gm O O O) O (Yk (E0 r5.1) O (Yk (G0 r5.2) O (G7 (hK4 (Js fun hK6=>Jr fun hK7=>(Yk (G0 r5.2) O (JLh (BL (decide (r5.2≠0))) (Zs O O O) O (G7 (hK7 (JCc O h (fun h hb=>?_) (fun h hb=>?_))))))))))))))
 ·
  refine Jr fun hK8=>(Yk (BL false) O (G7 (hK8 (Gw (fin1 BL h)))))
 ·
  refine Gq (hK6 (Jr fun hK9=>(JLh (.mp 1007) (H1f 1007 J3.kv G0 O O) O (Yk (.mp 1007) O (G7 (hK9 (Jr fun hK10=>(Yk (G0 0) O (G7 (hK10 (Js fun hK11=>Jr fun hK12=>(Yk (E1 r3.2.2) O (JLl H1 O O O fun hm39=>(Yk (G0 0) O (G7 (hK12 (Gv ?_)))))))))))))))))
  obtain⟨b13,kx13,hb13,hkx13,h⟩:=J0 h
  refine Ho (fun i13 (s13:Int×(H5 J3 Int))=>each b13 kx13 (List.drop i13 r3.2.2) i13 s13=some r) (fun i13 s13=>[(7,Ec r3.1),(8,E2 r3.2.1),(9,E1 r3.2.2),(10,E0 r5.1),(12,.mp 1007),(13,G0 s13.1),(38,E1 r3.2.2),(39,Ej r3.2.2.length),(40,Ej i13)]) (fun i13 s13=>[(1007,MP 56 J3.kv G0 s13.2)]) (fun i13=>r3.2.2.length - i13) 0 (0,(H5.empty:H5 J3 Int)) h ⟨(by repeat' constructor),⟨⟨_,rfl,.map⟩,G⟩,rfl⟩ ?_
  clear h
  intro i13 s13 hi13 K13 e13
  refine Jr fun hK14=>(JLh (BL (decide ((i13:Int) < (r3.2.2.length:Int)))) (J9 O O O) O (G7 (hK14 (Js fun hK15=>Gk O (fun hb=>?_) (fun hb=>?_)))))
  ·
   have hk13:=Jg hb
   obtain⟨y13,nx13,hy13,hn13,h⟩:=Hp hi13 hk13
   replace h:=Rz hb13 h
   refine Gq (hK15 (Js fun hK16=>Gv (Jr fun hK17=>(JLh (Ed y13) (Ha (f:=Stowed.av) (xs:=r3.2.2) (y:=y13) O O O H1 hy13 O) O (JLh (.agg (Stowed.cs y13)) (Gg Qv O O O) O (JLh (.ptr 1006 0) (Hu 1006 4 Ju O O) O (Hw (u:=.junk) (Hi (u:=.agg (Stowed.cs y13)) (ds:=[G0 y13.Ga,G0 y13.Slot.G4,G0 y13.Slot.Tier,U8 y13.Slot.Half]) R8 O O O O O O O O) (G7 (hK17 (Gr [(7,Ec r3.1),(8,E2 r3.2.1),(9,E1 r3.2.2),(10,E0 r5.1),(12,.mp 1007),(13,G0 s13.1),(15,Ed y13),(38,E1 r3.2.2),(39,Ej r3.2.2.length),(40,Ej i13)] [(1007,MP 56 J3.kv G0 s13.2)] 1006 rfl rfl rfl ⟨⟨_,rfl,.map⟩,G⟩ rfl (by repeat' (first | exact .ptr | constructor)) ?_))))))))))
   refine Jr fun hK18=>(JLh (.agg (Gs.cs r3.1)) (Gg H3 O O O) O (Yk (E2 r3.2.1) O (Yk (E1 r3.2.2) O (JLh (Ed y13) (Gf Hf O O O) O (JLh (G0 y13.Ga) (Gh Gb O O O) O ?_)))))
   obtain⟨r19,hr19,h⟩:=Gd h
   refine JLh (.tup [E0 r19.1,G0 r19.2]) (Gt O (Q3 F r3.1 r3.2.1 r3.2.2 y13.Ga r19 hr19) Z8 ⟨O,O,O,O,O,O,O,O,G⟩) O (Yk (.tup [E0 r19.1,G0 r19.2]) O (JLh (E0 r19.1) (Gm O O O) O (JLh (G0 r19.2) (Gm O O O) O (Yk (E0 r19.1) O (Yk (G0 r19.2) O (G7 (hK18 (Js fun hK20=>?_))))))))
   refine Jr fun hK21=>(Yk (G0 r19.2) O (JLh (BL (decide (r19.2≠0))) (Zs O O O) O (Yk (BL (decide (r19.2≠0))) O (JLo (E0 r19.1) [] O .scf G (fun hc=>G5 O O) O (JLo (Ej r19.1.length) [56] O .scf ⟨Ua,G⟩ (fun hc=>Zb (f:=G0) (xs:=r19.1) Gp O O) O (JLo (BL (decide (0 < (r19.1.length:Int)))) [57] O .scf ⟨Ua,G⟩ (fun hc=>G2a O O O) O (JLo (E0 r5.1) [] O .scf G (fun hc=>G5 O O) O (JLo (Ed y13) [] O .scf G (fun hc=>Gf Hf O O O) O (JLo (G0 y13.Ga) [60] O .scf ⟨Ua,G⟩ (fun hc=>Gh Gb O O O) O ?_)))))))))
   obtain⟨r22,hr22,h⟩:=Gd h
   refine JLo (BL r22) [59,61] O .scf ⟨Ua,Ua,G⟩ (fun hc=>Gt (args:=[E0 r5.1,G0 y13.Ga]) O (Qj r5.1 y13.Ga r22 (H2 hc hr22)) G8a ⟨O,O,O,O,G⟩) O (JLo (BL (!((decide (0 < (r19.1.length:Int)))==r22))) [58,62] O .scf ⟨Ua,Ua,G⟩ (fun hc=>Hc9 G8b O O O) O (JLh (BL ((decide (r19.2≠0))||(!((decide (0 < (r19.1.length:Int)))==r22)))) (Ze O O O O) O (G7 (hK21 (JCc O h (fun h hb=>?_) (fun h hb=>?_))))))
   ·
    refine Jr fun hK23=>(Yk (BL false) O (G7 (hK23 (Gw (fin1 BL h)))))
   ·
    refine Gq (hK20 ?_)
    obtain⟨kj24,hkj24,h⟩:=R9 h
    refine Qi (fun j24:Int=>kj24 j24=some r) (fun j24=>[(7,Ec r3.1),(8,E2 r3.2.1),(9,E1 r3.2.2),(10,E0 r5.1),(12,.mp 1007),(13,G0 j24),(15,Ed y13),(16,E0 r19.1),(38,E1 r3.2.2),(39,Ej r3.2.2.length),(40,Ej i13)]) (fun j24=>[(1007,MP 56 J3.kv G0 s13.2)]) (fun Kj24 ej24=>?_) ?_
    ·
     refine Jr fun hK25=>(Yk (E0 r19.1) O (JLl Gp O O O fun hm66=>(JLh (BL (decide (0 < (r19.1.length:Int)))) (G2a O O O) O (G7 (hK25 (JCc O h (fun h hb=>?_) (fun h hb=>?_)))))))
     ·
      refine G3 (Yk (G0 s13.1) O ?_)
      obtain⟨v26,hv26,h⟩:=Jm h
      refine JLh (G0 v26) (Hx hv26 O O O) O (Yk (G0 v26) O (G7 (ej24 _ _ v26 h ⟨(by repeat' constructor),⟨⟨_,rfl,.map⟩,G⟩,rfl⟩)))
     ·
      refine Gq (ej24 _ _ s13.1 h ⟨(by repeat' constructor),⟨⟨_,rfl,.map⟩,G⟩,rfl⟩)
    ·intro j24 h
     replace h:=app1 hkj24 h
     refine Jr fun hK27=>(Yk (E0 r19.1) O (JLl Gp O O O fun hm71=>(Yk (G0 0) O (G7 (hK27 (Gv ?_))))))
     obtain⟨b116,kx116,hb116,hkx116,h⟩:=J0 h
     refine Ho (fun i116 (s116:(H5 J3 Int))=>each b116 kx116 (List.drop i116 r19.1) i116 s116=some r) (fun i116 s116=>[(7,Ec r3.1),(8,E2 r3.2.1),(9,E1 r3.2.2),(10,E0 r5.1),(12,.mp 1007),(13,G0 j24),(15,Ed y13),(16,E0 r19.1),(38,E1 r3.2.2),(39,Ej r3.2.2.length),(40,Ej i13),(70,E0 r19.1),(71,Ej r19.1.length),(72,Ej i116)]) (fun i116 s116=>[(1007,MP 56 J3.kv G0 s116)]) (fun i116=>r19.1.length - i116) 0 s13.2 h ⟨(by repeat' constructor),⟨⟨_,rfl,.map⟩,G⟩,rfl⟩ ?_
     clear h
     intro i116 s116 hi116 K116 e116
     refine Jr fun hK117=>(JLh (BL (decide ((i116:Int) < (r19.1.length:Int)))) (J9 O O O) O (G7 (hK117 (Js fun hK118=>Gk O (fun hb=>?_) (fun hb=>?_)))))
     ·
      have hk116:=Jg hb
      obtain⟨y116,nx116,hy116,hn116,h⟩:=Hp hi116 hk116
      replace h:=Rz hb116 h
      refine Gq (hK118 (Js fun hK119=>Gv (Jr fun hK120=>(Yk (Ej i116) O (JLh (.dptr [G0 y116]) (Ha (f:=G0) (xs:=r19.1) (y:=y116) O O O Gp hy116 O) O (JLh (G0 y116) (Gh Gb O O O) O (Yk (Ej i116) O (Yk (G0 y116) O (G7 (hK120 (Js fun hK121=>Js fun hK122=>Ya (l':=[(7,Ec r3.1),(8,E2 r3.2.1),(9,E1 r3.2.2),(10,E0 r5.1),(12,.mp 1007),(13,G0 j24),(15,Ed y13),(16,E0 r19.1),(18,Ej i116),(19,G0 y116),(38,E1 r3.2.2),(39,Ej r3.2.2.length),(40,Ej i13),(70,E0 r19.1),(71,Ej r19.1.length),(72,Ej i116)]) (L':=[(1007,MP 56 J3.kv G0 s116)]) ⟨(by repeat' constructor),⟨⟨_,rfl,.map⟩,G⟩,rfl⟩ ?_)))))))))))
      obtain⟨r123,hr123,h⟩:=Gd h
      obtain⟨r124,hr124,h⟩:=Gd h
      obtain⟨v125,hv125,h⟩:=Gd h
      obtain⟨y126,hy126,h⟩:=Gd h
      obtain⟨v127,hv127,h⟩:=Gd h
      refine JC_d0 Q9 (by kernel_rfl) (Dq (E2 r3.2.1) (G5 O O) O (Dq (G0 y116) (G5 O O) O (Dq (G0 r123) (Gt (args:=[E2 r3.2.1,G0 y116]) O (Rx r3.2.1 y116 r123 hr123) H0f ⟨O,O,O,O,G⟩) O (Dq (E2 r3.2.1) (G5 O O) O (Dq (Ed y13) (Gf Hf O O O) O (Dq (G0 y13.Ga) (Gh Gb O O O) O (Dq (G0 r124) (Gt (args:=[E2 r3.2.1,G0 y13.Ga]) O (Rx r3.2.1 y13.Ga r124 hr124) H0f ⟨O,O,O,O,G⟩) O (Dq (BL (decide (r124≤r123))) (Ga8 O O O) O (Dq (BL (decide (r124≤r123))) (G5 O O) O (Do (Ej i116) [] O .scf G (fun hc=>G5 O O) O (Do (BL (decide (0 < (i116:Int)))) [86] O .scf ⟨Ua,G⟩ (fun hc=>G2a O O O) O (Do (BL (decide (0 < (i116:Int)))) [87] O .scf ⟨Ua,G⟩ (fun hc=>G5 O O) O (Do (G0 y116) [] O .optt G (fun hc=>G5 O O) O ?_)))))))))))))
      refine Do (E0 r19.1) [] O .optt G (fun hc=>G5 O O) O (Do (Ej i116) [] O .optt G (fun hc=>G5 O O) O (Do (G0 v125) [91] O .optt ⟨Ua,G⟩ (fun hc=>H28 (G9d (H2 hc hv125)) O O O) O (Do (.dptr [G0 y126]) [90,92] O .optt ⟨Ua,Ua,G⟩ (fun hc=>(match Y1 (H2 hc hy126) with | ⟨_,hm_,hy_⟩=>Ha (f:=G0) (xs:=r19.1) (y:=y126) O O O Gp hy_ hm_)) O (Do (G0 y126) [93] O .optt ⟨Ua,G⟩ (fun hc=>Gh Gb O O O) O (Do (BL (decide (y116≤y126))) [89,94] O .optt ⟨Ua,Ua,G⟩ (fun hc=>Hcb O O O) O (Dg (.opt (!(decide (r124≤r123))) (BL ((decide (0 < (i116:Int)))&&(decide (y116≤y126))))) (Hg [(88,BL (decide (0 < (i116:Int)))),(95,_)] O O O .scf ⟨.all id,.part,G⟩ (fun hc=>Q8 O O O O) O) O (Dq (BL ((decide (r124≤r123))||((decide (0 < (i116:Int)))&&(decide (y116≤y126))))) (Ze O O O O) O (Dq (BL ((decide (r124≤r123))||((decide (0 < (i116:Int)))&&(decide (y116≤y126))))) (G5 O O) O (Do (.mp 1007) [] O .scf G (fun hc=>G5 O O) O (Do (G0 y116) [] O .scf G (fun hc=>G5 O O) O (Do (Ed y13) [] O .scf G (fun hc=>Gf Hf O O O) O (Do (G0 y13.Ga) [101] O .scf ⟨Ua,G⟩ (fun hc=>Gh Gb O O O) O (Do (.agg [G0 y116,G0 y13.Ga]) [100,102] O .scf ⟨Ua,Ua,G⟩ (fun hc=>Gde (cs:=[G0 y116,G0 y13.Ga]) [.int .i64 0,.int .i64 0] J9c J23 O O) O ?_)))))))))))))
      refine Do (G0 v127) [99,103] O .scf ⟨Ua,Ua,G⟩ (fun hc=>((Option.some.inj (H2 hc hv127)) ▸ Gdd (av:=G0) (m:=s116) (a:=(J3.mk y116 y13.Ga)) 0 (.int .i64 0) O O O O tk_57 H50 G71 O)) O (Do (BL (decide (0 < v127))) [104] O .scf ⟨Ua,G⟩ (fun hc=>G2a O O O) O (Dq (BL (((decide (r124≤r123))||((decide (0 < (i116:Int)))&&(decide (y116≤y126))))||(decide (0 < v127)))) (Ze O O O O) O (Dnil (hK122 (JCc O h (fun h hb=>?_) (fun h hb=>?_))))))
      ·
       refine Jr fun hK128=>(Yk (BL false) O (G7 (hK128 (Gw (fin1 BL h)))))
      ·
       refine Gq (hK121 (Ya (l':=[(7,Ec r3.1),(8,E2 r3.2.1),(9,E1 r3.2.2),(10,E0 r5.1),(12,.mp 1007),(13,G0 j24),(15,Ed y13),(16,E0 r19.1),(19,G0 y116),(38,E1 r3.2.2),(39,Ej r3.2.2.length),(40,Ej i13),(70,E0 r19.1),(71,Ej r19.1.length),(72,Ej i116)]) (L':=[(1007,MP 56 J3.kv G0 s116)]) ⟨(by repeat' constructor),⟨⟨_,rfl,.map⟩,G⟩,rfl⟩ ?_))
       obtain⟨v129,hv129,h⟩:=Gd h
       obtain⟨v130,hv130,h⟩:=Jm h
       refine Q5 [7,9] [0,0,0,0,0,0,0,0,1,0] [0,0,0,0,0,1,1,0,1,0] [[(1007,MP 56 J3.kv G0 s116)],((1007,MI 56 J3.kv G0 s116 (J3.mk y13.Ga y116) 0)::[(1007,MP 56 J3.kv G0 s116)]),((1007,MP 56 J3.kv G0 (H5.put s116 (J3.mk y13.Ga y116) v130))::((1007,MI 56 J3.kv G0 s116 (J3.mk y13.Ga y116) 0)::[(1007,MP 56 J3.kv G0 s116)]))] Q9 (by kernel_rfl) rfl rfl ?_
       refine Gu (u:=.mp 1007) O O ⟨Gy (G5 O O) O,G⟩ (Gu (u:=Ed y13) O O ⟨Gy (Gf Hf O O O) O,G⟩ (Gu (u:=G0 y13.Ga) O O ⟨Gy (Gh Gb O O O) O,G⟩ (Gu (u:=G0 y116) O O ⟨Gy (G5 O O) O,G⟩ (Gu (u:=.agg [G0 y13.Ga,G0 y116]) O O ⟨Gy (Gde (cs:=[G0 y13.Ga,G0 y116]) [.int .i64 0,.int .i64 0] J9c J23 O O) O,G⟩ (Gu (u:=G0 v129) O O ⟨Gy (((Option.some.inj hv129) ▸ Gdd (av:=G0) (m:=s116) (a:=(J3.mk y13.Ga y116)) 0 (.int .i64 0) O O O O tk_57 H50 G71 O)) O,Gy (((Option.some.inj hv129) ▸ H9b (av:=G0) (m:=s116) (a:=(J3.mk y13.Ga y116)) 0 (.int .i64 0) O O O O tk_57 H50 G71 O)) O,G⟩ (Gu (u:=G0 v130) O O ⟨Gy (Hx hv130 O O O) O,Gy (Hx hv130 O O O) O,G⟩ (D_w (u:=.tup [.junk,G0 (Zd (H5.l s116) (J3.mk y13.Ga y116):Int)]) O O O O (Gy (H4d (m:=s116) (a:=(J3.mk y13.Ga y116)) 0 (.int .i64 0) O O O O tk_57 H50 G71 O) O) (Gu (u:=G0 (Zd (H5.l s116) (J3.mk y13.Ga y116):Int)) O O ⟨Gy (Gm O O O) O,G⟩ (D_w0 (u:=.junk) O O O O (Gy (Gfb (m:=s116) (a:=(J3.mk y13.Ga y116)) (v:=v130) 0 O O O O O O) O) (Z0 ?_))))))))))
       refine hK119 (G3 (JLh (G0 ((i116+1:Nat):Int)) (Hx (Hn hk116 hm71) O O O) O (Yk (G0 ((i116+1:Nat):Int)) O (G7 (e116 _ _ (i116+1) (H5.put s116 (J3.mk y13.Ga y116) v130) (app1 hn116 h) (by omega) ⟨(by repeat' constructor),⟨⟨_,rfl,.map⟩,G⟩,rfl⟩)))))
     ·
      have h:=app1 hkx116 (Hq hi116 (Hb hb))
      refine Ht (hK16 (G3 (JLh (G0 ((i13+1:Nat):Int)) (Hx (Hn hk13 hm39) O O O) O (Yk (G0 ((i13+1:Nat):Int)) O (G7 (e13 _ _ (i13+1) (j24,s116) (app1 hn13 h) (by omega) ⟨(by repeat' constructor),⟨⟨_,rfl,.map⟩,G⟩,rfl⟩))))))
  ·
   have h:=app1 hkx13 (Hq hi13 (Hb hb))
   refine Ht (hK11 (Jr fun hK131=>(Yk (G0 s13.1) O (Yk (E0 r5.1) O (JLl Gp O O O fun hm120=>(JLh (BL (decide (s13.1=(r5.1.length:Int)))) (Jx O O O) O (Yk (BL (decide (s13.1=(r5.1.length:Int)))) O ?_)))))))
   obtain⟨r132,hr132,h⟩:=Gd h
   refine JLo (BL r132) [] O .sct G (fun hc=>Gt (args:=[]) O (Qk F r132 (H2 hc hr132)) G89 G) O (JLh (BL ((decide (s13.1=(r5.1.length:Int)))&&r132)) (Q8 O O O O) O (Yk (BL ((decide (s13.1=(r5.1.length:Int)))&&r132)) O (G7 (hK131 (Gw (fin1 BL h))))))
end
end Go.Proofs.YtpgkkengffpnpaaGreat
