/-
 Models of functions of the program,and that they return what the models say.
-/
import Derived.Test.YtecjdioomlhhiaaGreatSpecW
set_option maxRecDepth 100000
set_option maxHeartbeats 1000000
set_option linter.unusedVariables false
set_option linter.unusedSimpArgs false
namespace Go.Proofs.YtecjdioomlhhiaaGreat
open Go.RowKit
noncomputable section

namespace XGF
open XAF
open XLF
open XCF
theorem Y57 (a b:Slot):H89 Ei 4 37 [.int .i64 a.G3,.int .i64 a.Tier,.int .u8 a.Half] [.int .i64 b.G3,.int .i64 b.Tier,.int .u8 b.Half]=some (decide (a=b)):=by
 refine(show _=some ((a.G3==b.G3)&&((a.Tier==b.Tier)&&((a.Half==b.Half)&&true))) by kernel_rfl).trans (congrArg some ?_)
 rw [Bool.eq_iff_iff]
 simp only [Bool.and_eq_true,beq_iff_eq,decide_eq_true_eq,Bool.and_true]
 constructor
 ·intro h; obtain⟨_,_,_⟩:=a; obtain⟨_,_,_⟩:=b; simp_all
 ·intro h; subst h; simp
theorem Q4:Ge6 Ei 37 3=true:=by kernel_rfl
theorem Qbe:G2e Ei 37=true:=by kernel_rfl
theorem J83:H7 Ei 100=true:=by kernel_rfl
theorem Qba:H7 Ei 109=true:=by kernel_rfl
theorem Qb9:H7 Ei 110=true:=by kernel_rfl
theorem Qb7:H7 Ei 112=true:=by kernel_rfl
theorem Hd3:H7 Ei 131=true:=by kernel_rfl
theorem Qac:H7 Ei 132=true:=by kernel_rfl
theorem J7d:H7 Ei 133=true:=by kernel_rfl
theorem J7c:H7 Ei 134=true:=by kernel_rfl
theorem Qab:H7 Ei 135=true:=by kernel_rfl
theorem Qaa:H7 Ei 136=true:=by kernel_rfl
theorem Qa9:H7 Ei 137=true:=by kernel_rfl
theorem J7b:H7 Ei 138=true:=by kernel_rfl
theorem Qa7:H7 Ei 141=true:=by kernel_rfl
theorem Qa6:H7 Ei 156=true:=by kernel_rfl
theorem Qa5:H7 Ei 157=true:=by kernel_rfl
theorem Qa4:H7 Ei 158=true:=by kernel_rfl
theorem Qa3:H7 Ei 159=true:=by kernel_rfl
theorem Qa1:H7 Ei 164=true:=by kernel_rfl
theorem Qa0:H7 Ei 165=true:=by kernel_rfl
theorem Jdd:H7 Ei 31=true:=by kernel_rfl
theorem G81:H7 Ei 41=true:=by kernel_rfl
theorem G80:H7 Ei 42=true:=by kernel_rfl
theorem Ha5:H7 Ei 43=true:=by kernel_rfl
theorem J23:H7 Ei 44=true:=by kernel_rfl
theorem Jd1:H7 Ei 60=true:=by kernel_rfl
theorem Jd0:H7 Ei 61=true:=by kernel_rfl
theorem J1e:H7 Ei 62=true:=by kernel_rfl
theorem J1d:H7 Ei 65=true:=by kernel_rfl
theorem J1c:H7 Ei 77=true:=by kernel_rfl
theorem R13:H7 Ei 78=true:=by kernel_rfl
theorem R12:H7 Ei 79=true:=by kernel_rfl
theorem Jcd:H7 Ei 80=true:=by kernel_rfl
theorem Jcc:H7 Ei 81=true:=by kernel_rfl
theorem Jcb:H7 Ei 82=true:=by kernel_rfl
theorem Jca:H7 Ei 83=true:=by kernel_rfl
theorem Jc4:H7 Ei 94=true:=by kernel_rfl
theorem R0e:H7 Ei 95=true:=by kernel_rfl
theorem R0d:H7 Ei 96=true:=by kernel_rfl
theorem R0c:H7 Ei 97=true:=by kernel_rfl
theorem R0b:H7 Ei 98=true:=by kernel_rfl
theorem R0a:H7 Ei 99=true:=by kernel_rfl
theorem Jc3:Zi Ei 37 3 24=true:=by kernel_rfl
theorem R82:Ei.eqGuardType Ei.depth 37=false:=by kernel_rfl
theorem J2:Qc Ei 37 0 0=true:=by kernel_rfl
theorem Qi:Qc Ei 37 1 1=true:=by kernel_rfl
theorem Ju:Qc Ei 37 2 2=true:=by kernel_rfl
theorem Jc:Qc Ei 39 0 0=true:=by kernel_rfl
theorem Ho:Qc Ei 39 1 1=true:=by kernel_rfl
theorem J08:Qc Ei 72 0 0=true:=by kernel_rfl
theorem Z8:Qc Ei 72 2 2=true:=by kernel_rfl
theorem J07:Qc Ei 72 3 3=true:=by kernel_rfl
theorem J16:Ge3 Ei 114 3 115=true:=by kernel_rfl
theorem Q2a:placesOf Ei 115=some []:=by kernel_rfl
theorem J3b:placesOf Ei 37=some [(0,1),(1,1),(2,1)]:=by kernel_rfl
theorem H72:Ym Ei 114=true:=by kernel_rfl
theorem Y3:Ym Ei 34=true:=by kernel_rfl
theorem J9:Ym Ei 5=true:=by kernel_rfl
theorem Ha1:Ym Ei 64=true:=by kernel_rfl
theorem Q72:Ym Ei 98=true:=by kernel_rfl
theorem Q9e:Zh Ei 114 1=true:=by kernel_rfl
theorem Q9d:Zh Ei 115 0=true:=by kernel_rfl
theorem R04:Zh Ei 37 3=true:=by kernel_rfl
theorem R03:Zh Ei 64 1=true:=by kernel_rfl
theorem Zk:sliceB Ei 98 37 3=true:=by kernel_rfl
theorem Q99:(Ei.info? 115).bind (fun i=>i.zero.map Value.cells)=some (List.toArray []):=by kernel_rfl
theorem Jbe:(Ei.info? 37).bind (fun i=>i.zero.map Value.cells)=some (List.toArray [E0,E0,.int .u8 0]):=by kernel_rfl
theorem Q71:G01 Ei 114 1=true:=by kernel_rfl
theorem Q70:G01 Ei 115 0=true:=by kernel_rfl
theorem Hc7:G01 Ei 37 3=true:=by kernel_rfl
theorem Q98:G01 Ei 64 1=true:=by kernel_rfl
theorem R80:(Ei.info? 115).bind (·.zero)=some (.agg #[]):=by kernel_rfl
theorem tk_3:H5a Ei 3 (fun n:Int=>Value.int .i64 n):=H5a.of_int (by kernel_rfl)
end XGF
open XAF
open XLF
open XCF
open XGF

def G97 (l:List Stowed):Option (List Slot):=
 each (fun y17 i17 (s17:(List Slot)) nx17=>
  need (decide ((s17.length+[y17.Slot].length)*24≤140737488355328∧s17.length+[y17.Slot].length≤maxLen)) <|
  nx17 (s17++[y17.Slot]))
 (fun(s17:(List Slot))=>
  some s17) l 0 []
theorem Hec (l:List Stowed) (r:(List Slot)) (h:G97 l=some r):Pure Ei 80 [E2 l] (·=E9 r):=by
 unfold G97 at h
 refine Gz [.tmp 2] Tryz.func80 O O (Jr fun hK1=>(JLh (E9 ([]:List Slot)) (Hb 3 O O) O (G7 (hK1 (Jr fun hK2=>(JLh (OW 1096 3 Slot.av ([]:List Slot)) (G6e 1096 37 3 O O O) O (G7 (hK2 (Js fun hK3=>Jr fun hK4=>(JLm (E2 l) O (JLl Gt O O O fun hm7=>(JLm (I64 0) O (G7 (hK4 (Gq ?_)))))))))))))))
 obtain⟨b17,kx17,hb17,hkx17,h⟩:=J3 h
 refine Hd (fun i17 (s17:(List Slot))=>each b17 kx17 (List.drop i17 l) i17 s17=some r) (fun i17 s17=>[(3,OW 1096 3 Slot.av s17),(6,E2 l),(7,Eh l.length),(8,Eh i17)]) (fun i17 s17=>[(1096,.spare 37 3 s17.length s17.length)]) (fun i17=>l.length - i17) 0 [] h ⟨(.sm O O),⟨⟨_,rfl,.same⟩,G⟩,rfl⟩ ?_
 clear h
 intro i17 s17 hi17 K17 e17
 refine Jr fun hK18=>(JLh (BL (decide ((i17:Int) < (l.length:Int)))) (Hz O O O) O (G7 (hK18 (Js fun hK19=>Gi O (fun hb=>?_) (fun hb=>?_)))))
 ·
  have hk17:=Jj hb
  obtain⟨y17,nx17,hy17,hn17,h⟩:=Hu hi17 hk17
  replace h:=Z9 hb17 h
  refine Gk (hK19 (Js fun hK20=>Gq (Jr fun hK21=>(JLh (Ec y17) (Gw (f:=Stowed.av) (xs:=l) (y:=y17) O O O Gt hy17 O) O (JLh (.agg (Stowed.cs y17)) (Gh R6 O O O) O (JLh (.ptr 1097 0) (Qo 1097 4 G0f O O) O (Jo (u:=.junk) (Jh (u:=.agg (Stowed.cs y17)) (ds:=[I64 y17.Box,I64 y17.Slot.G3,I64 y17.Slot.Tier,U8 y17.Slot.Half]) G7f O O O O O O O O) (G7 (hK21 (Gx [(3,OW 1096 3 Slot.av s17),(5,Ec y17),(6,E2 l),(7,Eh l.length),(8,Eh i17)] [(1096,.spare 37 3 s17.length s17.length)] 1097 rfl rfl rfl ⟨⟨_,rfl,.same⟩,G⟩ rfl (by repeat' (first | exact .ptr | constructor)) (G2 ?_)))))))))))
  refine JLm (OW 1096 3 Slot.av s17) O (JLh (.dptr ((Stowed.cs y17).drop 1)) (Ga Ho O O O) O (JLh (.agg ((Stowed.cs y17).drop 1)) (Gh Q4 O O O) O (JLh (E9 [y17.Slot]) (Hj (xs:=[.agg ((Stowed.cs y17).drop 1)]) O ⟨O,O,G⟩ Zk Hc7 O O O O) O ?_)))
  obtain⟨ha22,h⟩:=Hr h
  refine JLh (OW 1096 3 Slot.av (s17++[y17.Slot])) (Qt (f:=Slot.av) (xs:=s17) (ys:=[y17.Slot]) O O O O Zk Jc3 ha22 (fun _=>O) (.inl O) O) O (JLm (OW 1096 3 Slot.av (s17++[y17.Slot])) O (G7 (hK20 (G2 (JLh (I64 ((i17+1:Nat):Int)) (Hs (Hf hk17 hm7) O O O) O (JLm (I64 ((i17+1:Nat):Int)) O (G7 (e17 _ _ (i17+1) (s17++[y17.Slot]) (app1 hn17 h) (by omega) ⟨(.sm O O),⟨⟨_,rfl,.same⟩,G⟩,rfl⟩))))))))
 ·
  have h:=app1 hkx17 (Hv hi17 (Ha hb))
  refine Hn (hK3 (Jr fun hK23=>(JLm (OW 1096 3 Slot.av s17) O (JLm (OW 1096 3 Slot.av s17) O (G7 (hK23 (Gn (fin1l (fun r:(List Slot)=>(E9 r:AV)) h))))))))

def Gb0 (b:Box) (p1:Int):Option Bool:=
 some (decide (b.ID=p1))
theorem Jaa (b:Box) (p1:Int) (r:Bool) (h:Gb0 b p1=some r):Pure Ei 97 [.agg (Box.cs b),.dptr [I64 p1]] (·=BL r):=by
 unfold Gb0 at h
 refine Gz [.tmp 3] Tryz.func97 O O (Jr fun hK1=>(JLh (.ptr 1116 0) (Je (cs:=(Box.cs b)) 1116 O O O O O) O (JLm (BL false) O (G7 (hK1 (Gx [(1,.dptr [I64 p1]),(2,Ee b)] [] 1116 rfl rfl rfl G rfl (by exact⟨.conv (.same rfl),.ptr,G⟩) (Jr fun hK2=>(JLh (Ee b) (Ga J08 O O O) O (JLh (I64 b.ID) (Gf Gd O O O) O (JLh (I64 p1) (Gf Gd O O O) O (JLh (BL (decide (b.ID=p1))) (Jw O O O) O (JLm (BL (decide (b.ID=p1))) O (G7 (hK2 (Gn (fin1 BL h))))))))))))))))

def G11 (s:List Box) (f:Box→Option Bool):Option Int:=
 each (fun y20 i20 (s20:Unit) nx20=>
  bnd (f y20) fun r26=>
  bif r26 then
  (some (i20:Int))
  else
  (nx20 ()))
 (fun(s20:Unit)=>
  some (-1)) s 0 ()
theorem H25 (s:List Box) (f:Box→Option Bool) (f_f:FuncId) (f_c:List AV) (f_B:H7 Ei f_f=true) (f_d:G06 (fun _=>false) f_c=true) (f_w:∀ a0 q,f a0=some q→Pure Ei f_f ([.agg (Box.cs a0)]++f_c) (·=BL q)) (r:Int) (h:G11 s f=some r):Pure Ei 96 [E3 s,.fn f_f f_c] (·=I64 r):=by
 unfold G11 at h
 refine Gz [.tmp 4] Tryz.func96 O O (Jr fun hK1=>(JLm (I64 0) O (G7 (hK1 (Js fun hK2=>Jr fun hK3=>(JLm (E3 s) O (JLl Jq O O O fun hm7=>(JLm (I64 0) O (G7 (hK3 (Gq ?_)))))))))))
 obtain⟨b20,kx20,hb20,hkx20,h⟩:=J3 h
 refine Hd (fun i20 (s20:Unit)=>each b20 kx20 (List.drop i20 s) i20 s20=some r) (fun i20 s20=>[(0,E3 s),(1,.fn f_f f_c),(7,Eh s.length),(8,Eh i20)]) (fun i20 s20=>[]) (fun i20=>s.length - i20) 0 () h ⟨⟨.same O,.same (R0 _ _ f_d),.same O,.same O,G⟩,G,O⟩ ?_
 clear h
 intro i20 s20 hi20 K20 e20
 refine Jr fun hK21=>(JLh (BL (decide ((i20:Int) < (s.length:Int)))) (Hz O O O) O (G7 (hK21 (Js fun hK22=>Gi O (fun hb=>?_) (fun hb=>?_)))))
 ·
  have hk20:=Jj hb
  obtain⟨y20,nx20,hy20,hn20,h⟩:=Hu hi20 hk20
  replace h:=Z9 hb20 h
  refine Gk (hK22 (Js fun hK23=>Gq (Jr fun hK24=>(JLm (Eh i20) O (JLm (Eh i20) O (G7 (hK24 (Jr fun hK25=>(JLm (.fn f_f f_c) O (JLm (E3 s) O (JLm (Eh i20) O (JLh (Ee y20) (Gw (f:=Box.av) (xs:=s) (y:=y20) O O O Jq hy20 O) O (JLh (.agg (Box.cs y20)) (Gh G4b O O O) O ?_)))))))))))))
  obtain⟨r26,hr26,h⟩:=Gc h
  refine JLh (BL r26) (Gb3 (args:=[.agg (Box.cs y20)]) (caps:=f_c) O O (f_w y20 _ hr26) f_B ⟨O,O,G⟩ f_d) O (G7 (hK25 (JCc O h (fun h hb=>?_) (fun h hb=>?_))))
  ·
   refine Jr fun hK27=>(JLm (Eh i20) O (JLm (Eh i20) O (G7 (hK27 (Gn (fin1 I64 h))))))
  ·
   refine Gk (hK23 (G2 (JLh (I64 ((i20+1:Nat):Int)) (Hs (Hf hk20 hm7) O O O) O (JLm (I64 ((i20+1:Nat):Int)) O (G7 (e20 _ _ (i20+1) () (app1 hn20 h) (by omega) ⟨⟨.same rfl,.same (R0 _ _ f_d),.same rfl,.same rfl,G⟩,G,rfl⟩))))))
 ·
  have h:=app1 hkx20 (Hv hi20 (Ha hb))
  refine Hn (hK2 (Jr fun hK28=>(JLm (I64 (-1)) O (G7 (hK28 (Gn (fin1 I64 h)))))))

def G89 (boxes:List Box) (id_:Int):Option (Box×Bool):=
 bnd (G11 boxes (fun z0=>Gb0 z0 id_)) fun r3=>
 bif decide (r3 < 0) then
 (some ((Box.mk 0 ByteArray.empty 0 false 0 0 0 0 false),false))
 else
 (Qq boxes r3 fun y8=>
  some (y8,true))
theorem Gfb (boxes:List Box) (id_:Int) (r:Box×Bool) (h:G89 boxes id_=some r):Pure Ei 43 [E3 boxes,I64 id_] (·=.tup [.agg (Box.cs r.1),BL r.2]):=by
 unfold G89 at h
 refine Gz [.cell 4 72,.tmp 5] Tryz.func43 O O (Jr fun hK1=>(JLh (.ptr 1059 0) (Je (cs:=[I64 id_]) 1059 O O O O O) O (JLh (.ptr 1060 0) (G47 1060 [I64 0,ST ByteArray.empty,U8 0,BL false,I64 0,I64 0,I64 0,U8 0,BL false] [E0,.string ByteArray.empty,.int .u8 0,.bool false,E0,E0,E0,.int .u8 0,.bool false] G13 ⟨.inl O,.inl O,.inl O,.inl O,.inl O,.inl O,.inl O,.inl O,.inl O,G⟩ O O) O (JLm (BL false) O (G7 (hK1 (Gx [(0,E3 boxes),(3,.dptr [I64 id_]),(4,.ptr 1060 0)] [(1060,.box 72 [I64 0,ST ByteArray.empty,U8 0,BL false,I64 0,I64 0,I64 0,U8 0,BL false])] 1059 rfl rfl rfl ⟨⟨_,rfl,.boxEq rfl rfl⟩,G⟩ rfl (by exact⟨.conv (.same rfl),.ptr,.conv (.same rfl),G⟩) ?_)))))))
 refine Jr fun hK2=>(JLm (E3 boxes) O (JLh (.fn 97 [.dptr [I64 id_]]) (G91 (cs:=[.dptr [I64 id_]]) O O) O ?_))
 obtain⟨r3,hr3,h⟩:=Gc h
 refine JLh (I64 r3) (Gm O (H25 boxes (fun z0=>Gb0 z0 id_) 97 [.dptr [I64 id_]] R0c O (fun z0 q hq=>Jaa z0 id_ q hq) r3 hr3) R0d ⟨O,O,O,O,G⟩) O (JLm (I64 r3) O (G7 (hK2 (Js fun hK4=>Jr fun hK5=>(JLm (I64 r3) O (JLh (BL (decide (r3 < 0))) (Hz O O O) O (G7 (hK5 (JCc O h (fun h hb=>?_) (fun h hb=>?_))))))))))
 ·
  refine Jr fun hK6=>(JLh (.agg [I64 0,ST ByteArray.empty,U8 0,BL false,I64 0,I64 0,I64 0,U8 0,BL false]) (Jp (cs:=[I64 0,ST ByteArray.empty,U8 0,BL false,I64 0,I64 0,I64 0,U8 0,BL false]) [(0,1),(1,1),(2,1),(3,1),(4,1),(5,1),(6,1),(7,1),(8,1)] [I64 0,ST ByteArray.empty,U8 0,BL false,I64 0,I64 0,I64 0,U8 0,BL false] [E0,.string ByteArray.empty,.int .u8 0,.bool false,E0,E0,E0,.int .u8 0,.bool false] G16 G13 ⟨.inl O,.inl O,.inl O,.inl O,.inl O,.inl O,.inl O,.inl O,.inl O,G⟩ O O) O (Jo (u:=.junk) (Jh (u:=.agg [I64 0,ST ByteArray.empty,U8 0,BL false,I64 0,I64 0,I64 0,U8 0,BL false]) (ds:=[I64 0,ST ByteArray.empty,U8 0,BL false,I64 0,I64 0,I64 0,U8 0,BL false]) G29 O O O O O O O O) (JLm (BL false) O (G7 (hK6 ?_)))))
  refine Gn (⟨[.agg [I64 0,ST ByteArray.empty,U8 0,BL false,I64 0,I64 0,I64 0,U8 0,BL false],BL false],[],G,O,⟨⟨_,⟨_,_,_,_,O,O,O,.inl ⟨G4b,O⟩⟩,.conv (.same O)⟩,⟨_,O,.conv (.same O)⟩,G⟩,O,congrArg (fun r:Box×Bool=>(.tup [.agg (Box.cs r.1),BL r.2]:AV)) (Option.some.inj h)⟩)
 ·
  refine Gk (hK4 (Jr fun hK7=>(JLm (E3 boxes) O (JLm (I64 r3) O ?_))))
  obtain⟨m9,y8,hm9,hy8,h⟩:=R1 h
  refine JLh (Ee y8) (Gw (f:=Box.av) (xs:=boxes) (y:=y8) O O O Jq hy8 hm9) O (JLh (.agg (Box.cs y8)) (Gh G4b O O O) O (Jo (u:=.junk) (Jh (u:=.agg (Box.cs y8)) (ds:=(Box.cs y8)) G29 O O O O O O O O) (JLm (BL true) O (G7 (hK7 (Gn (⟨[.agg (Box.cs y8),BL true],[],G,O,⟨⟨_,⟨_,_,_,_,O,O,O,.inl ⟨G4b,O⟩⟩,.conv (.same O)⟩,⟨_,O,.conv (.same O)⟩,G⟩,O,congrArg (fun r:Box×Bool=>(.tup [.agg (Box.cs r.1),BL r.2]:AV)) (Option.some.inj h)⟩)))))))

def G25 (s:List Int) (v:Int):Option Int:=
 each (fun y18 i18 (s18:Unit) nx18=>
  bif decide (v=y18) then
  (some (i18:Int))
  else
  (nx18 ()))
 (fun(s18:Unit)=>
  some (-1)) s 0 ()
theorem Hbe (s:List Int) (v:Int) (r:Int) (h:G25 s v=some r):Pure Ei 135 [Ea s,U8 v] (·=I64 r):=by
 unfold G25 at h
 refine Gz [.tmp 4] Tryz.func135 O O (Jr fun hK1=>(JLm (I64 0) O (G7 (hK1 (Js fun hK2=>Jr fun hK3=>(JLm (Ea s) O (JLl H18 O O O fun hm7=>(JLm (I64 0) O (G7 (hK3 (Gq ?_)))))))))))
 obtain⟨b18,kx18,hb18,hkx18,h⟩:=J3 h
 refine Hd (fun i18 (s18:Unit)=>each b18 kx18 (List.drop i18 s) i18 s18=some r) (fun i18 s18=>[(0,Ea s),(1,U8 v),(7,Eh s.length),(8,Eh i18)]) (fun i18 s18=>[]) (fun i18=>s.length - i18) 0 () h ⟨(.sm O O),G,rfl⟩ ?_
 clear h
 intro i18 s18 hi18 K18 e18
 refine Jr fun hK19=>(JLh (BL (decide ((i18:Int) < (s.length:Int)))) (Hz O O O) O (G7 (hK19 (Js fun hK20=>Gi O (fun hb=>?_) (fun hb=>?_)))))
 ·
  have hk18:=Jj hb
  obtain⟨y18,nx18,hy18,hn18,h⟩:=Hu hi18 hk18
  replace h:=Z9 hb18 h
  refine Gk (hK20 (Js fun hK21=>Gq (Jr fun hK22=>(JLm (Eh i18) O (JLm (Eh i18) O (G7 (hK22 (Jr fun hK23=>(JLm (U8 v) O (JLm (Ea s) O (JLm (Eh i18) O (JLh (.dptr [U8 y18]) (Gw (f:=U8) (xs:=s) (y:=y18) O O O H18 hy18 O) O (JLh (U8 y18) (Gf J9 O O O) O (JLh (BL (decide (v=y18))) (Jw O O O) O (G7 (hK23 (JCc O h (fun h hb=>?_) (fun h hb=>?_))))))))))))))))))
  ·
   refine Jr fun hK24=>(JLm (Eh i18) O (JLm (Eh i18) O (G7 (hK24 (Gn (fin1 I64 h))))))
  ·
   refine Gk (hK21 (G2 (JLh (I64 ((i18+1:Nat):Int)) (Hs (Hf hk18 hm7) O O O) O (JLm (I64 ((i18+1:Nat):Int)) O (G7 (e18 _ _ (i18+1) () (app1 hn18 h) (by omega) ⟨(.sm O O),G,rfl⟩))))))
 ·
  have h:=app1 hkx18 (Hv hi18 (Ha hb))
  refine Hn (hK2 (Jr fun hK25=>(JLm (I64 (-1)) O (G7 (hK25 (Gn (fin1 I64 h)))))))

def Zy (s:List Int) (v:Int):Option Bool:=
 bnd (G25 s v) fun r3=>
 some (decide (0≤r3))
theorem H58 (s:List Int) (v:Int) (r:Bool) (h:Zy s v=some r):Pure Ei 98 [Ea s,U8 v] (·=BL r):=by
 unfold Zy at h
 refine Gz [.tmp 4] Tryz.func98 O O (Jr fun hK1=>(JLm (BL false) O (G7 (hK1 (Jr fun hK2=>(JLm (Ea s) O (JLm (U8 v) O ?_)))))))
 obtain⟨r3,hr3,h⟩:=Gc h
 refine JLh (I64 r3) (Gm O (Hbe s v r3 hr3) Qab ⟨O,O,O,O,G⟩) O (JLh (BL (decide (0≤r3))) (Zf O O O) O (JLm (BL (decide (0≤r3))) O (G7 (hK2 (Gn (fin1 BL h))))))

def G99 (s:H0) (x:Slot) (size:Int):Option Bool:=
 bnd (bif (((decide (0≤x.G3))&&(decide (x.G3 < (s.Columns.length:Int))))&&(decide (0≤x.Tier))) then Qq s.Columns x.G3 some else some default) fun y3=>
 bnd (bif ((((decide (0≤x.G3))&&(decide (x.G3 < (s.Columns.length:Int))))&&(decide (0≤x.Tier)))&&(decide (x.Tier < y3.Tiers))) then Gb1 size else some default) fun r4=>
 bnd (bif ((((decide (0≤x.G3))&&(decide (x.G3 < (s.Columns.length:Int))))&&(decide (0≤x.Tier)))&&(decide (x.Tier < y3.Tiers))) then Zy r4 x.Half else some default) fun r5=>
 some (((((decide (0≤x.G3))&&(decide (x.G3 < (s.Columns.length:Int))))&&(decide (0≤x.Tier)))&&(decide (x.Tier < y3.Tiers)))&&r5)
theorem H48 (s:H0) (x:Slot) (size:Int) (r:Bool) (h:G99 s x size=some r):Pure Ei 44 [.agg (H0.cs s),.agg [I64 x.G3,I64 x.Tier,U8 x.Half],U8 size] (·=BL r):=by
 unfold G99 at h
 refine Gz [.tmp 6] Tryz.func44 O O (Jr fun hK1=>(JLh (.ptr 1061 0) (Je (cs:=(H0.cs s)) 1061 O O O O O) O (JLh (.ptr 1062 0) (Je (cs:=[I64 x.G3,I64 x.Tier,U8 x.Half]) 1062 O O O O O) O (JLm (BL false) O (G7 (hK1 ?_))))))
 refine Gx [(2,U8 size),(3,Eb s),(4,.ptr 1062 0)] [(1062,.box 37 [I64 x.G3,I64 x.Tier,U8 x.Half])] 1061 rfl rfl rfl ⟨⟨_,rfl,.boxEq rfl rfl⟩,G⟩ rfl (by exact⟨.conv (.same rfl),.ptr,.conv (.same rfl),G⟩) ?_
 refine Gx [(2,U8 size),(3,Eb s),(4,.dptr [I64 x.G3,I64 x.Tier,U8 x.Half])] [] 1062 rfl rfl rfl G rfl (by exact⟨.conv (.same rfl),.conv (.same rfl),.ptr,G⟩) (Js fun hK2=>?_)
 obtain⟨y3,hy3,h⟩:=Gc h
 obtain⟨r4,hr4,h⟩:=Gc h
 obtain⟨r5,hr5,h⟩:=Gc h
 refine JC_d0 J6 (by kernel_rfl) (Dq (.dptr [I64 x.G3,I64 x.Tier,U8 x.Half]) (Ga J2 O O O) O (Dq (I64 x.G3) (Gf Gd O O O) O (Dq (BL (decide (0≤x.G3))) (Zf O O O) O (Dq (BL (decide (0≤x.G3))) (G4 O O) O (Do (.dptr [I64 x.G3,I64 x.Tier,U8 x.Half]) [] O .sct G (fun hc=>Ga J2 O O O) O (Do (I64 x.G3) [11] O .sct ⟨Ua,G⟩ (fun hc=>Gf Gd O O O) O (Do (Eb s) [] O .sct G (fun hc=>Ga Hi O O O) O (Do (E5 s.Columns) [13] O .sct ⟨Ua,G⟩ (fun hc=>Gf Ht O O O) O (Do (Eh s.Columns.length) [14] O .sct ⟨Ua,G⟩ (fun hc=>Qe (f:=G3.av) (xs:=s.Columns) H4 O O) O (Do (BL (decide (x.G3 < (s.Columns.length:Int)))) [12,15] O .sct ⟨Ua,Ua,G⟩ (fun hc=>Hz O O O) O (Dq (BL ((decide (0≤x.G3))&&(decide (x.G3 < (s.Columns.length:Int))))) (Hy O O O O) O (Dq (BL ((decide (0≤x.G3))&&(decide (x.G3 < (s.Columns.length:Int))))) (G4 O O) O (Do (.dptr [I64 x.Tier,U8 x.Half]) [] O .sct G (fun hc=>Ga Qi O O O) O ?_)))))))))))))
 refine Do (I64 x.Tier) [19] O .sct ⟨Ua,G⟩ (fun hc=>Gf Gd O O O) O (Do (BL (decide (0≤x.Tier))) [20] O .sct ⟨Ua,G⟩ (fun hc=>Zf O O O) O (Dq (BL (((decide (0≤x.G3))&&(decide (x.G3 < (s.Columns.length:Int))))&&(decide (0≤x.Tier)))) (Hy O O O O) O (Dq (BL (((decide (0≤x.G3))&&(decide (x.G3 < (s.Columns.length:Int))))&&(decide (0≤x.Tier)))) (G4 O O) O (Do (.dptr [I64 x.Tier,U8 x.Half]) [] O .sct G (fun hc=>Ga Qi O O O) O (Do (I64 x.Tier) [24] O .sct ⟨Ua,G⟩ (fun hc=>Gf Gd O O O) O (Do (Eb s) [] O .sct G (fun hc=>Ga Hi O O O) O (Do (E5 s.Columns) [26] O .sct ⟨Ua,G⟩ (fun hc=>Gf Ht O O O) O (Do (.dptr [I64 x.G3,I64 x.Tier,U8 x.Half]) [] O .sct G (fun hc=>Ga J2 O O O) O (Do (I64 x.G3) [28] O .sct ⟨Ua,G⟩ (fun hc=>Gf Gd O O O) O (Do (Ed y3) [27,29] O .sct ⟨Ua,Ua,G⟩ (fun hc=>(match Jx (Gu hc hy3) with | ⟨_,hm_,hy_⟩=>Gw (f:=G3.av) (xs:=s.Columns) (y:=y3) O O O H4 hy_ hm_)) O (Do (.dptr ((G3.cs y3).drop 3)) [30] O .sct ⟨Ua,G⟩ (fun hc=>Ga G17 O O O) O (Do (I64 y3.Tiers) [31] O .sct ⟨Ua,G⟩ (fun hc=>Gf Gd O O O) O (Do (BL (decide (x.Tier < y3.Tiers))) [25,32] O .sct ⟨Ua,Ua,G⟩ (fun hc=>Hz O O O) O ?_)))))))))))))
 refine Dq (BL ((((decide (0≤x.G3))&&(decide (x.G3 < (s.Columns.length:Int))))&&(decide (0≤x.Tier)))&&(decide (x.Tier < y3.Tiers)))) (Hy O O O O) O (Dq (BL ((((decide (0≤x.G3))&&(decide (x.G3 < (s.Columns.length:Int))))&&(decide (0≤x.Tier)))&&(decide (x.Tier < y3.Tiers)))) (G4 O O) O (Do (U8 size) [] O .sct G (fun hc=>G4 O O) O (Do (Ea r4) [36] O .sct ⟨Ua,G⟩ (fun hc=>Gm (args:=[U8 size]) O (Jab size r4 (Gu hc hr4)) R0a ⟨O,O,G⟩) O (Do (.dptr [U8 x.Half]) [] O .sct G (fun hc=>Ga Ju O O O) O (Do (U8 x.Half) [38] O .sct ⟨Ua,G⟩ (fun hc=>Gf J9 O O O) O (Do (BL r5) [37,39] O .sct ⟨Ua,Ua,G⟩ (fun hc=>Gm (args:=[Ea r4,U8 x.Half]) O (H58 r4 x.Half r5 (Gu hc hr5)) R0b ⟨O,O,O,O,G⟩) O (Dq (BL (((((decide (0≤x.G3))&&(decide (x.G3 < (s.Columns.length:Int))))&&(decide (0≤x.Tier)))&&(decide (x.Tier < y3.Tiers)))&&r5)) (Hy O O O O) O (Dq (BL (((((decide (0≤x.G3))&&(decide (x.G3 < (s.Columns.length:Int))))&&(decide (0≤x.Tier)))&&(decide (x.Tier < y3.Tiers)))&&r5)) (G6 O O) O (Dnil ?_)))))))))
 refine hK2 (Gn (fin1 BL h))

def G0c (s:List Slot) (v:Slot):Option Int:=
 each (fun y18 i18 (s18:Unit) nx18=>
  bif decide (v=y18) then
  (some (i18:Int))
  else
  (nx18 ()))
 (fun(s18:Unit)=>
  some (-1)) s 0 ()
theorem H7f (s:List Slot) (v:Slot) (r:Int) (h:G0c s v=some r):Pure Ei 156 [E9 s,.agg [I64 v.G3,I64 v.Tier,U8 v.Half]] (·=I64 r):=by
 unfold G0c at h
 refine Gz [.tmp 4] Tryz.func156 O O (Jr fun hK1=>(JLh (.ptr 1156 0) (Je (cs:=[I64 v.G3,I64 v.Tier,U8 v.Half]) 1156 O O O O O) O (JLm (I64 0) O (G7 (hK1 (Gx [(0,E9 s),(3,.dptr [I64 v.G3,I64 v.Tier,U8 v.Half])] [] 1156 rfl rfl rfl G rfl (by exact⟨.conv (.same rfl),.ptr,G⟩) (Js fun hK2=>Jr fun hK3=>(JLm (E9 s) O (JLl Zk O O O fun hm7=>(JLm (I64 0) O (G7 (hK3 (Gq ?_)))))))))))))
 obtain⟨b18,kx18,hb18,hkx18,h⟩:=J3 h
 refine Hd (fun i18 (s18:Unit)=>each b18 kx18 (List.drop i18 s) i18 s18=some r) (fun i18 s18=>[(0,E9 s),(3,.dptr [I64 v.G3,I64 v.Tier,U8 v.Half]),(7,Eh s.length),(8,Eh i18)]) (fun i18 s18=>[]) (fun i18=>s.length - i18) 0 () h ⟨(.sm O O),G,rfl⟩ ?_
 clear h
 intro i18 s18 hi18 K18 e18
 refine Jr fun hK19=>(JLh (BL (decide ((i18:Int) < (s.length:Int)))) (Hz O O O) O (G7 (hK19 (Js fun hK20=>Gi O (fun hb=>?_) (fun hb=>?_)))))
 ·
  have hk18:=Jj hb
  obtain⟨y18,nx18,hy18,hn18,h⟩:=Hu hi18 hk18
  replace h:=Z9 hb18 h
  refine Gk (hK20 (Js fun hK21=>Gq (Jr fun hK22=>(JLm (Eh i18) O (JLm (Eh i18) O (G7 (hK22 (Js fun hK23=>JC_d0 J6 (by kernel_rfl) (Dq (.agg [I64 v.G3,I64 v.Tier,U8 v.Half]) (Gh Q4 O O O) O (Dq (E9 s) (G4 O O) O (Dq (Eh i18) (G4 O O) O (Dq (.dptr (Slot.cs y18)) (Gw (f:=Slot.av) (xs:=s) (y:=y18) O O O Zk hy18 O) O (Dq (.agg (Slot.cs y18)) (Gh Q4 O O O) O (Dq (BL (decide (v=y18))) (Ge1 (vs:=[.int .i64 v.G3,.int .i64 v.Tier,.int .u8 v.Half]) (us:=[.int .i64 y18.G3,.int .i64 y18.Tier,.int .u8 y18.Half]) 4 O (Y57 v y18) Qbe R82 O O O) O (Dnil (hK23 (JCc O h (fun h hb=>?_) (fun h hb=>?_))))))))))))))))))
  ·
   refine Jr fun hK24=>(JLm (Eh i18) O (JLm (Eh i18) O (G7 (hK24 (Gn (fin1 I64 h))))))
  ·
   refine Gk (hK21 (G2 (JLh (I64 ((i18+1:Nat):Int)) (Hs (Hf hk18 hm7) O O O) O (JLm (I64 ((i18+1:Nat):Int)) O (G7 (e18 _ _ (i18+1) () (app1 hn18 h) (by omega) ⟨(.sm O O),G,rfl⟩))))))
 ·
  have h:=app1 hkx18 (Hv hi18 (Ha hb))
  refine Hn (hK2 (Jr fun hK25=>(JLm (I64 (-1)) O (G7 (hK25 (Gn (fin1 I64 h)))))))

def Z0 (s:List Slot) (v:Slot):Option Bool:=
 bnd (G0c s v) fun r3=>
 some (decide (0≤r3))
theorem H26 (s:List Slot) (v:Slot) (r:Bool) (h:Z0 s v=some r):Pure Ei 132 [E9 s,.agg [I64 v.G3,I64 v.Tier,U8 v.Half]] (·=BL r):=by
 unfold Z0 at h
 refine Gz [.tmp 4] Tryz.func132 O O (Jr fun hK1=>(JLh (.ptr 1142 0) (Je (cs:=[I64 v.G3,I64 v.Tier,U8 v.Half]) 1142 O O O O O) O (JLm (BL false) O (G7 (hK1 (Gx [(0,E9 s),(3,.dptr [I64 v.G3,I64 v.Tier,U8 v.Half])] [] 1142 rfl rfl rfl G rfl (by exact⟨.conv (.same rfl),.ptr,G⟩) (Jr fun hK2=>(JLm (E9 s) O (JLh (.agg [I64 v.G3,I64 v.Tier,U8 v.Half]) (Gh Q4 O O O) O ?_)))))))))
 obtain⟨r3,hr3,h⟩:=Gc h
 refine JLh (I64 r3) (Gm O (H7f s v r3 hr3) Qa6 ⟨O,O,O,O,G⟩) O (JLh (BL (decide (0≤r3))) (Zf O O O) O (JLm (BL (decide (0≤r3))) O (G7 (hK2 (Gn (fin1 BL h))))))

def G5a (half:Int) (p1:List Slot) (p2:Slot):Option Bool:=
 chk (p2.Tier - 1) fun v3=>
 bnd (Z0 p1 (Slot.mk p2.G3 v3 half)) fun r4=>
 some r4
theorem H14 (half:Int) (p1:List Slot) (p2:Slot) (r:Bool) (h:G5a half p1 p2=some r):Pure Ei 131 [U8 half,.dptr [E9 p1],.dptr [I64 p2.G3,I64 p2.Tier,U8 p2.Half]] (·=BL r):=by
 unfold G5a at h
 refine Gz [.tmp 4] Tryz.func131 O O (Jr fun hK1=>(JLm (BL false) O (G7 (hK1 (Jr fun hK2=>(JLh (E9 p1) (Gf Q72 O O O) O (JLh (.dptr [I64 p2.G3,I64 p2.Tier,U8 p2.Half]) (Ga J2 O O O) O (JLh (I64 p2.G3) (Gf Gd O O O) O (JLh (.dptr [I64 p2.Tier,U8 p2.Half]) (Ga Qi O O O) O (JLh (I64 p2.Tier) (Gf Gd O O O) O ?_))))))))))
 obtain⟨v3,hv3,h⟩:=Q2 h
 refine JLh (I64 v3) (Gcc hv3 O O O) O (JLm (U8 half) O (JLh (.agg [I64 p2.G3,I64 v3,U8 half]) (Jp (cs:=[I64 p2.G3,I64 v3,U8 half]) [(0,1),(1,1),(2,1)] [I64 0,I64 0,U8 0] [E0,E0,.int .u8 0] J3b Jbe ⟨.inl O,.inl O,.inl O,G⟩ O O) O ?_))
 obtain⟨r4,hr4,h⟩:=Gc h
 refine JLh (BL r4) (Gm O (H26 p1 (Slot.mk p2.G3 v3 half) r4 hr4) Qac ⟨O,O,O,O,G⟩) O (JLm (BL r4) O (G7 (hK2 (Gn (fin1 BL h)))))

def Gc9 (x:Slot) (l:List Slot):Option Bool:=
 bif decide (x.Tier≤0) then
 (some true)
 else
 (bnd (G5a x.Half l x) fun r7=>
  bnd (bif ((!r7)&&(decide (x.Half=0))) then G5a 1 l x else some default) fun r8=>
  bnd (bif ((!r7)&&((decide (x.Half=0))&&r8)) then G5a 2 l x else some default) fun r9=>
  some (r7||(((decide (x.Half=0))&&r8)&&r9)))
abbrev En (l:List Slot) (x:Slot):List AV:=[.dptr [E9 l],.dptr [I64 x.G3,I64 x.Tier,U8 x.Half]]
theorem J10 (x:Slot) (l:List Slot) (r:Bool) (h:Gc9 x l=some r):Pure Ei 81 [.agg [I64 x.G3,I64 x.Tier,U8 x.Half],E9 l] (·=BL r):=by
 unfold Gc9 at h
 refine Gz [.tmp 4] Tryz.func81 O O (Jr fun hK1=>(JLh (.ptr 1098 0) (Je (cs:=[I64 x.G3,I64 x.Tier,U8 x.Half]) 1098 O O O O O) O (JLh (.ptr 1099 0) (Je (cs:=[E9 l]) 1099 O O O O O) O (JLm (BL false) O (G7 (hK1 (Gx [(2,.dptr [I64 x.G3,I64 x.Tier,U8 x.Half]),(3,.ptr 1099 0)] [(1099,.box 98 [E9 l])] 1098 rfl rfl rfl ⟨⟨_,rfl,.boxEq rfl rfl⟩,G⟩ rfl (by exact⟨.ptr,.conv (.same rfl),G⟩) (Gx [(2,.dptr [I64 x.G3,I64 x.Tier,U8 x.Half]),(3,.dptr [E9 l])] [] 1099 rfl rfl rfl G rfl (by exact⟨.conv (.same rfl),.ptr,G⟩) (Js fun hK2=>Jr fun hK3=>(JLh (.dptr [I64 x.Tier,U8 x.Half]) (Ga Qi O O O) O (JLh (I64 x.Tier) (Gf Gd O O O) O (JLh (BL (decide (x.Tier≤0))) (J12 O O O) O (G7 (hK3 ?_))))))))))))))
 refine JCc O h ?_ ?_<;>intro h hb
 ·
  refine Jr fun hK4=>(JLm (BL true) O (G7 (hK4 (Gn (fin1 BL h)))))
 ·
  refine Gk (hK2 (Jr fun hK5=>(JLh (.fn 131 (En l x)) (G91 (cs:=(En l x)) O O) O (JLm (.fn 131 (En l x)) O (G7 (hK5 (Jr fun hK6=>(JLm (.fn 131 (En l x)) O (JLh (.dptr [U8 x.Half]) (Ga Ju O O O) O (JLh (U8 x.Half) (Gf J9 O O O) O ?_))))))))))
  obtain⟨r7,hr7,h⟩:=Gc h
  refine JLh (BL r7) (Gb3 (args:=[U8 x.Half]) (caps:=(En l x)) O O (H14 x.Half l x r7 hr7) Hd3 ⟨O,O,G⟩ O) O (JLm (BL r7) O (JLo (.dptr [U8 x.Half]) [] O .scf G (fun hc=>Ga Ju O O O) O (JLo (U8 x.Half) [15] O .scf ⟨Ua,G⟩ (fun hc=>Gf J9 O O O) O (JLo (BL (decide (x.Half=0))) [16] O .scf ⟨Ua,G⟩ (fun hc=>Jw O O O) O (JLo (BL (decide (x.Half=0))) [17] O .scf ⟨Ua,G⟩ (fun hc=>G4 O O) O (JLo (.fn 131 (En l x)) [] O .optt G (fun hc=>G4 O O) O ?_))))))
  obtain⟨r8,hr8,h⟩:=Gc h
  refine JLo (BL r8) [19] O .optt ⟨Ua,G⟩ (fun hc=>Gb3 (args:=[U8 1]) (caps:=(En l x)) O O (H14 1 l x r8 (Gu hc hr8)) Hd3 ⟨O,O,G⟩ O) O (G8 (u:=BL ((decide (x.Half=0))&&r8)) [(18,BL (decide (x.Half=0))),(20,_)] O O O .scf ⟨.all id,.part,G⟩ (fun hc=>Hy O O O O) ?_)
  refine JLo (BL ((decide (x.Half=0))&&r8)) [21] O .scf ⟨Ua,G⟩ (fun hc=>G4 O O) O (JLo (.fn 131 (En l x)) [] O .optt G (fun hc=>G4 O O) O ?_)
  obtain⟨r9,hr9,h⟩:=Gc h
  refine JLo (BL r9) [23] O .optt ⟨Ua,G⟩ (fun hc=>Gb3 (args:=[U8 2]) (caps:=(En l x)) O O (H14 2 l x r9 (Gu hc hr9)) Hd3 ⟨O,O,G⟩ O) O (G8 (u:=BL (((decide (x.Half=0))&&r8)&&r9)) [(22,BL ((decide (x.Half=0))&&r8)),(24,_)] O O O .scf ⟨.all id,.part,G⟩ (fun hc=>Hy O O O O) ?_)
  refine JLh (BL (r7||(((decide (x.Half=0))&&r8)&&r9))) (Y4 O O O O) O (JLm (BL (r7||(((decide (x.Half=0))&&r8)&&r9))) O (G7 (hK6 (Gn (fin1 BL h)))))

def G76 (a:Int) (b:Int):Option Bool:=
 some (((decide (a=b))||(decide (a=0)))||(decide (b=0)))
theorem Hc3 (a:Int) (b:Int) (r:Bool) (h:G76 a b=some r):Pure Ei 133 [U8 a,U8 b] (·=BL r):=by
 unfold G76 at h
 refine Gz [.tmp 4] Tryz.func133 O O (Jr fun hK1=>(JLm (BL false) O (G7 (hK1 (Jr fun hK2=>(JLm (U8 a) O (JLm (U8 b) O (JLh (BL (decide (a=b))) (Jw O O O) O (JLm (BL (decide (a=b))) O (JLo (U8 a) [] O .scf G (fun hc=>G4 O O) O (JLo (BL (decide (a=0))) [9] O .scf ⟨Ua,G⟩ (fun hc=>Jw O O O) O (JLh (BL ((decide (a=b))||(decide (a=0)))) (Y4 O O O O) O (JLm (BL ((decide (a=b))||(decide (a=0)))) O (JLo (U8 b) [] O .scf G (fun hc=>G4 O O) O (JLo (BL (decide (b=0))) [13] O .scf ⟨Ua,G⟩ (fun hc=>Jw O O O) O (JLh (BL (((decide (a=b))||(decide (a=0)))||(decide (b=0)))) (Y4 O O O O) O (JLm (BL (((decide (a=b))||(decide (a=0)))||(decide (b=0)))) O (G7 (hK2 (Gn (fin1 BL h)))))))))))))))))))))

def Gc8 (a:Slot) (b:Slot):Option Bool:=
 bnd (bif ((decide (a.G3=b.G3))&&(decide (a.Tier=b.Tier))) then G76 a.Half b.Half else some default) fun r3=>
 some (((decide (a.G3=b.G3))&&(decide (a.Tier=b.Tier)))&&r3)
theorem J0f (a:Slot) (b:Slot) (r:Bool) (h:Gc8 a b=some r):Pure Ei 82 [.agg [I64 a.G3,I64 a.Tier,U8 a.Half],.agg [I64 b.G3,I64 b.Tier,U8 b.Half]] (·=BL r):=by
 unfold Gc8 at h
 refine Gz [.tmp 4] Tryz.func82 O O (Jr fun hK1=>(JLh (.ptr 1100 0) (Je (cs:=[I64 a.G3,I64 a.Tier,U8 a.Half]) 1100 O O O O O) O (JLh (.ptr 1101 0) (Je (cs:=[I64 b.G3,I64 b.Tier,U8 b.Half]) 1101 O O O O O) O (JLm (BL false) O (G7 (hK1 (Gx [(2,.dptr [I64 a.G3,I64 a.Tier,U8 a.Half]),(3,.ptr 1101 0)] [(1101,.box 37 [I64 b.G3,I64 b.Tier,U8 b.Half])] 1100 rfl rfl rfl ⟨⟨_,rfl,.boxEq rfl rfl⟩,G⟩ rfl (by exact⟨.ptr,.conv (.same rfl),G⟩) (Gx [(2,.dptr [I64 a.G3,I64 a.Tier,U8 a.Half]),(3,.dptr [I64 b.G3,I64 b.Tier,U8 b.Half])] [] 1101 rfl rfl rfl G rfl (by exact⟨.conv (.same rfl),.ptr,G⟩) ?_))))))))
 refine Jr fun hK2=>(JLh (.dptr [I64 a.G3,I64 a.Tier,U8 a.Half]) (Ga J2 O O O) O (JLh (I64 a.G3) (Gf Gd O O O) O (JLh (.dptr [I64 b.G3,I64 b.Tier,U8 b.Half]) (Ga J2 O O O) O (JLh (I64 b.G3) (Gf Gd O O O) O (JLh (BL (decide (a.G3=b.G3))) (Jw O O O) O (JLm (BL (decide (a.G3=b.G3))) O (JLo (.dptr [I64 a.Tier,U8 a.Half]) [] O .sct G (fun hc=>Ga Qi O O O) O (JLo (I64 a.Tier) [11] O .sct ⟨Ua,G⟩ (fun hc=>Gf Gd O O O) O (JLo (.dptr [I64 b.Tier,U8 b.Half]) [] O .sct G (fun hc=>Ga Qi O O O) O (JLo (I64 b.Tier) [13] O .sct ⟨Ua,G⟩ (fun hc=>Gf Gd O O O) O (JLo (BL (decide (a.Tier=b.Tier))) [12,14] O .sct ⟨Ua,Ua,G⟩ (fun hc=>Jw O O O) O (JLh (BL ((decide (a.G3=b.G3))&&(decide (a.Tier=b.Tier)))) (Hy O O O O) O (JLm (BL ((decide (a.G3=b.G3))&&(decide (a.Tier=b.Tier)))) O ?_)))))))))))))
 refine JLo (.dptr [U8 a.Half]) [] O .sct G (fun hc=>Ga Ju O O O) O (JLo (U8 a.Half) [18] O .sct ⟨Ua,G⟩ (fun hc=>Gf J9 O O O) O (JLo (.dptr [U8 b.Half]) [] O .sct G (fun hc=>Ga Ju O O O) O (JLo (U8 b.Half) [20] O .sct ⟨Ua,G⟩ (fun hc=>Gf J9 O O O) O ?_)))
 obtain⟨r3,hr3,h⟩:=Gc h
 refine JLo (BL r3) [19,21] O .sct ⟨Ua,Ua,G⟩ (fun hc=>Gm (args:=[U8 a.Half,U8 b.Half]) O (Hc3 a.Half b.Half r3 (Gu hc hr3)) J7d ⟨O,O,O,O,G⟩) O (JLh (BL (((decide (a.G3=b.G3))&&(decide (a.Tier=b.Tier)))&&r3)) (Hy O O O O) O (JLm (BL (((decide (a.G3=b.G3))&&(decide (a.Tier=b.Tier)))&&r3)) O (G7 (hK2 (Gn (fin1 BL h))))))

def H02 (b:Box):Option Int:=
 bif b.High then
 (some 2896)
 else
 (some 2591)
theorem Q32 (b:Box) (r:Int) (h:H02 b=some r):Pure Ei 157 [.agg (Box.cs b)] (·=I64 r):=by
 unfold H02 at h
 refine Gz [.tmp 2] Tryz.func157 O O (Jr fun hK1=>(JLh (.ptr 1157 0) (Je (cs:=(Box.cs b)) 1157 O O O O O) O (JLm (I64 0) O (G7 (hK1 (Gx [(1,Ee b)] [] 1157 rfl rfl rfl G rfl (by exact⟨.ptr,G⟩) (Js fun hK2=>Jr fun hK3=>(JLh (.dptr ((Box.cs b).drop 3)) (Ga J07 O O O) O (JLh (BL b.High) (Gf Yc O O O) O (G7 (hK3 (JCc O h (fun h hb=>?_) (fun h hb=>?_)))))))))))))
 ·
  refine Jr fun hK4=>(JLm (I64 2896) O (G7 (hK4 (Gn (fin1 I64 h)))))
 ·
  refine Gk (hK2 (Jr fun hK5=>(JLm (I64 2591) O (G7 (hK5 (Gn (fin1 I64 h)))))))

def G74 (boxes:List Box) (l:List Stowed) (column:Int) (half:Int):Option Int:=
 each (fun y27 i27 (s27:Int) nx27=>
  jp (fun kj30=>
   bif ((decide (y27.Slot.G3=column))&&((decide (y27.Slot.Half=half))||(decide (y27.Slot.Half=0)))) then
   (bnd (G89 boxes y27.Box) fun r34=>
    bif r34.2 then
    (bnd (H02 r34.1) fun r36=>
     chk (s27+r36) fun v37=>
     kj30 v37)
    else
    (kj30 s27))
   else
   (kj30 s27)) fun(j30:Int)=>
  nx27 j30)
 (fun(s27:Int)=>
  some s27) l 0 0
theorem Hc2 (boxes:List Box) (l:List Stowed) (column:Int) (half:Int) (r:Int) (h:G74 boxes l column half=some r):Pure Ei 134 [E3 boxes,E2 l,I64 column,U8 half] (·=I64 r):=by
 unfold G74 at h
 refine Gz [.tmp 8] Tryz.func134 O O (Jr fun hK1=>(JLm (I64 0) O (G7 (hK1 (Jr fun hK2=>(JLm (I64 0) O (G7 (hK2 (Js fun hK3=>Jr fun hK4=>(JLm (E2 l) O (JLl Gt O O O fun hm15=>(JLm (I64 0) O (G7 (hK4 (Gq ?_)))))))))))))))
 obtain⟨b27,kx27,hb27,hkx27,h⟩:=J3 h
 refine Hd (fun i27 (s27:Int)=>each b27 kx27 (List.drop i27 l) i27 s27=some r) (fun i27 s27=>[(0,E3 boxes),(2,I64 column),(3,U8 half),(9,I64 s27),(14,E2 l),(15,Eh l.length),(16,Eh i27)]) (fun i27 s27=>[]) (fun i27=>l.length - i27) 0 0 h ⟨(.sm O O),G,rfl⟩ ?_
 clear h
 intro i27 s27 hi27 K27 e27
 refine Jr fun hK28=>(JLh (BL (decide ((i27:Int) < (l.length:Int)))) (Hz O O O) O (G7 (hK28 (Js fun hK29=>Gi O (fun hb=>?_) (fun hb=>?_)))))
 ·
  have hk27:=Jj hb
  obtain⟨y27,nx27,hy27,hn27,h⟩:=Hu hi27 hk27
  replace h:=Z9 hb27 h
  refine Gk (hK29 ?_)
  obtain⟨kj30,hkj30,h⟩:=G84 h
  refine G57 (fun j30:Int=>kj30 j30=some r) (fun j30=>[(0,E3 boxes),(2,I64 column),(3,U8 half),(9,I64 j30),(14,E2 l),(15,Eh l.length),(16,Eh i27)]) (fun j30=>[]) (fun Kj30 ej30=>?_) ?_
  ·
   refine Gq (Jr fun hK31=>(JLh (Ec y27) (Gw (f:=Stowed.av) (xs:=l) (y:=y27) O O O Gt hy27 O) O (JLh (.agg (Stowed.cs y27)) (Gh R6 O O O) O (JLh (.ptr 1143 0) (Qo 1143 4 G0f O O) O (Jo (u:=.junk) (Jh (u:=.agg (Stowed.cs y27)) (ds:=[I64 y27.Box,I64 y27.Slot.G3,I64 y27.Slot.Tier,U8 y27.Slot.Half]) G7f O O O O O O O O) (G7 (hK31 (Gx [(0,E3 boxes),(2,I64 column),(3,U8 half),(9,I64 s27),(11,Ec y27),(14,E2 l),(15,Eh l.length),(16,Eh i27)] [] 1143 rfl rfl rfl G rfl (by repeat' (first | exact .ptr | constructor)) ?_))))))))
   refine Jr fun hK32=>(JLh (.dptr ((Stowed.cs y27).drop 1)) (Ga Ho O O O) O (JLh (.dptr ((Stowed.cs y27).drop 1)) (Ga J2 O O O) O (JLh (I64 y27.Slot.G3) (Gf Gd O O O) O (JLm (I64 column) O (JLh (BL (decide (y27.Slot.G3=column))) (Jw O O O) O (JLm (BL (decide (y27.Slot.G3=column))) O (JLo (.dptr ((Stowed.cs y27).drop 1)) [] O .sct G (fun hc=>Ga Ho O O O) O (JLo (.dptr [U8 y27.Slot.Half]) [26] O .sct ⟨Ua,G⟩ (fun hc=>Ga Ju O O O) O (JLo (U8 y27.Slot.Half) [27] O .sct ⟨Ua,G⟩ (fun hc=>Gf J9 O O O) O (JLo (U8 half) [] O .sct G (fun hc=>G4 O O) O (JLo (BL (decide (y27.Slot.Half=half))) [28,29] O .sct ⟨Ua,Ua,G⟩ (fun hc=>Jw O O O) O (JLo (BL (decide (y27.Slot.Half=half))) [30] O .sct ⟨Ua,G⟩ (fun hc=>G4 O O) O (JLo (.dptr ((Stowed.cs y27).drop 1)) [] O .optf G (fun hc=>Ga Ho O O O) O ?_)))))))))))))
   refine JLo (.dptr [U8 y27.Slot.Half]) [32] O .optf ⟨Ua,G⟩ (fun hc=>Ga Ju O O O) O (JLo (U8 y27.Slot.Half) [33] O .optf ⟨Ua,G⟩ (fun hc=>Gf J9 O O O) O (JLo (BL (decide (y27.Slot.Half=0))) [34] O .optf ⟨Ua,G⟩ (fun hc=>Jw O O O) O (G8 (u:=BL ((decide (y27.Slot.Half=half))||(decide (y27.Slot.Half=0)))) [(31,BL (decide (y27.Slot.Half=half))),(35,_)] O O O .sct ⟨.all id,.part,G⟩ (fun hc=>Y4 O O O O) ?_)))
   refine JLh (BL ((decide (y27.Slot.G3=column))&&((decide (y27.Slot.Half=half))||(decide (y27.Slot.Half=0))))) (Hy O O O O) O (G7 (hK32 (JCc O h (fun h hb=>?_) (fun h hb=>?_))))
   ·
    refine Jr fun hK33=>(JLm (E3 boxes) O (JLh (Ec y27) (Ga Jc O O O) O (JLh (I64 y27.Box) (Gf Gd O O O) O ?_)))
    obtain⟨r34,hr34,h⟩:=Gc h
    refine JLh (.tup [.agg (Box.cs r34.1),BL r34.2]) (Gm O (Gfb boxes y27.Box r34 hr34) Ha5 ⟨O,O,O,O,G⟩) O (JLm (.tup [.agg (Box.cs r34.1),BL r34.2]) O (JLh (.agg (Box.cs r34.1)) (Hk O O O) O (JLh (BL r34.2) (Hk O O O) O (JLh (.ptr 1144 0) (Qo 1144 9 G4e O O) O (Jo (u:=.junk) (Jh (u:=.agg (Box.cs r34.1)) (ds:=(Box.cs r34.1)) G29 O O O O O O O O) (JLm (BL r34.2) O (G7 (hK33 ?_))))))))
    refine Gx [(0,E3 boxes),(2,I64 column),(3,U8 half),(9,I64 s27),(12,Ee r34.1),(13,BL r34.2),(14,E2 l),(15,Eh l.length),(16,Eh i27)] [] 1144 rfl rfl rfl G rfl (by repeat' (first | exact .ptr | constructor)) (Jr fun hK35=>(JLm (BL r34.2) O (G7 (hK35 (JCc O h (fun h hb=>?_) (fun h hb=>?_))))))
    ·
     refine G2 (JLm (I64 s27) O (JLh (.agg (Box.cs r34.1)) (Gh G4b O O O) O ?_))
     obtain⟨r36,hr36,h⟩:=Gc h
     refine JLh (I64 r36) (Gm O (Q32 r34.1 r36 hr36) Qa5 ⟨O,O,G⟩) O ?_
     obtain⟨v37,hv37,h⟩:=Q2 h
     refine JLh (I64 v37) (Hs hv37 O O O) O (JLm (I64 v37) O (G7 (ej30 _ _ v37 h ⟨(.sm O O),G,rfl⟩)))
    ·
     refine Gk (ej30 _ _ s27 h ⟨(.sm O O),G,rfl⟩)
   ·
    refine Gk (ej30 _ _ s27 h ⟨(.sm O O),G,rfl⟩)
  ·intro j30 h
   replace h:=app1 hkj30 h
   refine G2 (JLh (I64 ((i27+1:Nat):Int)) (Hs (Hf hk27 hm15) O O O) O (JLm (I64 ((i27+1:Nat):Int)) O (G7 (e27 _ _ (i27+1) j30 (app1 hn27 h) (by omega) ⟨(.sm O O),G,rfl⟩))))
 ·
  have h:=app1 hkx27 (Hv hi27 (Ha hb))
  refine Hn (hK3 (Jr fun hK38=>(JLm (I64 s27) O (JLm (I64 s27) O (G7 (hK38 (Gn (fin1 I64 h))))))))

def G88 (s:H0) (boxes:List Box) (l:List Stowed) (column:Int):Option Bool:=
 Qq s.Columns column fun y3=>
 bnd (bif (!(decide (y3.Height≤0))) then G74 boxes l column 1 else some default) fun r6=>
 bnd (bif ((!(decide (y3.Height≤0)))&&(decide (r6≤y3.Height))) then G74 boxes l column 2 else some default) fun r7=>
 some ((decide (y3.Height≤0))||((decide (r6≤y3.Height))&&(decide (r7≤y3.Height))))
theorem J0e (s:H0) (boxes:List Box) (l:List Stowed) (column:Int) (r:Bool) (h:G88 s boxes l column=some r):Pure Ei 83 [.agg (H0.cs s),E3 boxes,E2 l,I64 column] (·=BL r):=by
 unfold G88 at h
 refine Gz [.tmp 8] Tryz.func83 O O (Jr fun hK1=>(JLh (.ptr 1102 0) (Je (cs:=(H0.cs s)) 1102 O O O O O) O (JLm (BL false) O (G7 (hK1 (Gx [(1,E3 boxes),(2,E2 l),(3,I64 column),(4,Eb s)] [] 1102 rfl rfl rfl G rfl (by repeat' (first | exact .ptr | constructor)) ?_))))))
 refine Jr fun hK2=>(JLh (Eb s) (Ga Hi O O O) O (JLh (E5 s.Columns) (Gf Ht O O O) O (JLm (I64 column) O ?_)))
 obtain⟨m4,y3,hm4,hy3,h⟩:=R1 h
 refine JLh (Ed y3) (Gw (f:=G3.av) (xs:=s.Columns) (y:=y3) O O O H4 hy3 hm4) O (JLh (.dptr ((G3.cs y3).drop 4)) (Ga G3a O O O) O (JLh (I64 y3.Height) (Gf Gd O O O) O (JLm (I64 y3.Height) O (G7 (hK2 (Jr fun hK5=>(JLm (I64 y3.Height) O (JLh (BL (decide (y3.Height≤0))) (J12 O O O) O (JLm (BL (decide (y3.Height≤0))) O (JLo (E3 boxes) [] O .scf G (fun hc=>G4 O O) O (JLo (E2 l) [] O .scf G (fun hc=>G4 O O) O (JLo (I64 column) [] O .scf G (fun hc=>G4 O O) O ?_))))))))))))
 obtain⟨r6,hr6,h⟩:=Gc h
 refine JLo (I64 r6) [19,20,21] O .scf ⟨Ua,Ua,Ua,G⟩ (fun hc=>Gm (args:=[E3 boxes,E2 l,I64 column,U8 1]) O (Hc2 boxes l column 1 r6 (Gu hc hr6)) J7c ⟨O,O,O,O,O,O,O,O,G⟩) O (JLo (I64 y3.Height) [] O .scf G (fun hc=>G4 O O) O (JLo (BL (decide (r6≤y3.Height))) [22,23] O .scf ⟨Ua,Ua,G⟩ (fun hc=>J12 O O O) O (JLo (BL (decide (r6≤y3.Height))) [24] O .scf ⟨Ua,G⟩ (fun hc=>G4 O O) O (JLo (E3 boxes) [] O .optt G (fun hc=>G4 O O) O (JLo (E2 l) [] O .optt G (fun hc=>G4 O O) O (JLo (I64 column) [] O .optt G (fun hc=>G4 O O) O ?_))))))
 obtain⟨r7,hr7,h⟩:=Gc h
 refine JLo (I64 r7) [26,27,28] O .optt ⟨Ua,Ua,Ua,G⟩ (fun hc=>Gm (args:=[E3 boxes,E2 l,I64 column,U8 2]) O (Hc2 boxes l column 2 r7 (Gu hc hr7)) J7c ⟨O,O,O,O,O,O,O,O,G⟩) O (JLo (I64 y3.Height) [] O .optt G (fun hc=>G4 O O) O (JLo (BL (decide (r7≤y3.Height))) [29,30] O .optt ⟨Ua,Ua,G⟩ (fun hc=>J12 O O O) O (G8 (u:=BL ((decide (r6≤y3.Height))&&(decide (r7≤y3.Height)))) [(25,BL (decide (r6≤y3.Height))),(31,_)] O O O .scf ⟨.all id,.part,G⟩ (fun hc=>Hy O O O O) ?_)))
 refine JLh (BL ((decide (y3.Height≤0))||((decide (r6≤y3.Height))&&(decide (r7≤y3.Height))))) (Y4 O O O O) O (JLm (BL ((decide (y3.Height≤0))||((decide (r6≤y3.Height))&&(decide (r7≤y3.Height))))) O (G7 (hK5 (Gn (fin1 BL h)))))

def G1b (s:H0) (boxes:List Box) (l:List Stowed):Option Bool:=
 bnd (G96 s) fun r4=>
 bif (!r4) then
 (some false)
 else
 (bnd (G97 l) fun r7=>
  each (fun y10 i10 (s10:Unit) nx10=>
   bnd (G89 boxes y10.Box) fun r16=>
   bnd (bif ((!(!r16.2))&&(decide (0 < (i10:Int)))) then chk ((i10:Int) - 1) some else some 0) fun v19=>
   bnd (bif ((!(!r16.2))&&(decide (0 < (i10:Int)))) then Qq l v19 some else some default) fun y20=>
   bnd (bif (!((!r16.2)||((decide (0 < (i10:Int)))&&(decide (y10.Box≤y20.Box))))) then G99 s y10.Slot r16.1.Size else some default) fun r21=>
   bnd (bif (!(((!r16.2)||((decide (0 < (i10:Int)))&&(decide (y10.Box≤y20.Box))))||(!r21))) then Gc9 y10.Slot r7 else some default) fun r22=>
   bif ((((!r16.2)||((decide (0 < (i10:Int)))&&(decide (y10.Box≤y20.Box))))||(!r21))||(!r22)) then
   (some false)
   else
   (bnd (G5e (i10:Int) r7.length) fun m25=>
    each (fun y42 i42 (s42:Unit) nx42=>
     bnd (Gc8 y10.Slot y42) fun r48=>
     bif r48 then
     (some false)
     else
     (nx42 ()))
    (fun(s42:Unit)=>
     nx10 ()) (r7.take m25) 0 ()))
  (fun(s10:Unit)=>
   each (fun y64 i64 (s64:Unit) nx64=>
    bnd (G88 s boxes l (i64:Int)) fun r70=>
    bif (!r70) then
    (some false)
    else
    (nx64 ()))
   (fun(s64:Unit)=>
    some true) s.Columns 0 ()) l 0 ())
theorem Hee (s:H0) (boxes:List Box) (l:List Stowed) (r:Bool) (h:G1b s boxes l=some r):Pure Ei 31 [.agg (H0.cs s),E3 boxes,E2 l] (·=BL r):=by
 unfold G1b at h
 refine Gz [.tmp 6] Tryz.func31 O O (Jr fun hK1=>(JLh (.ptr 1043 0) (Je (cs:=(H0.cs s)) 1043 O O O O O) O (JLm (BL false) O (G7 (hK1 (Gx [(1,E3 boxes),(2,E2 l),(3,Eb s)] [] 1043 rfl rfl rfl G rfl (by exact⟨.conv (.same rfl),.conv (.same rfl),.ptr,G⟩) (Js fun hK2=>?_)))))))
 refine Jr fun hK3=>(JLh (.agg (H0.cs s)) (Gh Hc O O O) O ?_)
 obtain⟨r4,hr4,h⟩:=Gc h
 refine JLh (BL r4) (Gm O (Q10.down s r4 hr4) R12 ⟨O,O,G⟩) O (JLh (BL (!r4)) (Q7 (b:=r4) O O) O (G7 (hK3 (JCc O h (fun h hb=>?_) (fun h hb=>?_)))))
 ·
  refine Jr fun hK5=>(JLm (BL false) O (G7 (hK5 (Gn (fin1 BL h)))))
 ·
  refine Gk (hK2 (Jr fun hK6=>(JLm (E2 l) O ?_)))
  obtain⟨r7,hr7,h⟩:=Gc h
  refine JLh (E9 r7) (Gm O (Hec l r7 hr7) Jcd ⟨O,O,G⟩) O (JLm (E9 r7) O (G7 (hK6 (Js fun hK8=>Jr fun hK9=>(JLm (E2 l) O (JLl Gt O O O fun hm21=>(JLm (I64 0) O (G7 (hK9 (Gq ?_))))))))))
  obtain⟨b10,kx10,hb10,hkx10,h⟩:=J3 h
  refine Hd (fun i10 (s10:Unit)=>each b10 kx10 (List.drop i10 l) i10 s10=some r) (fun i10 s10=>[(1,E3 boxes),(2,E2 l),(3,Eb s),(7,E9 r7),(20,E2 l),(21,Eh l.length),(22,Eh i10)]) (fun i10 s10=>[]) (fun i10=>l.length - i10) 0 () h ⟨(.sm O O),G,rfl⟩ ?_
  clear h
  intro i10 s10 hi10 K10 e10
  refine Jr fun hK11=>(JLh (BL (decide ((i10:Int) < (l.length:Int)))) (Hz O O O) O (G7 (hK11 (Js fun hK12=>Gi O (fun hb=>?_) (fun hb=>?_)))))
  ·
   have hk10:=Jj hb
   obtain⟨y10,nx10,hy10,hn10,h⟩:=Hu hi10 hk10
   replace h:=Z9 hb10 h
   refine Gk (hK12 (Js fun hK13=>Gq (Jr fun hK14=>(JLm (Eh i10) O (JLh (Ec y10) (Gw (f:=Stowed.av) (xs:=l) (y:=y10) O O O Gt hy10 O) O (JLh (.agg (Stowed.cs y10)) (Gh R6 O O O) O (JLh (.ptr 1044 0) (Qo 1044 4 G0f O O) O (JLm (Eh i10) O (Jo (u:=.junk) (Jh (u:=.agg (Stowed.cs y10)) (ds:=[I64 y10.Box,I64 y10.Slot.G3,I64 y10.Slot.Tier,U8 y10.Slot.Half]) G7f O O O O O O O O) (G7 (hK14 ?_)))))))))))
   refine Gx [(1,E3 boxes),(2,E2 l),(3,Eb s),(7,E9 r7),(8,Eh i10),(9,Ec y10),(20,E2 l),(21,Eh l.length),(22,Eh i10)] [] 1044 rfl rfl rfl G rfl (by repeat' (first | exact .ptr | constructor)) (Jr fun hK15=>(JLm (E3 boxes) O (JLh (Ec y10) (Ga Jc O O O) O (JLh (I64 y10.Box) (Gf Gd O O O) O ?_))))
   obtain⟨r16,hr16,h⟩:=Gc h
   refine JLh (.tup [.agg (Box.cs r16.1),BL r16.2]) (Gm O (Gfb boxes y10.Box r16 hr16) Ha5 ⟨O,O,O,O,G⟩) O (JLm (.tup [.agg (Box.cs r16.1),BL r16.2]) O (JLh (.agg (Box.cs r16.1)) (Hk O O O) O (JLh (BL r16.2) (Hk O O O) O (JLh (.ptr 1045 0) (Qo 1045 9 G4e O O) O (Jo (u:=.junk) (Jh (u:=.agg (Box.cs r16.1)) (ds:=(Box.cs r16.1)) G29 O O O O O O O O) (JLm (BL r16.2) O (G7 (hK15 ?_))))))))
   refine Gx [(1,E3 boxes),(2,E2 l),(3,Eb s),(7,E9 r7),(8,Eh i10),(9,Ec y10),(10,Ee r16.1),(11,BL r16.2),(20,E2 l),(21,Eh l.length),(22,Eh i10)] [] 1045 rfl rfl rfl G rfl (by repeat' (first | exact .ptr | constructor)) (Js fun hK17=>Js fun hK18=>?_)
   obtain⟨v19,hv19,h⟩:=Gc h
   obtain⟨y20,hy20,h⟩:=Gc h
   obtain⟨r21,hr21,h⟩:=Gc h
   obtain⟨r22,hr22,h⟩:=Gc h
   refine JC_d0 J6 (by kernel_rfl) (Dq (BL r16.2) (G4 O O) O (Dq (BL (!r16.2)) (Q7 (b:=r16.2) O O) O (Dq (BL (!r16.2)) (G4 O O) O (Do (Eh i10) [] O .scf G (fun hc=>G4 O O) O (Do (BL (decide (0 < (i10:Int)))) [37] O .scf ⟨Ua,G⟩ (fun hc=>G30 O O O) O (Do (BL (decide (0 < (i10:Int)))) [38] O .scf ⟨Ua,G⟩ (fun hc=>G4 O O) O (Do (Ec y10) [] O .optt G (fun hc=>Ga Jc O O O) O (Do (I64 y10.Box) [40] O .optt ⟨Ua,G⟩ (fun hc=>Gf Gd O O O) O (Do (E2 l) [] O .optt G (fun hc=>G4 O O) O (Do (Eh i10) [] O .optt G (fun hc=>G4 O O) O (Do (I64 v19) [43] O .optt ⟨Ua,G⟩ (fun hc=>Gcc (Zo (Gu hc hv19)) O O O) O (Do (Ec y20) [42,44] O .optt ⟨Ua,Ua,G⟩ (fun hc=>(match Jx (Gu hc hy20) with | ⟨_,hm_,hy_⟩=>Gw (f:=Stowed.av) (xs:=l) (y:=y20) O O O Gt hy_ hm_)) O (Do (Ec y20) [45] O .optt ⟨Ua,G⟩ (fun hc=>Ga Jc O O O) O ?_)))))))))))))
   refine Do (I64 y20.Box) [46] O .optt ⟨Ua,G⟩ (fun hc=>Gf Gd O O O) O (Do (BL (decide (y10.Box≤y20.Box))) [41,47] O .optt ⟨Ua,Ua,G⟩ (fun hc=>J12 O O O) O (Dg (.opt (!(!r16.2)) (BL ((decide (0 < (i10:Int)))&&(decide (y10.Box≤y20.Box))))) (Ge [(39,BL (decide (0 < (i10:Int)))),(48,_)] O O O .scf ⟨.all id,.part,G⟩ (fun hc=>Hy O O O O) O) O (Dq (BL ((!r16.2)||((decide (0 < (i10:Int)))&&(decide (y10.Box≤y20.Box))))) (Y4 O O O O) O (Dq (BL ((!r16.2)||((decide (0 < (i10:Int)))&&(decide (y10.Box≤y20.Box))))) (G4 O O) O (Do (.agg (H0.cs s)) [] O .scf G (fun hc=>Gh Hc O O O) O (Do (.dptr ((Stowed.cs y10).drop 1)) [] O .scf G (fun hc=>Ga Ho O O O) O (Do (.agg ((Stowed.cs y10).drop 1)) [53] O .scf ⟨Ua,G⟩ (fun hc=>Gh Q4 O O O) O (Do (.dptr ((Box.cs r16.1).drop 2)) [] O .scf G (fun hc=>Ga Z8 O O O) O (Do (U8 r16.1.Size) [55] O .scf ⟨Ua,G⟩ (fun hc=>Gf J9 O O O) O (Do (BL r21) [52,54,56] O .scf ⟨Ua,Ua,Ua,G⟩ (fun hc=>Gm (args:=[.agg (H0.cs s),.agg ((Stowed.cs y10).drop 1),U8 r16.1.Size]) O (H48 s y10.Slot r16.1.Size r21 (Gu hc hr21)) J23 ⟨O,O,O,O,O,O,G⟩) O (Do (BL (!r21)) [57] O .scf ⟨Ua,G⟩ (fun hc=>Q7 (b:=r21) O O) O (Dq (BL (((!r16.2)||((decide (0 < (i10:Int)))&&(decide (y10.Box≤y20.Box))))||(!r21))) (Y4 O O O O) O (Dq (BL (((!r16.2)||((decide (0 < (i10:Int)))&&(decide (y10.Box≤y20.Box))))||(!r21))) (G4 O O) O ?_)))))))))))))
   refine Do (.dptr ((Stowed.cs y10).drop 1)) [] O .scf G (fun hc=>Ga Ho O O O) O (Do (.agg ((Stowed.cs y10).drop 1)) [61] O .scf ⟨Ua,G⟩ (fun hc=>Gh Q4 O O O) O (Do (E9 r7) [] O .scf G (fun hc=>G4 O O) O (Do (BL r22) [62,63] O .scf ⟨Ua,Ua,G⟩ (fun hc=>Gm (args:=[.agg ((Stowed.cs y10).drop 1),E9 r7]) O (J10 y10.Slot r7 r22 (Gu hc hr22)) Jcc ⟨O,O,O,O,G⟩) O (Do (BL (!r22)) [64] O .scf ⟨Ua,G⟩ (fun hc=>Q7 (b:=r22) O O) O (Dq (BL ((((!r16.2)||((decide (0 < (i10:Int)))&&(decide (y10.Box≤y20.Box))))||(!r21))||(!r22))) (Y4 O O O O) O (Dnil (hK18 (JCc O h (fun h hb=>?_) (fun h hb=>?_)))))))))
   ·
    refine Jr fun hK23=>(JLm (BL false) O (G7 (hK23 (Gn (fin1 BL h)))))
   ·
    refine Gk (hK17 (Jr fun hK24=>(JLm (E9 r7) O (JLm (Eh i10) O ?_))))
    obtain⟨m25,hm25,h⟩:=Gc h
    refine JLh (E9 (r7.take m25)) (R4e (f:=Slot.av) (xs:=r7) O O O Zk (Rq hm25)) O (JLl Zk O O O fun hm70=>(JLm (I64 0) O (G7 (hK24 (Gq ?_)))))
    obtain⟨b42,kx42,hb42,hkx42,h⟩:=J3 h
    refine Hd (fun i42 (s42:Unit)=>each b42 kx42 (List.drop i42 (r7.take m25)) i42 s42=some r) (fun i42 s42=>[(1,E3 boxes),(2,E2 l),(3,Eb s),(7,E9 r7),(9,Ec y10),(20,E2 l),(21,Eh l.length),(22,Eh i10),(69,E9 (r7.take m25)),(70,I64 ((r7.take m25).length:Int)),(71,Eh i42)]) (fun i42 s42=>[]) (fun i42=>(r7.take m25).length - i42) 0 () h ⟨(.sm O O),G,rfl⟩ ?_
    clear h
    intro i42 s42 hi42 K42 e42
    refine Jr fun hK43=>(JLh (BL (decide ((i42:Int) < ((r7.take m25).length:Int)))) (Hz O O O) O (G7 (hK43 (Js fun hK44=>Gi O (fun hb=>?_) (fun hb=>?_)))))
    ·
     have hk42:=Jj hb
     obtain⟨y42,nx42,hy42,hn42,h⟩:=Hu hi42 hk42
     replace h:=Z9 hb42 h
     refine Gk (hK44 (Js fun hK45=>Gq (Jr fun hK46=>(JLh (.dptr (Slot.cs y42)) (Gw (f:=Slot.av) (xs:=(r7.take m25)) (y:=y42) O O O Zk hy42 O) O (JLh (.agg (Slot.cs y42)) (Gh Q4 O O O) O (JLh (.ptr 1046 0) (Qo 1046 3 Hc7 O O) O (Jo (u:=.junk) (Jh (u:=.agg (Slot.cs y42)) (ds:=[I64 y42.G3,I64 y42.Tier,U8 y42.Half]) R04 O O O O O O O O) (G7 (hK46 ?_)))))))))
     refine Gx [(1,E3 boxes),(2,E2 l),(3,Eb s),(7,E9 r7),(9,Ec y10),(13,.dptr (Slot.cs y42)),(20,E2 l),(21,Eh l.length),(22,Eh i10),(69,E9 (r7.take m25)),(70,I64 ((r7.take m25).length:Int)),(71,Eh i42)] [] 1046 rfl rfl rfl G rfl (by repeat' (first | exact .ptr | constructor)) ?_
     refine Jr fun hK47=>(JLh (.dptr ((Stowed.cs y10).drop 1)) (Ga Ho O O O) O (JLh (.agg ((Stowed.cs y10).drop 1)) (Gh Q4 O O O) O (JLh (.agg (Slot.cs y42)) (Gh Q4 O O O) O ?_)))
     obtain⟨r48,hr48,h⟩:=Gc h
     refine JLh (BL r48) (Gm O (J0f y10.Slot y42 r48 hr48) Jcb ⟨O,O,O,O,G⟩) O (G7 (hK47 (JCc O h (fun h hb=>?_) (fun h hb=>?_))))
     ·
      refine Jr fun hK49=>(JLm (BL false) O (G7 (hK49 (Gn (fin1 BL h)))))
     ·
      refine Gk (hK45 (G2 (JLh (I64 ((i42+1:Nat):Int)) (Hs (Hf hk42 hm70) O O O) O (JLm (I64 ((i42+1:Nat):Int)) O (G7 (e42 _ _ (i42+1) () (app1 hn42 h) (by omega) ⟨(.sm O O),G,rfl⟩))))))
    ·
     have h:=app1 hkx42 (Hv hi42 (Ha hb))
     refine Hn (hK13 (G2 (JLh (I64 ((i10+1:Nat):Int)) (Hs (Hf hk10 hm21) O O O) O (JLm (I64 ((i10+1:Nat):Int)) O (G7 (e10 _ _ (i10+1) () (app1 hn10 h) (by omega) ⟨(.sm O O),G,rfl⟩))))))
  ·
   have h:=app1 hkx10 (Hv hi10 (Ha hb))
   refine Hn (hK8 (Js fun hK50=>Jr fun hK51=>(JLh (Eb s) (Ga Hi O O O) O (JLh (E5 s.Columns) (Gf Ht O O O) O (JLl H4 O O O fun hm83=>(JLm (I64 0) O (G7 (hK51 (Gq ?_)))))))))
   obtain⟨b64,kx64,hb64,hkx64,h⟩:=J3 h
   refine Hd (fun i64 (s64:Unit)=>each b64 kx64 (List.drop i64 s.Columns) i64 s64=some r) (fun i64 s64=>[(1,E3 boxes),(2,E2 l),(3,Eb s),(83,Eh s.Columns.length),(84,Eh i64)]) (fun i64 s64=>[]) (fun i64=>s.Columns.length - i64) 0 () h ⟨(.sm O O),G,rfl⟩ ?_
   clear h
   intro i64 s64 hi64 K64 e64
   refine Jr fun hK65=>(JLh (BL (decide ((i64:Int) < (s.Columns.length:Int)))) (Hz O O O) O (G7 (hK65 (Js fun hK66=>Gi O (fun hb=>?_) (fun hb=>?_)))))
   ·
    have hk64:=Jj hb
    obtain⟨y64,nx64,hy64,hn64,h⟩:=Hu hi64 hk64
    replace h:=Z9 hb64 h
    refine Gk (hK66 (Js fun hK67=>Gq (Jr fun hK68=>(JLm (Eh i64) O (JLm (Eh i64) O (G7 (hK68 (Jr fun hK69=>(JLh (.agg (H0.cs s)) (Gh Hc O O O) O (JLm (E3 boxes) O (JLm (E2 l) O (JLm (Eh i64) O ?_))))))))))))
    obtain⟨r70,hr70,h⟩:=Gc h
    refine JLh (BL r70) (Gm O (J0e s boxes l (i64:Int) r70 hr70) Jca ⟨O,O,O,O,O,O,O,O,G⟩) O (JLh (BL (!r70)) (Q7 (b:=r70) O O) O (G7 (hK69 (JCc O h (fun h hb=>?_) (fun h hb=>?_)))))
    ·
     refine Jr fun hK71=>(JLm (BL false) O (G7 (hK71 (Gn (fin1 BL h)))))
    ·
     refine Gk (hK67 (G2 (JLh (I64 ((i64+1:Nat):Int)) (Hs (Hf hk64 hm83) O O O) O (JLm (I64 ((i64+1:Nat):Int)) O (G7 (e64 _ _ (i64+1) () (app1 hn64 h) (by omega) ⟨(.sm O O),G,rfl⟩))))))
   ·
    have h:=app1 hkx64 (Hv hi64 (Ha hb))
    refine Hn (hK50 (Jr fun hK72=>(JLm (BL true) O (G7 (hK72 (Gn (fin1 BL h)))))))

def Qa (s:H0) (boxes:List Box) (l:List Stowed) (open_:List Int):Option Bool:=
 each (fun y22 i22 (s22:Unit) nx22=>
  bnd (bif ((!((decide (y22 < 0))||(decide ((s.Covers.length:Int)≤y22))))&&(decide (0 < (i22:Int)))) then chk ((i22:Int) - 1) some else some 0) fun v28=>
  bnd (bif ((!((decide (y22 < 0))||(decide ((s.Covers.length:Int)≤y22))))&&(decide (0 < (i22:Int)))) then Qq open_ v28 some else some default) fun y29=>
  bif (((decide (y22 < 0))||(decide ((s.Covers.length:Int)≤y22)))||((decide (0 < (i22:Int)))&&(decide (y22≤y29)))) then
  (some false)
  else
  (nx22 ()))
 (fun(s22:Unit)=>
  bnd (G1b s boxes l) fun r32=>
  some r32) open_ 0 ()
theorem Zx (s:H0) (boxes:List Box) (l:List Stowed) (open_:List Int) (r:Bool) (h:Qa s boxes l open_=some r):Pure Ei 42 [.agg (H0.cs s),E3 boxes,E2 l,E1 open_] (·=BL r):=by
 unfold Qa at h
 refine Gz [.tmp 8] Tryz.func42 O O (Jr fun hK1=>(JLh (.ptr 1058 0) (Je (cs:=(H0.cs s)) 1058 O O O O O) O (JLm (BL false) O (G7 (hK1 (Gx [(1,E3 boxes),(2,E2 l),(3,E1 open_),(4,Eb s)] [] 1058 rfl rfl rfl G rfl (by repeat' (first | exact .ptr | constructor)) (Js fun hK2=>?_)))))))
 refine Jr fun hK3=>(JLm (E1 open_) O (JLl Gs O O O fun hm12=>(JLm (I64 0) O (G7 (hK3 (Gq ?_))))))
 obtain⟨b22,kx22,hb22,hkx22,h⟩:=J3 h
 refine Hd (fun i22 (s22:Unit)=>each b22 kx22 (List.drop i22 open_) i22 s22=some r) (fun i22 s22=>[(1,E3 boxes),(2,E2 l),(3,E1 open_),(4,Eb s),(11,E1 open_),(12,Eh open_.length),(13,Eh i22)]) (fun i22 s22=>[]) (fun i22=>open_.length - i22) 0 () h ⟨(.sm O O),G,rfl⟩ ?_
 clear h
 intro i22 s22 hi22 K22 e22
 refine Jr fun hK23=>(JLh (BL (decide ((i22:Int) < (open_.length:Int)))) (Hz O O O) O (G7 (hK23 (Js fun hK24=>Gi O (fun hb=>?_) (fun hb=>?_)))))
 ·
  have hk22:=Jj hb
  obtain⟨y22,nx22,hy22,hn22,h⟩:=Hu hi22 hk22
  replace h:=Z9 hb22 h
  refine Gk (hK24 (Js fun hK25=>Gq (Jr fun hK26=>(JLm (Eh i22) O (JLh (.dptr [I64 y22]) (Gw (f:=I64) (xs:=open_) (y:=y22) O O O Gs hy22 O) O (JLh (I64 y22) (Gf Gd O O O) O (JLm (Eh i22) O (JLm (I64 y22) O (G7 (hK26 ?_))))))))))
  refine Jr fun hK27=>(JLm (I64 y22) O (JLh (BL (decide (y22 < 0))) (Hz O O O) O (JLm (BL (decide (y22 < 0))) O (JLo (I64 y22) [] O .scf G (fun hc=>G4 O O) O (JLo (.dptr [E4 s.Covers,I64 s.Light.Kilos,I64 s.Light.X,I64 s.Light.Y,I64 s.Light.Z,E7 s.Rows,E6 s.Frames,E8 s.Tanks,I64 s.G1.Tolerance,I64 s.G1.Trim,I64 s.G1.List_,I64 s.G1.Stability]) [] O .scf G (fun hc=>Ga J0 O O O) O (JLo (E4 s.Covers) [22] O .scf ⟨Ua,G⟩ (fun hc=>Gf J8 O O O) O (JLo (Eh s.Covers.length) [23] O .scf ⟨Ua,G⟩ (fun hc=>Qe (f:=G9.av) (xs:=s.Covers) He O O) O (JLo (BL (decide ((s.Covers.length:Int)≤y22))) [21,24] O .scf ⟨Ua,Ua,G⟩ (fun hc=>Zf O O O) O (JLh (BL ((decide (y22 < 0))||(decide ((s.Covers.length:Int)≤y22)))) (Y4 O O O O) O (JLm (BL ((decide (y22 < 0))||(decide ((s.Covers.length:Int)≤y22)))) O (JLo (Eh i22) [] O .scf G (fun hc=>G4 O O) O (JLo (BL (decide (0 < (i22:Int)))) [28] O .scf ⟨Ua,G⟩ (fun hc=>G30 O O O) O (JLo (BL (decide (0 < (i22:Int)))) [29] O .scf ⟨Ua,G⟩ (fun hc=>G4 O O) O ?_)))))))))))))
  refine JLo (I64 y22) [] O .optt G (fun hc=>G4 O O) O (JLo (E1 open_) [] O .optt G (fun hc=>G4 O O) O (JLo (Eh i22) [] O .optt G (fun hc=>G4 O O) O ?_))
  obtain⟨v28,hv28,h⟩:=Gc h
  refine JLo (I64 v28) [33] O .optt ⟨Ua,G⟩ (fun hc=>Gcc (Zo (Gu hc hv28)) O O O) O ?_
  obtain⟨y29,hy29,h⟩:=Gc h
  refine JLo (.dptr [I64 y29]) [32,34] O .optt ⟨Ua,Ua,G⟩ (fun hc=>(match Jx (Gu hc hy29) with | ⟨_,hm_,hy_⟩=>Gw (f:=I64) (xs:=open_) (y:=y29) O O O Gs hy_ hm_)) O (JLo (I64 y29) [35] O .optt ⟨Ua,G⟩ (fun hc=>Gf Gd O O O) O (JLo (BL (decide (y22≤y29))) [31,36] O .optt ⟨Ua,Ua,G⟩ (fun hc=>J12 O O O) O (G8 (u:=BL ((decide (0 < (i22:Int)))&&(decide (y22≤y29)))) [(30,BL (decide (0 < (i22:Int)))),(37,_)] O O O .scf ⟨.all id,.part,G⟩ (fun hc=>Hy O O O O) ?_)))
  refine JLh (BL (((decide (y22 < 0))||(decide ((s.Covers.length:Int)≤y22)))||((decide (0 < (i22:Int)))&&(decide (y22≤y29))))) (Y4 O O O O) O (G7 (hK27 (JCc O h (fun h hb=>?_) (fun h hb=>?_))))
  ·
   refine Jr fun hK30=>(JLm (BL false) O (G7 (hK30 (Gn (fin1 BL h)))))
  ·
   refine Gk (hK25 (G2 (JLh (I64 ((i22+1:Nat):Int)) (Hs (Hf hk22 hm12) O O O) O (JLm (I64 ((i22+1:Nat):Int)) O (G7 (e22 _ _ (i22+1) () (app1 hn22 h) (by omega) ⟨(.sm O O),G,rfl⟩))))))
 ·
  have h:=app1 hkx22 (Hv hi22 (Ha hb))
  refine Hn (hK2 (Jr fun hK31=>(JLh (.agg (H0.cs s)) (Gh Hc O O O) O (JLm (E3 boxes) O (JLm (E2 l) O ?_)))))
  obtain⟨r32,hr32,h⟩:=Gc h
  refine JLh (BL r32) (Gm O (Hee s boxes l r32 hr32) Jdd ⟨O,O,O,O,O,O,G⟩) O (JLm (BL r32) O (G7 (hK31 (Gn (fin1 BL h)))))

def Gaf (x:Stowed) (p1:Int):Option Bool:=
 some (decide (x.Box=p1))
theorem Ja9 (x:Stowed) (p1:Int) (r:Bool) (h:Gaf x p1=some r):Pure Ei 95 [.agg (Stowed.cs x),.dptr [I64 p1]] (·=BL r):=by
 unfold Gaf at h
 refine Gz [.tmp 3] Tryz.func95 O O (Jr fun hK1=>(JLh (.ptr 1115 0) (Je (cs:=[I64 x.Box,I64 x.Slot.G3,I64 x.Slot.Tier,U8 x.Slot.Half]) 1115 O O O O O) O (JLm (BL false) O (G7 (hK1 (Gx [(1,.dptr [I64 p1]),(2,Ec x)] [] 1115 rfl rfl rfl G rfl (by exact⟨.conv (.same rfl),.ptr,G⟩) (Jr fun hK2=>(JLh (Ec x) (Ga Jc O O O) O (JLh (I64 x.Box) (Gf Gd O O O) O (JLh (I64 p1) (Gf Gd O O O) O (JLh (BL (decide (x.Box=p1))) (Jw O O O) O (JLm (BL (decide (x.Box=p1))) O (G7 (hK2 (Gn (fin1 BL h))))))))))))))))

def Rn (s:List Stowed) (f:Stowed→Option Bool):Option Int:=
 each (fun y20 i20 (s20:Unit) nx20=>
  bnd (f y20) fun r26=>
  bif r26 then
  (some (i20:Int))
  else
  (nx20 ()))
 (fun(s20:Unit)=>
  some (-1)) s 0 ()
theorem G60 (s:List Stowed) (f:Stowed→Option Bool) (f_f:FuncId) (f_c:List AV) (f_B:H7 Ei f_f=true) (f_d:G06 (fun _=>false) f_c=true) (f_w:∀ a0 q,f a0=some q→Pure Ei f_f ([.agg (Stowed.cs a0)]++f_c) (·=BL q)) (r:Int) (h:Rn s f=some r):Pure Ei 94 [E2 s,.fn f_f f_c] (·=I64 r):=by
 unfold Rn at h
 refine Gz [.tmp 4] Tryz.func94 O O (Jr fun hK1=>(JLm (I64 0) O (G7 (hK1 (Js fun hK2=>Jr fun hK3=>(JLm (E2 s) O (JLl Gt O O O fun hm7=>(JLm (I64 0) O (G7 (hK3 (Gq ?_)))))))))))
 obtain⟨b20,kx20,hb20,hkx20,h⟩:=J3 h
 refine Hd (fun i20 (s20:Unit)=>each b20 kx20 (List.drop i20 s) i20 s20=some r) (fun i20 s20=>[(0,E2 s),(1,.fn f_f f_c),(7,Eh s.length),(8,Eh i20)]) (fun i20 s20=>[]) (fun i20=>s.length - i20) 0 () h ⟨⟨.same O,.same (R0 _ _ f_d),.same O,.same O,G⟩,G,O⟩ ?_
 clear h
 intro i20 s20 hi20 K20 e20
 refine Jr fun hK21=>(JLh (BL (decide ((i20:Int) < (s.length:Int)))) (Hz O O O) O (G7 (hK21 (Js fun hK22=>Gi O (fun hb=>?_) (fun hb=>?_)))))
 ·
  have hk20:=Jj hb
  obtain⟨y20,nx20,hy20,hn20,h⟩:=Hu hi20 hk20
  replace h:=Z9 hb20 h
  refine Gk (hK22 (Js fun hK23=>Gq (Jr fun hK24=>(JLm (Eh i20) O (JLm (Eh i20) O (G7 (hK24 (Jr fun hK25=>(JLm (.fn f_f f_c) O (JLm (E2 s) O (JLm (Eh i20) O (JLh (Ec y20) (Gw (f:=Stowed.av) (xs:=s) (y:=y20) O O O Gt hy20 O) O (JLh (.agg (Stowed.cs y20)) (Gh R6 O O O) O ?_)))))))))))))
  obtain⟨r26,hr26,h⟩:=Gc h
  refine JLh (BL r26) (Gb3 (args:=[.agg (Stowed.cs y20)]) (caps:=f_c) O O (f_w y20 _ hr26) f_B ⟨O,O,G⟩ f_d) O (G7 (hK25 (JCc O h (fun h hb=>?_) (fun h hb=>?_))))
  ·
   refine Jr fun hK27=>(JLm (Eh i20) O (JLm (Eh i20) O (G7 (hK27 (Gn (fin1 I64 h))))))
  ·
   refine Gk (hK23 (G2 (JLh (I64 ((i20+1:Nat):Int)) (Hs (Hf hk20 hm7) O O O) O (JLm (I64 ((i20+1:Nat):Int)) O (G7 (e20 _ _ (i20+1) () (app1 hn20 h) (by omega) ⟨⟨.same rfl,.same (R0 _ _ f_d),.same rfl,.same rfl,G⟩,G,rfl⟩))))))
 ·
  have h:=app1 hkx20 (Hv hi20 (Ha hb))
  refine Hn (hK2 (Jr fun hK28=>(JLm (I64 (-1)) O (G7 (hK28 (Gn (fin1 I64 h)))))))

def Rf (l:List Stowed) (id_:Int):Option Int:=
 bnd (Rn l (fun z0=>Gaf z0 id_)) fun r3=>
 some r3
theorem G3d (l:List Stowed) (id_:Int) (r:Int) (h:Rf l id_=some r):Pure Ei 41 [E2 l,I64 id_] (·=I64 r):=by
 unfold Rf at h
 refine Gz [.tmp 4] Tryz.func41 O O (Jr fun hK1=>(JLh (.ptr 1057 0) (Je (cs:=[I64 id_]) 1057 O O O O O) O (JLm (I64 0) O (G7 (hK1 (Gx [(0,E2 l),(3,.dptr [I64 id_])] [] 1057 rfl rfl rfl G rfl (by exact⟨.conv (.same rfl),.ptr,G⟩) (Jr fun hK2=>(JLm (E2 l) O (JLh (.fn 95 [.dptr [I64 id_]]) (G91 (cs:=[.dptr [I64 id_]]) O O) O ?_)))))))))
 obtain⟨r3,hr3,h⟩:=Gc h
 refine JLh (I64 r3) (Gm O (G60 l (fun z0=>Gaf z0 id_) 95 [.dptr [I64 id_]] R0e O (fun z0 q hq=>Ja9 z0 id_ q hq) r3 hr3) Jc4 ⟨O,O,O,O,G⟩) O (JLm (I64 r3) O (G7 (hK2 (Gn (fin1 I64 h)))))

def H04 (a:Slot) (b:Slot):Option Bool:=
 bnd (bif ((decide (a.G3=b.G3))&&(decide (b.Tier < a.Tier))) then G76 a.Half b.Half else some default) fun r3=>
 some (((decide (a.G3=b.G3))&&(decide (b.Tier < a.Tier)))&&r3)
theorem Q36 (a:Slot) (b:Slot) (r:Bool) (h:H04 a b=some r):Pure Ei 109 [.agg [I64 a.G3,I64 a.Tier,U8 a.Half],.agg [I64 b.G3,I64 b.Tier,U8 b.Half]] (·=BL r):=by
 unfold H04 at h
 refine Gz [.tmp 4] Tryz.func109 O O (Jr fun hK1=>(JLh (.ptr 1124 0) (Je (cs:=[I64 a.G3,I64 a.Tier,U8 a.Half]) 1124 O O O O O) O (JLh (.ptr 1125 0) (Je (cs:=[I64 b.G3,I64 b.Tier,U8 b.Half]) 1125 O O O O O) O (JLm (BL false) O (G7 (hK1 (Gx [(2,.dptr [I64 a.G3,I64 a.Tier,U8 a.Half]),(3,.ptr 1125 0)] [(1125,.box 37 [I64 b.G3,I64 b.Tier,U8 b.Half])] 1124 rfl rfl rfl ⟨⟨_,rfl,.boxEq rfl rfl⟩,G⟩ rfl (by exact⟨.ptr,.conv (.same rfl),G⟩) (Gx [(2,.dptr [I64 a.G3,I64 a.Tier,U8 a.Half]),(3,.dptr [I64 b.G3,I64 b.Tier,U8 b.Half])] [] 1125 rfl rfl rfl G rfl (by exact⟨.conv (.same rfl),.ptr,G⟩) ?_))))))))
 refine Jr fun hK2=>(JLh (.dptr [I64 a.G3,I64 a.Tier,U8 a.Half]) (Ga J2 O O O) O (JLh (I64 a.G3) (Gf Gd O O O) O (JLh (.dptr [I64 b.G3,I64 b.Tier,U8 b.Half]) (Ga J2 O O O) O (JLh (I64 b.G3) (Gf Gd O O O) O (JLh (BL (decide (a.G3=b.G3))) (Jw O O O) O (JLm (BL (decide (a.G3=b.G3))) O (JLo (.dptr [I64 a.Tier,U8 a.Half]) [] O .sct G (fun hc=>Ga Qi O O O) O (JLo (I64 a.Tier) [11] O .sct ⟨Ua,G⟩ (fun hc=>Gf Gd O O O) O (JLo (.dptr [I64 b.Tier,U8 b.Half]) [] O .sct G (fun hc=>Ga Qi O O O) O (JLo (I64 b.Tier) [13] O .sct ⟨Ua,G⟩ (fun hc=>Gf Gd O O O) O (JLo (BL (decide (b.Tier < a.Tier))) [12,14] O .sct ⟨Ua,Ua,G⟩ (fun hc=>G30 O O O) O (JLh (BL ((decide (a.G3=b.G3))&&(decide (b.Tier < a.Tier)))) (Hy O O O O) O (JLm (BL ((decide (a.G3=b.G3))&&(decide (b.Tier < a.Tier)))) O ?_)))))))))))))
 refine JLo (.dptr [U8 a.Half]) [] O .sct G (fun hc=>Ga Ju O O O) O (JLo (U8 a.Half) [18] O .sct ⟨Ua,G⟩ (fun hc=>Gf J9 O O O) O (JLo (.dptr [U8 b.Half]) [] O .sct G (fun hc=>Ga Ju O O O) O (JLo (U8 b.Half) [20] O .sct ⟨Ua,G⟩ (fun hc=>Gf J9 O O O) O ?_)))
 obtain⟨r3,hr3,h⟩:=Gc h
 refine JLo (BL r3) [19,21] O .sct ⟨Ua,Ua,G⟩ (fun hc=>Gm (args:=[U8 a.Half,U8 b.Half]) O (Hc3 a.Half b.Half r3 (Gu hc hr3)) J7d ⟨O,O,O,O,G⟩) O (JLh (BL (((decide (a.G3=b.G3))&&(decide (b.Tier < a.Tier)))&&r3)) (Hy O O O O) O (JLm (BL (((decide (a.G3=b.G3))&&(decide (b.Tier < a.Tier)))&&r3)) O (G7 (hK2 (Gn (fin1 BL h))))))

def G98 (l:List Stowed) (id_:Int):Option ((List Int)×Int):=
 bnd (Rf l id_) fun r3=>
 bif decide (r3 < 0) then
 (some ([],6))
 else
 (each (fun y30 i30 (s30:(List Int)) nx30=>
   jp (fun kj33=>
    Qq l r3 fun y36=>
    bnd (H04 y30.Slot y36.Slot) fun r38=>
    bif r38 then
    (need (decide ((s30.length+[y30.Box].length)*8≤140737488355328∧s30.length+[y30.Box].length≤maxLen)) <|
     kj33 (s30++[y30.Box]))
    else
    (kj33 s30)) fun(j33:(List Int))=>
   nx30 j33)
  (fun(s30:(List Int))=>
   some (s30,0)) l 0 [])
theorem Hef (l:List Stowed) (id_:Int) (r:(List Int)×Int) (h:G98 l id_=some r):Pure Ei 60 [E2 l,I64 id_] (·=.tup [E1 r.1,I64 r.2]):=by
 unfold G98 at h
 refine Gz [.tmp 4,.tmp 5] Tryz.func60 O O (Jr fun hK1=>(JLh (E1 ([]:List Int)) (Hb 1 O O) O (JLm (I64 0) O (G7 (hK1 (Jr fun hK2=>(JLm (E2 l) O (JLm (I64 id_) O ?_))))))))
 obtain⟨r3,hr3,h⟩:=Gc h
 refine JLh (I64 r3) (Gm O (G3d l id_ r3 hr3) G81 ⟨O,O,O,O,G⟩) O (JLm (I64 r3) O (G7 (hK2 (Js fun hK4=>Jr fun hK5=>(JLm (I64 r3) O (JLh (BL (decide (r3 < 0))) (Hz O O O) O (G7 (hK5 (JCc O h (fun h hb=>?_) (fun h hb=>?_))))))))))
 ·
  refine Jr fun hK6=>(JLh (E1 ([]:List Int)) (Hb 1 O O) O (JLm (I64 6) O (G7 (hK6 (Gn (⟨[E1 ([]:List Int),I64 6],[],G,O,⟨⟨_,O,.conv (.same O)⟩,⟨_,O,.conv (.same O)⟩,G⟩,O,congrArg (fun r:(List Int)×Int=>(.tup [E1 r.1,I64 r.2]:AV)) (Option.some.inj h)⟩))))))
 ·
  refine Gk (hK4 (Jr fun hK7=>(JLh (OW 1078 1 I64 ([]:List Int)) (G6e 1078 3 1 O O O) O (G7 (hK7 (Js fun hK8=>Jr fun hK9=>(JLm (E2 l) O (JLl Gt O O O fun hm16=>(JLm (I64 0) O (G7 (hK9 (Gq ?_))))))))))))
  obtain⟨b30,kx30,hb30,hkx30,h⟩:=J3 h
  refine Hd (fun i30 (s30:(List Int))=>each b30 kx30 (List.drop i30 l) i30 s30=some r) (fun i30 s30=>[(0,E2 l),(6,I64 r3),(7,OW 1078 1 I64 s30),(15,E2 l),(16,Eh l.length),(17,Eh i30)]) (fun i30 s30=>[(1078,.spare 3 1 s30.length s30.length)]) (fun i30=>l.length - i30) 0 [] h ⟨(.sm O O),⟨⟨_,rfl,.same⟩,G⟩,rfl⟩ ?_
  clear h
  intro i30 s30 hi30 K30 e30
  refine Jr fun hK31=>(JLh (BL (decide ((i30:Int) < (l.length:Int)))) (Hz O O O) O (G7 (hK31 (Js fun hK32=>Gi O (fun hb=>?_) (fun hb=>?_)))))
  ·
   have hk30:=Jj hb
   obtain⟨y30,nx30,hy30,hn30,h⟩:=Hu hi30 hk30
   replace h:=Z9 hb30 h
   refine Gk (hK32 ?_)
   obtain⟨kj33,hkj33,h⟩:=G84 h
   refine G57 (fun j33:(List Int)=>kj33 j33=some r) (fun j33=>[(0,E2 l),(6,I64 r3),(7,OW 1078 1 I64 j33),(15,E2 l),(16,Eh l.length),(17,Eh i30)]) (fun j33=>[(1078,.spare 3 1 j33.length j33.length)]) (fun Kj33 ej33=>?_) ?_
   ·
    refine Gq (Jr fun hK34=>(JLh (Ec y30) (Gw (f:=Stowed.av) (xs:=l) (y:=y30) O O O Gt hy30 O) O (JLh (.agg (Stowed.cs y30)) (Gh R6 O O O) O (JLh (.ptr 1079 0) (Qo 1079 4 G0f O O) O (Jo (u:=.junk) (Jh (u:=.agg (Stowed.cs y30)) (ds:=[I64 y30.Box,I64 y30.Slot.G3,I64 y30.Slot.Tier,U8 y30.Slot.Half]) G7f O O O O O O O O) (G7 (hK34 (Gx [(0,E2 l),(6,I64 r3),(7,OW 1078 1 I64 s30),(9,Ec y30),(15,E2 l),(16,Eh l.length),(17,Eh i30)] [(1078,.spare 3 1 s30.length s30.length)] 1079 rfl rfl rfl ⟨⟨_,rfl,.same⟩,G⟩ rfl (by repeat' (first | exact .ptr | constructor)) (Js fun hK35=>?_)))))))))
    refine G67 (l':=[(0,E2 l),(6,I64 r3),(7,OW 1078 1 I64 s30),(9,Ec y30),(15,E2 l),(16,Eh l.length),(17,Eh i30)]) (L':=[(1078,.spare 3 1 s30.length s30.length)]) ⟨(.sm O O),⟨⟨_,rfl,.same⟩,G⟩,rfl⟩ ?_
    obtain⟨m37,y36,hm37,hy36,h⟩:=R1 h
    obtain⟨r38,hr38,h⟩:=Gc h
    refine JC_d0 J6 (by kernel_rfl) (Dq (.dptr ((Stowed.cs y30).drop 1)) (Ga Ho O O O) O (Dq (.agg ((Stowed.cs y30).drop 1)) (Gh Q4 O O O) O (Dq (E2 l) (G4 O O) O (Dq (I64 r3) (G4 O O) O (Dq (Ec y36) (Gw (f:=Stowed.av) (xs:=l) (y:=y36) O O O Gt hy36 hm37) O (Dq (.dptr ((Stowed.cs y36).drop 1)) (Ga Ho O O O) O (Dq (.agg ((Stowed.cs y36).drop 1)) (Gh Q4 O O O) O (Dq (BL r38) (Gm (args:=[.agg ((Stowed.cs y30).drop 1),.agg ((Stowed.cs y36).drop 1)]) O (Q36 y30.Slot y36.Slot r38 hr38) Qba ⟨O,O,O,O,G⟩) O (Dnil (hK35 (JCc O h (fun h hb=>?_) (fun h hb=>?_))))))))))))
    ·
     refine G2 (JLm (OW 1078 1 I64 s30) O (JLh (Ec y30) (Ga Jc O O O) O (JLh (I64 y30.Box) (Gf Gd O O O) O (JLh (E1 [y30.Box]) (Hj (xs:=[I64 y30.Box]) O ⟨O,O,G⟩ Gs Rw O O O O) O ?_))))
     obtain⟨ha39,h⟩:=Hr h
     refine JLh (OW 1078 1 I64 (s30++[y30.Box])) (Qt (f:=I64) (xs:=s30) (ys:=[y30.Box]) O O O O Gs Zm ha39 (fun _=>O) (.inl O) O) O (JLm (OW 1078 1 I64 (s30++[y30.Box])) O (G7 (ej33 _ _ (s30++[y30.Box]) h ⟨(.sm O O),⟨⟨_,rfl,.same⟩,G⟩,rfl⟩)))
    ·
     refine Gk (ej33 _ _ s30 h ⟨(.sm O O),⟨⟨_,rfl,.same⟩,G⟩,rfl⟩)
   ·intro j33 h
    replace h:=app1 hkj33 h
    refine G2 (JLh (I64 ((i30+1:Nat):Int)) (Hs (Hf hk30 hm16) O O O) O (JLm (I64 ((i30+1:Nat):Int)) O (G7 (e30 _ _ (i30+1) j33 (app1 hn30 h) (by omega) ⟨(.sm O O),⟨⟨_,rfl,.same⟩,G⟩,rfl⟩))))
  ·
   have h:=app1 hkx30 (Hv hi30 (Ha hb))
   refine Hn (hK8 (Jr fun hK40=>(JLm (OW 1078 1 I64 s30) O (JLm (OW 1078 1 I64 s30) O (JLm (I64 0) O (G7 (hK40 (Gn (⟨[E1 s30,I64 0],[],G,O,⟨⟨_,O,.conv (.list O)⟩,⟨_,O,.conv (.same O)⟩,G⟩,O,congrArg (fun r:(List Int)×Int=>(.tup [E1 r.1,I64 r.2]:AV)) (Option.some.inj h)⟩)))))))))

def G6c (r_:Int) (p1:G3):Option Bool:=
 some (decide (r_=p1.Row))
theorem J58 (r_:Int) (p1:G3) (r:Bool) (h:G6c r_ p1=some r):Pure Ei 159 [I64 r_,Ed p1] (·=BL r):=by
 unfold G6c at h
 refine Gz [.tmp 3] Tryz.func159 O O (Jr fun hK1=>(JLm (BL false) O (G7 (hK1 (Jr fun hK2=>(JLm (I64 r_) O (JLh (.dptr ((G3.cs p1).drop 1)) (Ga G18 O O O) O (JLh (I64 p1.Row) (Gf Gd O O O) O (JLh (BL (decide (r_=p1.Row))) (Jw O O O) O (JLm (BL (decide (r_=p1.Row))) O (G7 (hK2 (Gn (fin1 BL h))))))))))))))

def G56 (l:List Int) (wanted:Int→Option Bool):Option (List Int):=
 each (fun y21 i21 (s21:(List Int)) nx21=>
  jp (fun kj24=>
   bnd (wanted y21) fun r27=>
   bif r27 then
   (need (decide ((s21.length+[(i21:Int)].length)*8≤140737488355328∧s21.length+[(i21:Int)].length≤maxLen)) <|
    kj24 (s21++[(i21:Int)]))
   else
   (kj24 s21)) fun(j24:(List Int))=>
  nx21 j24)
 (fun(s21:(List Int))=>
  some s21) l 0 []
theorem J05 (l:List Int) (wanted:Int→Option Bool) (wanted_f:FuncId) (wanted_c:List AV) (wanted_B:H7 Ei wanted_f=true) (wanted_d:G06 (fun _=>false) wanted_c=true) (wanted_w:∀ a0 q,wanted a0=some q→Pure Ei wanted_f ([I64 a0]++wanted_c) (·=BL q)) (r:(List Int)) (h:G56 l wanted=some r):Pure Ei 158 [E1 l,.fn wanted_f wanted_c] (·=E1 r):=by
 unfold G56 at h
 refine Gz [.tmp 4] Tryz.func158 O O (Jr fun hK1=>(JLh (E1 ([]:List Int)) (Hb 1 O O) O (G7 (hK1 (Jr fun hK2=>(JLh (OW 1158 1 I64 ([]:List Int)) (G6e 1158 3 1 O O O) O (G7 (hK2 (Js fun hK3=>Jr fun hK4=>(JLm (E1 l) O (JLl Gs O O O fun hm9=>(JLm (I64 0) O (G7 (hK4 (Gq ?_)))))))))))))))
 obtain⟨b21,kx21,hb21,hkx21,h⟩:=J3 h
 refine Hd (fun i21 (s21:(List Int))=>each b21 kx21 (List.drop i21 l) i21 s21=some r) (fun i21 s21=>[(1,.fn wanted_f wanted_c),(5,OW 1158 1 I64 s21),(8,E1 l),(9,Eh l.length),(10,Eh i21)]) (fun i21 s21=>[(1158,.spare 3 1 s21.length s21.length)]) (fun i21=>l.length - i21) 0 [] h ⟨⟨.same (R0 _ _ wanted_d),.same O,.same O,.same O,.same O,G⟩,⟨⟨_,O,.same⟩,G⟩,O⟩ ?_
 clear h
 intro i21 s21 hi21 K21 e21
 refine Jr fun hK22=>(JLh (BL (decide ((i21:Int) < (l.length:Int)))) (Hz O O O) O (G7 (hK22 (Js fun hK23=>Gi O (fun hb=>?_) (fun hb=>?_)))))
 ·
  have hk21:=Jj hb
  obtain⟨y21,nx21,hy21,hn21,h⟩:=Hu hi21 hk21
  replace h:=Z9 hb21 h
  refine Gk (hK23 ?_)
  obtain⟨kj24,hkj24,h⟩:=G84 h
  refine G57 (fun j24:(List Int)=>kj24 j24=some r) (fun j24=>[(1,.fn wanted_f wanted_c),(5,OW 1158 1 I64 j24),(8,E1 l),(9,Eh l.length),(10,Eh i21)]) (fun j24=>[(1158,.spare 3 1 j24.length j24.length)]) (fun Kj24 ej24=>?_) ?_
  ·
   refine Gq (Jr fun hK25=>(JLm (Eh i21) O (JLh (.dptr [I64 y21]) (Gw (f:=I64) (xs:=l) (y:=y21) O O O Gs hy21 O) O (JLh (I64 y21) (Gf Gd O O O) O (JLm (Eh i21) O (JLm (I64 y21) O (G7 (hK25 (Jr fun hK26=>(JLm (.fn wanted_f wanted_c) O (JLm (I64 y21) O ?_)))))))))))
   obtain⟨r27,hr27,h⟩:=Gc h
   refine JLh (BL r27) (Gb3 (args:=[I64 y21]) (caps:=wanted_c) O O (wanted_w y21 _ hr27) wanted_B ⟨O,O,G⟩ wanted_d) O (G7 (hK26 (JCc O h (fun h hb=>?_) (fun h hb=>?_))))
   ·
    refine G2 (JLm (OW 1158 1 I64 s21) O (JLm (Eh i21) O (JLh (E1 [(i21:Int)]) (Hj (xs:=[Eh i21]) O ⟨O,O,G⟩ Gs Rw O O O O) O ?_)))
    obtain⟨ha28,h⟩:=Hr h
    refine JLh (OW 1158 1 I64 (s21++[(i21:Int)])) (Qt (f:=I64) (xs:=s21) (ys:=[(i21:Int)]) O O O O Gs Zm ha28 (fun _=>O) (.inl O) O) O (JLm (OW 1158 1 I64 (s21++[(i21:Int)])) O (G7 (ej24 _ _ (s21++[(i21:Int)]) h ⟨⟨.same (R0 _ _ wanted_d),.same O,.same O,.same O,.same O,G⟩,⟨⟨_,O,.same⟩,G⟩,O⟩)))
   ·
    refine Gk (ej24 _ _ s21 h ⟨⟨.same (R0 _ _ wanted_d),.same O,.same O,.same O,.same O,G⟩,⟨⟨_,O,.same⟩,G⟩,O⟩)
  ·intro j24 h
   replace h:=app1 hkj24 h
   refine G2 (JLh (I64 ((i21+1:Nat):Int)) (Hs (Hf hk21 hm9) O O O) O (JLm (I64 ((i21+1:Nat):Int)) O (G7 (e21 _ _ (i21+1) j24 (app1 hn21 h) (by omega) ⟨⟨.same (R0 _ _ wanted_d),.same rfl,.same rfl,.same rfl,.same rfl,G⟩,⟨⟨_,rfl,.same⟩,G⟩,rfl⟩))))
 ·
  have h:=app1 hkx21 (Hv hi21 (Ha hb))
  refine Hn (hK3 (Jr fun hK29=>(JLm (OW 1158 1 I64 s21) O (JLm (OW 1158 1 I64 s21) O (G7 (hK29 (Gn (fin1l (fun r:(List Int)=>(E1 r:AV)) h))))))))

def G77 (x:G9) (c:G3):Option Bool:=
 bnd (bif decide (x.Bay=c.Bay) then G56 x.Rows (fun z0=>G6c z0 c) else some default) fun r3=>
 some ((decide (x.Bay=c.Bay))&&(decide (0 < (r3.length:Int))))
theorem Hc4 (x:G9) (c:G3) (r:Bool) (h:G77 x c=some r):Pure Ei 138 [.agg [I64 x.Bay,E1 x.Rows],.agg (G3.cs c)] (·=BL r):=by
 unfold G77 at h
 refine Gz [.tmp 4] Tryz.func138 O O (Jr fun hK1=>(JLh (.ptr 1148 0) (Je (cs:=[I64 x.Bay,E1 x.Rows]) 1148 O O O O O) O (JLh (.ptr 1149 0) (Je (cs:=(G3.cs c)) 1149 O O O O O) O (JLm (BL false) O (G7 (hK1 (Gx [(2,.dptr [I64 x.Bay,E1 x.Rows]),(3,.ptr 1149 0)] [(1149,.box 67 (G3.cs c))] 1148 rfl rfl rfl ⟨⟨_,rfl,.boxEq rfl rfl⟩,G⟩ rfl (by exact⟨.ptr,.conv (.same rfl),G⟩) ?_)))))))
 refine Gx [(2,.dptr [I64 x.Bay,E1 x.Rows]),(3,Ed c)] [] 1149 rfl rfl rfl G rfl (by exact⟨.conv (.same rfl),.ptr,G⟩) ?_
 refine Jr fun hK2=>(JLh (.dptr [I64 x.Bay,E1 x.Rows]) (Ga G04 O O O) O (JLh (I64 x.Bay) (Gf Gd O O O) O (JLh (Ed c) (Ga G19 O O O) O (JLh (I64 c.Bay) (Gf Gd O O O) O (JLh (BL (decide (x.Bay=c.Bay))) (Jw O O O) O (JLm (BL (decide (x.Bay=c.Bay))) O (JLo (.dptr [E1 x.Rows]) [] O .sct G (fun hc=>Ga Q5 O O O) O (JLo (E1 x.Rows) [11] O .sct ⟨Ua,G⟩ (fun hc=>Gf Hw O O O) O (JLo (.fn 159 [.dptr (G3.cs c)]) [] O .sct G (fun hc=>G91 (cs:=[.dptr (G3.cs c)]) O O) O ?_)))))))))
 obtain⟨r3,hr3,h⟩:=Gc h
 refine JLo (E1 r3) [12,13] O .sct ⟨Ua,Ua,G⟩ (fun hc=>Gm (args:=[E1 x.Rows,.fn 159 [.dptr (G3.cs c)]]) O (J05 x.Rows (fun z0=>G6c z0 c) 159 [.dptr (G3.cs c)] Qa3 O (fun z0 q hq=>J58 z0 c q hq) r3 (Gu hc hr3)) Qa4 ⟨O,O,O,O,G⟩) O (JLo (Eh r3.length) [14] O .sct ⟨Ua,G⟩ (fun hc=>Qe (f:=I64) (xs:=r3) Gs O O) O (JLo (BL (decide (0 < (r3.length:Int)))) [15] O .sct ⟨Ua,G⟩ (fun hc=>G30 O O O) O (JLh (BL ((decide (x.Bay=c.Bay))&&(decide (0 < (r3.length:Int))))) (Hy O O O O) O (JLm (BL ((decide (x.Bay=c.Bay))&&(decide (0 < (r3.length:Int))))) O (G7 (hK2 ?_))))))
 refine Gn (fin1 BL h)

def G3e (x:G9) (p1:H0) (p2:Int):Option Bool:=
 Qq p1.Columns p2 fun y3=>
 bnd (G77 x y3) fun r5=>
 some r5
theorem J31 (x:G9) (p1:H0) (p2:Int) (r:Bool) (h:G3e x p1 p2=some r):Pure Ei 137 [.agg [I64 x.Bay,E1 x.Rows],Eb p1,.dptr [I64 p2]] (·=BL r):=by
 unfold G3e at h
 refine Gz [.tmp 4] Tryz.func137 O O (Jr fun hK1=>(JLh (.ptr 1147 0) (Je (cs:=[I64 x.Bay,E1 x.Rows]) 1147 O O O O O) O (JLm (BL false) O (G7 (hK1 (Gx [(1,Eb p1),(2,.dptr [I64 p2]),(3,.dptr [I64 x.Bay,E1 x.Rows])] [] 1147 rfl rfl rfl G rfl (by exact⟨.conv (.same rfl),.conv (.same rfl),.ptr,G⟩) (Js fun hK2=>?_)))))))
 obtain⟨m4,y3,hm4,hy3,h⟩:=R1 h
 obtain⟨r5,hr5,h⟩:=Gc h
 refine JC_d0 J6 (by kernel_rfl) (Dq (.agg [I64 x.Bay,E1 x.Rows]) (Gh Yk O O O) O (Dq (Eb p1) (Ga Hi O O O) O (Dq (E5 p1.Columns) (Gf Ht O O O) O (Dq (I64 p2) (Gf Gd O O O) O (Dq (Ed y3) (Gw (f:=G3.av) (xs:=p1.Columns) (y:=y3) O O O H4 hy3 hm4) O (Dq (.agg (G3.cs y3)) (Gh Y5 O O O) O (Dq (BL r5) (Gm (args:=[.agg [I64 x.Bay,E1 x.Rows],.agg (G3.cs y3)]) O (Hc4 x y3 r5 hr5) J7b ⟨O,O,O,O,G⟩) O (Dq (BL r5) (G6 O O) O (Dnil (hK2 (Gn (fin1 BL h))))))))))))

def G0d (l:List G9) (wanted:G9→Option Bool):Option (List Int):=
 each (fun y21 i21 (s21:(List Int)) nx21=>
  jp (fun kj24=>
   bnd (wanted y21) fun r27=>
   bif r27 then
   (need (decide ((s21.length+[(i21:Int)].length)*8≤140737488355328∧s21.length+[(i21:Int)].length≤maxLen)) <|
    kj24 (s21++[(i21:Int)]))
   else
   (kj24 s21)) fun(j24:(List Int))=>
  nx21 j24)
 (fun(s21:(List Int))=>
  some s21) l 0 []
theorem H80 (l:List G9) (wanted:G9→Option Bool) (wanted_f:FuncId) (wanted_c:List AV) (wanted_B:H7 Ei wanted_f=true) (wanted_d:G06 (fun _=>false) wanted_c=true) (wanted_w:∀ a0 q,wanted a0=some q→Pure Ei wanted_f ([.agg [I64 a0.Bay,E1 a0.Rows]]++wanted_c) (·=BL q)) (r:(List Int)) (h:G0d l wanted=some r):Pure Ei 136 [E4 l,.fn wanted_f wanted_c] (·=E1 r):=by
 unfold G0d at h
 refine Gz [.tmp 4] Tryz.func136 O O (Jr fun hK1=>(JLh (E1 ([]:List Int)) (Hb 1 O O) O (G7 (hK1 (Jr fun hK2=>(JLh (OW 1145 1 I64 ([]:List Int)) (G6e 1145 3 1 O O O) O (G7 (hK2 (Js fun hK3=>Jr fun hK4=>(JLm (E4 l) O (JLl He O O O fun hm9=>(JLm (I64 0) O (G7 (hK4 (Gq ?_)))))))))))))))
 obtain⟨b21,kx21,hb21,hkx21,h⟩:=J3 h
 refine Hd (fun i21 (s21:(List Int))=>each b21 kx21 (List.drop i21 l) i21 s21=some r) (fun i21 s21=>[(1,.fn wanted_f wanted_c),(5,OW 1145 1 I64 s21),(8,E4 l),(9,Eh l.length),(10,Eh i21)]) (fun i21 s21=>[(1145,.spare 3 1 s21.length s21.length)]) (fun i21=>l.length - i21) 0 [] h ⟨⟨.same (R0 _ _ wanted_d),.same O,.same O,.same O,.same O,G⟩,⟨⟨_,O,.same⟩,G⟩,O⟩ ?_
 clear h
 intro i21 s21 hi21 K21 e21
 refine Jr fun hK22=>(JLh (BL (decide ((i21:Int) < (l.length:Int)))) (Hz O O O) O (G7 (hK22 (Js fun hK23=>Gi O (fun hb=>?_) (fun hb=>?_)))))
 ·
  have hk21:=Jj hb
  obtain⟨y21,nx21,hy21,hn21,h⟩:=Hu hi21 hk21
  replace h:=Z9 hb21 h
  refine Gk (hK23 ?_)
  obtain⟨kj24,hkj24,h⟩:=G84 h
  refine G57 (fun j24:(List Int)=>kj24 j24=some r) (fun j24=>[(1,.fn wanted_f wanted_c),(5,OW 1145 1 I64 j24),(8,E4 l),(9,Eh l.length),(10,Eh i21)]) (fun j24=>[(1145,.spare 3 1 j24.length j24.length)]) (fun Kj24 ej24=>?_) ?_
  ·
   refine Gq (Jr fun hK25=>(JLm (Eh i21) O (JLh (.dptr [I64 y21.Bay,E1 y21.Rows]) (Gw (f:=G9.av) (xs:=l) (y:=y21) O O O He hy21 O) O (JLh (.agg [I64 y21.Bay,E1 y21.Rows]) (Gh Yk O O O) O (JLh (.ptr 1146 0) (Qo 1146 2 G63 O O) O (JLm (Eh i21) O (Jo (u:=.junk) (Jh (u:=.agg [I64 y21.Bay,E1 y21.Rows]) (ds:=[I64 y21.Bay,E1 y21.Rows]) Gb9 O O O O O O O O) (G7 (hK25 ?_)))))))))
   refine Gx [(1,.fn wanted_f wanted_c),(5,OW 1145 1 I64 s21),(6,Eh i21),(7,.dptr [I64 y21.Bay,E1 y21.Rows]),(8,E4 l),(9,Eh l.length),(10,Eh i21)] [(1145,.spare 3 1 s21.length s21.length)] 1146 rfl rfl rfl ⟨⟨_,rfl,.same⟩,G⟩ rfl (by exact⟨.conv (.same (R0 _ _ wanted_d)),.conv (.same rfl),.conv (.same rfl),.ptr,.conv (.same rfl),.conv (.same rfl),.conv (.same rfl),G⟩) (Jr fun hK26=>(JLm (.fn wanted_f wanted_c) O (JLh (.agg [I64 y21.Bay,E1 y21.Rows]) (Gh Yk O O O) O ?_)))
   obtain⟨r27,hr27,h⟩:=Gc h
   refine JLh (BL r27) (Gb3 (args:=[.agg [I64 y21.Bay,E1 y21.Rows]]) (caps:=wanted_c) O O (wanted_w y21 _ hr27) wanted_B ⟨O,O,G⟩ wanted_d) O (G7 (hK26 (JCc O h (fun h hb=>?_) (fun h hb=>?_))))
   ·
    refine G2 (JLm (OW 1145 1 I64 s21) O (JLm (Eh i21) O (JLh (E1 [(i21:Int)]) (Hj (xs:=[Eh i21]) O ⟨O,O,G⟩ Gs Rw O O O O) O ?_)))
    obtain⟨ha28,h⟩:=Hr h
    refine JLh (OW 1145 1 I64 (s21++[(i21:Int)])) (Qt (f:=I64) (xs:=s21) (ys:=[(i21:Int)]) O O O O Gs Zm ha28 (fun _=>O) (.inl O) O) O (JLm (OW 1145 1 I64 (s21++[(i21:Int)])) O (G7 (ej24 _ _ (s21++[(i21:Int)]) h ⟨⟨.same (R0 _ _ wanted_d),.same O,.same O,.same O,.same O,G⟩,⟨⟨_,O,.same⟩,G⟩,O⟩)))
   ·
    refine Gk (ej24 _ _ s21 h ⟨⟨.same (R0 _ _ wanted_d),.same O,.same O,.same O,.same O,G⟩,⟨⟨_,O,.same⟩,G⟩,O⟩)
  ·intro j24 h
   replace h:=app1 hkj24 h
   refine G2 (JLh (I64 ((i21+1:Nat):Int)) (Hs (Hf hk21 hm9) O O O) O (JLm (I64 ((i21+1:Nat):Int)) O (G7 (e21 _ _ (i21+1) j24 (app1 hn21 h) (by omega) ⟨⟨.same (R0 _ _ wanted_d),.same rfl,.same rfl,.same rfl,.same rfl,G⟩,⟨⟨_,rfl,.same⟩,G⟩,rfl⟩))))
 ·
  have h:=app1 hkx21 (Hv hi21 (Ha hb))
  refine Hn (hK3 (Jr fun hK29=>(JLm (OW 1145 1 I64 s21) O (JLm (OW 1145 1 I64 s21) O (G7 (hK29 (Gn (fin1l (fun r:(List Int)=>(E1 r:AV)) h))))))))

def G46 (s:H0) (column:Int):Option Int:=
 bif ((decide (column < 0))||(decide ((s.Columns.length:Int)≤column))) then
 (some (-1))
 else
 (bnd (G0d s.Covers (fun z0=>G3e z0 s column)) fun r6=>
  bif decide ((r6.length:Int)=0) then
  (some (-1))
  else
  (Qq r6 0 fun y11=>
   some y11))
theorem H97 (s:H0) (column:Int) (r:Int) (h:G46 s column=some r):Pure Ei 100 [.agg (H0.cs s),I64 column] (·=I64 r):=by
 unfold G46 at h
 refine Gz [.tmp 4] Tryz.func100 O O (Jr fun hK1=>(JLh (.ptr 1117 0) (Je (cs:=(H0.cs s)) 1117 O O O O O) O (JLh (.ptr 1118 0) (Je (cs:=[I64 column]) 1118 O O O O O) O (JLm (I64 0) O (G7 (hK1 ?_))))))
 refine Gx [(2,Eb s),(3,.ptr 1118 0)] [(1118,.box 3 [I64 column])] 1117 rfl rfl rfl ⟨⟨_,rfl,.boxEq rfl rfl⟩,G⟩ rfl (by exact⟨.ptr,.conv (.same rfl),G⟩) (Gx [(2,Eb s),(3,.dptr [I64 column])] [] 1118 rfl rfl rfl G rfl (by exact⟨.conv (.same rfl),.ptr,G⟩) (Js fun hK2=>?_))
 refine Jr fun hK3=>(JLh (I64 column) (Gf Gd O O O) O (JLh (BL (decide (column < 0))) (Hz O O O) O (JLm (BL (decide (column < 0))) O (JLo (I64 column) [] O .scf G (fun hc=>Gf Gd O O O) O (JLo (Eb s) [] O .scf G (fun hc=>Ga Hi O O O) O (JLo (E5 s.Columns) [10] O .scf ⟨Ua,G⟩ (fun hc=>Gf Ht O O O) O (JLo (Eh s.Columns.length) [11] O .scf ⟨Ua,G⟩ (fun hc=>Qe (f:=G3.av) (xs:=s.Columns) H4 O O) O (JLo (BL (decide ((s.Columns.length:Int)≤column))) [9,12] O .scf ⟨Ua,Ua,G⟩ (fun hc=>Zf O O O) O (JLh (BL ((decide (column < 0))||(decide ((s.Columns.length:Int)≤column)))) (Y4 O O O O) O (G7 (hK3 ?_)))))))))))
 refine JCc O h ?_ ?_<;>intro h hb
 ·
  refine Jr fun hK4=>(JLm (I64 (-1)) O (G7 (hK4 (Gn (fin1 I64 h)))))
 ·
  refine Gk (hK2 ?_)
  refine Jr fun hK5=>(JLh (.dptr [E4 s.Covers,I64 s.Light.Kilos,I64 s.Light.X,I64 s.Light.Y,I64 s.Light.Z,E7 s.Rows,E6 s.Frames,E8 s.Tanks,I64 s.G1.Tolerance,I64 s.G1.Trim,I64 s.G1.List_,I64 s.G1.Stability]) (Ga J0 O O O) O (JLh (E4 s.Covers) (Gf J8 O O O) O (JLh (.fn 137 [.dptr (H0.cs s),.dptr [I64 column]]) (G91 (cs:=[.dptr (H0.cs s),.dptr [I64 column]]) O O) O ?_)))
  obtain⟨r6,hr6,h⟩:=Gc h
  refine JLh (E1 r6) (Gm O (H80 s.Covers (fun z0=>G3e z0 s column) 137 [.dptr (H0.cs s),.dptr [I64 column]] Qa9 O (fun z0 q hq=>J31 z0 s column q hq) r6 hr6) Qaa ⟨O,O,O,O,G⟩) O (JLm (E1 r6) O (G7 (hK5 (Js fun hK7=>Jr fun hK8=>(JLm (E1 r6) O (JLl Gs O O O fun hm20=>(JLh (BL (decide ((r6.length:Int)=0))) (Jw O O O) O (G7 (hK8 (JCc O h (fun h hb=>?_) (fun h hb=>?_)))))))))))
  ·
   refine Jr fun hK9=>(JLm (I64 (-1)) O (G7 (hK9 (Gn (fin1 I64 h)))))
  ·
   refine Gk (hK7 (Jr fun hK10=>(JLm (E1 r6) O ?_)))
   obtain⟨m12,y11,hm12,hy11,h⟩:=R1 h
   refine JLh (.dptr [I64 y11]) (Gw (f:=I64) (xs:=r6) (y:=y11) O O O Gs hy11 hm12) O (JLh (I64 y11) (Gf Gd O O O) O (JLm (I64 y11) O (G7 (hK10 (Gn (fin1 I64 h))))))

def G66 (s:H0) (column:Int):Option Int:=
 Qq s.Columns column fun y4=>
 bif y4.Deck then
 (some (-1))
 else
 (bnd (G46 s column) fun r8=>
  some r8)
theorem Hed (s:H0) (column:Int) (r:Int) (h:G66 s column=some r):Pure Ei 61 [.agg (H0.cs s),I64 column] (·=I64 r):=by
 unfold G66 at h
 refine Gz [.tmp 4] Tryz.func61 O O (Jr fun hK1=>(JLh (.ptr 1080 0) (Je (cs:=(H0.cs s)) 1080 O O O O O) O (JLm (I64 0) O (G7 (hK1 (Gx [(1,I64 column),(2,Eb s)] [] 1080 rfl rfl rfl G rfl (by exact⟨.conv (.same rfl),.ptr,G⟩) (Js fun hK2=>?_)))))))
 refine Jr fun hK3=>(JLh (Eb s) (Ga Hi O O O) O (JLh (E5 s.Columns) (Gf Ht O O O) O (JLm (I64 column) O ?_)))
 obtain⟨m5,y4,hm5,hy4,h⟩:=R1 h
 refine JLh (Ed y4) (Gw (f:=G3.av) (xs:=s.Columns) (y:=y4) O O O H4 hy4 hm5) O (JLh (.dptr ((G3.cs y4).drop 2)) (Ga Yj O O O) O (JLh (BL y4.Deck) (Gf Yc O O O) O (G7 (hK3 (JCc O h (fun h hb=>?_) (fun h hb=>?_))))))
 ·
  refine Jr fun hK6=>(JLm (I64 (-1)) O (G7 (hK6 (Gn (fin1 I64 h)))))
 ·
  refine Gk (hK2 (Jr fun hK7=>(JLh (.agg (H0.cs s)) (Gh Hc O O O) O (JLm (I64 column) O ?_))))
  obtain⟨r8,hr8,h⟩:=Gc h
  refine JLh (I64 r8) (Gm O (H97 s column r8 hr8) J83 ⟨O,O,O,O,G⟩) O (JLm (I64 r8) O (G7 (hK7 (Gn (fin1 I64 h)))))

def G8b (c:G3) (p1:Bool) (p2:H0) (p3:Int):Option Bool:=
 bnd (bif (c.Deck==p1) then Qq p2.Covers p3 some else some default) fun y3=>
 bnd (bif (c.Deck==p1) then G77 y3 c else some default) fun r4=>
 some ((c.Deck==p1)&&r4)
theorem J6f (c:G3) (p1:Bool) (p2:H0) (p3:Int) (r:Bool) (h:G8b c p1 p2 p3=some r):Pure Ei 165 [.agg (G3.cs c),.dptr [BL p1],Eb p2,.dptr [I64 p3]] (·=BL r):=by
 unfold G8b at h
 refine Gz [.tmp 5] Tryz.func165 O O (Jr fun hK1=>(JLh (.ptr 1162 0) (Je (cs:=(G3.cs c)) 1162 O O O O O) O (JLm (BL false) O (G7 (hK1 (Gx [(1,.dptr [BL p1]),(2,Eb p2),(3,.dptr [I64 p3]),(4,Ed c)] [] 1162 rfl rfl rfl G rfl (by repeat' (first | exact .ptr | constructor)) (Js fun hK2=>?_)))))))
 obtain⟨y3,hy3,h⟩:=Gc h
 obtain⟨r4,hr4,h⟩:=Gc h
 refine JC_d0 J6 (by kernel_rfl) (Dq (.dptr [BL c.Deck,I64 c.Tiers,I64 c.Height,I64 c.Kilos20,I64 c.Kilos40,I64 c.Lash,E1 c.Plugs,I64 c.X,I64 c.Y,I64 c.Z]) (Ga Yj O O O) O (Dq (BL c.Deck) (Gf Yc O O O) O (Dq (BL p1) (Gf Yc O O O) O (Dq (BL (c.Deck==p1)) (J5b Hf6 O O O) O (Dq (BL (c.Deck==p1)) (G4 O O) O (Do (.dptr ((H0.cs p2).drop 1)) [] O .sct G (fun hc=>Ga J0 O O O) O (Do (E4 p2.Covers) [11] O .sct ⟨Ua,G⟩ (fun hc=>Gf J8 O O O) O (Do (I64 p3) [] O .sct G (fun hc=>Gf Gd O O O) O (Do (.dptr [I64 y3.Bay,E1 y3.Rows]) [12,13] O .sct ⟨Ua,Ua,G⟩ (fun hc=>(match Jx (Gu hc hy3) with | ⟨_,hm_,hy_⟩=>Gw (f:=G9.av) (xs:=p2.Covers) (y:=y3) O O O He hy_ hm_)) O (Do (.agg [I64 y3.Bay,E1 y3.Rows]) [14] O .sct ⟨Ua,G⟩ (fun hc=>Gh Yk O O O) O (Do (.agg (G3.cs c)) [] O .sct G (fun hc=>Gh Y5 O O O) O (Do (BL r4) [15,16] O .sct ⟨Ua,Ua,G⟩ (fun hc=>Gm (args:=[.agg [I64 y3.Bay,E1 y3.Rows],.agg (G3.cs c)]) O (Hc4 y3 c r4 (Gu hc hr4)) J7b ⟨O,O,O,O,G⟩) O (Dq (BL ((c.Deck==p1)&&r4)) (Hy O O O O) O ?_)))))))))))))
 refine Dq (BL ((c.Deck==p1)&&r4)) (G6 O O) O (Dnil (hK2 (Gn (fin1 BL h))))

def G28 (l:List G3) (wanted:G3→Option Bool):Option (List Int):=
 each (fun y21 i21 (s21:(List Int)) nx21=>
  jp (fun kj24=>
   bnd (wanted y21) fun r27=>
   bif r27 then
   (need (decide ((s21.length+[(i21:Int)].length)*8≤140737488355328∧s21.length+[(i21:Int)].length≤maxLen)) <|
    kj24 (s21++[(i21:Int)]))
   else
   (kj24 s21)) fun(j24:(List Int))=>
  nx21 j24)
 (fun(s21:(List Int))=>
  some s21) l 0 []
theorem H59 (l:List G3) (wanted:G3→Option Bool) (wanted_f:FuncId) (wanted_c:List AV) (wanted_B:H7 Ei wanted_f=true) (wanted_d:G06 (fun _=>false) wanted_c=true) (wanted_w:∀ a0 q,wanted a0=some q→Pure Ei wanted_f ([.agg (G3.cs a0)]++wanted_c) (·=BL q)) (r:(List Int)) (h:G28 l wanted=some r):Pure Ei 164 [E5 l,.fn wanted_f wanted_c] (·=E1 r):=by
 unfold G28 at h
 refine Gz [.tmp 4] Tryz.func164 O O (Jr fun hK1=>(JLh (E1 ([]:List Int)) (Hb 1 O O) O (G7 (hK1 (Jr fun hK2=>(JLh (OW 1160 1 I64 ([]:List Int)) (G6e 1160 3 1 O O O) O (G7 (hK2 (Js fun hK3=>Jr fun hK4=>(JLm (E5 l) O (JLl H4 O O O fun hm9=>(JLm (I64 0) O (G7 (hK4 (Gq ?_)))))))))))))))
 obtain⟨b21,kx21,hb21,hkx21,h⟩:=J3 h
 refine Hd (fun i21 (s21:(List Int))=>each b21 kx21 (List.drop i21 l) i21 s21=some r) (fun i21 s21=>[(1,.fn wanted_f wanted_c),(5,OW 1160 1 I64 s21),(8,E5 l),(9,Eh l.length),(10,Eh i21)]) (fun i21 s21=>[(1160,.spare 3 1 s21.length s21.length)]) (fun i21=>l.length - i21) 0 [] h ⟨⟨.same (R0 _ _ wanted_d),.same O,.same O,.same O,.same O,G⟩,⟨⟨_,O,.same⟩,G⟩,O⟩ ?_
 clear h
 intro i21 s21 hi21 K21 e21
 refine Jr fun hK22=>(JLh (BL (decide ((i21:Int) < (l.length:Int)))) (Hz O O O) O (G7 (hK22 (Js fun hK23=>Gi O (fun hb=>?_) (fun hb=>?_)))))
 ·
  have hk21:=Jj hb
  obtain⟨y21,nx21,hy21,hn21,h⟩:=Hu hi21 hk21
  replace h:=Z9 hb21 h
  refine Gk (hK23 ?_)
  obtain⟨kj24,hkj24,h⟩:=G84 h
  refine G57 (fun j24:(List Int)=>kj24 j24=some r) (fun j24=>[(1,.fn wanted_f wanted_c),(5,OW 1160 1 I64 j24),(8,E5 l),(9,Eh l.length),(10,Eh i21)]) (fun j24=>[(1160,.spare 3 1 j24.length j24.length)]) (fun Kj24 ej24=>?_) ?_
  ·
   refine Gq (Jr fun hK25=>(JLm (Eh i21) O (JLh (Ed y21) (Gw (f:=G3.av) (xs:=l) (y:=y21) O O O H4 hy21 O) O (JLh (.agg (G3.cs y21)) (Gh Y5 O O O) O (JLh (.ptr 1161 0) (Qo 1161 12 G7d O O) O (JLm (Eh i21) O (Jo (u:=.junk) (Jh (u:=.agg (G3.cs y21)) (ds:=(G3.cs y21)) Geb O O O O O O O O) (G7 (hK25 ?_)))))))))
   refine Gx [(1,.fn wanted_f wanted_c),(5,OW 1160 1 I64 s21),(6,Eh i21),(7,Ed y21),(8,E5 l),(9,Eh l.length),(10,Eh i21)] [(1160,.spare 3 1 s21.length s21.length)] 1161 rfl rfl rfl ⟨⟨_,rfl,.same⟩,G⟩ rfl (by exact⟨.conv (.same (R0 _ _ wanted_d)),.conv (.same rfl),.conv (.same rfl),.ptr,.conv (.same rfl),.conv (.same rfl),.conv (.same rfl),G⟩) (Jr fun hK26=>(JLm (.fn wanted_f wanted_c) O (JLh (.agg (G3.cs y21)) (Gh Y5 O O O) O ?_)))
   obtain⟨r27,hr27,h⟩:=Gc h
   refine JLh (BL r27) (Gb3 (args:=[.agg (G3.cs y21)]) (caps:=wanted_c) O O (wanted_w y21 _ hr27) wanted_B ⟨O,O,G⟩ wanted_d) O (G7 (hK26 (JCc O h (fun h hb=>?_) (fun h hb=>?_))))
   ·
    refine G2 (JLm (OW 1160 1 I64 s21) O (JLm (Eh i21) O (JLh (E1 [(i21:Int)]) (Hj (xs:=[Eh i21]) O ⟨O,O,G⟩ Gs Rw O O O O) O ?_)))
    obtain⟨ha28,h⟩:=Hr h
    refine JLh (OW 1160 1 I64 (s21++[(i21:Int)])) (Qt (f:=I64) (xs:=s21) (ys:=[(i21:Int)]) O O O O Gs Zm ha28 (fun _=>O) (.inl O) O) O (JLm (OW 1160 1 I64 (s21++[(i21:Int)])) O (G7 (ej24 _ _ (s21++[(i21:Int)]) h ⟨⟨.same (R0 _ _ wanted_d),.same O,.same O,.same O,.same O,G⟩,⟨⟨_,O,.same⟩,G⟩,O⟩)))
   ·
    refine Gk (ej24 _ _ s21 h ⟨⟨.same (R0 _ _ wanted_d),.same O,.same O,.same O,.same O,G⟩,⟨⟨_,O,.same⟩,G⟩,O⟩)
  ·intro j24 h
   replace h:=app1 hkj24 h
   refine G2 (JLh (I64 ((i21+1:Nat):Int)) (Hs (Hf hk21 hm9) O O O) O (JLm (I64 ((i21+1:Nat):Int)) O (G7 (e21 _ _ (i21+1) j24 (app1 hn21 h) (by omega) ⟨⟨.same (R0 _ _ wanted_d),.same rfl,.same rfl,.same rfl,.same rfl,G⟩,⟨⟨_,rfl,.same⟩,G⟩,rfl⟩))))
 ·
  have h:=app1 hkx21 (Hv hi21 (Ha hb))
  refine Hn (hK3 (Jr fun hK29=>(JLm (OW 1160 1 I64 s21) O (JLm (OW 1160 1 I64 s21) O (G7 (hK29 (Gn (fin1l (fun r:(List Int)=>(E1 r:AV)) h))))))))

def H27 (s:H0) (cover:Int) (deck:Bool):Option (List Int):=
 bif ((decide (cover < 0))||(decide ((s.Covers.length:Int)≤cover))) then
 (some [])
 else
 (bnd (G28 s.Columns (fun z0=>G8b z0 deck s cover)) fun r6=>
  some r6)
theorem Q16 (s:H0) (cover:Int) (deck:Bool) (r:(List Int)) (h:H27 s cover deck=some r):Pure Ei 141 [.agg (H0.cs s),I64 cover,BL deck] (·=E1 r):=by
 unfold H27 at h
 refine Gz [.tmp 6] Tryz.func141 O O (Jr fun hK1=>(JLh (.ptr 1152 0) (Je (cs:=(H0.cs s)) 1152 O O O O O) O (JLh (.ptr 1153 0) (Je (cs:=[I64 cover]) 1153 O O O O O) O (JLh (.ptr 1154 0) (Je (cs:=[BL deck]) 1154 O O O O O) O (JLh (E1 ([]:List Int)) (Hb 1 O O) O (G7 (hK1 ?_)))))))
 refine Gx [(3,Eb s),(4,.ptr 1153 0),(5,.ptr 1154 0)] [(1153,.box 3 [I64 cover]),(1154,.box 4 [BL deck])] 1152 rfl rfl rfl ⟨⟨_,rfl,.boxEq rfl rfl⟩,⟨_,rfl,.boxEq rfl rfl⟩,G⟩ rfl (by exact⟨.ptr,.conv (.same rfl),.conv (.same rfl),G⟩) ?_
 refine Gx [(3,Eb s),(4,.dptr [I64 cover]),(5,.ptr 1154 0)] [(1154,.box 4 [BL deck])] 1153 rfl rfl rfl ⟨⟨_,rfl,.boxEq rfl rfl⟩,G⟩ rfl (by exact⟨.conv (.same rfl),.ptr,.conv (.same rfl),G⟩) ?_
 refine Gx [(3,Eb s),(4,.dptr [I64 cover]),(5,.dptr [BL deck])] [] 1154 rfl rfl rfl G rfl (by exact⟨.conv (.same rfl),.conv (.same rfl),.ptr,G⟩) (Js fun hK2=>?_)
 refine Jr fun hK3=>(JLh (I64 cover) (Gf Gd O O O) O (JLh (BL (decide (cover < 0))) (Hz O O O) O (JLm (BL (decide (cover < 0))) O (JLo (I64 cover) [] O .scf G (fun hc=>Gf Gd O O O) O (JLo (.dptr [E4 s.Covers,I64 s.Light.Kilos,I64 s.Light.X,I64 s.Light.Y,I64 s.Light.Z,E7 s.Rows,E6 s.Frames,E8 s.Tanks,I64 s.G1.Tolerance,I64 s.G1.Trim,I64 s.G1.List_,I64 s.G1.Stability]) [] O .scf G (fun hc=>Ga J0 O O O) O (JLo (E4 s.Covers) [11] O .scf ⟨Ua,G⟩ (fun hc=>Gf J8 O O O) O (JLo (Eh s.Covers.length) [12] O .scf ⟨Ua,G⟩ (fun hc=>Qe (f:=G9.av) (xs:=s.Covers) He O O) O (JLo (BL (decide ((s.Covers.length:Int)≤cover))) [10,13] O .scf ⟨Ua,Ua,G⟩ (fun hc=>Zf O O O) O (JLh (BL ((decide (cover < 0))||(decide ((s.Covers.length:Int)≤cover)))) (Y4 O O O O) O (G7 (hK3 ?_)))))))))))
 refine JCc O h ?_ ?_<;>intro h hb
 ·
  refine Jr fun hK4=>(JLh (E1 ([]:List Int)) (Hb 1 O O) O (G7 (hK4 (Gn (fin1 (fun r:(List Int)=>(E1 r:AV)) h)))))
 ·
  refine Gk (hK2 ?_)
  refine Jr fun hK5=>(JLh (Eb s) (Ga Hi O O O) O (JLh (E5 s.Columns) (Gf Ht O O O) O (JLh (.fn 165 [.dptr [BL deck],Eb s,.dptr [I64 cover]]) (G91 (cs:=[.dptr [BL deck],Eb s,.dptr [I64 cover]]) O O) O ?_)))
  obtain⟨r6,hr6,h⟩:=Gc h
  refine JLh (E1 r6) (Gm O (H59 s.Columns (fun z0=>G8b z0 deck s cover) 165 [.dptr [BL deck],Eb s,.dptr [I64 cover]] Qa0 O (fun z0 q hq=>J6f z0 deck s cover q hq) r6 hr6) Qa1 ⟨O,O,O,O,G⟩) O (JLm (E1 r6) O (G7 (hK5 (Gn (fin1 (fun r:(List Int)=>(E1 r:AV)) h)))))

def H07 (s:H0) (cover:Int):Option (List Int):=
 bnd (H27 s cover true) fun r3=>
 some r3
theorem Q37 (s:H0) (cover:Int) (r:(List Int)) (h:H07 s cover=some r):Pure Ei 112 [.agg (H0.cs s),I64 cover] (·=E1 r):=by
 unfold H07 at h
 refine Gz [.tmp 4] Tryz.func112 O O (Jr fun hK1=>(JLh (.ptr 1128 0) (Je (cs:=(H0.cs s)) 1128 O O O O O) O (JLh (E1 ([]:List Int)) (Hb 1 O O) O (G7 (hK1 (Gx [(1,I64 cover),(2,Eb s)] [] 1128 rfl rfl rfl G rfl (by exact⟨.conv (.same rfl),.ptr,G⟩) ?_))))))
 refine Jr fun hK2=>(JLh (.agg (H0.cs s)) (Gh Hc O O O) O (JLm (I64 cover) O ?_))
 obtain⟨r3,hr3,h⟩:=Gc h
 refine JLh (E1 r3) (Gm O (Q16 s cover true r3 hr3) Qa7 ⟨O,O,O,O,O,O,G⟩) O (JLm (E1 r3) O (G7 (hK2 (Gn (fin1 (fun r:(List Int)=>(E1 r:AV)) h)))))

def G15 (s:List Int) (v:Int):Option Int:=
 each (fun y18 i18 (s18:Unit) nx18=>
  bif decide (v=y18) then
  (some (i18:Int))
  else
  (nx18 ()))
 (fun(s18:Unit)=>
  some (-1)) s 0 ()
theorem Hf0 (s:List Int) (v:Int) (r:Int) (h:G15 s v=some r):Pure Ei 110 [E1 s,I64 v] (·=I64 r):=by
 unfold G15 at h
 refine Gz [.tmp 4] Tryz.func110 O O (Jr fun hK1=>(JLm (I64 0) O (G7 (hK1 (Js fun hK2=>Jr fun hK3=>(JLm (E1 s) O (JLl Gs O O O fun hm7=>(JLm (I64 0) O (G7 (hK3 (Gq ?_)))))))))))
 obtain⟨b18,kx18,hb18,hkx18,h⟩:=J3 h
 refine Hd (fun i18 (s18:Unit)=>each b18 kx18 (List.drop i18 s) i18 s18=some r) (fun i18 s18=>[(0,E1 s),(1,I64 v),(7,Eh s.length),(8,Eh i18)]) (fun i18 s18=>[]) (fun i18=>s.length - i18) 0 () h ⟨(.sm O O),G,rfl⟩ ?_
 clear h
 intro i18 s18 hi18 K18 e18
 refine Jr fun hK19=>(JLh (BL (decide ((i18:Int) < (s.length:Int)))) (Hz O O O) O (G7 (hK19 (Js fun hK20=>Gi O (fun hb=>?_) (fun hb=>?_)))))
 ·
  have hk18:=Jj hb
  obtain⟨y18,nx18,hy18,hn18,h⟩:=Hu hi18 hk18
  replace h:=Z9 hb18 h
  refine Gk (hK20 (Js fun hK21=>Gq (Jr fun hK22=>(JLm (Eh i18) O (JLm (Eh i18) O (G7 (hK22 (Jr fun hK23=>(JLm (I64 v) O (JLm (E1 s) O (JLm (Eh i18) O (JLh (.dptr [I64 y18]) (Gw (f:=I64) (xs:=s) (y:=y18) O O O Gs hy18 O) O (JLh (I64 y18) (Gf Gd O O O) O (JLh (BL (decide (v=y18))) (Jw O O O) O (G7 (hK23 (JCc O h (fun h hb=>?_) (fun h hb=>?_))))))))))))))))))
  ·
   refine Jr fun hK24=>(JLm (Eh i18) O (JLm (Eh i18) O (G7 (hK24 (Gn (fin1 I64 h))))))
  ·
   refine Gk (hK21 (G2 (JLh (I64 ((i18+1:Nat):Int)) (Hs (Hf hk18 hm7) O O O) O (JLm (I64 ((i18+1:Nat):Int)) O (G7 (e18 _ _ (i18+1) () (app1 hn18 h) (by omega) ⟨(.sm O O),G,rfl⟩))))))
 ·
  have h:=app1 hkx18 (Hv hi18 (Ha hb))
  refine Hn (hK2 (Jr fun hK25=>(JLm (I64 (-1)) O (G7 (hK25 (Gn (fin1 I64 h)))))))

def Y1 (s:List Int) (v:Int):Option Bool:=
 bnd (G15 s v) fun r3=>
 some (decide (0≤r3))
theorem G61 (s:List Int) (v:Int) (r:Bool) (h:Y1 s v=some r):Pure Ei 62 [E1 s,I64 v] (·=BL r):=by
 unfold Y1 at h
 refine Gz [.tmp 4] Tryz.func62 O O (Jr fun hK1=>(JLm (BL false) O (G7 (hK1 (Jr fun hK2=>(JLm (E1 s) O (JLm (I64 v) O ?_)))))))
 obtain⟨r3,hr3,h⟩:=Gc h
 refine JLh (I64 r3) (Gm O (Hf0 s v r3 hr3) Qb9 ⟨O,O,O,O,G⟩) O (JLh (BL (decide (0≤r3))) (Zf O O O) O (JLm (BL (decide (0≤r3))) O (G7 (hK2 (Gn (fin1 BL h))))))

def Gc6 (s:H0) (l:List Stowed) (cover:Int):Option (List Int):=
 bnd (H07 s cover) fun r3=>
 each (fun y23 i23 (s23:(List Int)) nx23=>
  jp (fun kj26=>
   bnd (Y1 r3 y23.Slot.G3) fun r29=>
   bif r29 then
   (need (decide ((s23.length+[y23.Box].length)*8≤140737488355328∧s23.length+[y23.Box].length≤maxLen)) <|
    kj26 (s23++[y23.Box]))
   else
   (kj26 s23)) fun(j26:(List Int))=>
  nx23 j26)
 (fun(s23:(List Int))=>
  some s23) l 0 []
theorem H7e (s:H0) (l:List Stowed) (cover:Int) (r:(List Int)) (h:Gc6 s l cover=some r):Pure Ei 65 [.agg (H0.cs s),E2 l,I64 cover] (·=E1 r):=by
 unfold Gc6 at h
 refine Gz [.tmp 6] Tryz.func65 O O (Jr fun hK1=>(JLh (.ptr 1083 0) (Je (cs:=(H0.cs s)) 1083 O O O O O) O (JLh (E1 ([]:List Int)) (Hb 1 O O) O (G7 (hK1 (Gx [(1,E2 l),(2,I64 cover),(3,Eb s)] [] 1083 rfl rfl rfl G rfl (by exact⟨.conv (.same rfl),.conv (.same rfl),.ptr,G⟩) ?_))))))
 refine Jr fun hK2=>(JLh (.agg (H0.cs s)) (Gh Hc O O O) O (JLm (I64 cover) O ?_))
 obtain⟨r3,hr3,h⟩:=Gc h
 refine JLh (E1 r3) (Gm O (Q37 s cover r3 hr3) Qb7 ⟨O,O,O,O,G⟩) O (JLm (E1 r3) O (G7 (hK2 (Jr fun hK4=>(JLh (OW 1084 1 I64 ([]:List Int)) (G6e 1084 3 1 O O O) O (G7 (hK4 (Js fun hK5=>Jr fun hK6=>(JLm (E2 l) O (JLl Gt O O O fun hm15=>(JLm (I64 0) O (G7 (hK6 (Gq ?_))))))))))))))
 obtain⟨b23,kx23,hb23,hkx23,h⟩:=J3 h
 refine Hd (fun i23 (s23:(List Int))=>each b23 kx23 (List.drop i23 l) i23 s23=some r) (fun i23 s23=>[(7,E1 r3),(8,OW 1084 1 I64 s23),(14,E2 l),(15,Eh l.length),(16,Eh i23)]) (fun i23 s23=>[(1084,.spare 3 1 s23.length s23.length)]) (fun i23=>l.length - i23) 0 [] h ⟨(.sm O O),⟨⟨_,rfl,.same⟩,G⟩,rfl⟩ ?_
 clear h
 intro i23 s23 hi23 K23 e23
 refine Jr fun hK24=>(JLh (BL (decide ((i23:Int) < (l.length:Int)))) (Hz O O O) O (G7 (hK24 (Js fun hK25=>Gi O (fun hb=>?_) (fun hb=>?_)))))
 ·
  have hk23:=Jj hb
  obtain⟨y23,nx23,hy23,hn23,h⟩:=Hu hi23 hk23
  replace h:=Z9 hb23 h
  refine Gk (hK25 ?_)
  obtain⟨kj26,hkj26,h⟩:=G84 h
  refine G57 (fun j26:(List Int)=>kj26 j26=some r) (fun j26=>[(7,E1 r3),(8,OW 1084 1 I64 j26),(14,E2 l),(15,Eh l.length),(16,Eh i23)]) (fun j26=>[(1084,.spare 3 1 j26.length j26.length)]) (fun Kj26 ej26=>?_) ?_
  ·
   refine Gq (Jr fun hK27=>(JLh (Ec y23) (Gw (f:=Stowed.av) (xs:=l) (y:=y23) O O O Gt hy23 O) O (JLh (.agg (Stowed.cs y23)) (Gh R6 O O O) O (JLh (.ptr 1085 0) (Qo 1085 4 G0f O O) O (Jo (u:=.junk) (Jh (u:=.agg (Stowed.cs y23)) (ds:=[I64 y23.Box,I64 y23.Slot.G3,I64 y23.Slot.Tier,U8 y23.Slot.Half]) G7f O O O O O O O O) (G7 (hK27 (Gx [(7,E1 r3),(8,OW 1084 1 I64 s23),(10,Ec y23),(14,E2 l),(15,Eh l.length),(16,Eh i23)] [(1084,.spare 3 1 s23.length s23.length)] 1085 rfl rfl rfl ⟨⟨_,rfl,.same⟩,G⟩ rfl (by repeat' (first | exact .ptr | constructor)) ?_))))))))
   refine Jr fun hK28=>(JLm (E1 r3) O (JLh (.dptr ((Stowed.cs y23).drop 1)) (Ga Ho O O O) O (JLh (.dptr ((Stowed.cs y23).drop 1)) (Ga J2 O O O) O (JLh (I64 y23.Slot.G3) (Gf Gd O O O) O ?_))))
   obtain⟨r29,hr29,h⟩:=Gc h
   refine JLh (BL r29) (Gm O (G61 r3 y23.Slot.G3 r29 hr29) J1e ⟨O,O,O,O,G⟩) O (G7 (hK28 (JCc O h (fun h hb=>?_) (fun h hb=>?_))))
   ·
    refine G2 (JLm (OW 1084 1 I64 s23) O (JLh (Ec y23) (Ga Jc O O O) O (JLh (I64 y23.Box) (Gf Gd O O O) O (JLh (E1 [y23.Box]) (Hj (xs:=[I64 y23.Box]) O ⟨O,O,G⟩ Gs Rw O O O O) O ?_))))
    obtain⟨ha30,h⟩:=Hr h
    refine JLh (OW 1084 1 I64 (s23++[y23.Box])) (Qt (f:=I64) (xs:=s23) (ys:=[y23.Box]) O O O O Gs Zm ha30 (fun _=>O) (.inl O) O) O (JLm (OW 1084 1 I64 (s23++[y23.Box])) O (G7 (ej26 _ _ (s23++[y23.Box]) h ⟨(.sm O O),⟨⟨_,rfl,.same⟩,G⟩,rfl⟩)))
   ·
    refine Gk (ej26 _ _ s23 h ⟨(.sm O O),⟨⟨_,rfl,.same⟩,G⟩,rfl⟩)
  ·intro j26 h
   replace h:=app1 hkj26 h
   refine G2 (JLh (I64 ((i23+1:Nat):Int)) (Hs (Hf hk23 hm15) O O O) O (JLm (I64 ((i23+1:Nat):Int)) O (G7 (e23 _ _ (i23+1) j26 (app1 hn23 h) (by omega) ⟨(.sm O O),⟨⟨_,rfl,.same⟩,G⟩,rfl⟩))))
 ·
  have h:=app1 hkx23 (Hv hi23 (Ha hb))
  refine Hn (hK5 (Jr fun hK31=>(JLm (OW 1084 1 I64 s23) O (JLm (OW 1084 1 I64 s23) O (G7 (hK31 (Gn (fin1l (fun r:(List Int)=>(E1 r:AV)) h))))))))
end
end Go.Proofs.YtecjdioomlhhiaaGreat
