/-
 Models of functions of the program,and that they return what the models say.
-/
import Derived.Test.YthcpolfodgjekaaGreatSpecW
set_option maxRecDepth 100000
set_option maxHeartbeats 1000000
set_option linter.unusedVariables false
set_option linter.unusedSimpArgs false
namespace Go.Proofs.YthcpolfodgjekaaGreat
open Go.RowKit
noncomputable section

namespace XGF
open XAF
open XLF
open XCF
theorem Y73 (a b:Slot):Ha1 Ej 4 71 [.int .i64 a.G3,.int .i64 a.Tier,.int .u8 a.Half] [.int .i64 b.G3,.int .i64 b.Tier,.int .u8 b.Half]=some (decide (a=b)):=by
 refine(show _=some ((a.G3==b.G3)&&((a.Tier==b.Tier)&&((a.Half==b.Half)&&true))) by kernel_rfl).trans (congrArg some ?_)
 rw [Bool.eq_iff_iff]
 simp only [Kq,beq_iff_eq,Kr,Bool.and_true]
 constructor
 ·intro h; obtain⟨_,_,_⟩:=a; obtain⟨_,_,_⟩:=b; simp_all
 ·intro h; subst h; simp
theorem Jh:Gff Ej 71 3=true:=by kernel_rfl
theorem Jc4:G3f Ej 71=true:=by kernel_rfl
theorem R10:Hf Ej 102=true:=by kernel_rfl
theorem R0f:Hf Ej 103=true:=by kernel_rfl
theorem Hef:Hf Ej 106=true:=by kernel_rfl
theorem R08:Hf Ej 114=true:=by kernel_rfl
theorem Hed:Hf Ej 116=true:=by kernel_rfl
theorem R07:Hf Ej 117=true:=by kernel_rfl
theorem Jc0:Hf Ej 118=true:=by kernel_rfl
theorem Jbf:Hf Ej 119=true:=by kernel_rfl
theorem Jbe:Hf Ej 120=true:=by kernel_rfl
theorem R06:Hf Ej 121=true:=by kernel_rfl
theorem R04:Hf Ej 128=true:=by kernel_rfl
theorem R03:Hf Ej 129=true:=by kernel_rfl
theorem R02:Hf Ej 130=true:=by kernel_rfl
theorem Qff:Hf Ej 144=true:=by kernel_rfl
theorem Qfe:Hf Ej 145=true:=by kernel_rfl
theorem Jba:Hf Ej 146=true:=by kernel_rfl
theorem Qf6:Hf Ej 158=true:=by kernel_rfl
theorem Qf5:Hf Ej 159=true:=by kernel_rfl
theorem Qf4:Hf Ej 160=true:=by kernel_rfl
theorem Qf3:Hf Ej 161=true:=by kernel_rfl
theorem Qf1:Hf Ej 169=true:=by kernel_rfl
theorem Qf0:Hf Ej 170=true:=by kernel_rfl
theorem Qed:Hf Ej 175=true:=by kernel_rfl
theorem Qec:Hf Ej 176=true:=by kernel_rfl
theorem H56:Hf Ej 32=true:=by kernel_rfl
theorem Q11:Hf Ej 40=true:=by kernel_rfl
theorem H54:Hf Ej 49=true:=by kernel_rfl
theorem R66:Hf Ej 63=true:=by kernel_rfl
theorem Q0a:Hf Ej 64=true:=by kernel_rfl
theorem Q09:Hf Ej 65=true:=by kernel_rfl
theorem Q08:Hf Ej 66=true:=by kernel_rfl
theorem Q07:Hf Ej 67=true:=by kernel_rfl
theorem Q06:Hf Ej 68=true:=by kernel_rfl
theorem J47:Hf Ej 72=true:=by kernel_rfl
theorem J45:Hf Ej 80=true:=by kernel_rfl
theorem J44:Hf Ej 81=true:=by kernel_rfl
theorem R61:Hf Ej 82=true:=by kernel_rfl
theorem R60:Hf Ej 83=true:=by kernel_rfl
theorem Hb6:Hf Ej 84=true:=by kernel_rfl
theorem Q00:Hf Ej 85=true:=by kernel_rfl
theorem H02:Zr Ej 71 3 24=true:=by kernel_rfl
theorem Q87:Ej.eqGuardType Ej.depth 71=false:=by kernel_rfl
theorem H96:Qi Ej 69 0 0=true:=by kernel_rfl
theorem Rm:Qi Ej 69 2 2=true:=by kernel_rfl
theorem J2d:Qi Ej 69 3 3=true:=by kernel_rfl
theorem J0:Qi Ej 71 0 0=true:=by kernel_rfl
theorem Qq:Qi Ej 71 1 1=true:=by kernel_rfl
theorem Q4:Qi Ej 71 2 2=true:=by kernel_rfl
theorem Hu:Qi Ej 73 0 0=true:=by kernel_rfl
theorem Hs:Qi Ej 73 1 1=true:=by kernel_rfl
theorem J3c:Gf0 Ej 130 3 131=true:=by kernel_rfl
theorem Q74:placesOf Ej 131=some []:=by kernel_rfl
theorem H95:Z1 Ej 130=true:=by kernel_rfl
theorem Ry:Z1 Ej 34=true:=by kernel_rfl
theorem G78:Z1 Ej 57=true:=by kernel_rfl
theorem Hb5:Z1 Ej 88=true:=by kernel_rfl
theorem Qe9:Zf Ej 130 1=true:=by kernel_rfl
theorem Qe8:Zf Ej 131 0=true:=by kernel_rfl
theorem H50:Zf Ej 71 3=true:=by kernel_rfl
theorem R51:Zf Ej 88 1=true:=by kernel_rfl
theorem Ja:sliceB Ej 57 71 3=true:=by kernel_rfl
theorem Qe5:(Ej.info? 131).bind (fun i=>i.zero.map Value.cells)=some (List.toArray []):=by kernel_rfl
theorem Qbb:G05 Ej 130 1=true:=by kernel_rfl
theorem Qba:G05 Ej 131 0=true:=by kernel_rfl
theorem G15:G05 Ej 71 3=true:=by kernel_rfl
theorem Qe2:G05 Ej 88 1=true:=by kernel_rfl
theorem Rd6:(Ej.info? 131).bind (·.zero)=some (.agg #[]):=by kernel_rfl
theorem Y44:H83 Ej 3 (fun n:Int=>Value.int .i64 n):=H83.of_int (by kernel_rfl)
end XGF
open XAF
open XLF
open XCF
open XGF

def Gb1 (l:List Stowed):Option (List Slot):=
 each (fun y17 i17 (s17:(List Slot)) nx17=>
  need (decide ((s17.length+[y17.Slot].length)*24≤140737488355328∧s17.length+[y17.Slot].length≤maxLen)) <|
  nx17 (s17++[y17.Slot]))
 (fun(s17:(List Slot))=>
  some s17) l 0 []
theorem J07 (l:List Stowed) (r:(List Slot)) (h:Gb1 l=some r):Pure Ej 64 [E2 l] (·=E4 r):=by
 unfold Gb1 at h
 refine Gy [.tmp 2] Tryz.func64 O O (Jr fun hK1=>(JLh (E4 ([]:List Slot)) (H2 3 O O) O (G7 (hK1 (Jr fun hK2=>(JLh (OW 1114 3 Slot.av ([]:List Slot)) (G12 1114 71 3 O O O) O (G7 (hK2 (Js fun hK3=>Jr fun hK4=>(JLm (E2 l) O (JLl Gx O O O fun hm7=>(JLm (I64 0) O (G7 (hK4 (Gp ?_)))))))))))))))
 obtain⟨b17,kx17,hb17,hkx17,h⟩:=Hv h
 refine Hc (fun i17 (s17:(List Slot))=>each b17 kx17 (List.drop i17 l) i17 s17=some r) (fun i17 s17=>[(3,OW 1114 3 Slot.av s17),(6,E2 l),(7,Ei l.length),(8,Ei i17)]) (fun i17 s17=>[(1114,.spare 71 3 s17.length s17.length)]) (fun i17=>l.length - i17) 0 [] h ⟨(.sm O O),⟨⟨_,rfl,.same⟩,G⟩,rfl⟩ ?_
 clear h
 intro i17 s17 hi17 K17 e17
 refine Jr fun hK18=>(JLh (BL (decide ((i17:Int) < (l.length:Int)))) (Hy O O O) O (G7 (hK18 (Js fun hK19=>Gj O (fun hb=>?_) (fun hb=>?_)))))
 ·
  have hk17:=J8 hb
  obtain⟨y17,nx17,hy17,hn17,h⟩:=Hj hi17 hk17
  replace h:=R8 hb17 h
  refine Gm (hK19 (Js fun hK20=>Gp (Jr fun hK21=>(JLh (Ec y17) (Gv (f:=Stowed.av) (xs:=l) (y:=y17) O O O Gx hy17 O) O (JLh (.agg (Stowed.cs y17)) (Gg Ru O O O) O (JLh (.ptr 1115 0) (Jn 1115 4 Ze O O) O (Je (u:=.junk) (J5 (u:=.agg (Stowed.cs y17)) (ds:=[I64 y17.Box,I64 y17.Slot.G3,I64 y17.Slot.Tier,U8 y17.Slot.Half]) G4a O O O O O O O O) (G7 (hK21 (Gr [(3,OW 1114 3 Slot.av s17),(5,Ec y17),(6,E2 l),(7,Ei l.length),(8,Ei i17)] [(1114,.spare 71 3 s17.length s17.length)] 1115 rfl rfl rfl ⟨⟨_,rfl,.same⟩,G⟩ rfl (by repeat' (first | exact .ptr | constructor)) (G2 ?_)))))))))))
  refine JLm (OW 1114 3 Slot.av s17) O (JLh (.dptr ((Stowed.cs y17).drop 1)) (Ga Hs O O O) O (JLh (.agg ((Stowed.cs y17).drop 1)) (Gg Jh O O O) O (JLh (E4 [y17.Slot]) (Ha (xs:=[.agg ((Stowed.cs y17).drop 1)]) O ⟨O,O,G⟩ Ja G15 O O O O) O ?_)))
  obtain⟨ha22,h⟩:=Hp h
  refine JLh (OW 1114 3 Slot.av (s17++[y17.Slot])) (Q8 (f:=Slot.av) (xs:=s17) (ys:=[y17.Slot]) O O O O Ja H02 ha22 (fun _=>O) (.inl O) O) O (JLm (OW 1114 3 Slot.av (s17++[y17.Slot])) O (G7 (hK20 (G2 (JLh (I64 ((i17+1:Nat):Int)) (Ht (Hb hk17 hm7) O O O) O (JLm (I64 ((i17+1:Nat):Int)) O (G7 (e17 _ _ (i17+1) (s17++[y17.Slot]) (app1 hn17 h) (by omega) ⟨(.sm O O),⟨⟨_,rfl,.same⟩,G⟩,rfl⟩))))))))
 ·
  have h:=app1 hkx17 (Hk hi17 (H3 hb))
  refine Hi (hK3 (Jr fun hK23=>(JLm (OW 1114 3 Slot.av s17) O (JLm (OW 1114 3 Slot.av s17) O (G7 (hK23 (Gq (fin1l (fun r:(List Slot)=>(E4 r:AV)) h))))))))

def Gc9 (b:Box) (p1:Int):Option Bool:=
 some (decide (b.ID=p1))
theorem Je6 (b:Box) (p1:Int) (r:Bool) (h:Gc9 b p1=some r):Pure Ej 103 [.agg (Box.cs b),.dptr [I64 p1]] (·=BL r):=by
 unfold Gc9 at h
 refine Gy [.tmp 3] Tryz.func103 O O (Jr fun hK1=>(JLh (.ptr 1159 0) (J7 (cs:=(Box.cs b)) 1159 O O O O O) O (JLm (BL false) O (G7 (hK1 (Gr [(1,.dptr [I64 p1]),(2,Ee b)] [] 1159 rfl rfl rfl G rfl (by exact⟨.conv (.same rfl),.ptr,G⟩) (Jr fun hK2=>(JLh (Ee b) (Ga H96 O O O) O (JLh (I64 b.ID) (Ge Gb O O O) O (JLh (I64 p1) (Ge Gb O O O) O (JLh (BL (decide (b.ID=p1))) (Ju O O O) O (JLm (BL (decide (b.ID=p1))) O (G7 (hK2 (Gq (fin1 BL h))))))))))))))))

def G18 (s:List Box) (f:Box→Option Bool):Option Int:=
 each (fun y20 i20 (s20:Unit) nx20=>
  bnd (f y20) fun r26=>
  bif r26 then
  (some (i20:Int))
  else
  (nx20 ()))
 (fun(s20:Unit)=>
  some (-1)) s 0 ()
theorem H47 (s:List Box) (f:Box→Option Bool) (f_f:FuncId) (f_c:List AV) (f_B:Hf Ej f_f=true) (f_d:G2c (fun _=>false) f_c=true) (f_w:∀ a0 q,f a0=some q→Pure Ej f_f ([.agg (Box.cs a0)]++f_c) (·=BL q)) (r:Int) (h:G18 s f=some r):Pure Ej 102 [E3 s,.fn f_f f_c] (·=I64 r):=by
 unfold G18 at h
 refine Gy [.tmp 4] Tryz.func102 O O (Jr fun hK1=>(JLm (I64 0) O (G7 (hK1 (Js fun hK2=>Jr fun hK3=>(JLm (E3 s) O (JLl Q1 O O O fun hm7=>(JLm (I64 0) O (G7 (hK3 (Gp ?_)))))))))))
 obtain⟨b20,kx20,hb20,hkx20,h⟩:=Hv h
 refine Hc (fun i20 (s20:Unit)=>each b20 kx20 (List.drop i20 s) i20 s20=some r) (fun i20 s20=>[(0,E3 s),(1,.fn f_f f_c),(7,Ei s.length),(8,Ei i20)]) (fun i20 s20=>[]) (fun i20=>s.length - i20) 0 () h ⟨⟨.same O,.same (R7 _ _ f_d),.same O,.same O,G⟩,G,O⟩ ?_
 clear h
 intro i20 s20 hi20 K20 e20
 refine Jr fun hK21=>(JLh (BL (decide ((i20:Int) < (s.length:Int)))) (Hy O O O) O (G7 (hK21 (Js fun hK22=>Gj O (fun hb=>?_) (fun hb=>?_)))))
 ·
  have hk20:=J8 hb
  obtain⟨y20,nx20,hy20,hn20,h⟩:=Hj hi20 hk20
  replace h:=R8 hb20 h
  refine Gm (hK22 (Js fun hK23=>Gp (Jr fun hK24=>(JLm (Ei i20) O (JLm (Ei i20) O (G7 (hK24 (Jr fun hK25=>(JLm (.fn f_f f_c) O (JLm (E3 s) O (JLm (Ei i20) O (JLh (Ee y20) (Gv (f:=Box.av) (xs:=s) (y:=y20) O O O Q1 hy20 O) O (JLh (.agg (Box.cs y20)) (Gg G48 O O O) O ?_)))))))))))))
  obtain⟨r26,hr26,h⟩:=Gd h
  refine JLh (BL r26) (Ga9 (args:=[.agg (Box.cs y20)]) (caps:=f_c) O O (f_w y20 _ hr26) f_B ⟨O,O,G⟩ f_d) O (G7 (hK25 (JCc O h (fun h hb=>?_) (fun h hb=>?_))))
  ·
   refine Jr fun hK27=>(JLm (Ei i20) O (JLm (Ei i20) O (G7 (hK27 (Gq (fin1 I64 h))))))
  ·
   refine Gm (hK23 (G2 (JLh (I64 ((i20+1:Nat):Int)) (Ht (Hb hk20 hm7) O O O) O (JLm (I64 ((i20+1:Nat):Int)) O (G7 (e20 _ _ (i20+1) () (app1 hn20 h) (by omega) ⟨⟨.same rfl,.same (R7 _ _ f_d),.same rfl,.same rfl,G⟩,G,rfl⟩))))))
 ·
  have h:=app1 hkx20 (Hk hi20 (H3 hb))
  refine Hi (hK2 (Jr fun hK28=>(JLm (I64 (-1)) O (G7 (hK28 (Gq (fin1 I64 h)))))))

def G62 (boxes:List Box) (id_:Int):Option (Box×Bool):=
 bnd (G18 boxes (fun z0=>Gc9 z0 id_)) fun r3=>
 bif decide (r3 < 0) then
 (some ((Box.mk 0 ByteArray.empty 0 false 0 0 0 0 false),false))
 else
 (Qm boxes r3 fun y8=>
  some (y8,true))
theorem Gc8 (boxes:List Box) (id_:Int) (r:Box×Bool) (h:G62 boxes id_=some r):Pure Ej 49 [E3 boxes,I64 id_] (·=.tup [.agg (Box.cs r.1),BL r.2]):=by
 unfold G62 at h
 refine Gy [.cell 4 69,.tmp 5] Tryz.func49 O O (Jr fun hK1=>(JLh (.ptr 1086 0) (J7 (cs:=[I64 id_]) 1086 O O O O O) O (JLh (.ptr 1087 0) (G34 1087 [I64 0,ST Kc,U8 0,BL false,I64 0,I64 0,I64 0,U8 0,BL false] [E0,.string ByteArray.empty,.int .u8 0,.bool false,E0,E0,E0,.int .u8 0,.bool false] G1e ⟨.inl O,.inl O,.inl O,.inl O,.inl O,.inl O,.inl O,.inl O,.inl O,G⟩ O O) O (JLm (BL false) O (G7 (hK1 (Gr [(0,E3 boxes),(3,.dptr [I64 id_]),(4,.ptr 1087 0)] [(1087,.box 69 [I64 0,ST Kc,U8 0,BL false,I64 0,I64 0,I64 0,U8 0,BL false])] 1086 rfl rfl rfl ⟨⟨_,rfl,.boxEq rfl rfl⟩,G⟩ rfl (by exact⟨.conv (.same rfl),.ptr,.conv (.same rfl),G⟩) ?_)))))))
 refine Jr fun hK2=>(JLm (E3 boxes) O (JLh (.fn 103 [.dptr [I64 id_]]) (G3d (cs:=[.dptr [I64 id_]]) O O) O ?_))
 obtain⟨r3,hr3,h⟩:=Gd h
 refine JLh (I64 r3) (Gi O (H47 boxes (fun z0=>Gc9 z0 id_) 103 [.dptr [I64 id_]] R0f O (fun z0 q hq=>Je6 z0 id_ q hq) r3 hr3) R10 ⟨O,O,O,O,G⟩) O (JLm (I64 r3) O (G7 (hK2 (Js fun hK4=>Jr fun hK5=>(JLm (I64 r3) O (JLh (BL (decide (r3 < 0))) (Hy O O O) O (G7 (hK5 (JCc O h (fun h hb=>?_) (fun h hb=>?_))))))))))
 ·
  refine Jr fun hK6=>(JLh (.agg [I64 0,ST Kc,U8 0,BL false,I64 0,I64 0,I64 0,U8 0,BL false]) (Jk (cs:=[I64 0,ST Kc,U8 0,BL false,I64 0,I64 0,I64 0,U8 0,BL false]) [(0,1),(1,1),(2,1),(3,1),(4,1),(5,1),(6,1),(7,1),(8,1)] [I64 0,ST Kc,U8 0,BL false,I64 0,I64 0,I64 0,U8 0,BL false] [E0,.string ByteArray.empty,.int .u8 0,.bool false,E0,E0,E0,.int .u8 0,.bool false] G24 G1e ⟨.inl O,.inl O,.inl O,.inl O,.inl O,.inl O,.inl O,.inl O,.inl O,G⟩ O O) O (Je (u:=.junk) (J5 (u:=.agg [I64 0,ST Kc,U8 0,BL false,I64 0,I64 0,I64 0,U8 0,BL false]) (ds:=[I64 0,ST Kc,U8 0,BL false,I64 0,I64 0,I64 0,U8 0,BL false]) Zs O O O O O O O O) (JLm (BL false) O (G7 (hK6 ?_)))))
  refine Gq (⟨[.agg [I64 0,ST Kc,U8 0,BL false,I64 0,I64 0,I64 0,U8 0,BL false],BL false],[],G,O,⟨⟨_,⟨_,_,_,_,O,O,O,.inl ⟨G48,O⟩⟩,.conv (.same O)⟩,⟨_,O,.conv (.same O)⟩,G⟩,O,congrArg (fun r:Box×Bool=>(.tup [.agg (Box.cs r.1),BL r.2]:AV)) (Kj h)⟩)
 ·
  refine Gm (hK4 (Jr fun hK7=>(JLm (E3 boxes) O (JLm (I64 r3) O ?_))))
  obtain⟨m9,y8,hm9,hy8,h⟩:=Rb h
  refine JLh (Ee y8) (Gv (f:=Box.av) (xs:=boxes) (y:=y8) O O O Q1 hy8 hm9) O (JLh (.agg (Box.cs y8)) (Gg G48 O O O) O (Je (u:=.junk) (J5 (u:=.agg (Box.cs y8)) (ds:=(Box.cs y8)) Zs O O O O O O O O) (JLm (BL true) O (G7 (hK7 (Gq (⟨[.agg (Box.cs y8),BL true],[],G,O,⟨⟨_,⟨_,_,_,_,O,O,O,.inl ⟨G48,O⟩⟩,.conv (.same O)⟩,⟨_,O,.conv (.same O)⟩,G⟩,O,congrArg (fun r:Box×Bool=>(.tup [.agg (Box.cs r.1),BL r.2]:AV)) (Kj h)⟩)))))))

def G33 (s:List Int) (v:Int):Option Int:=
 each (fun y18 i18 (s18:Unit) nx18=>
  bif decide (v=y18) then
  (some (i18:Int))
  else
  (nx18 ()))
 (fun(s18:Unit)=>
  some (-1)) s 0 ()
theorem Hd1 (s:List Int) (v:Int) (r:Int) (h:G33 s v=some r):Pure Ej 158 [Ea s,U8 v] (·=I64 r):=by
 unfold G33 at h
 refine Gy [.tmp 4] Tryz.func158 O O (Jr fun hK1=>(JLm (I64 0) O (G7 (hK1 (Js fun hK2=>Jr fun hK3=>(JLm (Ea s) O (JLl Gaa O O O fun hm7=>(JLm (I64 0) O (G7 (hK3 (Gp ?_)))))))))))
 obtain⟨b18,kx18,hb18,hkx18,h⟩:=Hv h
 refine Hc (fun i18 (s18:Unit)=>each b18 kx18 (List.drop i18 s) i18 s18=some r) (fun i18 s18=>[(0,Ea s),(1,U8 v),(7,Ei s.length),(8,Ei i18)]) (fun i18 s18=>[]) (fun i18=>s.length - i18) 0 () h ⟨(.sm O O),G,rfl⟩ ?_
 clear h
 intro i18 s18 hi18 K18 e18
 refine Jr fun hK19=>(JLh (BL (decide ((i18:Int) < (s.length:Int)))) (Hy O O O) O (G7 (hK19 (Js fun hK20=>Gj O (fun hb=>?_) (fun hb=>?_)))))
 ·
  have hk18:=J8 hb
  obtain⟨y18,nx18,hy18,hn18,h⟩:=Hj hi18 hk18
  replace h:=R8 hb18 h
  refine Gm (hK20 (Js fun hK21=>Gp (Jr fun hK22=>(JLm (Ei i18) O (JLm (Ei i18) O (G7 (hK22 (Jr fun hK23=>(JLm (U8 v) O (JLm (Ea s) O (JLm (Ei i18) O (JLh (.dptr [U8 y18]) (Gv (f:=U8) (xs:=s) (y:=y18) O O O Gaa hy18 O) O (JLh (U8 y18) (Ge J6 O O O) O (JLh (BL (decide (v=y18))) (Ju O O O) O (G7 (hK23 (JCc O h (fun h hb=>?_) (fun h hb=>?_))))))))))))))))))
  ·
   refine Jr fun hK24=>(JLm (Ei i18) O (JLm (Ei i18) O (G7 (hK24 (Gq (fin1 I64 h))))))
  ·
   refine Gm (hK21 (G2 (JLh (I64 ((i18+1:Nat):Int)) (Ht (Hb hk18 hm7) O O O) O (JLm (I64 ((i18+1:Nat):Int)) O (G7 (e18 _ _ (i18+1) () (app1 hn18 h) (by omega) ⟨(.sm O O),G,rfl⟩))))))
 ·
  have h:=app1 hkx18 (Hk hi18 (H3 hb))
  refine Hi (hK2 (Jr fun hK25=>(JLm (I64 (-1)) O (G7 (hK25 (Gq (fin1 I64 h)))))))

def G03 (s:List Int) (v:Int):Option Bool:=
 bnd (G33 s v) fun r3=>
 some (decide (0≤r3))
theorem H81 (s:List Int) (v:Int) (r:Bool) (h:G03 s v=some r):Pure Ej 114 [Ea s,U8 v] (·=BL r):=by
 unfold G03 at h
 refine Gy [.tmp 4] Tryz.func114 O O (Jr fun hK1=>(JLm (BL false) O (G7 (hK1 (Jr fun hK2=>(JLm (Ea s) O (JLm (U8 v) O ?_)))))))
 obtain⟨r3,hr3,h⟩:=Gd h
 refine JLh (I64 r3) (Gi O (Hd1 s v r3 hr3) Qf6 ⟨O,O,O,O,G⟩) O (JLh (BL (decide (0≤r3))) (G13 O O O) O (JLm (BL (decide (0≤r3))) O (G7 (hK2 (Gq (fin1 BL h))))))

def Gb2 (s:H0) (x:Slot) (size:Int):Option Bool:=
 bnd (bif (((decide (0≤x.G3))&&(decide (x.G3 < (s.Columns.length:Int))))&&(decide (0≤x.Tier))) then Qm s.Columns x.G3 some else some default) fun y3=>
 bnd (bif ((((decide (0≤x.G3))&&(decide (x.G3 < (s.Columns.length:Int))))&&(decide (0≤x.Tier)))&&(decide (x.Tier < y3.Tiers))) then G6b size else some default) fun r4=>
 bnd (bif ((((decide (0≤x.G3))&&(decide (x.G3 < (s.Columns.length:Int))))&&(decide (0≤x.Tier)))&&(decide (x.Tier < y3.Tiers))) then G03 r4 x.Half else some default) fun r5=>
 some (((((decide (0≤x.G3))&&(decide (x.G3 < (s.Columns.length:Int))))&&(decide (0≤x.Tier)))&&(decide (x.Tier < y3.Tiers)))&&r5)
theorem J09 (s:H0) (x:Slot) (size:Int) (r:Bool) (h:Gb2 s x size=some r):Pure Ej 65 [.agg (H0.cs s),.agg [I64 x.G3,I64 x.Tier,U8 x.Half],U8 size] (·=BL r):=by
 unfold Gb2 at h
 refine Gy [.tmp 6] Tryz.func65 O O (Jr fun hK1=>(JLh (.ptr 1116 0) (J7 (cs:=(H0.cs s)) 1116 O O O O O) O (JLh (.ptr 1117 0) (J7 (cs:=[I64 x.G3,I64 x.Tier,U8 x.Half]) 1117 O O O O O) O (JLm (BL false) O (G7 (hK1 ?_))))))
 refine Gr [(2,U8 size),(3,Eb s),(4,.ptr 1117 0)] [(1117,.box 71 [I64 x.G3,I64 x.Tier,U8 x.Half])] 1116 rfl rfl rfl ⟨⟨_,rfl,.boxEq rfl rfl⟩,G⟩ rfl (by exact⟨.conv (.same rfl),.ptr,.conv (.same rfl),G⟩) ?_
 refine Gr [(2,U8 size),(3,Eb s),(4,.dptr [I64 x.G3,I64 x.Tier,U8 x.Half])] [] 1117 rfl rfl rfl G rfl (by exact⟨.conv (.same rfl),.conv (.same rfl),.ptr,G⟩) (Js fun hK2=>?_)
 obtain⟨y3,hy3,h⟩:=Gd h
 obtain⟨r4,hr4,h⟩:=Gd h
 obtain⟨r5,hr5,h⟩:=Gd h
 refine JC_d0 Jb (by kernel_rfl) (Dq (.dptr [I64 x.G3,I64 x.Tier,U8 x.Half]) (Ga J0 O O O) O (Dq (I64 x.G3) (Ge Gb O O O) O (Dq (BL (decide (0≤x.G3))) (G13 O O O) O (Dq (BL (decide (0≤x.G3))) (G4 O O) O (Do (.dptr [I64 x.G3,I64 x.Tier,U8 x.Half]) [] O .sct G (fun hc=>Ga J0 O O O) O (Do (I64 x.G3) [11] O .sct ⟨Ua,G⟩ (fun hc=>Ge Gb O O O) O (Do (Eb s) [] O .sct G (fun hc=>Ga Hh O O O) O (Do (E5 s.Columns) [13] O .sct ⟨Ua,G⟩ (fun hc=>Ge Ho O O O) O (Do (Ei s.Columns.length) [14] O .sct ⟨Ua,G⟩ (fun hc=>Qs (f:=G3.av) (xs:=s.Columns) H6 O O) O (Do (BL (decide (x.G3 < (s.Columns.length:Int)))) [12,15] O .sct ⟨Ua,Ua,G⟩ (fun hc=>Hy O O O) O (Dq (BL ((decide (0≤x.G3))&&(decide (x.G3 < (s.Columns.length:Int))))) (J4 O O O O) O (Dq (BL ((decide (0≤x.G3))&&(decide (x.G3 < (s.Columns.length:Int))))) (G4 O O) O (Do (.dptr [I64 x.Tier,U8 x.Half]) [] O .sct G (fun hc=>Ga Qq O O O) O ?_)))))))))))))
 refine Do (I64 x.Tier) [19] O .sct ⟨Ua,G⟩ (fun hc=>Ge Gb O O O) O (Do (BL (decide (0≤x.Tier))) [20] O .sct ⟨Ua,G⟩ (fun hc=>G13 O O O) O (Dq (BL (((decide (0≤x.G3))&&(decide (x.G3 < (s.Columns.length:Int))))&&(decide (0≤x.Tier)))) (J4 O O O O) O (Dq (BL (((decide (0≤x.G3))&&(decide (x.G3 < (s.Columns.length:Int))))&&(decide (0≤x.Tier)))) (G4 O O) O (Do (.dptr [I64 x.Tier,U8 x.Half]) [] O .sct G (fun hc=>Ga Qq O O O) O (Do (I64 x.Tier) [24] O .sct ⟨Ua,G⟩ (fun hc=>Ge Gb O O O) O (Do (Eb s) [] O .sct G (fun hc=>Ga Hh O O O) O (Do (E5 s.Columns) [26] O .sct ⟨Ua,G⟩ (fun hc=>Ge Ho O O O) O (Do (.dptr [I64 x.G3,I64 x.Tier,U8 x.Half]) [] O .sct G (fun hc=>Ga J0 O O O) O (Do (I64 x.G3) [28] O .sct ⟨Ua,G⟩ (fun hc=>Ge Gb O O O) O (Do (Ed y3) [27,29] O .sct ⟨Ua,Ua,G⟩ (fun hc=>(match Q0 (Gw hc hy3) with | ⟨_,hm_,hy_⟩=>Gv (f:=G3.av) (xs:=s.Columns) (y:=y3) O O O H6 hy_ hm_)) O (Do (.dptr ((G3.cs y3).drop 3)) [30] O .sct ⟨Ua,G⟩ (fun hc=>Ga Zn O O O) O (Do (I64 y3.Tiers) [31] O .sct ⟨Ua,G⟩ (fun hc=>Ge Gb O O O) O (Do (BL (decide (x.Tier < y3.Tiers))) [25,32] O .sct ⟨Ua,Ua,G⟩ (fun hc=>Hy O O O) O ?_)))))))))))))
 refine Dq (BL ((((decide (0≤x.G3))&&(decide (x.G3 < (s.Columns.length:Int))))&&(decide (0≤x.Tier)))&&(decide (x.Tier < y3.Tiers)))) (J4 O O O O) O (Dq (BL ((((decide (0≤x.G3))&&(decide (x.G3 < (s.Columns.length:Int))))&&(decide (0≤x.Tier)))&&(decide (x.Tier < y3.Tiers)))) (G4 O O) O (Do (U8 size) [] O .sct G (fun hc=>G4 O O) O (Do (Ea r4) [36] O .sct ⟨Ua,G⟩ (fun hc=>Gi (args:=[U8 size]) O (Hd6 size r4 (Gw hc hr4)) Jc1 ⟨O,O,G⟩) O (Do (.dptr [U8 x.Half]) [] O .sct G (fun hc=>Ga Q4 O O O) O (Do (U8 x.Half) [38] O .sct ⟨Ua,G⟩ (fun hc=>Ge J6 O O O) O (Do (BL r5) [37,39] O .sct ⟨Ua,Ua,G⟩ (fun hc=>Gi (args:=[Ea r4,U8 x.Half]) O (H81 r4 x.Half r5 (Gw hc hr5)) R08 ⟨O,O,O,O,G⟩) O (Dq (BL (((((decide (0≤x.G3))&&(decide (x.G3 < (s.Columns.length:Int))))&&(decide (0≤x.Tier)))&&(decide (x.Tier < y3.Tiers)))&&r5)) (J4 O O O O) O (Dq (BL (((((decide (0≤x.G3))&&(decide (x.G3 < (s.Columns.length:Int))))&&(decide (0≤x.Tier)))&&(decide (x.Tier < y3.Tiers)))&&r5)) (G6 O O) O (Dnil ?_)))))))))
 refine hK2 (Gq (fin1 BL h))

def G0e (s:List Slot) (v:Slot):Option Int:=
 each (fun y18 i18 (s18:Unit) nx18=>
  bif decide (v=y18) then
  (some (i18:Int))
  else
  (nx18 ()))
 (fun(s18:Unit)=>
  some (-1)) s 0 ()
theorem H9c (s:List Slot) (v:Slot) (r:Int) (h:G0e s v=some r):Pure Ej 159 [E4 s,.agg [I64 v.G3,I64 v.Tier,U8 v.Half]] (·=I64 r):=by
 unfold G0e at h
 refine Gy [.tmp 4] Tryz.func159 O O (Jr fun hK1=>(JLh (.ptr 1206 0) (J7 (cs:=[I64 v.G3,I64 v.Tier,U8 v.Half]) 1206 O O O O O) O (JLm (I64 0) O (G7 (hK1 (Gr [(0,E4 s),(3,.dptr [I64 v.G3,I64 v.Tier,U8 v.Half])] [] 1206 rfl rfl rfl G rfl (by exact⟨.conv (.same rfl),.ptr,G⟩) (Js fun hK2=>Jr fun hK3=>(JLm (E4 s) O (JLl Ja O O O fun hm7=>(JLm (I64 0) O (G7 (hK3 (Gp ?_)))))))))))))
 obtain⟨b18,kx18,hb18,hkx18,h⟩:=Hv h
 refine Hc (fun i18 (s18:Unit)=>each b18 kx18 (List.drop i18 s) i18 s18=some r) (fun i18 s18=>[(0,E4 s),(3,.dptr [I64 v.G3,I64 v.Tier,U8 v.Half]),(7,Ei s.length),(8,Ei i18)]) (fun i18 s18=>[]) (fun i18=>s.length - i18) 0 () h ⟨(.sm O O),G,rfl⟩ ?_
 clear h
 intro i18 s18 hi18 K18 e18
 refine Jr fun hK19=>(JLh (BL (decide ((i18:Int) < (s.length:Int)))) (Hy O O O) O (G7 (hK19 (Js fun hK20=>Gj O (fun hb=>?_) (fun hb=>?_)))))
 ·
  have hk18:=J8 hb
  obtain⟨y18,nx18,hy18,hn18,h⟩:=Hj hi18 hk18
  replace h:=R8 hb18 h
  refine Gm (hK20 (Js fun hK21=>Gp (Jr fun hK22=>(JLm (Ei i18) O (JLm (Ei i18) O (G7 (hK22 (Js fun hK23=>JC_d0 Jb (by kernel_rfl) (Dq (.agg [I64 v.G3,I64 v.Tier,U8 v.Half]) (Gg Jh O O O) O (Dq (E4 s) (G4 O O) O (Dq (Ei i18) (G4 O O) O (Dq (Eg y18) (Gv (f:=Slot.av) (xs:=s) (y:=y18) O O O Ja hy18 O) O (Dq (.agg (Slot.cs y18)) (Gg Jh O O O) O (Dq (BL (decide (v=y18))) (Gfd (vs:=[.int .i64 v.G3,.int .i64 v.Tier,.int .u8 v.Half]) (us:=[.int .i64 y18.G3,.int .i64 y18.Tier,.int .u8 y18.Half]) 4 O (Y73 v y18) Jc4 Q87 O O O) O (Dnil (hK23 (JCc O h (fun h hb=>?_) (fun h hb=>?_))))))))))))))))))
  ·
   refine Jr fun hK24=>(JLm (Ei i18) O (JLm (Ei i18) O (G7 (hK24 (Gq (fin1 I64 h))))))
  ·
   refine Gm (hK21 (G2 (JLh (I64 ((i18+1:Nat):Int)) (Ht (Hb hk18 hm7) O O O) O (JLm (I64 ((i18+1:Nat):Int)) O (G7 (e18 _ _ (i18+1) () (app1 hn18 h) (by omega) ⟨(.sm O O),G,rfl⟩))))))
 ·
  have h:=app1 hkx18 (Hk hi18 (H3 hb))
  refine Hi (hK2 (Jr fun hK25=>(JLm (I64 (-1)) O (G7 (hK25 (Gq (fin1 I64 h)))))))

def Z9 (s:List Slot) (v:Slot):Option Bool:=
 bnd (G0e s v) fun r3=>
 some (decide (0≤r3))
theorem H48 (s:List Slot) (v:Slot) (r:Bool) (h:Z9 s v=some r):Pure Ej 117 [E4 s,.agg [I64 v.G3,I64 v.Tier,U8 v.Half]] (·=BL r):=by
 unfold Z9 at h
 refine Gy [.tmp 4] Tryz.func117 O O (Jr fun hK1=>(JLh (.ptr 1181 0) (J7 (cs:=[I64 v.G3,I64 v.Tier,U8 v.Half]) 1181 O O O O O) O (JLm (BL false) O (G7 (hK1 (Gr [(0,E4 s),(3,.dptr [I64 v.G3,I64 v.Tier,U8 v.Half])] [] 1181 rfl rfl rfl G rfl (by exact⟨.conv (.same rfl),.ptr,G⟩) (Jr fun hK2=>(JLm (E4 s) O (JLh (.agg [I64 v.G3,I64 v.Tier,U8 v.Half]) (Gg Jh O O O) O ?_)))))))))
 obtain⟨r3,hr3,h⟩:=Gd h
 refine JLh (I64 r3) (Gi O (H9c s v r3 hr3) Qf5 ⟨O,O,O,O,G⟩) O (JLh (BL (decide (0≤r3))) (G13 O O O) O (JLm (BL (decide (0≤r3))) O (G7 (hK2 (Gq (fin1 BL h))))))

def G6c (half:Int) (p1:List Slot) (p2:Slot):Option Bool:=
 chk (p2.Tier - 1) fun v3=>
 bnd (Z9 p1 (Slot.mk p2.G3 v3 half)) fun r4=>
 some r4
theorem H35 (half:Int) (p1:List Slot) (p2:Slot) (r:Bool) (h:G6c half p1 p2=some r):Pure Ej 116 [U8 half,.dptr [E4 p1],.dptr [I64 p2.G3,I64 p2.Tier,U8 p2.Half]] (·=BL r):=by
 unfold G6c at h
 refine Gy [.tmp 4] Tryz.func116 O O (Jr fun hK1=>(JLm (BL false) O (G7 (hK1 (Jr fun hK2=>(JLh (E4 p1) (Ge G78 O O O) O (JLh (.dptr [I64 p2.G3,I64 p2.Tier,U8 p2.Half]) (Ga J0 O O O) O (JLh (I64 p2.G3) (Ge Gb O O O) O (JLh (.dptr [I64 p2.Tier,U8 p2.Half]) (Ga Qq O O O) O (JLh (I64 p2.Tier) (Ge Gb O O O) O ?_))))))))))
 obtain⟨v3,hv3,h⟩:=Qk h
 refine JLh (I64 v3) (Ge4 hv3 O O O) O (JLm (U8 half) O (JLh (.agg [I64 p2.G3,I64 v3,U8 half]) (Jk (cs:=[I64 p2.G3,I64 v3,U8 half]) [(0,1),(1,1),(2,1)] [I64 0,I64 0,U8 0] [E0,E0,.int .u8 0] G79 Gd1 ⟨.inl O,.inl O,.inl O,G⟩ O O) O ?_))
 obtain⟨r4,hr4,h⟩:=Gd h
 refine JLh (BL r4) (Gi O (H48 p1 (Slot.mk p2.G3 v3 half) r4 hr4) R07 ⟨O,O,O,O,G⟩) O (JLm (BL r4) O (G7 (hK2 (Gq (fin1 BL h)))))

def Ge2 (x:Slot) (l:List Slot):Option Bool:=
 bif decide (x.Tier≤0) then
 (some true)
 else
 (bnd (G6c x.Half l x) fun r7=>
  bnd (bif ((!r7)&&(decide (x.Half=0))) then G6c 1 l x else some default) fun r8=>
  bnd (bif ((!r7)&&((decide (x.Half=0))&&r8)) then G6c 2 l x else some default) fun r9=>
  some (r7||(((decide (x.Half=0))&&r8)&&r9)))
abbrev Eo (l:List Slot) (x:Slot):List AV:=[.dptr [E4 l],.dptr [I64 x.G3,I64 x.Tier,U8 x.Half]]
theorem J36 (x:Slot) (l:List Slot) (r:Bool) (h:Ge2 x l=some r):Pure Ej 66 [.agg [I64 x.G3,I64 x.Tier,U8 x.Half],E4 l] (·=BL r):=by
 unfold Ge2 at h
 refine Gy [.tmp 4] Tryz.func66 O O (Jr fun hK1=>(JLh (.ptr 1118 0) (J7 (cs:=[I64 x.G3,I64 x.Tier,U8 x.Half]) 1118 O O O O O) O (JLh (.ptr 1119 0) (J7 (cs:=[E4 l]) 1119 O O O O O) O (JLm (BL false) O (G7 (hK1 (Gr [(2,.dptr [I64 x.G3,I64 x.Tier,U8 x.Half]),(3,.ptr 1119 0)] [(1119,.box 57 [E4 l])] 1118 rfl rfl rfl ⟨⟨_,rfl,.boxEq rfl rfl⟩,G⟩ rfl (by exact⟨.ptr,.conv (.same rfl),G⟩) (Gr [(2,.dptr [I64 x.G3,I64 x.Tier,U8 x.Half]),(3,.dptr [E4 l])] [] 1119 rfl rfl rfl G rfl (by exact⟨.conv (.same rfl),.ptr,G⟩) (Js fun hK2=>Jr fun hK3=>(JLh (.dptr [I64 x.Tier,U8 x.Half]) (Ga Qq O O O) O (JLh (I64 x.Tier) (Ge Gb O O O) O (JLh (BL (decide (x.Tier≤0))) (J10 O O O) O (G7 (hK3 ?_))))))))))))))
 refine JCc O h ?_ ?_<;>intro h hb
 ·
  refine Jr fun hK4=>(JLm (BL true) O (G7 (hK4 (Gq (fin1 BL h)))))
 ·
  refine Gm (hK2 (Jr fun hK5=>(JLh (.fn 116 (Eo l x)) (G3d (cs:=(Eo l x)) O O) O (JLm (.fn 116 (Eo l x)) O (G7 (hK5 (Jr fun hK6=>(JLm (.fn 116 (Eo l x)) O (JLh (.dptr [U8 x.Half]) (Ga Q4 O O O) O (JLh (U8 x.Half) (Ge J6 O O O) O ?_))))))))))
  obtain⟨r7,hr7,h⟩:=Gd h
  refine JLh (BL r7) (Ga9 (args:=[U8 x.Half]) (caps:=(Eo l x)) O O (H35 x.Half l x r7 hr7) Hed ⟨O,O,G⟩ O) O (JLm (BL r7) O (JLo (.dptr [U8 x.Half]) [] O .scf G (fun hc=>Ga Q4 O O O) O (JLo (U8 x.Half) [15] O .scf ⟨Ua,G⟩ (fun hc=>Ge J6 O O O) O (JLo (BL (decide (x.Half=0))) [16] O .scf ⟨Ua,G⟩ (fun hc=>Ju O O O) O (JLo (BL (decide (x.Half=0))) [17] O .scf ⟨Ua,G⟩ (fun hc=>G4 O O) O (JLo (.fn 116 (Eo l x)) [] O .optt G (fun hc=>G4 O O) O ?_))))))
  obtain⟨r8,hr8,h⟩:=Gd h
  refine JLo (BL r8) [19] O .optt ⟨Ua,G⟩ (fun hc=>Ga9 (args:=[U8 1]) (caps:=(Eo l x)) O O (H35 1 l x r8 (Gw hc hr8)) Hed ⟨O,O,G⟩ O) O (G9 (u:=BL ((decide (x.Half=0))&&r8)) [(18,BL (decide (x.Half=0))),(20,_)] O O O .scf ⟨.all id,.part,G⟩ (fun hc=>J4 O O O O) ?_)
  refine JLo (BL ((decide (x.Half=0))&&r8)) [21] O .scf ⟨Ua,G⟩ (fun hc=>G4 O O) O (JLo (.fn 116 (Eo l x)) [] O .optt G (fun hc=>G4 O O) O ?_)
  obtain⟨r9,hr9,h⟩:=Gd h
  refine JLo (BL r9) [23] O .optt ⟨Ua,G⟩ (fun hc=>Ga9 (args:=[U8 2]) (caps:=(Eo l x)) O O (H35 2 l x r9 (Gw hc hr9)) Hed ⟨O,O,G⟩ O) O (G9 (u:=BL (((decide (x.Half=0))&&r8)&&r9)) [(22,BL ((decide (x.Half=0))&&r8)),(24,_)] O O O .scf ⟨.all id,.part,G⟩ (fun hc=>J4 O O O O) ?_)
  refine JLh (BL (r7||(((decide (x.Half=0))&&r8)&&r9))) (Rs O O O O) O (JLm (BL (r7||(((decide (x.Half=0))&&r8)&&r9))) O (G7 (hK6 (Gq (fin1 BL h)))))

def G87 (a:Int) (b:Int):Option Bool:=
 some (((decide (a=b))||(decide (a=0)))||(decide (b=0)))
theorem Hd5 (a:Int) (b:Int) (r:Bool) (h:G87 a b=some r):Pure Ej 118 [U8 a,U8 b] (·=BL r):=by
 unfold G87 at h
 refine Gy [.tmp 4] Tryz.func118 O O (Jr fun hK1=>(JLm (BL false) O (G7 (hK1 (Jr fun hK2=>(JLm (U8 a) O (JLm (U8 b) O (JLh (BL (decide (a=b))) (Ju O O O) O (JLm (BL (decide (a=b))) O (JLo (U8 a) [] O .scf G (fun hc=>G4 O O) O (JLo (BL (decide (a=0))) [9] O .scf ⟨Ua,G⟩ (fun hc=>Ju O O O) O (JLh (BL ((decide (a=b))||(decide (a=0)))) (Rs O O O O) O (JLm (BL ((decide (a=b))||(decide (a=0)))) O (JLo (U8 b) [] O .scf G (fun hc=>G4 O O) O (JLo (BL (decide (b=0))) [13] O .scf ⟨Ua,G⟩ (fun hc=>Ju O O O) O (JLh (BL (((decide (a=b))||(decide (a=0)))||(decide (b=0)))) (Rs O O O O) O (JLm (BL (((decide (a=b))||(decide (a=0)))||(decide (b=0)))) O (G7 (hK2 (Gq (fin1 BL h)))))))))))))))))))))

def Ge1 (a:Slot) (b:Slot):Option Bool:=
 bnd (bif ((decide (a.G3=b.G3))&&(decide (a.Tier=b.Tier))) then G87 a.Half b.Half else some default) fun r3=>
 some (((decide (a.G3=b.G3))&&(decide (a.Tier=b.Tier)))&&r3)
theorem J35 (a:Slot) (b:Slot) (r:Bool) (h:Ge1 a b=some r):Pure Ej 67 [.agg [I64 a.G3,I64 a.Tier,U8 a.Half],.agg [I64 b.G3,I64 b.Tier,U8 b.Half]] (·=BL r):=by
 unfold Ge1 at h
 refine Gy [.tmp 4] Tryz.func67 O O (Jr fun hK1=>(JLh (.ptr 1120 0) (J7 (cs:=[I64 a.G3,I64 a.Tier,U8 a.Half]) 1120 O O O O O) O (JLh (.ptr 1121 0) (J7 (cs:=[I64 b.G3,I64 b.Tier,U8 b.Half]) 1121 O O O O O) O (JLm (BL false) O (G7 (hK1 (Gr [(2,.dptr [I64 a.G3,I64 a.Tier,U8 a.Half]),(3,.ptr 1121 0)] [(1121,.box 71 [I64 b.G3,I64 b.Tier,U8 b.Half])] 1120 rfl rfl rfl ⟨⟨_,rfl,.boxEq rfl rfl⟩,G⟩ rfl (by exact⟨.ptr,.conv (.same rfl),G⟩) (Gr [(2,.dptr [I64 a.G3,I64 a.Tier,U8 a.Half]),(3,.dptr [I64 b.G3,I64 b.Tier,U8 b.Half])] [] 1121 rfl rfl rfl G rfl (by exact⟨.conv (.same rfl),.ptr,G⟩) ?_))))))))
 refine Jr fun hK2=>(JLh (.dptr [I64 a.G3,I64 a.Tier,U8 a.Half]) (Ga J0 O O O) O (JLh (I64 a.G3) (Ge Gb O O O) O (JLh (.dptr [I64 b.G3,I64 b.Tier,U8 b.Half]) (Ga J0 O O O) O (JLh (I64 b.G3) (Ge Gb O O O) O (JLh (BL (decide (a.G3=b.G3))) (Ju O O O) O (JLm (BL (decide (a.G3=b.G3))) O (JLo (.dptr [I64 a.Tier,U8 a.Half]) [] O .sct G (fun hc=>Ga Qq O O O) O (JLo (I64 a.Tier) [11] O .sct ⟨Ua,G⟩ (fun hc=>Ge Gb O O O) O (JLo (.dptr [I64 b.Tier,U8 b.Half]) [] O .sct G (fun hc=>Ga Qq O O O) O (JLo (I64 b.Tier) [13] O .sct ⟨Ua,G⟩ (fun hc=>Ge Gb O O O) O (JLo (BL (decide (a.Tier=b.Tier))) [12,14] O .sct ⟨Ua,Ua,G⟩ (fun hc=>Ju O O O) O (JLh (BL ((decide (a.G3=b.G3))&&(decide (a.Tier=b.Tier)))) (J4 O O O O) O (JLm (BL ((decide (a.G3=b.G3))&&(decide (a.Tier=b.Tier)))) O ?_)))))))))))))
 refine JLo (.dptr [U8 a.Half]) [] O .sct G (fun hc=>Ga Q4 O O O) O (JLo (U8 a.Half) [18] O .sct ⟨Ua,G⟩ (fun hc=>Ge J6 O O O) O (JLo (.dptr [U8 b.Half]) [] O .sct G (fun hc=>Ga Q4 O O O) O (JLo (U8 b.Half) [20] O .sct ⟨Ua,G⟩ (fun hc=>Ge J6 O O O) O ?_)))
 obtain⟨r3,hr3,h⟩:=Gd h
 refine JLo (BL r3) [19,21] O .sct ⟨Ua,Ua,G⟩ (fun hc=>Gi (args:=[U8 a.Half,U8 b.Half]) O (Hd5 a.Half b.Half r3 (Gw hc hr3)) Jc0 ⟨O,O,O,O,G⟩) O (JLh (BL (((decide (a.G3=b.G3))&&(decide (a.Tier=b.Tier)))&&r3)) (J4 O O O O) O (JLm (BL (((decide (a.G3=b.G3))&&(decide (a.Tier=b.Tier)))&&r3)) O (G7 (hK2 (Gq (fin1 BL h))))))

def H25 (b:Box):Option Int:=
 bif b.High then
 (some 2896)
 else
 (some 2591)
theorem Q7b (b:Box) (r:Int) (h:H25 b=some r):Pure Ej 160 [.agg (Box.cs b)] (·=I64 r):=by
 unfold H25 at h
 refine Gy [.tmp 2] Tryz.func160 O O (Jr fun hK1=>(JLh (.ptr 1207 0) (J7 (cs:=(Box.cs b)) 1207 O O O O O) O (JLm (I64 0) O (G7 (hK1 (Gr [(1,Ee b)] [] 1207 rfl rfl rfl G rfl (by exact⟨.ptr,G⟩) (Js fun hK2=>Jr fun hK3=>(JLh (.dptr ((Box.cs b).drop 3)) (Ga J2d O O O) O (JLh (BL b.High) (Ge Qv O O O) O (G7 (hK3 (JCc O h (fun h hb=>?_) (fun h hb=>?_)))))))))))))
 ·
  refine Jr fun hK4=>(JLm (I64 2896) O (G7 (hK4 (Gq (fin1 I64 h)))))
 ·
  refine Gm (hK2 (Jr fun hK5=>(JLm (I64 2591) O (G7 (hK5 (Gq (fin1 I64 h)))))))

def G86 (boxes:List Box) (l:List Stowed) (column:Int) (half:Int):Option Int:=
 each (fun y27 i27 (s27:Int) nx27=>
  jp (fun kj30=>
   bif ((decide (y27.Slot.G3=column))&&((decide (y27.Slot.Half=half))||(decide (y27.Slot.Half=0)))) then
   (bnd (G62 boxes y27.Box) fun r34=>
    bif r34.2 then
    (bnd (H25 r34.1) fun r36=>
     chk (s27+r36) fun v37=>
     kj30 v37)
    else
    (kj30 s27))
   else
   (kj30 s27)) fun(j30:Int)=>
  nx27 j30)
 (fun(s27:Int)=>
  some s27) l 0 0
theorem Hd4 (boxes:List Box) (l:List Stowed) (column:Int) (half:Int) (r:Int) (h:G86 boxes l column half=some r):Pure Ej 119 [E3 boxes,E2 l,I64 column,U8 half] (·=I64 r):=by
 unfold G86 at h
 refine Gy [.tmp 8] Tryz.func119 O O (Jr fun hK1=>(JLm (I64 0) O (G7 (hK1 (Jr fun hK2=>(JLm (I64 0) O (G7 (hK2 (Js fun hK3=>Jr fun hK4=>(JLm (E2 l) O (JLl Gx O O O fun hm15=>(JLm (I64 0) O (G7 (hK4 (Gp ?_)))))))))))))))
 obtain⟨b27,kx27,hb27,hkx27,h⟩:=Hv h
 refine Hc (fun i27 (s27:Int)=>each b27 kx27 (List.drop i27 l) i27 s27=some r) (fun i27 s27=>[(0,E3 boxes),(2,I64 column),(3,U8 half),(9,I64 s27),(14,E2 l),(15,Ei l.length),(16,Ei i27)]) (fun i27 s27=>[]) (fun i27=>l.length - i27) 0 0 h ⟨(.sm O O),G,rfl⟩ ?_
 clear h
 intro i27 s27 hi27 K27 e27
 refine Jr fun hK28=>(JLh (BL (decide ((i27:Int) < (l.length:Int)))) (Hy O O O) O (G7 (hK28 (Js fun hK29=>Gj O (fun hb=>?_) (fun hb=>?_)))))
 ·
  have hk27:=J8 hb
  obtain⟨y27,nx27,hy27,hn27,h⟩:=Hj hi27 hk27
  replace h:=R8 hb27 h
  refine Gm (hK29 ?_)
  obtain⟨kj30,hkj30,h⟩:=G09 h
  refine Yt (fun j30:Int=>kj30 j30=some r) (fun j30=>[(0,E3 boxes),(2,I64 column),(3,U8 half),(9,I64 j30),(14,E2 l),(15,Ei l.length),(16,Ei i27)]) (fun j30=>[]) (fun Kj30 ej30=>?_) ?_
  ·
   refine Gp (Jr fun hK31=>(JLh (Ec y27) (Gv (f:=Stowed.av) (xs:=l) (y:=y27) O O O Gx hy27 O) O (JLh (.agg (Stowed.cs y27)) (Gg Ru O O O) O (JLh (.ptr 1182 0) (Jn 1182 4 Ze O O) O (Je (u:=.junk) (J5 (u:=.agg (Stowed.cs y27)) (ds:=[I64 y27.Box,I64 y27.Slot.G3,I64 y27.Slot.Tier,U8 y27.Slot.Half]) G4a O O O O O O O O) (G7 (hK31 (Gr [(0,E3 boxes),(2,I64 column),(3,U8 half),(9,I64 s27),(11,Ec y27),(14,E2 l),(15,Ei l.length),(16,Ei i27)] [] 1182 rfl rfl rfl G rfl (by repeat' (first | exact .ptr | constructor)) ?_))))))))
   refine Jr fun hK32=>(JLh (.dptr ((Stowed.cs y27).drop 1)) (Ga Hs O O O) O (JLh (.dptr ((Stowed.cs y27).drop 1)) (Ga J0 O O O) O (JLh (I64 y27.Slot.G3) (Ge Gb O O O) O (JLm (I64 column) O (JLh (BL (decide (y27.Slot.G3=column))) (Ju O O O) O (JLm (BL (decide (y27.Slot.G3=column))) O (JLo (.dptr ((Stowed.cs y27).drop 1)) [] O .sct G (fun hc=>Ga Hs O O O) O (JLo (.dptr [U8 y27.Slot.Half]) [26] O .sct ⟨Ua,G⟩ (fun hc=>Ga Q4 O O O) O (JLo (U8 y27.Slot.Half) [27] O .sct ⟨Ua,G⟩ (fun hc=>Ge J6 O O O) O (JLo (U8 half) [] O .sct G (fun hc=>G4 O O) O (JLo (BL (decide (y27.Slot.Half=half))) [28,29] O .sct ⟨Ua,Ua,G⟩ (fun hc=>Ju O O O) O (JLo (BL (decide (y27.Slot.Half=half))) [30] O .sct ⟨Ua,G⟩ (fun hc=>G4 O O) O (JLo (.dptr ((Stowed.cs y27).drop 1)) [] O .optf G (fun hc=>Ga Hs O O O) O ?_)))))))))))))
   refine JLo (.dptr [U8 y27.Slot.Half]) [32] O .optf ⟨Ua,G⟩ (fun hc=>Ga Q4 O O O) O (JLo (U8 y27.Slot.Half) [33] O .optf ⟨Ua,G⟩ (fun hc=>Ge J6 O O O) O (JLo (BL (decide (y27.Slot.Half=0))) [34] O .optf ⟨Ua,G⟩ (fun hc=>Ju O O O) O (G9 (u:=BL ((decide (y27.Slot.Half=half))||(decide (y27.Slot.Half=0)))) [(31,BL (decide (y27.Slot.Half=half))),(35,_)] O O O .sct ⟨.all id,.part,G⟩ (fun hc=>Rs O O O O) ?_)))
   refine JLh (BL ((decide (y27.Slot.G3=column))&&((decide (y27.Slot.Half=half))||(decide (y27.Slot.Half=0))))) (J4 O O O O) O (G7 (hK32 (JCc O h (fun h hb=>?_) (fun h hb=>?_))))
   ·
    refine Jr fun hK33=>(JLm (E3 boxes) O (JLh (Ec y27) (Ga Hu O O O) O (JLh (I64 y27.Box) (Ge Gb O O O) O ?_)))
    obtain⟨r34,hr34,h⟩:=Gd h
    refine JLh (.tup [.agg (Box.cs r34.1),BL r34.2]) (Gi O (Gc8 boxes y27.Box r34 hr34) H54 ⟨O,O,O,O,G⟩) O (JLm (.tup [.agg (Box.cs r34.1),BL r34.2]) O (JLh (.agg (Box.cs r34.1)) (H4 O O O) O (JLh (BL r34.2) (H4 O O O) O (JLh (.ptr 1183 0) (Jn 1183 9 G16 O O) O (Je (u:=.junk) (J5 (u:=.agg (Box.cs r34.1)) (ds:=(Box.cs r34.1)) Zs O O O O O O O O) (JLm (BL r34.2) O (G7 (hK33 ?_))))))))
    refine Gr [(0,E3 boxes),(2,I64 column),(3,U8 half),(9,I64 s27),(12,Ee r34.1),(13,BL r34.2),(14,E2 l),(15,Ei l.length),(16,Ei i27)] [] 1183 rfl rfl rfl G rfl (by repeat' (first | exact .ptr | constructor)) (Jr fun hK35=>(JLm (BL r34.2) O (G7 (hK35 (JCc O h (fun h hb=>?_) (fun h hb=>?_))))))
    ·
     refine G2 (JLm (I64 s27) O (JLh (.agg (Box.cs r34.1)) (Gg G48 O O O) O ?_))
     obtain⟨r36,hr36,h⟩:=Gd h
     refine JLh (I64 r36) (Gi O (Q7b r34.1 r36 hr36) Qf4 ⟨O,O,G⟩) O ?_
     obtain⟨v37,hv37,h⟩:=Qk h
     refine JLh (I64 v37) (Ht hv37 O O O) O (JLm (I64 v37) O (G7 (ej30 _ _ v37 h ⟨(.sm O O),G,rfl⟩)))
    ·
     refine Gm (ej30 _ _ s27 h ⟨(.sm O O),G,rfl⟩)
   ·
    refine Gm (ej30 _ _ s27 h ⟨(.sm O O),G,rfl⟩)
  ·intro j30 h
   replace h:=app1 hkj30 h
   refine G2 (JLh (I64 ((i27+1:Nat):Int)) (Ht (Hb hk27 hm15) O O O) O (JLm (I64 ((i27+1:Nat):Int)) O (G7 (e27 _ _ (i27+1) j30 (app1 hn27 h) (by omega) ⟨(.sm O O),G,rfl⟩))))
 ·
  have h:=app1 hkx27 (Hk hi27 (H3 hb))
  refine Hi (hK3 (Jr fun hK38=>(JLm (I64 s27) O (JLm (I64 s27) O (G7 (hK38 (Gq (fin1 I64 h))))))))

def Ga3 (s:H0) (boxes:List Box) (l:List Stowed) (column:Int):Option Bool:=
 Qm s.Columns column fun y3=>
 bnd (bif (!(decide (y3.Height≤0))) then G86 boxes l column 1 else some default) fun r6=>
 bnd (bif ((!(decide (y3.Height≤0)))&&(decide (r6≤y3.Height))) then G86 boxes l column 2 else some default) fun r7=>
 some ((decide (y3.Height≤0))||((decide (r6≤y3.Height))&&(decide (r7≤y3.Height))))
theorem J34 (s:H0) (boxes:List Box) (l:List Stowed) (column:Int) (r:Bool) (h:Ga3 s boxes l column=some r):Pure Ej 68 [.agg (H0.cs s),E3 boxes,E2 l,I64 column] (·=BL r):=by
 unfold Ga3 at h
 refine Gy [.tmp 8] Tryz.func68 O O (Jr fun hK1=>(JLh (.ptr 1122 0) (J7 (cs:=(H0.cs s)) 1122 O O O O O) O (JLm (BL false) O (G7 (hK1 (Gr [(1,E3 boxes),(2,E2 l),(3,I64 column),(4,Eb s)] [] 1122 rfl rfl rfl G rfl (by repeat' (first | exact .ptr | constructor)) ?_))))))
 refine Jr fun hK2=>(JLh (Eb s) (Ga Hh O O O) O (JLh (E5 s.Columns) (Ge Ho O O O) O (JLm (I64 column) O ?_)))
 obtain⟨m4,y3,hm4,hy3,h⟩:=Rb h
 refine JLh (Ed y3) (Gv (f:=G3.av) (xs:=s.Columns) (y:=y3) O O O H6 hy3 hm4) O (JLh (.dptr ((G3.cs y3).drop 4)) (Ga G45 O O O) O (JLh (I64 y3.Height) (Ge Gb O O O) O (JLm (I64 y3.Height) O (G7 (hK2 (Jr fun hK5=>(JLm (I64 y3.Height) O (JLh (BL (decide (y3.Height≤0))) (J10 O O O) O (JLm (BL (decide (y3.Height≤0))) O (JLo (E3 boxes) [] O .scf G (fun hc=>G4 O O) O (JLo (E2 l) [] O .scf G (fun hc=>G4 O O) O (JLo (I64 column) [] O .scf G (fun hc=>G4 O O) O ?_))))))))))))
 obtain⟨r6,hr6,h⟩:=Gd h
 refine JLo (I64 r6) [19,20,21] O .scf ⟨Ua,Ua,Ua,G⟩ (fun hc=>Gi (args:=[E3 boxes,E2 l,I64 column,U8 1]) O (Hd4 boxes l column 1 r6 (Gw hc hr6)) Jbf ⟨O,O,O,O,O,O,O,O,G⟩) O (JLo (I64 y3.Height) [] O .scf G (fun hc=>G4 O O) O (JLo (BL (decide (r6≤y3.Height))) [22,23] O .scf ⟨Ua,Ua,G⟩ (fun hc=>J10 O O O) O (JLo (BL (decide (r6≤y3.Height))) [24] O .scf ⟨Ua,G⟩ (fun hc=>G4 O O) O (JLo (E3 boxes) [] O .optt G (fun hc=>G4 O O) O (JLo (E2 l) [] O .optt G (fun hc=>G4 O O) O (JLo (I64 column) [] O .optt G (fun hc=>G4 O O) O ?_))))))
 obtain⟨r7,hr7,h⟩:=Gd h
 refine JLo (I64 r7) [26,27,28] O .optt ⟨Ua,Ua,Ua,G⟩ (fun hc=>Gi (args:=[E3 boxes,E2 l,I64 column,U8 2]) O (Hd4 boxes l column 2 r7 (Gw hc hr7)) Jbf ⟨O,O,O,O,O,O,O,O,G⟩) O (JLo (I64 y3.Height) [] O .optt G (fun hc=>G4 O O) O (JLo (BL (decide (r7≤y3.Height))) [29,30] O .optt ⟨Ua,Ua,G⟩ (fun hc=>J10 O O O) O (G9 (u:=BL ((decide (r6≤y3.Height))&&(decide (r7≤y3.Height)))) [(25,BL (decide (r6≤y3.Height))),(31,_)] O O O .scf ⟨.all id,.part,G⟩ (fun hc=>J4 O O O O) ?_)))
 refine JLh (BL ((decide (y3.Height≤0))||((decide (r6≤y3.Height))&&(decide (r7≤y3.Height))))) (Rs O O O O) O (JLm (BL ((decide (y3.Height≤0))||((decide (r6≤y3.Height))&&(decide (r7≤y3.Height))))) O (G7 (hK5 (Gq (fin1 BL h)))))

def Yk (s:H0) (boxes:List Box) (l:List Stowed):Option Bool:=
 bnd (Gb0 s) fun r4=>
 bif (!r4) then
 (some false)
 else
 (bnd (Gb1 l) fun r7=>
  each (fun y10 i10 (s10:Unit) nx10=>
   bnd (G62 boxes y10.Box) fun r16=>
   bnd (bif ((!(!r16.2))&&(decide (0 < (i10:Int)))) then chk ((i10:Int) - 1) some else some 0) fun v19=>
   bnd (bif ((!(!r16.2))&&(decide (0 < (i10:Int)))) then Qm l v19 some else some default) fun y20=>
   bnd (bif (!((!r16.2)||((decide (0 < (i10:Int)))&&(decide (y10.Box≤y20.Box))))) then Gb2 s y10.Slot r16.1.Size else some default) fun r21=>
   bnd (bif (!(((!r16.2)||((decide (0 < (i10:Int)))&&(decide (y10.Box≤y20.Box))))||(!r21))) then Ge2 y10.Slot r7 else some default) fun r22=>
   bif ((((!r16.2)||((decide (0 < (i10:Int)))&&(decide (y10.Box≤y20.Box))))||(!r21))||(!r22)) then
   (some false)
   else
   (bnd (G70 (i10:Int) r7.length) fun m25=>
    each (fun y42 i42 (s42:Unit) nx42=>
     bnd (Ge1 y10.Slot y42) fun r48=>
     bif r48 then
     (some false)
     else
     (nx42 ()))
    (fun(s42:Unit)=>
     nx10 ()) (r7.take m25) 0 ()))
  (fun(s10:Unit)=>
   each (fun y64 i64 (s64:Unit) nx64=>
    bnd (Ga3 s boxes l (i64:Int)) fun r70=>
    bif (!r70) then
    (some false)
    else
    (nx64 ()))
   (fun(s64:Unit)=>
    some true) s.Columns 0 ()) l 0 ())
theorem Ga4 (s:H0) (boxes:List Box) (l:List Stowed) (r:Bool) (h:Yk s boxes l=some r):Pure Ej 32 [.agg (H0.cs s),E3 boxes,E2 l] (·=BL r):=by
 unfold Yk at h
 refine Gy [.tmp 6] Tryz.func32 O O (Jr fun hK1=>(JLh (.ptr 1056 0) (J7 (cs:=(H0.cs s)) 1056 O O O O O) O (JLm (BL false) O (G7 (hK1 (Gr [(1,E3 boxes),(2,E2 l),(3,Eb s)] [] 1056 rfl rfl rfl G rfl (by exact⟨.conv (.same rfl),.conv (.same rfl),.ptr,G⟩) (Js fun hK2=>?_)))))))
 refine Jr fun hK3=>(JLh (.agg (H0.cs s)) (Gg H7 O O O) O ?_)
 obtain⟨r4,hr4,h⟩:=Gd h
 refine JLh (BL r4) (Gi O (Q51.down s r4 hr4) R66 ⟨O,O,G⟩) O (JLh (BL (!r4)) (Q3 (b:=r4) O O) O (G7 (hK3 (JCc O h (fun h hb=>?_) (fun h hb=>?_)))))
 ·
  refine Jr fun hK5=>(JLm (BL false) O (G7 (hK5 (Gq (fin1 BL h)))))
 ·
  refine Gm (hK2 (Jr fun hK6=>(JLm (E2 l) O ?_)))
  obtain⟨r7,hr7,h⟩:=Gd h
  refine JLh (E4 r7) (Gi O (J07 l r7 hr7) Q0a ⟨O,O,G⟩) O (JLm (E4 r7) O (G7 (hK6 (Js fun hK8=>Jr fun hK9=>(JLm (E2 l) O (JLl Gx O O O fun hm21=>(JLm (I64 0) O (G7 (hK9 (Gp ?_))))))))))
  obtain⟨b10,kx10,hb10,hkx10,h⟩:=Hv h
  refine Hc (fun i10 (s10:Unit)=>each b10 kx10 (List.drop i10 l) i10 s10=some r) (fun i10 s10=>[(1,E3 boxes),(2,E2 l),(3,Eb s),(7,E4 r7),(20,E2 l),(21,Ei l.length),(22,Ei i10)]) (fun i10 s10=>[]) (fun i10=>l.length - i10) 0 () h ⟨(.sm O O),G,rfl⟩ ?_
  clear h
  intro i10 s10 hi10 K10 e10
  refine Jr fun hK11=>(JLh (BL (decide ((i10:Int) < (l.length:Int)))) (Hy O O O) O (G7 (hK11 (Js fun hK12=>Gj O (fun hb=>?_) (fun hb=>?_)))))
  ·
   have hk10:=J8 hb
   obtain⟨y10,nx10,hy10,hn10,h⟩:=Hj hi10 hk10
   replace h:=R8 hb10 h
   refine Gm (hK12 (Js fun hK13=>Gp (Jr fun hK14=>(JLm (Ei i10) O (JLh (Ec y10) (Gv (f:=Stowed.av) (xs:=l) (y:=y10) O O O Gx hy10 O) O (JLh (.agg (Stowed.cs y10)) (Gg Ru O O O) O (JLh (.ptr 1057 0) (Jn 1057 4 Ze O O) O (JLm (Ei i10) O (Je (u:=.junk) (J5 (u:=.agg (Stowed.cs y10)) (ds:=[I64 y10.Box,I64 y10.Slot.G3,I64 y10.Slot.Tier,U8 y10.Slot.Half]) G4a O O O O O O O O) (G7 (hK14 ?_)))))))))))
   refine Gr [(1,E3 boxes),(2,E2 l),(3,Eb s),(7,E4 r7),(8,Ei i10),(9,Ec y10),(20,E2 l),(21,Ei l.length),(22,Ei i10)] [] 1057 rfl rfl rfl G rfl (by repeat' (first | exact .ptr | constructor)) (Jr fun hK15=>(JLm (E3 boxes) O (JLh (Ec y10) (Ga Hu O O O) O (JLh (I64 y10.Box) (Ge Gb O O O) O ?_))))
   obtain⟨r16,hr16,h⟩:=Gd h
   refine JLh (.tup [.agg (Box.cs r16.1),BL r16.2]) (Gi O (Gc8 boxes y10.Box r16 hr16) H54 ⟨O,O,O,O,G⟩) O (JLm (.tup [.agg (Box.cs r16.1),BL r16.2]) O (JLh (.agg (Box.cs r16.1)) (H4 O O O) O (JLh (BL r16.2) (H4 O O O) O (JLh (.ptr 1058 0) (Jn 1058 9 G16 O O) O (Je (u:=.junk) (J5 (u:=.agg (Box.cs r16.1)) (ds:=(Box.cs r16.1)) Zs O O O O O O O O) (JLm (BL r16.2) O (G7 (hK15 ?_))))))))
   refine Gr [(1,E3 boxes),(2,E2 l),(3,Eb s),(7,E4 r7),(8,Ei i10),(9,Ec y10),(10,Ee r16.1),(11,BL r16.2),(20,E2 l),(21,Ei l.length),(22,Ei i10)] [] 1058 rfl rfl rfl G rfl (by repeat' (first | exact .ptr | constructor)) (Js fun hK17=>Js fun hK18=>?_)
   obtain⟨v19,hv19,h⟩:=Gd h
   obtain⟨y20,hy20,h⟩:=Gd h
   obtain⟨r21,hr21,h⟩:=Gd h
   obtain⟨r22,hr22,h⟩:=Gd h
   refine JC_d0 Jb (by kernel_rfl) (Dq (BL r16.2) (G4 O O) O (Dq (BL (!r16.2)) (Q3 (b:=r16.2) O O) O (Dq (BL (!r16.2)) (G4 O O) O (Do (Ei i10) [] O .scf G (fun hc=>G4 O O) O (Do (BL (decide (0 < (i10:Int)))) [37] O .scf ⟨Ua,G⟩ (fun hc=>G41 O O O) O (Do (BL (decide (0 < (i10:Int)))) [38] O .scf ⟨Ua,G⟩ (fun hc=>G4 O O) O (Do (Ec y10) [] O .optt G (fun hc=>Ga Hu O O O) O (Do (I64 y10.Box) [40] O .optt ⟨Ua,G⟩ (fun hc=>Ge Gb O O O) O (Do (E2 l) [] O .optt G (fun hc=>G4 O O) O (Do (Ei i10) [] O .optt G (fun hc=>G4 O O) O (Do (I64 v19) [43] O .optt ⟨Ua,G⟩ (fun hc=>Ge4 (G2d (Gw hc hv19)) O O O) O (Do (Ec y20) [42,44] O .optt ⟨Ua,Ua,G⟩ (fun hc=>(match Q0 (Gw hc hy20) with | ⟨_,hm_,hy_⟩=>Gv (f:=Stowed.av) (xs:=l) (y:=y20) O O O Gx hy_ hm_)) O (Do (Ec y20) [45] O .optt ⟨Ua,G⟩ (fun hc=>Ga Hu O O O) O ?_)))))))))))))
   refine Do (I64 y20.Box) [46] O .optt ⟨Ua,G⟩ (fun hc=>Ge Gb O O O) O (Do (BL (decide (y10.Box≤y20.Box))) [41,47] O .optt ⟨Ua,Ua,G⟩ (fun hc=>J10 O O O) O (Dg (.opt (!(!r16.2)) (BL ((decide (0 < (i10:Int)))&&(decide (y10.Box≤y20.Box))))) (Gh [(39,BL (decide (0 < (i10:Int)))),(48,_)] O O O .scf ⟨.all id,.part,G⟩ (fun hc=>J4 O O O O) O) O (Dq (BL ((!r16.2)||((decide (0 < (i10:Int)))&&(decide (y10.Box≤y20.Box))))) (Rs O O O O) O (Dq (BL ((!r16.2)||((decide (0 < (i10:Int)))&&(decide (y10.Box≤y20.Box))))) (G4 O O) O (Do (.agg (H0.cs s)) [] O .scf G (fun hc=>Gg H7 O O O) O (Do (.dptr ((Stowed.cs y10).drop 1)) [] O .scf G (fun hc=>Ga Hs O O O) O (Do (.agg ((Stowed.cs y10).drop 1)) [53] O .scf ⟨Ua,G⟩ (fun hc=>Gg Jh O O O) O (Do (.dptr ((Box.cs r16.1).drop 2)) [] O .scf G (fun hc=>Ga Rm O O O) O (Do (U8 r16.1.Size) [55] O .scf ⟨Ua,G⟩ (fun hc=>Ge J6 O O O) O (Do (BL r21) [52,54,56] O .scf ⟨Ua,Ua,Ua,G⟩ (fun hc=>Gi (args:=[.agg (H0.cs s),.agg ((Stowed.cs y10).drop 1),U8 r16.1.Size]) O (J09 s y10.Slot r16.1.Size r21 (Gw hc hr21)) Q09 ⟨O,O,O,O,O,O,G⟩) O (Do (BL (!r21)) [57] O .scf ⟨Ua,G⟩ (fun hc=>Q3 (b:=r21) O O) O (Dq (BL (((!r16.2)||((decide (0 < (i10:Int)))&&(decide (y10.Box≤y20.Box))))||(!r21))) (Rs O O O O) O (Dq (BL (((!r16.2)||((decide (0 < (i10:Int)))&&(decide (y10.Box≤y20.Box))))||(!r21))) (G4 O O) O ?_)))))))))))))
   refine Do (.dptr ((Stowed.cs y10).drop 1)) [] O .scf G (fun hc=>Ga Hs O O O) O (Do (.agg ((Stowed.cs y10).drop 1)) [61] O .scf ⟨Ua,G⟩ (fun hc=>Gg Jh O O O) O (Do (E4 r7) [] O .scf G (fun hc=>G4 O O) O (Do (BL r22) [62,63] O .scf ⟨Ua,Ua,G⟩ (fun hc=>Gi (args:=[.agg ((Stowed.cs y10).drop 1),E4 r7]) O (J36 y10.Slot r7 r22 (Gw hc hr22)) Q08 ⟨O,O,O,O,G⟩) O (Do (BL (!r22)) [64] O .scf ⟨Ua,G⟩ (fun hc=>Q3 (b:=r22) O O) O (Dq (BL ((((!r16.2)||((decide (0 < (i10:Int)))&&(decide (y10.Box≤y20.Box))))||(!r21))||(!r22))) (Rs O O O O) O (Dnil (hK18 (JCc O h (fun h hb=>?_) (fun h hb=>?_)))))))))
   ·
    refine Jr fun hK23=>(JLm (BL false) O (G7 (hK23 (Gq (fin1 BL h)))))
   ·
    refine Gm (hK17 (Jr fun hK24=>(JLm (E4 r7) O (JLm (Ei i10) O ?_))))
    obtain⟨m25,hm25,h⟩:=Gd h
    refine JLh (E4 (r7.take m25)) (Ra3 (f:=Slot.av) (xs:=r7) O O O Ja (Zv hm25)) O (JLl Ja O O O fun hm70=>(JLm (I64 0) O (G7 (hK24 (Gp ?_)))))
    obtain⟨b42,kx42,hb42,hkx42,h⟩:=Hv h
    refine Hc (fun i42 (s42:Unit)=>each b42 kx42 (List.drop i42 (r7.take m25)) i42 s42=some r) (fun i42 s42=>[(1,E3 boxes),(2,E2 l),(3,Eb s),(7,E4 r7),(9,Ec y10),(20,E2 l),(21,Ei l.length),(22,Ei i10),(69,E4 (r7.take m25)),(70,I64 ((r7.take m25).length:Int)),(71,Ei i42)]) (fun i42 s42=>[]) (fun i42=>(r7.take m25).length - i42) 0 () h ⟨(.sm O O),G,rfl⟩ ?_
    clear h
    intro i42 s42 hi42 K42 e42
    refine Jr fun hK43=>(JLh (BL (decide ((i42:Int) < ((r7.take m25).length:Int)))) (Hy O O O) O (G7 (hK43 (Js fun hK44=>Gj O (fun hb=>?_) (fun hb=>?_)))))
    ·
     have hk42:=J8 hb
     obtain⟨y42,nx42,hy42,hn42,h⟩:=Hj hi42 hk42
     replace h:=R8 hb42 h
     refine Gm (hK44 (Js fun hK45=>Gp (Jr fun hK46=>(JLh (Eg y42) (Gv (f:=Slot.av) (xs:=(r7.take m25)) (y:=y42) O O O Ja hy42 O) O (JLh (.agg (Slot.cs y42)) (Gg Jh O O O) O (JLh (.ptr 1059 0) (Jn 1059 3 G15 O O) O (Je (u:=.junk) (J5 (u:=.agg (Slot.cs y42)) (ds:=[I64 y42.G3,I64 y42.Tier,U8 y42.Half]) H50 O O O O O O O O) (G7 (hK46 ?_)))))))))
     refine Gr [(1,E3 boxes),(2,E2 l),(3,Eb s),(7,E4 r7),(9,Ec y10),(13,Eg y42),(20,E2 l),(21,Ei l.length),(22,Ei i10),(69,E4 (r7.take m25)),(70,I64 ((r7.take m25).length:Int)),(71,Ei i42)] [] 1059 rfl rfl rfl G rfl (by repeat' (first | exact .ptr | constructor)) ?_
     refine Jr fun hK47=>(JLh (.dptr ((Stowed.cs y10).drop 1)) (Ga Hs O O O) O (JLh (.agg ((Stowed.cs y10).drop 1)) (Gg Jh O O O) O (JLh (.agg (Slot.cs y42)) (Gg Jh O O O) O ?_)))
     obtain⟨r48,hr48,h⟩:=Gd h
     refine JLh (BL r48) (Gi O (J35 y10.Slot y42 r48 hr48) Q07 ⟨O,O,O,O,G⟩) O (G7 (hK47 (JCc O h (fun h hb=>?_) (fun h hb=>?_))))
     ·
      refine Jr fun hK49=>(JLm (BL false) O (G7 (hK49 (Gq (fin1 BL h)))))
     ·
      refine Gm (hK45 (G2 (JLh (I64 ((i42+1:Nat):Int)) (Ht (Hb hk42 hm70) O O O) O (JLm (I64 ((i42+1:Nat):Int)) O (G7 (e42 _ _ (i42+1) () (app1 hn42 h) (by omega) ⟨(.sm O O),G,rfl⟩))))))
    ·
     have h:=app1 hkx42 (Hk hi42 (H3 hb))
     refine Hi (hK13 (G2 (JLh (I64 ((i10+1:Nat):Int)) (Ht (Hb hk10 hm21) O O O) O (JLm (I64 ((i10+1:Nat):Int)) O (G7 (e10 _ _ (i10+1) () (app1 hn10 h) (by omega) ⟨(.sm O O),G,rfl⟩))))))
  ·
   have h:=app1 hkx10 (Hk hi10 (H3 hb))
   refine Hi (hK8 (Js fun hK50=>Jr fun hK51=>(JLh (Eb s) (Ga Hh O O O) O (JLh (E5 s.Columns) (Ge Ho O O O) O (JLl H6 O O O fun hm83=>(JLm (I64 0) O (G7 (hK51 (Gp ?_)))))))))
   obtain⟨b64,kx64,hb64,hkx64,h⟩:=Hv h
   refine Hc (fun i64 (s64:Unit)=>each b64 kx64 (List.drop i64 s.Columns) i64 s64=some r) (fun i64 s64=>[(1,E3 boxes),(2,E2 l),(3,Eb s),(83,Ei s.Columns.length),(84,Ei i64)]) (fun i64 s64=>[]) (fun i64=>s.Columns.length - i64) 0 () h ⟨(.sm O O),G,rfl⟩ ?_
   clear h
   intro i64 s64 hi64 K64 e64
   refine Jr fun hK65=>(JLh (BL (decide ((i64:Int) < (s.Columns.length:Int)))) (Hy O O O) O (G7 (hK65 (Js fun hK66=>Gj O (fun hb=>?_) (fun hb=>?_)))))
   ·
    have hk64:=J8 hb
    obtain⟨y64,nx64,hy64,hn64,h⟩:=Hj hi64 hk64
    replace h:=R8 hb64 h
    refine Gm (hK66 (Js fun hK67=>Gp (Jr fun hK68=>(JLm (Ei i64) O (JLm (Ei i64) O (G7 (hK68 (Jr fun hK69=>(JLh (.agg (H0.cs s)) (Gg H7 O O O) O (JLm (E3 boxes) O (JLm (E2 l) O (JLm (Ei i64) O ?_))))))))))))
    obtain⟨r70,hr70,h⟩:=Gd h
    refine JLh (BL r70) (Gi O (J34 s boxes l (i64:Int) r70 hr70) Q06 ⟨O,O,O,O,O,O,O,O,G⟩) O (JLh (BL (!r70)) (Q3 (b:=r70) O O) O (G7 (hK69 (JCc O h (fun h hb=>?_) (fun h hb=>?_)))))
    ·
     refine Jr fun hK71=>(JLm (BL false) O (G7 (hK71 (Gq (fin1 BL h)))))
    ·
     refine Gm (hK67 (G2 (JLh (I64 ((i64+1:Nat):Int)) (Ht (Hb hk64 hm83) O O O) O (JLm (I64 ((i64+1:Nat):Int)) O (G7 (e64 _ _ (i64+1) () (app1 hn64 h) (by omega) ⟨(.sm O O),G,rfl⟩))))))
   ·
    have h:=app1 hkx64 (Hk hi64 (H3 hb))
    refine Hi (hK50 (Jr fun hK72=>(JLm (BL true) O (G7 (hK72 (Gq (fin1 BL h)))))))

def Yy (s:H0) (boxes:List Box) (l:List Stowed) (open_:List Int):Option Bool:=
 each (fun y22 i22 (s22:Unit) nx22=>
  bnd (bif ((!((decide (y22 < 0))||(decide ((s.Covers.length:Int)≤y22))))&&(decide (0 < (i22:Int)))) then chk ((i22:Int) - 1) some else some 0) fun v28=>
  bnd (bif ((!((decide (y22 < 0))||(decide ((s.Covers.length:Int)≤y22))))&&(decide (0 < (i22:Int)))) then Qm open_ v28 some else some default) fun y29=>
  bif (((decide (y22 < 0))||(decide ((s.Covers.length:Int)≤y22)))||((decide (0 < (i22:Int)))&&(decide (y22≤y29)))) then
  (some false)
  else
  (nx22 ()))
 (fun(s22:Unit)=>
  bnd (Yk s boxes l) fun r32=>
  some r32) open_ 0 ()
theorem H0c (s:H0) (boxes:List Box) (l:List Stowed) (open_:List Int) (r:Bool) (h:Yy s boxes l open_=some r):Pure Ej 80 [.agg (H0.cs s),E3 boxes,E2 l,E1 open_] (·=BL r):=by
 unfold Yy at h
 refine Gy [.tmp 8] Tryz.func80 O O (Jr fun hK1=>(JLh (.ptr 1134 0) (J7 (cs:=(H0.cs s)) 1134 O O O O O) O (JLm (BL false) O (G7 (hK1 (Gr [(1,E3 boxes),(2,E2 l),(3,E1 open_),(4,Eb s)] [] 1134 rfl rfl rfl G rfl (by repeat' (first | exact .ptr | constructor)) (Js fun hK2=>?_)))))))
 refine Jr fun hK3=>(JLm (E1 open_) O (JLl Gn O O O fun hm12=>(JLm (I64 0) O (G7 (hK3 (Gp ?_))))))
 obtain⟨b22,kx22,hb22,hkx22,h⟩:=Hv h
 refine Hc (fun i22 (s22:Unit)=>each b22 kx22 (List.drop i22 open_) i22 s22=some r) (fun i22 s22=>[(1,E3 boxes),(2,E2 l),(3,E1 open_),(4,Eb s),(11,E1 open_),(12,Ei open_.length),(13,Ei i22)]) (fun i22 s22=>[]) (fun i22=>open_.length - i22) 0 () h ⟨(.sm O O),G,rfl⟩ ?_
 clear h
 intro i22 s22 hi22 K22 e22
 refine Jr fun hK23=>(JLh (BL (decide ((i22:Int) < (open_.length:Int)))) (Hy O O O) O (G7 (hK23 (Js fun hK24=>Gj O (fun hb=>?_) (fun hb=>?_)))))
 ·
  have hk22:=J8 hb
  obtain⟨y22,nx22,hy22,hn22,h⟩:=Hj hi22 hk22
  replace h:=R8 hb22 h
  refine Gm (hK24 (Js fun hK25=>Gp (Jr fun hK26=>(JLm (Ei i22) O (JLh (.dptr [I64 y22]) (Gv (f:=I64) (xs:=open_) (y:=y22) O O O Gn hy22 O) O (JLh (I64 y22) (Ge Gb O O O) O (JLm (Ei i22) O (JLm (I64 y22) O (G7 (hK26 ?_))))))))))
  refine Jr fun hK27=>(JLm (I64 y22) O (JLh (BL (decide (y22 < 0))) (Hy O O O) O (JLm (BL (decide (y22 < 0))) O (JLo (I64 y22) [] O .scf G (fun hc=>G4 O O) O (JLo (.dptr [E6 s.Covers,I64 s.Light.Kilos,I64 s.Light.X,I64 s.Light.Y,I64 s.Light.Z,E8 s.Rows,E7 s.Frames,E9 s.Tanks,I64 s.G1.Tolerance,I64 s.G1.Trim,I64 s.G1.List_,I64 s.G1.Stability]) [] O .scf G (fun hc=>Ga Jg O O O) O (JLo (E6 s.Covers) [22] O .scf ⟨Ua,G⟩ (fun hc=>Ge Jv O O O) O (JLo (Ei s.Covers.length) [23] O .scf ⟨Ua,G⟩ (fun hc=>Qs (f:=G8.av) (xs:=s.Covers) Hq O O) O (JLo (BL (decide ((s.Covers.length:Int)≤y22))) [21,24] O .scf ⟨Ua,Ua,G⟩ (fun hc=>G13 O O O) O (JLh (BL ((decide (y22 < 0))||(decide ((s.Covers.length:Int)≤y22)))) (Rs O O O O) O (JLm (BL ((decide (y22 < 0))||(decide ((s.Covers.length:Int)≤y22)))) O (JLo (Ei i22) [] O .scf G (fun hc=>G4 O O) O (JLo (BL (decide (0 < (i22:Int)))) [28] O .scf ⟨Ua,G⟩ (fun hc=>G41 O O O) O (JLo (BL (decide (0 < (i22:Int)))) [29] O .scf ⟨Ua,G⟩ (fun hc=>G4 O O) O ?_)))))))))))))
  refine JLo (I64 y22) [] O .optt G (fun hc=>G4 O O) O (JLo (E1 open_) [] O .optt G (fun hc=>G4 O O) O (JLo (Ei i22) [] O .optt G (fun hc=>G4 O O) O ?_))
  obtain⟨v28,hv28,h⟩:=Gd h
  refine JLo (I64 v28) [33] O .optt ⟨Ua,G⟩ (fun hc=>Ge4 (G2d (Gw hc hv28)) O O O) O ?_
  obtain⟨y29,hy29,h⟩:=Gd h
  refine JLo (.dptr [I64 y29]) [32,34] O .optt ⟨Ua,Ua,G⟩ (fun hc=>(match Q0 (Gw hc hy29) with | ⟨_,hm_,hy_⟩=>Gv (f:=I64) (xs:=open_) (y:=y29) O O O Gn hy_ hm_)) O (JLo (I64 y29) [35] O .optt ⟨Ua,G⟩ (fun hc=>Ge Gb O O O) O (JLo (BL (decide (y22≤y29))) [31,36] O .optt ⟨Ua,Ua,G⟩ (fun hc=>J10 O O O) O (G9 (u:=BL ((decide (0 < (i22:Int)))&&(decide (y22≤y29)))) [(30,BL (decide (0 < (i22:Int)))),(37,_)] O O O .scf ⟨.all id,.part,G⟩ (fun hc=>J4 O O O O) ?_)))
  refine JLh (BL (((decide (y22 < 0))||(decide ((s.Covers.length:Int)≤y22)))||((decide (0 < (i22:Int)))&&(decide (y22≤y29))))) (Rs O O O O) O (G7 (hK27 (JCc O h (fun h hb=>?_) (fun h hb=>?_))))
  ·
   refine Jr fun hK30=>(JLm (BL false) O (G7 (hK30 (Gq (fin1 BL h)))))
  ·
   refine Gm (hK25 (G2 (JLh (I64 ((i22+1:Nat):Int)) (Ht (Hb hk22 hm12) O O O) O (JLm (I64 ((i22+1:Nat):Int)) O (G7 (e22 _ _ (i22+1) () (app1 hn22 h) (by omega) ⟨(.sm O O),G,rfl⟩))))))
 ·
  have h:=app1 hkx22 (Hk hi22 (H3 hb))
  refine Hi (hK2 (Jr fun hK31=>(JLh (.agg (H0.cs s)) (Gg H7 O O O) O (JLm (E3 boxes) O (JLm (E2 l) O ?_)))))
  obtain⟨r32,hr32,h⟩:=Gd h
  refine JLh (BL r32) (Gi O (Ga4 s boxes l r32 hr32) H56 ⟨O,O,O,O,O,O,G⟩) O (JLm (BL r32) O (G7 (hK31 (Gq (fin1 BL h)))))

def Gc7 (x:Stowed) (p1:Int):Option Bool:=
 some (decide (x.Box=p1))
theorem Je5 (x:Stowed) (p1:Int) (r:Bool) (h:Gc7 x p1=some r):Pure Ej 129 [.agg (Stowed.cs x),.dptr [I64 p1]] (·=BL r):=by
 unfold Gc7 at h
 refine Gy [.tmp 3] Tryz.func129 O O (Jr fun hK1=>(JLh (.ptr 1189 0) (J7 (cs:=[I64 x.Box,I64 x.Slot.G3,I64 x.Slot.Tier,U8 x.Slot.Half]) 1189 O O O O O) O (JLm (BL false) O (G7 (hK1 (Gr [(1,.dptr [I64 p1]),(2,Ec x)] [] 1189 rfl rfl rfl G rfl (by exact⟨.conv (.same rfl),.ptr,G⟩) (Jr fun hK2=>(JLh (Ec x) (Ga Hu O O O) O (JLh (I64 x.Box) (Ge Gb O O O) O (JLh (I64 p1) (Ge Gb O O O) O (JLh (BL (decide (x.Box=p1))) (Ju O O O) O (JLm (BL (decide (x.Box=p1))) O (G7 (hK2 (Gq (fin1 BL h))))))))))))))))

def R0 (s:List Stowed) (f:Stowed→Option Bool):Option Int:=
 each (fun y20 i20 (s20:Unit) nx20=>
  bnd (f y20) fun r26=>
  bif r26 then
  (some (i20:Int))
  else
  (nx20 ()))
 (fun(s20:Unit)=>
  some (-1)) s 0 ()
theorem G71 (s:List Stowed) (f:Stowed→Option Bool) (f_f:FuncId) (f_c:List AV) (f_B:Hf Ej f_f=true) (f_d:G2c (fun _=>false) f_c=true) (f_w:∀ a0 q,f a0=some q→Pure Ej f_f ([.agg (Stowed.cs a0)]++f_c) (·=BL q)) (r:Int) (h:R0 s f=some r):Pure Ej 120 [E2 s,.fn f_f f_c] (·=I64 r):=by
 unfold R0 at h
 refine Gy [.tmp 4] Tryz.func120 O O (Jr fun hK1=>(JLm (I64 0) O (G7 (hK1 (Js fun hK2=>Jr fun hK3=>(JLm (E2 s) O (JLl Gx O O O fun hm7=>(JLm (I64 0) O (G7 (hK3 (Gp ?_)))))))))))
 obtain⟨b20,kx20,hb20,hkx20,h⟩:=Hv h
 refine Hc (fun i20 (s20:Unit)=>each b20 kx20 (List.drop i20 s) i20 s20=some r) (fun i20 s20=>[(0,E2 s),(1,.fn f_f f_c),(7,Ei s.length),(8,Ei i20)]) (fun i20 s20=>[]) (fun i20=>s.length - i20) 0 () h ⟨⟨.same O,.same (R7 _ _ f_d),.same O,.same O,G⟩,G,O⟩ ?_
 clear h
 intro i20 s20 hi20 K20 e20
 refine Jr fun hK21=>(JLh (BL (decide ((i20:Int) < (s.length:Int)))) (Hy O O O) O (G7 (hK21 (Js fun hK22=>Gj O (fun hb=>?_) (fun hb=>?_)))))
 ·
  have hk20:=J8 hb
  obtain⟨y20,nx20,hy20,hn20,h⟩:=Hj hi20 hk20
  replace h:=R8 hb20 h
  refine Gm (hK22 (Js fun hK23=>Gp (Jr fun hK24=>(JLm (Ei i20) O (JLm (Ei i20) O (G7 (hK24 (Jr fun hK25=>(JLm (.fn f_f f_c) O (JLm (E2 s) O (JLm (Ei i20) O (JLh (Ec y20) (Gv (f:=Stowed.av) (xs:=s) (y:=y20) O O O Gx hy20 O) O (JLh (.agg (Stowed.cs y20)) (Gg Ru O O O) O ?_)))))))))))))
  obtain⟨r26,hr26,h⟩:=Gd h
  refine JLh (BL r26) (Ga9 (args:=[.agg (Stowed.cs y20)]) (caps:=f_c) O O (f_w y20 _ hr26) f_B ⟨O,O,G⟩ f_d) O (G7 (hK25 (JCc O h (fun h hb=>?_) (fun h hb=>?_))))
  ·
   refine Jr fun hK27=>(JLm (Ei i20) O (JLm (Ei i20) O (G7 (hK27 (Gq (fin1 I64 h))))))
  ·
   refine Gm (hK23 (G2 (JLh (I64 ((i20+1:Nat):Int)) (Ht (Hb hk20 hm7) O O O) O (JLm (I64 ((i20+1:Nat):Int)) O (G7 (e20 _ _ (i20+1) () (app1 hn20 h) (by omega) ⟨⟨.same rfl,.same (R7 _ _ f_d),.same rfl,.same rfl,G⟩,G,rfl⟩))))))
 ·
  have h:=app1 hkx20 (Hk hi20 (H3 hb))
  refine Hi (hK2 (Jr fun hK28=>(JLm (I64 (-1)) O (G7 (hK28 (Gq (fin1 I64 h)))))))

def G31 (l:List Stowed) (id_:Int):Option Int:=
 bnd (R0 l (fun z0=>Gc7 z0 id_)) fun r3=>
 some r3
theorem H1b (l:List Stowed) (id_:Int) (r:Int) (h:G31 l id_=some r):Pure Ej 84 [E2 l,I64 id_] (·=I64 r):=by
 unfold G31 at h
 refine Gy [.tmp 4] Tryz.func84 O O (Jr fun hK1=>(JLh (.ptr 1139 0) (J7 (cs:=[I64 id_]) 1139 O O O O O) O (JLm (I64 0) O (G7 (hK1 (Gr [(0,E2 l),(3,.dptr [I64 id_])] [] 1139 rfl rfl rfl G rfl (by exact⟨.conv (.same rfl),.ptr,G⟩) (Jr fun hK2=>(JLm (E2 l) O (JLh (.fn 129 [.dptr [I64 id_]]) (G3d (cs:=[.dptr [I64 id_]]) O O) O ?_)))))))))
 obtain⟨r3,hr3,h⟩:=Gd h
 refine JLh (I64 r3) (Gi O (G71 l (fun z0=>Gc7 z0 id_) 129 [.dptr [I64 id_]] R03 O (fun z0 q hq=>Je5 z0 id_ q hq) r3 hr3) Jbe ⟨O,O,O,O,G⟩) O (JLm (I64 r3) O (G7 (hK2 (Gq (fin1 I64 h)))))

def H26 (a:Slot) (b:Slot):Option Bool:=
 bnd (bif ((decide (a.G3=b.G3))&&(decide (b.Tier < a.Tier))) then G87 a.Half b.Half else some default) fun r3=>
 some (((decide (a.G3=b.G3))&&(decide (b.Tier < a.Tier)))&&r3)
theorem Q7d (a:Slot) (b:Slot) (r:Bool) (h:H26 a b=some r):Pure Ej 128 [.agg [I64 a.G3,I64 a.Tier,U8 a.Half],.agg [I64 b.G3,I64 b.Tier,U8 b.Half]] (·=BL r):=by
 unfold H26 at h
 refine Gy [.tmp 4] Tryz.func128 O O (Jr fun hK1=>(JLh (.ptr 1187 0) (J7 (cs:=[I64 a.G3,I64 a.Tier,U8 a.Half]) 1187 O O O O O) O (JLh (.ptr 1188 0) (J7 (cs:=[I64 b.G3,I64 b.Tier,U8 b.Half]) 1188 O O O O O) O (JLm (BL false) O (G7 (hK1 (Gr [(2,.dptr [I64 a.G3,I64 a.Tier,U8 a.Half]),(3,.ptr 1188 0)] [(1188,.box 71 [I64 b.G3,I64 b.Tier,U8 b.Half])] 1187 rfl rfl rfl ⟨⟨_,rfl,.boxEq rfl rfl⟩,G⟩ rfl (by exact⟨.ptr,.conv (.same rfl),G⟩) (Gr [(2,.dptr [I64 a.G3,I64 a.Tier,U8 a.Half]),(3,.dptr [I64 b.G3,I64 b.Tier,U8 b.Half])] [] 1188 rfl rfl rfl G rfl (by exact⟨.conv (.same rfl),.ptr,G⟩) ?_))))))))
 refine Jr fun hK2=>(JLh (.dptr [I64 a.G3,I64 a.Tier,U8 a.Half]) (Ga J0 O O O) O (JLh (I64 a.G3) (Ge Gb O O O) O (JLh (.dptr [I64 b.G3,I64 b.Tier,U8 b.Half]) (Ga J0 O O O) O (JLh (I64 b.G3) (Ge Gb O O O) O (JLh (BL (decide (a.G3=b.G3))) (Ju O O O) O (JLm (BL (decide (a.G3=b.G3))) O (JLo (.dptr [I64 a.Tier,U8 a.Half]) [] O .sct G (fun hc=>Ga Qq O O O) O (JLo (I64 a.Tier) [11] O .sct ⟨Ua,G⟩ (fun hc=>Ge Gb O O O) O (JLo (.dptr [I64 b.Tier,U8 b.Half]) [] O .sct G (fun hc=>Ga Qq O O O) O (JLo (I64 b.Tier) [13] O .sct ⟨Ua,G⟩ (fun hc=>Ge Gb O O O) O (JLo (BL (decide (b.Tier < a.Tier))) [12,14] O .sct ⟨Ua,Ua,G⟩ (fun hc=>G41 O O O) O (JLh (BL ((decide (a.G3=b.G3))&&(decide (b.Tier < a.Tier)))) (J4 O O O O) O (JLm (BL ((decide (a.G3=b.G3))&&(decide (b.Tier < a.Tier)))) O ?_)))))))))))))
 refine JLo (.dptr [U8 a.Half]) [] O .sct G (fun hc=>Ga Q4 O O O) O (JLo (U8 a.Half) [18] O .sct ⟨Ua,G⟩ (fun hc=>Ge J6 O O O) O (JLo (.dptr [U8 b.Half]) [] O .sct G (fun hc=>Ga Q4 O O O) O (JLo (U8 b.Half) [20] O .sct ⟨Ua,G⟩ (fun hc=>Ge J6 O O O) O ?_)))
 obtain⟨r3,hr3,h⟩:=Gd h
 refine JLo (BL r3) [19,21] O .sct ⟨Ua,Ua,G⟩ (fun hc=>Gi (args:=[U8 a.Half,U8 b.Half]) O (Hd5 a.Half b.Half r3 (Gw hc hr3)) Jc0 ⟨O,O,O,O,G⟩) O (JLh (BL (((decide (a.G3=b.G3))&&(decide (b.Tier < a.Tier)))&&r3)) (J4 O O O O) O (JLm (BL (((decide (a.G3=b.G3))&&(decide (b.Tier < a.Tier)))&&r3)) O (G7 (hK2 (Gq (fin1 BL h))))))

def Gf8 (l:List Stowed) (id_:Int):Option ((List Int)×Int):=
 bnd (G31 l id_) fun r3=>
 bif decide (r3 < 0) then
 (some ([],6))
 else
 (each (fun y30 i30 (s30:(List Int)) nx30=>
   jp (fun kj33=>
    Qm l r3 fun y36=>
    bnd (H26 y30.Slot y36.Slot) fun r38=>
    bif r38 then
    (need (decide ((s30.length+[y30.Box].length)*8≤140737488355328∧s30.length+[y30.Box].length≤maxLen)) <|
     kj33 (s30++[y30.Box]))
    else
    (kj33 s30)) fun(j33:(List Int))=>
   nx30 j33)
  (fun(s30:(List Int))=>
   some (s30,0)) l 0 [])
theorem Q55 (l:List Stowed) (id_:Int) (r:(List Int)×Int) (h:Gf8 l id_=some r):Pure Ej 82 [E2 l,I64 id_] (·=.tup [E1 r.1,I64 r.2]):=by
 unfold Gf8 at h
 refine Gy [.tmp 4,.tmp 5] Tryz.func82 O O (Jr fun hK1=>(JLh (E1 ([]:List Int)) (H2 1 O O) O (JLm (I64 0) O (G7 (hK1 (Jr fun hK2=>(JLm (E2 l) O (JLm (I64 id_) O ?_))))))))
 obtain⟨r3,hr3,h⟩:=Gd h
 refine JLh (I64 r3) (Gi O (H1b l id_ r3 hr3) Hb6 ⟨O,O,O,O,G⟩) O (JLm (I64 r3) O (G7 (hK2 (Js fun hK4=>Jr fun hK5=>(JLm (I64 r3) O (JLh (BL (decide (r3 < 0))) (Hy O O O) O (G7 (hK5 (JCc O h (fun h hb=>?_) (fun h hb=>?_))))))))))
 ·
  refine Jr fun hK6=>(JLh (E1 ([]:List Int)) (H2 1 O O) O (JLm (I64 6) O (G7 (hK6 (Gq (⟨[E1 ([]:List Int),I64 6],[],G,O,⟨⟨_,O,.conv (.same O)⟩,⟨_,O,.conv (.same O)⟩,G⟩,O,congrArg (fun r:(List Int)×Int=>(.tup [E1 r.1,I64 r.2]:AV)) (Kj h)⟩))))))
 ·
  refine Gm (hK4 (Jr fun hK7=>(JLh (OW 1136 1 I64 ([]:List Int)) (G12 1136 3 1 O O O) O (G7 (hK7 (Js fun hK8=>Jr fun hK9=>(JLm (E2 l) O (JLl Gx O O O fun hm16=>(JLm (I64 0) O (G7 (hK9 (Gp ?_))))))))))))
  obtain⟨b30,kx30,hb30,hkx30,h⟩:=Hv h
  refine Hc (fun i30 (s30:(List Int))=>each b30 kx30 (List.drop i30 l) i30 s30=some r) (fun i30 s30=>[(0,E2 l),(6,I64 r3),(7,OW 1136 1 I64 s30),(15,E2 l),(16,Ei l.length),(17,Ei i30)]) (fun i30 s30=>[(1136,.spare 3 1 s30.length s30.length)]) (fun i30=>l.length - i30) 0 [] h ⟨(.sm O O),⟨⟨_,rfl,.same⟩,G⟩,rfl⟩ ?_
  clear h
  intro i30 s30 hi30 K30 e30
  refine Jr fun hK31=>(JLh (BL (decide ((i30:Int) < (l.length:Int)))) (Hy O O O) O (G7 (hK31 (Js fun hK32=>Gj O (fun hb=>?_) (fun hb=>?_)))))
  ·
   have hk30:=J8 hb
   obtain⟨y30,nx30,hy30,hn30,h⟩:=Hj hi30 hk30
   replace h:=R8 hb30 h
   refine Gm (hK32 ?_)
   obtain⟨kj33,hkj33,h⟩:=G09 h
   refine Yt (fun j33:(List Int)=>kj33 j33=some r) (fun j33=>[(0,E2 l),(6,I64 r3),(7,OW 1136 1 I64 j33),(15,E2 l),(16,Ei l.length),(17,Ei i30)]) (fun j33=>[(1136,.spare 3 1 j33.length j33.length)]) (fun Kj33 ej33=>?_) ?_
   ·
    refine Gp (Jr fun hK34=>(JLh (Ec y30) (Gv (f:=Stowed.av) (xs:=l) (y:=y30) O O O Gx hy30 O) O (JLh (.agg (Stowed.cs y30)) (Gg Ru O O O) O (JLh (.ptr 1137 0) (Jn 1137 4 Ze O O) O (Je (u:=.junk) (J5 (u:=.agg (Stowed.cs y30)) (ds:=[I64 y30.Box,I64 y30.Slot.G3,I64 y30.Slot.Tier,U8 y30.Slot.Half]) G4a O O O O O O O O) (G7 (hK34 (Gr [(0,E2 l),(6,I64 r3),(7,OW 1136 1 I64 s30),(9,Ec y30),(15,E2 l),(16,Ei l.length),(17,Ei i30)] [(1136,.spare 3 1 s30.length s30.length)] 1137 rfl rfl rfl ⟨⟨_,rfl,.same⟩,G⟩ rfl (by repeat' (first | exact .ptr | constructor)) (Js fun hK35=>?_)))))))))
    refine G29 (l':=[(0,E2 l),(6,I64 r3),(7,OW 1136 1 I64 s30),(9,Ec y30),(15,E2 l),(16,Ei l.length),(17,Ei i30)]) (L':=[(1136,.spare 3 1 s30.length s30.length)]) ⟨(.sm O O),⟨⟨_,rfl,.same⟩,G⟩,rfl⟩ ?_
    obtain⟨m37,y36,hm37,hy36,h⟩:=Rb h
    obtain⟨r38,hr38,h⟩:=Gd h
    refine JC_d0 Jb (by kernel_rfl) (Dq (.dptr ((Stowed.cs y30).drop 1)) (Ga Hs O O O) O (Dq (.agg ((Stowed.cs y30).drop 1)) (Gg Jh O O O) O (Dq (E2 l) (G4 O O) O (Dq (I64 r3) (G4 O O) O (Dq (Ec y36) (Gv (f:=Stowed.av) (xs:=l) (y:=y36) O O O Gx hy36 hm37) O (Dq (.dptr ((Stowed.cs y36).drop 1)) (Ga Hs O O O) O (Dq (.agg ((Stowed.cs y36).drop 1)) (Gg Jh O O O) O (Dq (BL r38) (Gi (args:=[.agg ((Stowed.cs y30).drop 1),.agg ((Stowed.cs y36).drop 1)]) O (Q7d y30.Slot y36.Slot r38 hr38) R04 ⟨O,O,O,O,G⟩) O (Dnil (hK35 (JCc O h (fun h hb=>?_) (fun h hb=>?_))))))))))))
    ·
     refine G2 (JLm (OW 1136 1 I64 s30) O (JLh (Ec y30) (Ga Hu O O O) O (JLh (I64 y30.Box) (Ge Gb O O O) O (JLh (E1 [y30.Box]) (Ha (xs:=[I64 y30.Box]) O ⟨O,O,G⟩ Gn Jz O O O O) O ?_))))
     obtain⟨ha39,h⟩:=Hp h
     refine JLh (OW 1136 1 I64 (s30++[y30.Box])) (Q8 (f:=I64) (xs:=s30) (ys:=[y30.Box]) O O O O Gn Rt ha39 (fun _=>O) (.inl O) O) O (JLm (OW 1136 1 I64 (s30++[y30.Box])) O (G7 (ej33 _ _ (s30++[y30.Box]) h ⟨(.sm O O),⟨⟨_,rfl,.same⟩,G⟩,rfl⟩)))
    ·
     refine Gm (ej33 _ _ s30 h ⟨(.sm O O),⟨⟨_,rfl,.same⟩,G⟩,rfl⟩)
   ·intro j33 h
    replace h:=app1 hkj33 h
    refine G2 (JLh (I64 ((i30+1:Nat):Int)) (Ht (Hb hk30 hm16) O O O) O (JLm (I64 ((i30+1:Nat):Int)) O (G7 (e30 _ _ (i30+1) j33 (app1 hn30 h) (by omega) ⟨(.sm O O),⟨⟨_,rfl,.same⟩,G⟩,rfl⟩))))
  ·
   have h:=app1 hkx30 (Hk hi30 (H3 hb))
   refine Hi (hK8 (Jr fun hK40=>(JLm (OW 1136 1 I64 s30) O (JLm (OW 1136 1 I64 s30) O (JLm (I64 0) O (G7 (hK40 (Gq (⟨[E1 s30,I64 0],[],G,O,⟨⟨_,O,.conv (.list O)⟩,⟨_,O,.conv (.same O)⟩,G⟩,O,congrArg (fun r:(List Int)×Int=>(.tup [E1 r.1,I64 r.2]:AV)) (Kj h)⟩)))))))))

def G80 (r_:Int) (p1:G3):Option Bool:=
 some (decide (r_=p1.Row))
theorem J86 (r_:Int) (p1:G3) (r:Bool) (h:G80 r_ p1=some r):Pure Ej 170 [I64 r_,Ed p1] (·=BL r):=by
 unfold G80 at h
 refine Gy [.tmp 3] Tryz.func170 O O (Jr fun hK1=>(JLm (BL false) O (G7 (hK1 (Jr fun hK2=>(JLm (I64 r_) O (JLh (.dptr ((G3.cs p1).drop 1)) (Ga G25 O O O) O (JLh (I64 p1.Row) (Ge Gb O O O) O (JLh (BL (decide (r_=p1.Row))) (Ju O O O) O (JLm (BL (decide (r_=p1.Row))) O (G7 (hK2 (Gq (fin1 BL h))))))))))))))

def G63 (l:List Int) (wanted:Int→Option Bool):Option (List Int):=
 each (fun y21 i21 (s21:(List Int)) nx21=>
  jp (fun kj24=>
   bnd (wanted y21) fun r27=>
   bif r27 then
   (need (decide ((s21.length+[(i21:Int)].length)*8≤140737488355328∧s21.length+[(i21:Int)].length≤maxLen)) <|
    kj24 (s21++[(i21:Int)]))
   else
   (kj24 s21)) fun(j24:(List Int))=>
  nx21 j24)
 (fun(s21:(List Int))=>
  some s21) l 0 []
theorem J2a (l:List Int) (wanted:Int→Option Bool) (wanted_f:FuncId) (wanted_c:List AV) (wanted_B:Hf Ej wanted_f=true) (wanted_d:G2c (fun _=>false) wanted_c=true) (wanted_w:∀ a0 q,wanted a0=some q→Pure Ej wanted_f ([I64 a0]++wanted_c) (·=BL q)) (r:(List Int)) (h:G63 l wanted=some r):Pure Ej 169 [E1 l,.fn wanted_f wanted_c] (·=E1 r):=by
 unfold G63 at h
 refine Gy [.tmp 4] Tryz.func169 O O (Jr fun hK1=>(JLh (E1 ([]:List Int)) (H2 1 O O) O (G7 (hK1 (Jr fun hK2=>(JLh (OW 1212 1 I64 ([]:List Int)) (G12 1212 3 1 O O O) O (G7 (hK2 (Js fun hK3=>Jr fun hK4=>(JLm (E1 l) O (JLl Gn O O O fun hm9=>(JLm (I64 0) O (G7 (hK4 (Gp ?_)))))))))))))))
 obtain⟨b21,kx21,hb21,hkx21,h⟩:=Hv h
 refine Hc (fun i21 (s21:(List Int))=>each b21 kx21 (List.drop i21 l) i21 s21=some r) (fun i21 s21=>[(1,.fn wanted_f wanted_c),(5,OW 1212 1 I64 s21),(8,E1 l),(9,Ei l.length),(10,Ei i21)]) (fun i21 s21=>[(1212,.spare 3 1 s21.length s21.length)]) (fun i21=>l.length - i21) 0 [] h ⟨⟨.same (R7 _ _ wanted_d),.same O,.same O,.same O,.same O,G⟩,⟨⟨_,O,.same⟩,G⟩,O⟩ ?_
 clear h
 intro i21 s21 hi21 K21 e21
 refine Jr fun hK22=>(JLh (BL (decide ((i21:Int) < (l.length:Int)))) (Hy O O O) O (G7 (hK22 (Js fun hK23=>Gj O (fun hb=>?_) (fun hb=>?_)))))
 ·
  have hk21:=J8 hb
  obtain⟨y21,nx21,hy21,hn21,h⟩:=Hj hi21 hk21
  replace h:=R8 hb21 h
  refine Gm (hK23 ?_)
  obtain⟨kj24,hkj24,h⟩:=G09 h
  refine Yt (fun j24:(List Int)=>kj24 j24=some r) (fun j24=>[(1,.fn wanted_f wanted_c),(5,OW 1212 1 I64 j24),(8,E1 l),(9,Ei l.length),(10,Ei i21)]) (fun j24=>[(1212,.spare 3 1 j24.length j24.length)]) (fun Kj24 ej24=>?_) ?_
  ·
   refine Gp (Jr fun hK25=>(JLm (Ei i21) O (JLh (.dptr [I64 y21]) (Gv (f:=I64) (xs:=l) (y:=y21) O O O Gn hy21 O) O (JLh (I64 y21) (Ge Gb O O O) O (JLm (Ei i21) O (JLm (I64 y21) O (G7 (hK25 (Jr fun hK26=>(JLm (.fn wanted_f wanted_c) O (JLm (I64 y21) O ?_)))))))))))
   obtain⟨r27,hr27,h⟩:=Gd h
   refine JLh (BL r27) (Ga9 (args:=[I64 y21]) (caps:=wanted_c) O O (wanted_w y21 _ hr27) wanted_B ⟨O,O,G⟩ wanted_d) O (G7 (hK26 (JCc O h (fun h hb=>?_) (fun h hb=>?_))))
   ·
    refine G2 (JLm (OW 1212 1 I64 s21) O (JLm (Ei i21) O (JLh (E1 [(i21:Int)]) (Ha (xs:=[Ei i21]) O ⟨O,O,G⟩ Gn Jz O O O O) O ?_)))
    obtain⟨ha28,h⟩:=Hp h
    refine JLh (OW 1212 1 I64 (s21++[(i21:Int)])) (Q8 (f:=I64) (xs:=s21) (ys:=[(i21:Int)]) O O O O Gn Rt ha28 (fun _=>O) (.inl O) O) O (JLm (OW 1212 1 I64 (s21++[(i21:Int)])) O (G7 (ej24 _ _ (s21++[(i21:Int)]) h ⟨⟨.same (R7 _ _ wanted_d),.same O,.same O,.same O,.same O,G⟩,⟨⟨_,O,.same⟩,G⟩,O⟩)))
   ·
    refine Gm (ej24 _ _ s21 h ⟨⟨.same (R7 _ _ wanted_d),.same O,.same O,.same O,.same O,G⟩,⟨⟨_,O,.same⟩,G⟩,O⟩)
  ·intro j24 h
   replace h:=app1 hkj24 h
   refine G2 (JLh (I64 ((i21+1:Nat):Int)) (Ht (Hb hk21 hm9) O O O) O (JLm (I64 ((i21+1:Nat):Int)) O (G7 (e21 _ _ (i21+1) j24 (app1 hn21 h) (by omega) ⟨⟨.same (R7 _ _ wanted_d),.same rfl,.same rfl,.same rfl,.same rfl,G⟩,⟨⟨_,rfl,.same⟩,G⟩,rfl⟩))))
 ·
  have h:=app1 hkx21 (Hk hi21 (H3 hb))
  refine Hi (hK3 (Jr fun hK29=>(JLm (OW 1212 1 I64 s21) O (JLm (OW 1212 1 I64 s21) O (G7 (hK29 (Gq (fin1l (fun r:(List Int)=>(E1 r:AV)) h))))))))

def G88 (x:G8) (c:G3):Option Bool:=
 bnd (bif decide (x.Bay=c.Bay) then G63 x.Rows (fun z0=>G80 z0 c) else some default) fun r3=>
 some ((decide (x.Bay=c.Bay))&&(decide (0 < (r3.length:Int))))
theorem Hd7 (x:G8) (c:G3) (r:Bool) (h:G88 x c=some r):Pure Ej 146 [.agg [I64 x.Bay,E1 x.Rows],.agg (G3.cs c)] (·=BL r):=by
 unfold G88 at h
 refine Gy [.tmp 4] Tryz.func146 O O (Jr fun hK1=>(JLh (.ptr 1196 0) (J7 (cs:=[I64 x.Bay,E1 x.Rows]) 1196 O O O O O) O (JLh (.ptr 1197 0) (J7 (cs:=(G3.cs c)) 1197 O O O O O) O (JLm (BL false) O (G7 (hK1 (Gr [(2,.dptr [I64 x.Bay,E1 x.Rows]),(3,.ptr 1197 0)] [(1197,.box 64 (G3.cs c))] 1196 rfl rfl rfl ⟨⟨_,rfl,.boxEq rfl rfl⟩,G⟩ rfl (by exact⟨.ptr,.conv (.same rfl),G⟩) ?_)))))))
 refine Gr [(2,.dptr [I64 x.Bay,E1 x.Rows]),(3,Ed c)] [] 1197 rfl rfl rfl G rfl (by exact⟨.conv (.same rfl),.ptr,G⟩) ?_
 refine Jr fun hK2=>(JLh (.dptr [I64 x.Bay,E1 x.Rows]) (Ga G06 O O O) O (JLh (I64 x.Bay) (Ge Gb O O O) O (JLh (Ed c) (Ga G26 O O O) O (JLh (I64 c.Bay) (Ge Gb O O O) O (JLh (BL (decide (x.Bay=c.Bay))) (Ju O O O) O (JLm (BL (decide (x.Bay=c.Bay))) O (JLo (.dptr [E1 x.Rows]) [] O .sct G (fun hc=>Ga Qf O O O) O (JLo (E1 x.Rows) [11] O .sct ⟨Ua,G⟩ (fun hc=>Ge J1 O O O) O (JLo (.fn 170 [.dptr (G3.cs c)]) [] O .sct G (fun hc=>G3d (cs:=[.dptr (G3.cs c)]) O O) O ?_)))))))))
 obtain⟨r3,hr3,h⟩:=Gd h
 refine JLo (E1 r3) [12,13] O .sct ⟨Ua,Ua,G⟩ (fun hc=>Gi (args:=[E1 x.Rows,.fn 170 [.dptr (G3.cs c)]]) O (J2a x.Rows (fun z0=>G80 z0 c) 170 [.dptr (G3.cs c)] Qf0 O (fun z0 q hq=>J86 z0 c q hq) r3 (Gw hc hr3)) Qf1 ⟨O,O,O,O,G⟩) O (JLo (Ei r3.length) [14] O .sct ⟨Ua,G⟩ (fun hc=>Qs (f:=I64) (xs:=r3) Gn O O) O (JLo (BL (decide (0 < (r3.length:Int)))) [15] O .sct ⟨Ua,G⟩ (fun hc=>G41 O O O) O (JLh (BL ((decide (x.Bay=c.Bay))&&(decide (0 < (r3.length:Int))))) (J4 O O O O) O (JLm (BL ((decide (x.Bay=c.Bay))&&(decide (0 < (r3.length:Int))))) O (G7 (hK2 ?_))))))
 refine Gq (fin1 BL h)

def G49 (x:G8) (p1:H0) (p2:Int):Option Bool:=
 Qm p1.Columns p2 fun y3=>
 bnd (G88 x y3) fun r5=>
 some r5
theorem J59 (x:G8) (p1:H0) (p2:Int) (r:Bool) (h:G49 x p1 p2=some r):Pure Ej 145 [.agg [I64 x.Bay,E1 x.Rows],Eb p1,.dptr [I64 p2]] (·=BL r):=by
 unfold G49 at h
 refine Gy [.tmp 4] Tryz.func145 O O (Jr fun hK1=>(JLh (.ptr 1195 0) (J7 (cs:=[I64 x.Bay,E1 x.Rows]) 1195 O O O O O) O (JLm (BL false) O (G7 (hK1 (Gr [(1,Eb p1),(2,.dptr [I64 p2]),(3,.dptr [I64 x.Bay,E1 x.Rows])] [] 1195 rfl rfl rfl G rfl (by exact⟨.conv (.same rfl),.conv (.same rfl),.ptr,G⟩) (Js fun hK2=>?_)))))))
 obtain⟨m4,y3,hm4,hy3,h⟩:=Rb h
 obtain⟨r5,hr5,h⟩:=Gd h
 refine JC_d0 Jb (by kernel_rfl) (Dq (.agg [I64 x.Bay,E1 x.Rows]) (Gg Z0 O O O) O (Dq (Eb p1) (Ga Hh O O O) O (Dq (E5 p1.Columns) (Ge Ho O O O) O (Dq (I64 p2) (Ge Gb O O O) O (Dq (Ed y3) (Gv (f:=G3.av) (xs:=p1.Columns) (y:=y3) O O O H6 hy3 hm4) O (Dq (.agg (G3.cs y3)) (Gg Y6 O O O) O (Dq (BL r5) (Gi (args:=[.agg [I64 x.Bay,E1 x.Rows],.agg (G3.cs y3)]) O (Hd7 x y3 r5 hr5) Jba ⟨O,O,O,O,G⟩) O (Dq (BL r5) (G6 O O) O (Dnil (hK2 (Gq (fin1 BL h))))))))))))

def G0f (l:List G8) (wanted:G8→Option Bool):Option (List Int):=
 each (fun y21 i21 (s21:(List Int)) nx21=>
  jp (fun kj24=>
   bnd (wanted y21) fun r27=>
   bif r27 then
   (need (decide ((s21.length+[(i21:Int)].length)*8≤140737488355328∧s21.length+[(i21:Int)].length≤maxLen)) <|
    kj24 (s21++[(i21:Int)]))
   else
   (kj24 s21)) fun(j24:(List Int))=>
  nx21 j24)
 (fun(s21:(List Int))=>
  some s21) l 0 []
theorem H9d (l:List G8) (wanted:G8→Option Bool) (wanted_f:FuncId) (wanted_c:List AV) (wanted_B:Hf Ej wanted_f=true) (wanted_d:G2c (fun _=>false) wanted_c=true) (wanted_w:∀ a0 q,wanted a0=some q→Pure Ej wanted_f ([.agg [I64 a0.Bay,E1 a0.Rows]]++wanted_c) (·=BL q)) (r:(List Int)) (h:G0f l wanted=some r):Pure Ej 144 [E6 l,.fn wanted_f wanted_c] (·=E1 r):=by
 unfold G0f at h
 refine Gy [.tmp 4] Tryz.func144 O O (Jr fun hK1=>(JLh (E1 ([]:List Int)) (H2 1 O O) O (G7 (hK1 (Jr fun hK2=>(JLh (OW 1193 1 I64 ([]:List Int)) (G12 1193 3 1 O O O) O (G7 (hK2 (Js fun hK3=>Jr fun hK4=>(JLm (E6 l) O (JLl Hq O O O fun hm9=>(JLm (I64 0) O (G7 (hK4 (Gp ?_)))))))))))))))
 obtain⟨b21,kx21,hb21,hkx21,h⟩:=Hv h
 refine Hc (fun i21 (s21:(List Int))=>each b21 kx21 (List.drop i21 l) i21 s21=some r) (fun i21 s21=>[(1,.fn wanted_f wanted_c),(5,OW 1193 1 I64 s21),(8,E6 l),(9,Ei l.length),(10,Ei i21)]) (fun i21 s21=>[(1193,.spare 3 1 s21.length s21.length)]) (fun i21=>l.length - i21) 0 [] h ⟨⟨.same (R7 _ _ wanted_d),.same O,.same O,.same O,.same O,G⟩,⟨⟨_,O,.same⟩,G⟩,O⟩ ?_
 clear h
 intro i21 s21 hi21 K21 e21
 refine Jr fun hK22=>(JLh (BL (decide ((i21:Int) < (l.length:Int)))) (Hy O O O) O (G7 (hK22 (Js fun hK23=>Gj O (fun hb=>?_) (fun hb=>?_)))))
 ·
  have hk21:=J8 hb
  obtain⟨y21,nx21,hy21,hn21,h⟩:=Hj hi21 hk21
  replace h:=R8 hb21 h
  refine Gm (hK23 ?_)
  obtain⟨kj24,hkj24,h⟩:=G09 h
  refine Yt (fun j24:(List Int)=>kj24 j24=some r) (fun j24=>[(1,.fn wanted_f wanted_c),(5,OW 1193 1 I64 j24),(8,E6 l),(9,Ei l.length),(10,Ei i21)]) (fun j24=>[(1193,.spare 3 1 j24.length j24.length)]) (fun Kj24 ej24=>?_) ?_
  ·
   refine Gp (Jr fun hK25=>(JLm (Ei i21) O (JLh (.dptr [I64 y21.Bay,E1 y21.Rows]) (Gv (f:=G8.av) (xs:=l) (y:=y21) O O O Hq hy21 O) O (JLh (.agg [I64 y21.Bay,E1 y21.Rows]) (Gg Z0 O O O) O (JLh (.ptr 1194 0) (Jn 1194 2 G75 O O) O (JLm (Ei i21) O (Je (u:=.junk) (J5 (u:=.agg [I64 y21.Bay,E1 y21.Rows]) (ds:=[I64 y21.Bay,E1 y21.Rows]) Gd2 O O O O O O O O) (G7 (hK25 ?_)))))))))
   refine Gr [(1,.fn wanted_f wanted_c),(5,OW 1193 1 I64 s21),(6,Ei i21),(7,.dptr [I64 y21.Bay,E1 y21.Rows]),(8,E6 l),(9,Ei l.length),(10,Ei i21)] [(1193,.spare 3 1 s21.length s21.length)] 1194 rfl rfl rfl ⟨⟨_,rfl,.same⟩,G⟩ rfl (by exact⟨.conv (.same (R7 _ _ wanted_d)),.conv (.same rfl),.conv (.same rfl),.ptr,.conv (.same rfl),.conv (.same rfl),.conv (.same rfl),G⟩) (Jr fun hK26=>(JLm (.fn wanted_f wanted_c) O (JLh (.agg [I64 y21.Bay,E1 y21.Rows]) (Gg Z0 O O O) O ?_)))
   obtain⟨r27,hr27,h⟩:=Gd h
   refine JLh (BL r27) (Ga9 (args:=[.agg [I64 y21.Bay,E1 y21.Rows]]) (caps:=wanted_c) O O (wanted_w y21 _ hr27) wanted_B ⟨O,O,G⟩ wanted_d) O (G7 (hK26 (JCc O h (fun h hb=>?_) (fun h hb=>?_))))
   ·
    refine G2 (JLm (OW 1193 1 I64 s21) O (JLm (Ei i21) O (JLh (E1 [(i21:Int)]) (Ha (xs:=[Ei i21]) O ⟨O,O,G⟩ Gn Jz O O O O) O ?_)))
    obtain⟨ha28,h⟩:=Hp h
    refine JLh (OW 1193 1 I64 (s21++[(i21:Int)])) (Q8 (f:=I64) (xs:=s21) (ys:=[(i21:Int)]) O O O O Gn Rt ha28 (fun _=>O) (.inl O) O) O (JLm (OW 1193 1 I64 (s21++[(i21:Int)])) O (G7 (ej24 _ _ (s21++[(i21:Int)]) h ⟨⟨.same (R7 _ _ wanted_d),.same O,.same O,.same O,.same O,G⟩,⟨⟨_,O,.same⟩,G⟩,O⟩)))
   ·
    refine Gm (ej24 _ _ s21 h ⟨⟨.same (R7 _ _ wanted_d),.same O,.same O,.same O,.same O,G⟩,⟨⟨_,O,.same⟩,G⟩,O⟩)
  ·intro j24 h
   replace h:=app1 hkj24 h
   refine G2 (JLh (I64 ((i21+1:Nat):Int)) (Ht (Hb hk21 hm9) O O O) O (JLm (I64 ((i21+1:Nat):Int)) O (G7 (e21 _ _ (i21+1) j24 (app1 hn21 h) (by omega) ⟨⟨.same (R7 _ _ wanted_d),.same rfl,.same rfl,.same rfl,.same rfl,G⟩,⟨⟨_,rfl,.same⟩,G⟩,rfl⟩))))
 ·
  have h:=app1 hkx21 (Hk hi21 (H3 hb))
  refine Hi (hK3 (Jr fun hK29=>(JLm (OW 1193 1 I64 s21) O (JLm (OW 1193 1 I64 s21) O (G7 (hK29 (Gq (fin1l (fun r:(List Int)=>(E1 r:AV)) h))))))))

def G10 (s:H0) (column:Int):Option Int:=
 bif ((decide (column < 0))||(decide ((s.Columns.length:Int)≤column))) then
 (some (-1))
 else
 (bnd (G0f s.Covers (fun z0=>G49 z0 s column)) fun r6=>
  bif decide ((r6.length:Int)=0) then
  (some (-1))
  else
  (Qm r6 0 fun y11=>
   some y11))
theorem H0e (s:H0) (column:Int) (r:Int) (h:G10 s column=some r):Pure Ej 106 [.agg (H0.cs s),I64 column] (·=I64 r):=by
 unfold G10 at h
 refine Gy [.tmp 4] Tryz.func106 O O (Jr fun hK1=>(JLh (.ptr 1165 0) (J7 (cs:=(H0.cs s)) 1165 O O O O O) O (JLh (.ptr 1166 0) (J7 (cs:=[I64 column]) 1166 O O O O O) O (JLm (I64 0) O (G7 (hK1 ?_))))))
 refine Gr [(2,Eb s),(3,.ptr 1166 0)] [(1166,.box 3 [I64 column])] 1165 rfl rfl rfl ⟨⟨_,rfl,.boxEq rfl rfl⟩,G⟩ rfl (by exact⟨.ptr,.conv (.same rfl),G⟩) (Gr [(2,Eb s),(3,.dptr [I64 column])] [] 1166 rfl rfl rfl G rfl (by exact⟨.conv (.same rfl),.ptr,G⟩) (Js fun hK2=>?_))
 refine Jr fun hK3=>(JLh (I64 column) (Ge Gb O O O) O (JLh (BL (decide (column < 0))) (Hy O O O) O (JLm (BL (decide (column < 0))) O (JLo (I64 column) [] O .scf G (fun hc=>Ge Gb O O O) O (JLo (Eb s) [] O .scf G (fun hc=>Ga Hh O O O) O (JLo (E5 s.Columns) [10] O .scf ⟨Ua,G⟩ (fun hc=>Ge Ho O O O) O (JLo (Ei s.Columns.length) [11] O .scf ⟨Ua,G⟩ (fun hc=>Qs (f:=G3.av) (xs:=s.Columns) H6 O O) O (JLo (BL (decide ((s.Columns.length:Int)≤column))) [9,12] O .scf ⟨Ua,Ua,G⟩ (fun hc=>G13 O O O) O (JLh (BL ((decide (column < 0))||(decide ((s.Columns.length:Int)≤column)))) (Rs O O O O) O (G7 (hK3 ?_)))))))))))
 refine JCc O h ?_ ?_<;>intro h hb
 ·
  refine Jr fun hK4=>(JLm (I64 (-1)) O (G7 (hK4 (Gq (fin1 I64 h)))))
 ·
  refine Gm (hK2 ?_)
  refine Jr fun hK5=>(JLh (.dptr [E6 s.Covers,I64 s.Light.Kilos,I64 s.Light.X,I64 s.Light.Y,I64 s.Light.Z,E8 s.Rows,E7 s.Frames,E9 s.Tanks,I64 s.G1.Tolerance,I64 s.G1.Trim,I64 s.G1.List_,I64 s.G1.Stability]) (Ga Jg O O O) O (JLh (E6 s.Covers) (Ge Jv O O O) O (JLh (.fn 145 [.dptr (H0.cs s),.dptr [I64 column]]) (G3d (cs:=[.dptr (H0.cs s),.dptr [I64 column]]) O O) O ?_)))
  obtain⟨r6,hr6,h⟩:=Gd h
  refine JLh (E1 r6) (Gi O (H9d s.Covers (fun z0=>G49 z0 s column) 145 [.dptr (H0.cs s),.dptr [I64 column]] Qfe O (fun z0 q hq=>J59 z0 s column q hq) r6 hr6) Qff ⟨O,O,O,O,G⟩) O (JLm (E1 r6) O (G7 (hK5 (Js fun hK7=>Jr fun hK8=>(JLm (E1 r6) O (JLl Gn O O O fun hm20=>(JLh (BL (decide ((r6.length:Int)=0))) (Ju O O O) O (G7 (hK8 (JCc O h (fun h hb=>?_) (fun h hb=>?_)))))))))))
  ·
   refine Jr fun hK9=>(JLm (I64 (-1)) O (G7 (hK9 (Gq (fin1 I64 h)))))
  ·
   refine Gm (hK7 (Jr fun hK10=>(JLm (E1 r6) O ?_)))
   obtain⟨m12,y11,hm12,hy11,h⟩:=Rb h
   refine JLh (.dptr [I64 y11]) (Gv (f:=I64) (xs:=r6) (y:=y11) O O O Gn hy11 hm12) O (JLh (I64 y11) (Ge Gb O O O) O (JLm (I64 y11) O (G7 (hK10 (Gq (fin1 I64 h))))))

def Gf6 (s:H0) (column:Int):Option Int:=
 Qm s.Columns column fun y4=>
 bif y4.Deck then
 (some (-1))
 else
 (bnd (G10 s column) fun r8=>
  some r8)
theorem Q52 (s:H0) (column:Int) (r:Int) (h:Gf6 s column=some r):Pure Ej 83 [.agg (H0.cs s),I64 column] (·=I64 r):=by
 unfold Gf6 at h
 refine Gy [.tmp 4] Tryz.func83 O O (Jr fun hK1=>(JLh (.ptr 1138 0) (J7 (cs:=(H0.cs s)) 1138 O O O O O) O (JLm (I64 0) O (G7 (hK1 (Gr [(1,I64 column),(2,Eb s)] [] 1138 rfl rfl rfl G rfl (by exact⟨.conv (.same rfl),.ptr,G⟩) (Js fun hK2=>?_)))))))
 refine Jr fun hK3=>(JLh (Eb s) (Ga Hh O O O) O (JLh (E5 s.Columns) (Ge Ho O O O) O (JLm (I64 column) O ?_)))
 obtain⟨m5,y4,hm5,hy4,h⟩:=Rb h
 refine JLh (Ed y4) (Gv (f:=G3.av) (xs:=s.Columns) (y:=y4) O O O H6 hy4 hm5) O (JLh (.dptr ((G3.cs y4).drop 2)) (Ga Ro O O O) O (JLh (BL y4.Deck) (Ge Qv O O O) O (G7 (hK3 (JCc O h (fun h hb=>?_) (fun h hb=>?_))))))
 ·
  refine Jr fun hK6=>(JLm (I64 (-1)) O (G7 (hK6 (Gq (fin1 I64 h)))))
 ·
  refine Gm (hK2 (Jr fun hK7=>(JLh (.agg (H0.cs s)) (Gg H7 O O O) O (JLm (I64 column) O ?_))))
  obtain⟨r8,hr8,h⟩:=Gd h
  refine JLh (I64 r8) (Gi O (H0e s column r8 hr8) Hef ⟨O,O,O,O,G⟩) O (JLm (I64 r8) O (G7 (hK7 (Gq (fin1 I64 h)))))

def Ga6 (c:G3) (p1:Bool) (p2:H0) (p3:Int):Option Bool:=
 bnd (bif (c.Deck==p1) then Qm p2.Covers p3 some else some default) fun y3=>
 bnd (bif (c.Deck==p1) then G88 y3 c else some default) fun r4=>
 some ((c.Deck==p1)&&r4)
theorem Jab (c:G3) (p1:Bool) (p2:H0) (p3:Int) (r:Bool) (h:Ga6 c p1 p2 p3=some r):Pure Ej 176 [.agg (G3.cs c),.dptr [BL p1],Eb p2,.dptr [I64 p3]] (·=BL r):=by
 unfold Ga6 at h
 refine Gy [.tmp 5] Tryz.func176 O O (Jr fun hK1=>(JLh (.ptr 1216 0) (J7 (cs:=(G3.cs c)) 1216 O O O O O) O (JLm (BL false) O (G7 (hK1 (Gr [(1,.dptr [BL p1]),(2,Eb p2),(3,.dptr [I64 p3]),(4,Ed c)] [] 1216 rfl rfl rfl G rfl (by repeat' (first | exact .ptr | constructor)) (Js fun hK2=>?_)))))))
 obtain⟨y3,hy3,h⟩:=Gd h
 obtain⟨r4,hr4,h⟩:=Gd h
 refine JC_d0 Jb (by kernel_rfl) (Dq (.dptr [BL c.Deck,I64 c.Tiers,I64 c.Height,I64 c.Kilos20,I64 c.Kilos40,I64 c.Lash,E1 c.Plugs,I64 c.X,I64 c.Y,I64 c.Z]) (Ga Ro O O O) O (Dq (BL c.Deck) (Ge Qv O O O) O (Dq (BL p1) (Ge Qv O O O) O (Dq (BL (c.Deck==p1)) (J8d J12 O O O) O (Dq (BL (c.Deck==p1)) (G4 O O) O (Do (.dptr ((H0.cs p2).drop 1)) [] O .sct G (fun hc=>Ga Jg O O O) O (Do (E6 p2.Covers) [11] O .sct ⟨Ua,G⟩ (fun hc=>Ge Jv O O O) O (Do (I64 p3) [] O .sct G (fun hc=>Ge Gb O O O) O (Do (.dptr [I64 y3.Bay,E1 y3.Rows]) [12,13] O .sct ⟨Ua,Ua,G⟩ (fun hc=>(match Q0 (Gw hc hy3) with | ⟨_,hm_,hy_⟩=>Gv (f:=G8.av) (xs:=p2.Covers) (y:=y3) O O O Hq hy_ hm_)) O (Do (.agg [I64 y3.Bay,E1 y3.Rows]) [14] O .sct ⟨Ua,G⟩ (fun hc=>Gg Z0 O O O) O (Do (.agg (G3.cs c)) [] O .sct G (fun hc=>Gg Y6 O O O) O (Do (BL r4) [15,16] O .sct ⟨Ua,Ua,G⟩ (fun hc=>Gi (args:=[.agg [I64 y3.Bay,E1 y3.Rows],.agg (G3.cs c)]) O (Hd7 y3 c r4 (Gw hc hr4)) Jba ⟨O,O,O,O,G⟩) O (Dq (BL ((c.Deck==p1)&&r4)) (J4 O O O O) O ?_)))))))))))))
 refine Dq (BL ((c.Deck==p1)&&r4)) (G6 O O) O (Dnil (hK2 (Gq (fin1 BL h))))

def G39 (l:List G3) (wanted:G3→Option Bool):Option (List Int):=
 each (fun y21 i21 (s21:(List Int)) nx21=>
  jp (fun kj24=>
   bnd (wanted y21) fun r27=>
   bif r27 then
   (need (decide ((s21.length+[(i21:Int)].length)*8≤140737488355328∧s21.length+[(i21:Int)].length≤maxLen)) <|
    kj24 (s21++[(i21:Int)]))
   else
   (kj24 s21)) fun(j24:(List Int))=>
  nx21 j24)
 (fun(s21:(List Int))=>
  some s21) l 0 []
theorem H82 (l:List G3) (wanted:G3→Option Bool) (wanted_f:FuncId) (wanted_c:List AV) (wanted_B:Hf Ej wanted_f=true) (wanted_d:G2c (fun _=>false) wanted_c=true) (wanted_w:∀ a0 q,wanted a0=some q→Pure Ej wanted_f ([.agg (G3.cs a0)]++wanted_c) (·=BL q)) (r:(List Int)) (h:G39 l wanted=some r):Pure Ej 175 [E5 l,.fn wanted_f wanted_c] (·=E1 r):=by
 unfold G39 at h
 refine Gy [.tmp 4] Tryz.func175 O O (Jr fun hK1=>(JLh (E1 ([]:List Int)) (H2 1 O O) O (G7 (hK1 (Jr fun hK2=>(JLh (OW 1214 1 I64 ([]:List Int)) (G12 1214 3 1 O O O) O (G7 (hK2 (Js fun hK3=>Jr fun hK4=>(JLm (E5 l) O (JLl H6 O O O fun hm9=>(JLm (I64 0) O (G7 (hK4 (Gp ?_)))))))))))))))
 obtain⟨b21,kx21,hb21,hkx21,h⟩:=Hv h
 refine Hc (fun i21 (s21:(List Int))=>each b21 kx21 (List.drop i21 l) i21 s21=some r) (fun i21 s21=>[(1,.fn wanted_f wanted_c),(5,OW 1214 1 I64 s21),(8,E5 l),(9,Ei l.length),(10,Ei i21)]) (fun i21 s21=>[(1214,.spare 3 1 s21.length s21.length)]) (fun i21=>l.length - i21) 0 [] h ⟨⟨.same (R7 _ _ wanted_d),.same O,.same O,.same O,.same O,G⟩,⟨⟨_,O,.same⟩,G⟩,O⟩ ?_
 clear h
 intro i21 s21 hi21 K21 e21
 refine Jr fun hK22=>(JLh (BL (decide ((i21:Int) < (l.length:Int)))) (Hy O O O) O (G7 (hK22 (Js fun hK23=>Gj O (fun hb=>?_) (fun hb=>?_)))))
 ·
  have hk21:=J8 hb
  obtain⟨y21,nx21,hy21,hn21,h⟩:=Hj hi21 hk21
  replace h:=R8 hb21 h
  refine Gm (hK23 ?_)
  obtain⟨kj24,hkj24,h⟩:=G09 h
  refine Yt (fun j24:(List Int)=>kj24 j24=some r) (fun j24=>[(1,.fn wanted_f wanted_c),(5,OW 1214 1 I64 j24),(8,E5 l),(9,Ei l.length),(10,Ei i21)]) (fun j24=>[(1214,.spare 3 1 j24.length j24.length)]) (fun Kj24 ej24=>?_) ?_
  ·
   refine Gp (Jr fun hK25=>(JLm (Ei i21) O (JLh (Ed y21) (Gv (f:=G3.av) (xs:=l) (y:=y21) O O O H6 hy21 O) O (JLh (.agg (G3.cs y21)) (Gg Y6 O O O) O (JLh (.ptr 1215 0) (Jn 1215 12 G76 O O) O (JLm (Ei i21) O (Je (u:=.junk) (J5 (u:=.agg (G3.cs y21)) (ds:=(G3.cs y21)) Gd3 O O O O O O O O) (G7 (hK25 ?_)))))))))
   refine Gr [(1,.fn wanted_f wanted_c),(5,OW 1214 1 I64 s21),(6,Ei i21),(7,Ed y21),(8,E5 l),(9,Ei l.length),(10,Ei i21)] [(1214,.spare 3 1 s21.length s21.length)] 1215 rfl rfl rfl ⟨⟨_,rfl,.same⟩,G⟩ rfl (by exact⟨.conv (.same (R7 _ _ wanted_d)),.conv (.same rfl),.conv (.same rfl),.ptr,.conv (.same rfl),.conv (.same rfl),.conv (.same rfl),G⟩) (Jr fun hK26=>(JLm (.fn wanted_f wanted_c) O (JLh (.agg (G3.cs y21)) (Gg Y6 O O O) O ?_)))
   obtain⟨r27,hr27,h⟩:=Gd h
   refine JLh (BL r27) (Ga9 (args:=[.agg (G3.cs y21)]) (caps:=wanted_c) O O (wanted_w y21 _ hr27) wanted_B ⟨O,O,G⟩ wanted_d) O (G7 (hK26 (JCc O h (fun h hb=>?_) (fun h hb=>?_))))
   ·
    refine G2 (JLm (OW 1214 1 I64 s21) O (JLm (Ei i21) O (JLh (E1 [(i21:Int)]) (Ha (xs:=[Ei i21]) O ⟨O,O,G⟩ Gn Jz O O O O) O ?_)))
    obtain⟨ha28,h⟩:=Hp h
    refine JLh (OW 1214 1 I64 (s21++[(i21:Int)])) (Q8 (f:=I64) (xs:=s21) (ys:=[(i21:Int)]) O O O O Gn Rt ha28 (fun _=>O) (.inl O) O) O (JLm (OW 1214 1 I64 (s21++[(i21:Int)])) O (G7 (ej24 _ _ (s21++[(i21:Int)]) h ⟨⟨.same (R7 _ _ wanted_d),.same O,.same O,.same O,.same O,G⟩,⟨⟨_,O,.same⟩,G⟩,O⟩)))
   ·
    refine Gm (ej24 _ _ s21 h ⟨⟨.same (R7 _ _ wanted_d),.same O,.same O,.same O,.same O,G⟩,⟨⟨_,O,.same⟩,G⟩,O⟩)
  ·intro j24 h
   replace h:=app1 hkj24 h
   refine G2 (JLh (I64 ((i21+1:Nat):Int)) (Ht (Hb hk21 hm9) O O O) O (JLm (I64 ((i21+1:Nat):Int)) O (G7 (e21 _ _ (i21+1) j24 (app1 hn21 h) (by omega) ⟨⟨.same (R7 _ _ wanted_d),.same rfl,.same rfl,.same rfl,.same rfl,G⟩,⟨⟨_,rfl,.same⟩,G⟩,rfl⟩))))
 ·
  have h:=app1 hkx21 (Hk hi21 (H3 hb))
  refine Hi (hK3 (Jr fun hK29=>(JLm (OW 1214 1 I64 s21) O (JLm (OW 1214 1 I64 s21) O (G7 (hK29 (Gq (fin1l (fun r:(List Int)=>(E1 r:AV)) h))))))))

def H4a (s:H0) (cover:Int) (deck:Bool):Option (List Int):=
 bif ((decide (cover < 0))||(decide ((s.Covers.length:Int)≤cover))) then
 (some [])
 else
 (bnd (G39 s.Columns (fun z0=>Ga6 z0 deck s cover)) fun r6=>
  some r6)
theorem Q59 (s:H0) (cover:Int) (deck:Bool) (r:(List Int)) (h:H4a s cover deck=some r):Pure Ej 161 [.agg (H0.cs s),I64 cover,BL deck] (·=E1 r):=by
 unfold H4a at h
 refine Gy [.tmp 6] Tryz.func161 O O (Jr fun hK1=>(JLh (.ptr 1208 0) (J7 (cs:=(H0.cs s)) 1208 O O O O O) O (JLh (.ptr 1209 0) (J7 (cs:=[I64 cover]) 1209 O O O O O) O (JLh (.ptr 1210 0) (J7 (cs:=[BL deck]) 1210 O O O O O) O (JLh (E1 ([]:List Int)) (H2 1 O O) O (G7 (hK1 ?_)))))))
 refine Gr [(3,Eb s),(4,.ptr 1209 0),(5,.ptr 1210 0)] [(1209,.box 3 [I64 cover]),(1210,.box 4 [BL deck])] 1208 rfl rfl rfl ⟨⟨_,rfl,.boxEq rfl rfl⟩,⟨_,rfl,.boxEq rfl rfl⟩,G⟩ rfl (by exact⟨.ptr,.conv (.same rfl),.conv (.same rfl),G⟩) ?_
 refine Gr [(3,Eb s),(4,.dptr [I64 cover]),(5,.ptr 1210 0)] [(1210,.box 4 [BL deck])] 1209 rfl rfl rfl ⟨⟨_,rfl,.boxEq rfl rfl⟩,G⟩ rfl (by exact⟨.conv (.same rfl),.ptr,.conv (.same rfl),G⟩) ?_
 refine Gr [(3,Eb s),(4,.dptr [I64 cover]),(5,.dptr [BL deck])] [] 1210 rfl rfl rfl G rfl (by exact⟨.conv (.same rfl),.conv (.same rfl),.ptr,G⟩) (Js fun hK2=>?_)
 refine Jr fun hK3=>(JLh (I64 cover) (Ge Gb O O O) O (JLh (BL (decide (cover < 0))) (Hy O O O) O (JLm (BL (decide (cover < 0))) O (JLo (I64 cover) [] O .scf G (fun hc=>Ge Gb O O O) O (JLo (.dptr [E6 s.Covers,I64 s.Light.Kilos,I64 s.Light.X,I64 s.Light.Y,I64 s.Light.Z,E8 s.Rows,E7 s.Frames,E9 s.Tanks,I64 s.G1.Tolerance,I64 s.G1.Trim,I64 s.G1.List_,I64 s.G1.Stability]) [] O .scf G (fun hc=>Ga Jg O O O) O (JLo (E6 s.Covers) [11] O .scf ⟨Ua,G⟩ (fun hc=>Ge Jv O O O) O (JLo (Ei s.Covers.length) [12] O .scf ⟨Ua,G⟩ (fun hc=>Qs (f:=G8.av) (xs:=s.Covers) Hq O O) O (JLo (BL (decide ((s.Covers.length:Int)≤cover))) [10,13] O .scf ⟨Ua,Ua,G⟩ (fun hc=>G13 O O O) O (JLh (BL ((decide (cover < 0))||(decide ((s.Covers.length:Int)≤cover)))) (Rs O O O O) O (G7 (hK3 ?_)))))))))))
 refine JCc O h ?_ ?_<;>intro h hb
 ·
  refine Jr fun hK4=>(JLh (E1 ([]:List Int)) (H2 1 O O) O (G7 (hK4 (Gq (fin1 (fun r:(List Int)=>(E1 r:AV)) h)))))
 ·
  refine Gm (hK2 ?_)
  refine Jr fun hK5=>(JLh (Eb s) (Ga Hh O O O) O (JLh (E5 s.Columns) (Ge Ho O O O) O (JLh (.fn 176 [.dptr [BL deck],Eb s,.dptr [I64 cover]]) (G3d (cs:=[.dptr [BL deck],Eb s,.dptr [I64 cover]]) O O) O ?_)))
  obtain⟨r6,hr6,h⟩:=Gd h
  refine JLh (E1 r6) (Gi O (H82 s.Columns (fun z0=>Ga6 z0 deck s cover) 176 [.dptr [BL deck],Eb s,.dptr [I64 cover]] Qec O (fun z0 q hq=>Jab z0 deck s cover q hq) r6 hr6) Qed ⟨O,O,O,O,G⟩) O (JLm (E1 r6) O (G7 (hK5 (Gq (fin1 (fun r:(List Int)=>(E1 r:AV)) h)))))

def H28 (s:H0) (cover:Int):Option (List Int):=
 bnd (H4a s cover true) fun r3=>
 some r3
theorem Q7e (s:H0) (cover:Int) (r:(List Int)) (h:H28 s cover=some r):Pure Ej 130 [.agg (H0.cs s),I64 cover] (·=E1 r):=by
 unfold H28 at h
 refine Gy [.tmp 4] Tryz.func130 O O (Jr fun hK1=>(JLh (.ptr 1190 0) (J7 (cs:=(H0.cs s)) 1190 O O O O O) O (JLh (E1 ([]:List Int)) (H2 1 O O) O (G7 (hK1 (Gr [(1,I64 cover),(2,Eb s)] [] 1190 rfl rfl rfl G rfl (by exact⟨.conv (.same rfl),.ptr,G⟩) ?_))))))
 refine Jr fun hK2=>(JLh (.agg (H0.cs s)) (Gg H7 O O O) O (JLm (I64 cover) O ?_))
 obtain⟨r3,hr3,h⟩:=Gd h
 refine JLh (E1 r3) (Gi O (Q59 s cover true r3 hr3) Qf3 ⟨O,O,O,O,O,O,G⟩) O (JLm (E1 r3) O (G7 (hK2 (Gq (fin1 (fun r:(List Int)=>(E1 r:AV)) h)))))

def G21 (s:List Int) (v:Int):Option Int:=
 each (fun y18 i18 (s18:Unit) nx18=>
  bif decide (v=y18) then
  (some (i18:Int))
  else
  (nx18 ()))
 (fun(s18:Unit)=>
  some (-1)) s 0 ()
theorem J0a (s:List Int) (v:Int) (r:Int) (h:G21 s v=some r):Pure Ej 121 [E1 s,I64 v] (·=I64 r):=by
 unfold G21 at h
 refine Gy [.tmp 4] Tryz.func121 O O (Jr fun hK1=>(JLm (I64 0) O (G7 (hK1 (Js fun hK2=>Jr fun hK3=>(JLm (E1 s) O (JLl Gn O O O fun hm7=>(JLm (I64 0) O (G7 (hK3 (Gp ?_)))))))))))
 obtain⟨b18,kx18,hb18,hkx18,h⟩:=Hv h
 refine Hc (fun i18 (s18:Unit)=>each b18 kx18 (List.drop i18 s) i18 s18=some r) (fun i18 s18=>[(0,E1 s),(1,I64 v),(7,Ei s.length),(8,Ei i18)]) (fun i18 s18=>[]) (fun i18=>s.length - i18) 0 () h ⟨(.sm O O),G,rfl⟩ ?_
 clear h
 intro i18 s18 hi18 K18 e18
 refine Jr fun hK19=>(JLh (BL (decide ((i18:Int) < (s.length:Int)))) (Hy O O O) O (G7 (hK19 (Js fun hK20=>Gj O (fun hb=>?_) (fun hb=>?_)))))
 ·
  have hk18:=J8 hb
  obtain⟨y18,nx18,hy18,hn18,h⟩:=Hj hi18 hk18
  replace h:=R8 hb18 h
  refine Gm (hK20 (Js fun hK21=>Gp (Jr fun hK22=>(JLm (Ei i18) O (JLm (Ei i18) O (G7 (hK22 (Jr fun hK23=>(JLm (I64 v) O (JLm (E1 s) O (JLm (Ei i18) O (JLh (.dptr [I64 y18]) (Gv (f:=I64) (xs:=s) (y:=y18) O O O Gn hy18 O) O (JLh (I64 y18) (Ge Gb O O O) O (JLh (BL (decide (v=y18))) (Ju O O O) O (G7 (hK23 (JCc O h (fun h hb=>?_) (fun h hb=>?_))))))))))))))))))
  ·
   refine Jr fun hK24=>(JLm (Ei i18) O (JLm (Ei i18) O (G7 (hK24 (Gq (fin1 I64 h))))))
  ·
   refine Gm (hK21 (G2 (JLh (I64 ((i18+1:Nat):Int)) (Ht (Hb hk18 hm7) O O O) O (JLm (I64 ((i18+1:Nat):Int)) O (G7 (e18 _ _ (i18+1) () (app1 hn18 h) (by omega) ⟨(.sm O O),G,rfl⟩))))))
 ·
  have h:=app1 hkx18 (Hk hi18 (H3 hb))
  refine Hi (hK2 (Jr fun hK25=>(JLm (I64 (-1)) O (G7 (hK25 (Gq (fin1 I64 h)))))))

def Yg (s:List Int) (v:Int):Option Bool:=
 bnd (G21 s v) fun r3=>
 some (decide (0≤r3))
theorem G72 (s:List Int) (v:Int) (r:Bool) (h:Yg s v=some r):Pure Ej 72 [E1 s,I64 v] (·=BL r):=by
 unfold Yg at h
 refine Gy [.tmp 4] Tryz.func72 O O (Jr fun hK1=>(JLm (BL false) O (G7 (hK1 (Jr fun hK2=>(JLm (E1 s) O (JLm (I64 v) O ?_)))))))
 obtain⟨r3,hr3,h⟩:=Gd h
 refine JLh (I64 r3) (Gi O (J0a s v r3 hr3) R06 ⟨O,O,O,O,G⟩) O (JLh (BL (decide (0≤r3))) (G13 O O O) O (JLm (BL (decide (0≤r3))) O (G7 (hK2 (Gq (fin1 BL h))))))

def Gde (s:H0) (l:List Stowed) (cover:Int):Option (List Int):=
 bnd (H28 s cover) fun r3=>
 each (fun y23 i23 (s23:(List Int)) nx23=>
  jp (fun kj26=>
   bnd (Yg r3 y23.Slot.G3) fun r29=>
   bif r29 then
   (need (decide ((s23.length+[y23.Box].length)*8≤140737488355328∧s23.length+[y23.Box].length≤maxLen)) <|
    kj26 (s23++[y23.Box]))
   else
   (kj26 s23)) fun(j26:(List Int))=>
  nx23 j26)
 (fun(s23:(List Int))=>
  some s23) l 0 []
theorem J33 (s:H0) (l:List Stowed) (cover:Int) (r:(List Int)) (h:Gde s l cover=some r):Pure Ej 85 [.agg (H0.cs s),E2 l,I64 cover] (·=E1 r):=by
 unfold Gde at h
 refine Gy [.tmp 6] Tryz.func85 O O (Jr fun hK1=>(JLh (.ptr 1140 0) (J7 (cs:=(H0.cs s)) 1140 O O O O O) O (JLh (E1 ([]:List Int)) (H2 1 O O) O (G7 (hK1 (Gr [(1,E2 l),(2,I64 cover),(3,Eb s)] [] 1140 rfl rfl rfl G rfl (by exact⟨.conv (.same rfl),.conv (.same rfl),.ptr,G⟩) ?_))))))
 refine Jr fun hK2=>(JLh (.agg (H0.cs s)) (Gg H7 O O O) O (JLm (I64 cover) O ?_))
 obtain⟨r3,hr3,h⟩:=Gd h
 refine JLh (E1 r3) (Gi O (Q7e s cover r3 hr3) R02 ⟨O,O,O,O,G⟩) O (JLm (E1 r3) O (G7 (hK2 (Jr fun hK4=>(JLh (OW 1141 1 I64 ([]:List Int)) (G12 1141 3 1 O O O) O (G7 (hK4 (Js fun hK5=>Jr fun hK6=>(JLm (E2 l) O (JLl Gx O O O fun hm15=>(JLm (I64 0) O (G7 (hK6 (Gp ?_))))))))))))))
 obtain⟨b23,kx23,hb23,hkx23,h⟩:=Hv h
 refine Hc (fun i23 (s23:(List Int))=>each b23 kx23 (List.drop i23 l) i23 s23=some r) (fun i23 s23=>[(7,E1 r3),(8,OW 1141 1 I64 s23),(14,E2 l),(15,Ei l.length),(16,Ei i23)]) (fun i23 s23=>[(1141,.spare 3 1 s23.length s23.length)]) (fun i23=>l.length - i23) 0 [] h ⟨(.sm O O),⟨⟨_,rfl,.same⟩,G⟩,rfl⟩ ?_
 clear h
 intro i23 s23 hi23 K23 e23
 refine Jr fun hK24=>(JLh (BL (decide ((i23:Int) < (l.length:Int)))) (Hy O O O) O (G7 (hK24 (Js fun hK25=>Gj O (fun hb=>?_) (fun hb=>?_)))))
 ·
  have hk23:=J8 hb
  obtain⟨y23,nx23,hy23,hn23,h⟩:=Hj hi23 hk23
  replace h:=R8 hb23 h
  refine Gm (hK25 ?_)
  obtain⟨kj26,hkj26,h⟩:=G09 h
  refine Yt (fun j26:(List Int)=>kj26 j26=some r) (fun j26=>[(7,E1 r3),(8,OW 1141 1 I64 j26),(14,E2 l),(15,Ei l.length),(16,Ei i23)]) (fun j26=>[(1141,.spare 3 1 j26.length j26.length)]) (fun Kj26 ej26=>?_) ?_
  ·
   refine Gp (Jr fun hK27=>(JLh (Ec y23) (Gv (f:=Stowed.av) (xs:=l) (y:=y23) O O O Gx hy23 O) O (JLh (.agg (Stowed.cs y23)) (Gg Ru O O O) O (JLh (.ptr 1142 0) (Jn 1142 4 Ze O O) O (Je (u:=.junk) (J5 (u:=.agg (Stowed.cs y23)) (ds:=[I64 y23.Box,I64 y23.Slot.G3,I64 y23.Slot.Tier,U8 y23.Slot.Half]) G4a O O O O O O O O) (G7 (hK27 (Gr [(7,E1 r3),(8,OW 1141 1 I64 s23),(10,Ec y23),(14,E2 l),(15,Ei l.length),(16,Ei i23)] [(1141,.spare 3 1 s23.length s23.length)] 1142 rfl rfl rfl ⟨⟨_,rfl,.same⟩,G⟩ rfl (by repeat' (first | exact .ptr | constructor)) ?_))))))))
   refine Jr fun hK28=>(JLm (E1 r3) O (JLh (.dptr ((Stowed.cs y23).drop 1)) (Ga Hs O O O) O (JLh (.dptr ((Stowed.cs y23).drop 1)) (Ga J0 O O O) O (JLh (I64 y23.Slot.G3) (Ge Gb O O O) O ?_))))
   obtain⟨r29,hr29,h⟩:=Gd h
   refine JLh (BL r29) (Gi O (G72 r3 y23.Slot.G3 r29 hr29) J47 ⟨O,O,O,O,G⟩) O (G7 (hK28 (JCc O h (fun h hb=>?_) (fun h hb=>?_))))
   ·
    refine G2 (JLm (OW 1141 1 I64 s23) O (JLh (Ec y23) (Ga Hu O O O) O (JLh (I64 y23.Box) (Ge Gb O O O) O (JLh (E1 [y23.Box]) (Ha (xs:=[I64 y23.Box]) O ⟨O,O,G⟩ Gn Jz O O O O) O ?_))))
    obtain⟨ha30,h⟩:=Hp h
    refine JLh (OW 1141 1 I64 (s23++[y23.Box])) (Q8 (f:=I64) (xs:=s23) (ys:=[y23.Box]) O O O O Gn Rt ha30 (fun _=>O) (.inl O) O) O (JLm (OW 1141 1 I64 (s23++[y23.Box])) O (G7 (ej26 _ _ (s23++[y23.Box]) h ⟨(.sm O O),⟨⟨_,rfl,.same⟩,G⟩,rfl⟩)))
   ·
    refine Gm (ej26 _ _ s23 h ⟨(.sm O O),⟨⟨_,rfl,.same⟩,G⟩,rfl⟩)
  ·intro j26 h
   replace h:=app1 hkj26 h
   refine G2 (JLh (I64 ((i23+1:Nat):Int)) (Ht (Hb hk23 hm15) O O O) O (JLm (I64 ((i23+1:Nat):Int)) O (G7 (e23 _ _ (i23+1) j26 (app1 hn23 h) (by omega) ⟨(.sm O O),⟨⟨_,rfl,.same⟩,G⟩,rfl⟩))))
 ·
  have h:=app1 hkx23 (Hk hi23 (H3 hb))
  refine Hi (hK5 (Jr fun hK31=>(JLm (OW 1141 1 I64 s23) O (JLm (OW 1141 1 I64 s23) O (G7 (hK31 (Gq (fin1l (fun r:(List Int)=>(E1 r:AV)) h))))))))
end
end Go.Proofs.YthcpolfodgjekaaGreat
