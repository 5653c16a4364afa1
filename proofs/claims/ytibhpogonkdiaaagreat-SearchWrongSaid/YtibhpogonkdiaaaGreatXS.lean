/- Walks of functions. -/
import Derived.Test.YtibhpogonkdiaaaGreatSpecF
set_option linter.unnecessarySimpa false
set_option maxRecDepth 100000
set_option maxHeartbeats 1000000
set_option linter.unusedVariables false
set_option linter.unusedSimpArgs false
namespace Go.Proofs.YtibhpogonkdiaaaGreat
open Go.RowKit
noncomputable section
def G1.vs (x:G1):List Value:=[.int .i64 x.Box,.int .i64 x.Slot.G5,.int .i64 x.Slot.Tier,.int .u8 x.Slot.Half]
namespace XSF
open XAF
open XCF
open XFF
theorem Rd1 (a b:Slot):H65 Em 4 63 [.int .i64 a.G5,.int .i64 a.Tier,.int .u8 a.Half] [.int .i64 b.G5,.int .i64 b.Tier,.int .u8 b.Half]=some (decide (a=b)):=by
 refine(show _=some ((a.G5==b.G5)&&((a.Tier==b.Tier)&&((a.Half==b.Half)&&true))) by kernel_rfl).trans (congrArg some ?_)
 rw [Bool.eq_iff_iff]
 simp only [Mc,beq_iff_eq,Md,Bool.and_true]
 constructor
 ·intro h; obtain⟨_,_,_⟩:=a; obtain⟨_,_,_⟩:=b; simp_all
 ·intro h; subst h; simp
theorem Q5:G8f Em 63 3=true:=by kernel_rfl
theorem J1a:G10 Em 63=true:=by kernel_rfl
theorem Q48:He Em 106=true:=by kernel_rfl
theorem Q47:He Em 107=true:=by kernel_rfl
theorem Q43:He Em 113=true:=by kernel_rfl
theorem Q42:He Em 114=true:=by kernel_rfl
theorem Q41:He Em 115=true:=by kernel_rfl
theorem G62:He Em 14=true:=by kernel_rfl
theorem J6e:He Em 15=true:=by kernel_rfl
theorem Ha6:He Em 20=true:=by kernel_rfl
theorem Ha5:He Em 21=true:=by kernel_rfl
theorem J6d:He Em 22=true:=by kernel_rfl
theorem J6c:He Em 23=true:=by kernel_rfl
theorem J6b:He Em 25=true:=by kernel_rfl
theorem Qb5:He Em 37=true:=by kernel_rfl
theorem Qb4:He Em 38=true:=by kernel_rfl
theorem Qb3:He Em 39=true:=by kernel_rfl
theorem Qb2:He Em 40=true:=by kernel_rfl
theorem Qb1:He Em 41=true:=by kernel_rfl
theorem Qb0:He Em 44=true:=by kernel_rfl
theorem J69:He Em 57=true:=by kernel_rfl
theorem Qad:He Em 58=true:=by kernel_rfl
theorem Qac:He Em 59=true:=by kernel_rfl
theorem Qab:He Em 61=true:=by kernel_rfl
theorem Qaa:He Em 62=true:=by kernel_rfl
theorem Qa9:He Em 63=true:=by kernel_rfl
theorem Qa8:He Em 64=true:=by kernel_rfl
theorem Qa7:He Em 65=true:=by kernel_rfl
theorem Qa6:He Em 66=true:=by kernel_rfl
theorem Qa5:He Em 67=true:=by kernel_rfl
theorem Qa1:He Em 74=true:=by kernel_rfl
theorem Ha3:He Em 75=true:=by kernel_rfl
theorem Qa0:He Em 76=true:=by kernel_rfl
theorem J64:He Em 77=true:=by kernel_rfl
theorem J63:He Em 78=true:=by kernel_rfl
theorem J61:He Em 80=true:=by kernel_rfl
theorem H31:Rq Em 59 1 24=true:=by kernel_rfl
theorem J5c:Rq Em 63 3 24=true:=by kernel_rfl
theorem Jce:Em.eqGuardType Em.depth 63=false:=by kernel_rfl
theorem Qp:Jn Em 37 0 0=true:=by kernel_rfl
theorem H0e:Jn Em 37 3 3=true:=by kernel_rfl
theorem Q8:Jn Em 63 0 0=true:=by kernel_rfl
theorem Ri:Jn Em 63 1 1=true:=by kernel_rfl
theorem Rh:Jn Em 63 2 2=true:=by kernel_rfl
theorem Ju:Jn Em 65 0 0=true:=by kernel_rfl
theorem Q7:Jn Em 65 1 1=true:=by kernel_rfl
theorem Y2:placesOf Em 37=some [(0,1),(1,1),(2,1),(3,1),(4,1),(5,1),(6,1),(7,1),(8,1)]:=by kernel_rfl
theorem G72:Qx Em 38=true:=by kernel_rfl
theorem H30:Qx Em 60=true:=by kernel_rfl
theorem H2e:R2 Em 42 1=true:=by kernel_rfl
theorem G1e:R2 Em 63 3=true:=by kernel_rfl
theorem Rc:sliceB Em 60 63 3=true:=by kernel_rfl
theorem R21:(Em.info? 3).bind (fun i=>i.zero.map Value.cells)=some (List.toArray [E0]):=by kernel_rfl
theorem Yx:(Em.info? 37).bind (fun i=>i.zero.map Value.cells)=some (List.toArray [E0,.string ByteArray.empty,.int .u8 0,.bool false,E0,E0,E0,.int .u8 0,.bool false]):=by kernel_rfl
theorem Q91:(Em.info? 42).bind (fun i=>i.zero.map Value.cells)=some (List.toArray [.slice none 0 0]):=by kernel_rfl
theorem Gb0:Qf Em 59 1=true:=by kernel_rfl
theorem Zu:Qf Em 63 3=true:=by kernel_rfl
end XSF
open XAF
open XCF
open XFF
open XSF

def G58 (b:Box) (a:Int):Option Bool:=
 some (decide (b.ID=a))
theorem J3f (b:Box) (a:Int) (r:Bool) (h:G58 b a=some r):Pure Em 58 [.agg (Box.cs b),.dptr [I64 a]] (·=BL r):=by
 unfold G58 at h
 refine H7 [.tmp 3] Tryz.func58 O O ?_
 refine Jr fun c=>?_
 refine JLg (.ptr 1127 0) (Jx (cs:=(Box.cs b)) 1127 O O O O O) ?_
 refine JLm (BL false) O ?_
 refine G6 (c ?_)
 refine Gj [(1,.dptr [I64 a]),(2,Ei b)] [] 1127 rfl rfl rfl ø rfl (by exact⟨.conv (.same rfl),.ptr,ø⟩) ?_
 refine Jr fun d=>?_
 refine JLg (Ei b) (Gd Qp O O O) ?_
 refine JLg (I64 b.ID) (Gf G9 O O O) ?_
 refine JLg (I64 a) (Gf G9 O O O) ?_
 refine JLg (BL (decide (b.ID=a))) (Q4 O O O) ?_
 refine JLm (BL (decide (b.ID=a))) O ?_
 refine G6 (d ?_)
 refine Gy ?_
 exact fin1 BL h

def R9 (s:List Box) (f:Box→Option Bool):Option Int:=
 each (fun b c (d:Unit) a=>
  bnd (f b) fun e=>
  bif e then
  (some (c:Int))
  else
  (a ()))
 (fun(d:Unit)=>
  some (-1)) s 0 ()
theorem G33 (s:List Box) (f:Box→Option Bool) (f_f:FuncId) (f_c:List AV) (f_B:He Em f_f=true) (f_d:Qe (fun _=>false) f_c=true) (f_w:∀ a0 q,f a0=some q→Pure Em f_f ([.agg (Box.cs a0)]++f_c) (·=BL q)) (r:Int) (h:R9 s f=some r):Pure Em 57 [E6 s,.fn f_f f_c] (·=I64 r):=by
 unfold R9 at h
 refine H7 [.tmp 4] Tryz.func57 O O ?_
 refine Jr fun x=>?_
 refine JLm (I64 0) O ?_
 refine G6 (x ?_)
 refine Js fun z=>?_
 refine Jr fun a1=>?_
 refine JLm (E6 s) O ?_
 refine JLl Hx O O O fun a2=>?_
 refine JLm (I64 0) O ?_
 refine G6 (a1 ?_)
 refine Gk ?_
 obtain⟨a3,i,j,g,h⟩:=J3 h
 refine Hi (fun a (c:Unit)=>each a3 i (List.drop a s) a c=some r) (fun a c=>[(0,E6 s),(1,.fn f_f f_c),(7,Ek s.length),(8,Ek a)]) (fun a c=>[]) (fun a=>s.length - a) 0 () h ⟨⟨.same O,.same (Jt _ _ f_d),.same O,.same O,ø⟩,ø,O⟩ ?_
 clear h
 intro a c d a7 a4
 refine Jr fun k=>?_
 refine JLg (BL (decide ((a:Int) < (s.length:Int)))) (Jc O O O) ?_
 refine G6 (k ?_)
 refine Js fun l=>?_
 refine Gn O (fun hb=>?_) (fun hb=>?_)
 ·
  have e:=Jk hb
  obtain⟨b,a6,m,n,h⟩:=Hr d e
  replace h:=Ry j h
  refine Gp ?_
  refine l ?_
  refine Js fun o=>?_
  refine Gk ?_
  refine Jr fun p=>?_
  refine JLm (Ek a) O ?_
  refine JLm (Ek a) O ?_
  refine G6 (p ?_)
  refine Jr fun t=>?_
  refine JLm (.fn f_f f_c) O ?_
  refine JLm (E6 s) O ?_
  refine JLm (Ek a) O ?_
  refine JLg (Ei b) (H3 (f:=Box.av) (xs:=s) (y:=b) O O O Hx m O) ?_
  refine JLg (.agg (Box.cs b)) (Gi Yu O O O) ?_
  obtain⟨a5,u,h⟩:=Gh h
  refine JLg (BL a5) (G18 (args:=[.agg (Box.cs b)]) (caps:=f_c) O O (f_w b _ u) f_B ⟨O,O,ø⟩ f_d) ?_
  refine G6 (t ?_)
  refine JCc O h ?_ ?_<;>intro h hb
  ·
   refine Jr fun v=>?_
   refine JLm (Ek a) O ?_
   refine JLm (Ek a) O ?_
   refine G6 (v ?_)
   refine Gy ?_
   exact fin1 I64 h
  ·
   refine Gp ?_
   refine o ?_
   refine G2 ?_
   refine JLg (I64 ((a+1:Nat):Int)) (Hv (Ha e a2) O O O) ?_
   refine JLm (I64 ((a+1:Nat):Int)) O ?_
   refine G6 ?_
   exact a4 _ _ (a+1) () (app1 n h) (by omega) ⟨⟨.same rfl,.same (Jt _ _ f_d),.same rfl,.same rfl,ø⟩,ø,rfl⟩
 ·
  have h:=app1 g (Hs d (H9 hb))
  refine Ho ?_
  refine z ?_
  refine Jr fun w=>?_
  refine JLm (I64 (-1)) O ?_
  refine G6 (w ?_)
  refine Gy ?_
  exact fin1 I64 h

def G1a (boxes:List Box) (id_:Int):Option (Box×Bool):=
 bnd (R9 boxes (fun z0=>G58 z0 id_)) fun a=>
 bif decide (a < 0) then
 (some ((Box.mk 0 ByteArray.empty 0 false 0 0 0 0 false),false))
 else
 (Jz boxes a fun b=>
  some (b,true))
theorem H13 (boxes:List Box) (id_:Int) (r:Box×Bool) (h:G1a boxes id_=some r):Pure Em 21 [E6 boxes,I64 id_] (·=.tup [.agg (Box.cs r.1),BL r.2]):=by
 unfold G1a at h
 refine H7 [.cell 4 37,.tmp 5] Tryz.func21 O O ?_
 refine Jr fun c=>?_
 refine JLg (.ptr 1066 0) (Jx (cs:=[I64 id_]) 1066 O O O O O) ?_
 refine JLg (.ptr 1067 0) (Y7 1067 [I64 0,ST Kt,U8 0,BL false,I64 0,I64 0,I64 0,U8 0,BL false] [E0,.string ByteArray.empty,.int .u8 0,.bool false,E0,E0,E0,.int .u8 0,.bool false] Yx (zzQ O) O O) ?_
 refine JLm (BL false) O ?_
 refine G6 (c ?_)
 refine Gj [(0,E6 boxes),(3,.dptr [I64 id_]),(4,.ptr 1067 0)] [(1067,.box 37 [I64 0,ST Kt,U8 0,BL false,I64 0,I64 0,I64 0,U8 0,BL false])] 1066 rfl rfl rfl ⟨⟨_,rfl,.boxEq rfl rfl⟩,ø⟩ rfl (by exact⟨.conv (.same rfl),.ptr,.conv (.same rfl),ø⟩) ?_
 refine Jr fun d=>?_
 refine JLm (E6 boxes) O ?_
 refine JLg (.fn 58 [.dptr [I64 id_]]) (Yh (cs:=[.dptr [I64 id_]]) O O) ?_
 obtain⟨a,e,h⟩:=Gh h
 refine JLg (I64 a) (H0 O (G33 boxes (fun z0=>G58 z0 id_) 58 [.dptr [I64 id_]] Qad O (fun z0 q hq=>J3f z0 id_ q hq) a e) J69 ⟨O,O,O,O,ø⟩) ?_
 refine JLm (I64 a) O ?_
 refine G6 (d ?_)
 refine Js fun g=>?_
 refine Jr fun i=>?_
 refine JLm (I64 a) O ?_
 refine JLg (BL (decide (a < 0))) (Jc O O O) ?_
 refine G6 (i ?_)
 refine JCc O h ?_ ?_<;>intro h hb
 ·
  refine Jr fun j=>?_
  refine JLg (.agg [I64 0,ST Kt,U8 0,BL false,I64 0,I64 0,I64 0,U8 0,BL false]) (J6 (cs:=[I64 0,ST Kt,U8 0,BL false,I64 0,I64 0,I64 0,U8 0,BL false]) [(0,1),(1,1),(2,1),(3,1),(4,1),(5,1),(6,1),(7,1),(8,1)] [I64 0,ST Kt,U8 0,BL false,I64 0,I64 0,I64 0,U8 0,BL false] [E0,.string ByteArray.empty,.int .u8 0,.bool false,E0,E0,E0,.int .u8 0,.bool false] Y2 Yx (zzQ O) O O) ?_
  refine Hb (u:=.junk) (Gz (u:=.agg [I64 0,ST Kt,U8 0,BL false,I64 0,I64 0,I64 0,U8 0,BL false]) (ds:=[I64 0,ST Kt,U8 0,BL false,I64 0,I64 0,I64 0,U8 0,BL false]) Yd O O O O O O O O) ?_
  refine JLm (BL false) O ?_
  refine G6 (j ?_)
  refine Gy ?_
  exact⟨[.agg [I64 0,ST Kt,U8 0,BL false,I64 0,I64 0,I64 0,U8 0,BL false],BL false],[],ø,O,⟨⟨_,⟨_,_,_,_,O,O,O,.inl ⟨Yu,O⟩⟩,.conv (.same O)⟩,⟨_,O,.conv (.same O)⟩,ø⟩,O,congrArg (fun r:Box×Bool=>(.tup [.agg (Box.cs r.1),BL r.2]:AV)) (M0 h)⟩
 ·
  refine Gp ?_
  refine g ?_
  refine Jr fun k=>?_
  refine JLm (E6 boxes) O ?_
  refine JLm (I64 a) O ?_
  obtain⟨n,b,l,m,h⟩:=Qm h
  refine JLg (Ei b) (H3 (f:=Box.av) (xs:=boxes) (y:=b) O O O Hx m l) ?_
  refine JLg (.agg (Box.cs b)) (Gi Yu O O O) ?_
  refine Hb (u:=.junk) (Gz (u:=.agg (Box.cs b)) (ds:=(Box.cs b)) Yd O O O O O O O O) ?_
  refine JLm (BL true) O ?_
  refine G6 (k ?_)
  refine Gy ?_
  exact⟨[.agg (Box.cs b),BL true],[],ø,O,⟨⟨_,⟨_,_,_,_,O,O,O,.inl ⟨Yu,O⟩⟩,.conv (.same O)⟩,⟨_,O,.conv (.same O)⟩,ø⟩,O,congrArg (fun r:Box×Bool=>(.tup [.agg (Box.cs r.1),BL r.2]:AV)) (M0 h)⟩

def G3d (s:Ge):Option Int:=
 each (fun c e (a:Int) d=>
  jp (fun b=>
   bif ((decide ((e:Int)=0))||(decide (a < c.Tiers))) then
   (b c.Tiers)
   else
   (b a)) fun(f:Int)=>
  d f)
 (fun(a:Int)=>
  some a) s.Columns 0 0
theorem J09 (s:Ge) (r:Int) (h:G3d s=some r):Pure Em 59 [.agg (Ge.cs s)] (·=I64 r):=by
 unfold G3d at h
 refine H7 [.tmp 2] Tryz.func59 O O ?_
 refine Jr fun x=>?_
 refine JLg (.ptr 1128 0) (Jx (cs:=(Ge.cs s)) 1128 O O O O O) ?_
 refine JLm (I64 0) O ?_
 refine G6 (x ?_)
 refine Gj [(1,Ef s)] [] 1128 rfl rfl rfl ø rfl (by exact⟨.ptr,ø⟩) ?_
 refine Jr fun z=>?_
 refine JLm (I64 0) O ?_
 refine G6 (z ?_)
 refine Js fun a0=>?_
 refine Jr fun a1=>?_
 refine JLg (Ef s) (Gd Hk O O O) ?_
 refine JLg (Ea s.Columns) (Gf J2 O O O) ?_
 refine JLl Hj O O O fun a2=>?_
 refine JLm (I64 0) O ?_
 refine G6 (a1 ?_)
 refine Gk ?_
 obtain⟨a3,k,l,i,h⟩:=J3 h
 refine Hi (fun a (c:Int)=>each a3 k (List.drop a s.Columns) a c=some r) (fun a c=>[(3,I64 c),(7,Ea s.Columns),(8,Ek s.Columns.length),(9,Ek a)]) (fun a c=>[]) (fun a=>s.Columns.length - a) 0 0 h ⟨(.sm O O),ø,rfl⟩ ?_
 clear h
 intro a c e a6 a4
 refine Jr fun m=>?_
 refine JLg (BL (decide ((a:Int) < (s.Columns.length:Int)))) (Jc O O O) ?_
 refine G6 (m ?_)
 refine Js fun n=>?_
 refine Gn O (fun hb=>?_) (fun hb=>?_)
 ·
  have g:=Jk hb
  obtain⟨b,a5,o,p,h⟩:=Hr e g
  replace h:=Ry l h
  refine Gp ?_
  refine n ?_
  obtain⟨q,j,h⟩:=R1 h
  refine Qa (fun d:Int=>q d=some r) (fun d=>[(3,I64 d),(7,Ea s.Columns),(8,Ek s.Columns.length),(9,Ek a)]) (fun d=>[]) (fun Kj20 ej20=>?_) ?_
  ·
   refine Gk ?_
   refine Jr fun t=>?_
   refine JLm (Ek a) O ?_
   refine JLg (Eh b) (H3 (f:=G5.av) (xs:=s.Columns) (y:=b) O O O Hj o O) ?_
   refine JLg (.agg (G5.cs b)) (Gi G44 O O O) ?_
   refine JLg (.ptr 1129 0) (Hd 1129 12 Yq O O) ?_
   refine JLm (Ek a) O ?_
   refine Hb (u:=.junk) (Gz (u:=.agg (G5.cs b)) (ds:=(G5.cs b)) G96 O O O O O O O O) ?_
   refine G6 (t ?_)
   refine fzQ [(3,I64 c),(4,Ek a),(5,Eh b),(7,Ea s.Columns),(8,Ek s.Columns.length),(9,Ek a)] [] 1129 rfl rfl rfl ø rfl ?_
   refine Jr fun v=>?_
   refine JLm (Ek a) O ?_
   refine JLg (BL (decide ((a:Int)=0))) (Q4 O O O) ?_
   refine JLm (BL (decide ((a:Int)=0))) O ?_
   refine JLo (.dptr ((G5.cs b).drop 3)) [] O .scf ø (fun hc=>Gd Y0 O O O) O ?_
   refine JLo (I64 b.Tiers) [17] O .scf ⟨Ua,ø⟩ (fun hc=>Gf G9 O O O) O ?_
   refine JLo (I64 c) [] O .scf ø (fun hc=>G4 O O) O ?_
   refine JLo (BL (decide (c < b.Tiers))) [18,19] O .scf ⟨Ua,Ua,ø⟩ (fun hc=>G29 O O O) O ?_
   refine JLg (BL ((decide ((a:Int)=0))||(decide (c < b.Tiers)))) (G24 O O O O) ?_
   refine G6 (v ?_)
   refine JCc O h ?_ ?_<;>intro h hb
   ·
    refine G2 ?_
    refine JLg (.dptr ((G5.cs b).drop 3)) (Gd Y0 O O O) ?_
    refine JLg (I64 b.Tiers) (Gf G9 O O O) ?_
    refine JLm (I64 b.Tiers) O ?_
    refine G6 ?_
    exact ej20 _ _ b.Tiers h ⟨(.sm O O),ø,rfl⟩
   ·
    refine Gp ?_
    exact ej20 _ _ c h ⟨(.sm O O),ø,rfl⟩
  ·intro d h
   replace h:=app1 j h
   refine G2 ?_
   refine JLg (I64 ((a+1:Nat):Int)) (Hv (Ha g a2) O O O) ?_
   refine JLm (I64 ((a+1:Nat):Int)) O ?_
   refine G6 ?_
   exact a4 _ _ (a+1) d (app1 p h) (by omega) ⟨(.sm O O),ø,rfl⟩
 ·
  have h:=app1 i (Hs e (H9 hb))
  refine Ho ?_
  refine a0 ?_
  refine Jr fun w=>?_
  refine JLm (I64 c) O ?_
  refine JLm (I64 c) O ?_
  refine G6 (w ?_)
  refine Gy ?_
  exact fin1 I64 h

def Q3 (s:Ge):Option Bool:=
 bnd (bif decide ((s.Columns.length:Int)≤3) then G3d s else some default) fun a=>
 some ((decide ((s.Columns.length:Int)≤3))&&(decide (a≤3)))
theorem H05 (s:Ge) (r:Bool) (h:Q3 s=some r):Pure Em 22 [.agg (Ge.cs s)] (·=BL r):=by
 unfold Q3 at h
 refine H7 [.tmp 2] Tryz.func22 O O ?_
 refine Jr fun b=>?_
 refine JLg (.ptr 1068 0) (Jx (cs:=(Ge.cs s)) 1068 O O O O O) ?_
 refine JLm (BL false) O ?_
 refine G6 (b ?_)
 refine Gj [(1,Ef s)] [] 1068 rfl rfl rfl ø rfl (by exact⟨.ptr,ø⟩) ?_
 refine Jr fun c=>?_
 refine JLg (Ef s) (Gd Hk O O O) ?_
 refine JLg (Ea s.Columns) (Gf J2 O O O) ?_
 refine JLl Hj O O O fun e=>?_
 refine JLg (BL (decide ((s.Columns.length:Int)≤3))) (H0b O O O) ?_
 refine JLm (BL (decide ((s.Columns.length:Int)≤3))) O ?_
 refine JLo (.agg (Ge.cs s)) [] O .sct ø (fun hc=>Gi Hm O O O) O ?_
 obtain⟨a,d,h⟩:=Gh h
 refine JLo (I64 a) [8] O .sct ⟨Ua,ø⟩ (fun hc=>H0 (args:=[.agg (Ge.cs s)]) O (J09 s a (Hc hc d)) Qac ⟨O,O,ø⟩) O ?_
 refine JLo (BL (decide (a≤3))) [9] O .sct ⟨Ua,ø⟩ (fun hc=>H0b O O O) O ?_
 refine JLg (BL ((decide ((s.Columns.length:Int)≤3))&&(decide (a≤3)))) (Qs O O O O) ?_
 refine JLm (BL ((decide ((s.Columns.length:Int)≤3))&&(decide (a≤3)))) O ?_
 refine G6 (c ?_)
 refine Gy ?_
 exact fin1 BL h

def Y5 (a:G1) (b:G1):Option Int:=
 bnd (Qq a.Box b.Box) fun c=>
 some c
theorem H8b (a:G1) (b:G1) (r:Int) (h:Y5 a b=some r):Pure Em 62 [.agg (G1.cs a),.agg (G1.cs b)] (·=I64 r):=by
 unfold Y5 at h
 refine H7 [.tmp 4] Tryz.func62 O O ?_
 refine Jr fun d=>?_
 refine JLg (.ptr 1133 0) (Jx (cs:=[I64 a.Box,I64 a.Slot.G5,I64 a.Slot.Tier,U8 a.Slot.Half]) 1133 O O O O O) ?_
 refine JLg (.ptr 1134 0) (Jx (cs:=[I64 b.Box,I64 b.Slot.G5,I64 b.Slot.Tier,U8 b.Slot.Half]) 1134 O O O O O) ?_
 refine JLm (I64 0) O ?_
 refine G6 (d ?_)
 refine Gj [(2,Eg a),(3,.ptr 1134 0)] [(1134,.box 65 [I64 b.Box,I64 b.Slot.G5,I64 b.Slot.Tier,U8 b.Slot.Half])] 1133 rfl rfl rfl ⟨⟨_,rfl,.boxEq rfl rfl⟩,ø⟩ rfl (by exact⟨.ptr,.conv (.same rfl),ø⟩) ?_
 refine Gj [(2,Eg a),(3,Eg b)] [] 1134 rfl rfl rfl ø rfl (by exact⟨.conv (.same rfl),.ptr,ø⟩) ?_
 refine Jr fun e=>?_
 refine JLg (Eg a) (Gd Ju O O O) ?_
 refine JLg (I64 a.Box) (Gf G9 O O O) ?_
 refine JLg (Eg b) (Gd Ju O O O) ?_
 refine JLg (I64 b.Box) (Gf G9 O O O) ?_
 obtain⟨c,f,h⟩:=Gh h
 refine JLg (I64 c) (H0 O (Z6 a.Box b.Box c f) Ge0 ⟨O,O,O,O,ø⟩) ?_
 refine JLm (I64 c) O ?_
 refine G6 (e ?_)
 refine Gy ?_
 exact fin1 I64 h

def G83 (l:List G1):Option (List Slot):=
 each (fun b d (a:(List Slot)) c=>
  need (decide ((a.length+[b.Slot].length)*24≤140737488355328∧a.length+[b.Slot].length≤maxLen)) <|
  c (a++[b.Slot]))
 (fun(a:(List Slot))=>
  some a) l 0 []
theorem J9a (l:List G1) (r:(List Slot)) (h:G83 l=some r):Pure Em 37 [E4 l] (·=Ec r):=by
 unfold G83 at h
 refine H7 [.tmp 2] Tryz.func37 O O ?_
 refine Jr fun v=>?_
 refine JLg (Ec ([]:List Slot)) (Qh 3 O O) ?_
 refine G6 (v ?_)
 refine Jr fun w=>?_
 refine JLg (OW 1105 3 Slot.av ([]:List Slot)) (G3e 1105 63 3 O O O) ?_
 refine G6 (w ?_)
 refine Js fun x=>?_
 refine Jr fun z=>?_
 refine JLm (E4 l) O ?_
 refine JLl H6 O O O fun a0=>?_
 refine JLm (I64 0) O ?_
 refine G6 (z ?_)
 refine Gk ?_
 obtain⟨a1,i,j,g,h⟩:=J3 h
 refine Hi (fun c (a:(List Slot))=>each a1 i (List.drop c l) c a=some r) (fun c a=>[(3,OW 1105 3 Slot.av a),(6,E4 l),(7,Ek l.length),(8,Ek c)]) (fun c a=>[(1105,.spare 63 3 a.length a.length)]) (fun c=>l.length - c) 0 [] h ⟨(.sm O O),⟨⟨_,rfl,.same⟩,ø⟩,rfl⟩ ?_
 clear h
 intro c a d a4 a2
 refine Jr fun k=>?_
 refine JLg (BL (decide ((c:Int) < (l.length:Int)))) (Jc O O O) ?_
 refine G6 (k ?_)
 refine Js fun m=>?_
 refine Gn O (fun hb=>?_) (fun hb=>?_)
 ·
  have e:=Jk hb
  obtain⟨b,a3,n,o,h⟩:=Hr d e
  replace h:=Ry j h
  refine Gp ?_
  refine m ?_
  refine Js fun p=>?_
  refine Gk ?_
  refine Jr fun q=>?_
  refine JLg (Eg b) (H3 (f:=G1.av) (xs:=l) (y:=b) O O O H6 n O) ?_
  refine JLg (.agg (G1.cs b)) (Gi Qk O O O) ?_
  refine JLg (.ptr 1106 0) (Hd 1106 4 Qd O O) ?_
  refine Hb (u:=.junk) (Gz (u:=.agg (G1.cs b)) (ds:=[I64 b.Box,I64 b.Slot.G5,I64 b.Slot.Tier,U8 b.Slot.Half]) Yc O O O O O O O O) ?_
  refine G6 (q ?_)
  refine fzQ [(3,OW 1105 3 Slot.av a),(5,Eg b),(6,E4 l),(7,Ek l.length),(8,Ek c)] [(1105,.spare 63 3 a.length a.length)] 1106 rfl rfl rfl ⟨⟨_,rfl,.same⟩,ø⟩ rfl ?_
  refine G2 ?_
  refine JLm (OW 1105 3 Slot.av a) O ?_
  refine JLg (.dptr ((G1.cs b).drop 1)) (Gd Q7 O O O) ?_
  refine JLg (.agg ((G1.cs b).drop 1)) (Gi Q5 O O O) ?_
  refine JLg (Ec [b.Slot]) (H8 (xs:=[.agg ((G1.cs b).drop 1)]) O ⟨O,O,ø⟩ Rc Zu O O O O) ?_
  obtain⟨s,h⟩:=J0 h
  refine JLg (OW 1105 3 Slot.av (a++[b.Slot])) (Qz (f:=Slot.av) (xs:=a) (ys:=[b.Slot]) O O O O Rc J5c s (fun _=>O) (.inl O) O) ?_
  refine JLm (OW 1105 3 Slot.av (a++[b.Slot])) O ?_
  refine G6 (p ?_)
  refine G2 ?_
  refine JLg (I64 ((c+1:Nat):Int)) (Hv (Ha e a0) O O O) ?_
  refine JLm (I64 ((c+1:Nat):Int)) O ?_
  refine G6 ?_
  exact a2 _ _ (c+1) (a++[b.Slot]) (app1 o h) (by omega) ⟨(.sm O O),⟨⟨_,rfl,.same⟩,ø⟩,rfl⟩
 ·
  have h:=app1 g (Hs d (H9 hb))
  refine Ho ?_
  refine x ?_
  refine Jr fun t=>?_
  refine JLm (OW 1105 3 Slot.av a) O ?_
  refine JLm (OW 1105 3 Slot.av a) O ?_
  refine G6 (t ?_)
  refine Gy ?_
  exact fin1l (fun r:(List Slot)=>(Ec r:AV)) h

def Ys (s:List Int) (v:Int):Option Int:=
 each (fun b c (d:Unit) a=>
  bif decide (v=b) then
  (some (c:Int))
  else
  (a ()))
 (fun(d:Unit)=>
  some (-1)) s 0 ()
theorem H42 (s:List Int) (v:Int) (r:Int) (h:Ys s v=some r):Pure Em 113 [Ed s,U8 v] (·=I64 r):=by
 unfold Ys at h
 refine H7 [.tmp 4] Tryz.func113 O O ?_
 refine Jr fun w=>?_
 refine JLm (I64 0) O ?_
 refine G6 (w ?_)
 refine Js fun x=>?_
 refine Jr fun z=>?_
 refine JLm (Ed s) O ?_
 refine JLl Zv O O O fun a0=>?_
 refine JLm (I64 0) O ?_
 refine G6 (z ?_)
 refine Gk ?_
 obtain⟨a1,i,j,g,h⟩:=J3 h
 refine Hi (fun a (b:Unit)=>each a1 i (List.drop a s) a b=some r) (fun a b=>[(0,Ed s),(1,U8 v),(7,Ek s.length),(8,Ek a)]) (fun a b=>[]) (fun a=>s.length - a) 0 () h ⟨(.sm O O),ø,rfl⟩ ?_
 clear h
 intro a b d a4 a2
 refine Jr fun k=>?_
 refine JLg (BL (decide ((a:Int) < (s.length:Int)))) (Jc O O O) ?_
 refine G6 (k ?_)
 refine Js fun l=>?_
 refine Gn O (fun hb=>?_) (fun hb=>?_)
 ·
  have e:=Jk hb
  obtain⟨c,a3,m,n,h⟩:=Hr d e
  replace h:=Ry j h
  refine Gp ?_
  refine l ?_
  refine Js fun o=>?_
  refine Gk ?_
  refine Jr fun p=>?_
  refine JLm (Ek a) O ?_
  refine JLm (Ek a) O ?_
  refine G6 (p ?_)
  refine Jr fun q=>?_
  refine JLm (U8 v) O ?_
  refine JLm (Ed s) O ?_
  refine JLm (Ek a) O ?_
  refine JLg (.dptr [U8 c]) (H3 (f:=U8) (xs:=s) (y:=c) O O O Zv m O) ?_
  refine JLg (U8 c) (Gf J9 O O O) ?_
  refine JLg (BL (decide (v=c))) (Q4 O O O) ?_
  refine G6 (q ?_)
  refine JCc O h ?_ ?_<;>intro h hb
  ·
   refine Jr fun t=>?_
   refine JLm (Ek a) O ?_
   refine JLm (Ek a) O ?_
   refine G6 (t ?_)
   refine Gy ?_
   exact fin1 I64 h
  ·
   refine Gp ?_
   refine o ?_
   refine G2 ?_
   refine JLg (I64 ((a+1:Nat):Int)) (Hv (Ha e a0) O O O) ?_
   refine JLm (I64 ((a+1:Nat):Int)) O ?_
   refine G6 ?_
   exact a2 _ _ (a+1) () (app1 n h) (by omega) ⟨(.sm O O),ø,rfl⟩
 ·
  have h:=app1 g (Hs d (H9 hb))
  refine Ho ?_
  refine x ?_
  refine Jr fun u=>?_
  refine JLm (I64 (-1)) O ?_
  refine G6 (u ?_)
  refine Gy ?_
  exact fin1 I64 h

def Rt (s:List Int) (v:Int):Option Bool:=
 bnd (Ys s v) fun a=>
 some (decide (0≤a))
theorem Gf6 (s:List Int) (v:Int) (r:Bool) (h:Rt s v=some r):Pure Em 74 [Ed s,U8 v] (·=BL r):=by
 unfold Rt at h
 refine H7 [.tmp 4] Tryz.func74 O O ?_
 refine Jr fun b=>?_
 refine JLm (BL false) O ?_
 refine G6 (b ?_)
 refine Jr fun c=>?_
 refine JLm (Ed s) O ?_
 refine JLm (U8 v) O ?_
 obtain⟨a,d,h⟩:=Gh h
 refine JLg (I64 a) (H0 O (H42 s v a d) Q43 ⟨O,O,O,O,ø⟩) ?_
 refine JLg (BL (decide (0≤a))) (Gf2 O O O) ?_
 refine JLm (BL (decide (0≤a))) O ?_
 refine G6 (c ?_)
 refine Gy ?_
 exact fin1 BL h

def G85 (s:Ge) (x:Slot) (size:Int):Option Bool:=
 bnd (bif (((decide (0≤x.G5))&&(decide (x.G5 < (s.Columns.length:Int))))&&(decide (0≤x.Tier))) then Jz s.Columns x.G5 some else some default) fun a=>
 bnd (bif ((((decide (0≤x.G5))&&(decide (x.G5 < (s.Columns.length:Int))))&&(decide (0≤x.Tier)))&&(decide (x.Tier < a.Tiers))) then G0d size else some default) fun b=>
 bnd (bif ((((decide (0≤x.G5))&&(decide (x.G5 < (s.Columns.length:Int))))&&(decide (0≤x.Tier)))&&(decide (x.Tier < a.Tiers))) then Rt b x.Half else some default) fun c=>
 some (((((decide (0≤x.G5))&&(decide (x.G5 < (s.Columns.length:Int))))&&(decide (0≤x.Tier)))&&(decide (x.Tier < a.Tiers)))&&c)
theorem J9c (s:Ge) (x:Slot) (size:Int) (r:Bool) (h:G85 s x size=some r):Pure Em 38 [.agg (Ge.cs s),.agg [I64 x.G5,I64 x.Tier,U8 x.Half],U8 size] (·=BL r):=by
 unfold G85 at h
 refine H7 [.tmp 6] Tryz.func38 O O ?_
 refine Jr fun d=>?_
 refine JLg (.ptr 1107 0) (Jx (cs:=(Ge.cs s)) 1107 O O O O O) ?_
 refine JLg (.ptr 1108 0) (Jx (cs:=[I64 x.G5,I64 x.Tier,U8 x.Half]) 1108 O O O O O) ?_
 refine JLm (BL false) O ?_
 refine G6 (d ?_)
 refine Gj [(2,U8 size),(3,Ef s),(4,.ptr 1108 0)] [(1108,.box 63 [I64 x.G5,I64 x.Tier,U8 x.Half])] 1107 rfl rfl rfl ⟨⟨_,rfl,.boxEq rfl rfl⟩,ø⟩ rfl (by exact⟨.conv (.same rfl),.ptr,.conv (.same rfl),ø⟩) ?_
 refine Gj [(2,U8 size),(3,Ef s),(4,.dptr [I64 x.G5,I64 x.Tier,U8 x.Half])] [] 1108 rfl rfl rfl ø rfl (by exact⟨.conv (.same rfl),.conv (.same rfl),.ptr,ø⟩) ?_
 refine Js fun e=>?_
 obtain⟨a,g,h⟩:=Gh h
 obtain⟨b,i,h⟩:=Gh h
 obtain⟨c,j,h⟩:=Gh h
 refine JC_d0 Q0 (by kernel_rfl) ?_
 refine Dq (.dptr [I64 x.G5,I64 x.Tier,U8 x.Half]) (Gd Q8 O O O) O ?_
 refine Dq (I64 x.G5) (Gf G9 O O O) O ?_
 refine Dq (BL (decide (0≤x.G5))) (Gf2 O O O) O ?_
 refine Dq (BL (decide (0≤x.G5))) (G4 O O) O ?_
 refine Do (.dptr [I64 x.G5,I64 x.Tier,U8 x.Half]) [] O .sct ø (fun hc=>Gd Q8 O O O) O ?_
 refine Do (I64 x.G5) [11] O .sct ⟨Ua,ø⟩ (fun hc=>Gf G9 O O O) O ?_
 refine Do (Ef s) [] O .sct ø (fun hc=>Gd Hk O O O) O ?_
 refine Do (Ea s.Columns) [13] O .sct ⟨Ua,ø⟩ (fun hc=>Gf J2 O O O) O ?_
 refine Do (Ek s.Columns.length) [14] O .sct ⟨Ua,ø⟩ (fun hc=>G25 (f:=G5.av) (xs:=s.Columns) Hj O O) O ?_
 refine Do (BL (decide (x.G5 < (s.Columns.length:Int)))) [12,15] O .sct ⟨Ua,Ua,ø⟩ (fun hc=>Jc O O O) O ?_
 refine Dq (BL ((decide (0≤x.G5))&&(decide (x.G5 < (s.Columns.length:Int))))) (Qs O O O O) O ?_
 refine Dq (BL ((decide (0≤x.G5))&&(decide (x.G5 < (s.Columns.length:Int))))) (G4 O O) O ?_
 refine Do (.dptr [I64 x.Tier,U8 x.Half]) [] O .sct ø (fun hc=>Gd Ri O O O) O ?_
 refine Do (I64 x.Tier) [19] O .sct ⟨Ua,ø⟩ (fun hc=>Gf G9 O O O) O ?_
 refine Do (BL (decide (0≤x.Tier))) [20] O .sct ⟨Ua,ø⟩ (fun hc=>Gf2 O O O) O ?_
 refine Dq (BL (((decide (0≤x.G5))&&(decide (x.G5 < (s.Columns.length:Int))))&&(decide (0≤x.Tier)))) (Qs O O O O) O ?_
 refine Dq (BL (((decide (0≤x.G5))&&(decide (x.G5 < (s.Columns.length:Int))))&&(decide (0≤x.Tier)))) (G4 O O) O ?_
 refine Do (.dptr [I64 x.Tier,U8 x.Half]) [] O .sct ø (fun hc=>Gd Ri O O O) O ?_
 refine Do (I64 x.Tier) [24] O .sct ⟨Ua,ø⟩ (fun hc=>Gf G9 O O O) O ?_
 refine Do (Ef s) [] O .sct ø (fun hc=>Gd Hk O O O) O ?_
 refine Do (Ea s.Columns) [26] O .sct ⟨Ua,ø⟩ (fun hc=>Gf J2 O O O) O ?_
 refine Do (.dptr [I64 x.G5,I64 x.Tier,U8 x.Half]) [] O .sct ø (fun hc=>Gd Q8 O O O) O ?_
 refine Do (I64 x.G5) [28] O .sct ⟨Ua,ø⟩ (fun hc=>Gf G9 O O O) O ?_
 refine Do (Eh a) [27,29] O .sct ⟨Ua,Ua,ø⟩ (fun hc=>(match G13 (Hc hc g) with | ⟨_,hm_,hy_⟩=>H3 (f:=G5.av) (xs:=s.Columns) (y:=a) O O O Hj hy_ hm_)) O ?_
 refine Do (.dptr ((G5.cs a).drop 3)) [30] O .sct ⟨Ua,ø⟩ (fun hc=>Gd Y0 O O O) O ?_
 refine Do (I64 a.Tiers) [31] O .sct ⟨Ua,ø⟩ (fun hc=>Gf G9 O O O) O ?_
 refine Do (BL (decide (x.Tier < a.Tiers))) [25,32] O .sct ⟨Ua,Ua,ø⟩ (fun hc=>Jc O O O) O ?_
 refine Dq (BL ((((decide (0≤x.G5))&&(decide (x.G5 < (s.Columns.length:Int))))&&(decide (0≤x.Tier)))&&(decide (x.Tier < a.Tiers)))) (Qs O O O O) O ?_
 refine Dq (BL ((((decide (0≤x.G5))&&(decide (x.G5 < (s.Columns.length:Int))))&&(decide (0≤x.Tier)))&&(decide (x.Tier < a.Tiers)))) (G4 O O) O ?_
 refine Do (U8 size) [] O .sct ø (fun hc=>G4 O O) O ?_
 refine Do (Ed b) [36] O .sct ⟨Ua,ø⟩ (fun hc=>H0 (args:=[U8 size]) O (H4a size b (Hc hc i)) J65 ⟨O,O,ø⟩) O ?_
 refine Do (.dptr [U8 x.Half]) [] O .sct ø (fun hc=>Gd Rh O O O) O ?_
 refine Do (U8 x.Half) [38] O .sct ⟨Ua,ø⟩ (fun hc=>Gf J9 O O O) O ?_
 refine Do (BL c) [37,39] O .sct ⟨Ua,Ua,ø⟩ (fun hc=>H0 (args:=[Ed b,U8 x.Half]) O (Gf6 b x.Half c (Hc hc j)) Qa1 ⟨O,O,O,O,ø⟩) O ?_
 refine Dq (BL (((((decide (0≤x.G5))&&(decide (x.G5 < (s.Columns.length:Int))))&&(decide (0≤x.Tier)))&&(decide (x.Tier < a.Tiers)))&&c)) (Qs O O O O) O ?_
 refine Dq (BL (((((decide (0≤x.G5))&&(decide (x.G5 < (s.Columns.length:Int))))&&(decide (0≤x.Tier)))&&(decide (x.Tier < a.Tiers)))&&c)) (G7 O O) O ?_
 refine Dnil ?_
 refine e ?_
 refine Gy ?_
 exact fin1 BL h

def Y4 (s:List Slot) (v:Slot):Option Int:=
 each (fun b c (d:Unit) a=>
  bif decide (v=b) then
  (some (c:Int))
  else
  (a ()))
 (fun(d:Unit)=>
  some (-1)) s 0 ()
theorem H14 (s:List Slot) (v:Slot) (r:Int) (h:Y4 s v=some r):Pure Em 114 [Ec s,.agg [I64 v.G5,I64 v.Tier,U8 v.Half]] (·=I64 r):=by
 unfold Y4 at h
 refine H7 [.tmp 4] Tryz.func114 O O ?_
 refine Jr fun w=>?_
 refine JLg (.ptr 1181 0) (Jx (cs:=[I64 v.G5,I64 v.Tier,U8 v.Half]) 1181 O O O O O) ?_
 refine JLm (I64 0) O ?_
 refine G6 (w ?_)
 refine Gj [(0,Ec s),(3,.dptr [I64 v.G5,I64 v.Tier,U8 v.Half])] [] 1181 rfl rfl rfl ø rfl (by exact⟨.conv (.same rfl),.ptr,ø⟩) ?_
 refine Js fun x=>?_
 refine Jr fun z=>?_
 refine JLm (Ec s) O ?_
 refine JLl Rc O O O fun a0=>?_
 refine JLm (I64 0) O ?_
 refine G6 (z ?_)
 refine Gk ?_
 obtain⟨a1,i,j,g,h⟩:=J3 h
 refine Hi (fun a (c:Unit)=>each a1 i (List.drop a s) a c=some r) (fun a c=>[(0,Ec s),(3,.dptr [I64 v.G5,I64 v.Tier,U8 v.Half]),(7,Ek s.length),(8,Ek a)]) (fun a c=>[]) (fun a=>s.length - a) 0 () h ⟨(.sm O O),ø,rfl⟩ ?_
 clear h
 intro a c d a4 a2
 refine Jr fun k=>?_
 refine JLg (BL (decide ((a:Int) < (s.length:Int)))) (Jc O O O) ?_
 refine G6 (k ?_)
 refine Js fun l=>?_
 refine Gn O (fun hb=>?_) (fun hb=>?_)
 ·
  have e:=Jk hb
  obtain⟨b,a3,m,n,h⟩:=Hr d e
  replace h:=Ry j h
  refine Gp ?_
  refine l ?_
  refine Js fun o=>?_
  refine Gk ?_
  refine Jr fun p=>?_
  refine JLm (Ek a) O ?_
  refine JLm (Ek a) O ?_
  refine G6 (p ?_)
  refine Js fun q=>?_
  refine JC_d0 Q0 (by kernel_rfl) ?_
  refine Dq (.agg [I64 v.G5,I64 v.Tier,U8 v.Half]) (Gi Q5 O O O) O ?_
  refine Dq (Ec s) (G4 O O) O ?_
  refine Dq (Ek a) (G4 O O) O ?_
  refine Dq (Ej b) (H3 (f:=Slot.av) (xs:=s) (y:=b) O O O Rc m O) O ?_
  refine Dq (.agg (Slot.cs b)) (Gi Q5 O O O) O ?_
  refine Dq (BL (decide (v=b))) (R1c (vs:=[.int .i64 v.G5,.int .i64 v.Tier,.int .u8 v.Half]) (us:=[.int .i64 b.G5,.int .i64 b.Tier,.int .u8 b.Half]) 4 O (Rd1 v b) J1a Jce O O O) O ?_
  refine Dnil ?_
  refine q ?_
  refine JCc O h ?_ ?_<;>intro h hb
  ·
   refine Jr fun t=>?_
   refine JLm (Ek a) O ?_
   refine JLm (Ek a) O ?_
   refine G6 (t ?_)
   refine Gy ?_
   exact fin1 I64 h
  ·
   refine Gp ?_
   refine o ?_
   refine G2 ?_
   refine JLg (I64 ((a+1:Nat):Int)) (Hv (Ha e a0) O O O) ?_
   refine JLm (I64 ((a+1:Nat):Int)) O ?_
   refine G6 ?_
   exact a2 _ _ (a+1) () (app1 n h) (by omega) ⟨(.sm O O),ø,rfl⟩
 ·
  have h:=app1 g (Hs d (H9 hb))
  refine Ho ?_
  refine x ?_
  refine Jr fun u=>?_
  refine JLm (I64 (-1)) O ?_
  refine G6 (u ?_)
  refine Gy ?_
  exact fin1 I64 h

def Ra (s:List Slot) (v:Slot):Option Bool:=
 bnd (Y4 s v) fun a=>
 some (decide (0≤a))
theorem Gd1 (s:List Slot) (v:Slot) (r:Bool) (h:Ra s v=some r):Pure Em 76 [Ec s,.agg [I64 v.G5,I64 v.Tier,U8 v.Half]] (·=BL r):=by
 unfold Ra at h
 refine H7 [.tmp 4] Tryz.func76 O O ?_
 refine Jr fun b=>?_
 refine JLg (.ptr 1153 0) (Jx (cs:=[I64 v.G5,I64 v.Tier,U8 v.Half]) 1153 O O O O O) ?_
 refine JLm (BL false) O ?_
 refine G6 (b ?_)
 refine Gj [(0,Ec s),(3,.dptr [I64 v.G5,I64 v.Tier,U8 v.Half])] [] 1153 rfl rfl rfl ø rfl (by exact⟨.conv (.same rfl),.ptr,ø⟩) ?_
 refine Jr fun c=>?_
 refine JLm (Ec s) O ?_
 refine JLg (.agg [I64 v.G5,I64 v.Tier,U8 v.Half]) (Gi Q5 O O O) ?_
 obtain⟨a,d,h⟩:=Gh h
 refine JLg (I64 a) (H0 O (H14 s v a d) Q42 ⟨O,O,O,O,ø⟩) ?_
 refine JLg (BL (decide (0≤a))) (Gf2 O O O) ?_
 refine JLm (BL (decide (0≤a))) O ?_
 refine G6 (c ?_)
 refine Gy ?_
 exact fin1 BL h

def G0e (half:Int) (b:List Slot) (a:Slot):Option Bool:=
 chk (a.Tier - 1) fun c=>
 bnd (Ra b (Slot.mk a.G5 c half)) fun d=>
 some d
theorem Gc3 (half:Int) (b:List Slot) (a:Slot) (r:Bool) (h:G0e half b a=some r):Pure Em 75 [U8 half,.dptr [Ec b],.dptr [I64 a.G5,I64 a.Tier,U8 a.Half]] (·=BL r):=by
 unfold G0e at h
 refine H7 [.tmp 4] Tryz.func75 O O ?_
 refine Jr fun e=>?_
 refine JLm (BL false) O ?_
 refine G6 (e ?_)
 refine Jr fun f=>?_
 refine JLg (Ec b) (Gf H30 O O O) ?_
 refine JLg (.dptr [I64 a.G5,I64 a.Tier,U8 a.Half]) (Gd Q8 O O O) ?_
 refine JLg (I64 a.G5) (Gf G9 O O O) ?_
 refine JLg (.dptr [I64 a.Tier,U8 a.Half]) (Gd Ri O O O) ?_
 refine JLg (I64 a.Tier) (Gf G9 O O O) ?_
 obtain⟨c,g,h⟩:=J5 h
 refine JLg (I64 c) (H0a g O O O) ?_
 refine JLm (U8 half) O ?_
 refine JLg (.agg [I64 a.G5,I64 c,U8 half]) (J6 (cs:=[I64 a.G5,I64 c,U8 half]) [(0,1),(1,1),(2,1)] [I64 0,I64 0,U8 0] [E0,E0,.int .u8 0] G74 G94 (zzQ O) O O) ?_
 obtain⟨d,i,h⟩:=Gh h
 refine JLg (BL d) (H0 O (Gd1 b (Slot.mk a.G5 c half) d i) Qa0 ⟨O,O,O,O,ø⟩) ?_
 refine JLm (BL d) O ?_
 refine G6 (f ?_)
 refine Gy ?_
 exact fin1 BL h

def Gb9 (x:Slot) (l:List Slot):Option Bool:=
 bif decide (x.Tier≤0) then
 (some true)
 else
 (bnd (G0e x.Half l x) fun a=>
  bnd (bif ((!a)&&(decide (x.Half=0))) then G0e 1 l x else some default) fun b=>
  bnd (bif ((!a)&&((decide (x.Half=0))&&b)) then G0e 2 l x else some default) fun c=>
  some (a||(((decide (x.Half=0))&&b)&&c)))
abbrev Ep (l:List Slot) (x:Slot):List AV:=[.dptr [Ec l],.dptr [I64 x.G5,I64 x.Tier,U8 x.Half]]
theorem Jc2 (x:Slot) (l:List Slot) (r:Bool) (h:Gb9 x l=some r):Pure Em 39 [.agg [I64 x.G5,I64 x.Tier,U8 x.Half],Ec l] (·=BL r):=by
 unfold Gb9 at h
 refine H7 [.tmp 4] Tryz.func39 O O ?_
 refine Jr fun d=>?_
 refine JLg (.ptr 1109 0) (Jx (cs:=[I64 x.G5,I64 x.Tier,U8 x.Half]) 1109 O O O O O) ?_
 refine JLg (.ptr 1110 0) (Jx (cs:=[Ec l]) 1110 O O O O O) ?_
 refine JLm (BL false) O ?_
 refine G6 (d ?_)
 refine Gj [(2,.dptr [I64 x.G5,I64 x.Tier,U8 x.Half]),(3,.ptr 1110 0)] [(1110,.box 60 [Ec l])] 1109 rfl rfl rfl ⟨⟨_,rfl,.boxEq rfl rfl⟩,ø⟩ rfl (by exact⟨.ptr,.conv (.same rfl),ø⟩) ?_
 refine Gj [(2,.dptr [I64 x.G5,I64 x.Tier,U8 x.Half]),(3,.dptr [Ec l])] [] 1110 rfl rfl rfl ø rfl (by exact⟨.conv (.same rfl),.ptr,ø⟩) ?_
 refine Js fun e=>?_
 refine Jr fun f=>?_
 refine JLg (.dptr [I64 x.Tier,U8 x.Half]) (Gd Ri O O O) ?_
 refine JLg (I64 x.Tier) (Gf G9 O O O) ?_
 refine JLg (BL (decide (x.Tier≤0))) (H0b O O O) ?_
 refine G6 (f ?_)
 refine JCc O h ?_ ?_<;>intro h hb
 ·
  refine Jr fun g=>?_
  refine JLm (BL true) O ?_
  refine G6 (g ?_)
  refine Gy ?_
  exact fin1 BL h
 ·
  refine Gp ?_
  refine e ?_
  refine Jr fun i=>?_
  refine JLg (.fn 75 (Ep l x)) (Yh (cs:=(Ep l x)) O O) ?_
  refine JLm (.fn 75 (Ep l x)) O ?_
  refine G6 (i ?_)
  refine Jr fun j=>?_
  refine JLm (.fn 75 (Ep l x)) O ?_
  refine JLg (.dptr [U8 x.Half]) (Gd Rh O O O) ?_
  refine JLg (U8 x.Half) (Gf J9 O O O) ?_
  obtain⟨b,k,h⟩:=Gh h
  refine JLg (BL b) (G18 (args:=[U8 x.Half]) (caps:=(Ep l x)) O O (Gc3 x.Half l x b k) Ha3 ⟨O,O,ø⟩ O) ?_
  refine JLm (BL b) O ?_
  refine JLo (.dptr [U8 x.Half]) [] O .scf ø (fun hc=>Gd Rh O O O) O ?_
  refine JLo (U8 x.Half) [15] O .scf ⟨Ua,ø⟩ (fun hc=>Gf J9 O O O) O ?_
  refine JLo (BL (decide (x.Half=0))) [16] O .scf ⟨Ua,ø⟩ (fun hc=>Q4 O O O) O ?_
  refine JLo (BL (decide (x.Half=0))) [17] O .scf ⟨Ua,ø⟩ (fun hc=>G4 O O) O ?_
  refine JLo (.fn 75 (Ep l x)) [] O .optt ø (fun hc=>G4 O O) O ?_
  obtain⟨a,m,h⟩:=Gh h
  refine JLo (BL a) [19] O .optt ⟨Ua,ø⟩ (fun hc=>G18 (args:=[U8 1]) (caps:=(Ep l x)) O O (Gc3 1 l x a (Hc hc m)) Ha3 ⟨O,O,ø⟩ O) O ?_
  refine Ga (u:=BL ((decide (x.Half=0))&&a)) [(18,BL (decide (x.Half=0))),(20,_)] O O O .scf ⟨.all id,.part,ø⟩ (fun hc=>Qs O O O O) ?_
  refine JLo (BL ((decide (x.Half=0))&&a)) [21] O .scf ⟨Ua,ø⟩ (fun hc=>G4 O O) O ?_
  refine JLo (.fn 75 (Ep l x)) [] O .optt ø (fun hc=>G4 O O) O ?_
  obtain⟨c,n,h⟩:=Gh h
  refine JLo (BL c) [23] O .optt ⟨Ua,ø⟩ (fun hc=>G18 (args:=[U8 2]) (caps:=(Ep l x)) O O (Gc3 2 l x c (Hc hc n)) Ha3 ⟨O,O,ø⟩ O) O ?_
  refine Ga (u:=BL (((decide (x.Half=0))&&a)&&c)) [(22,BL ((decide (x.Half=0))&&a)),(24,_)] O O O .scf ⟨.all id,.part,ø⟩ (fun hc=>Qs O O O O) ?_
  refine JLg (BL (b||(((decide (x.Half=0))&&a)&&c))) (G24 O O O O) ?_
  refine JLm (BL (b||(((decide (x.Half=0))&&a)&&c))) O ?_
  refine G6 (j ?_)
  refine Gy ?_
  exact fin1 BL h

def G31 (a:Int) (b:Int):Option Bool:=
 some (((decide (a=b))||(decide (a=0)))||(decide (b=0)))
theorem H49 (a:Int) (b:Int) (r:Bool) (h:G31 a b=some r):Pure Em 77 [U8 a,U8 b] (·=BL r):=by
 unfold G31 at h
 refine H7 [.tmp 4] Tryz.func77 O O ?_
 refine Jr fun c=>?_
 refine JLm (BL false) O ?_
 refine G6 (c ?_)
 refine Jr fun d=>?_
 refine JLm (U8 a) O ?_
 refine JLm (U8 b) O ?_
 refine JLg (BL (decide (a=b))) (Q4 O O O) ?_
 refine JLm (BL (decide (a=b))) O ?_
 refine JLo (U8 a) [] O .scf ø (fun hc=>G4 O O) O ?_
 refine JLo (BL (decide (a=0))) [9] O .scf ⟨Ua,ø⟩ (fun hc=>Q4 O O O) O ?_
 refine JLg (BL ((decide (a=b))||(decide (a=0)))) (G24 O O O O) ?_
 refine JLm (BL ((decide (a=b))||(decide (a=0)))) O ?_
 refine JLo (U8 b) [] O .scf ø (fun hc=>G4 O O) O ?_
 refine JLo (BL (decide (b=0))) [13] O .scf ⟨Ua,ø⟩ (fun hc=>Q4 O O O) O ?_
 refine JLg (BL (((decide (a=b))||(decide (a=0)))||(decide (b=0)))) (G24 O O O O) ?_
 refine JLm (BL (((decide (a=b))||(decide (a=0)))||(decide (b=0)))) O ?_
 refine G6 (d ?_)
 refine Gy ?_
 exact fin1 BL h

def Gb8 (a:Slot) (b:Slot):Option Bool:=
 bnd (bif ((decide (a.G5=b.G5))&&(decide (a.Tier=b.Tier))) then G31 a.Half b.Half else some default) fun c=>
 some (((decide (a.G5=b.G5))&&(decide (a.Tier=b.Tier)))&&c)
theorem Jc1 (a:Slot) (b:Slot) (r:Bool) (h:Gb8 a b=some r):Pure Em 40 [.agg [I64 a.G5,I64 a.Tier,U8 a.Half],.agg [I64 b.G5,I64 b.Tier,U8 b.Half]] (·=BL r):=by
 unfold Gb8 at h
 refine H7 [.tmp 4] Tryz.func40 O O ?_
 refine Jr fun d=>?_
 refine JLg (.ptr 1111 0) (Jx (cs:=[I64 a.G5,I64 a.Tier,U8 a.Half]) 1111 O O O O O) ?_
 refine JLg (.ptr 1112 0) (Jx (cs:=[I64 b.G5,I64 b.Tier,U8 b.Half]) 1112 O O O O O) ?_
 refine JLm (BL false) O ?_
 refine G6 (d ?_)
 refine Gj [(2,.dptr [I64 a.G5,I64 a.Tier,U8 a.Half]),(3,.ptr 1112 0)] [(1112,.box 63 [I64 b.G5,I64 b.Tier,U8 b.Half])] 1111 rfl rfl rfl ⟨⟨_,rfl,.boxEq rfl rfl⟩,ø⟩ rfl (by exact⟨.ptr,.conv (.same rfl),ø⟩) ?_
 refine Gj [(2,.dptr [I64 a.G5,I64 a.Tier,U8 a.Half]),(3,.dptr [I64 b.G5,I64 b.Tier,U8 b.Half])] [] 1112 rfl rfl rfl ø rfl (by exact⟨.conv (.same rfl),.ptr,ø⟩) ?_
 refine Jr fun e=>?_
 refine JLg (.dptr [I64 a.G5,I64 a.Tier,U8 a.Half]) (Gd Q8 O O O) ?_
 refine JLg (I64 a.G5) (Gf G9 O O O) ?_
 refine JLg (.dptr [I64 b.G5,I64 b.Tier,U8 b.Half]) (Gd Q8 O O O) ?_
 refine JLg (I64 b.G5) (Gf G9 O O O) ?_
 refine JLg (BL (decide (a.G5=b.G5))) (Q4 O O O) ?_
 refine JLm (BL (decide (a.G5=b.G5))) O ?_
 refine JLo (.dptr [I64 a.Tier,U8 a.Half]) [] O .sct ø (fun hc=>Gd Ri O O O) O ?_
 refine JLo (I64 a.Tier) [11] O .sct ⟨Ua,ø⟩ (fun hc=>Gf G9 O O O) O ?_
 refine JLo (.dptr [I64 b.Tier,U8 b.Half]) [] O .sct ø (fun hc=>Gd Ri O O O) O ?_
 refine JLo (I64 b.Tier) [13] O .sct ⟨Ua,ø⟩ (fun hc=>Gf G9 O O O) O ?_
 refine JLo (BL (decide (a.Tier=b.Tier))) [12,14] O .sct ⟨Ua,Ua,ø⟩ (fun hc=>Q4 O O O) O ?_
 refine JLg (BL ((decide (a.G5=b.G5))&&(decide (a.Tier=b.Tier)))) (Qs O O O O) ?_
 refine JLm (BL ((decide (a.G5=b.G5))&&(decide (a.Tier=b.Tier)))) O ?_
 refine JLo (.dptr [U8 a.Half]) [] O .sct ø (fun hc=>Gd Rh O O O) O ?_
 refine JLo (U8 a.Half) [18] O .sct ⟨Ua,ø⟩ (fun hc=>Gf J9 O O O) O ?_
 refine JLo (.dptr [U8 b.Half]) [] O .sct ø (fun hc=>Gd Rh O O O) O ?_
 refine JLo (U8 b.Half) [20] O .sct ⟨Ua,ø⟩ (fun hc=>Gf J9 O O O) O ?_
 obtain⟨c,f,h⟩:=Gh h
 refine JLo (BL c) [19,21] O .sct ⟨Ua,Ua,ø⟩ (fun hc=>H0 (args:=[U8 a.Half,U8 b.Half]) O (H49 a.Half b.Half c (Hc hc f)) J64 ⟨O,O,O,O,ø⟩) O ?_
 refine JLg (BL (((decide (a.G5=b.G5))&&(decide (a.Tier=b.Tier)))&&c)) (Qs O O O O) ?_
 refine JLm (BL (((decide (a.G5=b.G5))&&(decide (a.Tier=b.Tier)))&&c)) O ?_
 refine G6 (e ?_)
 refine Gy ?_
 exact fin1 BL h

def Gb5 (b:Box):Option Int:=
 bif b.High then
 (some 2896)
 else
 (some 2591)
theorem Jbe (b:Box) (r:Int) (h:Gb5 b=some r):Pure Em 115 [.agg (Box.cs b)] (·=I64 r):=by
 unfold Gb5 at h
 refine H7 [.tmp 2] Tryz.func115 O O ?_
 refine Jr fun a=>?_
 refine JLg (.ptr 1182 0) (Jx (cs:=(Box.cs b)) 1182 O O O O O) ?_
 refine JLm (I64 0) O ?_
 refine G6 (a ?_)
 refine Gj [(1,Ei b)] [] 1182 rfl rfl rfl ø rfl (by exact⟨.ptr,ø⟩) ?_
 refine Js fun c=>?_
 refine Jr fun d=>?_
 refine JLg (.dptr ((Box.cs b).drop 3)) (Gd H0e O O O) ?_
 refine JLg (BL b.High) (Gf Rs O O O) ?_
 refine G6 (d ?_)
 refine JCc O h ?_ ?_<;>intro h hb
 ·
  refine Jr fun e=>?_
  refine JLm (I64 2896) O ?_
  refine G6 (e ?_)
  refine Gy ?_
  exact fin1 I64 h
 ·
  refine Gp ?_
  refine c ?_
  refine Jr fun f=>?_
  refine JLm (I64 2591) O ?_
  refine G6 (f ?_)
  refine Gy ?_
  exact fin1 I64 h

def G30 (boxes:List Box) (l:List G1) (column:Int) (half:Int):Option Int:=
 each (fun c i (a:Int) e=>
  jp (fun b=>
   bif ((decide (c.Slot.G5=column))&&((decide (c.Slot.Half=half))||(decide (c.Slot.Half=0)))) then
   (bnd (G1a boxes c.Box) fun d=>
    bif d.2 then
    (bnd (Gb5 d.1) fun f=>
     chk (a+f) fun g=>
     b g)
    else
    (b a))
   else
   (b a)) fun(h:Int)=>
  e h)
 (fun(a:Int)=>
  some a) l 0 0
theorem H48 (boxes:List Box) (l:List G1) (column:Int) (half:Int) (r:Int) (h:G30 boxes l column half=some r):Pure Em 78 [E6 boxes,E4 l,I64 column,U8 half] (·=I64 r):=by
 unfold G30 at h
 refine H7 [.tmp 8] Tryz.func78 O O ?_
 refine Jr fun a7=>?_
 refine JLm (I64 0) O ?_
 refine G6 (a7 ?_)
 refine Jr fun a8=>?_
 refine JLm (I64 0) O ?_
 refine G6 (a8 ?_)
 refine Js fun a9=>?_
 refine Jr fun b0=>?_
 refine JLm (E4 l) O ?_
 refine JLl H6 O O O fun o=>?_
 refine JLm (I64 0) O ?_
 refine G6 (b0 ?_)
 refine Gk ?_
 obtain⟨b1,p,q,k,h⟩:=J3 h
 refine Hi (fun b (d:Int)=>each b1 p (List.drop b l) b d=some r) (fun b d=>[(0,E6 boxes),(2,I64 column),(3,U8 half),(9,I64 d),(14,E4 l),(15,Ek l.length),(16,Ek b)]) (fun b d=>[]) (fun b=>l.length - b) 0 0 h ⟨(.sm O O),ø,rfl⟩ ?_
 clear h
 intro b d g b4 b2
 refine Jr fun s=>?_
 refine JLg (BL (decide ((b:Int) < (l.length:Int)))) (Jc O O O) ?_
 refine G6 (s ?_)
 refine Js fun t=>?_
 refine Gn O (fun hb=>?_) (fun hb=>?_)
 ·
  have i:=Jk hb
  obtain⟨a,b3,v,w,h⟩:=Hr g i
  replace h:=Ry q h
  refine Gp ?_
  refine t ?_
  obtain⟨x,m,h⟩:=R1 h
  refine Qa (fun e:Int=>x e=some r) (fun e=>[(0,E6 boxes),(2,I64 column),(3,U8 half),(9,I64 e),(14,E4 l),(15,Ek l.length),(16,Ek b)]) (fun e=>[]) (fun Kj30 ej30=>?_) ?_
  ·
   refine Gk ?_
   refine Jr fun z=>?_
   refine JLg (Eg a) (H3 (f:=G1.av) (xs:=l) (y:=a) O O O H6 v O) ?_
   refine JLg (.agg (G1.cs a)) (Gi Qk O O O) ?_
   refine JLg (.ptr 1154 0) (Hd 1154 4 Qd O O) ?_
   refine Hb (u:=.junk) (Gz (u:=.agg (G1.cs a)) (ds:=[I64 a.Box,I64 a.Slot.G5,I64 a.Slot.Tier,U8 a.Slot.Half]) Yc O O O O O O O O) ?_
   refine G6 (z ?_)
   refine fzQ [(0,E6 boxes),(2,I64 column),(3,U8 half),(9,I64 d),(11,Eg a),(14,E4 l),(15,Ek l.length),(16,Ek b)] [] 1154 rfl rfl rfl ø rfl ?_
   refine Jr fun a0=>?_
   refine JLg (.dptr ((G1.cs a).drop 1)) (Gd Q7 O O O) ?_
   refine JLg (.dptr ((G1.cs a).drop 1)) (Gd Q8 O O O) ?_
   refine JLg (I64 a.Slot.G5) (Gf G9 O O O) ?_
   refine JLm (I64 column) O ?_
   refine JLg (BL (decide (a.Slot.G5=column))) (Q4 O O O) ?_
   refine JLm (BL (decide (a.Slot.G5=column))) O ?_
   refine JLo (.dptr ((G1.cs a).drop 1)) [] O .sct ø (fun hc=>Gd Q7 O O O) O ?_
   refine JLo (.dptr [U8 a.Slot.Half]) [26] O .sct ⟨Ua,ø⟩ (fun hc=>Gd Rh O O O) O ?_
   refine JLo (U8 a.Slot.Half) [27] O .sct ⟨Ua,ø⟩ (fun hc=>Gf J9 O O O) O ?_
   refine JLo (U8 half) [] O .sct ø (fun hc=>G4 O O) O ?_
   refine JLo (BL (decide (a.Slot.Half=half))) [28,29] O .sct ⟨Ua,Ua,ø⟩ (fun hc=>Q4 O O O) O ?_
   refine JLo (BL (decide (a.Slot.Half=half))) [30] O .sct ⟨Ua,ø⟩ (fun hc=>G4 O O) O ?_
   refine JLo (.dptr ((G1.cs a).drop 1)) [] O .optf ø (fun hc=>Gd Q7 O O O) O ?_
   refine JLo (.dptr [U8 a.Slot.Half]) [32] O .optf ⟨Ua,ø⟩ (fun hc=>Gd Rh O O O) O ?_
   refine JLo (U8 a.Slot.Half) [33] O .optf ⟨Ua,ø⟩ (fun hc=>Gf J9 O O O) O ?_
   refine JLo (BL (decide (a.Slot.Half=0))) [34] O .optf ⟨Ua,ø⟩ (fun hc=>Q4 O O O) O ?_
   refine Ga (u:=BL ((decide (a.Slot.Half=half))||(decide (a.Slot.Half=0)))) [(31,BL (decide (a.Slot.Half=half))),(35,_)] O O O .sct ⟨.all id,.part,ø⟩ (fun hc=>G24 O O O O) ?_
   refine JLg (BL ((decide (a.Slot.G5=column))&&((decide (a.Slot.Half=half))||(decide (a.Slot.Half=0))))) (Qs O O O O) ?_
   refine G6 (a0 ?_)
   refine JCc O h ?_ ?_<;>intro h hb
   ·
    refine Jr fun a1=>?_
    refine JLm (E6 boxes) O ?_
    refine JLg (Eg a) (Gd Ju O O O) ?_
    refine JLg (I64 a.Box) (Gf G9 O O O) ?_
    obtain⟨c,a2,h⟩:=Gh h
    refine JLg (.tup [.agg (Box.cs c.1),BL c.2]) (H0 O (H13 boxes a.Box c a2) Ha5 ⟨O,O,O,O,ø⟩) ?_
    refine JLm (.tup [.agg (Box.cs c.1),BL c.2]) O ?_
    refine JLg (.agg (Box.cs c.1)) (Gv O O O) ?_
    refine JLg (BL c.2) (Gv O O O) ?_
    refine JLg (.ptr 1155 0) (Hd 1155 9 Qr O O) ?_
    refine Hb (u:=.junk) (Gz (u:=.agg (Box.cs c.1)) (ds:=(Box.cs c.1)) Yd O O O O O O O O) ?_
    refine JLm (BL c.2) O ?_
    refine G6 (a1 ?_)
    refine fzQ [(0,E6 boxes),(2,I64 column),(3,U8 half),(9,I64 d),(12,Ei c.1),(13,BL c.2),(14,E4 l),(15,Ek l.length),(16,Ek b)] [] 1155 rfl rfl rfl ø rfl ?_
    refine Jr fun a3=>?_
    refine JLm (BL c.2) O ?_
    refine G6 (a3 ?_)
    refine JCc O h ?_ ?_<;>intro h hb
    ·
     refine G2 ?_
     refine JLm (I64 d) O ?_
     refine JLg (.agg (Box.cs c.1)) (Gi Yu O O O) ?_
     obtain⟨n,a4,h⟩:=Gh h
     refine JLg (I64 n) (H0 O (Jbe c.1 n a4) Q41 ⟨O,O,ø⟩) ?_
     obtain⟨j,a5,h⟩:=J5 h
     refine JLg (I64 j) (Hv a5 O O O) ?_
     refine JLm (I64 j) O ?_
     refine G6 ?_
     exact ej30 _ _ j h ⟨(.sm O O),ø,rfl⟩
    ·
     refine Gp ?_
     exact ej30 _ _ d h ⟨(.sm O O),ø,rfl⟩
   ·
    refine Gp ?_
    exact ej30 _ _ d h ⟨(.sm O O),ø,rfl⟩
  ·intro e h
   replace h:=app1 m h
   refine G2 ?_
   refine JLg (I64 ((b+1:Nat):Int)) (Hv (Ha i o) O O O) ?_
   refine JLm (I64 ((b+1:Nat):Int)) O ?_
   refine G6 ?_
   exact b2 _ _ (b+1) e (app1 w h) (by omega) ⟨(.sm O O),ø,rfl⟩
 ·
  have h:=app1 k (Hs g (H9 hb))
  refine Ho ?_
  refine a9 ?_
  refine Jr fun a6=>?_
  refine JLm (I64 d) O ?_
  refine JLm (I64 d) O ?_
  refine G6 (a6 ?_)
  refine Gy ?_
  exact fin1 I64 h

def Gb6 (s:Ge) (boxes:List Box) (l:List G1) (column:Int):Option Bool:=
 Jz s.Columns column fun a=>
 bnd (bif (!(decide (a.Height≤0))) then G30 boxes l column 1 else some default) fun b=>
 bnd (bif ((!(decide (a.Height≤0)))&&(decide (b≤a.Height))) then G30 boxes l column 2 else some default) fun c=>
 some ((decide (a.Height≤0))||((decide (b≤a.Height))&&(decide (c≤a.Height))))
theorem Jbf (s:Ge) (boxes:List Box) (l:List G1) (column:Int) (r:Bool) (h:Gb6 s boxes l column=some r):Pure Em 41 [.agg (Ge.cs s),E6 boxes,E4 l,I64 column] (·=BL r):=by
 unfold Gb6 at h
 refine H7 [.tmp 8] Tryz.func41 O O ?_
 refine Jr fun d=>?_
 refine JLg (.ptr 1113 0) (Jx (cs:=(Ge.cs s)) 1113 O O O O O) ?_
 refine JLm (BL false) O ?_
 refine G6 (d ?_)
 refine fzQ [(1,E6 boxes),(2,E4 l),(3,I64 column),(4,Ef s)] [] 1113 rfl rfl rfl ø rfl ?_
 refine Jr fun e=>?_
 refine JLg (Ef s) (Gd Hk O O O) ?_
 refine JLg (Ea s.Columns) (Gf J2 O O O) ?_
 refine JLm (I64 column) O ?_
 obtain⟨n,a,g,i,h⟩:=Qm h
 refine JLg (Eh a) (H3 (f:=G5.av) (xs:=s.Columns) (y:=a) O O O Hj i g) ?_
 refine JLg (.dptr ((G5.cs a).drop 4)) (Gd H97 O O O) ?_
 refine JLg (I64 a.Height) (Gf G9 O O O) ?_
 refine JLm (I64 a.Height) O ?_
 refine G6 (e ?_)
 refine Jr fun j=>?_
 refine JLm (I64 a.Height) O ?_
 refine JLg (BL (decide (a.Height≤0))) (H0b O O O) ?_
 refine JLm (BL (decide (a.Height≤0))) O ?_
 refine JLo (E6 boxes) [] O .scf ø (fun hc=>G4 O O) O ?_
 refine JLo (E4 l) [] O .scf ø (fun hc=>G4 O O) O ?_
 refine JLo (I64 column) [] O .scf ø (fun hc=>G4 O O) O ?_
 obtain⟨b,k,h⟩:=Gh h
 refine JLo (I64 b) [19,20,21] O .scf ⟨Ua,Ua,Ua,ø⟩ (fun hc=>H0 (args:=[E6 boxes,E4 l,I64 column,U8 1]) O (H48 boxes l column 1 b (Hc hc k)) J63 ⟨O,O,O,O,O,O,O,O,ø⟩) O ?_
 refine JLo (I64 a.Height) [] O .scf ø (fun hc=>G4 O O) O ?_
 refine JLo (BL (decide (b≤a.Height))) [22,23] O .scf ⟨Ua,Ua,ø⟩ (fun hc=>H0b O O O) O ?_
 refine JLo (BL (decide (b≤a.Height))) [24] O .scf ⟨Ua,ø⟩ (fun hc=>G4 O O) O ?_
 refine JLo (E6 boxes) [] O .optt ø (fun hc=>G4 O O) O ?_
 refine JLo (E4 l) [] O .optt ø (fun hc=>G4 O O) O ?_
 refine JLo (I64 column) [] O .optt ø (fun hc=>G4 O O) O ?_
 obtain⟨c,m,h⟩:=Gh h
 refine JLo (I64 c) [26,27,28] O .optt ⟨Ua,Ua,Ua,ø⟩ (fun hc=>H0 (args:=[E6 boxes,E4 l,I64 column,U8 2]) O (H48 boxes l column 2 c (Hc hc m)) J63 ⟨O,O,O,O,O,O,O,O,ø⟩) O ?_
 refine JLo (I64 a.Height) [] O .optt ø (fun hc=>G4 O O) O ?_
 refine JLo (BL (decide (c≤a.Height))) [29,30] O .optt ⟨Ua,Ua,ø⟩ (fun hc=>H0b O O O) O ?_
 refine Ga (u:=BL ((decide (b≤a.Height))&&(decide (c≤a.Height)))) [(25,BL (decide (b≤a.Height))),(31,_)] O O O .scf ⟨.all id,.part,ø⟩ (fun hc=>Qs O O O O) ?_
 refine JLg (BL ((decide (a.Height≤0))||((decide (b≤a.Height))&&(decide (c≤a.Height))))) (G24 O O O O) ?_
 refine JLm (BL ((decide (a.Height≤0))||((decide (b≤a.Height))&&(decide (c≤a.Height))))) O ?_
 refine G6 (j ?_)
 refine Gy ?_
 exact fin1 BL h

def Qv (s:Ge) (boxes:List Box) (l:List G1):Option Bool:=
 bnd (Jm s) fun v=>
 bif (!v) then
 (some false)
 else
 (bnd (G83 l) fun f=>
  each (fun a b (j:Unit) g=>
   bnd (G1a boxes a.Box) fun c=>
   bnd (bif ((!(!c.2))&&(decide (0 < (b:Int)))) then chk ((b:Int) - 1) some else some 0) fun k=>
   bnd (bif ((!(!c.2))&&(decide (0 < (b:Int)))) then Jz l k some else some default) fun d=>
   bnd (bif (!((!c.2)||((decide (0 < (b:Int)))&&(decide (a.Box≤d.Box))))) then G85 s a.Slot c.1.Size else some default) fun e=>
   bnd (bif (!(((!c.2)||((decide (0 < (b:Int)))&&(decide (a.Box≤d.Box))))||(!e))) then Gb9 a.Slot f else some default) fun m=>
   bif ((((!c.2)||((decide (0 < (b:Int)))&&(decide (a.Box≤d.Box))))||(!e))||(!m)) then
   (some false)
   else
   (bnd (Gc7 (b:Int) f.length) fun n=>
    each (fun o w (p:Unit) h=>
     bnd (Gb8 a.Slot o) fun q=>
     bif q then
     (some false)
     else
     (h ()))
    (fun(p:Unit)=>
     g ()) (f.take n) 0 ()))
  (fun(j:Unit)=>
   each (fun x r (t:Unit) i=>
    bnd (Gb6 s boxes l (r:Int)) fun u=>
    bif (!u) then
    (some false)
    else
    (i ()))
   (fun(t:Unit)=>
    some true) s.Columns 0 ()) l 0 ())
theorem Zn (s:Ge) (boxes:List Box) (l:List G1) (r:Bool) (h:Qv s boxes l=some r):Pure Em 14 [.agg (Ge.cs s),E6 boxes,E4 l] (·=BL r):=by
 unfold Qv at h
 refine H7 [.tmp 6] Tryz.func14 O O ?_
 refine Jr fun f4=>?_
 refine JLg (.ptr 1046 0) (Jx (cs:=(Ge.cs s)) 1046 O O O O O) ?_
 refine JLm (BL false) O ?_
 refine G6 (f4 ?_)
 refine Gj [(1,E6 boxes),(2,E4 l),(3,Ef s)] [] 1046 rfl rfl rfl ø rfl (by exact⟨.conv (.same rfl),.conv (.same rfl),.ptr,ø⟩) ?_
 refine Js fun f5=>?_
 refine Jr fun f6=>?_
 refine JLg (.agg (Ge.cs s)) (Gi Hm O O O) ?_
 obtain⟨r4,f7,h⟩:=Gh h
 refine JLg (BL r4) (H0 O (Gee.down s r4 f7) Ha6 ⟨O,O,ø⟩) ?_
 refine JLg (BL (!r4)) (G11 (b:=r4) O O) ?_
 refine G6 (f6 ?_)
 refine JCc O h ?_ ?_<;>intro h hb
 ·
  refine Jr fun f8=>?_
  refine JLm (BL false) O ?_
  refine G6 (f8 ?_)
  refine Gy ?_
  exact fin1 BL h
 ·
  refine Gp ?_
  refine f5 ?_
  refine Jr fun f9=>?_
  refine JLm (E4 l) O ?_
  obtain⟨g,g0,h⟩:=Gh h
  refine JLg (Ec g) (H0 O (J9a l g g0) Qb5 ⟨O,O,ø⟩) ?_
  refine JLm (Ec g) O ?_
  refine G6 (f9 ?_)
  refine Js fun g1=>?_
  refine Jr fun g2=>?_
  refine JLm (E4 l) O ?_
  refine JLl H6 O O O fun a8=>?_
  refine JLm (I64 0) O ?_
  refine G6 (g2 ?_)
  refine Gk ?_
  obtain⟨g3,a9,b0,a4,h⟩:=J3 h
  refine Hi (fun c (p:Unit)=>each g3 a9 (List.drop c l) c p=some r) (fun c p=>[(1,E6 boxes),(2,E4 l),(3,Ef s),(7,Ec g),(20,E4 l),(21,Ek l.length),(22,Ek c)]) (fun c p=>[]) (fun c=>l.length - c) 0 () h ⟨(.sm O O),ø,rfl⟩ ?_
  clear h
  intro c p w h4 g4
  refine Jr fun b1=>?_
  refine JLg (BL (decide ((c:Int) < (l.length:Int)))) (Jc O O O) ?_
  refine G6 (b1 ?_)
  refine Js fun b2=>?_
  refine Gn O (fun hb=>?_) (fun hb=>?_)
  ·
   have x:=Jk hb
   obtain⟨a,h0,b3,b4,h⟩:=Hr w x
   replace h:=Ry b0 h
   refine Gp ?_
   refine b2 ?_
   refine Js fun b5=>?_
   refine Gk ?_
   refine Jr fun b6=>?_
   refine JLm (Ek c) O ?_
   refine JLg (Eg a) (H3 (f:=G1.av) (xs:=l) (y:=a) O O O H6 b3 O) ?_
   refine JLg (.agg (G1.cs a)) (Gi Qk O O O) ?_
   refine JLg (.ptr 1047 0) (Hd 1047 4 Qd O O) ?_
   refine JLm (Ek c) O ?_
   refine Hb (u:=.junk) (Gz (u:=.agg (G1.cs a)) (ds:=[I64 a.Box,I64 a.Slot.G5,I64 a.Slot.Tier,U8 a.Slot.Half]) Yc O O O O O O O O) ?_
   refine G6 (b6 ?_)
   refine fzQ [(1,E6 boxes),(2,E4 l),(3,Ef s),(7,Ec g),(8,Ek c),(9,Eg a),(20,E4 l),(21,Ek l.length),(22,Ek c)] [] 1047 rfl rfl rfl ø rfl ?_
   refine Jr fun b7=>?_
   refine JLm (E6 boxes) O ?_
   refine JLg (Eg a) (Gd Ju O O O) ?_
   refine JLg (I64 a.Box) (Gf G9 O O O) ?_
   obtain⟨d,b8,h⟩:=Gh h
   refine JLg (.tup [.agg (Box.cs d.1),BL d.2]) (H0 O (H13 boxes a.Box d b8) Ha5 ⟨O,O,O,O,ø⟩) ?_
   refine JLm (.tup [.agg (Box.cs d.1),BL d.2]) O ?_
   refine JLg (.agg (Box.cs d.1)) (Gv O O O) ?_
   refine JLg (BL d.2) (Gv O O O) ?_
   refine JLg (.ptr 1048 0) (Hd 1048 9 Qr O O) ?_
   refine Hb (u:=.junk) (Gz (u:=.agg (Box.cs d.1)) (ds:=(Box.cs d.1)) Yd O O O O O O O O) ?_
   refine JLm (BL d.2) O ?_
   refine G6 (b7 ?_)
   refine fzQ [(1,E6 boxes),(2,E4 l),(3,Ef s),(7,Ec g),(8,Ek c),(9,Eg a),(10,Ei d.1),(11,BL d.2),(20,E4 l),(21,Ek l.length),(22,Ek c)] [] 1048 rfl rfl rfl ø rfl ?_
   refine Js fun b9=>?_
   refine Js fun c0=>?_
   obtain⟨g5,c1,h⟩:=Gh h
   obtain⟨j,c2,h⟩:=Gh h
   obtain⟨n,c3,h⟩:=Gh h
   obtain⟨o,c4,h⟩:=Gh h
   refine JC_d0 Q0 (by kernel_rfl) ?_
   refine Dq (BL d.2) (G4 O O) O ?_
   refine Dq (BL (!d.2)) (G11 (b:=d.2) O O) O ?_
   refine Dq (BL (!d.2)) (G4 O O) O ?_
   refine Do (Ek c) [] O .scf ø (fun hc=>G4 O O) O ?_
   refine Do (BL (decide (0 < (c:Int)))) [37] O .scf ⟨Ua,ø⟩ (fun hc=>G29 O O O) O ?_
   refine Do (BL (decide (0 < (c:Int)))) [38] O .scf ⟨Ua,ø⟩ (fun hc=>G4 O O) O ?_
   refine Do (Eg a) [] O .optt ø (fun hc=>Gd Ju O O O) O ?_
   refine Do (I64 a.Box) [40] O .optt ⟨Ua,ø⟩ (fun hc=>Gf G9 O O O) O ?_
   refine Do (E4 l) [] O .optt ø (fun hc=>G4 O O) O ?_
   refine Do (Ek c) [] O .optt ø (fun hc=>G4 O O) O ?_
   refine Do (I64 g5) [43] O .optt ⟨Ua,ø⟩ (fun hc=>H0a (H69 (Hc hc c1)) O O O) O ?_
   refine Do (Eg j) [42,44] O .optt ⟨Ua,Ua,ø⟩ (fun hc=>(match G13 (Hc hc c2) with | ⟨_,hm_,hy_⟩=>H3 (f:=G1.av) (xs:=l) (y:=j) O O O H6 hy_ hm_)) O ?_
   refine Do (Eg j) [45] O .optt ⟨Ua,ø⟩ (fun hc=>Gd Ju O O O) O ?_
   refine Do (I64 j.Box) [46] O .optt ⟨Ua,ø⟩ (fun hc=>Gf G9 O O O) O ?_
   refine Do (BL (decide (a.Box≤j.Box))) [41,47] O .optt ⟨Ua,Ua,ø⟩ (fun hc=>H0b O O O) O ?_
   refine Dg (.opt (!(!d.2)) (BL ((decide (0 < (c:Int)))&&(decide (a.Box≤j.Box))))) (Jq [(39,BL (decide (0 < (c:Int)))),(48,_)] O O O .scf ⟨.all id,.part,ø⟩ (fun hc=>Qs O O O O) O) O ?_
   refine Dq (BL ((!d.2)||((decide (0 < (c:Int)))&&(decide (a.Box≤j.Box))))) (G24 O O O O) O ?_
   refine Dq (BL ((!d.2)||((decide (0 < (c:Int)))&&(decide (a.Box≤j.Box))))) (G4 O O) O ?_
   refine Do (.agg (Ge.cs s)) [] O .scf ø (fun hc=>Gi Hm O O O) O ?_
   refine Do (.dptr ((G1.cs a).drop 1)) [] O .scf ø (fun hc=>Gd Q7 O O O) O ?_
   refine Do (.agg ((G1.cs a).drop 1)) [53] O .scf ⟨Ua,ø⟩ (fun hc=>Gi Q5 O O O) O ?_
   refine Do (.dptr ((Box.cs d.1).drop 2)) [] O .scf ø (fun hc=>Gd Yk O O O) O ?_
   refine Do (U8 d.1.Size) [55] O .scf ⟨Ua,ø⟩ (fun hc=>Gf J9 O O O) O ?_
   refine Do (BL n) [52,54,56] O .scf ⟨Ua,Ua,Ua,ø⟩ (fun hc=>H0 (args:=[.agg (Ge.cs s),.agg ((G1.cs a).drop 1),U8 d.1.Size]) O (J9c s a.Slot d.1.Size n (Hc hc c3)) Qb4 ⟨O,O,O,O,O,O,ø⟩) O ?_
   refine Do (BL (!n)) [57] O .scf ⟨Ua,ø⟩ (fun hc=>G11 (b:=n) O O) O ?_
   refine Dq (BL (((!d.2)||((decide (0 < (c:Int)))&&(decide (a.Box≤j.Box))))||(!n))) (G24 O O O O) O ?_
   refine Dq (BL (((!d.2)||((decide (0 < (c:Int)))&&(decide (a.Box≤j.Box))))||(!n))) (G4 O O) O ?_
   refine Do (.dptr ((G1.cs a).drop 1)) [] O .scf ø (fun hc=>Gd Q7 O O O) O ?_
   refine Do (.agg ((G1.cs a).drop 1)) [61] O .scf ⟨Ua,ø⟩ (fun hc=>Gi Q5 O O O) O ?_
   refine Do (Ec g) [] O .scf ø (fun hc=>G4 O O) O ?_
   refine Do (BL o) [62,63] O .scf ⟨Ua,Ua,ø⟩ (fun hc=>H0 (args:=[.agg ((G1.cs a).drop 1),Ec g]) O (Jc2 a.Slot g o (Hc hc c4)) Qb3 ⟨O,O,O,O,ø⟩) O ?_
   refine Do (BL (!o)) [64] O .scf ⟨Ua,ø⟩ (fun hc=>G11 (b:=o) O O) O ?_
   refine Dq (BL ((((!d.2)||((decide (0 < (c:Int)))&&(decide (a.Box≤j.Box))))||(!n))||(!o))) (G24 O O O O) O ?_
   refine Dnil ?_
   refine c0 ?_
   refine JCc O h ?_ ?_<;>intro h hb
   ·
    refine Jr fun c5=>?_
    refine JLm (BL false) O ?_
    refine G6 (c5 ?_)
    refine Gy ?_
    exact fin1 BL h
   ·
    refine Gp ?_
    refine b9 ?_
    refine Jr fun c6=>?_
    refine JLm (Ec g) O ?_
    refine JLm (Ek c) O ?_
    obtain⟨m,c7,h⟩:=Gh h
    refine JLg (Ec (g.take m)) (Z0 (f:=Slot.av) (xs:=g) O O O Rc (Yf c7)) ?_
    refine JLl Rc O O O fun c8=>?_
    refine JLm (I64 0) O ?_
    refine G6 (c6 ?_)
    refine Gk ?_
    obtain⟨g6,c9,d0,a5,h⟩:=J3 h
    refine Hi (fun i (q:Unit)=>each g6 c9 (List.drop i (g.take m)) i q=some r) (fun i q=>[(1,E6 boxes),(2,E4 l),(3,Ef s),(7,Ec g),(9,Eg a),(20,E4 l),(21,Ek l.length),(22,Ek c),(69,Ec (g.take m)),(70,I64 ((g.take m).length:Int)),(71,Ek i)]) (fun i q=>[]) (fun i=>(g.take m).length - i) 0 () h ⟨(.sm O O),ø,rfl⟩ ?_
    clear h
    intro i q z h5 g7
    refine Jr fun d1=>?_
    refine JLg (BL (decide ((i:Int) < ((g.take m).length:Int)))) (Jc O O O) ?_
    refine G6 (d1 ?_)
    refine Js fun d2=>?_
    refine Gn O (fun hb=>?_) (fun hb=>?_)
    ·
     have a0:=Jk hb
     obtain⟨k,h1,d3,d4,h⟩:=Hr z a0
     replace h:=Ry d0 h
     refine Gp ?_
     refine d2 ?_
     refine Js fun d5=>?_
     refine Gk ?_
     refine Jr fun d6=>?_
     refine JLg (Ej k) (H3 (f:=Slot.av) (xs:=(g.take m)) (y:=k) O O O Rc d3 O) ?_
     refine JLg (.agg (Slot.cs k)) (Gi Q5 O O O) ?_
     refine JLg (.ptr 1049 0) (Hd 1049 3 Zu O O) ?_
     refine Hb (u:=.junk) (Gz (u:=.agg (Slot.cs k)) (ds:=[I64 k.G5,I64 k.Tier,U8 k.Half]) G1e O O O O O O O O) ?_
     refine G6 (d6 ?_)
     refine fzQ [(1,E6 boxes),(2,E4 l),(3,Ef s),(7,Ec g),(9,Eg a),(13,Ej k),(20,E4 l),(21,Ek l.length),(22,Ek c),(69,Ec (g.take m)),(70,I64 ((g.take m).length:Int)),(71,Ek i)] [] 1049 rfl rfl rfl ø rfl ?_
     refine Jr fun d7=>?_
     refine JLg (.dptr ((G1.cs a).drop 1)) (Gd Q7 O O O) ?_
     refine JLg (.agg ((G1.cs a).drop 1)) (Gi Q5 O O O) ?_
     refine JLg (.agg (Slot.cs k)) (Gi Q5 O O O) ?_
     obtain⟨a7,d8,h⟩:=Gh h
     refine JLg (BL a7) (H0 O (Jc1 a.Slot k a7 d8) Qb2 ⟨O,O,O,O,ø⟩) ?_
     refine G6 (d7 ?_)
     refine JCc O h ?_ ?_<;>intro h hb
     ·
      refine Jr fun d9=>?_
      refine JLm (BL false) O ?_
      refine G6 (d9 ?_)
      refine Gy ?_
      exact fin1 BL h
     ·
      refine Gp ?_
      refine d5 ?_
      refine G2 ?_
      refine JLg (I64 ((i+1:Nat):Int)) (Hv (Ha a0 c8) O O O) ?_
      refine JLm (I64 ((i+1:Nat):Int)) O ?_
      refine G6 ?_
      exact g7 _ _ (i+1) () (app1 d4 h) (by omega) ⟨(.sm O O),ø,rfl⟩
    ·
     have h:=app1 a5 (Hs z (H9 hb))
     refine Ho ?_
     refine b5 ?_
     refine G2 ?_
     refine JLg (I64 ((c+1:Nat):Int)) (Hv (Ha x a8) O O O) ?_
     refine JLm (I64 ((c+1:Nat):Int)) O ?_
     refine G6 ?_
     exact g4 _ _ (c+1) () (app1 b4 h) (by omega) ⟨(.sm O O),ø,rfl⟩
  ·
   have h:=app1 a4 (Hs w (H9 hb))
   refine Ho ?_
   refine g1 ?_
   refine Js fun e0=>?_
   refine Jr fun e1=>?_
   refine JLg (Ef s) (Gd Hk O O O) ?_
   refine JLg (Ea s.Columns) (Gf J2 O O O) ?_
   refine JLl Hj O O O fun e2=>?_
   refine JLm (I64 0) O ?_
   refine G6 (e1 ?_)
   refine Gk ?_
   obtain⟨g8,e3,e4,a6,h⟩:=J3 h
   refine Hi (fun e (t:Unit)=>each g8 e3 (List.drop e s.Columns) e t=some r) (fun e t=>[(1,E6 boxes),(2,E4 l),(3,Ef s),(83,Ek s.Columns.length),(84,Ek e)]) (fun e t=>[]) (fun e=>s.Columns.length - e) 0 () h ⟨(.sm O O),ø,rfl⟩ ?_
   clear h
   intro e t a1 h6 g9
   refine Jr fun e5=>?_
   refine JLg (BL (decide ((e:Int) < (s.Columns.length:Int)))) (Jc O O O) ?_
   refine G6 (e5 ?_)
   refine Js fun e6=>?_
   refine Gn O (fun hb=>?_) (fun hb=>?_)
   ·
    have a2:=Jk hb
    obtain⟨h7,h2,h3,e7,h⟩:=Hr a1 a2
    replace h:=Ry e4 h
    refine Gp ?_
    refine e6 ?_
    refine Js fun e8=>?_
    refine Gk ?_
    refine Jr fun e9=>?_
    refine JLm (Ek e) O ?_
    refine JLm (Ek e) O ?_
    refine G6 (e9 ?_)
    refine Jr fun f0=>?_
    refine JLg (.agg (Ge.cs s)) (Gi Hm O O O) ?_
    refine JLm (E6 boxes) O ?_
    refine JLm (E4 l) O ?_
    refine JLm (Ek e) O ?_
    obtain⟨v,f1,h⟩:=Gh h
    refine JLg (BL v) (H0 O (Jbf s boxes l (e:Int) v f1) Qb1 ⟨O,O,O,O,O,O,O,O,ø⟩) ?_
    refine JLg (BL (!v)) (G11 (b:=v) O O) ?_
    refine G6 (f0 ?_)
    refine JCc O h ?_ ?_<;>intro h hb
    ·
     refine Jr fun f2=>?_
     refine JLm (BL false) O ?_
     refine G6 (f2 ?_)
     refine Gy ?_
     exact fin1 BL h
    ·
     refine Gp ?_
     refine e8 ?_
     refine G2 ?_
     refine JLg (I64 ((e+1:Nat):Int)) (Hv (Ha a2 e2) O O O) ?_
     refine JLm (I64 ((e+1:Nat):Int)) O ?_
     refine G6 ?_
     exact g9 _ _ (e+1) () (app1 e7 h) (by omega) ⟨(.sm O O),ø,rfl⟩
   ·
    have h:=app1 a6 (Hs a1 (H9 hb))
    refine Ho ?_
    refine e0 ?_
    refine Jr fun f3=>?_
    refine JLm (BL true) O ?_
    refine G6 (f3 ?_)
    refine Gy ?_
    exact fin1 BL h

def R8 (s1_:List G1) (s2_:List G1) (cmp:G1→G1→Option Int):Option Int:=
 each (fun d a (e:Unit) c=>
  bif decide ((s2_.length:Int)≤(a:Int)) then
  (some 1)
  else
  (Jz s2_ (a:Int) fun f=>
   bnd (cmp d f) fun b=>
   bif decide (b≠0) then
   (some b)
   else
   (c ())))
 (fun(e:Unit)=>
  bif decide ((s1_.length:Int) < (s2_.length:Int)) then
  (some (-1))
  else
  (some 0)) s1_ 0 ()
theorem G86 (s1_:List G1) (s2_:List G1) (cmp:G1→G1→Option Int) (cmp_f:FuncId) (cmp_c:List AV) (cmp_B:He Em cmp_f=true) (cmp_d:Qe (fun _=>false) cmp_c=true) (cmp_w:∀ a0 a1 q,cmp a0 a1=some q→Pure Em cmp_f ([.agg (G1.cs a0),.agg (G1.cs a1)]++cmp_c) (·=I64 q)) (r:Int) (h:R8 s1_ s2_ cmp=some r):Pure Em 106 [E4 s1_,E4 s2_,.fn cmp_f cmp_c] (·=I64 r):=by
 unfold R8 at h
 refine H7 [.tmp 6] Tryz.func106 O O ?_
 refine Jr fun b3=>?_
 refine JLm (I64 0) O ?_
 refine G6 (b3 ?_)
 refine Js fun b4=>?_
 refine Jr fun b5=>?_
 refine JLm (E4 s1_) O ?_
 refine JLl H6 O O O fun k=>?_
 refine JLm (I64 0) O ?_
 refine G6 (b5 ?_)
 refine Gk ?_
 obtain⟨b6,l,m,j,h⟩:=J3 h
 refine Hi (fun a (e:Unit)=>each b6 l (List.drop a s1_) a e=some r) (fun a e=>[(0,E4 s1_),(1,E4 s2_),(2,.fn cmp_f cmp_c),(11,E4 s1_),(12,Ek s1_.length),(13,Ek a)]) (fun a e=>[]) (fun a=>s1_.length - a) 0 () h ⟨⟨.same O,.same O,.same (Jt _ _ cmp_d),.same O,.same O,.same O,ø⟩,ø,O⟩ ?_
 clear h
 intro a e g c2 b7
 refine Jr fun n=>?_
 refine JLg (BL (decide ((a:Int) < (s1_.length:Int)))) (Jc O O O) ?_
 refine G6 (n ?_)
 refine Js fun o=>?_
 refine Gn O (fun hb=>?_) (fun hb=>?_)
 ·
  have i:=Jk hb
  obtain⟨b,b8,p,s,h⟩:=Hr g i
  replace h:=Ry m h
  refine Gp ?_
  refine o ?_
  refine Js fun t=>?_
  refine Gk ?_
  refine Jr fun v=>?_
  refine JLm (Ek a) O ?_
  refine JLg (Eg b) (H3 (f:=G1.av) (xs:=s1_) (y:=b) O O O H6 p O) ?_
  refine JLg (.agg (G1.cs b)) (Gi Qk O O O) ?_
  refine JLg (.ptr 1169 0) (Hd 1169 4 Qd O O) ?_
  refine JLm (Ek a) O ?_
  refine Hb (u:=.junk) (Gz (u:=.agg (G1.cs b)) (ds:=[I64 b.Box,I64 b.Slot.G5,I64 b.Slot.Tier,U8 b.Slot.Half]) Yc O O O O O O O O) ?_
  refine G6 (v ?_)
  refine Gj [(0,E4 s1_),(1,E4 s2_),(2,.fn cmp_f cmp_c),(7,Ek a),(8,Eg b),(11,E4 s1_),(12,Ek s1_.length),(13,Ek a)] [] 1169 rfl rfl rfl ø rfl (by exact⟨.conv (.same rfl),.conv (.same rfl),.conv (.same (Jt _ _ cmp_d)),.conv (.same rfl),.ptr,.conv (.same rfl),.conv (.same rfl),.conv (.same rfl),ø⟩) ?_
  refine Js fun w=>?_
  refine Jr fun x=>?_
  refine JLm (Ek a) O ?_
  refine JLm (E4 s2_) O ?_
  refine JLl H6 O O O fun b9=>?_
  refine JLg (BL (decide ((s2_.length:Int)≤(a:Int)))) (Gf2 O O O) ?_
  refine G6 (x ?_)
  refine JCc O h ?_ ?_<;>intro h hb
  ·
   refine Jr fun z=>?_
   refine JLm (I64 1) O ?_
   refine G6 (z ?_)
   refine Gy ?_
   exact fin1 I64 h
  ·
   refine Gp ?_
   refine w ?_
   refine Jr fun a2=>?_
   refine JLm (E4 s2_) O ?_
   refine JLm (Ek a) O ?_
   obtain⟨c3,c,a3,a4,h⟩:=Qm h
   refine JLg (Eg c) (H3 (f:=G1.av) (xs:=s2_) (y:=c) O O O H6 a4 a3) ?_
   refine JLg (.agg (G1.cs c)) (Gi Qk O O O) ?_
   refine JLg (.ptr 1170 0) (Hd 1170 4 Qd O O) ?_
   refine Hb (u:=.junk) (Gz (u:=.agg (G1.cs c)) (ds:=[I64 c.Box,I64 c.Slot.G5,I64 c.Slot.Tier,U8 c.Slot.Half]) Yc O O O O O O O O) ?_
   refine G6 (a2 ?_)
   refine Gj [(0,E4 s1_),(1,E4 s2_),(2,.fn cmp_f cmp_c),(8,Eg b),(9,Eg c),(11,E4 s1_),(12,Ek s1_.length),(13,Ek a)] [] 1170 rfl rfl rfl ø rfl (by exact⟨.conv (.same rfl),.conv (.same rfl),.conv (.same (Jt _ _ cmp_d)),.conv (.same rfl),.ptr,.conv (.same rfl),.conv (.same rfl),.conv (.same rfl),ø⟩) ?_
   refine Jr fun a5=>?_
   refine JLm (.fn cmp_f cmp_c) O ?_
   refine JLg (.agg (G1.cs b)) (Gi Qk O O O) ?_
   refine JLg (.agg (G1.cs c)) (Gi Qk O O O) ?_
   obtain⟨d,a6,h⟩:=Gh h
   refine JLg (I64 d) (G18 (args:=[.agg (G1.cs b),.agg (G1.cs c)]) (caps:=cmp_c) O O (cmp_w b c _ a6) cmp_B ⟨O,O,O,O,ø⟩ cmp_d) ?_
   refine JLm (I64 d) O ?_
   refine G6 (a5 ?_)
   refine Jr fun a7=>?_
   refine JLm (I64 d) O ?_
   refine JLg (BL (decide (d≠0))) (H27 O O O) ?_
   refine G6 (a7 ?_)
   refine JCc O h ?_ ?_<;>intro h hb
   ·
    refine Jr fun a8=>?_
    refine JLm (I64 d) O ?_
    refine JLm (I64 d) O ?_
    refine G6 (a8 ?_)
    refine Gy ?_
    exact fin1 I64 h
   ·
    refine Gp ?_
    refine t ?_
    refine G2 ?_
    refine JLg (I64 ((a+1:Nat):Int)) (Hv (Ha i k) O O O) ?_
    refine JLm (I64 ((a+1:Nat):Int)) O ?_
    refine G6 ?_
    exact b7 _ _ (a+1) () (app1 s h) (by omega) ⟨⟨.same rfl,.same rfl,.same (Jt _ _ cmp_d),.same rfl,.same rfl,.same rfl,ø⟩,ø,rfl⟩
 ·
  have h:=app1 j (Hs g (H9 hb))
  refine Ho ?_
  refine b4 ?_
  refine Js fun a9=>?_
  refine Jr fun b0=>?_
  refine JLm (E4 s1_) O ?_
  refine JLl H6 O O O fun c0=>?_
  refine JLm (E4 s2_) O ?_
  refine JLl H6 O O O fun c1=>?_
  refine JLg (BL (decide ((s1_.length:Int) < (s2_.length:Int)))) (Jc O O O) ?_
  refine G6 (b0 ?_)
  refine JCc O h ?_ ?_<;>intro h hb
  ·
   refine Jr fun b1=>?_
   refine JLm (I64 (-1)) O ?_
   refine G6 (b1 ?_)
   refine Gy ?_
   exact fin1 I64 h
  ·
   refine Gp ?_
   refine a9 ?_
   refine Jr fun b2=>?_
   refine JLm (I64 0) O ?_
   refine G6 (b2 ?_)
   refine Gy ?_
   exact fin1 I64 h

def G05 (x:Int):Option Bool:=
 some (decide (x≠x))
theorem Gc8 (x:Int) (r:Bool) (h:G05 x=some r):Pure Em 80 [U8 x] (·=BL r):=by
 unfold G05 at h
 refine H7 [.tmp 2] Tryz.func80 O O ?_
 refine Jr fun a=>?_
 refine JLm (BL false) O ?_
 refine G6 (a ?_)
 refine Jr fun b=>?_
 refine JLm (U8 x) O ?_
 refine JLm (U8 x) O ?_
 refine JLg (BL (decide (x≠x))) (H27 O O O) ?_
 refine JLm (BL (decide (x≠x))) O ?_
 refine G6 (b ?_)
 refine Gy ?_
 exact fin1 BL h

def Z5 (x:Int) (y:Int):Option Int:=
 bnd (G05 x) fun b=>
 bnd (G05 y) fun a=>
 bif b then
 (bif a then
  (some 0)
  else
  (some (-1)))
 else
 (bif a then
  (some 1)
  else
  (bif decide (x < y) then
   (some (-1))
   else
   (bif decide (y < x) then
    (some 1)
    else
    (some 0))))
theorem H50 (x:Int) (y:Int) (r:Int) (h:Z5 x y=some r):Pure Em 44 [U8 x,U8 y] (·=I64 r):=by
 unfold Z5 at h
 refine H7 [.tmp 4] Tryz.func44 O O ?_
 refine Jr fun p=>?_
 refine JLm (I64 0) O ?_
 refine G6 (p ?_)
 refine Jr fun q=>?_
 refine JLm (U8 x) O ?_
 obtain⟨b,s,h⟩:=Gh h
 refine JLg (BL b) (H0 O (Gc8 x b s) J61 ⟨O,O,ø⟩) ?_
 refine JLm (BL b) O ?_
 refine G6 (q ?_)
 refine Jr fun t=>?_
 refine JLm (U8 y) O ?_
 obtain⟨a,u,h⟩:=Gh h
 refine JLg (BL a) (H0 O (Gc8 y a u) J61 ⟨O,O,ø⟩) ?_
 refine JLm (BL a) O ?_
 refine G6 (t ?_)
 refine Js fun v=>?_
 refine Jr fun w=>?_
 refine JLm (BL b) O ?_
 refine G6 (w ?_)
 refine JCc O h ?_ ?_<;>intro h hb
 ·
  refine Js fun z=>?_
  refine Jr fun a0=>?_
  refine JLm (BL a) O ?_
  refine G6 (a0 ?_)
  refine JCc O h ?_ ?_<;>intro h hb
  ·
   refine Jr fun c=>?_
   refine JLm (I64 0) O ?_
   refine G6 (c ?_)
   refine Gy ?_
   exact fin1 I64 h
  ·
   refine Gp ?_
   refine z ?_
   refine Jr fun d=>?_
   refine JLm (I64 (-1)) O ?_
   refine G6 (d ?_)
   refine Gy ?_
   exact fin1 I64 h
 ·
  refine Gp ?_
  refine v ?_
  refine Js fun e=>?_
  refine Jr fun f=>?_
  refine JLm (BL a) O ?_
  refine G6 (f ?_)
  refine JCc O h ?_ ?_<;>intro h hb
  ·
   refine Jr fun g=>?_
   refine JLm (I64 1) O ?_
   refine G6 (g ?_)
   refine Gy ?_
   exact fin1 I64 h
  ·
   refine Gp ?_
   refine e ?_
   refine Js fun i=>?_
   refine Jr fun j=>?_
   refine JLm (U8 x) O ?_
   refine JLm (U8 y) O ?_
   refine JLg (BL (decide (x < y))) (Jc O O O) ?_
   refine G6 (j ?_)
   refine JCc O h ?_ ?_<;>intro h hb
   ·
    refine Jr fun k=>?_
    refine JLm (I64 (-1)) O ?_
    refine G6 (k ?_)
    refine Gy ?_
    exact fin1 I64 h
   ·
    refine Gp ?_
    refine i ?_
    refine Js fun l=>?_
    refine Jr fun m=>?_
    refine JLm (U8 x) O ?_
    refine JLm (U8 y) O ?_
    refine JLg (BL (decide (y < x))) (G29 O O O) ?_
    refine G6 (m ?_)
    refine JCc O h ?_ ?_<;>intro h hb
    ·
     refine Jr fun n=>?_
     refine JLm (I64 1) O ?_
     refine G6 (n ?_)
     refine Gy ?_
     exact fin1 I64 h
    ·
     refine Gp ?_
     refine l ?_
     refine Jr fun o=>?_
     refine JLm (I64 0) O ?_
     refine G6 (o ?_)
     refine Gy ?_
     exact fin1 I64 h

def G15 (a:Slot) (b:Slot):Option Int:=
 bnd (Qq a.G5 b.G5) fun c=>
 bnd (Qq a.Tier b.Tier) fun d=>
 bnd (Z5 a.Half b.Half) fun e=>
 bnd (G4b [c,d,e]) fun f=>
 some f
theorem H22 (a:Slot) (b:Slot) (r:Int) (h:G15 a b=some r):Pure Em 15 [.agg [I64 a.G5,I64 a.Tier,U8 a.Half],.agg [I64 b.G5,I64 b.Tier,U8 b.Half]] (·=I64 r):=by
 unfold G15 at h
 refine H7 [.tmp 4] Tryz.func15 O O ?_
 refine Jr fun g=>?_
 refine JLg (.ptr 1050 0) (Jx (cs:=[I64 a.G5,I64 a.Tier,U8 a.Half]) 1050 O O O O O) ?_
 refine JLg (.ptr 1051 0) (Jx (cs:=[I64 b.G5,I64 b.Tier,U8 b.Half]) 1051 O O O O O) ?_
 refine JLm (I64 0) O ?_
 refine G6 (g ?_)
 refine Gj [(2,.dptr [I64 a.G5,I64 a.Tier,U8 a.Half]),(3,.ptr 1051 0)] [(1051,.box 63 [I64 b.G5,I64 b.Tier,U8 b.Half])] 1050 rfl rfl rfl ⟨⟨_,rfl,.boxEq rfl rfl⟩,ø⟩ rfl (by exact⟨.ptr,.conv (.same rfl),ø⟩) ?_
 refine Gj [(2,.dptr [I64 a.G5,I64 a.Tier,U8 a.Half]),(3,.dptr [I64 b.G5,I64 b.Tier,U8 b.Half])] [] 1051 rfl rfl rfl ø rfl (by exact⟨.conv (.same rfl),.ptr,ø⟩) ?_
 refine Js fun i=>?_
 obtain⟨c,j,h⟩:=Gh h
 obtain⟨d,k,h⟩:=Gh h
 obtain⟨e,l,h⟩:=Gh h
 obtain⟨f,m,h⟩:=Gh h
 refine JC_d0 Q0 (by kernel_rfl) ?_
 refine Dq (.dptr [I64 a.G5,I64 a.Tier,U8 a.Half]) (Gd Q8 O O O) O ?_
 refine Dq (I64 a.G5) (Gf G9 O O O) O ?_
 refine Dq (.dptr [I64 b.G5,I64 b.Tier,U8 b.Half]) (Gd Q8 O O O) O ?_
 refine Dq (I64 b.G5) (Gf G9 O O O) O ?_
 refine Dq (I64 c) (H0 (args:=[I64 a.G5,I64 b.G5]) O (Z6 a.G5 b.G5 c j) Ge0 ⟨O,O,O,O,ø⟩) O ?_
 refine Dq (.dptr [I64 a.Tier,U8 a.Half]) (Gd Ri O O O) O ?_
 refine Dq (I64 a.Tier) (Gf G9 O O O) O ?_
 refine Dq (.dptr [I64 b.Tier,U8 b.Half]) (Gd Ri O O O) O ?_
 refine Dq (I64 b.Tier) (Gf G9 O O O) O ?_
 refine Dq (I64 d) (H0 (args:=[I64 a.Tier,I64 b.Tier]) O (Z6 a.Tier b.Tier d k) Ge0 ⟨O,O,O,O,ø⟩) O ?_
 refine Dq (.dptr [U8 a.Half]) (Gd Rh O O O) O ?_
 refine Dq (U8 a.Half) (Gf J9 O O O) O ?_
 refine Dq (.dptr [U8 b.Half]) (Gd Rh O O O) O ?_
 refine Dq (U8 b.Half) (Gf J9 O O O) O ?_
 refine Dq (I64 e) (H0 (args:=[U8 a.Half,U8 b.Half]) O (H50 a.Half b.Half e l) Qb0 ⟨O,O,O,O,ø⟩) O ?_
 refine Dq (E5 [c,d,e]) (H8 (xs:=[I64 c,I64 d,I64 e]) O ⟨O,O,O,O,O,O,ø⟩ Gx R0 O O O O) O ?_
 refine Dq (I64 f) (H0 (args:=[E5 [c,d,e]]) O (H71 [c,d,e] f m) J6a ⟨O,O,ø⟩) O ?_
 refine Dq (I64 f) (G7 O O) O ?_
 refine Dnil ?_
 refine i ?_
 refine Gy ?_
 exact fin1 I64 h

def Rr (x:G1) (y:G1):Option Int:=
 bnd (G15 x.Slot y.Slot) fun a=>
 some a
theorem H6e (x:G1) (y:G1) (r:Int) (h:Rr x y=some r):Pure Em 107 [.agg (G1.cs x),.agg (G1.cs y)] (·=I64 r):=by
 unfold Rr at h
 refine H7 [.tmp 4] Tryz.func107 O O ?_
 refine Jr fun b=>?_
 refine JLg (.ptr 1171 0) (Jx (cs:=[I64 x.Box,I64 x.Slot.G5,I64 x.Slot.Tier,U8 x.Slot.Half]) 1171 O O O O O) ?_
 refine JLg (.ptr 1172 0) (Jx (cs:=[I64 y.Box,I64 y.Slot.G5,I64 y.Slot.Tier,U8 y.Slot.Half]) 1172 O O O O O) ?_
 refine JLm (I64 0) O ?_
 refine G6 (b ?_)
 refine Gj [(2,Eg x),(3,.ptr 1172 0)] [(1172,.box 65 [I64 y.Box,I64 y.Slot.G5,I64 y.Slot.Tier,U8 y.Slot.Half])] 1171 rfl rfl rfl ⟨⟨_,rfl,.boxEq rfl rfl⟩,ø⟩ rfl (by exact⟨.ptr,.conv (.same rfl),ø⟩) ?_
 refine Gj [(2,Eg x),(3,Eg y)] [] 1172 rfl rfl rfl ø rfl (by exact⟨.conv (.same rfl),.ptr,ø⟩) ?_
 refine Jr fun c=>?_
 refine JLg (.dptr ((G1.cs x).drop 1)) (Gd Q7 O O O) ?_
 refine JLg (.agg ((G1.cs x).drop 1)) (Gi Q5 O O O) ?_
 refine JLg (.dptr ((G1.cs y).drop 1)) (Gd Q7 O O O) ?_
 refine JLg (.agg ((G1.cs y).drop 1)) (Gi Q5 O O O) ?_
 obtain⟨a,d,h⟩:=Gh h
 refine JLg (I64 a) (H0 O (H22 x.Slot y.Slot a d) J6e ⟨O,O,O,O,ø⟩) ?_
 refine JLm (I64 a) O ?_
 refine G6 (c ?_)
 refine Gy ?_
 exact fin1 I64 h

def Rw (a:List G1) (b:List G1):Option Int:=
 bnd (R8 a b (fun z0 z1=>Rr z0 z1)) fun c=>
 some c
theorem Hbb (a:List G1) (b:List G1) (r:Int) (h:Rw a b=some r):Pure Em 64 [E4 a,E4 b] (·=I64 r):=by
 unfold Rw at h
 refine H7 [.tmp 4] Tryz.func64 O O ?_
 refine Jr fun d=>?_
 refine JLm (I64 0) O ?_
 refine G6 (d ?_)
 refine Jr fun e=>?_
 refine JLm (E4 a) O ?_
 refine JLm (E4 b) O ?_
 obtain⟨c,f,h⟩:=Gh h
 refine JLg (I64 c) (H0 O (G86 a b (fun z0 z1=>Rr z0 z1) 107 [] Q47 O (fun z0 z1 q hq=>H6e z0 z1 q hq) c f) Q48 ⟨O,O,O,O,O,O,ø⟩) ?_
 refine JLm (I64 c) O ?_
 refine G6 (e ?_)
 refine Gy ?_
 exact fin1 I64 h

def Q2 (F:Nat) (s:Ge) (boxes:List Box) (ids:List Int):Option (List (List G1)):=
 bnd (J26 (s.Columns.length:Int)) fun c=>
 need (decide (8*c≤281474976710656∧c≤maxLen∧c*1≤16777216)) <|
 bnd (G28 s (List.replicate c (0:Int)) ids) fun j=>
 bnd (G04 F ids s (List.replicate c (0:Int))) fun e=>
 each (fun f i (a:(List (List G1))) d=>
  bnd (H98 (fun z0 z1=>Y5 z0 z1) f) fun b=>
  bnd (Qv s boxes b) fun g=>
  bif g then
  (need (decide ((a.length+[b].length)*24≤140737488355328∧a.length+[b].length≤maxLen)) <|
   d (a++[b]))
  else
  (d a))
 (fun(a:(List (List G1)))=>
  bnd (H5a (fun z0 z1=>Rw z0 z1) a) fun h=>
  some h) e 0 []
abbrev Er:List AV:=[.vec 1073 (([]:List (List G1)).length) 1 (([]:List (List G1)).length)]
theorem H04 (F:Nat) (s:Ge) (boxes:List Box) (ids:List Int) (r:(List (List G1))) (h:Q2 F s boxes ids=some r):Pure Em 23 [.agg (Ge.cs s),E6 boxes,E5 ids] (·=LS 1 (E4) r):=by
 unfold Q2 at h
 refine H7 [.tmp 6] Tryz.func23 O O ?_
 refine Jr fun a7=>?_
 refine JLg (.ptr 1069 0) (Jx (cs:=(Ge.cs s)) 1069 O O O O O) ?_
 refine JLg (.ptr 1070 0) (Jx (cs:=[E6 boxes]) 1070 O O O O O) ?_
 refine JLg (LS 1 (E4) ([]:List (List G1))) (Qh 1 O O) ?_
 refine G6 (a7 ?_)
 refine Gj [(2,E5 ids),(3,Ef s),(4,.ptr 1070 0)] [(1070,.box 38 [E6 boxes])] 1069 rfl rfl rfl ⟨⟨_,rfl,.boxEq rfl rfl⟩,ø⟩ rfl (by exact⟨.conv (.same rfl),.ptr,.conv (.same rfl),ø⟩) ?_
 refine Gj [(2,E5 ids),(3,Ef s),(4,.dptr [E6 boxes])] [] 1070 rfl rfl rfl ø rfl (by exact⟨.conv (.same rfl),.conv (.same rfl),.ptr,ø⟩) ?_
 refine Jr fun a8=>?_
 refine JLg (.ptr 1071 0) (Y7 1071 [.sc (.slice none 0 0)] [.slice none 0 0] Q91 ⟨.inl O,ø⟩ O O) ?_
 refine Hbd 1071 0 1073 59 1 O O O (cs':=Er) O ?_
 refine G6 (a8 ?_)
 refine Js fun a9=>?_
 refine Js fun b0=>?_
 refine Y6 (l':=[(2,E5 ids),(3,Ef s),(4,.dptr [E6 boxes]),(7,.ptr 1071 0)]) (L':=[(1071,.box 42 Er),(1073,.vec 59 1 (([]:List (List G1)).length) (([]:List (List G1)).map (E4)))]) ⟨(.sm O O),⟨fbQ O ⟨.same rfl,ø⟩,⟨_,rfl,.vec⟩,ø⟩,rfl⟩ ?_
 obtain⟨e,k,h⟩:=Gh h
 obtain⟨b1,h⟩:=J0 h
 obtain⟨r7,b2,h⟩:=Gh h
 refine JC_d0 Q0 (by kernel_rfl) ?_
 refine Dq (.agg (Ge.cs s)) (Gi Hm O O O) O ?_
 refine Dq (Ef s) (Gd Hk O O O) O ?_
 refine Dq (Ea s.Columns) (Gf J2 O O O) O ?_
 refine Dq (Ek s.Columns.length) (G25 (f:=G5.av) (xs:=s.Columns) Hj O O) O ?_
 refine Dq (E5 (List.replicate e (0:Int))) (Q84 (f:=I64) (n:=e) 0 [E0] O O O Gx G43 R21 (H7d k) (H7d k) b1 ⟨.inl O,ø⟩ O) O ?_
 refine Dq (E5 ids) (G4 O O) O ?_
 refine Dq (.fn 98 [.dptr [E5 ids],Ef s,.dptr [E5 (List.replicate e (0:Int))]]) (H0 (args:=[.agg (Ge.cs s),E5 (List.replicate e (0:Int)),E5 ids]) O (H06 s (List.replicate e (0:Int)) ids r7 b2) J68 ⟨O,O,O,O,O,O,ø⟩) O ?_
 refine Dnil ?_
 refine b0 ?_
 refine Gk ?_
 obtain⟨d,hy_18,h⟩:=Gh h
 obtain⟨b3,t,v,j,h⟩:=J3 h
 refine Jc6 (p:=16) (f:=G1.av) 1072 [(3,Ef s),(4,.dptr [E6 boxes]),(7,.ptr 1071 0),(15,.fn 98 [.dptr [E5 ids],Ef s,.dptr [E5 (List.replicate e (0:Int))]])] d (fun g (a:(List (List G1)))=>each b3 t (List.drop g d) g a=some r) (fun a=>[(1073,.vec 59 1 a.length (a.map (E4))),(1071,.box 42 [.vec 1073 a.length 1 a.length])]) [] rfl rfl rfl J5d (H89.down F ids s (List.replicate e (0:Int)) d hy_18) (fun _=>rfl) h ⟨(.sm O O),⟨⟨_,rfl,.vec⟩,fbQ O ⟨.same rfl,ø⟩,ø⟩,rfl⟩ rfl (fun _=>(.sm O O)) (fun _=>rfl) ?_ ?_
 ·
  intro g y_ a hu_ w lr_ b6 l
  obtain⟨x,e_⟩:=Ky hu_
  subst e_
  obtain⟨c,b5,y,i,h⟩:=Hr w x
  replace h:=Ry v h
  obtain⟨_,rfl⟩:=Ky y
  generalize d[g]=c at h ⊢
  change JC _ _ _ _ [(16,.vec 1072 0 4 c.length),(3,Ef s),(4,.dptr [E6 boxes]),(7,.ptr 1071 0),(15,.fn 98 [.dptr [E5 ids],Ef s,.dptr [E5 (List.replicate e (0:Int))]])] [(1072,.vec 65 4 0 (c.map G1.av)),(1073,.vec 59 1 a.length (a.map (E4))),(1071,.box 42 [.vec 1073 a.length 1 a.length])]
  refine G2 ?_
  refine JLm (.vec 1072 0 4 c.length) O ?_
  refine G6 ?_
  refine R7d ?_
  refine Gk ?_
  refine Jr fun z=>?_
  refine JLm (.vec 1072 0 4 c.length) O ?_
  obtain⟨b,a0,h⟩:=Gh h
  refine JLg (.tup []) (Q25 (f:=G1.av) (cmp:=(fun z0 z1=>Y5 z0 z1)) (xs:=c) (r:=b) G1.vs O Qcb Q52 (fun _=>O) (fun _=>O) (fun _=>Qe3 O) Qab Qaa O O O O O a0 (fun z0 z1 q hq=>H8b z0 z1 q hq) O) ?_
  refine G6 (z ?_)
  refine Jr fun a1=>?_
  refine JLg (.agg (Ge.cs s)) (Gi Hm O O O) ?_
  refine JLg (E6 boxes) (Gf G72 O O O) ?_
  refine JLm (.vec 1072 0 4 c.length) O ?_
  obtain⟨m,a2,h⟩:=Gh h
  refine JLg (BL m) (Jae (args:=[.agg (Ge.cs s),E6 boxes,E4 b]) O (Zn s boxes b m a2) G62 ⟨.data O O,.data O O,.vec O,ø⟩ O) ?_
  refine G6 (a1 ?_)
  refine JCc O h ?_ ?_<;>intro h hb
  ·
   refine G2 ?_
   refine JLg (.vec 1073 a.length 1 a.length) (Ji Jy O O O O) ?_
   refine JLm (.vec 1072 0 4 c.length) O ?_
   refine R7e 24 (0+1) O O (Nat.lt_succ_self _) ?_
   refine JLg (LS 1 (E4) [b]) (H8 (xs:=[E4 b]) O ⟨O,O,ø⟩ Hz Gb0 O O O O) ?_
   obtain⟨a3,h⟩:=J0 h
   refine JLg (.vec 1073 ((a++[b]).length) 1 ((a++[b]).length)) (G66 (f:=(E4)) (xs:=a) (ys:=[b]) (ver:=a.length) (ver1:=(a++[b]).length) rfl rfl rfl rfl Hz H31 a3 (fun _=>rfl) (.inl rfl) (by simp)) ?_
   refine Hb (u:=.junk) (Gz (u:=.vec 1073 ((a++[b]).length) 1 ((a++[b]).length)) (ds:=[.vec 1073 ((a++[b]).length) 1 ((a++[b]).length)]) H2e O O O O O O O O) ?_
   refine G6 ?_
   exact l _ _ (a++[b]) (app1 i h) ⟨ø,⟨⟨_,O,.vec⟩,⟨_,O,.boxL O ⟨.same O,ø⟩⟩,ø⟩,O⟩
  ·
   refine Gp ?_
   exact l _ _ a (app1 i h) ⟨ø,⟨⟨_,O,.vec⟩,⟨_,O,.boxL O ⟨.same O,ø⟩⟩,ø⟩,O⟩
 ·
  intro a h
  replace h:=app1 j (Hs h (Nat.lt_irrefl _))
  refine a9 ?_
  refine Jr fun a4=>?_
  refine JLg (.vec 1073 a.length 1 a.length) (Ji Jy O O O O) ?_
  obtain⟨o,a5,h⟩:=Gh h
  refine JLg (.tup []) (Rc6 (f:=(E4)) (cmp:=(fun z0 z1=>Rw z0 z1)) (xs:=a) (r:=o) O Q57 Q51 (fun _=>O) (fun _=>O) (R73 _ _) Qa9 Qa8 O O O O O a5 (fun z0 z1 q hq=>Hbb z0 z1 q hq) O) ?_
  refine G6 (a4 ?_)
  refine Jr fun a6=>?_
  refine JLg (.vec 1073 a.length 1 a.length) (Ji Jy O O O O) ?_
  refine JLm (.vec 1073 a.length 1 a.length) O ?_
  refine G6 (a6 ?_)
  refine H45 [(6,LS 1 (E4) o)] [] 1073 rfl rfl ø rfl (by exact⟨.vec,ø⟩) ?_
  refine Gy ?_
  exact fin1 (fun r:(List (List G1))=>(LS 1 (E4) r:AV)) h

def Jg (F:Nat) (s:Ge) (boxes:List Box) (ids:List Int):Option ((List (List G1))×Int):=
 bnd (Jm s) fun j=>
 bif (!j) then
 (some ([],2))
 else
 (each (fun c b (e:Unit) d=>
   bnd (G1a boxes c) fun a=>
   bnd (bif ((!((!a.2)||(decide (a.1.Size≠40))))&&(decide (0 < (b:Int)))) then chk ((b:Int) - 1) some else some 0) fun f=>
   bnd (bif ((!((!a.2)||(decide (a.1.Size≠40))))&&(decide (0 < (b:Int)))) then Jz ids f some else some default) fun g=>
   bif (((!a.2)||(decide (a.1.Size≠40)))||((decide (0 < (b:Int)))&&(decide (c≤g)))) then
   (some ([],2))
   else
   (d ()))
  (fun(e:Unit)=>
   bnd (Q3 s) fun h=>
   bif ((!h)||(decide (4 < (ids.length:Int)))) then
   (some ([],5))
   else
   (bnd (Q2 F s boxes ids) fun i=>
    some (i,0))) ids 0 ())
theorem Yw (F:Nat) (s:Ge) (boxes:List Box) (ids:List Int) (r:(List (List G1))×Int) (h:Jg F s boxes ids=some r):Pure Em 8 [.agg (Ge.cs s),E6 boxes,E5 ids] (·=.tup [LS 1 (E4) r.1,I64 r.2]):=by
 unfold Jg at h
 refine H7 [.tmp 6,.tmp 7] Tryz.func8 O O ?_
 refine Jr fun b3=>?_
 refine JLg (.ptr 1016 0) (Jx (cs:=(Ge.cs s)) 1016 O O O O O) ?_
 refine JLg (LS 1 (E4) ([]:List (List G1))) (Qh 1 O O) ?_
 refine JLm (I64 0) O ?_
 refine G6 (b3 ?_)
 refine Gj [(1,E6 boxes),(2,E5 ids),(3,Ef s)] [] 1016 rfl rfl rfl ø rfl (by exact⟨.conv (.same rfl),.conv (.same rfl),.ptr,ø⟩) ?_
 refine Js fun b4=>?_
 refine Jr fun b5=>?_
 refine JLg (.agg (Ge.cs s)) (Gi Hm O O O) ?_
 obtain⟨m,b6,h⟩:=Gh h
 refine JLg (BL m) (H0 O (Gee.down s m b6) Ha6 ⟨O,O,ø⟩) ?_
 refine JLg (BL (!m)) (G11 (b:=m) O O) ?_
 refine G6 (b5 ?_)
 refine JCc O h ?_ ?_<;>intro h hb
 ·
  refine Jr fun b7=>?_
  refine JLg (LS 1 (E4) ([]:List (List G1))) (Qh 1 O O) ?_
  refine JLm (I64 2) O ?_
  refine G6 (b7 ?_)
  refine Gy ?_
  exact⟨[LS 1 (E4) ([]:List (List G1)),I64 2],[],ø,O,⟨⟨_,O,.conv (.same O)⟩,⟨_,O,.conv (.same O)⟩,ø⟩,O,congrArg (fun r:(List (List G1))×Int=>(.tup [LS 1 (E4) r.1,I64 r.2]:AV)) (M0 h)⟩
 ·
  refine Gp ?_
  refine b4 ?_
  refine Js fun b8=>?_
  refine Jr fun b9=>?_
  refine JLm (E5 ids) O ?_
  refine JLl Gx O O O fun o=>?_
  refine JLm (I64 0) O ?_
  refine G6 (b9 ?_)
  refine Gk ?_
  obtain⟨c0,p,q,n,h⟩:=J3 h
  refine Hi (fun c (i:Unit)=>each c0 p (List.drop c ids) c i=some r) (fun c i=>[(1,E6 boxes),(2,E5 ids),(3,Ef s),(15,E5 ids),(16,Ek ids.length),(17,Ek c)]) (fun c i=>[]) (fun c=>ids.length - c) 0 () h ⟨(.sm O O),ø,rfl⟩ ?_
  clear h
  intro c i k c4 c1
  refine Jr fun t=>?_
  refine JLg (BL (decide ((c:Int) < (ids.length:Int)))) (Jc O O O) ?_
  refine G6 (t ?_)
  refine Js fun v=>?_
  refine Gn O (fun hb=>?_) (fun hb=>?_)
  ·
   have l:=Jk hb
   obtain⟨d,c3,w,x,h⟩:=Hr k l
   replace h:=Ry q h
   refine Gp ?_
   refine v ?_
   refine Js fun z=>?_
   refine Gk ?_
   refine Jr fun a0=>?_
   refine JLm (Ek c) O ?_
   refine JLg (.dptr [I64 d]) (H3 (f:=I64) (xs:=ids) (y:=d) O O O Gx w O) ?_
   refine JLg (I64 d) (Gf G9 O O O) ?_
   refine JLm (Ek c) O ?_
   refine JLm (I64 d) O ?_
   refine G6 (a0 ?_)
   refine Jr fun a1=>?_
   refine JLm (E6 boxes) O ?_
   refine JLm (I64 d) O ?_
   obtain⟨a,a2,h⟩:=Gh h
   refine JLg (.tup [.agg (Box.cs a.1),BL a.2]) (H0 O (H13 boxes d a a2) Ha5 ⟨O,O,O,O,ø⟩) ?_
   refine JLm (.tup [.agg (Box.cs a.1),BL a.2]) O ?_
   refine JLg (.agg (Box.cs a.1)) (Gv O O O) ?_
   refine JLg (BL a.2) (Gv O O O) ?_
   refine JLg (.ptr 1017 0) (Hd 1017 9 Qr O O) ?_
   refine Hb (u:=.junk) (Gz (u:=.agg (Box.cs a.1)) (ds:=(Box.cs a.1)) Yd O O O O O O O O) ?_
   refine JLm (BL a.2) O ?_
   refine G6 (a1 ?_)
   refine fzQ [(1,E6 boxes),(2,E5 ids),(3,Ef s),(8,Ek c),(9,I64 d),(10,Ei a.1),(11,BL a.2),(15,E5 ids),(16,Ek ids.length),(17,Ek c)] [] 1017 rfl rfl rfl ø rfl ?_
   refine Jr fun a3=>?_
   refine JLm (BL a.2) O ?_
   refine JLg (BL (!a.2)) (G11 (b:=a.2) O O) ?_
   refine JLm (BL (!a.2)) O ?_
   refine JLo (.dptr ((Box.cs a.1).drop 2)) [] O .scf ø (fun hc=>Gd Yk O O O) O ?_
   refine JLo (U8 a.1.Size) [31] O .scf ⟨Ua,ø⟩ (fun hc=>Gf J9 O O O) O ?_
   refine JLo (BL (decide (a.1.Size≠40))) [32] O .scf ⟨Ua,ø⟩ (fun hc=>H27 O O O) O ?_
   refine JLg (BL ((!a.2)||(decide (a.1.Size≠40)))) (G24 O O O O) ?_
   refine JLm (BL ((!a.2)||(decide (a.1.Size≠40)))) O ?_
   refine JLo (Ek c) [] O .scf ø (fun hc=>G4 O O) O ?_
   refine JLo (BL (decide (0 < (c:Int)))) [36] O .scf ⟨Ua,ø⟩ (fun hc=>G29 O O O) O ?_
   refine JLo (BL (decide (0 < (c:Int)))) [37] O .scf ⟨Ua,ø⟩ (fun hc=>G4 O O) O ?_
   refine JLo (I64 d) [] O .optt ø (fun hc=>G4 O O) O ?_
   refine JLo (E5 ids) [] O .optt ø (fun hc=>G4 O O) O ?_
   refine JLo (Ek c) [] O .optt ø (fun hc=>G4 O O) O ?_
   obtain⟨c2,a4,h⟩:=Gh h
   refine JLo (I64 c2) [41] O .optt ⟨Ua,ø⟩ (fun hc=>H0a (H69 (Hc hc a4)) O O O) O ?_
   obtain⟨e,a5,h⟩:=Gh h
   refine JLo (.dptr [I64 e]) [40,42] O .optt ⟨Ua,Ua,ø⟩ (fun hc=>(match G13 (Hc hc a5) with | ⟨_,hm_,hy_⟩=>H3 (f:=I64) (xs:=ids) (y:=e) O O O Gx hy_ hm_)) O ?_
   refine JLo (I64 e) [43] O .optt ⟨Ua,ø⟩ (fun hc=>Gf G9 O O O) O ?_
   refine JLo (BL (decide (d≤e))) [39,44] O .optt ⟨Ua,Ua,ø⟩ (fun hc=>H0b O O O) O ?_
   refine Ga (u:=BL ((decide (0 < (c:Int)))&&(decide (d≤e)))) [(38,BL (decide (0 < (c:Int)))),(45,_)] O O O .scf ⟨.all id,.part,ø⟩ (fun hc=>Qs O O O O) ?_
   refine JLg (BL (((!a.2)||(decide (a.1.Size≠40)))||((decide (0 < (c:Int)))&&(decide (d≤e))))) (G24 O O O O) ?_
   refine G6 (a3 ?_)
   refine JCc O h ?_ ?_<;>intro h hb
   ·
    refine Jr fun a6=>?_
    refine JLg (LS 1 (E4) ([]:List (List G1))) (Qh 1 O O) ?_
    refine JLm (I64 2) O ?_
    refine G6 (a6 ?_)
    refine Gy ?_
    exact⟨[LS 1 (E4) ([]:List (List G1)),I64 2],[],ø,O,⟨⟨_,O,.conv (.same O)⟩,⟨_,O,.conv (.same O)⟩,ø⟩,O,congrArg (fun r:(List (List G1))×Int=>(.tup [LS 1 (E4) r.1,I64 r.2]:AV)) (M0 h)⟩
   ·
    refine Gp ?_
    refine z ?_
    refine G2 ?_
    refine JLg (I64 ((c+1:Nat):Int)) (Hv (Ha l o) O O O) ?_
    refine JLm (I64 ((c+1:Nat):Int)) O ?_
    refine G6 ?_
    exact c1 _ _ (c+1) () (app1 x h) (by omega) ⟨(.sm O O),ø,rfl⟩
  ·
   have h:=app1 n (Hs k (H9 hb))
   refine Ho ?_
   refine b8 ?_
   refine Js fun a7=>?_
   refine Jr fun a8=>?_
   refine JLg (.agg (Ge.cs s)) (Gi Hm O O O) ?_
   obtain⟨g,a9,h⟩:=Gh h
   refine JLg (BL g) (H0 O (H05 s g a9) J6d ⟨O,O,ø⟩) ?_
   refine JLg (BL (!g)) (G11 (b:=g) O O) ?_
   refine JLm (BL (!g)) O ?_
   refine JLo (E5 ids) [] O .scf ø (fun hc=>G4 O O) O ?_
   refine JLo (Ek ids.length) [53] O .scf ⟨Ua,ø⟩ (fun hc=>G25 (f:=I64) (xs:=ids) Gx O O) O ?_
   refine JLo (BL (decide (4 < (ids.length:Int)))) [54] O .scf ⟨Ua,ø⟩ (fun hc=>G29 O O O) O ?_
   refine JLg (BL ((!g)||(decide (4 < (ids.length:Int))))) (G24 O O O O) ?_
   refine G6 (a8 ?_)
   refine JCc O h ?_ ?_<;>intro h hb
   ·
    refine Jr fun b0=>?_
    refine JLg (LS 1 (E4) ([]:List (List G1))) (Qh 1 O O) ?_
    refine JLm (I64 5) O ?_
    refine G6 (b0 ?_)
    refine Gy ?_
    exact⟨[LS 1 (E4) ([]:List (List G1)),I64 5],[],ø,O,⟨⟨_,O,.conv (.same O)⟩,⟨_,O,.conv (.same O)⟩,ø⟩,O,congrArg (fun r:(List (List G1))×Int=>(.tup [LS 1 (E4) r.1,I64 r.2]:AV)) (M0 h)⟩
   ·
    refine Gp ?_
    refine a7 ?_
    refine Jr fun b1=>?_
    refine JLg (.agg (Ge.cs s)) (Gi Hm O O O) ?_
    refine JLm (E6 boxes) O ?_
    refine JLm (E5 ids) O ?_
    obtain⟨j,b2,h⟩:=Gh h
    refine JLg (LS 1 (E4) j) (H0 O (H04 F s boxes ids j b2) J6c ⟨O,O,O,O,O,O,ø⟩) ?_
    refine JLm (LS 1 (E4) j) O ?_
    refine JLm (I64 0) O ?_
    refine G6 (b1 ?_)
    refine Gy ?_
    exact⟨[LS 1 (E4) j,I64 0],[],ø,O,⟨⟨_,O,.conv (.same O)⟩,⟨_,O,.conv (.same O)⟩,ø⟩,O,congrArg (fun r:(List (List G1))×Int=>(.tup [LS 1 (E4) r.1,I64 r.2]:AV)) (M0 h)⟩

def G8b (boxes:List Box) (calls:Int):Option Bool:=
 bif (((decide (calls < 1))||(decide (20 < calls)))||(decide (2000 < (boxes.length:Int)))) then
 (some false)
 else
 (each (fun a d (b:Int) c=>
   bif ((((((decide (a.ID≤b))||(decide (999999 < a.ID)))||((decide (a.Size≠40))&&((decide (a.Size≠20))||a.High)))||(decide (a.Load < 0)))||(decide (a.Discharge≤a.Load)))||(decide (calls≤a.Discharge))) then
   (some false)
   else
   (c a.ID))
  (fun(b:Int)=>
   some true) boxes 0 0)
theorem Ja0 (boxes:List Box) (calls:Int) (r:Bool) (h:G8b boxes calls=some r):Pure Em 65 [E6 boxes,I64 calls] (·=BL r):=by
 unfold G8b at h
 refine H7 [.tmp 4] Tryz.func65 O O ?_
 refine Jr fun x=>?_
 refine JLm (BL false) O ?_
 refine G6 (x ?_)
 refine Js fun z=>?_
 refine Jr fun a0=>?_
 refine JLm (I64 calls) O ?_
 refine JLg (BL (decide (calls < 1))) (Jc O O O) ?_
 refine JLm (BL (decide (calls < 1))) O ?_
 refine JLo (I64 calls) [] O .scf ø (fun hc=>G4 O O) O ?_
 refine JLo (BL (decide (20 < calls))) [11] O .scf ⟨Ua,ø⟩ (fun hc=>G29 O O O) O ?_
 refine JLg (BL ((decide (calls < 1))||(decide (20 < calls)))) (G24 O O O O) ?_
 refine JLm (BL ((decide (calls < 1))||(decide (20 < calls)))) O ?_
 refine JLo (E6 boxes) [] O .scf ø (fun hc=>G4 O O) O ?_
 refine JLo (Ek boxes.length) [15] O .scf ⟨Ua,ø⟩ (fun hc=>G25 (f:=Box.av) (xs:=boxes) Hx O O) O ?_
 refine JLo (BL (decide (2000 < (boxes.length:Int)))) [16] O .scf ⟨Ua,ø⟩ (fun hc=>G29 O O O) O ?_
 refine JLg (BL (((decide (calls < 1))||(decide (20 < calls)))||(decide (2000 < (boxes.length:Int))))) (G24 O O O O) ?_
 refine G6 (a0 ?_)
 refine JCc O h ?_ ?_<;>intro h hb
 ·
  refine Jr fun a1=>?_
  refine JLm (BL false) O ?_
  refine G6 (a1 ?_)
  refine Gy ?_
  exact fin1 BL h
 ·
  refine Gp ?_
  refine z ?_
  refine Jr fun a2=>?_
  refine JLm (I64 0) O ?_
  refine G6 (a2 ?_)
  refine Js fun a3=>?_
  refine Jr fun a4=>?_
  refine JLm (E6 boxes) O ?_
  refine JLl Hx O O O fun i=>?_
  refine JLm (I64 0) O ?_
  refine G6 (a4 ?_)
  refine Gk ?_
  obtain⟨a5,j,k,g,h⟩:=J3 h
  refine Hi (fun c (b:Int)=>each a5 j (List.drop c boxes) c b=some r) (fun c b=>[(1,I64 calls),(5,I64 b),(19,E6 boxes),(20,Ek boxes.length),(21,Ek c)]) (fun c b=>[]) (fun c=>boxes.length - c) 0 0 h ⟨(.sm O O),ø,rfl⟩ ?_
  clear h
  intro c b d a8 a6
  refine Jr fun l=>?_
  refine JLg (BL (decide ((c:Int) < (boxes.length:Int)))) (Jc O O O) ?_
  refine G6 (l ?_)
  refine Js fun m=>?_
  refine Gn O (fun hb=>?_) (fun hb=>?_)
  ·
   have e:=Jk hb
   obtain⟨a,a7,n,o,h⟩:=Hr d e
   replace h:=Ry k h
   refine Gp ?_
   refine m ?_
   refine Js fun p=>?_
   refine Gk ?_
   refine Jr fun q=>?_
   refine JLg (Ei a) (H3 (f:=Box.av) (xs:=boxes) (y:=a) O O O Hx n O) ?_
   refine JLg (.agg (Box.cs a)) (Gi Yu O O O) ?_
   refine JLg (.ptr 1135 0) (Hd 1135 9 Qr O O) ?_
   refine Hb (u:=.junk) (Gz (u:=.agg (Box.cs a)) (ds:=(Box.cs a)) Yd O O O O O O O O) ?_
   refine G6 (q ?_)
   refine fzQ [(1,I64 calls),(5,I64 b),(7,Ei a),(19,E6 boxes),(20,Ek boxes.length),(21,Ek c)] [] 1135 rfl rfl rfl ø rfl ?_
   refine Js fun s=>?_
   refine Jr fun t=>?_
   refine JLg (Ei a) (Gd Qp O O O) ?_
   refine JLg (I64 a.ID) (Gf G9 O O O) ?_
   refine JLm (I64 b) O ?_
   refine JLg (BL (decide (a.ID≤b))) (H0b O O O) ?_
   refine JLm (BL (decide (a.ID≤b))) O ?_
   refine JLo (Ei a) [] O .scf ø (fun hc=>Gd Qp O O O) O ?_
   refine JLo (I64 a.ID) [30] O .scf ⟨Ua,ø⟩ (fun hc=>Gf G9 O O O) O ?_
   refine JLo (BL (decide (999999 < a.ID))) [31] O .scf ⟨Ua,ø⟩ (fun hc=>G29 O O O) O ?_
   refine JLg (BL ((decide (a.ID≤b))||(decide (999999 < a.ID)))) (G24 O O O O) ?_
   refine JLm (BL ((decide (a.ID≤b))||(decide (999999 < a.ID)))) O ?_
   refine JLo (.dptr ((Box.cs a).drop 2)) [] O .scf ø (fun hc=>Gd Yk O O O) O ?_
   refine JLo (U8 a.Size) [35] O .scf ⟨Ua,ø⟩ (fun hc=>Gf J9 O O O) O ?_
   refine JLo (BL (decide (a.Size≠40))) [36] O .scf ⟨Ua,ø⟩ (fun hc=>H27 O O O) O ?_
   refine JLo (BL (decide (a.Size≠40))) [37] O .scf ⟨Ua,ø⟩ (fun hc=>G4 O O) O ?_
   refine JLo (.dptr ((Box.cs a).drop 2)) [] O .optt ø (fun hc=>Gd Yk O O O) O ?_
   refine JLo (U8 a.Size) [39] O .optt ⟨Ua,ø⟩ (fun hc=>Gf J9 O O O) O ?_
   refine JLo (BL (decide (a.Size≠20))) [40] O .optt ⟨Ua,ø⟩ (fun hc=>H27 O O O) O ?_
   refine JLo (BL (decide (a.Size≠20))) [41] O .optt ⟨Ua,ø⟩ (fun hc=>G4 O O) O ?_
   refine JLo (.dptr ((Box.cs a).drop 3)) [] O .optf ø (fun hc=>Gd H0e O O O) O ?_
   refine JLo (BL a.High) [43] O .optf ⟨Ua,ø⟩ (fun hc=>Gf Rs O O O) O ?_
   refine Ga (u:=BL ((decide (a.Size≠20))||a.High)) [(42,BL (decide (a.Size≠20))),(44,_)] O O O .optt ⟨.all id,.part,ø⟩ (fun hc=>G24 O O O O) ?_
   refine Ga (u:=BL ((decide (a.Size≠40))&&((decide (a.Size≠20))||a.High))) [(38,BL (decide (a.Size≠40))),(45,_)] O O O .scf ⟨.all id,.part,ø⟩ (fun hc=>Qs O O O O) ?_
   refine JLg (BL (((decide (a.ID≤b))||(decide (999999 < a.ID)))||((decide (a.Size≠40))&&((decide (a.Size≠20))||a.High)))) (G24 O O O O) ?_
   refine JLm (BL (((decide (a.ID≤b))||(decide (999999 < a.ID)))||((decide (a.Size≠40))&&((decide (a.Size≠20))||a.High)))) O ?_
   refine JLo (.dptr ((Box.cs a).drop 5)) [] O .scf ø (fun hc=>Gd Yj O O O) O ?_
   refine JLo (I64 a.Load) [49] O .scf ⟨Ua,ø⟩ (fun hc=>Gf G9 O O O) O ?_
   refine JLo (BL (decide (a.Load < 0))) [50] O .scf ⟨Ua,ø⟩ (fun hc=>Jc O O O) O ?_
   refine JLg (BL ((((decide (a.ID≤b))||(decide (999999 < a.ID)))||((decide (a.Size≠40))&&((decide (a.Size≠20))||a.High)))||(decide (a.Load < 0)))) (G24 O O O O) ?_
   refine JLm (BL ((((decide (a.ID≤b))||(decide (999999 < a.ID)))||((decide (a.Size≠40))&&((decide (a.Size≠20))||a.High)))||(decide (a.Load < 0)))) O ?_
   refine JLo (.dptr ((Box.cs a).drop 5)) [] O .scf ø (fun hc=>Gd Yj O O O) O ?_
   refine JLo (I64 a.Load) [54] O .scf ⟨Ua,ø⟩ (fun hc=>Gf G9 O O O) O ?_
   refine JLo (.dptr ((Box.cs a).drop 6)) [] O .scf ø (fun hc=>Gd Zb O O O) O ?_
   refine JLo (I64 a.Discharge) [56] O .scf ⟨Ua,ø⟩ (fun hc=>Gf G9 O O O) O ?_
   refine JLo (BL (decide (a.Discharge≤a.Load))) [55,57] O .scf ⟨Ua,Ua,ø⟩ (fun hc=>Gf2 O O O) O ?_
   refine JLg (BL (((((decide (a.ID≤b))||(decide (999999 < a.ID)))||((decide (a.Size≠40))&&((decide (a.Size≠20))||a.High)))||(decide (a.Load < 0)))||(decide (a.Discharge≤a.Load)))) (G24 O O O O) ?_
   refine JLm (BL (((((decide (a.ID≤b))||(decide (999999 < a.ID)))||((decide (a.Size≠40))&&((decide (a.Size≠20))||a.High)))||(decide (a.Load < 0)))||(decide (a.Discharge≤a.Load)))) O ?_
   refine JLo (.dptr ((Box.cs a).drop 6)) [] O .scf ø (fun hc=>Gd Zb O O O) O ?_
   refine JLo (I64 a.Discharge) [61] O .scf ⟨Ua,ø⟩ (fun hc=>Gf G9 O O O) O ?_
   refine JLo (I64 calls) [] O .scf ø (fun hc=>G4 O O) O ?_
   refine JLo (BL (decide (calls≤a.Discharge))) [62,63] O .scf ⟨Ua,Ua,ø⟩ (fun hc=>Gf2 O O O) O ?_
   refine JLg (BL ((((((decide (a.ID≤b))||(decide (999999 < a.ID)))||((decide (a.Size≠40))&&((decide (a.Size≠20))||a.High)))||(decide (a.Load < 0)))||(decide (a.Discharge≤a.Load)))||(decide (calls≤a.Discharge)))) (G24 O O O O) ?_
   refine G6 (t ?_)
   refine JCc O h ?_ ?_<;>intro h hb
   ·
    refine Jr fun v=>?_
    refine JLm (BL false) O ?_
    refine G6 (v ?_)
    refine Gy ?_
    exact fin1 BL h
   ·
    refine Gp ?_
    refine s ?_
    refine G2 ?_
    refine JLg (Ei a) (Gd Qp O O O) ?_
    refine JLg (I64 a.ID) (Gf G9 O O O) ?_
    refine JLm (I64 a.ID) O ?_
    refine G6 (p ?_)
    refine G2 ?_
    refine JLg (I64 ((c+1:Nat):Int)) (Hv (Ha e i) O O O) ?_
    refine JLm (I64 ((c+1:Nat):Int)) O ?_
    refine G6 ?_
    exact a6 _ _ (c+1) a.ID (app1 o h) (by omega) ⟨(.sm O O),ø,rfl⟩
  ·
   have h:=app1 g (Hs d (H9 hb))
   refine Ho ?_
   refine a3 ?_
   refine Jr fun w=>?_
   refine JLm (BL true) O ?_
   refine G6 (w ?_)
   refine Gy ?_
   exact fin1 BL h

def Rj (boxes:List Box) (call:Int):Option (List Int):=
 each (fun b f (a:(List Int)) d=>
  jp (fun c=>
   bif ((decide (b.Load≤call))&&(decide (call < b.Discharge))) then
   (need (decide ((a.length+[b.ID].length)*8≤140737488355328∧a.length+[b.ID].length≤maxLen)) <|
    c (a++[b.ID]))
   else
   (c a)) fun(e:(List Int))=>
  d e)
 (fun(a:(List Int))=>
  some a) boxes 0 []
theorem H4b (boxes:List Box) (call:Int) (r:(List Int)) (h:Rj boxes call=some r):Pure Em 25 [E6 boxes,I64 call] (·=E5 r):=by
 unfold Rj at h
 refine H7 [.tmp 4] Tryz.func25 O O ?_
 refine Jr fun x=>?_
 refine JLg (E5 ([]:List Int)) (Qh 1 O O) ?_
 refine G6 (x ?_)
 refine Jr fun z=>?_
 refine JLg (OW 1075 1 I64 ([]:List Int)) (G3e 1075 3 1 O O O) ?_
 refine G6 (z ?_)
 refine Js fun a0=>?_
 refine Jr fun a1=>?_
 refine JLm (E6 boxes) O ?_
 refine JLl Hx O O O fun a2=>?_
 refine JLm (I64 0) O ?_
 refine G6 (a1 ?_)
 refine Gk ?_
 obtain⟨a3,k,l,i,h⟩:=J3 h
 refine Hi (fun c (b:(List Int))=>each a3 k (List.drop c boxes) c b=some r) (fun c b=>[(1,I64 call),(5,OW 1075 1 I64 b),(8,E6 boxes),(9,Ek boxes.length),(10,Ek c)]) (fun c b=>[(1075,.spare 3 1 b.length b.length)]) (fun c=>boxes.length - c) 0 [] h ⟨(.sm O O),⟨⟨_,rfl,.same⟩,ø⟩,rfl⟩ ?_
 clear h
 intro c b e a6 a4
 refine Jr fun m=>?_
 refine JLg (BL (decide ((c:Int) < (boxes.length:Int)))) (Jc O O O) ?_
 refine G6 (m ?_)
 refine Js fun n=>?_
 refine Gn O (fun hb=>?_) (fun hb=>?_)
 ·
  have g:=Jk hb
  obtain⟨a,a5,o,p,h⟩:=Hr e g
  replace h:=Ry l h
  refine Gp ?_
  refine n ?_
  obtain⟨q,j,h⟩:=R1 h
  refine Qa (fun d:(List Int)=>q d=some r) (fun d=>[(1,I64 call),(5,OW 1075 1 I64 d),(8,E6 boxes),(9,Ek boxes.length),(10,Ek c)]) (fun d=>[(1075,.spare 3 1 d.length d.length)]) (fun Kj22 ej22=>?_) ?_
  ·
   refine Gk ?_
   refine Jr fun s=>?_
   refine JLg (Ei a) (H3 (f:=Box.av) (xs:=boxes) (y:=a) O O O Hx o O) ?_
   refine JLg (.agg (Box.cs a)) (Gi Yu O O O) ?_
   refine JLg (.ptr 1076 0) (Hd 1076 9 Qr O O) ?_
   refine Hb (u:=.junk) (Gz (u:=.agg (Box.cs a)) (ds:=(Box.cs a)) Yd O O O O O O O O) ?_
   refine G6 (s ?_)
   refine fzQ [(1,I64 call),(5,OW 1075 1 I64 b),(7,Ei a),(8,E6 boxes),(9,Ek boxes.length),(10,Ek c)] [(1075,.spare 3 1 b.length b.length)] 1076 rfl rfl rfl ⟨⟨_,rfl,.same⟩,ø⟩ rfl ?_
   refine Jr fun t=>?_
   refine JLg (.dptr ((Box.cs a).drop 5)) (Gd Yj O O O) ?_
   refine JLg (I64 a.Load) (Gf G9 O O O) ?_
   refine JLm (I64 call) O ?_
   refine JLg (BL (decide (a.Load≤call))) (H0b O O O) ?_
   refine JLm (BL (decide (a.Load≤call))) O ?_
   refine JLo (I64 call) [] O .sct ø (fun hc=>G4 O O) O ?_
   refine JLo (.dptr ((Box.cs a).drop 6)) [] O .sct ø (fun hc=>Gd Zb O O O) O ?_
   refine JLo (I64 a.Discharge) [20] O .sct ⟨Ua,ø⟩ (fun hc=>Gf G9 O O O) O ?_
   refine JLo (BL (decide (call < a.Discharge))) [19,21] O .sct ⟨Ua,Ua,ø⟩ (fun hc=>Jc O O O) O ?_
   refine JLg (BL ((decide (a.Load≤call))&&(decide (call < a.Discharge)))) (Qs O O O O) ?_
   refine G6 (t ?_)
   refine JCc O h ?_ ?_<;>intro h hb
   ·
    refine G2 ?_
    refine JLm (OW 1075 1 I64 b) O ?_
    refine JLg (Ei a) (Gd Qp O O O) ?_
    refine JLg (I64 a.ID) (Gf G9 O O O) ?_
    refine JLg (E5 [a.ID]) (H8 (xs:=[I64 a.ID]) O ⟨O,O,ø⟩ Gx R0 O O O O) ?_
    obtain⟨v,h⟩:=J0 h
    refine JLg (OW 1075 1 I64 (b++[a.ID])) (Qz (f:=I64) (xs:=b) (ys:=[a.ID]) O O O O Gx G43 v (fun _=>O) (.inl O) O) ?_
    refine JLm (OW 1075 1 I64 (b++[a.ID])) O ?_
    refine G6 ?_
    exact ej22 _ _ (b++[a.ID]) h ⟨(.sm O O),⟨⟨_,rfl,.same⟩,ø⟩,rfl⟩
   ·
    refine Gp ?_
    exact ej22 _ _ b h ⟨(.sm O O),⟨⟨_,rfl,.same⟩,ø⟩,rfl⟩
  ·intro d h
   replace h:=app1 j h
   refine G2 ?_
   refine JLg (I64 ((c+1:Nat):Int)) (Hv (Ha g a2) O O O) ?_
   refine JLm (I64 ((c+1:Nat):Int)) O ?_
   refine G6 ?_
   exact a4 _ _ (c+1) d (app1 p h) (by omega) ⟨(.sm O O),⟨⟨_,rfl,.same⟩,ø⟩,rfl⟩
 ·
  have h:=app1 i (Hs e (H9 hb))
  refine Ho ?_
  refine a0 ?_
  refine Jr fun w=>?_
  refine JLm (OW 1075 1 I64 b) O ?_
  refine JLm (OW 1075 1 I64 b) O ?_
  refine G6 (w ?_)
  refine Gy ?_
  exact fin1l (fun r:(List Int)=>(E5 r:AV)) h

def Yz (s:List Box) (f:Box→Option Bool):Option Bool:=
 bnd (R9 s f) fun a=>
 some (decide (0≤a))
theorem Ga0 (s:List Box) (f:Box→Option Bool) (f_f:FuncId) (f_c:List AV) (f_B:He Em f_f=true) (f_d:Qe (fun _=>false) f_c=true) (f_w:∀ a0 q,f a0=some q→Pure Em f_f ([.agg (Box.cs a0)]++f_c) (·=BL q)) (r:Bool) (h:Yz s f=some r):Pure Em 66 [E6 s,.fn f_f f_c] (·=BL r):=by
 unfold Yz at h
 refine H7 [.tmp 4] Tryz.func66 O O ?_
 refine Jr fun b=>?_
 refine JLm (BL false) O ?_
 refine G6 (b ?_)
 refine Jr fun c=>?_
 refine JLm (E6 s) O ?_
 refine JLm (.fn f_f f_c) O ?_
 obtain⟨a,d,h⟩:=Gh h
 refine JLg (I64 a) (H0 O (G33 s f f_f f_c f_B f_d f_w a d) J69 ⟨O,O,O,f_d,ø⟩) ?_
 refine JLg (BL (decide (0≤a))) (Gf2 O O O) ?_
 refine JLm (BL (decide (0≤a))) O ?_
 refine G6 (c ?_)
 refine Gy ?_
 exact fin1 BL h

def G4a (b:Box):Option Bool:=
 some (decide (b.Size≠40))
theorem Hbc (b:Box) (r:Bool) (h:G4a b=some r):Pure Em 67 [.agg (Box.cs b)] (·=BL r):=by
 unfold G4a at h
 refine H7 [.tmp 2] Tryz.func67 O O ?_
 refine Jr fun a=>?_
 refine JLg (.ptr 1136 0) (Jx (cs:=(Box.cs b)) 1136 O O O O O) ?_
 refine JLm (BL false) O ?_
 refine G6 (a ?_)
 refine Gj [(1,Ei b)] [] 1136 rfl rfl rfl ø rfl (by exact⟨.ptr,ø⟩) ?_
 refine Jr fun c=>?_
 refine JLg (.dptr ((Box.cs b).drop 2)) (Gd Yk O O O) ?_
 refine JLg (U8 b.Size) (Gf J9 O O O) ?_
 refine JLg (BL (decide (b.Size≠40))) (H27 O O O) ?_
 refine JLm (BL (decide (b.Size≠40))) O ?_
 refine G6 (c ?_)
 refine Gy ?_
 exact fin1 BL h

def Jo (s:Ge) (boxes:List Box) (calls:Int):Option Bool:=
 bnd (Jm s) fun a=>
 bnd (bif (!(!a)) then Q3 s else some default) fun c=>
 bnd (bif (!(((!a)||(!c))||(decide (4 < calls)))) then G8b boxes calls else some default) fun h=>
 bif ((((!a)||(!c))||(decide (4 < calls)))||(!h)) then
 (some false)
 else
 (need (decide (calls≤9223372036854775807)) <|
  upto (fun d (e:Unit) b=>
   bnd (Rj boxes (d:Int)) fun f=>
   bif decide (4 < (f.length:Int)) then
   (some false)
   else
   (b ()))
  (fun(e:Unit)=>
   bnd (Yz boxes (fun z0=>G4a z0)) fun g=>
   some (!g)) calls.toNat 0 ())
theorem Ga1 (s:Ge) (boxes:List Box) (calls:Int) (r:Bool) (h:Jo s boxes calls=some r):Pure Em 24 [.agg (Ge.cs s),E6 boxes,I64 calls] (·=BL r):=by
 unfold Jo at h
 refine H7 [.tmp 6] Tryz.func24 O O ?_
 refine Jr fun a2=>?_
 refine JLg (.ptr 1074 0) (Jx (cs:=(Ge.cs s)) 1074 O O O O O) ?_
 refine JLm (BL false) O ?_
 refine G6 (a2 ?_)
 refine Gj [(1,E6 boxes),(2,I64 calls),(3,Ef s)] [] 1074 rfl rfl rfl ø rfl (by exact⟨.conv (.same rfl),.conv (.same rfl),.ptr,ø⟩) ?_
 refine Js fun a3=>?_
 refine Jr fun a4=>?_
 refine JLg (.agg (Ge.cs s)) (Gi Hm O O O) ?_
 obtain⟨c,a5,h⟩:=Gh h
 refine JLg (BL c) (H0 O (Gee.down s c a5) Ha6 ⟨O,O,ø⟩) ?_
 refine JLg (BL (!c)) (G11 (b:=c) O O) ?_
 refine JLm (BL (!c)) O ?_
 refine JLo (.agg (Ge.cs s)) [] O .scf ø (fun hc=>Gi Hm O O O) O ?_
 obtain⟨d,a6,h⟩:=Gh h
 refine JLo (BL d) [12] O .scf ⟨Ua,ø⟩ (fun hc=>H0 (args:=[.agg (Ge.cs s)]) O (H05 s d (Hc hc a6)) J6d ⟨O,O,ø⟩) O ?_
 refine JLo (BL (!d)) [13] O .scf ⟨Ua,ø⟩ (fun hc=>G11 (b:=d) O O) O ?_
 refine JLg (BL ((!c)||(!d))) (G24 O O O O) ?_
 refine JLm (BL ((!c)||(!d))) O ?_
 refine JLo (I64 calls) [] O .scf ø (fun hc=>G4 O O) O ?_
 refine JLo (BL (decide (4 < calls))) [17] O .scf ⟨Ua,ø⟩ (fun hc=>G29 O O O) O ?_
 refine JLg (BL (((!c)||(!d))||(decide (4 < calls)))) (G24 O O O O) ?_
 refine JLm (BL (((!c)||(!d))||(decide (4 < calls)))) O ?_
 refine JLo (E6 boxes) [] O .scf ø (fun hc=>G4 O O) O ?_
 refine JLo (I64 calls) [] O .scf ø (fun hc=>G4 O O) O ?_
 obtain⟨g,a7,h⟩:=Gh h
 refine JLo (BL g) [21,22] O .scf ⟨Ua,Ua,ø⟩ (fun hc=>H0 (args:=[E6 boxes,I64 calls]) O (Ja0 boxes calls g (Hc hc a7)) Qa7 ⟨O,O,O,O,ø⟩) O ?_
 refine JLo (BL (!g)) [23] O .scf ⟨Ua,ø⟩ (fun hc=>G11 (b:=g) O O) O ?_
 refine JLg (BL ((((!c)||(!d))||(decide (4 < calls)))||(!g))) (G24 O O O O) ?_
 refine G6 (a4 ?_)
 refine JCc O h ?_ ?_<;>intro h hb
 ·
  refine Jr fun a8=>?_
  refine JLm (BL false) O ?_
  refine G6 (a8 ?_)
  refine Gy ?_
  exact fin1 BL h
 ·
  refine Gp ?_
  refine a3 ?_
  refine Js fun a9=>?_
  refine Jr fun b0=>?_
  refine JLm (I64 calls) O ?_
  refine JLm (I64 0) O ?_
  refine G6 (b0 ?_)
  refine Gk ?_
  obtain⟨m,h⟩:=J0 h
  obtain⟨b1,n,o,l,h⟩:=Ga5 h
  refine Hi (fun a (f:Unit)=>upto b1 n (calls.toNat - a) a f=some r) (fun a f=>[(1,E6 boxes),(26,I64 calls),(27,Ek a)]) (fun a f=>[]) (fun a=>calls.toNat - a) 0 () h ⟨(.sm O O),ø,O⟩ ?_
  clear h
  intro a f i b5 b2
  refine Jr fun p=>?_
  refine JLg (BL (decide ((a:Int) < calls))) (Jc O O O) ?_
  refine G6 (p ?_)
  refine Js fun t=>?_
  refine Gn O (fun hb=>?_) (fun hb=>?_)
  ·
   have j:=G55 hb
   obtain⟨b3,u,h⟩:=G50 i j
   replace h:=J03 o h
   refine Gp ?_
   refine t ?_
   refine Js fun v=>?_
   refine Gk ?_
   refine Jr fun w=>?_
   refine JLm (Ek a) O ?_
   refine JLm (Ek a) O ?_
   refine G6 (w ?_)
   refine Jr fun x=>?_
   refine JLm (E6 boxes) O ?_
   refine JLm (Ek a) O ?_
   obtain⟨k,y,h⟩:=Gh h
   refine JLg (E5 k) (H0 O (H4b boxes (a:Int) k y) J6b ⟨O,O,O,O,ø⟩) ?_
   refine JLl Gx O O O fun b4=>?_
   refine JLg (BL (decide (4 < (k.length:Int)))) (G29 O O O) ?_
   refine G6 (x ?_)
   refine JCc O h ?_ ?_<;>intro h hb
   ·
    refine Jr fun z=>?_
    refine JLm (BL false) O ?_
    refine G6 (z ?_)
    refine Gy ?_
    exact fin1 BL h
   ·
    refine Gp ?_
    refine v ?_
    refine G2 ?_
    refine JLg (I64 ((a+1:Nat):Int)) (Hv (Ha j (Zs m)) O O O) ?_
    refine JLm (I64 ((a+1:Nat):Int)) O ?_
    refine G6 ?_
    exact b2 _ _ (a+1) () (app1 u h) (by omega) ⟨(.sm O O),ø,rfl⟩
  ·
   have h:=app1 l (G51 i (Yn hb))
   refine Ho ?_
   refine a9 ?_
   refine Jr fun a0=>?_
   refine JLm (E6 boxes) O ?_
   obtain⟨e,a1,h⟩:=Gh h
   refine JLg (BL e) (H0 O (Ga0 boxes (fun z0=>G4a z0) 67 [] Qa5 O (fun z0 q hq=>Hbc z0 q hq) e a1) Qa6 ⟨O,O,O,O,ø⟩) ?_
   refine JLg (BL (!e)) (G11 (b:=e) O O) ?_
   refine JLm (BL (!e)) O ?_
   refine G6 (a0 ?_)
   refine Gy ?_
   exact fin1 BL h
end
end Go.Proofs.YtibhpogonkdiaaaGreat
