/- Walks of functions. -/
import Derived.Test.YtibhpogonkdiaaaGreatSpecF
set_option linter.unnecessarySimpa false
set_option maxRecDepth 100000
set_option maxHeartbeats 1000000
set_option linter.unusedVariables false
set_option linter.unusedSimpArgs false
namespace Go.Proofs.YtibhpogonkdiaaaGreat
open Go.RowKit
noncomputable section
def G1.vs (x:G1):List Value:=[.int .i64 x.Box,.int .i64 x.Slot.G6,.int .i64 x.Slot.Tier,.int .u8 x.Slot.Half]
namespace XSF
open XAF
open XCF
open XFF
theorem Ra5 (a b:Slot):H55 Em 4 63 [.int .i64 a.G6,.int .i64 a.Tier,.int .u8 a.Half] [.int .i64 b.G6,.int .i64 b.Tier,.int .u8 b.Half]=some (decide (a=b)):=by
 refine(show _=some ((a.G6==b.G6)&&((a.Tier==b.Tier)&&((a.Half==b.Half)&&true))) by kernel_rfl).trans (congrArg some ?_)
 rw [Bool.eq_iff_iff]
 simp only [Mb,beq_iff_eq,Mc,Bool.and_true]
 constructor
 ·intro h; obtain⟨_,_,_⟩:=a; obtain⟨_,_,_⟩:=b; simp_all
 ·intro h; subst h; simp
theorem Jw:G7d Em 63 3=true:=by kernel_rfl
theorem J07:G02 Em 63=true:=by kernel_rfl
theorem Q2c:H8 Em 106=true:=by kernel_rfl
theorem Q2b:H8 Em 107=true:=by kernel_rfl
theorem Q27:H8 Em 113=true:=by kernel_rfl
theorem Q26:H8 Em 114=true:=by kernel_rfl
theorem Q25:H8 Em 115=true:=by kernel_rfl
theorem G51:H8 Em 14=true:=by kernel_rfl
theorem J57:H8 Em 15=true:=by kernel_rfl
theorem H93:H8 Em 20=true:=by kernel_rfl
theorem H92:H8 Em 21=true:=by kernel_rfl
theorem J56:H8 Em 22=true:=by kernel_rfl
theorem J55:H8 Em 23=true:=by kernel_rfl
theorem J54:H8 Em 25=true:=by kernel_rfl
theorem Q94:H8 Em 37=true:=by kernel_rfl
theorem Q93:H8 Em 38=true:=by kernel_rfl
theorem Q92:H8 Em 39=true:=by kernel_rfl
theorem Q91:H8 Em 40=true:=by kernel_rfl
theorem Q90:H8 Em 41=true:=by kernel_rfl
theorem Q8f:H8 Em 44=true:=by kernel_rfl
theorem J52:H8 Em 57=true:=by kernel_rfl
theorem Q8c:H8 Em 58=true:=by kernel_rfl
theorem Q8b:H8 Em 59=true:=by kernel_rfl
theorem Q8a:H8 Em 61=true:=by kernel_rfl
theorem Q89:H8 Em 62=true:=by kernel_rfl
theorem Q88:H8 Em 63=true:=by kernel_rfl
theorem Q87:H8 Em 64=true:=by kernel_rfl
theorem Q86:H8 Em 65=true:=by kernel_rfl
theorem Q85:H8 Em 66=true:=by kernel_rfl
theorem Q84:H8 Em 67=true:=by kernel_rfl
theorem Q80:H8 Em 74=true:=by kernel_rfl
theorem H90:H8 Em 75=true:=by kernel_rfl
theorem Q7f:H8 Em 76=true:=by kernel_rfl
theorem J4d:H8 Em 77=true:=by kernel_rfl
theorem J4c:H8 Em 78=true:=by kernel_rfl
theorem J4a:H8 Em 80=true:=by kernel_rfl
theorem H1f:R8 Em 59 1 24=true:=by kernel_rfl
theorem J44:R8 Em 63 3 24=true:=by kernel_rfl
theorem Jb2:Em.eqGuardType Em.depth 63=false:=by kernel_rfl
theorem Qh:Ji Em 37 0 0=true:=by kernel_rfl
theorem Gfa:Ji Em 37 3 3=true:=by kernel_rfl
theorem Jy:Ji Em 63 0 0=true:=by kernel_rfl
theorem R6:Ji Em 63 1 1=true:=by kernel_rfl
theorem R5:Ji Em 63 2 2=true:=by kernel_rfl
theorem Jn:Ji Em 65 0 0=true:=by kernel_rfl
theorem Jx:Ji Em 65 1 1=true:=by kernel_rfl
theorem Yr:placesOf Em 37=some [(0,1),(1,1),(2,1),(3,1),(4,1),(5,1),(6,1),(7,1),(8,1)]:=by kernel_rfl
theorem G62:Qo Em 38=true:=by kernel_rfl
theorem H1d:Qo Em 60=true:=by kernel_rfl
theorem H1c:Qs Em 42 1=true:=by kernel_rfl
theorem G11:Qs Em 63 3=true:=by kernel_rfl
theorem R2:sliceB Em 60 63 3=true:=by kernel_rfl
theorem Qf8:(Em.info? 3).bind (fun i=>i.zero.map Value.cells)=some (List.toArray [E0]):=by kernel_rfl
theorem Zv:(Em.info? 37).bind (fun i=>i.zero.map Value.cells)=some (List.toArray [E0,.string ByteArray.empty,.int .u8 0,.bool false,E0,E0,E0,.int .u8 0,.bool false]):=by kernel_rfl
theorem Q70:(Em.info? 42).bind (fun i=>i.zero.map Value.cells)=some (List.toArray [.slice none 0 0]):=by kernel_rfl
theorem G9c:Q4 Em 59 1=true:=by kernel_rfl
theorem Zc:Q4 Em 63 3=true:=by kernel_rfl
end XSF
open XAF
open XCF
open XFF
open XSF

def G48 (b:Box) (a:Int):Option Bool:=
 some (decide (b.ID=a))
theorem J27 (b:Box) (a:Int) (r:Bool) (h:G48 b a=some r):Pure Em 58 [.agg (Box.cs b),.dptr [I64 a]] (·=BL r):=by
 unfold G48 at h
 refine H5 [.tmp 3] Tryz.func58 O O ?_
 refine Jr fun c=>?_
 refine JLg (.ptr 1118 0) (Jt (cs:=(Box.cs b)) 1118 O O O O O) ?_
 refine JLm (BL false) O ?_
 refine G4 (c ?_)
 refine Gh [(1,.dptr [I64 a]),(2,Ei b)] [] 1118 rfl rfl rfl ø rfl (by exact⟨.conv (.same rfl),.ptr,ø⟩) ?_
 refine Jr fun d=>?_
 refine JLg (Ei b) (Gb Qh O O O) ?_
 refine JLg (I64 b.ID) (Ge G9 O O O) ?_
 refine JLg (I64 a) (Ge G9 O O O) ?_
 refine JLg (BL (decide (b.ID=a))) (Qn O O O) ?_
 refine JLm (BL (decide (b.ID=a))) O ?_
 refine G4 (d ?_)
 refine Gw ?_
 exact fin1 BL h

def Qz (s:List Box) (f:Box→Option Bool):Option Int:=
 each (fun b c (d:Unit) a=>
  bnd (f b) fun e=>
  bif e then
  (some (c:Int))
  else
  (a ()))
 (fun(d:Unit)=>
  some (-1)) s 0 ()
theorem G25 (s:List Box) (f:Box→Option Bool) (f_f:FuncId) (f_c:List AV) (f_B:H8 Em f_f=true) (f_d:Q3 (fun _=>false) f_c=true) (f_w:∀ a0 q,f a0=some q→Pure Em f_f ([.agg (Box.cs a0)]++f_c) (·=BL q)) (r:Int) (h:Qz s f=some r):Pure Em 57 [E6 s,.fn f_f f_c] (·=I64 r):=by
 unfold Qz at h
 refine H5 [.tmp 4] Tryz.func57 O O ?_
 refine Jr fun x=>?_
 refine JLm (I64 0) O ?_
 refine G4 (x ?_)
 refine Js fun z=>?_
 refine Jr fun a1=>?_
 refine JLm (E6 s) O ?_
 refine JLl Jd O O O fun a2=>?_
 refine JLm (I64 0) O ?_
 refine G4 (a1 ?_)
 refine Gi ?_
 obtain⟨a3,i,j,g,h⟩:=Hu h
 refine Hf (fun a (c:Unit)=>each a3 i (List.drop a s) a c=some r) (fun a c=>[(0,E6 s),(1,.fn f_f f_c),(7,Ek s.length),(8,Ek a)]) (fun a c=>[]) (fun a=>s.length - a) 0 () h ⟨⟨.same O,.same (Jm _ _ f_d),.same O,.same O,ø⟩,ø,O⟩ ?_
 clear h
 intro a c d a7 a4
 refine Jr fun k=>?_
 refine JLg (BL (decide ((a:Int) < (s.length:Int)))) (J8 O O O) ?_
 refine G4 (k ?_)
 refine Js fun l=>?_
 refine Gj O (fun hb=>?_) (fun hb=>?_)
 ·
  have e:=Jh hb
  obtain⟨b,a6,m,n,h⟩:=Hk d e
  replace h:=Rh j h
  refine Gn ?_
  refine l ?_
  refine Js fun o=>?_
  refine Gi ?_
  refine Jr fun p=>?_
  refine JLm (Ek a) O ?_
  refine JLm (Ek a) O ?_
  refine G4 (p ?_)
  refine Jr fun t=>?_
  refine JLm (.fn f_f f_c) O ?_
  refine JLm (E6 s) O ?_
  refine JLm (Ek a) O ?_
  refine JLg (Ei b) (H0 (f:=Box.av) (xs:=s) (y:=b) O O O Jd m O) ?_
  refine JLg (.agg (Box.cs b)) (Gk Ye O O O) ?_
  obtain⟨a5,u,h⟩:=Gg h
  refine JLg (BL a5) (G0c (args:=[.agg (Box.cs b)]) (caps:=f_c) O O (f_w b _ u) f_B ⟨O,O,ø⟩ f_d) ?_
  refine G4 (t ?_)
  refine JCc O h ?_ ?_<;>intro h hb
  ·
   refine Jr fun v=>?_
   refine JLm (Ek a) O ?_
   refine JLm (Ek a) O ?_
   refine G4 (v ?_)
   refine Gw ?_
   exact fin1 I64 h
  ·
   refine Gn ?_
   refine o ?_
   refine G2 ?_
   refine JLg (I64 ((a+1:Nat):Int)) (Ht (H7 e a2) O O O) ?_
   refine JLm (I64 ((a+1:Nat):Int)) O ?_
   refine G4 ?_
   exact a4 _ _ (a+1) () (app1 n h) (by omega) ⟨⟨.same rfl,.same (Jm _ _ f_d),.same rfl,.same rfl,ø⟩,ø,rfl⟩
 ·
  have h:=app1 g (Hm d (H6 hb))
  refine Hj ?_
  refine z ?_
  refine Jr fun w=>?_
  refine JLm (I64 (-1)) O ?_
  refine G4 (w ?_)
  refine Gw ?_
  exact fin1 I64 h

def G2f (boxes:List Box) (id_:Int):Option (Box×Bool):=
 bnd (Qz boxes (fun z0=>G48 z0 id_)) fun a=>
 bif decide (a < 0) then
 (some ((Box.mk 0 ByteArray.empty 0 false 0 0 0 0 false),false))
 else
 (Ju boxes a fun b=>
  some (b,true))
theorem H00 (boxes:List Box) (id_:Int) (r:Box×Bool) (h:G2f boxes id_=some r):Pure Em 21 [E6 boxes,I64 id_] (·=.tup [.agg (Box.cs r.1),BL r.2]):=by
 unfold G2f at h
 refine H5 [.cell 4 37,.tmp 5] Tryz.func21 O O ?_
 refine Jr fun c=>?_
 refine JLg (.ptr 1057 0) (Jt (cs:=[I64 id_]) 1057 O O O O O) ?_
 refine JLg (.ptr 1058 0) (Ru 1058 [I64 0,ST Ks,U8 0,BL false,I64 0,I64 0,I64 0,U8 0,BL false] [E0,.string ByteArray.empty,.int .u8 0,.bool false,E0,E0,E0,.int .u8 0,.bool false] Zv (zzQ O) O O) ?_
 refine JLm (BL false) O ?_
 refine G4 (c ?_)
 refine Gh [(0,E6 boxes),(3,.dptr [I64 id_]),(4,.ptr 1058 0)] [(1058,.box 37 [I64 0,ST Ks,U8 0,BL false,I64 0,I64 0,I64 0,U8 0,BL false])] 1057 rfl rfl rfl ⟨⟨_,rfl,.boxEq rfl rfl⟩,ø⟩ rfl (by exact⟨.conv (.same rfl),.ptr,.conv (.same rfl),ø⟩) ?_
 refine Jr fun d=>?_
 refine JLm (E6 boxes) O ?_
 refine JLg (.fn 58 [.dptr [I64 id_]]) (Y4 (cs:=[.dptr [I64 id_]]) O O) ?_
 obtain⟨a,e,h⟩:=Gg h
 refine JLg (I64 a) (H2 O (G25 boxes (fun z0=>G48 z0 id_) 58 [.dptr [I64 id_]] Q8c O (fun z0 q hq=>J27 z0 id_ q hq) a e) J52 ⟨O,O,O,O,ø⟩) ?_
 refine JLm (I64 a) O ?_
 refine G4 (d ?_)
 refine Js fun g=>?_
 refine Jr fun i=>?_
 refine JLm (I64 a) O ?_
 refine JLg (BL (decide (a < 0))) (J8 O O O) ?_
 refine G4 (i ?_)
 refine JCc O h ?_ ?_<;>intro h hb
 ·
  refine Jr fun j=>?_
  refine JLg (.agg [I64 0,ST Ks,U8 0,BL false,I64 0,I64 0,I64 0,U8 0,BL false]) (J9 (cs:=[I64 0,ST Ks,U8 0,BL false,I64 0,I64 0,I64 0,U8 0,BL false]) [(0,1),(1,1),(2,1),(3,1),(4,1),(5,1),(6,1),(7,1),(8,1)] [I64 0,ST Ks,U8 0,BL false,I64 0,I64 0,I64 0,U8 0,BL false] [E0,.string ByteArray.empty,.int .u8 0,.bool false,E0,E0,E0,.int .u8 0,.bool false] Yr Zv (zzQ O) O O) ?_
  refine Hd (u:=.junk) (Gy (u:=.agg [I64 0,ST Ks,U8 0,BL false,I64 0,I64 0,I64 0,U8 0,BL false]) (ds:=[I64 0,ST Ks,U8 0,BL false,I64 0,I64 0,I64 0,U8 0,BL false]) Y2 O O O O O O O O) ?_
  refine JLm (BL false) O ?_
  refine G4 (j ?_)
  refine Gw ?_
  exact⟨[.agg [I64 0,ST Ks,U8 0,BL false,I64 0,I64 0,I64 0,U8 0,BL false],BL false],[],ø,O,⟨⟨_,⟨_,_,_,_,O,O,O,.inl ⟨Ye,O⟩⟩,.conv (.same O)⟩,⟨_,O,.conv (.same O)⟩,ø⟩,O,congrArg (fun r:Box×Bool=>(.tup [.agg (Box.cs r.1),BL r.2]:AV)) (Kz h)⟩
 ·
  refine Gn ?_
  refine g ?_
  refine Jr fun k=>?_
  refine JLm (E6 boxes) O ?_
  refine JLm (I64 a) O ?_
  obtain⟨n,b,l,m,h⟩:=Qc h
  refine JLg (Ei b) (H0 (f:=Box.av) (xs:=boxes) (y:=b) O O O Jd m l) ?_
  refine JLg (.agg (Box.cs b)) (Gk Ye O O O) ?_
  refine Hd (u:=.junk) (Gy (u:=.agg (Box.cs b)) (ds:=(Box.cs b)) Y2 O O O O O O O O) ?_
  refine JLm (BL true) O ?_
  refine G4 (k ?_)
  refine Gw ?_
  exact⟨[.agg (Box.cs b),BL true],[],ø,O,⟨⟨_,⟨_,_,_,_,O,O,O,.inl ⟨Ye,O⟩⟩,.conv (.same O)⟩,⟨_,O,.conv (.same O)⟩,ø⟩,O,congrArg (fun r:Box×Bool=>(.tup [.agg (Box.cs r.1),BL r.2]:AV)) (Kz h)⟩

def G30 (s:Gf):Option Int:=
 each (fun c e (a:Int) d=>
  jp (fun b=>
   bif ((decide ((e:Int)=0))||(decide (a < c.Tiers))) then
   (b c.Tiers)
   else
   (b a)) fun(f:Int)=>
  d f)
 (fun(a:Int)=>
  some a) s.Columns 0 0
theorem Hf5 (s:Gf) (r:Int) (h:G30 s=some r):Pure Em 59 [.agg (Gf.cs s)] (·=I64 r):=by
 unfold G30 at h
 refine H5 [.tmp 2] Tryz.func59 O O ?_
 refine Jr fun x=>?_
 refine JLg (.ptr 1119 0) (Jt (cs:=(Gf.cs s)) 1119 O O O O O) ?_
 refine JLm (I64 0) O ?_
 refine G4 (x ?_)
 refine Gh [(1,Ef s)] [] 1119 rfl rfl rfl ø rfl (by exact⟨.ptr,ø⟩) ?_
 refine Jr fun z=>?_
 refine JLm (I64 0) O ?_
 refine G4 (z ?_)
 refine Js fun a0=>?_
 refine Jr fun a1=>?_
 refine JLg (Ef s) (Gb Ho O O O) ?_
 refine JLg (E7 s.Columns) (Ge J2 O O O) ?_
 refine JLl Hr O O O fun a2=>?_
 refine JLm (I64 0) O ?_
 refine G4 (a1 ?_)
 refine Gi ?_
 obtain⟨a3,k,l,i,h⟩:=Hu h
 refine Hf (fun a (c:Int)=>each a3 k (List.drop a s.Columns) a c=some r) (fun a c=>[(3,I64 c),(7,E7 s.Columns),(8,Ek s.Columns.length),(9,Ek a)]) (fun a c=>[]) (fun a=>s.Columns.length - a) 0 0 h ⟨(.sm O O),ø,rfl⟩ ?_
 clear h
 intro a c e a6 a4
 refine Jr fun m=>?_
 refine JLg (BL (decide ((a:Int) < (s.Columns.length:Int)))) (J8 O O O) ?_
 refine G4 (m ?_)
 refine Js fun n=>?_
 refine Gj O (fun hb=>?_) (fun hb=>?_)
 ·
  have g:=Jh hb
  obtain⟨b,a5,o,p,h⟩:=Hk e g
  replace h:=Rh l h
  refine Gn ?_
  refine n ?_
  obtain⟨q,j,h⟩:=Qr h
  refine Q0 (fun d:Int=>q d=some r) (fun d=>[(3,I64 d),(7,E7 s.Columns),(8,Ek s.Columns.length),(9,Ek a)]) (fun d=>[]) (fun Kj20 ej20=>?_) ?_
  ·
   refine Gi ?_
   refine Jr fun t=>?_
   refine JLm (Ek a) O ?_
   refine JLg (Eh b) (H0 (f:=G6.av) (xs:=s.Columns) (y:=b) O O O Hr o O) ?_
   refine JLg (.agg (G6.cs b)) (Gk G37 O O O) ?_
   refine JLg (.ptr 1120 0) (Hg 1120 12 Zd O O) ?_
   refine JLm (Ek a) O ?_
   refine Hd (u:=.junk) (Gy (u:=.agg (G6.cs b)) (ds:=(G6.cs b)) G81 O O O O O O O O) ?_
   refine G4 (t ?_)
   refine fzQ [(3,I64 c),(4,Ek a),(5,Eh b),(7,E7 s.Columns),(8,Ek s.Columns.length),(9,Ek a)] [] 1120 rfl rfl rfl ø rfl ?_
   refine Jr fun v=>?_
   refine JLm (Ek a) O ?_
   refine JLg (BL (decide ((a:Int)=0))) (Qn O O O) ?_
   refine JLm (BL (decide ((a:Int)=0))) O ?_
   refine JLo (.dptr ((G6.cs b).drop 3)) [] O .scf ø (fun hc=>Gb Rj O O O) O ?_
   refine JLo (I64 b.Tiers) [17] O .scf ⟨Ua,ø⟩ (fun hc=>Ge G9 O O O) O ?_
   refine JLo (I64 c) [] O .scf ø (fun hc=>G5 O O) O ?_
   refine JLo (BL (decide (c < b.Tiers))) [18,19] O .scf ⟨Ua,Ua,ø⟩ (fun hc=>G1b O O O) O ?_
   refine JLg (BL ((decide ((a:Int)=0))||(decide (c < b.Tiers)))) (G18 O O O O) ?_
   refine G4 (v ?_)
   refine JCc O h ?_ ?_<;>intro h hb
   ·
    refine G2 ?_
    refine JLg (.dptr ((G6.cs b).drop 3)) (Gb Rj O O O) ?_
    refine JLg (I64 b.Tiers) (Ge G9 O O O) ?_
    refine JLm (I64 b.Tiers) O ?_
    refine G4 ?_
    exact ej20 _ _ b.Tiers h ⟨(.sm O O),ø,rfl⟩
   ·
    refine Gn ?_
    exact ej20 _ _ c h ⟨(.sm O O),ø,rfl⟩
  ·intro d h
   replace h:=app1 j h
   refine G2 ?_
   refine JLg (I64 ((a+1:Nat):Int)) (Ht (H7 g a2) O O O) ?_
   refine JLm (I64 ((a+1:Nat):Int)) O ?_
   refine G4 ?_
   exact a4 _ _ (a+1) d (app1 p h) (by omega) ⟨(.sm O O),ø,rfl⟩
 ·
  have h:=app1 i (Hm e (H6 hb))
  refine Hj ?_
  refine a0 ?_
  refine Jr fun w=>?_
  refine JLm (I64 c) O ?_
  refine JLm (I64 c) O ?_
  refine G4 (w ?_)
  refine Gw ?_
  exact fin1 I64 h

def Z9 (s:Gf):Option Bool:=
 bnd (bif decide ((s.Columns.length:Int)≤3) then G30 s else some default) fun a=>
 some ((decide ((s.Columns.length:Int)≤3))&&(decide (a≤3)))
theorem Gf0 (s:Gf) (r:Bool) (h:Z9 s=some r):Pure Em 22 [.agg (Gf.cs s)] (·=BL r):=by
 unfold Z9 at h
 refine H5 [.tmp 2] Tryz.func22 O O ?_
 refine Jr fun b=>?_
 refine JLg (.ptr 1059 0) (Jt (cs:=(Gf.cs s)) 1059 O O O O O) ?_
 refine JLm (BL false) O ?_
 refine G4 (b ?_)
 refine Gh [(1,Ef s)] [] 1059 rfl rfl rfl ø rfl (by exact⟨.ptr,ø⟩) ?_
 refine Jr fun c=>?_
 refine JLg (Ef s) (Gb Ho O O O) ?_
 refine JLg (E7 s.Columns) (Ge J2 O O O) ?_
 refine JLl Hr O O O fun e=>?_
 refine JLg (BL (decide ((s.Columns.length:Int)≤3))) (Gf7 O O O) ?_
 refine JLm (BL (decide ((s.Columns.length:Int)≤3))) O ?_
 refine JLo (.agg (Gf.cs s)) [] O .sct ø (fun hc=>Gk J6 O O O) O ?_
 obtain⟨a,d,h⟩:=Gg h
 refine JLo (I64 a) [8] O .sct ⟨Ua,ø⟩ (fun hc=>H2 (args:=[.agg (Gf.cs s)]) O (Hf5 s a (H9 hc d)) Q8b ⟨O,O,ø⟩) O ?_
 refine JLo (BL (decide (a≤3))) [9] O .sct ⟨Ua,ø⟩ (fun hc=>Gf7 O O O) O ?_
 refine JLg (BL ((decide ((s.Columns.length:Int)≤3))&&(decide (a≤3)))) (Rg O O O O) ?_
 refine JLm (BL ((decide ((s.Columns.length:Int)≤3))&&(decide (a≤3)))) O ?_
 refine G4 (c ?_)
 refine Gw ?_
 exact fin1 BL h

def Rs (a:G1) (b:G1):Option Int:=
 bnd (Qi a.Box b.Box) fun c=>
 some c
theorem H77 (a:G1) (b:G1) (r:Int) (h:Rs a b=some r):Pure Em 62 [.agg (G1.cs a),.agg (G1.cs b)] (·=I64 r):=by
 unfold Rs at h
 refine H5 [.tmp 4] Tryz.func62 O O ?_
 refine Jr fun d=>?_
 refine JLg (.ptr 1124 0) (Jt (cs:=[I64 a.Box,I64 a.Slot.G6,I64 a.Slot.Tier,U8 a.Slot.Half]) 1124 O O O O O) ?_
 refine JLg (.ptr 1125 0) (Jt (cs:=[I64 b.Box,I64 b.Slot.G6,I64 b.Slot.Tier,U8 b.Slot.Half]) 1125 O O O O O) ?_
 refine JLm (I64 0) O ?_
 refine G4 (d ?_)
 refine Gh [(2,Eg a),(3,.ptr 1125 0)] [(1125,.box 65 [I64 b.Box,I64 b.Slot.G6,I64 b.Slot.Tier,U8 b.Slot.Half])] 1124 rfl rfl rfl ⟨⟨_,rfl,.boxEq rfl rfl⟩,ø⟩ rfl (by exact⟨.ptr,.conv (.same rfl),ø⟩) ?_
 refine Gh [(2,Eg a),(3,Eg b)] [] 1125 rfl rfl rfl ø rfl (by exact⟨.conv (.same rfl),.ptr,ø⟩) ?_
 refine Jr fun e=>?_
 refine JLg (Eg a) (Gb Jn O O O) ?_
 refine JLg (I64 a.Box) (Ge G9 O O O) ?_
 refine JLg (Eg b) (Gb Jn O O O) ?_
 refine JLg (I64 b.Box) (Ge G9 O O O) ?_
 obtain⟨c,f,h⟩:=Gg h
 refine JLg (I64 c) (H2 O (Yp a.Box b.Box c f) Gcb ⟨O,O,O,O,ø⟩) ?_
 refine JLm (I64 c) O ?_
 refine G4 (e ?_)
 refine Gw ?_
 exact fin1 I64 h

def G72 (l:List G1):Option (List Slot):=
 each (fun b d (a:(List Slot)) c=>
  need (decide ((a.length+[b.Slot].length)*24≤140737488355328∧a.length+[b.Slot].length≤maxLen)) <|
  c (a++[b.Slot]))
 (fun(a:(List Slot))=>
  some a) l 0 []
theorem J81 (l:List G1) (r:(List Slot)) (h:G72 l=some r):Pure Em 37 [E4 l] (·=Ec r):=by
 unfold G72 at h
 refine H5 [.tmp 2] Tryz.func37 O O ?_
 refine Jr fun v=>?_
 refine JLg (Ec ([]:List Slot)) (Q6 3 O O) ?_
 refine G4 (v ?_)
 refine Jr fun w=>?_
 refine JLg (OW 1096 3 Slot.av ([]:List Slot)) (G31 1096 63 3 O O O) ?_
 refine G4 (w ?_)
 refine Js fun x=>?_
 refine Jr fun z=>?_
 refine JLm (E4 l) O ?_
 refine JLl H3 O O O fun a0=>?_
 refine JLm (I64 0) O ?_
 refine G4 (z ?_)
 refine Gi ?_
 obtain⟨a1,i,j,g,h⟩:=Hu h
 refine Hf (fun c (a:(List Slot))=>each a1 i (List.drop c l) c a=some r) (fun c a=>[(3,OW 1096 3 Slot.av a),(6,E4 l),(7,Ek l.length),(8,Ek c)]) (fun c a=>[(1096,.spare 63 3 a.length a.length)]) (fun c=>l.length - c) 0 [] h ⟨(.sm O O),⟨⟨_,rfl,.same⟩,ø⟩,rfl⟩ ?_
 clear h
 intro c a d a4 a2
 refine Jr fun k=>?_
 refine JLg (BL (decide ((c:Int) < (l.length:Int)))) (J8 O O O) ?_
 refine G4 (k ?_)
 refine Js fun m=>?_
 refine Gj O (fun hb=>?_) (fun hb=>?_)
 ·
  have e:=Jh hb
  obtain⟨b,a3,n,o,h⟩:=Hk d e
  replace h:=Rh j h
  refine Gn ?_
  refine m ?_
  refine Js fun p=>?_
  refine Gi ?_
  refine Jr fun q=>?_
  refine JLg (Eg b) (H0 (f:=G1.av) (xs:=l) (y:=b) O O O H3 n O) ?_
  refine JLg (.agg (G1.cs b)) (Gk Qb O O O) ?_
  refine JLg (.ptr 1097 0) (Hg 1097 4 Q2 O O) ?_
  refine Hd (u:=.junk) (Gy (u:=.agg (G1.cs b)) (ds:=[I64 b.Box,I64 b.Slot.G6,I64 b.Slot.Tier,U8 b.Slot.Half]) Y1 O O O O O O O O) ?_
  refine G4 (q ?_)
  refine fzQ [(3,OW 1096 3 Slot.av a),(5,Eg b),(6,E4 l),(7,Ek l.length),(8,Ek c)] [(1096,.spare 63 3 a.length a.length)] 1097 rfl rfl rfl ⟨⟨_,rfl,.same⟩,ø⟩ rfl ?_
  refine G2 ?_
  refine JLm (OW 1096 3 Slot.av a) O ?_
  refine JLg (.dptr ((G1.cs b).drop 1)) (Gb Jx O O O) ?_
  refine JLg (.agg ((G1.cs b).drop 1)) (Gk Jw O O O) ?_
  refine JLg (Ec [b.Slot]) (He (xs:=[.agg ((G1.cs b).drop 1)]) O ⟨O,O,ø⟩ R2 Zc O O O O) ?_
  obtain⟨s,h⟩:=Hw h
  refine JLg (OW 1096 3 Slot.av (a++[b.Slot])) (Qt (f:=Slot.av) (xs:=a) (ys:=[b.Slot]) O O O O R2 J44 s (fun _=>O) (.inl O) O) ?_
  refine JLm (OW 1096 3 Slot.av (a++[b.Slot])) O ?_
  refine G4 (p ?_)
  refine G2 ?_
  refine JLg (I64 ((c+1:Nat):Int)) (Ht (H7 e a0) O O O) ?_
  refine JLm (I64 ((c+1:Nat):Int)) O ?_
  refine G4 ?_
  exact a2 _ _ (c+1) (a++[b.Slot]) (app1 o h) (by omega) ⟨(.sm O O),⟨⟨_,rfl,.same⟩,ø⟩,rfl⟩
 ·
  have h:=app1 g (Hm d (H6 hb))
  refine Hj ?_
  refine x ?_
  refine Jr fun t=>?_
  refine JLm (OW 1096 3 Slot.av a) O ?_
  refine JLm (OW 1096 3 Slot.av a) O ?_
  refine G4 (t ?_)
  refine Gw ?_
  exact fin1l (fun r:(List Slot)=>(Ec r:AV)) h

def Yc (s:List Int) (v:Int):Option Int:=
 each (fun b c (d:Unit) a=>
  bif decide (v=b) then
  (some (c:Int))
  else
  (a ()))
 (fun(d:Unit)=>
  some (-1)) s 0 ()
theorem H30 (s:List Int) (v:Int) (r:Int) (h:Yc s v=some r):Pure Em 113 [Ed s,U8 v] (·=I64 r):=by
 unfold Yc at h
 refine H5 [.tmp 4] Tryz.func113 O O ?_
 refine Jr fun w=>?_
 refine JLm (I64 0) O ?_
 refine G4 (w ?_)
 refine Js fun x=>?_
 refine Jr fun z=>?_
 refine JLm (Ed s) O ?_
 refine JLl Ze O O O fun a0=>?_
 refine JLm (I64 0) O ?_
 refine G4 (z ?_)
 refine Gi ?_
 obtain⟨a1,i,j,g,h⟩:=Hu h
 refine Hf (fun a (b:Unit)=>each a1 i (List.drop a s) a b=some r) (fun a b=>[(0,Ed s),(1,U8 v),(7,Ek s.length),(8,Ek a)]) (fun a b=>[]) (fun a=>s.length - a) 0 () h ⟨(.sm O O),ø,rfl⟩ ?_
 clear h
 intro a b d a4 a2
 refine Jr fun k=>?_
 refine JLg (BL (decide ((a:Int) < (s.length:Int)))) (J8 O O O) ?_
 refine G4 (k ?_)
 refine Js fun l=>?_
 refine Gj O (fun hb=>?_) (fun hb=>?_)
 ·
  have e:=Jh hb
  obtain⟨c,a3,m,n,h⟩:=Hk d e
  replace h:=Rh j h
  refine Gn ?_
  refine l ?_
  refine Js fun o=>?_
  refine Gi ?_
  refine Jr fun p=>?_
  refine JLm (Ek a) O ?_
  refine JLm (Ek a) O ?_
  refine G4 (p ?_)
  refine Jr fun q=>?_
  refine JLm (U8 v) O ?_
  refine JLm (Ed s) O ?_
  refine JLm (Ek a) O ?_
  refine JLg (.dptr [U8 c]) (H0 (f:=U8) (xs:=s) (y:=c) O O O Ze m O) ?_
  refine JLg (U8 c) (Ge Hz O O O) ?_
  refine JLg (BL (decide (v=c))) (Qn O O O) ?_
  refine G4 (q ?_)
  refine JCc O h ?_ ?_<;>intro h hb
  ·
   refine Jr fun t=>?_
   refine JLm (Ek a) O ?_
   refine JLm (Ek a) O ?_
   refine G4 (t ?_)
   refine Gw ?_
   exact fin1 I64 h
  ·
   refine Gn ?_
   refine o ?_
   refine G2 ?_
   refine JLg (I64 ((a+1:Nat):Int)) (Ht (H7 e a0) O O O) ?_
   refine JLm (I64 ((a+1:Nat):Int)) O ?_
   refine G4 ?_
   exact a2 _ _ (a+1) () (app1 n h) (by omega) ⟨(.sm O O),ø,rfl⟩
 ·
  have h:=app1 g (Hm d (H6 hb))
  refine Hj ?_
  refine x ?_
  refine Jr fun u=>?_
  refine JLm (I64 (-1)) O ?_
  refine G4 (u ?_)
  refine Gw ?_
  exact fin1 I64 h

def Rb (s:List Int) (v:Int):Option Bool:=
 bnd (Yc s v) fun a=>
 some (decide (0≤a))
theorem Ge1 (s:List Int) (v:Int) (r:Bool) (h:Rb s v=some r):Pure Em 74 [Ed s,U8 v] (·=BL r):=by
 unfold Rb at h
 refine H5 [.tmp 4] Tryz.func74 O O ?_
 refine Jr fun b=>?_
 refine JLm (BL false) O ?_
 refine G4 (b ?_)
 refine Jr fun c=>?_
 refine JLm (Ed s) O ?_
 refine JLm (U8 v) O ?_
 obtain⟨a,d,h⟩:=Gg h
 refine JLg (I64 a) (H2 O (H30 s v a d) Q27 ⟨O,O,O,O,ø⟩) ?_
 refine JLg (BL (decide (0≤a))) (Gdd O O O) ?_
 refine JLm (BL (decide (0≤a))) O ?_
 refine G4 (c ?_)
 refine Gw ?_
 exact fin1 BL h

def G74 (s:Gf) (x:Slot) (size:Int):Option Bool:=
 bnd (bif (((decide (0≤x.G6))&&(decide (x.G6 < (s.Columns.length:Int))))&&(decide (0≤x.Tier))) then Ju s.Columns x.G6 some else some default) fun a=>
 bnd (bif ((((decide (0≤x.G6))&&(decide (x.G6 < (s.Columns.length:Int))))&&(decide (0≤x.Tier)))&&(decide (x.Tier < a.Tiers))) then Zz size else some default) fun b=>
 bnd (bif ((((decide (0≤x.G6))&&(decide (x.G6 < (s.Columns.length:Int))))&&(decide (0≤x.Tier)))&&(decide (x.Tier < a.Tiers))) then Rb b x.Half else some default) fun c=>
 some (((((decide (0≤x.G6))&&(decide (x.G6 < (s.Columns.length:Int))))&&(decide (0≤x.Tier)))&&(decide (x.Tier < a.Tiers)))&&c)
theorem J83 (s:Gf) (x:Slot) (size:Int) (r:Bool) (h:G74 s x size=some r):Pure Em 38 [.agg (Gf.cs s),.agg [I64 x.G6,I64 x.Tier,U8 x.Half],U8 size] (·=BL r):=by
 unfold G74 at h
 refine H5 [.tmp 6] Tryz.func38 O O ?_
 refine Jr fun d=>?_
 refine JLg (.ptr 1098 0) (Jt (cs:=(Gf.cs s)) 1098 O O O O O) ?_
 refine JLg (.ptr 1099 0) (Jt (cs:=[I64 x.G6,I64 x.Tier,U8 x.Half]) 1099 O O O O O) ?_
 refine JLm (BL false) O ?_
 refine G4 (d ?_)
 refine Gh [(2,U8 size),(3,Ef s),(4,.ptr 1099 0)] [(1099,.box 63 [I64 x.G6,I64 x.Tier,U8 x.Half])] 1098 rfl rfl rfl ⟨⟨_,rfl,.boxEq rfl rfl⟩,ø⟩ rfl (by exact⟨.conv (.same rfl),.ptr,.conv (.same rfl),ø⟩) ?_
 refine Gh [(2,U8 size),(3,Ef s),(4,.dptr [I64 x.G6,I64 x.Tier,U8 x.Half])] [] 1099 rfl rfl rfl ø rfl (by exact⟨.conv (.same rfl),.conv (.same rfl),.ptr,ø⟩) ?_
 refine Js fun e=>?_
 obtain⟨a,g,h⟩:=Gg h
 obtain⟨b,i,h⟩:=Gg h
 obtain⟨c,j,h⟩:=Gg h
 refine JC_d0 Q7 (by kernel_rfl) ?_
 refine Dq (.dptr [I64 x.G6,I64 x.Tier,U8 x.Half]) (Gb Jy O O O) O ?_
 refine Dq (I64 x.G6) (Ge G9 O O O) O ?_
 refine Dq (BL (decide (0≤x.G6))) (Gdd O O O) O ?_
 refine Dq (BL (decide (0≤x.G6))) (G5 O O) O ?_
 refine Do (.dptr [I64 x.G6,I64 x.Tier,U8 x.Half]) [] O .sct ø (fun hc=>Gb Jy O O O) O ?_
 refine Do (I64 x.G6) [11] O .sct ⟨Ua,ø⟩ (fun hc=>Ge G9 O O O) O ?_
 refine Do (Ef s) [] O .sct ø (fun hc=>Gb Ho O O O) O ?_
 refine Do (E7 s.Columns) [13] O .sct ⟨Ua,ø⟩ (fun hc=>Ge J2 O O O) O ?_
 refine Do (Ek s.Columns.length) [14] O .sct ⟨Ua,ø⟩ (fun hc=>G24 (f:=G6.av) (xs:=s.Columns) Hr O O) O ?_
 refine Do (BL (decide (x.G6 < (s.Columns.length:Int)))) [12,15] O .sct ⟨Ua,Ua,ø⟩ (fun hc=>J8 O O O) O ?_
 refine Dq (BL ((decide (0≤x.G6))&&(decide (x.G6 < (s.Columns.length:Int))))) (Rg O O O O) O ?_
 refine Dq (BL ((decide (0≤x.G6))&&(decide (x.G6 < (s.Columns.length:Int))))) (G5 O O) O ?_
 refine Do (.dptr [I64 x.Tier,U8 x.Half]) [] O .sct ø (fun hc=>Gb R6 O O O) O ?_
 refine Do (I64 x.Tier) [19] O .sct ⟨Ua,ø⟩ (fun hc=>Ge G9 O O O) O ?_
 refine Do (BL (decide (0≤x.Tier))) [20] O .sct ⟨Ua,ø⟩ (fun hc=>Gdd O O O) O ?_
 refine Dq (BL (((decide (0≤x.G6))&&(decide (x.G6 < (s.Columns.length:Int))))&&(decide (0≤x.Tier)))) (Rg O O O O) O ?_
 refine Dq (BL (((decide (0≤x.G6))&&(decide (x.G6 < (s.Columns.length:Int))))&&(decide (0≤x.Tier)))) (G5 O O) O ?_
 refine Do (.dptr [I64 x.Tier,U8 x.Half]) [] O .sct ø (fun hc=>Gb R6 O O O) O ?_
 refine Do (I64 x.Tier) [24] O .sct ⟨Ua,ø⟩ (fun hc=>Ge G9 O O O) O ?_
 refine Do (Ef s) [] O .sct ø (fun hc=>Gb Ho O O O) O ?_
 refine Do (E7 s.Columns) [26] O .sct ⟨Ua,ø⟩ (fun hc=>Ge J2 O O O) O ?_
 refine Do (.dptr [I64 x.G6,I64 x.Tier,U8 x.Half]) [] O .sct ø (fun hc=>Gb Jy O O O) O ?_
 refine Do (I64 x.G6) [28] O .sct ⟨Ua,ø⟩ (fun hc=>Ge G9 O O O) O ?_
 refine Do (Eh a) [27,29] O .sct ⟨Ua,Ua,ø⟩ (fun hc=>(match G05 (H9 hc g) with | ⟨_,hm_,hy_⟩=>H0 (f:=G6.av) (xs:=s.Columns) (y:=a) O O O Hr hy_ hm_)) O ?_
 refine Do (.dptr ((G6.cs a).drop 3)) [30] O .sct ⟨Ua,ø⟩ (fun hc=>Gb Rj O O O) O ?_
 refine Do (I64 a.Tiers) [31] O .sct ⟨Ua,ø⟩ (fun hc=>Ge G9 O O O) O ?_
 refine Do (BL (decide (x.Tier < a.Tiers))) [25,32] O .sct ⟨Ua,Ua,ø⟩ (fun hc=>J8 O O O) O ?_
 refine Dq (BL ((((decide (0≤x.G6))&&(decide (x.G6 < (s.Columns.length:Int))))&&(decide (0≤x.Tier)))&&(decide (x.Tier < a.Tiers)))) (Rg O O O O) O ?_
 refine Dq (BL ((((decide (0≤x.G6))&&(decide (x.G6 < (s.Columns.length:Int))))&&(decide (0≤x.Tier)))&&(decide (x.Tier < a.Tiers)))) (G5 O O) O ?_
 refine Do (U8 size) [] O .sct ø (fun hc=>G5 O O) O ?_
 refine Do (Ed b) [36] O .sct ⟨Ua,ø⟩ (fun hc=>H2 (args:=[U8 size]) O (H3a size b (H9 hc i)) J4e ⟨O,O,ø⟩) O ?_
 refine Do (.dptr [U8 x.Half]) [] O .sct ø (fun hc=>Gb R5 O O O) O ?_
 refine Do (U8 x.Half) [38] O .sct ⟨Ua,ø⟩ (fun hc=>Ge Hz O O O) O ?_
 refine Do (BL c) [37,39] O .sct ⟨Ua,Ua,ø⟩ (fun hc=>H2 (args:=[Ed b,U8 x.Half]) O (Ge1 b x.Half c (H9 hc j)) Q80 ⟨O,O,O,O,ø⟩) O ?_
 refine Dq (BL (((((decide (0≤x.G6))&&(decide (x.G6 < (s.Columns.length:Int))))&&(decide (0≤x.Tier)))&&(decide (x.Tier < a.Tiers)))&&c)) (Rg O O O O) O ?_
 refine Dq (BL (((((decide (0≤x.G6))&&(decide (x.G6 < (s.Columns.length:Int))))&&(decide (0≤x.Tier)))&&(decide (x.Tier < a.Tiers)))&&c)) (G7 O O) O ?_
 refine Dnil ?_
 refine e ?_
 refine Gw ?_
 exact fin1 BL h

def Rr (s:List Slot) (v:Slot):Option Int:=
 each (fun b c (d:Unit) a=>
  bif decide (v=b) then
  (some (c:Int))
  else
  (a ()))
 (fun(d:Unit)=>
  some (-1)) s 0 ()
theorem H01 (s:List Slot) (v:Slot) (r:Int) (h:Rr s v=some r):Pure Em 114 [Ec s,.agg [I64 v.G6,I64 v.Tier,U8 v.Half]] (·=I64 r):=by
 unfold Rr at h
 refine H5 [.tmp 4] Tryz.func114 O O ?_
 refine Jr fun w=>?_
 refine JLg (.ptr 1172 0) (Jt (cs:=[I64 v.G6,I64 v.Tier,U8 v.Half]) 1172 O O O O O) ?_
 refine JLm (I64 0) O ?_
 refine G4 (w ?_)
 refine Gh [(0,Ec s),(3,.dptr [I64 v.G6,I64 v.Tier,U8 v.Half])] [] 1172 rfl rfl rfl ø rfl (by exact⟨.conv (.same rfl),.ptr,ø⟩) ?_
 refine Js fun x=>?_
 refine Jr fun z=>?_
 refine JLm (Ec s) O ?_
 refine JLl R2 O O O fun a0=>?_
 refine JLm (I64 0) O ?_
 refine G4 (z ?_)
 refine Gi ?_
 obtain⟨a1,i,j,g,h⟩:=Hu h
 refine Hf (fun a (c:Unit)=>each a1 i (List.drop a s) a c=some r) (fun a c=>[(0,Ec s),(3,.dptr [I64 v.G6,I64 v.Tier,U8 v.Half]),(7,Ek s.length),(8,Ek a)]) (fun a c=>[]) (fun a=>s.length - a) 0 () h ⟨(.sm O O),ø,rfl⟩ ?_
 clear h
 intro a c d a4 a2
 refine Jr fun k=>?_
 refine JLg (BL (decide ((a:Int) < (s.length:Int)))) (J8 O O O) ?_
 refine G4 (k ?_)
 refine Js fun l=>?_
 refine Gj O (fun hb=>?_) (fun hb=>?_)
 ·
  have e:=Jh hb
  obtain⟨b,a3,m,n,h⟩:=Hk d e
  replace h:=Rh j h
  refine Gn ?_
  refine l ?_
  refine Js fun o=>?_
  refine Gi ?_
  refine Jr fun p=>?_
  refine JLm (Ek a) O ?_
  refine JLm (Ek a) O ?_
  refine G4 (p ?_)
  refine Js fun q=>?_
  refine JC_d0 Q7 (by kernel_rfl) ?_
  refine Dq (.agg [I64 v.G6,I64 v.Tier,U8 v.Half]) (Gk Jw O O O) O ?_
  refine Dq (Ec s) (G5 O O) O ?_
  refine Dq (Ek a) (G5 O O) O ?_
  refine Dq (Ej b) (H0 (f:=Slot.av) (xs:=s) (y:=b) O O O R2 m O) O ?_
  refine Dq (.agg (Slot.cs b)) (Gk Jw O O O) O ?_
  refine Dq (BL (decide (v=b))) (Qf2 (vs:=[.int .i64 v.G6,.int .i64 v.Tier,.int .u8 v.Half]) (us:=[.int .i64 b.G6,.int .i64 b.Tier,.int .u8 b.Half]) 4 O (Ra5 v b) J07 Jb2 O O O) O ?_
  refine Dnil ?_
  refine q ?_
  refine JCc O h ?_ ?_<;>intro h hb
  ·
   refine Jr fun t=>?_
   refine JLm (Ek a) O ?_
   refine JLm (Ek a) O ?_
   refine G4 (t ?_)
   refine Gw ?_
   exact fin1 I64 h
  ·
   refine Gn ?_
   refine o ?_
   refine G2 ?_
   refine JLg (I64 ((a+1:Nat):Int)) (Ht (H7 e a0) O O O) ?_
   refine JLm (I64 ((a+1:Nat):Int)) O ?_
   refine G4 ?_
   exact a2 _ _ (a+1) () (app1 n h) (by omega) ⟨(.sm O O),ø,rfl⟩
 ·
  have h:=app1 g (Hm d (H6 hb))
  refine Hj ?_
  refine x ?_
  refine Jr fun u=>?_
  refine JLm (I64 (-1)) O ?_
  refine G4 (u ?_)
  refine Gw ?_
  exact fin1 I64 h

def R0 (s:List Slot) (v:Slot):Option Bool:=
 bnd (Rr s v) fun a=>
 some (decide (0≤a))
theorem Gbc (s:List Slot) (v:Slot) (r:Bool) (h:R0 s v=some r):Pure Em 76 [Ec s,.agg [I64 v.G6,I64 v.Tier,U8 v.Half]] (·=BL r):=by
 unfold R0 at h
 refine H5 [.tmp 4] Tryz.func76 O O ?_
 refine Jr fun b=>?_
 refine JLg (.ptr 1144 0) (Jt (cs:=[I64 v.G6,I64 v.Tier,U8 v.Half]) 1144 O O O O O) ?_
 refine JLm (BL false) O ?_
 refine G4 (b ?_)
 refine Gh [(0,Ec s),(3,.dptr [I64 v.G6,I64 v.Tier,U8 v.Half])] [] 1144 rfl rfl rfl ø rfl (by exact⟨.conv (.same rfl),.ptr,ø⟩) ?_
 refine Jr fun c=>?_
 refine JLm (Ec s) O ?_
 refine JLg (.agg [I64 v.G6,I64 v.Tier,U8 v.Half]) (Gk Jw O O O) ?_
 obtain⟨a,d,h⟩:=Gg h
 refine JLg (I64 a) (H2 O (H01 s v a d) Q26 ⟨O,O,O,O,ø⟩) ?_
 refine JLg (BL (decide (0≤a))) (Gdd O O O) ?_
 refine JLm (BL (decide (0≤a))) O ?_
 refine G4 (c ?_)
 refine Gw ?_
 exact fin1 BL h

def G00 (half:Int) (b:List Slot) (a:Slot):Option Bool:=
 chk (a.Tier - 1) fun c=>
 bnd (R0 b (Slot.mk a.G6 c half)) fun d=>
 some d
theorem Gaf (half:Int) (b:List Slot) (a:Slot) (r:Bool) (h:G00 half b a=some r):Pure Em 75 [U8 half,.dptr [Ec b],.dptr [I64 a.G6,I64 a.Tier,U8 a.Half]] (·=BL r):=by
 unfold G00 at h
 refine H5 [.tmp 4] Tryz.func75 O O ?_
 refine Jr fun e=>?_
 refine JLm (BL false) O ?_
 refine G4 (e ?_)
 refine Jr fun f=>?_
 refine JLg (Ec b) (Ge H1d O O O) ?_
 refine JLg (.dptr [I64 a.G6,I64 a.Tier,U8 a.Half]) (Gb Jy O O O) ?_
 refine JLg (I64 a.G6) (Ge G9 O O O) ?_
 refine JLg (.dptr [I64 a.Tier,U8 a.Half]) (Gb R6 O O O) ?_
 refine JLg (I64 a.Tier) (Ge G9 O O O) ?_
 obtain⟨c,g,h⟩:=Hx h
 refine JLg (I64 c) (Gf6 g O O O) ?_
 refine JLm (U8 half) O ?_
 refine JLg (.agg [I64 a.G6,I64 c,U8 half]) (J9 (cs:=[I64 a.G6,I64 c,U8 half]) [(0,1),(1,1),(2,1)] [I64 0,I64 0,U8 0] [E0,E0,.int .u8 0] G64 G80 (zzQ O) O O) ?_
 obtain⟨d,i,h⟩:=Gg h
 refine JLg (BL d) (H2 O (Gbc b (Slot.mk a.G6 c half) d i) Q7f ⟨O,O,O,O,ø⟩) ?_
 refine JLm (BL d) O ?_
 refine G4 (f ?_)
 refine Gw ?_
 exact fin1 BL h

def Ga4 (x:Slot) (l:List Slot):Option Bool:=
 bif decide (x.Tier≤0) then
 (some true)
 else
 (bnd (G00 x.Half l x) fun a=>
  bnd (bif ((!a)&&(decide (x.Half=0))) then G00 1 l x else some default) fun b=>
  bnd (bif ((!a)&&((decide (x.Half=0))&&b)) then G00 2 l x else some default) fun c=>
  some (a||(((decide (x.Half=0))&&b)&&c)))
abbrev Ep (l:List Slot) (x:Slot):List AV:=[.dptr [Ec l],.dptr [I64 x.G6,I64 x.Tier,U8 x.Half]]
theorem Ja8 (x:Slot) (l:List Slot) (r:Bool) (h:Ga4 x l=some r):Pure Em 39 [.agg [I64 x.G6,I64 x.Tier,U8 x.Half],Ec l] (·=BL r):=by
 unfold Ga4 at h
 refine H5 [.tmp 4] Tryz.func39 O O ?_
 refine Jr fun d=>?_
 refine JLg (.ptr 1100 0) (Jt (cs:=[I64 x.G6,I64 x.Tier,U8 x.Half]) 1100 O O O O O) ?_
 refine JLg (.ptr 1101 0) (Jt (cs:=[Ec l]) 1101 O O O O O) ?_
 refine JLm (BL false) O ?_
 refine G4 (d ?_)
 refine Gh [(2,.dptr [I64 x.G6,I64 x.Tier,U8 x.Half]),(3,.ptr 1101 0)] [(1101,.box 60 [Ec l])] 1100 rfl rfl rfl ⟨⟨_,rfl,.boxEq rfl rfl⟩,ø⟩ rfl (by exact⟨.ptr,.conv (.same rfl),ø⟩) ?_
 refine Gh [(2,.dptr [I64 x.G6,I64 x.Tier,U8 x.Half]),(3,.dptr [Ec l])] [] 1101 rfl rfl rfl ø rfl (by exact⟨.conv (.same rfl),.ptr,ø⟩) ?_
 refine Js fun e=>?_
 refine Jr fun f=>?_
 refine JLg (.dptr [I64 x.Tier,U8 x.Half]) (Gb R6 O O O) ?_
 refine JLg (I64 x.Tier) (Ge G9 O O O) ?_
 refine JLg (BL (decide (x.Tier≤0))) (Gf7 O O O) ?_
 refine G4 (f ?_)
 refine JCc O h ?_ ?_<;>intro h hb
 ·
  refine Jr fun g=>?_
  refine JLm (BL true) O ?_
  refine G4 (g ?_)
  refine Gw ?_
  exact fin1 BL h
 ·
  refine Gn ?_
  refine e ?_
  refine Jr fun i=>?_
  refine JLg (.fn 75 (Ep l x)) (Y4 (cs:=(Ep l x)) O O) ?_
  refine JLm (.fn 75 (Ep l x)) O ?_
  refine G4 (i ?_)
  refine Jr fun j=>?_
  refine JLm (.fn 75 (Ep l x)) O ?_
  refine JLg (.dptr [U8 x.Half]) (Gb R5 O O O) ?_
  refine JLg (U8 x.Half) (Ge Hz O O O) ?_
  obtain⟨b,k,h⟩:=Gg h
  refine JLg (BL b) (G0c (args:=[U8 x.Half]) (caps:=(Ep l x)) O O (Gaf x.Half l x b k) H90 ⟨O,O,ø⟩ O) ?_
  refine JLm (BL b) O ?_
  refine JLo (.dptr [U8 x.Half]) [] O .scf ø (fun hc=>Gb R5 O O O) O ?_
  refine JLo (U8 x.Half) [15] O .scf ⟨Ua,ø⟩ (fun hc=>Ge Hz O O O) O ?_
  refine JLo (BL (decide (x.Half=0))) [16] O .scf ⟨Ua,ø⟩ (fun hc=>Qn O O O) O ?_
  refine JLo (BL (decide (x.Half=0))) [17] O .scf ⟨Ua,ø⟩ (fun hc=>G5 O O) O ?_
  refine JLo (.fn 75 (Ep l x)) [] O .optt ø (fun hc=>G5 O O) O ?_
  obtain⟨a,m,h⟩:=Gg h
  refine JLo (BL a) [19] O .optt ⟨Ua,ø⟩ (fun hc=>G0c (args:=[U8 1]) (caps:=(Ep l x)) O O (Gaf 1 l x a (H9 hc m)) H90 ⟨O,O,ø⟩ O) O ?_
  refine Gc (u:=BL ((decide (x.Half=0))&&a)) [(18,BL (decide (x.Half=0))),(20,_)] O O O .scf ⟨.all id,.part,ø⟩ (fun hc=>Rg O O O O) ?_
  refine JLo (BL ((decide (x.Half=0))&&a)) [21] O .scf ⟨Ua,ø⟩ (fun hc=>G5 O O) O ?_
  refine JLo (.fn 75 (Ep l x)) [] O .optt ø (fun hc=>G5 O O) O ?_
  obtain⟨c,n,h⟩:=Gg h
  refine JLo (BL c) [23] O .optt ⟨Ua,ø⟩ (fun hc=>G0c (args:=[U8 2]) (caps:=(Ep l x)) O O (Gaf 2 l x c (H9 hc n)) H90 ⟨O,O,ø⟩ O) O ?_
  refine Gc (u:=BL (((decide (x.Half=0))&&a)&&c)) [(22,BL ((decide (x.Half=0))&&a)),(24,_)] O O O .scf ⟨.all id,.part,ø⟩ (fun hc=>Rg O O O O) ?_
  refine JLg (BL (b||(((decide (x.Half=0))&&a)&&c))) (G18 O O O O) ?_
  refine JLm (BL (b||(((decide (x.Half=0))&&a)&&c))) O ?_
  refine G4 (j ?_)
  refine Gw ?_
  exact fin1 BL h

def G23 (a:Int) (b:Int):Option Bool:=
 some (((decide (a=b))||(decide (a=0)))||(decide (b=0)))
theorem H39 (a:Int) (b:Int) (r:Bool) (h:G23 a b=some r):Pure Em 77 [U8 a,U8 b] (·=BL r):=by
 unfold G23 at h
 refine H5 [.tmp 4] Tryz.func77 O O ?_
 refine Jr fun c=>?_
 refine JLm (BL false) O ?_
 refine G4 (c ?_)
 refine Jr fun d=>?_
 refine JLm (U8 a) O ?_
 refine JLm (U8 b) O ?_
 refine JLg (BL (decide (a=b))) (Qn O O O) ?_
 refine JLm (BL (decide (a=b))) O ?_
 refine JLo (U8 a) [] O .scf ø (fun hc=>G5 O O) O ?_
 refine JLo (BL (decide (a=0))) [9] O .scf ⟨Ua,ø⟩ (fun hc=>Qn O O O) O ?_
 refine JLg (BL ((decide (a=b))||(decide (a=0)))) (G18 O O O O) ?_
 refine JLm (BL ((decide (a=b))||(decide (a=0)))) O ?_
 refine JLo (U8 b) [] O .scf ø (fun hc=>G5 O O) O ?_
 refine JLo (BL (decide (b=0))) [13] O .scf ⟨Ua,ø⟩ (fun hc=>Qn O O O) O ?_
 refine JLg (BL (((decide (a=b))||(decide (a=0)))||(decide (b=0)))) (G18 O O O O) ?_
 refine JLm (BL (((decide (a=b))||(decide (a=0)))||(decide (b=0)))) O ?_
 refine G4 (d ?_)
 refine Gw ?_
 exact fin1 BL h

def Ga3 (a:Slot) (b:Slot):Option Bool:=
 bnd (bif ((decide (a.G6=b.G6))&&(decide (a.Tier=b.Tier))) then G23 a.Half b.Half else some default) fun c=>
 some (((decide (a.G6=b.G6))&&(decide (a.Tier=b.Tier)))&&c)
theorem Ja7 (a:Slot) (b:Slot) (r:Bool) (h:Ga3 a b=some r):Pure Em 40 [.agg [I64 a.G6,I64 a.Tier,U8 a.Half],.agg [I64 b.G6,I64 b.Tier,U8 b.Half]] (·=BL r):=by
 unfold Ga3 at h
 refine H5 [.tmp 4] Tryz.func40 O O ?_
 refine Jr fun d=>?_
 refine JLg (.ptr 1102 0) (Jt (cs:=[I64 a.G6,I64 a.Tier,U8 a.Half]) 1102 O O O O O) ?_
 refine JLg (.ptr 1103 0) (Jt (cs:=[I64 b.G6,I64 b.Tier,U8 b.Half]) 1103 O O O O O) ?_
 refine JLm (BL false) O ?_
 refine G4 (d ?_)
 refine Gh [(2,.dptr [I64 a.G6,I64 a.Tier,U8 a.Half]),(3,.ptr 1103 0)] [(1103,.box 63 [I64 b.G6,I64 b.Tier,U8 b.Half])] 1102 rfl rfl rfl ⟨⟨_,rfl,.boxEq rfl rfl⟩,ø⟩ rfl (by exact⟨.ptr,.conv (.same rfl),ø⟩) ?_
 refine Gh [(2,.dptr [I64 a.G6,I64 a.Tier,U8 a.Half]),(3,.dptr [I64 b.G6,I64 b.Tier,U8 b.Half])] [] 1103 rfl rfl rfl ø rfl (by exact⟨.conv (.same rfl),.ptr,ø⟩) ?_
 refine Jr fun e=>?_
 refine JLg (.dptr [I64 a.G6,I64 a.Tier,U8 a.Half]) (Gb Jy O O O) ?_
 refine JLg (I64 a.G6) (Ge G9 O O O) ?_
 refine JLg (.dptr [I64 b.G6,I64 b.Tier,U8 b.Half]) (Gb Jy O O O) ?_
 refine JLg (I64 b.G6) (Ge G9 O O O) ?_
 refine JLg (BL (decide (a.G6=b.G6))) (Qn O O O) ?_
 refine JLm (BL (decide (a.G6=b.G6))) O ?_
 refine JLo (.dptr [I64 a.Tier,U8 a.Half]) [] O .sct ø (fun hc=>Gb R6 O O O) O ?_
 refine JLo (I64 a.Tier) [11] O .sct ⟨Ua,ø⟩ (fun hc=>Ge G9 O O O) O ?_
 refine JLo (.dptr [I64 b.Tier,U8 b.Half]) [] O .sct ø (fun hc=>Gb R6 O O O) O ?_
 refine JLo (I64 b.Tier) [13] O .sct ⟨Ua,ø⟩ (fun hc=>Ge G9 O O O) O ?_
 refine JLo (BL (decide (a.Tier=b.Tier))) [12,14] O .sct ⟨Ua,Ua,ø⟩ (fun hc=>Qn O O O) O ?_
 refine JLg (BL ((decide (a.G6=b.G6))&&(decide (a.Tier=b.Tier)))) (Rg O O O O) ?_
 refine JLm (BL ((decide (a.G6=b.G6))&&(decide (a.Tier=b.Tier)))) O ?_
 refine JLo (.dptr [U8 a.Half]) [] O .sct ø (fun hc=>Gb R5 O O O) O ?_
 refine JLo (U8 a.Half) [18] O .sct ⟨Ua,ø⟩ (fun hc=>Ge Hz O O O) O ?_
 refine JLo (.dptr [U8 b.Half]) [] O .sct ø (fun hc=>Gb R5 O O O) O ?_
 refine JLo (U8 b.Half) [20] O .sct ⟨Ua,ø⟩ (fun hc=>Ge Hz O O O) O ?_
 obtain⟨c,f,h⟩:=Gg h
 refine JLo (BL c) [19,21] O .sct ⟨Ua,Ua,ø⟩ (fun hc=>H2 (args:=[U8 a.Half,U8 b.Half]) O (H39 a.Half b.Half c (H9 hc f)) J4d ⟨O,O,O,O,ø⟩) O ?_
 refine JLg (BL (((decide (a.G6=b.G6))&&(decide (a.Tier=b.Tier)))&&c)) (Rg O O O O) ?_
 refine JLm (BL (((decide (a.G6=b.G6))&&(decide (a.Tier=b.Tier)))&&c)) O ?_
 refine G4 (e ?_)
 refine Gw ?_
 exact fin1 BL h

def Ga0 (b:Box):Option Int:=
 bif b.High then
 (some 2896)
 else
 (some 2591)
theorem Ja4 (b:Box) (r:Int) (h:Ga0 b=some r):Pure Em 115 [.agg (Box.cs b)] (·=I64 r):=by
 unfold Ga0 at h
 refine H5 [.tmp 2] Tryz.func115 O O ?_
 refine Jr fun a=>?_
 refine JLg (.ptr 1173 0) (Jt (cs:=(Box.cs b)) 1173 O O O O O) ?_
 refine JLm (I64 0) O ?_
 refine G4 (a ?_)
 refine Gh [(1,Ei b)] [] 1173 rfl rfl rfl ø rfl (by exact⟨.ptr,ø⟩) ?_
 refine Js fun c=>?_
 refine Jr fun d=>?_
 refine JLg (.dptr ((Box.cs b).drop 3)) (Gb Gfa O O O) ?_
 refine JLg (BL b.High) (Ge Ra O O O) ?_
 refine G4 (d ?_)
 refine JCc O h ?_ ?_<;>intro h hb
 ·
  refine Jr fun e=>?_
  refine JLm (I64 2896) O ?_
  refine G4 (e ?_)
  refine Gw ?_
  exact fin1 I64 h
 ·
  refine Gn ?_
  refine c ?_
  refine Jr fun f=>?_
  refine JLm (I64 2591) O ?_
  refine G4 (f ?_)
  refine Gw ?_
  exact fin1 I64 h

def G22 (boxes:List Box) (l:List G1) (column:Int) (half:Int):Option Int:=
 each (fun c i (a:Int) e=>
  jp (fun b=>
   bif ((decide (c.Slot.G6=column))&&((decide (c.Slot.Half=half))||(decide (c.Slot.Half=0)))) then
   (bnd (G2f boxes c.Box) fun d=>
    bif d.2 then
    (bnd (Ga0 d.1) fun f=>
     chk (a+f) fun g=>
     b g)
    else
    (b a))
   else
   (b a)) fun(h:Int)=>
  e h)
 (fun(a:Int)=>
  some a) l 0 0
theorem H38 (boxes:List Box) (l:List G1) (column:Int) (half:Int) (r:Int) (h:G22 boxes l column half=some r):Pure Em 78 [E6 boxes,E4 l,I64 column,U8 half] (·=I64 r):=by
 unfold G22 at h
 refine H5 [.tmp 8] Tryz.func78 O O ?_
 refine Jr fun a7=>?_
 refine JLm (I64 0) O ?_
 refine G4 (a7 ?_)
 refine Jr fun a8=>?_
 refine JLm (I64 0) O ?_
 refine G4 (a8 ?_)
 refine Js fun a9=>?_
 refine Jr fun b0=>?_
 refine JLm (E4 l) O ?_
 refine JLl H3 O O O fun o=>?_
 refine JLm (I64 0) O ?_
 refine G4 (b0 ?_)
 refine Gi ?_
 obtain⟨b1,p,q,k,h⟩:=Hu h
 refine Hf (fun b (d:Int)=>each b1 p (List.drop b l) b d=some r) (fun b d=>[(0,E6 boxes),(2,I64 column),(3,U8 half),(9,I64 d),(14,E4 l),(15,Ek l.length),(16,Ek b)]) (fun b d=>[]) (fun b=>l.length - b) 0 0 h ⟨(.sm O O),ø,rfl⟩ ?_
 clear h
 intro b d g b4 b2
 refine Jr fun s=>?_
 refine JLg (BL (decide ((b:Int) < (l.length:Int)))) (J8 O O O) ?_
 refine G4 (s ?_)
 refine Js fun t=>?_
 refine Gj O (fun hb=>?_) (fun hb=>?_)
 ·
  have i:=Jh hb
  obtain⟨a,b3,v,w,h⟩:=Hk g i
  replace h:=Rh q h
  refine Gn ?_
  refine t ?_
  obtain⟨x,m,h⟩:=Qr h
  refine Q0 (fun e:Int=>x e=some r) (fun e=>[(0,E6 boxes),(2,I64 column),(3,U8 half),(9,I64 e),(14,E4 l),(15,Ek l.length),(16,Ek b)]) (fun e=>[]) (fun Kj30 ej30=>?_) ?_
  ·
   refine Gi ?_
   refine Jr fun z=>?_
   refine JLg (Eg a) (H0 (f:=G1.av) (xs:=l) (y:=a) O O O H3 v O) ?_
   refine JLg (.agg (G1.cs a)) (Gk Qb O O O) ?_
   refine JLg (.ptr 1145 0) (Hg 1145 4 Q2 O O) ?_
   refine Hd (u:=.junk) (Gy (u:=.agg (G1.cs a)) (ds:=[I64 a.Box,I64 a.Slot.G6,I64 a.Slot.Tier,U8 a.Slot.Half]) Y1 O O O O O O O O) ?_
   refine G4 (z ?_)
   refine fzQ [(0,E6 boxes),(2,I64 column),(3,U8 half),(9,I64 d),(11,Eg a),(14,E4 l),(15,Ek l.length),(16,Ek b)] [] 1145 rfl rfl rfl ø rfl ?_
   refine Jr fun a0=>?_
   refine JLg (.dptr ((G1.cs a).drop 1)) (Gb Jx O O O) ?_
   refine JLg (.dptr ((G1.cs a).drop 1)) (Gb Jy O O O) ?_
   refine JLg (I64 a.Slot.G6) (Ge G9 O O O) ?_
   refine JLm (I64 column) O ?_
   refine JLg (BL (decide (a.Slot.G6=column))) (Qn O O O) ?_
   refine JLm (BL (decide (a.Slot.G6=column))) O ?_
   refine JLo (.dptr ((G1.cs a).drop 1)) [] O .sct ø (fun hc=>Gb Jx O O O) O ?_
   refine JLo (.dptr [U8 a.Slot.Half]) [26] O .sct ⟨Ua,ø⟩ (fun hc=>Gb R5 O O O) O ?_
   refine JLo (U8 a.Slot.Half) [27] O .sct ⟨Ua,ø⟩ (fun hc=>Ge Hz O O O) O ?_
   refine JLo (U8 half) [] O .sct ø (fun hc=>G5 O O) O ?_
   refine JLo (BL (decide (a.Slot.Half=half))) [28,29] O .sct ⟨Ua,Ua,ø⟩ (fun hc=>Qn O O O) O ?_
   refine JLo (BL (decide (a.Slot.Half=half))) [30] O .sct ⟨Ua,ø⟩ (fun hc=>G5 O O) O ?_
   refine JLo (.dptr ((G1.cs a).drop 1)) [] O .optf ø (fun hc=>Gb Jx O O O) O ?_
   refine JLo (.dptr [U8 a.Slot.Half]) [32] O .optf ⟨Ua,ø⟩ (fun hc=>Gb R5 O O O) O ?_
   refine JLo (U8 a.Slot.Half) [33] O .optf ⟨Ua,ø⟩ (fun hc=>Ge Hz O O O) O ?_
   refine JLo (BL (decide (a.Slot.Half=0))) [34] O .optf ⟨Ua,ø⟩ (fun hc=>Qn O O O) O ?_
   refine Gc (u:=BL ((decide (a.Slot.Half=half))||(decide (a.Slot.Half=0)))) [(31,BL (decide (a.Slot.Half=half))),(35,_)] O O O .sct ⟨.all id,.part,ø⟩ (fun hc=>G18 O O O O) ?_
   refine JLg (BL ((decide (a.Slot.G6=column))&&((decide (a.Slot.Half=half))||(decide (a.Slot.Half=0))))) (Rg O O O O) ?_
   refine G4 (a0 ?_)
   refine JCc O h ?_ ?_<;>intro h hb
   ·
    refine Jr fun a1=>?_
    refine JLm (E6 boxes) O ?_
    refine JLg (Eg a) (Gb Jn O O O) ?_
    refine JLg (I64 a.Box) (Ge G9 O O O) ?_
    obtain⟨c,a2,h⟩:=Gg h
    refine JLg (.tup [.agg (Box.cs c.1),BL c.2]) (H2 O (H00 boxes a.Box c a2) H92 ⟨O,O,O,O,ø⟩) ?_
    refine JLm (.tup [.agg (Box.cs c.1),BL c.2]) O ?_
    refine JLg (.agg (Box.cs c.1)) (Hp O O O) ?_
    refine JLg (BL c.2) (Hp O O O) ?_
    refine JLg (.ptr 1146 0) (Hg 1146 9 Qq O O) ?_
    refine Hd (u:=.junk) (Gy (u:=.agg (Box.cs c.1)) (ds:=(Box.cs c.1)) Y2 O O O O O O O O) ?_
    refine JLm (BL c.2) O ?_
    refine G4 (a1 ?_)
    refine fzQ [(0,E6 boxes),(2,I64 column),(3,U8 half),(9,I64 d),(12,Ei c.1),(13,BL c.2),(14,E4 l),(15,Ek l.length),(16,Ek b)] [] 1146 rfl rfl rfl ø rfl ?_
    refine Jr fun a3=>?_
    refine JLm (BL c.2) O ?_
    refine G4 (a3 ?_)
    refine JCc O h ?_ ?_<;>intro h hb
    ·
     refine G2 ?_
     refine JLm (I64 d) O ?_
     refine JLg (.agg (Box.cs c.1)) (Gk Ye O O O) ?_
     obtain⟨n,a4,h⟩:=Gg h
     refine JLg (I64 n) (H2 O (Ja4 c.1 n a4) Q25 ⟨O,O,ø⟩) ?_
     obtain⟨j,a5,h⟩:=Hx h
     refine JLg (I64 j) (Ht a5 O O O) ?_
     refine JLm (I64 j) O ?_
     refine G4 ?_
     exact ej30 _ _ j h ⟨(.sm O O),ø,rfl⟩
    ·
     refine Gn ?_
     exact ej30 _ _ d h ⟨(.sm O O),ø,rfl⟩
   ·
    refine Gn ?_
    exact ej30 _ _ d h ⟨(.sm O O),ø,rfl⟩
  ·intro e h
   replace h:=app1 m h
   refine G2 ?_
   refine JLg (I64 ((b+1:Nat):Int)) (Ht (H7 i o) O O O) ?_
   refine JLm (I64 ((b+1:Nat):Int)) O ?_
   refine G4 ?_
   exact b2 _ _ (b+1) e (app1 w h) (by omega) ⟨(.sm O O),ø,rfl⟩
 ·
  have h:=app1 k (Hm g (H6 hb))
  refine Hj ?_
  refine a9 ?_
  refine Jr fun a6=>?_
  refine JLm (I64 d) O ?_
  refine JLm (I64 d) O ?_
  refine G4 (a6 ?_)
  refine Gw ?_
  exact fin1 I64 h

def Ga1 (s:Gf) (boxes:List Box) (l:List G1) (column:Int):Option Bool:=
 Ju s.Columns column fun a=>
 bnd (bif (!(decide (a.Height≤0))) then G22 boxes l column 1 else some default) fun b=>
 bnd (bif ((!(decide (a.Height≤0)))&&(decide (b≤a.Height))) then G22 boxes l column 2 else some default) fun c=>
 some ((decide (a.Height≤0))||((decide (b≤a.Height))&&(decide (c≤a.Height))))
theorem Ja5 (s:Gf) (boxes:List Box) (l:List G1) (column:Int) (r:Bool) (h:Ga1 s boxes l column=some r):Pure Em 41 [.agg (Gf.cs s),E6 boxes,E4 l,I64 column] (·=BL r):=by
 unfold Ga1 at h
 refine H5 [.tmp 8] Tryz.func41 O O ?_
 refine Jr fun d=>?_
 refine JLg (.ptr 1104 0) (Jt (cs:=(Gf.cs s)) 1104 O O O O O) ?_
 refine JLm (BL false) O ?_
 refine G4 (d ?_)
 refine fzQ [(1,E6 boxes),(2,E4 l),(3,I64 column),(4,Ef s)] [] 1104 rfl rfl rfl ø rfl ?_
 refine Jr fun e=>?_
 refine JLg (Ef s) (Gb Ho O O O) ?_
 refine JLg (E7 s.Columns) (Ge J2 O O O) ?_
 refine JLm (I64 column) O ?_
 obtain⟨n,a,g,i,h⟩:=Qc h
 refine JLg (Eh a) (H0 (f:=G6.av) (xs:=s.Columns) (y:=a) O O O Hr i g) ?_
 refine JLg (.dptr ((G6.cs a).drop 4)) (Gb H82 O O O) ?_
 refine JLg (I64 a.Height) (Ge G9 O O O) ?_
 refine JLm (I64 a.Height) O ?_
 refine G4 (e ?_)
 refine Jr fun j=>?_
 refine JLm (I64 a.Height) O ?_
 refine JLg (BL (decide (a.Height≤0))) (Gf7 O O O) ?_
 refine JLm (BL (decide (a.Height≤0))) O ?_
 refine JLo (E6 boxes) [] O .scf ø (fun hc=>G5 O O) O ?_
 refine JLo (E4 l) [] O .scf ø (fun hc=>G5 O O) O ?_
 refine JLo (I64 column) [] O .scf ø (fun hc=>G5 O O) O ?_
 obtain⟨b,k,h⟩:=Gg h
 refine JLo (I64 b) [19,20,21] O .scf ⟨Ua,Ua,Ua,ø⟩ (fun hc=>H2 (args:=[E6 boxes,E4 l,I64 column,U8 1]) O (H38 boxes l column 1 b (H9 hc k)) J4c ⟨O,O,O,O,O,O,O,O,ø⟩) O ?_
 refine JLo (I64 a.Height) [] O .scf ø (fun hc=>G5 O O) O ?_
 refine JLo (BL (decide (b≤a.Height))) [22,23] O .scf ⟨Ua,Ua,ø⟩ (fun hc=>Gf7 O O O) O ?_
 refine JLo (BL (decide (b≤a.Height))) [24] O .scf ⟨Ua,ø⟩ (fun hc=>G5 O O) O ?_
 refine JLo (E6 boxes) [] O .optt ø (fun hc=>G5 O O) O ?_
 refine JLo (E4 l) [] O .optt ø (fun hc=>G5 O O) O ?_
 refine JLo (I64 column) [] O .optt ø (fun hc=>G5 O O) O ?_
 obtain⟨c,m,h⟩:=Gg h
 refine JLo (I64 c) [26,27,28] O .optt ⟨Ua,Ua,Ua,ø⟩ (fun hc=>H2 (args:=[E6 boxes,E4 l,I64 column,U8 2]) O (H38 boxes l column 2 c (H9 hc m)) J4c ⟨O,O,O,O,O,O,O,O,ø⟩) O ?_
 refine JLo (I64 a.Height) [] O .optt ø (fun hc=>G5 O O) O ?_
 refine JLo (BL (decide (c≤a.Height))) [29,30] O .optt ⟨Ua,Ua,ø⟩ (fun hc=>Gf7 O O O) O ?_
 refine Gc (u:=BL ((decide (b≤a.Height))&&(decide (c≤a.Height)))) [(25,BL (decide (b≤a.Height))),(31,_)] O O O .scf ⟨.all id,.part,ø⟩ (fun hc=>Rg O O O O) ?_
 refine JLg (BL ((decide (a.Height≤0))||((decide (b≤a.Height))&&(decide (c≤a.Height))))) (G18 O O O O) ?_
 refine JLm (BL ((decide (a.Height≤0))||((decide (b≤a.Height))&&(decide (c≤a.Height))))) O ?_
 refine G4 (j ?_)
 refine Gw ?_
 exact fin1 BL h

def Qw (s:Gf) (boxes:List Box) (l:List G1):Option Bool:=
 bnd (Qu s) fun v=>
 bif (!v) then
 (some false)
 else
 (bnd (G72 l) fun f=>
  each (fun a b (j:Unit) g=>
   bnd (G2f boxes a.Box) fun c=>
   bnd (bif ((!(!c.2))&&(decide (0 < (b:Int)))) then chk ((b:Int) - 1) some else some 0) fun k=>
   bnd (bif ((!(!c.2))&&(decide (0 < (b:Int)))) then Ju l k some else some default) fun d=>
   bnd (bif (!((!c.2)||((decide (0 < (b:Int)))&&(decide (a.Box≤d.Box))))) then G74 s a.Slot c.1.Size else some default) fun e=>
   bnd (bif (!(((!c.2)||((decide (0 < (b:Int)))&&(decide (a.Box≤d.Box))))||(!e))) then Ga4 a.Slot f else some default) fun m=>
   bif ((((!c.2)||((decide (0 < (b:Int)))&&(decide (a.Box≤d.Box))))||(!e))||(!m)) then
   (some false)
   else
   (bnd (H36 (b:Int) f.length) fun n=>
    each (fun o w (p:Unit) h=>
     bnd (Ga3 a.Slot o) fun q=>
     bif q then
     (some false)
     else
     (h ()))
    (fun(p:Unit)=>
     g ()) (f.take n) 0 ()))
  (fun(j:Unit)=>
   each (fun x r (t:Unit) i=>
    bnd (Ga1 s boxes l (r:Int)) fun u=>
    bif (!u) then
    (some false)
    else
    (i ()))
   (fun(t:Unit)=>
    some true) s.Columns 0 ()) l 0 ())
theorem Z4 (s:Gf) (boxes:List Box) (l:List G1) (r:Bool) (h:Qw s boxes l=some r):Pure Em 14 [.agg (Gf.cs s),E6 boxes,E4 l] (·=BL r):=by
 unfold Qw at h
 refine H5 [.tmp 6] Tryz.func14 O O ?_
 refine Jr fun f4=>?_
 refine JLg (.ptr 1037 0) (Jt (cs:=(Gf.cs s)) 1037 O O O O O) ?_
 refine JLm (BL false) O ?_
 refine G4 (f4 ?_)
 refine Gh [(1,E6 boxes),(2,E4 l),(3,Ef s)] [] 1037 rfl rfl rfl ø rfl (by exact⟨.conv (.same rfl),.conv (.same rfl),.ptr,ø⟩) ?_
 refine Js fun f5=>?_
 refine Jr fun f6=>?_
 refine JLg (.agg (Gf.cs s)) (Gk J6 O O O) ?_
 obtain⟨r4,f7,h⟩:=Gg h
 refine JLg (BL r4) (H2 O (Gd9.down s r4 f7) H93 ⟨O,O,ø⟩) ?_
 refine JLg (BL (!r4)) (G03 (b:=r4) O O) ?_
 refine G4 (f6 ?_)
 refine JCc O h ?_ ?_<;>intro h hb
 ·
  refine Jr fun f8=>?_
  refine JLm (BL false) O ?_
  refine G4 (f8 ?_)
  refine Gw ?_
  exact fin1 BL h
 ·
  refine Gn ?_
  refine f5 ?_
  refine Jr fun f9=>?_
  refine JLm (E4 l) O ?_
  obtain⟨g,g0,h⟩:=Gg h
  refine JLg (Ec g) (H2 O (J81 l g g0) Q94 ⟨O,O,ø⟩) ?_
  refine JLm (Ec g) O ?_
  refine G4 (f9 ?_)
  refine Js fun g1=>?_
  refine Jr fun g2=>?_
  refine JLm (E4 l) O ?_
  refine JLl H3 O O O fun a8=>?_
  refine JLm (I64 0) O ?_
  refine G4 (g2 ?_)
  refine Gi ?_
  obtain⟨g3,a9,b0,a4,h⟩:=Hu h
  refine Hf (fun c (p:Unit)=>each g3 a9 (List.drop c l) c p=some r) (fun c p=>[(1,E6 boxes),(2,E4 l),(3,Ef s),(7,Ec g),(20,E4 l),(21,Ek l.length),(22,Ek c)]) (fun c p=>[]) (fun c=>l.length - c) 0 () h ⟨(.sm O O),ø,rfl⟩ ?_
  clear h
  intro c p w h4 g4
  refine Jr fun b1=>?_
  refine JLg (BL (decide ((c:Int) < (l.length:Int)))) (J8 O O O) ?_
  refine G4 (b1 ?_)
  refine Js fun b2=>?_
  refine Gj O (fun hb=>?_) (fun hb=>?_)
  ·
   have x:=Jh hb
   obtain⟨a,h0,b3,b4,h⟩:=Hk w x
   replace h:=Rh b0 h
   refine Gn ?_
   refine b2 ?_
   refine Js fun b5=>?_
   refine Gi ?_
   refine Jr fun b6=>?_
   refine JLm (Ek c) O ?_
   refine JLg (Eg a) (H0 (f:=G1.av) (xs:=l) (y:=a) O O O H3 b3 O) ?_
   refine JLg (.agg (G1.cs a)) (Gk Qb O O O) ?_
   refine JLg (.ptr 1038 0) (Hg 1038 4 Q2 O O) ?_
   refine JLm (Ek c) O ?_
   refine Hd (u:=.junk) (Gy (u:=.agg (G1.cs a)) (ds:=[I64 a.Box,I64 a.Slot.G6,I64 a.Slot.Tier,U8 a.Slot.Half]) Y1 O O O O O O O O) ?_
   refine G4 (b6 ?_)
   refine fzQ [(1,E6 boxes),(2,E4 l),(3,Ef s),(7,Ec g),(8,Ek c),(9,Eg a),(20,E4 l),(21,Ek l.length),(22,Ek c)] [] 1038 rfl rfl rfl ø rfl ?_
   refine Jr fun b7=>?_
   refine JLm (E6 boxes) O ?_
   refine JLg (Eg a) (Gb Jn O O O) ?_
   refine JLg (I64 a.Box) (Ge G9 O O O) ?_
   obtain⟨d,b8,h⟩:=Gg h
   refine JLg (.tup [.agg (Box.cs d.1),BL d.2]) (H2 O (H00 boxes a.Box d b8) H92 ⟨O,O,O,O,ø⟩) ?_
   refine JLm (.tup [.agg (Box.cs d.1),BL d.2]) O ?_
   refine JLg (.agg (Box.cs d.1)) (Hp O O O) ?_
   refine JLg (BL d.2) (Hp O O O) ?_
   refine JLg (.ptr 1039 0) (Hg 1039 9 Qq O O) ?_
   refine Hd (u:=.junk) (Gy (u:=.agg (Box.cs d.1)) (ds:=(Box.cs d.1)) Y2 O O O O O O O O) ?_
   refine JLm (BL d.2) O ?_
   refine G4 (b7 ?_)
   refine fzQ [(1,E6 boxes),(2,E4 l),(3,Ef s),(7,Ec g),(8,Ek c),(9,Eg a),(10,Ei d.1),(11,BL d.2),(20,E4 l),(21,Ek l.length),(22,Ek c)] [] 1039 rfl rfl rfl ø rfl ?_
   refine Js fun b9=>?_
   refine Js fun c0=>?_
   obtain⟨g5,c1,h⟩:=Gg h
   obtain⟨j,c2,h⟩:=Gg h
   obtain⟨n,c3,h⟩:=Gg h
   obtain⟨o,c4,h⟩:=Gg h
   refine JC_d0 Q7 (by kernel_rfl) ?_
   refine Dq (BL d.2) (G5 O O) O ?_
   refine Dq (BL (!d.2)) (G03 (b:=d.2) O O) O ?_
   refine Dq (BL (!d.2)) (G5 O O) O ?_
   refine Do (Ek c) [] O .scf ø (fun hc=>G5 O O) O ?_
   refine Do (BL (decide (0 < (c:Int)))) [37] O .scf ⟨Ua,ø⟩ (fun hc=>G1b O O O) O ?_
   refine Do (BL (decide (0 < (c:Int)))) [38] O .scf ⟨Ua,ø⟩ (fun hc=>G5 O O) O ?_
   refine Do (Eg a) [] O .optt ø (fun hc=>Gb Jn O O O) O ?_
   refine Do (I64 a.Box) [40] O .optt ⟨Ua,ø⟩ (fun hc=>Ge G9 O O O) O ?_
   refine Do (E4 l) [] O .optt ø (fun hc=>G5 O O) O ?_
   refine Do (Ek c) [] O .optt ø (fun hc=>G5 O O) O ?_
   refine Do (I64 g5) [43] O .optt ⟨Ua,ø⟩ (fun hc=>Gf6 (H59 (H9 hc c1)) O O O) O ?_
   refine Do (Eg j) [42,44] O .optt ⟨Ua,Ua,ø⟩ (fun hc=>(match G05 (H9 hc c2) with | ⟨_,hm_,hy_⟩=>H0 (f:=G1.av) (xs:=l) (y:=j) O O O H3 hy_ hm_)) O ?_
   refine Do (Eg j) [45] O .optt ⟨Ua,ø⟩ (fun hc=>Gb Jn O O O) O ?_
   refine Do (I64 j.Box) [46] O .optt ⟨Ua,ø⟩ (fun hc=>Ge G9 O O O) O ?_
   refine Do (BL (decide (a.Box≤j.Box))) [41,47] O .optt ⟨Ua,Ua,ø⟩ (fun hc=>Gf7 O O O) O ?_
   refine Dg (.opt (!(!d.2)) (BL ((decide (0 < (c:Int)))&&(decide (a.Box≤j.Box))))) (Jk [(39,BL (decide (0 < (c:Int)))),(48,_)] O O O .scf ⟨.all id,.part,ø⟩ (fun hc=>Rg O O O O) O) O ?_
   refine Dq (BL ((!d.2)||((decide (0 < (c:Int)))&&(decide (a.Box≤j.Box))))) (G18 O O O O) O ?_
   refine Dq (BL ((!d.2)||((decide (0 < (c:Int)))&&(decide (a.Box≤j.Box))))) (G5 O O) O ?_
   refine Do (.agg (Gf.cs s)) [] O .scf ø (fun hc=>Gk J6 O O O) O ?_
   refine Do (.dptr ((G1.cs a).drop 1)) [] O .scf ø (fun hc=>Gb Jx O O O) O ?_
   refine Do (.agg ((G1.cs a).drop 1)) [53] O .scf ⟨Ua,ø⟩ (fun hc=>Gk Jw O O O) O ?_
   refine Do (.dptr ((Box.cs d.1).drop 2)) [] O .scf ø (fun hc=>Gb Y6 O O O) O ?_
   refine Do (U8 d.1.Size) [55] O .scf ⟨Ua,ø⟩ (fun hc=>Ge Hz O O O) O ?_
   refine Do (BL n) [52,54,56] O .scf ⟨Ua,Ua,Ua,ø⟩ (fun hc=>H2 (args:=[.agg (Gf.cs s),.agg ((G1.cs a).drop 1),U8 d.1.Size]) O (J83 s a.Slot d.1.Size n (H9 hc c3)) Q93 ⟨O,O,O,O,O,O,ø⟩) O ?_
   refine Do (BL (!n)) [57] O .scf ⟨Ua,ø⟩ (fun hc=>G03 (b:=n) O O) O ?_
   refine Dq (BL (((!d.2)||((decide (0 < (c:Int)))&&(decide (a.Box≤j.Box))))||(!n))) (G18 O O O O) O ?_
   refine Dq (BL (((!d.2)||((decide (0 < (c:Int)))&&(decide (a.Box≤j.Box))))||(!n))) (G5 O O) O ?_
   refine Do (.dptr ((G1.cs a).drop 1)) [] O .scf ø (fun hc=>Gb Jx O O O) O ?_
   refine Do (.agg ((G1.cs a).drop 1)) [61] O .scf ⟨Ua,ø⟩ (fun hc=>Gk Jw O O O) O ?_
   refine Do (Ec g) [] O .scf ø (fun hc=>G5 O O) O ?_
   refine Do (BL o) [62,63] O .scf ⟨Ua,Ua,ø⟩ (fun hc=>H2 (args:=[.agg ((G1.cs a).drop 1),Ec g]) O (Ja8 a.Slot g o (H9 hc c4)) Q92 ⟨O,O,O,O,ø⟩) O ?_
   refine Do (BL (!o)) [64] O .scf ⟨Ua,ø⟩ (fun hc=>G03 (b:=o) O O) O ?_
   refine Dq (BL ((((!d.2)||((decide (0 < (c:Int)))&&(decide (a.Box≤j.Box))))||(!n))||(!o))) (G18 O O O O) O ?_
   refine Dnil ?_
   refine c0 ?_
   refine JCc O h ?_ ?_<;>intro h hb
   ·
    refine Jr fun c5=>?_
    refine JLm (BL false) O ?_
    refine G4 (c5 ?_)
    refine Gw ?_
    exact fin1 BL h
   ·
    refine Gn ?_
    refine b9 ?_
    refine Jr fun c6=>?_
    refine JLm (Ec g) O ?_
    refine JLm (Ek c) O ?_
    obtain⟨m,c7,h⟩:=Gg h
    refine JLg (Ec (g.take m)) (H35 (f:=Slot.av) (xs:=g) O O O R2 (G85 c7)) ?_
    refine JLl R2 O O O fun c8=>?_
    refine JLm (I64 0) O ?_
    refine G4 (c6 ?_)
    refine Gi ?_
    obtain⟨g6,c9,d0,a5,h⟩:=Hu h
    refine Hf (fun i (q:Unit)=>each g6 c9 (List.drop i (g.take m)) i q=some r) (fun i q=>[(1,E6 boxes),(2,E4 l),(3,Ef s),(7,Ec g),(9,Eg a),(20,E4 l),(21,Ek l.length),(22,Ek c),(69,Ec (g.take m)),(70,I64 ((g.take m).length:Int)),(71,Ek i)]) (fun i q=>[]) (fun i=>(g.take m).length - i) 0 () h ⟨(.sm O O),ø,rfl⟩ ?_
    clear h
    intro i q z h5 g7
    refine Jr fun d1=>?_
    refine JLg (BL (decide ((i:Int) < ((g.take m).length:Int)))) (J8 O O O) ?_
    refine G4 (d1 ?_)
    refine Js fun d2=>?_
    refine Gj O (fun hb=>?_) (fun hb=>?_)
    ·
     have a0:=Jh hb
     obtain⟨k,h1,d3,d4,h⟩:=Hk z a0
     replace h:=Rh d0 h
     refine Gn ?_
     refine d2 ?_
     refine Js fun d5=>?_
     refine Gi ?_
     refine Jr fun d6=>?_
     refine JLg (Ej k) (H0 (f:=Slot.av) (xs:=(g.take m)) (y:=k) O O O R2 d3 O) ?_
     refine JLg (.agg (Slot.cs k)) (Gk Jw O O O) ?_
     refine JLg (.ptr 1040 0) (Hg 1040 3 Zc O O) ?_
     refine Hd (u:=.junk) (Gy (u:=.agg (Slot.cs k)) (ds:=[I64 k.G6,I64 k.Tier,U8 k.Half]) G11 O O O O O O O O) ?_
     refine G4 (d6 ?_)
     refine fzQ [(1,E6 boxes),(2,E4 l),(3,Ef s),(7,Ec g),(9,Eg a),(13,Ej k),(20,E4 l),(21,Ek l.length),(22,Ek c),(69,Ec (g.take m)),(70,I64 ((g.take m).length:Int)),(71,Ek i)] [] 1040 rfl rfl rfl ø rfl ?_
     refine Jr fun d7=>?_
     refine JLg (.dptr ((G1.cs a).drop 1)) (Gb Jx O O O) ?_
     refine JLg (.agg ((G1.cs a).drop 1)) (Gk Jw O O O) ?_
     refine JLg (.agg (Slot.cs k)) (Gk Jw O O O) ?_
     obtain⟨a7,d8,h⟩:=Gg h
     refine JLg (BL a7) (H2 O (Ja7 a.Slot k a7 d8) Q91 ⟨O,O,O,O,ø⟩) ?_
     refine G4 (d7 ?_)
     refine JCc O h ?_ ?_<;>intro h hb
     ·
      refine Jr fun d9=>?_
      refine JLm (BL false) O ?_
      refine G4 (d9 ?_)
      refine Gw ?_
      exact fin1 BL h
     ·
      refine Gn ?_
      refine d5 ?_
      refine G2 ?_
      refine JLg (I64 ((i+1:Nat):Int)) (Ht (H7 a0 c8) O O O) ?_
      refine JLm (I64 ((i+1:Nat):Int)) O ?_
      refine G4 ?_
      exact g7 _ _ (i+1) () (app1 d4 h) (by omega) ⟨(.sm O O),ø,rfl⟩
    ·
     have h:=app1 a5 (Hm z (H6 hb))
     refine Hj ?_
     refine b5 ?_
     refine G2 ?_
     refine JLg (I64 ((c+1:Nat):Int)) (Ht (H7 x a8) O O O) ?_
     refine JLm (I64 ((c+1:Nat):Int)) O ?_
     refine G4 ?_
     exact g4 _ _ (c+1) () (app1 b4 h) (by omega) ⟨(.sm O O),ø,rfl⟩
  ·
   have h:=app1 a4 (Hm w (H6 hb))
   refine Hj ?_
   refine g1 ?_
   refine Js fun e0=>?_
   refine Jr fun e1=>?_
   refine JLg (Ef s) (Gb Ho O O O) ?_
   refine JLg (E7 s.Columns) (Ge J2 O O O) ?_
   refine JLl Hr O O O fun e2=>?_
   refine JLm (I64 0) O ?_
   refine G4 (e1 ?_)
   refine Gi ?_
   obtain⟨g8,e3,e4,a6,h⟩:=Hu h
   refine Hf (fun e (t:Unit)=>each g8 e3 (List.drop e s.Columns) e t=some r) (fun e t=>[(1,E6 boxes),(2,E4 l),(3,Ef s),(83,Ek s.Columns.length),(84,Ek e)]) (fun e t=>[]) (fun e=>s.Columns.length - e) 0 () h ⟨(.sm O O),ø,rfl⟩ ?_
   clear h
   intro e t a1 h6 g9
   refine Jr fun e5=>?_
   refine JLg (BL (decide ((e:Int) < (s.Columns.length:Int)))) (J8 O O O) ?_
   refine G4 (e5 ?_)
   refine Js fun e6=>?_
   refine Gj O (fun hb=>?_) (fun hb=>?_)
   ·
    have a2:=Jh hb
    obtain⟨h7,h2,h3,e7,h⟩:=Hk a1 a2
    replace h:=Rh e4 h
    refine Gn ?_
    refine e6 ?_
    refine Js fun e8=>?_
    refine Gi ?_
    refine Jr fun e9=>?_
    refine JLm (Ek e) O ?_
    refine JLm (Ek e) O ?_
    refine G4 (e9 ?_)
    refine Jr fun f0=>?_
    refine JLg (.agg (Gf.cs s)) (Gk J6 O O O) ?_
    refine JLm (E6 boxes) O ?_
    refine JLm (E4 l) O ?_
    refine JLm (Ek e) O ?_
    obtain⟨v,f1,h⟩:=Gg h
    refine JLg (BL v) (H2 O (Ja5 s boxes l (e:Int) v f1) Q90 ⟨O,O,O,O,O,O,O,O,ø⟩) ?_
    refine JLg (BL (!v)) (G03 (b:=v) O O) ?_
    refine G4 (f0 ?_)
    refine JCc O h ?_ ?_<;>intro h hb
    ·
     refine Jr fun f2=>?_
     refine JLm (BL false) O ?_
     refine G4 (f2 ?_)
     refine Gw ?_
     exact fin1 BL h
    ·
     refine Gn ?_
     refine e8 ?_
     refine G2 ?_
     refine JLg (I64 ((e+1:Nat):Int)) (Ht (H7 a2 e2) O O O) ?_
     refine JLm (I64 ((e+1:Nat):Int)) O ?_
     refine G4 ?_
     exact g9 _ _ (e+1) () (app1 e7 h) (by omega) ⟨(.sm O O),ø,rfl⟩
   ·
    have h:=app1 a6 (Hm a1 (H6 hb))
    refine Hj ?_
    refine e0 ?_
    refine Jr fun f3=>?_
    refine JLm (BL true) O ?_
    refine G4 (f3 ?_)
    refine Gw ?_
    exact fin1 BL h

def Qx (s1_:List G1) (s2_:List G1) (cmp:G1→G1→Option Int):Option Int:=
 each (fun d a (e:Unit) c=>
  bif decide ((s2_.length:Int)≤(a:Int)) then
  (some 1)
  else
  (Ju s2_ (a:Int) fun f=>
   bnd (cmp d f) fun b=>
   bif decide (b≠0) then
   (some b)
   else
   (c ())))
 (fun(e:Unit)=>
  bif decide ((s1_.length:Int) < (s2_.length:Int)) then
  (some (-1))
  else
  (some 0)) s1_ 0 ()
theorem G75 (s1_:List G1) (s2_:List G1) (cmp:G1→G1→Option Int) (cmp_f:FuncId) (cmp_c:List AV) (cmp_B:H8 Em cmp_f=true) (cmp_d:Q3 (fun _=>false) cmp_c=true) (cmp_w:∀ a0 a1 q,cmp a0 a1=some q→Pure Em cmp_f ([.agg (G1.cs a0),.agg (G1.cs a1)]++cmp_c) (·=I64 q)) (r:Int) (h:Qx s1_ s2_ cmp=some r):Pure Em 106 [E4 s1_,E4 s2_,.fn cmp_f cmp_c] (·=I64 r):=by
 unfold Qx at h
 refine H5 [.tmp 6] Tryz.func106 O O ?_
 refine Jr fun b3=>?_
 refine JLm (I64 0) O ?_
 refine G4 (b3 ?_)
 refine Js fun b4=>?_
 refine Jr fun b5=>?_
 refine JLm (E4 s1_) O ?_
 refine JLl H3 O O O fun k=>?_
 refine JLm (I64 0) O ?_
 refine G4 (b5 ?_)
 refine Gi ?_
 obtain⟨b6,l,m,j,h⟩:=Hu h
 refine Hf (fun a (e:Unit)=>each b6 l (List.drop a s1_) a e=some r) (fun a e=>[(0,E4 s1_),(1,E4 s2_),(2,.fn cmp_f cmp_c),(11,E4 s1_),(12,Ek s1_.length),(13,Ek a)]) (fun a e=>[]) (fun a=>s1_.length - a) 0 () h ⟨⟨.same O,.same O,.same (Jm _ _ cmp_d),.same O,.same O,.same O,ø⟩,ø,O⟩ ?_
 clear h
 intro a e g c2 b7
 refine Jr fun n=>?_
 refine JLg (BL (decide ((a:Int) < (s1_.length:Int)))) (J8 O O O) ?_
 refine G4 (n ?_)
 refine Js fun o=>?_
 refine Gj O (fun hb=>?_) (fun hb=>?_)
 ·
  have i:=Jh hb
  obtain⟨b,b8,p,s,h⟩:=Hk g i
  replace h:=Rh m h
  refine Gn ?_
  refine o ?_
  refine Js fun t=>?_
  refine Gi ?_
  refine Jr fun v=>?_
  refine JLm (Ek a) O ?_
  refine JLg (Eg b) (H0 (f:=G1.av) (xs:=s1_) (y:=b) O O O H3 p O) ?_
  refine JLg (.agg (G1.cs b)) (Gk Qb O O O) ?_
  refine JLg (.ptr 1160 0) (Hg 1160 4 Q2 O O) ?_
  refine JLm (Ek a) O ?_
  refine Hd (u:=.junk) (Gy (u:=.agg (G1.cs b)) (ds:=[I64 b.Box,I64 b.Slot.G6,I64 b.Slot.Tier,U8 b.Slot.Half]) Y1 O O O O O O O O) ?_
  refine G4 (v ?_)
  refine Gh [(0,E4 s1_),(1,E4 s2_),(2,.fn cmp_f cmp_c),(7,Ek a),(8,Eg b),(11,E4 s1_),(12,Ek s1_.length),(13,Ek a)] [] 1160 rfl rfl rfl ø rfl (by exact⟨.conv (.same rfl),.conv (.same rfl),.conv (.same (Jm _ _ cmp_d)),.conv (.same rfl),.ptr,.conv (.same rfl),.conv (.same rfl),.conv (.same rfl),ø⟩) ?_
  refine Js fun w=>?_
  refine Jr fun x=>?_
  refine JLm (Ek a) O ?_
  refine JLm (E4 s2_) O ?_
  refine JLl H3 O O O fun b9=>?_
  refine JLg (BL (decide ((s2_.length:Int)≤(a:Int)))) (Gdd O O O) ?_
  refine G4 (x ?_)
  refine JCc O h ?_ ?_<;>intro h hb
  ·
   refine Jr fun z=>?_
   refine JLm (I64 1) O ?_
   refine G4 (z ?_)
   refine Gw ?_
   exact fin1 I64 h
  ·
   refine Gn ?_
   refine w ?_
   refine Jr fun a2=>?_
   refine JLm (E4 s2_) O ?_
   refine JLm (Ek a) O ?_
   obtain⟨c3,c,a3,a4,h⟩:=Qc h
   refine JLg (Eg c) (H0 (f:=G1.av) (xs:=s2_) (y:=c) O O O H3 a4 a3) ?_
   refine JLg (.agg (G1.cs c)) (Gk Qb O O O) ?_
   refine JLg (.ptr 1161 0) (Hg 1161 4 Q2 O O) ?_
   refine Hd (u:=.junk) (Gy (u:=.agg (G1.cs c)) (ds:=[I64 c.Box,I64 c.Slot.G6,I64 c.Slot.Tier,U8 c.Slot.Half]) Y1 O O O O O O O O) ?_
   refine G4 (a2 ?_)
   refine Gh [(0,E4 s1_),(1,E4 s2_),(2,.fn cmp_f cmp_c),(8,Eg b),(9,Eg c),(11,E4 s1_),(12,Ek s1_.length),(13,Ek a)] [] 1161 rfl rfl rfl ø rfl (by exact⟨.conv (.same rfl),.conv (.same rfl),.conv (.same (Jm _ _ cmp_d)),.conv (.same rfl),.ptr,.conv (.same rfl),.conv (.same rfl),.conv (.same rfl),ø⟩) ?_
   refine Jr fun a5=>?_
   refine JLm (.fn cmp_f cmp_c) O ?_
   refine JLg (.agg (G1.cs b)) (Gk Qb O O O) ?_
   refine JLg (.agg (G1.cs c)) (Gk Qb O O O) ?_
   obtain⟨d,a6,h⟩:=Gg h
   refine JLg (I64 d) (G0c (args:=[.agg (G1.cs b),.agg (G1.cs c)]) (caps:=cmp_c) O O (cmp_w b c _ a6) cmp_B ⟨O,O,O,O,ø⟩ cmp_d) ?_
   refine JLm (I64 d) O ?_
   refine G4 (a5 ?_)
   refine Jr fun a7=>?_
   refine JLm (I64 d) O ?_
   refine JLg (BL (decide (d≠0))) (H15 O O O) ?_
   refine G4 (a7 ?_)
   refine JCc O h ?_ ?_<;>intro h hb
   ·
    refine Jr fun a8=>?_
    refine JLm (I64 d) O ?_
    refine JLm (I64 d) O ?_
    refine G4 (a8 ?_)
    refine Gw ?_
    exact fin1 I64 h
   ·
    refine Gn ?_
    refine t ?_
    refine G2 ?_
    refine JLg (I64 ((a+1:Nat):Int)) (Ht (H7 i k) O O O) ?_
    refine JLm (I64 ((a+1:Nat):Int)) O ?_
    refine G4 ?_
    exact b7 _ _ (a+1) () (app1 s h) (by omega) ⟨⟨.same rfl,.same rfl,.same (Jm _ _ cmp_d),.same rfl,.same rfl,.same rfl,ø⟩,ø,rfl⟩
 ·
  have h:=app1 j (Hm g (H6 hb))
  refine Hj ?_
  refine b4 ?_
  refine Js fun a9=>?_
  refine Jr fun b0=>?_
  refine JLm (E4 s1_) O ?_
  refine JLl H3 O O O fun c0=>?_
  refine JLm (E4 s2_) O ?_
  refine JLl H3 O O O fun c1=>?_
  refine JLg (BL (decide ((s1_.length:Int) < (s2_.length:Int)))) (J8 O O O) ?_
  refine G4 (b0 ?_)
  refine JCc O h ?_ ?_<;>intro h hb
  ·
   refine Jr fun b1=>?_
   refine JLm (I64 (-1)) O ?_
   refine G4 (b1 ?_)
   refine Gw ?_
   exact fin1 I64 h
  ·
   refine Gn ?_
   refine a9 ?_
   refine Jr fun b2=>?_
   refine JLm (I64 0) O ?_
   refine G4 (b2 ?_)
   refine Gw ?_
   exact fin1 I64 h

def Zp (x:Int):Option Bool:=
 some (decide (x≠x))
theorem Gb4 (x:Int) (r:Bool) (h:Zp x=some r):Pure Em 80 [U8 x] (·=BL r):=by
 unfold Zp at h
 refine H5 [.tmp 2] Tryz.func80 O O ?_
 refine Jr fun a=>?_
 refine JLm (BL false) O ?_
 refine G4 (a ?_)
 refine Jr fun b=>?_
 refine JLm (U8 x) O ?_
 refine JLm (U8 x) O ?_
 refine JLg (BL (decide (x≠x))) (H15 O O O) ?_
 refine JLm (BL (decide (x≠x))) O ?_
 refine G4 (b ?_)
 refine Gw ?_
 exact fin1 BL h

def Yo (x:Int) (y:Int):Option Int:=
 bnd (Zp x) fun b=>
 bnd (Zp y) fun a=>
 bif b then
 (bif a then
  (some 0)
  else
  (some (-1)))
 else
 (bif a then
  (some 1)
  else
  (bif decide (x < y) then
   (some (-1))
   else
   (bif decide (y < x) then
    (some 1)
    else
    (some 0))))
theorem H40 (x:Int) (y:Int) (r:Int) (h:Yo x y=some r):Pure Em 44 [U8 x,U8 y] (·=I64 r):=by
 unfold Yo at h
 refine H5 [.tmp 4] Tryz.func44 O O ?_
 refine Jr fun p=>?_
 refine JLm (I64 0) O ?_
 refine G4 (p ?_)
 refine Jr fun q=>?_
 refine JLm (U8 x) O ?_
 obtain⟨b,s,h⟩:=Gg h
 refine JLg (BL b) (H2 O (Gb4 x b s) J4a ⟨O,O,ø⟩) ?_
 refine JLm (BL b) O ?_
 refine G4 (q ?_)
 refine Jr fun t=>?_
 refine JLm (U8 y) O ?_
 obtain⟨a,u,h⟩:=Gg h
 refine JLg (BL a) (H2 O (Gb4 y a u) J4a ⟨O,O,ø⟩) ?_
 refine JLm (BL a) O ?_
 refine G4 (t ?_)
 refine Js fun v=>?_
 refine Jr fun w=>?_
 refine JLm (BL b) O ?_
 refine G4 (w ?_)
 refine JCc O h ?_ ?_<;>intro h hb
 ·
  refine Js fun z=>?_
  refine Jr fun a0=>?_
  refine JLm (BL a) O ?_
  refine G4 (a0 ?_)
  refine JCc O h ?_ ?_<;>intro h hb
  ·
   refine Jr fun c=>?_
   refine JLm (I64 0) O ?_
   refine G4 (c ?_)
   refine Gw ?_
   exact fin1 I64 h
  ·
   refine Gn ?_
   refine z ?_
   refine Jr fun d=>?_
   refine JLm (I64 (-1)) O ?_
   refine G4 (d ?_)
   refine Gw ?_
   exact fin1 I64 h
 ·
  refine Gn ?_
  refine v ?_
  refine Js fun e=>?_
  refine Jr fun f=>?_
  refine JLm (BL a) O ?_
  refine G4 (f ?_)
  refine JCc O h ?_ ?_<;>intro h hb
  ·
   refine Jr fun g=>?_
   refine JLm (I64 1) O ?_
   refine G4 (g ?_)
   refine Gw ?_
   exact fin1 I64 h
  ·
   refine Gn ?_
   refine e ?_
   refine Js fun i=>?_
   refine Jr fun j=>?_
   refine JLm (U8 x) O ?_
   refine JLm (U8 y) O ?_
   refine JLg (BL (decide (x < y))) (J8 O O O) ?_
   refine G4 (j ?_)
   refine JCc O h ?_ ?_<;>intro h hb
   ·
    refine Jr fun k=>?_
    refine JLm (I64 (-1)) O ?_
    refine G4 (k ?_)
    refine Gw ?_
    exact fin1 I64 h
   ·
    refine Gn ?_
    refine i ?_
    refine Js fun l=>?_
    refine Jr fun m=>?_
    refine JLm (U8 x) O ?_
    refine JLm (U8 y) O ?_
    refine JLg (BL (decide (y < x))) (G1b O O O) ?_
    refine G4 (m ?_)
    refine JCc O h ?_ ?_<;>intro h hb
    ·
     refine Jr fun n=>?_
     refine JLm (I64 1) O ?_
     refine G4 (n ?_)
     refine Gw ?_
     exact fin1 I64 h
    ·
     refine Gn ?_
     refine l ?_
     refine Jr fun o=>?_
     refine JLm (I64 0) O ?_
     refine G4 (o ?_)
     refine Gw ?_
     exact fin1 I64 h

def G07 (a:Slot) (b:Slot):Option Int:=
 bnd (Qi a.G6 b.G6) fun c=>
 bnd (Qi a.Tier b.Tier) fun d=>
 bnd (Yo a.Half b.Half) fun e=>
 bnd (G3e [c,d,e]) fun f=>
 some f
theorem H10 (a:Slot) (b:Slot) (r:Int) (h:G07 a b=some r):Pure Em 15 [.agg [I64 a.G6,I64 a.Tier,U8 a.Half],.agg [I64 b.G6,I64 b.Tier,U8 b.Half]] (·=I64 r):=by
 unfold G07 at h
 refine H5 [.tmp 4] Tryz.func15 O O ?_
 refine Jr fun g=>?_
 refine JLg (.ptr 1041 0) (Jt (cs:=[I64 a.G6,I64 a.Tier,U8 a.Half]) 1041 O O O O O) ?_
 refine JLg (.ptr 1042 0) (Jt (cs:=[I64 b.G6,I64 b.Tier,U8 b.Half]) 1042 O O O O O) ?_
 refine JLm (I64 0) O ?_
 refine G4 (g ?_)
 refine Gh [(2,.dptr [I64 a.G6,I64 a.Tier,U8 a.Half]),(3,.ptr 1042 0)] [(1042,.box 63 [I64 b.G6,I64 b.Tier,U8 b.Half])] 1041 rfl rfl rfl ⟨⟨_,rfl,.boxEq rfl rfl⟩,ø⟩ rfl (by exact⟨.ptr,.conv (.same rfl),ø⟩) ?_
 refine Gh [(2,.dptr [I64 a.G6,I64 a.Tier,U8 a.Half]),(3,.dptr [I64 b.G6,I64 b.Tier,U8 b.Half])] [] 1042 rfl rfl rfl ø rfl (by exact⟨.conv (.same rfl),.ptr,ø⟩) ?_
 refine Js fun i=>?_
 obtain⟨c,j,h⟩:=Gg h
 obtain⟨d,k,h⟩:=Gg h
 obtain⟨e,l,h⟩:=Gg h
 obtain⟨f,m,h⟩:=Gg h
 refine JC_d0 Q7 (by kernel_rfl) ?_
 refine Dq (.dptr [I64 a.G6,I64 a.Tier,U8 a.Half]) (Gb Jy O O O) O ?_
 refine Dq (I64 a.G6) (Ge G9 O O O) O ?_
 refine Dq (.dptr [I64 b.G6,I64 b.Tier,U8 b.Half]) (Gb Jy O O O) O ?_
 refine Dq (I64 b.G6) (Ge G9 O O O) O ?_
 refine Dq (I64 c) (H2 (args:=[I64 a.G6,I64 b.G6]) O (Yp a.G6 b.G6 c j) Gcb ⟨O,O,O,O,ø⟩) O ?_
 refine Dq (.dptr [I64 a.Tier,U8 a.Half]) (Gb R6 O O O) O ?_
 refine Dq (I64 a.Tier) (Ge G9 O O O) O ?_
 refine Dq (.dptr [I64 b.Tier,U8 b.Half]) (Gb R6 O O O) O ?_
 refine Dq (I64 b.Tier) (Ge G9 O O O) O ?_
 refine Dq (I64 d) (H2 (args:=[I64 a.Tier,I64 b.Tier]) O (Yp a.Tier b.Tier d k) Gcb ⟨O,O,O,O,ø⟩) O ?_
 refine Dq (.dptr [U8 a.Half]) (Gb R5 O O O) O ?_
 refine Dq (U8 a.Half) (Ge Hz O O O) O ?_
 refine Dq (.dptr [U8 b.Half]) (Gb R5 O O O) O ?_
 refine Dq (U8 b.Half) (Ge Hz O O O) O ?_
 refine Dq (I64 e) (H2 (args:=[U8 a.Half,U8 b.Half]) O (H40 a.Half b.Half e l) Q8f ⟨O,O,O,O,ø⟩) O ?_
 refine Dq (E5 [c,d,e]) (He (xs:=[I64 c,I64 d,I64 e]) O ⟨O,O,O,O,O,O,ø⟩ Gv Rm O O O O) O ?_
 refine Dq (I64 f) (H2 (args:=[E5 [c,d,e]]) O (H61 [c,d,e] f m) J53 ⟨O,O,ø⟩) O ?_
 refine Dq (I64 f) (G7 O O) O ?_
 refine Dnil ?_
 refine i ?_
 refine Gw ?_
 exact fin1 I64 h

def R9 (x:G1) (y:G1):Option Int:=
 bnd (G07 x.Slot y.Slot) fun a=>
 some a
theorem H5e (x:G1) (y:G1) (r:Int) (h:R9 x y=some r):Pure Em 107 [.agg (G1.cs x),.agg (G1.cs y)] (·=I64 r):=by
 unfold R9 at h
 refine H5 [.tmp 4] Tryz.func107 O O ?_
 refine Jr fun b=>?_
 refine JLg (.ptr 1162 0) (Jt (cs:=[I64 x.Box,I64 x.Slot.G6,I64 x.Slot.Tier,U8 x.Slot.Half]) 1162 O O O O O) ?_
 refine JLg (.ptr 1163 0) (Jt (cs:=[I64 y.Box,I64 y.Slot.G6,I64 y.Slot.Tier,U8 y.Slot.Half]) 1163 O O O O O) ?_
 refine JLm (I64 0) O ?_
 refine G4 (b ?_)
 refine Gh [(2,Eg x),(3,.ptr 1163 0)] [(1163,.box 65 [I64 y.Box,I64 y.Slot.G6,I64 y.Slot.Tier,U8 y.Slot.Half])] 1162 rfl rfl rfl ⟨⟨_,rfl,.boxEq rfl rfl⟩,ø⟩ rfl (by exact⟨.ptr,.conv (.same rfl),ø⟩) ?_
 refine Gh [(2,Eg x),(3,Eg y)] [] 1163 rfl rfl rfl ø rfl (by exact⟨.conv (.same rfl),.ptr,ø⟩) ?_
 refine Jr fun c=>?_
 refine JLg (.dptr ((G1.cs x).drop 1)) (Gb Jx O O O) ?_
 refine JLg (.agg ((G1.cs x).drop 1)) (Gk Jw O O O) ?_
 refine JLg (.dptr ((G1.cs y).drop 1)) (Gb Jx O O O) ?_
 refine JLg (.agg ((G1.cs y).drop 1)) (Gk Jw O O O) ?_
 obtain⟨a,d,h⟩:=Gg h
 refine JLg (I64 a) (H2 O (H10 x.Slot y.Slot a d) J57 ⟨O,O,O,O,ø⟩) ?_
 refine JLm (I64 a) O ?_
 refine G4 (c ?_)
 refine Gw ?_
 exact fin1 I64 h

def Re (a:List G1) (b:List G1):Option Int:=
 bnd (Qx a b (fun z0 z1=>R9 z0 z1)) fun c=>
 some c
theorem Ha7 (a:List G1) (b:List G1) (r:Int) (h:Re a b=some r):Pure Em 64 [E4 a,E4 b] (·=I64 r):=by
 unfold Re at h
 refine H5 [.tmp 4] Tryz.func64 O O ?_
 refine Jr fun d=>?_
 refine JLm (I64 0) O ?_
 refine G4 (d ?_)
 refine Jr fun e=>?_
 refine JLm (E4 a) O ?_
 refine JLm (E4 b) O ?_
 obtain⟨c,f,h⟩:=Gg h
 refine JLg (I64 c) (H2 O (G75 a b (fun z0 z1=>R9 z0 z1) 107 [] Q2b O (fun z0 z1 q hq=>H5e z0 z1 q hq) c f) Q2c ⟨O,O,O,O,O,O,ø⟩) ?_
 refine JLm (I64 c) O ?_
 refine G4 (e ?_)
 refine Gw ?_
 exact fin1 I64 h

def Q9 (F:Nat) (s:Gf) (boxes:List Box) (ids:List Int):Option (List (List G1)):=
 bnd (J10 (s.Columns.length:Int)) fun c=>
 need (decide (8*c≤281474976710656∧c≤maxLen∧c*1≤16777216)) <|
 bnd (G1a s (List.replicate c (0:Int)) ids) fun j=>
 bnd (Zo F ids s (List.replicate c (0:Int))) fun e=>
 each (fun f i (a:(List (List G1))) d=>
  bnd (H83 (fun z0 z1=>Rs z0 z1) f) fun b=>
  bnd (Qw s boxes b) fun g=>
  bif g then
  (need (decide ((a.length+[b].length)*24≤140737488355328∧a.length+[b].length≤maxLen)) <|
   d (a++[b]))
  else
  (d a))
 (fun(a:(List (List G1)))=>
  bnd (H4b (fun z0 z1=>Re z0 z1) a) fun h=>
  some h) e 0 []
abbrev Er:List AV:=[.vec 1064 (([]:List (List G1)).length) 1 (([]:List (List G1)).length)]
theorem Gef (F:Nat) (s:Gf) (boxes:List Box) (ids:List Int) (r:(List (List G1))) (h:Q9 F s boxes ids=some r):Pure Em 23 [.agg (Gf.cs s),E6 boxes,E5 ids] (·=LS 1 (E4) r):=by
 unfold Q9 at h
 refine H5 [.tmp 6] Tryz.func23 O O ?_
 refine Jr fun a7=>?_
 refine JLg (.ptr 1060 0) (Jt (cs:=(Gf.cs s)) 1060 O O O O O) ?_
 refine JLg (.ptr 1061 0) (Jt (cs:=[E6 boxes]) 1061 O O O O O) ?_
 refine JLg (LS 1 (E4) ([]:List (List G1))) (Q6 1 O O) ?_
 refine G4 (a7 ?_)
 refine Gh [(2,E5 ids),(3,Ef s),(4,.ptr 1061 0)] [(1061,.box 38 [E6 boxes])] 1060 rfl rfl rfl ⟨⟨_,rfl,.boxEq rfl rfl⟩,ø⟩ rfl (by exact⟨.conv (.same rfl),.ptr,.conv (.same rfl),ø⟩) ?_
 refine Gh [(2,E5 ids),(3,Ef s),(4,.dptr [E6 boxes])] [] 1061 rfl rfl rfl ø rfl (by exact⟨.conv (.same rfl),.conv (.same rfl),.ptr,ø⟩) ?_
 refine Jr fun a8=>?_
 refine JLg (.ptr 1062 0) (Ru 1062 [.sc (.slice none 0 0)] [.slice none 0 0] Q70 ⟨.inl O,ø⟩ O O) ?_
 refine Ha9 1062 0 1064 59 1 O O O (cs':=Er) O ?_
 refine G4 (a8 ?_)
 refine Js fun a9=>?_
 refine Js fun b0=>?_
 refine Rt (l':=[(2,E5 ids),(3,Ef s),(4,.dptr [E6 boxes]),(7,.ptr 1062 0)]) (L':=[(1062,.box 42 Er),(1064,.vec 59 1 (([]:List (List G1)).length) (([]:List (List G1)).map (E4)))]) ⟨(.sm O O),⟨fbQ O ⟨.same rfl,ø⟩,⟨_,rfl,.vec⟩,ø⟩,rfl⟩ ?_
 obtain⟨e,k,h⟩:=Gg h
 obtain⟨b1,h⟩:=Hw h
 obtain⟨r7,b2,h⟩:=Gg h
 refine JC_d0 Q7 (by kernel_rfl) ?_
 refine Dq (.agg (Gf.cs s)) (Gk J6 O O O) O ?_
 refine Dq (Ef s) (Gb Ho O O O) O ?_
 refine Dq (E7 s.Columns) (Ge J2 O O O) O ?_
 refine Dq (Ek s.Columns.length) (G24 (f:=G6.av) (xs:=s.Columns) Hr O O) O ?_
 refine Dq (E5 (List.replicate e (0:Int))) (Q62 (f:=I64) (n:=e) 0 [E0] O O O Gv G36 Qf8 (H6c k) (H6c k) b1 ⟨.inl O,ø⟩ O) O ?_
 refine Dq (E5 ids) (G5 O O) O ?_
 refine Dq (.fn 98 [.dptr [E5 ids],Ef s,.dptr [E5 (List.replicate e (0:Int))]]) (H2 (args:=[.agg (Gf.cs s),E5 (List.replicate e (0:Int)),E5 ids]) O (Gf1 s (List.replicate e (0:Int)) ids r7 b2) J51 ⟨O,O,O,O,O,O,ø⟩) O ?_
 refine Dnil ?_
 refine b0 ?_
 refine Gi ?_
 obtain⟨d,hy_18,h⟩:=Gg h
 obtain⟨b3,t,v,j,h⟩:=Hu h
 refine Jac (p:=16) (f:=G1.av) 1063 [(3,Ef s),(4,.dptr [E6 boxes]),(7,.ptr 1062 0),(15,.fn 98 [.dptr [E5 ids],Ef s,.dptr [E5 (List.replicate e (0:Int))]])] d (fun g (a:(List (List G1)))=>each b3 t (List.drop g d) g a=some r) (fun a=>[(1064,.vec 59 1 a.length (a.map (E4))),(1062,.box 42 [.vec 1064 a.length 1 a.length])]) [] rfl rfl rfl J46 (H75.down F ids s (List.replicate e (0:Int)) d hy_18) (fun _=>rfl) h ⟨(.sm O O),⟨⟨_,rfl,.vec⟩,fbQ O ⟨.same rfl,ø⟩,ø⟩,rfl⟩ rfl (fun _=>(.sm O O)) (fun _=>rfl) ?_ ?_
 ·
  intro g y_ a hu_ w lr_ b6 l
  obtain⟨x,e_⟩:=Kx hu_
  subst e_
  obtain⟨c,b5,y,i,h⟩:=Hk w x
  replace h:=Rh v h
  obtain⟨_,rfl⟩:=Kx y
  generalize d[g]=c at h ⊢
  change JC _ _ _ _ [(16,.vec 1063 0 4 c.length),(3,Ef s),(4,.dptr [E6 boxes]),(7,.ptr 1062 0),(15,.fn 98 [.dptr [E5 ids],Ef s,.dptr [E5 (List.replicate e (0:Int))]])] [(1063,.vec 65 4 0 (c.map G1.av)),(1064,.vec 59 1 a.length (a.map (E4))),(1062,.box 42 [.vec 1064 a.length 1 a.length])]
  refine G2 ?_
  refine JLm (.vec 1063 0 4 c.length) O ?_
  refine G4 ?_
  refine R50 ?_
  refine Gi ?_
  refine Jr fun z=>?_
  refine JLm (.vec 1063 0 4 c.length) O ?_
  obtain⟨b,a0,h⟩:=Gg h
  refine JLg (.tup []) (Q0b (f:=G1.av) (cmp:=(fun z0 z1=>Rs z0 z1)) (xs:=c) (r:=b) G1.vs O Qa9 Q33 (fun _=>O) (fun _=>O) (fun _=>Qbc O) Q8a Q89 O O O O O a0 (fun z0 z1 q hq=>H77 z0 z1 q hq) O) ?_
  refine G4 (z ?_)
  refine Jr fun a1=>?_
  refine JLg (.agg (Gf.cs s)) (Gk J6 O O O) ?_
  refine JLg (E6 boxes) (Ge G62 O O O) ?_
  refine JLm (.vec 1063 0 4 c.length) O ?_
  obtain⟨m,a2,h⟩:=Gg h
  refine JLg (BL m) (J95 (args:=[.agg (Gf.cs s),E6 boxes,E4 b]) O (Z4 s boxes b m a2) G51 ⟨.data O O,.data O O,.vec O,ø⟩ O) ?_
  refine G4 (a1 ?_)
  refine JCc O h ?_ ?_<;>intro h hb
  ·
   refine G2 ?_
   refine JLg (.vec 1064 a.length 1 a.length) (Jg Jv O O O O) ?_
   refine JLm (.vec 1063 0 4 c.length) O ?_
   refine R51 24 (0+1) O O (Nat.lt_succ_self _) ?_
   refine JLg (LS 1 (E4) [b]) (He (xs:=[E4 b]) O ⟨O,O,ø⟩ Hv G9c O O O O) ?_
   obtain⟨a3,h⟩:=Hw h
   refine JLg (.vec 1064 ((a++[b]).length) 1 ((a++[b]).length)) (G57 (f:=(E4)) (xs:=a) (ys:=[b]) (ver:=a.length) (ver1:=(a++[b]).length) rfl rfl rfl rfl Hv H1f a3 (fun _=>rfl) (.inl rfl) (by simp)) ?_
   refine Hd (u:=.junk) (Gy (u:=.vec 1064 ((a++[b]).length) 1 ((a++[b]).length)) (ds:=[.vec 1064 ((a++[b]).length) 1 ((a++[b]).length)]) H1c O O O O O O O O) ?_
   refine G4 ?_
   exact l _ _ (a++[b]) (app1 i h) ⟨ø,⟨⟨_,O,.vec⟩,⟨_,O,.boxL O ⟨.same O,ø⟩⟩,ø⟩,O⟩
  ·
   refine Gn ?_
   exact l _ _ a (app1 i h) ⟨ø,⟨⟨_,O,.vec⟩,⟨_,O,.boxL O ⟨.same O,ø⟩⟩,ø⟩,O⟩
 ·
  intro a h
  replace h:=app1 j (Hm h (Nat.lt_irrefl _))
  refine a9 ?_
  refine Jr fun a4=>?_
  refine JLg (.vec 1064 a.length 1 a.length) (Jg Jv O O O O) ?_
  obtain⟨o,a5,h⟩:=Gg h
  refine JLg (.tup []) (R9b (f:=(E4)) (cmp:=(fun z0 z1=>Re z0 z1)) (xs:=a) (r:=o) O Q38 Q32 (fun _=>O) (fun _=>O) (R46 _ _) Q88 Q87 O O O O O a5 (fun z0 z1 q hq=>Ha7 z0 z1 q hq) O) ?_
  refine G4 (a4 ?_)
  refine Jr fun a6=>?_
  refine JLg (.vec 1064 a.length 1 a.length) (Jg Jv O O O O) ?_
  refine JLm (.vec 1064 a.length 1 a.length) O ?_
  refine G4 (a6 ?_)
  refine H34 [(6,LS 1 (E4) o)] [] 1064 rfl rfl ø rfl (by exact⟨.vec,ø⟩) ?_
  refine Gw ?_
  exact fin1 (fun r:(List (List G1))=>(LS 1 (E4) r:AV)) h

def Yi (F:Nat) (s:Gf) (boxes:List Box) (ids:List Int):Option ((List (List G1))×Int):=
 bnd (Qu s) fun j=>
 bif (!j) then
 (some ([],2))
 else
 (each (fun c b (e:Unit) d=>
   bnd (G2f boxes c) fun a=>
   bnd (bif ((!((!a.2)||(decide (a.1.Size≠40))))&&(decide (0 < (b:Int)))) then chk ((b:Int) - 1) some else some 0) fun f=>
   bnd (bif ((!((!a.2)||(decide (a.1.Size≠40))))&&(decide (0 < (b:Int)))) then Ju ids f some else some default) fun g=>
   bif (((!a.2)||(decide (a.1.Size≠40)))||((decide (0 < (b:Int)))&&(decide (c≤g)))) then
   (some ([],2))
   else
   (d ()))
  (fun(e:Unit)=>
   bnd (Z9 s) fun h=>
   bif ((!h)||(decide (4 < (ids.length:Int)))) then
   (some ([],5))
   else
   (bnd (Q9 F s boxes ids) fun i=>
    some (i,0))) ids 0 ())
theorem Gf2 (F:Nat) (s:Gf) (boxes:List Box) (ids:List Int) (r:(List (List G1))×Int) (h:Yi F s boxes ids=some r):Pure Em 8 [.agg (Gf.cs s),E6 boxes,E5 ids] (·=.tup [LS 1 (E4) r.1,I64 r.2]):=by
 unfold Yi at h
 refine H5 [.tmp 6,.tmp 7] Tryz.func8 O O ?_
 refine Jr fun b3=>?_
 refine JLg (.ptr 1007 0) (Jt (cs:=(Gf.cs s)) 1007 O O O O O) ?_
 refine JLg (LS 1 (E4) ([]:List (List G1))) (Q6 1 O O) ?_
 refine JLm (I64 0) O ?_
 refine G4 (b3 ?_)
 refine Gh [(1,E6 boxes),(2,E5 ids),(3,Ef s)] [] 1007 rfl rfl rfl ø rfl (by exact⟨.conv (.same rfl),.conv (.same rfl),.ptr,ø⟩) ?_
 refine Js fun b4=>?_
 refine Jr fun b5=>?_
 refine JLg (.agg (Gf.cs s)) (Gk J6 O O O) ?_
 obtain⟨m,b6,h⟩:=Gg h
 refine JLg (BL m) (H2 O (Gd9.down s m b6) H93 ⟨O,O,ø⟩) ?_
 refine JLg (BL (!m)) (G03 (b:=m) O O) ?_
 refine G4 (b5 ?_)
 refine JCc O h ?_ ?_<;>intro h hb
 ·
  refine Jr fun b7=>?_
  refine JLg (LS 1 (E4) ([]:List (List G1))) (Q6 1 O O) ?_
  refine JLm (I64 2) O ?_
  refine G4 (b7 ?_)
  refine Gw ?_
  exact⟨[LS 1 (E4) ([]:List (List G1)),I64 2],[],ø,O,⟨⟨_,O,.conv (.same O)⟩,⟨_,O,.conv (.same O)⟩,ø⟩,O,congrArg (fun r:(List (List G1))×Int=>(.tup [LS 1 (E4) r.1,I64 r.2]:AV)) (Kz h)⟩
 ·
  refine Gn ?_
  refine b4 ?_
  refine Js fun b8=>?_
  refine Jr fun b9=>?_
  refine JLm (E5 ids) O ?_
  refine JLl Gv O O O fun o=>?_
  refine JLm (I64 0) O ?_
  refine G4 (b9 ?_)
  refine Gi ?_
  obtain⟨c0,p,q,n,h⟩:=Hu h
  refine Hf (fun c (i:Unit)=>each c0 p (List.drop c ids) c i=some r) (fun c i=>[(1,E6 boxes),(2,E5 ids),(3,Ef s),(15,E5 ids),(16,Ek ids.length),(17,Ek c)]) (fun c i=>[]) (fun c=>ids.length - c) 0 () h ⟨(.sm O O),ø,rfl⟩ ?_
  clear h
  intro c i k c4 c1
  refine Jr fun t=>?_
  refine JLg (BL (decide ((c:Int) < (ids.length:Int)))) (J8 O O O) ?_
  refine G4 (t ?_)
  refine Js fun v=>?_
  refine Gj O (fun hb=>?_) (fun hb=>?_)
  ·
   have l:=Jh hb
   obtain⟨d,c3,w,x,h⟩:=Hk k l
   replace h:=Rh q h
   refine Gn ?_
   refine v ?_
   refine Js fun z=>?_
   refine Gi ?_
   refine Jr fun a0=>?_
   refine JLm (Ek c) O ?_
   refine JLg (.dptr [I64 d]) (H0 (f:=I64) (xs:=ids) (y:=d) O O O Gv w O) ?_
   refine JLg (I64 d) (Ge G9 O O O) ?_
   refine JLm (Ek c) O ?_
   refine JLm (I64 d) O ?_
   refine G4 (a0 ?_)
   refine Jr fun a1=>?_
   refine JLm (E6 boxes) O ?_
   refine JLm (I64 d) O ?_
   obtain⟨a,a2,h⟩:=Gg h
   refine JLg (.tup [.agg (Box.cs a.1),BL a.2]) (H2 O (H00 boxes d a a2) H92 ⟨O,O,O,O,ø⟩) ?_
   refine JLm (.tup [.agg (Box.cs a.1),BL a.2]) O ?_
   refine JLg (.agg (Box.cs a.1)) (Hp O O O) ?_
   refine JLg (BL a.2) (Hp O O O) ?_
   refine JLg (.ptr 1008 0) (Hg 1008 9 Qq O O) ?_
   refine Hd (u:=.junk) (Gy (u:=.agg (Box.cs a.1)) (ds:=(Box.cs a.1)) Y2 O O O O O O O O) ?_
   refine JLm (BL a.2) O ?_
   refine G4 (a1 ?_)
   refine fzQ [(1,E6 boxes),(2,E5 ids),(3,Ef s),(8,Ek c),(9,I64 d),(10,Ei a.1),(11,BL a.2),(15,E5 ids),(16,Ek ids.length),(17,Ek c)] [] 1008 rfl rfl rfl ø rfl ?_
   refine Jr fun a3=>?_
   refine JLm (BL a.2) O ?_
   refine JLg (BL (!a.2)) (G03 (b:=a.2) O O) ?_
   refine JLm (BL (!a.2)) O ?_
   refine JLo (.dptr ((Box.cs a.1).drop 2)) [] O .scf ø (fun hc=>Gb Y6 O O O) O ?_
   refine JLo (U8 a.1.Size) [31] O .scf ⟨Ua,ø⟩ (fun hc=>Ge Hz O O O) O ?_
   refine JLo (BL (decide (a.1.Size≠40))) [32] O .scf ⟨Ua,ø⟩ (fun hc=>H15 O O O) O ?_
   refine JLg (BL ((!a.2)||(decide (a.1.Size≠40)))) (G18 O O O O) ?_
   refine JLm (BL ((!a.2)||(decide (a.1.Size≠40)))) O ?_
   refine JLo (Ek c) [] O .scf ø (fun hc=>G5 O O) O ?_
   refine JLo (BL (decide (0 < (c:Int)))) [36] O .scf ⟨Ua,ø⟩ (fun hc=>G1b O O O) O ?_
   refine JLo (BL (decide (0 < (c:Int)))) [37] O .scf ⟨Ua,ø⟩ (fun hc=>G5 O O) O ?_
   refine JLo (I64 d) [] O .optt ø (fun hc=>G5 O O) O ?_
   refine JLo (E5 ids) [] O .optt ø (fun hc=>G5 O O) O ?_
   refine JLo (Ek c) [] O .optt ø (fun hc=>G5 O O) O ?_
   obtain⟨c2,a4,h⟩:=Gg h
   refine JLo (I64 c2) [41] O .optt ⟨Ua,ø⟩ (fun hc=>Gf6 (H59 (H9 hc a4)) O O O) O ?_
   obtain⟨e,a5,h⟩:=Gg h
   refine JLo (.dptr [I64 e]) [40,42] O .optt ⟨Ua,Ua,ø⟩ (fun hc=>(match G05 (H9 hc a5) with | ⟨_,hm_,hy_⟩=>H0 (f:=I64) (xs:=ids) (y:=e) O O O Gv hy_ hm_)) O ?_
   refine JLo (I64 e) [43] O .optt ⟨Ua,ø⟩ (fun hc=>Ge G9 O O O) O ?_
   refine JLo (BL (decide (d≤e))) [39,44] O .optt ⟨Ua,Ua,ø⟩ (fun hc=>Gf7 O O O) O ?_
   refine Gc (u:=BL ((decide (0 < (c:Int)))&&(decide (d≤e)))) [(38,BL (decide (0 < (c:Int)))),(45,_)] O O O .scf ⟨.all id,.part,ø⟩ (fun hc=>Rg O O O O) ?_
   refine JLg (BL (((!a.2)||(decide (a.1.Size≠40)))||((decide (0 < (c:Int)))&&(decide (d≤e))))) (G18 O O O O) ?_
   refine G4 (a3 ?_)
   refine JCc O h ?_ ?_<;>intro h hb
   ·
    refine Jr fun a6=>?_
    refine JLg (LS 1 (E4) ([]:List (List G1))) (Q6 1 O O) ?_
    refine JLm (I64 2) O ?_
    refine G4 (a6 ?_)
    refine Gw ?_
    exact⟨[LS 1 (E4) ([]:List (List G1)),I64 2],[],ø,O,⟨⟨_,O,.conv (.same O)⟩,⟨_,O,.conv (.same O)⟩,ø⟩,O,congrArg (fun r:(List (List G1))×Int=>(.tup [LS 1 (E4) r.1,I64 r.2]:AV)) (Kz h)⟩
   ·
    refine Gn ?_
    refine z ?_
    refine G2 ?_
    refine JLg (I64 ((c+1:Nat):Int)) (Ht (H7 l o) O O O) ?_
    refine JLm (I64 ((c+1:Nat):Int)) O ?_
    refine G4 ?_
    exact c1 _ _ (c+1) () (app1 x h) (by omega) ⟨(.sm O O),ø,rfl⟩
  ·
   have h:=app1 n (Hm k (H6 hb))
   refine Hj ?_
   refine b8 ?_
   refine Js fun a7=>?_
   refine Jr fun a8=>?_
   refine JLg (.agg (Gf.cs s)) (Gk J6 O O O) ?_
   obtain⟨g,a9,h⟩:=Gg h
   refine JLg (BL g) (H2 O (Gf0 s g a9) J56 ⟨O,O,ø⟩) ?_
   refine JLg (BL (!g)) (G03 (b:=g) O O) ?_
   refine JLm (BL (!g)) O ?_
   refine JLo (E5 ids) [] O .scf ø (fun hc=>G5 O O) O ?_
   refine JLo (Ek ids.length) [53] O .scf ⟨Ua,ø⟩ (fun hc=>G24 (f:=I64) (xs:=ids) Gv O O) O ?_
   refine JLo (BL (decide (4 < (ids.length:Int)))) [54] O .scf ⟨Ua,ø⟩ (fun hc=>G1b O O O) O ?_
   refine JLg (BL ((!g)||(decide (4 < (ids.length:Int))))) (G18 O O O O) ?_
   refine G4 (a8 ?_)
   refine JCc O h ?_ ?_<;>intro h hb
   ·
    refine Jr fun b0=>?_
    refine JLg (LS 1 (E4) ([]:List (List G1))) (Q6 1 O O) ?_
    refine JLm (I64 5) O ?_
    refine G4 (b0 ?_)
    refine Gw ?_
    exact⟨[LS 1 (E4) ([]:List (List G1)),I64 5],[],ø,O,⟨⟨_,O,.conv (.same O)⟩,⟨_,O,.conv (.same O)⟩,ø⟩,O,congrArg (fun r:(List (List G1))×Int=>(.tup [LS 1 (E4) r.1,I64 r.2]:AV)) (Kz h)⟩
   ·
    refine Gn ?_
    refine a7 ?_
    refine Jr fun b1=>?_
    refine JLg (.agg (Gf.cs s)) (Gk J6 O O O) ?_
    refine JLm (E6 boxes) O ?_
    refine JLm (E5 ids) O ?_
    obtain⟨j,b2,h⟩:=Gg h
    refine JLg (LS 1 (E4) j) (H2 O (Gef F s boxes ids j b2) J55 ⟨O,O,O,O,O,O,ø⟩) ?_
    refine JLm (LS 1 (E4) j) O ?_
    refine JLm (I64 0) O ?_
    refine G4 (b1 ?_)
    refine Gw ?_
    exact⟨[LS 1 (E4) j,I64 0],[],ø,O,⟨⟨_,O,.conv (.same O)⟩,⟨_,O,.conv (.same O)⟩,ø⟩,O,congrArg (fun r:(List (List G1))×Int=>(.tup [LS 1 (E4) r.1,I64 r.2]:AV)) (Kz h)⟩

def H31 (boxes:List Box) (calls:Int):Option Bool:=
 bif (((decide (calls < 1))||(decide (20 < calls)))||(decide (2000 < (boxes.length:Int)))) then
 (some false)
 else
 (each (fun a d (b:Int) c=>
   bif ((((((decide (a.ID≤b))||(decide (999999 < a.ID)))||((decide (a.Size≠40))&&((decide (a.Size≠20))||a.High)))||(decide (a.Load < 0)))||(decide (a.Discharge≤a.Load)))||(decide (calls≤a.Discharge))) then
   (some false)
   else
   (c a.ID))
  (fun(b:Int)=>
   some true) boxes 0 0)
theorem J87 (boxes:List Box) (calls:Int) (r:Bool) (h:H31 boxes calls=some r):Pure Em 65 [E6 boxes,I64 calls] (·=BL r):=by
 unfold H31 at h
 refine H5 [.tmp 4] Tryz.func65 O O ?_
 refine Jr fun x=>?_
 refine JLm (BL false) O ?_
 refine G4 (x ?_)
 refine Js fun z=>?_
 refine Jr fun a0=>?_
 refine JLm (I64 calls) O ?_
 refine JLg (BL (decide (calls < 1))) (J8 O O O) ?_
 refine JLm (BL (decide (calls < 1))) O ?_
 refine JLo (I64 calls) [] O .scf ø (fun hc=>G5 O O) O ?_
 refine JLo (BL (decide (20 < calls))) [11] O .scf ⟨Ua,ø⟩ (fun hc=>G1b O O O) O ?_
 refine JLg (BL ((decide (calls < 1))||(decide (20 < calls)))) (G18 O O O O) ?_
 refine JLm (BL ((decide (calls < 1))||(decide (20 < calls)))) O ?_
 refine JLo (E6 boxes) [] O .scf ø (fun hc=>G5 O O) O ?_
 refine JLo (Ek boxes.length) [15] O .scf ⟨Ua,ø⟩ (fun hc=>G24 (f:=Box.av) (xs:=boxes) Jd O O) O ?_
 refine JLo (BL (decide (2000 < (boxes.length:Int)))) [16] O .scf ⟨Ua,ø⟩ (fun hc=>G1b O O O) O ?_
 refine JLg (BL (((decide (calls < 1))||(decide (20 < calls)))||(decide (2000 < (boxes.length:Int))))) (G18 O O O O) ?_
 refine G4 (a0 ?_)
 refine JCc O h ?_ ?_<;>intro h hb
 ·
  refine Jr fun a1=>?_
  refine JLm (BL false) O ?_
  refine G4 (a1 ?_)
  refine Gw ?_
  exact fin1 BL h
 ·
  refine Gn ?_
  refine z ?_
  refine Jr fun a2=>?_
  refine JLm (I64 0) O ?_
  refine G4 (a2 ?_)
  refine Js fun a3=>?_
  refine Jr fun a4=>?_
  refine JLm (E6 boxes) O ?_
  refine JLl Jd O O O fun i=>?_
  refine JLm (I64 0) O ?_
  refine G4 (a4 ?_)
  refine Gi ?_
  obtain⟨a5,j,k,g,h⟩:=Hu h
  refine Hf (fun c (b:Int)=>each a5 j (List.drop c boxes) c b=some r) (fun c b=>[(1,I64 calls),(5,I64 b),(19,E6 boxes),(20,Ek boxes.length),(21,Ek c)]) (fun c b=>[]) (fun c=>boxes.length - c) 0 0 h ⟨(.sm O O),ø,rfl⟩ ?_
  clear h
  intro c b d a8 a6
  refine Jr fun l=>?_
  refine JLg (BL (decide ((c:Int) < (boxes.length:Int)))) (J8 O O O) ?_
  refine G4 (l ?_)
  refine Js fun m=>?_
  refine Gj O (fun hb=>?_) (fun hb=>?_)
  ·
   have e:=Jh hb
   obtain⟨a,a7,n,o,h⟩:=Hk d e
   replace h:=Rh k h
   refine Gn ?_
   refine m ?_
   refine Js fun p=>?_
   refine Gi ?_
   refine Jr fun q=>?_
   refine JLg (Ei a) (H0 (f:=Box.av) (xs:=boxes) (y:=a) O O O Jd n O) ?_
   refine JLg (.agg (Box.cs a)) (Gk Ye O O O) ?_
   refine JLg (.ptr 1126 0) (Hg 1126 9 Qq O O) ?_
   refine Hd (u:=.junk) (Gy (u:=.agg (Box.cs a)) (ds:=(Box.cs a)) Y2 O O O O O O O O) ?_
   refine G4 (q ?_)
   refine fzQ [(1,I64 calls),(5,I64 b),(7,Ei a),(19,E6 boxes),(20,Ek boxes.length),(21,Ek c)] [] 1126 rfl rfl rfl ø rfl ?_
   refine Js fun s=>?_
   refine Jr fun t=>?_
   refine JLg (Ei a) (Gb Qh O O O) ?_
   refine JLg (I64 a.ID) (Ge G9 O O O) ?_
   refine JLm (I64 b) O ?_
   refine JLg (BL (decide (a.ID≤b))) (Gf7 O O O) ?_
   refine JLm (BL (decide (a.ID≤b))) O ?_
   refine JLo (Ei a) [] O .scf ø (fun hc=>Gb Qh O O O) O ?_
   refine JLo (I64 a.ID) [30] O .scf ⟨Ua,ø⟩ (fun hc=>Ge G9 O O O) O ?_
   refine JLo (BL (decide (999999 < a.ID))) [31] O .scf ⟨Ua,ø⟩ (fun hc=>G1b O O O) O ?_
   refine JLg (BL ((decide (a.ID≤b))||(decide (999999 < a.ID)))) (G18 O O O O) ?_
   refine JLm (BL ((decide (a.ID≤b))||(decide (999999 < a.ID)))) O ?_
   refine JLo (.dptr ((Box.cs a).drop 2)) [] O .scf ø (fun hc=>Gb Y6 O O O) O ?_
   refine JLo (U8 a.Size) [35] O .scf ⟨Ua,ø⟩ (fun hc=>Ge Hz O O O) O ?_
   refine JLo (BL (decide (a.Size≠40))) [36] O .scf ⟨Ua,ø⟩ (fun hc=>H15 O O O) O ?_
   refine JLo (BL (decide (a.Size≠40))) [37] O .scf ⟨Ua,ø⟩ (fun hc=>G5 O O) O ?_
   refine JLo (.dptr ((Box.cs a).drop 2)) [] O .optt ø (fun hc=>Gb Y6 O O O) O ?_
   refine JLo (U8 a.Size) [39] O .optt ⟨Ua,ø⟩ (fun hc=>Ge Hz O O O) O ?_
   refine JLo (BL (decide (a.Size≠20))) [40] O .optt ⟨Ua,ø⟩ (fun hc=>H15 O O O) O ?_
   refine JLo (BL (decide (a.Size≠20))) [41] O .optt ⟨Ua,ø⟩ (fun hc=>G5 O O) O ?_
   refine JLo (.dptr ((Box.cs a).drop 3)) [] O .optf ø (fun hc=>Gb Gfa O O O) O ?_
   refine JLo (BL a.High) [43] O .optf ⟨Ua,ø⟩ (fun hc=>Ge Ra O O O) O ?_
   refine Gc (u:=BL ((decide (a.Size≠20))||a.High)) [(42,BL (decide (a.Size≠20))),(44,_)] O O O .optt ⟨.all id,.part,ø⟩ (fun hc=>G18 O O O O) ?_
   refine Gc (u:=BL ((decide (a.Size≠40))&&((decide (a.Size≠20))||a.High))) [(38,BL (decide (a.Size≠40))),(45,_)] O O O .scf ⟨.all id,.part,ø⟩ (fun hc=>Rg O O O O) ?_
   refine JLg (BL (((decide (a.ID≤b))||(decide (999999 < a.ID)))||((decide (a.Size≠40))&&((decide (a.Size≠20))||a.High)))) (G18 O O O O) ?_
   refine JLm (BL (((decide (a.ID≤b))||(decide (999999 < a.ID)))||((decide (a.Size≠40))&&((decide (a.Size≠20))||a.High)))) O ?_
   refine JLo (.dptr ((Box.cs a).drop 5)) [] O .scf ø (fun hc=>Gb Y5 O O O) O ?_
   refine JLo (I64 a.Load) [49] O .scf ⟨Ua,ø⟩ (fun hc=>Ge G9 O O O) O ?_
   refine JLo (BL (decide (a.Load < 0))) [50] O .scf ⟨Ua,ø⟩ (fun hc=>J8 O O O) O ?_
   refine JLg (BL ((((decide (a.ID≤b))||(decide (999999 < a.ID)))||((decide (a.Size≠40))&&((decide (a.Size≠20))||a.High)))||(decide (a.Load < 0)))) (G18 O O O O) ?_
   refine JLm (BL ((((decide (a.ID≤b))||(decide (999999 < a.ID)))||((decide (a.Size≠40))&&((decide (a.Size≠20))||a.High)))||(decide (a.Load < 0)))) O ?_
   refine JLo (.dptr ((Box.cs a).drop 5)) [] O .scf ø (fun hc=>Gb Y5 O O O) O ?_
   refine JLo (I64 a.Load) [54] O .scf ⟨Ua,ø⟩ (fun hc=>Ge G9 O O O) O ?_
   refine JLo (.dptr ((Box.cs a).drop 6)) [] O .scf ø (fun hc=>Gb Yu O O O) O ?_
   refine JLo (I64 a.Discharge) [56] O .scf ⟨Ua,ø⟩ (fun hc=>Ge G9 O O O) O ?_
   refine JLo (BL (decide (a.Discharge≤a.Load))) [55,57] O .scf ⟨Ua,Ua,ø⟩ (fun hc=>Gdd O O O) O ?_
   refine JLg (BL (((((decide (a.ID≤b))||(decide (999999 < a.ID)))||((decide (a.Size≠40))&&((decide (a.Size≠20))||a.High)))||(decide (a.Load < 0)))||(decide (a.Discharge≤a.Load)))) (G18 O O O O) ?_
   refine JLm (BL (((((decide (a.ID≤b))||(decide (999999 < a.ID)))||((decide (a.Size≠40))&&((decide (a.Size≠20))||a.High)))||(decide (a.Load < 0)))||(decide (a.Discharge≤a.Load)))) O ?_
   refine JLo (.dptr ((Box.cs a).drop 6)) [] O .scf ø (fun hc=>Gb Yu O O O) O ?_
   refine JLo (I64 a.Discharge) [61] O .scf ⟨Ua,ø⟩ (fun hc=>Ge G9 O O O) O ?_
   refine JLo (I64 calls) [] O .scf ø (fun hc=>G5 O O) O ?_
   refine JLo (BL (decide (calls≤a.Discharge))) [62,63] O .scf ⟨Ua,Ua,ø⟩ (fun hc=>Gdd O O O) O ?_
   refine JLg (BL ((((((decide (a.ID≤b))||(decide (999999 < a.ID)))||((decide (a.Size≠40))&&((decide (a.Size≠20))||a.High)))||(decide (a.Load < 0)))||(decide (a.Discharge≤a.Load)))||(decide (calls≤a.Discharge)))) (G18 O O O O) ?_
   refine G4 (t ?_)
   refine JCc O h ?_ ?_<;>intro h hb
   ·
    refine Jr fun v=>?_
    refine JLm (BL false) O ?_
    refine G4 (v ?_)
    refine Gw ?_
    exact fin1 BL h
   ·
    refine Gn ?_
    refine s ?_
    refine G2 ?_
    refine JLg (Ei a) (Gb Qh O O O) ?_
    refine JLg (I64 a.ID) (Ge G9 O O O) ?_
    refine JLm (I64 a.ID) O ?_
    refine G4 (p ?_)
    refine G2 ?_
    refine JLg (I64 ((c+1:Nat):Int)) (Ht (H7 e i) O O O) ?_
    refine JLm (I64 ((c+1:Nat):Int)) O ?_
    refine G4 ?_
    exact a6 _ _ (c+1) a.ID (app1 o h) (by omega) ⟨(.sm O O),ø,rfl⟩
  ·
   have h:=app1 g (Hm d (H6 hb))
   refine Hj ?_
   refine a3 ?_
   refine Jr fun w=>?_
   refine JLm (BL true) O ?_
   refine G4 (w ?_)
   refine Gw ?_
   exact fin1 BL h

def Rk (boxes:List Box) (call:Int):Option (List Int):=
 each (fun b f (a:(List Int)) d=>
  jp (fun c=>
   bif ((decide (b.Load≤call))&&(decide (call < b.Discharge))) then
   (need (decide ((a.length+[b.ID].length)*8≤140737488355328∧a.length+[b.ID].length≤maxLen)) <|
    c (a++[b.ID]))
   else
   (c a)) fun(e:(List Int))=>
  d e)
 (fun(a:(List Int))=>
  some a) boxes 0 []
theorem H3b (boxes:List Box) (call:Int) (r:(List Int)) (h:Rk boxes call=some r):Pure Em 25 [E6 boxes,I64 call] (·=E5 r):=by
 unfold Rk at h
 refine H5 [.tmp 4] Tryz.func25 O O ?_
 refine Jr fun x=>?_
 refine JLg (E5 ([]:List Int)) (Q6 1 O O) ?_
 refine G4 (x ?_)
 refine Jr fun z=>?_
 refine JLg (OW 1066 1 I64 ([]:List Int)) (G31 1066 3 1 O O O) ?_
 refine G4 (z ?_)
 refine Js fun a0=>?_
 refine Jr fun a1=>?_
 refine JLm (E6 boxes) O ?_
 refine JLl Jd O O O fun a2=>?_
 refine JLm (I64 0) O ?_
 refine G4 (a1 ?_)
 refine Gi ?_
 obtain⟨a3,k,l,i,h⟩:=Hu h
 refine Hf (fun c (b:(List Int))=>each a3 k (List.drop c boxes) c b=some r) (fun c b=>[(1,I64 call),(5,OW 1066 1 I64 b),(8,E6 boxes),(9,Ek boxes.length),(10,Ek c)]) (fun c b=>[(1066,.spare 3 1 b.length b.length)]) (fun c=>boxes.length - c) 0 [] h ⟨(.sm O O),⟨⟨_,rfl,.same⟩,ø⟩,rfl⟩ ?_
 clear h
 intro c b e a6 a4
 refine Jr fun m=>?_
 refine JLg (BL (decide ((c:Int) < (boxes.length:Int)))) (J8 O O O) ?_
 refine G4 (m ?_)
 refine Js fun n=>?_
 refine Gj O (fun hb=>?_) (fun hb=>?_)
 ·
  have g:=Jh hb
  obtain⟨a,a5,o,p,h⟩:=Hk e g
  replace h:=Rh l h
  refine Gn ?_
  refine n ?_
  obtain⟨q,j,h⟩:=Qr h
  refine Q0 (fun d:(List Int)=>q d=some r) (fun d=>[(1,I64 call),(5,OW 1066 1 I64 d),(8,E6 boxes),(9,Ek boxes.length),(10,Ek c)]) (fun d=>[(1066,.spare 3 1 d.length d.length)]) (fun Kj22 ej22=>?_) ?_
  ·
   refine Gi ?_
   refine Jr fun s=>?_
   refine JLg (Ei a) (H0 (f:=Box.av) (xs:=boxes) (y:=a) O O O Jd o O) ?_
   refine JLg (.agg (Box.cs a)) (Gk Ye O O O) ?_
   refine JLg (.ptr 1067 0) (Hg 1067 9 Qq O O) ?_
   refine Hd (u:=.junk) (Gy (u:=.agg (Box.cs a)) (ds:=(Box.cs a)) Y2 O O O O O O O O) ?_
   refine G4 (s ?_)
   refine fzQ [(1,I64 call),(5,OW 1066 1 I64 b),(7,Ei a),(8,E6 boxes),(9,Ek boxes.length),(10,Ek c)] [(1066,.spare 3 1 b.length b.length)] 1067 rfl rfl rfl ⟨⟨_,rfl,.same⟩,ø⟩ rfl ?_
   refine Jr fun t=>?_
   refine JLg (.dptr ((Box.cs a).drop 5)) (Gb Y5 O O O) ?_
   refine JLg (I64 a.Load) (Ge G9 O O O) ?_
   refine JLm (I64 call) O ?_
   refine JLg (BL (decide (a.Load≤call))) (Gf7 O O O) ?_
   refine JLm (BL (decide (a.Load≤call))) O ?_
   refine JLo (I64 call) [] O .sct ø (fun hc=>G5 O O) O ?_
   refine JLo (.dptr ((Box.cs a).drop 6)) [] O .sct ø (fun hc=>Gb Yu O O O) O ?_
   refine JLo (I64 a.Discharge) [20] O .sct ⟨Ua,ø⟩ (fun hc=>Ge G9 O O O) O ?_
   refine JLo (BL (decide (call < a.Discharge))) [19,21] O .sct ⟨Ua,Ua,ø⟩ (fun hc=>J8 O O O) O ?_
   refine JLg (BL ((decide (a.Load≤call))&&(decide (call < a.Discharge)))) (Rg O O O O) ?_
   refine G4 (t ?_)
   refine JCc O h ?_ ?_<;>intro h hb
   ·
    refine G2 ?_
    refine JLm (OW 1066 1 I64 b) O ?_
    refine JLg (Ei a) (Gb Qh O O O) ?_
    refine JLg (I64 a.ID) (Ge G9 O O O) ?_
    refine JLg (E5 [a.ID]) (He (xs:=[I64 a.ID]) O ⟨O,O,ø⟩ Gv Rm O O O O) ?_
    obtain⟨v,h⟩:=Hw h
    refine JLg (OW 1066 1 I64 (b++[a.ID])) (Qt (f:=I64) (xs:=b) (ys:=[a.ID]) O O O O Gv G36 v (fun _=>O) (.inl O) O) ?_
    refine JLm (OW 1066 1 I64 (b++[a.ID])) O ?_
    refine G4 ?_
    exact ej22 _ _ (b++[a.ID]) h ⟨(.sm O O),⟨⟨_,rfl,.same⟩,ø⟩,rfl⟩
   ·
    refine Gn ?_
    exact ej22 _ _ b h ⟨(.sm O O),⟨⟨_,rfl,.same⟩,ø⟩,rfl⟩
  ·intro d h
   replace h:=app1 j h
   refine G2 ?_
   refine JLg (I64 ((c+1:Nat):Int)) (Ht (H7 g a2) O O O) ?_
   refine JLm (I64 ((c+1:Nat):Int)) O ?_
   refine G4 ?_
   exact a4 _ _ (c+1) d (app1 p h) (by omega) ⟨(.sm O O),⟨⟨_,rfl,.same⟩,ø⟩,rfl⟩
 ·
  have h:=app1 i (Hm e (H6 hb))
  refine Hj ?_
  refine a0 ?_
  refine Jr fun w=>?_
  refine JLm (OW 1066 1 I64 b) O ?_
  refine JLm (OW 1066 1 I64 b) O ?_
  refine G4 (w ?_)
  refine Gw ?_
  exact fin1l (fun r:(List Int)=>(E5 r:AV)) h

def Yh (s:List Box) (f:Box→Option Bool):Option Bool:=
 bnd (Qz s f) fun a=>
 some (decide (0≤a))
theorem G8a (s:List Box) (f:Box→Option Bool) (f_f:FuncId) (f_c:List AV) (f_B:H8 Em f_f=true) (f_d:Q3 (fun _=>false) f_c=true) (f_w:∀ a0 q,f a0=some q→Pure Em f_f ([.agg (Box.cs a0)]++f_c) (·=BL q)) (r:Bool) (h:Yh s f=some r):Pure Em 66 [E6 s,.fn f_f f_c] (·=BL r):=by
 unfold Yh at h
 refine H5 [.tmp 4] Tryz.func66 O O ?_
 refine Jr fun b=>?_
 refine JLm (BL false) O ?_
 refine G4 (b ?_)
 refine Jr fun c=>?_
 refine JLm (E6 s) O ?_
 refine JLm (.fn f_f f_c) O ?_
 obtain⟨a,d,h⟩:=Gg h
 refine JLg (I64 a) (H2 O (G25 s f f_f f_c f_B f_d f_w a d) J52 ⟨O,O,O,f_d,ø⟩) ?_
 refine JLg (BL (decide (0≤a))) (Gdd O O O) ?_
 refine JLm (BL (decide (0≤a))) O ?_
 refine G4 (c ?_)
 refine Gw ?_
 exact fin1 BL h

def G3d (b:Box):Option Bool:=
 some (decide (b.Size≠40))
theorem Ha8 (b:Box) (r:Bool) (h:G3d b=some r):Pure Em 67 [.agg (Box.cs b)] (·=BL r):=by
 unfold G3d at h
 refine H5 [.tmp 2] Tryz.func67 O O ?_
 refine Jr fun a=>?_
 refine JLg (.ptr 1127 0) (Jt (cs:=(Box.cs b)) 1127 O O O O O) ?_
 refine JLm (BL false) O ?_
 refine G4 (a ?_)
 refine Gh [(1,Ei b)] [] 1127 rfl rfl rfl ø rfl (by exact⟨.ptr,ø⟩) ?_
 refine Jr fun c=>?_
 refine JLg (.dptr ((Box.cs b).drop 2)) (Gb Y6 O O O) ?_
 refine JLg (U8 b.Size) (Ge Hz O O O) ?_
 refine JLg (BL (decide (b.Size≠40))) (H15 O O O) ?_
 refine JLm (BL (decide (b.Size≠40))) O ?_
 refine G4 (c ?_)
 refine Gw ?_
 exact fin1 BL h

def G0b (s:Gf) (boxes:List Box) (calls:Int):Option Bool:=
 bnd (Qu s) fun a=>
 bnd (bif (!(!a)) then Z9 s else some default) fun c=>
 bnd (bif (!(((!a)||(!c))||(decide (4 < calls)))) then H31 boxes calls else some default) fun h=>
 bif ((((!a)||(!c))||(decide (4 < calls)))||(!h)) then
 (some false)
 else
 (need (decide (calls≤9223372036854775807)) <|
  upto (fun d (e:Unit) b=>
   bnd (Rk boxes (d:Int)) fun f=>
   bif decide (4 < (f.length:Int)) then
   (some false)
   else
   (b ()))
  (fun(e:Unit)=>
   bnd (Yh boxes (fun z0=>G3d z0)) fun g=>
   some (!g)) calls.toNat 0 ())
theorem G8b (s:Gf) (boxes:List Box) (calls:Int) (r:Bool) (h:G0b s boxes calls=some r):Pure Em 24 [.agg (Gf.cs s),E6 boxes,I64 calls] (·=BL r):=by
 unfold G0b at h
 refine H5 [.tmp 6] Tryz.func24 O O ?_
 refine Jr fun a2=>?_
 refine JLg (.ptr 1065 0) (Jt (cs:=(Gf.cs s)) 1065 O O O O O) ?_
 refine JLm (BL false) O ?_
 refine G4 (a2 ?_)
 refine Gh [(1,E6 boxes),(2,I64 calls),(3,Ef s)] [] 1065 rfl rfl rfl ø rfl (by exact⟨.conv (.same rfl),.conv (.same rfl),.ptr,ø⟩) ?_
 refine Js fun a3=>?_
 refine Jr fun a4=>?_
 refine JLg (.agg (Gf.cs s)) (Gk J6 O O O) ?_
 obtain⟨c,a5,h⟩:=Gg h
 refine JLg (BL c) (H2 O (Gd9.down s c a5) H93 ⟨O,O,ø⟩) ?_
 refine JLg (BL (!c)) (G03 (b:=c) O O) ?_
 refine JLm (BL (!c)) O ?_
 refine JLo (.agg (Gf.cs s)) [] O .scf ø (fun hc=>Gk J6 O O O) O ?_
 obtain⟨d,a6,h⟩:=Gg h
 refine JLo (BL d) [12] O .scf ⟨Ua,ø⟩ (fun hc=>H2 (args:=[.agg (Gf.cs s)]) O (Gf0 s d (H9 hc a6)) J56 ⟨O,O,ø⟩) O ?_
 refine JLo (BL (!d)) [13] O .scf ⟨Ua,ø⟩ (fun hc=>G03 (b:=d) O O) O ?_
 refine JLg (BL ((!c)||(!d))) (G18 O O O O) ?_
 refine JLm (BL ((!c)||(!d))) O ?_
 refine JLo (I64 calls) [] O .scf ø (fun hc=>G5 O O) O ?_
 refine JLo (BL (decide (4 < calls))) [17] O .scf ⟨Ua,ø⟩ (fun hc=>G1b O O O) O ?_
 refine JLg (BL (((!c)||(!d))||(decide (4 < calls)))) (G18 O O O O) ?_
 refine JLm (BL (((!c)||(!d))||(decide (4 < calls)))) O ?_
 refine JLo (E6 boxes) [] O .scf ø (fun hc=>G5 O O) O ?_
 refine JLo (I64 calls) [] O .scf ø (fun hc=>G5 O O) O ?_
 obtain⟨g,a7,h⟩:=Gg h
 refine JLo (BL g) [21,22] O .scf ⟨Ua,Ua,ø⟩ (fun hc=>H2 (args:=[E6 boxes,I64 calls]) O (J87 boxes calls g (H9 hc a7)) Q86 ⟨O,O,O,O,ø⟩) O ?_
 refine JLo (BL (!g)) [23] O .scf ⟨Ua,ø⟩ (fun hc=>G03 (b:=g) O O) O ?_
 refine JLg (BL ((((!c)||(!d))||(decide (4 < calls)))||(!g))) (G18 O O O O) ?_
 refine G4 (a4 ?_)
 refine JCc O h ?_ ?_<;>intro h hb
 ·
  refine Jr fun a8=>?_
  refine JLm (BL false) O ?_
  refine G4 (a8 ?_)
  refine Gw ?_
  exact fin1 BL h
 ·
  refine Gn ?_
  refine a3 ?_
  refine Js fun a9=>?_
  refine Jr fun b0=>?_
  refine JLm (I64 calls) O ?_
  refine JLm (I64 0) O ?_
  refine G4 (b0 ?_)
  refine Gi ?_
  obtain⟨m,h⟩:=Hw h
  obtain⟨b1,n,o,l,h⟩:=G90 h
  refine Hf (fun a (f:Unit)=>upto b1 n (calls.toNat - a) a f=some r) (fun a f=>[(1,E6 boxes),(26,I64 calls),(27,Ek a)]) (fun a f=>[]) (fun a=>calls.toNat - a) 0 () h ⟨(.sm O O),ø,O⟩ ?_
  clear h
  intro a f i b5 b2
  refine Jr fun p=>?_
  refine JLg (BL (decide ((a:Int) < calls))) (J8 O O O) ?_
  refine G4 (p ?_)
  refine Js fun t=>?_
  refine Gj O (fun hb=>?_) (fun hb=>?_)
  ·
   have j:=G46 hb
   obtain⟨b3,u,h⟩:=G41 i j
   replace h:=Hef o h
   refine Gn ?_
   refine t ?_
   refine Js fun v=>?_
   refine Gi ?_
   refine Jr fun w=>?_
   refine JLm (Ek a) O ?_
   refine JLm (Ek a) O ?_
   refine G4 (w ?_)
   refine Jr fun x=>?_
   refine JLm (E6 boxes) O ?_
   refine JLm (Ek a) O ?_
   obtain⟨k,y,h⟩:=Gg h
   refine JLg (E5 k) (H2 O (H3b boxes (a:Int) k y) J54 ⟨O,O,O,O,ø⟩) ?_
   refine JLl Gv O O O fun b4=>?_
   refine JLg (BL (decide (4 < (k.length:Int)))) (G1b O O O) ?_
   refine G4 (x ?_)
   refine JCc O h ?_ ?_<;>intro h hb
   ·
    refine Jr fun z=>?_
    refine JLm (BL false) O ?_
    refine G4 (z ?_)
    refine Gw ?_
    exact fin1 BL h
   ·
    refine Gn ?_
    refine v ?_
    refine G2 ?_
    refine JLg (I64 ((a+1:Nat):Int)) (Ht (H7 j (Z8 m)) O O O) ?_
    refine JLm (I64 ((a+1:Nat):Int)) O ?_
    refine G4 ?_
    exact b2 _ _ (a+1) () (app1 u h) (by omega) ⟨(.sm O O),ø,rfl⟩
  ·
   have h:=app1 l (G42 i (Y8 hb))
   refine Hj ?_
   refine a9 ?_
   refine Jr fun a0=>?_
   refine JLm (E6 boxes) O ?_
   obtain⟨e,a1,h⟩:=Gg h
   refine JLg (BL e) (H2 O (G8a boxes (fun z0=>G3d z0) 67 [] Q84 O (fun z0 q hq=>Ha8 z0 q hq) e a1) Q85 ⟨O,O,O,O,ø⟩) ?_
   refine JLg (BL (!e)) (G03 (b:=e) O O) ?_
   refine JLm (BL (!e)) O ?_
   refine G4 (a0 ?_)
   refine Gw ?_
   exact fin1 BL h
end
end Go.Proofs.YtibhpogonkdiaaaGreat
