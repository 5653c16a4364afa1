/- Walks of functions. -/
import Derived.Test.YtibhpogonkdiaaaGreatSpecF
set_option linter.unnecessarySimpa false
set_option maxRecDepth 100000
set_option maxHeartbeats 1000000
set_option linter.unusedVariables false
set_option linter.unusedSimpArgs false
namespace Go.Proofs.YtibhpogonkdiaaaGreat
open Go.RowKit
noncomputable section
def G1.vs (x:G1):List Value:=[.int .i64 x.Box,.int .i64 x.Slot.G4,.int .i64 x.Slot.Tier,.int .u8 x.Slot.Half]
namespace XSF
open XAF
open XCF
open XFF
theorem Y39 (a b:Slot):H93 En 4 63 [.int .i64 a.G4,.int .i64 a.Tier,.int .u8 a.Half] [.int .i64 b.G4,.int .i64 b.Tier,.int .u8 b.Half]=some (decide (a=b)):=by
 refine(show _=some ((a.G4==b.G4)&&((a.Tier==b.Tier)&&((a.Half==b.Half)&&true))) by kernel_rfl).trans (congrArg some ?_)
 rw [Bool.eq_iff_iff]
 simp only [Ma,beq_iff_eq,Mb,Bool.and_true]
 constructor
 ·intro h; obtain⟨_,_,_⟩:=a; obtain⟨_,_,_⟩:=b; simp_all
 ·intro h; subst h; simp
theorem Qa:Gb8 En 63 3=true:=by kernel_rfl
theorem J58:G29 En 63=true:=by kernel_rfl
theorem Q9c:Hh En 106=true:=by kernel_rfl
theorem Q9b:Hh En 107=true:=by kernel_rfl
theorem Q97:Hh En 113=true:=by kernel_rfl
theorem Q96:Hh En 114=true:=by kernel_rfl
theorem Q95:Hh En 115=true:=by kernel_rfl
theorem G87:Hh En 14=true:=by kernel_rfl
theorem Jad:Hh En 15=true:=by kernel_rfl
theorem Hdb:Hh En 20=true:=by kernel_rfl
theorem Hda:Hh En 21=true:=by kernel_rfl
theorem Jac:Hh En 22=true:=by kernel_rfl
theorem Jab:Hh En 23=true:=by kernel_rfl
theorem Jaa:Hh En 25=true:=by kernel_rfl
theorem R0d:Hh En 37=true:=by kernel_rfl
theorem R0c:Hh En 38=true:=by kernel_rfl
theorem R0b:Hh En 39=true:=by kernel_rfl
theorem R0a:Hh En 40=true:=by kernel_rfl
theorem R09:Hh En 41=true:=by kernel_rfl
theorem R08:Hh En 44=true:=by kernel_rfl
theorem Ja8:Hh En 57=true:=by kernel_rfl
theorem R05:Hh En 58=true:=by kernel_rfl
theorem R04:Hh En 59=true:=by kernel_rfl
theorem R03:Hh En 61=true:=by kernel_rfl
theorem R02:Hh En 62=true:=by kernel_rfl
theorem R01:Hh En 63=true:=by kernel_rfl
theorem R00:Hh En 64=true:=by kernel_rfl
theorem Qff:Hh En 65=true:=by kernel_rfl
theorem Qfe:Hh En 66=true:=by kernel_rfl
theorem Qfd:Hh En 67=true:=by kernel_rfl
theorem Qf9:Hh En 74=true:=by kernel_rfl
theorem Hd8:Hh En 75=true:=by kernel_rfl
theorem Qf8:Hh En 76=true:=by kernel_rfl
theorem Ja3:Hh En 77=true:=by kernel_rfl
theorem Ja2:Hh En 78=true:=by kernel_rfl
theorem Ja0:Hh En 80=true:=by kernel_rfl
theorem H5b:Rw En 59 1 24=true:=by kernel_rfl
theorem J9b:Rw En 63 3 24=true:=by kernel_rfl
theorem Q1a:En.eqGuardType En.depth 63=false:=by kernel_rfl
theorem R2:Ju En 37 0 0=true:=by kernel_rfl
theorem H3a:Ju En 37 3 3=true:=by kernel_rfl
theorem Qd:Ju En 63 0 0=true:=by kernel_rfl
theorem Ru:Ju En 63 1 1=true:=by kernel_rfl
theorem Rt:Ju En 63 2 2=true:=by kernel_rfl
theorem Jz:Ju En 65 0 0=true:=by kernel_rfl
theorem Qc:Ju En 65 1 1=true:=by kernel_rfl
theorem Ym:placesOf En 37=some [(0,1),(1,1),(2,1),(3,1),(4,1),(5,1),(6,1),(7,1),(8,1)]:=by kernel_rfl
theorem G9b:R9 En 38=true:=by kernel_rfl
theorem H5a:R9 En 60=true:=by kernel_rfl
theorem H59:Re En 42 1=true:=by kernel_rfl
theorem G3a:Re En 63 3=true:=by kernel_rfl
theorem Rk:sliceB En 60 63 3=true:=by kernel_rfl
theorem R7b:(En.info? 3).bind (fun i=>i.zero.map Value.cells)=some (List.toArray [E0]):=by kernel_rfl
theorem Zh:(En.info? 37).bind (fun i=>i.zero.map Value.cells)=some (List.toArray [E0,.string ByteArray.empty,.int .u8 0,.bool false,E0,E0,E0,.int .u8 0,.bool false]):=by kernel_rfl
theorem Qe9:(En.info? 42).bind (fun i=>i.zero.map Value.cells)=some (List.toArray [.slice none 0 0]):=by kernel_rfl
theorem Gd5:Qo En 59 1=true:=by kernel_rfl
theorem G0e:Qo En 63 3=true:=by kernel_rfl
end XSF
open XAF
open XCF
open XFF
open XSF

def G7a (b:Box) (a:Int):Option Bool:=
 some (decide (b.ID=a))
theorem J7d (b:Box) (a:Int) (r:Bool) (h:G7a b a=some r):Pure En 58 [.agg (Box.cs b),.dptr [I64 a]] (·=BL r):=by
 unfold G7a at h
 refine Ha [.tmp 3] Tryz.func58 O O ?_
 refine Jr fun c=>?_
 refine JLg (.ptr 1137 0) (Q5 (cs:=(Box.cs b)) 1137 O O O O O) ?_
 refine JLm (BL false) O ?_
 refine G6 (c ?_)
 refine Gj [(1,.dptr [I64 a]),(2,Eh b)] [] 1137 rfl rfl rfl ø rfl (by exact⟨.conv (.same rfl),.ptr,ø⟩) ?_
 refine Jr fun d=>?_
 refine JLg (Eh b) (Gc R2 O O O) ?_
 refine JLg (I64 b.ID) (Gf G9 O O O) ?_
 refine JLg (I64 a) (Gf G9 O O O) ?_
 refine JLg (BL (decide (b.ID=a))) (Q6 O O O) ?_
 refine JLm (BL (decide (b.ID=a))) O ?_
 refine G6 (d ?_)
 refine H2 ?_
 exact fin1 BL h

def R5 (s:List Box) (f:Box→Option Bool):Option Int:=
 each (fun b c (d:Unit) a=>
  bnd (f b) fun e=>
  bif e then
  (some (c:Int))
  else
  (a ()))
 (fun(d:Unit)=>
  some (-1)) s 0 ()
theorem G52 (s:List Box) (f:Box→Option Bool) (f_f:FuncId) (f_c:List AV) (f_B:Hh En f_f=true) (f_d:Qn (fun _=>false) f_c=true) (f_w:∀ a0 q,f a0=some q→Pure En f_f ([.agg (Box.cs a0)]++f_c) (·=BL q)) (r:Int) (h:R5 s f=some r):Pure En 57 [E6 s,.fn f_f f_c] (·=I64 r):=by
 unfold R5 at h
 refine Ha [.tmp 4] Tryz.func57 O O ?_
 refine Jr fun x=>?_
 refine JLm (I64 0) O ?_
 refine G6 (x ?_)
 refine Js fun z=>?_
 refine Jr fun a1=>?_
 refine JLm (E6 s) O ?_
 refine JLl Hw O O O fun a2=>?_
 refine JLm (I64 0) O ?_
 refine G6 (a1 ?_)
 refine Gk ?_
 obtain⟨a3,i,j,g,h⟩:=J5 h
 refine Hk (fun a (c:Unit)=>each a3 i (List.drop a s) a c=some r) (fun a c=>[(0,E6 s),(1,.fn f_f f_c),(7,Em s.length),(8,Em a)]) (fun a c=>[]) (fun a=>s.length - a) 0 () h ⟨⟨.same O,.same (Jx _ _ f_d),.same O,.same O,ø⟩,ø,O⟩ ?_
 clear h
 intro a c d a7 a4
 refine Jr fun k=>?_
 refine JLg (BL (decide ((a:Int) < (s.length:Int)))) (Jf O O O) ?_
 refine G6 (k ?_)
 refine Js fun l=>?_
 refine Gn O (fun hb=>?_) (fun hb=>?_)
 ·
  have e:=Jn hb
  obtain⟨b,a6,m,n,h⟩:=Hs d e
  replace h:=Rx j h
  refine Gp ?_
  refine l ?_
  refine Js fun o=>?_
  refine Gk ?_
  refine Jr fun p=>?_
  refine JLm (Em a) O ?_
  refine JLm (Em a) O ?_
  refine G6 (p ?_)
  refine Jr fun t=>?_
  refine JLm (.fn f_f f_c) O ?_
  refine JLm (E6 s) O ?_
  refine JLm (Em a) O ?_
  refine JLg (Eh b) (H4 (f:=Box.av) (xs:=s) (y:=b) O O O Hw m O) ?_
  refine JLg (.agg (Box.cs b)) (Gg Ys O O O) ?_
  obtain⟨a5,u,h⟩:=Gh h
  refine JLg (BL a5) (G33 (args:=[.agg (Box.cs b)]) (caps:=f_c) O O (f_w b _ u) f_B ⟨O,O,ø⟩ f_d) ?_
  refine G6 (t ?_)
  refine JCc O h ?_ ?_<;>intro h hb
  ·
   refine Jr fun v=>?_
   refine JLm (Em a) O ?_
   refine JLm (Em a) O ?_
   refine G6 (v ?_)
   refine H2 ?_
   exact fin1 I64 h
  ·
   refine Gp ?_
   refine o ?_
   refine G2 ?_
   refine JLg (I64 ((a+1:Nat):Int)) (Hz (He e a2) O O O) ?_
   refine JLm (I64 ((a+1:Nat):Int)) O ?_
   refine G6 ?_
   exact a4 _ _ (a+1) () (app1 n h) (by omega) ⟨⟨.same rfl,.same (Jx _ _ f_d),.same rfl,.same rfl,ø⟩,ø,rfl⟩
 ·
  have h:=app1 g (Ht d (H9 hb))
  refine Hr ?_
  refine z ?_
  refine Jr fun w=>?_
  refine JLm (I64 (-1)) O ?_
  refine G6 (w ?_)
  refine H2 ?_
  exact fin1 I64 h

def G36 (boxes:List Box) (id_:Int):Option (Box×Bool):=
 bnd (R5 boxes (fun z0=>G7a z0 id_)) fun a=>
 bif decide (a < 0) then
 (some ((Box.mk 0 ByteArray.empty 0 false 0 0 0 0 false),false))
 else
 (Q4 boxes a fun b=>
  some (b,true))
theorem H40 (boxes:List Box) (id_:Int) (r:Box×Bool) (h:G36 boxes id_=some r):Pure En 21 [E6 boxes,I64 id_] (·=.tup [.agg (Box.cs r.1),BL r.2]):=by
 unfold G36 at h
 refine Ha [.cell 4 37,.tmp 5] Tryz.func21 O O ?_
 refine Jr fun c=>?_
 refine JLg (.ptr 1076 0) (Q5 (cs:=[I64 id_]) 1076 O O O O O) ?_
 refine JLg (.ptr 1077 0) (Yc 1077 [I64 0,ST Kr,U8 0,BL false,I64 0,I64 0,I64 0,U8 0,BL false] [E0,.string ByteArray.empty,.int .u8 0,.bool false,E0,E0,E0,.int .u8 0,.bool false] Zh (zzQ O) O O) ?_
 refine JLm (BL false) O ?_
 refine G6 (c ?_)
 refine Gj [(0,E6 boxes),(3,.dptr [I64 id_]),(4,.ptr 1077 0)] [(1077,.box 37 [I64 0,ST Kr,U8 0,BL false,I64 0,I64 0,I64 0,U8 0,BL false])] 1076 rfl rfl rfl ⟨⟨_,rfl,.boxEq rfl rfl⟩,ø⟩ rfl (by exact⟨.conv (.same rfl),.ptr,.conv (.same rfl),ø⟩) ?_
 refine Jr fun d=>?_
 refine JLm (E6 boxes) O ?_
 refine JLg (.fn 58 [.dptr [I64 id_]]) (Z5 (cs:=[.dptr [I64 id_]]) O O) ?_
 obtain⟨a,e,h⟩:=Gh h
 refine JLg (I64 a) (H3 O (G52 boxes (fun z0=>G7a z0 id_) 58 [.dptr [I64 id_]] R05 O (fun z0 q hq=>J7d z0 id_ q hq) a e) Ja8 ⟨O,O,O,O,ø⟩) ?_
 refine JLm (I64 a) O ?_
 refine G6 (d ?_)
 refine Js fun g=>?_
 refine Jr fun i=>?_
 refine JLm (I64 a) O ?_
 refine JLg (BL (decide (a < 0))) (Jf O O O) ?_
 refine G6 (i ?_)
 refine JCc O h ?_ ?_<;>intro h hb
 ·
  refine Jr fun j=>?_
  refine JLg (.agg [I64 0,ST Kr,U8 0,BL false,I64 0,I64 0,I64 0,U8 0,BL false]) (Ja (cs:=[I64 0,ST Kr,U8 0,BL false,I64 0,I64 0,I64 0,U8 0,BL false]) [(0,1),(1,1),(2,1),(3,1),(4,1),(5,1),(6,1),(7,1),(8,1)] [I64 0,ST Kr,U8 0,BL false,I64 0,I64 0,I64 0,U8 0,BL false] [E0,.string ByteArray.empty,.int .u8 0,.bool false,E0,E0,E0,.int .u8 0,.bool false] Ym Zh (zzQ O) O O) ?_
  refine Hb (u:=.junk) (H0 (u:=.agg [I64 0,ST Kr,U8 0,BL false,I64 0,I64 0,I64 0,U8 0,BL false]) (ds:=[I64 0,ST Kr,U8 0,BL false,I64 0,I64 0,I64 0,U8 0,BL false]) Y1 O O O O O O O O) ?_
  refine JLm (BL false) O ?_
  refine G6 (j ?_)
  refine H2 ?_
  exact⟨[.agg [I64 0,ST Kr,U8 0,BL false,I64 0,I64 0,I64 0,U8 0,BL false],BL false],[],ø,O,⟨⟨_,⟨_,_,_,_,O,O,O,.inl ⟨Ys,O⟩⟩,.conv (.same O)⟩,⟨_,O,.conv (.same O)⟩,ø⟩,O,congrArg (fun r:Box×Bool=>(.tup [.agg (Box.cs r.1),BL r.2]:AV)) (Ky h)⟩
 ·
  refine Gp ?_
  refine g ?_
  refine Jr fun k=>?_
  refine JLm (E6 boxes) O ?_
  refine JLm (I64 a) O ?_
  obtain⟨n,b,l,m,h⟩:=Qx h
  refine JLg (Eh b) (H4 (f:=Box.av) (xs:=boxes) (y:=b) O O O Hw m l) ?_
  refine JLg (.agg (Box.cs b)) (Gg Ys O O O) ?_
  refine Hb (u:=.junk) (H0 (u:=.agg (Box.cs b)) (ds:=(Box.cs b)) Y1 O O O O O O O O) ?_
  refine JLm (BL true) O ?_
  refine G6 (k ?_)
  refine H2 ?_
  exact⟨[.agg (Box.cs b),BL true],[],ø,O,⟨⟨_,⟨_,_,_,_,O,O,O,.inl ⟨Ys,O⟩⟩,.conv (.same O)⟩,⟨_,O,.conv (.same O)⟩,ø⟩,O,congrArg (fun r:Box×Bool=>(.tup [.agg (Box.cs r.1),BL r.2]:AV)) (Ky h)⟩

def G5d (s:Gb):Option Int:=
 each (fun c e (a:Int) d=>
  jp (fun b=>
   bif ((decide ((e:Int)=0))||(decide (a < c.Tiers))) then
   (b c.Tiers)
   else
   (b a)) fun(f:Int)=>
  d f)
 (fun(a:Int)=>
  some a) s.Columns 0 0
theorem J46 (s:Gb) (r:Int) (h:G5d s=some r):Pure En 59 [.agg (Gb.cs s)] (·=I64 r):=by
 unfold G5d at h
 refine Ha [.tmp 2] Tryz.func59 O O ?_
 refine Jr fun x=>?_
 refine JLg (.ptr 1138 0) (Q5 (cs:=(Gb.cs s)) 1138 O O O O O) ?_
 refine JLm (I64 0) O ?_
 refine G6 (x ?_)
 refine Gj [(1,Ef s)] [] 1138 rfl rfl rfl ø rfl (by exact⟨.ptr,ø⟩) ?_
 refine Jr fun z=>?_
 refine JLm (I64 0) O ?_
 refine G6 (z ?_)
 refine Js fun a0=>?_
 refine Jr fun a1=>?_
 refine JLg (Ef s) (Gc Hm O O O) ?_
 refine JLg (E7 s.Columns) (Gf J3 O O O) ?_
 refine JLl Ho O O O fun a2=>?_
 refine JLm (I64 0) O ?_
 refine G6 (a1 ?_)
 refine Gk ?_
 obtain⟨a3,k,l,i,h⟩:=J5 h
 refine Hk (fun a (c:Int)=>each a3 k (List.drop a s.Columns) a c=some r) (fun a c=>[(3,I64 c),(7,E7 s.Columns),(8,Em s.Columns.length),(9,Em a)]) (fun a c=>[]) (fun a=>s.Columns.length - a) 0 0 h ⟨(.sm O O),ø,rfl⟩ ?_
 clear h
 intro a c e a6 a4
 refine Jr fun m=>?_
 refine JLg (BL (decide ((a:Int) < (s.Columns.length:Int)))) (Jf O O O) ?_
 refine G6 (m ?_)
 refine Js fun n=>?_
 refine Gn O (fun hb=>?_) (fun hb=>?_)
 ·
  have g:=Jn hb
  obtain⟨b,a5,o,p,h⟩:=Hs e g
  replace h:=Rx l h
  refine Gp ?_
  refine n ?_
  obtain⟨q,j,h⟩:=Rc h
  refine Qf (fun d:Int=>q d=some r) (fun d=>[(3,I64 d),(7,E7 s.Columns),(8,Em s.Columns.length),(9,Em a)]) (fun d=>[]) (fun Kj20 ej20=>?_) ?_
  ·
   refine Gk ?_
   refine Jr fun t=>?_
   refine JLm (Em a) O ?_
   refine JLg (Ei b) (H4 (f:=G4.av) (xs:=s.Columns) (y:=b) O O O Ho o O) ?_
   refine JLg (.agg (G4.cs b)) (Gg G65 O O O) ?_
   refine JLg (.ptr 1139 0) (Hc 1139 12 Yu O O) ?_
   refine JLm (Em a) O ?_
   refine Hb (u:=.junk) (H0 (u:=.agg (G4.cs b)) (ds:=(G4.cs b)) Gbe O O O O O O O O) ?_
   refine G6 (t ?_)
   refine fzQ [(3,I64 c),(4,Em a),(5,Ei b),(7,E7 s.Columns),(8,Em s.Columns.length),(9,Em a)] [] 1139 rfl rfl rfl ø rfl ?_
   refine Jr fun v=>?_
   refine JLm (Em a) O ?_
   refine JLg (BL (decide ((a:Int)=0))) (Q6 O O O) ?_
   refine JLm (BL (decide ((a:Int)=0))) O ?_
   refine JLo (.dptr ((G4.cs b).drop 3)) [] O .scf ø (fun hc=>Gc Yi O O O) O ?_
   refine JLo (I64 b.Tiers) [17] O .scf ⟨Ua,ø⟩ (fun hc=>Gf G9 O O O) O ?_
   refine JLo (I64 c) [] O .scf ø (fun hc=>G5 O O) O ?_
   refine JLo (BL (decide (c < b.Tiers))) [18,19] O .scf ⟨Ua,Ua,ø⟩ (fun hc=>G46 O O O) O ?_
   refine JLg (BL ((decide ((a:Int)=0))||(decide (c < b.Tiers)))) (G27 O O O O) ?_
   refine G6 (v ?_)
   refine JCc O h ?_ ?_<;>intro h hb
   ·
    refine G2 ?_
    refine JLg (.dptr ((G4.cs b).drop 3)) (Gc Yi O O O) ?_
    refine JLg (I64 b.Tiers) (Gf G9 O O O) ?_
    refine JLm (I64 b.Tiers) O ?_
    refine G6 ?_
    exact ej20 _ _ b.Tiers h ⟨(.sm O O),ø,rfl⟩
   ·
    refine Gp ?_
    exact ej20 _ _ c h ⟨(.sm O O),ø,rfl⟩
  ·intro d h
   replace h:=app1 j h
   refine G2 ?_
   refine JLg (I64 ((a+1:Nat):Int)) (Hz (He g a2) O O O) ?_
   refine JLm (I64 ((a+1:Nat):Int)) O ?_
   refine G6 ?_
   exact a4 _ _ (a+1) d (app1 p h) (by omega) ⟨(.sm O O),ø,rfl⟩
 ·
  have h:=app1 i (Ht e (H9 hb))
  refine Hr ?_
  refine a0 ?_
  refine Jr fun w=>?_
  refine JLm (I64 c) O ?_
  refine JLm (I64 c) O ?_
  refine G6 (w ?_)
  refine H2 ?_
  exact fin1 I64 h

def Q8 (s:Gb):Option Bool:=
 bnd (bif decide ((s.Columns.length:Int)≤3) then G5d s else some default) fun a=>
 some ((decide ((s.Columns.length:Int)≤3))&&(decide (a≤3)))
theorem H30 (s:Gb) (r:Bool) (h:Q8 s=some r):Pure En 22 [.agg (Gb.cs s)] (·=BL r):=by
 unfold Q8 at h
 refine Ha [.tmp 2] Tryz.func22 O O ?_
 refine Jr fun b=>?_
 refine JLg (.ptr 1078 0) (Q5 (cs:=(Gb.cs s)) 1078 O O O O O) ?_
 refine JLm (BL false) O ?_
 refine G6 (b ?_)
 refine Gj [(1,Ef s)] [] 1078 rfl rfl rfl ø rfl (by exact⟨.ptr,ø⟩) ?_
 refine Jr fun c=>?_
 refine JLg (Ef s) (Gc Hm O O O) ?_
 refine JLg (E7 s.Columns) (Gf J3 O O O) ?_
 refine JLl Ho O O O fun e=>?_
 refine JLg (BL (decide ((s.Columns.length:Int)≤3))) (H36 O O O) ?_
 refine JLm (BL (decide ((s.Columns.length:Int)≤3))) O ?_
 refine JLo (.agg (Gb.cs s)) [] O .sct ø (fun hc=>Gg Hn O O O) O ?_
 obtain⟨a,d,h⟩:=Gh h
 refine JLo (I64 a) [8] O .sct ⟨Ua,ø⟩ (fun hc=>H3 (args:=[.agg (Gb.cs s)]) O (J46 s a (Hg hc d)) R04 ⟨O,O,ø⟩) O ?_
 refine JLo (BL (decide (a≤3))) [9] O .sct ⟨Ua,ø⟩ (fun hc=>H36 O O O) O ?_
 refine JLg (BL ((decide ((s.Columns.length:Int)≤3))&&(decide (a≤3)))) (Qr O O O O) ?_
 refine JLm (BL ((decide ((s.Columns.length:Int)≤3))&&(decide (a≤3)))) O ?_
 refine G6 (c ?_)
 refine H2 ?_
 exact fin1 BL h

def Yr (a:G1) (b:G1):Option Int:=
 bnd (R3 a.Box b.Box) fun c=>
 some c
theorem Hc0 (a:G1) (b:G1) (r:Int) (h:Yr a b=some r):Pure En 62 [.agg (G1.cs a),.agg (G1.cs b)] (·=I64 r):=by
 unfold Yr at h
 refine Ha [.tmp 4] Tryz.func62 O O ?_
 refine Jr fun d=>?_
 refine JLg (.ptr 1143 0) (Q5 (cs:=[I64 a.Box,I64 a.Slot.G4,I64 a.Slot.Tier,U8 a.Slot.Half]) 1143 O O O O O) ?_
 refine JLg (.ptr 1144 0) (Q5 (cs:=[I64 b.Box,I64 b.Slot.G4,I64 b.Slot.Tier,U8 b.Slot.Half]) 1144 O O O O O) ?_
 refine JLm (I64 0) O ?_
 refine G6 (d ?_)
 refine Gj [(2,Eg a),(3,.ptr 1144 0)] [(1144,.box 65 [I64 b.Box,I64 b.Slot.G4,I64 b.Slot.Tier,U8 b.Slot.Half])] 1143 rfl rfl rfl ⟨⟨_,rfl,.boxEq rfl rfl⟩,ø⟩ rfl (by exact⟨.ptr,.conv (.same rfl),ø⟩) ?_
 refine Gj [(2,Eg a),(3,Eg b)] [] 1144 rfl rfl rfl ø rfl (by exact⟨.conv (.same rfl),.ptr,ø⟩) ?_
 refine Jr fun e=>?_
 refine JLg (Eg a) (Gc Jz O O O) ?_
 refine JLg (I64 a.Box) (Gf G9 O O O) ?_
 refine JLg (Eg b) (Gc Jz O O O) ?_
 refine JLg (I64 b.Box) (Gf G9 O O O) ?_
 obtain⟨c,f,h⟩:=Gh h
 refine JLg (I64 c) (H3 O (Zr a.Box b.Box c f) H0c ⟨O,O,O,O,ø⟩) ?_
 refine JLm (I64 c) O ?_
 refine G6 (e ?_)
 refine H2 ?_
 exact fin1 I64 h

def Gae (l:List G1):Option (List Slot):=
 each (fun b d (a:(List Slot)) c=>
  need (decide ((a.length+[b.Slot].length)*24≤140737488355328∧a.length+[b.Slot].length≤maxLen)) <|
  c (a++[b.Slot]))
 (fun(a:(List Slot))=>
  some a) l 0 []
theorem Je5 (l:List G1) (r:(List Slot)) (h:Gae l=some r):Pure En 37 [E4 l] (·=E8 r):=by
 unfold Gae at h
 refine Ha [.tmp 2] Tryz.func37 O O ?_
 refine Jr fun v=>?_
 refine JLg (E8 ([]:List Slot)) (Qj 3 O O) ?_
 refine G6 (v ?_)
 refine Jr fun w=>?_
 refine JLg (OW 1115 3 Slot.av ([]:List Slot)) (G45 1115 63 3 O O O) ?_
 refine G6 (w ?_)
 refine Js fun x=>?_
 refine Jr fun z=>?_
 refine JLm (E4 l) O ?_
 refine JLl Hd O O O fun a0=>?_
 refine JLm (I64 0) O ?_
 refine G6 (z ?_)
 refine Gk ?_
 obtain⟨a1,i,j,g,h⟩:=J5 h
 refine Hk (fun c (a:(List Slot))=>each a1 i (List.drop c l) c a=some r) (fun c a=>[(3,OW 1115 3 Slot.av a),(6,E4 l),(7,Em l.length),(8,Em c)]) (fun c a=>[(1115,.spare 63 3 a.length a.length)]) (fun c=>l.length - c) 0 [] h ⟨(.sm O O),⟨⟨_,rfl,.same⟩,ø⟩,rfl⟩ ?_
 clear h
 intro c a d a4 a2
 refine Jr fun k=>?_
 refine JLg (BL (decide ((c:Int) < (l.length:Int)))) (Jf O O O) ?_
 refine G6 (k ?_)
 refine Js fun m=>?_
 refine Gn O (fun hb=>?_) (fun hb=>?_)
 ·
  have e:=Jn hb
  obtain⟨b,a3,n,o,h⟩:=Hs d e
  replace h:=Rx j h
  refine Gp ?_
  refine m ?_
  refine Js fun p=>?_
  refine Gk ?_
  refine Jr fun q=>?_
  refine JLg (Eg b) (H4 (f:=G1.av) (xs:=l) (y:=b) O O O Hd n O) ?_
  refine JLg (.agg (G1.cs b)) (Gg Qw O O O) ?_
  refine JLg (.ptr 1116 0) (Hc 1116 4 Qk O O) ?_
  refine Hb (u:=.junk) (H0 (u:=.agg (G1.cs b)) (ds:=[I64 b.Box,I64 b.Slot.G4,I64 b.Slot.Tier,U8 b.Slot.Half]) Z0 O O O O O O O O) ?_
  refine G6 (q ?_)
  refine fzQ [(3,OW 1115 3 Slot.av a),(5,Eg b),(6,E4 l),(7,Em l.length),(8,Em c)] [(1115,.spare 63 3 a.length a.length)] 1116 rfl rfl rfl ⟨⟨_,rfl,.same⟩,ø⟩ rfl ?_
  refine G2 ?_
  refine JLm (OW 1115 3 Slot.av a) O ?_
  refine JLg (.dptr ((G1.cs b).drop 1)) (Gc Qc O O O) ?_
  refine JLg (.agg ((G1.cs b).drop 1)) (Gg Qa O O O) ?_
  refine JLg (E8 [b.Slot]) (H7 (xs:=[.agg ((G1.cs b).drop 1)]) O ⟨O,O,ø⟩ Rk G0e O O O O) ?_
  obtain⟨s,h⟩:=J9 h
  refine JLg (OW 1115 3 Slot.av (a++[b.Slot])) (R0 (f:=Slot.av) (xs:=a) (ys:=[b.Slot]) O O O O Rk J9b s (fun _=>O) (.inl O) O) ?_
  refine JLm (OW 1115 3 Slot.av (a++[b.Slot])) O ?_
  refine G6 (p ?_)
  refine G2 ?_
  refine JLg (I64 ((c+1:Nat):Int)) (Hz (He e a0) O O O) ?_
  refine JLm (I64 ((c+1:Nat):Int)) O ?_
  refine G6 ?_
  exact a2 _ _ (c+1) (a++[b.Slot]) (app1 o h) (by omega) ⟨(.sm O O),⟨⟨_,rfl,.same⟩,ø⟩,rfl⟩
 ·
  have h:=app1 g (Ht d (H9 hb))
  refine Hr ?_
  refine x ?_
  refine Jr fun t=>?_
  refine JLm (OW 1115 3 Slot.av a) O ?_
  refine JLm (OW 1115 3 Slot.av a) O ?_
  refine G6 (t ?_)
  refine H2 ?_
  exact fin1l (fun r:(List Slot)=>(E8 r:AV)) h

def Zc (s:List Int) (v:Int):Option Int:=
 each (fun b c (d:Unit) a=>
  bif decide (v=b) then
  (some (c:Int))
  else
  (a ()))
 (fun(d:Unit)=>
  some (-1)) s 0 ()
theorem H6a (s:List Int) (v:Int) (r:Int) (h:Zc s v=some r):Pure En 113 [Ee s,U8 v] (·=I64 r):=by
 unfold Zc at h
 refine Ha [.tmp 4] Tryz.func113 O O ?_
 refine Jr fun w=>?_
 refine JLm (I64 0) O ?_
 refine G6 (w ?_)
 refine Js fun x=>?_
 refine Jr fun z=>?_
 refine JLm (Ee s) O ?_
 refine JLl Yv O O O fun a0=>?_
 refine JLm (I64 0) O ?_
 refine G6 (z ?_)
 refine Gk ?_
 obtain⟨a1,i,j,g,h⟩:=J5 h
 refine Hk (fun a (b:Unit)=>each a1 i (List.drop a s) a b=some r) (fun a b=>[(0,Ee s),(1,U8 v),(7,Em s.length),(8,Em a)]) (fun a b=>[]) (fun a=>s.length - a) 0 () h ⟨(.sm O O),ø,rfl⟩ ?_
 clear h
 intro a b d a4 a2
 refine Jr fun k=>?_
 refine JLg (BL (decide ((a:Int) < (s.length:Int)))) (Jf O O O) ?_
 refine G6 (k ?_)
 refine Js fun l=>?_
 refine Gn O (fun hb=>?_) (fun hb=>?_)
 ·
  have e:=Jn hb
  obtain⟨c,a3,m,n,h⟩:=Hs d e
  replace h:=Rx j h
  refine Gp ?_
  refine l ?_
  refine Js fun o=>?_
  refine Gk ?_
  refine Jr fun p=>?_
  refine JLm (Em a) O ?_
  refine JLm (Em a) O ?_
  refine G6 (p ?_)
  refine Jr fun q=>?_
  refine JLm (U8 v) O ?_
  refine JLm (Ee s) O ?_
  refine JLm (Em a) O ?_
  refine JLg (.dptr [U8 c]) (H4 (f:=U8) (xs:=s) (y:=c) O O O Yv m O) ?_
  refine JLg (U8 c) (Gf Jc O O O) ?_
  refine JLg (BL (decide (v=c))) (Q6 O O O) ?_
  refine G6 (q ?_)
  refine JCc O h ?_ ?_<;>intro h hb
  ·
   refine Jr fun t=>?_
   refine JLm (Em a) O ?_
   refine JLm (Em a) O ?_
   refine G6 (t ?_)
   refine H2 ?_
   exact fin1 I64 h
  ·
   refine Gp ?_
   refine o ?_
   refine G2 ?_
   refine JLg (I64 ((a+1:Nat):Int)) (Hz (He e a0) O O O) ?_
   refine JLm (I64 ((a+1:Nat):Int)) O ?_
   refine G6 ?_
   exact a2 _ _ (a+1) () (app1 n h) (by omega) ⟨(.sm O O),ø,rfl⟩
 ·
  have h:=app1 g (Ht d (H9 hb))
  refine Hr ?_
  refine x ?_
  refine Jr fun u=>?_
  refine JLm (I64 (-1)) O ?_
  refine G6 (u ?_)
  refine H2 ?_
  exact fin1 I64 h

def Y7 (s:List Int) (v:Int):Option Bool:=
 bnd (Zc s v) fun a=>
 some (decide (0≤a))
theorem H21 (s:List Int) (v:Int) (r:Bool) (h:Y7 s v=some r):Pure En 74 [Ee s,U8 v] (·=BL r):=by
 unfold Y7 at h
 refine Ha [.tmp 4] Tryz.func74 O O ?_
 refine Jr fun b=>?_
 refine JLm (BL false) O ?_
 refine G6 (b ?_)
 refine Jr fun c=>?_
 refine JLm (Ee s) O ?_
 refine JLm (U8 v) O ?_
 obtain⟨a,d,h⟩:=Gh h
 refine JLg (I64 a) (H3 O (H6a s v a d) Q97 ⟨O,O,O,O,ø⟩) ?_
 refine JLg (BL (decide (0≤a))) (Ge4 O O O) ?_
 refine JLm (BL (decide (0≤a))) O ?_
 refine G6 (c ?_)
 refine H2 ?_
 exact fin1 BL h

def Gb1 (s:Gb) (x:Slot) (size:Int):Option Bool:=
 bnd (bif (((decide (0≤x.G4))&&(decide (x.G4 < (s.Columns.length:Int))))&&(decide (0≤x.Tier))) then Q4 s.Columns x.G4 some else some default) fun a=>
 bnd (bif ((((decide (0≤x.G4))&&(decide (x.G4 < (s.Columns.length:Int))))&&(decide (0≤x.Tier)))&&(decide (x.Tier < a.Tiers))) then G24 size else some default) fun b=>
 bnd (bif ((((decide (0≤x.G4))&&(decide (x.G4 < (s.Columns.length:Int))))&&(decide (0≤x.Tier)))&&(decide (x.Tier < a.Tiers))) then Y7 b x.Half else some default) fun c=>
 some (((((decide (0≤x.G4))&&(decide (x.G4 < (s.Columns.length:Int))))&&(decide (0≤x.Tier)))&&(decide (x.Tier < a.Tiers)))&&c)
theorem Je7 (s:Gb) (x:Slot) (size:Int) (r:Bool) (h:Gb1 s x size=some r):Pure En 38 [.agg (Gb.cs s),.agg [I64 x.G4,I64 x.Tier,U8 x.Half],U8 size] (·=BL r):=by
 unfold Gb1 at h
 refine Ha [.tmp 6] Tryz.func38 O O ?_
 refine Jr fun d=>?_
 refine JLg (.ptr 1117 0) (Q5 (cs:=(Gb.cs s)) 1117 O O O O O) ?_
 refine JLg (.ptr 1118 0) (Q5 (cs:=[I64 x.G4,I64 x.Tier,U8 x.Half]) 1118 O O O O O) ?_
 refine JLm (BL false) O ?_
 refine G6 (d ?_)
 refine Gj [(2,U8 size),(3,Ef s),(4,.ptr 1118 0)] [(1118,.box 63 [I64 x.G4,I64 x.Tier,U8 x.Half])] 1117 rfl rfl rfl ⟨⟨_,rfl,.boxEq rfl rfl⟩,ø⟩ rfl (by exact⟨.conv (.same rfl),.ptr,.conv (.same rfl),ø⟩) ?_
 refine Gj [(2,U8 size),(3,Ef s),(4,.dptr [I64 x.G4,I64 x.Tier,U8 x.Half])] [] 1118 rfl rfl rfl ø rfl (by exact⟨.conv (.same rfl),.conv (.same rfl),.ptr,ø⟩) ?_
 refine Js fun e=>?_
 obtain⟨a,g,h⟩:=Gh h
 obtain⟨b,i,h⟩:=Gh h
 obtain⟨c,j,h⟩:=Gh h
 refine JC_d0 Q3 (by kernel_rfl) ?_
 refine Dq (.dptr [I64 x.G4,I64 x.Tier,U8 x.Half]) (Gc Qd O O O) O ?_
 refine Dq (I64 x.G4) (Gf G9 O O O) O ?_
 refine Dq (BL (decide (0≤x.G4))) (Ge4 O O O) O ?_
 refine Dq (BL (decide (0≤x.G4))) (G5 O O) O ?_
 refine Do (.dptr [I64 x.G4,I64 x.Tier,U8 x.Half]) [] O .sct ø (fun hc=>Gc Qd O O O) O ?_
 refine Do (I64 x.G4) [11] O .sct ⟨Ua,ø⟩ (fun hc=>Gf G9 O O O) O ?_
 refine Do (Ef s) [] O .sct ø (fun hc=>Gc Hm O O O) O ?_
 refine Do (E7 s.Columns) [13] O .sct ⟨Ua,ø⟩ (fun hc=>Gf J3 O O O) O ?_
 refine Do (Em s.Columns.length) [14] O .sct ⟨Ua,ø⟩ (fun hc=>G32 (f:=G4.av) (xs:=s.Columns) Ho O O) O ?_
 refine Do (BL (decide (x.G4 < (s.Columns.length:Int)))) [12,15] O .sct ⟨Ua,Ua,ø⟩ (fun hc=>Jf O O O) O ?_
 refine Dq (BL ((decide (0≤x.G4))&&(decide (x.G4 < (s.Columns.length:Int))))) (Qr O O O O) O ?_
 refine Dq (BL ((decide (0≤x.G4))&&(decide (x.G4 < (s.Columns.length:Int))))) (G5 O O) O ?_
 refine Do (.dptr [I64 x.Tier,U8 x.Half]) [] O .sct ø (fun hc=>Gc Ru O O O) O ?_
 refine Do (I64 x.Tier) [19] O .sct ⟨Ua,ø⟩ (fun hc=>Gf G9 O O O) O ?_
 refine Do (BL (decide (0≤x.Tier))) [20] O .sct ⟨Ua,ø⟩ (fun hc=>Ge4 O O O) O ?_
 refine Dq (BL (((decide (0≤x.G4))&&(decide (x.G4 < (s.Columns.length:Int))))&&(decide (0≤x.Tier)))) (Qr O O O O) O ?_
 refine Dq (BL (((decide (0≤x.G4))&&(decide (x.G4 < (s.Columns.length:Int))))&&(decide (0≤x.Tier)))) (G5 O O) O ?_
 refine Do (.dptr [I64 x.Tier,U8 x.Half]) [] O .sct ø (fun hc=>Gc Ru O O O) O ?_
 refine Do (I64 x.Tier) [24] O .sct ⟨Ua,ø⟩ (fun hc=>Gf G9 O O O) O ?_
 refine Do (Ef s) [] O .sct ø (fun hc=>Gc Hm O O O) O ?_
 refine Do (E7 s.Columns) [26] O .sct ⟨Ua,ø⟩ (fun hc=>Gf J3 O O O) O ?_
 refine Do (.dptr [I64 x.G4,I64 x.Tier,U8 x.Half]) [] O .sct ø (fun hc=>Gc Qd O O O) O ?_
 refine Do (I64 x.G4) [28] O .sct ⟨Ua,ø⟩ (fun hc=>Gf G9 O O O) O ?_
 refine Do (Ei a) [27,29] O .sct ⟨Ua,Ua,ø⟩ (fun hc=>(match G2d (Hg hc g) with | ⟨_,hm_,hy_⟩=>H4 (f:=G4.av) (xs:=s.Columns) (y:=a) O O O Ho hy_ hm_)) O ?_
 refine Do (.dptr ((G4.cs a).drop 3)) [30] O .sct ⟨Ua,ø⟩ (fun hc=>Gc Yi O O O) O ?_
 refine Do (I64 a.Tiers) [31] O .sct ⟨Ua,ø⟩ (fun hc=>Gf G9 O O O) O ?_
 refine Do (BL (decide (x.Tier < a.Tiers))) [25,32] O .sct ⟨Ua,Ua,ø⟩ (fun hc=>Jf O O O) O ?_
 refine Dq (BL ((((decide (0≤x.G4))&&(decide (x.G4 < (s.Columns.length:Int))))&&(decide (0≤x.Tier)))&&(decide (x.Tier < a.Tiers)))) (Qr O O O O) O ?_
 refine Dq (BL ((((decide (0≤x.G4))&&(decide (x.G4 < (s.Columns.length:Int))))&&(decide (0≤x.Tier)))&&(decide (x.Tier < a.Tiers)))) (G5 O O) O ?_
 refine Do (U8 size) [] O .sct ø (fun hc=>G5 O O) O ?_
 refine Do (Ee b) [36] O .sct ⟨Ua,ø⟩ (fun hc=>H3 (args:=[U8 size]) O (H74 size b (Hg hc i)) Ja4 ⟨O,O,ø⟩) O ?_
 refine Do (.dptr [U8 x.Half]) [] O .sct ø (fun hc=>Gc Rt O O O) O ?_
 refine Do (U8 x.Half) [38] O .sct ⟨Ua,ø⟩ (fun hc=>Gf Jc O O O) O ?_
 refine Do (BL c) [37,39] O .sct ⟨Ua,Ua,ø⟩ (fun hc=>H3 (args:=[Ee b,U8 x.Half]) O (H21 b x.Half c (Hg hc j)) Qf9 ⟨O,O,O,O,ø⟩) O ?_
 refine Dq (BL (((((decide (0≤x.G4))&&(decide (x.G4 < (s.Columns.length:Int))))&&(decide (0≤x.Tier)))&&(decide (x.Tier < a.Tiers)))&&c)) (Qr O O O O) O ?_
 refine Dq (BL (((((decide (0≤x.G4))&&(decide (x.G4 < (s.Columns.length:Int))))&&(decide (0≤x.Tier)))&&(decide (x.Tier < a.Tiers)))&&c)) (G7 O O) O ?_
 refine Dnil ?_
 refine e ?_
 refine H2 ?_
 exact fin1 BL h

def Yp (s:List Slot) (v:Slot):Option Int:=
 each (fun b c (d:Unit) a=>
  bif decide (v=b) then
  (some (c:Int))
  else
  (a ()))
 (fun(d:Unit)=>
  some (-1)) s 0 ()
theorem H41 (s:List Slot) (v:Slot) (r:Int) (h:Yp s v=some r):Pure En 114 [E8 s,.agg [I64 v.G4,I64 v.Tier,U8 v.Half]] (·=I64 r):=by
 unfold Yp at h
 refine Ha [.tmp 4] Tryz.func114 O O ?_
 refine Jr fun w=>?_
 refine JLg (.ptr 1191 0) (Q5 (cs:=[I64 v.G4,I64 v.Tier,U8 v.Half]) 1191 O O O O O) ?_
 refine JLm (I64 0) O ?_
 refine G6 (w ?_)
 refine Gj [(0,E8 s),(3,.dptr [I64 v.G4,I64 v.Tier,U8 v.Half])] [] 1191 rfl rfl rfl ø rfl (by exact⟨.conv (.same rfl),.ptr,ø⟩) ?_
 refine Js fun x=>?_
 refine Jr fun z=>?_
 refine JLm (E8 s) O ?_
 refine JLl Rk O O O fun a0=>?_
 refine JLm (I64 0) O ?_
 refine G6 (z ?_)
 refine Gk ?_
 obtain⟨a1,i,j,g,h⟩:=J5 h
 refine Hk (fun a (c:Unit)=>each a1 i (List.drop a s) a c=some r) (fun a c=>[(0,E8 s),(3,.dptr [I64 v.G4,I64 v.Tier,U8 v.Half]),(7,Em s.length),(8,Em a)]) (fun a c=>[]) (fun a=>s.length - a) 0 () h ⟨(.sm O O),ø,rfl⟩ ?_
 clear h
 intro a c d a4 a2
 refine Jr fun k=>?_
 refine JLg (BL (decide ((a:Int) < (s.length:Int)))) (Jf O O O) ?_
 refine G6 (k ?_)
 refine Js fun l=>?_
 refine Gn O (fun hb=>?_) (fun hb=>?_)
 ·
  have e:=Jn hb
  obtain⟨b,a3,m,n,h⟩:=Hs d e
  replace h:=Rx j h
  refine Gp ?_
  refine l ?_
  refine Js fun o=>?_
  refine Gk ?_
  refine Jr fun p=>?_
  refine JLm (Em a) O ?_
  refine JLm (Em a) O ?_
  refine G6 (p ?_)
  refine Js fun q=>?_
  refine JC_d0 Q3 (by kernel_rfl) ?_
  refine Dq (.agg [I64 v.G4,I64 v.Tier,U8 v.Half]) (Gg Qa O O O) O ?_
  refine Dq (E8 s) (G5 O O) O ?_
  refine Dq (Em a) (G5 O O) O ?_
  refine Dq (Ej b) (H4 (f:=Slot.av) (xs:=s) (y:=b) O O O Rk m O) O ?_
  refine Dq (.agg (Slot.cs b)) (Gg Qa O O O) O ?_
  refine Dq (BL (decide (v=b))) (R76 (vs:=[.int .i64 v.G4,.int .i64 v.Tier,.int .u8 v.Half]) (us:=[.int .i64 b.G4,.int .i64 b.Tier,.int .u8 b.Half]) 4 O (Y39 v b) J58 Q1a O O O) O ?_
  refine Dnil ?_
  refine q ?_
  refine JCc O h ?_ ?_<;>intro h hb
  ·
   refine Jr fun t=>?_
   refine JLm (Em a) O ?_
   refine JLm (Em a) O ?_
   refine G6 (t ?_)
   refine H2 ?_
   exact fin1 I64 h
  ·
   refine Gp ?_
   refine o ?_
   refine G2 ?_
   refine JLg (I64 ((a+1:Nat):Int)) (Hz (He e a0) O O O) ?_
   refine JLm (I64 ((a+1:Nat):Int)) O ?_
   refine G6 ?_
   exact a2 _ _ (a+1) () (app1 n h) (by omega) ⟨(.sm O O),ø,rfl⟩
 ·
  have h:=app1 g (Ht d (H9 hb))
  refine Hr ?_
  refine x ?_
  refine Jr fun u=>?_
  refine JLm (I64 (-1)) O ?_
  refine G6 (u ?_)
  refine H2 ?_
  exact fin1 I64 h

def Rj (s:List Slot) (v:Slot):Option Bool:=
 bnd (Yp s v) fun a=>
 some (decide (0≤a))
theorem Gf9 (s:List Slot) (v:Slot) (r:Bool) (h:Rj s v=some r):Pure En 76 [E8 s,.agg [I64 v.G4,I64 v.Tier,U8 v.Half]] (·=BL r):=by
 unfold Rj at h
 refine Ha [.tmp 4] Tryz.func76 O O ?_
 refine Jr fun b=>?_
 refine JLg (.ptr 1163 0) (Q5 (cs:=[I64 v.G4,I64 v.Tier,U8 v.Half]) 1163 O O O O O) ?_
 refine JLm (BL false) O ?_
 refine G6 (b ?_)
 refine Gj [(0,E8 s),(3,.dptr [I64 v.G4,I64 v.Tier,U8 v.Half])] [] 1163 rfl rfl rfl ø rfl (by exact⟨.conv (.same rfl),.ptr,ø⟩) ?_
 refine Jr fun c=>?_
 refine JLm (E8 s) O ?_
 refine JLg (.agg [I64 v.G4,I64 v.Tier,U8 v.Half]) (Gg Qa O O O) ?_
 obtain⟨a,d,h⟩:=Gh h
 refine JLg (I64 a) (H3 O (H41 s v a d) Q96 ⟨O,O,O,O,ø⟩) ?_
 refine JLg (BL (decide (0≤a))) (Ge4 O O O) ?_
 refine JLm (BL (decide (0≤a))) O ?_
 refine G6 (c ?_)
 refine H2 ?_
 exact fin1 BL h

def G25 (half:Int) (b:List Slot) (a:Slot):Option Bool:=
 chk (a.Tier - 1) fun c=>
 bnd (Rj b (Slot.mk a.G4 c half)) fun d=>
 some d
theorem Geb (half:Int) (b:List Slot) (a:Slot) (r:Bool) (h:G25 half b a=some r):Pure En 75 [U8 half,.dptr [E8 b],.dptr [I64 a.G4,I64 a.Tier,U8 a.Half]] (·=BL r):=by
 unfold G25 at h
 refine Ha [.tmp 4] Tryz.func75 O O ?_
 refine Jr fun e=>?_
 refine JLm (BL false) O ?_
 refine G6 (e ?_)
 refine Jr fun f=>?_
 refine JLg (E8 b) (Gf H5a O O O) ?_
 refine JLg (.dptr [I64 a.G4,I64 a.Tier,U8 a.Half]) (Gc Qd O O O) ?_
 refine JLg (I64 a.G4) (Gf G9 O O O) ?_
 refine JLg (.dptr [I64 a.Tier,U8 a.Half]) (Gc Ru O O O) ?_
 refine JLg (I64 a.Tier) (Gf G9 O O O) ?_
 obtain⟨c,g,h⟩:=J6 h
 refine JLg (I64 c) (H35 g O O O) ?_
 refine JLm (U8 half) O ?_
 refine JLg (.agg [I64 a.G4,I64 c,U8 half]) (Ja (cs:=[I64 a.G4,I64 c,U8 half]) [(0,1),(1,1),(2,1)] [I64 0,I64 0,U8 0] [E0,E0,.int .u8 0] G9d Gbc (zzQ O) O O) ?_
 obtain⟨d,i,h⟩:=Gh h
 refine JLg (BL d) (H3 O (Gf9 b (Slot.mk a.G4 c half) d i) Qf8 ⟨O,O,O,O,ø⟩) ?_
 refine JLm (BL d) O ?_
 refine G6 (f ?_)
 refine H2 ?_
 exact fin1 BL h

def Gdf (x:Slot) (l:List Slot):Option Bool:=
 bif decide (x.Tier≤0) then
 (some true)
 else
 (bnd (G25 x.Half l x) fun a=>
  bnd (bif ((!a)&&(decide (x.Half=0))) then G25 1 l x else some default) fun b=>
  bnd (bif ((!a)&&((decide (x.Half=0))&&b)) then G25 2 l x else some default) fun c=>
  some (a||(((decide (x.Half=0))&&b)&&c)))
abbrev Er (l:List Slot) (x:Slot):List AV:=[.dptr [E8 l],.dptr [I64 x.G4,I64 x.Tier,U8 x.Half]]
theorem Q0e (x:Slot) (l:List Slot) (r:Bool) (h:Gdf x l=some r):Pure En 39 [.agg [I64 x.G4,I64 x.Tier,U8 x.Half],E8 l] (·=BL r):=by
 unfold Gdf at h
 refine Ha [.tmp 4] Tryz.func39 O O ?_
 refine Jr fun d=>?_
 refine JLg (.ptr 1119 0) (Q5 (cs:=[I64 x.G4,I64 x.Tier,U8 x.Half]) 1119 O O O O O) ?_
 refine JLg (.ptr 1120 0) (Q5 (cs:=[E8 l]) 1120 O O O O O) ?_
 refine JLm (BL false) O ?_
 refine G6 (d ?_)
 refine Gj [(2,.dptr [I64 x.G4,I64 x.Tier,U8 x.Half]),(3,.ptr 1120 0)] [(1120,.box 60 [E8 l])] 1119 rfl rfl rfl ⟨⟨_,rfl,.boxEq rfl rfl⟩,ø⟩ rfl (by exact⟨.ptr,.conv (.same rfl),ø⟩) ?_
 refine Gj [(2,.dptr [I64 x.G4,I64 x.Tier,U8 x.Half]),(3,.dptr [E8 l])] [] 1120 rfl rfl rfl ø rfl (by exact⟨.conv (.same rfl),.ptr,ø⟩) ?_
 refine Js fun e=>?_
 refine Jr fun f=>?_
 refine JLg (.dptr [I64 x.Tier,U8 x.Half]) (Gc Ru O O O) ?_
 refine JLg (I64 x.Tier) (Gf G9 O O O) ?_
 refine JLg (BL (decide (x.Tier≤0))) (H36 O O O) ?_
 refine G6 (f ?_)
 refine JCc O h ?_ ?_<;>intro h hb
 ·
  refine Jr fun g=>?_
  refine JLm (BL true) O ?_
  refine G6 (g ?_)
  refine H2 ?_
  exact fin1 BL h
 ·
  refine Gp ?_
  refine e ?_
  refine Jr fun i=>?_
  refine JLg (.fn 75 (Er l x)) (Z5 (cs:=(Er l x)) O O) ?_
  refine JLm (.fn 75 (Er l x)) O ?_
  refine G6 (i ?_)
  refine Jr fun j=>?_
  refine JLm (.fn 75 (Er l x)) O ?_
  refine JLg (.dptr [U8 x.Half]) (Gc Rt O O O) ?_
  refine JLg (U8 x.Half) (Gf Jc O O O) ?_
  obtain⟨b,k,h⟩:=Gh h
  refine JLg (BL b) (G33 (args:=[U8 x.Half]) (caps:=(Er l x)) O O (Geb x.Half l x b k) Hd8 ⟨O,O,ø⟩ O) ?_
  refine JLm (BL b) O ?_
  refine JLo (.dptr [U8 x.Half]) [] O .scf ø (fun hc=>Gc Rt O O O) O ?_
  refine JLo (U8 x.Half) [15] O .scf ⟨Ua,ø⟩ (fun hc=>Gf Jc O O O) O ?_
  refine JLo (BL (decide (x.Half=0))) [16] O .scf ⟨Ua,ø⟩ (fun hc=>Q6 O O O) O ?_
  refine JLo (BL (decide (x.Half=0))) [17] O .scf ⟨Ua,ø⟩ (fun hc=>G5 O O) O ?_
  refine JLo (.fn 75 (Er l x)) [] O .optt ø (fun hc=>G5 O O) O ?_
  obtain⟨a,m,h⟩:=Gh h
  refine JLo (BL a) [19] O .optt ⟨Ua,ø⟩ (fun hc=>G33 (args:=[U8 1]) (caps:=(Er l x)) O O (Geb 1 l x a (Hg hc m)) Hd8 ⟨O,O,ø⟩ O) O ?_
  refine Ga (u:=BL ((decide (x.Half=0))&&a)) [(18,BL (decide (x.Half=0))),(20,_)] O O O .scf ⟨.all id,.part,ø⟩ (fun hc=>Qr O O O O) ?_
  refine JLo (BL ((decide (x.Half=0))&&a)) [21] O .scf ⟨Ua,ø⟩ (fun hc=>G5 O O) O ?_
  refine JLo (.fn 75 (Er l x)) [] O .optt ø (fun hc=>G5 O O) O ?_
  obtain⟨c,n,h⟩:=Gh h
  refine JLo (BL c) [23] O .optt ⟨Ua,ø⟩ (fun hc=>G33 (args:=[U8 2]) (caps:=(Er l x)) O O (Geb 2 l x c (Hg hc n)) Hd8 ⟨O,O,ø⟩ O) O ?_
  refine Ga (u:=BL (((decide (x.Half=0))&&a)&&c)) [(22,BL ((decide (x.Half=0))&&a)),(24,_)] O O O .scf ⟨.all id,.part,ø⟩ (fun hc=>Qr O O O O) ?_
  refine JLg (BL (b||(((decide (x.Half=0))&&a)&&c))) (G27 O O O O) ?_
  refine JLm (BL (b||(((decide (x.Half=0))&&a)&&c))) O ?_
  refine G6 (j ?_)
  refine H2 ?_
  exact fin1 BL h

def G4e (a:Int) (b:Int):Option Bool:=
 some (((decide (a=b))||(decide (a=0)))||(decide (b=0)))
theorem H73 (a:Int) (b:Int) (r:Bool) (h:G4e a b=some r):Pure En 77 [U8 a,U8 b] (·=BL r):=by
 unfold G4e at h
 refine Ha [.tmp 4] Tryz.func77 O O ?_
 refine Jr fun c=>?_
 refine JLm (BL false) O ?_
 refine G6 (c ?_)
 refine Jr fun d=>?_
 refine JLm (U8 a) O ?_
 refine JLm (U8 b) O ?_
 refine JLg (BL (decide (a=b))) (Q6 O O O) ?_
 refine JLm (BL (decide (a=b))) O ?_
 refine JLo (U8 a) [] O .scf ø (fun hc=>G5 O O) O ?_
 refine JLo (BL (decide (a=0))) [9] O .scf ⟨Ua,ø⟩ (fun hc=>Q6 O O O) O ?_
 refine JLg (BL ((decide (a=b))||(decide (a=0)))) (G27 O O O O) ?_
 refine JLm (BL ((decide (a=b))||(decide (a=0)))) O ?_
 refine JLo (U8 b) [] O .scf ø (fun hc=>G5 O O) O ?_
 refine JLo (BL (decide (b=0))) [13] O .scf ⟨Ua,ø⟩ (fun hc=>Q6 O O O) O ?_
 refine JLg (BL (((decide (a=b))||(decide (a=0)))||(decide (b=0)))) (G27 O O O O) ?_
 refine JLm (BL (((decide (a=b))||(decide (a=0)))||(decide (b=0)))) O ?_
 refine G6 (d ?_)
 refine H2 ?_
 exact fin1 BL h

def Gde (a:Slot) (b:Slot):Option Bool:=
 bnd (bif ((decide (a.G4=b.G4))&&(decide (a.Tier=b.Tier))) then G4e a.Half b.Half else some default) fun c=>
 some (((decide (a.G4=b.G4))&&(decide (a.Tier=b.Tier)))&&c)
theorem Q0d (a:Slot) (b:Slot) (r:Bool) (h:Gde a b=some r):Pure En 40 [.agg [I64 a.G4,I64 a.Tier,U8 a.Half],.agg [I64 b.G4,I64 b.Tier,U8 b.Half]] (·=BL r):=by
 unfold Gde at h
 refine Ha [.tmp 4] Tryz.func40 O O ?_
 refine Jr fun d=>?_
 refine JLg (.ptr 1121 0) (Q5 (cs:=[I64 a.G4,I64 a.Tier,U8 a.Half]) 1121 O O O O O) ?_
 refine JLg (.ptr 1122 0) (Q5 (cs:=[I64 b.G4,I64 b.Tier,U8 b.Half]) 1122 O O O O O) ?_
 refine JLm (BL false) O ?_
 refine G6 (d ?_)
 refine Gj [(2,.dptr [I64 a.G4,I64 a.Tier,U8 a.Half]),(3,.ptr 1122 0)] [(1122,.box 63 [I64 b.G4,I64 b.Tier,U8 b.Half])] 1121 rfl rfl rfl ⟨⟨_,rfl,.boxEq rfl rfl⟩,ø⟩ rfl (by exact⟨.ptr,.conv (.same rfl),ø⟩) ?_
 refine Gj [(2,.dptr [I64 a.G4,I64 a.Tier,U8 a.Half]),(3,.dptr [I64 b.G4,I64 b.Tier,U8 b.Half])] [] 1122 rfl rfl rfl ø rfl (by exact⟨.conv (.same rfl),.ptr,ø⟩) ?_
 refine Jr fun e=>?_
 refine JLg (.dptr [I64 a.G4,I64 a.Tier,U8 a.Half]) (Gc Qd O O O) ?_
 refine JLg (I64 a.G4) (Gf G9 O O O) ?_
 refine JLg (.dptr [I64 b.G4,I64 b.Tier,U8 b.Half]) (Gc Qd O O O) ?_
 refine JLg (I64 b.G4) (Gf G9 O O O) ?_
 refine JLg (BL (decide (a.G4=b.G4))) (Q6 O O O) ?_
 refine JLm (BL (decide (a.G4=b.G4))) O ?_
 refine JLo (.dptr [I64 a.Tier,U8 a.Half]) [] O .sct ø (fun hc=>Gc Ru O O O) O ?_
 refine JLo (I64 a.Tier) [11] O .sct ⟨Ua,ø⟩ (fun hc=>Gf G9 O O O) O ?_
 refine JLo (.dptr [I64 b.Tier,U8 b.Half]) [] O .sct ø (fun hc=>Gc Ru O O O) O ?_
 refine JLo (I64 b.Tier) [13] O .sct ⟨Ua,ø⟩ (fun hc=>Gf G9 O O O) O ?_
 refine JLo (BL (decide (a.Tier=b.Tier))) [12,14] O .sct ⟨Ua,Ua,ø⟩ (fun hc=>Q6 O O O) O ?_
 refine JLg (BL ((decide (a.G4=b.G4))&&(decide (a.Tier=b.Tier)))) (Qr O O O O) ?_
 refine JLm (BL ((decide (a.G4=b.G4))&&(decide (a.Tier=b.Tier)))) O ?_
 refine JLo (.dptr [U8 a.Half]) [] O .sct ø (fun hc=>Gc Rt O O O) O ?_
 refine JLo (U8 a.Half) [18] O .sct ⟨Ua,ø⟩ (fun hc=>Gf Jc O O O) O ?_
 refine JLo (.dptr [U8 b.Half]) [] O .sct ø (fun hc=>Gc Rt O O O) O ?_
 refine JLo (U8 b.Half) [20] O .sct ⟨Ua,ø⟩ (fun hc=>Gf Jc O O O) O ?_
 obtain⟨c,f,h⟩:=Gh h
 refine JLo (BL c) [19,21] O .sct ⟨Ua,Ua,ø⟩ (fun hc=>H3 (args:=[U8 a.Half,U8 b.Half]) O (H73 a.Half b.Half c (Hg hc f)) Ja3 ⟨O,O,O,O,ø⟩) O ?_
 refine JLg (BL (((decide (a.G4=b.G4))&&(decide (a.Tier=b.Tier)))&&c)) (Qr O O O O) ?_
 refine JLm (BL (((decide (a.G4=b.G4))&&(decide (a.Tier=b.Tier)))&&c)) O ?_
 refine G6 (e ?_)
 refine H2 ?_
 exact fin1 BL h

def Gdb (b:Box):Option Int:=
 bif b.High then
 (some 2896)
 else
 (some 2591)
theorem Q0a (b:Box) (r:Int) (h:Gdb b=some r):Pure En 115 [.agg (Box.cs b)] (·=I64 r):=by
 unfold Gdb at h
 refine Ha [.tmp 2] Tryz.func115 O O ?_
 refine Jr fun a=>?_
 refine JLg (.ptr 1192 0) (Q5 (cs:=(Box.cs b)) 1192 O O O O O) ?_
 refine JLm (I64 0) O ?_
 refine G6 (a ?_)
 refine Gj [(1,Eh b)] [] 1192 rfl rfl rfl ø rfl (by exact⟨.ptr,ø⟩) ?_
 refine Js fun c=>?_
 refine Jr fun d=>?_
 refine JLg (.dptr ((Box.cs b).drop 3)) (Gc H3a O O O) ?_
 refine JLg (BL b.High) (Gf Y5 O O O) ?_
 refine G6 (d ?_)
 refine JCc O h ?_ ?_<;>intro h hb
 ·
  refine Jr fun e=>?_
  refine JLm (I64 2896) O ?_
  refine G6 (e ?_)
  refine H2 ?_
  exact fin1 I64 h
 ·
  refine Gp ?_
  refine c ?_
  refine Jr fun f=>?_
  refine JLm (I64 2591) O ?_
  refine G6 (f ?_)
  refine H2 ?_
  exact fin1 I64 h

def G4d (boxes:List Box) (l:List G1) (column:Int) (half:Int):Option Int:=
 each (fun c i (a:Int) e=>
  jp (fun b=>
   bif ((decide (c.Slot.G4=column))&&((decide (c.Slot.Half=half))||(decide (c.Slot.Half=0)))) then
   (bnd (G36 boxes c.Box) fun d=>
    bif d.2 then
    (bnd (Gdb d.1) fun f=>
     chk (a+f) fun g=>
     b g)
    else
    (b a))
   else
   (b a)) fun(h:Int)=>
  e h)
 (fun(a:Int)=>
  some a) l 0 0
theorem H72 (boxes:List Box) (l:List G1) (column:Int) (half:Int) (r:Int) (h:G4d boxes l column half=some r):Pure En 78 [E6 boxes,E4 l,I64 column,U8 half] (·=I64 r):=by
 unfold G4d at h
 refine Ha [.tmp 8] Tryz.func78 O O ?_
 refine Jr fun a7=>?_
 refine JLm (I64 0) O ?_
 refine G6 (a7 ?_)
 refine Jr fun a8=>?_
 refine JLm (I64 0) O ?_
 refine G6 (a8 ?_)
 refine Js fun a9=>?_
 refine Jr fun b0=>?_
 refine JLm (E4 l) O ?_
 refine JLl Hd O O O fun o=>?_
 refine JLm (I64 0) O ?_
 refine G6 (b0 ?_)
 refine Gk ?_
 obtain⟨b1,p,q,k,h⟩:=J5 h
 refine Hk (fun b (d:Int)=>each b1 p (List.drop b l) b d=some r) (fun b d=>[(0,E6 boxes),(2,I64 column),(3,U8 half),(9,I64 d),(14,E4 l),(15,Em l.length),(16,Em b)]) (fun b d=>[]) (fun b=>l.length - b) 0 0 h ⟨(.sm O O),ø,rfl⟩ ?_
 clear h
 intro b d g b4 b2
 refine Jr fun s=>?_
 refine JLg (BL (decide ((b:Int) < (l.length:Int)))) (Jf O O O) ?_
 refine G6 (s ?_)
 refine Js fun t=>?_
 refine Gn O (fun hb=>?_) (fun hb=>?_)
 ·
  have i:=Jn hb
  obtain⟨a,b3,v,w,h⟩:=Hs g i
  replace h:=Rx q h
  refine Gp ?_
  refine t ?_
  obtain⟨x,m,h⟩:=Rc h
  refine Qf (fun e:Int=>x e=some r) (fun e=>[(0,E6 boxes),(2,I64 column),(3,U8 half),(9,I64 e),(14,E4 l),(15,Em l.length),(16,Em b)]) (fun e=>[]) (fun Kj30 ej30=>?_) ?_
  ·
   refine Gk ?_
   refine Jr fun z=>?_
   refine JLg (Eg a) (H4 (f:=G1.av) (xs:=l) (y:=a) O O O Hd v O) ?_
   refine JLg (.agg (G1.cs a)) (Gg Qw O O O) ?_
   refine JLg (.ptr 1164 0) (Hc 1164 4 Qk O O) ?_
   refine Hb (u:=.junk) (H0 (u:=.agg (G1.cs a)) (ds:=[I64 a.Box,I64 a.Slot.G4,I64 a.Slot.Tier,U8 a.Slot.Half]) Z0 O O O O O O O O) ?_
   refine G6 (z ?_)
   refine fzQ [(0,E6 boxes),(2,I64 column),(3,U8 half),(9,I64 d),(11,Eg a),(14,E4 l),(15,Em l.length),(16,Em b)] [] 1164 rfl rfl rfl ø rfl ?_
   refine Jr fun a0=>?_
   refine JLg (.dptr ((G1.cs a).drop 1)) (Gc Qc O O O) ?_
   refine JLg (.dptr ((G1.cs a).drop 1)) (Gc Qd O O O) ?_
   refine JLg (I64 a.Slot.G4) (Gf G9 O O O) ?_
   refine JLm (I64 column) O ?_
   refine JLg (BL (decide (a.Slot.G4=column))) (Q6 O O O) ?_
   refine JLm (BL (decide (a.Slot.G4=column))) O ?_
   refine JLo (.dptr ((G1.cs a).drop 1)) [] O .sct ø (fun hc=>Gc Qc O O O) O ?_
   refine JLo (.dptr [U8 a.Slot.Half]) [26] O .sct ⟨Ua,ø⟩ (fun hc=>Gc Rt O O O) O ?_
   refine JLo (U8 a.Slot.Half) [27] O .sct ⟨Ua,ø⟩ (fun hc=>Gf Jc O O O) O ?_
   refine JLo (U8 half) [] O .sct ø (fun hc=>G5 O O) O ?_
   refine JLo (BL (decide (a.Slot.Half=half))) [28,29] O .sct ⟨Ua,Ua,ø⟩ (fun hc=>Q6 O O O) O ?_
   refine JLo (BL (decide (a.Slot.Half=half))) [30] O .sct ⟨Ua,ø⟩ (fun hc=>G5 O O) O ?_
   refine JLo (.dptr ((G1.cs a).drop 1)) [] O .optf ø (fun hc=>Gc Qc O O O) O ?_
   refine JLo (.dptr [U8 a.Slot.Half]) [32] O .optf ⟨Ua,ø⟩ (fun hc=>Gc Rt O O O) O ?_
   refine JLo (U8 a.Slot.Half) [33] O .optf ⟨Ua,ø⟩ (fun hc=>Gf Jc O O O) O ?_
   refine JLo (BL (decide (a.Slot.Half=0))) [34] O .optf ⟨Ua,ø⟩ (fun hc=>Q6 O O O) O ?_
   refine Ga (u:=BL ((decide (a.Slot.Half=half))||(decide (a.Slot.Half=0)))) [(31,BL (decide (a.Slot.Half=half))),(35,_)] O O O .sct ⟨.all id,.part,ø⟩ (fun hc=>G27 O O O O) ?_
   refine JLg (BL ((decide (a.Slot.G4=column))&&((decide (a.Slot.Half=half))||(decide (a.Slot.Half=0))))) (Qr O O O O) ?_
   refine G6 (a0 ?_)
   refine JCc O h ?_ ?_<;>intro h hb
   ·
    refine Jr fun a1=>?_
    refine JLm (E6 boxes) O ?_
    refine JLg (Eg a) (Gc Jz O O O) ?_
    refine JLg (I64 a.Box) (Gf G9 O O O) ?_
    obtain⟨c,a2,h⟩:=Gh h
    refine JLg (.tup [.agg (Box.cs c.1),BL c.2]) (H3 O (H40 boxes a.Box c a2) Hda ⟨O,O,O,O,ø⟩) ?_
    refine JLm (.tup [.agg (Box.cs c.1),BL c.2]) O ?_
    refine JLg (.agg (Box.cs c.1)) (Gv O O O) ?_
    refine JLg (BL c.2) (Gv O O O) ?_
    refine JLg (.ptr 1165 0) (Hc 1165 9 Qm O O) ?_
    refine Hb (u:=.junk) (H0 (u:=.agg (Box.cs c.1)) (ds:=(Box.cs c.1)) Y1 O O O O O O O O) ?_
    refine JLm (BL c.2) O ?_
    refine G6 (a1 ?_)
    refine fzQ [(0,E6 boxes),(2,I64 column),(3,U8 half),(9,I64 d),(12,Eh c.1),(13,BL c.2),(14,E4 l),(15,Em l.length),(16,Em b)] [] 1165 rfl rfl rfl ø rfl ?_
    refine Jr fun a3=>?_
    refine JLm (BL c.2) O ?_
    refine G6 (a3 ?_)
    refine JCc O h ?_ ?_<;>intro h hb
    ·
     refine G2 ?_
     refine JLm (I64 d) O ?_
     refine JLg (.agg (Box.cs c.1)) (Gg Ys O O O) ?_
     obtain⟨n,a4,h⟩:=Gh h
     refine JLg (I64 n) (H3 O (Q0a c.1 n a4) Q95 ⟨O,O,ø⟩) ?_
     obtain⟨j,a5,h⟩:=J6 h
     refine JLg (I64 j) (Hz a5 O O O) ?_
     refine JLm (I64 j) O ?_
     refine G6 ?_
     exact ej30 _ _ j h ⟨(.sm O O),ø,rfl⟩
    ·
     refine Gp ?_
     exact ej30 _ _ d h ⟨(.sm O O),ø,rfl⟩
   ·
    refine Gp ?_
    exact ej30 _ _ d h ⟨(.sm O O),ø,rfl⟩
  ·intro e h
   replace h:=app1 m h
   refine G2 ?_
   refine JLg (I64 ((b+1:Nat):Int)) (Hz (He i o) O O O) ?_
   refine JLm (I64 ((b+1:Nat):Int)) O ?_
   refine G6 ?_
   exact b2 _ _ (b+1) e (app1 w h) (by omega) ⟨(.sm O O),ø,rfl⟩
 ·
  have h:=app1 k (Ht g (H9 hb))
  refine Hr ?_
  refine a9 ?_
  refine Jr fun a6=>?_
  refine JLm (I64 d) O ?_
  refine JLm (I64 d) O ?_
  refine G6 (a6 ?_)
  refine H2 ?_
  exact fin1 I64 h

def Gdc (s:Gb) (boxes:List Box) (l:List G1) (column:Int):Option Bool:=
 Q4 s.Columns column fun a=>
 bnd (bif (!(decide (a.Height≤0))) then G4d boxes l column 1 else some default) fun b=>
 bnd (bif ((!(decide (a.Height≤0)))&&(decide (b≤a.Height))) then G4d boxes l column 2 else some default) fun c=>
 some ((decide (a.Height≤0))||((decide (b≤a.Height))&&(decide (c≤a.Height))))
theorem Q0b (s:Gb) (boxes:List Box) (l:List G1) (column:Int) (r:Bool) (h:Gdc s boxes l column=some r):Pure En 41 [.agg (Gb.cs s),E6 boxes,E4 l,I64 column] (·=BL r):=by
 unfold Gdc at h
 refine Ha [.tmp 8] Tryz.func41 O O ?_
 refine Jr fun d=>?_
 refine JLg (.ptr 1123 0) (Q5 (cs:=(Gb.cs s)) 1123 O O O O O) ?_
 refine JLm (BL false) O ?_
 refine G6 (d ?_)
 refine fzQ [(1,E6 boxes),(2,E4 l),(3,I64 column),(4,Ef s)] [] 1123 rfl rfl rfl ø rfl ?_
 refine Jr fun e=>?_
 refine JLg (Ef s) (Gc Hm O O O) ?_
 refine JLg (E7 s.Columns) (Gf J3 O O O) ?_
 refine JLm (I64 column) O ?_
 obtain⟨n,a,g,i,h⟩:=Qx h
 refine JLg (Ei a) (H4 (f:=G4.av) (xs:=s.Columns) (y:=a) O O O Ho i g) ?_
 refine JLg (.dptr ((G4.cs a).drop 4)) (Gc Hcb O O O) ?_
 refine JLg (I64 a.Height) (Gf G9 O O O) ?_
 refine JLm (I64 a.Height) O ?_
 refine G6 (e ?_)
 refine Jr fun j=>?_
 refine JLm (I64 a.Height) O ?_
 refine JLg (BL (decide (a.Height≤0))) (H36 O O O) ?_
 refine JLm (BL (decide (a.Height≤0))) O ?_
 refine JLo (E6 boxes) [] O .scf ø (fun hc=>G5 O O) O ?_
 refine JLo (E4 l) [] O .scf ø (fun hc=>G5 O O) O ?_
 refine JLo (I64 column) [] O .scf ø (fun hc=>G5 O O) O ?_
 obtain⟨b,k,h⟩:=Gh h
 refine JLo (I64 b) [19,20,21] O .scf ⟨Ua,Ua,Ua,ø⟩ (fun hc=>H3 (args:=[E6 boxes,E4 l,I64 column,U8 1]) O (H72 boxes l column 1 b (Hg hc k)) Ja2 ⟨O,O,O,O,O,O,O,O,ø⟩) O ?_
 refine JLo (I64 a.Height) [] O .scf ø (fun hc=>G5 O O) O ?_
 refine JLo (BL (decide (b≤a.Height))) [22,23] O .scf ⟨Ua,Ua,ø⟩ (fun hc=>H36 O O O) O ?_
 refine JLo (BL (decide (b≤a.Height))) [24] O .scf ⟨Ua,ø⟩ (fun hc=>G5 O O) O ?_
 refine JLo (E6 boxes) [] O .optt ø (fun hc=>G5 O O) O ?_
 refine JLo (E4 l) [] O .optt ø (fun hc=>G5 O O) O ?_
 refine JLo (I64 column) [] O .optt ø (fun hc=>G5 O O) O ?_
 obtain⟨c,m,h⟩:=Gh h
 refine JLo (I64 c) [26,27,28] O .optt ⟨Ua,Ua,Ua,ø⟩ (fun hc=>H3 (args:=[E6 boxes,E4 l,I64 column,U8 2]) O (H72 boxes l column 2 c (Hg hc m)) Ja2 ⟨O,O,O,O,O,O,O,O,ø⟩) O ?_
 refine JLo (I64 a.Height) [] O .optt ø (fun hc=>G5 O O) O ?_
 refine JLo (BL (decide (c≤a.Height))) [29,30] O .optt ⟨Ua,Ua,ø⟩ (fun hc=>H36 O O O) O ?_
 refine Ga (u:=BL ((decide (b≤a.Height))&&(decide (c≤a.Height)))) [(25,BL (decide (b≤a.Height))),(31,_)] O O O .scf ⟨.all id,.part,ø⟩ (fun hc=>Qr O O O O) ?_
 refine JLg (BL ((decide (a.Height≤0))||((decide (b≤a.Height))&&(decide (c≤a.Height))))) (G27 O O O O) ?_
 refine JLm (BL ((decide (a.Height≤0))||((decide (b≤a.Height))&&(decide (c≤a.Height))))) O ?_
 refine G6 (j ?_)
 refine H2 ?_
 exact fin1 BL h

def Q9 (s:Gb) (boxes:List Box) (l:List G1):Option Bool:=
 bnd (Jg s) fun v=>
 bif (!v) then
 (some false)
 else
 (bnd (Gae l) fun f=>
  each (fun a b (j:Unit) g=>
   bnd (G36 boxes a.Box) fun c=>
   bnd (bif ((!(!c.2))&&(decide (0 < (b:Int)))) then chk ((b:Int) - 1) some else some 0) fun k=>
   bnd (bif ((!(!c.2))&&(decide (0 < (b:Int)))) then Q4 l k some else some default) fun d=>
   bnd (bif (!((!c.2)||((decide (0 < (b:Int)))&&(decide (a.Box≤d.Box))))) then Gb1 s a.Slot c.1.Size else some default) fun e=>
   bnd (bif (!(((!c.2)||((decide (0 < (b:Int)))&&(decide (a.Box≤d.Box))))||(!e))) then Gdf a.Slot f else some default) fun m=>
   bif ((((!c.2)||((decide (0 < (b:Int)))&&(decide (a.Box≤d.Box))))||(!e))||(!m)) then
   (some false)
   else
   (bnd (Ga7 (b:Int) f.length) fun n=>
    each (fun o w (p:Unit) h=>
     bnd (Gde a.Slot o) fun q=>
     bif q then
     (some false)
     else
     (h ()))
    (fun(p:Unit)=>
     g ()) (f.take n) 0 ()))
  (fun(j:Unit)=>
   each (fun x r (t:Unit) i=>
    bnd (Gdc s boxes l (r:Int)) fun u=>
    bif (!u) then
    (some false)
    else
    (i ()))
   (fun(t:Unit)=>
    some true) s.Columns 0 ()) l 0 ())
theorem G06 (s:Gb) (boxes:List Box) (l:List G1) (r:Bool) (h:Q9 s boxes l=some r):Pure En 14 [.agg (Gb.cs s),E6 boxes,E4 l] (·=BL r):=by
 unfold Q9 at h
 refine Ha [.tmp 6] Tryz.func14 O O ?_
 refine Jr fun f4=>?_
 refine JLg (.ptr 1056 0) (Q5 (cs:=(Gb.cs s)) 1056 O O O O O) ?_
 refine JLm (BL false) O ?_
 refine G6 (f4 ?_)
 refine Gj [(1,E6 boxes),(2,E4 l),(3,Ef s)] [] 1056 rfl rfl rfl ø rfl (by exact⟨.conv (.same rfl),.conv (.same rfl),.ptr,ø⟩) ?_
 refine Js fun f5=>?_
 refine Jr fun f6=>?_
 refine JLg (.agg (Gb.cs s)) (Gg Hn O O O) ?_
 obtain⟨r4,f7,h⟩:=Gh h
 refine JLg (BL r4) (H3 O (H1b.down s r4 f7) Hdb ⟨O,O,ø⟩) ?_
 refine JLg (BL (!r4)) (G1f (b:=r4) O O) ?_
 refine G6 (f6 ?_)
 refine JCc O h ?_ ?_<;>intro h hb
 ·
  refine Jr fun f8=>?_
  refine JLm (BL false) O ?_
  refine G6 (f8 ?_)
  refine H2 ?_
  exact fin1 BL h
 ·
  refine Gp ?_
  refine f5 ?_
  refine Jr fun f9=>?_
  refine JLm (E4 l) O ?_
  obtain⟨g,g0,h⟩:=Gh h
  refine JLg (E8 g) (H3 O (Je5 l g g0) R0d ⟨O,O,ø⟩) ?_
  refine JLm (E8 g) O ?_
  refine G6 (f9 ?_)
  refine Js fun g1=>?_
  refine Jr fun g2=>?_
  refine JLm (E4 l) O ?_
  refine JLl Hd O O O fun a8=>?_
  refine JLm (I64 0) O ?_
  refine G6 (g2 ?_)
  refine Gk ?_
  obtain⟨g3,a9,b0,a4,h⟩:=J5 h
  refine Hk (fun c (p:Unit)=>each g3 a9 (List.drop c l) c p=some r) (fun c p=>[(1,E6 boxes),(2,E4 l),(3,Ef s),(7,E8 g),(20,E4 l),(21,Em l.length),(22,Em c)]) (fun c p=>[]) (fun c=>l.length - c) 0 () h ⟨(.sm O O),ø,rfl⟩ ?_
  clear h
  intro c p w h4 g4
  refine Jr fun b1=>?_
  refine JLg (BL (decide ((c:Int) < (l.length:Int)))) (Jf O O O) ?_
  refine G6 (b1 ?_)
  refine Js fun b2=>?_
  refine Gn O (fun hb=>?_) (fun hb=>?_)
  ·
   have x:=Jn hb
   obtain⟨a,h0,b3,b4,h⟩:=Hs w x
   replace h:=Rx b0 h
   refine Gp ?_
   refine b2 ?_
   refine Js fun b5=>?_
   refine Gk ?_
   refine Jr fun b6=>?_
   refine JLm (Em c) O ?_
   refine JLg (Eg a) (H4 (f:=G1.av) (xs:=l) (y:=a) O O O Hd b3 O) ?_
   refine JLg (.agg (G1.cs a)) (Gg Qw O O O) ?_
   refine JLg (.ptr 1057 0) (Hc 1057 4 Qk O O) ?_
   refine JLm (Em c) O ?_
   refine Hb (u:=.junk) (H0 (u:=.agg (G1.cs a)) (ds:=[I64 a.Box,I64 a.Slot.G4,I64 a.Slot.Tier,U8 a.Slot.Half]) Z0 O O O O O O O O) ?_
   refine G6 (b6 ?_)
   refine fzQ [(1,E6 boxes),(2,E4 l),(3,Ef s),(7,E8 g),(8,Em c),(9,Eg a),(20,E4 l),(21,Em l.length),(22,Em c)] [] 1057 rfl rfl rfl ø rfl ?_
   refine Jr fun b7=>?_
   refine JLm (E6 boxes) O ?_
   refine JLg (Eg a) (Gc Jz O O O) ?_
   refine JLg (I64 a.Box) (Gf G9 O O O) ?_
   obtain⟨d,b8,h⟩:=Gh h
   refine JLg (.tup [.agg (Box.cs d.1),BL d.2]) (H3 O (H40 boxes a.Box d b8) Hda ⟨O,O,O,O,ø⟩) ?_
   refine JLm (.tup [.agg (Box.cs d.1),BL d.2]) O ?_
   refine JLg (.agg (Box.cs d.1)) (Gv O O O) ?_
   refine JLg (BL d.2) (Gv O O O) ?_
   refine JLg (.ptr 1058 0) (Hc 1058 9 Qm O O) ?_
   refine Hb (u:=.junk) (H0 (u:=.agg (Box.cs d.1)) (ds:=(Box.cs d.1)) Y1 O O O O O O O O) ?_
   refine JLm (BL d.2) O ?_
   refine G6 (b7 ?_)
   refine fzQ [(1,E6 boxes),(2,E4 l),(3,Ef s),(7,E8 g),(8,Em c),(9,Eg a),(10,Eh d.1),(11,BL d.2),(20,E4 l),(21,Em l.length),(22,Em c)] [] 1058 rfl rfl rfl ø rfl ?_
   refine Js fun b9=>?_
   refine Js fun c0=>?_
   obtain⟨g5,c1,h⟩:=Gh h
   obtain⟨j,c2,h⟩:=Gh h
   obtain⟨n,c3,h⟩:=Gh h
   obtain⟨o,c4,h⟩:=Gh h
   refine JC_d0 Q3 (by kernel_rfl) ?_
   refine Dq (BL d.2) (G5 O O) O ?_
   refine Dq (BL (!d.2)) (G1f (b:=d.2) O O) O ?_
   refine Dq (BL (!d.2)) (G5 O O) O ?_
   refine Do (Em c) [] O .scf ø (fun hc=>G5 O O) O ?_
   refine Do (BL (decide (0 < (c:Int)))) [37] O .scf ⟨Ua,ø⟩ (fun hc=>G46 O O O) O ?_
   refine Do (BL (decide (0 < (c:Int)))) [38] O .scf ⟨Ua,ø⟩ (fun hc=>G5 O O) O ?_
   refine Do (Eg a) [] O .optt ø (fun hc=>Gc Jz O O O) O ?_
   refine Do (I64 a.Box) [40] O .optt ⟨Ua,ø⟩ (fun hc=>Gf G9 O O O) O ?_
   refine Do (E4 l) [] O .optt ø (fun hc=>G5 O O) O ?_
   refine Do (Em c) [] O .optt ø (fun hc=>G5 O O) O ?_
   refine Do (I64 g5) [43] O .optt ⟨Ua,ø⟩ (fun hc=>H35 (H97 (Hg hc c1)) O O O) O ?_
   refine Do (Eg j) [42,44] O .optt ⟨Ua,Ua,ø⟩ (fun hc=>(match G2d (Hg hc c2) with | ⟨_,hm_,hy_⟩=>H4 (f:=G1.av) (xs:=l) (y:=j) O O O Hd hy_ hm_)) O ?_
   refine Do (Eg j) [45] O .optt ⟨Ua,ø⟩ (fun hc=>Gc Jz O O O) O ?_
   refine Do (I64 j.Box) [46] O .optt ⟨Ua,ø⟩ (fun hc=>Gf G9 O O O) O ?_
   refine Do (BL (decide (a.Box≤j.Box))) [41,47] O .optt ⟨Ua,Ua,ø⟩ (fun hc=>H36 O O O) O ?_
   refine Dg (.opt (!(!d.2)) (BL ((decide (0 < (c:Int)))&&(decide (a.Box≤j.Box))))) (Jw [(39,BL (decide (0 < (c:Int)))),(48,_)] O O O .scf ⟨.all id,.part,ø⟩ (fun hc=>Qr O O O O) O) O ?_
   refine Dq (BL ((!d.2)||((decide (0 < (c:Int)))&&(decide (a.Box≤j.Box))))) (G27 O O O O) O ?_
   refine Dq (BL ((!d.2)||((decide (0 < (c:Int)))&&(decide (a.Box≤j.Box))))) (G5 O O) O ?_
   refine Do (.agg (Gb.cs s)) [] O .scf ø (fun hc=>Gg Hn O O O) O ?_
   refine Do (.dptr ((G1.cs a).drop 1)) [] O .scf ø (fun hc=>Gc Qc O O O) O ?_
   refine Do (.agg ((G1.cs a).drop 1)) [53] O .scf ⟨Ua,ø⟩ (fun hc=>Gg Qa O O O) O ?_
   refine Do (.dptr ((Box.cs d.1).drop 2)) [] O .scf ø (fun hc=>Gc Z6 O O O) O ?_
   refine Do (U8 d.1.Size) [55] O .scf ⟨Ua,ø⟩ (fun hc=>Gf Jc O O O) O ?_
   refine Do (BL n) [52,54,56] O .scf ⟨Ua,Ua,Ua,ø⟩ (fun hc=>H3 (args:=[.agg (Gb.cs s),.agg ((G1.cs a).drop 1),U8 d.1.Size]) O (Je7 s a.Slot d.1.Size n (Hg hc c3)) R0c ⟨O,O,O,O,O,O,ø⟩) O ?_
   refine Do (BL (!n)) [57] O .scf ⟨Ua,ø⟩ (fun hc=>G1f (b:=n) O O) O ?_
   refine Dq (BL (((!d.2)||((decide (0 < (c:Int)))&&(decide (a.Box≤j.Box))))||(!n))) (G27 O O O O) O ?_
   refine Dq (BL (((!d.2)||((decide (0 < (c:Int)))&&(decide (a.Box≤j.Box))))||(!n))) (G5 O O) O ?_
   refine Do (.dptr ((G1.cs a).drop 1)) [] O .scf ø (fun hc=>Gc Qc O O O) O ?_
   refine Do (.agg ((G1.cs a).drop 1)) [61] O .scf ⟨Ua,ø⟩ (fun hc=>Gg Qa O O O) O ?_
   refine Do (E8 g) [] O .scf ø (fun hc=>G5 O O) O ?_
   refine Do (BL o) [62,63] O .scf ⟨Ua,Ua,ø⟩ (fun hc=>H3 (args:=[.agg ((G1.cs a).drop 1),E8 g]) O (Q0e a.Slot g o (Hg hc c4)) R0b ⟨O,O,O,O,ø⟩) O ?_
   refine Do (BL (!o)) [64] O .scf ⟨Ua,ø⟩ (fun hc=>G1f (b:=o) O O) O ?_
   refine Dq (BL ((((!d.2)||((decide (0 < (c:Int)))&&(decide (a.Box≤j.Box))))||(!n))||(!o))) (G27 O O O O) O ?_
   refine Dnil ?_
   refine c0 ?_
   refine JCc O h ?_ ?_<;>intro h hb
   ·
    refine Jr fun c5=>?_
    refine JLm (BL false) O ?_
    refine G6 (c5 ?_)
    refine H2 ?_
    exact fin1 BL h
   ·
    refine Gp ?_
    refine b9 ?_
    refine Jr fun c6=>?_
    refine JLm (E8 g) O ?_
    refine JLm (Em c) O ?_
    obtain⟨m,c7,h⟩:=Gh h
    refine JLg (E8 (g.take m)) (Y3 (f:=Slot.av) (xs:=g) O O O Rk (Rn c7)) ?_
    refine JLl Rk O O O fun c8=>?_
    refine JLm (I64 0) O ?_
    refine G6 (c6 ?_)
    refine Gk ?_
    obtain⟨g6,c9,d0,a5,h⟩:=J5 h
    refine Hk (fun i (q:Unit)=>each g6 c9 (List.drop i (g.take m)) i q=some r) (fun i q=>[(1,E6 boxes),(2,E4 l),(3,Ef s),(7,E8 g),(9,Eg a),(20,E4 l),(21,Em l.length),(22,Em c),(69,E8 (g.take m)),(70,I64 ((g.take m).length:Int)),(71,Em i)]) (fun i q=>[]) (fun i=>(g.take m).length - i) 0 () h ⟨(.sm O O),ø,rfl⟩ ?_
    clear h
    intro i q z h5 g7
    refine Jr fun d1=>?_
    refine JLg (BL (decide ((i:Int) < ((g.take m).length:Int)))) (Jf O O O) ?_
    refine G6 (d1 ?_)
    refine Js fun d2=>?_
    refine Gn O (fun hb=>?_) (fun hb=>?_)
    ·
     have a0:=Jn hb
     obtain⟨k,h1,d3,d4,h⟩:=Hs z a0
     replace h:=Rx d0 h
     refine Gp ?_
     refine d2 ?_
     refine Js fun d5=>?_
     refine Gk ?_
     refine Jr fun d6=>?_
     refine JLg (Ej k) (H4 (f:=Slot.av) (xs:=(g.take m)) (y:=k) O O O Rk d3 O) ?_
     refine JLg (.agg (Slot.cs k)) (Gg Qa O O O) ?_
     refine JLg (.ptr 1059 0) (Hc 1059 3 G0e O O) ?_
     refine Hb (u:=.junk) (H0 (u:=.agg (Slot.cs k)) (ds:=[I64 k.G4,I64 k.Tier,U8 k.Half]) G3a O O O O O O O O) ?_
     refine G6 (d6 ?_)
     refine fzQ [(1,E6 boxes),(2,E4 l),(3,Ef s),(7,E8 g),(9,Eg a),(13,Ej k),(20,E4 l),(21,Em l.length),(22,Em c),(69,E8 (g.take m)),(70,I64 ((g.take m).length:Int)),(71,Em i)] [] 1059 rfl rfl rfl ø rfl ?_
     refine Jr fun d7=>?_
     refine JLg (.dptr ((G1.cs a).drop 1)) (Gc Qc O O O) ?_
     refine JLg (.agg ((G1.cs a).drop 1)) (Gg Qa O O O) ?_
     refine JLg (.agg (Slot.cs k)) (Gg Qa O O O) ?_
     obtain⟨a7,d8,h⟩:=Gh h
     refine JLg (BL a7) (H3 O (Q0d a.Slot k a7 d8) R0a ⟨O,O,O,O,ø⟩) ?_
     refine G6 (d7 ?_)
     refine JCc O h ?_ ?_<;>intro h hb
     ·
      refine Jr fun d9=>?_
      refine JLm (BL false) O ?_
      refine G6 (d9 ?_)
      refine H2 ?_
      exact fin1 BL h
     ·
      refine Gp ?_
      refine d5 ?_
      refine G2 ?_
      refine JLg (I64 ((i+1:Nat):Int)) (Hz (He a0 c8) O O O) ?_
      refine JLm (I64 ((i+1:Nat):Int)) O ?_
      refine G6 ?_
      exact g7 _ _ (i+1) () (app1 d4 h) (by omega) ⟨(.sm O O),ø,rfl⟩
    ·
     have h:=app1 a5 (Ht z (H9 hb))
     refine Hr ?_
     refine b5 ?_
     refine G2 ?_
     refine JLg (I64 ((c+1:Nat):Int)) (Hz (He x a8) O O O) ?_
     refine JLm (I64 ((c+1:Nat):Int)) O ?_
     refine G6 ?_
     exact g4 _ _ (c+1) () (app1 b4 h) (by omega) ⟨(.sm O O),ø,rfl⟩
  ·
   have h:=app1 a4 (Ht w (H9 hb))
   refine Hr ?_
   refine g1 ?_
   refine Js fun e0=>?_
   refine Jr fun e1=>?_
   refine JLg (Ef s) (Gc Hm O O O) ?_
   refine JLg (E7 s.Columns) (Gf J3 O O O) ?_
   refine JLl Ho O O O fun e2=>?_
   refine JLm (I64 0) O ?_
   refine G6 (e1 ?_)
   refine Gk ?_
   obtain⟨g8,e3,e4,a6,h⟩:=J5 h
   refine Hk (fun e (t:Unit)=>each g8 e3 (List.drop e s.Columns) e t=some r) (fun e t=>[(1,E6 boxes),(2,E4 l),(3,Ef s),(83,Em s.Columns.length),(84,Em e)]) (fun e t=>[]) (fun e=>s.Columns.length - e) 0 () h ⟨(.sm O O),ø,rfl⟩ ?_
   clear h
   intro e t a1 h6 g9
   refine Jr fun e5=>?_
   refine JLg (BL (decide ((e:Int) < (s.Columns.length:Int)))) (Jf O O O) ?_
   refine G6 (e5 ?_)
   refine Js fun e6=>?_
   refine Gn O (fun hb=>?_) (fun hb=>?_)
   ·
    have a2:=Jn hb
    obtain⟨h7,h2,h3,e7,h⟩:=Hs a1 a2
    replace h:=Rx e4 h
    refine Gp ?_
    refine e6 ?_
    refine Js fun e8=>?_
    refine Gk ?_
    refine Jr fun e9=>?_
    refine JLm (Em e) O ?_
    refine JLm (Em e) O ?_
    refine G6 (e9 ?_)
    refine Jr fun f0=>?_
    refine JLg (.agg (Gb.cs s)) (Gg Hn O O O) ?_
    refine JLm (E6 boxes) O ?_
    refine JLm (E4 l) O ?_
    refine JLm (Em e) O ?_
    obtain⟨v,f1,h⟩:=Gh h
    refine JLg (BL v) (H3 O (Q0b s boxes l (e:Int) v f1) R09 ⟨O,O,O,O,O,O,O,O,ø⟩) ?_
    refine JLg (BL (!v)) (G1f (b:=v) O O) ?_
    refine G6 (f0 ?_)
    refine JCc O h ?_ ?_<;>intro h hb
    ·
     refine Jr fun f2=>?_
     refine JLm (BL false) O ?_
     refine G6 (f2 ?_)
     refine H2 ?_
     exact fin1 BL h
    ·
     refine Gp ?_
     refine e8 ?_
     refine G2 ?_
     refine JLg (I64 ((e+1:Nat):Int)) (Hz (He a2 e2) O O O) ?_
     refine JLm (I64 ((e+1:Nat):Int)) O ?_
     refine G6 ?_
     exact g9 _ _ (e+1) () (app1 e7 h) (by omega) ⟨(.sm O O),ø,rfl⟩
   ·
    have h:=app1 a6 (Ht a1 (H9 hb))
    refine Hr ?_
    refine e0 ?_
    refine Jr fun f3=>?_
    refine JLm (BL true) O ?_
    refine G6 (f3 ?_)
    refine H2 ?_
    exact fin1 BL h

def Ri (s1_:List G1) (s2_:List G1) (cmp:G1→G1→Option Int):Option Int:=
 each (fun d a (e:Unit) c=>
  bif decide ((s2_.length:Int)≤(a:Int)) then
  (some 1)
  else
  (Q4 s2_ (a:Int) fun f=>
   bnd (cmp d f) fun b=>
   bif decide (b≠0) then
   (some b)
   else
   (c ())))
 (fun(e:Unit)=>
  bif decide ((s1_.length:Int) < (s2_.length:Int)) then
  (some (-1))
  else
  (some 0)) s1_ 0 ()
theorem Gb2 (s1_:List G1) (s2_:List G1) (cmp:G1→G1→Option Int) (cmp_f:FuncId) (cmp_c:List AV) (cmp_B:Hh En cmp_f=true) (cmp_d:Qn (fun _=>false) cmp_c=true) (cmp_w:∀ a0 a1 q,cmp a0 a1=some q→Pure En cmp_f ([.agg (G1.cs a0),.agg (G1.cs a1)]++cmp_c) (·=I64 q)) (r:Int) (h:Ri s1_ s2_ cmp=some r):Pure En 106 [E4 s1_,E4 s2_,.fn cmp_f cmp_c] (·=I64 r):=by
 unfold Ri at h
 refine Ha [.tmp 6] Tryz.func106 O O ?_
 refine Jr fun b3=>?_
 refine JLm (I64 0) O ?_
 refine G6 (b3 ?_)
 refine Js fun b4=>?_
 refine Jr fun b5=>?_
 refine JLm (E4 s1_) O ?_
 refine JLl Hd O O O fun k=>?_
 refine JLm (I64 0) O ?_
 refine G6 (b5 ?_)
 refine Gk ?_
 obtain⟨b6,l,m,j,h⟩:=J5 h
 refine Hk (fun a (e:Unit)=>each b6 l (List.drop a s1_) a e=some r) (fun a e=>[(0,E4 s1_),(1,E4 s2_),(2,.fn cmp_f cmp_c),(11,E4 s1_),(12,Em s1_.length),(13,Em a)]) (fun a e=>[]) (fun a=>s1_.length - a) 0 () h ⟨⟨.same O,.same O,.same (Jx _ _ cmp_d),.same O,.same O,.same O,ø⟩,ø,O⟩ ?_
 clear h
 intro a e g c2 b7
 refine Jr fun n=>?_
 refine JLg (BL (decide ((a:Int) < (s1_.length:Int)))) (Jf O O O) ?_
 refine G6 (n ?_)
 refine Js fun o=>?_
 refine Gn O (fun hb=>?_) (fun hb=>?_)
 ·
  have i:=Jn hb
  obtain⟨b,b8,p,s,h⟩:=Hs g i
  replace h:=Rx m h
  refine Gp ?_
  refine o ?_
  refine Js fun t=>?_
  refine Gk ?_
  refine Jr fun v=>?_
  refine JLm (Em a) O ?_
  refine JLg (Eg b) (H4 (f:=G1.av) (xs:=s1_) (y:=b) O O O Hd p O) ?_
  refine JLg (.agg (G1.cs b)) (Gg Qw O O O) ?_
  refine JLg (.ptr 1179 0) (Hc 1179 4 Qk O O) ?_
  refine JLm (Em a) O ?_
  refine Hb (u:=.junk) (H0 (u:=.agg (G1.cs b)) (ds:=[I64 b.Box,I64 b.Slot.G4,I64 b.Slot.Tier,U8 b.Slot.Half]) Z0 O O O O O O O O) ?_
  refine G6 (v ?_)
  refine Gj [(0,E4 s1_),(1,E4 s2_),(2,.fn cmp_f cmp_c),(7,Em a),(8,Eg b),(11,E4 s1_),(12,Em s1_.length),(13,Em a)] [] 1179 rfl rfl rfl ø rfl (by exact⟨.conv (.same rfl),.conv (.same rfl),.conv (.same (Jx _ _ cmp_d)),.conv (.same rfl),.ptr,.conv (.same rfl),.conv (.same rfl),.conv (.same rfl),ø⟩) ?_
  refine Js fun w=>?_
  refine Jr fun x=>?_
  refine JLm (Em a) O ?_
  refine JLm (E4 s2_) O ?_
  refine JLl Hd O O O fun b9=>?_
  refine JLg (BL (decide ((s2_.length:Int)≤(a:Int)))) (Ge4 O O O) ?_
  refine G6 (x ?_)
  refine JCc O h ?_ ?_<;>intro h hb
  ·
   refine Jr fun z=>?_
   refine JLm (I64 1) O ?_
   refine G6 (z ?_)
   refine H2 ?_
   exact fin1 I64 h
  ·
   refine Gp ?_
   refine w ?_
   refine Jr fun a2=>?_
   refine JLm (E4 s2_) O ?_
   refine JLm (Em a) O ?_
   obtain⟨c3,c,a3,a4,h⟩:=Qx h
   refine JLg (Eg c) (H4 (f:=G1.av) (xs:=s2_) (y:=c) O O O Hd a4 a3) ?_
   refine JLg (.agg (G1.cs c)) (Gg Qw O O O) ?_
   refine JLg (.ptr 1180 0) (Hc 1180 4 Qk O O) ?_
   refine Hb (u:=.junk) (H0 (u:=.agg (G1.cs c)) (ds:=[I64 c.Box,I64 c.Slot.G4,I64 c.Slot.Tier,U8 c.Slot.Half]) Z0 O O O O O O O O) ?_
   refine G6 (a2 ?_)
   refine Gj [(0,E4 s1_),(1,E4 s2_),(2,.fn cmp_f cmp_c),(8,Eg b),(9,Eg c),(11,E4 s1_),(12,Em s1_.length),(13,Em a)] [] 1180 rfl rfl rfl ø rfl (by exact⟨.conv (.same rfl),.conv (.same rfl),.conv (.same (Jx _ _ cmp_d)),.conv (.same rfl),.ptr,.conv (.same rfl),.conv (.same rfl),.conv (.same rfl),ø⟩) ?_
   refine Jr fun a5=>?_
   refine JLm (.fn cmp_f cmp_c) O ?_
   refine JLg (.agg (G1.cs b)) (Gg Qw O O O) ?_
   refine JLg (.agg (G1.cs c)) (Gg Qw O O O) ?_
   obtain⟨d,a6,h⟩:=Gh h
   refine JLg (I64 d) (G33 (args:=[.agg (G1.cs b),.agg (G1.cs c)]) (caps:=cmp_c) O O (cmp_w b c _ a6) cmp_B ⟨O,O,O,O,ø⟩ cmp_d) ?_
   refine JLm (I64 d) O ?_
   refine G6 (a5 ?_)
   refine Jr fun a7=>?_
   refine JLm (I64 d) O ?_
   refine JLg (BL (decide (d≠0))) (Gf1 O O O) ?_
   refine G6 (a7 ?_)
   refine JCc O h ?_ ?_<;>intro h hb
   ·
    refine Jr fun a8=>?_
    refine JLm (I64 d) O ?_
    refine JLm (I64 d) O ?_
    refine G6 (a8 ?_)
    refine H2 ?_
    exact fin1 I64 h
   ·
    refine Gp ?_
    refine t ?_
    refine G2 ?_
    refine JLg (I64 ((a+1:Nat):Int)) (Hz (He i k) O O O) ?_
    refine JLm (I64 ((a+1:Nat):Int)) O ?_
    refine G6 ?_
    exact b7 _ _ (a+1) () (app1 s h) (by omega) ⟨⟨.same rfl,.same rfl,.same (Jx _ _ cmp_d),.same rfl,.same rfl,.same rfl,ø⟩,ø,rfl⟩
 ·
  have h:=app1 j (Ht g (H9 hb))
  refine Hr ?_
  refine b4 ?_
  refine Js fun a9=>?_
  refine Jr fun b0=>?_
  refine JLm (E4 s1_) O ?_
  refine JLl Hd O O O fun c0=>?_
  refine JLm (E4 s2_) O ?_
  refine JLl Hd O O O fun c1=>?_
  refine JLg (BL (decide ((s1_.length:Int) < (s2_.length:Int)))) (Jf O O O) ?_
  refine G6 (b0 ?_)
  refine JCc O h ?_ ?_<;>intro h hb
  ·
   refine Jr fun b1=>?_
   refine JLm (I64 (-1)) O ?_
   refine G6 (b1 ?_)
   refine H2 ?_
   exact fin1 I64 h
  ·
   refine Gp ?_
   refine a9 ?_
   refine Jr fun b2=>?_
   refine JLm (I64 0) O ?_
   refine G6 (b2 ?_)
   refine H2 ?_
   exact fin1 I64 h

def G1a (x:Int):Option Bool:=
 some (decide (x≠x))
theorem Gef (x:Int) (r:Bool) (h:G1a x=some r):Pure En 80 [U8 x] (·=BL r):=by
 unfold G1a at h
 refine Ha [.tmp 2] Tryz.func80 O O ?_
 refine Jr fun a=>?_
 refine JLm (BL false) O ?_
 refine G6 (a ?_)
 refine Jr fun b=>?_
 refine JLm (U8 x) O ?_
 refine JLm (U8 x) O ?_
 refine JLg (BL (decide (x≠x))) (Gf1 O O O) ?_
 refine JLm (BL (decide (x≠x))) O ?_
 refine G6 (b ?_)
 refine H2 ?_
 exact fin1 BL h

def Zq (x:Int) (y:Int):Option Int:=
 bnd (G1a x) fun b=>
 bnd (G1a y) fun a=>
 bif b then
 (bif a then
  (some 0)
  else
  (some (-1)))
 else
 (bif a then
  (some 1)
  else
  (bif decide (x < y) then
   (some (-1))
   else
   (bif decide (y < x) then
    (some 1)
    else
    (some 0))))
theorem H7a (x:Int) (y:Int) (r:Int) (h:Zq x y=some r):Pure En 44 [U8 x,U8 y] (·=I64 r):=by
 unfold Zq at h
 refine Ha [.tmp 4] Tryz.func44 O O ?_
 refine Jr fun p=>?_
 refine JLm (I64 0) O ?_
 refine G6 (p ?_)
 refine Jr fun q=>?_
 refine JLm (U8 x) O ?_
 obtain⟨b,s,h⟩:=Gh h
 refine JLg (BL b) (H3 O (Gef x b s) Ja0 ⟨O,O,ø⟩) ?_
 refine JLm (BL b) O ?_
 refine G6 (q ?_)
 refine Jr fun t=>?_
 refine JLm (U8 y) O ?_
 obtain⟨a,u,h⟩:=Gh h
 refine JLg (BL a) (H3 O (Gef y a u) Ja0 ⟨O,O,ø⟩) ?_
 refine JLm (BL a) O ?_
 refine G6 (t ?_)
 refine Js fun v=>?_
 refine Jr fun w=>?_
 refine JLm (BL b) O ?_
 refine G6 (w ?_)
 refine JCc O h ?_ ?_<;>intro h hb
 ·
  refine Js fun z=>?_
  refine Jr fun a0=>?_
  refine JLm (BL a) O ?_
  refine G6 (a0 ?_)
  refine JCc O h ?_ ?_<;>intro h hb
  ·
   refine Jr fun c=>?_
   refine JLm (I64 0) O ?_
   refine G6 (c ?_)
   refine H2 ?_
   exact fin1 I64 h
  ·
   refine Gp ?_
   refine z ?_
   refine Jr fun d=>?_
   refine JLm (I64 (-1)) O ?_
   refine G6 (d ?_)
   refine H2 ?_
   exact fin1 I64 h
 ·
  refine Gp ?_
  refine v ?_
  refine Js fun e=>?_
  refine Jr fun f=>?_
  refine JLm (BL a) O ?_
  refine G6 (f ?_)
  refine JCc O h ?_ ?_<;>intro h hb
  ·
   refine Jr fun g=>?_
   refine JLm (I64 1) O ?_
   refine G6 (g ?_)
   refine H2 ?_
   exact fin1 I64 h
  ·
   refine Gp ?_
   refine e ?_
   refine Js fun i=>?_
   refine Jr fun j=>?_
   refine JLm (U8 x) O ?_
   refine JLm (U8 y) O ?_
   refine JLg (BL (decide (x < y))) (Jf O O O) ?_
   refine G6 (j ?_)
   refine JCc O h ?_ ?_<;>intro h hb
   ·
    refine Jr fun k=>?_
    refine JLm (I64 (-1)) O ?_
    refine G6 (k ?_)
    refine H2 ?_
    exact fin1 I64 h
   ·
    refine Gp ?_
    refine i ?_
    refine Js fun l=>?_
    refine Jr fun m=>?_
    refine JLm (U8 x) O ?_
    refine JLm (U8 y) O ?_
    refine JLg (BL (decide (y < x))) (G46 O O O) ?_
    refine G6 (m ?_)
    refine JCc O h ?_ ?_<;>intro h hb
    ·
     refine Jr fun n=>?_
     refine JLm (I64 1) O ?_
     refine G6 (n ?_)
     refine H2 ?_
     exact fin1 I64 h
    ·
     refine Gp ?_
     refine l ?_
     refine Jr fun o=>?_
     refine JLm (I64 0) O ?_
     refine G6 (o ?_)
     refine H2 ?_
     exact fin1 I64 h

def G2f (a:Slot) (b:Slot):Option Int:=
 bnd (R3 a.G4 b.G4) fun c=>
 bnd (R3 a.Tier b.Tier) fun d=>
 bnd (Zq a.Half b.Half) fun e=>
 bnd (G6a [c,d,e]) fun f=>
 some f
theorem H4d (a:Slot) (b:Slot) (r:Int) (h:G2f a b=some r):Pure En 15 [.agg [I64 a.G4,I64 a.Tier,U8 a.Half],.agg [I64 b.G4,I64 b.Tier,U8 b.Half]] (·=I64 r):=by
 unfold G2f at h
 refine Ha [.tmp 4] Tryz.func15 O O ?_
 refine Jr fun g=>?_
 refine JLg (.ptr 1060 0) (Q5 (cs:=[I64 a.G4,I64 a.Tier,U8 a.Half]) 1060 O O O O O) ?_
 refine JLg (.ptr 1061 0) (Q5 (cs:=[I64 b.G4,I64 b.Tier,U8 b.Half]) 1061 O O O O O) ?_
 refine JLm (I64 0) O ?_
 refine G6 (g ?_)
 refine Gj [(2,.dptr [I64 a.G4,I64 a.Tier,U8 a.Half]),(3,.ptr 1061 0)] [(1061,.box 63 [I64 b.G4,I64 b.Tier,U8 b.Half])] 1060 rfl rfl rfl ⟨⟨_,rfl,.boxEq rfl rfl⟩,ø⟩ rfl (by exact⟨.ptr,.conv (.same rfl),ø⟩) ?_
 refine Gj [(2,.dptr [I64 a.G4,I64 a.Tier,U8 a.Half]),(3,.dptr [I64 b.G4,I64 b.Tier,U8 b.Half])] [] 1061 rfl rfl rfl ø rfl (by exact⟨.conv (.same rfl),.ptr,ø⟩) ?_
 refine Js fun i=>?_
 obtain⟨c,j,h⟩:=Gh h
 obtain⟨d,k,h⟩:=Gh h
 obtain⟨e,l,h⟩:=Gh h
 obtain⟨f,m,h⟩:=Gh h
 refine JC_d0 Q3 (by kernel_rfl) ?_
 refine Dq (.dptr [I64 a.G4,I64 a.Tier,U8 a.Half]) (Gc Qd O O O) O ?_
 refine Dq (I64 a.G4) (Gf G9 O O O) O ?_
 refine Dq (.dptr [I64 b.G4,I64 b.Tier,U8 b.Half]) (Gc Qd O O O) O ?_
 refine Dq (I64 b.G4) (Gf G9 O O O) O ?_
 refine Dq (I64 c) (H3 (args:=[I64 a.G4,I64 b.G4]) O (Zr a.G4 b.G4 c j) H0c ⟨O,O,O,O,ø⟩) O ?_
 refine Dq (.dptr [I64 a.Tier,U8 a.Half]) (Gc Ru O O O) O ?_
 refine Dq (I64 a.Tier) (Gf G9 O O O) O ?_
 refine Dq (.dptr [I64 b.Tier,U8 b.Half]) (Gc Ru O O O) O ?_
 refine Dq (I64 b.Tier) (Gf G9 O O O) O ?_
 refine Dq (I64 d) (H3 (args:=[I64 a.Tier,I64 b.Tier]) O (Zr a.Tier b.Tier d k) H0c ⟨O,O,O,O,ø⟩) O ?_
 refine Dq (.dptr [U8 a.Half]) (Gc Rt O O O) O ?_
 refine Dq (U8 a.Half) (Gf Jc O O O) O ?_
 refine Dq (.dptr [U8 b.Half]) (Gc Rt O O O) O ?_
 refine Dq (U8 b.Half) (Gf Jc O O O) O ?_
 refine Dq (I64 e) (H3 (args:=[U8 a.Half,U8 b.Half]) O (H7a a.Half b.Half e l) R08 ⟨O,O,O,O,ø⟩) O ?_
 refine Dq (E5 [c,d,e]) (H7 (xs:=[I64 c,I64 d,I64 e]) O ⟨O,O,O,O,O,O,ø⟩ H1 Rb O O O O) O ?_
 refine Dq (I64 f) (H3 (args:=[E5 [c,d,e]]) O (Ha4 [c,d,e] f m) Ja9 ⟨O,O,ø⟩) O ?_
 refine Dq (I64 f) (G7 O O) O ?_
 refine Dnil ?_
 refine i ?_
 refine H2 ?_
 exact fin1 I64 h

def Y2 (x:G1) (y:G1):Option Int:=
 bnd (G2f x.Slot y.Slot) fun a=>
 some a
theorem Ha1 (x:G1) (y:G1) (r:Int) (h:Y2 x y=some r):Pure En 107 [.agg (G1.cs x),.agg (G1.cs y)] (·=I64 r):=by
 unfold Y2 at h
 refine Ha [.tmp 4] Tryz.func107 O O ?_
 refine Jr fun b=>?_
 refine JLg (.ptr 1181 0) (Q5 (cs:=[I64 x.Box,I64 x.Slot.G4,I64 x.Slot.Tier,U8 x.Slot.Half]) 1181 O O O O O) ?_
 refine JLg (.ptr 1182 0) (Q5 (cs:=[I64 y.Box,I64 y.Slot.G4,I64 y.Slot.Tier,U8 y.Slot.Half]) 1182 O O O O O) ?_
 refine JLm (I64 0) O ?_
 refine G6 (b ?_)
 refine Gj [(2,Eg x),(3,.ptr 1182 0)] [(1182,.box 65 [I64 y.Box,I64 y.Slot.G4,I64 y.Slot.Tier,U8 y.Slot.Half])] 1181 rfl rfl rfl ⟨⟨_,rfl,.boxEq rfl rfl⟩,ø⟩ rfl (by exact⟨.ptr,.conv (.same rfl),ø⟩) ?_
 refine Gj [(2,Eg x),(3,Eg y)] [] 1182 rfl rfl rfl ø rfl (by exact⟨.conv (.same rfl),.ptr,ø⟩) ?_
 refine Jr fun c=>?_
 refine JLg (.dptr ((G1.cs x).drop 1)) (Gc Qc O O O) ?_
 refine JLg (.agg ((G1.cs x).drop 1)) (Gg Qa O O O) ?_
 refine JLg (.dptr ((G1.cs y).drop 1)) (Gc Qc O O O) ?_
 refine JLg (.agg ((G1.cs y).drop 1)) (Gg Qa O O O) ?_
 obtain⟨a,d,h⟩:=Gh h
 refine JLg (I64 a) (H3 O (H4d x.Slot y.Slot a d) Jad ⟨O,O,O,O,ø⟩) ?_
 refine JLm (I64 a) O ?_
 refine G6 (c ?_)
 refine H2 ?_
 exact fin1 I64 h

def Ya (a:List G1) (b:List G1):Option Int:=
 bnd (Ri a b (fun z0 z1=>Y2 z0 z1)) fun c=>
 some c
theorem Hf4 (a:List G1) (b:List G1) (r:Int) (h:Ya a b=some r):Pure En 64 [E4 a,E4 b] (·=I64 r):=by
 unfold Ya at h
 refine Ha [.tmp 4] Tryz.func64 O O ?_
 refine Jr fun d=>?_
 refine JLm (I64 0) O ?_
 refine G6 (d ?_)
 refine Jr fun e=>?_
 refine JLm (E4 a) O ?_
 refine JLm (E4 b) O ?_
 obtain⟨c,f,h⟩:=Gh h
 refine JLg (I64 c) (H3 O (Gb2 a b (fun z0 z1=>Y2 z0 z1) 107 [] Q9b O (fun z0 z1 q hq=>Ha1 z0 z1 q hq) c f) Q9c ⟨O,O,O,O,O,O,ø⟩) ?_
 refine JLm (I64 c) O ?_
 refine G6 (e ?_)
 refine H2 ?_
 exact fin1 I64 h

def Q7 (F:Nat) (s:Gb) (boxes:List Box) (ids:List Int):Option (List (List G1)):=
 bnd (H70 (s.Columns.length:Int)) fun c=>
 need (decide (8*c≤281474976710656∧c≤maxLen∧c*1≤16777216)) <|
 bnd (G44 s (List.replicate c (0:Int)) ids) fun j=>
 bnd (G18 F ids s (List.replicate c (0:Int))) fun e=>
 each (fun f i (a:(List (List G1))) d=>
  bnd (Hcc (fun z0 z1=>Yr z0 z1) f) fun b=>
  bnd (Q9 s boxes b) fun g=>
  bif g then
  (need (decide ((a.length+[b].length)*24≤140737488355328∧a.length+[b].length≤maxLen)) <|
   d (a++[b]))
  else
  (d a))
 (fun(a:(List (List G1)))=>
  bnd (H87 (fun z0 z1=>Ya z0 z1) a) fun h=>
  some h) e 0 []
abbrev Es:List AV:=[.vec 1083 (([]:List (List G1)).length) 1 (([]:List (List G1)).length)]
theorem H2f (F:Nat) (s:Gb) (boxes:List Box) (ids:List Int) (r:(List (List G1))) (h:Q7 F s boxes ids=some r):Pure En 23 [.agg (Gb.cs s),E6 boxes,E5 ids] (·=LS 1 (E4) r):=by
 unfold Q7 at h
 refine Ha [.tmp 6] Tryz.func23 O O ?_
 refine Jr fun a7=>?_
 refine JLg (.ptr 1079 0) (Q5 (cs:=(Gb.cs s)) 1079 O O O O O) ?_
 refine JLg (.ptr 1080 0) (Q5 (cs:=[E6 boxes]) 1080 O O O O O) ?_
 refine JLg (LS 1 (E4) ([]:List (List G1))) (Qj 1 O O) ?_
 refine G6 (a7 ?_)
 refine Gj [(2,E5 ids),(3,Ef s),(4,.ptr 1080 0)] [(1080,.box 38 [E6 boxes])] 1079 rfl rfl rfl ⟨⟨_,rfl,.boxEq rfl rfl⟩,ø⟩ rfl (by exact⟨.conv (.same rfl),.ptr,.conv (.same rfl),ø⟩) ?_
 refine Gj [(2,E5 ids),(3,Ef s),(4,.dptr [E6 boxes])] [] 1080 rfl rfl rfl ø rfl (by exact⟨.conv (.same rfl),.conv (.same rfl),.ptr,ø⟩) ?_
 refine Jr fun a8=>?_
 refine JLg (.ptr 1081 0) (Yc 1081 [.sc (.slice none 0 0)] [.slice none 0 0] Qe9 ⟨.inl O,ø⟩ O O) ?_
 refine Hf6 1081 0 1083 59 1 O O O (cs':=Es) O ?_
 refine G6 (a8 ?_)
 refine Js fun a9=>?_
 refine Js fun b0=>?_
 refine Ye (l':=[(2,E5 ids),(3,Ef s),(4,.dptr [E6 boxes]),(7,.ptr 1081 0)]) (L':=[(1081,.box 42 Es),(1083,.vec 59 1 (([]:List (List G1)).length) (([]:List (List G1)).map (E4)))]) ⟨(.sm O O),⟨fbQ O ⟨.same rfl,ø⟩,⟨_,rfl,.vec⟩,ø⟩,rfl⟩ ?_
 obtain⟨e,k,h⟩:=Gh h
 obtain⟨b1,h⟩:=J9 h
 obtain⟨r7,b2,h⟩:=Gh h
 refine JC_d0 Q3 (by kernel_rfl) ?_
 refine Dq (.agg (Gb.cs s)) (Gg Hn O O O) O ?_
 refine Dq (Ef s) (Gc Hm O O O) O ?_
 refine Dq (E7 s.Columns) (Gf J3 O O O) O ?_
 refine Dq (Em s.Columns.length) (G32 (f:=G4.av) (xs:=s.Columns) Ho O O) O ?_
 refine Dq (E5 (List.replicate e (0:Int))) (Qdb (f:=I64) (n:=e) 0 [E0] O O O H1 G64 R7b (Hb0 k) (Hb0 k) b1 ⟨.inl O,ø⟩ O) O ?_
 refine Dq (E5 ids) (G5 O O) O ?_
 refine Dq (.fn 98 [.dptr [E5 ids],Ef s,.dptr [E5 (List.replicate e (0:Int))]]) (H3 (args:=[.agg (Gb.cs s),E5 (List.replicate e (0:Int)),E5 ids]) O (H31 s (List.replicate e (0:Int)) ids r7 b2) Ja7 ⟨O,O,O,O,O,O,ø⟩) O ?_
 refine Dnil ?_
 refine b0 ?_
 refine Gk ?_
 obtain⟨d,hy_18,h⟩:=Gh h
 obtain⟨b3,t,v,j,h⟩:=J5 h
 refine Q12 (p:=16) (f:=G1.av) 1082 [(3,Ef s),(4,.dptr [E6 boxes]),(7,.ptr 1081 0),(15,.fn 98 [.dptr [E5 ids],Ef s,.dptr [E5 (List.replicate e (0:Int))]])] d (fun g (a:(List (List G1)))=>each b3 t (List.drop g d) g a=some r) (fun a=>[(1083,.vec 59 1 a.length (a.map (E4))),(1081,.box 42 [.vec 1083 a.length 1 a.length])]) [] rfl rfl rfl J9c (Hbe.down F ids s (List.replicate e (0:Int)) d hy_18) (fun _=>rfl) h ⟨(.sm O O),⟨⟨_,rfl,.vec⟩,fbQ O ⟨.same rfl,ø⟩,ø⟩,rfl⟩ rfl (fun _=>(.sm O O)) (fun _=>rfl) ?_ ?_
 ·
  intro g y_ a hu_ w lr_ b6 l
  obtain⟨x,e_⟩:=Kw hu_
  subst e_
  obtain⟨c,b5,y,i,h⟩:=Hs w x
  replace h:=Rx v h
  obtain⟨_,rfl⟩:=Kw y
  generalize d[g]=c at h ⊢
  change JC _ _ _ _ [(16,.vec 1082 0 4 c.length),(3,Ef s),(4,.dptr [E6 boxes]),(7,.ptr 1081 0),(15,.fn 98 [.dptr [E5 ids],Ef s,.dptr [E5 (List.replicate e (0:Int))]])] [(1082,.vec 65 4 0 (c.map G1.av)),(1083,.vec 59 1 a.length (a.map (E4))),(1081,.box 42 [.vec 1083 a.length 1 a.length])]
  refine G2 ?_
  refine JLm (.vec 1082 0 4 c.length) O ?_
  refine G6 ?_
  refine Re4 ?_
  refine Gk ?_
  refine Jr fun z=>?_
  refine JLm (.vec 1082 0 4 c.length) O ?_
  obtain⟨b,a0,h⟩:=Gh h
  refine JLg (.tup []) (Q78 (f:=G1.av) (cmp:=(fun z0 z1=>Yr z0 z1)) (xs:=c) (r:=b) G1.vs O R23 Qa4 (fun _=>O) (fun _=>O) (fun _=>R3f O) R03 R02 O O O O O a0 (fun z0 z1 q hq=>Hc0 z0 z1 q hq) O) ?_
  refine G6 (z ?_)
  refine Jr fun a1=>?_
  refine JLg (.agg (Gb.cs s)) (Gg Hn O O O) ?_
  refine JLg (E6 boxes) (Gf G9b O O O) ?_
  refine JLm (.vec 1082 0 4 c.length) O ?_
  obtain⟨m,a2,h⟩:=Gh h
  refine JLg (BL m) (Jfa (args:=[.agg (Gb.cs s),E6 boxes,E4 b]) O (G06 s boxes b m a2) G87 ⟨.data O O,.data O O,.vec O,ø⟩ O) ?_
  refine G6 (a1 ?_)
  refine JCc O h ?_ ?_<;>intro h hb
  ·
   refine G2 ?_
   refine JLg (.vec 1083 a.length 1 a.length) (Jm Q1 O O O O) ?_
   refine JLm (.vec 1082 0 4 c.length) O ?_
   refine Re5 24 (0+1) O O (Nat.lt_succ_self _) ?_
   refine JLg (LS 1 (E4) [b]) (H7 (xs:=[E4 b]) O ⟨O,O,ø⟩ J8 Gd5 O O O O) ?_
   obtain⟨a3,h⟩:=J9 h
   refine JLg (.vec 1083 ((a++[b]).length) 1 ((a++[b]).length)) (G8e (f:=(E4)) (xs:=a) (ys:=[b]) (ver:=a.length) (ver1:=(a++[b]).length) rfl rfl rfl rfl J8 H5b a3 (fun _=>rfl) (.inl rfl) (by simp)) ?_
   refine Hb (u:=.junk) (H0 (u:=.vec 1083 ((a++[b]).length) 1 ((a++[b]).length)) (ds:=[.vec 1083 ((a++[b]).length) 1 ((a++[b]).length)]) H59 O O O O O O O O) ?_
   refine G6 ?_
   exact l _ _ (a++[b]) (app1 i h) ⟨ø,⟨⟨_,O,.vec⟩,⟨_,O,.boxL O ⟨.same O,ø⟩⟩,ø⟩,O⟩
  ·
   refine Gp ?_
   exact l _ _ a (app1 i h) ⟨ø,⟨⟨_,O,.vec⟩,⟨_,O,.boxL O ⟨.same O,ø⟩⟩,ø⟩,O⟩
 ·
  intro a h
  replace h:=app1 j (Ht h (Nat.lt_irrefl _))
  refine a9 ?_
  refine Jr fun a4=>?_
  refine JLg (.vec 1083 a.length 1 a.length) (Jm Q1 O O O O) ?_
  obtain⟨o,a5,h⟩:=Gh h
  refine JLg (.tup []) (Y2e (f:=(E4)) (cmp:=(fun z0 z1=>Ya z0 z1)) (xs:=a) (r:=o) O Qa9 Qa3 (fun _=>O) (fun _=>O) (Rd7 _ _) R01 R00 O O O O O a5 (fun z0 z1 q hq=>Hf4 z0 z1 q hq) O) ?_
  refine G6 (a4 ?_)
  refine Jr fun a6=>?_
  refine JLg (.vec 1083 a.length 1 a.length) (Jm Q1 O O O O) ?_
  refine JLm (.vec 1083 a.length 1 a.length) O ?_
  refine G6 (a6 ?_)
  refine H6d [(6,LS 1 (E4) o)] [] 1083 rfl rfl ø rfl (by exact⟨.vec,ø⟩) ?_
  refine H2 ?_
  exact fin1 (fun r:(List (List G1))=>(LS 1 (E4) r:AV)) h

def Jk (F:Nat) (s:Gb) (boxes:List Box) (ids:List Int):Option ((List (List G1))×Int):=
 bnd (Jg s) fun j=>
 bif (!j) then
 (some ([],2))
 else
 (each (fun c b (e:Unit) d=>
   bnd (G36 boxes c) fun a=>
   bnd (bif ((!((!a.2)||(decide (a.1.Size≠40))))&&(decide (0 < (b:Int)))) then chk ((b:Int) - 1) some else some 0) fun f=>
   bnd (bif ((!((!a.2)||(decide (a.1.Size≠40))))&&(decide (0 < (b:Int)))) then Q4 ids f some else some default) fun g=>
   bif (((!a.2)||(decide (a.1.Size≠40)))||((decide (0 < (b:Int)))&&(decide (c≤g)))) then
   (some ([],2))
   else
   (d ()))
  (fun(e:Unit)=>
   bnd (Q8 s) fun h=>
   bif ((!h)||(decide (4 < (ids.length:Int)))) then
   (some ([],5))
   else
   (bnd (Q7 F s boxes ids) fun i=>
    some (i,0))) ids 0 ())
theorem Zf (F:Nat) (s:Gb) (boxes:List Box) (ids:List Int) (r:(List (List G1))×Int) (h:Jk F s boxes ids=some r):Pure En 8 [.agg (Gb.cs s),E6 boxes,E5 ids] (·=.tup [LS 1 (E4) r.1,I64 r.2]):=by
 unfold Jk at h
 refine Ha [.tmp 6,.tmp 7] Tryz.func8 O O ?_
 refine Jr fun b3=>?_
 refine JLg (.ptr 1024 0) (Q5 (cs:=(Gb.cs s)) 1024 O O O O O) ?_
 refine JLg (LS 1 (E4) ([]:List (List G1))) (Qj 1 O O) ?_
 refine JLm (I64 0) O ?_
 refine G6 (b3 ?_)
 refine Gj [(1,E6 boxes),(2,E5 ids),(3,Ef s)] [] 1024 rfl rfl rfl ø rfl (by exact⟨.conv (.same rfl),.conv (.same rfl),.ptr,ø⟩) ?_
 refine Js fun b4=>?_
 refine Jr fun b5=>?_
 refine JLg (.agg (Gb.cs s)) (Gg Hn O O O) ?_
 obtain⟨m,b6,h⟩:=Gh h
 refine JLg (BL m) (H3 O (H1b.down s m b6) Hdb ⟨O,O,ø⟩) ?_
 refine JLg (BL (!m)) (G1f (b:=m) O O) ?_
 refine G6 (b5 ?_)
 refine JCc O h ?_ ?_<;>intro h hb
 ·
  refine Jr fun b7=>?_
  refine JLg (LS 1 (E4) ([]:List (List G1))) (Qj 1 O O) ?_
  refine JLm (I64 2) O ?_
  refine G6 (b7 ?_)
  refine H2 ?_
  exact⟨[LS 1 (E4) ([]:List (List G1)),I64 2],[],ø,O,⟨⟨_,O,.conv (.same O)⟩,⟨_,O,.conv (.same O)⟩,ø⟩,O,congrArg (fun r:(List (List G1))×Int=>(.tup [LS 1 (E4) r.1,I64 r.2]:AV)) (Ky h)⟩
 ·
  refine Gp ?_
  refine b4 ?_
  refine Js fun b8=>?_
  refine Jr fun b9=>?_
  refine JLm (E5 ids) O ?_
  refine JLl H1 O O O fun o=>?_
  refine JLm (I64 0) O ?_
  refine G6 (b9 ?_)
  refine Gk ?_
  obtain⟨c0,p,q,n,h⟩:=J5 h
  refine Hk (fun c (i:Unit)=>each c0 p (List.drop c ids) c i=some r) (fun c i=>[(1,E6 boxes),(2,E5 ids),(3,Ef s),(15,E5 ids),(16,Em ids.length),(17,Em c)]) (fun c i=>[]) (fun c=>ids.length - c) 0 () h ⟨(.sm O O),ø,rfl⟩ ?_
  clear h
  intro c i k c4 c1
  refine Jr fun t=>?_
  refine JLg (BL (decide ((c:Int) < (ids.length:Int)))) (Jf O O O) ?_
  refine G6 (t ?_)
  refine Js fun v=>?_
  refine Gn O (fun hb=>?_) (fun hb=>?_)
  ·
   have l:=Jn hb
   obtain⟨d,c3,w,x,h⟩:=Hs k l
   replace h:=Rx q h
   refine Gp ?_
   refine v ?_
   refine Js fun z=>?_
   refine Gk ?_
   refine Jr fun a0=>?_
   refine JLm (Em c) O ?_
   refine JLg (.dptr [I64 d]) (H4 (f:=I64) (xs:=ids) (y:=d) O O O H1 w O) ?_
   refine JLg (I64 d) (Gf G9 O O O) ?_
   refine JLm (Em c) O ?_
   refine JLm (I64 d) O ?_
   refine G6 (a0 ?_)
   refine Jr fun a1=>?_
   refine JLm (E6 boxes) O ?_
   refine JLm (I64 d) O ?_
   obtain⟨a,a2,h⟩:=Gh h
   refine JLg (.tup [.agg (Box.cs a.1),BL a.2]) (H3 O (H40 boxes d a a2) Hda ⟨O,O,O,O,ø⟩) ?_
   refine JLm (.tup [.agg (Box.cs a.1),BL a.2]) O ?_
   refine JLg (.agg (Box.cs a.1)) (Gv O O O) ?_
   refine JLg (BL a.2) (Gv O O O) ?_
   refine JLg (.ptr 1025 0) (Hc 1025 9 Qm O O) ?_
   refine Hb (u:=.junk) (H0 (u:=.agg (Box.cs a.1)) (ds:=(Box.cs a.1)) Y1 O O O O O O O O) ?_
   refine JLm (BL a.2) O ?_
   refine G6 (a1 ?_)
   refine fzQ [(1,E6 boxes),(2,E5 ids),(3,Ef s),(8,Em c),(9,I64 d),(10,Eh a.1),(11,BL a.2),(15,E5 ids),(16,Em ids.length),(17,Em c)] [] 1025 rfl rfl rfl ø rfl ?_
   refine Jr fun a3=>?_
   refine JLm (BL a.2) O ?_
   refine JLg (BL (!a.2)) (G1f (b:=a.2) O O) ?_
   refine JLm (BL (!a.2)) O ?_
   refine JLo (.dptr ((Box.cs a.1).drop 2)) [] O .scf ø (fun hc=>Gc Z6 O O O) O ?_
   refine JLo (U8 a.1.Size) [31] O .scf ⟨Ua,ø⟩ (fun hc=>Gf Jc O O O) O ?_
   refine JLo (BL (decide (a.1.Size≠40))) [32] O .scf ⟨Ua,ø⟩ (fun hc=>Gf1 O O O) O ?_
   refine JLg (BL ((!a.2)||(decide (a.1.Size≠40)))) (G27 O O O O) ?_
   refine JLm (BL ((!a.2)||(decide (a.1.Size≠40)))) O ?_
   refine JLo (Em c) [] O .scf ø (fun hc=>G5 O O) O ?_
   refine JLo (BL (decide (0 < (c:Int)))) [36] O .scf ⟨Ua,ø⟩ (fun hc=>G46 O O O) O ?_
   refine JLo (BL (decide (0 < (c:Int)))) [37] O .scf ⟨Ua,ø⟩ (fun hc=>G5 O O) O ?_
   refine JLo (I64 d) [] O .optt ø (fun hc=>G5 O O) O ?_
   refine JLo (E5 ids) [] O .optt ø (fun hc=>G5 O O) O ?_
   refine JLo (Em c) [] O .optt ø (fun hc=>G5 O O) O ?_
   obtain⟨c2,a4,h⟩:=Gh h
   refine JLo (I64 c2) [41] O .optt ⟨Ua,ø⟩ (fun hc=>H35 (H97 (Hg hc a4)) O O O) O ?_
   obtain⟨e,a5,h⟩:=Gh h
   refine JLo (.dptr [I64 e]) [40,42] O .optt ⟨Ua,Ua,ø⟩ (fun hc=>(match G2d (Hg hc a5) with | ⟨_,hm_,hy_⟩=>H4 (f:=I64) (xs:=ids) (y:=e) O O O H1 hy_ hm_)) O ?_
   refine JLo (I64 e) [43] O .optt ⟨Ua,ø⟩ (fun hc=>Gf G9 O O O) O ?_
   refine JLo (BL (decide (d≤e))) [39,44] O .optt ⟨Ua,Ua,ø⟩ (fun hc=>H36 O O O) O ?_
   refine Ga (u:=BL ((decide (0 < (c:Int)))&&(decide (d≤e)))) [(38,BL (decide (0 < (c:Int)))),(45,_)] O O O .scf ⟨.all id,.part,ø⟩ (fun hc=>Qr O O O O) ?_
   refine JLg (BL (((!a.2)||(decide (a.1.Size≠40)))||((decide (0 < (c:Int)))&&(decide (d≤e))))) (G27 O O O O) ?_
   refine G6 (a3 ?_)
   refine JCc O h ?_ ?_<;>intro h hb
   ·
    refine Jr fun a6=>?_
    refine JLg (LS 1 (E4) ([]:List (List G1))) (Qj 1 O O) ?_
    refine JLm (I64 2) O ?_
    refine G6 (a6 ?_)
    refine H2 ?_
    exact⟨[LS 1 (E4) ([]:List (List G1)),I64 2],[],ø,O,⟨⟨_,O,.conv (.same O)⟩,⟨_,O,.conv (.same O)⟩,ø⟩,O,congrArg (fun r:(List (List G1))×Int=>(.tup [LS 1 (E4) r.1,I64 r.2]:AV)) (Ky h)⟩
   ·
    refine Gp ?_
    refine z ?_
    refine G2 ?_
    refine JLg (I64 ((c+1:Nat):Int)) (Hz (He l o) O O O) ?_
    refine JLm (I64 ((c+1:Nat):Int)) O ?_
    refine G6 ?_
    exact c1 _ _ (c+1) () (app1 x h) (by omega) ⟨(.sm O O),ø,rfl⟩
  ·
   have h:=app1 n (Ht k (H9 hb))
   refine Hr ?_
   refine b8 ?_
   refine Js fun a7=>?_
   refine Jr fun a8=>?_
   refine JLg (.agg (Gb.cs s)) (Gg Hn O O O) ?_
   obtain⟨g,a9,h⟩:=Gh h
   refine JLg (BL g) (H3 O (H30 s g a9) Jac ⟨O,O,ø⟩) ?_
   refine JLg (BL (!g)) (G1f (b:=g) O O) ?_
   refine JLm (BL (!g)) O ?_
   refine JLo (E5 ids) [] O .scf ø (fun hc=>G5 O O) O ?_
   refine JLo (Em ids.length) [53] O .scf ⟨Ua,ø⟩ (fun hc=>G32 (f:=I64) (xs:=ids) H1 O O) O ?_
   refine JLo (BL (decide (4 < (ids.length:Int)))) [54] O .scf ⟨Ua,ø⟩ (fun hc=>G46 O O O) O ?_
   refine JLg (BL ((!g)||(decide (4 < (ids.length:Int))))) (G27 O O O O) ?_
   refine G6 (a8 ?_)
   refine JCc O h ?_ ?_<;>intro h hb
   ·
    refine Jr fun b0=>?_
    refine JLg (LS 1 (E4) ([]:List (List G1))) (Qj 1 O O) ?_
    refine JLm (I64 5) O ?_
    refine G6 (b0 ?_)
    refine H2 ?_
    exact⟨[LS 1 (E4) ([]:List (List G1)),I64 5],[],ø,O,⟨⟨_,O,.conv (.same O)⟩,⟨_,O,.conv (.same O)⟩,ø⟩,O,congrArg (fun r:(List (List G1))×Int=>(.tup [LS 1 (E4) r.1,I64 r.2]:AV)) (Ky h)⟩
   ·
    refine Gp ?_
    refine a7 ?_
    refine Jr fun b1=>?_
    refine JLg (.agg (Gb.cs s)) (Gg Hn O O O) ?_
    refine JLm (E6 boxes) O ?_
    refine JLm (E5 ids) O ?_
    obtain⟨j,b2,h⟩:=Gh h
    refine JLg (LS 1 (E4) j) (H3 O (H2f F s boxes ids j b2) Jab ⟨O,O,O,O,O,O,ø⟩) ?_
    refine JLm (LS 1 (E4) j) O ?_
    refine JLm (I64 0) O ?_
    refine G6 (b1 ?_)
    refine H2 ?_
    exact⟨[LS 1 (E4) j,I64 0],[],ø,O,⟨⟨_,O,.conv (.same O)⟩,⟨_,O,.conv (.same O)⟩,ø⟩,O,congrArg (fun r:(List (List G1))×Int=>(.tup [LS 1 (E4) r.1,I64 r.2]:AV)) (Ky h)⟩

def G3f (boxes:List Box) (calls:Int):Option Bool:=
 bif (((decide (calls < 1))||(decide (20 < calls)))||(decide (2000 < (boxes.length:Int)))) then
 (some false)
 else
 (each (fun a d (b:Int) c=>
   bif ((((((decide (a.ID≤b))||(decide (999999 < a.ID)))||((decide (a.Size≠40))&&((decide (a.Size≠20))||a.High)))||(decide (a.Load < 0)))||(decide (a.Discharge≤a.Load)))||(decide (calls≤a.Discharge))) then
   (some false)
   else
   (c a.ID))
  (fun(b:Int)=>
   some true) boxes 0 0)
theorem Jeb (boxes:List Box) (calls:Int) (r:Bool) (h:G3f boxes calls=some r):Pure En 65 [E6 boxes,I64 calls] (·=BL r):=by
 unfold G3f at h
 refine Ha [.tmp 4] Tryz.func65 O O ?_
 refine Jr fun x=>?_
 refine JLm (BL false) O ?_
 refine G6 (x ?_)
 refine Js fun z=>?_
 refine Jr fun a0=>?_
 refine JLm (I64 calls) O ?_
 refine JLg (BL (decide (calls < 1))) (Jf O O O) ?_
 refine JLm (BL (decide (calls < 1))) O ?_
 refine JLo (I64 calls) [] O .scf ø (fun hc=>G5 O O) O ?_
 refine JLo (BL (decide (20 < calls))) [11] O .scf ⟨Ua,ø⟩ (fun hc=>G46 O O O) O ?_
 refine JLg (BL ((decide (calls < 1))||(decide (20 < calls)))) (G27 O O O O) ?_
 refine JLm (BL ((decide (calls < 1))||(decide (20 < calls)))) O ?_
 refine JLo (E6 boxes) [] O .scf ø (fun hc=>G5 O O) O ?_
 refine JLo (Em boxes.length) [15] O .scf ⟨Ua,ø⟩ (fun hc=>G32 (f:=Box.av) (xs:=boxes) Hw O O) O ?_
 refine JLo (BL (decide (2000 < (boxes.length:Int)))) [16] O .scf ⟨Ua,ø⟩ (fun hc=>G46 O O O) O ?_
 refine JLg (BL (((decide (calls < 1))||(decide (20 < calls)))||(decide (2000 < (boxes.length:Int))))) (G27 O O O O) ?_
 refine G6 (a0 ?_)
 refine JCc O h ?_ ?_<;>intro h hb
 ·
  refine Jr fun a1=>?_
  refine JLm (BL false) O ?_
  refine G6 (a1 ?_)
  refine H2 ?_
  exact fin1 BL h
 ·
  refine Gp ?_
  refine z ?_
  refine Jr fun a2=>?_
  refine JLm (I64 0) O ?_
  refine G6 (a2 ?_)
  refine Js fun a3=>?_
  refine Jr fun a4=>?_
  refine JLm (E6 boxes) O ?_
  refine JLl Hw O O O fun i=>?_
  refine JLm (I64 0) O ?_
  refine G6 (a4 ?_)
  refine Gk ?_
  obtain⟨a5,j,k,g,h⟩:=J5 h
  refine Hk (fun c (b:Int)=>each a5 j (List.drop c boxes) c b=some r) (fun c b=>[(1,I64 calls),(5,I64 b),(19,E6 boxes),(20,Em boxes.length),(21,Em c)]) (fun c b=>[]) (fun c=>boxes.length - c) 0 0 h ⟨(.sm O O),ø,rfl⟩ ?_
  clear h
  intro c b d a8 a6
  refine Jr fun l=>?_
  refine JLg (BL (decide ((c:Int) < (boxes.length:Int)))) (Jf O O O) ?_
  refine G6 (l ?_)
  refine Js fun m=>?_
  refine Gn O (fun hb=>?_) (fun hb=>?_)
  ·
   have e:=Jn hb
   obtain⟨a,a7,n,o,h⟩:=Hs d e
   replace h:=Rx k h
   refine Gp ?_
   refine m ?_
   refine Js fun p=>?_
   refine Gk ?_
   refine Jr fun q=>?_
   refine JLg (Eh a) (H4 (f:=Box.av) (xs:=boxes) (y:=a) O O O Hw n O) ?_
   refine JLg (.agg (Box.cs a)) (Gg Ys O O O) ?_
   refine JLg (.ptr 1145 0) (Hc 1145 9 Qm O O) ?_
   refine Hb (u:=.junk) (H0 (u:=.agg (Box.cs a)) (ds:=(Box.cs a)) Y1 O O O O O O O O) ?_
   refine G6 (q ?_)
   refine fzQ [(1,I64 calls),(5,I64 b),(7,Eh a),(19,E6 boxes),(20,Em boxes.length),(21,Em c)] [] 1145 rfl rfl rfl ø rfl ?_
   refine Js fun s=>?_
   refine Jr fun t=>?_
   refine JLg (Eh a) (Gc R2 O O O) ?_
   refine JLg (I64 a.ID) (Gf G9 O O O) ?_
   refine JLm (I64 b) O ?_
   refine JLg (BL (decide (a.ID≤b))) (H36 O O O) ?_
   refine JLm (BL (decide (a.ID≤b))) O ?_
   refine JLo (Eh a) [] O .scf ø (fun hc=>Gc R2 O O O) O ?_
   refine JLo (I64 a.ID) [30] O .scf ⟨Ua,ø⟩ (fun hc=>Gf G9 O O O) O ?_
   refine JLo (BL (decide (999999 < a.ID))) [31] O .scf ⟨Ua,ø⟩ (fun hc=>G46 O O O) O ?_
   refine JLg (BL ((decide (a.ID≤b))||(decide (999999 < a.ID)))) (G27 O O O O) ?_
   refine JLm (BL ((decide (a.ID≤b))||(decide (999999 < a.ID)))) O ?_
   refine JLo (.dptr ((Box.cs a).drop 2)) [] O .scf ø (fun hc=>Gc Z6 O O O) O ?_
   refine JLo (U8 a.Size) [35] O .scf ⟨Ua,ø⟩ (fun hc=>Gf Jc O O O) O ?_
   refine JLo (BL (decide (a.Size≠40))) [36] O .scf ⟨Ua,ø⟩ (fun hc=>Gf1 O O O) O ?_
   refine JLo (BL (decide (a.Size≠40))) [37] O .scf ⟨Ua,ø⟩ (fun hc=>G5 O O) O ?_
   refine JLo (.dptr ((Box.cs a).drop 2)) [] O .optt ø (fun hc=>Gc Z6 O O O) O ?_
   refine JLo (U8 a.Size) [39] O .optt ⟨Ua,ø⟩ (fun hc=>Gf Jc O O O) O ?_
   refine JLo (BL (decide (a.Size≠20))) [40] O .optt ⟨Ua,ø⟩ (fun hc=>Gf1 O O O) O ?_
   refine JLo (BL (decide (a.Size≠20))) [41] O .optt ⟨Ua,ø⟩ (fun hc=>G5 O O) O ?_
   refine JLo (.dptr ((Box.cs a).drop 3)) [] O .optf ø (fun hc=>Gc H3a O O O) O ?_
   refine JLo (BL a.High) [43] O .optf ⟨Ua,ø⟩ (fun hc=>Gf Y5 O O O) O ?_
   refine Ga (u:=BL ((decide (a.Size≠20))||a.High)) [(42,BL (decide (a.Size≠20))),(44,_)] O O O .optt ⟨.all id,.part,ø⟩ (fun hc=>G27 O O O O) ?_
   refine Ga (u:=BL ((decide (a.Size≠40))&&((decide (a.Size≠20))||a.High))) [(38,BL (decide (a.Size≠40))),(45,_)] O O O .scf ⟨.all id,.part,ø⟩ (fun hc=>Qr O O O O) ?_
   refine JLg (BL (((decide (a.ID≤b))||(decide (999999 < a.ID)))||((decide (a.Size≠40))&&((decide (a.Size≠20))||a.High)))) (G27 O O O O) ?_
   refine JLm (BL (((decide (a.ID≤b))||(decide (999999 < a.ID)))||((decide (a.Size≠40))&&((decide (a.Size≠20))||a.High)))) O ?_
   refine JLo (.dptr ((Box.cs a).drop 5)) [] O .scf ø (fun hc=>Gc Rv O O O) O ?_
   refine JLo (I64 a.Load) [49] O .scf ⟨Ua,ø⟩ (fun hc=>Gf G9 O O O) O ?_
   refine JLo (BL (decide (a.Load < 0))) [50] O .scf ⟨Ua,ø⟩ (fun hc=>Jf O O O) O ?_
   refine JLg (BL ((((decide (a.ID≤b))||(decide (999999 < a.ID)))||((decide (a.Size≠40))&&((decide (a.Size≠20))||a.High)))||(decide (a.Load < 0)))) (G27 O O O O) ?_
   refine JLm (BL ((((decide (a.ID≤b))||(decide (999999 < a.ID)))||((decide (a.Size≠40))&&((decide (a.Size≠20))||a.High)))||(decide (a.Load < 0)))) O ?_
   refine JLo (.dptr ((Box.cs a).drop 5)) [] O .scf ø (fun hc=>Gc Rv O O O) O ?_
   refine JLo (I64 a.Load) [54] O .scf ⟨Ua,ø⟩ (fun hc=>Gf G9 O O O) O ?_
   refine JLo (.dptr ((Box.cs a).drop 6)) [] O .scf ø (fun hc=>Gc Yj O O O) O ?_
   refine JLo (I64 a.Discharge) [56] O .scf ⟨Ua,ø⟩ (fun hc=>Gf G9 O O O) O ?_
   refine JLo (BL (decide (a.Discharge≤a.Load))) [55,57] O .scf ⟨Ua,Ua,ø⟩ (fun hc=>Ge4 O O O) O ?_
   refine JLg (BL (((((decide (a.ID≤b))||(decide (999999 < a.ID)))||((decide (a.Size≠40))&&((decide (a.Size≠20))||a.High)))||(decide (a.Load < 0)))||(decide (a.Discharge≤a.Load)))) (G27 O O O O) ?_
   refine JLm (BL (((((decide (a.ID≤b))||(decide (999999 < a.ID)))||((decide (a.Size≠40))&&((decide (a.Size≠20))||a.High)))||(decide (a.Load < 0)))||(decide (a.Discharge≤a.Load)))) O ?_
   refine JLo (.dptr ((Box.cs a).drop 6)) [] O .scf ø (fun hc=>Gc Yj O O O) O ?_
   refine JLo (I64 a.Discharge) [61] O .scf ⟨Ua,ø⟩ (fun hc=>Gf G9 O O O) O ?_
   refine JLo (I64 calls) [] O .scf ø (fun hc=>G5 O O) O ?_
   refine JLo (BL (decide (calls≤a.Discharge))) [62,63] O .scf ⟨Ua,Ua,ø⟩ (fun hc=>Ge4 O O O) O ?_
   refine JLg (BL ((((((decide (a.ID≤b))||(decide (999999 < a.ID)))||((decide (a.Size≠40))&&((decide (a.Size≠20))||a.High)))||(decide (a.Load < 0)))||(decide (a.Discharge≤a.Load)))||(decide (calls≤a.Discharge)))) (G27 O O O O) ?_
   refine G6 (t ?_)
   refine JCc O h ?_ ?_<;>intro h hb
   ·
    refine Jr fun v=>?_
    refine JLm (BL false) O ?_
    refine G6 (v ?_)
    refine H2 ?_
    exact fin1 BL h
   ·
    refine Gp ?_
    refine s ?_
    refine G2 ?_
    refine JLg (Eh a) (Gc R2 O O O) ?_
    refine JLg (I64 a.ID) (Gf G9 O O O) ?_
    refine JLm (I64 a.ID) O ?_
    refine G6 (p ?_)
    refine G2 ?_
    refine JLg (I64 ((c+1:Nat):Int)) (Hz (He e i) O O O) ?_
    refine JLm (I64 ((c+1:Nat):Int)) O ?_
    refine G6 ?_
    exact a6 _ _ (c+1) a.ID (app1 o h) (by omega) ⟨(.sm O O),ø,rfl⟩
  ·
   have h:=app1 g (Ht d (H9 hb))
   refine Hr ?_
   refine a3 ?_
   refine Jr fun w=>?_
   refine JLm (BL true) O ?_
   refine G6 (w ?_)
   refine H2 ?_
   exact fin1 BL h

def Ry (boxes:List Box) (call:Int):Option (List Int):=
 each (fun b f (a:(List Int)) d=>
  jp (fun c=>
   bif ((decide (b.Load≤call))&&(decide (call < b.Discharge))) then
   (need (decide ((a.length+[b.ID].length)*8≤140737488355328∧a.length+[b.ID].length≤maxLen)) <|
    c (a++[b.ID]))
   else
   (c a)) fun(e:(List Int))=>
  d e)
 (fun(a:(List Int))=>
  some a) boxes 0 []
theorem H75 (boxes:List Box) (call:Int) (r:(List Int)) (h:Ry boxes call=some r):Pure En 25 [E6 boxes,I64 call] (·=E5 r):=by
 unfold Ry at h
 refine Ha [.tmp 4] Tryz.func25 O O ?_
 refine Jr fun x=>?_
 refine JLg (E5 ([]:List Int)) (Qj 1 O O) ?_
 refine G6 (x ?_)
 refine Jr fun z=>?_
 refine JLg (OW 1085 1 I64 ([]:List Int)) (G45 1085 3 1 O O O) ?_
 refine G6 (z ?_)
 refine Js fun a0=>?_
 refine Jr fun a1=>?_
 refine JLm (E6 boxes) O ?_
 refine JLl Hw O O O fun a2=>?_
 refine JLm (I64 0) O ?_
 refine G6 (a1 ?_)
 refine Gk ?_
 obtain⟨a3,k,l,i,h⟩:=J5 h
 refine Hk (fun c (b:(List Int))=>each a3 k (List.drop c boxes) c b=some r) (fun c b=>[(1,I64 call),(5,OW 1085 1 I64 b),(8,E6 boxes),(9,Em boxes.length),(10,Em c)]) (fun c b=>[(1085,.spare 3 1 b.length b.length)]) (fun c=>boxes.length - c) 0 [] h ⟨(.sm O O),⟨⟨_,rfl,.same⟩,ø⟩,rfl⟩ ?_
 clear h
 intro c b e a6 a4
 refine Jr fun m=>?_
 refine JLg (BL (decide ((c:Int) < (boxes.length:Int)))) (Jf O O O) ?_
 refine G6 (m ?_)
 refine Js fun n=>?_
 refine Gn O (fun hb=>?_) (fun hb=>?_)
 ·
  have g:=Jn hb
  obtain⟨a,a5,o,p,h⟩:=Hs e g
  replace h:=Rx l h
  refine Gp ?_
  refine n ?_
  obtain⟨q,j,h⟩:=Rc h
  refine Qf (fun d:(List Int)=>q d=some r) (fun d=>[(1,I64 call),(5,OW 1085 1 I64 d),(8,E6 boxes),(9,Em boxes.length),(10,Em c)]) (fun d=>[(1085,.spare 3 1 d.length d.length)]) (fun Kj22 ej22=>?_) ?_
  ·
   refine Gk ?_
   refine Jr fun s=>?_
   refine JLg (Eh a) (H4 (f:=Box.av) (xs:=boxes) (y:=a) O O O Hw o O) ?_
   refine JLg (.agg (Box.cs a)) (Gg Ys O O O) ?_
   refine JLg (.ptr 1086 0) (Hc 1086 9 Qm O O) ?_
   refine Hb (u:=.junk) (H0 (u:=.agg (Box.cs a)) (ds:=(Box.cs a)) Y1 O O O O O O O O) ?_
   refine G6 (s ?_)
   refine fzQ [(1,I64 call),(5,OW 1085 1 I64 b),(7,Eh a),(8,E6 boxes),(9,Em boxes.length),(10,Em c)] [(1085,.spare 3 1 b.length b.length)] 1086 rfl rfl rfl ⟨⟨_,rfl,.same⟩,ø⟩ rfl ?_
   refine Jr fun t=>?_
   refine JLg (.dptr ((Box.cs a).drop 5)) (Gc Rv O O O) ?_
   refine JLg (I64 a.Load) (Gf G9 O O O) ?_
   refine JLm (I64 call) O ?_
   refine JLg (BL (decide (a.Load≤call))) (H36 O O O) ?_
   refine JLm (BL (decide (a.Load≤call))) O ?_
   refine JLo (I64 call) [] O .sct ø (fun hc=>G5 O O) O ?_
   refine JLo (.dptr ((Box.cs a).drop 6)) [] O .sct ø (fun hc=>Gc Yj O O O) O ?_
   refine JLo (I64 a.Discharge) [20] O .sct ⟨Ua,ø⟩ (fun hc=>Gf G9 O O O) O ?_
   refine JLo (BL (decide (call < a.Discharge))) [19,21] O .sct ⟨Ua,Ua,ø⟩ (fun hc=>Jf O O O) O ?_
   refine JLg (BL ((decide (a.Load≤call))&&(decide (call < a.Discharge)))) (Qr O O O O) ?_
   refine G6 (t ?_)
   refine JCc O h ?_ ?_<;>intro h hb
   ·
    refine G2 ?_
    refine JLm (OW 1085 1 I64 b) O ?_
    refine JLg (Eh a) (Gc R2 O O O) ?_
    refine JLg (I64 a.ID) (Gf G9 O O O) ?_
    refine JLg (E5 [a.ID]) (H7 (xs:=[I64 a.ID]) O ⟨O,O,ø⟩ H1 Rb O O O O) ?_
    obtain⟨v,h⟩:=J9 h
    refine JLg (OW 1085 1 I64 (b++[a.ID])) (R0 (f:=I64) (xs:=b) (ys:=[a.ID]) O O O O H1 G64 v (fun _=>O) (.inl O) O) ?_
    refine JLm (OW 1085 1 I64 (b++[a.ID])) O ?_
    refine G6 ?_
    exact ej22 _ _ (b++[a.ID]) h ⟨(.sm O O),⟨⟨_,rfl,.same⟩,ø⟩,rfl⟩
   ·
    refine Gp ?_
    exact ej22 _ _ b h ⟨(.sm O O),⟨⟨_,rfl,.same⟩,ø⟩,rfl⟩
  ·intro d h
   replace h:=app1 j h
   refine G2 ?_
   refine JLg (I64 ((c+1:Nat):Int)) (Hz (He g a2) O O O) ?_
   refine JLm (I64 ((c+1:Nat):Int)) O ?_
   refine G6 ?_
   exact a4 _ _ (c+1) d (app1 p h) (by omega) ⟨(.sm O O),⟨⟨_,rfl,.same⟩,ø⟩,rfl⟩
 ·
  have h:=app1 i (Ht e (H9 hb))
  refine Hr ?_
  refine a0 ?_
  refine Jr fun w=>?_
  refine JLm (OW 1085 1 I64 b) O ?_
  refine JLm (OW 1085 1 I64 b) O ?_
  refine G6 (w ?_)
  refine H2 ?_
  exact fin1l (fun r:(List Int)=>(E5 r:AV)) h

def R8 (s:List Box) (f:Box→Option Bool):Option Bool:=
 bnd (R5 s f) fun a=>
 some (decide (0≤a))
theorem Gc7 (s:List Box) (f:Box→Option Bool) (f_f:FuncId) (f_c:List AV) (f_B:Hh En f_f=true) (f_d:Qn (fun _=>false) f_c=true) (f_w:∀ a0 q,f a0=some q→Pure En f_f ([.agg (Box.cs a0)]++f_c) (·=BL q)) (r:Bool) (h:R8 s f=some r):Pure En 66 [E6 s,.fn f_f f_c] (·=BL r):=by
 unfold R8 at h
 refine Ha [.tmp 4] Tryz.func66 O O ?_
 refine Jr fun b=>?_
 refine JLm (BL false) O ?_
 refine G6 (b ?_)
 refine Jr fun c=>?_
 refine JLm (E6 s) O ?_
 refine JLm (.fn f_f f_c) O ?_
 obtain⟨a,d,h⟩:=Gh h
 refine JLg (I64 a) (H3 O (G52 s f f_f f_c f_B f_d f_w a d) Ja8 ⟨O,O,O,f_d,ø⟩) ?_
 refine JLg (BL (decide (0≤a))) (Ge4 O O O) ?_
 refine JLm (BL (decide (0≤a))) O ?_
 refine G6 (c ?_)
 refine H2 ?_
 exact fin1 BL h

def G02 (b:Box):Option Bool:=
 some (decide (b.Size≠40))
theorem Hf5 (b:Box) (r:Bool) (h:G02 b=some r):Pure En 67 [.agg (Box.cs b)] (·=BL r):=by
 unfold G02 at h
 refine Ha [.tmp 2] Tryz.func67 O O ?_
 refine Jr fun a=>?_
 refine JLg (.ptr 1146 0) (Q5 (cs:=(Box.cs b)) 1146 O O O O O) ?_
 refine JLm (BL false) O ?_
 refine G6 (a ?_)
 refine Gj [(1,Eh b)] [] 1146 rfl rfl rfl ø rfl (by exact⟨.ptr,ø⟩) ?_
 refine Jr fun c=>?_
 refine JLg (.dptr ((Box.cs b).drop 2)) (Gc Z6 O O O) ?_
 refine JLg (U8 b.Size) (Gf Jc O O O) ?_
 refine JLg (BL (decide (b.Size≠40))) (Gf1 O O O) ?_
 refine JLm (BL (decide (b.Size≠40))) O ?_
 refine G6 (c ?_)
 refine H2 ?_
 exact fin1 BL h

def Jo (s:Gb) (boxes:List Box) (calls:Int):Option Bool:=
 bnd (Jg s) fun a=>
 bnd (bif (!(!a)) then Q8 s else some default) fun c=>
 bnd (bif (!(((!a)||(!c))||(decide (4 < calls)))) then G3f boxes calls else some default) fun h=>
 bif ((((!a)||(!c))||(decide (4 < calls)))||(!h)) then
 (some false)
 else
 (need (decide (calls≤9223372036854775807)) <|
  upto (fun d (e:Unit) b=>
   bnd (Ry boxes (d:Int)) fun f=>
   bif decide (4 < (f.length:Int)) then
   (some false)
   else
   (b ()))
  (fun(e:Unit)=>
   bnd (R8 boxes (fun z0=>G02 z0)) fun g=>
   some (!g)) calls.toNat 0 ())
theorem Gc8 (s:Gb) (boxes:List Box) (calls:Int) (r:Bool) (h:Jo s boxes calls=some r):Pure En 24 [.agg (Gb.cs s),E6 boxes,I64 calls] (·=BL r):=by
 unfold Jo at h
 refine Ha [.tmp 6] Tryz.func24 O O ?_
 refine Jr fun a2=>?_
 refine JLg (.ptr 1084 0) (Q5 (cs:=(Gb.cs s)) 1084 O O O O O) ?_
 refine JLm (BL false) O ?_
 refine G6 (a2 ?_)
 refine Gj [(1,E6 boxes),(2,I64 calls),(3,Ef s)] [] 1084 rfl rfl rfl ø rfl (by exact⟨.conv (.same rfl),.conv (.same rfl),.ptr,ø⟩) ?_
 refine Js fun a3=>?_
 refine Jr fun a4=>?_
 refine JLg (.agg (Gb.cs s)) (Gg Hn O O O) ?_
 obtain⟨c,a5,h⟩:=Gh h
 refine JLg (BL c) (H3 O (H1b.down s c a5) Hdb ⟨O,O,ø⟩) ?_
 refine JLg (BL (!c)) (G1f (b:=c) O O) ?_
 refine JLm (BL (!c)) O ?_
 refine JLo (.agg (Gb.cs s)) [] O .scf ø (fun hc=>Gg Hn O O O) O ?_
 obtain⟨d,a6,h⟩:=Gh h
 refine JLo (BL d) [12] O .scf ⟨Ua,ø⟩ (fun hc=>H3 (args:=[.agg (Gb.cs s)]) O (H30 s d (Hg hc a6)) Jac ⟨O,O,ø⟩) O ?_
 refine JLo (BL (!d)) [13] O .scf ⟨Ua,ø⟩ (fun hc=>G1f (b:=d) O O) O ?_
 refine JLg (BL ((!c)||(!d))) (G27 O O O O) ?_
 refine JLm (BL ((!c)||(!d))) O ?_
 refine JLo (I64 calls) [] O .scf ø (fun hc=>G5 O O) O ?_
 refine JLo (BL (decide (4 < calls))) [17] O .scf ⟨Ua,ø⟩ (fun hc=>G46 O O O) O ?_
 refine JLg (BL (((!c)||(!d))||(decide (4 < calls)))) (G27 O O O O) ?_
 refine JLm (BL (((!c)||(!d))||(decide (4 < calls)))) O ?_
 refine JLo (E6 boxes) [] O .scf ø (fun hc=>G5 O O) O ?_
 refine JLo (I64 calls) [] O .scf ø (fun hc=>G5 O O) O ?_
 obtain⟨g,a7,h⟩:=Gh h
 refine JLo (BL g) [21,22] O .scf ⟨Ua,Ua,ø⟩ (fun hc=>H3 (args:=[E6 boxes,I64 calls]) O (Jeb boxes calls g (Hg hc a7)) Qff ⟨O,O,O,O,ø⟩) O ?_
 refine JLo (BL (!g)) [23] O .scf ⟨Ua,ø⟩ (fun hc=>G1f (b:=g) O O) O ?_
 refine JLg (BL ((((!c)||(!d))||(decide (4 < calls)))||(!g))) (G27 O O O O) ?_
 refine G6 (a4 ?_)
 refine JCc O h ?_ ?_<;>intro h hb
 ·
  refine Jr fun a8=>?_
  refine JLm (BL false) O ?_
  refine G6 (a8 ?_)
  refine H2 ?_
  exact fin1 BL h
 ·
  refine Gp ?_
  refine a3 ?_
  refine Js fun a9=>?_
  refine Jr fun b0=>?_
  refine JLm (I64 calls) O ?_
  refine JLm (I64 0) O ?_
  refine G6 (b0 ?_)
  refine Gk ?_
  obtain⟨m,h⟩:=J9 h
  obtain⟨b1,n,o,l,h⟩:=Gcc h
  refine Hk (fun a (f:Unit)=>upto b1 n (calls.toNat - a) a f=some r) (fun a f=>[(1,E6 boxes),(26,I64 calls),(27,Em a)]) (fun a f=>[]) (fun a=>calls.toNat - a) 0 () h ⟨(.sm O O),ø,O⟩ ?_
  clear h
  intro a f i b5 b2
  refine Jr fun p=>?_
  refine JLg (BL (decide ((a:Int) < calls))) (Jf O O O) ?_
  refine G6 (p ?_)
  refine Js fun t=>?_
  refine Gn O (fun hb=>?_) (fun hb=>?_)
  ·
   have j:=G76 hb
   obtain⟨b3,u,h⟩:=G70 i j
   replace h:=J3f o h
   refine Gp ?_
   refine t ?_
   refine Js fun v=>?_
   refine Gk ?_
   refine Jr fun w=>?_
   refine JLm (Em a) O ?_
   refine JLm (Em a) O ?_
   refine G6 (w ?_)
   refine Jr fun x=>?_
   refine JLm (E6 boxes) O ?_
   refine JLm (Em a) O ?_
   obtain⟨k,y,h⟩:=Gh h
   refine JLg (E5 k) (H3 O (H75 boxes (a:Int) k y) Jaa ⟨O,O,O,O,ø⟩) ?_
   refine JLl H1 O O O fun b4=>?_
   refine JLg (BL (decide (4 < (k.length:Int)))) (G46 O O O) ?_
   refine G6 (x ?_)
   refine JCc O h ?_ ?_<;>intro h hb
   ·
    refine Jr fun z=>?_
    refine JLm (BL false) O ?_
    refine G6 (z ?_)
    refine H2 ?_
    exact fin1 BL h
   ·
    refine Gp ?_
    refine v ?_
    refine G2 ?_
    refine JLg (I64 ((a+1:Nat):Int)) (Hz (He j (G0c m)) O O O) ?_
    refine JLm (I64 ((a+1:Nat):Int)) O ?_
    refine G6 ?_
    exact b2 _ _ (a+1) () (app1 u h) (by omega) ⟨(.sm O O),ø,rfl⟩
  ·
   have h:=app1 l (G71 i (Z8 hb))
   refine Hr ?_
   refine a9 ?_
   refine Jr fun a0=>?_
   refine JLm (E6 boxes) O ?_
   obtain⟨e,a1,h⟩:=Gh h
   refine JLg (BL e) (H3 O (Gc7 boxes (fun z0=>G02 z0) 67 [] Qfd O (fun z0 q hq=>Hf5 z0 q hq) e a1) Qfe ⟨O,O,O,O,ø⟩) ?_
   refine JLg (BL (!e)) (G1f (b:=e) O O) ?_
   refine JLm (BL (!e)) O ?_
   refine G6 (a0 ?_)
   refine H2 ?_
   exact fin1 BL h
end
end Go.Proofs.YtibhpogonkdiaaaGreat
