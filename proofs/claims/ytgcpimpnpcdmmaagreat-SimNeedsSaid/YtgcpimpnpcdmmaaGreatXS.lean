/- Walks of functions. -/
import Derived.Test.YtgcpimpnpcdmmaaGreatXC
set_option maxRecDepth 100000
set_option maxHeartbeats 1000000
set_option linter.unusedVariables false
set_option linter.unusedSimpArgs false
namespace Go.Proofs.YtgcpimpnpcdmmaaGreat
open Go.RowKit
noncomputable section
structure Box where
 ID:Int
 Number:ByteArray
 Size:Int
 High:Bool
 Kilos:Int
 Load:Int
 Discharge:Int
 Class:Int
 Reefer:Bool
 deriving DecidableEq,Inhabited
def Box.cs (x:Box):List AV:=[I64 x.ID,ST x.Number,U8 x.Size,BL x.High,I64 x.Kilos,I64 x.Load,I64 x.Discharge,U8 x.Class,BL x.Reefer]
def Box.av (x:Box):AV:=.agg x.cs
abbrev Ei (x:Box):AV:=.dptr (Box.cs x)
abbrev E8:=LS 9 Box.av
def Slot.ks (x:Slot):List Value:=[.int .i64 x.G3,.int .i64 x.Tier,.int .u8 x.Half]
def Slot.kv (x:Slot):Value:=.agg x.ks.toArray
structure Ge where
 ship:Gj
 on:Gw Slot Box
 quay:Gw Int Box
 open_:Gw Int Int
 lifts:Int
 deriving Inhabited
def Ge.cs (x:Ge):List AV:=[E3 x.ship.Columns,E7 x.ship.Covers,I64 x.ship.Light.Kilos,I64 x.ship.Light.X,I64 x.ship.Light.Y,I64 x.ship.Light.Z,E4 x.ship.Rows,E5 x.ship.Frames,E6 x.ship.Tanks,I64 x.ship.G8.Tolerance,I64 x.ship.G8.Trim,I64 x.ship.G8.List_,I64 x.ship.G8.Stability,DM Slot.kv Box.av x.on,DM Ks Box.av x.quay,DM Ks I64 x.open_,I64 x.lifts]
abbrev Eg (x:Ge):AV:=.dptr (Ge.cs x)
structure J6 where
 f:FuncId
 c:List AV
 val:Option Bool
 bad:Int
 B:H1 En f=true
 d:Qb (fun _=>false) c=true
 w:∀ q,val=some q→Pure En f ([]++c) (·=BL q)
def J6.cs (x:J6):List AV:=[.fn x.f x.c,I64 x.bad]
def J6.av (x:J6):AV:=.agg x.cs
def H4e:List (Option Bool×Int)→Option Int
 | []=>some 0
 | (v,b)::r=>v.bind fun q=>bif q then H4e r else some b
namespace XSF
open XAF
open XCF
theorem Y7d (a b:Slot):Jc5 En 4 57 [.int .i64 a.G3,.int .i64 a.Tier,.int .u8 a.Half] [.int .i64 b.G3,.int .i64 b.Tier,.int .u8 b.Half]=some (decide (a=b)):=by
 refine(show _=some ((a.G3==b.G3)&&((a.Tier==b.Tier)&&((a.Half==b.Half)&&true))) by kernel_rfl).trans (congrArg some ?_)
 rw [Bool.eq_iff_iff]
 simp only [Mk,beq_iff_eq,Mm,Bool.and_true]
 constructor
 ·intro h; obtain⟨_,_,_⟩:=a; obtain⟨_,_,_⟩:=b; simp_all
 ·intro h; subst h; simp
theorem Ra:H3e En 103 9=true:=by kernel_rfl
theorem Qbb:H3e En 151 2=true:=by kernel_rfl
theorem J8:H3e En 36 13=true:=by kernel_rfl
theorem J4:H3e En 57 3=true:=by kernel_rfl
theorem J4f:G61 En 57=true:=by kernel_rfl
theorem H85:Q6f En 4=true:=by kernel_rfl
theorem Rba:H1 En 110=true:=by kernel_rfl
theorem Rb9:H1 En 111=true:=by kernel_rfl
theorem Rb8:H1 En 112=true:=by kernel_rfl
theorem J4e:H1 En 114=true:=by kernel_rfl
theorem Rb7:H1 En 115=true:=by kernel_rfl
theorem Q48:H1 En 116=true:=by kernel_rfl
theorem Rb5:H1 En 119=true:=by kernel_rfl
theorem Rb4:H1 En 120=true:=by kernel_rfl
theorem Rb3:H1 En 121=true:=by kernel_rfl
theorem Q46:H1 En 126=true:=by kernel_rfl
theorem Rab:H1 En 143=true:=by kernel_rfl
theorem Raa:H1 En 144=true:=by kernel_rfl
theorem Ra8:H1 En 146=true:=by kernel_rfl
theorem Ra7:H1 En 147=true:=by kernel_rfl
theorem G7c:H1 En 40=true:=by kernel_rfl
theorem Jb4:H1 En 62=true:=by kernel_rfl
theorem H90:H1 En 70=true:=by kernel_rfl
theorem Q12:En.eqGuardType En.depth 57=false:=by kernel_rfl
theorem Qu:Jw En 103 0 0=true:=by kernel_rfl
theorem G35:Jw En 103 2 2=true:=by kernel_rfl
theorem H8e:Jw En 103 3 3=true:=by kernel_rfl
theorem Q9a:Jw En 151 0 0=true:=by kernel_rfl
theorem Q99:Jw En 151 1 1=true:=by kernel_rfl
theorem Jb:Jw En 57 0 0=true:=by kernel_rfl
theorem Qz:Jw En 57 1 1=true:=by kernel_rfl
theorem Qy:Jw En 57 2 2=true:=by kernel_rfl
theorem Yw:Jw En 94 0 0=true:=by kernel_rfl
theorem Yv:Jw En 94 1 13=true:=by kernel_rfl
theorem G93:Jw En 94 3 15=true:=by kernel_rfl
theorem Gd5:Jw En 94 4 16=true:=by kernel_rfl
theorem Y12:Y93 En 90=true:=by kernel_rfl
theorem G91:Zk En 90 57 103=true:=by kernel_rfl
theorem Gf8:Zk En 92 3 3=true:=by kernel_rfl
theorem G90:placesOf En 103=some [(0,1),(1,1),(2,1),(3,1),(4,1),(5,1),(6,1),(7,1),(8,1)]:=by kernel_rfl
theorem G04:placesOf En 151=some [(0,1),(1,1)]:=by kernel_rfl
theorem R2b:Yc2 En 52=true:=by kernel_rfl
theorem Gd4:Rb En 133=true:=by kernel_rfl
theorem R65:Rb En 25=true:=by kernel_rfl
theorem J0a:Rb En 46=true:=by kernel_rfl
theorem Z2:Rb En 90=true:=by kernel_rfl
theorem G7a:Rb En 92=true:=by kernel_rfl
theorem Rs:Yg En 103 9=true:=by kernel_rfl
theorem Q3f:Yg En 151 2=true:=by kernel_rfl
theorem Yq:Yg En 57 3=true:=by kernel_rfl
theorem Yi:sliceB En 133 57 3=true:=by kernel_rfl
theorem H08:sliceB En 188 151 2=true:=by kernel_rfl
theorem Y7:sliceB En 37 103 9=true:=by kernel_rfl
theorem G75:(En.info? 103).bind (fun i=>i.zero.map Value.cells)=some (List.toArray [E0,.string ByteArray.empty,.int .u8 0,.bool false,E0,E0,E0,.int .u8 0,.bool false]):=by kernel_rfl
theorem G2b:(En.info? 151).bind (fun i=>i.zero.map Value.cells)=some (List.toArray [.nilFunc,E0]):=by kernel_rfl
theorem R0:R1 En 103 9=true:=by kernel_rfl
theorem H7a:R1 En 151 2=true:=by kernel_rfl
theorem Y6:R1 En 3 1=true:=by kernel_rfl
theorem Rr:R1 En 57 3=true:=by kernel_rfl
theorem J92:Gf4 En 3 Ks:=Gf4.of_int (by kernel_rfl)
theorem R98:Gf4 En 57 Slot.kv:=Gf4.of_eq Slot.ks (by kernel_rfl) (fun a b h=>by simp only [Slot.ks,List.cons.injEq,Value.int.injEq,Value.bool.injEq,Value.string.injEq,true_and,and_true] at h; obtain⟨_,_,_⟩:=a; obtain⟨_,_,_⟩:=b; simp_all) 4 (by decide) (fun a b=>Y7d a b) (fun a=>by kernel_rfl) (fun a=>by simp [Instr.sameBits,Slot.ks])
end XSF
open XAF
open XCF
open XSF

def Gdd (b:Box) (a:Int):Option Bool:=
 some (decide (b.ID=a))
theorem Q78 (b:Box) (a:Int) (r:Bool) (h:Gdd b a=some r):Pure En 111 [.agg (Box.cs b),.dptr [I64 a]] (·=BL r):=by
 unfold Gdd at h
 refine Gz [.tmp 3] Tryz.func111 O O (Jr fun c=>(JLh (.ptr 1185 0) (Q6 (cs:=(Box.cs b)) 1185 O O O O O) O (JLm (BL false) O (G6 (c (Gr [(1,.dptr [I64 a]),(2,Ei b)] [] 1185 rfl rfl rfl ø rfl (by exact⟨.conv (.same rfl),.ptr,ø⟩) (Jr fun d=>(JLh (Ei b) (Ga Qu O O O) O (JLh (I64 b.ID) (Gg Gb O O O) O (JLh (I64 a) (Gg Gb O O O) O (JLh (BL (decide (b.ID=a))) (Qg O O O) O (JLm (BL (decide (b.ID=a))) O (G6 (d (Gs (fin1 BL h))))))))))))))))

def Zw (s:List Box) (f:Box→Option Bool):Option Int:=
 each (fun b c (d:Unit) a=>
  bnd (f b) fun e=>
  bif e then
  (some (c:Int))
  else
  (a ()))
 (fun(d:Unit)=>
  some (-1)) s 0 ()
theorem H81 (s:List Box) (f:Box→Option Bool) (f_f:FuncId) (f_c:List AV) (f_B:H1 En f_f=true) (f_d:Qb (fun _=>false) f_c=true) (f_w:∀ a0 q,f a0=some q→Pure En f_f ([.agg (Box.cs a0)]++f_c) (·=BL q)) (r:Int) (h:Zw s f=some r):Pure En 110 [E8 s,.fn f_f f_c] (·=I64 r):=by
 unfold Zw at h
 refine Gz [.tmp 4] Tryz.func110 O O (Jr fun x=>(JLm (I64 0) O (G6 (x (Js fun z=>Jr fun a1=>(JLm (E8 s) O (JLl Y7 O O O fun a2=>(JLm (I64 0) O (G6 (a1 (Gq ?_)))))))))))
 obtain⟨a3,i,j,g,h⟩:=Je h
 refine Hm (fun a (c:Unit)=>each a3 i (List.drop a s) a c=some r) (fun a c=>[(0,E8 s),(1,.fn f_f f_c),(7,Em s.length),(8,Em a)]) (fun a c=>[]) (fun a=>s.length - a) 0 () h ⟨⟨.same O,.same (Hk _ _ f_d),.same O,.same O,ø⟩,ø,O⟩ ?_
 clear h
 intro a c d a7 a4
 refine Jr fun k=>(JLh (BL (decide ((a:Int) < (s.length:Int)))) (Jn O O O) O (G6 (k (Js fun l=>Gp O (fun hb=>?_) (fun hb=>?_)))))
 ·
  have e:=Jz hb
  obtain⟨b,a6,m,n,h⟩:=Hv d e
  replace h:=Zm j h
  refine Gk (l (Js fun o=>Gq (Jr fun p=>(JLm (Em a) O (JLm (Em a) O (G6 (p (Jr fun t=>(JLm (.fn f_f f_c) O (JLm (E8 s) O (JLm (Em a) O (JLh (Ei b) (Hb (f:=Box.av) (xs:=s) (y:=b) O O O Y7 m O) O (JLh (.agg (Box.cs b)) (Gm Ra O O O) O ?_)))))))))))))
  obtain⟨a5,u,h⟩:=Gd h
  refine JLh (BL a5) (G29 (args:=[.agg (Box.cs b)]) (caps:=f_c) O O (f_w b _ u) f_B ⟨O,O,ø⟩ f_d) O (G6 (t (JCc O h (fun h hb=>?_) (fun h hb=>?_))))
  ·
   refine Jr fun v=>(JLm (Em a) O (JLm (Em a) O (G6 (v (Gs (fin1 I64 h))))))
  ·
   refine Gk (o (G2 (JLh (I64 ((a+1:Nat):Int)) (J3 (Hp e a2) O O O) O (JLm (I64 ((a+1:Nat):Int)) O (G6 (a4 _ _ (a+1) () (app1 n h) (by omega) ⟨⟨.same rfl,.same (Hk _ _ f_d),.same rfl,.same rfl,ø⟩,ø,rfl⟩))))))
 ·
  have h:=app1 g (Hw d (Hf hb))
  refine Hr (z (Jr fun w=>(JLm (I64 (-1)) O (G6 (w (Gs (fin1 I64 h)))))))

def Gb0 (boxes:List Box) (id_:Int):Option (Box×Bool):=
 bnd (Zw boxes (fun z0=>Gdd z0 id_)) fun a=>
 bif decide (a < 0) then
 (some ((Box.mk 0 ByteArray.empty 0 false 0 0 0 0 false),false))
 else
 (Qm boxes a fun b=>
  some (b,true))
theorem He2 (boxes:List Box) (id_:Int) (r:Box×Bool) (h:Gb0 boxes id_=some r):Pure En 62 [E8 boxes,I64 id_] (·=.tup [.agg (Box.cs r.1),BL r.2]):=by
 unfold Gb0 at h
 refine Gz [.cell 4 103,.tmp 5] Tryz.func62 O O (Jr fun c=>(JLh (.ptr 1127 0) (Q6 (cs:=[I64 id_]) 1127 O O O O O) O (JLh (.ptr 1128 0) (G10 1128 [I64 0,ST M0,U8 0,BL false,I64 0,I64 0,I64 0,U8 0,BL false] [E0,.string ByteArray.empty,.int .u8 0,.bool false,E0,E0,E0,.int .u8 0,.bool false] G75 (zzQ O) O O) O (JLm (BL false) O (G6 (c (Gr [(0,E8 boxes),(3,.dptr [I64 id_]),(4,.ptr 1128 0)] [(1128,.box 103 [I64 0,ST M0,U8 0,BL false,I64 0,I64 0,I64 0,U8 0,BL false])] 1127 rfl rfl rfl ⟨⟨_,rfl,.boxEq rfl rfl⟩,ø⟩ rfl (by exact⟨.conv (.same rfl),.ptr,.conv (.same rfl),ø⟩) ?_)))))))
 refine Jr fun d=>(JLm (E8 boxes) O (JLh (.fn 111 [.dptr [I64 id_]]) (Q4 (cs:=[.dptr [I64 id_]]) O O) O ?_))
 obtain⟨a,e,h⟩:=Gd h
 refine JLh (I64 a) (Gu O (H81 boxes (fun z0=>Gdd z0 id_) 111 [.dptr [I64 id_]] Rb9 O (fun z0 q hq=>Q78 z0 id_ q hq) a e) Rba ⟨O,O,O,O,ø⟩) O (JLm (I64 a) O (G6 (d (Js fun g=>Jr fun i=>(JLm (I64 a) O (JLh (BL (decide (a < 0))) (Jn O O O) O (G6 (i (JCc O h (fun h hb=>?_) (fun h hb=>?_))))))))))
 ·
  refine Jr fun j=>(JLh (.agg [I64 0,ST M0,U8 0,BL false,I64 0,I64 0,I64 0,U8 0,BL false]) (Hi (cs:=[I64 0,ST M0,U8 0,BL false,I64 0,I64 0,I64 0,U8 0,BL false]) [(0,1),(1,1),(2,1),(3,1),(4,1),(5,1),(6,1),(7,1),(8,1)] [I64 0,ST M0,U8 0,BL false,I64 0,I64 0,I64 0,U8 0,BL false] [E0,.string ByteArray.empty,.int .u8 0,.bool false,E0,E0,E0,.int .u8 0,.bool false] G90 G75 (zzQ O) O O) O (Hq (u:=.junk) (H7 (u:=.agg [I64 0,ST M0,U8 0,BL false,I64 0,I64 0,I64 0,U8 0,BL false]) (ds:=[I64 0,ST M0,U8 0,BL false,I64 0,I64 0,I64 0,U8 0,BL false]) Rs O O O O O O O O) (JLm (BL false) O (G6 (j ?_)))))
  refine Gs (⟨[.agg [I64 0,ST M0,U8 0,BL false,I64 0,I64 0,I64 0,U8 0,BL false],BL false],[],ø,O,⟨⟨_,⟨_,_,_,_,O,O,O,.inl ⟨Ra,O⟩⟩,.conv (.same O)⟩,⟨_,O,.conv (.same O)⟩,ø⟩,O,congrArg (fun r:Box×Bool=>(.tup [.agg (Box.cs r.1),BL r.2]:AV)) (M8 h)⟩)
 ·
  refine Gk (g (Jr fun k=>(JLm (E8 boxes) O (JLm (I64 a) O ?_))))
  obtain⟨n,b,l,m,h⟩:=Rw h
  refine JLh (Ei b) (Hb (f:=Box.av) (xs:=boxes) (y:=b) O O O Y7 m l) O (JLh (.agg (Box.cs b)) (Gm Ra O O O) O (Hq (u:=.junk) (H7 (u:=.agg (Box.cs b)) (ds:=(Box.cs b)) Rs O O O O O O O O) (JLm (BL true) O (G6 (k (Gs (⟨[.agg (Box.cs b),BL true],[],ø,O,⟨⟨_,⟨_,_,_,_,O,O,O,.inl ⟨Ra,O⟩⟩,.conv (.same O)⟩,⟨_,O,.conv (.same O)⟩,ø⟩,O,congrArg (fun r:Box×Bool=>(.tup [.agg (Box.cs r.1),BL r.2]:AV)) (M8 h)⟩)))))))

def Gf3 (boxes:List Box) (id_:Int):Option (Box×Bool):=
 bnd (Gb0 boxes id_) fun a=>
 some (a.1,(a.2&&((decide (a.1.Size=20))||(decide (a.1.Size=40)))))
theorem Jfb (boxes:List Box) (id_:Int) (r:Box×Bool) (h:Gf3 boxes id_=some r):Pure En 36 [E8 boxes,I64 id_] (·=.tup [.agg (Box.cs r.1),BL r.2]):=by
 unfold Gf3 at h
 refine Gz [.cell 4 103,.tmp 5] Tryz.func36 O O (Jr fun b=>(JLh (.ptr 1072 0) (G10 1072 [I64 0,ST M0,U8 0,BL false,I64 0,I64 0,I64 0,U8 0,BL false] [E0,.string ByteArray.empty,.int .u8 0,.bool false,E0,E0,E0,.int .u8 0,.bool false] G75 (zzQ O) O O) O (JLm (BL false) O (G6 (b (Jr fun c=>(JLm (E8 boxes) O (JLm (I64 id_) O ?_))))))))
 obtain⟨a,d,h⟩:=Gd h
 refine JLh (.tup [.agg (Box.cs a.1),BL a.2]) (Gu O (He2 boxes id_ a d) Jb4 ⟨O,O,O,O,ø⟩) O (JLm (.tup [.agg (Box.cs a.1),BL a.2]) O (JLh (.agg (Box.cs a.1)) (Gv O O O) O (JLh (BL a.2) (Gv O O O) O (JLh (.ptr 1073 0) (Hj 1073 9 R0 O O) O (Hq (u:=.junk) (H7 (u:=.agg (Box.cs a.1)) (ds:=(Box.cs a.1)) Rs O O O O O O O O) (JLm (BL a.2) O (G6 (c (Gr [(4,.ptr 1072 0),(6,Ei a.1),(7,BL a.2)] [(1072,.box 103 [I64 0,ST M0,U8 0,BL false,I64 0,I64 0,I64 0,U8 0,BL false])] 1073 rfl rfl rfl ⟨⟨_,rfl,.boxEq rfl rfl⟩,ø⟩ rfl (by exact⟨.conv (.same rfl),.ptr,.conv (.same rfl),ø⟩) ?_)))))))))
 refine Js fun e=>Qn (l':=[(4,.ptr 1072 0),(6,Ei a.1),(7,BL a.2)]) (L':=[(1072,.box 103 [I64 0,ST M0,U8 0,BL false,I64 0,I64 0,I64 0,U8 0,BL false])]) ⟨(.sm O O),⟨fbQ O (.sm O O),ø⟩,rfl⟩ (Jm [12] [0,0,0,0,0,0,0,0,0,0,0,0,0,1] [0,0,0,0,0,0,0,1,1,1,1,1,0,1] [[(1072,.box 103 [I64 0,ST M0,U8 0,BL false,I64 0,I64 0,I64 0,U8 0,BL false])],((1072,.box 103 (Box.cs a.1))::[(1072,.box 103 [I64 0,ST M0,U8 0,BL false,I64 0,I64 0,I64 0,U8 0,BL false])])] J1 (by kernel_rfl) rfl rfl ?_)
 refine Gc (u:=.agg (Box.cs a.1)) O O ⟨Gf (Gm Ra O O O) O,ø⟩ (Gc (u:=BL a.2) O O ⟨Gf (G5 O O) O,ø⟩ (Gc (u:=BL a.2) O O ⟨Gf (G5 O O) O,ø⟩ (Gc (u:=.opt a.2 (.dptr ((Box.cs a.1).drop 2))) O O ⟨Hc [] O O O .sct ø (fun hc=>Ga G35 O O O) O,ø⟩ (Gc (u:=.opt a.2 (U8 a.1.Size)) O O ⟨Hc [(17,.dptr ((Box.cs a.1).drop 2))] O O O .sct ⟨.all id,ø⟩ (fun hc=>Gg Hy O O O) O,ø⟩ (Gc (u:=.opt a.2 (BL (decide (a.1.Size=20)))) O O ⟨Hc [(18,U8 a.1.Size)] O O O .sct ⟨.all id,ø⟩ (fun hc=>Qg O O O) O,ø⟩ (Gc (u:=.opt a.2 (BL (decide (a.1.Size=20)))) O O ⟨Hc [(19,BL (decide (a.1.Size=20)))] O O O .sct ⟨.all id,ø⟩ (fun hc=>G5 O O) O,ø⟩ (Gc (u:=.opt (a.2&&!(decide (a.1.Size=20))) (.dptr ((Box.cs a.1).drop 2))) O O ⟨Hc [] O O O .optf ø (fun hc=>Ga G35 O O O) O,Hc [] O O O .optf ø (fun hc=>Ga G35 O O O) O,ø⟩ (Gc (u:=.opt (a.2&&!(decide (a.1.Size=20))) (U8 a.1.Size)) O O ⟨Hc [(21,.dptr ((Box.cs a.1).drop 2))] O O O .optf ⟨.all id,ø⟩ (fun hc=>Gg Hy O O O) O,Hc [(21,.dptr ((Box.cs a.1).drop 2))] O O O .optf ⟨.all id,ø⟩ (fun hc=>Gg Hy O O O) O,ø⟩ (Gc (u:=.opt (a.2&&!(decide (a.1.Size=20))) (BL (decide (a.1.Size=40)))) O O ⟨Hc [(22,U8 a.1.Size)] O O O .optf ⟨.all id,ø⟩ (fun hc=>Qg O O O) O,Hc [(22,U8 a.1.Size)] O O O .optf ⟨.all id,ø⟩ (fun hc=>Qg O O O) O,ø⟩ (Gc (u:=.opt a.2 (BL ((decide (a.1.Size=20))||(decide (a.1.Size=40))))) O O ⟨Hc [(20,BL (decide (a.1.Size=20))),(23,_)] O O O .sct ⟨.all id,.part,ø⟩ (fun hc=>G82 O O O O) O,Hc [(20,BL (decide (a.1.Size=20))),(23,_)] O O O .sct ⟨.all id,.part,ø⟩ (fun hc=>G82 O O O O) O,ø⟩ (Gc (u:=BL (a.2&&((decide (a.1.Size=20))||(decide (a.1.Size=40))))) O O ⟨Gf (Ri O O O O) O,Gf (Ri O O O O) O,ø⟩ (H22 (u:=.junk) O O O O (Gf (H7 (u:=.agg (Box.cs a.1)) (ds:=(Box.cs a.1)) Rs O O O O O O O O) O) (Gc (u:=BL (a.2&&((decide (a.1.Size=20))||(decide (a.1.Size=40))))) O O ⟨Gf (G7 O O) O,ø⟩ (R4 ?_))))))))))))))
 refine e (Gs (⟨[.agg (Box.cs a.1),BL (a.2&&((decide (a.1.Size=20))||(decide (a.1.Size=40))))],[],ø,O,⟨⟨_,⟨_,_,_,_,O,O,O,.inl ⟨Ra,O⟩⟩,.conv (.same O)⟩,⟨_,O,.conv (.same O)⟩,ø⟩,O,congrArg (fun r:Box×Bool=>(.tup [.agg (Box.cs r.1),BL r.2]:AV)) (M8 h)⟩))

def J37 (m:Ge):Option Bool:=
 some true
theorem Rz (m:Ge) (r:Bool) (h:J37 m=some r):Pure En 40 [.dptr (Ge.cs m)] (·=BL r):=by
 unfold J37 at h
 refine Gz [.tmp 2] Tryz.func40 O O (Jr fun a=>(JLm (BL false) O (G6 (a ?_))))
 refine Jr fun c=>(JLm (Eg m) O (JLh (BL true) (Z36 R2b O O) O (JLm (BL true) O (JLo (Eg m) [] O .sct ø (fun hc=>G5 O O) O (JLo (Eg m) [6] O .sct ⟨Ua,ø⟩ (fun hc=>G83 O O) O (JLo (.dptr [DM Slot.kv Box.av m.on,DM Ks Box.av m.quay,DM Ks I64 m.open_,I64 m.lifts]) [7] O .sct ⟨Ua,ø⟩ (fun hc=>Ga Yv O O O) O (JLo (DM Slot.kv Box.av m.on) [8] O .sct ⟨Ua,ø⟩ (fun hc=>Gg Z2 O O O) O (JLo (BL true) [9] O .sct ⟨Ua,ø⟩ (fun hc=>Z35 Y12 O O) O (JLh (BL true) (Ri (b:=true) (d:=true) O O O O) O (JLm (BL true) O (G6 (c ?_))))))))))))
 refine Gs (fin1 BL h)

def H51 (m:Ge) (is:Slot→Option Bool) (Rp:Bool→Prop):Option Prop:=
 J32 (fun(b:Slot×Box) (c:Unit) a=>
  bnd (is b.1) fun d=>
  bif d then
  (lft (some (Rp true)))
  else
  (a ()))
 (fun(c:Unit)=>
  some (Rp false)) (Gw.Hd m.on) ()
theorem Q7c (m:Ge) (is:Slot→Option Bool) (is_f:FuncId) (is_c:List AV) (is_B:H1 En is_f=true) (is_d:Qb (fun _=>false) is_c=true) (is_w:∀ a0 q,is a0=some q→Pure En is_f ([.agg [I64 a0.G3,I64 a0.Tier,U8 a0.Half]]++is_c) (·=BL q)) (Rp:Bool→Prop) (p:Prop) (h:H51 m is Rp=some p) (hp:p):Pure En 74 [.dptr (Ge.cs m),.fn is_f is_c] (fun av=>∃ r,Rp r∧av=BL r):=by
 unfold H51 at h
 refine Gz [.tmp 4] Tryz.func74 O O (Jr fun a3=>(JLm (BL false) O (G6 (a3 (Js fun a4=>Jr fun a5=>(JLm (Eg m) O (JLh (Eg m) (G83 O O) O (JLh (.dptr ((Ge.cs m).drop 13)) (Ga Yv O O O) O (JLh (DM Slot.kv Box.av m.on) (Gg Z2 O O O) O (JLh (.it 1147) (Hb4 1147 (kv:=Slot.kv) (av:=Box.av) (m:=m.on) O O .data O G91) O (G6 (a5 (Gq ?_)))))))))))))
 obtain⟨a6,s,t,o,h⟩:=H60 h
 refine J71 (m.on.l.length) (fun b (d:Unit)=>Ge3 a6 s (Gw.l m.on) b d) (fun b d=>[(1,.fn is_f is_c),(10,.it 1147)]) (fun b d=>[(1147,.iter (DM Slot.kv Box.av m.on) m.on.l.length b)]) () (Ge3.start h hp) ⟨⟨.same (Hk _ _ is_d),.same O,ø⟩,⟨⟨_,O,.iter O⟩,ø⟩,O⟩ ?_
 clear h hp
 intro b d f b0 a7
 refine Jr fun g=>Rn O O O (J2d (kv:=Slot.kv) (av:=Box.av) (m:=m.on) (fun _=>O) O O O .data) ?_
 intro u_ L_ hn_
 rcases hn_ with ⟨i,a,c,j,rfl,rfl⟩ | ⟨v,rfl,rfl⟩
 ·
  obtain⟨b1,h,k,n⟩:=f.step c j
  replace h:=Jc7 t h
  refine JLh (BL true) (Gv O O O) O (G6 (g (Js fun w=>J72 O (Gk (w (Gq (Jr fun x=>(JLh (.tup [.agg (Slot.cs a.1),.agg (Box.cs a.2)]) (Jd4 (kv:=Slot.kv) (av:=Box.av) (m:=m.on) (q:=i) (seen:=b) (e:=a) (fun _=>O) O O O .data c) O (JLh (.agg (Slot.cs a.1)) (Gv O O O) O (JLh (.ptr 1146 0) (Hj 1146 3 Rr O O) O (Hq (u:=.junk) (H7 (u:=.agg (Slot.cs a.1)) (ds:=[I64 a.1.G3,I64 a.1.Tier,U8 a.1.Half]) Yq O O O O O O O O) (G6 (x (Gr [(1,.fn is_f is_c),(5,Ek a.1),(10,.it 1147)] [(1147,.iter (DM Slot.kv Box.av m.on) m.on.l.length (b++[i]))] 1146 rfl rfl rfl ⟨⟨_,rfl,.iter rfl⟩,ø⟩ rfl (by exact⟨.conv (.same (Hk _ _ is_d)),.ptr,.conv (.same rfl),ø⟩) ?_))))))))))))))
  refine Jr fun y=>(JLm (.fn is_f is_c) O (JLh (.agg (Slot.cs a.1)) (Gm J4 O O O) O ?_))
  obtain⟨a8,z,h⟩:=Gd h
  refine JLh (BL a8) (G29 (args:=[.agg (Slot.cs a.1)]) (caps:=is_c) O O (is_w a.1 _ z) is_B ⟨O,O,ø⟩ is_d) O (G6 (y (JCc O h (fun h hb=>?_) (fun h hb=>?_))))
  ·
   refine Jr fun a1=>(JLm (BL true) O (G6 (a1 (Gs ?_))))
   obtain⟨y_,hy_,hl_⟩:=Y96 h
   exact⟨[BL true],[],ø,O,⟨⟨_,O,.conv (.same O)⟩,ø⟩,O,true,Eq.mpr (M8 hl_) (k y_ hy_),O⟩
  ·
   refine Gk (a7 _ _ (b++[i]) () (n _ (M8 h).symm) (Gbd (M6 c).1 j) ⟨⟨.same (Hk _ _ is_d),.same O,ø⟩,⟨⟨_,O,.iter O⟩,ø⟩,O⟩)
 ·
  obtain⟨p_,h,hp⟩:=f.done v
  replace h:=app1 o h
  refine JLh (BL false) (Gv O O O) O (G6 (g (Js fun a9=>G3b O (Hr (a4 (Jr fun a2=>(JLm (BL false) O (G6 (a2 (Gs (⟨[BL false],[],ø,O,⟨⟨_,O,.conv (.same O)⟩,ø⟩,O,false,Eq.mpr (M8 h) hp,O⟩)))))))))))
theorem Q7d (S_:(Ge)→(Slot→Option Bool)→Option Bool) (hS_:∀ m is r,S_ m is=some r→∃ p:Prop,H51 m is (fun r_=>r_=r)=some p∧p) (m:Ge) (is:Slot→Option Bool) (is_f:FuncId) (is_c:List AV) (is_B:H1 En is_f=true) (is_d:Qb (fun _=>false) is_c=true) (is_w:∀ a0 q,is a0=some q→Pure En is_f ([.agg [I64 a0.G3,I64 a0.Tier,U8 a0.Half]]++is_c) (·=BL q)) (r:Bool) (h:S_ m is=some r):Pure En 74 [.dptr (Ge.cs m),.fn is_f is_c] (·=BL r):=by
 obtain⟨p,a,b⟩:=hS_ m is r h
 exact(Q7c m is is_f is_c is_B is_d is_w _ p a b).monoP (fun av hh=>by obtain⟨r_,rfl,ha⟩:=hh; exact ha)

def G88 (r_:Int) (a:G3):Option Bool:=
 some (decide (r_=a.Row))
theorem Q02 (r_:Int) (a:G3) (r:Bool) (h:G88 r_ a=some r):Pure En 147 [I64 r_,Ej a] (·=BL r):=by
 unfold G88 at h
 refine Gz [.tmp 3] Tryz.func147 O O (Jr fun b=>(JLm (BL false) O (G6 (b (Jr fun c=>(JLm (I64 r_) O (JLh (.dptr ((G3.cs a).drop 1)) (Ga G92 O O O) O (JLh (I64 a.Row) (Gg Gb O O O) O (JLh (BL (decide (r_=a.Row))) (Qg O O O) O (JLm (BL (decide (r_=a.Row))) O (G6 (c (Gs (fin1 BL h))))))))))))))

def G50 (l:List Int) (wanted:Int→Option Bool):Option (List Int):=
 each (fun e b (a:(List Int)) d=>
  jp (fun c=>
   bnd (wanted e) fun f=>
   bif f then
   (need (decide ((a.length+[(b:Int)].length)*8≤140737488355328∧a.length+[(b:Int)].length≤maxLen)) <|
    c (a++[(b:Int)]))
   else
   (c a)) fun(g:(List Int))=>
  d g)
 (fun(a:(List Int))=>
  some a) l 0 []
theorem J98 (l:List Int) (wanted:Int→Option Bool) (wanted_f:FuncId) (wanted_c:List AV) (wanted_B:H1 En wanted_f=true) (wanted_d:Qb (fun _=>false) wanted_c=true) (wanted_w:∀ a0 q,wanted a0=some q→Pure En wanted_f ([I64 a0]++wanted_c) (·=BL q)) (r:(List Int)) (h:G50 l wanted=some r):Pure En 146 [E2 l,.fn wanted_f wanted_c] (·=E2 r):=by
 unfold G50 at h
 refine Gz [.tmp 4] Tryz.func146 O O (Jr fun a1=>(JLh (E2 ([]:List Int)) (Jd 1 O O) O (G6 (a1 (Jr fun a2=>(JLh (OW 1209 1 I64 ([]:List Int)) (H69 1209 3 1 O O O) O (G6 (a2 (Js fun a3=>Jr fun a4=>(JLm (E2 l) O (JLl H3 O O O fun a5=>(JLm (I64 0) O (G6 (a4 (Gq ?_)))))))))))))))
 obtain⟨a6,k,m,i,h⟩:=Je h
 refine Hm (fun a (b:(List Int))=>each a6 k (List.drop a l) a b=some r) (fun a b=>[(1,.fn wanted_f wanted_c),(5,OW 1209 1 I64 b),(8,E2 l),(9,Em l.length),(10,Em a)]) (fun a b=>[(1209,.spare 3 1 b.length b.length)]) (fun a=>l.length - a) 0 [] h ⟨⟨.same (Hk _ _ wanted_d),.same O,.same O,.same O,.same O,ø⟩,⟨⟨_,O,.same⟩,ø⟩,O⟩ ?_
 clear h
 intro a b e b0 a7
 refine Jr fun n=>(JLh (BL (decide ((a:Int) < (l.length:Int)))) (Jn O O O) O (G6 (n (Js fun o=>Gp O (fun hb=>?_) (fun hb=>?_)))))
 ·
  have g:=Jz hb
  obtain⟨d,a9,p,s,h⟩:=Hv e g
  replace h:=Zm m h
  refine Gk (o ?_)
  obtain⟨t,j,h⟩:=Rc h
  refine Qk (fun c:(List Int)=>t c=some r) (fun c=>[(1,.fn wanted_f wanted_c),(5,OW 1209 1 I64 c),(8,E2 l),(9,Em l.length),(10,Em a)]) (fun c=>[(1209,.spare 3 1 c.length c.length)]) (fun Kj24 ej24=>?_) ?_
  ·
   refine Gq (Jr fun u=>(JLm (Em a) O (JLh (.dptr [I64 d]) (Hb (f:=I64) (xs:=l) (y:=d) O O O H3 p O) O (JLh (I64 d) (Gg Gb O O O) O (JLm (Em a) O (JLm (I64 d) O (G6 (u (Jr fun v=>(JLm (.fn wanted_f wanted_c) O (JLm (I64 d) O ?_)))))))))))
   obtain⟨a8,w,h⟩:=Gd h
   refine JLh (BL a8) (G29 (args:=[I64 d]) (caps:=wanted_c) O O (wanted_w d _ w) wanted_B ⟨O,O,ø⟩ wanted_d) O (G6 (v (JCc O h (fun h hb=>?_) (fun h hb=>?_))))
   ·
    refine G2 (JLm (OW 1209 1 I64 b) O (JLm (Em a) O (JLh (E2 [(a:Int)]) (He (xs:=[Em a]) O ⟨O,O,ø⟩ H3 Y6 O O O O) O ?_)))
    obtain⟨x,h⟩:=Jf h
    refine JLh (OW 1209 1 I64 (b++[(a:Int)])) (Yo (f:=I64) (xs:=b) (ys:=[(a:Int)]) O O O O H3 G94 x (fun _=>O) (.inl O) O) O (JLm (OW 1209 1 I64 (b++[(a:Int)])) O (G6 (ej24 _ _ (b++[(a:Int)]) h ⟨⟨.same (Hk _ _ wanted_d),.same O,.same O,.same O,.same O,ø⟩,⟨⟨_,O,.same⟩,ø⟩,O⟩)))
   ·
    refine Gk (ej24 _ _ b h ⟨⟨.same (Hk _ _ wanted_d),.same O,.same O,.same O,.same O,ø⟩,⟨⟨_,O,.same⟩,ø⟩,O⟩)
  ·intro c h
   replace h:=app1 j h
   refine G2 (JLh (I64 ((a+1:Nat):Int)) (J3 (Hp g a5) O O O) O (JLm (I64 ((a+1:Nat):Int)) O (G6 (a7 _ _ (a+1) c (app1 s h) (by omega) ⟨⟨.same (Hk _ _ wanted_d),.same rfl,.same rfl,.same rfl,.same rfl,ø⟩,⟨⟨_,rfl,.same⟩,ø⟩,rfl⟩))))
 ·
  have h:=app1 i (Hw e (Hf hb))
  refine Hr (a3 (Jr fun z=>(JLm (OW 1209 1 I64 b) O (JLm (OW 1209 1 I64 b) O (G6 (z (Gs (fin1l (fun r:(List Int)=>(E2 r:AV)) h))))))))

def Ge1 (x:G9) (c:G3):Option Bool:=
 bnd (bif decide (x.Bay=c.Bay) then G50 x.Rows (fun z0=>G88 z0 c) else some default) fun a=>
 some ((decide (x.Bay=c.Bay))&&(decide (0 < (a.length:Int))))
theorem Q7e (x:G9) (c:G3) (r:Bool) (h:Ge1 x c=some r):Pure En 121 [.agg [I64 x.Bay,E2 x.Rows],.agg (G3.cs c)] (·=BL r):=by
 unfold Ge1 at h
 refine Gz [.tmp 4] Tryz.func121 O O (Jr fun b=>(JLh (.ptr 1193 0) (Q6 (cs:=[I64 x.Bay,E2 x.Rows]) 1193 O O O O O) O (JLh (.ptr 1194 0) (Q6 (cs:=(G3.cs c)) 1194 O O O O O) O (JLm (BL false) O (G6 (b (Gr [(2,.dptr [I64 x.Bay,E2 x.Rows]),(3,.ptr 1194 0)] [(1194,.box 97 (G3.cs c))] 1193 rfl rfl rfl ⟨⟨_,rfl,.boxEq rfl rfl⟩,ø⟩ rfl (by exact⟨.ptr,.conv (.same rfl),ø⟩) ?_)))))))
 refine Gr [(2,.dptr [I64 x.Bay,E2 x.Rows]),(3,Ej c)] [] 1194 rfl rfl rfl ø rfl (by exact⟨.conv (.same rfl),.ptr,ø⟩) (Jr fun d=>(JLh (.dptr [I64 x.Bay,E2 x.Rows]) (Ga H0d O O O) O (JLh (I64 x.Bay) (Gg Gb O O O) O (JLh (Ej c) (Ga G2c O O O) O (JLh (I64 c.Bay) (Gg Gb O O O) O (JLh (BL (decide (x.Bay=c.Bay))) (Qg O O O) O (JLm (BL (decide (x.Bay=c.Bay))) O (JLo (.dptr [E2 x.Rows]) [] O .sct ø (fun hc=>Ga G64 O O O) O (JLo (E2 x.Rows) [11] O .sct ⟨Ua,ø⟩ (fun hc=>Gg Rv O O O) O (JLo (.fn 147 [.dptr (G3.cs c)]) [] O .sct ø (fun hc=>Q4 (cs:=[.dptr (G3.cs c)]) O O) O ?_))))))))))
 obtain⟨a,e,h⟩:=Gd h
 refine JLo (E2 a) [12,13] O .sct ⟨Ua,Ua,ø⟩ (fun hc=>Gu (args:=[E2 x.Rows,.fn 147 [.dptr (G3.cs c)]]) O (J98 x.Rows (fun z0=>G88 z0 c) 147 [.dptr (G3.cs c)] Ra7 O (fun z0 q hq=>Q02 z0 c q hq) a (H2 hc e)) Ra8 ⟨O,O,O,O,ø⟩) O (JLo (Em a.length) [14] O .sct ⟨Ua,ø⟩ (fun hc=>Gf6 (f:=I64) (xs:=a) H3 O O) O (JLo (BL (decide (0 < (a.length:Int)))) [15] O .sct ⟨Ua,ø⟩ (fun hc=>Gd1 O O O) O (JLh (BL ((decide (x.Bay=c.Bay))&&(decide (0 < (a.length:Int))))) (Ri O O O O) O (JLm (BL ((decide (x.Bay=c.Bay))&&(decide (0 < (a.length:Int))))) O (G6 (d (Gs (fin1 BL h))))))))

def G34 (x:G9) (a:Gj) (b:Int):Option Bool:=
 Qm a.Columns b fun c=>
 bnd (Ge1 x c) fun d=>
 some d
theorem Jcd (x:G9) (a:Gj) (c:Int) (r:Bool) (h:G34 x a c=some r):Pure En 120 [.agg [I64 x.Bay,E2 x.Rows],Ee a,.dptr [I64 c]] (·=BL r):=by
 unfold G34 at h
 refine Gz [.tmp 4] Tryz.func120 O O (Jr fun e=>(JLh (.ptr 1192 0) (Q6 (cs:=[I64 x.Bay,E2 x.Rows]) 1192 O O O O O) O (JLm (BL false) O (G6 (e (Gr [(1,Ee a),(2,.dptr [I64 c]),(3,.dptr [I64 x.Bay,E2 x.Rows])] [] 1192 rfl rfl rfl ø rfl (by exact⟨.conv (.same rfl),.conv (.same rfl),.ptr,ø⟩) (Js fun g=>?_)))))))
 obtain⟨l,b,i,j,h⟩:=Rw h
 obtain⟨d,k,h⟩:=Gd h
 refine JC_d0 J1 (by kernel_rfl) (Dq (.agg [I64 x.Bay,E2 x.Rows]) (Gm J12 O O O) O (Dq (Ee a) (Ga Jc O O O) O (Dq (E3 a.Columns) (Gg Jv O O O) O (Dq (I64 c) (Gg Gb O O O) O (Dq (Ej b) (Hb (f:=G3.av) (xs:=a.Columns) (y:=b) O O O Hz j i) O (Dq (.agg (G3.cs b)) (Gm Gbf O O O) O (Dq (BL d) (Gu (args:=[.agg [I64 x.Bay,E2 x.Rows],.agg (G3.cs b)]) O (Q7e x b d k) Rb3 ⟨O,O,O,O,ø⟩) O (Dq (BL d) (G7 O O) O (Dnil (g (Gs (fin1 BL h))))))))))))

def Zp (l:List G9) (wanted:G9→Option Bool):Option (List Int):=
 each (fun e b (a:(List Int)) d=>
  jp (fun c=>
   bnd (wanted e) fun f=>
   bif f then
   (need (decide ((a.length+[(b:Int)].length)*8≤140737488355328∧a.length+[(b:Int)].length≤maxLen)) <|
    c (a++[(b:Int)]))
   else
   (c a)) fun(g:(List Int))=>
  d g)
 (fun(a:(List Int))=>
  some a) l 0 []
theorem He5 (l:List G9) (wanted:G9→Option Bool) (wanted_f:FuncId) (wanted_c:List AV) (wanted_B:H1 En wanted_f=true) (wanted_d:Qb (fun _=>false) wanted_c=true) (wanted_w:∀ a0 q,wanted a0=some q→Pure En wanted_f ([.agg [I64 a0.Bay,E2 a0.Rows]]++wanted_c) (·=BL q)) (r:(List Int)) (h:Zp l wanted=some r):Pure En 119 [E7 l,.fn wanted_f wanted_c] (·=E2 r):=by
 unfold Zp at h
 refine Gz [.tmp 4] Tryz.func119 O O (Jr fun a2=>(JLh (E2 ([]:List Int)) (Jd 1 O O) O (G6 (a2 (Jr fun a3=>(JLh (OW 1190 1 I64 ([]:List Int)) (H69 1190 3 1 O O O) O (G6 (a3 (Js fun a4=>Jr fun a5=>(JLm (E7 l) O (JLl Qr O O O fun a6=>(JLm (I64 0) O (G6 (a5 (Gq ?_)))))))))))))))
 obtain⟨a7,k,m,i,h⟩:=Je h
 refine Hm (fun a (b:(List Int))=>each a7 k (List.drop a l) a b=some r) (fun a b=>[(1,.fn wanted_f wanted_c),(5,OW 1190 1 I64 b),(8,E7 l),(9,Em l.length),(10,Em a)]) (fun a b=>[(1190,.spare 3 1 b.length b.length)]) (fun a=>l.length - a) 0 [] h ⟨⟨.same (Hk _ _ wanted_d),.same O,.same O,.same O,.same O,ø⟩,⟨⟨_,O,.same⟩,ø⟩,O⟩ ?_
 clear h
 intro a b e b1 a8
 refine Jr fun n=>(JLh (BL (decide ((a:Int) < (l.length:Int)))) (Jn O O O) O (G6 (n (Js fun o=>Gp O (fun hb=>?_) (fun hb=>?_)))))
 ·
  have g:=Jz hb
  obtain⟨c,b0,p,s,h⟩:=Hv e g
  replace h:=Zm m h
  refine Gk (o ?_)
  obtain⟨t,j,h⟩:=Rc h
  refine Qk (fun d:(List Int)=>t d=some r) (fun d=>[(1,.fn wanted_f wanted_c),(5,OW 1190 1 I64 d),(8,E7 l),(9,Em l.length),(10,Em a)]) (fun d=>[(1190,.spare 3 1 d.length d.length)]) (fun Kj24 ej24=>?_) ?_
  ·
   refine Gq (Jr fun v=>(JLm (Em a) O (JLh (.dptr [I64 c.Bay,E2 c.Rows]) (Hb (f:=G9.av) (xs:=l) (y:=c) O O O Qr p O) O (JLh (.agg [I64 c.Bay,E2 c.Rows]) (Gm J12 O O O) O (JLh (.ptr 1191 0) (Hj 1191 2 H07 O O) O (JLm (Em a) O (Hq (u:=.junk) (H7 (u:=.agg [I64 c.Bay,E2 c.Rows]) (ds:=[I64 c.Bay,E2 c.Rows]) Q41 O O O O O O O O) (G6 (v ?_)))))))))
   refine Gr [(1,.fn wanted_f wanted_c),(5,OW 1190 1 I64 b),(6,Em a),(7,.dptr [I64 c.Bay,E2 c.Rows]),(8,E7 l),(9,Em l.length),(10,Em a)] [(1190,.spare 3 1 b.length b.length)] 1191 rfl rfl rfl ⟨⟨_,rfl,.same⟩,ø⟩ rfl (by exact⟨.conv (.same (Hk _ _ wanted_d)),.conv (.same rfl),.conv (.same rfl),.ptr,.conv (.same rfl),.conv (.same rfl),.conv (.same rfl),ø⟩) (Jr fun w=>(JLm (.fn wanted_f wanted_c) O (JLh (.agg [I64 c.Bay,E2 c.Rows]) (Gm J12 O O O) O ?_)))
   obtain⟨a9,x,h⟩:=Gd h
   refine JLh (BL a9) (G29 (args:=[.agg [I64 c.Bay,E2 c.Rows]]) (caps:=wanted_c) O O (wanted_w c _ x) wanted_B ⟨O,O,ø⟩ wanted_d) O (G6 (w (JCc O h (fun h hb=>?_) (fun h hb=>?_))))
   ·
    refine G2 (JLm (OW 1190 1 I64 b) O (JLm (Em a) O (JLh (E2 [(a:Int)]) (He (xs:=[Em a]) O ⟨O,O,ø⟩ H3 Y6 O O O O) O ?_)))
    obtain⟨z,h⟩:=Jf h
    refine JLh (OW 1190 1 I64 (b++[(a:Int)])) (Yo (f:=I64) (xs:=b) (ys:=[(a:Int)]) O O O O H3 G94 z (fun _=>O) (.inl O) O) O (JLm (OW 1190 1 I64 (b++[(a:Int)])) O (G6 (ej24 _ _ (b++[(a:Int)]) h ⟨⟨.same (Hk _ _ wanted_d),.same O,.same O,.same O,.same O,ø⟩,⟨⟨_,O,.same⟩,ø⟩,O⟩)))
   ·
    refine Gk (ej24 _ _ b h ⟨⟨.same (Hk _ _ wanted_d),.same O,.same O,.same O,.same O,ø⟩,⟨⟨_,O,.same⟩,ø⟩,O⟩)
  ·intro d h
   replace h:=app1 j h
   refine G2 (JLh (I64 ((a+1:Nat):Int)) (J3 (Hp g a6) O O O) O (JLm (I64 ((a+1:Nat):Int)) O (G6 (a8 _ _ (a+1) d (app1 s h) (by omega) ⟨⟨.same (Hk _ _ wanted_d),.same rfl,.same rfl,.same rfl,.same rfl,ø⟩,⟨⟨_,rfl,.same⟩,ø⟩,rfl⟩))))
 ·
  have h:=app1 i (Hw e (Hf hb))
  refine Hr (a4 (Jr fun a1=>(JLm (OW 1190 1 I64 b) O (JLm (OW 1190 1 I64 b) O (G6 (a1 (Gs (fin1l (fun r:(List Int)=>(E2 r:AV)) h))))))))

def Rh (s:Gj) (column:Int):Option Int:=
 bif ((decide (column < 0))||(decide ((s.Columns.length:Int)≤column))) then
 (some (-1))
 else
 (bnd (Zp s.Covers (fun z0=>G34 z0 s column)) fun a=>
  bif decide ((a.length:Int)=0) then
  (some (-1))
  else
  (Qm a 0 fun b=>
   some b))
theorem G70 (s:Gj) (column:Int) (r:Int) (h:Rh s column=some r):Pure En 70 [.agg (Gj.cs s),I64 column] (·=I64 r):=by
 unfold Rh at h
 refine Gz [.tmp 4] Tryz.func70 O O (Jr fun g=>(JLh (.ptr 1142 0) (Q6 (cs:=(Gj.cs s)) 1142 O O O O O) O (JLh (.ptr 1143 0) (Q6 (cs:=[I64 column]) 1143 O O O O O) O (JLm (I64 0) O (G6 (g (Gr [(2,Ee s),(3,.ptr 1143 0)] [(1143,.box 3 [I64 column])] 1142 rfl rfl rfl ⟨⟨_,rfl,.boxEq rfl rfl⟩,ø⟩ rfl (by exact⟨.ptr,.conv (.same rfl),ø⟩) (Gr [(2,Ee s),(3,.dptr [I64 column])] [] 1143 rfl rfl rfl ø rfl (by exact⟨.conv (.same rfl),.ptr,ø⟩) (Js fun i=>?_)))))))))
 refine Jr fun j=>(JLh (I64 column) (Gg Gb O O O) O (JLh (BL (decide (column < 0))) (Jn O O O) O (JLm (BL (decide (column < 0))) O (JLo (I64 column) [] O .scf ø (fun hc=>Gg Gb O O O) O (JLo (Ee s) [] O .scf ø (fun hc=>Ga Jc O O O) O (JLo (E3 s.Columns) [10] O .scf ⟨Ua,ø⟩ (fun hc=>Gg Jv O O O) O (JLo (Em s.Columns.length) [11] O .scf ⟨Ua,ø⟩ (fun hc=>Gf6 (f:=G3.av) (xs:=s.Columns) Hz O O) O (JLo (BL (decide ((s.Columns.length:Int)≤column))) [9,12] O .scf ⟨Ua,Ua,ø⟩ (fun hc=>H2c O O O) O (JLh (BL ((decide (column < 0))||(decide ((s.Columns.length:Int)≤column)))) (G82 O O O O) O (G6 (j (JCc O h (fun h hb=>?_) (fun h hb=>?_)))))))))))))
 ·
  refine Jr fun k=>(JLm (I64 (-1)) O (G6 (k (Gs (fin1 I64 h)))))
 ·
  refine Gk (i (Jr fun l=>(JLh (.dptr ((Gj.cs s).drop 1)) (Ga Yd O O O) O (JLh (E7 s.Covers) (Gg G02 O O O) O (JLh (.fn 120 [.dptr (Gj.cs s),.dptr [I64 column]]) (Q4 (cs:=[.dptr (Gj.cs s),.dptr [I64 column]]) O O) O ?_)))))
  obtain⟨a,m,h⟩:=Gd h
  refine JLh (E2 a) (Gu O (He5 s.Covers (fun z0=>G34 z0 s column) 120 [.dptr (Gj.cs s),.dptr [I64 column]] Rb4 O (fun z0 q hq=>Jcd z0 s column q hq) a m) Rb5 ⟨O,O,O,O,ø⟩) O (JLm (E2 a) O (G6 (l (Js fun n=>Jr fun o=>(JLm (E2 a) O (JLl H3 O O O fun t=>(JLh (BL (decide ((a.length:Int)=0))) (Qg O O O) O (G6 (o (JCc O h (fun h hb=>?_) (fun h hb=>?_)))))))))))
  ·
   refine Jr fun p=>(JLm (I64 (-1)) O (G6 (p (Gs (fin1 I64 h)))))
  ·
   refine Gk (n (Jr fun c=>(JLm (E2 a) O ?_)))
   obtain⟨u,b,d,e,h⟩:=Rw h
   refine JLh (.dptr [I64 b]) (Hb (f:=I64) (xs:=a) (y:=b) O O O H3 e d) O (JLh (I64 b) (Gg Gb O O O) O (JLm (I64 b) O (G6 (c (Gs (fin1 I64 h))))))

def G6d (m:Ge) (x:Slot):Option Bool:=
 bnd (Rh m.ship x.G3) fun a=>
 bnd (bif decide (0≤a) then some (Gw.get m.open_ a 0) else some 0) fun b=>
 bnd (bif decide (0≤a) then Qm m.ship.Columns x.G3 some else some default) fun c=>
 some ((decide (0≤a))&&((decide (0 < b))==c.Deck))
theorem Hfc (m:Ge) (x:Slot) (r:Bool) (h:G6d m x=some r):Pure En 81 [.dptr (Ge.cs m),.agg [I64 x.G3,I64 x.Tier,U8 x.Half]] (·=BL r):=by
 unfold G6d at h
 refine Gz [.tmp 4] Tryz.func81 O O (Jr fun e=>(JLh (.ptr 1153 0) (Q6 (cs:=[I64 x.G3,I64 x.Tier,U8 x.Half]) 1153 O O O O O) O (JLm (BL false) O (G6 (e (Gr [(0,Eg m),(3,.dptr [I64 x.G3,I64 x.Tier,U8 x.Half])] [] 1153 rfl rfl rfl ø rfl (by exact⟨.conv (.same rfl),.ptr,ø⟩) (Js fun g=>?_)))))))
 obtain⟨b,i,h⟩:=Gd h
 refine JC_d0 J1 (by kernel_rfl) (Dq (Eg m) (G5 O O) O (Dq (Eg m) (G83 O O) O (Dq (Eg m) (Ga Yw O O O) O (Dq (.agg (Gj.cs m.ship)) (Gm J8 O O O) O (Dq (.dptr [I64 x.G3,I64 x.Tier,U8 x.Half]) (Ga Jb O O O) O (Dq (I64 x.G3) (Gg Gb O O O) O (Dq (I64 b) (Gu (args:=[.agg (Gj.cs m.ship),I64 x.G3]) O (G70 m.ship x.G3 b i) H90 ⟨O,O,O,O,ø⟩) O (Dq (I64 b) (G7 O O) O (Dnil (g (Js fun j=>?_)))))))))))
 obtain⟨d,k,h⟩:=Gd h
 obtain⟨c,l,h⟩:=Gd h
 refine JC_d0 J1 (by kernel_rfl) (Dq (I64 b) (G5 O O) O (Dq (BL (decide (0≤b))) (H2c O O O) O (Dq (BL (decide (0≤b))) (G5 O O) O (Do (Eg m) [] O .sct ø (fun hc=>G5 O O) O (Do (Eg m) [16] O .sct ⟨Ua,ø⟩ (fun hc=>G83 O O) O (Do (.dptr ((Ge.cs m).drop 15)) [17] O .sct ⟨Ua,ø⟩ (fun hc=>Ga G93 O O O) O (Do (DM Ks I64 m.open_) [18] O .sct ⟨Ua,ø⟩ (fun hc=>Gg G7a O O O) O (Do (I64 b) [] O .sct ø (fun hc=>G5 O O) O (Do (I64 d) [19,20] O .sct ⟨Ua,Ua,ø⟩ (fun hc=>((M8 (H2 hc k)) ▸ Jd2 (av:=I64) (m:=m.open_) (a:=b) 0 E0 (fun _=>O) O .data O J92 Gf8 H46 O)) O (Do (BL (decide (0 < d))) [21] O .sct ⟨Ua,ø⟩ (fun hc=>Gd1 O O O) O (Do (Eg m) [] O .sct ø (fun hc=>G5 O O) O (Do (Eg m) [23] O .sct ⟨Ua,ø⟩ (fun hc=>G83 O O) O (Do (Eg m) [24] O .sct ⟨Ua,ø⟩ (fun hc=>Ga Yw O O O) O ?_)))))))))))))
 refine Do (Eg m) [25] O .sct ⟨Ua,ø⟩ (fun hc=>Ga Jc O O O) O (Do (E3 m.ship.Columns) [26] O .sct ⟨Ua,ø⟩ (fun hc=>Gg Jv O O O) O (Do (.dptr [I64 x.G3,I64 x.Tier,U8 x.Half]) [] O .sct ø (fun hc=>Ga Jb O O O) O (Do (I64 x.G3) [28] O .sct ⟨Ua,ø⟩ (fun hc=>Gg Gb O O O) O (Do (Ej c) [27,29] O .sct ⟨Ua,Ua,ø⟩ (fun hc=>(match Gc4 (H2 hc l) with | ⟨_,hm_,hy_⟩=>Hb (f:=G3.av) (xs:=m.ship.Columns) (y:=c) O O O Hz hy_ hm_)) O (Do (.dptr ((G3.cs c).drop 2)) [30] O .sct ⟨Ua,ø⟩ (fun hc=>Ga Yu O O O) O (Do (BL c.Deck) [31] O .sct ⟨Ua,ø⟩ (fun hc=>Gg Qe O O O) O (Do (BL ((decide (0 < d))==c.Deck)) [22,32] O .sct ⟨Ua,Ua,ø⟩ (fun hc=>Q0f H85 O O O) O (Dq (BL ((decide (0≤b))&&((decide (0 < d))==c.Deck))) (Ri O O O O) O (Dq (BL ((decide (0≤b))&&((decide (0 < d))==c.Deck))) (G7 O O) O (Dnil ?_))))))))))
 refine j (Gs (fin1 BL h))

def R3 (b:Box):Option Int:=
 bif b.High then
 (some 2896)
 else
 (some 2591)
theorem Hac (b:Box) (r:Int) (h:R3 b=some r):Pure En 126 [.agg (Box.cs b)] (·=I64 r):=by
 unfold R3 at h
 refine Gz [.tmp 2] Tryz.func126 O O (Jr fun a=>(JLh (.ptr 1200 0) (Q6 (cs:=(Box.cs b)) 1200 O O O O O) O (JLm (I64 0) O (G6 (a (Gr [(1,Ei b)] [] 1200 rfl rfl rfl ø rfl (by exact⟨.ptr,ø⟩) (Js fun c=>Jr fun d=>(JLh (.dptr ((Box.cs b).drop 3)) (Ga H8e O O O) O (JLh (BL b.High) (Gg Qe O O O) O (G6 (d (JCc O h (fun h hb=>?_) (fun h hb=>?_)))))))))))))
 ·
  refine Jr fun e=>(JLm (I64 2896) O (G6 (e (Gs (fin1 I64 h)))))
 ·
  refine Gk (c (Jr fun f=>(JLm (I64 2591) O (G6 (f (Gs (fin1 I64 h)))))))

def Gba (m:Ge) (x:Slot) (b:Box) (half:Int) (Rp:Int→Prop):Option Prop:=
 jp (fun e=>
  bif ((decide (x.Half=0))||(decide (x.Half=half))) then
  (bnd (R3 b) fun h=>
   e h)
  else
  (e 0)) fun(i:Int)=>
 J32 (fun(a:Slot×Box) (c:Int) d=>
  bif ((decide (a.1.G3=x.G3))&&((decide (a.1.Half=0))||(decide (a.1.Half=half)))) then
  (bnd (R3 a.2) fun f=>
   chk (c+f) fun g=>
   d g)
  else
  (d c))
 (fun(c:Int)=>
  some (Rp c)) (Gw.Hd m.on) i
theorem Q37 (m:Ge) (x:Slot) (b:Box) (half:Int) (Rp:Int→Prop) (p:Prop) (h:Gba m x b half Rp=some p) (hp:p):Pure En 90 [.dptr (Ge.cs m),.agg [I64 x.G3,I64 x.Tier,U8 x.Half],.agg (Box.cs b),U8 half] (fun av=>∃ r,Rp r∧av=I64 r):=by
 unfold Gba at h
 refine Gz [.tmp 8] Tryz.func90 O O (Jr fun a9=>(JLh (.ptr 1156 0) (Q6 (cs:=[I64 x.G3,I64 x.Tier,U8 x.Half]) 1156 O O O O O) O (JLh (.ptr 1157 0) (Q6 (cs:=(Box.cs b)) 1157 O O O O O) O (JLm (I64 0) O (G6 (a9 (fzQ [(0,Eg m),(3,U8 half),(5,.dptr [I64 x.G3,I64 x.Tier,U8 x.Half]),(6,.ptr 1157 0)] [(1157,.box 103 (Box.cs b))] 1156 rfl rfl rfl ⟨⟨_,rfl,.boxEq rfl rfl⟩,ø⟩ rfl ?_)))))))
 refine fzQ [(0,Eg m),(3,U8 half),(5,.dptr [I64 x.G3,I64 x.Tier,U8 x.Half]),(6,Ei b)] [] 1157 rfl rfl rfl ø rfl (Jr fun b0=>(JLm (.fn 126 []) O (G6 (b0 (Jr fun b1=>(JLm (I64 0) O (G6 (b1 ?_))))))))
 obtain⟨b2,z,h⟩:=Rc h
 refine Qk (fun k:Int=>b2 k=some p) (fun k=>[(0,Eg m),(3,U8 half),(5,.dptr [I64 x.G3,I64 x.Tier,U8 x.Half]),(9,.fn 126 []),(10,I64 k)]) (fun k=>[]) (fun Kj4 ej4=>?_) ?_
 ·
  refine Jr fun b3=>(JLh (.dptr [U8 x.Half]) (Ga Qy O O O) O (JLh (U8 x.Half) (Gg Hy O O O) O (JLh (BL (decide (x.Half=0))) (Qg O O O) O (JLm (BL (decide (x.Half=0))) O (JLo (.dptr [U8 x.Half]) [] O .scf ø (fun hc=>Ga Qy O O O) O (JLo (U8 x.Half) [17] O .scf ⟨Ua,ø⟩ (fun hc=>Gg Hy O O O) O (JLo (U8 half) [] O .scf ø (fun hc=>G5 O O) O (JLo (BL (decide (x.Half=half))) [18,19] O .scf ⟨Ua,Ua,ø⟩ (fun hc=>Qg O O O) O (JLh (BL ((decide (x.Half=0))||(decide (x.Half=half)))) (G82 O O O O) O (G6 (b3 (JCc O h (fun h hb=>?_) (fun h hb=>?_)))))))))))))
  ·
   refine G2 (JLm (.fn 126 []) O (JLh (.agg (Box.cs b)) (Gm Ra O O O) O ?_))
   obtain⟨t,b4,h⟩:=Gd h
   refine JLh (I64 t) (G29 (args:=[.agg (Box.cs b)]) (caps:=[]) O O (Hac b t b4) Q46 ⟨O,O,ø⟩ O) O (JLm (I64 t) O (G6 (ej4 _ _ t h ⟨(.sm O O),ø,rfl⟩)))
  ·
   refine Gk (ej4 _ _ 0 h ⟨(.sm O O),ø,rfl⟩)
 ·intro k h
  replace h:=app1 z h
  refine Js fun b5=>Jr fun b6=>(JLm (Eg m) O (JLh (Eg m) (G83 O O) O (JLh (.dptr ((Ge.cs m).drop 13)) (Ga Yv O O O) O (JLh (DM Slot.kv Box.av m.on) (Gg Z2 O O O) O (JLh (.it 1160) (Hb4 1160 (kv:=Slot.kv) (av:=Box.av) (m:=m.on) O O .data O G91) O (G6 (b6 (Gq ?_))))))))
  obtain⟨b7,a0,a1,v,h⟩:=H60 h
  refine J71 (m.on.l.length) (fun d (c:Int)=>Ge3 b7 a0 (Gw.l m.on) d c) (fun d c=>[(3,U8 half),(5,.dptr [I64 x.G3,I64 x.Tier,U8 x.Half]),(9,.fn 126 []),(10,I64 c),(29,.it 1160)]) (fun d c=>[(1160,.iter (DM Slot.kv Box.av m.on) m.on.l.length d)]) k (Ge3.start h hp) ⟨(.sm O O),⟨⟨_,rfl,.iter rfl⟩,ø⟩,rfl⟩ ?_
  clear h hp
  intro d c n c0 w
  refine Jr fun o=>Rn O O O (J2d (kv:=Slot.kv) (av:=Box.av) (m:=m.on) (fun _=>O) O O O .data) ?_
  intro u_ L_ hn_
  rcases hn_ with ⟨g,a,f,j,rfl,rfl⟩ | ⟨a2,rfl,rfl⟩
  ·
   obtain⟨c1,h,b8,i⟩:=n.step f j
   replace h:=Jc7 a1 h
   refine JLh (BL true) (Gv O O O) O (G6 (o (Js fun a3=>J72 O (Gk (a3 (Gq ?_))))))
   refine Jr fun a4=>(JLh (.tup [.agg (Slot.cs a.1),.agg (Box.cs a.2)]) (Jd4 (kv:=Slot.kv) (av:=Box.av) (m:=m.on) (q:=g) (seen:=d) (e:=a) (fun _=>O) O O O .data f) O (JLh (.agg (Slot.cs a.1)) (Gv O O O) O (JLh (.agg (Box.cs a.2)) (Gv O O O) O (JLh (.ptr 1158 0) (Hj 1158 3 Rr O O) O (JLh (.ptr 1159 0) (Hj 1159 9 R0 O O) O (Hq (u:=.junk) (H7 (u:=.agg (Slot.cs a.1)) (ds:=[I64 a.1.G3,I64 a.1.Tier,U8 a.1.Half]) Yq O O O O O O O O) (Hq (u:=.junk) (H7 (u:=.agg (Box.cs a.2)) (ds:=(Box.cs a.2)) Rs O O O O O O O O) (G6 (a4 ?_)))))))))
   refine fzQ [(3,U8 half),(5,.dptr [I64 x.G3,I64 x.Tier,U8 x.Half]),(9,.fn 126 []),(10,I64 c),(11,Ek a.1),(12,.ptr 1159 0),(29,.it 1160)] [(1160,.iter (DM Slot.kv Box.av m.on) m.on.l.length (d++[g])),(1159,.box 103 (Box.cs a.2))] 1158 rfl rfl rfl ⟨⟨_,rfl,.iter rfl⟩,⟨_,rfl,.boxEq rfl rfl⟩,ø⟩ rfl ?_
   refine fzQ [(3,U8 half),(5,.dptr [I64 x.G3,I64 x.Tier,U8 x.Half]),(9,.fn 126 []),(10,I64 c),(11,Ek a.1),(12,Ei a.2),(29,.it 1160)] [(1160,.iter (DM Slot.kv Box.av m.on) m.on.l.length (d++[g]))] 1159 rfl rfl rfl ⟨⟨_,rfl,.iter rfl⟩,ø⟩ rfl ?_
   refine Jr fun a5=>(JLh (Ek a.1) (Ga Jb O O O) O (JLh (I64 a.1.G3) (Gg Gb O O O) O (JLh (.dptr [I64 x.G3,I64 x.Tier,U8 x.Half]) (Ga Jb O O O) O (JLh (I64 x.G3) (Gg Gb O O O) O (JLh (BL (decide (a.1.G3=x.G3))) (Qg O O O) O (JLm (BL (decide (a.1.G3=x.G3))) O (JLo (.dptr [U8 a.1.Half]) [] O .sct ø (fun hc=>Ga Qy O O O) O (JLo (U8 a.1.Half) [41] O .sct ⟨Ua,ø⟩ (fun hc=>Gg Hy O O O) O (JLo (BL (decide (a.1.Half=0))) [42] O .sct ⟨Ua,ø⟩ (fun hc=>Qg O O O) O (JLo (BL (decide (a.1.Half=0))) [43] O .sct ⟨Ua,ø⟩ (fun hc=>G5 O O) O (JLo (.dptr [U8 a.1.Half]) [] O .optf ø (fun hc=>Ga Qy O O O) O (JLo (U8 a.1.Half) [45] O .optf ⟨Ua,ø⟩ (fun hc=>Gg Hy O O O) O (JLo (U8 half) [] O .optf ø (fun hc=>G5 O O) O ?_)))))))))))))
   refine JLo (BL (decide (a.1.Half=half))) [46,47] O .optf ⟨Ua,Ua,ø⟩ (fun hc=>Qg O O O) O (Gi (u:=BL ((decide (a.1.Half=0))||(decide (a.1.Half=half)))) [(44,BL (decide (a.1.Half=0))),(48,_)] O O O .sct ⟨.all id,.part,ø⟩ (fun hc=>G82 O O O O) ?_)
   refine JLh (BL ((decide (a.1.G3=x.G3))&&((decide (a.1.Half=0))||(decide (a.1.Half=half))))) (Ri O O O O) O (G6 (a5 (JCc O h (fun h hb=>?_) (fun h hb=>?_))))
   ·
    refine G2 (JLm (I64 c) O (JLm (.fn 126 []) O (JLh (.agg (Box.cs a.2)) (Gm Ra O O O) O ?_)))
    obtain⟨y,a6,h⟩:=Gd h
    refine JLh (I64 y) (G29 (args:=[.agg (Box.cs a.2)]) (caps:=[]) O O (Hac a.2 y a6) Q46 ⟨O,O,ø⟩ O) O ?_
    obtain⟨s,a7,h⟩:=Ht h
    refine JLh (I64 s) (J3 a7 O O O) O (JLm (I64 s) O (G6 (w _ _ (d++[g]) s (i _ (M8 h).symm) (Gbd (M6 f).1 j) ⟨(.sm O O),⟨⟨_,rfl,.iter rfl⟩,ø⟩,rfl⟩)))
   ·
    refine Gk (w _ _ (d++[g]) c (i _ (M8 h).symm) (Gbd (M6 f).1 j) ⟨(.sm O O),⟨⟨_,rfl,.iter rfl⟩,ø⟩,rfl⟩)
  ·
   obtain⟨p_,h,hp⟩:=n.done a2
   replace h:=app1 v h
   refine JLh (BL false) (Gv O O O) O (G6 (o (Js fun b9=>G3b O (Hr (b5 (Jr fun a8=>(JLm (I64 c) O (JLm (I64 c) O (G6 (a8 (Gs (⟨[I64 c],[],ø,O,⟨⟨_,O,.conv (.same O)⟩,ø⟩,O,c,Eq.mpr (M8 h) hp,O⟩))))))))))))
theorem Q38 (S_:(Ge)→(Slot)→(Box)→(Int)→Option Int) (hS_:∀ m x b half r,S_ m x b half=some r→∃ p:Prop,Gba m x b half (fun r_=>r_=r)=some p∧p) (m:Ge) (x:Slot) (b:Box) (half:Int) (r:Int) (h:S_ m x b half=some r):Pure En 90 [.dptr (Ge.cs m),.agg [I64 x.G3,I64 x.Tier,U8 x.Half],.agg (Box.cs b),U8 half] (·=I64 r):=by
 obtain⟨p,a,c⟩:=hS_ m x b half r h
 exact(Q37 m x b half _ p a c).monoP (fun av hh=>by obtain⟨r_,rfl,ha⟩:=hh; exact ha)

def Zt (m:Ge):Option Int:=
 some m.lifts
theorem Ga2 (m:Ge) (r:Int) (h:Zt m=some r):Pure En 16 [.dptr (Ge.cs m)] (·=I64 r):=by
 unfold Zt at h
 refine Gz [.tmp 2] Tryz.func16 O O (Jr fun a=>(JLm (I64 0) O (G6 (a (Js fun c=>Jr fun d=>(JLm (Eg m) O (JLh (BL true) (Gu O (Rz m true O) G7c ⟨O,O,ø⟩) O (JLh (BL false) (Yc (b:=true) O O) O (G6 (d (G3b O (Gk (c (Jr fun e=>(JLm (Eg m) O (JLh (Eg m) (G83 O O) O (JLh (.dptr [I64 m.lifts]) (Ga Gd5 O O O) O (JLh (I64 m.lifts) (Gg Gb O O O) O (JLm (I64 m.lifts) O (G6 (e (Gs (fin1 I64 h)))))))))))))))))))))))

def Jfc (l:List J6):Option Int:=
 each (fun a e (c:Unit) b=>
  bnd (a.val) fun d=>
  bif (!d) then
  (some a.bad)
  else
  (b ()))
 (fun(c:Unit)=>
  some 0) l 0 ()
theorem R03 (l:List J6) (r:Int) (h:Jfc l=some r):Pure En 76 [LS 2 J6.av l] (·=I64 r):=by
 unfold Jfc at h
 refine Gz [.tmp 2] Tryz.func76 O O (Jr fun a3=>(JLm (I64 0) O (G6 (a3 (Js fun a4=>Jr fun a5=>(JLm (LS 2 J6.av l) O (JLl H08 O O O fun a6=>(JLm (I64 0) O (G6 (a5 (Gq ?_)))))))))))
 obtain⟨a7,n,o,m,h⟩:=Je h
 refine Hm (fun e (g:Unit)=>each a7 n (List.drop e l) e g=some r) (fun e g=>[(5,LS 2 J6.av l),(6,Em l.length),(7,Em e)]) (fun e g=>[]) (fun e=>l.length - e) 0 () h ⟨(.sm O O),ø,O⟩ ?_
 clear h
 intro e g j b0 a8
 refine Jr fun p=>(JLh (BL (decide ((e:Int) < (l.length:Int)))) (Jn O O O) O (G6 (p (Js fun q=>Gp O (fun hb=>?_) (fun hb=>?_)))))
 ·
  have k:=Jz hb
  obtain⟨a,a9,s,t,h⟩:=Hv j k
  replace h:=Zm o h
  refine Gk (q (Js fun v=>Gq (Jr fun x=>(JLh (.dptr [.fn a.f a.c,I64 a.bad]) (Hb (f:=J6.av) (xs:=l) (y:=a) O O O H08 s O) O (JLh (.agg [.fn a.f a.c,I64 a.bad]) (Gm Qbb O O O) O (JLh (.ptr 1149 0) (Hj 1149 2 H7a O O) O (Hq (u:=.junk) (H7 (u:=.agg [.fn a.f a.c,I64 a.bad]) (ds:=[.fn a.f a.c,I64 a.bad]) Q3f O O O O O O O O) (G6 (x (fzQ [(4,.dptr [.fn a.f a.c,I64 a.bad]),(5,LS 2 J6.av l),(6,Em l.length),(7,Em e)] [] 1149 rfl (by simp [Qb,AV.refs,a.d]) rfl ø rfl ?_))))))))))
  refine Jr fun z=>(JLh (.dptr [.fn a.f a.c,I64 a.bad]) (Ga Q9a O O O) O (JLh (.fn a.f a.c) (Gg R65 O O O) O ?_))
  obtain⟨i,a0,h⟩:=Gd h
  refine JLh (BL i) (G29 (args:=[]) (caps:=a.c) O O (a.w i a0) a.B ø a.d) O (JLh (BL (!i)) (Yc (b:=i) O O) O (G6 (z (JCc O h (fun h hb=>?_) (fun h hb=>?_)))))
  ·
   refine Jr fun a1=>(JLh (.dptr [I64 a.bad]) (Ga Q99 O O O) O (JLh (I64 a.bad) (Gg J0a O O O) O (JLm (I64 a.bad) O (G6 (a1 (Gs (fin1 I64 h)))))))
  ·
   refine Gk (v (G2 (JLh (I64 ((e+1:Nat):Int)) (J3 (Hp k a6) O O O) O (JLm (I64 ((e+1:Nat):Int)) O (G6 (a8 _ _ (e+1) () (app1 t h) (by omega) ⟨(.sm O O),ø,rfl⟩))))))
 ·
  have h:=app1 m (Hw j (Hf hb))
  refine Hr (a4 (Jr fun a2=>(JLm (I64 0) O (G6 (a2 (Gs (fin1 I64 h)))))))

def Z8 (a:Bool):Option Bool:=
 some a
theorem Gc6 (a:Bool) (r:Bool) (h:Z8 a=some r):Pure En 123 [.dptr [BL a]] (·=BL r):=by
 unfold Z8 at h
 refine Gz [.tmp 1] Tryz.func123 O O (Jr fun b=>(JLm (BL false) O (G6 (b (Jr fun c=>(JLh (BL a) (Gg Qe O O O) O (JLm (BL a) O (G6 (c (Gs (fin1 BL h)))))))))))

def H65 (holds:Bool) (bad:Int):Option Unit:=
 some ()
theorem H40 (holds:Bool) (bad:Int) (r:Unit) (h:H65 holds bad=some r):Pure En 77 [BL holds,I64 bad] (·=.agg [.fn 123 [.dptr [BL holds]],I64 bad]):=by
 unfold H65 at h
 refine Gz [.cell 4 151] Tryz.func77 O O (Jr fun a=>(JLh (.ptr 1150 0) (Q6 (cs:=[BL holds]) 1150 O O O O O) O (JLh (.ptr 1151 0) (G10 1151 [.sc .nilFunc,I64 0] [.nilFunc,E0] G2b (zzQ O) O O) O (G6 (a (Gr [(1,I64 bad),(2,.dptr [BL holds]),(4,.ptr 1151 0)] [(1151,.box 151 [.sc .nilFunc,I64 0])] 1150 rfl rfl rfl ⟨⟨_,rfl,.boxEq rfl rfl⟩,ø⟩ rfl (by exact⟨.conv (.same rfl),.ptr,.conv (.same rfl),ø⟩) ?_))))))
 refine Jr fun b=>(JLh (.fn 123 [.dptr [BL holds]]) (Q4 (cs:=[.dptr [BL holds]]) O O) O (JLm (I64 bad) O (JLh (.agg [.fn 123 [.dptr [BL holds]],I64 bad]) (Hi (cs:=[.fn 123 [.dptr [BL holds]],I64 bad]) [(0,1),(1,1)] [.sc .nilFunc,I64 0] [.nilFunc,E0] G04 G2b (zzQ O) O O) O (Hq (u:=.junk) (H7 (u:=.agg [.fn 123 [.dptr [BL holds]],I64 bad]) (ds:=[.fn 123 [.dptr [BL holds]],I64 bad]) Q3f O O O O O O O O) (G6 (b (Gs (⟨[.agg [.fn 123 [.dptr [BL holds]],I64 bad]],[],ø,O,⟨⟨_,⟨_,_,_,_,O,O,O,.inl ⟨Qbb,O⟩⟩,.conv (.same O)⟩,ø⟩,O,congrArg (fun _:Unit=>(.agg [.fn 123 [.dptr [BL holds]],I64 bad]:AV)) (M8 h)⟩))))))))

def G0d (s:List Int) (v:Int):Option Int:=
 each (fun b c (d:Unit) a=>
  bif decide (v=b) then
  (some (c:Int))
  else
  (a ()))
 (fun(d:Unit)=>
  some (-1)) s 0 ()
theorem J29 (s:List Int) (v:Int) (r:Int) (h:G0d s v=some r):Pure En 143 [Eb s,U8 v] (·=I64 r):=by
 unfold G0d at h
 refine Gz [.tmp 4] Tryz.func143 O O (Jr fun w=>(JLm (I64 0) O (G6 (w (Js fun x=>Jr fun z=>(JLm (Eb s) O (JLl Gbe O O O fun a0=>(JLm (I64 0) O (G6 (z (Gq ?_)))))))))))
 obtain⟨a1,i,j,g,h⟩:=Je h
 refine Hm (fun a (b:Unit)=>each a1 i (List.drop a s) a b=some r) (fun a b=>[(0,Eb s),(1,U8 v),(7,Em s.length),(8,Em a)]) (fun a b=>[]) (fun a=>s.length - a) 0 () h ⟨(.sm O O),ø,rfl⟩ ?_
 clear h
 intro a b d a4 a2
 refine Jr fun k=>(JLh (BL (decide ((a:Int) < (s.length:Int)))) (Jn O O O) O (G6 (k (Js fun l=>Gp O (fun hb=>?_) (fun hb=>?_)))))
 ·
  have e:=Jz hb
  obtain⟨c,a3,m,n,h⟩:=Hv d e
  replace h:=Zm j h
  refine Gk (l (Js fun o=>Gq (Jr fun p=>(JLm (Em a) O (JLm (Em a) O (G6 (p (Jr fun q=>(JLm (U8 v) O (JLm (Eb s) O (JLm (Em a) O (JLh (.dptr [U8 c]) (Hb (f:=U8) (xs:=s) (y:=c) O O O Gbe m O) O (JLh (U8 c) (Gg Hy O O O) O (JLh (BL (decide (v=c))) (Qg O O O) O (G6 (q (JCc O h (fun h hb=>?_) (fun h hb=>?_))))))))))))))))))
  ·
   refine Jr fun t=>(JLm (Em a) O (JLm (Em a) O (G6 (t (Gs (fin1 I64 h))))))
  ·
   refine Gk (o (G2 (JLh (I64 ((a+1:Nat):Int)) (J3 (Hp e a0) O O O) O (JLm (I64 ((a+1:Nat):Int)) O (G6 (a2 _ _ (a+1) () (app1 n h) (by omega) ⟨(.sm O O),ø,rfl⟩))))))
 ·
  have h:=app1 g (Hw d (Hf hb))
  refine Hr (x (Jr fun u=>(JLm (I64 (-1)) O (G6 (u (Gs (fin1 I64 h)))))))

def Ze (s:List Int) (v:Int):Option Bool:=
 bnd (G0d s v) fun a=>
 some (decide (0≤a))
theorem Hb9 (s:List Int) (v:Int) (r:Bool) (h:Ze s v=some r):Pure En 112 [Eb s,U8 v] (·=BL r):=by
 unfold Ze at h
 refine Gz [.tmp 4] Tryz.func112 O O (Jr fun b=>(JLm (BL false) O (G6 (b (Jr fun c=>(JLm (Eb s) O (JLm (U8 v) O ?_)))))))
 obtain⟨a,d,h⟩:=Gd h
 refine JLh (I64 a) (Gu O (J29 s v a d) Rab ⟨O,O,O,O,ø⟩) O (JLh (BL (decide (0≤a))) (H2c O O O) O (JLm (BL (decide (0≤a))) O (G6 (c (Gs (fin1 BL h))))))

def G7f (s:Gj) (x:Slot) (size:Int):Option Bool:=
 bnd (bif (((decide (0≤x.G3))&&(decide (x.G3 < (s.Columns.length:Int))))&&(decide (0≤x.Tier))) then Qm s.Columns x.G3 some else some default) fun a=>
 bnd (bif ((((decide (0≤x.G3))&&(decide (x.G3 < (s.Columns.length:Int))))&&(decide (0≤x.Tier)))&&(decide (x.Tier < a.Tiers))) then G5d size else some default) fun b=>
 bnd (bif ((((decide (0≤x.G3))&&(decide (x.G3 < (s.Columns.length:Int))))&&(decide (0≤x.Tier)))&&(decide (x.Tier < a.Tiers))) then Ze b x.Half else some default) fun c=>
 some (((((decide (0≤x.G3))&&(decide (x.G3 < (s.Columns.length:Int))))&&(decide (0≤x.Tier)))&&(decide (x.Tier < a.Tiers)))&&c)
theorem J6b (s:Gj) (x:Slot) (size:Int) (r:Bool) (h:G7f s x size=some r):Pure En 63 [.agg (Gj.cs s),.agg [I64 x.G3,I64 x.Tier,U8 x.Half],U8 size] (·=BL r):=by
 unfold G7f at h
 refine Gz [.tmp 6] Tryz.func63 O O (Jr fun d=>(JLh (.ptr 1129 0) (Q6 (cs:=(Gj.cs s)) 1129 O O O O O) O (JLh (.ptr 1130 0) (Q6 (cs:=[I64 x.G3,I64 x.Tier,U8 x.Half]) 1130 O O O O O) O (JLm (BL false) O (G6 (d (Gr [(2,U8 size),(3,Ee s),(4,.ptr 1130 0)] [(1130,.box 57 [I64 x.G3,I64 x.Tier,U8 x.Half])] 1129 rfl rfl rfl ⟨⟨_,rfl,.boxEq rfl rfl⟩,ø⟩ rfl (by exact⟨.conv (.same rfl),.ptr,.conv (.same rfl),ø⟩) ?_)))))))
 refine Gr [(2,U8 size),(3,Ee s),(4,.dptr [I64 x.G3,I64 x.Tier,U8 x.Half])] [] 1130 rfl rfl rfl ø rfl (by exact⟨.conv (.same rfl),.conv (.same rfl),.ptr,ø⟩) (Js fun e=>?_)
 obtain⟨a,g,h⟩:=Gd h
 obtain⟨b,i,h⟩:=Gd h
 obtain⟨c,j,h⟩:=Gd h
 refine JC_d0 J1 (by kernel_rfl) (Dq (.dptr [I64 x.G3,I64 x.Tier,U8 x.Half]) (Ga Jb O O O) O (Dq (I64 x.G3) (Gg Gb O O O) O (Dq (BL (decide (0≤x.G3))) (H2c O O O) O (Dq (BL (decide (0≤x.G3))) (G5 O O) O (Do (.dptr [I64 x.G3,I64 x.Tier,U8 x.Half]) [] O .sct ø (fun hc=>Ga Jb O O O) O (Do (I64 x.G3) [11] O .sct ⟨Ua,ø⟩ (fun hc=>Gg Gb O O O) O (Do (Ee s) [] O .sct ø (fun hc=>Ga Jc O O O) O (Do (E3 s.Columns) [13] O .sct ⟨Ua,ø⟩ (fun hc=>Gg Jv O O O) O (Do (Em s.Columns.length) [14] O .sct ⟨Ua,ø⟩ (fun hc=>Gf6 (f:=G3.av) (xs:=s.Columns) Hz O O) O (Do (BL (decide (x.G3 < (s.Columns.length:Int)))) [12,15] O .sct ⟨Ua,Ua,ø⟩ (fun hc=>Jn O O O) O (Dq (BL ((decide (0≤x.G3))&&(decide (x.G3 < (s.Columns.length:Int))))) (Ri O O O O) O (Dq (BL ((decide (0≤x.G3))&&(decide (x.G3 < (s.Columns.length:Int))))) (G5 O O) O (Do (.dptr [I64 x.Tier,U8 x.Half]) [] O .sct ø (fun hc=>Ga Qz O O O) O ?_)))))))))))))
 refine Do (I64 x.Tier) [19] O .sct ⟨Ua,ø⟩ (fun hc=>Gg Gb O O O) O (Do (BL (decide (0≤x.Tier))) [20] O .sct ⟨Ua,ø⟩ (fun hc=>H2c O O O) O (Dq (BL (((decide (0≤x.G3))&&(decide (x.G3 < (s.Columns.length:Int))))&&(decide (0≤x.Tier)))) (Ri O O O O) O (Dq (BL (((decide (0≤x.G3))&&(decide (x.G3 < (s.Columns.length:Int))))&&(decide (0≤x.Tier)))) (G5 O O) O (Do (.dptr [I64 x.Tier,U8 x.Half]) [] O .sct ø (fun hc=>Ga Qz O O O) O (Do (I64 x.Tier) [24] O .sct ⟨Ua,ø⟩ (fun hc=>Gg Gb O O O) O (Do (Ee s) [] O .sct ø (fun hc=>Ga Jc O O O) O (Do (E3 s.Columns) [26] O .sct ⟨Ua,ø⟩ (fun hc=>Gg Jv O O O) O (Do (.dptr [I64 x.G3,I64 x.Tier,U8 x.Half]) [] O .sct ø (fun hc=>Ga Jb O O O) O (Do (I64 x.G3) [28] O .sct ⟨Ua,ø⟩ (fun hc=>Gg Gb O O O) O (Do (Ej a) [27,29] O .sct ⟨Ua,Ua,ø⟩ (fun hc=>(match Gc4 (H2 hc g) with | ⟨_,hm_,hy_⟩=>Hb (f:=G3.av) (xs:=s.Columns) (y:=a) O O O Hz hy_ hm_)) O (Do (.dptr ((G3.cs a).drop 3)) [30] O .sct ⟨Ua,ø⟩ (fun hc=>Ga H47 O O O) O (Do (I64 a.Tiers) [31] O .sct ⟨Ua,ø⟩ (fun hc=>Gg Gb O O O) O (Do (BL (decide (x.Tier < a.Tiers))) [25,32] O .sct ⟨Ua,Ua,ø⟩ (fun hc=>Jn O O O) O ?_)))))))))))))
 refine Dq (BL ((((decide (0≤x.G3))&&(decide (x.G3 < (s.Columns.length:Int))))&&(decide (0≤x.Tier)))&&(decide (x.Tier < a.Tiers)))) (Ri O O O O) O (Dq (BL ((((decide (0≤x.G3))&&(decide (x.G3 < (s.Columns.length:Int))))&&(decide (0≤x.Tier)))&&(decide (x.Tier < a.Tiers)))) (G5 O O) O (Do (U8 size) [] O .sct ø (fun hc=>G5 O O) O (Do (Eb b) [36] O .sct ⟨Ua,ø⟩ (fun hc=>Gu (args:=[U8 size]) O (J36 size b (H2 hc i)) Q49 ⟨O,O,ø⟩) O (Do (.dptr [U8 x.Half]) [] O .sct ø (fun hc=>Ga Qy O O O) O (Do (U8 x.Half) [38] O .sct ⟨Ua,ø⟩ (fun hc=>Gg Hy O O O) O (Do (BL c) [37,39] O .sct ⟨Ua,Ua,ø⟩ (fun hc=>Gu (args:=[Eb b,U8 x.Half]) O (Hb9 b x.Half c (H2 hc j)) Rb8 ⟨O,O,O,O,ø⟩) O (Dq (BL (((((decide (0≤x.G3))&&(decide (x.G3 < (s.Columns.length:Int))))&&(decide (0≤x.Tier)))&&(decide (x.Tier < a.Tiers)))&&c)) (Ri O O O O) O (Dq (BL (((((decide (0≤x.G3))&&(decide (x.G3 < (s.Columns.length:Int))))&&(decide (0≤x.Tier)))&&(decide (x.Tier < a.Tiers)))&&c)) (G7 O O) O (Dnil ?_)))))))))
 refine e (Gs (fin1 BL h))

def Yn (s:List Slot) (v:Slot):Option Int:=
 each (fun b c (d:Unit) a=>
  bif decide (v=b) then
  (some (c:Int))
  else
  (a ()))
 (fun(d:Unit)=>
  some (-1)) s 0 ()
theorem He3 (s:List Slot) (v:Slot) (r:Int) (h:Yn s v=some r):Pure En 144 [Ea s,.agg [I64 v.G3,I64 v.Tier,U8 v.Half]] (·=I64 r):=by
 unfold Yn at h
 refine Gz [.tmp 4] Tryz.func144 O O (Jr fun w=>(JLh (.ptr 1207 0) (Q6 (cs:=[I64 v.G3,I64 v.Tier,U8 v.Half]) 1207 O O O O O) O (JLm (I64 0) O (G6 (w (Gr [(0,Ea s),(3,.dptr [I64 v.G3,I64 v.Tier,U8 v.Half])] [] 1207 rfl rfl rfl ø rfl (by exact⟨.conv (.same rfl),.ptr,ø⟩) (Js fun x=>Jr fun z=>(JLm (Ea s) O (JLl Yi O O O fun a0=>(JLm (I64 0) O (G6 (z (Gq ?_)))))))))))))
 obtain⟨a1,i,j,g,h⟩:=Je h
 refine Hm (fun a (c:Unit)=>each a1 i (List.drop a s) a c=some r) (fun a c=>[(0,Ea s),(3,.dptr [I64 v.G3,I64 v.Tier,U8 v.Half]),(7,Em s.length),(8,Em a)]) (fun a c=>[]) (fun a=>s.length - a) 0 () h ⟨(.sm O O),ø,rfl⟩ ?_
 clear h
 intro a c d a4 a2
 refine Jr fun k=>(JLh (BL (decide ((a:Int) < (s.length:Int)))) (Jn O O O) O (G6 (k (Js fun l=>Gp O (fun hb=>?_) (fun hb=>?_)))))
 ·
  have e:=Jz hb
  obtain⟨b,a3,m,n,h⟩:=Hv d e
  replace h:=Zm j h
  refine Gk (l (Js fun o=>Gq (Jr fun p=>(JLm (Em a) O (JLm (Em a) O (G6 (p (Js fun q=>JC_d0 J1 (by kernel_rfl) (Dq (.agg [I64 v.G3,I64 v.Tier,U8 v.Half]) (Gm J4 O O O) O (Dq (Ea s) (G5 O O) O (Dq (Em a) (G5 O O) O (Dq (Ek b) (Hb (f:=Slot.av) (xs:=s) (y:=b) O O O Yi m O) O (Dq (.agg (Slot.cs b)) (Gm J4 O O O) O (Dq (BL (decide (v=b))) (Yad (vs:=[.int .i64 v.G3,.int .i64 v.Tier,.int .u8 v.Half]) (us:=[.int .i64 b.G3,.int .i64 b.Tier,.int .u8 b.Half]) 4 O (Y7d v b) J4f Q12 O O O) O (Dnil (q (JCc O h (fun h hb=>?_) (fun h hb=>?_))))))))))))))))))
  ·
   refine Jr fun t=>(JLm (Em a) O (JLm (Em a) O (G6 (t (Gs (fin1 I64 h))))))
  ·
   refine Gk (o (G2 (JLh (I64 ((a+1:Nat):Int)) (J3 (Hp e a0) O O O) O (JLm (I64 ((a+1:Nat):Int)) O (G6 (a2 _ _ (a+1) () (app1 n h) (by omega) ⟨(.sm O O),ø,rfl⟩))))))
 ·
  have h:=app1 g (Hw d (Hf hb))
  refine Hr (x (Jr fun u=>(JLm (I64 (-1)) O (G6 (u (Gs (fin1 I64 h)))))))

def Qf (s:List Slot) (v:Slot):Option Bool:=
 bnd (Yn s v) fun a=>
 some (decide (0≤a))
theorem H82 (s:List Slot) (v:Slot) (r:Bool) (h:Qf s v=some r):Pure En 115 [Ea s,.agg [I64 v.G3,I64 v.Tier,U8 v.Half]] (·=BL r):=by
 unfold Qf at h
 refine Gz [.tmp 4] Tryz.func115 O O (Jr fun b=>(JLh (.ptr 1186 0) (Q6 (cs:=[I64 v.G3,I64 v.Tier,U8 v.Half]) 1186 O O O O O) O (JLm (BL false) O (G6 (b (Gr [(0,Ea s),(3,.dptr [I64 v.G3,I64 v.Tier,U8 v.Half])] [] 1186 rfl rfl rfl ø rfl (by exact⟨.conv (.same rfl),.ptr,ø⟩) (Jr fun c=>(JLm (Ea s) O (JLh (.agg [I64 v.G3,I64 v.Tier,U8 v.Half]) (Gm J4 O O O) O ?_)))))))))
 obtain⟨a,d,h⟩:=Gd h
 refine JLh (I64 a) (Gu O (He3 s v a d) Raa ⟨O,O,O,O,ø⟩) O (JLh (BL (decide (0≤a))) (H2c O O O) O (JLm (BL (decide (0≤a))) O (G6 (c (Gs (fin1 BL h))))))

def Zn (half:Int) (b:List Slot) (a:Slot):Option Bool:=
 chk (a.Tier - 1) fun c=>
 bnd (Qf b (Slot.mk a.G3 c half)) fun d=>
 some d
theorem H73 (half:Int) (b:List Slot) (a:Slot) (r:Bool) (h:Zn half b a=some r):Pure En 114 [U8 half,.dptr [Ea b],.dptr [I64 a.G3,I64 a.Tier,U8 a.Half]] (·=BL r):=by
 unfold Zn at h
 refine Gz [.tmp 4] Tryz.func114 O O (Jr fun e=>(JLm (BL false) O (G6 (e (Jr fun f=>(JLh (Ea b) (Gg Gd4 O O O) O (JLh (.dptr [I64 a.G3,I64 a.Tier,U8 a.Half]) (Ga Jb O O O) O (JLh (I64 a.G3) (Gg Gb O O O) O (JLh (.dptr [I64 a.Tier,U8 a.Half]) (Ga Qz O O O) O (JLh (I64 a.Tier) (Gg Gb O O O) O ?_))))))))))
 obtain⟨c,g,h⟩:=Ht h
 refine JLh (I64 c) (G62 g O O O) O (JLm (U8 half) O (JLh (.agg [I64 a.G3,I64 c,U8 half]) (Hi (cs:=[I64 a.G3,I64 c,U8 half]) [(0,1),(1,1),(2,1)] [I64 0,I64 0,U8 0] [E0,E0,.int .u8 0] H0b Ge8 (zzQ O) O O) O ?_))
 obtain⟨d,i,h⟩:=Gd h
 refine JLh (BL d) (Gu O (H82 b (Slot.mk a.G3 c half) d i) Rb7 ⟨O,O,O,O,ø⟩) O (JLm (BL d) O (G6 (f (Gs (fin1 BL h)))))

def G4c (x:Slot) (l:List Slot):Option Bool:=
 bif decide (x.Tier≤0) then
 (some true)
 else
 (bnd (Zn x.Half l x) fun a=>
  bnd (bif ((!a)&&(decide (x.Half=0))) then Zn 1 l x else some default) fun b=>
  bnd (bif ((!a)&&((decide (x.Half=0))&&b)) then Zn 2 l x else some default) fun c=>
  some (a||(((decide (x.Half=0))&&b)&&c)))
abbrev Er (l:List Slot) (x:Slot):List AV:=[.dptr [Ea l],.dptr [I64 x.G3,I64 x.Tier,U8 x.Half]]
theorem Ja7 (x:Slot) (l:List Slot) (r:Bool) (h:G4c x l=some r):Pure En 64 [.agg [I64 x.G3,I64 x.Tier,U8 x.Half],Ea l] (·=BL r):=by
 unfold G4c at h
 refine Gz [.tmp 4] Tryz.func64 O O (Jr fun d=>(JLh (.ptr 1131 0) (Q6 (cs:=[I64 x.G3,I64 x.Tier,U8 x.Half]) 1131 O O O O O) O (JLh (.ptr 1132 0) (Q6 (cs:=[Ea l]) 1132 O O O O O) O (JLm (BL false) O (G6 (d (Gr [(2,.dptr [I64 x.G3,I64 x.Tier,U8 x.Half]),(3,.ptr 1132 0)] [(1132,.box 133 [Ea l])] 1131 rfl rfl rfl ⟨⟨_,rfl,.boxEq rfl rfl⟩,ø⟩ rfl (by exact⟨.ptr,.conv (.same rfl),ø⟩) (Gr [(2,.dptr [I64 x.G3,I64 x.Tier,U8 x.Half]),(3,.dptr [Ea l])] [] 1132 rfl rfl rfl ø rfl (by exact⟨.conv (.same rfl),.ptr,ø⟩) (Js fun e=>Jr fun f=>(JLh (.dptr [I64 x.Tier,U8 x.Half]) (Ga Qz O O O) O (JLh (I64 x.Tier) (Gg Gb O O O) O (JLh (BL (decide (x.Tier≤0))) (Hd6 O O O) O (G6 (f ?_))))))))))))))
 refine JCc O h ?_ ?_<;>intro h hb
 ·
  refine Jr fun g=>(JLm (BL true) O (G6 (g (Gs (fin1 BL h)))))
 ·
  refine Gk (e (Jr fun i=>(JLh (.fn 114 (Er l x)) (Q4 (cs:=(Er l x)) O O) O (JLm (.fn 114 (Er l x)) O (G6 (i (Jr fun j=>(JLm (.fn 114 (Er l x)) O (JLh (.dptr [U8 x.Half]) (Ga Qy O O O) O (JLh (U8 x.Half) (Gg Hy O O O) O ?_))))))))))
  obtain⟨b,k,h⟩:=Gd h
  refine JLh (BL b) (G29 (args:=[U8 x.Half]) (caps:=(Er l x)) O O (H73 x.Half l x b k) J4e ⟨O,O,ø⟩ O) O (JLm (BL b) O (JLo (.dptr [U8 x.Half]) [] O .scf ø (fun hc=>Ga Qy O O O) O (JLo (U8 x.Half) [15] O .scf ⟨Ua,ø⟩ (fun hc=>Gg Hy O O O) O (JLo (BL (decide (x.Half=0))) [16] O .scf ⟨Ua,ø⟩ (fun hc=>Qg O O O) O (JLo (BL (decide (x.Half=0))) [17] O .scf ⟨Ua,ø⟩ (fun hc=>G5 O O) O (JLo (.fn 114 (Er l x)) [] O .optt ø (fun hc=>G5 O O) O ?_))))))
  obtain⟨a,m,h⟩:=Gd h
  refine JLo (BL a) [19] O .optt ⟨Ua,ø⟩ (fun hc=>G29 (args:=[U8 1]) (caps:=(Er l x)) O O (H73 1 l x a (H2 hc m)) J4e ⟨O,O,ø⟩ O) O (Gi (u:=BL ((decide (x.Half=0))&&a)) [(18,BL (decide (x.Half=0))),(20,_)] O O O .scf ⟨.all id,.part,ø⟩ (fun hc=>Ri O O O O) ?_)
  refine JLo (BL ((decide (x.Half=0))&&a)) [21] O .scf ⟨Ua,ø⟩ (fun hc=>G5 O O) O (JLo (.fn 114 (Er l x)) [] O .optt ø (fun hc=>G5 O O) O ?_)
  obtain⟨c,n,h⟩:=Gd h
  refine JLo (BL c) [23] O .optt ⟨Ua,ø⟩ (fun hc=>G29 (args:=[U8 2]) (caps:=(Er l x)) O O (H73 2 l x c (H2 hc n)) J4e ⟨O,O,ø⟩ O) O (Gi (u:=BL (((decide (x.Half=0))&&a)&&c)) [(22,BL ((decide (x.Half=0))&&a)),(24,_)] O O O .scf ⟨.all id,.part,ø⟩ (fun hc=>Ri O O O O) ?_)
  refine JLh (BL (b||(((decide (x.Half=0))&&a)&&c))) (G82 O O O O) O (JLm (BL (b||(((decide (x.Half=0))&&a)&&c))) O (G6 (j (Gs (fin1 BL h)))))

def G97 (a:Int) (b:Int):Option Bool:=
 some (((decide (a=b))||(decide (a=0)))||(decide (b=0)))
theorem J35 (a:Int) (b:Int) (r:Bool) (h:G97 a b=some r):Pure En 116 [U8 a,U8 b] (·=BL r):=by
 unfold G97 at h
 refine Gz [.tmp 4] Tryz.func116 O O (Jr fun c=>(JLm (BL false) O (G6 (c (Jr fun d=>(JLm (U8 a) O (JLm (U8 b) O (JLh (BL (decide (a=b))) (Qg O O O) O (JLm (BL (decide (a=b))) O (JLo (U8 a) [] O .scf ø (fun hc=>G5 O O) O (JLo (BL (decide (a=0))) [9] O .scf ⟨Ua,ø⟩ (fun hc=>Qg O O O) O (JLh (BL ((decide (a=b))||(decide (a=0)))) (G82 O O O O) O (JLm (BL ((decide (a=b))||(decide (a=0)))) O (JLo (U8 b) [] O .scf ø (fun hc=>G5 O O) O (JLo (BL (decide (b=0))) [13] O .scf ⟨Ua,ø⟩ (fun hc=>Qg O O O) O (JLh (BL (((decide (a=b))||(decide (a=0)))||(decide (b=0)))) (G82 O O O O) O (JLm (BL (((decide (a=b))||(decide (a=0)))||(decide (b=0)))) O (G6 (d (Gs (fin1 BL h)))))))))))))))))))))

def H02 (a:Slot) (b:Slot):Option Bool:=
 bnd (bif ((decide (a.G3=b.G3))&&(decide (a.Tier=b.Tier))) then G97 a.Half b.Half else some default) fun c=>
 some (((decide (a.G3=b.G3))&&(decide (a.Tier=b.Tier)))&&c)
theorem Ja6 (a:Slot) (b:Slot) (r:Bool) (h:H02 a b=some r):Pure En 65 [.agg [I64 a.G3,I64 a.Tier,U8 a.Half],.agg [I64 b.G3,I64 b.Tier,U8 b.Half]] (·=BL r):=by
 unfold H02 at h
 refine Gz [.tmp 4] Tryz.func65 O O (Jr fun d=>(JLh (.ptr 1133 0) (Q6 (cs:=[I64 a.G3,I64 a.Tier,U8 a.Half]) 1133 O O O O O) O (JLh (.ptr 1134 0) (Q6 (cs:=[I64 b.G3,I64 b.Tier,U8 b.Half]) 1134 O O O O O) O (JLm (BL false) O (G6 (d (Gr [(2,.dptr [I64 a.G3,I64 a.Tier,U8 a.Half]),(3,.ptr 1134 0)] [(1134,.box 57 [I64 b.G3,I64 b.Tier,U8 b.Half])] 1133 rfl rfl rfl ⟨⟨_,rfl,.boxEq rfl rfl⟩,ø⟩ rfl (by exact⟨.ptr,.conv (.same rfl),ø⟩) (Gr [(2,.dptr [I64 a.G3,I64 a.Tier,U8 a.Half]),(3,.dptr [I64 b.G3,I64 b.Tier,U8 b.Half])] [] 1134 rfl rfl rfl ø rfl (by exact⟨.conv (.same rfl),.ptr,ø⟩) ?_))))))))
 refine Jr fun e=>(JLh (.dptr [I64 a.G3,I64 a.Tier,U8 a.Half]) (Ga Jb O O O) O (JLh (I64 a.G3) (Gg Gb O O O) O (JLh (.dptr [I64 b.G3,I64 b.Tier,U8 b.Half]) (Ga Jb O O O) O (JLh (I64 b.G3) (Gg Gb O O O) O (JLh (BL (decide (a.G3=b.G3))) (Qg O O O) O (JLm (BL (decide (a.G3=b.G3))) O (JLo (.dptr [I64 a.Tier,U8 a.Half]) [] O .sct ø (fun hc=>Ga Qz O O O) O (JLo (I64 a.Tier) [11] O .sct ⟨Ua,ø⟩ (fun hc=>Gg Gb O O O) O (JLo (.dptr [I64 b.Tier,U8 b.Half]) [] O .sct ø (fun hc=>Ga Qz O O O) O (JLo (I64 b.Tier) [13] O .sct ⟨Ua,ø⟩ (fun hc=>Gg Gb O O O) O (JLo (BL (decide (a.Tier=b.Tier))) [12,14] O .sct ⟨Ua,Ua,ø⟩ (fun hc=>Qg O O O) O (JLh (BL ((decide (a.G3=b.G3))&&(decide (a.Tier=b.Tier)))) (Ri O O O O) O (JLm (BL ((decide (a.G3=b.G3))&&(decide (a.Tier=b.Tier)))) O ?_)))))))))))))
 refine JLo (.dptr [U8 a.Half]) [] O .sct ø (fun hc=>Ga Qy O O O) O (JLo (U8 a.Half) [18] O .sct ⟨Ua,ø⟩ (fun hc=>Gg Hy O O O) O (JLo (.dptr [U8 b.Half]) [] O .sct ø (fun hc=>Ga Qy O O O) O (JLo (U8 b.Half) [20] O .sct ⟨Ua,ø⟩ (fun hc=>Gg Hy O O O) O ?_)))
 obtain⟨c,f,h⟩:=Gd h
 refine JLo (BL c) [19,21] O .sct ⟨Ua,Ua,ø⟩ (fun hc=>Gu (args:=[U8 a.Half,U8 b.Half]) O (J35 a.Half b.Half c (H2 hc f)) Q48 ⟨O,O,O,O,ø⟩) O (JLh (BL (((decide (a.G3=b.G3))&&(decide (a.Tier=b.Tier)))&&c)) (Ri O O O O) O (JLm (BL (((decide (a.G3=b.G3))&&(decide (a.Tier=b.Tier)))&&c)) O (G6 (e (Gs (fin1 BL h))))))

def H01 (a:Slot) (b:Slot):Option Bool:=
 bnd (bif ((decide (a.G3=b.G3))&&(decide (b.Tier < a.Tier))) then G97 a.Half b.Half else some default) fun c=>
 some (((decide (a.G3=b.G3))&&(decide (b.Tier < a.Tier)))&&c)
theorem Ja5 (a:Slot) (b:Slot) (r:Bool) (h:H01 a b=some r):Pure En 71 [.agg [I64 a.G3,I64 a.Tier,U8 a.Half],.agg [I64 b.G3,I64 b.Tier,U8 b.Half]] (·=BL r):=by
 unfold H01 at h
 refine Gz [.tmp 4] Tryz.func71 O O (Jr fun d=>(JLh (.ptr 1144 0) (Q6 (cs:=[I64 a.G3,I64 a.Tier,U8 a.Half]) 1144 O O O O O) O (JLh (.ptr 1145 0) (Q6 (cs:=[I64 b.G3,I64 b.Tier,U8 b.Half]) 1145 O O O O O) O (JLm (BL false) O (G6 (d (Gr [(2,.dptr [I64 a.G3,I64 a.Tier,U8 a.Half]),(3,.ptr 1145 0)] [(1145,.box 57 [I64 b.G3,I64 b.Tier,U8 b.Half])] 1144 rfl rfl rfl ⟨⟨_,rfl,.boxEq rfl rfl⟩,ø⟩ rfl (by exact⟨.ptr,.conv (.same rfl),ø⟩) (Gr [(2,.dptr [I64 a.G3,I64 a.Tier,U8 a.Half]),(3,.dptr [I64 b.G3,I64 b.Tier,U8 b.Half])] [] 1145 rfl rfl rfl ø rfl (by exact⟨.conv (.same rfl),.ptr,ø⟩) ?_))))))))
 refine Jr fun e=>(JLh (.dptr [I64 a.G3,I64 a.Tier,U8 a.Half]) (Ga Jb O O O) O (JLh (I64 a.G3) (Gg Gb O O O) O (JLh (.dptr [I64 b.G3,I64 b.Tier,U8 b.Half]) (Ga Jb O O O) O (JLh (I64 b.G3) (Gg Gb O O O) O (JLh (BL (decide (a.G3=b.G3))) (Qg O O O) O (JLm (BL (decide (a.G3=b.G3))) O (JLo (.dptr [I64 a.Tier,U8 a.Half]) [] O .sct ø (fun hc=>Ga Qz O O O) O (JLo (I64 a.Tier) [11] O .sct ⟨Ua,ø⟩ (fun hc=>Gg Gb O O O) O (JLo (.dptr [I64 b.Tier,U8 b.Half]) [] O .sct ø (fun hc=>Ga Qz O O O) O (JLo (I64 b.Tier) [13] O .sct ⟨Ua,ø⟩ (fun hc=>Gg Gb O O O) O (JLo (BL (decide (b.Tier < a.Tier))) [12,14] O .sct ⟨Ua,Ua,ø⟩ (fun hc=>Gd1 O O O) O (JLh (BL ((decide (a.G3=b.G3))&&(decide (b.Tier < a.Tier)))) (Ri O O O O) O (JLm (BL ((decide (a.G3=b.G3))&&(decide (b.Tier < a.Tier)))) O ?_)))))))))))))
 refine JLo (.dptr [U8 a.Half]) [] O .sct ø (fun hc=>Ga Qy O O O) O (JLo (U8 a.Half) [18] O .sct ⟨Ua,ø⟩ (fun hc=>Gg Hy O O O) O (JLo (.dptr [U8 b.Half]) [] O .sct ø (fun hc=>Ga Qy O O O) O (JLo (U8 b.Half) [20] O .sct ⟨Ua,ø⟩ (fun hc=>Gg Hy O O O) O ?_)))
 obtain⟨c,f,h⟩:=Gd h
 refine JLo (BL c) [19,21] O .sct ⟨Ua,Ua,ø⟩ (fun hc=>Gu (args:=[U8 a.Half,U8 b.Half]) O (J35 a.Half b.Half c (H2 hc f)) Q48 ⟨O,O,O,O,ø⟩) O (JLh (BL (((decide (a.G3=b.G3))&&(decide (b.Tier < a.Tier)))&&c)) (Ri O O O O) O (JLm (BL (((decide (a.G3=b.G3))&&(decide (b.Tier < a.Tier)))&&c)) O (G6 (e (Gs (fin1 BL h))))))
end
end Go.Proofs.YtgcpimpnpcdmmaaGreat
