/- Walks of functions. -/
import Derived.Test.YtgcpimpnpcdmmaaGreatXC
set_option maxRecDepth 100000
set_option maxHeartbeats 1000000
set_option linter.unusedVariables false
set_option linter.unusedSimpArgs false
namespace Go.Proofs.YtgcpimpnpcdmmaaGreat
open Go.RowKit
noncomputable section
structure Box where
 ID:Int
 Number:ByteArray
 Size:Int
 High:Bool
 Kilos:Int
 Load:Int
 Discharge:Int
 Class:Int
 Reefer:Bool
 deriving DecidableEq,Inhabited
def Box.cs (x:Box):List AV:=[I64 x.ID,ST x.Number,U8 x.Size,BL x.High,I64 x.Kilos,I64 x.Load,I64 x.Discharge,U8 x.Class,BL x.Reefer]
def Box.av (x:Box):AV:=.agg x.cs
abbrev Ei (x:Box):AV:=.dptr (Box.cs x)
abbrev E7:=LS 9 Box.av
def Slot.ks (x:Slot):List Value:=[.int .i64 x.G3,.int .i64 x.Tier,.int .u8 x.Half]
def Slot.kv (x:Slot):Value:=.agg x.ks.toArray
structure Gc where
 ship:Gi
 on:Gv Slot Box
 quay:Gv Int Box
 open_:Gv Int Int
 lifts:Int
 deriving Inhabited
def Gc.cs (x:Gc):List AV:=[E3 x.ship.Columns,E8 x.ship.Covers,I64 x.ship.Light.Kilos,I64 x.ship.Light.X,I64 x.ship.Light.Y,I64 x.ship.Light.Z,E4 x.ship.Rows,E5 x.ship.Frames,E6 x.ship.Tanks,I64 x.ship.G8.Tolerance,I64 x.ship.G8.Trim,I64 x.ship.G8.List_,I64 x.ship.G8.Stability,DM Slot.kv Box.av x.on,DM Ks Box.av x.quay,DM Ks I64 x.open_,I64 x.lifts]
def Gc.av (x:Gc):AV:=.agg x.cs
abbrev Eg (x:Gc):AV:=.dptr (Gc.cs x)
structure J3 where
 f:FuncId
 c:List AV
 val:Option Bool
 bad:Int
 B:H0 En f=true
 d:Q9 (fun _=>false) c=true
 w:∀ q,val=some q→Pure En f ([]++c) (·=BL q)
def J3.cs (x:J3):List AV:=[.fn x.f x.c,I64 x.bad]
def J3.av (x:J3):AV:=.agg x.cs
def H43:List (Option Bool×Int)→Option Int
 | []=>some 0
 | (v,b)::r=>v.bind fun q=>bif q then H43 r else some b
namespace XSF
open XAF
open XCF
theorem Y6e (a b:Slot):Jb2 En 4 57 [.int .i64 a.G3,.int .i64 a.Tier,.int .u8 a.Half] [.int .i64 b.G3,.int .i64 b.Tier,.int .u8 b.Half]=some (decide (a=b)):=by
 refine(show _=some ((a.G3==b.G3)&&((a.Tier==b.Tier)&&((a.Half==b.Half)&&true))) by kernel_rfl).trans (congrArg some ?_)
 rw [Bool.eq_iff_iff]
 simp only [Mj,beq_iff_eq,Mk,Bool.and_true]
 constructor
 ·intro h; obtain⟨_,_,_⟩:=a; obtain⟨_,_,_⟩:=b; simp_all
 ·intro h; subst h; simp
theorem R4:H35 En 103 9=true:=by kernel_rfl
theorem Qb0:H35 En 151 2=true:=by kernel_rfl
theorem Jd:H35 En 36 13=true:=by kernel_rfl
theorem J2:H35 En 57 3=true:=by kernel_rfl
theorem J3e:G51 En 57=true:=by kernel_rfl
theorem H7b:Q60 En 4=true:=by kernel_rfl
theorem Rb1:H0 En 110=true:=by kernel_rfl
theorem Rb0:H0 En 111=true:=by kernel_rfl
theorem Raf:H0 En 112=true:=by kernel_rfl
theorem J3d:H0 En 114=true:=by kernel_rfl
theorem Rae:H0 En 115=true:=by kernel_rfl
theorem Q39:H0 En 116=true:=by kernel_rfl
theorem Rac:H0 En 119=true:=by kernel_rfl
theorem Rab:H0 En 120=true:=by kernel_rfl
theorem Raa:H0 En 121=true:=by kernel_rfl
theorem Q37:H0 En 126=true:=by kernel_rfl
theorem Ra2:H0 En 143=true:=by kernel_rfl
theorem Ra1:H0 En 144=true:=by kernel_rfl
theorem R9f:H0 En 146=true:=by kernel_rfl
theorem R9e:H0 En 147=true:=by kernel_rfl
theorem G70:H0 En 40=true:=by kernel_rfl
theorem Ja1:H0 En 62=true:=by kernel_rfl
theorem H83:H0 En 70=true:=by kernel_rfl
theorem Q03:En.eqGuardType En.depth 57=false:=by kernel_rfl
theorem Qp:Ju En 103 0 0=true:=by kernel_rfl
theorem G28:Ju En 103 2 2=true:=by kernel_rfl
theorem H82:Ju En 103 3 3=true:=by kernel_rfl
theorem Q8c:Ju En 151 0 0=true:=by kernel_rfl
theorem Q8b:Ju En 151 1 1=true:=by kernel_rfl
theorem J7:Ju En 57 0 0=true:=by kernel_rfl
theorem Qv:Ju En 57 1 1=true:=by kernel_rfl
theorem Qu:Ju En 57 2 2=true:=by kernel_rfl
theorem Ym:Ju En 94 0 0=true:=by kernel_rfl
theorem Yk:Ju En 94 1 13=true:=by kernel_rfl
theorem G88:Ju En 94 3 15=true:=by kernel_rfl
theorem Gcf:Ju En 94 4 16=true:=by kernel_rfl
theorem Y06:Y80 En 90=true:=by kernel_rfl
theorem G86:Zb En 90 57 103=true:=by kernel_rfl
theorem Gf2:Zb En 92 3 3=true:=by kernel_rfl
theorem G85:placesOf En 103=some [(0,1),(1,1),(2,1),(3,1),(4,1),(5,1),(6,1),(7,1),(8,1)]:=by kernel_rfl
theorem Zv:placesOf En 151=some [(0,1),(1,1)]:=by kernel_rfl
theorem R1c:Yb2 En 52=true:=by kernel_rfl
theorem Gce:R5 En 133=true:=by kernel_rfl
theorem R5b:R5 En 25=true:=by kernel_rfl
theorem Hf9:R5 En 46=true:=by kernel_rfl
theorem Yr:R5 En 90=true:=by kernel_rfl
theorem G6e:R5 En 92=true:=by kernel_rfl
theorem Rh:Y7 En 103 9=true:=by kernel_rfl
theorem Q30:Y7 En 151 2=true:=by kernel_rfl
theorem Yd:Y7 En 57 3=true:=by kernel_rfl
theorem Y9:sliceB En 133 57 3=true:=by kernel_rfl
theorem H04:sliceB En 188 151 2=true:=by kernel_rfl
theorem Y1:sliceB En 37 103 9=true:=by kernel_rfl
theorem G63:(En.info? 103).bind (fun i=>i.zero.map Value.cells)=some (List.toArray [E0,.string ByteArray.empty,.int .u8 0,.bool false,E0,E0,E0,.int .u8 0,.bool false]):=by kernel_rfl
theorem G1f:(En.info? 151).bind (fun i=>i.zero.map Value.cells)=some (List.toArray [.nilFunc,E0]):=by kernel_rfl
theorem Qx:R1 En 103 9=true:=by kernel_rfl
theorem H70:R1 En 151 2=true:=by kernel_rfl
theorem Y0:R1 En 3 1=true:=by kernel_rfl
theorem Rg:R1 En 57 3=true:=by kernel_rfl
theorem J7c:Gef En 3 Ks:=Gef.of_int (by kernel_rfl)
theorem R90:Gef En 57 Slot.kv:=Gef.of_eq Slot.ks (by kernel_rfl) (fun a b h=>by simp only [Slot.ks,List.cons.injEq,Value.int.injEq,Value.bool.injEq,Value.string.injEq,true_and,and_true] at h; obtain⟨_,_,_⟩:=a; obtain⟨_,_,_⟩:=b; simp_all) 4 (by decide) (fun a b=>Y6e a b) (fun a=>by kernel_rfl) (fun a=>by simp [Instr.sameBits,Slot.ks])
end XSF
open XAF
open XCF
open XSF

def Gd8 (b:Box) (a:Int):Option Bool:=
 some (decide (b.ID=a))
theorem Q68 (b:Box) (a:Int) (r:Bool) (h:Gd8 b a=some r):Pure En 111 [.agg (Box.cs b),.dptr [I64 a]] (·=BL r):=by
 unfold Gd8 at h
 refine Gx [.tmp 3] Tryz.func111 O O (Jr fun c=>(JLh (.ptr 1181 0) (Q4 (cs:=(Box.cs b)) 1181 O O O O O) O (JLm (BL false) O (G5 (c (Gn [(1,.dptr [I64 a]),(2,Ei b)] [] 1181 rfl rfl rfl ø rfl (by exact⟨.conv (.same rfl),.ptr,ø⟩) (Jr fun d=>(JLh (Ei b) (Ga Qp O O O) O (JLh (I64 b.ID) (Gg Gb O O O) O (JLh (I64 a) (Gg Gb O O O) O (JLh (BL (decide (b.ID=a))) (Qk O O O) O (JLm (BL (decide (b.ID=a))) O (G5 (d (Gs (fin1 BL h))))))))))))))))

def Zq (s:List Box) (f:Box→Option Bool):Option Int:=
 each (fun b c (d:Unit) a=>
  bnd (f b) fun e=>
  bif e then
  (some (c:Int))
  else
  (a ()))
 (fun(d:Unit)=>
  some (-1)) s 0 ()
theorem H77 (s:List Box) (f:Box→Option Bool) (f_f:FuncId) (f_c:List AV) (f_B:H0 En f_f=true) (f_d:Q9 (fun _=>false) f_c=true) (f_w:∀ a0 q,f a0=some q→Pure En f_f ([.agg (Box.cs a0)]++f_c) (·=BL q)) (r:Int) (h:Zq s f=some r):Pure En 110 [E7 s,.fn f_f f_c] (·=I64 r):=by
 unfold Zq at h
 refine Gx [.tmp 4] Tryz.func110 O O (Jr fun x=>(JLm (I64 0) O (G5 (x (Js fun z=>Jr fun a1=>(JLm (E7 s) O (JLl Y1 O O O fun a2=>(JLm (I64 0) O (G5 (a1 (Gq ?_)))))))))))
 obtain⟨a3,i,j,g,h⟩:=Jc h
 refine Hn (fun a (c:Unit)=>each a3 i (List.drop a s) a c=some r) (fun a c=>[(0,E7 s),(1,.fn f_f f_c),(7,Em s.length),(8,Em a)]) (fun a c=>[]) (fun a=>s.length - a) 0 () h ⟨⟨.same O,.same (Hi _ _ f_d),.same O,.same O,ø⟩,ø,O⟩ ?_
 clear h
 intro a c d a7 a4
 refine Jr fun k=>(JLh (BL (decide ((a:Int) < (s.length:Int)))) (Jo O O O) O (G5 (k (Js fun l=>Gr O (fun hb=>?_) (fun hb=>?_)))))
 ·
  have e:=Q1 hb
  obtain⟨b,a6,m,n,h⟩:=Ht d e
  replace h:=Zn j h
  refine Gm (l (Js fun o=>Gq (Jr fun p=>(JLm (Em a) O (JLm (Em a) O (G5 (p (Jr fun t=>(JLm (.fn f_f f_c) O (JLm (E7 s) O (JLm (Em a) O (JLh (Ei b) (Hb (f:=Box.av) (xs:=s) (y:=b) O O O Y1 m O) O (JLh (.agg (Box.cs b)) (Gk R4 O O O) O ?_)))))))))))))
  obtain⟨a5,u,h⟩:=Ge h
  refine JLh (BL a5) (G1b (args:=[.agg (Box.cs b)]) (caps:=f_c) O O (f_w b _ u) f_B ⟨O,O,ø⟩ f_d) O (G5 (t (JCc O h (fun h hb=>?_) (fun h hb=>?_))))
  ·
   refine Jr fun v=>(JLm (Em a) O (JLm (Em a) O (G5 (v (Gs (fin1 I64 h))))))
  ·
   refine Gm (o (G2 (JLh (I64 ((a+1:Nat):Int)) (Ja (Hp e a2) O O O) O (JLm (I64 ((a+1:Nat):Int)) O (G5 (a4 _ _ (a+1) () (app1 n h) (by omega) ⟨⟨.same rfl,.same (Hi _ _ f_d),.same rfl,.same rfl,ø⟩,ø,rfl⟩))))))
 ·
  have h:=app1 g (Hu d (Hh hb))
  refine Hr (z (Jr fun w=>(JLm (I64 (-1)) O (G5 (w (Gs (fin1 I64 h)))))))

def Ga2 (boxes:List Box) (id_:Int):Option (Box×Bool):=
 bnd (Zq boxes (fun z0=>Gd8 z0 id_)) fun a=>
 bif decide (a < 0) then
 (some ((Box.mk 0 ByteArray.empty 0 false 0 0 0 0 false),false))
 else
 (Qw boxes a fun b=>
  some (b,true))
theorem Hd3 (boxes:List Box) (id_:Int) (r:Box×Bool) (h:Ga2 boxes id_=some r):Pure En 62 [E7 boxes,I64 id_] (·=.tup [.agg (Box.cs r.1),BL r.2]):=by
 unfold Ga2 at h
 refine Gx [.cell 4 103,.tmp 5] Tryz.func62 O O (Jr fun c=>(JLh (.ptr 1123 0) (Q4 (cs:=[I64 id_]) 1123 O O O O O) O (JLh (.ptr 1124 0) (G06 1124 [I64 0,ST M0,U8 0,BL false,I64 0,I64 0,I64 0,U8 0,BL false] [E0,.string ByteArray.empty,.int .u8 0,.bool false,E0,E0,E0,.int .u8 0,.bool false] G63 (zzQ O) O O) O (JLm (BL false) O (G5 (c (Gn [(0,E7 boxes),(3,.dptr [I64 id_]),(4,.ptr 1124 0)] [(1124,.box 103 [I64 0,ST M0,U8 0,BL false,I64 0,I64 0,I64 0,U8 0,BL false])] 1123 rfl rfl rfl ⟨⟨_,rfl,.boxEq rfl rfl⟩,ø⟩ rfl (by exact⟨.conv (.same rfl),.ptr,.conv (.same rfl),ø⟩) ?_)))))))
 refine Jr fun d=>(JLm (E7 boxes) O (JLh (.fn 111 [.dptr [I64 id_]]) (Q2 (cs:=[.dptr [I64 id_]]) O O) O ?_))
 obtain⟨a,e,h⟩:=Ge h
 refine JLh (I64 a) (Gu O (H77 boxes (fun z0=>Gd8 z0 id_) 111 [.dptr [I64 id_]] Rb0 O (fun z0 q hq=>Q68 z0 id_ q hq) a e) Rb1 ⟨O,O,O,O,ø⟩) O (JLm (I64 a) O (G5 (d (Js fun g=>Jr fun i=>(JLm (I64 a) O (JLh (BL (decide (a < 0))) (Jo O O O) O (G5 (i (JCc O h (fun h hb=>?_) (fun h hb=>?_))))))))))
 ·
  refine Jr fun j=>(JLh (.agg [I64 0,ST M0,U8 0,BL false,I64 0,I64 0,I64 0,U8 0,BL false]) (Hg (cs:=[I64 0,ST M0,U8 0,BL false,I64 0,I64 0,I64 0,U8 0,BL false]) [(0,1),(1,1),(2,1),(3,1),(4,1),(5,1),(6,1),(7,1),(8,1)] [I64 0,ST M0,U8 0,BL false,I64 0,I64 0,I64 0,U8 0,BL false] [E0,.string ByteArray.empty,.int .u8 0,.bool false,E0,E0,E0,.int .u8 0,.bool false] G85 G63 (zzQ O) O O) O (Ho (u:=.junk) (H7 (u:=.agg [I64 0,ST M0,U8 0,BL false,I64 0,I64 0,I64 0,U8 0,BL false]) (ds:=[I64 0,ST M0,U8 0,BL false,I64 0,I64 0,I64 0,U8 0,BL false]) Rh O O O O O O O O) (JLm (BL false) O (G5 (j ?_)))))
  refine Gs (⟨[.agg [I64 0,ST M0,U8 0,BL false,I64 0,I64 0,I64 0,U8 0,BL false],BL false],[],ø,O,⟨⟨_,⟨_,_,_,_,O,O,O,.inl ⟨R4,O⟩⟩,.conv (.same O)⟩,⟨_,O,.conv (.same O)⟩,ø⟩,O,congrArg (fun r:Box×Bool=>(.tup [.agg (Box.cs r.1),BL r.2]:AV)) (M7 h)⟩)
 ·
  refine Gm (g (Jr fun k=>(JLm (E7 boxes) O (JLm (I64 a) O ?_))))
  obtain⟨n,b,l,m,h⟩:=Yc h
  refine JLh (Ei b) (Hb (f:=Box.av) (xs:=boxes) (y:=b) O O O Y1 m l) O (JLh (.agg (Box.cs b)) (Gk R4 O O O) O (Ho (u:=.junk) (H7 (u:=.agg (Box.cs b)) (ds:=(Box.cs b)) Rh O O O O O O O O) (JLm (BL true) O (G5 (k (Gs (⟨[.agg (Box.cs b),BL true],[],ø,O,⟨⟨_,⟨_,_,_,_,O,O,O,.inl ⟨R4,O⟩⟩,.conv (.same O)⟩,⟨_,O,.conv (.same O)⟩,ø⟩,O,congrArg (fun r:Box×Bool=>(.tup [.agg (Box.cs r.1),BL r.2]:AV)) (M7 h)⟩)))))))

def Gee (boxes:List Box) (id_:Int):Option (Box×Bool):=
 bnd (Ga2 boxes id_) fun a=>
 some (a.1,(a.2&&((decide (a.1.Size=20))||(decide (a.1.Size=40)))))
theorem Jec (boxes:List Box) (id_:Int) (r:Box×Bool) (h:Gee boxes id_=some r):Pure En 36 [E7 boxes,I64 id_] (·=.tup [.agg (Box.cs r.1),BL r.2]):=by
 unfold Gee at h
 refine Gx [.cell 4 103,.tmp 5] Tryz.func36 O O (Jr fun b=>(JLh (.ptr 1069 0) (G06 1069 [I64 0,ST M0,U8 0,BL false,I64 0,I64 0,I64 0,U8 0,BL false] [E0,.string ByteArray.empty,.int .u8 0,.bool false,E0,E0,E0,.int .u8 0,.bool false] G63 (zzQ O) O O) O (JLm (BL false) O (G5 (b (Jr fun c=>(JLm (E7 boxes) O (JLm (I64 id_) O ?_))))))))
 obtain⟨a,d,h⟩:=Ge h
 refine JLh (.tup [.agg (Box.cs a.1),BL a.2]) (Gu O (Hd3 boxes id_ a d) Ja1 ⟨O,O,O,O,ø⟩) O (JLm (.tup [.agg (Box.cs a.1),BL a.2]) O (JLh (.agg (Box.cs a.1)) (Gz O O O) O (JLh (BL a.2) (Gz O O O) O (JLh (.ptr 1070 0) (Hk 1070 9 Qx O O) O (Ho (u:=.junk) (H7 (u:=.agg (Box.cs a.1)) (ds:=(Box.cs a.1)) Rh O O O O O O O O) (JLm (BL a.2) O (G5 (c (Gn [(4,.ptr 1069 0),(6,Ei a.1),(7,BL a.2)] [(1069,.box 103 [I64 0,ST M0,U8 0,BL false,I64 0,I64 0,I64 0,U8 0,BL false])] 1070 rfl rfl rfl ⟨⟨_,rfl,.boxEq rfl rfl⟩,ø⟩ rfl (by exact⟨.conv (.same rfl),.ptr,.conv (.same rfl),ø⟩) ?_)))))))))
 refine Js fun e=>Qs (l':=[(4,.ptr 1069 0),(6,Ei a.1),(7,BL a.2)]) (L':=[(1069,.box 103 [I64 0,ST M0,U8 0,BL false,I64 0,I64 0,I64 0,U8 0,BL false])]) ⟨(.sm O O),⟨fbQ O (.sm O O),ø⟩,rfl⟩ (Jq [12] [0,0,0,0,0,0,0,0,0,0,0,0,0,1] [0,0,0,0,0,0,0,1,1,1,1,1,0,1] [[(1069,.box 103 [I64 0,ST M0,U8 0,BL false,I64 0,I64 0,I64 0,U8 0,BL false])],((1069,.box 103 (Box.cs a.1))::[(1069,.box 103 [I64 0,ST M0,U8 0,BL false,I64 0,I64 0,I64 0,U8 0,BL false])])] J9 (by kernel_rfl) rfl rfl ?_)
 refine Gd (u:=.agg (Box.cs a.1)) O O ⟨Gh (Gk R4 O O O) O,ø⟩ (Gd (u:=BL a.2) O O ⟨Gh (G6 O O) O,ø⟩ (Gd (u:=BL a.2) O O ⟨Gh (G6 O O) O,ø⟩ (Gd (u:=.opt a.2 (.dptr ((Box.cs a.1).drop 2))) O O ⟨Ha [] O O O .sct ø (fun hc=>Ga G28 O O O) O,ø⟩ (Gd (u:=.opt a.2 (U8 a.1.Size)) O O ⟨Ha [(17,.dptr ((Box.cs a.1).drop 2))] O O O .sct ⟨.all id,ø⟩ (fun hc=>Gg Hx O O O) O,ø⟩ (Gd (u:=.opt a.2 (BL (decide (a.1.Size=20)))) O O ⟨Ha [(18,U8 a.1.Size)] O O O .sct ⟨.all id,ø⟩ (fun hc=>Qk O O O) O,ø⟩ (Gd (u:=.opt a.2 (BL (decide (a.1.Size=20)))) O O ⟨Ha [(19,BL (decide (a.1.Size=20)))] O O O .sct ⟨.all id,ø⟩ (fun hc=>G6 O O) O,ø⟩ (Gd (u:=.opt (a.2&&!(decide (a.1.Size=20))) (.dptr ((Box.cs a.1).drop 2))) O O ⟨Ha [] O O O .optf ø (fun hc=>Ga G28 O O O) O,Ha [] O O O .optf ø (fun hc=>Ga G28 O O O) O,ø⟩ (Gd (u:=.opt (a.2&&!(decide (a.1.Size=20))) (U8 a.1.Size)) O O ⟨Ha [(21,.dptr ((Box.cs a.1).drop 2))] O O O .optf ⟨.all id,ø⟩ (fun hc=>Gg Hx O O O) O,Ha [(21,.dptr ((Box.cs a.1).drop 2))] O O O .optf ⟨.all id,ø⟩ (fun hc=>Gg Hx O O O) O,ø⟩ (Gd (u:=.opt (a.2&&!(decide (a.1.Size=20))) (BL (decide (a.1.Size=40)))) O O ⟨Ha [(22,U8 a.1.Size)] O O O .optf ⟨.all id,ø⟩ (fun hc=>Qk O O O) O,Ha [(22,U8 a.1.Size)] O O O .optf ⟨.all id,ø⟩ (fun hc=>Qk O O O) O,ø⟩ (Gd (u:=.opt a.2 (BL ((decide (a.1.Size=20))||(decide (a.1.Size=40))))) O O ⟨Ha [(20,BL (decide (a.1.Size=20))),(23,_)] O O O .sct ⟨.all id,.part,ø⟩ (fun hc=>G94 O O O O) O,Ha [(20,BL (decide (a.1.Size=20))),(23,_)] O O O .sct ⟨.all id,.part,ø⟩ (fun hc=>G94 O O O O) O,ø⟩ (Gd (u:=BL (a.2&&((decide (a.1.Size=20))||(decide (a.1.Size=40))))) O O ⟨Gh (Y4 O O O O) O,Gh (Y4 O O O O) O,ø⟩ (H3a (u:=.junk) O O O O (Gh (H7 (u:=.agg (Box.cs a.1)) (ds:=(Box.cs a.1)) Rh O O O O O O O O) O) (Gd (u:=BL (a.2&&((decide (a.1.Size=20))||(decide (a.1.Size=40))))) O O ⟨Gh (G7 O O) O,ø⟩ (Rj ?_))))))))))))))
 refine e (Gs (⟨[.agg (Box.cs a.1),BL (a.2&&((decide (a.1.Size=20))||(decide (a.1.Size=40))))],[],ø,O,⟨⟨_,⟨_,_,_,_,O,O,O,.inl ⟨R4,O⟩⟩,.conv (.same O)⟩,⟨_,O,.conv (.same O)⟩,ø⟩,O,congrArg (fun r:Box×Bool=>(.tup [.agg (Box.cs r.1),BL r.2]:AV)) (M7 h)⟩))

def J24 (m:Gc):Option Bool:=
 some true
theorem Rs (m:Gc) (r:Bool) (h:J24 m=some r):Pure En 40 [.dptr (Gc.cs m)] (·=BL r):=by
 unfold J24 at h
 refine Gx [.tmp 2] Tryz.func40 O O (Jr fun a=>(JLm (BL false) O (G5 (a ?_))))
 refine Jr fun c=>(JLm (Eg m) O (JLh (BL true) (Z2d R1c O O) O (JLm (BL true) O (JLo (Eg m) [] O .sct ø (fun hc=>G6 O O) O (JLo (Eg m) [6] O .sct ⟨Ua,ø⟩ (fun hc=>G78 O O) O (JLo (.dptr [DM Slot.kv Box.av m.on,DM Ks Box.av m.quay,DM Ks I64 m.open_,I64 m.lifts]) [7] O .sct ⟨Ua,ø⟩ (fun hc=>Ga Yk O O O) O (JLo (DM Slot.kv Box.av m.on) [8] O .sct ⟨Ua,ø⟩ (fun hc=>Gg Yr O O O) O (JLo (BL true) [9] O .sct ⟨Ua,ø⟩ (fun hc=>Z2c Y06 O O) O (JLh (BL true) (Y4 (b:=true) (d:=true) O O O O) O (JLm (BL true) O (G5 (c ?_))))))))))))
 refine Gs (fin1 BL h)

def H47 (m:Gc) (is:Slot→Option Bool) (Rp:Bool→Prop):Option Prop:=
 J1f (fun(b:Slot×Box) (c:Unit) a=>
  bnd (is b.1) fun d=>
  bif d then
  (lft (some (Rp true)))
  else
  (a ()))
 (fun(c:Unit)=>
  some (Rp false)) (Gv.Hc m.on) ()
theorem Q6c (m:Gc) (is:Slot→Option Bool) (is_f:FuncId) (is_c:List AV) (is_B:H0 En is_f=true) (is_d:Q9 (fun _=>false) is_c=true) (is_w:∀ a0 q,is a0=some q→Pure En is_f ([.agg [I64 a0.G3,I64 a0.Tier,U8 a0.Half]]++is_c) (·=BL q)) (Rp:Bool→Prop) (p:Prop) (h:H47 m is Rp=some p) (hp:p):Pure En 74 [.dptr (Gc.cs m),.fn is_f is_c] (fun av=>∃ r,Rp r∧av=BL r):=by
 unfold H47 at h
 refine Gx [.tmp 4] Tryz.func74 O O (Jr fun a3=>(JLm (BL false) O (G5 (a3 (Js fun a4=>Jr fun a5=>(JLm (Eg m) O (JLh (Eg m) (G78 O O) O (JLh (.dptr ((Gc.cs m).drop 13)) (Ga Yk O O O) O (JLh (DM Slot.kv Box.av m.on) (Gg Yr O O O) O (JLh (.it 1143) (Ha3 1143 (kv:=Slot.kv) (av:=Box.av) (m:=m.on) O O .data O G86) O (G5 (a5 (Gq ?_)))))))))))))
 obtain⟨a6,s,t,o,h⟩:=H56 h
 refine J5a (m.on.l.length) (fun b (d:Unit)=>Gdd a6 s (Gv.l m.on) b d) (fun b d=>[(1,.fn is_f is_c),(10,.it 1143)]) (fun b d=>[(1143,.iter (DM Slot.kv Box.av m.on) m.on.l.length b)]) () (Gdd.start h hp) ⟨⟨.same (Hi _ _ is_d),.same O,ø⟩,⟨⟨_,O,.iter O⟩,ø⟩,O⟩ ?_
 clear h hp
 intro b d f b0 a7
 refine Jr fun g=>Yf O O O (J19 (kv:=Slot.kv) (av:=Box.av) (m:=m.on) (fun _=>O) O O O .data) ?_
 intro u_ L_ hn_
 rcases hn_ with ⟨i,a,c,j,rfl,rfl⟩ | ⟨v,rfl,rfl⟩
 ·
  obtain⟨b1,h,k,n⟩:=f.step c j
  replace h:=Jb4 t h
  refine JLh (BL true) (Gz O O O) O (G5 (g (Js fun w=>J5b O (Gm (w (Gq (Jr fun x=>(JLh (.tup [.agg (Slot.cs a.1),.agg (Box.cs a.2)]) (Jc1 (kv:=Slot.kv) (av:=Box.av) (m:=m.on) (q:=i) (seen:=b) (e:=a) (fun _=>O) O O O .data c) O (JLh (.agg (Slot.cs a.1)) (Gz O O O) O (JLh (.ptr 1142 0) (Hk 1142 3 Rg O O) O (Ho (u:=.junk) (H7 (u:=.agg (Slot.cs a.1)) (ds:=[I64 a.1.G3,I64 a.1.Tier,U8 a.1.Half]) Yd O O O O O O O O) (G5 (x (Gn [(1,.fn is_f is_c),(5,Ek a.1),(10,.it 1143)] [(1143,.iter (DM Slot.kv Box.av m.on) m.on.l.length (b++[i]))] 1142 rfl rfl rfl ⟨⟨_,rfl,.iter rfl⟩,ø⟩ rfl (by exact⟨.conv (.same (Hi _ _ is_d)),.ptr,.conv (.same rfl),ø⟩) ?_))))))))))))))
  refine Jr fun y=>(JLm (.fn is_f is_c) O (JLh (.agg (Slot.cs a.1)) (Gk J2 O O O) O ?_))
  obtain⟨a8,z,h⟩:=Ge h
  refine JLh (BL a8) (G1b (args:=[.agg (Slot.cs a.1)]) (caps:=is_c) O O (is_w a.1 _ z) is_B ⟨O,O,ø⟩ is_d) O (G5 (y (JCc O h (fun h hb=>?_) (fun h hb=>?_))))
  ·
   refine Jr fun a1=>(JLm (BL true) O (G5 (a1 (Gs ?_))))
   obtain⟨y_,hy_,hl_⟩:=Y82 h
   exact⟨[BL true],[],ø,O,⟨⟨_,O,.conv (.same O)⟩,ø⟩,O,true,Eq.mpr (M7 hl_) (k y_ hy_),O⟩
  ·
   refine Gm (a7 _ _ (b++[i]) () (n _ (M7 h).symm) (Gb1 (M5 c).1 j) ⟨⟨.same (Hi _ _ is_d),.same O,ø⟩,⟨⟨_,O,.iter O⟩,ø⟩,O⟩)
 ·
  obtain⟨p_,h,hp⟩:=f.done v
  replace h:=app1 o h
  refine JLh (BL false) (Gz O O O) O (G5 (g (Js fun a9=>G2d O (Hr (a4 (Jr fun a2=>(JLm (BL false) O (G5 (a2 (Gs (⟨[BL false],[],ø,O,⟨⟨_,O,.conv (.same O)⟩,ø⟩,O,false,Eq.mpr (M7 h) hp,O⟩)))))))))))
theorem Q6d (S_:(Gc)→(Slot→Option Bool)→Option Bool) (hS_:∀ m is r,S_ m is=some r→∃ p:Prop,H47 m is (fun r_=>r_=r)=some p∧p) (m:Gc) (is:Slot→Option Bool) (is_f:FuncId) (is_c:List AV) (is_B:H0 En is_f=true) (is_d:Q9 (fun _=>false) is_c=true) (is_w:∀ a0 q,is a0=some q→Pure En is_f ([.agg [I64 a0.G3,I64 a0.Tier,U8 a0.Half]]++is_c) (·=BL q)) (r:Bool) (h:S_ m is=some r):Pure En 74 [.dptr (Gc.cs m),.fn is_f is_c] (·=BL r):=by
 obtain⟨p,a,b⟩:=hS_ m is r h
 exact(Q6c m is is_f is_c is_B is_d is_w _ p a b).monoP (fun av hh=>by obtain⟨r_,rfl,ha⟩:=hh; exact ha)

def G7e (r_:Int) (a:G3):Option Bool:=
 some (decide (r_=a.Row))
theorem Jf3 (r_:Int) (a:G3) (r:Bool) (h:G7e r_ a=some r):Pure En 147 [I64 r_,Ej a] (·=BL r):=by
 unfold G7e at h
 refine Gx [.tmp 3] Tryz.func147 O O (Jr fun b=>(JLm (BL false) O (G5 (b (Jr fun c=>(JLm (I64 r_) O (JLh (.dptr ((G3.cs a).drop 1)) (Ga G87 O O O) O (JLh (I64 a.Row) (Gg Gb O O O) O (JLh (BL (decide (r_=a.Row))) (Qk O O O) O (JLm (BL (decide (r_=a.Row))) O (G5 (c (Gs (fin1 BL h))))))))))))))

def G45 (l:List Int) (wanted:Int→Option Bool):Option (List Int):=
 each (fun e b (a:(List Int)) d=>
  jp (fun c=>
   bnd (wanted e) fun f=>
   bif f then
   (need (decide ((a.length+[(b:Int)].length)*8≤140737488355328∧a.length+[(b:Int)].length≤maxLen)) <|
    c (a++[(b:Int)]))
   else
   (c a)) fun(g:(List Int))=>
  d g)
 (fun(a:(List Int))=>
  some a) l 0 []
theorem J83 (l:List Int) (wanted:Int→Option Bool) (wanted_f:FuncId) (wanted_c:List AV) (wanted_B:H0 En wanted_f=true) (wanted_d:Q9 (fun _=>false) wanted_c=true) (wanted_w:∀ a0 q,wanted a0=some q→Pure En wanted_f ([I64 a0]++wanted_c) (·=BL q)) (r:(List Int)) (h:G45 l wanted=some r):Pure En 146 [E2 l,.fn wanted_f wanted_c] (·=E2 r):=by
 unfold G45 at h
 refine Gx [.tmp 4] Tryz.func146 O O (Jr fun a1=>(JLh (E2 ([]:List Int)) (Jh 1 O O) O (G5 (a1 (Jr fun a2=>(JLh (OW 1205 1 I64 ([]:List Int)) (H5f 1205 3 1 O O O) O (G5 (a2 (Js fun a3=>Jr fun a4=>(JLm (E2 l) O (JLl H1 O O O fun a5=>(JLm (I64 0) O (G5 (a4 (Gq ?_)))))))))))))))
 obtain⟨a6,k,m,i,h⟩:=Jc h
 refine Hn (fun a (b:(List Int))=>each a6 k (List.drop a l) a b=some r) (fun a b=>[(1,.fn wanted_f wanted_c),(5,OW 1205 1 I64 b),(8,E2 l),(9,Em l.length),(10,Em a)]) (fun a b=>[(1205,.spare 3 1 b.length b.length)]) (fun a=>l.length - a) 0 [] h ⟨⟨.same (Hi _ _ wanted_d),.same O,.same O,.same O,.same O,ø⟩,⟨⟨_,O,.same⟩,ø⟩,O⟩ ?_
 clear h
 intro a b e b0 a7
 refine Jr fun n=>(JLh (BL (decide ((a:Int) < (l.length:Int)))) (Jo O O O) O (G5 (n (Js fun o=>Gr O (fun hb=>?_) (fun hb=>?_)))))
 ·
  have g:=Q1 hb
  obtain⟨d,a9,p,s,h⟩:=Ht e g
  replace h:=Zn m h
  refine Gm (o ?_)
  obtain⟨t,j,h⟩:=Rm h
  refine Qi (fun c:(List Int)=>t c=some r) (fun c=>[(1,.fn wanted_f wanted_c),(5,OW 1205 1 I64 c),(8,E2 l),(9,Em l.length),(10,Em a)]) (fun c=>[(1205,.spare 3 1 c.length c.length)]) (fun Kj24 ej24=>?_) ?_
  ·
   refine Gq (Jr fun u=>(JLm (Em a) O (JLh (.dptr [I64 d]) (Hb (f:=I64) (xs:=l) (y:=d) O O O H1 p O) O (JLh (I64 d) (Gg Gb O O O) O (JLm (Em a) O (JLm (I64 d) O (G5 (u (Jr fun v=>(JLm (.fn wanted_f wanted_c) O (JLm (I64 d) O ?_)))))))))))
   obtain⟨a8,w,h⟩:=Ge h
   refine JLh (BL a8) (G1b (args:=[I64 d]) (caps:=wanted_c) O O (wanted_w d _ w) wanted_B ⟨O,O,ø⟩ wanted_d) O (G5 (v (JCc O h (fun h hb=>?_) (fun h hb=>?_))))
   ·
    refine G2 (JLm (OW 1205 1 I64 b) O (JLm (Em a) O (JLh (E2 [(a:Int)]) (He (xs:=[Em a]) O ⟨O,O,ø⟩ H1 Y0 O O O O) O ?_)))
    obtain⟨x,h⟩:=Ji h
    refine JLh (OW 1205 1 I64 (b++[(a:Int)])) (Yb (f:=I64) (xs:=b) (ys:=[(a:Int)]) O O O O H1 G89 x (fun _=>O) (.inl O) O) O (JLm (OW 1205 1 I64 (b++[(a:Int)])) O (G5 (ej24 _ _ (b++[(a:Int)]) h ⟨⟨.same (Hi _ _ wanted_d),.same O,.same O,.same O,.same O,ø⟩,⟨⟨_,O,.same⟩,ø⟩,O⟩)))
   ·
    refine Gm (ej24 _ _ b h ⟨⟨.same (Hi _ _ wanted_d),.same O,.same O,.same O,.same O,ø⟩,⟨⟨_,O,.same⟩,ø⟩,O⟩)
  ·intro c h
   replace h:=app1 j h
   refine G2 (JLh (I64 ((a+1:Nat):Int)) (Ja (Hp g a5) O O O) O (JLm (I64 ((a+1:Nat):Int)) O (G5 (a7 _ _ (a+1) c (app1 s h) (by omega) ⟨⟨.same (Hi _ _ wanted_d),.same rfl,.same rfl,.same rfl,.same rfl,ø⟩,⟨⟨_,rfl,.same⟩,ø⟩,rfl⟩))))
 ·
  have h:=app1 i (Hu e (Hh hb))
  refine Hr (a3 (Jr fun z=>(JLm (OW 1205 1 I64 b) O (JLm (OW 1205 1 I64 b) O (G5 (z (Gs (fin1l (fun r:(List Int)=>(E2 r:AV)) h))))))))

def Gdb (x:G9) (c:G3):Option Bool:=
 bnd (bif decide (x.Bay=c.Bay) then G45 x.Rows (fun z0=>G7e z0 c) else some default) fun a=>
 some ((decide (x.Bay=c.Bay))&&(decide (0 < (a.length:Int))))
theorem Q6e (x:G9) (c:G3) (r:Bool) (h:Gdb x c=some r):Pure En 121 [.agg [I64 x.Bay,E2 x.Rows],.agg (G3.cs c)] (·=BL r):=by
 unfold Gdb at h
 refine Gx [.tmp 4] Tryz.func121 O O (Jr fun b=>(JLh (.ptr 1189 0) (Q4 (cs:=[I64 x.Bay,E2 x.Rows]) 1189 O O O O O) O (JLh (.ptr 1190 0) (Q4 (cs:=(G3.cs c)) 1190 O O O O O) O (JLm (BL false) O (G5 (b (Gn [(2,.dptr [I64 x.Bay,E2 x.Rows]),(3,.ptr 1190 0)] [(1190,.box 97 (G3.cs c))] 1189 rfl rfl rfl ⟨⟨_,rfl,.boxEq rfl rfl⟩,ø⟩ rfl (by exact⟨.ptr,.conv (.same rfl),ø⟩) ?_)))))))
 refine Gn [(2,.dptr [I64 x.Bay,E2 x.Rows]),(3,Ej c)] [] 1190 rfl rfl rfl ø rfl (by exact⟨.conv (.same rfl),.ptr,ø⟩) (Jr fun d=>(JLh (.dptr [I64 x.Bay,E2 x.Rows]) (Ga H07 O O O) O (JLh (I64 x.Bay) (Gg Gb O O O) O (JLh (Ej c) (Ga G20 O O O) O (JLh (I64 c.Bay) (Gg Gb O O O) O (JLh (BL (decide (x.Bay=c.Bay))) (Qk O O O) O (JLm (BL (decide (x.Bay=c.Bay))) O (JLo (.dptr [E2 x.Rows]) [] O .sct ø (fun hc=>Ga G54 O O O) O (JLo (E2 x.Rows) [11] O .sct ⟨Ua,ø⟩ (fun hc=>Gg Rn O O O) O (JLo (.fn 147 [.dptr (G3.cs c)]) [] O .sct ø (fun hc=>Q2 (cs:=[.dptr (G3.cs c)]) O O) O ?_))))))))))
 obtain⟨a,e,h⟩:=Ge h
 refine JLo (E2 a) [12,13] O .sct ⟨Ua,Ua,ø⟩ (fun hc=>Gu (args:=[E2 x.Rows,.fn 147 [.dptr (G3.cs c)]]) O (J83 x.Rows (fun z0=>G7e z0 c) 147 [.dptr (G3.cs c)] R9e O (fun z0 q hq=>Jf3 z0 c q hq) a (H4 hc e)) R9f ⟨O,O,O,O,ø⟩) O (JLo (Em a.length) [14] O .sct ⟨Ua,ø⟩ (fun hc=>H69 (f:=I64) (xs:=a) H1 O O) O (JLo (BL (decide (0 < (a.length:Int)))) [15] O .sct ⟨Ua,ø⟩ (fun hc=>H01 O O O) O (JLh (BL ((decide (x.Bay=c.Bay))&&(decide (0 < (a.length:Int))))) (Y4 O O O O) O (JLm (BL ((decide (x.Bay=c.Bay))&&(decide (0 < (a.length:Int))))) O (G5 (d (Gs (fin1 BL h))))))))

def G27 (x:G9) (a:Gi) (b:Int):Option Bool:=
 Qw a.Columns b fun c=>
 bnd (Gdb x c) fun d=>
 some d
theorem Jba (x:G9) (a:Gi) (c:Int) (r:Bool) (h:G27 x a c=some r):Pure En 120 [.agg [I64 x.Bay,E2 x.Rows],Ee a,.dptr [I64 c]] (·=BL r):=by
 unfold G27 at h
 refine Gx [.tmp 4] Tryz.func120 O O (Jr fun e=>(JLh (.ptr 1188 0) (Q4 (cs:=[I64 x.Bay,E2 x.Rows]) 1188 O O O O O) O (JLm (BL false) O (G5 (e (Gn [(1,Ee a),(2,.dptr [I64 c]),(3,.dptr [I64 x.Bay,E2 x.Rows])] [] 1188 rfl rfl rfl ø rfl (by exact⟨.conv (.same rfl),.conv (.same rfl),.ptr,ø⟩) (Js fun g=>?_)))))))
 obtain⟨l,b,i,j,h⟩:=Yc h
 obtain⟨d,k,h⟩:=Ge h
 refine JC_d0 J9 (by kernel_rfl) (Dq (.agg [I64 x.Bay,E2 x.Rows]) (Gk Hfe O O O) O (Dq (Ee a) (Ga J8 O O O) O (Dq (E3 a.Columns) (Gg Jp O O O) O (Dq (I64 c) (Gg Gb O O O) O (Dq (Ej b) (Hb (f:=G3.av) (xs:=a.Columns) (y:=b) O O O Hy j i) O (Dq (.agg (G3.cs b)) (Gk Gb3 O O O) O (Dq (BL d) (Gu (args:=[.agg [I64 x.Bay,E2 x.Rows],.agg (G3.cs b)]) O (Q6e x b d k) Raa ⟨O,O,O,O,ø⟩) O (Dq (BL d) (G7 O O) O (Dnil (g (Gs (fin1 BL h))))))))))))

def Zi (l:List G9) (wanted:G9→Option Bool):Option (List Int):=
 each (fun e b (a:(List Int)) d=>
  jp (fun c=>
   bnd (wanted e) fun f=>
   bif f then
   (need (decide ((a.length+[(b:Int)].length)*8≤140737488355328∧a.length+[(b:Int)].length≤maxLen)) <|
    c (a++[(b:Int)]))
   else
   (c a)) fun(g:(List Int))=>
  d g)
 (fun(a:(List Int))=>
  some a) l 0 []
theorem Hd6 (l:List G9) (wanted:G9→Option Bool) (wanted_f:FuncId) (wanted_c:List AV) (wanted_B:H0 En wanted_f=true) (wanted_d:Q9 (fun _=>false) wanted_c=true) (wanted_w:∀ a0 q,wanted a0=some q→Pure En wanted_f ([.agg [I64 a0.Bay,E2 a0.Rows]]++wanted_c) (·=BL q)) (r:(List Int)) (h:Zi l wanted=some r):Pure En 119 [E8 l,.fn wanted_f wanted_c] (·=E2 r):=by
 unfold Zi at h
 refine Gx [.tmp 4] Tryz.func119 O O (Jr fun a2=>(JLh (E2 ([]:List Int)) (Jh 1 O O) O (G5 (a2 (Jr fun a3=>(JLh (OW 1186 1 I64 ([]:List Int)) (H5f 1186 3 1 O O O) O (G5 (a3 (Js fun a4=>Jr fun a5=>(JLm (E8 l) O (JLl Qj O O O fun a6=>(JLm (I64 0) O (G5 (a5 (Gq ?_)))))))))))))))
 obtain⟨a7,k,m,i,h⟩:=Jc h
 refine Hn (fun a (b:(List Int))=>each a7 k (List.drop a l) a b=some r) (fun a b=>[(1,.fn wanted_f wanted_c),(5,OW 1186 1 I64 b),(8,E8 l),(9,Em l.length),(10,Em a)]) (fun a b=>[(1186,.spare 3 1 b.length b.length)]) (fun a=>l.length - a) 0 [] h ⟨⟨.same (Hi _ _ wanted_d),.same O,.same O,.same O,.same O,ø⟩,⟨⟨_,O,.same⟩,ø⟩,O⟩ ?_
 clear h
 intro a b e b1 a8
 refine Jr fun n=>(JLh (BL (decide ((a:Int) < (l.length:Int)))) (Jo O O O) O (G5 (n (Js fun o=>Gr O (fun hb=>?_) (fun hb=>?_)))))
 ·
  have g:=Q1 hb
  obtain⟨c,b0,p,s,h⟩:=Ht e g
  replace h:=Zn m h
  refine Gm (o ?_)
  obtain⟨t,j,h⟩:=Rm h
  refine Qi (fun d:(List Int)=>t d=some r) (fun d=>[(1,.fn wanted_f wanted_c),(5,OW 1186 1 I64 d),(8,E8 l),(9,Em l.length),(10,Em a)]) (fun d=>[(1186,.spare 3 1 d.length d.length)]) (fun Kj24 ej24=>?_) ?_
  ·
   refine Gq (Jr fun v=>(JLm (Em a) O (JLh (.dptr [I64 c.Bay,E2 c.Rows]) (Hb (f:=G9.av) (xs:=l) (y:=c) O O O Qj p O) O (JLh (.agg [I64 c.Bay,E2 c.Rows]) (Gk Hfe O O O) O (JLh (.ptr 1187 0) (Hk 1187 2 H03 O O) O (JLm (Em a) O (Ho (u:=.junk) (H7 (u:=.agg [I64 c.Bay,E2 c.Rows]) (ds:=[I64 c.Bay,E2 c.Rows]) Q32 O O O O O O O O) (G5 (v ?_)))))))))
   refine Gn [(1,.fn wanted_f wanted_c),(5,OW 1186 1 I64 b),(6,Em a),(7,.dptr [I64 c.Bay,E2 c.Rows]),(8,E8 l),(9,Em l.length),(10,Em a)] [(1186,.spare 3 1 b.length b.length)] 1187 rfl rfl rfl ⟨⟨_,rfl,.same⟩,ø⟩ rfl (by exact⟨.conv (.same (Hi _ _ wanted_d)),.conv (.same rfl),.conv (.same rfl),.ptr,.conv (.same rfl),.conv (.same rfl),.conv (.same rfl),ø⟩) (Jr fun w=>(JLm (.fn wanted_f wanted_c) O (JLh (.agg [I64 c.Bay,E2 c.Rows]) (Gk Hfe O O O) O ?_)))
   obtain⟨a9,x,h⟩:=Ge h
   refine JLh (BL a9) (G1b (args:=[.agg [I64 c.Bay,E2 c.Rows]]) (caps:=wanted_c) O O (wanted_w c _ x) wanted_B ⟨O,O,ø⟩ wanted_d) O (G5 (w (JCc O h (fun h hb=>?_) (fun h hb=>?_))))
   ·
    refine G2 (JLm (OW 1186 1 I64 b) O (JLm (Em a) O (JLh (E2 [(a:Int)]) (He (xs:=[Em a]) O ⟨O,O,ø⟩ H1 Y0 O O O O) O ?_)))
    obtain⟨z,h⟩:=Ji h
    refine JLh (OW 1186 1 I64 (b++[(a:Int)])) (Yb (f:=I64) (xs:=b) (ys:=[(a:Int)]) O O O O H1 G89 z (fun _=>O) (.inl O) O) O (JLm (OW 1186 1 I64 (b++[(a:Int)])) O (G5 (ej24 _ _ (b++[(a:Int)]) h ⟨⟨.same (Hi _ _ wanted_d),.same O,.same O,.same O,.same O,ø⟩,⟨⟨_,O,.same⟩,ø⟩,O⟩)))
   ·
    refine Gm (ej24 _ _ b h ⟨⟨.same (Hi _ _ wanted_d),.same O,.same O,.same O,.same O,ø⟩,⟨⟨_,O,.same⟩,ø⟩,O⟩)
  ·intro d h
   replace h:=app1 j h
   refine G2 (JLh (I64 ((a+1:Nat):Int)) (Ja (Hp g a6) O O O) O (JLm (I64 ((a+1:Nat):Int)) O (G5 (a8 _ _ (a+1) d (app1 s h) (by omega) ⟨⟨.same (Hi _ _ wanted_d),.same rfl,.same rfl,.same rfl,.same rfl,ø⟩,⟨⟨_,rfl,.same⟩,ø⟩,rfl⟩))))
 ·
  have h:=app1 i (Hu e (Hh hb))
  refine Hr (a4 (Jr fun a1=>(JLm (OW 1186 1 I64 b) O (JLm (OW 1186 1 I64 b) O (G5 (a1 (Gs (fin1l (fun r:(List Int)=>(E2 r:AV)) h))))))))

def Rb (s:Gi) (column:Int):Option Int:=
 bif ((decide (column < 0))||(decide ((s.Columns.length:Int)≤column))) then
 (some (-1))
 else
 (bnd (Zi s.Covers (fun z0=>G27 z0 s column)) fun a=>
  bif decide ((a.length:Int)=0) then
  (some (-1))
  else
  (Qw a 0 fun b=>
   some b))
theorem G5f (s:Gi) (column:Int) (r:Int) (h:Rb s column=some r):Pure En 70 [.agg (Gi.cs s),I64 column] (·=I64 r):=by
 unfold Rb at h
 refine Gx [.tmp 4] Tryz.func70 O O (Jr fun g=>(JLh (.ptr 1138 0) (Q4 (cs:=(Gi.cs s)) 1138 O O O O O) O (JLh (.ptr 1139 0) (Q4 (cs:=[I64 column]) 1139 O O O O O) O (JLm (I64 0) O (G5 (g (Gn [(2,Ee s),(3,.ptr 1139 0)] [(1139,.box 3 [I64 column])] 1138 rfl rfl rfl ⟨⟨_,rfl,.boxEq rfl rfl⟩,ø⟩ rfl (by exact⟨.ptr,.conv (.same rfl),ø⟩) (Gn [(2,Ee s),(3,.dptr [I64 column])] [] 1139 rfl rfl rfl ø rfl (by exact⟨.conv (.same rfl),.ptr,ø⟩) (Js fun i=>?_)))))))))
 refine Jr fun j=>(JLh (I64 column) (Gg Gb O O O) O (JLh (BL (decide (column < 0))) (Jo O O O) O (JLm (BL (decide (column < 0))) O (JLo (I64 column) [] O .scf ø (fun hc=>Gg Gb O O O) O (JLo (Ee s) [] O .scf ø (fun hc=>Ga J8 O O O) O (JLo (E3 s.Columns) [10] O .scf ⟨Ua,ø⟩ (fun hc=>Gg Jp O O O) O (JLo (Em s.Columns.length) [11] O .scf ⟨Ua,ø⟩ (fun hc=>H69 (f:=G3.av) (xs:=s.Columns) Hy O O) O (JLo (BL (decide ((s.Columns.length:Int)≤column))) [9,12] O .scf ⟨Ua,Ua,ø⟩ (fun hc=>H24 O O O) O (JLh (BL ((decide (column < 0))||(decide ((s.Columns.length:Int)≤column)))) (G94 O O O O) O (G5 (j (JCc O h (fun h hb=>?_) (fun h hb=>?_)))))))))))))
 ·
  refine Jr fun k=>(JLm (I64 (-1)) O (G5 (k (Gs (fin1 I64 h)))))
 ·
  refine Gm (i (Jr fun l=>(JLh (.dptr ((Gi.cs s).drop 1)) (Ga Y5 O O O) O (JLh (E8 s.Covers) (Gg Zt O O O) O (JLh (.fn 120 [.dptr (Gi.cs s),.dptr [I64 column]]) (Q2 (cs:=[.dptr (Gi.cs s),.dptr [I64 column]]) O O) O ?_)))))
  obtain⟨a,m,h⟩:=Ge h
  refine JLh (E2 a) (Gu O (Hd6 s.Covers (fun z0=>G27 z0 s column) 120 [.dptr (Gi.cs s),.dptr [I64 column]] Rab O (fun z0 q hq=>Jba z0 s column q hq) a m) Rac ⟨O,O,O,O,ø⟩) O (JLm (E2 a) O (G5 (l (Js fun n=>Jr fun o=>(JLm (E2 a) O (JLl H1 O O O fun t=>(JLh (BL (decide ((a.length:Int)=0))) (Qk O O O) O (G5 (o (JCc O h (fun h hb=>?_) (fun h hb=>?_)))))))))))
  ·
   refine Jr fun p=>(JLm (I64 (-1)) O (G5 (p (Gs (fin1 I64 h)))))
  ·
   refine Gm (n (Jr fun c=>(JLm (E2 a) O ?_)))
   obtain⟨u,b,d,e,h⟩:=Yc h
   refine JLh (.dptr [I64 b]) (Hb (f:=I64) (xs:=a) (y:=b) O O O H1 e d) O (JLh (I64 b) (Gg Gb O O O) O (JLm (I64 b) O (G5 (c (Gs (fin1 I64 h))))))

def G5c (m:Gc) (x:Slot):Option Bool:=
 bnd (Rb m.ship x.G3) fun a=>
 bnd (bif decide (0≤a) then some (Gv.get m.open_ a 0) else some 0) fun b=>
 bnd (bif decide (0≤a) then Qw m.ship.Columns x.G3 some else some default) fun c=>
 some ((decide (0≤a))&&((decide (0 < b))==c.Deck))
theorem Hea (m:Gc) (x:Slot) (r:Bool) (h:G5c m x=some r):Pure En 81 [.dptr (Gc.cs m),.agg [I64 x.G3,I64 x.Tier,U8 x.Half]] (·=BL r):=by
 unfold G5c at h
 refine Gx [.tmp 4] Tryz.func81 O O (Jr fun e=>(JLh (.ptr 1149 0) (Q4 (cs:=[I64 x.G3,I64 x.Tier,U8 x.Half]) 1149 O O O O O) O (JLm (BL false) O (G5 (e (Gn [(0,Eg m),(3,.dptr [I64 x.G3,I64 x.Tier,U8 x.Half])] [] 1149 rfl rfl rfl ø rfl (by exact⟨.conv (.same rfl),.ptr,ø⟩) (Js fun g=>?_)))))))
 obtain⟨b,i,h⟩:=Ge h
 refine JC_d0 J9 (by kernel_rfl) (Dq (Eg m) (G6 O O) O (Dq (Eg m) (G78 O O) O (Dq (Eg m) (Ga Ym O O O) O (Dq (.agg (Gi.cs m.ship)) (Gk Jd O O O) O (Dq (.dptr [I64 x.G3,I64 x.Tier,U8 x.Half]) (Ga J7 O O O) O (Dq (I64 x.G3) (Gg Gb O O O) O (Dq (I64 b) (Gu (args:=[.agg (Gi.cs m.ship),I64 x.G3]) O (G5f m.ship x.G3 b i) H83 ⟨O,O,O,O,ø⟩) O (Dq (I64 b) (G7 O O) O (Dnil (g (Js fun j=>?_)))))))))))
 obtain⟨d,k,h⟩:=Ge h
 obtain⟨c,l,h⟩:=Ge h
 refine JC_d0 J9 (by kernel_rfl) (Dq (I64 b) (G6 O O) O (Dq (BL (decide (0≤b))) (H24 O O O) O (Dq (BL (decide (0≤b))) (G6 O O) O (Do (Eg m) [] O .sct ø (fun hc=>G6 O O) O (Do (Eg m) [16] O .sct ⟨Ua,ø⟩ (fun hc=>G78 O O) O (Do (.dptr ((Gc.cs m).drop 15)) [17] O .sct ⟨Ua,ø⟩ (fun hc=>Ga G88 O O O) O (Do (DM Ks I64 m.open_) [18] O .sct ⟨Ua,ø⟩ (fun hc=>Gg G6e O O O) O (Do (I64 b) [] O .sct ø (fun hc=>G6 O O) O (Do (I64 d) [19,20] O .sct ⟨Ua,Ua,ø⟩ (fun hc=>((M7 (H4 hc k)) ▸ Jbf (av:=I64) (m:=m.open_) (a:=b) 0 E0 (fun _=>O) O .data O J7c Gf2 H3c O)) O (Do (BL (decide (0 < d))) [21] O .sct ⟨Ua,ø⟩ (fun hc=>H01 O O O) O (Do (Eg m) [] O .sct ø (fun hc=>G6 O O) O (Do (Eg m) [23] O .sct ⟨Ua,ø⟩ (fun hc=>G78 O O) O (Do (Eg m) [24] O .sct ⟨Ua,ø⟩ (fun hc=>Ga Ym O O O) O ?_)))))))))))))
 refine Do (Eg m) [25] O .sct ⟨Ua,ø⟩ (fun hc=>Ga J8 O O O) O (Do (E3 m.ship.Columns) [26] O .sct ⟨Ua,ø⟩ (fun hc=>Gg Jp O O O) O (Do (.dptr [I64 x.G3,I64 x.Tier,U8 x.Half]) [] O .sct ø (fun hc=>Ga J7 O O O) O (Do (I64 x.G3) [28] O .sct ⟨Ua,ø⟩ (fun hc=>Gg Gb O O O) O (Do (Ej c) [27,29] O .sct ⟨Ua,Ua,ø⟩ (fun hc=>(match Gba (H4 hc l) with | ⟨_,hm_,hy_⟩=>Hb (f:=G3.av) (xs:=m.ship.Columns) (y:=c) O O O Hy hy_ hm_)) O (Do (.dptr ((G3.cs c).drop 2)) [30] O .sct ⟨Ua,ø⟩ (fun hc=>Ga Yj O O O) O (Do (BL c.Deck) [31] O .sct ⟨Ua,ø⟩ (fun hc=>Gg Qb O O O) O (Do (BL ((decide (0 < d))==c.Deck)) [22,32] O .sct ⟨Ua,Ua,ø⟩ (fun hc=>Q00 H7b O O O) O (Dq (BL ((decide (0≤b))&&((decide (0 < d))==c.Deck))) (Y4 O O O O) O (Dq (BL ((decide (0≤b))&&((decide (0 < d))==c.Deck))) (G7 O O) O (Dnil ?_))))))))))
 refine j (Gs (fin1 BL h))

def R0 (b:Box):Option Int:=
 bif b.High then
 (some 2896)
 else
 (some 2591)
theorem H9b (b:Box) (r:Int) (h:R0 b=some r):Pure En 126 [.agg (Box.cs b)] (·=I64 r):=by
 unfold R0 at h
 refine Gx [.tmp 2] Tryz.func126 O O (Jr fun a=>(JLh (.ptr 1196 0) (Q4 (cs:=(Box.cs b)) 1196 O O O O O) O (JLm (I64 0) O (G5 (a (Gn [(1,Ei b)] [] 1196 rfl rfl rfl ø rfl (by exact⟨.ptr,ø⟩) (Js fun c=>Jr fun d=>(JLh (.dptr ((Box.cs b).drop 3)) (Ga H82 O O O) O (JLh (BL b.High) (Gg Qb O O O) O (G5 (d (JCc O h (fun h hb=>?_) (fun h hb=>?_)))))))))))))
 ·
  refine Jr fun e=>(JLm (I64 2896) O (G5 (e (Gs (fin1 I64 h)))))
 ·
  refine Gm (c (Jr fun f=>(JLm (I64 2591) O (G5 (f (Gs (fin1 I64 h)))))))

def Gad (m:Gc) (x:Slot) (b:Box) (half:Int) (Rp:Int→Prop):Option Prop:=
 jp (fun e=>
  bif ((decide (x.Half=0))||(decide (x.Half=half))) then
  (bnd (R0 b) fun h=>
   e h)
  else
  (e 0)) fun(i:Int)=>
 J1f (fun(a:Slot×Box) (c:Int) d=>
  bif ((decide (a.1.G3=x.G3))&&((decide (a.1.Half=0))||(decide (a.1.Half=half)))) then
  (bnd (R0 a.2) fun f=>
   chk (c+f) fun g=>
   d g)
  else
  (d c))
 (fun(c:Int)=>
  some (Rp c)) (Gv.Hc m.on) i
theorem Q26 (m:Gc) (x:Slot) (b:Box) (half:Int) (Rp:Int→Prop) (p:Prop) (h:Gad m x b half Rp=some p) (hp:p):Pure En 90 [.dptr (Gc.cs m),.agg [I64 x.G3,I64 x.Tier,U8 x.Half],.agg (Box.cs b),U8 half] (fun av=>∃ r,Rp r∧av=I64 r):=by
 unfold Gad at h
 refine Gx [.tmp 8] Tryz.func90 O O (Jr fun a9=>(JLh (.ptr 1152 0) (Q4 (cs:=[I64 x.G3,I64 x.Tier,U8 x.Half]) 1152 O O O O O) O (JLh (.ptr 1153 0) (Q4 (cs:=(Box.cs b)) 1153 O O O O O) O (JLm (I64 0) O (G5 (a9 (fzQ [(0,Eg m),(3,U8 half),(5,.dptr [I64 x.G3,I64 x.Tier,U8 x.Half]),(6,.ptr 1153 0)] [(1153,.box 103 (Box.cs b))] 1152 rfl rfl rfl ⟨⟨_,rfl,.boxEq rfl rfl⟩,ø⟩ rfl ?_)))))))
 refine fzQ [(0,Eg m),(3,U8 half),(5,.dptr [I64 x.G3,I64 x.Tier,U8 x.Half]),(6,Ei b)] [] 1153 rfl rfl rfl ø rfl (Jr fun b0=>(JLm (.fn 126 []) O (G5 (b0 (Jr fun b1=>(JLm (I64 0) O (G5 (b1 ?_))))))))
 obtain⟨b2,z,h⟩:=Rm h
 refine Qi (fun k:Int=>b2 k=some p) (fun k=>[(0,Eg m),(3,U8 half),(5,.dptr [I64 x.G3,I64 x.Tier,U8 x.Half]),(9,.fn 126 []),(10,I64 k)]) (fun k=>[]) (fun Kj4 ej4=>?_) ?_
 ·
  refine Jr fun b3=>(JLh (.dptr [U8 x.Half]) (Ga Qu O O O) O (JLh (U8 x.Half) (Gg Hx O O O) O (JLh (BL (decide (x.Half=0))) (Qk O O O) O (JLm (BL (decide (x.Half=0))) O (JLo (.dptr [U8 x.Half]) [] O .scf ø (fun hc=>Ga Qu O O O) O (JLo (U8 x.Half) [17] O .scf ⟨Ua,ø⟩ (fun hc=>Gg Hx O O O) O (JLo (U8 half) [] O .scf ø (fun hc=>G6 O O) O (JLo (BL (decide (x.Half=half))) [18,19] O .scf ⟨Ua,Ua,ø⟩ (fun hc=>Qk O O O) O (JLh (BL ((decide (x.Half=0))||(decide (x.Half=half)))) (G94 O O O O) O (G5 (b3 (JCc O h (fun h hb=>?_) (fun h hb=>?_)))))))))))))
  ·
   refine G2 (JLm (.fn 126 []) O (JLh (.agg (Box.cs b)) (Gk R4 O O O) O ?_))
   obtain⟨t,b4,h⟩:=Ge h
   refine JLh (I64 t) (G1b (args:=[.agg (Box.cs b)]) (caps:=[]) O O (H9b b t b4) Q37 ⟨O,O,ø⟩ O) O (JLm (I64 t) O (G5 (ej4 _ _ t h ⟨(.sm O O),ø,rfl⟩)))
  ·
   refine Gm (ej4 _ _ 0 h ⟨(.sm O O),ø,rfl⟩)
 ·intro k h
  replace h:=app1 z h
  refine Js fun b5=>Jr fun b6=>(JLm (Eg m) O (JLh (Eg m) (G78 O O) O (JLh (.dptr ((Gc.cs m).drop 13)) (Ga Yk O O O) O (JLh (DM Slot.kv Box.av m.on) (Gg Yr O O O) O (JLh (.it 1156) (Ha3 1156 (kv:=Slot.kv) (av:=Box.av) (m:=m.on) O O .data O G86) O (G5 (b6 (Gq ?_))))))))
  obtain⟨b7,a0,a1,v,h⟩:=H56 h
  refine J5a (m.on.l.length) (fun d (c:Int)=>Gdd b7 a0 (Gv.l m.on) d c) (fun d c=>[(3,U8 half),(5,.dptr [I64 x.G3,I64 x.Tier,U8 x.Half]),(9,.fn 126 []),(10,I64 c),(29,.it 1156)]) (fun d c=>[(1156,.iter (DM Slot.kv Box.av m.on) m.on.l.length d)]) k (Gdd.start h hp) ⟨(.sm O O),⟨⟨_,rfl,.iter rfl⟩,ø⟩,rfl⟩ ?_
  clear h hp
  intro d c n c0 w
  refine Jr fun o=>Yf O O O (J19 (kv:=Slot.kv) (av:=Box.av) (m:=m.on) (fun _=>O) O O O .data) ?_
  intro u_ L_ hn_
  rcases hn_ with ⟨g,a,f,j,rfl,rfl⟩ | ⟨a2,rfl,rfl⟩
  ·
   obtain⟨c1,h,b8,i⟩:=n.step f j
   replace h:=Jb4 a1 h
   refine JLh (BL true) (Gz O O O) O (G5 (o (Js fun a3=>J5b O (Gm (a3 (Gq ?_))))))
   refine Jr fun a4=>(JLh (.tup [.agg (Slot.cs a.1),.agg (Box.cs a.2)]) (Jc1 (kv:=Slot.kv) (av:=Box.av) (m:=m.on) (q:=g) (seen:=d) (e:=a) (fun _=>O) O O O .data f) O (JLh (.agg (Slot.cs a.1)) (Gz O O O) O (JLh (.agg (Box.cs a.2)) (Gz O O O) O (JLh (.ptr 1154 0) (Hk 1154 3 Rg O O) O (JLh (.ptr 1155 0) (Hk 1155 9 Qx O O) O (Ho (u:=.junk) (H7 (u:=.agg (Slot.cs a.1)) (ds:=[I64 a.1.G3,I64 a.1.Tier,U8 a.1.Half]) Yd O O O O O O O O) (Ho (u:=.junk) (H7 (u:=.agg (Box.cs a.2)) (ds:=(Box.cs a.2)) Rh O O O O O O O O) (G5 (a4 ?_)))))))))
   refine fzQ [(3,U8 half),(5,.dptr [I64 x.G3,I64 x.Tier,U8 x.Half]),(9,.fn 126 []),(10,I64 c),(11,Ek a.1),(12,.ptr 1155 0),(29,.it 1156)] [(1156,.iter (DM Slot.kv Box.av m.on) m.on.l.length (d++[g])),(1155,.box 103 (Box.cs a.2))] 1154 rfl rfl rfl ⟨⟨_,rfl,.iter rfl⟩,⟨_,rfl,.boxEq rfl rfl⟩,ø⟩ rfl ?_
   refine fzQ [(3,U8 half),(5,.dptr [I64 x.G3,I64 x.Tier,U8 x.Half]),(9,.fn 126 []),(10,I64 c),(11,Ek a.1),(12,Ei a.2),(29,.it 1156)] [(1156,.iter (DM Slot.kv Box.av m.on) m.on.l.length (d++[g]))] 1155 rfl rfl rfl ⟨⟨_,rfl,.iter rfl⟩,ø⟩ rfl ?_
   refine Jr fun a5=>(JLh (Ek a.1) (Ga J7 O O O) O (JLh (I64 a.1.G3) (Gg Gb O O O) O (JLh (.dptr [I64 x.G3,I64 x.Tier,U8 x.Half]) (Ga J7 O O O) O (JLh (I64 x.G3) (Gg Gb O O O) O (JLh (BL (decide (a.1.G3=x.G3))) (Qk O O O) O (JLm (BL (decide (a.1.G3=x.G3))) O (JLo (.dptr [U8 a.1.Half]) [] O .sct ø (fun hc=>Ga Qu O O O) O (JLo (U8 a.1.Half) [41] O .sct ⟨Ua,ø⟩ (fun hc=>Gg Hx O O O) O (JLo (BL (decide (a.1.Half=0))) [42] O .sct ⟨Ua,ø⟩ (fun hc=>Qk O O O) O (JLo (BL (decide (a.1.Half=0))) [43] O .sct ⟨Ua,ø⟩ (fun hc=>G6 O O) O (JLo (.dptr [U8 a.1.Half]) [] O .optf ø (fun hc=>Ga Qu O O O) O (JLo (U8 a.1.Half) [45] O .optf ⟨Ua,ø⟩ (fun hc=>Gg Hx O O O) O (JLo (U8 half) [] O .optf ø (fun hc=>G6 O O) O ?_)))))))))))))
   refine JLo (BL (decide (a.1.Half=half))) [46,47] O .optf ⟨Ua,Ua,ø⟩ (fun hc=>Qk O O O) O (Gj (u:=BL ((decide (a.1.Half=0))||(decide (a.1.Half=half)))) [(44,BL (decide (a.1.Half=0))),(48,_)] O O O .sct ⟨.all id,.part,ø⟩ (fun hc=>G94 O O O O) ?_)
   refine JLh (BL ((decide (a.1.G3=x.G3))&&((decide (a.1.Half=0))||(decide (a.1.Half=half))))) (Y4 O O O O) O (G5 (a5 (JCc O h (fun h hb=>?_) (fun h hb=>?_))))
   ·
    refine G2 (JLm (I64 c) O (JLm (.fn 126 []) O (JLh (.agg (Box.cs a.2)) (Gk R4 O O O) O ?_)))
    obtain⟨y,a6,h⟩:=Ge h
    refine JLh (I64 y) (G1b (args:=[.agg (Box.cs a.2)]) (caps:=[]) O O (H9b a.2 y a6) Q37 ⟨O,O,ø⟩ O) O ?_
    obtain⟨s,a7,h⟩:=J0 h
    refine JLh (I64 s) (Ja a7 O O O) O (JLm (I64 s) O (G5 (w _ _ (d++[g]) s (i _ (M7 h).symm) (Gb1 (M5 f).1 j) ⟨(.sm O O),⟨⟨_,rfl,.iter rfl⟩,ø⟩,rfl⟩)))
   ·
    refine Gm (w _ _ (d++[g]) c (i _ (M7 h).symm) (Gb1 (M5 f).1 j) ⟨(.sm O O),⟨⟨_,rfl,.iter rfl⟩,ø⟩,rfl⟩)
  ·
   obtain⟨p_,h,hp⟩:=n.done a2
   replace h:=app1 v h
   refine JLh (BL false) (Gz O O O) O (G5 (o (Js fun b9=>G2d O (Hr (b5 (Jr fun a8=>(JLm (I64 c) O (JLm (I64 c) O (G5 (a8 (Gs (⟨[I64 c],[],ø,O,⟨⟨_,O,.conv (.same O)⟩,ø⟩,O,c,Eq.mpr (M7 h) hp,O⟩))))))))))))
theorem Q27 (S_:(Gc)→(Slot)→(Box)→(Int)→Option Int) (hS_:∀ m x b half r,S_ m x b half=some r→∃ p:Prop,Gad m x b half (fun r_=>r_=r)=some p∧p) (m:Gc) (x:Slot) (b:Box) (half:Int) (r:Int) (h:S_ m x b half=some r):Pure En 90 [.dptr (Gc.cs m),.agg [I64 x.G3,I64 x.Tier,U8 x.Half],.agg (Box.cs b),U8 half] (·=I64 r):=by
 obtain⟨p,a,c⟩:=hS_ m x b half r h
 exact(Q26 m x b half _ p a c).monoP (fun av hh=>by obtain⟨r_,rfl,ha⟩:=hh; exact ha)

def G32 (m:Gc):Option Int:=
 some m.lifts
theorem H17 (m:Gc) (r:Int) (h:G32 m=some r):Pure En 16 [.dptr (Gc.cs m)] (·=I64 r):=by
 unfold G32 at h
 refine Gx [.tmp 2] Tryz.func16 O O (Jr fun a=>(JLm (I64 0) O (G5 (a (Js fun c=>Jr fun d=>(JLm (Eg m) O (JLh (BL true) (Gu O (Rs m true O) G70 ⟨O,O,ø⟩) O (JLh (BL false) (Y8 (b:=true) O O) O (G5 (d (G2d O (Gm (c (Jr fun e=>(JLm (Eg m) O (JLh (Eg m) (G78 O O) O (JLh (.dptr [I64 m.lifts]) (Ga Gcf O O O) O (JLh (I64 m.lifts) (Gg Gb O O O) O (JLm (I64 m.lifts) O (G5 (e (Gs (fin1 I64 h)))))))))))))))))))))))

def Jed (l:List J3):Option Int:=
 each (fun a e (c:Unit) b=>
  bnd (a.val) fun d=>
  bif (!d) then
  (some a.bad)
  else
  (b ()))
 (fun(c:Unit)=>
  some 0) l 0 ()
theorem Qf3 (l:List J3) (r:Int) (h:Jed l=some r):Pure En 76 [LS 2 J3.av l] (·=I64 r):=by
 unfold Jed at h
 refine Gx [.tmp 2] Tryz.func76 O O (Jr fun a3=>(JLm (I64 0) O (G5 (a3 (Js fun a4=>Jr fun a5=>(JLm (LS 2 J3.av l) O (JLl H04 O O O fun a6=>(JLm (I64 0) O (G5 (a5 (Gq ?_)))))))))))
 obtain⟨a7,n,o,m,h⟩:=Jc h
 refine Hn (fun e (g:Unit)=>each a7 n (List.drop e l) e g=some r) (fun e g=>[(5,LS 2 J3.av l),(6,Em l.length),(7,Em e)]) (fun e g=>[]) (fun e=>l.length - e) 0 () h ⟨(.sm O O),ø,O⟩ ?_
 clear h
 intro e g j b0 a8
 refine Jr fun p=>(JLh (BL (decide ((e:Int) < (l.length:Int)))) (Jo O O O) O (G5 (p (Js fun q=>Gr O (fun hb=>?_) (fun hb=>?_)))))
 ·
  have k:=Q1 hb
  obtain⟨a,a9,s,t,h⟩:=Ht j k
  replace h:=Zn o h
  refine Gm (q (Js fun v=>Gq (Jr fun x=>(JLh (.dptr [.fn a.f a.c,I64 a.bad]) (Hb (f:=J3.av) (xs:=l) (y:=a) O O O H04 s O) O (JLh (.agg [.fn a.f a.c,I64 a.bad]) (Gk Qb0 O O O) O (JLh (.ptr 1145 0) (Hk 1145 2 H70 O O) O (Ho (u:=.junk) (H7 (u:=.agg [.fn a.f a.c,I64 a.bad]) (ds:=[.fn a.f a.c,I64 a.bad]) Q30 O O O O O O O O) (G5 (x (fzQ [(4,.dptr [.fn a.f a.c,I64 a.bad]),(5,LS 2 J3.av l),(6,Em l.length),(7,Em e)] [] 1145 rfl (by simp [Q9,AV.refs,a.d]) rfl ø rfl ?_))))))))))
  refine Jr fun z=>(JLh (.dptr [.fn a.f a.c,I64 a.bad]) (Ga Q8c O O O) O (JLh (.fn a.f a.c) (Gg R5b O O O) O ?_))
  obtain⟨i,a0,h⟩:=Ge h
  refine JLh (BL i) (G1b (args:=[]) (caps:=a.c) O O (a.w i a0) a.B ø a.d) O (JLh (BL (!i)) (Y8 (b:=i) O O) O (G5 (z (JCc O h (fun h hb=>?_) (fun h hb=>?_)))))
  ·
   refine Jr fun a1=>(JLh (.dptr [I64 a.bad]) (Ga Q8b O O O) O (JLh (I64 a.bad) (Gg Hf9 O O O) O (JLm (I64 a.bad) O (G5 (a1 (Gs (fin1 I64 h)))))))
  ·
   refine Gm (v (G2 (JLh (I64 ((e+1:Nat):Int)) (Ja (Hp k a6) O O O) O (JLm (I64 ((e+1:Nat):Int)) O (G5 (a8 _ _ (e+1) () (app1 t h) (by omega) ⟨(.sm O O),ø,rfl⟩))))))
 ·
  have h:=app1 m (Hu j (Hh hb))
  refine Hr (a4 (Jr fun a2=>(JLm (I64 0) O (G5 (a2 (Gs (fin1 I64 h)))))))

def Yx (a:Bool):Option Bool:=
 some a
theorem Gbd (a:Bool) (r:Bool) (h:Yx a=some r):Pure En 123 [.dptr [BL a]] (·=BL r):=by
 unfold Yx at h
 refine Gx [.tmp 1] Tryz.func123 O O (Jr fun b=>(JLm (BL false) O (G5 (b (Jr fun c=>(JLh (BL a) (Gg Qb O O O) O (JLm (BL a) O (G5 (c (Gs (fin1 BL h)))))))))))

def H5b (holds:Bool) (bad:Int):Option Unit:=
 some ()
theorem H37 (holds:Bool) (bad:Int) (r:Unit) (h:H5b holds bad=some r):Pure En 77 [BL holds,I64 bad] (·=.agg [.fn 123 [.dptr [BL holds]],I64 bad]):=by
 unfold H5b at h
 refine Gx [.cell 4 151] Tryz.func77 O O (Jr fun a=>(JLh (.ptr 1146 0) (Q4 (cs:=[BL holds]) 1146 O O O O O) O (JLh (.ptr 1147 0) (G06 1147 [.sc .nilFunc,I64 0] [.nilFunc,E0] G1f (zzQ O) O O) O (G5 (a (Gn [(1,I64 bad),(2,.dptr [BL holds]),(4,.ptr 1147 0)] [(1147,.box 151 [.sc .nilFunc,I64 0])] 1146 rfl rfl rfl ⟨⟨_,rfl,.boxEq rfl rfl⟩,ø⟩ rfl (by exact⟨.conv (.same rfl),.ptr,.conv (.same rfl),ø⟩) ?_))))))
 refine Jr fun b=>(JLh (.fn 123 [.dptr [BL holds]]) (Q2 (cs:=[.dptr [BL holds]]) O O) O (JLm (I64 bad) O (JLh (.agg [.fn 123 [.dptr [BL holds]],I64 bad]) (Hg (cs:=[.fn 123 [.dptr [BL holds]],I64 bad]) [(0,1),(1,1)] [.sc .nilFunc,I64 0] [.nilFunc,E0] Zv G1f (zzQ O) O O) O (Ho (u:=.junk) (H7 (u:=.agg [.fn 123 [.dptr [BL holds]],I64 bad]) (ds:=[.fn 123 [.dptr [BL holds]],I64 bad]) Q30 O O O O O O O O) (G5 (b (Gs (⟨[.agg [.fn 123 [.dptr [BL holds]],I64 bad]],[],ø,O,⟨⟨_,⟨_,_,_,_,O,O,O,.inl ⟨Qb0,O⟩⟩,.conv (.same O)⟩,ø⟩,O,congrArg (fun _:Unit=>(.agg [.fn 123 [.dptr [BL holds]],I64 bad]:AV)) (M7 h)⟩))))))))

def G03 (s:List Int) (v:Int):Option Int:=
 each (fun b c (d:Unit) a=>
  bif decide (v=b) then
  (some (c:Int))
  else
  (a ()))
 (fun(d:Unit)=>
  some (-1)) s 0 ()
theorem J16 (s:List Int) (v:Int) (r:Int) (h:G03 s v=some r):Pure En 143 [Eb s,U8 v] (·=I64 r):=by
 unfold G03 at h
 refine Gx [.tmp 4] Tryz.func143 O O (Jr fun w=>(JLm (I64 0) O (G5 (w (Js fun x=>Jr fun z=>(JLm (Eb s) O (JLl Gb2 O O O fun a0=>(JLm (I64 0) O (G5 (z (Gq ?_)))))))))))
 obtain⟨a1,i,j,g,h⟩:=Jc h
 refine Hn (fun a (b:Unit)=>each a1 i (List.drop a s) a b=some r) (fun a b=>[(0,Eb s),(1,U8 v),(7,Em s.length),(8,Em a)]) (fun a b=>[]) (fun a=>s.length - a) 0 () h ⟨(.sm O O),ø,rfl⟩ ?_
 clear h
 intro a b d a4 a2
 refine Jr fun k=>(JLh (BL (decide ((a:Int) < (s.length:Int)))) (Jo O O O) O (G5 (k (Js fun l=>Gr O (fun hb=>?_) (fun hb=>?_)))))
 ·
  have e:=Q1 hb
  obtain⟨c,a3,m,n,h⟩:=Ht d e
  replace h:=Zn j h
  refine Gm (l (Js fun o=>Gq (Jr fun p=>(JLm (Em a) O (JLm (Em a) O (G5 (p (Jr fun q=>(JLm (U8 v) O (JLm (Eb s) O (JLm (Em a) O (JLh (.dptr [U8 c]) (Hb (f:=U8) (xs:=s) (y:=c) O O O Gb2 m O) O (JLh (U8 c) (Gg Hx O O O) O (JLh (BL (decide (v=c))) (Qk O O O) O (G5 (q (JCc O h (fun h hb=>?_) (fun h hb=>?_))))))))))))))))))
  ·
   refine Jr fun t=>(JLm (Em a) O (JLm (Em a) O (G5 (t (Gs (fin1 I64 h))))))
  ·
   refine Gm (o (G2 (JLh (I64 ((a+1:Nat):Int)) (Ja (Hp e a0) O O O) O (JLm (I64 ((a+1:Nat):Int)) O (G5 (a2 _ _ (a+1) () (app1 n h) (by omega) ⟨(.sm O O),ø,rfl⟩))))))
 ·
  have h:=app1 g (Hu d (Hh hb))
  refine Hr (x (Jr fun u=>(JLm (I64 (-1)) O (G5 (u (Gs (fin1 I64 h)))))))

def Z4 (s:List Int) (v:Int):Option Bool:=
 bnd (G03 s v) fun a=>
 some (decide (0≤a))
theorem Ha9 (s:List Int) (v:Int) (r:Bool) (h:Z4 s v=some r):Pure En 112 [Eb s,U8 v] (·=BL r):=by
 unfold Z4 at h
 refine Gx [.tmp 4] Tryz.func112 O O (Jr fun b=>(JLm (BL false) O (G5 (b (Jr fun c=>(JLm (Eb s) O (JLm (U8 v) O ?_)))))))
 obtain⟨a,d,h⟩:=Ge h
 refine JLh (I64 a) (Gu O (J16 s v a d) Ra2 ⟨O,O,O,O,ø⟩) O (JLh (BL (decide (0≤a))) (H24 O O O) O (JLm (BL (decide (0≤a))) O (G5 (c (Gs (fin1 BL h))))))

def G73 (s:Gi) (x:Slot) (size:Int):Option Bool:=
 bnd (bif (((decide (0≤x.G3))&&(decide (x.G3 < (s.Columns.length:Int))))&&(decide (0≤x.Tier))) then Qw s.Columns x.G3 some else some default) fun a=>
 bnd (bif ((((decide (0≤x.G3))&&(decide (x.G3 < (s.Columns.length:Int))))&&(decide (0≤x.Tier)))&&(decide (x.Tier < a.Tiers))) then G4c size else some default) fun b=>
 bnd (bif ((((decide (0≤x.G3))&&(decide (x.G3 < (s.Columns.length:Int))))&&(decide (0≤x.Tier)))&&(decide (x.Tier < a.Tiers))) then Z4 b x.Half else some default) fun c=>
 some (((((decide (0≤x.G3))&&(decide (x.G3 < (s.Columns.length:Int))))&&(decide (0≤x.Tier)))&&(decide (x.Tier < a.Tiers)))&&c)
theorem J53 (s:Gi) (x:Slot) (size:Int) (r:Bool) (h:G73 s x size=some r):Pure En 63 [.agg (Gi.cs s),.agg [I64 x.G3,I64 x.Tier,U8 x.Half],U8 size] (·=BL r):=by
 unfold G73 at h
 refine Gx [.tmp 6] Tryz.func63 O O (Jr fun d=>(JLh (.ptr 1125 0) (Q4 (cs:=(Gi.cs s)) 1125 O O O O O) O (JLh (.ptr 1126 0) (Q4 (cs:=[I64 x.G3,I64 x.Tier,U8 x.Half]) 1126 O O O O O) O (JLm (BL false) O (G5 (d (Gn [(2,U8 size),(3,Ee s),(4,.ptr 1126 0)] [(1126,.box 57 [I64 x.G3,I64 x.Tier,U8 x.Half])] 1125 rfl rfl rfl ⟨⟨_,rfl,.boxEq rfl rfl⟩,ø⟩ rfl (by exact⟨.conv (.same rfl),.ptr,.conv (.same rfl),ø⟩) ?_)))))))
 refine Gn [(2,U8 size),(3,Ee s),(4,.dptr [I64 x.G3,I64 x.Tier,U8 x.Half])] [] 1126 rfl rfl rfl ø rfl (by exact⟨.conv (.same rfl),.conv (.same rfl),.ptr,ø⟩) (Js fun e=>?_)
 obtain⟨a,g,h⟩:=Ge h
 obtain⟨b,i,h⟩:=Ge h
 obtain⟨c,j,h⟩:=Ge h
 refine JC_d0 J9 (by kernel_rfl) (Dq (.dptr [I64 x.G3,I64 x.Tier,U8 x.Half]) (Ga J7 O O O) O (Dq (I64 x.G3) (Gg Gb O O O) O (Dq (BL (decide (0≤x.G3))) (H24 O O O) O (Dq (BL (decide (0≤x.G3))) (G6 O O) O (Do (.dptr [I64 x.G3,I64 x.Tier,U8 x.Half]) [] O .sct ø (fun hc=>Ga J7 O O O) O (Do (I64 x.G3) [11] O .sct ⟨Ua,ø⟩ (fun hc=>Gg Gb O O O) O (Do (Ee s) [] O .sct ø (fun hc=>Ga J8 O O O) O (Do (E3 s.Columns) [13] O .sct ⟨Ua,ø⟩ (fun hc=>Gg Jp O O O) O (Do (Em s.Columns.length) [14] O .sct ⟨Ua,ø⟩ (fun hc=>H69 (f:=G3.av) (xs:=s.Columns) Hy O O) O (Do (BL (decide (x.G3 < (s.Columns.length:Int)))) [12,15] O .sct ⟨Ua,Ua,ø⟩ (fun hc=>Jo O O O) O (Dq (BL ((decide (0≤x.G3))&&(decide (x.G3 < (s.Columns.length:Int))))) (Y4 O O O O) O (Dq (BL ((decide (0≤x.G3))&&(decide (x.G3 < (s.Columns.length:Int))))) (G6 O O) O (Do (.dptr [I64 x.Tier,U8 x.Half]) [] O .sct ø (fun hc=>Ga Qv O O O) O ?_)))))))))))))
 refine Do (I64 x.Tier) [19] O .sct ⟨Ua,ø⟩ (fun hc=>Gg Gb O O O) O (Do (BL (decide (0≤x.Tier))) [20] O .sct ⟨Ua,ø⟩ (fun hc=>H24 O O O) O (Dq (BL (((decide (0≤x.G3))&&(decide (x.G3 < (s.Columns.length:Int))))&&(decide (0≤x.Tier)))) (Y4 O O O O) O (Dq (BL (((decide (0≤x.G3))&&(decide (x.G3 < (s.Columns.length:Int))))&&(decide (0≤x.Tier)))) (G6 O O) O (Do (.dptr [I64 x.Tier,U8 x.Half]) [] O .sct ø (fun hc=>Ga Qv O O O) O (Do (I64 x.Tier) [24] O .sct ⟨Ua,ø⟩ (fun hc=>Gg Gb O O O) O (Do (Ee s) [] O .sct ø (fun hc=>Ga J8 O O O) O (Do (E3 s.Columns) [26] O .sct ⟨Ua,ø⟩ (fun hc=>Gg Jp O O O) O (Do (.dptr [I64 x.G3,I64 x.Tier,U8 x.Half]) [] O .sct ø (fun hc=>Ga J7 O O O) O (Do (I64 x.G3) [28] O .sct ⟨Ua,ø⟩ (fun hc=>Gg Gb O O O) O (Do (Ej a) [27,29] O .sct ⟨Ua,Ua,ø⟩ (fun hc=>(match Gba (H4 hc g) with | ⟨_,hm_,hy_⟩=>Hb (f:=G3.av) (xs:=s.Columns) (y:=a) O O O Hy hy_ hm_)) O (Do (.dptr ((G3.cs a).drop 3)) [30] O .sct ⟨Ua,ø⟩ (fun hc=>Ga H3d O O O) O (Do (I64 a.Tiers) [31] O .sct ⟨Ua,ø⟩ (fun hc=>Gg Gb O O O) O (Do (BL (decide (x.Tier < a.Tiers))) [25,32] O .sct ⟨Ua,Ua,ø⟩ (fun hc=>Jo O O O) O ?_)))))))))))))
 refine Dq (BL ((((decide (0≤x.G3))&&(decide (x.G3 < (s.Columns.length:Int))))&&(decide (0≤x.Tier)))&&(decide (x.Tier < a.Tiers)))) (Y4 O O O O) O (Dq (BL ((((decide (0≤x.G3))&&(decide (x.G3 < (s.Columns.length:Int))))&&(decide (0≤x.Tier)))&&(decide (x.Tier < a.Tiers)))) (G6 O O) O (Do (U8 size) [] O .sct ø (fun hc=>G6 O O) O (Do (Eb b) [36] O .sct ⟨Ua,ø⟩ (fun hc=>Gu (args:=[U8 size]) O (J23 size b (H4 hc i)) Q3a ⟨O,O,ø⟩) O (Do (.dptr [U8 x.Half]) [] O .sct ø (fun hc=>Ga Qu O O O) O (Do (U8 x.Half) [38] O .sct ⟨Ua,ø⟩ (fun hc=>Gg Hx O O O) O (Do (BL c) [37,39] O .sct ⟨Ua,Ua,ø⟩ (fun hc=>Gu (args:=[Eb b,U8 x.Half]) O (Ha9 b x.Half c (H4 hc j)) Raf ⟨O,O,O,O,ø⟩) O (Dq (BL (((((decide (0≤x.G3))&&(decide (x.G3 < (s.Columns.length:Int))))&&(decide (0≤x.Tier)))&&(decide (x.Tier < a.Tiers)))&&c)) (Y4 O O O O) O (Dq (BL (((((decide (0≤x.G3))&&(decide (x.G3 < (s.Columns.length:Int))))&&(decide (0≤x.Tier)))&&(decide (x.Tier < a.Tiers)))&&c)) (G7 O O) O (Dnil ?_)))))))))
 refine e (Gs (fin1 BL h))

def Ya (s:List Slot) (v:Slot):Option Int:=
 each (fun b c (d:Unit) a=>
  bif decide (v=b) then
  (some (c:Int))
  else
  (a ()))
 (fun(d:Unit)=>
  some (-1)) s 0 ()
theorem Hd4 (s:List Slot) (v:Slot) (r:Int) (h:Ya s v=some r):Pure En 144 [E9 s,.agg [I64 v.G3,I64 v.Tier,U8 v.Half]] (·=I64 r):=by
 unfold Ya at h
 refine Gx [.tmp 4] Tryz.func144 O O (Jr fun w=>(JLh (.ptr 1203 0) (Q4 (cs:=[I64 v.G3,I64 v.Tier,U8 v.Half]) 1203 O O O O O) O (JLm (I64 0) O (G5 (w (Gn [(0,E9 s),(3,.dptr [I64 v.G3,I64 v.Tier,U8 v.Half])] [] 1203 rfl rfl rfl ø rfl (by exact⟨.conv (.same rfl),.ptr,ø⟩) (Js fun x=>Jr fun z=>(JLm (E9 s) O (JLl Y9 O O O fun a0=>(JLm (I64 0) O (G5 (z (Gq ?_)))))))))))))
 obtain⟨a1,i,j,g,h⟩:=Jc h
 refine Hn (fun a (c:Unit)=>each a1 i (List.drop a s) a c=some r) (fun a c=>[(0,E9 s),(3,.dptr [I64 v.G3,I64 v.Tier,U8 v.Half]),(7,Em s.length),(8,Em a)]) (fun a c=>[]) (fun a=>s.length - a) 0 () h ⟨(.sm O O),ø,rfl⟩ ?_
 clear h
 intro a c d a4 a2
 refine Jr fun k=>(JLh (BL (decide ((a:Int) < (s.length:Int)))) (Jo O O O) O (G5 (k (Js fun l=>Gr O (fun hb=>?_) (fun hb=>?_)))))
 ·
  have e:=Q1 hb
  obtain⟨b,a3,m,n,h⟩:=Ht d e
  replace h:=Zn j h
  refine Gm (l (Js fun o=>Gq (Jr fun p=>(JLm (Em a) O (JLm (Em a) O (G5 (p (Js fun q=>JC_d0 J9 (by kernel_rfl) (Dq (.agg [I64 v.G3,I64 v.Tier,U8 v.Half]) (Gk J2 O O O) O (Dq (E9 s) (G6 O O) O (Dq (Em a) (G6 O O) O (Dq (Ek b) (Hb (f:=Slot.av) (xs:=s) (y:=b) O O O Y9 m O) O (Dq (.agg (Slot.cs b)) (Gk J2 O O O) O (Dq (BL (decide (v=b))) (Y9c (vs:=[.int .i64 v.G3,.int .i64 v.Tier,.int .u8 v.Half]) (us:=[.int .i64 b.G3,.int .i64 b.Tier,.int .u8 b.Half]) 4 O (Y6e v b) J3e Q03 O O O) O (Dnil (q (JCc O h (fun h hb=>?_) (fun h hb=>?_))))))))))))))))))
  ·
   refine Jr fun t=>(JLm (Em a) O (JLm (Em a) O (G5 (t (Gs (fin1 I64 h))))))
  ·
   refine Gm (o (G2 (JLh (I64 ((a+1:Nat):Int)) (Ja (Hp e a0) O O O) O (JLm (I64 ((a+1:Nat):Int)) O (G5 (a2 _ _ (a+1) () (app1 n h) (by omega) ⟨(.sm O O),ø,rfl⟩))))))
 ·
  have h:=app1 g (Hu d (Hh hb))
  refine Hr (x (Jr fun u=>(JLm (I64 (-1)) O (G5 (u (Gs (fin1 I64 h)))))))

def Qc (s:List Slot) (v:Slot):Option Bool:=
 bnd (Ya s v) fun a=>
 some (decide (0≤a))
theorem H78 (s:List Slot) (v:Slot) (r:Bool) (h:Qc s v=some r):Pure En 115 [E9 s,.agg [I64 v.G3,I64 v.Tier,U8 v.Half]] (·=BL r):=by
 unfold Qc at h
 refine Gx [.tmp 4] Tryz.func115 O O (Jr fun b=>(JLh (.ptr 1182 0) (Q4 (cs:=[I64 v.G3,I64 v.Tier,U8 v.Half]) 1182 O O O O O) O (JLm (BL false) O (G5 (b (Gn [(0,E9 s),(3,.dptr [I64 v.G3,I64 v.Tier,U8 v.Half])] [] 1182 rfl rfl rfl ø rfl (by exact⟨.conv (.same rfl),.ptr,ø⟩) (Jr fun c=>(JLm (E9 s) O (JLh (.agg [I64 v.G3,I64 v.Tier,U8 v.Half]) (Gk J2 O O O) O ?_)))))))))
 obtain⟨a,d,h⟩:=Ge h
 refine JLh (I64 a) (Gu O (Hd4 s v a d) Ra1 ⟨O,O,O,O,ø⟩) O (JLh (BL (decide (0≤a))) (H24 O O O) O (JLm (BL (decide (0≤a))) O (G5 (c (Gs (fin1 BL h))))))

def Zd (half:Int) (b:List Slot) (a:Slot):Option Bool:=
 chk (a.Tier - 1) fun c=>
 bnd (Qc b (Slot.mk a.G3 c half)) fun d=>
 some d
theorem H68 (half:Int) (b:List Slot) (a:Slot) (r:Bool) (h:Zd half b a=some r):Pure En 114 [U8 half,.dptr [E9 b],.dptr [I64 a.G3,I64 a.Tier,U8 a.Half]] (·=BL r):=by
 unfold Zd at h
 refine Gx [.tmp 4] Tryz.func114 O O (Jr fun e=>(JLm (BL false) O (G5 (e (Jr fun f=>(JLh (E9 b) (Gg Gce O O O) O (JLh (.dptr [I64 a.G3,I64 a.Tier,U8 a.Half]) (Ga J7 O O O) O (JLh (I64 a.G3) (Gg Gb O O O) O (JLh (.dptr [I64 a.Tier,U8 a.Half]) (Ga Qv O O O) O (JLh (I64 a.Tier) (Gg Gb O O O) O ?_))))))))))
 obtain⟨c,g,h⟩:=J0 h
 refine JLh (I64 c) (G84 g O O O) O (JLm (U8 half) O (JLh (.agg [I64 a.G3,I64 c,U8 half]) (Hg (cs:=[I64 a.G3,I64 c,U8 half]) [(0,1),(1,1),(2,1)] [I64 0,I64 0,U8 0] [E0,E0,.int .u8 0] H05 Ge3 (zzQ O) O O) O ?_))
 obtain⟨d,i,h⟩:=Ge h
 refine JLh (BL d) (Gu O (H78 b (Slot.mk a.G3 c half) d i) Rae ⟨O,O,O,O,ø⟩) O (JLm (BL d) O (G5 (f (Gs (fin1 BL h)))))

def G43 (x:Slot) (l:List Slot):Option Bool:=
 bif decide (x.Tier≤0) then
 (some true)
 else
 (bnd (Zd x.Half l x) fun a=>
  bnd (bif ((!a)&&(decide (x.Half=0))) then Zd 1 l x else some default) fun b=>
  bnd (bif ((!a)&&((decide (x.Half=0))&&b)) then Zd 2 l x else some default) fun c=>
  some (a||(((decide (x.Half=0))&&b)&&c)))
abbrev Er (l:List Slot) (x:Slot):List AV:=[.dptr [E9 l],.dptr [I64 x.G3,I64 x.Tier,U8 x.Half]]
theorem J92 (x:Slot) (l:List Slot) (r:Bool) (h:G43 x l=some r):Pure En 64 [.agg [I64 x.G3,I64 x.Tier,U8 x.Half],E9 l] (·=BL r):=by
 unfold G43 at h
 refine Gx [.tmp 4] Tryz.func64 O O (Jr fun d=>(JLh (.ptr 1127 0) (Q4 (cs:=[I64 x.G3,I64 x.Tier,U8 x.Half]) 1127 O O O O O) O (JLh (.ptr 1128 0) (Q4 (cs:=[E9 l]) 1128 O O O O O) O (JLm (BL false) O (G5 (d (Gn [(2,.dptr [I64 x.G3,I64 x.Tier,U8 x.Half]),(3,.ptr 1128 0)] [(1128,.box 133 [E9 l])] 1127 rfl rfl rfl ⟨⟨_,rfl,.boxEq rfl rfl⟩,ø⟩ rfl (by exact⟨.ptr,.conv (.same rfl),ø⟩) (Gn [(2,.dptr [I64 x.G3,I64 x.Tier,U8 x.Half]),(3,.dptr [E9 l])] [] 1128 rfl rfl rfl ø rfl (by exact⟨.conv (.same rfl),.ptr,ø⟩) (Js fun e=>Jr fun f=>(JLh (.dptr [I64 x.Tier,U8 x.Half]) (Ga Qv O O O) O (JLh (I64 x.Tier) (Gg Gb O O O) O (JLh (BL (decide (x.Tier≤0))) (Hc5 O O O) O (G5 (f ?_))))))))))))))
 refine JCc O h ?_ ?_<;>intro h hb
 ·
  refine Jr fun g=>(JLm (BL true) O (G5 (g (Gs (fin1 BL h)))))
 ·
  refine Gm (e (Jr fun i=>(JLh (.fn 114 (Er l x)) (Q2 (cs:=(Er l x)) O O) O (JLm (.fn 114 (Er l x)) O (G5 (i (Jr fun j=>(JLm (.fn 114 (Er l x)) O (JLh (.dptr [U8 x.Half]) (Ga Qu O O O) O (JLh (U8 x.Half) (Gg Hx O O O) O ?_))))))))))
  obtain⟨b,k,h⟩:=Ge h
  refine JLh (BL b) (G1b (args:=[U8 x.Half]) (caps:=(Er l x)) O O (H68 x.Half l x b k) J3d ⟨O,O,ø⟩ O) O (JLm (BL b) O (JLo (.dptr [U8 x.Half]) [] O .scf ø (fun hc=>Ga Qu O O O) O (JLo (U8 x.Half) [15] O .scf ⟨Ua,ø⟩ (fun hc=>Gg Hx O O O) O (JLo (BL (decide (x.Half=0))) [16] O .scf ⟨Ua,ø⟩ (fun hc=>Qk O O O) O (JLo (BL (decide (x.Half=0))) [17] O .scf ⟨Ua,ø⟩ (fun hc=>G6 O O) O (JLo (.fn 114 (Er l x)) [] O .optt ø (fun hc=>G6 O O) O ?_))))))
  obtain⟨a,m,h⟩:=Ge h
  refine JLo (BL a) [19] O .optt ⟨Ua,ø⟩ (fun hc=>G1b (args:=[U8 1]) (caps:=(Er l x)) O O (H68 1 l x a (H4 hc m)) J3d ⟨O,O,ø⟩ O) O (Gj (u:=BL ((decide (x.Half=0))&&a)) [(18,BL (decide (x.Half=0))),(20,_)] O O O .scf ⟨.all id,.part,ø⟩ (fun hc=>Y4 O O O O) ?_)
  refine JLo (BL ((decide (x.Half=0))&&a)) [21] O .scf ⟨Ua,ø⟩ (fun hc=>G6 O O) O (JLo (.fn 114 (Er l x)) [] O .optt ø (fun hc=>G6 O O) O ?_)
  obtain⟨c,n,h⟩:=Ge h
  refine JLo (BL c) [23] O .optt ⟨Ua,ø⟩ (fun hc=>G1b (args:=[U8 2]) (caps:=(Er l x)) O O (H68 2 l x c (H4 hc n)) J3d ⟨O,O,ø⟩ O) O (Gj (u:=BL (((decide (x.Half=0))&&a)&&c)) [(22,BL ((decide (x.Half=0))&&a)),(24,_)] O O O .scf ⟨.all id,.part,ø⟩ (fun hc=>Y4 O O O O) ?_)
  refine JLh (BL (b||(((decide (x.Half=0))&&a)&&c))) (G94 O O O O) O (JLm (BL (b||(((decide (x.Half=0))&&a)&&c))) O (G5 (j (Gs (fin1 BL h)))))

def G8d (a:Int) (b:Int):Option Bool:=
 some (((decide (a=b))||(decide (a=0)))||(decide (b=0)))
theorem J22 (a:Int) (b:Int) (r:Bool) (h:G8d a b=some r):Pure En 116 [U8 a,U8 b] (·=BL r):=by
 unfold G8d at h
 refine Gx [.tmp 4] Tryz.func116 O O (Jr fun c=>(JLm (BL false) O (G5 (c (Jr fun d=>(JLm (U8 a) O (JLm (U8 b) O (JLh (BL (decide (a=b))) (Qk O O O) O (JLm (BL (decide (a=b))) O (JLo (U8 a) [] O .scf ø (fun hc=>G6 O O) O (JLo (BL (decide (a=0))) [9] O .scf ⟨Ua,ø⟩ (fun hc=>Qk O O O) O (JLh (BL ((decide (a=b))||(decide (a=0)))) (G94 O O O O) O (JLm (BL ((decide (a=b))||(decide (a=0)))) O (JLo (U8 b) [] O .scf ø (fun hc=>G6 O O) O (JLo (BL (decide (b=0))) [13] O .scf ⟨Ua,ø⟩ (fun hc=>Qk O O O) O (JLh (BL (((decide (a=b))||(decide (a=0)))||(decide (b=0)))) (G94 O O O O) O (JLm (BL (((decide (a=b))||(decide (a=0)))||(decide (b=0)))) O (G5 (d (Gs (fin1 BL h)))))))))))))))))))))

def Gfe (a:Slot) (b:Slot):Option Bool:=
 bnd (bif ((decide (a.G3=b.G3))&&(decide (a.Tier=b.Tier))) then G8d a.Half b.Half else some default) fun c=>
 some (((decide (a.G3=b.G3))&&(decide (a.Tier=b.Tier)))&&c)
theorem J91 (a:Slot) (b:Slot) (r:Bool) (h:Gfe a b=some r):Pure En 65 [.agg [I64 a.G3,I64 a.Tier,U8 a.Half],.agg [I64 b.G3,I64 b.Tier,U8 b.Half]] (·=BL r):=by
 unfold Gfe at h
 refine Gx [.tmp 4] Tryz.func65 O O (Jr fun d=>(JLh (.ptr 1129 0) (Q4 (cs:=[I64 a.G3,I64 a.Tier,U8 a.Half]) 1129 O O O O O) O (JLh (.ptr 1130 0) (Q4 (cs:=[I64 b.G3,I64 b.Tier,U8 b.Half]) 1130 O O O O O) O (JLm (BL false) O (G5 (d (Gn [(2,.dptr [I64 a.G3,I64 a.Tier,U8 a.Half]),(3,.ptr 1130 0)] [(1130,.box 57 [I64 b.G3,I64 b.Tier,U8 b.Half])] 1129 rfl rfl rfl ⟨⟨_,rfl,.boxEq rfl rfl⟩,ø⟩ rfl (by exact⟨.ptr,.conv (.same rfl),ø⟩) (Gn [(2,.dptr [I64 a.G3,I64 a.Tier,U8 a.Half]),(3,.dptr [I64 b.G3,I64 b.Tier,U8 b.Half])] [] 1130 rfl rfl rfl ø rfl (by exact⟨.conv (.same rfl),.ptr,ø⟩) ?_))))))))
 refine Jr fun e=>(JLh (.dptr [I64 a.G3,I64 a.Tier,U8 a.Half]) (Ga J7 O O O) O (JLh (I64 a.G3) (Gg Gb O O O) O (JLh (.dptr [I64 b.G3,I64 b.Tier,U8 b.Half]) (Ga J7 O O O) O (JLh (I64 b.G3) (Gg Gb O O O) O (JLh (BL (decide (a.G3=b.G3))) (Qk O O O) O (JLm (BL (decide (a.G3=b.G3))) O (JLo (.dptr [I64 a.Tier,U8 a.Half]) [] O .sct ø (fun hc=>Ga Qv O O O) O (JLo (I64 a.Tier) [11] O .sct ⟨Ua,ø⟩ (fun hc=>Gg Gb O O O) O (JLo (.dptr [I64 b.Tier,U8 b.Half]) [] O .sct ø (fun hc=>Ga Qv O O O) O (JLo (I64 b.Tier) [13] O .sct ⟨Ua,ø⟩ (fun hc=>Gg Gb O O O) O (JLo (BL (decide (a.Tier=b.Tier))) [12,14] O .sct ⟨Ua,Ua,ø⟩ (fun hc=>Qk O O O) O (JLh (BL ((decide (a.G3=b.G3))&&(decide (a.Tier=b.Tier)))) (Y4 O O O O) O (JLm (BL ((decide (a.G3=b.G3))&&(decide (a.Tier=b.Tier)))) O ?_)))))))))))))
 refine JLo (.dptr [U8 a.Half]) [] O .sct ø (fun hc=>Ga Qu O O O) O (JLo (U8 a.Half) [18] O .sct ⟨Ua,ø⟩ (fun hc=>Gg Hx O O O) O (JLo (.dptr [U8 b.Half]) [] O .sct ø (fun hc=>Ga Qu O O O) O (JLo (U8 b.Half) [20] O .sct ⟨Ua,ø⟩ (fun hc=>Gg Hx O O O) O ?_)))
 obtain⟨c,f,h⟩:=Ge h
 refine JLo (BL c) [19,21] O .sct ⟨Ua,Ua,ø⟩ (fun hc=>Gu (args:=[U8 a.Half,U8 b.Half]) O (J22 a.Half b.Half c (H4 hc f)) Q39 ⟨O,O,O,O,ø⟩) O (JLh (BL (((decide (a.G3=b.G3))&&(decide (a.Tier=b.Tier)))&&c)) (Y4 O O O O) O (JLm (BL (((decide (a.G3=b.G3))&&(decide (a.Tier=b.Tier)))&&c)) O (G5 (e (Gs (fin1 BL h))))))

def Gfd (a:Slot) (b:Slot):Option Bool:=
 bnd (bif ((decide (a.G3=b.G3))&&(decide (b.Tier < a.Tier))) then G8d a.Half b.Half else some default) fun c=>
 some (((decide (a.G3=b.G3))&&(decide (b.Tier < a.Tier)))&&c)
theorem J90 (a:Slot) (b:Slot) (r:Bool) (h:Gfd a b=some r):Pure En 71 [.agg [I64 a.G3,I64 a.Tier,U8 a.Half],.agg [I64 b.G3,I64 b.Tier,U8 b.Half]] (·=BL r):=by
 unfold Gfd at h
 refine Gx [.tmp 4] Tryz.func71 O O (Jr fun d=>(JLh (.ptr 1140 0) (Q4 (cs:=[I64 a.G3,I64 a.Tier,U8 a.Half]) 1140 O O O O O) O (JLh (.ptr 1141 0) (Q4 (cs:=[I64 b.G3,I64 b.Tier,U8 b.Half]) 1141 O O O O O) O (JLm (BL false) O (G5 (d (Gn [(2,.dptr [I64 a.G3,I64 a.Tier,U8 a.Half]),(3,.ptr 1141 0)] [(1141,.box 57 [I64 b.G3,I64 b.Tier,U8 b.Half])] 1140 rfl rfl rfl ⟨⟨_,rfl,.boxEq rfl rfl⟩,ø⟩ rfl (by exact⟨.ptr,.conv (.same rfl),ø⟩) (Gn [(2,.dptr [I64 a.G3,I64 a.Tier,U8 a.Half]),(3,.dptr [I64 b.G3,I64 b.Tier,U8 b.Half])] [] 1141 rfl rfl rfl ø rfl (by exact⟨.conv (.same rfl),.ptr,ø⟩) ?_))))))))
 refine Jr fun e=>(JLh (.dptr [I64 a.G3,I64 a.Tier,U8 a.Half]) (Ga J7 O O O) O (JLh (I64 a.G3) (Gg Gb O O O) O (JLh (.dptr [I64 b.G3,I64 b.Tier,U8 b.Half]) (Ga J7 O O O) O (JLh (I64 b.G3) (Gg Gb O O O) O (JLh (BL (decide (a.G3=b.G3))) (Qk O O O) O (JLm (BL (decide (a.G3=b.G3))) O (JLo (.dptr [I64 a.Tier,U8 a.Half]) [] O .sct ø (fun hc=>Ga Qv O O O) O (JLo (I64 a.Tier) [11] O .sct ⟨Ua,ø⟩ (fun hc=>Gg Gb O O O) O (JLo (.dptr [I64 b.Tier,U8 b.Half]) [] O .sct ø (fun hc=>Ga Qv O O O) O (JLo (I64 b.Tier) [13] O .sct ⟨Ua,ø⟩ (fun hc=>Gg Gb O O O) O (JLo (BL (decide (b.Tier < a.Tier))) [12,14] O .sct ⟨Ua,Ua,ø⟩ (fun hc=>H01 O O O) O (JLh (BL ((decide (a.G3=b.G3))&&(decide (b.Tier < a.Tier)))) (Y4 O O O O) O (JLm (BL ((decide (a.G3=b.G3))&&(decide (b.Tier < a.Tier)))) O ?_)))))))))))))
 refine JLo (.dptr [U8 a.Half]) [] O .sct ø (fun hc=>Ga Qu O O O) O (JLo (U8 a.Half) [18] O .sct ⟨Ua,ø⟩ (fun hc=>Gg Hx O O O) O (JLo (.dptr [U8 b.Half]) [] O .sct ø (fun hc=>Ga Qu O O O) O (JLo (U8 b.Half) [20] O .sct ⟨Ua,ø⟩ (fun hc=>Gg Hx O O O) O ?_)))
 obtain⟨c,f,h⟩:=Ge h
 refine JLo (BL c) [19,21] O .sct ⟨Ua,Ua,ø⟩ (fun hc=>Gu (args:=[U8 a.Half,U8 b.Half]) O (J22 a.Half b.Half c (H4 hc f)) Q39 ⟨O,O,O,O,ø⟩) O (JLh (BL (((decide (a.G3=b.G3))&&(decide (b.Tier < a.Tier)))&&c)) (Y4 O O O O) O (JLm (BL (((decide (a.G3=b.G3))&&(decide (b.Tier < a.Tier)))&&c)) O (G5 (e (Gs (fin1 BL h))))))
end
end Go.Proofs.YtgcpimpnpcdmmaaGreat
