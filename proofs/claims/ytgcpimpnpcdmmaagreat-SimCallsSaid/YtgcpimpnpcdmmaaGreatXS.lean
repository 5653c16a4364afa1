/- Walks of functions. -/
import Derived.Test.YtgcpimpnpcdmmaaGreatXC
set_option maxRecDepth 100000
set_option maxHeartbeats 1000000
set_option linter.unusedVariables false
set_option linter.unusedSimpArgs false
namespace Go.Proofs.YtgcpimpnpcdmmaaGreat
open Go.RowKit
noncomputable section
structure Box where
 ID:Int
 Number:ByteArray
 Size:Int
 High:Bool
 Kilos:Int
 Load:Int
 Discharge:Int
 Class:Int
 Reefer:Bool
 deriving DecidableEq,Inhabited
def Box.cs (x:Box):List AV:=[I64 x.ID,ST x.Number,U8 x.Size,BL x.High,I64 x.Kilos,I64 x.Load,I64 x.Discharge,U8 x.Class,BL x.Reefer]
def Box.av (x:Box):AV:=.agg x.cs
abbrev Ei (x:Box):AV:=.dptr (Box.cs x)
abbrev E7:=LS 9 Box.av
def Slot.ks (x:Slot):List Value:=[.int .i64 x.G3,.int .i64 x.Tier,.int .u8 x.Half]
def Slot.kv (x:Slot):Value:=.agg x.ks.toArray
structure Gc where
 ship:Gh
 on:Gu Slot Box
 quay:Gu Int Box
 open_:Gu Int Int
 lifts:Int
 deriving Inhabited
def Gc.cs (x:Gc):List AV:=[E3 x.ship.Columns,E8 x.ship.Covers,I64 x.ship.Light.Kilos,I64 x.ship.Light.X,I64 x.ship.Light.Y,I64 x.ship.Light.Z,E4 x.ship.Rows,E5 x.ship.Frames,E6 x.ship.Tanks,I64 x.ship.G8.Tolerance,I64 x.ship.G8.Trim,I64 x.ship.G8.List_,I64 x.ship.G8.Stability,DM Slot.kv Box.av x.on,DM Ks Box.av x.quay,DM Ks I64 x.open_,I64 x.lifts]
def Gc.av (x:Gc):AV:=.agg x.cs
abbrev Eg (x:Gc):AV:=.dptr (Gc.cs x)
structure J1 where
 f:FuncId
 c:List AV
 val:Option Bool
 bad:Int
 B:Gz En f=true
 d:Q9 (fun _=>false) c=true
 w:∀ q,val=some q→Pure En f ([]++c) (·=BL q)
def J1.cs (x:J1):List AV:=[.fn x.f x.c,I64 x.bad]
def J1.av (x:J1):AV:=.agg x.cs
def H33:List (Option Bool×Int)→Option Int
 | []=>some 0
 | (v,b)::r=>v.bind fun q=>bif q then H33 r else some b
namespace XSF
open XAF
open XCF
theorem Y4a (a b:Slot):J98 En 4 57 [.int .i64 a.G3,.int .i64 a.Tier,.int .u8 a.Half] [.int .i64 b.G3,.int .i64 b.Tier,.int .u8 b.Half]=some (decide (a=b)):=by
 refine(show _=some ((a.G3==b.G3)&&((a.Tier==b.Tier)&&((a.Half==b.Half)&&true))) by kernel_rfl).trans (congrArg some ?_)
 rw [Bool.eq_iff_iff]
 simp only [Mj,beq_iff_eq,Mk,Bool.and_true]
 constructor
 ·intro h; obtain⟨_,_,_⟩:=a; obtain⟨_,_,_⟩:=b; simp_all
 ·intro h; subst h; simp
theorem R3:H25 En 103 9=true:=by kernel_rfl
theorem Q93:H25 En 151 2=true:=by kernel_rfl
theorem Jh:H25 En 36 13=true:=by kernel_rfl
theorem J0:H25 En 57 3=true:=by kernel_rfl
theorem J27:G42 En 57=true:=by kernel_rfl
theorem H68:Q3f En 4=true:=by kernel_rfl
theorem R8e:Gz En 110=true:=by kernel_rfl
theorem R8d:Gz En 111=true:=by kernel_rfl
theorem R8c:Gz En 112=true:=by kernel_rfl
theorem J26:Gz En 114=true:=by kernel_rfl
theorem R8b:Gz En 115=true:=by kernel_rfl
theorem Q18:Gz En 116=true:=by kernel_rfl
theorem R89:Gz En 119=true:=by kernel_rfl
theorem R88:Gz En 120=true:=by kernel_rfl
theorem R87:Gz En 121=true:=by kernel_rfl
theorem Q16:Gz En 126=true:=by kernel_rfl
theorem R7f:Gz En 143=true:=by kernel_rfl
theorem R7e:Gz En 144=true:=by kernel_rfl
theorem R7c:Gz En 146=true:=by kernel_rfl
theorem R7b:Gz En 147=true:=by kernel_rfl
theorem G5d:Gz En 40=true:=by kernel_rfl
theorem J8b:Gz En 62=true:=by kernel_rfl
theorem H6f:Gz En 70=true:=by kernel_rfl
theorem Je2:En.eqGuardType En.depth 57=false:=by kernel_rfl
theorem Qo:Jp En 103 0 0=true:=by kernel_rfl
theorem G1e:Jp En 103 2 2=true:=by kernel_rfl
theorem H6e:Jp En 103 3 3=true:=by kernel_rfl
theorem Q6a:Jp En 151 0 0=true:=by kernel_rfl
theorem Q69:Jp En 151 1 1=true:=by kernel_rfl
theorem J4:Jp En 57 0 0=true:=by kernel_rfl
theorem Qv:Jp En 57 1 1=true:=by kernel_rfl
theorem Qu:Jp En 57 2 2=true:=by kernel_rfl
theorem Yh:Jp En 94 0 0=true:=by kernel_rfl
theorem Yg:Jp En 94 1 13=true:=by kernel_rfl
theorem G74:Jp En 94 3 15=true:=by kernel_rfl
theorem Gbc:Jp En 94 4 16=true:=by kernel_rfl
theorem Rdf:Y5c En 90=true:=by kernel_rfl
theorem G72:Z1 En 90 57 103=true:=by kernel_rfl
theorem Ge0:Z1 En 92 3 3=true:=by kernel_rfl
theorem G71:placesOf En 103=some [(0,1),(1,1),(2,1),(3,1),(4,1),(5,1),(6,1),(7,1),(8,1)]:=by kernel_rfl
theorem Zk:placesOf En 151=some [(0,1),(1,1)]:=by kernel_rfl
theorem R02:Y8d En 52=true:=by kernel_rfl
theorem Gbb:R4 En 133=true:=by kernel_rfl
theorem R3a:R4 En 25=true:=by kernel_rfl
theorem He7:R4 En 46=true:=by kernel_rfl
theorem Yk:R4 En 90=true:=by kernel_rfl
theorem G5b:R4 En 92=true:=by kernel_rfl
theorem Rf:Y2 En 103 9=true:=by kernel_rfl
theorem Q0f:Y2 En 151 2=true:=by kernel_rfl
theorem Y9:Y2 En 57 3=true:=by kernel_rfl
theorem Y4:sliceB En 133 57 3=true:=by kernel_rfl
theorem Gf0:sliceB En 188 151 2=true:=by kernel_rfl
theorem Ru:sliceB En 37 103 9=true:=by kernel_rfl
theorem G56:(En.info? 103).bind (fun i=>i.zero.map Value.cells)=some (List.toArray [E0,.string ByteArray.empty,.int .u8 0,.bool false,E0,E0,E0,.int .u8 0,.bool false]):=by kernel_rfl
theorem G14:(En.info? 151).bind (fun i=>i.zero.map Value.cells)=some (List.toArray [.nilFunc,E0]):=by kernel_rfl
theorem Qw:Qz En 103 9=true:=by kernel_rfl
theorem H5c:Qz En 151 2=true:=by kernel_rfl
theorem Y8:Qz En 3 1=true:=by kernel_rfl
theorem Rc:Qz En 57 3=true:=by kernel_rfl
theorem J68:Gdc En 3 Ks:=Gdc.of_int (by kernel_rfl)
theorem R6d:Gdc En 57 Slot.kv:=Gdc.of_eq Slot.ks (by kernel_rfl) (fun a b h=>by simp only [Slot.ks,List.cons.injEq,Value.int.injEq,Value.bool.injEq,Value.string.injEq,true_and,and_true] at h; obtain⟨_,_,_⟩:=a; obtain⟨_,_,_⟩:=b; simp_all) 4 (by decide) (fun a b=>Y4a a b) (fun a=>by kernel_rfl) (fun a=>by simp [Instr.sameBits,Slot.ks])
end XSF
open XAF
open XCF
open XSF

def Gc5 (b:Box) (a:Int):Option Bool:=
 some (decide (b.ID=a))
theorem Q48 (b:Box) (a:Int) (r:Bool) (h:Gc5 b a=some r):Pure En 111 [.agg (Box.cs b),.dptr [I64 a]] (·=BL r):=by
 unfold Gc5 at h
 refine Gx [.tmp 3] Tryz.func111 O O (Jr fun c=>(JLh (.ptr 1176 0) (Q2 (cs:=(Box.cs b)) 1176 O O O O O) O (JLm (BL false) O (G5 (c (Gp [(1,.dptr [I64 a]),(2,Ei b)] [] 1176 rfl rfl rfl ø rfl (by exact⟨.conv (.same rfl),.ptr,ø⟩) (Jr fun d=>(JLh (Ei b) (Ga Qo O O O) O (JLh (I64 b.ID) (Gg Gb O O O) O (JLh (I64 a) (Gg Gb O O O) O (JLh (BL (decide (b.ID=a))) (Qm O O O) O (JLm (BL (decide (b.ID=a))) O (G5 (d (Gs (fin1 BL h))))))))))))))))

def Ze (s:List Box) (f:Box→Option Bool):Option Int:=
 each (fun b c (d:Unit) a=>
  bnd (f b) fun e=>
  bif e then
  (some (c:Int))
  else
  (a ()))
 (fun(d:Unit)=>
  some (-1)) s 0 ()
theorem H64 (s:List Box) (f:Box→Option Bool) (f_f:FuncId) (f_c:List AV) (f_B:Gz En f_f=true) (f_d:Q9 (fun _=>false) f_c=true) (f_w:∀ a0 q,f a0=some q→Pure En f_f ([.agg (Box.cs a0)]++f_c) (·=BL q)) (r:Int) (h:Ze s f=some r):Pure En 110 [E7 s,.fn f_f f_c] (·=I64 r):=by
 unfold Ze at h
 refine Gx [.tmp 4] Tryz.func110 O O (Jr fun x=>(JLm (I64 0) O (G5 (x (Js fun z=>Jr fun a1=>(JLm (E7 s) O (JLl Ru O O O fun a2=>(JLm (I64 0) O (G5 (a1 (Gq ?_)))))))))))
 obtain⟨a3,i,j,g,h⟩:=Jd h
 refine Hn (fun a (c:Unit)=>each a3 i (List.drop a s) a c=some r) (fun a c=>[(0,E7 s),(1,.fn f_f f_c),(7,Em s.length),(8,Em a)]) (fun a c=>[]) (fun a=>s.length - a) 0 () h ⟨⟨.same O,.same (Hf _ _ f_d),.same O,.same O,ø⟩,ø,O⟩ ?_
 clear h
 intro a c d a7 a4
 refine Jr fun k=>(JLh (BL (decide ((a:Int) < (s.length:Int)))) (Jq O O O) O (G5 (k (Js fun l=>Gr O (fun hb=>?_) (fun hb=>?_)))))
 ·
  have e:=Q5 hb
  obtain⟨b,a6,m,n,h⟩:=Hu d e
  replace h:=Zg j h
  refine Gn (l (Js fun o=>Gq (Jr fun p=>(JLm (Em a) O (JLm (Em a) O (G5 (p (Jr fun t=>(JLm (.fn f_f f_c) O (JLm (E7 s) O (JLm (Em a) O (JLh (Ei b) (Hg (f:=Box.av) (xs:=s) (y:=b) O O O Ru m O) O (JLh (.agg (Box.cs b)) (Gk R3 O O O) O ?_)))))))))))))
  obtain⟨a5,u,h⟩:=Ge h
  refine JLh (BL a5) (G11 (args:=[.agg (Box.cs b)]) (caps:=f_c) O O (f_w b _ u) f_B ⟨O,O,ø⟩ f_d) O (G5 (t (JCc O h (fun h hb=>?_) (fun h hb=>?_))))
  ·
   refine Jr fun v=>(JLm (Em a) O (JLm (Em a) O (G5 (v (Gs (fin1 I64 h))))))
  ·
   refine Gn (o (G2 (JLh (I64 ((a+1:Nat):Int)) (Jb (Hp e a2) O O O) O (JLm (I64 ((a+1:Nat):Int)) O (G5 (a4 _ _ (a+1) () (app1 n h) (by omega) ⟨⟨.same rfl,.same (Hf _ _ f_d),.same rfl,.same rfl,ø⟩,ø,rfl⟩))))))
 ·
  have h:=app1 g (Hv d (Hj hb))
  refine Hq (z (Jr fun w=>(JLm (I64 (-1)) O (G5 (w (Gs (fin1 I64 h)))))))

def G92 (boxes:List Box) (id_:Int):Option (Box×Bool):=
 bnd (Ze boxes (fun z0=>Gc5 z0 id_)) fun a=>
 bif decide (a < 0) then
 (some ((Box.mk 0 ByteArray.empty 0 false 0 0 0 0 false),false))
 else
 (Qy boxes a fun b=>
  some (b,true))
theorem Hc1 (boxes:List Box) (id_:Int) (r:Box×Bool) (h:G92 boxes id_=some r):Pure En 62 [E7 boxes,I64 id_] (·=.tup [.agg (Box.cs r.1),BL r.2]):=by
 unfold G92 at h
 refine Gx [.cell 4 103,.tmp 5] Tryz.func62 O O (Jr fun c=>(JLh (.ptr 1118 0) (Q2 (cs:=[I64 id_]) 1118 O O O O O) O (JLh (.ptr 1119 0) (Zw 1119 [I64 0,ST M0,U8 0,BL false,I64 0,I64 0,I64 0,U8 0,BL false] [E0,.string ByteArray.empty,.int .u8 0,.bool false,E0,E0,E0,.int .u8 0,.bool false] G56 (zzQ O) O O) O (JLm (BL false) O (G5 (c (Gp [(0,E7 boxes),(3,.dptr [I64 id_]),(4,.ptr 1119 0)] [(1119,.box 103 [I64 0,ST M0,U8 0,BL false,I64 0,I64 0,I64 0,U8 0,BL false])] 1118 rfl rfl rfl ⟨⟨_,rfl,.boxEq rfl rfl⟩,ø⟩ rfl (by exact⟨.conv (.same rfl),.ptr,.conv (.same rfl),ø⟩) ?_)))))))
 refine Jr fun d=>(JLm (E7 boxes) O (JLh (.fn 111 [.dptr [I64 id_]]) (Q4 (cs:=[.dptr [I64 id_]]) O O) O ?_))
 obtain⟨a,e,h⟩:=Ge h
 refine JLh (I64 a) (Gw O (H64 boxes (fun z0=>Gc5 z0 id_) 111 [.dptr [I64 id_]] R8d O (fun z0 q hq=>Q48 z0 id_ q hq) a e) R8e ⟨O,O,O,O,ø⟩) O (JLm (I64 a) O (G5 (d (Js fun g=>Jr fun i=>(JLm (I64 a) O (JLh (BL (decide (a < 0))) (Jq O O O) O (G5 (i (JCc O h (fun h hb=>?_) (fun h hb=>?_))))))))))
 ·
  refine Jr fun j=>(JLh (.agg [I64 0,ST M0,U8 0,BL false,I64 0,I64 0,I64 0,U8 0,BL false]) (He (cs:=[I64 0,ST M0,U8 0,BL false,I64 0,I64 0,I64 0,U8 0,BL false]) [(0,1),(1,1),(2,1),(3,1),(4,1),(5,1),(6,1),(7,1),(8,1)] [I64 0,ST M0,U8 0,BL false,I64 0,I64 0,I64 0,U8 0,BL false] [E0,.string ByteArray.empty,.int .u8 0,.bool false,E0,E0,E0,.int .u8 0,.bool false] G71 G56 (zzQ O) O O) O (Ho (u:=.junk) (H7 (u:=.agg [I64 0,ST M0,U8 0,BL false,I64 0,I64 0,I64 0,U8 0,BL false]) (ds:=[I64 0,ST M0,U8 0,BL false,I64 0,I64 0,I64 0,U8 0,BL false]) Rf O O O O O O O O) (JLm (BL false) O (G5 (j ?_)))))
  refine Gs (⟨[.agg [I64 0,ST M0,U8 0,BL false,I64 0,I64 0,I64 0,U8 0,BL false],BL false],[],ø,O,⟨⟨_,⟨_,_,_,_,O,O,O,.inl ⟨R3,O⟩⟩,.conv (.same O)⟩,⟨_,O,.conv (.same O)⟩,ø⟩,O,congrArg (fun r:Box×Bool=>(.tup [.agg (Box.cs r.1),BL r.2]:AV)) (M7 h)⟩)
 ·
  refine Gn (g (Jr fun k=>(JLm (E7 boxes) O (JLm (I64 a) O ?_))))
  obtain⟨n,b,l,m,h⟩:=Zs h
  refine JLh (Ei b) (Hg (f:=Box.av) (xs:=boxes) (y:=b) O O O Ru m l) O (JLh (.agg (Box.cs b)) (Gk R3 O O O) O (Ho (u:=.junk) (H7 (u:=.agg (Box.cs b)) (ds:=(Box.cs b)) Rf O O O O O O O O) (JLm (BL true) O (G5 (k (Gs (⟨[.agg (Box.cs b),BL true],[],ø,O,⟨⟨_,⟨_,_,_,_,O,O,O,.inl ⟨R3,O⟩⟩,.conv (.same O)⟩,⟨_,O,.conv (.same O)⟩,ø⟩,O,congrArg (fun r:Box×Bool=>(.tup [.agg (Box.cs r.1),BL r.2]:AV)) (M7 h)⟩)))))))

def Gdb (boxes:List Box) (id_:Int):Option (Box×Bool):=
 bnd (G92 boxes id_) fun a=>
 some (a.1,(a.2&&((decide (a.1.Size=20))||(decide (a.1.Size=40)))))
theorem Jcc (boxes:List Box) (id_:Int) (r:Box×Bool) (h:Gdb boxes id_=some r):Pure En 36 [E7 boxes,I64 id_] (·=.tup [.agg (Box.cs r.1),BL r.2]):=by
 unfold Gdb at h
 refine Gx [.cell 4 103,.tmp 5] Tryz.func36 O O (Jr fun b=>(JLh (.ptr 1064 0) (Zw 1064 [I64 0,ST M0,U8 0,BL false,I64 0,I64 0,I64 0,U8 0,BL false] [E0,.string ByteArray.empty,.int .u8 0,.bool false,E0,E0,E0,.int .u8 0,.bool false] G56 (zzQ O) O O) O (JLm (BL false) O (G5 (b (Jr fun c=>(JLm (E7 boxes) O (JLm (I64 id_) O ?_))))))))
 obtain⟨a,d,h⟩:=Ge h
 refine JLh (.tup [.agg (Box.cs a.1),BL a.2]) (Gw O (Hc1 boxes id_ a d) J8b ⟨O,O,O,O,ø⟩) O (JLm (.tup [.agg (Box.cs a.1),BL a.2]) O (JLh (.agg (Box.cs a.1)) (H3 O O O) O (JLh (BL a.2) (H3 O O O) O (JLh (.ptr 1065 0) (Hm 1065 9 Qw O O) O (Ho (u:=.junk) (H7 (u:=.agg (Box.cs a.1)) (ds:=(Box.cs a.1)) Rf O O O O O O O O) (JLm (BL a.2) O (G5 (c (Gp [(4,.ptr 1064 0),(6,Ei a.1),(7,BL a.2)] [(1064,.box 103 [I64 0,ST M0,U8 0,BL false,I64 0,I64 0,I64 0,U8 0,BL false])] 1065 rfl rfl rfl ⟨⟨_,rfl,.boxEq rfl rfl⟩,ø⟩ rfl (by exact⟨.conv (.same rfl),.ptr,.conv (.same rfl),ø⟩) ?_)))))))))
 refine Js fun e=>Qs (l':=[(4,.ptr 1064 0),(6,Ei a.1),(7,BL a.2)]) (L':=[(1064,.box 103 [I64 0,ST M0,U8 0,BL false,I64 0,I64 0,I64 0,U8 0,BL false])]) ⟨(.sm O O),⟨fbQ O (.sm O O),ø⟩,rfl⟩ (Ju [12] [0,0,0,0,0,0,0,0,0,0,0,0,0,1] [0,0,0,0,0,0,0,1,1,1,1,1,0,1] [[(1064,.box 103 [I64 0,ST M0,U8 0,BL false,I64 0,I64 0,I64 0,U8 0,BL false])],((1064,.box 103 (Box.cs a.1))::[(1064,.box 103 [I64 0,ST M0,U8 0,BL false,I64 0,I64 0,I64 0,U8 0,BL false])])] Ja (by kernel_rfl) rfl rfl ?_)
 refine Gf (u:=.agg (Box.cs a.1)) O O ⟨Gi (Gk R3 O O O) O,ø⟩ (Gf (u:=BL a.2) O O ⟨Gi (G6 O O) O,ø⟩ (Gf (u:=BL a.2) O O ⟨Gi (G6 O O) O,ø⟩ (Gf (u:=.opt a.2 (.dptr ((Box.cs a.1).drop 2))) O O ⟨H9 [] O O O .sct ø (fun hc=>Ga G1e O O O) O,ø⟩ (Gf (u:=.opt a.2 (U8 a.1.Size)) O O ⟨H9 [(17,.dptr ((Box.cs a.1).drop 2))] O O O .sct ⟨.all id,ø⟩ (fun hc=>Gg Ht O O O) O,ø⟩ (Gf (u:=.opt a.2 (BL (decide (a.1.Size=20)))) O O ⟨H9 [(18,U8 a.1.Size)] O O O .sct ⟨.all id,ø⟩ (fun hc=>Qm O O O) O,ø⟩ (Gf (u:=.opt a.2 (BL (decide (a.1.Size=20)))) O O ⟨H9 [(19,BL (decide (a.1.Size=20)))] O O O .sct ⟨.all id,ø⟩ (fun hc=>G6 O O) O,ø⟩ (Gf (u:=.opt (a.2&&!(decide (a.1.Size=20))) (.dptr ((Box.cs a.1).drop 2))) O O ⟨H9 [] O O O .optf ø (fun hc=>Ga G1e O O O) O,H9 [] O O O .optf ø (fun hc=>Ga G1e O O O) O,ø⟩ (Gf (u:=.opt (a.2&&!(decide (a.1.Size=20))) (U8 a.1.Size)) O O ⟨H9 [(21,.dptr ((Box.cs a.1).drop 2))] O O O .optf ⟨.all id,ø⟩ (fun hc=>Gg Ht O O O) O,H9 [(21,.dptr ((Box.cs a.1).drop 2))] O O O .optf ⟨.all id,ø⟩ (fun hc=>Gg Ht O O O) O,ø⟩ (Gf (u:=.opt (a.2&&!(decide (a.1.Size=20))) (BL (decide (a.1.Size=40)))) O O ⟨H9 [(22,U8 a.1.Size)] O O O .optf ⟨.all id,ø⟩ (fun hc=>Qm O O O) O,H9 [(22,U8 a.1.Size)] O O O .optf ⟨.all id,ø⟩ (fun hc=>Qm O O O) O,ø⟩ (Gf (u:=.opt a.2 (BL ((decide (a.1.Size=20))||(decide (a.1.Size=40))))) O O ⟨H9 [(20,BL (decide (a.1.Size=20))),(23,_)] O O O .sct ⟨.all id,.part,ø⟩ (fun hc=>G7e O O O O) O,H9 [(20,BL (decide (a.1.Size=20))),(23,_)] O O O .sct ⟨.all id,.part,ø⟩ (fun hc=>G7e O O O O) O,ø⟩ (Gf (u:=BL (a.2&&((decide (a.1.Size=20))||(decide (a.1.Size=40))))) O O ⟨Gi (Y3 O O O O) O,Gi (Y3 O O O O) O,ø⟩ (H29 (u:=.junk) O O O O (Gi (H7 (u:=.agg (Box.cs a.1)) (ds:=(Box.cs a.1)) Rf O O O O O O O O) O) (Gf (u:=BL (a.2&&((decide (a.1.Size=20))||(decide (a.1.Size=40))))) O O ⟨Gi (G7 O O) O,ø⟩ (Rz ?_))))))))))))))
 refine e (Gs (⟨[.agg (Box.cs a.1),BL (a.2&&((decide (a.1.Size=20))||(decide (a.1.Size=40))))],[],ø,O,⟨⟨_,⟨_,_,_,_,O,O,O,.inl ⟨R3,O⟩⟩,.conv (.same O)⟩,⟨_,O,.conv (.same O)⟩,ø⟩,O,congrArg (fun r:Box×Bool=>(.tup [.agg (Box.cs r.1),BL r.2]:AV)) (M7 h)⟩))

def J0e (m:Gc):Option Bool:=
 some true
theorem Rm (m:Gc) (r:Bool) (h:J0e m=some r):Pure En 40 [.dptr (Gc.cs m)] (·=BL r):=by
 unfold J0e at h
 refine Gx [.tmp 2] Tryz.func40 O O (Jr fun a=>(JLm (BL false) O (G5 (a ?_))))
 refine Jr fun c=>(JLm (Eg m) O (JLh (BL true) (Z07 R02 O O) O (JLm (BL true) O (JLo (Eg m) [] O .sct ø (fun hc=>G6 O O) O (JLo (Eg m) [6] O .sct ⟨Ua,ø⟩ (fun hc=>G63 O O) O (JLo (.dptr [DM Slot.kv Box.av m.on,DM Ks Box.av m.quay,DM Ks I64 m.open_,I64 m.lifts]) [7] O .sct ⟨Ua,ø⟩ (fun hc=>Ga Yg O O O) O (JLo (DM Slot.kv Box.av m.on) [8] O .sct ⟨Ua,ø⟩ (fun hc=>Gg Yk O O O) O (JLo (BL true) [9] O .sct ⟨Ua,ø⟩ (fun hc=>Z06 Rdf O O) O (JLh (BL true) (Y3 (b:=true) (d:=true) O O O O) O (JLm (BL true) O (G5 (c ?_))))))))))))
 refine Gs (fin1 BL h)

def H36 (m:Gc) (is:Slot→Option Bool) (Rp:Bool→Prop):Option Prop:=
 J09 (fun(b:Slot×Box) (c:Unit) a=>
  bnd (is b.1) fun d=>
  bif d then
  (lft (some (Rp true)))
  else
  (a ()))
 (fun(c:Unit)=>
  some (Rp false)) (Gu.Ha m.on) ()
theorem Q4c (m:Gc) (is:Slot→Option Bool) (is_f:FuncId) (is_c:List AV) (is_B:Gz En is_f=true) (is_d:Q9 (fun _=>false) is_c=true) (is_w:∀ a0 q,is a0=some q→Pure En is_f ([.agg [I64 a0.G3,I64 a0.Tier,U8 a0.Half]]++is_c) (·=BL q)) (Rp:Bool→Prop) (p:Prop) (h:H36 m is Rp=some p) (hp:p):Pure En 74 [.dptr (Gc.cs m),.fn is_f is_c] (fun av=>∃ r,Rp r∧av=BL r):=by
 unfold H36 at h
 refine Gx [.tmp 4] Tryz.func74 O O (Jr fun a3=>(JLm (BL false) O (G5 (a3 (Js fun a4=>Jr fun a5=>(JLm (Eg m) O (JLh (Eg m) (G63 O O) O (JLh (.dptr ((Gc.cs m).drop 13)) (Ga Yg O O O) O (JLh (DM Slot.kv Box.av m.on) (Gg Yk O O O) O (JLh (.it 1138) (H92 1138 (kv:=Slot.kv) (av:=Box.av) (m:=m.on) O O .data O G72) O (G5 (a5 (Gq ?_)))))))))))))
 obtain⟨a6,s,t,o,h⟩:=H42 h
 refine J48 (m.on.l.length) (fun b (d:Unit)=>Gcb a6 s (Gu.l m.on) b d) (fun b d=>[(1,.fn is_f is_c),(10,.it 1138)]) (fun b d=>[(1138,.iter (DM Slot.kv Box.av m.on) m.on.l.length b)]) () (Gcb.start h hp) ⟨⟨.same (Hf _ _ is_d),.same O,ø⟩,⟨⟨_,O,.iter O⟩,ø⟩,O⟩ ?_
 clear h hp
 intro b d f b0 a7
 refine Jr fun g=>Yb O O O (J04 (kv:=Slot.kv) (av:=Box.av) (m:=m.on) (fun _=>O) O O O .data) ?_
 intro u_ L_ hn_
 rcases hn_ with ⟨i,a,c,j,rfl,rfl⟩ | ⟨v,rfl,rfl⟩
 ·
  obtain⟨b1,h,k,n⟩:=f.step c j
  replace h:=J9a t h
  refine JLh (BL true) (H3 O O O) O (G5 (g (Js fun w=>J49 O (Gn (w (Gq (Jr fun x=>(JLh (.tup [.agg (Slot.cs a.1),.agg (Box.cs a.2)]) (Ja7 (kv:=Slot.kv) (av:=Box.av) (m:=m.on) (q:=i) (seen:=b) (e:=a) (fun _=>O) O O O .data c) O (JLh (.agg (Slot.cs a.1)) (H3 O O O) O (JLh (.ptr 1137 0) (Hm 1137 3 Rc O O) O (Ho (u:=.junk) (H7 (u:=.agg (Slot.cs a.1)) (ds:=[I64 a.1.G3,I64 a.1.Tier,U8 a.1.Half]) Y9 O O O O O O O O) (G5 (x (Gp [(1,.fn is_f is_c),(5,Ek a.1),(10,.it 1138)] [(1138,.iter (DM Slot.kv Box.av m.on) m.on.l.length (b++[i]))] 1137 rfl rfl rfl ⟨⟨_,rfl,.iter rfl⟩,ø⟩ rfl (by exact⟨.conv (.same (Hf _ _ is_d)),.ptr,.conv (.same rfl),ø⟩) ?_))))))))))))))
  refine Jr fun y=>(JLm (.fn is_f is_c) O (JLh (.agg (Slot.cs a.1)) (Gk J0 O O O) O ?_))
  obtain⟨a8,z,h⟩:=Ge h
  refine JLh (BL a8) (G11 (args:=[.agg (Slot.cs a.1)]) (caps:=is_c) O O (is_w a.1 _ z) is_B ⟨O,O,ø⟩ is_d) O (G5 (y (JCc O h (fun h hb=>?_) (fun h hb=>?_))))
  ·
   refine Jr fun a1=>(JLm (BL true) O (G5 (a1 (Gs ?_))))
   obtain⟨y_,hy_,hl_⟩:=Y5e h
   exact⟨[BL true],[],ø,O,⟨⟨_,O,.conv (.same O)⟩,ø⟩,O,true,Eq.mpr (M7 hl_) (k y_ hy_),O⟩
  ·
   refine Gn (a7 _ _ (b++[i]) () (n _ (M7 h).symm) (Ga1 (M5 c).1 j) ⟨⟨.same (Hf _ _ is_d),.same O,ø⟩,⟨⟨_,O,.iter O⟩,ø⟩,O⟩)
 ·
  obtain⟨p_,h,hp⟩:=f.done v
  replace h:=app1 o h
  refine JLh (BL false) (H3 O O O) O (G5 (g (Js fun a9=>G24 O (Hq (a4 (Jr fun a2=>(JLm (BL false) O (G5 (a2 (Gs (⟨[BL false],[],ø,O,⟨⟨_,O,.conv (.same O)⟩,ø⟩,O,false,Eq.mpr (M7 h) hp,O⟩)))))))))))
theorem Q4d (S_:(Gc)→(Slot→Option Bool)→Option Bool) (hS_:∀ m is r,S_ m is=some r→∃ p:Prop,H36 m is (fun r_=>r_=r)=some p∧p) (m:Gc) (is:Slot→Option Bool) (is_f:FuncId) (is_c:List AV) (is_B:Gz En is_f=true) (is_d:Q9 (fun _=>false) is_c=true) (is_w:∀ a0 q,is a0=some q→Pure En is_f ([.agg [I64 a0.G3,I64 a0.Tier,U8 a0.Half]]++is_c) (·=BL q)) (r:Bool) (h:S_ m is=some r):Pure En 74 [.dptr (Gc.cs m),.fn is_f is_c] (·=BL r):=by
 obtain⟨p,a,b⟩:=hS_ m is r h
 exact(Q4c m is is_f is_c is_B is_d is_w _ p a b).monoP (fun av hh=>by obtain⟨r_,rfl,ha⟩:=hh; exact ha)

def G6a (r_:Int) (a:G3):Option Bool:=
 some (decide (r_=a.Row))
theorem Jd3 (r_:Int) (a:G3) (r:Bool) (h:G6a r_ a=some r):Pure En 147 [I64 r_,Ej a] (·=BL r):=by
 unfold G6a at h
 refine Gx [.tmp 3] Tryz.func147 O O (Jr fun b=>(JLm (BL false) O (G5 (b (Jr fun c=>(JLm (I64 r_) O (JLh (.dptr ((G3.cs a).drop 1)) (Ga G73 O O O) O (JLh (I64 a.Row) (Gg Gb O O O) O (JLh (BL (decide (r_=a.Row))) (Qm O O O) O (JLm (BL (decide (r_=a.Row))) O (G5 (c (Gs (fin1 BL h))))))))))))))

def G39 (l:List Int) (wanted:Int→Option Bool):Option (List Int):=
 each (fun e b (a:(List Int)) d=>
  jp (fun c=>
   bnd (wanted e) fun f=>
   bif f then
   (need (decide ((a.length+[(b:Int)].length)*8≤140737488355328∧a.length+[(b:Int)].length≤maxLen)) <|
    c (a++[(b:Int)]))
   else
   (c a)) fun(g:(List Int))=>
  d g)
 (fun(a:(List Int))=>
  some a) l 0 []
theorem J6e (l:List Int) (wanted:Int→Option Bool) (wanted_f:FuncId) (wanted_c:List AV) (wanted_B:Gz En wanted_f=true) (wanted_d:Q9 (fun _=>false) wanted_c=true) (wanted_w:∀ a0 q,wanted a0=some q→Pure En wanted_f ([I64 a0]++wanted_c) (·=BL q)) (r:(List Int)) (h:G39 l wanted=some r):Pure En 146 [E2 l,.fn wanted_f wanted_c] (·=E2 r):=by
 unfold G39 at h
 refine Gx [.tmp 4] Tryz.func146 O O (Jr fun a1=>(JLh (E2 ([]:List Int)) (Ji 1 O O) O (G5 (a1 (Jr fun a2=>(JLh (OW 1200 1 I64 ([]:List Int)) (H4b 1200 3 1 O O O) O (G5 (a2 (Js fun a3=>Jr fun a4=>(JLm (E2 l) O (JLl H0 O O O fun a5=>(JLm (I64 0) O (G5 (a4 (Gq ?_)))))))))))))))
 obtain⟨a6,k,m,i,h⟩:=Jd h
 refine Hn (fun a (b:(List Int))=>each a6 k (List.drop a l) a b=some r) (fun a b=>[(1,.fn wanted_f wanted_c),(5,OW 1200 1 I64 b),(8,E2 l),(9,Em l.length),(10,Em a)]) (fun a b=>[(1200,.spare 3 1 b.length b.length)]) (fun a=>l.length - a) 0 [] h ⟨⟨.same (Hf _ _ wanted_d),.same O,.same O,.same O,.same O,ø⟩,⟨⟨_,O,.same⟩,ø⟩,O⟩ ?_
 clear h
 intro a b e b0 a7
 refine Jr fun n=>(JLh (BL (decide ((a:Int) < (l.length:Int)))) (Jq O O O) O (G5 (n (Js fun o=>Gr O (fun hb=>?_) (fun hb=>?_)))))
 ·
  have g:=Q5 hb
  obtain⟨d,a9,p,s,h⟩:=Hu e g
  replace h:=Zg m h
  refine Gn (o ?_)
  obtain⟨t,j,h⟩:=Rv h
  refine Qr (fun c:(List Int)=>t c=some r) (fun c=>[(1,.fn wanted_f wanted_c),(5,OW 1200 1 I64 c),(8,E2 l),(9,Em l.length),(10,Em a)]) (fun c=>[(1200,.spare 3 1 c.length c.length)]) (fun Kj24 ej24=>?_) ?_
  ·
   refine Gq (Jr fun u=>(JLm (Em a) O (JLh (.dptr [I64 d]) (Hg (f:=I64) (xs:=l) (y:=d) O O O H0 p O) O (JLh (I64 d) (Gg Gb O O O) O (JLm (Em a) O (JLm (I64 d) O (G5 (u (Jr fun v=>(JLm (.fn wanted_f wanted_c) O (JLm (I64 d) O ?_)))))))))))
   obtain⟨a8,w,h⟩:=Ge h
   refine JLh (BL a8) (G11 (args:=[I64 d]) (caps:=wanted_c) O O (wanted_w d _ w) wanted_B ⟨O,O,ø⟩ wanted_d) O (G5 (v (JCc O h (fun h hb=>?_) (fun h hb=>?_))))
   ·
    refine G2 (JLm (OW 1200 1 I64 b) O (JLm (Em a) O (JLh (E2 [(a:Int)]) (Hd (xs:=[Em a]) O ⟨O,O,ø⟩ H0 Y8 O O O O) O ?_)))
    obtain⟨x,h⟩:=Jf h
    refine JLh (OW 1200 1 I64 (b++[(a:Int)])) (Y7 (f:=I64) (xs:=b) (ys:=[(a:Int)]) O O O O H0 G75 x (fun _=>O) (.inl O) O) O (JLm (OW 1200 1 I64 (b++[(a:Int)])) O (G5 (ej24 _ _ (b++[(a:Int)]) h ⟨⟨.same (Hf _ _ wanted_d),.same O,.same O,.same O,.same O,ø⟩,⟨⟨_,O,.same⟩,ø⟩,O⟩)))
   ·
    refine Gn (ej24 _ _ b h ⟨⟨.same (Hf _ _ wanted_d),.same O,.same O,.same O,.same O,ø⟩,⟨⟨_,O,.same⟩,ø⟩,O⟩)
  ·intro c h
   replace h:=app1 j h
   refine G2 (JLh (I64 ((a+1:Nat):Int)) (Jb (Hp g a5) O O O) O (JLm (I64 ((a+1:Nat):Int)) O (G5 (a7 _ _ (a+1) c (app1 s h) (by omega) ⟨⟨.same (Hf _ _ wanted_d),.same rfl,.same rfl,.same rfl,.same rfl,ø⟩,⟨⟨_,rfl,.same⟩,ø⟩,rfl⟩))))
 ·
  have h:=app1 i (Hv e (Hj hb))
  refine Hq (a3 (Jr fun z=>(JLm (OW 1200 1 I64 b) O (JLm (OW 1200 1 I64 b) O (G5 (z (Gs (fin1l (fun r:(List Int)=>(E2 r:AV)) h))))))))

def Gc8 (x:G9) (c:G3):Option Bool:=
 bnd (bif decide (x.Bay=c.Bay) then G39 x.Rows (fun z0=>G6a z0 c) else some default) fun a=>
 some ((decide (x.Bay=c.Bay))&&(decide (0 < (a.length:Int))))
theorem Q4e (x:G9) (c:G3) (r:Bool) (h:Gc8 x c=some r):Pure En 121 [.agg [I64 x.Bay,E2 x.Rows],.agg (G3.cs c)] (·=BL r):=by
 unfold Gc8 at h
 refine Gx [.tmp 4] Tryz.func121 O O (Jr fun b=>(JLh (.ptr 1184 0) (Q2 (cs:=[I64 x.Bay,E2 x.Rows]) 1184 O O O O O) O (JLh (.ptr 1185 0) (Q2 (cs:=(G3.cs c)) 1185 O O O O O) O (JLm (BL false) O (G5 (b (Gp [(2,.dptr [I64 x.Bay,E2 x.Rows]),(3,.ptr 1185 0)] [(1185,.box 97 (G3.cs c))] 1184 rfl rfl rfl ⟨⟨_,rfl,.boxEq rfl rfl⟩,ø⟩ rfl (by exact⟨.ptr,.conv (.same rfl),ø⟩) ?_)))))))
 refine Gp [(2,.dptr [I64 x.Bay,E2 x.Rows]),(3,Ej c)] [] 1185 rfl rfl rfl ø rfl (by exact⟨.conv (.same rfl),.ptr,ø⟩) (Jr fun d=>(JLh (.dptr [I64 x.Bay,E2 x.Rows]) (Ga Gf4 O O O) O (JLh (I64 x.Bay) (Gg Gb O O O) O (JLh (Ej c) (Ga G16 O O O) O (JLh (I64 c.Bay) (Gg Gb O O O) O (JLh (BL (decide (x.Bay=c.Bay))) (Qm O O O) O (JLm (BL (decide (x.Bay=c.Bay))) O (JLo (.dptr [E2 x.Rows]) [] O .sct ø (fun hc=>Ga G46 O O O) O (JLo (E2 x.Rows) [11] O .sct ⟨Ua,ø⟩ (fun hc=>Gg Ri O O O) O (JLo (.fn 147 [.dptr (G3.cs c)]) [] O .sct ø (fun hc=>Q4 (cs:=[.dptr (G3.cs c)]) O O) O ?_))))))))))
 obtain⟨a,e,h⟩:=Ge h
 refine JLo (E2 a) [12,13] O .sct ⟨Ua,Ua,ø⟩ (fun hc=>Gw (args:=[E2 x.Rows,.fn 147 [.dptr (G3.cs c)]]) O (J6e x.Rows (fun z0=>G6a z0 c) 147 [.dptr (G3.cs c)] R7b O (fun z0 q hq=>Jd3 z0 c q hq) a (H5 hc e)) R7c ⟨O,O,O,O,ø⟩) O (JLo (Em a.length) [14] O .sct ⟨Ua,ø⟩ (fun hc=>H55 (f:=I64) (xs:=a) H0 O O) O (JLo (BL (decide (0 < (a.length:Int)))) [15] O .sct ⟨Ua,ø⟩ (fun hc=>H0c O O O) O (JLh (BL ((decide (x.Bay=c.Bay))&&(decide (0 < (a.length:Int))))) (Y3 O O O O) O (JLm (BL ((decide (x.Bay=c.Bay))&&(decide (0 < (a.length:Int))))) O (G5 (d (Gs (fin1 BL h))))))))

def G1d (x:G9) (a:Gh) (b:Int):Option Bool:=
 Qy a.Columns b fun c=>
 bnd (Gc8 x c) fun d=>
 some d
theorem Ja0 (x:G9) (a:Gh) (c:Int) (r:Bool) (h:G1d x a c=some r):Pure En 120 [.agg [I64 x.Bay,E2 x.Rows],Ee a,.dptr [I64 c]] (·=BL r):=by
 unfold G1d at h
 refine Gx [.tmp 4] Tryz.func120 O O (Jr fun e=>(JLh (.ptr 1183 0) (Q2 (cs:=[I64 x.Bay,E2 x.Rows]) 1183 O O O O O) O (JLm (BL false) O (G5 (e (Gp [(1,Ee a),(2,.dptr [I64 c]),(3,.dptr [I64 x.Bay,E2 x.Rows])] [] 1183 rfl rfl rfl ø rfl (by exact⟨.conv (.same rfl),.conv (.same rfl),.ptr,ø⟩) (Js fun g=>?_)))))))
 obtain⟨l,b,i,j,h⟩:=Zs h
 obtain⟨d,k,h⟩:=Ge h
 refine JC_d0 Ja (by kernel_rfl) (Dq (.agg [I64 x.Bay,E2 x.Rows]) (Gk Heb O O O) O (Dq (Ee a) (Ga J5 O O O) O (Dq (E3 a.Columns) (Gg Jn O O O) O (Dq (I64 c) (Gg Gb O O O) O (Dq (Ej b) (Hg (f:=G3.av) (xs:=a.Columns) (y:=b) O O O Hx j i) O (Dq (.agg (G3.cs b)) (Gk Ga4 O O O) O (Dq (BL d) (Gw (args:=[.agg [I64 x.Bay,E2 x.Rows],.agg (G3.cs b)]) O (Q4e x b d k) R87 ⟨O,O,O,O,ø⟩) O (Dq (BL d) (G7 O O) O (Dnil (g (Gs (fin1 BL h))))))))))))

def Z5 (l:List G9) (wanted:G9→Option Bool):Option (List Int):=
 each (fun e b (a:(List Int)) d=>
  jp (fun c=>
   bnd (wanted e) fun f=>
   bif f then
   (need (decide ((a.length+[(b:Int)].length)*8≤140737488355328∧a.length+[(b:Int)].length≤maxLen)) <|
    c (a++[(b:Int)]))
   else
   (c a)) fun(g:(List Int))=>
  d g)
 (fun(a:(List Int))=>
  some a) l 0 []
theorem Hc3 (l:List G9) (wanted:G9→Option Bool) (wanted_f:FuncId) (wanted_c:List AV) (wanted_B:Gz En wanted_f=true) (wanted_d:Q9 (fun _=>false) wanted_c=true) (wanted_w:∀ a0 q,wanted a0=some q→Pure En wanted_f ([.agg [I64 a0.Bay,E2 a0.Rows]]++wanted_c) (·=BL q)) (r:(List Int)) (h:Z5 l wanted=some r):Pure En 119 [E8 l,.fn wanted_f wanted_c] (·=E2 r):=by
 unfold Z5 at h
 refine Gx [.tmp 4] Tryz.func119 O O (Jr fun a2=>(JLh (E2 ([]:List Int)) (Ji 1 O O) O (G5 (a2 (Jr fun a3=>(JLh (OW 1181 1 I64 ([]:List Int)) (H4b 1181 3 1 O O O) O (G5 (a3 (Js fun a4=>Jr fun a5=>(JLm (E8 l) O (JLl Qi O O O fun a6=>(JLm (I64 0) O (G5 (a5 (Gq ?_)))))))))))))))
 obtain⟨a7,k,m,i,h⟩:=Jd h
 refine Hn (fun a (b:(List Int))=>each a7 k (List.drop a l) a b=some r) (fun a b=>[(1,.fn wanted_f wanted_c),(5,OW 1181 1 I64 b),(8,E8 l),(9,Em l.length),(10,Em a)]) (fun a b=>[(1181,.spare 3 1 b.length b.length)]) (fun a=>l.length - a) 0 [] h ⟨⟨.same (Hf _ _ wanted_d),.same O,.same O,.same O,.same O,ø⟩,⟨⟨_,O,.same⟩,ø⟩,O⟩ ?_
 clear h
 intro a b e b1 a8
 refine Jr fun n=>(JLh (BL (decide ((a:Int) < (l.length:Int)))) (Jq O O O) O (G5 (n (Js fun o=>Gr O (fun hb=>?_) (fun hb=>?_)))))
 ·
  have g:=Q5 hb
  obtain⟨c,b0,p,s,h⟩:=Hu e g
  replace h:=Zg m h
  refine Gn (o ?_)
  obtain⟨t,j,h⟩:=Rv h
  refine Qr (fun d:(List Int)=>t d=some r) (fun d=>[(1,.fn wanted_f wanted_c),(5,OW 1181 1 I64 d),(8,E8 l),(9,Em l.length),(10,Em a)]) (fun d=>[(1181,.spare 3 1 d.length d.length)]) (fun Kj24 ej24=>?_) ?_
  ·
   refine Gq (Jr fun v=>(JLm (Em a) O (JLh (.dptr [I64 c.Bay,E2 c.Rows]) (Hg (f:=G9.av) (xs:=l) (y:=c) O O O Qi p O) O (JLh (.agg [I64 c.Bay,E2 c.Rows]) (Gk Heb O O O) O (JLh (.ptr 1182 0) (Hm 1182 2 Gef O O) O (JLm (Em a) O (Ho (u:=.junk) (H7 (u:=.agg [I64 c.Bay,E2 c.Rows]) (ds:=[I64 c.Bay,E2 c.Rows]) Q11 O O O O O O O O) (G5 (v ?_)))))))))
   refine Gp [(1,.fn wanted_f wanted_c),(5,OW 1181 1 I64 b),(6,Em a),(7,.dptr [I64 c.Bay,E2 c.Rows]),(8,E8 l),(9,Em l.length),(10,Em a)] [(1181,.spare 3 1 b.length b.length)] 1182 rfl rfl rfl ⟨⟨_,rfl,.same⟩,ø⟩ rfl (by exact⟨.conv (.same (Hf _ _ wanted_d)),.conv (.same rfl),.conv (.same rfl),.ptr,.conv (.same rfl),.conv (.same rfl),.conv (.same rfl),ø⟩) (Jr fun w=>(JLm (.fn wanted_f wanted_c) O (JLh (.agg [I64 c.Bay,E2 c.Rows]) (Gk Heb O O O) O ?_)))
   obtain⟨a9,x,h⟩:=Ge h
   refine JLh (BL a9) (G11 (args:=[.agg [I64 c.Bay,E2 c.Rows]]) (caps:=wanted_c) O O (wanted_w c _ x) wanted_B ⟨O,O,ø⟩ wanted_d) O (G5 (w (JCc O h (fun h hb=>?_) (fun h hb=>?_))))
   ·
    refine G2 (JLm (OW 1181 1 I64 b) O (JLm (Em a) O (JLh (E2 [(a:Int)]) (Hd (xs:=[Em a]) O ⟨O,O,ø⟩ H0 Y8 O O O O) O ?_)))
    obtain⟨z,h⟩:=Jf h
    refine JLh (OW 1181 1 I64 (b++[(a:Int)])) (Y7 (f:=I64) (xs:=b) (ys:=[(a:Int)]) O O O O H0 G75 z (fun _=>O) (.inl O) O) O (JLm (OW 1181 1 I64 (b++[(a:Int)])) O (G5 (ej24 _ _ (b++[(a:Int)]) h ⟨⟨.same (Hf _ _ wanted_d),.same O,.same O,.same O,.same O,ø⟩,⟨⟨_,O,.same⟩,ø⟩,O⟩)))
   ·
    refine Gn (ej24 _ _ b h ⟨⟨.same (Hf _ _ wanted_d),.same O,.same O,.same O,.same O,ø⟩,⟨⟨_,O,.same⟩,ø⟩,O⟩)
  ·intro d h
   replace h:=app1 j h
   refine G2 (JLh (I64 ((a+1:Nat):Int)) (Jb (Hp g a6) O O O) O (JLm (I64 ((a+1:Nat):Int)) O (G5 (a8 _ _ (a+1) d (app1 s h) (by omega) ⟨⟨.same (Hf _ _ wanted_d),.same rfl,.same rfl,.same rfl,.same rfl,ø⟩,⟨⟨_,rfl,.same⟩,ø⟩,rfl⟩))))
 ·
  have h:=app1 i (Hv e (Hj hb))
  refine Hq (a4 (Jr fun a1=>(JLm (OW 1181 1 I64 b) O (JLm (OW 1181 1 I64 b) O (G5 (a1 (Gs (fin1l (fun r:(List Int)=>(E2 r:AV)) h))))))))

def R8 (s:Gh) (column:Int):Option Int:=
 bif ((decide (column < 0))||(decide ((s.Columns.length:Int)≤column))) then
 (some (-1))
 else
 (bnd (Z5 s.Covers (fun z0=>G1d z0 s column)) fun a=>
  bif decide ((a.length:Int)=0) then
  (some (-1))
  else
  (Qy a 0 fun b=>
   some b))
theorem G52 (s:Gh) (column:Int) (r:Int) (h:R8 s column=some r):Pure En 70 [.agg (Gh.cs s),I64 column] (·=I64 r):=by
 unfold R8 at h
 refine Gx [.tmp 4] Tryz.func70 O O (Jr fun g=>(JLh (.ptr 1133 0) (Q2 (cs:=(Gh.cs s)) 1133 O O O O O) O (JLh (.ptr 1134 0) (Q2 (cs:=[I64 column]) 1134 O O O O O) O (JLm (I64 0) O (G5 (g (Gp [(2,Ee s),(3,.ptr 1134 0)] [(1134,.box 3 [I64 column])] 1133 rfl rfl rfl ⟨⟨_,rfl,.boxEq rfl rfl⟩,ø⟩ rfl (by exact⟨.ptr,.conv (.same rfl),ø⟩) (Gp [(2,Ee s),(3,.dptr [I64 column])] [] 1134 rfl rfl rfl ø rfl (by exact⟨.conv (.same rfl),.ptr,ø⟩) (Js fun i=>?_)))))))))
 refine Jr fun j=>(JLh (I64 column) (Gg Gb O O O) O (JLh (BL (decide (column < 0))) (Jq O O O) O (JLm (BL (decide (column < 0))) O (JLo (I64 column) [] O .scf ø (fun hc=>Gg Gb O O O) O (JLo (Ee s) [] O .scf ø (fun hc=>Ga J5 O O O) O (JLo (E3 s.Columns) [10] O .scf ⟨Ua,ø⟩ (fun hc=>Gg Jn O O O) O (JLo (Em s.Columns.length) [11] O .scf ⟨Ua,ø⟩ (fun hc=>H55 (f:=G3.av) (xs:=s.Columns) Hx O O) O (JLo (BL (decide ((s.Columns.length:Int)≤column))) [9,12] O .scf ⟨Ua,Ua,ø⟩ (fun hc=>H13 O O O) O (JLh (BL ((decide (column < 0))||(decide ((s.Columns.length:Int)≤column)))) (G7e O O O O) O (G5 (j (JCc O h (fun h hb=>?_) (fun h hb=>?_)))))))))))))
 ·
  refine Jr fun k=>(JLm (I64 (-1)) O (G5 (k (Gs (fin1 I64 h)))))
 ·
  refine Gn (i (Jr fun l=>(JLh (.dptr ((Gh.cs s).drop 1)) (Ga Y0 O O O) O (JLh (E8 s.Covers) (Gg Zi O O O) O (JLh (.fn 120 [.dptr (Gh.cs s),.dptr [I64 column]]) (Q4 (cs:=[.dptr (Gh.cs s),.dptr [I64 column]]) O O) O ?_)))))
  obtain⟨a,m,h⟩:=Ge h
  refine JLh (E2 a) (Gw O (Hc3 s.Covers (fun z0=>G1d z0 s column) 120 [.dptr (Gh.cs s),.dptr [I64 column]] R88 O (fun z0 q hq=>Ja0 z0 s column q hq) a m) R89 ⟨O,O,O,O,ø⟩) O (JLm (E2 a) O (G5 (l (Js fun n=>Jr fun o=>(JLm (E2 a) O (JLl H0 O O O fun t=>(JLh (BL (decide ((a.length:Int)=0))) (Qm O O O) O (G5 (o (JCc O h (fun h hb=>?_) (fun h hb=>?_)))))))))))
  ·
   refine Jr fun p=>(JLm (I64 (-1)) O (G5 (p (Gs (fin1 I64 h)))))
  ·
   refine Gn (n (Jr fun c=>(JLm (E2 a) O ?_)))
   obtain⟨u,b,d,e,h⟩:=Zs h
   refine JLh (.dptr [I64 b]) (Hg (f:=I64) (xs:=a) (y:=b) O O O H0 e d) O (JLh (I64 b) (Gg Gb O O O) O (JLm (I64 b) O (G5 (c (Gs (fin1 I64 h))))))

def G4f (m:Gc) (x:Slot):Option Bool:=
 bnd (R8 m.ship x.G3) fun a=>
 bnd (bif decide (0≤a) then some (Gu.get m.open_ a 0) else some 0) fun b=>
 bnd (bif decide (0≤a) then Qy m.ship.Columns x.G3 some else some default) fun c=>
 some ((decide (0≤a))&&((decide (0 < b))==c.Deck))
theorem Hd9 (m:Gc) (x:Slot) (r:Bool) (h:G4f m x=some r):Pure En 81 [.dptr (Gc.cs m),.agg [I64 x.G3,I64 x.Tier,U8 x.Half]] (·=BL r):=by
 unfold G4f at h
 refine Gx [.tmp 4] Tryz.func81 O O (Jr fun e=>(JLh (.ptr 1144 0) (Q2 (cs:=[I64 x.G3,I64 x.Tier,U8 x.Half]) 1144 O O O O O) O (JLm (BL false) O (G5 (e (Gp [(0,Eg m),(3,.dptr [I64 x.G3,I64 x.Tier,U8 x.Half])] [] 1144 rfl rfl rfl ø rfl (by exact⟨.conv (.same rfl),.ptr,ø⟩) (Js fun g=>?_)))))))
 obtain⟨b,i,h⟩:=Ge h
 refine JC_d0 Ja (by kernel_rfl) (Dq (Eg m) (G6 O O) O (Dq (Eg m) (G63 O O) O (Dq (Eg m) (Ga Yh O O O) O (Dq (.agg (Gh.cs m.ship)) (Gk Jh O O O) O (Dq (.dptr [I64 x.G3,I64 x.Tier,U8 x.Half]) (Ga J4 O O O) O (Dq (I64 x.G3) (Gg Gb O O O) O (Dq (I64 b) (Gw (args:=[.agg (Gh.cs m.ship),I64 x.G3]) O (G52 m.ship x.G3 b i) H6f ⟨O,O,O,O,ø⟩) O (Dq (I64 b) (G7 O O) O (Dnil (g (Js fun j=>?_)))))))))))
 obtain⟨d,k,h⟩:=Ge h
 obtain⟨c,l,h⟩:=Ge h
 refine JC_d0 Ja (by kernel_rfl) (Dq (I64 b) (G6 O O) O (Dq (BL (decide (0≤b))) (H13 O O O) O (Dq (BL (decide (0≤b))) (G6 O O) O (Do (Eg m) [] O .sct ø (fun hc=>G6 O O) O (Do (Eg m) [16] O .sct ⟨Ua,ø⟩ (fun hc=>G63 O O) O (Do (.dptr ((Gc.cs m).drop 15)) [17] O .sct ⟨Ua,ø⟩ (fun hc=>Ga G74 O O O) O (Do (DM Ks I64 m.open_) [18] O .sct ⟨Ua,ø⟩ (fun hc=>Gg G5b O O O) O (Do (I64 b) [] O .sct ø (fun hc=>G6 O O) O (Do (I64 d) [19,20] O .sct ⟨Ua,Ua,ø⟩ (fun hc=>((M7 (H5 hc k)) ▸ Ja5 (av:=I64) (m:=m.open_) (a:=b) 0 E0 (fun _=>O) O .data O J68 Ge0 H2b O)) O (Do (BL (decide (0 < d))) [21] O .sct ⟨Ua,ø⟩ (fun hc=>H0c O O O) O (Do (Eg m) [] O .sct ø (fun hc=>G6 O O) O (Do (Eg m) [23] O .sct ⟨Ua,ø⟩ (fun hc=>G63 O O) O (Do (Eg m) [24] O .sct ⟨Ua,ø⟩ (fun hc=>Ga Yh O O O) O ?_)))))))))))))
 refine Do (Eg m) [25] O .sct ⟨Ua,ø⟩ (fun hc=>Ga J5 O O O) O (Do (E3 m.ship.Columns) [26] O .sct ⟨Ua,ø⟩ (fun hc=>Gg Jn O O O) O (Do (.dptr [I64 x.G3,I64 x.Tier,U8 x.Half]) [] O .sct ø (fun hc=>Ga J4 O O O) O (Do (I64 x.G3) [28] O .sct ⟨Ua,ø⟩ (fun hc=>Gg Gb O O O) O (Do (Ej c) [27,29] O .sct ⟨Ua,Ua,ø⟩ (fun hc=>(match Ga9 (H5 hc l) with | ⟨_,hm_,hy_⟩=>Hg (f:=G3.av) (xs:=m.ship.Columns) (y:=c) O O O Hx hy_ hm_)) O (Do (.dptr ((G3.cs c).drop 2)) [30] O .sct ⟨Ua,ø⟩ (fun hc=>Ga Yf O O O) O (Do (BL c.Deck) [31] O .sct ⟨Ua,ø⟩ (fun hc=>Gg Qb O O O) O (Do (BL ((decide (0 < d))==c.Deck)) [22,32] O .sct ⟨Ua,Ua,ø⟩ (fun hc=>Jdf H68 O O O) O (Dq (BL ((decide (0≤b))&&((decide (0 < d))==c.Deck))) (Y3 O O O O) O (Dq (BL ((decide (0≤b))&&((decide (0 < d))==c.Deck))) (G7 O O) O (Dnil ?_))))))))))
 refine j (Gs (fin1 BL h))

def Qx (b:Box):Option Int:=
 bif b.High then
 (some 2896)
 else
 (some 2591)
theorem H8b (b:Box) (r:Int) (h:Qx b=some r):Pure En 126 [.agg (Box.cs b)] (·=I64 r):=by
 unfold Qx at h
 refine Gx [.tmp 2] Tryz.func126 O O (Jr fun a=>(JLh (.ptr 1191 0) (Q2 (cs:=(Box.cs b)) 1191 O O O O O) O (JLm (I64 0) O (G5 (a (Gp [(1,Ei b)] [] 1191 rfl rfl rfl ø rfl (by exact⟨.ptr,ø⟩) (Js fun c=>Jr fun d=>(JLh (.dptr ((Box.cs b).drop 3)) (Ga H6e O O O) O (JLh (BL b.High) (Gg Qb O O O) O (G5 (d (JCc O h (fun h hb=>?_) (fun h hb=>?_)))))))))))))
 ·
  refine Jr fun e=>(JLm (I64 2896) O (G5 (e (Gs (fin1 I64 h)))))
 ·
  refine Gn (c (Jr fun f=>(JLm (I64 2591) O (G5 (f (Gs (fin1 I64 h)))))))

def G9c (m:Gc) (x:Slot) (b:Box) (half:Int) (Rp:Int→Prop):Option Prop:=
 jp (fun e=>
  bif ((decide (x.Half=0))||(decide (x.Half=half))) then
  (bnd (Qx b) fun h=>
   e h)
  else
  (e 0)) fun(i:Int)=>
 J09 (fun(a:Slot×Box) (c:Int) d=>
  bif ((decide (a.1.G3=x.G3))&&((decide (a.1.Half=0))||(decide (a.1.Half=half)))) then
  (bnd (Qx a.2) fun f=>
   chk (c+f) fun g=>
   d g)
  else
  (d c))
 (fun(c:Int)=>
  some (Rp c)) (Gu.Ha m.on) i
theorem Q05 (m:Gc) (x:Slot) (b:Box) (half:Int) (Rp:Int→Prop) (p:Prop) (h:G9c m x b half Rp=some p) (hp:p):Pure En 90 [.dptr (Gc.cs m),.agg [I64 x.G3,I64 x.Tier,U8 x.Half],.agg (Box.cs b),U8 half] (fun av=>∃ r,Rp r∧av=I64 r):=by
 unfold G9c at h
 refine Gx [.tmp 8] Tryz.func90 O O (Jr fun a9=>(JLh (.ptr 1147 0) (Q2 (cs:=[I64 x.G3,I64 x.Tier,U8 x.Half]) 1147 O O O O O) O (JLh (.ptr 1148 0) (Q2 (cs:=(Box.cs b)) 1148 O O O O O) O (JLm (I64 0) O (G5 (a9 (fzQ [(0,Eg m),(3,U8 half),(5,.dptr [I64 x.G3,I64 x.Tier,U8 x.Half]),(6,.ptr 1148 0)] [(1148,.box 103 (Box.cs b))] 1147 rfl rfl rfl ⟨⟨_,rfl,.boxEq rfl rfl⟩,ø⟩ rfl ?_)))))))
 refine fzQ [(0,Eg m),(3,U8 half),(5,.dptr [I64 x.G3,I64 x.Tier,U8 x.Half]),(6,Ei b)] [] 1148 rfl rfl rfl ø rfl (Jr fun b0=>(JLm (.fn 126 []) O (G5 (b0 (Jr fun b1=>(JLm (I64 0) O (G5 (b1 ?_))))))))
 obtain⟨b2,z,h⟩:=Rv h
 refine Qr (fun k:Int=>b2 k=some p) (fun k=>[(0,Eg m),(3,U8 half),(5,.dptr [I64 x.G3,I64 x.Tier,U8 x.Half]),(9,.fn 126 []),(10,I64 k)]) (fun k=>[]) (fun Kj4 ej4=>?_) ?_
 ·
  refine Jr fun b3=>(JLh (.dptr [U8 x.Half]) (Ga Qu O O O) O (JLh (U8 x.Half) (Gg Ht O O O) O (JLh (BL (decide (x.Half=0))) (Qm O O O) O (JLm (BL (decide (x.Half=0))) O (JLo (.dptr [U8 x.Half]) [] O .scf ø (fun hc=>Ga Qu O O O) O (JLo (U8 x.Half) [17] O .scf ⟨Ua,ø⟩ (fun hc=>Gg Ht O O O) O (JLo (U8 half) [] O .scf ø (fun hc=>G6 O O) O (JLo (BL (decide (x.Half=half))) [18,19] O .scf ⟨Ua,Ua,ø⟩ (fun hc=>Qm O O O) O (JLh (BL ((decide (x.Half=0))||(decide (x.Half=half)))) (G7e O O O O) O (G5 (b3 (JCc O h (fun h hb=>?_) (fun h hb=>?_)))))))))))))
  ·
   refine G2 (JLm (.fn 126 []) O (JLh (.agg (Box.cs b)) (Gk R3 O O O) O ?_))
   obtain⟨t,b4,h⟩:=Ge h
   refine JLh (I64 t) (G11 (args:=[.agg (Box.cs b)]) (caps:=[]) O O (H8b b t b4) Q16 ⟨O,O,ø⟩ O) O (JLm (I64 t) O (G5 (ej4 _ _ t h ⟨(.sm O O),ø,rfl⟩)))
  ·
   refine Gn (ej4 _ _ 0 h ⟨(.sm O O),ø,rfl⟩)
 ·intro k h
  replace h:=app1 z h
  refine Js fun b5=>Jr fun b6=>(JLm (Eg m) O (JLh (Eg m) (G63 O O) O (JLh (.dptr ((Gc.cs m).drop 13)) (Ga Yg O O O) O (JLh (DM Slot.kv Box.av m.on) (Gg Yk O O O) O (JLh (.it 1151) (H92 1151 (kv:=Slot.kv) (av:=Box.av) (m:=m.on) O O .data O G72) O (G5 (b6 (Gq ?_))))))))
  obtain⟨b7,a0,a1,v,h⟩:=H42 h
  refine J48 (m.on.l.length) (fun d (c:Int)=>Gcb b7 a0 (Gu.l m.on) d c) (fun d c=>[(3,U8 half),(5,.dptr [I64 x.G3,I64 x.Tier,U8 x.Half]),(9,.fn 126 []),(10,I64 c),(29,.it 1151)]) (fun d c=>[(1151,.iter (DM Slot.kv Box.av m.on) m.on.l.length d)]) k (Gcb.start h hp) ⟨(.sm O O),⟨⟨_,rfl,.iter rfl⟩,ø⟩,rfl⟩ ?_
  clear h hp
  intro d c n c0 w
  refine Jr fun o=>Yb O O O (J04 (kv:=Slot.kv) (av:=Box.av) (m:=m.on) (fun _=>O) O O O .data) ?_
  intro u_ L_ hn_
  rcases hn_ with ⟨g,a,f,j,rfl,rfl⟩ | ⟨a2,rfl,rfl⟩
  ·
   obtain⟨c1,h,b8,i⟩:=n.step f j
   replace h:=J9a a1 h
   refine JLh (BL true) (H3 O O O) O (G5 (o (Js fun a3=>J49 O (Gn (a3 (Gq ?_))))))
   refine Jr fun a4=>(JLh (.tup [.agg (Slot.cs a.1),.agg (Box.cs a.2)]) (Ja7 (kv:=Slot.kv) (av:=Box.av) (m:=m.on) (q:=g) (seen:=d) (e:=a) (fun _=>O) O O O .data f) O (JLh (.agg (Slot.cs a.1)) (H3 O O O) O (JLh (.agg (Box.cs a.2)) (H3 O O O) O (JLh (.ptr 1149 0) (Hm 1149 3 Rc O O) O (JLh (.ptr 1150 0) (Hm 1150 9 Qw O O) O (Ho (u:=.junk) (H7 (u:=.agg (Slot.cs a.1)) (ds:=[I64 a.1.G3,I64 a.1.Tier,U8 a.1.Half]) Y9 O O O O O O O O) (Ho (u:=.junk) (H7 (u:=.agg (Box.cs a.2)) (ds:=(Box.cs a.2)) Rf O O O O O O O O) (G5 (a4 ?_)))))))))
   refine fzQ [(3,U8 half),(5,.dptr [I64 x.G3,I64 x.Tier,U8 x.Half]),(9,.fn 126 []),(10,I64 c),(11,Ek a.1),(12,.ptr 1150 0),(29,.it 1151)] [(1151,.iter (DM Slot.kv Box.av m.on) m.on.l.length (d++[g])),(1150,.box 103 (Box.cs a.2))] 1149 rfl rfl rfl ⟨⟨_,rfl,.iter rfl⟩,⟨_,rfl,.boxEq rfl rfl⟩,ø⟩ rfl ?_
   refine fzQ [(3,U8 half),(5,.dptr [I64 x.G3,I64 x.Tier,U8 x.Half]),(9,.fn 126 []),(10,I64 c),(11,Ek a.1),(12,Ei a.2),(29,.it 1151)] [(1151,.iter (DM Slot.kv Box.av m.on) m.on.l.length (d++[g]))] 1150 rfl rfl rfl ⟨⟨_,rfl,.iter rfl⟩,ø⟩ rfl ?_
   refine Jr fun a5=>(JLh (Ek a.1) (Ga J4 O O O) O (JLh (I64 a.1.G3) (Gg Gb O O O) O (JLh (.dptr [I64 x.G3,I64 x.Tier,U8 x.Half]) (Ga J4 O O O) O (JLh (I64 x.G3) (Gg Gb O O O) O (JLh (BL (decide (a.1.G3=x.G3))) (Qm O O O) O (JLm (BL (decide (a.1.G3=x.G3))) O (JLo (.dptr [U8 a.1.Half]) [] O .sct ø (fun hc=>Ga Qu O O O) O (JLo (U8 a.1.Half) [41] O .sct ⟨Ua,ø⟩ (fun hc=>Gg Ht O O O) O (JLo (BL (decide (a.1.Half=0))) [42] O .sct ⟨Ua,ø⟩ (fun hc=>Qm O O O) O (JLo (BL (decide (a.1.Half=0))) [43] O .sct ⟨Ua,ø⟩ (fun hc=>G6 O O) O (JLo (.dptr [U8 a.1.Half]) [] O .optf ø (fun hc=>Ga Qu O O O) O (JLo (U8 a.1.Half) [45] O .optf ⟨Ua,ø⟩ (fun hc=>Gg Ht O O O) O (JLo (U8 half) [] O .optf ø (fun hc=>G6 O O) O ?_)))))))))))))
   refine JLo (BL (decide (a.1.Half=half))) [46,47] O .optf ⟨Ua,Ua,ø⟩ (fun hc=>Qm O O O) O (Gj (u:=BL ((decide (a.1.Half=0))||(decide (a.1.Half=half)))) [(44,BL (decide (a.1.Half=0))),(48,_)] O O O .sct ⟨.all id,.part,ø⟩ (fun hc=>G7e O O O O) ?_)
   refine JLh (BL ((decide (a.1.G3=x.G3))&&((decide (a.1.Half=0))||(decide (a.1.Half=half))))) (Y3 O O O O) O (G5 (a5 (JCc O h (fun h hb=>?_) (fun h hb=>?_))))
   ·
    refine G2 (JLm (I64 c) O (JLm (.fn 126 []) O (JLh (.agg (Box.cs a.2)) (Gk R3 O O O) O ?_)))
    obtain⟨y,a6,h⟩:=Ge h
    refine JLh (I64 y) (G11 (args:=[.agg (Box.cs a.2)]) (caps:=[]) O O (H8b a.2 y a6) Q16 ⟨O,O,ø⟩ O) O ?_
    obtain⟨s,a7,h⟩:=J6 h
    refine JLh (I64 s) (Jb a7 O O O) O (JLm (I64 s) O (G5 (w _ _ (d++[g]) s (i _ (M7 h).symm) (Ga1 (M5 f).1 j) ⟨(.sm O O),⟨⟨_,rfl,.iter rfl⟩,ø⟩,rfl⟩)))
   ·
    refine Gn (w _ _ (d++[g]) c (i _ (M7 h).symm) (Ga1 (M5 f).1 j) ⟨(.sm O O),⟨⟨_,rfl,.iter rfl⟩,ø⟩,rfl⟩)
  ·
   obtain⟨p_,h,hp⟩:=n.done a2
   replace h:=app1 v h
   refine JLh (BL false) (H3 O O O) O (G5 (o (Js fun b9=>G24 O (Hq (b5 (Jr fun a8=>(JLm (I64 c) O (JLm (I64 c) O (G5 (a8 (Gs (⟨[I64 c],[],ø,O,⟨⟨_,O,.conv (.same O)⟩,ø⟩,O,c,Eq.mpr (M7 h) hp,O⟩))))))))))))
theorem Q06 (S_:(Gc)→(Slot)→(Box)→(Int)→Option Int) (hS_:∀ m x b half r,S_ m x b half=some r→∃ p:Prop,G9c m x b half (fun r_=>r_=r)=some p∧p) (m:Gc) (x:Slot) (b:Box) (half:Int) (r:Int) (h:S_ m x b half=some r):Pure En 90 [.dptr (Gc.cs m),.agg [I64 x.G3,I64 x.Tier,U8 x.Half],.agg (Box.cs b),U8 half] (·=I64 r):=by
 obtain⟨p,a,c⟩:=hS_ m x b half r h
 exact(Q05 m x b half _ p a c).monoP (fun av hh=>by obtain⟨r_,rfl,ha⟩:=hh; exact ha)

def G69 (m:Gc):Option Int:=
 some m.lifts
theorem Hab (m:Gc) (r:Int) (h:G69 m=some r):Pure En 16 [.dptr (Gc.cs m)] (·=I64 r):=by
 unfold G69 at h
 refine Gx [.tmp 2] Tryz.func16 O O (Jr fun a=>(JLm (I64 0) O (G5 (a (Js fun c=>Jr fun d=>(JLm (Eg m) O (JLh (BL true) (Gw O (Rm m true O) G5d ⟨O,O,ø⟩) O (JLh (BL false) (Yc (b:=true) O O) O (G5 (d (G24 O (Gn (c (Jr fun e=>(JLm (Eg m) O (JLh (Eg m) (G63 O O) O (JLh (.dptr [I64 m.lifts]) (Ga Gbc O O O) O (JLh (I64 m.lifts) (Gg Gb O O O) O (JLm (I64 m.lifts) O (G5 (e (Gs (fin1 I64 h)))))))))))))))))))))))

def Jcd (l:List J1):Option Int:=
 each (fun a e (c:Unit) b=>
  bnd (a.val) fun d=>
  bif (!d) then
  (some a.bad)
  else
  (b ()))
 (fun(c:Unit)=>
  some 0) l 0 ()
theorem Qd9 (l:List J1) (r:Int) (h:Jcd l=some r):Pure En 76 [LS 2 J1.av l] (·=I64 r):=by
 unfold Jcd at h
 refine Gx [.tmp 2] Tryz.func76 O O (Jr fun a3=>(JLm (I64 0) O (G5 (a3 (Js fun a4=>Jr fun a5=>(JLm (LS 2 J1.av l) O (JLl Gf0 O O O fun a6=>(JLm (I64 0) O (G5 (a5 (Gq ?_)))))))))))
 obtain⟨a7,n,o,m,h⟩:=Jd h
 refine Hn (fun e (g:Unit)=>each a7 n (List.drop e l) e g=some r) (fun e g=>[(5,LS 2 J1.av l),(6,Em l.length),(7,Em e)]) (fun e g=>[]) (fun e=>l.length - e) 0 () h ⟨(.sm O O),ø,O⟩ ?_
 clear h
 intro e g j b0 a8
 refine Jr fun p=>(JLh (BL (decide ((e:Int) < (l.length:Int)))) (Jq O O O) O (G5 (p (Js fun q=>Gr O (fun hb=>?_) (fun hb=>?_)))))
 ·
  have k:=Q5 hb
  obtain⟨a,a9,s,t,h⟩:=Hu j k
  replace h:=Zg o h
  refine Gn (q (Js fun v=>Gq (Jr fun x=>(JLh (.dptr [.fn a.f a.c,I64 a.bad]) (Hg (f:=J1.av) (xs:=l) (y:=a) O O O Gf0 s O) O (JLh (.agg [.fn a.f a.c,I64 a.bad]) (Gk Q93 O O O) O (JLh (.ptr 1140 0) (Hm 1140 2 H5c O O) O (Ho (u:=.junk) (H7 (u:=.agg [.fn a.f a.c,I64 a.bad]) (ds:=[.fn a.f a.c,I64 a.bad]) Q0f O O O O O O O O) (G5 (x (fzQ [(4,.dptr [.fn a.f a.c,I64 a.bad]),(5,LS 2 J1.av l),(6,Em l.length),(7,Em e)] [] 1140 rfl (by simp [Q9,AV.refs,a.d]) rfl ø rfl ?_))))))))))
  refine Jr fun z=>(JLh (.dptr [.fn a.f a.c,I64 a.bad]) (Ga Q6a O O O) O (JLh (.fn a.f a.c) (Gg R3a O O O) O ?_))
  obtain⟨i,a0,h⟩:=Ge h
  refine JLh (BL i) (G11 (args:=[]) (caps:=a.c) O O (a.w i a0) a.B ø a.d) O (JLh (BL (!i)) (Yc (b:=i) O O) O (G5 (z (JCc O h (fun h hb=>?_) (fun h hb=>?_)))))
  ·
   refine Jr fun a1=>(JLh (.dptr [I64 a.bad]) (Ga Q69 O O O) O (JLh (I64 a.bad) (Gg He7 O O O) O (JLm (I64 a.bad) O (G5 (a1 (Gs (fin1 I64 h)))))))
  ·
   refine Gn (v (G2 (JLh (I64 ((e+1:Nat):Int)) (Jb (Hp k a6) O O O) O (JLm (I64 ((e+1:Nat):Int)) O (G5 (a8 _ _ (e+1) () (app1 t h) (by omega) ⟨(.sm O O),ø,rfl⟩))))))
 ·
  have h:=app1 m (Hv j (Hj hb))
  refine Hq (a4 (Jr fun a2=>(JLm (I64 0) O (G5 (a2 (Gs (fin1 I64 h)))))))

def Yp (a:Bool):Option Bool:=
 some a
theorem Gac (a:Bool) (r:Bool) (h:Yp a=some r):Pure En 123 [.dptr [BL a]] (·=BL r):=by
 unfold Yp at h
 refine Gx [.tmp 1] Tryz.func123 O O (Jr fun b=>(JLm (BL false) O (G5 (b (Jr fun c=>(JLh (BL a) (Gg Qb O O O) O (JLm (BL a) O (G5 (c (Gs (fin1 BL h)))))))))))

def H47 (holds:Bool) (bad:Int):Option Unit:=
 some ()
theorem H26 (holds:Bool) (bad:Int) (r:Unit) (h:H47 holds bad=some r):Pure En 77 [BL holds,I64 bad] (·=.agg [.fn 123 [.dptr [BL holds]],I64 bad]):=by
 unfold H47 at h
 refine Gx [.cell 4 151] Tryz.func77 O O (Jr fun a=>(JLh (.ptr 1141 0) (Q2 (cs:=[BL holds]) 1141 O O O O O) O (JLh (.ptr 1142 0) (Zw 1142 [.sc .nilFunc,I64 0] [.nilFunc,E0] G14 (zzQ O) O O) O (G5 (a (Gp [(1,I64 bad),(2,.dptr [BL holds]),(4,.ptr 1142 0)] [(1142,.box 151 [.sc .nilFunc,I64 0])] 1141 rfl rfl rfl ⟨⟨_,rfl,.boxEq rfl rfl⟩,ø⟩ rfl (by exact⟨.conv (.same rfl),.ptr,.conv (.same rfl),ø⟩) ?_))))))
 refine Jr fun b=>(JLh (.fn 123 [.dptr [BL holds]]) (Q4 (cs:=[.dptr [BL holds]]) O O) O (JLm (I64 bad) O (JLh (.agg [.fn 123 [.dptr [BL holds]],I64 bad]) (He (cs:=[.fn 123 [.dptr [BL holds]],I64 bad]) [(0,1),(1,1)] [.sc .nilFunc,I64 0] [.nilFunc,E0] Zk G14 (zzQ O) O O) O (Ho (u:=.junk) (H7 (u:=.agg [.fn 123 [.dptr [BL holds]],I64 bad]) (ds:=[.fn 123 [.dptr [BL holds]],I64 bad]) Q0f O O O O O O O O) (G5 (b (Gs (⟨[.agg [.fn 123 [.dptr [BL holds]],I64 bad]],[],ø,O,⟨⟨_,⟨_,_,_,_,O,O,O,.inl ⟨Q93,O⟩⟩,.conv (.same O)⟩,ø⟩,O,congrArg (fun _:Unit=>(.agg [.fn 123 [.dptr [BL holds]],I64 bad]:AV)) (M7 h)⟩))))))))

def Zt (s:List Int) (v:Int):Option Int:=
 each (fun b c (d:Unit) a=>
  bif decide (v=b) then
  (some (c:Int))
  else
  (a ()))
 (fun(d:Unit)=>
  some (-1)) s 0 ()
theorem J01 (s:List Int) (v:Int) (r:Int) (h:Zt s v=some r):Pure En 143 [Eb s,U8 v] (·=I64 r):=by
 unfold Zt at h
 refine Gx [.tmp 4] Tryz.func143 O O (Jr fun w=>(JLm (I64 0) O (G5 (w (Js fun x=>Jr fun z=>(JLm (Eb s) O (JLl Ga2 O O O fun a0=>(JLm (I64 0) O (G5 (z (Gq ?_)))))))))))
 obtain⟨a1,i,j,g,h⟩:=Jd h
 refine Hn (fun a (b:Unit)=>each a1 i (List.drop a s) a b=some r) (fun a b=>[(0,Eb s),(1,U8 v),(7,Em s.length),(8,Em a)]) (fun a b=>[]) (fun a=>s.length - a) 0 () h ⟨(.sm O O),ø,rfl⟩ ?_
 clear h
 intro a b d a4 a2
 refine Jr fun k=>(JLh (BL (decide ((a:Int) < (s.length:Int)))) (Jq O O O) O (G5 (k (Js fun l=>Gr O (fun hb=>?_) (fun hb=>?_)))))
 ·
  have e:=Q5 hb
  obtain⟨c,a3,m,n,h⟩:=Hu d e
  replace h:=Zg j h
  refine Gn (l (Js fun o=>Gq (Jr fun p=>(JLm (Em a) O (JLm (Em a) O (G5 (p (Jr fun q=>(JLm (U8 v) O (JLm (Eb s) O (JLm (Em a) O (JLh (.dptr [U8 c]) (Hg (f:=U8) (xs:=s) (y:=c) O O O Ga2 m O) O (JLh (U8 c) (Gg Ht O O O) O (JLh (BL (decide (v=c))) (Qm O O O) O (G5 (q (JCc O h (fun h hb=>?_) (fun h hb=>?_))))))))))))))))))
  ·
   refine Jr fun t=>(JLm (Em a) O (JLm (Em a) O (G5 (t (Gs (fin1 I64 h))))))
  ·
   refine Gn (o (G2 (JLh (I64 ((a+1:Nat):Int)) (Jb (Hp e a0) O O O) O (JLm (I64 ((a+1:Nat):Int)) O (G5 (a2 _ _ (a+1) () (app1 n h) (by omega) ⟨(.sm O O),ø,rfl⟩))))))
 ·
  have h:=app1 g (Hv d (Hj hb))
  refine Hq (x (Jr fun u=>(JLm (I64 (-1)) O (G5 (u (Gs (fin1 I64 h)))))))

def Yw (s:List Int) (v:Int):Option Bool:=
 bnd (Zt s v) fun a=>
 some (decide (0≤a))
theorem H98 (s:List Int) (v:Int) (r:Bool) (h:Yw s v=some r):Pure En 112 [Eb s,U8 v] (·=BL r):=by
 unfold Yw at h
 refine Gx [.tmp 4] Tryz.func112 O O (Jr fun b=>(JLm (BL false) O (G5 (b (Jr fun c=>(JLm (Eb s) O (JLm (U8 v) O ?_)))))))
 obtain⟨a,d,h⟩:=Ge h
 refine JLh (I64 a) (Gw O (J01 s v a d) R7f ⟨O,O,O,O,ø⟩) O (JLh (BL (decide (0≤a))) (H13 O O O) O (JLm (BL (decide (0≤a))) O (G5 (c (Gs (fin1 BL h))))))

def G5f (s:Gh) (x:Slot) (size:Int):Option Bool:=
 bnd (bif (((decide (0≤x.G3))&&(decide (x.G3 < (s.Columns.length:Int))))&&(decide (0≤x.Tier))) then Qy s.Columns x.G3 some else some default) fun a=>
 bnd (bif ((((decide (0≤x.G3))&&(decide (x.G3 < (s.Columns.length:Int))))&&(decide (0≤x.Tier)))&&(decide (x.Tier < a.Tiers))) then G3f size else some default) fun b=>
 bnd (bif ((((decide (0≤x.G3))&&(decide (x.G3 < (s.Columns.length:Int))))&&(decide (0≤x.Tier)))&&(decide (x.Tier < a.Tiers))) then Yw b x.Half else some default) fun c=>
 some (((((decide (0≤x.G3))&&(decide (x.G3 < (s.Columns.length:Int))))&&(decide (0≤x.Tier)))&&(decide (x.Tier < a.Tiers)))&&c)
theorem J41 (s:Gh) (x:Slot) (size:Int) (r:Bool) (h:G5f s x size=some r):Pure En 63 [.agg (Gh.cs s),.agg [I64 x.G3,I64 x.Tier,U8 x.Half],U8 size] (·=BL r):=by
 unfold G5f at h
 refine Gx [.tmp 6] Tryz.func63 O O (Jr fun d=>(JLh (.ptr 1120 0) (Q2 (cs:=(Gh.cs s)) 1120 O O O O O) O (JLh (.ptr 1121 0) (Q2 (cs:=[I64 x.G3,I64 x.Tier,U8 x.Half]) 1121 O O O O O) O (JLm (BL false) O (G5 (d (Gp [(2,U8 size),(3,Ee s),(4,.ptr 1121 0)] [(1121,.box 57 [I64 x.G3,I64 x.Tier,U8 x.Half])] 1120 rfl rfl rfl ⟨⟨_,rfl,.boxEq rfl rfl⟩,ø⟩ rfl (by exact⟨.conv (.same rfl),.ptr,.conv (.same rfl),ø⟩) ?_)))))))
 refine Gp [(2,U8 size),(3,Ee s),(4,.dptr [I64 x.G3,I64 x.Tier,U8 x.Half])] [] 1121 rfl rfl rfl ø rfl (by exact⟨.conv (.same rfl),.conv (.same rfl),.ptr,ø⟩) (Js fun e=>?_)
 obtain⟨a,g,h⟩:=Ge h
 obtain⟨b,i,h⟩:=Ge h
 obtain⟨c,j,h⟩:=Ge h
 refine JC_d0 Ja (by kernel_rfl) (Dq (.dptr [I64 x.G3,I64 x.Tier,U8 x.Half]) (Ga J4 O O O) O (Dq (I64 x.G3) (Gg Gb O O O) O (Dq (BL (decide (0≤x.G3))) (H13 O O O) O (Dq (BL (decide (0≤x.G3))) (G6 O O) O (Do (.dptr [I64 x.G3,I64 x.Tier,U8 x.Half]) [] O .sct ø (fun hc=>Ga J4 O O O) O (Do (I64 x.G3) [11] O .sct ⟨Ua,ø⟩ (fun hc=>Gg Gb O O O) O (Do (Ee s) [] O .sct ø (fun hc=>Ga J5 O O O) O (Do (E3 s.Columns) [13] O .sct ⟨Ua,ø⟩ (fun hc=>Gg Jn O O O) O (Do (Em s.Columns.length) [14] O .sct ⟨Ua,ø⟩ (fun hc=>H55 (f:=G3.av) (xs:=s.Columns) Hx O O) O (Do (BL (decide (x.G3 < (s.Columns.length:Int)))) [12,15] O .sct ⟨Ua,Ua,ø⟩ (fun hc=>Jq O O O) O (Dq (BL ((decide (0≤x.G3))&&(decide (x.G3 < (s.Columns.length:Int))))) (Y3 O O O O) O (Dq (BL ((decide (0≤x.G3))&&(decide (x.G3 < (s.Columns.length:Int))))) (G6 O O) O (Do (.dptr [I64 x.Tier,U8 x.Half]) [] O .sct ø (fun hc=>Ga Qv O O O) O ?_)))))))))))))
 refine Do (I64 x.Tier) [19] O .sct ⟨Ua,ø⟩ (fun hc=>Gg Gb O O O) O (Do (BL (decide (0≤x.Tier))) [20] O .sct ⟨Ua,ø⟩ (fun hc=>H13 O O O) O (Dq (BL (((decide (0≤x.G3))&&(decide (x.G3 < (s.Columns.length:Int))))&&(decide (0≤x.Tier)))) (Y3 O O O O) O (Dq (BL (((decide (0≤x.G3))&&(decide (x.G3 < (s.Columns.length:Int))))&&(decide (0≤x.Tier)))) (G6 O O) O (Do (.dptr [I64 x.Tier,U8 x.Half]) [] O .sct ø (fun hc=>Ga Qv O O O) O (Do (I64 x.Tier) [24] O .sct ⟨Ua,ø⟩ (fun hc=>Gg Gb O O O) O (Do (Ee s) [] O .sct ø (fun hc=>Ga J5 O O O) O (Do (E3 s.Columns) [26] O .sct ⟨Ua,ø⟩ (fun hc=>Gg Jn O O O) O (Do (.dptr [I64 x.G3,I64 x.Tier,U8 x.Half]) [] O .sct ø (fun hc=>Ga J4 O O O) O (Do (I64 x.G3) [28] O .sct ⟨Ua,ø⟩ (fun hc=>Gg Gb O O O) O (Do (Ej a) [27,29] O .sct ⟨Ua,Ua,ø⟩ (fun hc=>(match Ga9 (H5 hc g) with | ⟨_,hm_,hy_⟩=>Hg (f:=G3.av) (xs:=s.Columns) (y:=a) O O O Hx hy_ hm_)) O (Do (.dptr ((G3.cs a).drop 3)) [30] O .sct ⟨Ua,ø⟩ (fun hc=>Ga H2c O O O) O (Do (I64 a.Tiers) [31] O .sct ⟨Ua,ø⟩ (fun hc=>Gg Gb O O O) O (Do (BL (decide (x.Tier < a.Tiers))) [25,32] O .sct ⟨Ua,Ua,ø⟩ (fun hc=>Jq O O O) O ?_)))))))))))))
 refine Dq (BL ((((decide (0≤x.G3))&&(decide (x.G3 < (s.Columns.length:Int))))&&(decide (0≤x.Tier)))&&(decide (x.Tier < a.Tiers)))) (Y3 O O O O) O (Dq (BL ((((decide (0≤x.G3))&&(decide (x.G3 < (s.Columns.length:Int))))&&(decide (0≤x.Tier)))&&(decide (x.Tier < a.Tiers)))) (G6 O O) O (Do (U8 size) [] O .sct ø (fun hc=>G6 O O) O (Do (Eb b) [36] O .sct ⟨Ua,ø⟩ (fun hc=>Gw (args:=[U8 size]) O (J0d size b (H5 hc i)) Q19 ⟨O,O,ø⟩) O (Do (.dptr [U8 x.Half]) [] O .sct ø (fun hc=>Ga Qu O O O) O (Do (U8 x.Half) [38] O .sct ⟨Ua,ø⟩ (fun hc=>Gg Ht O O O) O (Do (BL c) [37,39] O .sct ⟨Ua,Ua,ø⟩ (fun hc=>Gw (args:=[Eb b,U8 x.Half]) O (H98 b x.Half c (H5 hc j)) R8c ⟨O,O,O,O,ø⟩) O (Dq (BL (((((decide (0≤x.G3))&&(decide (x.G3 < (s.Columns.length:Int))))&&(decide (0≤x.Tier)))&&(decide (x.Tier < a.Tiers)))&&c)) (Y3 O O O O) O (Dq (BL (((((decide (0≤x.G3))&&(decide (x.G3 < (s.Columns.length:Int))))&&(decide (0≤x.Tier)))&&(decide (x.Tier < a.Tiers)))&&c)) (G7 O O) O (Dnil ?_)))))))))
 refine e (Gs (fin1 BL h))

def Y6 (s:List Slot) (v:Slot):Option Int:=
 each (fun b c (d:Unit) a=>
  bif decide (v=b) then
  (some (c:Int))
  else
  (a ()))
 (fun(d:Unit)=>
  some (-1)) s 0 ()
theorem Hc2 (s:List Slot) (v:Slot) (r:Int) (h:Y6 s v=some r):Pure En 144 [E9 s,.agg [I64 v.G3,I64 v.Tier,U8 v.Half]] (·=I64 r):=by
 unfold Y6 at h
 refine Gx [.tmp 4] Tryz.func144 O O (Jr fun w=>(JLh (.ptr 1198 0) (Q2 (cs:=[I64 v.G3,I64 v.Tier,U8 v.Half]) 1198 O O O O O) O (JLm (I64 0) O (G5 (w (Gp [(0,E9 s),(3,.dptr [I64 v.G3,I64 v.Tier,U8 v.Half])] [] 1198 rfl rfl rfl ø rfl (by exact⟨.conv (.same rfl),.ptr,ø⟩) (Js fun x=>Jr fun z=>(JLm (E9 s) O (JLl Y4 O O O fun a0=>(JLm (I64 0) O (G5 (z (Gq ?_)))))))))))))
 obtain⟨a1,i,j,g,h⟩:=Jd h
 refine Hn (fun a (c:Unit)=>each a1 i (List.drop a s) a c=some r) (fun a c=>[(0,E9 s),(3,.dptr [I64 v.G3,I64 v.Tier,U8 v.Half]),(7,Em s.length),(8,Em a)]) (fun a c=>[]) (fun a=>s.length - a) 0 () h ⟨(.sm O O),ø,rfl⟩ ?_
 clear h
 intro a c d a4 a2
 refine Jr fun k=>(JLh (BL (decide ((a:Int) < (s.length:Int)))) (Jq O O O) O (G5 (k (Js fun l=>Gr O (fun hb=>?_) (fun hb=>?_)))))
 ·
  have e:=Q5 hb
  obtain⟨b,a3,m,n,h⟩:=Hu d e
  replace h:=Zg j h
  refine Gn (l (Js fun o=>Gq (Jr fun p=>(JLm (Em a) O (JLm (Em a) O (G5 (p (Js fun q=>JC_d0 Ja (by kernel_rfl) (Dq (.agg [I64 v.G3,I64 v.Tier,U8 v.Half]) (Gk J0 O O O) O (Dq (E9 s) (G6 O O) O (Dq (Em a) (G6 O O) O (Dq (Ek b) (Hg (f:=Slot.av) (xs:=s) (y:=b) O O O Y4 m O) O (Dq (.agg (Slot.cs b)) (Gk J0 O O O) O (Dq (BL (decide (v=b))) (Y74 (vs:=[.int .i64 v.G3,.int .i64 v.Tier,.int .u8 v.Half]) (us:=[.int .i64 b.G3,.int .i64 b.Tier,.int .u8 b.Half]) 4 O (Y4a v b) J27 Je2 O O O) O (Dnil (q (JCc O h (fun h hb=>?_) (fun h hb=>?_))))))))))))))))))
  ·
   refine Jr fun t=>(JLm (Em a) O (JLm (Em a) O (G5 (t (Gs (fin1 I64 h))))))
  ·
   refine Gn (o (G2 (JLh (I64 ((a+1:Nat):Int)) (Jb (Hp e a0) O O O) O (JLm (I64 ((a+1:Nat):Int)) O (G5 (a2 _ _ (a+1) () (app1 n h) (by omega) ⟨(.sm O O),ø,rfl⟩))))))
 ·
  have h:=app1 g (Hv d (Hj hb))
  refine Hq (x (Jr fun u=>(JLm (I64 (-1)) O (G5 (u (Gs (fin1 I64 h)))))))

def Qc (s:List Slot) (v:Slot):Option Bool:=
 bnd (Y6 s v) fun a=>
 some (decide (0≤a))
theorem H65 (s:List Slot) (v:Slot) (r:Bool) (h:Qc s v=some r):Pure En 115 [E9 s,.agg [I64 v.G3,I64 v.Tier,U8 v.Half]] (·=BL r):=by
 unfold Qc at h
 refine Gx [.tmp 4] Tryz.func115 O O (Jr fun b=>(JLh (.ptr 1177 0) (Q2 (cs:=[I64 v.G3,I64 v.Tier,U8 v.Half]) 1177 O O O O O) O (JLm (BL false) O (G5 (b (Gp [(0,E9 s),(3,.dptr [I64 v.G3,I64 v.Tier,U8 v.Half])] [] 1177 rfl rfl rfl ø rfl (by exact⟨.conv (.same rfl),.ptr,ø⟩) (Jr fun c=>(JLm (E9 s) O (JLh (.agg [I64 v.G3,I64 v.Tier,U8 v.Half]) (Gk J0 O O O) O ?_)))))))))
 obtain⟨a,d,h⟩:=Ge h
 refine JLh (I64 a) (Gw O (Hc2 s v a d) R7e ⟨O,O,O,O,ø⟩) O (JLh (BL (decide (0≤a))) (H13 O O O) O (JLm (BL (decide (0≤a))) O (G5 (c (Gs (fin1 BL h))))))

def Z2 (half:Int) (b:List Slot) (a:Slot):Option Bool:=
 chk (a.Tier - 1) fun c=>
 bnd (Qc b (Slot.mk a.G3 c half)) fun d=>
 some d
theorem H54 (half:Int) (b:List Slot) (a:Slot) (r:Bool) (h:Z2 half b a=some r):Pure En 114 [U8 half,.dptr [E9 b],.dptr [I64 a.G3,I64 a.Tier,U8 a.Half]] (·=BL r):=by
 unfold Z2 at h
 refine Gx [.tmp 4] Tryz.func114 O O (Jr fun e=>(JLm (BL false) O (G5 (e (Jr fun f=>(JLh (E9 b) (Gg Gbb O O O) O (JLh (.dptr [I64 a.G3,I64 a.Tier,U8 a.Half]) (Ga J4 O O O) O (JLh (I64 a.G3) (Gg Gb O O O) O (JLh (.dptr [I64 a.Tier,U8 a.Half]) (Ga Qv O O O) O (JLh (I64 a.Tier) (Gg Gb O O O) O ?_))))))))))
 obtain⟨c,g,h⟩:=J6 h
 refine JLh (I64 c) (G85 g O O O) O (JLm (U8 half) O (JLh (.agg [I64 a.G3,I64 c,U8 half]) (He (cs:=[I64 a.G3,I64 c,U8 half]) [(0,1),(1,1),(2,1)] [I64 0,I64 0,U8 0] [E0,E0,.int .u8 0] Gf2 Gd1 (zzQ O) O O) O ?_))
 obtain⟨d,i,h⟩:=Ge h
 refine JLh (BL d) (Gw O (H65 b (Slot.mk a.G3 c half) d i) R8b ⟨O,O,O,O,ø⟩) O (JLm (BL d) O (G5 (f (Gs (fin1 BL h)))))

def G37 (x:Slot) (l:List Slot):Option Bool:=
 bif decide (x.Tier≤0) then
 (some true)
 else
 (bnd (Z2 x.Half l x) fun a=>
  bnd (bif ((!a)&&(decide (x.Half=0))) then Z2 1 l x else some default) fun b=>
  bnd (bif ((!a)&&((decide (x.Half=0))&&b)) then Z2 2 l x else some default) fun c=>
  some (a||(((decide (x.Half=0))&&b)&&c)))
abbrev Er (l:List Slot) (x:Slot):List AV:=[.dptr [E9 l],.dptr [I64 x.G3,I64 x.Tier,U8 x.Half]]
theorem J7c (x:Slot) (l:List Slot) (r:Bool) (h:G37 x l=some r):Pure En 64 [.agg [I64 x.G3,I64 x.Tier,U8 x.Half],E9 l] (·=BL r):=by
 unfold G37 at h
 refine Gx [.tmp 4] Tryz.func64 O O (Jr fun d=>(JLh (.ptr 1122 0) (Q2 (cs:=[I64 x.G3,I64 x.Tier,U8 x.Half]) 1122 O O O O O) O (JLh (.ptr 1123 0) (Q2 (cs:=[E9 l]) 1123 O O O O O) O (JLm (BL false) O (G5 (d (Gp [(2,.dptr [I64 x.G3,I64 x.Tier,U8 x.Half]),(3,.ptr 1123 0)] [(1123,.box 133 [E9 l])] 1122 rfl rfl rfl ⟨⟨_,rfl,.boxEq rfl rfl⟩,ø⟩ rfl (by exact⟨.ptr,.conv (.same rfl),ø⟩) (Gp [(2,.dptr [I64 x.G3,I64 x.Tier,U8 x.Half]),(3,.dptr [E9 l])] [] 1123 rfl rfl rfl ø rfl (by exact⟨.conv (.same rfl),.ptr,ø⟩) (Js fun e=>Jr fun f=>(JLh (.dptr [I64 x.Tier,U8 x.Half]) (Ga Qv O O O) O (JLh (I64 x.Tier) (Gg Gb O O O) O (JLh (BL (decide (x.Tier≤0))) (Hb5 O O O) O (G5 (f ?_))))))))))))))
 refine JCc O h ?_ ?_<;>intro h hb
 ·
  refine Jr fun g=>(JLm (BL true) O (G5 (g (Gs (fin1 BL h)))))
 ·
  refine Gn (e (Jr fun i=>(JLh (.fn 114 (Er l x)) (Q4 (cs:=(Er l x)) O O) O (JLm (.fn 114 (Er l x)) O (G5 (i (Jr fun j=>(JLm (.fn 114 (Er l x)) O (JLh (.dptr [U8 x.Half]) (Ga Qu O O O) O (JLh (U8 x.Half) (Gg Ht O O O) O ?_))))))))))
  obtain⟨b,k,h⟩:=Ge h
  refine JLh (BL b) (G11 (args:=[U8 x.Half]) (caps:=(Er l x)) O O (H54 x.Half l x b k) J26 ⟨O,O,ø⟩ O) O (JLm (BL b) O (JLo (.dptr [U8 x.Half]) [] O .scf ø (fun hc=>Ga Qu O O O) O (JLo (U8 x.Half) [15] O .scf ⟨Ua,ø⟩ (fun hc=>Gg Ht O O O) O (JLo (BL (decide (x.Half=0))) [16] O .scf ⟨Ua,ø⟩ (fun hc=>Qm O O O) O (JLo (BL (decide (x.Half=0))) [17] O .scf ⟨Ua,ø⟩ (fun hc=>G6 O O) O (JLo (.fn 114 (Er l x)) [] O .optt ø (fun hc=>G6 O O) O ?_))))))
  obtain⟨a,m,h⟩:=Ge h
  refine JLo (BL a) [19] O .optt ⟨Ua,ø⟩ (fun hc=>G11 (args:=[U8 1]) (caps:=(Er l x)) O O (H54 1 l x a (H5 hc m)) J26 ⟨O,O,ø⟩ O) O (Gj (u:=BL ((decide (x.Half=0))&&a)) [(18,BL (decide (x.Half=0))),(20,_)] O O O .scf ⟨.all id,.part,ø⟩ (fun hc=>Y3 O O O O) ?_)
  refine JLo (BL ((decide (x.Half=0))&&a)) [21] O .scf ⟨Ua,ø⟩ (fun hc=>G6 O O) O (JLo (.fn 114 (Er l x)) [] O .optt ø (fun hc=>G6 O O) O ?_)
  obtain⟨c,n,h⟩:=Ge h
  refine JLo (BL c) [23] O .optt ⟨Ua,ø⟩ (fun hc=>G11 (args:=[U8 2]) (caps:=(Er l x)) O O (H54 2 l x c (H5 hc n)) J26 ⟨O,O,ø⟩ O) O (Gj (u:=BL (((decide (x.Half=0))&&a)&&c)) [(22,BL ((decide (x.Half=0))&&a)),(24,_)] O O O .scf ⟨.all id,.part,ø⟩ (fun hc=>Y3 O O O O) ?_)
  refine JLh (BL (b||(((decide (x.Half=0))&&a)&&c))) (G7e O O O O) O (JLm (BL (b||(((decide (x.Half=0))&&a)&&c))) O (G5 (j (Gs (fin1 BL h)))))

def G78 (a:Int) (b:Int):Option Bool:=
 some (((decide (a=b))||(decide (a=0)))||(decide (b=0)))
theorem J0c (a:Int) (b:Int) (r:Bool) (h:G78 a b=some r):Pure En 116 [U8 a,U8 b] (·=BL r):=by
 unfold G78 at h
 refine Gx [.tmp 4] Tryz.func116 O O (Jr fun c=>(JLm (BL false) O (G5 (c (Jr fun d=>(JLm (U8 a) O (JLm (U8 b) O (JLh (BL (decide (a=b))) (Qm O O O) O (JLm (BL (decide (a=b))) O (JLo (U8 a) [] O .scf ø (fun hc=>G6 O O) O (JLo (BL (decide (a=0))) [9] O .scf ⟨Ua,ø⟩ (fun hc=>Qm O O O) O (JLh (BL ((decide (a=b))||(decide (a=0)))) (G7e O O O O) O (JLm (BL ((decide (a=b))||(decide (a=0)))) O (JLo (U8 b) [] O .scf ø (fun hc=>G6 O O) O (JLo (BL (decide (b=0))) [13] O .scf ⟨Ua,ø⟩ (fun hc=>Qm O O O) O (JLh (BL (((decide (a=b))||(decide (a=0)))||(decide (b=0)))) (G7e O O O O) O (JLm (BL (((decide (a=b))||(decide (a=0)))||(decide (b=0)))) O (G5 (d (Gs (fin1 BL h)))))))))))))))))))))

def Gea (a:Slot) (b:Slot):Option Bool:=
 bnd (bif ((decide (a.G3=b.G3))&&(decide (a.Tier=b.Tier))) then G78 a.Half b.Half else some default) fun c=>
 some (((decide (a.G3=b.G3))&&(decide (a.Tier=b.Tier)))&&c)
theorem J7b (a:Slot) (b:Slot) (r:Bool) (h:Gea a b=some r):Pure En 65 [.agg [I64 a.G3,I64 a.Tier,U8 a.Half],.agg [I64 b.G3,I64 b.Tier,U8 b.Half]] (·=BL r):=by
 unfold Gea at h
 refine Gx [.tmp 4] Tryz.func65 O O (Jr fun d=>(JLh (.ptr 1124 0) (Q2 (cs:=[I64 a.G3,I64 a.Tier,U8 a.Half]) 1124 O O O O O) O (JLh (.ptr 1125 0) (Q2 (cs:=[I64 b.G3,I64 b.Tier,U8 b.Half]) 1125 O O O O O) O (JLm (BL false) O (G5 (d (Gp [(2,.dptr [I64 a.G3,I64 a.Tier,U8 a.Half]),(3,.ptr 1125 0)] [(1125,.box 57 [I64 b.G3,I64 b.Tier,U8 b.Half])] 1124 rfl rfl rfl ⟨⟨_,rfl,.boxEq rfl rfl⟩,ø⟩ rfl (by exact⟨.ptr,.conv (.same rfl),ø⟩) (Gp [(2,.dptr [I64 a.G3,I64 a.Tier,U8 a.Half]),(3,.dptr [I64 b.G3,I64 b.Tier,U8 b.Half])] [] 1125 rfl rfl rfl ø rfl (by exact⟨.conv (.same rfl),.ptr,ø⟩) ?_))))))))
 refine Jr fun e=>(JLh (.dptr [I64 a.G3,I64 a.Tier,U8 a.Half]) (Ga J4 O O O) O (JLh (I64 a.G3) (Gg Gb O O O) O (JLh (.dptr [I64 b.G3,I64 b.Tier,U8 b.Half]) (Ga J4 O O O) O (JLh (I64 b.G3) (Gg Gb O O O) O (JLh (BL (decide (a.G3=b.G3))) (Qm O O O) O (JLm (BL (decide (a.G3=b.G3))) O (JLo (.dptr [I64 a.Tier,U8 a.Half]) [] O .sct ø (fun hc=>Ga Qv O O O) O (JLo (I64 a.Tier) [11] O .sct ⟨Ua,ø⟩ (fun hc=>Gg Gb O O O) O (JLo (.dptr [I64 b.Tier,U8 b.Half]) [] O .sct ø (fun hc=>Ga Qv O O O) O (JLo (I64 b.Tier) [13] O .sct ⟨Ua,ø⟩ (fun hc=>Gg Gb O O O) O (JLo (BL (decide (a.Tier=b.Tier))) [12,14] O .sct ⟨Ua,Ua,ø⟩ (fun hc=>Qm O O O) O (JLh (BL ((decide (a.G3=b.G3))&&(decide (a.Tier=b.Tier)))) (Y3 O O O O) O (JLm (BL ((decide (a.G3=b.G3))&&(decide (a.Tier=b.Tier)))) O ?_)))))))))))))
 refine JLo (.dptr [U8 a.Half]) [] O .sct ø (fun hc=>Ga Qu O O O) O (JLo (U8 a.Half) [18] O .sct ⟨Ua,ø⟩ (fun hc=>Gg Ht O O O) O (JLo (.dptr [U8 b.Half]) [] O .sct ø (fun hc=>Ga Qu O O O) O (JLo (U8 b.Half) [20] O .sct ⟨Ua,ø⟩ (fun hc=>Gg Ht O O O) O ?_)))
 obtain⟨c,f,h⟩:=Ge h
 refine JLo (BL c) [19,21] O .sct ⟨Ua,Ua,ø⟩ (fun hc=>Gw (args:=[U8 a.Half,U8 b.Half]) O (J0c a.Half b.Half c (H5 hc f)) Q18 ⟨O,O,O,O,ø⟩) O (JLh (BL (((decide (a.G3=b.G3))&&(decide (a.Tier=b.Tier)))&&c)) (Y3 O O O O) O (JLm (BL (((decide (a.G3=b.G3))&&(decide (a.Tier=b.Tier)))&&c)) O (G5 (e (Gs (fin1 BL h))))))

def Ge9 (a:Slot) (b:Slot):Option Bool:=
 bnd (bif ((decide (a.G3=b.G3))&&(decide (b.Tier < a.Tier))) then G78 a.Half b.Half else some default) fun c=>
 some (((decide (a.G3=b.G3))&&(decide (b.Tier < a.Tier)))&&c)
theorem J7a (a:Slot) (b:Slot) (r:Bool) (h:Ge9 a b=some r):Pure En 71 [.agg [I64 a.G3,I64 a.Tier,U8 a.Half],.agg [I64 b.G3,I64 b.Tier,U8 b.Half]] (·=BL r):=by
 unfold Ge9 at h
 refine Gx [.tmp 4] Tryz.func71 O O (Jr fun d=>(JLh (.ptr 1135 0) (Q2 (cs:=[I64 a.G3,I64 a.Tier,U8 a.Half]) 1135 O O O O O) O (JLh (.ptr 1136 0) (Q2 (cs:=[I64 b.G3,I64 b.Tier,U8 b.Half]) 1136 O O O O O) O (JLm (BL false) O (G5 (d (Gp [(2,.dptr [I64 a.G3,I64 a.Tier,U8 a.Half]),(3,.ptr 1136 0)] [(1136,.box 57 [I64 b.G3,I64 b.Tier,U8 b.Half])] 1135 rfl rfl rfl ⟨⟨_,rfl,.boxEq rfl rfl⟩,ø⟩ rfl (by exact⟨.ptr,.conv (.same rfl),ø⟩) (Gp [(2,.dptr [I64 a.G3,I64 a.Tier,U8 a.Half]),(3,.dptr [I64 b.G3,I64 b.Tier,U8 b.Half])] [] 1136 rfl rfl rfl ø rfl (by exact⟨.conv (.same rfl),.ptr,ø⟩) ?_))))))))
 refine Jr fun e=>(JLh (.dptr [I64 a.G3,I64 a.Tier,U8 a.Half]) (Ga J4 O O O) O (JLh (I64 a.G3) (Gg Gb O O O) O (JLh (.dptr [I64 b.G3,I64 b.Tier,U8 b.Half]) (Ga J4 O O O) O (JLh (I64 b.G3) (Gg Gb O O O) O (JLh (BL (decide (a.G3=b.G3))) (Qm O O O) O (JLm (BL (decide (a.G3=b.G3))) O (JLo (.dptr [I64 a.Tier,U8 a.Half]) [] O .sct ø (fun hc=>Ga Qv O O O) O (JLo (I64 a.Tier) [11] O .sct ⟨Ua,ø⟩ (fun hc=>Gg Gb O O O) O (JLo (.dptr [I64 b.Tier,U8 b.Half]) [] O .sct ø (fun hc=>Ga Qv O O O) O (JLo (I64 b.Tier) [13] O .sct ⟨Ua,ø⟩ (fun hc=>Gg Gb O O O) O (JLo (BL (decide (b.Tier < a.Tier))) [12,14] O .sct ⟨Ua,Ua,ø⟩ (fun hc=>H0c O O O) O (JLh (BL ((decide (a.G3=b.G3))&&(decide (b.Tier < a.Tier)))) (Y3 O O O O) O (JLm (BL ((decide (a.G3=b.G3))&&(decide (b.Tier < a.Tier)))) O ?_)))))))))))))
 refine JLo (.dptr [U8 a.Half]) [] O .sct ø (fun hc=>Ga Qu O O O) O (JLo (U8 a.Half) [18] O .sct ⟨Ua,ø⟩ (fun hc=>Gg Ht O O O) O (JLo (.dptr [U8 b.Half]) [] O .sct ø (fun hc=>Ga Qu O O O) O (JLo (U8 b.Half) [20] O .sct ⟨Ua,ø⟩ (fun hc=>Gg Ht O O O) O ?_)))
 obtain⟨c,f,h⟩:=Ge h
 refine JLo (BL c) [19,21] O .sct ⟨Ua,Ua,ø⟩ (fun hc=>Gw (args:=[U8 a.Half,U8 b.Half]) O (J0c a.Half b.Half c (H5 hc f)) Q18 ⟨O,O,O,O,ø⟩) O (JLh (BL (((decide (a.G3=b.G3))&&(decide (b.Tier < a.Tier)))&&c)) (Y3 O O O O) O (JLm (BL (((decide (a.G3=b.G3))&&(decide (b.Tier < a.Tier)))&&c)) O (G5 (e (Gs (fin1 BL h))))))
end
end Go.Proofs.YtgcpimpnpcdmmaaGreat
