/- Walks of functions. -/
import Derived.Test.YtidpfkmbfgihlaaGreatSpecW
set_option maxRecDepth 100000
set_option maxHeartbeats 1000000
set_option linter.unusedVariables false
set_option linter.unusedSimpArgs false
namespace Go.Proofs.YtidpfkmbfgihlaaGreat
open Go.RowKit
noncomputable section
structure Box where
 ID:Int
 Number:ByteArray
 Size:Int
 High:Bool
 Kilos:Int
 Load:Int
 Discharge:Int
 Class:Int
 Reefer:Bool
 deriving DecidableEq,Inhabited
def Box.cs (x:Box):List AV:=[I64 x.ID,ST x.Number,U8 x.Size,BL x.High,I64 x.Kilos,I64 x.Load,I64 x.Discharge,U8 x.Class,BL x.Reefer]
def Box.av (x:Box):AV:=.agg x.cs
abbrev Eh (x:Box):AV:=.dptr (Box.cs x)
abbrev E8:=LS 9 Box.av
def Slot.ks (x:Slot):List Value:=[.int .i64 x.G2,.int .i64 x.Tier,.int .u8 x.Half]
def Slot.kv (x:Slot):Value:=.agg x.ks.toArray
structure Gb where
 ship:Gk
 on:Gu Slot Box
 quay:Gu Int Box
 open_:Gu Int Int
 lifts:Int
 deriving Inhabited
def Gb.cs (x:Gb):List AV:=[E3 x.ship.Columns,E7 x.ship.Covers,I64 x.ship.Light.Kilos,I64 x.ship.Light.X,I64 x.ship.Light.Y,I64 x.ship.Light.Z,E4 x.ship.Rows,E5 x.ship.Frames,E6 x.ship.Tanks,I64 x.ship.G4.Tolerance,I64 x.ship.G4.Trim,I64 x.ship.G4.List_,I64 x.ship.G4.Stability,DM Slot.kv Box.av x.on,DM Kq Box.av x.quay,DM Kq I64 x.open_,I64 x.lifts]
abbrev Ee (x:Gb):AV:=.dptr (Gb.cs x)
structure J6 where
 f:FuncId
 c:List AV
 val:Option Bool
 bad:Int
 B:H7 Eo f=true
 d:Qz (fun _=>false) c=true
 w:∀ q,val=some q→Pure Eo f ([]++c) (·=BL q)
def J6.cs (x:J6):List AV:=[.fn x.f x.c,I64 x.bad]
def J6.av (x:J6):AV:=.agg x.cs
def H22:List (Option Bool×Int)→Option Int
 | []=>some 0
 | (v,b)::r=>v.bind fun q=>bif q then H22 r else some b
namespace XSF
open XAF
open XCF
theorem Y85 (a b:Slot):J81 Eo 4 43 [.int .i64 a.G2,.int .i64 a.Tier,.int .u8 a.Half] [.int .i64 b.G2,.int .i64 b.Tier,.int .u8 b.Half]=some (decide (a=b)):=by
 refine(show _=some ((a.G2==b.G2)&&((a.Tier==b.Tier)&&((a.Half==b.Half)&&true))) by kernel_rfl).trans (congrArg some ?_)
 rw [Bool.eq_iff_iff]
 simp only [Mh,beq_iff_eq,Mi,Bool.and_true]
 constructor
 ·intro h; obtain⟨_,_,_⟩:=a; obtain⟨_,_,_⟩:=b; simp_all
 ·intro h; subst h; simp
theorem Q76:Gf6 Eo 148 2=true:=by kernel_rfl
theorem Hr:Gf6 Eo 36 13=true:=by kernel_rfl
theorem Hu:Gf6 Eo 43 3=true:=by kernel_rfl
theorem Ym:Gf6 Eo 60 9=true:=by kernel_rfl
theorem Q0e:G4f Eo 43=true:=by kernel_rfl
theorem H63:Q2b Eo 4=true:=by kernel_rfl
theorem R72:H7 Eo 102=true:=by kernel_rfl
theorem R71:H7 Eo 103=true:=by kernel_rfl
theorem R6f:H7 Eo 106=true:=by kernel_rfl
theorem R6e:H7 Eo 107=true:=by kernel_rfl
theorem Q09:H7 Eo 108=true:=by kernel_rfl
theorem R6a:H7 Eo 113=true:=by kernel_rfl
theorem J1a:H7 Eo 126=true:=by kernel_rfl
theorem R62:H7 Eo 127=true:=by kernel_rfl
theorem Q05:H7 Eo 128=true:=by kernel_rfl
theorem Q03:H7 Eo 133=true:=by kernel_rfl
theorem R5f:H7 Eo 146=true:=by kernel_rfl
theorem R5e:H7 Eo 147=true:=by kernel_rfl
theorem R5d:H7 Eo 148=true:=by kernel_rfl
theorem R5a:H7 Eo 155=true:=by kernel_rfl
theorem G8b:H7 Eo 34=true:=by kernel_rfl
theorem H6d:H7 Eo 47=true:=by kernel_rfl
theorem H6c:H7 Eo 51=true:=by kernel_rfl
theorem Qed:Eo.eqGuardType Eo.depth 43=false:=by kernel_rfl
theorem Q59:Jk Eo 148 0 0=true:=by kernel_rfl
theorem Q58:Jk Eo 148 1 1=true:=by kernel_rfl
theorem Jd:Jk Eo 43 0 0=true:=by kernel_rfl
theorem Zf:Jk Eo 43 1 1=true:=by kernel_rfl
theorem Rg:Jk Eo 43 2 2=true:=by kernel_rfl
theorem Rf:Jk Eo 60 0 0=true:=by kernel_rfl
theorem Y0:Jk Eo 60 2 2=true:=by kernel_rfl
theorem H1d:Jk Eo 60 3 3=true:=by kernel_rfl
theorem Re:Jk Eo 97 0 0=true:=by kernel_rfl
theorem Yh:Jk Eo 97 1 13=true:=by kernel_rfl
theorem G78:Jk Eo 97 3 15=true:=by kernel_rfl
theorem Gc1:Jk Eo 97 4 16=true:=by kernel_rfl
theorem Rb9:Y2e Eo 93=true:=by kernel_rfl
theorem G52:Zo Eo 93 43 60=true:=by kernel_rfl
theorem H62:Zo Eo 95 3 3=true:=by kernel_rfl
theorem G02:placesOf Eo 148=some [(0,1),(1,1)]:=by kernel_rfl
theorem G66:placesOf Eo 60=some [(0,1),(1,1),(2,1),(3,1),(4,1),(5,1),(6,1),(7,1),(8,1)]:=by kernel_rfl
theorem H61:Y60 Eo 39=true:=by kernel_rfl
theorem Gc0:Y6 Eo 136=true:=by kernel_rfl
theorem R27:Y6 Eo 25=true:=by kernel_rfl
theorem Hd4:Y6 Eo 47=true:=by kernel_rfl
theorem Yj:Y6 Eo 93=true:=by kernel_rfl
theorem G65:Y6 Eo 95=true:=by kernel_rfl
theorem Jfd:Yx Eo 148 2=true:=by kernel_rfl
theorem Zv:Yx Eo 43 3=true:=by kernel_rfl
theorem Rs:Yx Eo 60 9=true:=by kernel_rfl
theorem Rr:sliceB Eo 136 43 3=true:=by kernel_rfl
theorem Gee:sliceB Eo 183 148 2=true:=by kernel_rfl
theorem Yb:sliceB Eo 37 60 9=true:=by kernel_rfl
theorem G21:(Eo.info? 148).bind (fun i=>i.zero.map Value.cells)=some (List.toArray [.nilFunc,E0]):=by kernel_rfl
theorem G63:(Eo.info? 60).bind (fun i=>i.zero.map Value.cells)=some (List.toArray [E0,.string ByteArray.empty,.int .u8 0,.bool false,E0,E0,E0,.int .u8 0,.bool false]):=by kernel_rfl
theorem H51:Y4 Eo 148 2=true:=by kernel_rfl
theorem R6:Y4 Eo 3 1=true:=by kernel_rfl
theorem Z7:Y4 Eo 43 3=true:=by kernel_rfl
theorem Qt:Y4 Eo 60 9=true:=by kernel_rfl
theorem Q50:Gd7 Eo 3 Kq:=Gd7.of_int (by kernel_rfl)
theorem Qeb:Gd7 Eo 43 Slot.kv:=Gd7.of_eq Slot.ks (by kernel_rfl) (fun a b h=>by simp only [Slot.ks,List.cons.injEq,Value.int.injEq,Value.bool.injEq,Value.string.injEq,true_and,and_true] at h; obtain⟨_,_,_⟩:=a; obtain⟨_,_,_⟩:=b; simp_all) 4 (by decide) (fun a b=>Y85 a b) (fun a=>by kernel_rfl) (fun a=>by simp [Instr.sameBits,Slot.ks])
end XSF
open XAF
open XCF
open XSF

def Gc9 (b:Box) (a:Int):Option Bool:=
 some (decide (b.ID=a))
theorem Q35 (b:Box) (a:Int) (r:Bool) (h:Gc9 b a=some r):Pure Eo 103 [.agg (Box.cs b),.dptr [I64 a]] (·=BL r):=by
 unfold Gc9 at h
 refine H0 [.tmp 3] Tryz.func103 O O (Jr fun c=>(JLh (.ptr 1155 0) (Jm (cs:=(Box.cs b)) 1155 O O O O O) O (JLm (BL false) O (G5 (c (Gm [(1,.dptr [I64 a]),(2,Eh b)] [] 1155 rfl rfl rfl G rfl (by exact⟨.conv (.same rfl),.ptr,G⟩) (Jr fun d=>(JLh (Eh b) (G9 Rf O O O) O (JLh (I64 b.ID) (Gh Gc O O O) O (JLh (I64 a) (Gh Gc O O O) O (JLh (BL (decide (b.ID=a))) (Q0 O O O) O (JLm (BL (decide (b.ID=a))) O (G5 (d (Gq (fin1 BL h))))))))))))))))

def Zs (s:List Box) (f:Box→Option Bool):Option Int:=
 each (fun b c (d:Unit) a=>
  bnd (f b) fun e=>
  bif e then
  (some (c:Int))
  else
  (a ()))
 (fun(d:Unit)=>
  some (-1)) s 0 ()
theorem H5a (s:List Box) (f:Box→Option Bool) (f_f:FuncId) (f_c:List AV) (f_B:H7 Eo f_f=true) (f_d:Qz (fun _=>false) f_c=true) (f_w:∀ a0 q,f a0=some q→Pure Eo f_f ([.agg (Box.cs a0)]++f_c) (·=BL q)) (r:Int) (h:Zs s f=some r):Pure Eo 102 [E8 s,.fn f_f f_c] (·=I64 r):=by
 unfold Zs at h
 refine H0 [.tmp 4] Tryz.func102 O O (Jr fun x=>(JLm (I64 0) O (G5 (x (Js fun z=>Jr fun a1=>(JLm (E8 s) O (JLl Yb O O O fun a2=>(JLm (I64 0) O (G5 (a1 (Gx ?_)))))))))))
 obtain⟨a3,i,j,g,h⟩:=Jy h
 refine Jc (fun a (c:Unit)=>each a3 i (List.drop a s) a c=some r) (fun a c=>[(0,E8 s),(1,.fn f_f f_c),(7,En s.length),(8,En a)]) (fun a c=>[]) (fun a=>s.length - a) 0 () h ⟨⟨.same O,.same (Jt _ _ f_d),.same O,.same O,G⟩,G,O⟩ ?_
 clear h
 intro a c d a7 a4
 refine Jr fun k=>(JLh (BL (decide ((a:Int) < (s.length:Int)))) (Qg O O O) O (G5 (k (Js fun l=>Gn O (fun hb=>?_) (fun hb=>?_)))))
 ·
  have e:=Qr hb
  obtain⟨b,a6,m,n,h⟩:=Ja d e
  replace h:=G1d j h
  refine Gr (l (Js fun o=>Gx (Jr fun p=>(JLm (En a) O (JLm (En a) O (G5 (p (Jr fun t=>(JLm (.fn f_f f_c) O (JLm (E8 s) O (JLm (En a) O (JLh (Eh b) (Hg (f:=Box.av) (xs:=s) (y:=b) O O O Yb m O) O (JLh (.agg (Box.cs b)) (Gj Ym O O O) O ?_)))))))))))))
  obtain⟨a5,u,h⟩:=Ga h
  refine JLh (BL a5) (G48 (args:=[.agg (Box.cs b)]) (caps:=f_c) O O (f_w b _ u) f_B ⟨O,O,G⟩ f_d) O (G5 (t (JCc O h (fun h hb=>?_) (fun h hb=>?_))))
  ·
   refine Jr fun v=>(JLm (En a) O (JLm (En a) O (G5 (v (Gq (fin1 I64 h))))))
  ·
   refine Gr (o (G1 (JLh (I64 ((a+1:Nat):Int)) (Jg (J7 e a2) O O O) O (JLm (I64 ((a+1:Nat):Int)) O (G5 (a4 _ _ (a+1) () (app1 n h) (by omega) ⟨⟨.same rfl,.same (Jt _ _ f_d),.same rfl,.same rfl,G⟩,G,rfl⟩))))))
 ·
  have h:=app1 g (Jb d (Hs hb))
  refine Jf (z (Jr fun w=>(JLm (I64 (-1)) O (G5 (w (Gq (fin1 I64 h)))))))

def G40 (boxes:List Box) (id_:Int):Option (Box×Bool):=
 bnd (Zs boxes (fun z0=>Gc9 z0 id_)) fun a=>
 bif decide (a < 0) then
 (some ((Box.mk 0 ByteArray.empty 0 false 0 0 0 0 false),false))
 else
 (Z3 boxes a fun b=>
  some (b,true))
theorem Gc8 (boxes:List Box) (id_:Int) (r:Box×Bool) (h:G40 boxes id_=some r):Pure Eo 47 [E8 boxes,I64 id_] (·=.tup [.agg (Box.cs r.1),BL r.2]):=by
 unfold G40 at h
 refine H0 [.cell 4 60,.tmp 5] Tryz.func47 O O (Jr fun c=>(JLh (.ptr 1094 0) (Jm (cs:=[I64 id_]) 1094 O O O O O) O (JLh (.ptr 1095 0) (G5f 1095 [I64 0,ST Ky,U8 0,BL false,I64 0,I64 0,I64 0,U8 0,BL false] [E0,.string ByteArray.empty,.int .u8 0,.bool false,E0,E0,E0,.int .u8 0,.bool false] G63 (zzQ O) O O) O (JLm (BL false) O (G5 (c (Gm [(0,E8 boxes),(3,.dptr [I64 id_]),(4,.ptr 1095 0)] [(1095,.box 60 [I64 0,ST Ky,U8 0,BL false,I64 0,I64 0,I64 0,U8 0,BL false])] 1094 rfl rfl rfl ⟨⟨_,rfl,.boxEq rfl rfl⟩,G⟩ rfl (by exact⟨.conv (.same rfl),.ptr,.conv (.same rfl),G⟩) ?_)))))))
 refine Jr fun d=>(JLm (E8 boxes) O (JLh (.fn 103 [.dptr [I64 id_]]) (Jz (cs:=[.dptr [I64 id_]]) O O) O ?_))
 obtain⟨a,e,h⟩:=Ga h
 refine JLh (I64 a) (Gt O (H5a boxes (fun z0=>Gc9 z0 id_) 103 [.dptr [I64 id_]] R71 O (fun z0 q hq=>Q35 z0 id_ q hq) a e) R72 ⟨O,O,O,O,G⟩) O (JLm (I64 a) O (G5 (d (Js fun g=>Jr fun i=>(JLm (I64 a) O (JLh (BL (decide (a < 0))) (Qg O O O) O (G5 (i (JCc O h (fun h hb=>?_) (fun h hb=>?_))))))))))
 ·
  refine Jr fun j=>(JLh (.agg [I64 0,ST Ky,U8 0,BL false,I64 0,I64 0,I64 0,U8 0,BL false]) (Hb (cs:=[I64 0,ST Ky,U8 0,BL false,I64 0,I64 0,I64 0,U8 0,BL false]) [(0,1),(1,1),(2,1),(3,1),(4,1),(5,1),(6,1),(7,1),(8,1)] [I64 0,ST Ky,U8 0,BL false,I64 0,I64 0,I64 0,U8 0,BL false] [E0,.string ByteArray.empty,.int .u8 0,.bool false,E0,E0,E0,.int .u8 0,.bool false] G66 G63 (zzQ O) O O) O (Hp (u:=.junk) (Hc (u:=.agg [I64 0,ST Ky,U8 0,BL false,I64 0,I64 0,I64 0,U8 0,BL false]) (ds:=[I64 0,ST Ky,U8 0,BL false,I64 0,I64 0,I64 0,U8 0,BL false]) Rs O O O O O O O O) (JLm (BL false) O (G5 (j ?_)))))
  refine Gq (⟨[.agg [I64 0,ST Ky,U8 0,BL false,I64 0,I64 0,I64 0,U8 0,BL false],BL false],[],G,O,⟨⟨_,⟨_,_,_,_,O,O,O,.inl ⟨Ym,O⟩⟩,.conv (.same O)⟩,⟨_,O,.conv (.same O)⟩,G⟩,O,congrArg (fun r:Box×Bool=>(.tup [.agg (Box.cs r.1),BL r.2]:AV)) (M5 h)⟩)
 ·
  refine Gr (g (Jr fun k=>(JLm (E8 boxes) O (JLm (I64 a) O ?_))))
  obtain⟨n,b,l,m,h⟩:=Yc h
  refine JLh (Eh b) (Hg (f:=Box.av) (xs:=boxes) (y:=b) O O O Yb m l) O (JLh (.agg (Box.cs b)) (Gj Ym O O O) O (Hp (u:=.junk) (Hc (u:=.agg (Box.cs b)) (ds:=(Box.cs b)) Rs O O O O O O O O) (JLm (BL true) O (G5 (k (Gq (⟨[.agg (Box.cs b),BL true],[],G,O,⟨⟨_,⟨_,_,_,_,O,O,O,.inl ⟨Ym,O⟩⟩,.conv (.same O)⟩,⟨_,O,.conv (.same O)⟩,G⟩,O,congrArg (fun r:Box×Bool=>(.tup [.agg (Box.cs r.1),BL r.2]:AV)) (M5 h)⟩)))))))

def G6a (boxes:List Box) (id_:Int):Option (Box×Bool):=
 bnd (G40 boxes id_) fun a=>
 some (a.1,(a.2&&((decide (a.1.Size=20))||(decide (a.1.Size=40)))))
theorem H5d (boxes:List Box) (id_:Int) (r:Box×Bool) (h:G6a boxes id_=some r):Pure Eo 45 [E8 boxes,I64 id_] (·=.tup [.agg (Box.cs r.1),BL r.2]):=by
 unfold G6a at h
 refine H0 [.cell 4 60,.tmp 5] Tryz.func45 O O (Jr fun b=>(JLh (.ptr 1091 0) (G5f 1091 [I64 0,ST Ky,U8 0,BL false,I64 0,I64 0,I64 0,U8 0,BL false] [E0,.string ByteArray.empty,.int .u8 0,.bool false,E0,E0,E0,.int .u8 0,.bool false] G63 (zzQ O) O O) O (JLm (BL false) O (G5 (b (Jr fun c=>(JLm (E8 boxes) O (JLm (I64 id_) O ?_))))))))
 obtain⟨a,d,h⟩:=Ga h
 refine JLh (.tup [.agg (Box.cs a.1),BL a.2]) (Gt O (Gc8 boxes id_ a d) H6d ⟨O,O,O,O,G⟩) O (JLm (.tup [.agg (Box.cs a.1),BL a.2]) O (JLh (.agg (Box.cs a.1)) (H1 O O O) O (JLh (BL a.2) (H1 O O O) O (JLh (.ptr 1092 0) (Hq 1092 9 Qt O O) O (Hp (u:=.junk) (Hc (u:=.agg (Box.cs a.1)) (ds:=(Box.cs a.1)) Rs O O O O O O O O) (JLm (BL a.2) O (G5 (c (Gm [(4,.ptr 1091 0),(6,Eh a.1),(7,BL a.2)] [(1091,.box 60 [I64 0,ST Ky,U8 0,BL false,I64 0,I64 0,I64 0,U8 0,BL false])] 1092 rfl rfl rfl ⟨⟨_,rfl,.boxEq rfl rfl⟩,G⟩ rfl (by exact⟨.conv (.same rfl),.ptr,.conv (.same rfl),G⟩) ?_)))))))))
 refine Js fun e=>Qc (l':=[(4,.ptr 1091 0),(6,Eh a.1),(7,BL a.2)]) (L':=[(1091,.box 60 [I64 0,ST Ky,U8 0,BL false,I64 0,I64 0,I64 0,U8 0,BL false])]) ⟨(.sm O O),⟨fbQ O (.sm O O),G⟩,rfl⟩ (J5 [12] [0,0,0,0,0,0,0,0,0,0,0,0,0,1] [0,0,0,0,0,0,0,1,1,1,1,1,0,1] [[(1091,.box 60 [I64 0,ST Ky,U8 0,BL false,I64 0,I64 0,I64 0,U8 0,BL false])],((1091,.box 60 (Box.cs a.1))::[(1091,.box 60 [I64 0,ST Ky,U8 0,BL false,I64 0,I64 0,I64 0,U8 0,BL false])])] J0 (by kernel_rfl) rfl rfl ?_)
 refine Gd (u:=.agg (Box.cs a.1)) O O ⟨Ge (Gj Ym O O O) O,G⟩ (Gd (u:=BL a.2) O O ⟨Ge (G6 O O) O,G⟩ (Gd (u:=BL a.2) O O ⟨Ge (G6 O O) O,G⟩ (Gd (u:=.opt a.2 (.dptr ((Box.cs a.1).drop 2))) O O ⟨H6 [] O O O .sct G (fun hc=>G9 Y0 O O O) O,G⟩ (Gd (u:=.opt a.2 (U8 a.1.Size)) O O ⟨H6 [(17,.dptr ((Box.cs a.1).drop 2))] O O O .sct ⟨.all id,G⟩ (fun hc=>Gh Ho O O O) O,G⟩ (Gd (u:=.opt a.2 (BL (decide (a.1.Size=20)))) O O ⟨H6 [(18,U8 a.1.Size)] O O O .sct ⟨.all id,G⟩ (fun hc=>Q0 O O O) O,G⟩ (Gd (u:=.opt a.2 (BL (decide (a.1.Size=20)))) O O ⟨H6 [(19,BL (decide (a.1.Size=20)))] O O O .sct ⟨.all id,G⟩ (fun hc=>G6 O O) O,G⟩ (Gd (u:=.opt (a.2&&!(decide (a.1.Size=20))) (.dptr ((Box.cs a.1).drop 2))) O O ⟨H6 [] O O O .optf G (fun hc=>G9 Y0 O O O) O,H6 [] O O O .optf G (fun hc=>G9 Y0 O O O) O,G⟩ (Gd (u:=.opt (a.2&&!(decide (a.1.Size=20))) (U8 a.1.Size)) O O ⟨H6 [(21,.dptr ((Box.cs a.1).drop 2))] O O O .optf ⟨.all id,G⟩ (fun hc=>Gh Ho O O O) O,H6 [(21,.dptr ((Box.cs a.1).drop 2))] O O O .optf ⟨.all id,G⟩ (fun hc=>Gh Ho O O O) O,G⟩ (Gd (u:=.opt (a.2&&!(decide (a.1.Size=20))) (BL (decide (a.1.Size=40)))) O O ⟨H6 [(22,U8 a.1.Size)] O O O .optf ⟨.all id,G⟩ (fun hc=>Q0 O O O) O,H6 [(22,U8 a.1.Size)] O O O .optf ⟨.all id,G⟩ (fun hc=>Q0 O O O) O,G⟩ (Gd (u:=.opt a.2 (BL ((decide (a.1.Size=20))||(decide (a.1.Size=40))))) O O ⟨H6 [(20,BL (decide (a.1.Size=20))),(23,_)] O O O .sct ⟨.all id,.part,G⟩ (fun hc=>G2f O O O O) O,H6 [(20,BL (decide (a.1.Size=20))),(23,_)] O O O .sct ⟨.all id,.part,G⟩ (fun hc=>G2f O O O O) O,G⟩ (Gd (u:=BL (a.2&&((decide (a.1.Size=20))||(decide (a.1.Size=40))))) O O ⟨Ge (Ro O O O O) O,Ge (Ro O O O O) O,G⟩ (H8d (u:=.junk) O O O O (Ge (Hc (u:=.agg (Box.cs a.1)) (ds:=(Box.cs a.1)) Rs O O O O O O O O) O) (Gd (u:=BL (a.2&&((decide (a.1.Size=20))||(decide (a.1.Size=40))))) O O ⟨Ge (G7 O O) O,G⟩ (Qw ?_))))))))))))))
 refine e (Gq (⟨[.agg (Box.cs a.1),BL (a.2&&((decide (a.1.Size=20))||(decide (a.1.Size=40))))],[],G,O,⟨⟨_,⟨_,_,_,_,O,O,O,.inl ⟨Ym,O⟩⟩,.conv (.same O)⟩,⟨_,O,.conv (.same O)⟩,G⟩,O,congrArg (fun r:Box×Bool=>(.tup [.agg (Box.cs r.1),BL r.2]:AV)) (M5 h)⟩))

def J05 (m:Gb):Option Bool:=
 some true
theorem Yr (m:Gb) (r:Bool) (h:J05 m=some r):Pure Eo 34 [.dptr (Gb.cs m)] (·=BL r):=by
 unfold J05 at h
 refine H0 [.tmp 2] Tryz.func34 O O (Jr fun a=>(JLm (BL false) O (G5 (a ?_))))
 refine Jr fun c=>(JLm (Ee m) O (JLh (BL true) (Yc5 H61 O O) O (JLm (BL true) O (JLo (Ee m) [] O .sct G (fun hc=>G6 O O) O (JLo (Ee m) [6] O .sct ⟨Ua,G⟩ (fun hc=>G6e O O) O (JLo (.dptr [DM Slot.kv Box.av m.on,DM Kq Box.av m.quay,DM Kq I64 m.open_,I64 m.lifts]) [7] O .sct ⟨Ua,G⟩ (fun hc=>G9 Yh O O O) O (JLo (DM Slot.kv Box.av m.on) [8] O .sct ⟨Ua,G⟩ (fun hc=>Gh Yj O O O) O (JLo (BL true) [9] O .sct ⟨Ua,G⟩ (fun hc=>Yc4 Rb9 O O) O (JLh (BL true) (Ro (b:=true) (d:=true) O O O O) O (JLm (BL true) O (G5 (c ?_))))))))))))
 refine Gq (fin1 BL h)

def H25 (m:Gb) (is:Slot→Option Bool) (Rp:Bool→Prop):Option Prop:=
 J00 (fun(b:Slot×Box) (c:Unit) a=>
  bnd (is b.1) fun d=>
  bif d then
  (lft (some (Rp true)))
  else
  (a ()))
 (fun(c:Unit)=>
  some (Rp false)) (Gu.Hf m.on) ()
theorem Q39 (m:Gb) (is:Slot→Option Bool) (is_f:FuncId) (is_c:List AV) (is_B:H7 Eo is_f=true) (is_d:Qz (fun _=>false) is_c=true) (is_w:∀ a0 q,is a0=some q→Pure Eo is_f ([.agg [I64 a0.G2,I64 a0.Tier,U8 a0.Half]]++is_c) (·=BL q)) (Rp:Bool→Prop) (p:Prop) (h:H25 m is Rp=some p) (hp:p):Pure Eo 78 [.dptr (Gb.cs m),.fn is_f is_c] (fun av=>∃ r,Rp r∧av=BL r):=by
 unfold H25 at h
 refine H0 [.tmp 4] Tryz.func78 O O (Jr fun a3=>(JLm (BL false) O (G5 (a3 (Js fun a4=>Jr fun a5=>(JLm (Ee m) O (JLh (Ee m) (G6e O O) O (JLh (.dptr ((Gb.cs m).drop 13)) (G9 Yh O O O) O (JLh (DM Slot.kv Box.av m.on) (Gh Yj O O O) O (JLh (.it 1137) (H8f 1137 (kv:=Slot.kv) (av:=Box.av) (m:=m.on) O O .data O G52) O (G5 (a5 (Gx ?_)))))))))))))
 obtain⟨a6,s,t,o,h⟩:=H2f h
 refine J34 (m.on.l.length) (fun b (d:Unit)=>Gcc a6 s (Gu.l m.on) b d) (fun b d=>[(1,.fn is_f is_c),(10,.it 1137)]) (fun b d=>[(1137,.iter (DM Slot.kv Box.av m.on) m.on.l.length b)]) () (Gcc.start h hp) ⟨⟨.same (Jt _ _ is_d),.same O,G⟩,⟨⟨_,O,.iter O⟩,G⟩,O⟩ ?_
 clear h hp
 intro b d f b0 a7
 refine Jr fun g=>Zu O O O (Hfd (kv:=Slot.kv) (av:=Box.av) (m:=m.on) (fun _=>O) O O O .data) ?_
 intro u_ L_ hn_
 rcases hn_ with ⟨i,a,c,j,rfl,rfl⟩ | ⟨v,rfl,rfl⟩
 ·
  obtain⟨b1,h,k,n⟩:=f.step c j
  replace h:=Qa7 t h
  refine JLh (BL true) (H1 O O O) O (G5 (g (Js fun w=>J35 O (Gr (w (Gx (Jr fun x=>(JLh (.tup [.agg (Slot.cs a.1),.agg (Box.cs a.2)]) (J90 (kv:=Slot.kv) (av:=Box.av) (m:=m.on) (q:=i) (seen:=b) (e:=a) (fun _=>O) O O O .data c) O (JLh (.agg (Slot.cs a.1)) (H1 O O O) O (JLh (.ptr 1136 0) (Hq 1136 3 Z7 O O) O (Hp (u:=.junk) (Hc (u:=.agg (Slot.cs a.1)) (ds:=[I64 a.1.G2,I64 a.1.Tier,U8 a.1.Half]) Zv O O O O O O O O) (G5 (x (Gm [(1,.fn is_f is_c),(5,Ej a.1),(10,.it 1137)] [(1137,.iter (DM Slot.kv Box.av m.on) m.on.l.length (b++[i]))] 1136 rfl rfl rfl ⟨⟨_,rfl,.iter rfl⟩,G⟩ rfl (by exact⟨.conv (.same (Jt _ _ is_d)),.ptr,.conv (.same rfl),G⟩) ?_))))))))))))))
  refine Jr fun y=>(JLm (.fn is_f is_c) O (JLh (.agg (Slot.cs a.1)) (Gj Hu O O O) O ?_))
  obtain⟨a8,z,h⟩:=Ga h
  refine JLh (BL a8) (G48 (args:=[.agg (Slot.cs a.1)]) (caps:=is_c) O O (is_w a.1 _ z) is_B ⟨O,O,G⟩ is_d) O (G5 (y (JCc O h (fun h hb=>?_) (fun h hb=>?_))))
  ·
   refine Jr fun a1=>(JLm (BL true) O (G5 (a1 (Gq ?_))))
   obtain⟨y_,hy_,hl_⟩:=Y30 h
   exact⟨[BL true],[],G,O,⟨⟨_,O,.conv (.same O)⟩,G⟩,O,true,Eq.mpr (M5 hl_) (k y_ hy_),O⟩
  ·
   refine Gr (a7 _ _ (b++[i]) () (n _ (M5 h).symm) (Gaa (M3 c).1 j) ⟨⟨.same (Jt _ _ is_d),.same O,G⟩,⟨⟨_,O,.iter O⟩,G⟩,O⟩)
 ·
  obtain⟨p_,h,hp⟩:=f.done v
  replace h:=app1 o h
  refine JLh (BL false) (H1 O O O) O (G5 (g (Js fun a9=>G2e O (Jf (a4 (Jr fun a2=>(JLm (BL false) O (G5 (a2 (Gq (⟨[BL false],[],G,O,⟨⟨_,O,.conv (.same O)⟩,G⟩,O,false,Eq.mpr (M5 h) hp,O⟩)))))))))))
theorem Q3a (S_:(Gb)→(Slot→Option Bool)→Option Bool) (hS_:∀ m is r,S_ m is=some r→∃ p:Prop,H25 m is (fun r_=>r_=r)=some p∧p) (m:Gb) (is:Slot→Option Bool) (is_f:FuncId) (is_c:List AV) (is_B:H7 Eo is_f=true) (is_d:Qz (fun _=>false) is_c=true) (is_w:∀ a0 q,is a0=some q→Pure Eo is_f ([.agg [I64 a0.G2,I64 a0.Tier,U8 a0.Half]]++is_c) (·=BL q)) (r:Bool) (h:S_ m is=some r):Pure Eo 78 [.dptr (Gb.cs m),.fn is_f is_c] (·=BL r):=by
 obtain⟨p,a,b⟩:=hS_ m is r h
 exact(Q39 m is is_f is_c is_B is_d is_w _ p a b).monoP (fun av hh=>by obtain⟨r_,rfl,ha⟩:=hh; exact ha)

def G75 (r_:Int) (a:G2):Option Bool:=
 some (decide (r_=a.Row))
theorem Jc3 (r_:Int) (a:G2) (r:Bool) (h:G75 r_ a=some r):Pure Eo 147 [I64 r_,Ei a] (·=BL r):=by
 unfold G75 at h
 refine H0 [.tmp 3] Tryz.func147 O O (Jr fun b=>(JLm (BL false) O (G5 (b (Jr fun c=>(JLm (I64 r_) O (JLh (.dptr ((G2.cs a).drop 1)) (G9 G79 O O O) O (JLh (I64 a.Row) (Gh Gc O O O) O (JLh (BL (decide (r_=a.Row))) (Q0 O O O) O (JLm (BL (decide (r_=a.Row))) O (G5 (c (Gq (fin1 BL h))))))))))))))

def G45 (l:List Int) (wanted:Int→Option Bool):Option (List Int):=
 each (fun e b (a:(List Int)) d=>
  jp (fun c=>
   bnd (wanted e) fun f=>
   bif f then
   (need (decide ((a.length+[(b:Int)].length)*8≤140737488355328∧a.length+[(b:Int)].length≤maxLen)) <|
    c (a++[(b:Int)]))
   else
   (c a)) fun(g:(List Int))=>
  d g)
 (fun(a:(List Int))=>
  some a) l 0 []
theorem J57 (l:List Int) (wanted:Int→Option Bool) (wanted_f:FuncId) (wanted_c:List AV) (wanted_B:H7 Eo wanted_f=true) (wanted_d:Qz (fun _=>false) wanted_c=true) (wanted_w:∀ a0 q,wanted a0=some q→Pure Eo wanted_f ([I64 a0]++wanted_c) (·=BL q)) (r:(List Int)) (h:G45 l wanted=some r):Pure Eo 146 [E1 l,.fn wanted_f wanted_c] (·=E1 r):=by
 unfold G45 at h
 refine H0 [.tmp 4] Tryz.func146 O O (Jr fun a1=>(JLh (E1 ([]:List Int)) (Hm 1 O O) O (G5 (a1 (Jr fun a2=>(JLh (OW 1187 1 I64 ([]:List Int)) (G5e 1187 3 1 O O O) O (G5 (a2 (Js fun a3=>Jr fun a4=>(JLm (E1 l) O (JLl Gz O O O fun a5=>(JLm (I64 0) O (G5 (a4 (Gx ?_)))))))))))))))
 obtain⟨a6,k,m,i,h⟩:=Jy h
 refine Jc (fun a (b:(List Int))=>each a6 k (List.drop a l) a b=some r) (fun a b=>[(1,.fn wanted_f wanted_c),(5,OW 1187 1 I64 b),(8,E1 l),(9,En l.length),(10,En a)]) (fun a b=>[(1187,.spare 3 1 b.length b.length)]) (fun a=>l.length - a) 0 [] h ⟨⟨.same (Jt _ _ wanted_d),.same O,.same O,.same O,.same O,G⟩,⟨⟨_,O,.same⟩,G⟩,O⟩ ?_
 clear h
 intro a b e b0 a7
 refine Jr fun n=>(JLh (BL (decide ((a:Int) < (l.length:Int)))) (Qg O O O) O (G5 (n (Js fun o=>Gn O (fun hb=>?_) (fun hb=>?_)))))
 ·
  have g:=Qr hb
  obtain⟨d,a9,p,s,h⟩:=Ja e g
  replace h:=G1d m h
  refine Gr (o ?_)
  obtain⟨t,j,h⟩:=Yy h
  refine Ri (fun c:(List Int)=>t c=some r) (fun c=>[(1,.fn wanted_f wanted_c),(5,OW 1187 1 I64 c),(8,E1 l),(9,En l.length),(10,En a)]) (fun c=>[(1187,.spare 3 1 c.length c.length)]) (fun Kj24 ej24=>?_) ?_
  ·
   refine Gx (Jr fun u=>(JLm (En a) O (JLh (.dptr [I64 d]) (Hg (f:=I64) (xs:=l) (y:=d) O O O Gz p O) O (JLh (I64 d) (Gh Gc O O O) O (JLm (En a) O (JLm (I64 d) O (G5 (u (Jr fun v=>(JLm (.fn wanted_f wanted_c) O (JLm (I64 d) O ?_)))))))))))
   obtain⟨a8,w,h⟩:=Ga h
   refine JLh (BL a8) (G48 (args:=[I64 d]) (caps:=wanted_c) O O (wanted_w d _ w) wanted_B ⟨O,O,G⟩ wanted_d) O (G5 (v (JCc O h (fun h hb=>?_) (fun h hb=>?_))))
   ·
    refine G1 (JLm (OW 1187 1 I64 b) O (JLm (En a) O (JLh (E1 [(a:Int)]) (H9 (xs:=[En a]) O ⟨O,O,G⟩ Gz R6 O O O O) O ?_)))
    obtain⟨x,h⟩:=J8 h
    refine JLh (OW 1187 1 I64 (b++[(a:Int)])) (Qk (f:=I64) (xs:=b) (ys:=[(a:Int)]) O O O O Gz Zx x (fun _=>O) (.inl O) O) O (JLm (OW 1187 1 I64 (b++[(a:Int)])) O (G5 (ej24 _ _ (b++[(a:Int)]) h ⟨⟨.same (Jt _ _ wanted_d),.same O,.same O,.same O,.same O,G⟩,⟨⟨_,O,.same⟩,G⟩,O⟩)))
   ·
    refine Gr (ej24 _ _ b h ⟨⟨.same (Jt _ _ wanted_d),.same O,.same O,.same O,.same O,G⟩,⟨⟨_,O,.same⟩,G⟩,O⟩)
  ·intro c h
   replace h:=app1 j h
   refine G1 (JLh (I64 ((a+1:Nat):Int)) (Jg (J7 g a5) O O O) O (JLm (I64 ((a+1:Nat):Int)) O (G5 (a7 _ _ (a+1) c (app1 s h) (by omega) ⟨⟨.same (Jt _ _ wanted_d),.same rfl,.same rfl,.same rfl,.same rfl,G⟩,⟨⟨_,rfl,.same⟩,G⟩,rfl⟩))))
 ·
  have h:=app1 i (Jb e (Hs hb))
  refine Jf (a3 (Jr fun z=>(JLm (OW 1187 1 I64 b) O (JLm (OW 1187 1 I64 b) O (G5 (z (Gq (fin1l (fun r:(List Int)=>(E1 r:AV)) h))))))))

def G80 (x:G8) (c:G2):Option Bool:=
 bnd (bif decide (x.Bay=c.Bay) then G45 x.Rows (fun z0=>G75 z0 c) else some default) fun a=>
 some ((decide (x.Bay=c.Bay))&&(decide (0 < (a.length:Int))))
theorem J06 (x:G8) (c:G2) (r:Bool) (h:G80 x c=some r):Pure Eo 108 [.agg [I64 x.Bay,E1 x.Rows],.agg (G2.cs c)] (·=BL r):=by
 unfold G80 at h
 refine H0 [.tmp 4] Tryz.func108 O O (Jr fun b=>(JLh (.ptr 1161 0) (Jm (cs:=[I64 x.Bay,E1 x.Rows]) 1161 O O O O O) O (JLh (.ptr 1162 0) (Jm (cs:=(G2.cs c)) 1162 O O O O O) O (JLm (BL false) O (G5 (b (Gm [(2,.dptr [I64 x.Bay,E1 x.Rows]),(3,.ptr 1162 0)] [(1162,.box 58 (G2.cs c))] 1161 rfl rfl rfl ⟨⟨_,rfl,.boxEq rfl rfl⟩,G⟩ rfl (by exact⟨.ptr,.conv (.same rfl),G⟩) ?_)))))))
 refine Gm [(2,.dptr [I64 x.Bay,E1 x.Rows]),(3,Ei c)] [] 1162 rfl rfl rfl G rfl (by exact⟨.conv (.same rfl),.ptr,G⟩) (Jr fun d=>(JLh (.dptr [I64 x.Bay,E1 x.Rows]) (G9 Gf0 O O O) O (JLh (I64 x.Bay) (Gh Gc O O O) O (JLh (Ei c) (G9 G7a O O O) O (JLh (I64 c.Bay) (Gh Gc O O O) O (JLh (BL (decide (x.Bay=c.Bay))) (Q0 O O O) O (JLm (BL (decide (x.Bay=c.Bay))) O (JLo (.dptr [E1 x.Rows]) [] O .sct G (fun hc=>G9 G09 O O O) O (JLo (E1 x.Rows) [11] O .sct ⟨Ua,G⟩ (fun hc=>Gh Yk O O O) O (JLo (.fn 147 [.dptr (G2.cs c)]) [] O .sct G (fun hc=>Jz (cs:=[.dptr (G2.cs c)]) O O) O ?_))))))))))
 obtain⟨a,e,h⟩:=Ga h
 refine JLo (E1 a) [12,13] O .sct ⟨Ua,Ua,G⟩ (fun hc=>Gt (args:=[E1 x.Rows,.fn 147 [.dptr (G2.cs c)]]) O (J57 x.Rows (fun z0=>G75 z0 c) 147 [.dptr (G2.cs c)] R5e O (fun z0 q hq=>Jc3 z0 c q hq) a (H3 hc e)) R5f ⟨O,O,O,O,G⟩) O (JLo (En a.length) [14] O .sct ⟨Ua,G⟩ (fun hc=>G20 (f:=I64) (xs:=a) Gz O O) O (JLo (BL (decide (0 < (a.length:Int)))) [15] O .sct ⟨Ua,G⟩ (fun hc=>Gbe O O O) O (JLh (BL ((decide (x.Bay=c.Bay))&&(decide (0 < (a.length:Int))))) (Ro O O O O) O (JLm (BL ((decide (x.Bay=c.Bay))&&(decide (0 < (a.length:Int))))) O (G5 (d (Gq (fin1 BL h))))))))

def G28 (x:G8) (a:Gk) (b:Int):Option Bool:=
 Z3 a.Columns b fun c=>
 bnd (G80 x c) fun d=>
 some d
theorem J8b (x:G8) (a:Gk) (c:Int) (r:Bool) (h:G28 x a c=some r):Pure Eo 107 [.agg [I64 x.Bay,E1 x.Rows],Ef a,.dptr [I64 c]] (·=BL r):=by
 unfold G28 at h
 refine H0 [.tmp 4] Tryz.func107 O O (Jr fun e=>(JLh (.ptr 1160 0) (Jm (cs:=[I64 x.Bay,E1 x.Rows]) 1160 O O O O O) O (JLm (BL false) O (G5 (e (Gm [(1,Ef a),(2,.dptr [I64 c]),(3,.dptr [I64 x.Bay,E1 x.Rows])] [] 1160 rfl rfl rfl G rfl (by exact⟨.conv (.same rfl),.conv (.same rfl),.ptr,G⟩) (Js fun g=>?_)))))))
 obtain⟨l,b,i,j,h⟩:=Yc h
 obtain⟨d,k,h⟩:=Ga h
 refine JC_d0 J0 (by kernel_rfl) (Dq (.agg [I64 x.Bay,E1 x.Rows]) (Gj H6f O O O) O (Dq (Ef a) (G9 Hv O O O) O (Dq (E3 a.Columns) (Gh J9 O O O) O (Dq (I64 c) (Gh Gc O O O) O (Dq (Ei b) (Hg (f:=G2.av) (xs:=a.Columns) (y:=b) O O O Ht j i) O (Dq (.agg (G2.cs b)) (Gj G7c O O O) O (Dq (BL d) (Gt (args:=[.agg [I64 x.Bay,E1 x.Rows],.agg (G2.cs b)]) O (J06 x b d k) Q09 ⟨O,O,O,O,G⟩) O (Dq (BL d) (G7 O O) O (Dnil (g (Gq (fin1 BL h))))))))))))

def Zm (l:List G8) (wanted:G8→Option Bool):Option (List Int):=
 each (fun e b (a:(List Int)) d=>
  jp (fun c=>
   bnd (wanted e) fun f=>
   bif f then
   (need (decide ((a.length+[(b:Int)].length)*8≤140737488355328∧a.length+[(b:Int)].length≤maxLen)) <|
    c (a++[(b:Int)]))
   else
   (c a)) fun(g:(List Int))=>
  d g)
 (fun(a:(List Int))=>
  some a) l 0 []
theorem Hb3 (l:List G8) (wanted:G8→Option Bool) (wanted_f:FuncId) (wanted_c:List AV) (wanted_B:H7 Eo wanted_f=true) (wanted_d:Qz (fun _=>false) wanted_c=true) (wanted_w:∀ a0 q,wanted a0=some q→Pure Eo wanted_f ([.agg [I64 a0.Bay,E1 a0.Rows]]++wanted_c) (·=BL q)) (r:(List Int)) (h:Zm l wanted=some r):Pure Eo 106 [E7 l,.fn wanted_f wanted_c] (·=E1 r):=by
 unfold Zm at h
 refine H0 [.tmp 4] Tryz.func106 O O (Jr fun a2=>(JLh (E1 ([]:List Int)) (Hm 1 O O) O (G5 (a2 (Jr fun a3=>(JLh (OW 1158 1 I64 ([]:List Int)) (G5e 1158 3 1 O O O) O (G5 (a3 (Js fun a4=>Jr fun a5=>(JLm (E7 l) O (JLl Jj O O O fun a6=>(JLm (I64 0) O (G5 (a5 (Gx ?_)))))))))))))))
 obtain⟨a7,k,m,i,h⟩:=Jy h
 refine Jc (fun a (b:(List Int))=>each a7 k (List.drop a l) a b=some r) (fun a b=>[(1,.fn wanted_f wanted_c),(5,OW 1158 1 I64 b),(8,E7 l),(9,En l.length),(10,En a)]) (fun a b=>[(1158,.spare 3 1 b.length b.length)]) (fun a=>l.length - a) 0 [] h ⟨⟨.same (Jt _ _ wanted_d),.same O,.same O,.same O,.same O,G⟩,⟨⟨_,O,.same⟩,G⟩,O⟩ ?_
 clear h
 intro a b e b1 a8
 refine Jr fun n=>(JLh (BL (decide ((a:Int) < (l.length:Int)))) (Qg O O O) O (G5 (n (Js fun o=>Gn O (fun hb=>?_) (fun hb=>?_)))))
 ·
  have g:=Qr hb
  obtain⟨c,b0,p,s,h⟩:=Ja e g
  replace h:=G1d m h
  refine Gr (o ?_)
  obtain⟨t,j,h⟩:=Yy h
  refine Ri (fun d:(List Int)=>t d=some r) (fun d=>[(1,.fn wanted_f wanted_c),(5,OW 1158 1 I64 d),(8,E7 l),(9,En l.length),(10,En a)]) (fun d=>[(1158,.spare 3 1 d.length d.length)]) (fun Kj24 ej24=>?_) ?_
  ·
   refine Gx (Jr fun v=>(JLm (En a) O (JLh (.dptr [I64 c.Bay,E1 c.Rows]) (Hg (f:=G8.av) (xs:=l) (y:=c) O O O Jj p O) O (JLh (.agg [I64 c.Bay,E1 c.Rows]) (Gj H6f O O O) O (JLh (.ptr 1159 0) (Hq 1159 2 Ged O O) O (JLm (En a) O (Hp (u:=.junk) (Hc (u:=.agg [I64 c.Bay,E1 c.Rows]) (ds:=[I64 c.Bay,E1 c.Rows]) Q00 O O O O O O O O) (G5 (v ?_)))))))))
   refine Gm [(1,.fn wanted_f wanted_c),(5,OW 1158 1 I64 b),(6,En a),(7,.dptr [I64 c.Bay,E1 c.Rows]),(8,E7 l),(9,En l.length),(10,En a)] [(1158,.spare 3 1 b.length b.length)] 1159 rfl rfl rfl ⟨⟨_,rfl,.same⟩,G⟩ rfl (by exact⟨.conv (.same (Jt _ _ wanted_d)),.conv (.same rfl),.conv (.same rfl),.ptr,.conv (.same rfl),.conv (.same rfl),.conv (.same rfl),G⟩) (Jr fun w=>(JLm (.fn wanted_f wanted_c) O (JLh (.agg [I64 c.Bay,E1 c.Rows]) (Gj H6f O O O) O ?_)))
   obtain⟨a9,x,h⟩:=Ga h
   refine JLh (BL a9) (G48 (args:=[.agg [I64 c.Bay,E1 c.Rows]]) (caps:=wanted_c) O O (wanted_w c _ x) wanted_B ⟨O,O,G⟩ wanted_d) O (G5 (w (JCc O h (fun h hb=>?_) (fun h hb=>?_))))
   ·
    refine G1 (JLm (OW 1158 1 I64 b) O (JLm (En a) O (JLh (E1 [(a:Int)]) (H9 (xs:=[En a]) O ⟨O,O,G⟩ Gz R6 O O O O) O ?_)))
    obtain⟨z,h⟩:=J8 h
    refine JLh (OW 1158 1 I64 (b++[(a:Int)])) (Qk (f:=I64) (xs:=b) (ys:=[(a:Int)]) O O O O Gz Zx z (fun _=>O) (.inl O) O) O (JLm (OW 1158 1 I64 (b++[(a:Int)])) O (G5 (ej24 _ _ (b++[(a:Int)]) h ⟨⟨.same (Jt _ _ wanted_d),.same O,.same O,.same O,.same O,G⟩,⟨⟨_,O,.same⟩,G⟩,O⟩)))
   ·
    refine Gr (ej24 _ _ b h ⟨⟨.same (Jt _ _ wanted_d),.same O,.same O,.same O,.same O,G⟩,⟨⟨_,O,.same⟩,G⟩,O⟩)
  ·intro d h
   replace h:=app1 j h
   refine G1 (JLh (I64 ((a+1:Nat):Int)) (Jg (J7 g a6) O O O) O (JLm (I64 ((a+1:Nat):Int)) O (G5 (a8 _ _ (a+1) d (app1 s h) (by omega) ⟨⟨.same (Jt _ _ wanted_d),.same rfl,.same rfl,.same rfl,.same rfl,G⟩,⟨⟨_,rfl,.same⟩,G⟩,rfl⟩))))
 ·
  have h:=app1 i (Jb e (Hs hb))
  refine Jf (a4 (Jr fun a1=>(JLm (OW 1158 1 I64 b) O (JLm (OW 1158 1 I64 b) O (G5 (a1 (Gq (fin1l (fun r:(List Int)=>(E1 r:AV)) h))))))))

def Yg (s:Gk) (column:Int):Option Int:=
 bif ((decide (column < 0))||(decide ((s.Columns.length:Int)≤column))) then
 (some (-1))
 else
 (bnd (Zm s.Covers (fun z0=>G28 z0 s column)) fun a=>
  bif decide ((a.length:Int)=0) then
  (some (-1))
  else
  (Z3 a 0 fun b=>
   some b))
theorem G5d (s:Gk) (column:Int) (r:Int) (h:Yg s column=some r):Pure Eo 51 [.agg (Gk.cs s),I64 column] (·=I64 r):=by
 unfold Yg at h
 refine H0 [.tmp 4] Tryz.func51 O O (Jr fun g=>(JLh (.ptr 1099 0) (Jm (cs:=(Gk.cs s)) 1099 O O O O O) O (JLh (.ptr 1100 0) (Jm (cs:=[I64 column]) 1100 O O O O O) O (JLm (I64 0) O (G5 (g (Gm [(2,Ef s),(3,.ptr 1100 0)] [(1100,.box 3 [I64 column])] 1099 rfl rfl rfl ⟨⟨_,rfl,.boxEq rfl rfl⟩,G⟩ rfl (by exact⟨.ptr,.conv (.same rfl),G⟩) (Gm [(2,Ef s),(3,.dptr [I64 column])] [] 1100 rfl rfl rfl G rfl (by exact⟨.conv (.same rfl),.ptr,G⟩) (Js fun i=>?_)))))))))
 refine Jr fun j=>(JLh (I64 column) (Gh Gc O O O) O (JLh (BL (decide (column < 0))) (Qg O O O) O (JLm (BL (decide (column < 0))) O (JLo (I64 column) [] O .scf G (fun hc=>Gh Gc O O O) O (JLo (Ef s) [] O .scf G (fun hc=>G9 Hv O O O) O (JLo (E3 s.Columns) [10] O .scf ⟨Ua,G⟩ (fun hc=>Gh J9 O O O) O (JLo (En s.Columns.length) [11] O .scf ⟨Ua,G⟩ (fun hc=>G20 (f:=G2.av) (xs:=s.Columns) Ht O O) O (JLo (BL (decide ((s.Columns.length:Int)≤column))) [9,12] O .scf ⟨Ua,Ua,G⟩ (fun hc=>H01 O O O) O (JLh (BL ((decide (column < 0))||(decide ((s.Columns.length:Int)≤column)))) (G2f O O O O) O (G5 (j (JCc O h (fun h hb=>?_) (fun h hb=>?_)))))))))))))
 ·
  refine Jr fun k=>(JLm (I64 (-1)) O (G5 (k (Gq (fin1 I64 h)))))
 ·
  refine Gr (i (Jr fun l=>(JLh (.dptr ((Gk.cs s).drop 1)) (G9 Jp O O O) O (JLh (E7 s.Covers) (Gh Qa O O O) O (JLh (.fn 107 [.dptr (Gk.cs s),.dptr [I64 column]]) (Jz (cs:=[.dptr (Gk.cs s),.dptr [I64 column]]) O O) O ?_)))))
  obtain⟨a,m,h⟩:=Ga h
  refine JLh (E1 a) (Gt O (Hb3 s.Covers (fun z0=>G28 z0 s column) 107 [.dptr (Gk.cs s),.dptr [I64 column]] R6e O (fun z0 q hq=>J8b z0 s column q hq) a m) R6f ⟨O,O,O,O,G⟩) O (JLm (E1 a) O (G5 (l (Js fun n=>Jr fun o=>(JLm (E1 a) O (JLl Gz O O O fun t=>(JLh (BL (decide ((a.length:Int)=0))) (Q0 O O O) O (G5 (o (JCc O h (fun h hb=>?_) (fun h hb=>?_)))))))))))
  ·
   refine Jr fun p=>(JLm (I64 (-1)) O (G5 (p (Gq (fin1 I64 h)))))
  ·
   refine Gr (n (Jr fun c=>(JLm (E1 a) O ?_)))
   obtain⟨u,b,d,e,h⟩:=Yc h
   refine JLh (.dptr [I64 b]) (Hg (f:=I64) (xs:=a) (y:=b) O O O Gz e d) O (JLh (I64 b) (Gh Gc O O O) O (JLm (I64 b) O (G5 (c (Gq (fin1 I64 h))))))

def G59 (m:Gb) (x:Slot):Option Bool:=
 bnd (Yg m.ship x.G2) fun a=>
 bnd (bif decide (0≤a) then some (Gu.get m.open_ a 0) else some 0) fun b=>
 bnd (bif decide (0≤a) then Z3 m.ship.Columns x.G2 some else some default) fun c=>
 some ((decide (0≤a))&&((decide (0 < b))==c.Deck))
theorem Hc9 (m:Gb) (x:Slot) (r:Bool) (h:G59 m x=some r):Pure Eo 86 [.dptr (Gb.cs m),.agg [I64 x.G2,I64 x.Tier,U8 x.Half]] (·=BL r):=by
 unfold G59 at h
 refine H0 [.tmp 4] Tryz.func86 O O (Jr fun e=>(JLh (.ptr 1145 0) (Jm (cs:=[I64 x.G2,I64 x.Tier,U8 x.Half]) 1145 O O O O O) O (JLm (BL false) O (G5 (e (Gm [(0,Ee m),(3,.dptr [I64 x.G2,I64 x.Tier,U8 x.Half])] [] 1145 rfl rfl rfl G rfl (by exact⟨.conv (.same rfl),.ptr,G⟩) (Js fun g=>?_)))))))
 obtain⟨b,i,h⟩:=Ga h
 refine JC_d0 J0 (by kernel_rfl) (Dq (Ee m) (G6 O O) O (Dq (Ee m) (G6e O O) O (Dq (Ee m) (G9 Re O O O) O (Dq (.agg (Gk.cs m.ship)) (Gj Hr O O O) O (Dq (.dptr [I64 x.G2,I64 x.Tier,U8 x.Half]) (G9 Jd O O O) O (Dq (I64 x.G2) (Gh Gc O O O) O (Dq (I64 b) (Gt (args:=[.agg (Gk.cs m.ship),I64 x.G2]) O (G5d m.ship x.G2 b i) H6c ⟨O,O,O,O,G⟩) O (Dq (I64 b) (G7 O O) O (Dnil (g (Js fun j=>?_)))))))))))
 obtain⟨d,k,h⟩:=Ga h
 obtain⟨c,l,h⟩:=Ga h
 refine JC_d0 J0 (by kernel_rfl) (Dq (I64 b) (G6 O O) O (Dq (BL (decide (0≤b))) (H01 O O O) O (Dq (BL (decide (0≤b))) (G6 O O) O (Do (Ee m) [] O .sct G (fun hc=>G6 O O) O (Do (Ee m) [16] O .sct ⟨Ua,G⟩ (fun hc=>G6e O O) O (Do (.dptr ((Gb.cs m).drop 15)) [17] O .sct ⟨Ua,G⟩ (fun hc=>G9 G78 O O O) O (Do (DM Kq I64 m.open_) [18] O .sct ⟨Ua,G⟩ (fun hc=>Gh G65 O O O) O (Do (I64 b) [] O .sct G (fun hc=>G6 O O) O (Do (I64 d) [19,20] O .sct ⟨Ua,Ua,G⟩ (fun hc=>((M5 (H3 hc k)) ▸ J8f (av:=I64) (m:=m.open_) (a:=b) 0 E0 (fun _=>O) O .data O Q50 H62 H50 O)) O (Do (BL (decide (0 < d))) [21] O .sct ⟨Ua,G⟩ (fun hc=>Gbe O O O) O (Do (Ee m) [] O .sct G (fun hc=>G6 O O) O (Do (Ee m) [23] O .sct ⟨Ua,G⟩ (fun hc=>G6e O O) O (Do (Ee m) [24] O .sct ⟨Ua,G⟩ (fun hc=>G9 Re O O O) O ?_)))))))))))))
 refine Do (Ee m) [25] O .sct ⟨Ua,G⟩ (fun hc=>G9 Hv O O O) O (Do (E3 m.ship.Columns) [26] O .sct ⟨Ua,G⟩ (fun hc=>Gh J9 O O O) O (Do (.dptr [I64 x.G2,I64 x.Tier,U8 x.Half]) [] O .sct G (fun hc=>G9 Jd O O O) O (Do (I64 x.G2) [28] O .sct ⟨Ua,G⟩ (fun hc=>Gh Gc O O O) O (Do (Ei c) [27,29] O .sct ⟨Ua,Ua,G⟩ (fun hc=>(match Zn (H3 hc l) with | ⟨_,hm_,hy_⟩=>Hg (f:=G2.av) (xs:=m.ship.Columns) (y:=c) O O O Ht hy_ hm_)) O (Do (.dptr ((G2.cs c).drop 2)) [30] O .sct ⟨Ua,G⟩ (fun hc=>G9 Yw O O O) O (Do (BL c.Deck) [31] O .sct ⟨Ua,G⟩ (fun hc=>Gh Q1 O O O) O (Do (BL ((decide (0 < d))==c.Deck)) [22,32] O .sct ⟨Ua,Ua,G⟩ (fun hc=>Jcd H63 O O O) O (Dq (BL ((decide (0≤b))&&((decide (0 < d))==c.Deck))) (Ro O O O O) O (Dq (BL ((decide (0≤b))&&((decide (0 < d))==c.Deck))) (G7 O O) O (Dnil ?_))))))))))
 refine j (Gq (fin1 BL h))

def Ra (b:Box):Option Int:=
 bif b.High then
 (some 2896)
 else
 (some 2591)
theorem H8a (b:Box) (r:Int) (h:Ra b=some r):Pure Eo 133 [.agg (Box.cs b)] (·=I64 r):=by
 unfold Ra at h
 refine H0 [.tmp 2] Tryz.func133 O O (Jr fun a=>(JLh (.ptr 1183 0) (Jm (cs:=(Box.cs b)) 1183 O O O O O) O (JLm (I64 0) O (G5 (a (Gm [(1,Eh b)] [] 1183 rfl rfl rfl G rfl (by exact⟨.ptr,G⟩) (Js fun c=>Jr fun d=>(JLh (.dptr ((Box.cs b).drop 3)) (G9 H1d O O O) O (JLh (BL b.High) (Gh Q1 O O O) O (G5 (d (JCc O h (fun h hb=>?_) (fun h hb=>?_)))))))))))))
 ·
  refine Jr fun e=>(JLm (I64 2896) O (G5 (e (Gq (fin1 I64 h)))))
 ·
  refine Gr (c (Jr fun f=>(JLm (I64 2591) O (G5 (f (Gq (fin1 I64 h)))))))

def Ga2 (m:Gb) (x:Slot) (b:Box) (half:Int) (Rp:Int→Prop):Option Prop:=
 jp (fun e=>
  bif ((decide (x.Half=0))||(decide (x.Half=half))) then
  (bnd (Ra b) fun h=>
   e h)
  else
  (e 0)) fun(i:Int)=>
 J00 (fun(a:Slot×Box) (c:Int) d=>
  bif ((decide (a.1.G2=x.G2))&&((decide (a.1.Half=0))||(decide (a.1.Half=half)))) then
  (bnd (Ra a.2) fun f=>
   chk (c+f) fun g=>
   d g)
  else
  (d c))
 (fun(c:Int)=>
  some (Rp c)) (Gu.Hf m.on) i
theorem Jf0 (m:Gb) (x:Slot) (b:Box) (half:Int) (Rp:Int→Prop) (p:Prop) (h:Ga2 m x b half Rp=some p) (hp:p):Pure Eo 95 [.dptr (Gb.cs m),.agg [I64 x.G2,I64 x.Tier,U8 x.Half],.agg (Box.cs b),U8 half] (fun av=>∃ r,Rp r∧av=I64 r):=by
 unfold Ga2 at h
 refine H0 [.tmp 8] Tryz.func95 O O (Jr fun a9=>(JLh (.ptr 1148 0) (Jm (cs:=[I64 x.G2,I64 x.Tier,U8 x.Half]) 1148 O O O O O) O (JLh (.ptr 1149 0) (Jm (cs:=(Box.cs b)) 1149 O O O O O) O (JLm (I64 0) O (G5 (a9 (fzQ [(0,Ee m),(3,U8 half),(5,.dptr [I64 x.G2,I64 x.Tier,U8 x.Half]),(6,.ptr 1149 0)] [(1149,.box 60 (Box.cs b))] 1148 rfl rfl rfl ⟨⟨_,rfl,.boxEq rfl rfl⟩,G⟩ rfl ?_)))))))
 refine fzQ [(0,Ee m),(3,U8 half),(5,.dptr [I64 x.G2,I64 x.Tier,U8 x.Half]),(6,Eh b)] [] 1149 rfl rfl rfl G rfl (Jr fun b0=>(JLm (.fn 133 []) O (G5 (b0 (Jr fun b1=>(JLm (I64 0) O (G5 (b1 ?_))))))))
 obtain⟨b2,z,h⟩:=Yy h
 refine Ri (fun k:Int=>b2 k=some p) (fun k=>[(0,Ee m),(3,U8 half),(5,.dptr [I64 x.G2,I64 x.Tier,U8 x.Half]),(9,.fn 133 []),(10,I64 k)]) (fun k=>[]) (fun Kj4 ej4=>?_) ?_
 ·
  refine Jr fun b3=>(JLh (.dptr [U8 x.Half]) (G9 Rg O O O) O (JLh (U8 x.Half) (Gh Ho O O O) O (JLh (BL (decide (x.Half=0))) (Q0 O O O) O (JLm (BL (decide (x.Half=0))) O (JLo (.dptr [U8 x.Half]) [] O .scf G (fun hc=>G9 Rg O O O) O (JLo (U8 x.Half) [17] O .scf ⟨Ua,G⟩ (fun hc=>Gh Ho O O O) O (JLo (U8 half) [] O .scf G (fun hc=>G6 O O) O (JLo (BL (decide (x.Half=half))) [18,19] O .scf ⟨Ua,Ua,G⟩ (fun hc=>Q0 O O O) O (JLh (BL ((decide (x.Half=0))||(decide (x.Half=half)))) (G2f O O O O) O (G5 (b3 (JCc O h (fun h hb=>?_) (fun h hb=>?_)))))))))))))
  ·
   refine G1 (JLm (.fn 133 []) O (JLh (.agg (Box.cs b)) (Gj Ym O O O) O ?_))
   obtain⟨t,b4,h⟩:=Ga h
   refine JLh (I64 t) (G48 (args:=[.agg (Box.cs b)]) (caps:=[]) O O (H8a b t b4) Q03 ⟨O,O,G⟩ O) O (JLm (I64 t) O (G5 (ej4 _ _ t h ⟨(.sm O O),G,rfl⟩)))
  ·
   refine Gr (ej4 _ _ 0 h ⟨(.sm O O),G,rfl⟩)
 ·intro k h
  replace h:=app1 z h
  refine Js fun b5=>Jr fun b6=>(JLm (Ee m) O (JLh (Ee m) (G6e O O) O (JLh (.dptr ((Gb.cs m).drop 13)) (G9 Yh O O O) O (JLh (DM Slot.kv Box.av m.on) (Gh Yj O O O) O (JLh (.it 1152) (H8f 1152 (kv:=Slot.kv) (av:=Box.av) (m:=m.on) O O .data O G52) O (G5 (b6 (Gx ?_))))))))
  obtain⟨b7,a0,a1,v,h⟩:=H2f h
  refine J34 (m.on.l.length) (fun d (c:Int)=>Gcc b7 a0 (Gu.l m.on) d c) (fun d c=>[(3,U8 half),(5,.dptr [I64 x.G2,I64 x.Tier,U8 x.Half]),(9,.fn 133 []),(10,I64 c),(29,.it 1152)]) (fun d c=>[(1152,.iter (DM Slot.kv Box.av m.on) m.on.l.length d)]) k (Gcc.start h hp) ⟨(.sm O O),⟨⟨_,rfl,.iter rfl⟩,G⟩,rfl⟩ ?_
  clear h hp
  intro d c n c0 w
  refine Jr fun o=>Zu O O O (Hfd (kv:=Slot.kv) (av:=Box.av) (m:=m.on) (fun _=>O) O O O .data) ?_
  intro u_ L_ hn_
  rcases hn_ with ⟨g,a,f,j,rfl,rfl⟩ | ⟨a2,rfl,rfl⟩
  ·
   obtain⟨c1,h,b8,i⟩:=n.step f j
   replace h:=Qa7 a1 h
   refine JLh (BL true) (H1 O O O) O (G5 (o (Js fun a3=>J35 O (Gr (a3 (Gx ?_))))))
   refine Jr fun a4=>(JLh (.tup [.agg (Slot.cs a.1),.agg (Box.cs a.2)]) (J90 (kv:=Slot.kv) (av:=Box.av) (m:=m.on) (q:=g) (seen:=d) (e:=a) (fun _=>O) O O O .data f) O (JLh (.agg (Slot.cs a.1)) (H1 O O O) O (JLh (.agg (Box.cs a.2)) (H1 O O O) O (JLh (.ptr 1150 0) (Hq 1150 3 Z7 O O) O (JLh (.ptr 1151 0) (Hq 1151 9 Qt O O) O (Hp (u:=.junk) (Hc (u:=.agg (Slot.cs a.1)) (ds:=[I64 a.1.G2,I64 a.1.Tier,U8 a.1.Half]) Zv O O O O O O O O) (Hp (u:=.junk) (Hc (u:=.agg (Box.cs a.2)) (ds:=(Box.cs a.2)) Rs O O O O O O O O) (G5 (a4 ?_)))))))))
   refine fzQ [(3,U8 half),(5,.dptr [I64 x.G2,I64 x.Tier,U8 x.Half]),(9,.fn 133 []),(10,I64 c),(11,Ej a.1),(12,.ptr 1151 0),(29,.it 1152)] [(1152,.iter (DM Slot.kv Box.av m.on) m.on.l.length (d++[g])),(1151,.box 60 (Box.cs a.2))] 1150 rfl rfl rfl ⟨⟨_,rfl,.iter rfl⟩,⟨_,rfl,.boxEq rfl rfl⟩,G⟩ rfl ?_
   refine fzQ [(3,U8 half),(5,.dptr [I64 x.G2,I64 x.Tier,U8 x.Half]),(9,.fn 133 []),(10,I64 c),(11,Ej a.1),(12,Eh a.2),(29,.it 1152)] [(1152,.iter (DM Slot.kv Box.av m.on) m.on.l.length (d++[g]))] 1151 rfl rfl rfl ⟨⟨_,rfl,.iter rfl⟩,G⟩ rfl ?_
   refine Jr fun a5=>(JLh (Ej a.1) (G9 Jd O O O) O (JLh (I64 a.1.G2) (Gh Gc O O O) O (JLh (.dptr [I64 x.G2,I64 x.Tier,U8 x.Half]) (G9 Jd O O O) O (JLh (I64 x.G2) (Gh Gc O O O) O (JLh (BL (decide (a.1.G2=x.G2))) (Q0 O O O) O (JLm (BL (decide (a.1.G2=x.G2))) O (JLo (.dptr [U8 a.1.Half]) [] O .sct G (fun hc=>G9 Rg O O O) O (JLo (U8 a.1.Half) [41] O .sct ⟨Ua,G⟩ (fun hc=>Gh Ho O O O) O (JLo (BL (decide (a.1.Half=0))) [42] O .sct ⟨Ua,G⟩ (fun hc=>Q0 O O O) O (JLo (BL (decide (a.1.Half=0))) [43] O .sct ⟨Ua,G⟩ (fun hc=>G6 O O) O (JLo (.dptr [U8 a.1.Half]) [] O .optf G (fun hc=>G9 Rg O O O) O (JLo (U8 a.1.Half) [45] O .optf ⟨Ua,G⟩ (fun hc=>Gh Ho O O O) O (JLo (U8 half) [] O .optf G (fun hc=>G6 O O) O ?_)))))))))))))
   refine JLo (BL (decide (a.1.Half=half))) [46,47] O .optf ⟨Ua,Ua,G⟩ (fun hc=>Q0 O O O) O (Gf (u:=BL ((decide (a.1.Half=0))||(decide (a.1.Half=half)))) [(44,BL (decide (a.1.Half=0))),(48,_)] O O O .sct ⟨.all id,.part,G⟩ (fun hc=>G2f O O O O) ?_)
   refine JLh (BL ((decide (a.1.G2=x.G2))&&((decide (a.1.Half=0))||(decide (a.1.Half=half))))) (Ro O O O O) O (G5 (a5 (JCc O h (fun h hb=>?_) (fun h hb=>?_))))
   ·
    refine G1 (JLm (I64 c) O (JLm (.fn 133 []) O (JLh (.agg (Box.cs a.2)) (Gj Ym O O O) O ?_)))
    obtain⟨y,a6,h⟩:=Ga h
    refine JLh (I64 y) (G48 (args:=[.agg (Box.cs a.2)]) (caps:=[]) O O (H8a a.2 y a6) Q03 ⟨O,O,G⟩ O) O ?_
    obtain⟨s,a7,h⟩:=Je h
    refine JLh (I64 s) (Jg a7 O O O) O (JLm (I64 s) O (G5 (w _ _ (d++[g]) s (i _ (M5 h).symm) (Gaa (M3 f).1 j) ⟨(.sm O O),⟨⟨_,rfl,.iter rfl⟩,G⟩,rfl⟩)))
   ·
    refine Gr (w _ _ (d++[g]) c (i _ (M5 h).symm) (Gaa (M3 f).1 j) ⟨(.sm O O),⟨⟨_,rfl,.iter rfl⟩,G⟩,rfl⟩)
  ·
   obtain⟨p_,h,hp⟩:=n.done a2
   replace h:=app1 v h
   refine JLh (BL false) (H1 O O O) O (G5 (o (Js fun b9=>G2e O (Jf (b5 (Jr fun a8=>(JLm (I64 c) O (JLm (I64 c) O (G5 (a8 (Gq (⟨[I64 c],[],G,O,⟨⟨_,O,.conv (.same O)⟩,G⟩,O,c,Eq.mpr (M5 h) hp,O⟩))))))))))))
theorem Jf1 (S_:(Gb)→(Slot)→(Box)→(Int)→Option Int) (hS_:∀ m x b half r,S_ m x b half=some r→∃ p:Prop,Ga2 m x b half (fun r_=>r_=r)=some p∧p) (m:Gb) (x:Slot) (b:Box) (half:Int) (r:Int) (h:S_ m x b half=some r):Pure Eo 95 [.dptr (Gb.cs m),.agg [I64 x.G2,I64 x.Tier,U8 x.Half],.agg (Box.cs b),U8 half] (·=I64 r):=by
 obtain⟨p,a,c⟩:=hS_ m x b half r h
 exact(Jf0 m x b half _ p a c).monoP (fun av hh=>by obtain⟨r_,rfl,ha⟩:=hh; exact ha)

def Rz (m:Gb):Option Int:=
 some m.lifts
theorem G44 (m:Gb) (r:Int) (h:Rz m=some r):Pure Eo 16 [.dptr (Gb.cs m)] (·=I64 r):=by
 unfold Rz at h
 refine H0 [.tmp 2] Tryz.func16 O O (Jr fun a=>(JLm (I64 0) O (G5 (a (Js fun c=>Jr fun d=>(JLm (Ee m) O (JLh (BL true) (Gt O (Yr m true O) G8b ⟨O,O,G⟩) O (JLh (BL false) (Qx (b:=true) O O) O (G5 (d (G2e O (Gr (c (Jr fun e=>(JLm (Ee m) O (JLh (Ee m) (G6e O O) O (JLh (.dptr [I64 m.lifts]) (G9 Gc1 O O O) O (JLh (I64 m.lifts) (Gh Gc O O O) O (JLm (I64 m.lifts) O (G5 (e (Gq (fin1 I64 h)))))))))))))))))))))))

def Jbd (l:List J6):Option Int:=
 each (fun a e (c:Unit) b=>
  bnd (a.val) fun d=>
  bif (!d) then
  (some a.bad)
  else
  (b ()))
 (fun(c:Unit)=>
  some 0) l 0 ()
theorem Qbb (l:List J6) (r:Int) (h:Jbd l=some r):Pure Eo 80 [LS 2 J6.av l] (·=I64 r):=by
 unfold Jbd at h
 refine H0 [.tmp 2] Tryz.func80 O O (Jr fun a3=>(JLm (I64 0) O (G5 (a3 (Js fun a4=>Jr fun a5=>(JLm (LS 2 J6.av l) O (JLl Gee O O O fun a6=>(JLm (I64 0) O (G5 (a5 (Gx ?_)))))))))))
 obtain⟨a7,n,o,m,h⟩:=Jy h
 refine Jc (fun e (g:Unit)=>each a7 n (List.drop e l) e g=some r) (fun e g=>[(5,LS 2 J6.av l),(6,En l.length),(7,En e)]) (fun e g=>[]) (fun e=>l.length - e) 0 () h ⟨(.sm O O),G,O⟩ ?_
 clear h
 intro e g j b0 a8
 refine Jr fun p=>(JLh (BL (decide ((e:Int) < (l.length:Int)))) (Qg O O O) O (G5 (p (Js fun q=>Gn O (fun hb=>?_) (fun hb=>?_)))))
 ·
  have k:=Qr hb
  obtain⟨a,a9,s,t,h⟩:=Ja j k
  replace h:=G1d o h
  refine Gr (q (Js fun v=>Gx (Jr fun x=>(JLh (.dptr [.fn a.f a.c,I64 a.bad]) (Hg (f:=J6.av) (xs:=l) (y:=a) O O O Gee s O) O (JLh (.agg [.fn a.f a.c,I64 a.bad]) (Gj Q76 O O O) O (JLh (.ptr 1139 0) (Hq 1139 2 H51 O O) O (Hp (u:=.junk) (Hc (u:=.agg [.fn a.f a.c,I64 a.bad]) (ds:=[.fn a.f a.c,I64 a.bad]) Jfd O O O O O O O O) (G5 (x (fzQ [(4,.dptr [.fn a.f a.c,I64 a.bad]),(5,LS 2 J6.av l),(6,En l.length),(7,En e)] [] 1139 rfl (by simp [Qz,AV.refs,a.d]) rfl G rfl ?_))))))))))
  refine Jr fun z=>(JLh (.dptr [.fn a.f a.c,I64 a.bad]) (G9 Q59 O O O) O (JLh (.fn a.f a.c) (Gh R27 O O O) O ?_))
  obtain⟨i,a0,h⟩:=Ga h
  refine JLh (BL i) (G48 (args:=[]) (caps:=a.c) O O (a.w i a0) a.B G a.d) O (JLh (BL (!i)) (Qx (b:=i) O O) O (G5 (z (JCc O h (fun h hb=>?_) (fun h hb=>?_)))))
  ·
   refine Jr fun a1=>(JLh (.dptr [I64 a.bad]) (G9 Q58 O O O) O (JLh (I64 a.bad) (Gh Hd4 O O O) O (JLm (I64 a.bad) O (G5 (a1 (Gq (fin1 I64 h)))))))
  ·
   refine Gr (v (G1 (JLh (I64 ((e+1:Nat):Int)) (Jg (J7 k a6) O O O) O (JLm (I64 ((e+1:Nat):Int)) O (G5 (a8 _ _ (e+1) () (app1 t h) (by omega) ⟨(.sm O O),G,rfl⟩))))))
 ·
  have h:=app1 m (Jb j (Hs hb))
  refine Jf (a4 (Jr fun a2=>(JLm (I64 0) O (G5 (a2 (Gq (fin1 I64 h)))))))

def Z5 (a:Bool):Option Bool:=
 some a
theorem Gb5 (a:Bool) (r:Bool) (h:Z5 a=some r):Pure Eo 130 [.dptr [BL a]] (·=BL r):=by
 unfold Z5 at h
 refine H0 [.tmp 1] Tryz.func130 O O (Jr fun b=>(JLm (BL false) O (G5 (b (Jr fun c=>(JLh (BL a) (Gh Q1 O O O) O (JLm (BL a) O (G5 (c (Gq (fin1 BL h)))))))))))

def H3b (holds:Bool) (bad:Int):Option Unit:=
 some ()
theorem H17 (holds:Bool) (bad:Int) (r:Unit) (h:H3b holds bad=some r):Pure Eo 81 [BL holds,I64 bad] (·=.agg [.fn 130 [.dptr [BL holds]],I64 bad]):=by
 unfold H3b at h
 refine H0 [.cell 4 148] Tryz.func81 O O (Jr fun a=>(JLh (.ptr 1140 0) (Jm (cs:=[BL holds]) 1140 O O O O O) O (JLh (.ptr 1141 0) (G5f 1141 [.sc .nilFunc,I64 0] [.nilFunc,E0] G21 (zzQ O) O O) O (G5 (a (Gm [(1,I64 bad),(2,.dptr [BL holds]),(4,.ptr 1141 0)] [(1141,.box 148 [.sc .nilFunc,I64 0])] 1140 rfl rfl rfl ⟨⟨_,rfl,.boxEq rfl rfl⟩,G⟩ rfl (by exact⟨.conv (.same rfl),.ptr,.conv (.same rfl),G⟩) ?_))))))
 refine Jr fun b=>(JLh (.fn 130 [.dptr [BL holds]]) (Jz (cs:=[.dptr [BL holds]]) O O) O (JLm (I64 bad) O (JLh (.agg [.fn 130 [.dptr [BL holds]],I64 bad]) (Hb (cs:=[.fn 130 [.dptr [BL holds]],I64 bad]) [(0,1),(1,1)] [.sc .nilFunc,I64 0] [.nilFunc,E0] G02 G21 (zzQ O) O O) O (Hp (u:=.junk) (Hc (u:=.agg [.fn 130 [.dptr [BL holds]],I64 bad]) (ds:=[.fn 130 [.dptr [BL holds]],I64 bad]) Jfd O O O O O O O O) (G5 (b (Gq (⟨[.agg [.fn 130 [.dptr [BL holds]],I64 bad]],[],G,O,⟨⟨_,⟨_,_,_,_,O,O,O,.inl ⟨Q76,O⟩⟩,.conv (.same O)⟩,G⟩,O,congrArg (fun _:Unit=>(.agg [.fn 130 [.dptr [BL holds]],I64 bad]:AV)) (M5 h)⟩))))))))

def G0b (s:List Int) (v:Int):Option Int:=
 each (fun b c (d:Unit) a=>
  bif decide (v=b) then
  (some (c:Int))
  else
  (a ()))
 (fun(d:Unit)=>
  some (-1)) s 0 ()
theorem Hf9 (s:List Int) (v:Int) (r:Int) (h:G0b s v=some r):Pure Eo 148 [Ea s,U8 v] (·=I64 r):=by
 unfold G0b at h
 refine H0 [.tmp 4] Tryz.func148 O O (Jr fun w=>(JLm (I64 0) O (G5 (w (Js fun x=>Jr fun z=>(JLm (Ea s) O (JLl Gab O O O fun a0=>(JLm (I64 0) O (G5 (z (Gx ?_)))))))))))
 obtain⟨a1,i,j,g,h⟩:=Jy h
 refine Jc (fun a (b:Unit)=>each a1 i (List.drop a s) a b=some r) (fun a b=>[(0,Ea s),(1,U8 v),(7,En s.length),(8,En a)]) (fun a b=>[]) (fun a=>s.length - a) 0 () h ⟨(.sm O O),G,rfl⟩ ?_
 clear h
 intro a b d a4 a2
 refine Jr fun k=>(JLh (BL (decide ((a:Int) < (s.length:Int)))) (Qg O O O) O (G5 (k (Js fun l=>Gn O (fun hb=>?_) (fun hb=>?_)))))
 ·
  have e:=Qr hb
  obtain⟨c,a3,m,n,h⟩:=Ja d e
  replace h:=G1d j h
  refine Gr (l (Js fun o=>Gx (Jr fun p=>(JLm (En a) O (JLm (En a) O (G5 (p (Jr fun q=>(JLm (U8 v) O (JLm (Ea s) O (JLm (En a) O (JLh (.dptr [U8 c]) (Hg (f:=U8) (xs:=s) (y:=c) O O O Gab m O) O (JLh (U8 c) (Gh Ho O O O) O (JLh (BL (decide (v=c))) (Q0 O O O) O (G5 (q (JCc O h (fun h hb=>?_) (fun h hb=>?_))))))))))))))))))
  ·
   refine Jr fun t=>(JLm (En a) O (JLm (En a) O (G5 (t (Gq (fin1 I64 h))))))
  ·
   refine Gr (o (G1 (JLh (I64 ((a+1:Nat):Int)) (Jg (J7 e a0) O O O) O (JLm (I64 ((a+1:Nat):Int)) O (G5 (a2 _ _ (a+1) () (app1 n h) (by omega) ⟨(.sm O O),G,rfl⟩))))))
 ·
  have h:=app1 g (Jb d (Hs hb))
  refine Jf (x (Jr fun u=>(JLm (I64 (-1)) O (G5 (u (Gq (fin1 I64 h)))))))

def Zb (s:List Int) (v:Int):Option Bool:=
 bnd (G0b s v) fun a=>
 some (decide (0≤a))
theorem H95 (s:List Int) (v:Int) (r:Bool) (h:Zb s v=some r):Pure Eo 113 [Ea s,U8 v] (·=BL r):=by
 unfold Zb at h
 refine H0 [.tmp 4] Tryz.func113 O O (Jr fun b=>(JLm (BL false) O (G5 (b (Jr fun c=>(JLm (Ea s) O (JLm (U8 v) O ?_)))))))
 obtain⟨a,d,h⟩:=Ga h
 refine JLh (I64 a) (Gt O (Hf9 s v a d) R5d ⟨O,O,O,O,G⟩) O (JLh (BL (decide (0≤a))) (H01 O O O) O (JLm (BL (decide (0≤a))) O (G5 (c (Gq (fin1 BL h))))))

def G41 (s:Gk) (x:Slot) (size:Int):Option Bool:=
 bnd (bif (((decide (0≤x.G2))&&(decide (x.G2 < (s.Columns.length:Int))))&&(decide (0≤x.Tier))) then Z3 s.Columns x.G2 some else some default) fun a=>
 bnd (bif ((((decide (0≤x.G2))&&(decide (x.G2 < (s.Columns.length:Int))))&&(decide (0≤x.Tier)))&&(decide (x.Tier < a.Tiers))) then G4d size else some default) fun b=>
 bnd (bif ((((decide (0≤x.G2))&&(decide (x.G2 < (s.Columns.length:Int))))&&(decide (0≤x.Tier)))&&(decide (x.Tier < a.Tiers))) then Zb b x.Half else some default) fun c=>
 some (((((decide (0≤x.G2))&&(decide (x.G2 < (s.Columns.length:Int))))&&(decide (0≤x.Tier)))&&(decide (x.Tier < a.Tiers)))&&c)
theorem H86 (s:Gk) (x:Slot) (size:Int) (r:Bool) (h:G41 s x size=some r):Pure Eo 58 [.agg (Gk.cs s),.agg [I64 x.G2,I64 x.Tier,U8 x.Half],U8 size] (·=BL r):=by
 unfold G41 at h
 refine H0 [.tmp 6] Tryz.func58 O O (Jr fun d=>(JLh (.ptr 1105 0) (Jm (cs:=(Gk.cs s)) 1105 O O O O O) O (JLh (.ptr 1106 0) (Jm (cs:=[I64 x.G2,I64 x.Tier,U8 x.Half]) 1106 O O O O O) O (JLm (BL false) O (G5 (d (Gm [(2,U8 size),(3,Ef s),(4,.ptr 1106 0)] [(1106,.box 43 [I64 x.G2,I64 x.Tier,U8 x.Half])] 1105 rfl rfl rfl ⟨⟨_,rfl,.boxEq rfl rfl⟩,G⟩ rfl (by exact⟨.conv (.same rfl),.ptr,.conv (.same rfl),G⟩) ?_)))))))
 refine Gm [(2,U8 size),(3,Ef s),(4,.dptr [I64 x.G2,I64 x.Tier,U8 x.Half])] [] 1106 rfl rfl rfl G rfl (by exact⟨.conv (.same rfl),.conv (.same rfl),.ptr,G⟩) (Js fun e=>?_)
 obtain⟨a,g,h⟩:=Ga h
 obtain⟨b,i,h⟩:=Ga h
 obtain⟨c,j,h⟩:=Ga h
 refine JC_d0 J0 (by kernel_rfl) (Dq (.dptr [I64 x.G2,I64 x.Tier,U8 x.Half]) (G9 Jd O O O) O (Dq (I64 x.G2) (Gh Gc O O O) O (Dq (BL (decide (0≤x.G2))) (H01 O O O) O (Dq (BL (decide (0≤x.G2))) (G6 O O) O (Do (.dptr [I64 x.G2,I64 x.Tier,U8 x.Half]) [] O .sct G (fun hc=>G9 Jd O O O) O (Do (I64 x.G2) [11] O .sct ⟨Ua,G⟩ (fun hc=>Gh Gc O O O) O (Do (Ef s) [] O .sct G (fun hc=>G9 Hv O O O) O (Do (E3 s.Columns) [13] O .sct ⟨Ua,G⟩ (fun hc=>Gh J9 O O O) O (Do (En s.Columns.length) [14] O .sct ⟨Ua,G⟩ (fun hc=>G20 (f:=G2.av) (xs:=s.Columns) Ht O O) O (Do (BL (decide (x.G2 < (s.Columns.length:Int)))) [12,15] O .sct ⟨Ua,Ua,G⟩ (fun hc=>Qg O O O) O (Dq (BL ((decide (0≤x.G2))&&(decide (x.G2 < (s.Columns.length:Int))))) (Ro O O O O) O (Dq (BL ((decide (0≤x.G2))&&(decide (x.G2 < (s.Columns.length:Int))))) (G6 O O) O (Do (.dptr [I64 x.Tier,U8 x.Half]) [] O .sct G (fun hc=>G9 Zf O O O) O ?_)))))))))))))
 refine Do (I64 x.Tier) [19] O .sct ⟨Ua,G⟩ (fun hc=>Gh Gc O O O) O (Do (BL (decide (0≤x.Tier))) [20] O .sct ⟨Ua,G⟩ (fun hc=>H01 O O O) O (Dq (BL (((decide (0≤x.G2))&&(decide (x.G2 < (s.Columns.length:Int))))&&(decide (0≤x.Tier)))) (Ro O O O O) O (Dq (BL (((decide (0≤x.G2))&&(decide (x.G2 < (s.Columns.length:Int))))&&(decide (0≤x.Tier)))) (G6 O O) O (Do (.dptr [I64 x.Tier,U8 x.Half]) [] O .sct G (fun hc=>G9 Zf O O O) O (Do (I64 x.Tier) [24] O .sct ⟨Ua,G⟩ (fun hc=>Gh Gc O O O) O (Do (Ef s) [] O .sct G (fun hc=>G9 Hv O O O) O (Do (E3 s.Columns) [26] O .sct ⟨Ua,G⟩ (fun hc=>Gh J9 O O O) O (Do (.dptr [I64 x.G2,I64 x.Tier,U8 x.Half]) [] O .sct G (fun hc=>G9 Jd O O O) O (Do (I64 x.G2) [28] O .sct ⟨Ua,G⟩ (fun hc=>Gh Gc O O O) O (Do (Ei a) [27,29] O .sct ⟨Ua,Ua,G⟩ (fun hc=>(match Zn (H3 hc g) with | ⟨_,hm_,hy_⟩=>Hg (f:=G2.av) (xs:=s.Columns) (y:=a) O O O Ht hy_ hm_)) O (Do (.dptr ((G2.cs a).drop 3)) [30] O .sct ⟨Ua,G⟩ (fun hc=>G9 H1e O O O) O (Do (I64 a.Tiers) [31] O .sct ⟨Ua,G⟩ (fun hc=>Gh Gc O O O) O (Do (BL (decide (x.Tier < a.Tiers))) [25,32] O .sct ⟨Ua,Ua,G⟩ (fun hc=>Qg O O O) O ?_)))))))))))))
 refine Dq (BL ((((decide (0≤x.G2))&&(decide (x.G2 < (s.Columns.length:Int))))&&(decide (0≤x.Tier)))&&(decide (x.Tier < a.Tiers)))) (Ro O O O O) O (Dq (BL ((((decide (0≤x.G2))&&(decide (x.G2 < (s.Columns.length:Int))))&&(decide (0≤x.Tier)))&&(decide (x.Tier < a.Tiers)))) (G6 O O) O (Do (U8 size) [] O .sct G (fun hc=>G6 O O) O (Do (Ea b) [36] O .sct ⟨Ua,G⟩ (fun hc=>Gt (args:=[U8 size]) O (J03 size b (H3 hc i)) Q08 ⟨O,O,G⟩) O (Do (.dptr [U8 x.Half]) [] O .sct G (fun hc=>G9 Rg O O O) O (Do (U8 x.Half) [38] O .sct ⟨Ua,G⟩ (fun hc=>Gh Ho O O O) O (Do (BL c) [37,39] O .sct ⟨Ua,Ua,G⟩ (fun hc=>Gt (args:=[Ea b,U8 x.Half]) O (H95 b x.Half c (H3 hc j)) R6a ⟨O,O,O,O,G⟩) O (Dq (BL (((((decide (0≤x.G2))&&(decide (x.G2 < (s.Columns.length:Int))))&&(decide (0≤x.Tier)))&&(decide (x.Tier < a.Tiers)))&&c)) (Ro O O O O) O (Dq (BL (((((decide (0≤x.G2))&&(decide (x.G2 < (s.Columns.length:Int))))&&(decide (0≤x.Tier)))&&(decide (x.Tier < a.Tiers)))&&c)) (G7 O O) O (Dnil ?_)))))))))
 refine e (Gq (fin1 BL h))

def Yp (s:List Slot) (v:Slot):Option Int:=
 each (fun b c (d:Unit) a=>
  bif decide (v=b) then
  (some (c:Int))
  else
  (a ()))
 (fun(d:Unit)=>
  some (-1)) s 0 ()
theorem Hb0 (s:List Slot) (v:Slot) (r:Int) (h:Yp s v=some r):Pure Eo 155 [E9 s,.agg [I64 v.G2,I64 v.Tier,U8 v.Half]] (·=I64 r):=by
 unfold Yp at h
 refine H0 [.tmp 4] Tryz.func155 O O (Jr fun w=>(JLh (.ptr 1193 0) (Jm (cs:=[I64 v.G2,I64 v.Tier,U8 v.Half]) 1193 O O O O O) O (JLm (I64 0) O (G5 (w (Gm [(0,E9 s),(3,.dptr [I64 v.G2,I64 v.Tier,U8 v.Half])] [] 1193 rfl rfl rfl G rfl (by exact⟨.conv (.same rfl),.ptr,G⟩) (Js fun x=>Jr fun z=>(JLm (E9 s) O (JLl Rr O O O fun a0=>(JLm (I64 0) O (G5 (z (Gx ?_)))))))))))))
 obtain⟨a1,i,j,g,h⟩:=Jy h
 refine Jc (fun a (c:Unit)=>each a1 i (List.drop a s) a c=some r) (fun a c=>[(0,E9 s),(3,.dptr [I64 v.G2,I64 v.Tier,U8 v.Half]),(7,En s.length),(8,En a)]) (fun a c=>[]) (fun a=>s.length - a) 0 () h ⟨(.sm O O),G,rfl⟩ ?_
 clear h
 intro a c d a4 a2
 refine Jr fun k=>(JLh (BL (decide ((a:Int) < (s.length:Int)))) (Qg O O O) O (G5 (k (Js fun l=>Gn O (fun hb=>?_) (fun hb=>?_)))))
 ·
  have e:=Qr hb
  obtain⟨b,a3,m,n,h⟩:=Ja d e
  replace h:=G1d j h
  refine Gr (l (Js fun o=>Gx (Jr fun p=>(JLm (En a) O (JLm (En a) O (G5 (p (Js fun q=>JC_d0 J0 (by kernel_rfl) (Dq (.agg [I64 v.G2,I64 v.Tier,U8 v.Half]) (Gj Hu O O O) O (Dq (E9 s) (G6 O O) O (Dq (En a) (G6 O O) O (Dq (Ej b) (Hg (f:=Slot.av) (xs:=s) (y:=b) O O O Rr m O) O (Dq (.agg (Slot.cs b)) (Gj Hu O O O) O (Dq (BL (decide (v=b))) (R48 (vs:=[.int .i64 v.G2,.int .i64 v.Tier,.int .u8 v.Half]) (us:=[.int .i64 b.G2,.int .i64 b.Tier,.int .u8 b.Half]) 4 O (Y85 v b) Q0e Qed O O O) O (Dnil (q (JCc O h (fun h hb=>?_) (fun h hb=>?_))))))))))))))))))
  ·
   refine Jr fun t=>(JLm (En a) O (JLm (En a) O (G5 (t (Gq (fin1 I64 h))))))
  ·
   refine Gr (o (G1 (JLh (I64 ((a+1:Nat):Int)) (Jg (J7 e a0) O O O) O (JLm (I64 ((a+1:Nat):Int)) O (G5 (a2 _ _ (a+1) () (app1 n h) (by omega) ⟨(.sm O O),G,rfl⟩))))))
 ·
  have h:=app1 g (Jb d (Hs hb))
  refine Jf (x (Jr fun u=>(JLm (I64 (-1)) O (G5 (u (Gq (fin1 I64 h)))))))

def Qi (s:List Slot) (v:Slot):Option Bool:=
 bnd (Yp s v) fun a=>
 some (decide (0≤a))
theorem H5b (s:List Slot) (v:Slot) (r:Bool) (h:Qi s v=some r):Pure Eo 127 [E9 s,.agg [I64 v.G2,I64 v.Tier,U8 v.Half]] (·=BL r):=by
 unfold Qi at h
 refine H0 [.tmp 4] Tryz.func127 O O (Jr fun b=>(JLh (.ptr 1175 0) (Jm (cs:=[I64 v.G2,I64 v.Tier,U8 v.Half]) 1175 O O O O O) O (JLm (BL false) O (G5 (b (Gm [(0,E9 s),(3,.dptr [I64 v.G2,I64 v.Tier,U8 v.Half])] [] 1175 rfl rfl rfl G rfl (by exact⟨.conv (.same rfl),.ptr,G⟩) (Jr fun c=>(JLm (E9 s) O (JLh (.agg [I64 v.G2,I64 v.Tier,U8 v.Half]) (Gj Hu O O O) O ?_)))))))))
 obtain⟨a,d,h⟩:=Ga h
 refine JLh (I64 a) (Gt O (Hb0 s v a d) R5a ⟨O,O,O,O,G⟩) O (JLh (BL (decide (0≤a))) (H01 O O O) O (JLm (BL (decide (0≤a))) O (G5 (c (Gq (fin1 BL h))))))

def Zg (half:Int) (b:List Slot) (a:Slot):Option Bool:=
 chk (a.Tier - 1) fun c=>
 bnd (Qi b (Slot.mk a.G2 c half)) fun d=>
 some d
theorem H48 (half:Int) (b:List Slot) (a:Slot) (r:Bool) (h:Zg half b a=some r):Pure Eo 126 [U8 half,.dptr [E9 b],.dptr [I64 a.G2,I64 a.Tier,U8 a.Half]] (·=BL r):=by
 unfold Zg at h
 refine H0 [.tmp 4] Tryz.func126 O O (Jr fun e=>(JLm (BL false) O (G5 (e (Jr fun f=>(JLh (E9 b) (Gh Gc0 O O O) O (JLh (.dptr [I64 a.G2,I64 a.Tier,U8 a.Half]) (G9 Jd O O O) O (JLh (I64 a.G2) (Gh Gc O O O) O (JLh (.dptr [I64 a.Tier,U8 a.Half]) (G9 Zf O O O) O (JLh (I64 a.Tier) (Gh Gc O O O) O ?_))))))))))
 obtain⟨c,g,h⟩:=Je h
 refine JLh (I64 c) (H4d g O O O) O (JLm (U8 half) O (JLh (.agg [I64 a.G2,I64 c,U8 half]) (Hb (cs:=[I64 a.G2,I64 c,U8 half]) [(0,1),(1,1),(2,1)] [I64 0,I64 0,U8 0] [E0,E0,.int .u8 0] Gac Gd1 (zzQ O) O O) O ?_))
 obtain⟨d,i,h⟩:=Ga h
 refine JLh (BL d) (Gt O (H5b b (Slot.mk a.G2 c half) d i) R62 ⟨O,O,O,O,G⟩) O (JLm (BL d) O (G5 (f (Gq (fin1 BL h)))))

def G25 (x:Slot) (l:List Slot):Option Bool:=
 bif decide (x.Tier≤0) then
 (some true)
 else
 (bnd (Zg x.Half l x) fun a=>
  bnd (bif ((!a)&&(decide (x.Half=0))) then Zg 1 l x else some default) fun b=>
  bnd (bif ((!a)&&((decide (x.Half=0))&&b)) then Zg 2 l x else some default) fun c=>
  some (a||(((decide (x.Half=0))&&b)&&c)))
abbrev Es (l:List Slot) (x:Slot):List AV:=[.dptr [E9 l],.dptr [I64 x.G2,I64 x.Tier,U8 x.Half]]
theorem Haf (x:Slot) (l:List Slot) (r:Bool) (h:G25 x l=some r):Pure Eo 73 [.agg [I64 x.G2,I64 x.Tier,U8 x.Half],E9 l] (·=BL r):=by
 unfold G25 at h
 refine H0 [.tmp 4] Tryz.func73 O O (Jr fun d=>(JLh (.ptr 1131 0) (Jm (cs:=[I64 x.G2,I64 x.Tier,U8 x.Half]) 1131 O O O O O) O (JLh (.ptr 1132 0) (Jm (cs:=[E9 l]) 1132 O O O O O) O (JLm (BL false) O (G5 (d (Gm [(2,.dptr [I64 x.G2,I64 x.Tier,U8 x.Half]),(3,.ptr 1132 0)] [(1132,.box 136 [E9 l])] 1131 rfl rfl rfl ⟨⟨_,rfl,.boxEq rfl rfl⟩,G⟩ rfl (by exact⟨.ptr,.conv (.same rfl),G⟩) (Gm [(2,.dptr [I64 x.G2,I64 x.Tier,U8 x.Half]),(3,.dptr [E9 l])] [] 1132 rfl rfl rfl G rfl (by exact⟨.conv (.same rfl),.ptr,G⟩) (Js fun e=>Jr fun f=>(JLh (.dptr [I64 x.Tier,U8 x.Half]) (G9 Zf O O O) O (JLh (I64 x.Tier) (Gh Gc O O O) O (JLh (BL (decide (x.Tier≤0))) (J0b O O O) O (G5 (f ?_))))))))))))))
 refine JCc O h ?_ ?_<;>intro h hb
 ·
  refine Jr fun g=>(JLm (BL true) O (G5 (g (Gq (fin1 BL h)))))
 ·
  refine Gr (e (Jr fun i=>(JLh (.fn 126 (Es l x)) (Jz (cs:=(Es l x)) O O) O (JLm (.fn 126 (Es l x)) O (G5 (i (Jr fun j=>(JLm (.fn 126 (Es l x)) O (JLh (.dptr [U8 x.Half]) (G9 Rg O O O) O (JLh (U8 x.Half) (Gh Ho O O O) O ?_))))))))))
  obtain⟨b,k,h⟩:=Ga h
  refine JLh (BL b) (G48 (args:=[U8 x.Half]) (caps:=(Es l x)) O O (H48 x.Half l x b k) J1a ⟨O,O,G⟩ O) O (JLm (BL b) O (JLo (.dptr [U8 x.Half]) [] O .scf G (fun hc=>G9 Rg O O O) O (JLo (U8 x.Half) [15] O .scf ⟨Ua,G⟩ (fun hc=>Gh Ho O O O) O (JLo (BL (decide (x.Half=0))) [16] O .scf ⟨Ua,G⟩ (fun hc=>Q0 O O O) O (JLo (BL (decide (x.Half=0))) [17] O .scf ⟨Ua,G⟩ (fun hc=>G6 O O) O (JLo (.fn 126 (Es l x)) [] O .optt G (fun hc=>G6 O O) O ?_))))))
  obtain⟨a,m,h⟩:=Ga h
  refine JLo (BL a) [19] O .optt ⟨Ua,G⟩ (fun hc=>G48 (args:=[U8 1]) (caps:=(Es l x)) O O (H48 1 l x a (H3 hc m)) J1a ⟨O,O,G⟩ O) O (Gf (u:=BL ((decide (x.Half=0))&&a)) [(18,BL (decide (x.Half=0))),(20,_)] O O O .scf ⟨.all id,.part,G⟩ (fun hc=>Ro O O O O) ?_)
  refine JLo (BL ((decide (x.Half=0))&&a)) [21] O .scf ⟨Ua,G⟩ (fun hc=>G6 O O) O (JLo (.fn 126 (Es l x)) [] O .optt G (fun hc=>G6 O O) O ?_)
  obtain⟨c,n,h⟩:=Ga h
  refine JLo (BL c) [23] O .optt ⟨Ua,G⟩ (fun hc=>G48 (args:=[U8 2]) (caps:=(Es l x)) O O (H48 2 l x c (H3 hc n)) J1a ⟨O,O,G⟩ O) O (Gf (u:=BL (((decide (x.Half=0))&&a)&&c)) [(22,BL ((decide (x.Half=0))&&a)),(24,_)] O O O .scf ⟨.all id,.part,G⟩ (fun hc=>Ro O O O O) ?_)
  refine JLh (BL (b||(((decide (x.Half=0))&&a)&&c))) (G2f O O O O) O (JLm (BL (b||(((decide (x.Half=0))&&a)&&c))) O (G5 (j (Gq (fin1 BL h)))))

def G7f (a:Int) (b:Int):Option Bool:=
 some (((decide (a=b))||(decide (a=0)))||(decide (b=0)))
theorem J02 (a:Int) (b:Int) (r:Bool) (h:G7f a b=some r):Pure Eo 128 [U8 a,U8 b] (·=BL r):=by
 unfold G7f at h
 refine H0 [.tmp 4] Tryz.func128 O O (Jr fun c=>(JLm (BL false) O (G5 (c (Jr fun d=>(JLm (U8 a) O (JLm (U8 b) O (JLh (BL (decide (a=b))) (Q0 O O O) O (JLm (BL (decide (a=b))) O (JLo (U8 a) [] O .scf G (fun hc=>G6 O O) O (JLo (BL (decide (a=0))) [9] O .scf ⟨Ua,G⟩ (fun hc=>Q0 O O O) O (JLh (BL ((decide (a=b))||(decide (a=0)))) (G2f O O O O) O (JLm (BL ((decide (a=b))||(decide (a=0)))) O (JLo (U8 b) [] O .scf G (fun hc=>G6 O O) O (JLo (BL (decide (b=0))) [13] O .scf ⟨Ua,G⟩ (fun hc=>Q0 O O O) O (JLh (BL (((decide (a=b))||(decide (a=0)))||(decide (b=0)))) (G2f O O O O) O (JLm (BL (((decide (a=b))||(decide (a=0)))||(decide (b=0)))) O (G5 (d (Gq (fin1 BL h)))))))))))))))))))))

def G9a (a:Slot) (b:Slot):Option Bool:=
 bnd (bif ((decide (a.G2=b.G2))&&(decide (a.Tier=b.Tier))) then G7f a.Half b.Half else some default) fun c=>
 some (((decide (a.G2=b.G2))&&(decide (a.Tier=b.Tier)))&&c)
theorem Hae (a:Slot) (b:Slot) (r:Bool) (h:G9a a b=some r):Pure Eo 74 [.agg [I64 a.G2,I64 a.Tier,U8 a.Half],.agg [I64 b.G2,I64 b.Tier,U8 b.Half]] (·=BL r):=by
 unfold G9a at h
 refine H0 [.tmp 4] Tryz.func74 O O (Jr fun d=>(JLh (.ptr 1133 0) (Jm (cs:=[I64 a.G2,I64 a.Tier,U8 a.Half]) 1133 O O O O O) O (JLh (.ptr 1134 0) (Jm (cs:=[I64 b.G2,I64 b.Tier,U8 b.Half]) 1134 O O O O O) O (JLm (BL false) O (G5 (d (Gm [(2,.dptr [I64 a.G2,I64 a.Tier,U8 a.Half]),(3,.ptr 1134 0)] [(1134,.box 43 [I64 b.G2,I64 b.Tier,U8 b.Half])] 1133 rfl rfl rfl ⟨⟨_,rfl,.boxEq rfl rfl⟩,G⟩ rfl (by exact⟨.ptr,.conv (.same rfl),G⟩) (Gm [(2,.dptr [I64 a.G2,I64 a.Tier,U8 a.Half]),(3,.dptr [I64 b.G2,I64 b.Tier,U8 b.Half])] [] 1134 rfl rfl rfl G rfl (by exact⟨.conv (.same rfl),.ptr,G⟩) ?_))))))))
 refine Jr fun e=>(JLh (.dptr [I64 a.G2,I64 a.Tier,U8 a.Half]) (G9 Jd O O O) O (JLh (I64 a.G2) (Gh Gc O O O) O (JLh (.dptr [I64 b.G2,I64 b.Tier,U8 b.Half]) (G9 Jd O O O) O (JLh (I64 b.G2) (Gh Gc O O O) O (JLh (BL (decide (a.G2=b.G2))) (Q0 O O O) O (JLm (BL (decide (a.G2=b.G2))) O (JLo (.dptr [I64 a.Tier,U8 a.Half]) [] O .sct G (fun hc=>G9 Zf O O O) O (JLo (I64 a.Tier) [11] O .sct ⟨Ua,G⟩ (fun hc=>Gh Gc O O O) O (JLo (.dptr [I64 b.Tier,U8 b.Half]) [] O .sct G (fun hc=>G9 Zf O O O) O (JLo (I64 b.Tier) [13] O .sct ⟨Ua,G⟩ (fun hc=>Gh Gc O O O) O (JLo (BL (decide (a.Tier=b.Tier))) [12,14] O .sct ⟨Ua,Ua,G⟩ (fun hc=>Q0 O O O) O (JLh (BL ((decide (a.G2=b.G2))&&(decide (a.Tier=b.Tier)))) (Ro O O O O) O (JLm (BL ((decide (a.G2=b.G2))&&(decide (a.Tier=b.Tier)))) O ?_)))))))))))))
 refine JLo (.dptr [U8 a.Half]) [] O .sct G (fun hc=>G9 Rg O O O) O (JLo (U8 a.Half) [18] O .sct ⟨Ua,G⟩ (fun hc=>Gh Ho O O O) O (JLo (.dptr [U8 b.Half]) [] O .sct G (fun hc=>G9 Rg O O O) O (JLo (U8 b.Half) [20] O .sct ⟨Ua,G⟩ (fun hc=>Gh Ho O O O) O ?_)))
 obtain⟨c,f,h⟩:=Ga h
 refine JLo (BL c) [19,21] O .sct ⟨Ua,Ua,G⟩ (fun hc=>Gt (args:=[U8 a.Half,U8 b.Half]) O (J02 a.Half b.Half c (H3 hc f)) Q05 ⟨O,O,O,O,G⟩) O (JLh (BL (((decide (a.G2=b.G2))&&(decide (a.Tier=b.Tier)))&&c)) (Ro O O O O) O (JLm (BL (((decide (a.G2=b.G2))&&(decide (a.Tier=b.Tier)))&&c)) O (G5 (e (Gq (fin1 BL h))))))

def Ge7 (a:Slot) (b:Slot):Option Bool:=
 bnd (bif ((decide (a.G2=b.G2))&&(decide (b.Tier < a.Tier))) then G7f a.Half b.Half else some default) fun c=>
 some (((decide (a.G2=b.G2))&&(decide (b.Tier < a.Tier)))&&c)
theorem J66 (a:Slot) (b:Slot) (r:Bool) (h:Ge7 a b=some r):Pure Eo 84 [.agg [I64 a.G2,I64 a.Tier,U8 a.Half],.agg [I64 b.G2,I64 b.Tier,U8 b.Half]] (·=BL r):=by
 unfold Ge7 at h
 refine H0 [.tmp 4] Tryz.func84 O O (Jr fun d=>(JLh (.ptr 1143 0) (Jm (cs:=[I64 a.G2,I64 a.Tier,U8 a.Half]) 1143 O O O O O) O (JLh (.ptr 1144 0) (Jm (cs:=[I64 b.G2,I64 b.Tier,U8 b.Half]) 1144 O O O O O) O (JLm (BL false) O (G5 (d (Gm [(2,.dptr [I64 a.G2,I64 a.Tier,U8 a.Half]),(3,.ptr 1144 0)] [(1144,.box 43 [I64 b.G2,I64 b.Tier,U8 b.Half])] 1143 rfl rfl rfl ⟨⟨_,rfl,.boxEq rfl rfl⟩,G⟩ rfl (by exact⟨.ptr,.conv (.same rfl),G⟩) (Gm [(2,.dptr [I64 a.G2,I64 a.Tier,U8 a.Half]),(3,.dptr [I64 b.G2,I64 b.Tier,U8 b.Half])] [] 1144 rfl rfl rfl G rfl (by exact⟨.conv (.same rfl),.ptr,G⟩) ?_))))))))
 refine Jr fun e=>(JLh (.dptr [I64 a.G2,I64 a.Tier,U8 a.Half]) (G9 Jd O O O) O (JLh (I64 a.G2) (Gh Gc O O O) O (JLh (.dptr [I64 b.G2,I64 b.Tier,U8 b.Half]) (G9 Jd O O O) O (JLh (I64 b.G2) (Gh Gc O O O) O (JLh (BL (decide (a.G2=b.G2))) (Q0 O O O) O (JLm (BL (decide (a.G2=b.G2))) O (JLo (.dptr [I64 a.Tier,U8 a.Half]) [] O .sct G (fun hc=>G9 Zf O O O) O (JLo (I64 a.Tier) [11] O .sct ⟨Ua,G⟩ (fun hc=>Gh Gc O O O) O (JLo (.dptr [I64 b.Tier,U8 b.Half]) [] O .sct G (fun hc=>G9 Zf O O O) O (JLo (I64 b.Tier) [13] O .sct ⟨Ua,G⟩ (fun hc=>Gh Gc O O O) O (JLo (BL (decide (b.Tier < a.Tier))) [12,14] O .sct ⟨Ua,Ua,G⟩ (fun hc=>Gbe O O O) O (JLh (BL ((decide (a.G2=b.G2))&&(decide (b.Tier < a.Tier)))) (Ro O O O O) O (JLm (BL ((decide (a.G2=b.G2))&&(decide (b.Tier < a.Tier)))) O ?_)))))))))))))
 refine JLo (.dptr [U8 a.Half]) [] O .sct G (fun hc=>G9 Rg O O O) O (JLo (U8 a.Half) [18] O .sct ⟨Ua,G⟩ (fun hc=>Gh Ho O O O) O (JLo (.dptr [U8 b.Half]) [] O .sct G (fun hc=>G9 Rg O O O) O (JLo (U8 b.Half) [20] O .sct ⟨Ua,G⟩ (fun hc=>Gh Ho O O O) O ?_)))
 obtain⟨c,f,h⟩:=Ga h
 refine JLo (BL c) [19,21] O .sct ⟨Ua,Ua,G⟩ (fun hc=>Gt (args:=[U8 a.Half,U8 b.Half]) O (J02 a.Half b.Half c (H3 hc f)) Q05 ⟨O,O,O,O,G⟩) O (JLh (BL (((decide (a.G2=b.G2))&&(decide (b.Tier < a.Tier)))&&c)) (Ro O O O O) O (JLm (BL (((decide (a.G2=b.G2))&&(decide (b.Tier < a.Tier)))&&c)) O (G5 (e (Gq (fin1 BL h))))))
end
end Go.Proofs.YtidpfkmbfgihlaaGreat
