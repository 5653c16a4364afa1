/- Walks of functions. -/
import Derived.Test.YtmfhaflabpnaoaaGreatXC
set_option maxRecDepth 100000
set_option maxHeartbeats 1000000
set_option linter.unusedVariables false
set_option linter.unusedSimpArgs false
namespace Go.Proofs.YtmfhaflabpnaoaaGreat
open Go.RowKit
noncomputable section
structure Box where
 ID:Int
 Number:ByteArray
 Size:Int
 High:Bool
 Kilos:Int
 Load:Int
 Discharge:Int
 Class:Int
 Reefer:Bool
 deriving DecidableEq,Inhabited
def Box.cs (x:Box):List AV:=[I64 x.ID,ST x.Number,U8 x.Size,BL x.High,I64 x.Kilos,I64 x.Load,I64 x.Discharge,U8 x.Class,BL x.Reefer]
def Box.av (x:Box):AV:=.agg x.cs
abbrev Eg (x:Box):AV:=.dptr (Box.cs x)
abbrev E8:=LS 9 Box.av
def Slot.ks (x:Slot):List Value:=[.int .i64 x.G1,.int .i64 x.Tier,.int .u8 x.Half]
def Slot.kv (x:Slot):Value:=.agg x.ks.toArray
structure Gh where
 ship:G6
 on:Gv Slot Box
 quay:Gv Int Box
 open_:Gv Int Int
 lifts:Int
 deriving Inhabited
def Gh.cs (x:Gh):List AV:=[E3 x.ship.Columns,E7 x.ship.Covers,I64 x.ship.Light.Kilos,I64 x.ship.Light.X,I64 x.ship.Light.Y,I64 x.ship.Light.Z,E4 x.ship.Rows,E5 x.ship.Frames,E6 x.ship.Tanks,I64 x.ship.G5.Tolerance,I64 x.ship.G5.Trim,I64 x.ship.G5.List_,I64 x.ship.G5.Stability,DM Slot.kv Box.av x.on,DM Kn Box.av x.quay,DM Kn I64 x.open_,I64 x.lifts]
abbrev Ed (x:Gh):AV:=.dptr (Gh.cs x)
structure J6 where
 f:FuncId
 c:List AV
 val:Option Bool
 bad:Int
 B:H9 Ek f=true
 d:Qs (fun _=>false) c=true
 w:∀ q,val=some q→Pure Ek f ([]++c) (·=BL q)
def J6.cs (x:J6):List AV:=[.fn x.f x.c,I64 x.bad]
def J6.av (x:J6):AV:=.agg x.cs
def Gf9:List (Option Bool×Int)→Option Int
 | []=>some 0
 | (v,b)::r=>v.bind fun q=>bif q then Gf9 r else some b
namespace XSF
open XAF
open XLF
open XCF
theorem Qd3 (a b:Slot):J03 Ek 4 50 [.int .i64 a.G1,.int .i64 a.Tier,.int .u8 a.Half] [.int .i64 b.G1,.int .i64 b.Tier,.int .u8 b.Half]=some (decide (a=b)):=by
 refine(show _=some ((a.G1==b.G1)&&((a.Tier==b.Tier)&&((a.Half==b.Half)&&true))) by kernel_rfl).trans (congrArg some ?_)
 rw [Bool.eq_iff_iff]
 simp only [Me,beq_iff_eq,Mf,Bool.and_true]
 constructor
 ·intro h; obtain⟨_,_,_⟩:=a; obtain⟨_,_,_⟩:=b; simp_all
 ·intro h; subst h; simp
theorem Q0e:H10 Ek 123 2=true:=by kernel_rfl
theorem Jm:H10 Ek 32 13=true:=by kernel_rfl
theorem Hx:H10 Ek 50 3=true:=by kernel_rfl
theorem Yf:H10 Ek 84 9=true:=by kernel_rfl
theorem H52:G3c Ek 50=true:=by kernel_rfl
theorem Hed:Jb7 Ek 4=true:=by kernel_rfl
theorem Qf1:H9 Ek 100=true:=by kernel_rfl
theorem Qf0:H9 Ek 101=true:=by kernel_rfl
theorem Qef:H9 Ek 102=true:=by kernel_rfl
theorem Hd1:H9 Ek 103=true:=by kernel_rfl
theorem Qee:H9 Ek 104=true:=by kernel_rfl
theorem J9b:H9 Ek 105=true:=by kernel_rfl
theorem Qe9:H9 Ek 116=true:=by kernel_rfl
theorem Qe8:H9 Ek 117=true:=by kernel_rfl
theorem Qe7:H9 Ek 118=true:=by kernel_rfl
theorem J96:H9 Ek 122=true:=by kernel_rfl
theorem Qe4:H9 Ek 136=true:=by kernel_rfl
theorem Qe3:H9 Ek 137=true:=by kernel_rfl
theorem Qe0:H9 Ek 140=true:=by kernel_rfl
theorem Qdf:H9 Ek 141=true:=by kernel_rfl
theorem G5b:H9 Ek 40=true:=by kernel_rfl
theorem J1d:H9 Ek 53=true:=by kernel_rfl
theorem Jef:H9 Ek 74=true:=by kernel_rfl
theorem R34:H9 Ek 99=true:=by kernel_rfl
theorem Hec:Ek.eqGuardType Ek.depth 50=false:=by kernel_rfl
theorem Je5:Jz Ek 123 0 0=true:=by kernel_rfl
theorem Je4:Jz Ek 123 1 1=true:=by kernel_rfl
theorem Hu:Jz Ek 50 0 0=true:=by kernel_rfl
theorem Qm:Jz Ek 50 1 1=true:=by kernel_rfl
theorem Je:Jz Ek 50 2 2=true:=by kernel_rfl
theorem Rb:Jz Ek 79 0 0=true:=by kernel_rfl
theorem Y3:Jz Ek 79 1 13=true:=by kernel_rfl
theorem G6f:Jz Ek 79 3 15=true:=by kernel_rfl
theorem Ga5:Jz Ek 79 4 16=true:=by kernel_rfl
theorem G6e:Jz Ek 84 0 0=true:=by kernel_rfl
theorem Ym:Jz Ek 84 2 2=true:=by kernel_rfl
theorem H63:Jz Ek 84 3 3=true:=by kernel_rfl
theorem R33:Ra8 Ek 75=true:=by kernel_rfl
theorem G4e:Zc Ek 75 50 84=true:=by kernel_rfl
theorem H2c:Zc Ek 77 3 3=true:=by kernel_rfl
theorem Zt:placesOf Ek 123=some [(0,1),(1,1)]:=by kernel_rfl
theorem H21:placesOf Ek 50=some [(0,1),(1,1),(2,1)]:=by kernel_rfl
theorem Gd0:placesOf Ek 84=some [(0,1),(1,1),(2,1),(3,1),(4,1),(5,1),(6,1),(7,1),(8,1)]:=by kernel_rfl
theorem Q71:Rda Ek 40=true:=by kernel_rfl
theorem H62:Rm Ek 106=true:=by kernel_rfl
theorem Qa7:Rm Ek 38=true:=by kernel_rfl
theorem H96:Rm Ek 41=true:=by kernel_rfl
theorem Hm:Rm Ek 5=true:=by kernel_rfl
theorem Y5:Rm Ek 75=true:=by kernel_rfl
theorem G59:Rm Ek 77=true:=by kernel_rfl
theorem J93:Zh Ek 123 2=true:=by kernel_rfl
theorem G7b:Zh Ek 50 3=true:=by kernel_rfl
theorem Rk:Zh Ek 84 9=true:=by kernel_rfl
theorem Rj:sliceB Ek 106 50 3=true:=by kernel_rfl
theorem Gcf:sliceB Ek 154 123 2=true:=by kernel_rfl
theorem G57:sliceB Ek 33 84 9=true:=by kernel_rfl
theorem G1a:(Ek.info? 123).bind (fun i=>i.zero.map Value.cells)=some (List.toArray [.nilFunc,E0]):=by kernel_rfl
theorem H31:(Ek.info? 50).bind (fun i=>i.zero.map Value.cells)=some (List.toArray [E0,E0,.int .u8 0]):=by kernel_rfl
theorem G7a:(Ek.info? 84).bind (fun i=>i.zero.map Value.cells)=some (List.toArray [E0,.string ByteArray.empty,.int .u8 0,.bool false,E0,E0,E0,.int .u8 0,.bool false]):=by kernel_rfl
theorem H1e:Yb Ek 123 2=true:=by kernel_rfl
theorem Yr:Yb Ek 3 1=true:=by kernel_rfl
theorem G19:Yb Ek 50 3=true:=by kernel_rfl
theorem Y1:Yb Ek 84 9=true:=by kernel_rfl
theorem Jdc:Gc2 Ek 3 Kn:=Gc2.of_int (by kernel_rfl)
theorem Q70:Gc2 Ek 50 Slot.kv:=Gc2.of_eq Slot.ks (by kernel_rfl) (fun a b h=>by simp only [Slot.ks,List.cons.injEq,Value.int.injEq,Value.bool.injEq,Value.string.injEq,true_and,and_true] at h; obtain⟨_,_,_⟩:=a; obtain⟨_,_,_⟩:=b; simp_all) 4 (by decide) (fun a b=>Qd3 a b) (fun a=>by kernel_rfl) (fun a=>by simp [Instr.sameBits,Slot.ks])
end XSF
open XAF
open XLF
open XCF
open XSF

def Gaf (b:Box) (a:Int):Option Bool:=
 some (decide (b.ID=a))
theorem Jbe (b:Box) (a:Int) (r:Bool) (h:Gaf b a=some r):Pure Ek 100 [.agg (Box.cs b),.dptr [I64 a]] (·=BL r):=by
 unfold Gaf at h
 refine H3 [.tmp 3] Tryz.func100 O O (Jr fun c=>(JLh (.ptr 1128 0) (Ju (cs:=(Box.cs b)) 1128 O O O O O) O (JLm (BL false) O (G8 (c (Gu [(1,.dptr [I64 a]),(2,Eg b)] [] 1128 rfl rfl rfl G rfl (by exact⟨.conv (.same rfl),.ptr,G⟩) (Jr fun d=>(JLh (Eg b) (Gb G6e O O O) O (JLh (I64 b.ID) (Ge Gd O O O) O (JLh (I64 a) (Ge Gd O O O) O (JLh (BL (decide (b.ID=a))) (Jk O O O) O (JLm (BL (decide (b.ID=a))) O (G8 (d (Gs (fin1 BL h))))))))))))))))

def Zg (s:List Box) (f:Box→Option Bool):Option Int:=
 each (fun b c (d:Unit) a=>
  bnd (f b) fun e=>
  bif e then
  (some (c:Int))
  else
  (a ()))
 (fun(d:Unit)=>
  some (-1)) s 0 ()
theorem H27 (s:List Box) (f:Box→Option Bool) (f_f:FuncId) (f_c:List AV) (f_B:H9 Ek f_f=true) (f_d:Qs (fun _=>false) f_c=true) (f_w:∀ a0 q,f a0=some q→Pure Ek f_f ([.agg (Box.cs a0)]++f_c) (·=BL q)) (r:Int) (h:Zg s f=some r):Pure Ek 99 [E8 s,.fn f_f f_c] (·=I64 r):=by
 unfold Zg at h
 refine H3 [.tmp 4] Tryz.func99 O O (Jr fun x=>(JLm (I64 0) O (G8 (x (Js fun z=>Jr fun a1=>(JLm (E8 s) O (JLl G57 O O O fun a2=>(JLm (I64 0) O (G8 (a1 (Gx ?_)))))))))))
 obtain⟨a3,i,j,g,h⟩:=Jf h
 refine Hs (fun a (c:Unit)=>each a3 i (List.drop a s) a c=some r) (fun a c=>[(0,E8 s),(1,.fn f_f f_c),(7,Ej s.length),(8,Ej a)]) (fun a c=>[]) (fun a=>s.length - a) 0 () h ⟨⟨.same O,.same (Q7 _ _ f_d),.same O,.same O,G⟩,G,O⟩ ?_
 clear h
 intro a c d a7 a4
 refine Jr fun k=>(JLh (BL (decide ((a:Int) < (s.length:Int)))) (Jq O O O) O (G8 (k (Js fun l=>Gp O (fun hb=>?_) (fun hb=>?_)))))
 ·
  have e:=Q4 hb
  obtain⟨b,a6,m,n,h⟩:=Hz d e
  replace h:=Zi j h
  refine Gn (l (Js fun o=>Gx (Jr fun p=>(JLm (Ej a) O (JLm (Ej a) O (G8 (p (Jr fun t=>(JLm (.fn f_f f_c) O (JLm (E8 s) O (JLm (Ej a) O (JLh (Eg b) (H0 (f:=Box.av) (xs:=s) (y:=b) O O O G57 m O) O (JLh (.agg (Box.cs b)) (Gt Yf O O O) O ?_)))))))))))))
  obtain⟨a5,u,h⟩:=Gj h
  refine JLh (BL a5) (G56 (args:=[.agg (Box.cs b)]) (caps:=f_c) O O (f_w b _ u) f_B ⟨O,O,G⟩ f_d) O (G8 (t (JCc O h (fun h hb=>?_) (fun h hb=>?_))))
  ·
   refine Jr fun v=>(JLm (Ej a) O (JLm (Ej a) O (G8 (v (Gs (fin1 I64 h))))))
  ·
   refine Gn (o (G2 (JLh (I64 ((a+1:Nat):Int)) (Jo (Hw e a2) O O O) O (JLm (I64 ((a+1:Nat):Int)) O (G8 (a4 _ _ (a+1) () (app1 n h) (by omega) ⟨⟨.same rfl,.same (Q7 _ _ f_d),.same rfl,.same rfl,G⟩,G,rfl⟩))))))
 ·
  have h:=app1 g (J0 d (Hd hb))
  refine Hy (z (Jr fun w=>(JLm (I64 (-1)) O (G8 (w (Gs (fin1 I64 h)))))))

def G84 (boxes:List Box) (id_:Int):Option (Box×Bool):=
 bnd (Zg boxes (fun z0=>Gaf z0 id_)) fun a=>
 bif decide (a < 0) then
 (some ((Box.mk 0 ByteArray.empty 0 false 0 0 0 0 false),false))
 else
 (Qr boxes a fun b=>
  some (b,true))
theorem H71 (boxes:List Box) (id_:Int) (r:Box×Bool) (h:G84 boxes id_=some r):Pure Ek 53 [E8 boxes,I64 id_] (·=.tup [.agg (Box.cs r.1),BL r.2]):=by
 unfold G84 at h
 refine H3 [.cell 4 84,.tmp 5] Tryz.func53 O O (Jr fun c=>(JLh (.ptr 1082 0) (Ju (cs:=[I64 id_]) 1082 O O O O O) O (JLh (.ptr 1083 0) (G8f 1083 [I64 0,ST Kv,U8 0,BL false,I64 0,I64 0,I64 0,U8 0,BL false] [E0,.string ByteArray.empty,.int .u8 0,.bool false,E0,E0,E0,.int .u8 0,.bool false] G7a (zzQ O) O O) O (JLm (BL false) O (G8 (c (Gu [(0,E8 boxes),(3,.dptr [I64 id_]),(4,.ptr 1083 0)] [(1083,.box 84 [I64 0,ST Kv,U8 0,BL false,I64 0,I64 0,I64 0,U8 0,BL false])] 1082 rfl rfl rfl ⟨⟨_,rfl,.boxEq rfl rfl⟩,G⟩ rfl (by exact⟨.conv (.same rfl),.ptr,.conv (.same rfl),G⟩) ?_)))))))
 refine Jr fun d=>(JLm (E8 boxes) O (JLh (.fn 100 [.dptr [I64 id_]]) (R0 (cs:=[.dptr [I64 id_]]) O O) O ?_))
 obtain⟨a,e,h⟩:=Gj h
 refine JLh (I64 a) (Gw O (H27 boxes (fun z0=>Gaf z0 id_) 100 [.dptr [I64 id_]] Qf1 O (fun z0 q hq=>Jbe z0 id_ q hq) a e) R34 ⟨O,O,O,O,G⟩) O (JLm (I64 a) O (G8 (d (Js fun g=>Jr fun i=>(JLm (I64 a) O (JLh (BL (decide (a < 0))) (Jq O O O) O (G8 (i (JCc O h (fun h hb=>?_) (fun h hb=>?_))))))))))
 ·
  refine Jr fun j=>(JLh (.agg [I64 0,ST Kv,U8 0,BL false,I64 0,I64 0,I64 0,U8 0,BL false]) (Hj (cs:=[I64 0,ST Kv,U8 0,BL false,I64 0,I64 0,I64 0,U8 0,BL false]) [(0,1),(1,1),(2,1),(3,1),(4,1),(5,1),(6,1),(7,1),(8,1)] [I64 0,ST Kv,U8 0,BL false,I64 0,I64 0,I64 0,U8 0,BL false] [E0,.string ByteArray.empty,.int .u8 0,.bool false,E0,E0,E0,.int .u8 0,.bool false] Gd0 G7a (zzQ O) O O) O (J9 (u:=.junk) (He (u:=.agg [I64 0,ST Kv,U8 0,BL false,I64 0,I64 0,I64 0,U8 0,BL false]) (ds:=[I64 0,ST Kv,U8 0,BL false,I64 0,I64 0,I64 0,U8 0,BL false]) Rk O O O O O O O O) (JLm (BL false) O (G8 (j ?_)))))
  refine Gs (⟨[.agg [I64 0,ST Kv,U8 0,BL false,I64 0,I64 0,I64 0,U8 0,BL false],BL false],[],G,O,⟨⟨_,⟨_,_,_,_,O,O,O,.inl ⟨Yf,O⟩⟩,.conv (.same O)⟩,⟨_,O,.conv (.same O)⟩,G⟩,O,congrArg (fun r:Box×Bool=>(.tup [.agg (Box.cs r.1),BL r.2]:AV)) (M2 h)⟩)
 ·
  refine Gn (g (Jr fun k=>(JLm (E8 boxes) O (JLm (I64 a) O ?_))))
  obtain⟨n,b,l,m,h⟩:=Rr h
  refine JLh (Eg b) (H0 (f:=Box.av) (xs:=boxes) (y:=b) O O O G57 m l) O (JLh (.agg (Box.cs b)) (Gt Yf O O O) O (J9 (u:=.junk) (He (u:=.agg (Box.cs b)) (ds:=(Box.cs b)) Rk O O O O O O O O) (JLm (BL true) O (G8 (k (Gs (⟨[.agg (Box.cs b),BL true],[],G,O,⟨⟨_,⟨_,_,_,_,O,O,O,.inl ⟨Yf,O⟩⟩,.conv (.same O)⟩,⟨_,O,.conv (.same O)⟩,G⟩,O,congrArg (fun r:Box×Bool=>(.tup [.agg (Box.cs r.1),BL r.2]:AV)) (M2 h)⟩)))))))

def G2a (boxes:List Box) (id_:Int):Option (Box×Bool):=
 bnd (G84 boxes id_) fun a=>
 some (a.1,(a.2&&((decide (a.1.Size=20))||(decide (a.1.Size=40)))))
theorem H29 (boxes:List Box) (id_:Int) (r:Box×Bool) (h:G2a boxes id_=some r):Pure Ek 27 [E8 boxes,I64 id_] (·=.tup [.agg (Box.cs r.1),BL r.2]):=by
 unfold G2a at h
 refine H3 [.cell 4 84,.tmp 5] Tryz.func27 O O (Jr fun b=>(JLh (.ptr 1039 0) (G8f 1039 [I64 0,ST Kv,U8 0,BL false,I64 0,I64 0,I64 0,U8 0,BL false] [E0,.string ByteArray.empty,.int .u8 0,.bool false,E0,E0,E0,.int .u8 0,.bool false] G7a (zzQ O) O O) O (JLm (BL false) O (G8 (b (Jr fun c=>(JLm (E8 boxes) O (JLm (I64 id_) O ?_))))))))
 obtain⟨a,d,h⟩:=Gj h
 refine JLh (.tup [.agg (Box.cs a.1),BL a.2]) (Gw O (H71 boxes id_ a d) J1d ⟨O,O,O,O,G⟩) O (JLm (.tup [.agg (Box.cs a.1),BL a.2]) O (JLh (.agg (Box.cs a.1)) (H4 O O O) O (JLh (BL a.2) (H4 O O O) O (JLh (.ptr 1040 0) (Jn 1040 9 Y1 O O) O (J9 (u:=.junk) (He (u:=.agg (Box.cs a.1)) (ds:=(Box.cs a.1)) Rk O O O O O O O O) (JLm (BL a.2) O (G8 (c (Gu [(4,.ptr 1039 0),(6,Eg a.1),(7,BL a.2)] [(1039,.box 84 [I64 0,ST Kv,U8 0,BL false,I64 0,I64 0,I64 0,U8 0,BL false])] 1040 rfl rfl rfl ⟨⟨_,rfl,.boxEq rfl rfl⟩,G⟩ rfl (by exact⟨.conv (.same rfl),.ptr,.conv (.same rfl),G⟩) ?_)))))))))
 refine Js fun e=>Qw (l':=[(4,.ptr 1039 0),(6,Eg a.1),(7,BL a.2)]) (L':=[(1039,.box 84 [I64 0,ST Kv,U8 0,BL false,I64 0,I64 0,I64 0,U8 0,BL false])]) ⟨(.sm O O),⟨fbQ O (.sm O O),G⟩,rfl⟩ (J4 [12] [0,0,0,0,0,0,0,0,0,0,0,0,0,1] [0,0,0,0,0,0,0,1,1,1,1,1,0,1] [[(1039,.box 84 [I64 0,ST Kv,U8 0,BL false,I64 0,I64 0,I64 0,U8 0,BL false])],((1039,.box 84 (Box.cs a.1))::[(1039,.box 84 [I64 0,ST Kv,U8 0,BL false,I64 0,I64 0,I64 0,U8 0,BL false])])] Ho (by kernel_rfl) rfl rfl ?_)
 refine Gc (u:=.agg (Box.cs a.1)) O O ⟨Gi (Gt Yf O O O) O,G⟩ (Gc (u:=BL a.2) O O ⟨Gi (G7 O O) O,G⟩ (Gc (u:=BL a.2) O O ⟨Gi (G7 O O) O,G⟩ (Gc (u:=.opt a.2 (.dptr ((Box.cs a.1).drop 2))) O O ⟨Gk [] O O O .sct G (fun hc=>Gb Ym O O O) O,G⟩ (Gc (u:=.opt a.2 (U8 a.1.Size)) O O ⟨Gk [(17,.dptr ((Box.cs a.1).drop 2))] O O O .sct ⟨.all id,G⟩ (fun hc=>Ge Hm O O O) O,G⟩ (Gc (u:=.opt a.2 (BL (decide (a.1.Size=20)))) O O ⟨Gk [(18,U8 a.1.Size)] O O O .sct ⟨.all id,G⟩ (fun hc=>Jk O O O) O,G⟩ (Gc (u:=.opt a.2 (BL (decide (a.1.Size=20)))) O O ⟨Gk [(19,BL (decide (a.1.Size=20)))] O O O .sct ⟨.all id,G⟩ (fun hc=>G7 O O) O,G⟩ (Gc (u:=.opt (a.2&&!(decide (a.1.Size=20))) (.dptr ((Box.cs a.1).drop 2))) O O ⟨Gk [] O O O .optf G (fun hc=>Gb Ym O O O) O,Gk [] O O O .optf G (fun hc=>Gb Ym O O O) O,G⟩ (Gc (u:=.opt (a.2&&!(decide (a.1.Size=20))) (U8 a.1.Size)) O O ⟨Gk [(21,.dptr ((Box.cs a.1).drop 2))] O O O .optf ⟨.all id,G⟩ (fun hc=>Ge Hm O O O) O,Gk [(21,.dptr ((Box.cs a.1).drop 2))] O O O .optf ⟨.all id,G⟩ (fun hc=>Ge Hm O O O) O,G⟩ (Gc (u:=.opt (a.2&&!(decide (a.1.Size=20))) (BL (decide (a.1.Size=40)))) O O ⟨Gk [(22,U8 a.1.Size)] O O O .optf ⟨.all id,G⟩ (fun hc=>Jk O O O) O,Gk [(22,U8 a.1.Size)] O O O .optf ⟨.all id,G⟩ (fun hc=>Jk O O O) O,G⟩ (Gc (u:=.opt a.2 (BL ((decide (a.1.Size=20))||(decide (a.1.Size=40))))) O O ⟨Gk [(20,BL (decide (a.1.Size=20))),(23,_)] O O O .sct ⟨.all id,.part,G⟩ (fun hc=>Ya O O O O) O,Gk [(20,BL (decide (a.1.Size=20))),(23,_)] O O O .sct ⟨.all id,.part,G⟩ (fun hc=>Ya O O O O) O,G⟩ (Gc (u:=BL (a.2&&((decide (a.1.Size=20))||(decide (a.1.Size=40))))) O O ⟨Gi (Jv O O O O) O,Gi (Jv O O O O) O,G⟩ (Gf2 (u:=.junk) O O O O (Gi (He (u:=.agg (Box.cs a.1)) (ds:=(Box.cs a.1)) Rk O O O O O O O O) O) (Gc (u:=BL (a.2&&((decide (a.1.Size=20))||(decide (a.1.Size=40))))) O O ⟨Gi (G9 O O) O,G⟩ (Qp ?_))))))))))))))
 refine e (Gs (⟨[.agg (Box.cs a.1),BL (a.2&&((decide (a.1.Size=20))||(decide (a.1.Size=40))))],[],G,O,⟨⟨_,⟨_,_,_,_,O,O,O,.inl ⟨Yf,O⟩⟩,.conv (.same O)⟩,⟨_,O,.conv (.same O)⟩,G⟩,O,congrArg (fun r:Box×Bool=>(.tup [.agg (Box.cs r.1),BL r.2]:AV)) (M2 h)⟩))

def Hc1 (m:Gh):Option Bool:=
 some true
theorem Ry (m:Gh) (r:Bool) (h:Hc1 m=some r):Pure Ek 40 [.dptr (Gh.cs m)] (·=BL r):=by
 unfold Hc1 at h
 refine H3 [.tmp 2] Tryz.func40 O O (Jr fun a=>(JLm (BL false) O (G8 (a ?_))))
 refine Jr fun c=>(JLm (Ed m) O (JLh (BL true) (Y3d Q71 O O) O (JLm (BL true) O (JLo (Ed m) [] O .sct G (fun hc=>G7 O O) O (JLo (Ed m) [6] O .sct ⟨Ua,G⟩ (fun hc=>G61 O O) O (JLo (.dptr [DM Slot.kv Box.av m.on,DM Kn Box.av m.quay,DM Kn I64 m.open_,I64 m.lifts]) [7] O .sct ⟨Ua,G⟩ (fun hc=>Gb Y3 O O O) O (JLo (DM Slot.kv Box.av m.on) [8] O .sct ⟨Ua,G⟩ (fun hc=>Ge Y5 O O O) O (JLo (BL true) [9] O .sct ⟨Ua,G⟩ (fun hc=>Y3c R33 O O) O (JLh (BL true) (Jv (b:=true) (d:=true) O O O O) O (JLm (BL true) O (G8 (c ?_))))))))))))
 refine Gs (fin1 BL h)

def Gfb (m:Gh) (is:Slot→Option Bool) (Rp:Bool→Prop):Option Prop:=
 Hbc (fun(b:Slot×Box) (c:Unit) a=>
  bnd (is b.1) fun d=>
  bif d then
  (lft (some (Rp true)))
  else
  (a ()))
 (fun(c:Unit)=>
  some (Rp false)) (Gv.Hc m.on) ()
theorem Jc3 (m:Gh) (is:Slot→Option Bool) (is_f:FuncId) (is_c:List AV) (is_B:H9 Ek is_f=true) (is_d:Qs (fun _=>false) is_c=true) (is_w:∀ a0 q,is a0=some q→Pure Ek is_f ([.agg [I64 a0.G1,I64 a0.Tier,U8 a0.Half]]++is_c) (·=BL q)) (Rp:Bool→Prop) (p:Prop) (h:Gfb m is Rp=some p) (hp:p):Pure Ek 72 [.dptr (Gh.cs m),.fn is_f is_c] (fun av=>∃ r,Rp r∧av=BL r):=by
 unfold Gfb at h
 refine H3 [.tmp 4] Tryz.func72 O O (Jr fun a3=>(JLm (BL false) O (G8 (a3 (Js fun a4=>Jr fun a5=>(JLm (Ed m) O (JLh (Ed m) (G61 O O) O (JLh (.dptr ((Gh.cs m).drop 13)) (Gb Y3 O O O) O (JLh (DM Slot.kv Box.av m.on) (Ge Y5 O O O) O (JLh (.it 1106) (H4a 1106 (kv:=Slot.kv) (av:=Box.av) (m:=m.on) O O .data O G4e) O (G8 (a5 (Gx ?_)))))))))))))
 obtain⟨a6,s,t,o,h⟩:=H05 h
 refine He7 (m.on.l.length) (fun b (d:Unit)=>Gb5 a6 s (Gv.l m.on) b d) (fun b d=>[(1,.fn is_f is_c),(10,.it 1106)]) (fun b d=>[(1106,.iter (DM Slot.kv Box.av m.on) m.on.l.length b)]) () (Gb5.start h hp) ⟨⟨.same (Q7 _ _ is_d),.same O,G⟩,⟨⟨_,O,.iter O⟩,G⟩,O⟩ ?_
 clear h hp
 intro b d f b0 a7
 refine Jr fun g=>G18 O O O (Hb8 (kv:=Slot.kv) (av:=Box.av) (m:=m.on) (fun _=>O) O O O .data) ?_
 intro u_ L_ hn_
 rcases hn_ with ⟨i,a,c,j,rfl,rfl⟩ | ⟨v,rfl,rfl⟩
 ·
  obtain⟨b1,h,k,n⟩:=f.step c j
  replace h:=Jbd t h
  refine JLh (BL true) (H4 O O O) O (G8 (g (Js fun w=>He8 O (Gn (w (Gx (Jr fun x=>(JLh (.tup [.agg (Slot.cs a.1),.agg (Box.cs a.2)]) (J34 (kv:=Slot.kv) (av:=Box.av) (m:=m.on) (q:=i) (seen:=b) (e:=a) (fun _=>O) O O O .data c) O (JLh (.agg (Slot.cs a.1)) (H4 O O O) O (JLh (.ptr 1105 0) (Jn 1105 3 G19 O O) O (J9 (u:=.junk) (He (u:=.agg (Slot.cs a.1)) (ds:=[I64 a.1.G1,I64 a.1.Tier,U8 a.1.Half]) G7b O O O O O O O O) (G8 (x (Gu [(1,.fn is_f is_c),(5,Ei a.1),(10,.it 1106)] [(1106,.iter (DM Slot.kv Box.av m.on) m.on.l.length (b++[i]))] 1105 rfl rfl rfl ⟨⟨_,rfl,.iter rfl⟩,G⟩ rfl (by exact⟨.conv (.same (Q7 _ _ is_d)),.ptr,.conv (.same rfl),G⟩) ?_))))))))))))))
  refine Jr fun y=>(JLm (.fn is_f is_c) O (JLh (.agg (Slot.cs a.1)) (Gt Hx O O O) O ?_))
  obtain⟨a8,z,h⟩:=Gj h
  refine JLh (BL a8) (G56 (args:=[.agg (Slot.cs a.1)]) (caps:=is_c) O O (is_w a.1 _ z) is_B ⟨O,O,G⟩ is_d) O (G8 (y (JCc O h (fun h hb=>?_) (fun h hb=>?_))))
  ·
   refine Jr fun a1=>(JLm (BL true) O (G8 (a1 (Gs ?_))))
   obtain⟨y_,hy_,hl_⟩:=Rab h
   exact⟨[BL true],[],G,O,⟨⟨_,O,.conv (.same O)⟩,G⟩,O,true,Eq.mpr (M2 hl_) (k y_ hy_),O⟩
  ·
   refine Gn (a7 _ _ (b++[i]) () (n _ (M2 h).symm) (G90 (M0 c).1 j) ⟨⟨.same (Q7 _ _ is_d),.same O,G⟩,⟨⟨_,O,.iter O⟩,G⟩,O⟩)
 ·
  obtain⟨p_,h,hp⟩:=f.done v
  replace h:=app1 o h
  refine JLh (BL false) (H4 O O O) O (G8 (g (Js fun a9=>G42 O (Hy (a4 (Jr fun a2=>(JLm (BL false) O (G8 (a2 (Gs (⟨[BL false],[],G,O,⟨⟨_,O,.conv (.same O)⟩,G⟩,O,false,Eq.mpr (M2 h) hp,O⟩)))))))))))
theorem Jc4 (S_:(Gh)→(Slot→Option Bool)→Option Bool) (hS_:∀ m is r,S_ m is=some r→∃ p:Prop,Gfb m is (fun r_=>r_=r)=some p∧p) (m:Gh) (is:Slot→Option Bool) (is_f:FuncId) (is_c:List AV) (is_B:H9 Ek is_f=true) (is_d:Qs (fun _=>false) is_c=true) (is_w:∀ a0 q,is a0=some q→Pure Ek is_f ([.agg [I64 a0.G1,I64 a0.Tier,U8 a0.Half]]++is_c) (·=BL q)) (r:Bool) (h:S_ m is=some r):Pure Ek 72 [.dptr (Gh.cs m),.fn is_f is_c] (·=BL r):=by
 obtain⟨p,a,b⟩:=hS_ m is r h
 exact(Jc3 m is is_f is_c is_B is_d is_w _ p a b).monoP (fun av hh=>by obtain⟨r_,rfl,ha⟩:=hh; exact ha)

def G6a (r_:Int) (a:G1):Option Bool:=
 some (decide (r_=a.Row))
theorem J61 (r_:Int) (a:G1) (r:Bool) (h:G6a r_ a=some r):Pure Ek 141 [I64 r_,Eh a] (·=BL r):=by
 unfold G6a at h
 refine H3 [.tmp 3] Tryz.func141 O O (Jr fun b=>(JLm (BL false) O (G8 (b (Jr fun c=>(JLm (I64 r_) O (JLh (.dptr ((G1.cs a).drop 1)) (Gb G45 O O O) O (JLh (I64 a.Row) (Ge Gd O O O) O (JLh (BL (decide (r_=a.Row))) (Jk O O O) O (JLm (BL (decide (r_=a.Row))) O (G8 (c (Gs (fin1 BL h))))))))))))))

def G40 (l:List Int) (wanted:Int→Option Bool):Option (List Int):=
 each (fun e b (a:(List Int)) d=>
  jp (fun c=>
   bnd (wanted e) fun f=>
   bif f then
   (need (decide ((a.length+[(b:Int)].length)*8≤140737488355328∧a.length+[(b:Int)].length≤maxLen)) <|
    c (a++[(b:Int)]))
   else
   (c a)) fun(g:(List Int))=>
  d g)
 (fun(a:(List Int))=>
  some a) l 0 []
theorem J06 (l:List Int) (wanted:Int→Option Bool) (wanted_f:FuncId) (wanted_c:List AV) (wanted_B:H9 Ek wanted_f=true) (wanted_d:Qs (fun _=>false) wanted_c=true) (wanted_w:∀ a0 q,wanted a0=some q→Pure Ek wanted_f ([I64 a0]++wanted_c) (·=BL q)) (r:(List Int)) (h:G40 l wanted=some r):Pure Ek 140 [E1 l,.fn wanted_f wanted_c] (·=E1 r):=by
 unfold G40 at h
 refine H3 [.tmp 4] Tryz.func140 O O (Jr fun a1=>(JLh (E1 ([]:List Int)) (Jb 1 O O) O (G8 (a1 (Jr fun a2=>(JLh (OW 1157 1 I64 ([]:List Int)) (Gb9 1157 3 1 O O O) O (G8 (a2 (Js fun a3=>Jr fun a4=>(JLm (E1 l) O (JLl Gz O O O fun a5=>(JLm (I64 0) O (G8 (a4 (Gx ?_)))))))))))))))
 obtain⟨a6,k,m,i,h⟩:=Jf h
 refine Hs (fun a (b:(List Int))=>each a6 k (List.drop a l) a b=some r) (fun a b=>[(1,.fn wanted_f wanted_c),(5,OW 1157 1 I64 b),(8,E1 l),(9,Ej l.length),(10,Ej a)]) (fun a b=>[(1157,.spare 3 1 b.length b.length)]) (fun a=>l.length - a) 0 [] h ⟨⟨.same (Q7 _ _ wanted_d),.same O,.same O,.same O,.same O,G⟩,⟨⟨_,O,.same⟩,G⟩,O⟩ ?_
 clear h
 intro a b e b0 a7
 refine Jr fun n=>(JLh (BL (decide ((a:Int) < (l.length:Int)))) (Jq O O O) O (G8 (n (Js fun o=>Gp O (fun hb=>?_) (fun hb=>?_)))))
 ·
  have g:=Q4 hb
  obtain⟨d,a9,p,s,h⟩:=Hz e g
  replace h:=Zi m h
  refine Gn (o ?_)
  obtain⟨t,j,h⟩:=Ga2 h
  refine G4d (fun c:(List Int)=>t c=some r) (fun c=>[(1,.fn wanted_f wanted_c),(5,OW 1157 1 I64 c),(8,E1 l),(9,Ej l.length),(10,Ej a)]) (fun c=>[(1157,.spare 3 1 c.length c.length)]) (fun Kj24 ej24=>?_) ?_
  ·
   refine Gx (Jr fun u=>(JLm (Ej a) O (JLh (.dptr [I64 d]) (H0 (f:=I64) (xs:=l) (y:=d) O O O Gz p O) O (JLh (I64 d) (Ge Gd O O O) O (JLm (Ej a) O (JLm (I64 d) O (G8 (u (Jr fun v=>(JLm (.fn wanted_f wanted_c) O (JLm (I64 d) O ?_)))))))))))
   obtain⟨a8,w,h⟩:=Gj h
   refine JLh (BL a8) (G56 (args:=[I64 d]) (caps:=wanted_c) O O (wanted_w d _ w) wanted_B ⟨O,O,G⟩ wanted_d) O (G8 (v (JCc O h (fun h hb=>?_) (fun h hb=>?_))))
   ·
    refine G2 (JLm (OW 1157 1 I64 b) O (JLm (Ej a) O (JLh (E1 [(a:Int)]) (J2 (xs:=[Ej a]) O ⟨O,O,G⟩ Gz Yr O O O O) O ?_)))
    obtain⟨x,h⟩:=Qa h
    refine JLh (OW 1157 1 I64 (b++[(a:Int)])) (Z1 (f:=I64) (xs:=b) (ys:=[(a:Int)]) O O O O Gz G31 x (fun _=>O) (.inl O) O) O (JLm (OW 1157 1 I64 (b++[(a:Int)])) O (G8 (ej24 _ _ (b++[(a:Int)]) h ⟨⟨.same (Q7 _ _ wanted_d),.same O,.same O,.same O,.same O,G⟩,⟨⟨_,O,.same⟩,G⟩,O⟩)))
   ·
    refine Gn (ej24 _ _ b h ⟨⟨.same (Q7 _ _ wanted_d),.same O,.same O,.same O,.same O,G⟩,⟨⟨_,O,.same⟩,G⟩,O⟩)
  ·intro c h
   replace h:=app1 j h
   refine G2 (JLh (I64 ((a+1:Nat):Int)) (Jo (Hw g a5) O O O) O (JLm (I64 ((a+1:Nat):Int)) O (G8 (a7 _ _ (a+1) c (app1 s h) (by omega) ⟨⟨.same (Q7 _ _ wanted_d),.same rfl,.same rfl,.same rfl,.same rfl,G⟩,⟨⟨_,rfl,.same⟩,G⟩,rfl⟩))))
 ·
  have h:=app1 i (J0 e (Hd hb))
  refine Hy (a3 (Jr fun z=>(JLm (OW 1157 1 I64 b) O (JLm (OW 1157 1 I64 b) O (G8 (z (Gs (fin1l (fun r:(List Int)=>(E1 r:AV)) h))))))))

def Gb4 (x:Ga) (c:G1):Option Bool:=
 bnd (bif decide (x.Bay=c.Bay) then G40 x.Rows (fun z0=>G6a z0 c) else some default) fun a=>
 some ((decide (x.Bay=c.Bay))&&(decide (0 < (a.length:Int))))
theorem Jc5 (x:Ga) (c:G1) (r:Bool) (h:Gb4 x c=some r):Pure Ek 118 [.agg [I64 x.Bay,E1 x.Rows],.agg (G1.cs c)] (·=BL r):=by
 unfold Gb4 at h
 refine H3 [.tmp 4] Tryz.func118 O O (Jr fun b=>(JLh (.ptr 1141 0) (Ju (cs:=[I64 x.Bay,E1 x.Rows]) 1141 O O O O O) O (JLh (.ptr 1142 0) (Ju (cs:=(G1.cs c)) 1142 O O O O O) O (JLm (BL false) O (G8 (b (Gu [(2,.dptr [I64 x.Bay,E1 x.Rows]),(3,.ptr 1142 0)] [(1142,.box 72 (G1.cs c))] 1141 rfl rfl rfl ⟨⟨_,rfl,.boxEq rfl rfl⟩,G⟩ rfl (by exact⟨.ptr,.conv (.same rfl),G⟩) ?_)))))))
 refine Gu [(2,.dptr [I64 x.Bay,E1 x.Rows]),(3,Eh c)] [] 1142 rfl rfl rfl G rfl (by exact⟨.conv (.same rfl),.ptr,G⟩) (Jr fun d=>(JLh (.dptr [I64 x.Bay,E1 x.Rows]) (Gb G1c O O O) O (JLh (I64 x.Bay) (Ge Gd O O O) O (JLh (Eh c) (Gb G46 O O O) O (JLh (I64 c.Bay) (Ge Gd O O O) O (JLh (BL (decide (x.Bay=c.Bay))) (Jk O O O) O (JLm (BL (decide (x.Bay=c.Bay))) O (JLo (.dptr [E1 x.Rows]) [] O .sct G (fun hc=>Gb Qk O O O) O (JLo (E1 x.Rows) [11] O .sct ⟨Ua,G⟩ (fun hc=>Ge Hq O O O) O (JLo (.fn 141 [.dptr (G1.cs c)]) [] O .sct G (fun hc=>R0 (cs:=[.dptr (G1.cs c)]) O O) O ?_))))))))))
 obtain⟨a,e,h⟩:=Gj h
 refine JLo (E1 a) [12,13] O .sct ⟨Ua,Ua,G⟩ (fun hc=>Gw (args:=[E1 x.Rows,.fn 141 [.dptr (G1.cs c)]]) O (J06 x.Rows (fun z0=>G6a z0 c) 141 [.dptr (G1.cs c)] Qdf O (fun z0 q hq=>J61 z0 c q hq) a (H1 hc e)) Qe0 ⟨O,O,O,O,G⟩) O (JLo (Ej a.length) [14] O .sct ⟨Ua,G⟩ (fun hc=>G2d (f:=I64) (xs:=a) Gz O O) O (JLo (BL (decide (0 < (a.length:Int)))) [15] O .sct ⟨Ua,G⟩ (fun hc=>G08 O O O) O (JLh (BL ((decide (x.Bay=c.Bay))&&(decide (0 < (a.length:Int))))) (Jv O O O O) O (JLm (BL ((decide (x.Bay=c.Bay))&&(decide (0 < (a.length:Int))))) O (G8 (d (Gs (fin1 BL h))))))))

def G24 (x:Ga) (a:G6) (b:Int):Option Bool:=
 Qr a.Columns b fun c=>
 bnd (Gb4 x c) fun d=>
 some d
theorem J31 (x:Ga) (a:G6) (c:Int) (r:Bool) (h:G24 x a c=some r):Pure Ek 117 [.agg [I64 x.Bay,E1 x.Rows],Ee a,.dptr [I64 c]] (·=BL r):=by
 unfold G24 at h
 refine H3 [.tmp 4] Tryz.func117 O O (Jr fun e=>(JLh (.ptr 1140 0) (Ju (cs:=[I64 x.Bay,E1 x.Rows]) 1140 O O O O O) O (JLm (BL false) O (G8 (e (Gu [(1,Ee a),(2,.dptr [I64 c]),(3,.dptr [I64 x.Bay,E1 x.Rows])] [] 1140 rfl rfl rfl G rfl (by exact⟨.conv (.same rfl),.conv (.same rfl),.ptr,G⟩) (Js fun g=>?_)))))))
 obtain⟨l,b,i,j,h⟩:=Rr h
 obtain⟨d,k,h⟩:=Gj h
 refine JC_d0 Ho (by kernel_rfl) (Dq (.agg [I64 x.Bay,E1 x.Rows]) (Gt H2d O O O) O (Dq (Ee a) (Gb Hh O O O) O (Dq (E3 a.Columns) (Ge Hn O O O) O (Dq (I64 c) (Ge Gd O O O) O (Dq (Eh b) (H0 (f:=G1.av) (xs:=a.Columns) (y:=b) O O O Hk j i) O (Dq (.agg (G1.cs b)) (Gt H75 O O O) O (Dq (BL d) (Gw (args:=[.agg [I64 x.Bay,E1 x.Rows],.agg (G1.cs b)]) O (Jc5 x b d k) Qe7 ⟨O,O,O,O,G⟩) O (Dq (BL d) (G9 O O) O (Dnil (g (Gs (fin1 BL h))))))))))))

def Zb (l:List Ga) (wanted:Ga→Option Bool):Option (List Int):=
 each (fun e b (a:(List Int)) d=>
  jp (fun c=>
   bnd (wanted e) fun f=>
   bif f then
   (need (decide ((a.length+[(b:Int)].length)*8≤140737488355328∧a.length+[(b:Int)].length≤maxLen)) <|
    c (a++[(b:Int)]))
   else
   (c a)) fun(g:(List Int))=>
  d g)
 (fun(a:(List Int))=>
  some a) l 0 []
theorem H73 (l:List Ga) (wanted:Ga→Option Bool) (wanted_f:FuncId) (wanted_c:List AV) (wanted_B:H9 Ek wanted_f=true) (wanted_d:Qs (fun _=>false) wanted_c=true) (wanted_w:∀ a0 q,wanted a0=some q→Pure Ek wanted_f ([.agg [I64 a0.Bay,E1 a0.Rows]]++wanted_c) (·=BL q)) (r:(List Int)) (h:Zb l wanted=some r):Pure Ek 116 [E7 l,.fn wanted_f wanted_c] (·=E1 r):=by
 unfold Zb at h
 refine H3 [.tmp 4] Tryz.func116 O O (Jr fun a2=>(JLh (E1 ([]:List Int)) (Jb 1 O O) O (G8 (a2 (Jr fun a3=>(JLh (OW 1138 1 I64 ([]:List Int)) (Gb9 1138 3 1 O O O) O (G8 (a3 (Js fun a4=>Jr fun a5=>(JLm (E7 l) O (JLl J7 O O O fun a6=>(JLm (I64 0) O (G8 (a5 (Gx ?_)))))))))))))))
 obtain⟨a7,k,m,i,h⟩:=Jf h
 refine Hs (fun a (b:(List Int))=>each a7 k (List.drop a l) a b=some r) (fun a b=>[(1,.fn wanted_f wanted_c),(5,OW 1138 1 I64 b),(8,E7 l),(9,Ej l.length),(10,Ej a)]) (fun a b=>[(1138,.spare 3 1 b.length b.length)]) (fun a=>l.length - a) 0 [] h ⟨⟨.same (Q7 _ _ wanted_d),.same O,.same O,.same O,.same O,G⟩,⟨⟨_,O,.same⟩,G⟩,O⟩ ?_
 clear h
 intro a b e b1 a8
 refine Jr fun n=>(JLh (BL (decide ((a:Int) < (l.length:Int)))) (Jq O O O) O (G8 (n (Js fun o=>Gp O (fun hb=>?_) (fun hb=>?_)))))
 ·
  have g:=Q4 hb
  obtain⟨c,b0,p,s,h⟩:=Hz e g
  replace h:=Zi m h
  refine Gn (o ?_)
  obtain⟨t,j,h⟩:=Ga2 h
  refine G4d (fun d:(List Int)=>t d=some r) (fun d=>[(1,.fn wanted_f wanted_c),(5,OW 1138 1 I64 d),(8,E7 l),(9,Ej l.length),(10,Ej a)]) (fun d=>[(1138,.spare 3 1 d.length d.length)]) (fun Kj24 ej24=>?_) ?_
  ·
   refine Gx (Jr fun v=>(JLm (Ej a) O (JLh (.dptr [I64 c.Bay,E1 c.Rows]) (H0 (f:=Ga.av) (xs:=l) (y:=c) O O O J7 p O) O (JLh (.agg [I64 c.Bay,E1 c.Rows]) (Gt H2d O O O) O (JLh (.ptr 1139 0) (Jn 1139 2 Gff O O) O (JLm (Ej a) O (J9 (u:=.junk) (He (u:=.agg [I64 c.Bay,E1 c.Rows]) (ds:=[I64 c.Bay,E1 c.Rows]) H95 O O O O O O O O) (G8 (v ?_)))))))))
   refine Gu [(1,.fn wanted_f wanted_c),(5,OW 1138 1 I64 b),(6,Ej a),(7,.dptr [I64 c.Bay,E1 c.Rows]),(8,E7 l),(9,Ej l.length),(10,Ej a)] [(1138,.spare 3 1 b.length b.length)] 1139 rfl rfl rfl ⟨⟨_,rfl,.same⟩,G⟩ rfl (by exact⟨.conv (.same (Q7 _ _ wanted_d)),.conv (.same rfl),.conv (.same rfl),.ptr,.conv (.same rfl),.conv (.same rfl),.conv (.same rfl),G⟩) (Jr fun w=>(JLm (.fn wanted_f wanted_c) O (JLh (.agg [I64 c.Bay,E1 c.Rows]) (Gt H2d O O O) O ?_)))
   obtain⟨a9,x,h⟩:=Gj h
   refine JLh (BL a9) (G56 (args:=[.agg [I64 c.Bay,E1 c.Rows]]) (caps:=wanted_c) O O (wanted_w c _ x) wanted_B ⟨O,O,G⟩ wanted_d) O (G8 (w (JCc O h (fun h hb=>?_) (fun h hb=>?_))))
   ·
    refine G2 (JLm (OW 1138 1 I64 b) O (JLm (Ej a) O (JLh (E1 [(a:Int)]) (J2 (xs:=[Ej a]) O ⟨O,O,G⟩ Gz Yr O O O O) O ?_)))
    obtain⟨z,h⟩:=Qa h
    refine JLh (OW 1138 1 I64 (b++[(a:Int)])) (Z1 (f:=I64) (xs:=b) (ys:=[(a:Int)]) O O O O Gz G31 z (fun _=>O) (.inl O) O) O (JLm (OW 1138 1 I64 (b++[(a:Int)])) O (G8 (ej24 _ _ (b++[(a:Int)]) h ⟨⟨.same (Q7 _ _ wanted_d),.same O,.same O,.same O,.same O,G⟩,⟨⟨_,O,.same⟩,G⟩,O⟩)))
   ·
    refine Gn (ej24 _ _ b h ⟨⟨.same (Q7 _ _ wanted_d),.same O,.same O,.same O,.same O,G⟩,⟨⟨_,O,.same⟩,G⟩,O⟩)
  ·intro d h
   replace h:=app1 j h
   refine G2 (JLh (I64 ((a+1:Nat):Int)) (Jo (Hw g a6) O O O) O (JLm (I64 ((a+1:Nat):Int)) O (G8 (a8 _ _ (a+1) d (app1 s h) (by omega) ⟨⟨.same (Q7 _ _ wanted_d),.same rfl,.same rfl,.same rfl,.same rfl,G⟩,⟨⟨_,rfl,.same⟩,G⟩,rfl⟩))))
 ·
  have h:=app1 i (J0 e (Hd hb))
  refine Hy (a4 (Jr fun a1=>(JLm (OW 1138 1 I64 b) O (JLm (OW 1138 1 I64 b) O (G8 (a1 (Gs (fin1l (fun r:(List Int)=>(E1 r:AV)) h))))))))

def G2b (s:G6) (column:Int):Option Int:=
 bif ((decide (column < 0))||(decide ((s.Columns.length:Int)≤column))) then
 (some (-1))
 else
 (bnd (Zb s.Covers (fun z0=>G24 z0 s column)) fun a=>
  bif decide ((a.length:Int)=0) then
  (some (-1))
  else
  (Qr a 0 fun b=>
   some b))
theorem H8c (s:G6) (column:Int) (r:Int) (h:G2b s column=some r):Pure Ek 74 [.agg (G6.cs s),I64 column] (·=I64 r):=by
 unfold G2b at h
 refine H3 [.tmp 4] Tryz.func74 O O (Jr fun g=>(JLh (.ptr 1108 0) (Ju (cs:=(G6.cs s)) 1108 O O O O O) O (JLh (.ptr 1109 0) (Ju (cs:=[I64 column]) 1109 O O O O O) O (JLm (I64 0) O (G8 (g (Gu [(2,Ee s),(3,.ptr 1109 0)] [(1109,.box 3 [I64 column])] 1108 rfl rfl rfl ⟨⟨_,rfl,.boxEq rfl rfl⟩,G⟩ rfl (by exact⟨.ptr,.conv (.same rfl),G⟩) (Gu [(2,Ee s),(3,.dptr [I64 column])] [] 1109 rfl rfl rfl G rfl (by exact⟨.conv (.same rfl),.ptr,G⟩) (Js fun i=>?_)))))))))
 refine Jr fun j=>(JLh (I64 column) (Ge Gd O O O) O (JLh (BL (decide (column < 0))) (Jq O O O) O (JLm (BL (decide (column < 0))) O (JLo (I64 column) [] O .scf G (fun hc=>Ge Gd O O O) O (JLo (Ee s) [] O .scf G (fun hc=>Gb Hh O O O) O (JLo (E3 s.Columns) [10] O .scf ⟨Ua,G⟩ (fun hc=>Ge Hn O O O) O (JLo (Ej s.Columns.length) [11] O .scf ⟨Ua,G⟩ (fun hc=>G2d (f:=G1.av) (xs:=s.Columns) Hk O O) O (JLo (BL (decide ((s.Columns.length:Int)≤column))) [9,12] O .scf ⟨Ua,Ua,G⟩ (fun hc=>G4b O O O) O (JLh (BL ((decide (column < 0))||(decide ((s.Columns.length:Int)≤column)))) (Ya O O O O) O (G8 (j (JCc O h (fun h hb=>?_) (fun h hb=>?_)))))))))))))
 ·
  refine Jr fun k=>(JLm (I64 (-1)) O (G8 (k (Gs (fin1 I64 h)))))
 ·
  refine Gn (i (Jr fun l=>(JLh (.dptr ((G6.cs s).drop 1)) (Gb Jc O O O) O (JLh (E7 s.Covers) (Ge Ji O O O) O (JLh (.fn 117 [.dptr (G6.cs s),.dptr [I64 column]]) (R0 (cs:=[.dptr (G6.cs s),.dptr [I64 column]]) O O) O ?_)))))
  obtain⟨a,m,h⟩:=Gj h
  refine JLh (E1 a) (Gw O (H73 s.Covers (fun z0=>G24 z0 s column) 117 [.dptr (G6.cs s),.dptr [I64 column]] Qe8 O (fun z0 q hq=>J31 z0 s column q hq) a m) Qe9 ⟨O,O,O,O,G⟩) O (JLm (E1 a) O (G8 (l (Js fun n=>Jr fun o=>(JLm (E1 a) O (JLl Gz O O O fun t=>(JLh (BL (decide ((a.length:Int)=0))) (Jk O O O) O (G8 (o (JCc O h (fun h hb=>?_) (fun h hb=>?_)))))))))))
  ·
   refine Jr fun p=>(JLm (I64 (-1)) O (G8 (p (Gs (fin1 I64 h)))))
  ·
   refine Gn (n (Jr fun c=>(JLm (E1 a) O ?_)))
   obtain⟨u,b,d,e,h⟩:=Rr h
   refine JLh (.dptr [I64 b]) (H0 (f:=I64) (xs:=a) (y:=b) O O O Gz e d) O (JLh (I64 b) (Ge Gd O O O) O (JLm (I64 b) O (G8 (c (Gs (fin1 I64 h))))))

def G52 (m:Gh) (x:Slot):Option Bool:=
 bnd (G2b m.ship x.G1) fun a=>
 bnd (bif decide (0≤a) then some (Gv.get m.open_ a 0) else some 0) fun b=>
 bnd (bif decide (0≤a) then Qr m.ship.Columns x.G1 some else some default) fun c=>
 some ((decide (0≤a))&&((decide (0 < b))==c.Deck))
theorem H8a (m:Gh) (x:Slot) (r:Bool) (h:G52 m x=some r):Pure Ek 81 [.dptr (Gh.cs m),.agg [I64 x.G1,I64 x.Tier,U8 x.Half]] (·=BL r):=by
 unfold G52 at h
 refine H3 [.tmp 4] Tryz.func81 O O (Jr fun e=>(JLh (.ptr 1116 0) (Ju (cs:=[I64 x.G1,I64 x.Tier,U8 x.Half]) 1116 O O O O O) O (JLm (BL false) O (G8 (e (Gu [(0,Ed m),(3,.dptr [I64 x.G1,I64 x.Tier,U8 x.Half])] [] 1116 rfl rfl rfl G rfl (by exact⟨.conv (.same rfl),.ptr,G⟩) (Js fun g=>?_)))))))
 obtain⟨b,i,h⟩:=Gj h
 refine JC_d0 Ho (by kernel_rfl) (Dq (Ed m) (G7 O O) O (Dq (Ed m) (G61 O O) O (Dq (Ed m) (Gb Rb O O O) O (Dq (.agg (G6.cs m.ship)) (Gt Jm O O O) O (Dq (.dptr [I64 x.G1,I64 x.Tier,U8 x.Half]) (Gb Hu O O O) O (Dq (I64 x.G1) (Ge Gd O O O) O (Dq (I64 b) (Gw (args:=[.agg (G6.cs m.ship),I64 x.G1]) O (H8c m.ship x.G1 b i) Jef ⟨O,O,O,O,G⟩) O (Dq (I64 b) (G9 O O) O (Dnil (g (Js fun j=>?_)))))))))))
 obtain⟨d,k,h⟩:=Gj h
 obtain⟨c,l,h⟩:=Gj h
 refine JC_d0 Ho (by kernel_rfl) (Dq (I64 b) (G7 O O) O (Dq (BL (decide (0≤b))) (G4b O O O) O (Dq (BL (decide (0≤b))) (G7 O O) O (Do (Ed m) [] O .sct G (fun hc=>G7 O O) O (Do (Ed m) [16] O .sct ⟨Ua,G⟩ (fun hc=>G61 O O) O (Do (.dptr ((Gh.cs m).drop 15)) [17] O .sct ⟨Ua,G⟩ (fun hc=>Gb G6f O O O) O (Do (DM Kn I64 m.open_) [18] O .sct ⟨Ua,G⟩ (fun hc=>Ge G59 O O O) O (Do (I64 b) [] O .sct G (fun hc=>G7 O O) O (Do (I64 d) [19,20] O .sct ⟨Ua,Ua,G⟩ (fun hc=>((M2 (H1 hc k)) ▸ J33 (av:=I64) (m:=m.open_) (a:=b) 0 E0 (fun _=>O) O .data O Jdc H2c H1d O)) O (Do (BL (decide (0 < d))) [21] O .sct ⟨Ua,G⟩ (fun hc=>G08 O O O) O (Do (Ed m) [] O .sct G (fun hc=>G7 O O) O (Do (Ed m) [23] O .sct ⟨Ua,G⟩ (fun hc=>G61 O O) O (Do (Ed m) [24] O .sct ⟨Ua,G⟩ (fun hc=>Gb Rb O O O) O ?_)))))))))))))
 refine Do (Ed m) [25] O .sct ⟨Ua,G⟩ (fun hc=>Gb Hh O O O) O (Do (E3 m.ship.Columns) [26] O .sct ⟨Ua,G⟩ (fun hc=>Ge Hn O O O) O (Do (.dptr [I64 x.G1,I64 x.Tier,U8 x.Half]) [] O .sct G (fun hc=>Gb Hu O O O) O (Do (I64 x.G1) [28] O .sct ⟨Ua,G⟩ (fun hc=>Ge Gd O O O) O (Do (Eh c) [27,29] O .sct ⟨Ua,Ua,G⟩ (fun hc=>(match R1 (H1 hc l) with | ⟨_,hm_,hy_⟩=>H0 (f:=G1.av) (xs:=m.ship.Columns) (y:=c) O O O Hk hy_ hm_)) O (Do (.dptr ((G1.cs c).drop 2)) [30] O .sct ⟨Ua,G⟩ (fun hc=>Gb Z4 O O O) O (Do (BL c.Deck) [31] O .sct ⟨Ua,G⟩ (fun hc=>Ge Re O O O) O (Do (BL ((decide (0 < d))==c.Deck)) [22,32] O .sct ⟨Ua,Ua,G⟩ (fun hc=>Q5b Hed O O O) O (Dq (BL ((decide (0≤b))&&((decide (0 < d))==c.Deck))) (Jv O O O O) O (Dq (BL ((decide (0≤b))&&((decide (0 < d))==c.Deck))) (G9 O O) O (Dnil ?_))))))))))
 refine j (Gs (fin1 BL h))

def R9 (b:Box):Option Int:=
 bif b.High then
 (some 2896)
 else
 (some 2591)
theorem H46 (b:Box) (r:Int) (h:R9 b=some r):Pure Ek 122 [.agg (Box.cs b)] (·=I64 r):=by
 unfold R9 at h
 refine H3 [.tmp 2] Tryz.func122 O O (Jr fun a=>(JLh (.ptr 1148 0) (Ju (cs:=(Box.cs b)) 1148 O O O O O) O (JLm (I64 0) O (G8 (a (Gu [(1,Eg b)] [] 1148 rfl rfl rfl G rfl (by exact⟨.ptr,G⟩) (Js fun c=>Jr fun d=>(JLh (.dptr ((Box.cs b).drop 3)) (Gb H63 O O O) O (JLh (BL b.High) (Ge Re O O O) O (G8 (d (JCc O h (fun h hb=>?_) (fun h hb=>?_)))))))))))))
 ·
  refine Jr fun e=>(JLm (I64 2896) O (G8 (e (Gs (fin1 I64 h)))))
 ·
  refine Gn (c (Jr fun f=>(JLm (I64 2591) O (G8 (f (Gs (fin1 I64 h)))))))

def G8c (m:Gh) (x:Slot) (b:Box) (half:Int) (Rp:Int→Prop):Option Prop:=
 jp (fun e=>
  bif ((decide (x.Half=0))||(decide (x.Half=half))) then
  (bnd (R9 b) fun h=>
   e h)
  else
  (e 0)) fun(i:Int)=>
 Hbc (fun(a:Slot×Box) (c:Int) d=>
  bif ((decide (a.1.G1=x.G1))&&((decide (a.1.Half=0))||(decide (a.1.Half=half)))) then
  (bnd (R9 a.2) fun f=>
   chk (c+f) fun g=>
   d g)
  else
  (d c))
 (fun(c:Int)=>
  some (Rp c)) (Gv.Hc m.on) i
theorem J85 (m:Gh) (x:Slot) (b:Box) (half:Int) (Rp:Int→Prop) (p:Prop) (h:G8c m x b half Rp=some p) (hp:p):Pure Ek 90 [.dptr (Gh.cs m),.agg [I64 x.G1,I64 x.Tier,U8 x.Half],.agg (Box.cs b),U8 half] (fun av=>∃ r,Rp r∧av=I64 r):=by
 unfold G8c at h
 refine H3 [.tmp 8] Tryz.func90 O O (Jr fun a9=>(JLh (.ptr 1119 0) (Ju (cs:=[I64 x.G1,I64 x.Tier,U8 x.Half]) 1119 O O O O O) O (JLh (.ptr 1120 0) (Ju (cs:=(Box.cs b)) 1120 O O O O O) O (JLm (I64 0) O (G8 (a9 (fzQ [(0,Ed m),(3,U8 half),(5,.dptr [I64 x.G1,I64 x.Tier,U8 x.Half]),(6,.ptr 1120 0)] [(1120,.box 84 (Box.cs b))] 1119 rfl rfl rfl ⟨⟨_,rfl,.boxEq rfl rfl⟩,G⟩ rfl ?_)))))))
 refine fzQ [(0,Ed m),(3,U8 half),(5,.dptr [I64 x.G1,I64 x.Tier,U8 x.Half]),(6,Eg b)] [] 1120 rfl rfl rfl G rfl (Jr fun b0=>(JLm (.fn 122 []) O (G8 (b0 (Jr fun b1=>(JLm (I64 0) O (G8 (b1 ?_))))))))
 obtain⟨b2,z,h⟩:=Ga2 h
 refine G4d (fun k:Int=>b2 k=some p) (fun k=>[(0,Ed m),(3,U8 half),(5,.dptr [I64 x.G1,I64 x.Tier,U8 x.Half]),(9,.fn 122 []),(10,I64 k)]) (fun k=>[]) (fun Kj4 ej4=>?_) ?_
 ·
  refine Jr fun b3=>(JLh (.dptr [U8 x.Half]) (Gb Je O O O) O (JLh (U8 x.Half) (Ge Hm O O O) O (JLh (BL (decide (x.Half=0))) (Jk O O O) O (JLm (BL (decide (x.Half=0))) O (JLo (.dptr [U8 x.Half]) [] O .scf G (fun hc=>Gb Je O O O) O (JLo (U8 x.Half) [17] O .scf ⟨Ua,G⟩ (fun hc=>Ge Hm O O O) O (JLo (U8 half) [] O .scf G (fun hc=>G7 O O) O (JLo (BL (decide (x.Half=half))) [18,19] O .scf ⟨Ua,Ua,G⟩ (fun hc=>Jk O O O) O (JLh (BL ((decide (x.Half=0))||(decide (x.Half=half)))) (Ya O O O O) O (G8 (b3 (JCc O h (fun h hb=>?_) (fun h hb=>?_)))))))))))))
  ·
   refine G2 (JLm (.fn 122 []) O (JLh (.agg (Box.cs b)) (Gt Yf O O O) O ?_))
   obtain⟨t,b4,h⟩:=Gj h
   refine JLh (I64 t) (G56 (args:=[.agg (Box.cs b)]) (caps:=[]) O O (H46 b t b4) J96 ⟨O,O,G⟩ O) O (JLm (I64 t) O (G8 (ej4 _ _ t h ⟨(.sm O O),G,rfl⟩)))
  ·
   refine Gn (ej4 _ _ 0 h ⟨(.sm O O),G,rfl⟩)
 ·intro k h
  replace h:=app1 z h
  refine Js fun b5=>Jr fun b6=>(JLm (Ed m) O (JLh (Ed m) (G61 O O) O (JLh (.dptr ((Gh.cs m).drop 13)) (Gb Y3 O O O) O (JLh (DM Slot.kv Box.av m.on) (Ge Y5 O O O) O (JLh (.it 1123) (H4a 1123 (kv:=Slot.kv) (av:=Box.av) (m:=m.on) O O .data O G4e) O (G8 (b6 (Gx ?_))))))))
  obtain⟨b7,a0,a1,v,h⟩:=H05 h
  refine He7 (m.on.l.length) (fun d (c:Int)=>Gb5 b7 a0 (Gv.l m.on) d c) (fun d c=>[(3,U8 half),(5,.dptr [I64 x.G1,I64 x.Tier,U8 x.Half]),(9,.fn 122 []),(10,I64 c),(29,.it 1123)]) (fun d c=>[(1123,.iter (DM Slot.kv Box.av m.on) m.on.l.length d)]) k (Gb5.start h hp) ⟨(.sm O O),⟨⟨_,rfl,.iter rfl⟩,G⟩,rfl⟩ ?_
  clear h hp
  intro d c n c0 w
  refine Jr fun o=>G18 O O O (Hb8 (kv:=Slot.kv) (av:=Box.av) (m:=m.on) (fun _=>O) O O O .data) ?_
  intro u_ L_ hn_
  rcases hn_ with ⟨g,a,f,j,rfl,rfl⟩ | ⟨a2,rfl,rfl⟩
  ·
   obtain⟨c1,h,b8,i⟩:=n.step f j
   replace h:=Jbd a1 h
   refine JLh (BL true) (H4 O O O) O (G8 (o (Js fun a3=>He8 O (Gn (a3 (Gx ?_))))))
   refine Jr fun a4=>(JLh (.tup [.agg (Slot.cs a.1),.agg (Box.cs a.2)]) (J34 (kv:=Slot.kv) (av:=Box.av) (m:=m.on) (q:=g) (seen:=d) (e:=a) (fun _=>O) O O O .data f) O (JLh (.agg (Slot.cs a.1)) (H4 O O O) O (JLh (.agg (Box.cs a.2)) (H4 O O O) O (JLh (.ptr 1121 0) (Jn 1121 3 G19 O O) O (JLh (.ptr 1122 0) (Jn 1122 9 Y1 O O) O (J9 (u:=.junk) (He (u:=.agg (Slot.cs a.1)) (ds:=[I64 a.1.G1,I64 a.1.Tier,U8 a.1.Half]) G7b O O O O O O O O) (J9 (u:=.junk) (He (u:=.agg (Box.cs a.2)) (ds:=(Box.cs a.2)) Rk O O O O O O O O) (G8 (a4 ?_)))))))))
   refine fzQ [(3,U8 half),(5,.dptr [I64 x.G1,I64 x.Tier,U8 x.Half]),(9,.fn 122 []),(10,I64 c),(11,Ei a.1),(12,.ptr 1122 0),(29,.it 1123)] [(1123,.iter (DM Slot.kv Box.av m.on) m.on.l.length (d++[g])),(1122,.box 84 (Box.cs a.2))] 1121 rfl rfl rfl ⟨⟨_,rfl,.iter rfl⟩,⟨_,rfl,.boxEq rfl rfl⟩,G⟩ rfl ?_
   refine fzQ [(3,U8 half),(5,.dptr [I64 x.G1,I64 x.Tier,U8 x.Half]),(9,.fn 122 []),(10,I64 c),(11,Ei a.1),(12,Eg a.2),(29,.it 1123)] [(1123,.iter (DM Slot.kv Box.av m.on) m.on.l.length (d++[g]))] 1122 rfl rfl rfl ⟨⟨_,rfl,.iter rfl⟩,G⟩ rfl ?_
   refine Jr fun a5=>(JLh (Ei a.1) (Gb Hu O O O) O (JLh (I64 a.1.G1) (Ge Gd O O O) O (JLh (.dptr [I64 x.G1,I64 x.Tier,U8 x.Half]) (Gb Hu O O O) O (JLh (I64 x.G1) (Ge Gd O O O) O (JLh (BL (decide (a.1.G1=x.G1))) (Jk O O O) O (JLm (BL (decide (a.1.G1=x.G1))) O (JLo (.dptr [U8 a.1.Half]) [] O .sct G (fun hc=>Gb Je O O O) O (JLo (U8 a.1.Half) [41] O .sct ⟨Ua,G⟩ (fun hc=>Ge Hm O O O) O (JLo (BL (decide (a.1.Half=0))) [42] O .sct ⟨Ua,G⟩ (fun hc=>Jk O O O) O (JLo (BL (decide (a.1.Half=0))) [43] O .sct ⟨Ua,G⟩ (fun hc=>G7 O O) O (JLo (.dptr [U8 a.1.Half]) [] O .optf G (fun hc=>Gb Je O O O) O (JLo (U8 a.1.Half) [45] O .optf ⟨Ua,G⟩ (fun hc=>Ge Hm O O O) O (JLo (U8 half) [] O .optf G (fun hc=>G7 O O) O ?_)))))))))))))
   refine JLo (BL (decide (a.1.Half=half))) [46,47] O .optf ⟨Ua,Ua,G⟩ (fun hc=>Jk O O O) O (Gf (u:=BL ((decide (a.1.Half=0))||(decide (a.1.Half=half)))) [(44,BL (decide (a.1.Half=0))),(48,_)] O O O .sct ⟨.all id,.part,G⟩ (fun hc=>Ya O O O O) ?_)
   refine JLh (BL ((decide (a.1.G1=x.G1))&&((decide (a.1.Half=0))||(decide (a.1.Half=half))))) (Jv O O O O) O (G8 (a5 (JCc O h (fun h hb=>?_) (fun h hb=>?_))))
   ·
    refine G2 (JLm (I64 c) O (JLm (.fn 122 []) O (JLh (.agg (Box.cs a.2)) (Gt Yf O O O) O ?_)))
    obtain⟨y,a6,h⟩:=Gj h
    refine JLh (I64 y) (G56 (args:=[.agg (Box.cs a.2)]) (caps:=[]) O O (H46 a.2 y a6) J96 ⟨O,O,G⟩ O) O ?_
    obtain⟨s,a7,h⟩:=Zw h
    refine JLh (I64 s) (Jo a7 O O O) O (JLm (I64 s) O (G8 (w _ _ (d++[g]) s (i _ (M2 h).symm) (G90 (M0 f).1 j) ⟨(.sm O O),⟨⟨_,rfl,.iter rfl⟩,G⟩,rfl⟩)))
   ·
    refine Gn (w _ _ (d++[g]) c (i _ (M2 h).symm) (G90 (M0 f).1 j) ⟨(.sm O O),⟨⟨_,rfl,.iter rfl⟩,G⟩,rfl⟩)
  ·
   obtain⟨p_,h,hp⟩:=n.done a2
   replace h:=app1 v h
   refine JLh (BL false) (H4 O O O) O (G8 (o (Js fun b9=>G42 O (Hy (b5 (Jr fun a8=>(JLm (I64 c) O (JLm (I64 c) O (G8 (a8 (Gs (⟨[I64 c],[],G,O,⟨⟨_,O,.conv (.same O)⟩,G⟩,O,c,Eq.mpr (M2 h) hp,O⟩))))))))))))
theorem J86 (S_:(Gh)→(Slot)→(Box)→(Int)→Option Int) (hS_:∀ m x b half r,S_ m x b half=some r→∃ p:Prop,G8c m x b half (fun r_=>r_=r)=some p∧p) (m:Gh) (x:Slot) (b:Box) (half:Int) (r:Int) (h:S_ m x b half=some r):Pure Ek 90 [.dptr (Gh.cs m),.agg [I64 x.G1,I64 x.Tier,U8 x.Half],.agg (Box.cs b),U8 half] (·=I64 r):=by
 obtain⟨p,a,c⟩:=hS_ m x b half r h
 exact(J85 m x b half _ p a c).monoP (fun av hh=>by obtain⟨r_,rfl,ha⟩:=hh; exact ha)

def Gba (m:Gh):Option Int:=
 some m.lifts
theorem H5c (m:Gh) (r:Int) (h:Gba m=some r):Pure Ek 17 [.dptr (Gh.cs m)] (·=I64 r):=by
 unfold Gba at h
 refine H3 [.tmp 2] Tryz.func17 O O (Jr fun a=>(JLm (I64 0) O (G8 (a (Js fun c=>Jr fun d=>(JLm (Ed m) O (JLh (BL true) (Gw O (Ry m true O) G5b ⟨O,O,G⟩) O (JLh (BL false) (R2 (b:=true) O O) O (G8 (d (G42 O (Gn (c (Jr fun e=>(JLm (Ed m) O (JLh (Ed m) (G61 O O) O (JLh (.dptr [I64 m.lifts]) (Gb Ga5 O O O) O (JLh (I64 m.lifts) (Ge Gd O O O) O (JLm (I64 m.lifts) O (G8 (e (Gs (fin1 I64 h)))))))))))))))))))))))

def J5b (l:List J6):Option Int:=
 each (fun a e (c:Unit) b=>
  bnd (a.val) fun d=>
  bif (!d) then
  (some a.bad)
  else
  (b ()))
 (fun(c:Unit)=>
  some 0) l 0 ()
theorem Q48 (l:List J6) (r:Int) (h:J5b l=some r):Pure Ek 75 [LS 2 J6.av l] (·=I64 r):=by
 unfold J5b at h
 refine H3 [.tmp 2] Tryz.func75 O O (Jr fun a3=>(JLm (I64 0) O (G8 (a3 (Js fun a4=>Jr fun a5=>(JLm (LS 2 J6.av l) O (JLl Gcf O O O fun a6=>(JLm (I64 0) O (G8 (a5 (Gx ?_)))))))))))
 obtain⟨a7,n,o,m,h⟩:=Jf h
 refine Hs (fun e (g:Unit)=>each a7 n (List.drop e l) e g=some r) (fun e g=>[(5,LS 2 J6.av l),(6,Ej l.length),(7,Ej e)]) (fun e g=>[]) (fun e=>l.length - e) 0 () h ⟨(.sm O O),G,O⟩ ?_
 clear h
 intro e g j b0 a8
 refine Jr fun p=>(JLh (BL (decide ((e:Int) < (l.length:Int)))) (Jq O O O) O (G8 (p (Js fun q=>Gp O (fun hb=>?_) (fun hb=>?_)))))
 ·
  have k:=Q4 hb
  obtain⟨a,a9,s,t,h⟩:=Hz j k
  replace h:=Zi o h
  refine Gn (q (Js fun v=>Gx (Jr fun x=>(JLh (.dptr [.fn a.f a.c,I64 a.bad]) (H0 (f:=J6.av) (xs:=l) (y:=a) O O O Gcf s O) O (JLh (.agg [.fn a.f a.c,I64 a.bad]) (Gt Q0e O O O) O (JLh (.ptr 1110 0) (Jn 1110 2 H1e O O) O (J9 (u:=.junk) (He (u:=.agg [.fn a.f a.c,I64 a.bad]) (ds:=[.fn a.f a.c,I64 a.bad]) J93 O O O O O O O O) (G8 (x (fzQ [(4,.dptr [.fn a.f a.c,I64 a.bad]),(5,LS 2 J6.av l),(6,Ej l.length),(7,Ej e)] [] 1110 rfl (by simp [Qs,AV.refs,a.d]) rfl G rfl ?_))))))))))
  refine Jr fun z=>(JLh (.dptr [.fn a.f a.c,I64 a.bad]) (Gb Je5 O O O) O (JLh (.fn a.f a.c) (Ge Qa7 O O O) O ?_))
  obtain⟨i,a0,h⟩:=Gj h
  refine JLh (BL i) (G56 (args:=[]) (caps:=a.c) O O (a.w i a0) a.B G a.d) O (JLh (BL (!i)) (R2 (b:=i) O O) O (G8 (z (JCc O h (fun h hb=>?_) (fun h hb=>?_)))))
  ·
   refine Jr fun a1=>(JLh (.dptr [I64 a.bad]) (Gb Je4 O O O) O (JLh (I64 a.bad) (Ge H96 O O O) O (JLm (I64 a.bad) O (G8 (a1 (Gs (fin1 I64 h)))))))
  ·
   refine Gn (v (G2 (JLh (I64 ((e+1:Nat):Int)) (Jo (Hw k a6) O O O) O (JLm (I64 ((e+1:Nat):Int)) O (G8 (a8 _ _ (e+1) () (app1 t h) (by omega) ⟨(.sm O O),G,rfl⟩))))))
 ·
  have h:=app1 m (J0 j (Hd hb))
  refine Hy (a4 (Jr fun a2=>(JLm (I64 0) O (G8 (a2 (Gs (fin1 I64 h)))))))

def Ys (a:Bool):Option Bool:=
 some a
theorem G97 (a:Bool) (r:Bool) (h:Ys a=some r):Pure Ek 119 [.dptr [BL a]] (·=BL r):=by
 unfold Ys at h
 refine H3 [.tmp 1] Tryz.func119 O O (Jr fun b=>(JLm (BL false) O (G8 (b (Jr fun c=>(JLh (BL a) (Ge Re O O O) O (JLm (BL a) O (G8 (c (Gs (fin1 BL h)))))))))))

def H0d (holds:Bool) (bad:Int):Option Unit:=
 some ()
theorem Gef (holds:Bool) (bad:Int) (r:Unit) (h:H0d holds bad=some r):Pure Ek 76 [BL holds,I64 bad] (·=.agg [.fn 119 [.dptr [BL holds]],I64 bad]):=by
 unfold H0d at h
 refine H3 [.cell 4 123] Tryz.func76 O O (Jr fun a=>(JLh (.ptr 1111 0) (Ju (cs:=[BL holds]) 1111 O O O O O) O (JLh (.ptr 1112 0) (G8f 1112 [.sc .nilFunc,I64 0] [.nilFunc,E0] G1a (zzQ O) O O) O (G8 (a (Gu [(1,I64 bad),(2,.dptr [BL holds]),(4,.ptr 1112 0)] [(1112,.box 123 [.sc .nilFunc,I64 0])] 1111 rfl rfl rfl ⟨⟨_,rfl,.boxEq rfl rfl⟩,G⟩ rfl (by exact⟨.conv (.same rfl),.ptr,.conv (.same rfl),G⟩) ?_))))))
 refine Jr fun b=>(JLh (.fn 119 [.dptr [BL holds]]) (R0 (cs:=[.dptr [BL holds]]) O O) O (JLm (I64 bad) O (JLh (.agg [.fn 119 [.dptr [BL holds]],I64 bad]) (Hj (cs:=[.fn 119 [.dptr [BL holds]],I64 bad]) [(0,1),(1,1)] [.sc .nilFunc,I64 0] [.nilFunc,E0] Zt G1a (zzQ O) O O) O (J9 (u:=.junk) (He (u:=.agg [.fn 119 [.dptr [BL holds]],I64 bad]) (ds:=[.fn 119 [.dptr [BL holds]],I64 bad]) J93 O O O O O O O O) (G8 (b (Gs (⟨[.agg [.fn 119 [.dptr [BL holds]],I64 bad]],[],G,O,⟨⟨_,⟨_,_,_,_,O,O,O,.inl ⟨Q0e,O⟩⟩,.conv (.same O)⟩,G⟩,O,congrArg (fun _:Unit=>(.agg [.fn 119 [.dptr [BL holds]],I64 bad]:AV)) (M2 h)⟩))))))))

def G02 (s:List Int) (v:Int):Option Int:=
 each (fun b c (d:Unit) a=>
  bif decide (v=b) then
  (some (c:Int))
  else
  (a ()))
 (fun(d:Unit)=>
  some (-1)) s 0 ()
theorem Hb5 (s:List Int) (v:Int) (r:Int) (h:G02 s v=some r):Pure Ek 136 [Eb s,U8 v] (·=I64 r):=by
 unfold G02 at h
 refine H3 [.tmp 4] Tryz.func136 O O (Jr fun w=>(JLm (I64 0) O (G8 (w (Js fun x=>Jr fun z=>(JLm (Eb s) O (JLl H20 O O O fun a0=>(JLm (I64 0) O (G8 (z (Gx ?_)))))))))))
 obtain⟨a1,i,j,g,h⟩:=Jf h
 refine Hs (fun a (b:Unit)=>each a1 i (List.drop a s) a b=some r) (fun a b=>[(0,Eb s),(1,U8 v),(7,Ej s.length),(8,Ej a)]) (fun a b=>[]) (fun a=>s.length - a) 0 () h ⟨(.sm O O),G,rfl⟩ ?_
 clear h
 intro a b d a4 a2
 refine Jr fun k=>(JLh (BL (decide ((a:Int) < (s.length:Int)))) (Jq O O O) O (G8 (k (Js fun l=>Gp O (fun hb=>?_) (fun hb=>?_)))))
 ·
  have e:=Q4 hb
  obtain⟨c,a3,m,n,h⟩:=Hz d e
  replace h:=Zi j h
  refine Gn (l (Js fun o=>Gx (Jr fun p=>(JLm (Ej a) O (JLm (Ej a) O (G8 (p (Jr fun q=>(JLm (U8 v) O (JLm (Eb s) O (JLm (Ej a) O (JLh (.dptr [U8 c]) (H0 (f:=U8) (xs:=s) (y:=c) O O O H20 m O) O (JLh (U8 c) (Ge Hm O O O) O (JLh (BL (decide (v=c))) (Jk O O O) O (G8 (q (JCc O h (fun h hb=>?_) (fun h hb=>?_))))))))))))))))))
  ·
   refine Jr fun t=>(JLm (Ej a) O (JLm (Ej a) O (G8 (t (Gs (fin1 I64 h))))))
  ·
   refine Gn (o (G2 (JLh (I64 ((a+1:Nat):Int)) (Jo (Hw e a0) O O O) O (JLm (I64 ((a+1:Nat):Int)) O (G8 (a2 _ _ (a+1) () (app1 n h) (by omega) ⟨(.sm O O),G,rfl⟩))))))
 ·
  have h:=app1 g (J0 d (Hd hb))
  refine Hy (x (Jr fun u=>(JLm (I64 (-1)) O (G8 (u (Gs (fin1 I64 h)))))))

def Yz (s:List Int) (v:Int):Option Bool:=
 bnd (G02 s v) fun a=>
 some (decide (0≤a))
theorem H4f (s:List Int) (v:Int) (r:Bool) (h:Yz s v=some r):Pure Ek 101 [Eb s,U8 v] (·=BL r):=by
 unfold Yz at h
 refine H3 [.tmp 4] Tryz.func101 O O (Jr fun b=>(JLm (BL false) O (G8 (b (Jr fun c=>(JLm (Eb s) O (JLm (U8 v) O ?_)))))))
 obtain⟨a,d,h⟩:=Gj h
 refine JLh (I64 a) (Gw O (Hb5 s v a d) Qe4 ⟨O,O,O,O,G⟩) O (JLh (BL (decide (0≤a))) (G4b O O O) O (JLm (BL (decide (0≤a))) O (G8 (c (Gs (fin1 BL h))))))

def G5d (s:G6) (x:Slot) (size:Int):Option Bool:=
 bnd (bif (((decide (0≤x.G1))&&(decide (x.G1 < (s.Columns.length:Int))))&&(decide (0≤x.Tier))) then Qr s.Columns x.G1 some else some default) fun a=>
 bnd (bif ((((decide (0≤x.G1))&&(decide (x.G1 < (s.Columns.length:Int))))&&(decide (0≤x.Tier)))&&(decide (x.Tier < a.Tiers))) then Gb0 size else some default) fun b=>
 bnd (bif ((((decide (0≤x.G1))&&(decide (x.G1 < (s.Columns.length:Int))))&&(decide (0≤x.Tier)))&&(decide (x.Tier < a.Tiers))) then Yz b x.Half else some default) fun c=>
 some (((((decide (0≤x.G1))&&(decide (x.G1 < (s.Columns.length:Int))))&&(decide (0≤x.Tier)))&&(decide (x.Tier < a.Tiers)))&&c)
theorem He5 (s:G6) (x:Slot) (size:Int) (r:Bool) (h:G5d s x size=some r):Pure Ek 54 [.agg (G6.cs s),.agg [I64 x.G1,I64 x.Tier,U8 x.Half],U8 size] (·=BL r):=by
 unfold G5d at h
 refine H3 [.tmp 6] Tryz.func54 O O (Jr fun d=>(JLh (.ptr 1084 0) (Ju (cs:=(G6.cs s)) 1084 O O O O O) O (JLh (.ptr 1085 0) (Ju (cs:=[I64 x.G1,I64 x.Tier,U8 x.Half]) 1085 O O O O O) O (JLm (BL false) O (G8 (d (Gu [(2,U8 size),(3,Ee s),(4,.ptr 1085 0)] [(1085,.box 50 [I64 x.G1,I64 x.Tier,U8 x.Half])] 1084 rfl rfl rfl ⟨⟨_,rfl,.boxEq rfl rfl⟩,G⟩ rfl (by exact⟨.conv (.same rfl),.ptr,.conv (.same rfl),G⟩) ?_)))))))
 refine Gu [(2,U8 size),(3,Ee s),(4,.dptr [I64 x.G1,I64 x.Tier,U8 x.Half])] [] 1085 rfl rfl rfl G rfl (by exact⟨.conv (.same rfl),.conv (.same rfl),.ptr,G⟩) (Js fun e=>?_)
 obtain⟨a,g,h⟩:=Gj h
 obtain⟨b,i,h⟩:=Gj h
 obtain⟨c,j,h⟩:=Gj h
 refine JC_d0 Ho (by kernel_rfl) (Dq (.dptr [I64 x.G1,I64 x.Tier,U8 x.Half]) (Gb Hu O O O) O (Dq (I64 x.G1) (Ge Gd O O O) O (Dq (BL (decide (0≤x.G1))) (G4b O O O) O (Dq (BL (decide (0≤x.G1))) (G7 O O) O (Do (.dptr [I64 x.G1,I64 x.Tier,U8 x.Half]) [] O .sct G (fun hc=>Gb Hu O O O) O (Do (I64 x.G1) [11] O .sct ⟨Ua,G⟩ (fun hc=>Ge Gd O O O) O (Do (Ee s) [] O .sct G (fun hc=>Gb Hh O O O) O (Do (E3 s.Columns) [13] O .sct ⟨Ua,G⟩ (fun hc=>Ge Hn O O O) O (Do (Ej s.Columns.length) [14] O .sct ⟨Ua,G⟩ (fun hc=>G2d (f:=G1.av) (xs:=s.Columns) Hk O O) O (Do (BL (decide (x.G1 < (s.Columns.length:Int)))) [12,15] O .sct ⟨Ua,Ua,G⟩ (fun hc=>Jq O O O) O (Dq (BL ((decide (0≤x.G1))&&(decide (x.G1 < (s.Columns.length:Int))))) (Jv O O O O) O (Dq (BL ((decide (0≤x.G1))&&(decide (x.G1 < (s.Columns.length:Int))))) (G7 O O) O (Do (.dptr [I64 x.Tier,U8 x.Half]) [] O .sct G (fun hc=>Gb Qm O O O) O ?_)))))))))))))
 refine Do (I64 x.Tier) [19] O .sct ⟨Ua,G⟩ (fun hc=>Ge Gd O O O) O (Do (BL (decide (0≤x.Tier))) [20] O .sct ⟨Ua,G⟩ (fun hc=>G4b O O O) O (Dq (BL (((decide (0≤x.G1))&&(decide (x.G1 < (s.Columns.length:Int))))&&(decide (0≤x.Tier)))) (Jv O O O O) O (Dq (BL (((decide (0≤x.G1))&&(decide (x.G1 < (s.Columns.length:Int))))&&(decide (0≤x.Tier)))) (G7 O O) O (Do (.dptr [I64 x.Tier,U8 x.Half]) [] O .sct G (fun hc=>Gb Qm O O O) O (Do (I64 x.Tier) [24] O .sct ⟨Ua,G⟩ (fun hc=>Ge Gd O O O) O (Do (Ee s) [] O .sct G (fun hc=>Gb Hh O O O) O (Do (E3 s.Columns) [26] O .sct ⟨Ua,G⟩ (fun hc=>Ge Hn O O O) O (Do (.dptr [I64 x.G1,I64 x.Tier,U8 x.Half]) [] O .sct G (fun hc=>Gb Hu O O O) O (Do (I64 x.G1) [28] O .sct ⟨Ua,G⟩ (fun hc=>Ge Gd O O O) O (Do (Eh a) [27,29] O .sct ⟨Ua,Ua,G⟩ (fun hc=>(match R1 (H1 hc g) with | ⟨_,hm_,hy_⟩=>H0 (f:=G1.av) (xs:=s.Columns) (y:=a) O O O Hk hy_ hm_)) O (Do (.dptr ((G1.cs a).drop 3)) [30] O .sct ⟨Ua,G⟩ (fun hc=>Gb G70 O O O) O (Do (I64 a.Tiers) [31] O .sct ⟨Ua,G⟩ (fun hc=>Ge Gd O O O) O (Do (BL (decide (x.Tier < a.Tiers))) [25,32] O .sct ⟨Ua,Ua,G⟩ (fun hc=>Jq O O O) O ?_)))))))))))))
 refine Dq (BL ((((decide (0≤x.G1))&&(decide (x.G1 < (s.Columns.length:Int))))&&(decide (0≤x.Tier)))&&(decide (x.Tier < a.Tiers)))) (Jv O O O O) O (Dq (BL ((((decide (0≤x.G1))&&(decide (x.G1 < (s.Columns.length:Int))))&&(decide (0≤x.Tier)))&&(decide (x.Tier < a.Tiers)))) (G7 O O) O (Do (U8 size) [] O .sct G (fun hc=>G7 O O) O (Do (Eb b) [36] O .sct ⟨Ua,G⟩ (fun hc=>Gw (args:=[U8 size]) O (Jbf size b (H1 hc i)) Qef ⟨O,O,G⟩) O (Do (.dptr [U8 x.Half]) [] O .sct G (fun hc=>Gb Je O O O) O (Do (U8 x.Half) [38] O .sct ⟨Ua,G⟩ (fun hc=>Ge Hm O O O) O (Do (BL c) [37,39] O .sct ⟨Ua,Ua,G⟩ (fun hc=>Gw (args:=[Eb b,U8 x.Half]) O (H4f b x.Half c (H1 hc j)) Qf0 ⟨O,O,O,O,G⟩) O (Dq (BL (((((decide (0≤x.G1))&&(decide (x.G1 < (s.Columns.length:Int))))&&(decide (0≤x.Tier)))&&(decide (x.Tier < a.Tiers)))&&c)) (Jv O O O O) O (Dq (BL (((((decide (0≤x.G1))&&(decide (x.G1 < (s.Columns.length:Int))))&&(decide (0≤x.Tier)))&&(decide (x.Tier < a.Tiers)))&&c)) (G9 O O) O (Dnil ?_)))))))))
 refine e (Gs (fin1 BL h))

def Y9 (s:List Slot) (v:Slot):Option Int:=
 each (fun b c (d:Unit) a=>
  bif decide (v=b) then
  (some (c:Int))
  else
  (a ()))
 (fun(d:Unit)=>
  some (-1)) s 0 ()
theorem H72 (s:List Slot) (v:Slot) (r:Int) (h:Y9 s v=some r):Pure Ek 137 [E9 s,.agg [I64 v.G1,I64 v.Tier,U8 v.Half]] (·=I64 r):=by
 unfold Y9 at h
 refine H3 [.tmp 4] Tryz.func137 O O (Jr fun w=>(JLh (.ptr 1153 0) (Ju (cs:=[I64 v.G1,I64 v.Tier,U8 v.Half]) 1153 O O O O O) O (JLm (I64 0) O (G8 (w (Gu [(0,E9 s),(3,.dptr [I64 v.G1,I64 v.Tier,U8 v.Half])] [] 1153 rfl rfl rfl G rfl (by exact⟨.conv (.same rfl),.ptr,G⟩) (Js fun x=>Jr fun z=>(JLm (E9 s) O (JLl Rj O O O fun a0=>(JLm (I64 0) O (G8 (z (Gx ?_)))))))))))))
 obtain⟨a1,i,j,g,h⟩:=Jf h
 refine Hs (fun a (c:Unit)=>each a1 i (List.drop a s) a c=some r) (fun a c=>[(0,E9 s),(3,.dptr [I64 v.G1,I64 v.Tier,U8 v.Half]),(7,Ej s.length),(8,Ej a)]) (fun a c=>[]) (fun a=>s.length - a) 0 () h ⟨(.sm O O),G,rfl⟩ ?_
 clear h
 intro a c d a4 a2
 refine Jr fun k=>(JLh (BL (decide ((a:Int) < (s.length:Int)))) (Jq O O O) O (G8 (k (Js fun l=>Gp O (fun hb=>?_) (fun hb=>?_)))))
 ·
  have e:=Q4 hb
  obtain⟨b,a3,m,n,h⟩:=Hz d e
  replace h:=Zi j h
  refine Gn (l (Js fun o=>Gx (Jr fun p=>(JLm (Ej a) O (JLm (Ej a) O (G8 (p (Js fun q=>JC_d0 Ho (by kernel_rfl) (Dq (.agg [I64 v.G1,I64 v.Tier,U8 v.Half]) (Gt Hx O O O) O (Dq (E9 s) (G7 O O) O (Dq (Ej a) (G7 O O) O (Dq (Ei b) (H0 (f:=Slot.av) (xs:=s) (y:=b) O O O Rj m O) O (Dq (.agg (Slot.cs b)) (Gt Hx O O O) O (Dq (BL (decide (v=b))) (Jd7 (vs:=[.int .i64 v.G1,.int .i64 v.Tier,.int .u8 v.Half]) (us:=[.int .i64 b.G1,.int .i64 b.Tier,.int .u8 b.Half]) 4 O (Qd3 v b) H52 Hec O O O) O (Dnil (q (JCc O h (fun h hb=>?_) (fun h hb=>?_))))))))))))))))))
  ·
   refine Jr fun t=>(JLm (Ej a) O (JLm (Ej a) O (G8 (t (Gs (fin1 I64 h))))))
  ·
   refine Gn (o (G2 (JLh (I64 ((a+1:Nat):Int)) (Jo (Hw e a0) O O O) O (JLm (I64 ((a+1:Nat):Int)) O (G8 (a2 _ _ (a+1) () (app1 n h) (by omega) ⟨(.sm O O),G,rfl⟩))))))
 ·
  have h:=app1 g (J0 d (Hd hb))
  refine Hy (x (Jr fun u=>(JLm (I64 (-1)) O (G8 (u (Gs (fin1 I64 h)))))))

def Qg (s:List Slot) (v:Slot):Option Bool:=
 bnd (Y9 s v) fun a=>
 some (decide (0≤a))
theorem H28 (s:List Slot) (v:Slot) (r:Bool) (h:Qg s v=some r):Pure Ek 104 [E9 s,.agg [I64 v.G1,I64 v.Tier,U8 v.Half]] (·=BL r):=by
 unfold Qg at h
 refine H3 [.tmp 4] Tryz.func104 O O (Jr fun b=>(JLh (.ptr 1129 0) (Ju (cs:=[I64 v.G1,I64 v.Tier,U8 v.Half]) 1129 O O O O O) O (JLm (BL false) O (G8 (b (Gu [(0,E9 s),(3,.dptr [I64 v.G1,I64 v.Tier,U8 v.Half])] [] 1129 rfl rfl rfl G rfl (by exact⟨.conv (.same rfl),.ptr,G⟩) (Jr fun c=>(JLm (E9 s) O (JLh (.agg [I64 v.G1,I64 v.Tier,U8 v.Half]) (Gt Hx O O O) O ?_)))))))))
 obtain⟨a,d,h⟩:=Gj h
 refine JLh (I64 a) (Gw O (H72 s v a d) Qe3 ⟨O,O,O,O,G⟩) O (JLh (BL (decide (0≤a))) (G4b O O O) O (JLm (BL (decide (0≤a))) O (G8 (c (Gs (fin1 BL h))))))

def Z5 (half:Int) (b:List Slot) (a:Slot):Option Bool:=
 chk (a.Tier - 1) fun c=>
 bnd (Qg b (Slot.mk a.G1 c half)) fun d=>
 some d
theorem H15 (half:Int) (b:List Slot) (a:Slot) (r:Bool) (h:Z5 half b a=some r):Pure Ek 103 [U8 half,.dptr [E9 b],.dptr [I64 a.G1,I64 a.Tier,U8 a.Half]] (·=BL r):=by
 unfold Z5 at h
 refine H3 [.tmp 4] Tryz.func103 O O (Jr fun e=>(JLm (BL false) O (G8 (e (Jr fun f=>(JLh (E9 b) (Ge H62 O O O) O (JLh (.dptr [I64 a.G1,I64 a.Tier,U8 a.Half]) (Gb Hu O O O) O (JLh (I64 a.G1) (Ge Gd O O O) O (JLh (.dptr [I64 a.Tier,U8 a.Half]) (Gb Qm O O O) O (JLh (I64 a.Tier) (Ge Gd O O O) O ?_))))))))))
 obtain⟨c,g,h⟩:=Zw h
 refine JLh (I64 c) (H90 g O O O) O (JLm (U8 half) O (JLh (.agg [I64 a.G1,I64 c,U8 half]) (Hj (cs:=[I64 a.G1,I64 c,U8 half]) [(0,1),(1,1),(2,1)] [I64 0,I64 0,U8 0] [E0,E0,.int .u8 0] H21 H31 (zzQ O) O O) O ?_))
 obtain⟨d,i,h⟩:=Gj h
 refine JLh (BL d) (Gw O (H28 b (Slot.mk a.G1 c half) d i) Qee ⟨O,O,O,O,G⟩) O (JLm (BL d) O (G8 (f (Gs (fin1 BL h)))))

def G3e (x:Slot) (l:List Slot):Option Bool:=
 bif decide (x.Tier≤0) then
 (some true)
 else
 (bnd (Z5 x.Half l x) fun a=>
  bnd (bif ((!a)&&(decide (x.Half=0))) then Z5 1 l x else some default) fun b=>
  bnd (bif ((!a)&&((decide (x.Half=0))&&b)) then Z5 2 l x else some default) fun c=>
  some (a||(((decide (x.Half=0))&&b)&&c)))
abbrev Eo (l:List Slot) (x:Slot):List AV:=[.dptr [E9 l],.dptr [I64 x.G1,I64 x.Tier,U8 x.Half]]
theorem J13 (x:Slot) (l:List Slot) (r:Bool) (h:G3e x l=some r):Pure Ek 55 [.agg [I64 x.G1,I64 x.Tier,U8 x.Half],E9 l] (·=BL r):=by
 unfold G3e at h
 refine H3 [.tmp 4] Tryz.func55 O O (Jr fun d=>(JLh (.ptr 1086 0) (Ju (cs:=[I64 x.G1,I64 x.Tier,U8 x.Half]) 1086 O O O O O) O (JLh (.ptr 1087 0) (Ju (cs:=[E9 l]) 1087 O O O O O) O (JLm (BL false) O (G8 (d (Gu [(2,.dptr [I64 x.G1,I64 x.Tier,U8 x.Half]),(3,.ptr 1087 0)] [(1087,.box 106 [E9 l])] 1086 rfl rfl rfl ⟨⟨_,rfl,.boxEq rfl rfl⟩,G⟩ rfl (by exact⟨.ptr,.conv (.same rfl),G⟩) (Gu [(2,.dptr [I64 x.G1,I64 x.Tier,U8 x.Half]),(3,.dptr [E9 l])] [] 1087 rfl rfl rfl G rfl (by exact⟨.conv (.same rfl),.ptr,G⟩) (Js fun e=>Jr fun f=>(JLh (.dptr [I64 x.Tier,U8 x.Half]) (Gb Qm O O O) O (JLh (I64 x.Tier) (Ge Gd O O O) O (JLh (BL (decide (x.Tier≤0))) (H61 O O O) O (G8 (f ?_))))))))))))))
 refine JCc O h ?_ ?_<;>intro h hb
 ·
  refine Jr fun g=>(JLm (BL true) O (G8 (g (Gs (fin1 BL h)))))
 ·
  refine Gn (e (Jr fun i=>(JLh (.fn 103 (Eo l x)) (R0 (cs:=(Eo l x)) O O) O (JLm (.fn 103 (Eo l x)) O (G8 (i (Jr fun j=>(JLm (.fn 103 (Eo l x)) O (JLh (.dptr [U8 x.Half]) (Gb Je O O O) O (JLh (U8 x.Half) (Ge Hm O O O) O ?_))))))))))
  obtain⟨b,k,h⟩:=Gj h
  refine JLh (BL b) (G56 (args:=[U8 x.Half]) (caps:=(Eo l x)) O O (H15 x.Half l x b k) Hd1 ⟨O,O,G⟩ O) O (JLm (BL b) O (JLo (.dptr [U8 x.Half]) [] O .scf G (fun hc=>Gb Je O O O) O (JLo (U8 x.Half) [15] O .scf ⟨Ua,G⟩ (fun hc=>Ge Hm O O O) O (JLo (BL (decide (x.Half=0))) [16] O .scf ⟨Ua,G⟩ (fun hc=>Jk O O O) O (JLo (BL (decide (x.Half=0))) [17] O .scf ⟨Ua,G⟩ (fun hc=>G7 O O) O (JLo (.fn 103 (Eo l x)) [] O .optt G (fun hc=>G7 O O) O ?_))))))
  obtain⟨a,m,h⟩:=Gj h
  refine JLo (BL a) [19] O .optt ⟨Ua,G⟩ (fun hc=>G56 (args:=[U8 1]) (caps:=(Eo l x)) O O (H15 1 l x a (H1 hc m)) Hd1 ⟨O,O,G⟩ O) O (Gf (u:=BL ((decide (x.Half=0))&&a)) [(18,BL (decide (x.Half=0))),(20,_)] O O O .scf ⟨.all id,.part,G⟩ (fun hc=>Jv O O O O) ?_)
  refine JLo (BL ((decide (x.Half=0))&&a)) [21] O .scf ⟨Ua,G⟩ (fun hc=>G7 O O) O (JLo (.fn 103 (Eo l x)) [] O .optt G (fun hc=>G7 O O) O ?_)
  obtain⟨c,n,h⟩:=Gj h
  refine JLo (BL c) [23] O .optt ⟨Ua,G⟩ (fun hc=>G56 (args:=[U8 2]) (caps:=(Eo l x)) O O (H15 2 l x c (H1 hc n)) Hd1 ⟨O,O,G⟩ O) O (Gf (u:=BL (((decide (x.Half=0))&&a)&&c)) [(22,BL ((decide (x.Half=0))&&a)),(24,_)] O O O .scf ⟨.all id,.part,G⟩ (fun hc=>Jv O O O O) ?_)
  refine JLh (BL (b||(((decide (x.Half=0))&&a)&&c))) (Ya O O O O) O (JLm (BL (b||(((decide (x.Half=0))&&a)&&c))) O (G8 (j (Gs (fin1 BL h)))))

def G74 (a:Int) (b:Int):Option Bool:=
 some (((decide (a=b))||(decide (a=0)))||(decide (b=0)))
theorem Hbf (a:Int) (b:Int) (r:Bool) (h:G74 a b=some r):Pure Ek 105 [U8 a,U8 b] (·=BL r):=by
 unfold G74 at h
 refine H3 [.tmp 4] Tryz.func105 O O (Jr fun c=>(JLm (BL false) O (G8 (c (Jr fun d=>(JLm (U8 a) O (JLm (U8 b) O (JLh (BL (decide (a=b))) (Jk O O O) O (JLm (BL (decide (a=b))) O (JLo (U8 a) [] O .scf G (fun hc=>G7 O O) O (JLo (BL (decide (a=0))) [9] O .scf ⟨Ua,G⟩ (fun hc=>Jk O O O) O (JLh (BL ((decide (a=b))||(decide (a=0)))) (Ya O O O O) O (JLm (BL ((decide (a=b))||(decide (a=0)))) O (JLo (U8 b) [] O .scf G (fun hc=>G7 O O) O (JLo (BL (decide (b=0))) [13] O .scf ⟨Ua,G⟩ (fun hc=>Jk O O O) O (JLh (BL (((decide (a=b))||(decide (a=0)))||(decide (b=0)))) (Ya O O O O) O (JLm (BL (((decide (a=b))||(decide (a=0)))||(decide (b=0)))) O (G8 (d (Gs (fin1 BL h)))))))))))))))))))))

def Gcc (a:Slot) (b:Slot):Option Bool:=
 bnd (bif ((decide (a.G1=b.G1))&&(decide (a.Tier=b.Tier))) then G74 a.Half b.Half else some default) fun c=>
 some (((decide (a.G1=b.G1))&&(decide (a.Tier=b.Tier)))&&c)
theorem J12 (a:Slot) (b:Slot) (r:Bool) (h:Gcc a b=some r):Pure Ek 56 [.agg [I64 a.G1,I64 a.Tier,U8 a.Half],.agg [I64 b.G1,I64 b.Tier,U8 b.Half]] (·=BL r):=by
 unfold Gcc at h
 refine H3 [.tmp 4] Tryz.func56 O O (Jr fun d=>(JLh (.ptr 1088 0) (Ju (cs:=[I64 a.G1,I64 a.Tier,U8 a.Half]) 1088 O O O O O) O (JLh (.ptr 1089 0) (Ju (cs:=[I64 b.G1,I64 b.Tier,U8 b.Half]) 1089 O O O O O) O (JLm (BL false) O (G8 (d (Gu [(2,.dptr [I64 a.G1,I64 a.Tier,U8 a.Half]),(3,.ptr 1089 0)] [(1089,.box 50 [I64 b.G1,I64 b.Tier,U8 b.Half])] 1088 rfl rfl rfl ⟨⟨_,rfl,.boxEq rfl rfl⟩,G⟩ rfl (by exact⟨.ptr,.conv (.same rfl),G⟩) (Gu [(2,.dptr [I64 a.G1,I64 a.Tier,U8 a.Half]),(3,.dptr [I64 b.G1,I64 b.Tier,U8 b.Half])] [] 1089 rfl rfl rfl G rfl (by exact⟨.conv (.same rfl),.ptr,G⟩) ?_))))))))
 refine Jr fun e=>(JLh (.dptr [I64 a.G1,I64 a.Tier,U8 a.Half]) (Gb Hu O O O) O (JLh (I64 a.G1) (Ge Gd O O O) O (JLh (.dptr [I64 b.G1,I64 b.Tier,U8 b.Half]) (Gb Hu O O O) O (JLh (I64 b.G1) (Ge Gd O O O) O (JLh (BL (decide (a.G1=b.G1))) (Jk O O O) O (JLm (BL (decide (a.G1=b.G1))) O (JLo (.dptr [I64 a.Tier,U8 a.Half]) [] O .sct G (fun hc=>Gb Qm O O O) O (JLo (I64 a.Tier) [11] O .sct ⟨Ua,G⟩ (fun hc=>Ge Gd O O O) O (JLo (.dptr [I64 b.Tier,U8 b.Half]) [] O .sct G (fun hc=>Gb Qm O O O) O (JLo (I64 b.Tier) [13] O .sct ⟨Ua,G⟩ (fun hc=>Ge Gd O O O) O (JLo (BL (decide (a.Tier=b.Tier))) [12,14] O .sct ⟨Ua,Ua,G⟩ (fun hc=>Jk O O O) O (JLh (BL ((decide (a.G1=b.G1))&&(decide (a.Tier=b.Tier)))) (Jv O O O O) O (JLm (BL ((decide (a.G1=b.G1))&&(decide (a.Tier=b.Tier)))) O ?_)))))))))))))
 refine JLo (.dptr [U8 a.Half]) [] O .sct G (fun hc=>Gb Je O O O) O (JLo (U8 a.Half) [18] O .sct ⟨Ua,G⟩ (fun hc=>Ge Hm O O O) O (JLo (.dptr [U8 b.Half]) [] O .sct G (fun hc=>Gb Je O O O) O (JLo (U8 b.Half) [20] O .sct ⟨Ua,G⟩ (fun hc=>Ge Hm O O O) O ?_)))
 obtain⟨c,f,h⟩:=Gj h
 refine JLo (BL c) [19,21] O .sct ⟨Ua,Ua,G⟩ (fun hc=>Gw (args:=[U8 a.Half,U8 b.Half]) O (Hbf a.Half b.Half c (H1 hc f)) J9b ⟨O,O,O,O,G⟩) O (JLh (BL (((decide (a.G1=b.G1))&&(decide (a.Tier=b.Tier)))&&c)) (Jv O O O O) O (JLm (BL (((decide (a.G1=b.G1))&&(decide (a.Tier=b.Tier)))&&c)) O (G8 (e (Gs (fin1 BL h))))))

def H0b (a:Slot) (b:Slot):Option Bool:=
 bnd (bif ((decide (a.G1=b.G1))&&(decide (b.Tier < a.Tier))) then G74 a.Half b.Half else some default) fun c=>
 some (((decide (a.G1=b.G1))&&(decide (b.Tier < a.Tier)))&&c)
theorem Q6b (a:Slot) (b:Slot) (r:Bool) (h:H0b a b=some r):Pure Ek 79 [.agg [I64 a.G1,I64 a.Tier,U8 a.Half],.agg [I64 b.G1,I64 b.Tier,U8 b.Half]] (·=BL r):=by
 unfold H0b at h
 refine H3 [.tmp 4] Tryz.func79 O O (Jr fun d=>(JLh (.ptr 1114 0) (Ju (cs:=[I64 a.G1,I64 a.Tier,U8 a.Half]) 1114 O O O O O) O (JLh (.ptr 1115 0) (Ju (cs:=[I64 b.G1,I64 b.Tier,U8 b.Half]) 1115 O O O O O) O (JLm (BL false) O (G8 (d (Gu [(2,.dptr [I64 a.G1,I64 a.Tier,U8 a.Half]),(3,.ptr 1115 0)] [(1115,.box 50 [I64 b.G1,I64 b.Tier,U8 b.Half])] 1114 rfl rfl rfl ⟨⟨_,rfl,.boxEq rfl rfl⟩,G⟩ rfl (by exact⟨.ptr,.conv (.same rfl),G⟩) (Gu [(2,.dptr [I64 a.G1,I64 a.Tier,U8 a.Half]),(3,.dptr [I64 b.G1,I64 b.Tier,U8 b.Half])] [] 1115 rfl rfl rfl G rfl (by exact⟨.conv (.same rfl),.ptr,G⟩) ?_))))))))
 refine Jr fun e=>(JLh (.dptr [I64 a.G1,I64 a.Tier,U8 a.Half]) (Gb Hu O O O) O (JLh (I64 a.G1) (Ge Gd O O O) O (JLh (.dptr [I64 b.G1,I64 b.Tier,U8 b.Half]) (Gb Hu O O O) O (JLh (I64 b.G1) (Ge Gd O O O) O (JLh (BL (decide (a.G1=b.G1))) (Jk O O O) O (JLm (BL (decide (a.G1=b.G1))) O (JLo (.dptr [I64 a.Tier,U8 a.Half]) [] O .sct G (fun hc=>Gb Qm O O O) O (JLo (I64 a.Tier) [11] O .sct ⟨Ua,G⟩ (fun hc=>Ge Gd O O O) O (JLo (.dptr [I64 b.Tier,U8 b.Half]) [] O .sct G (fun hc=>Gb Qm O O O) O (JLo (I64 b.Tier) [13] O .sct ⟨Ua,G⟩ (fun hc=>Ge Gd O O O) O (JLo (BL (decide (b.Tier < a.Tier))) [12,14] O .sct ⟨Ua,Ua,G⟩ (fun hc=>G08 O O O) O (JLh (BL ((decide (a.G1=b.G1))&&(decide (b.Tier < a.Tier)))) (Jv O O O O) O (JLm (BL ((decide (a.G1=b.G1))&&(decide (b.Tier < a.Tier)))) O ?_)))))))))))))
 refine JLo (.dptr [U8 a.Half]) [] O .sct G (fun hc=>Gb Je O O O) O (JLo (U8 a.Half) [18] O .sct ⟨Ua,G⟩ (fun hc=>Ge Hm O O O) O (JLo (.dptr [U8 b.Half]) [] O .sct G (fun hc=>Gb Je O O O) O (JLo (U8 b.Half) [20] O .sct ⟨Ua,G⟩ (fun hc=>Ge Hm O O O) O ?_)))
 obtain⟨c,f,h⟩:=Gj h
 refine JLo (BL c) [19,21] O .sct ⟨Ua,Ua,G⟩ (fun hc=>Gw (args:=[U8 a.Half,U8 b.Half]) O (Hbf a.Half b.Half c (H1 hc f)) J9b ⟨O,O,O,O,G⟩) O (JLh (BL (((decide (a.G1=b.G1))&&(decide (b.Tier < a.Tier)))&&c)) (Jv O O O O) O (JLm (BL (((decide (a.G1=b.G1))&&(decide (b.Tier < a.Tier)))&&c)) O (G8 (e (Gs (fin1 BL h))))))
end
end Go.Proofs.YtmfhaflabpnaoaaGreat
