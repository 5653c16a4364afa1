/-
 Models of functions of the program,and that they return what the models say.
-/
import Derived.Test.YteogacmpgdpjlaaGreatSortLay
import Derived.Test.YteogacmpgdpjlaaGreatLent
set_option maxRecDepth 100000
namespace Go.Proofs.YteogacmpgdpjlaaGreat
open Go.RowKit
noncomputable section
abbrev En:=Tryz.prog
structure Hw where
 n:Int
 low:Int
 high:Int
 deriving DecidableEq,Inhabited
def Hw.cs (x:Hw):List AV:=[G0 x.n,G0 x.low,G0 x.high]
def Hw.av (x:Hw):AV:=.agg x.cs
structure G4 where
 Bay:Int
 Row:Int
 Deck:Bool
 Tiers:Int
 Height:Int
 Kilos20:Int
 Kilos40:Int
 Lash:Int
 Plugs:List Int
 X:Int
 Y:Int
 Z:Int
 deriving DecidableEq,Inhabited
def G4.cs (x:G4):List AV:=[G0 x.Bay,G0 x.Row,BL x.Deck,G0 x.Tiers,G0 x.Height,G0 x.Kilos20,G0 x.Kilos40,G0 x.Lash,E1 x.Plugs,G0 x.X,G0 x.Y,G0 x.Z]
def G4.av (x:G4):AV:=.agg x.cs
abbrev Ef (x:G4):AV:=.dptr (G4.cs x)
abbrev E5:=LS 12 G4.av
structure Ge where
 Bay:Int
 Rows:List Int
 deriving DecidableEq,Inhabited
def Ge.cs (x:Ge):List AV:=[G0 x.Bay,E1 x.Rows]
def Ge.av (x:Ge):AV:=.agg x.cs
abbrev E4:=LS 2 Ge.av
structure Light where
 Kilos:Int
 X:Int
 Y:Int
 Z:Int
 deriving DecidableEq,Inhabited
def Light.cs (x:Light):List AV:=[G0 x.Kilos,G0 x.X,G0 x.Y,G0 x.Z]
def Light.av (x:Light):AV:=.agg x.cs
structure Row where
 Draught:Int
 Kilos:Int
 Buoy:Int
 Metacentre:Int
 J1d:Int
 deriving DecidableEq,Inhabited
def Row.cs (x:Row):List AV:=[G0 x.Draught,G0 x.Kilos,G0 x.Buoy,G0 x.Metacentre,G0 x.J1d]
def Row.av (x:Row):AV:=.agg x.cs
abbrev E7:=LS 5 Row.av
structure Frame where
 X:Int
 Light:Int
 Share:Int
 Shear:Int
 Bend:Int
 deriving DecidableEq,Inhabited
def Frame.cs (x:Frame):List AV:=[G0 x.X,G0 x.Light,G0 x.Share,G0 x.Shear,G0 x.Bend]
def Frame.av (x:Frame):AV:=.agg x.cs
abbrev E6:=LS 5 Frame.av
structure Gp where
 Kilos:Int
 X:Int
 Y:Int
 Z:Int
 Surface:Int
 Steps:List Int
 deriving DecidableEq,Inhabited
def Gp.cs (x:Gp):List AV:=[G0 x.Kilos,G0 x.X,G0 x.Y,G0 x.Z,G0 x.Surface,E1 x.Steps]
def Gp.av (x:Gp):AV:=.agg x.cs
abbrev Ej (x:Gp):AV:=.dptr (Gp.cs x)
abbrev E8:=LS 6 Gp.av
structure G3 where
 Tolerance:Int
 Trim:Int
 List_:Int
 Stability:Int
 deriving DecidableEq,Inhabited
def G3.cs (x:G3):List AV:=[G0 x.Tolerance,G0 x.Trim,G0 x.List_,G0 x.Stability]
def G3.av (x:G3):AV:=.agg x.cs
structure H8 where
 Columns:List G4
 Covers:List Ge
 Light:Light
 Rows:List Row
 Frames:List Frame
 Tanks:List Gp
 G3:G3
 deriving DecidableEq,Inhabited
def H8.cs (x:H8):List AV:=[E5 x.Columns,E4 x.Covers,G0 x.Light.Kilos,G0 x.Light.X,G0 x.Light.Y,G0 x.Light.Z,E7 x.Rows,E6 x.Frames,E8 x.Tanks,G0 x.G3.Tolerance,G0 x.G3.Trim,G0 x.G3.List_,G0 x.G3.Stability]
def H8.av (x:H8):AV:=.agg x.cs
abbrev Ed (x:H8):AV:=.dptr (H8.cs x)
structure Hn where
 e0:Int
 e1:Int
 e2:Int
 deriving DecidableEq,Inhabited
def Hn.cs (x:Hn):List AV:=[G0 x.e0,G0 x.e1,G0 x.e2]
def Hn.av (x:Hn):AV:=.agg x.cs
def Hn.ks (x:Hn):List Value:=[.int .i64 x.e0,.int .i64 x.e1,.int .i64 x.e2]
def Hn.kv (x:Hn):Value:=.agg x.ks.toArray
namespace XAF
theorem tq_138 (a b:Hn):H61 En 4 138 [.int .i64 a.e0,.int .i64 a.e1,.int .i64 a.e2] [.int .i64 b.e0,.int .i64 b.e1,.int .i64 b.e2]=some (decide (a=b)):=by
 refine(show _=some ((a.e0==b.e0)&&((a.e1==b.e1)&&((a.e2==b.e2)&&true))) by kernel_rfl).trans (congrArg some ?_)
 rw [Bool.eq_iff_iff]
 simp only [Bool.and_eq_true,beq_iff_eq,decide_eq_true_eq,Bool.and_true]
 constructor
 ·intro h; obtain⟨_,_,_⟩:=a; obtain⟨_,_,_⟩:=b; simp_all
 ·intro h; subst h; simp
theorem Qfd:Gf9 En 172 3=true:=by kernel_rfl
theorem Yc:Gf9 En 53 12=true:=by kernel_rfl
theorem Z8:Gf9 En 55 2=true:=by kernel_rfl
theorem Q2c:arrB En 138 3 1=true:=by kernel_rfl
theorem Jc8:Hb En 123=true:=by kernel_rfl
theorem Qd9:Hb En 76=true:=by kernel_rfl
theorem Hf9:Qa En 172 0 0=true:=by kernel_rfl
theorem Q0b:Qa En 172 1 1=true:=by kernel_rfl
theorem Q0a:Qa En 172 2 2=true:=by kernel_rfl
theorem Hi:Qa En 32 0 0=true:=by kernel_rfl
theorem Jp:Qa En 32 1 1=true:=by kernel_rfl
theorem Rr:Qa En 53 0 0=true:=by kernel_rfl
theorem G27:Qa En 53 1 1=true:=by kernel_rfl
theorem Gf2:Qa En 53 10 10=true:=by kernel_rfl
theorem Gf1:Qa En 53 11 11=true:=by kernel_rfl
theorem Yb:Qa En 53 2 2=true:=by kernel_rfl
theorem G26:Qa En 53 3 3=true:=by kernel_rfl
theorem G49:Qa En 53 4 4=true:=by kernel_rfl
theorem H1a:Qa En 53 5 5=true:=by kernel_rfl
theorem H19:Qa En 53 6 6=true:=by kernel_rfl
theorem H18:Qa En 53 7 7=true:=by kernel_rfl
theorem Rq:Qa En 53 8 8=true:=by kernel_rfl
theorem H17:Qa En 53 9 9=true:=by kernel_rfl
theorem Ya:Qa En 55 0 0=true:=by kernel_rfl
theorem Qd:Qa En 55 1 1=true:=by kernel_rfl
theorem Gda:Gf7 En 137 138 3=true:=by kernel_rfl
theorem Jb:En.follows .mixedOrders=true:=by kernel_rfl
theorem Ze:placesOf En 172=some [(0,1),(1,1),(2,1)]:=by kernel_rfl
theorem Ho:Ym En 22=true:=by kernel_rfl
theorem Q4:Ym En 23=true:=by kernel_rfl
theorem Gc:Ym En 3=true:=by kernel_rfl
theorem R5:Ym En 4=true:=by kernel_rfl
theorem J2:Ym En 51=true:=by kernel_rfl
theorem Q85:Yp En 172 3=true:=by kernel_rfl
theorem Ga0:Yp En 53 12=true:=by kernel_rfl
theorem Gd9:Yp En 55 2=true:=by kernel_rfl
theorem H3e:sliceB En 170 172 3=true:=by kernel_rfl
theorem H3d:sliceB En 180 5 1=true:=by kernel_rfl
theorem H7:sliceB En 22 53 12=true:=by kernel_rfl
theorem Hu:sliceB En 23 55 2=true:=by kernel_rfl
theorem H4:sliceB En 51 3 1=true:=by kernel_rfl
theorem Jbe:(En.info? 138).bind (fun i=>i.zero.map Value.cells)=some (List.toArray [.int .i64 0,.int .i64 0,.int .i64 0]):=by kernel_rfl
theorem G2e:(En.info? 172).bind (fun i=>i.zero.map Value.cells)=some (List.toArray [.int .i64 0,.int .i64 0,.int .i64 0]):=by kernel_rfl
theorem Hc8:Yo En 172 3=true:=by kernel_rfl
theorem Q07:Yo En 5 1=true:=by kernel_rfl
theorem G5e:Yo En 53 12=true:=by kernel_rfl
theorem G7b:Yo En 55 2=true:=by kernel_rfl
theorem J2b:(En.info? 3).bind (·.zero)=some (.int .i64 0):=by kernel_rfl
theorem J9f:H4d En 138 Hn.kv:=H4d.of_eq Hn.ks (by kernel_rfl) (fun a b h=>by simp only [Hn.ks,List.cons.injEq,Value.int.injEq,Value.bool.injEq,Value.string.injEq,true_and,and_true] at h; obtain⟨_,_,_⟩:=a; obtain⟨_,_,_⟩:=b; simp_all) 4 (by decide) (fun a b=>tq_138 a b) (fun a=>by kernel_rfl) (fun a=>by simp [Instr.sameBits,Hn.ks])
end XAF
open XAF

def G76 (l:List Hw):Option Bool:=
 each (fun y18 i18 (s18:Unit) nx18=>
  bif ((decide (y18.n < y18.low))||(decide (y18.high < y18.n))) then
  (some false)
  else
  (nx18 ()))
 (fun(s18:Unit)=>
  some true) l 0 ()
theorem Hbf (l:List Hw) (r:Bool) (h:G76 l=some r):Pure En 123 [LS 3 Hw.av l] (·=BL r):=by
 unfold G76 at h
 refine H0 [.tmp 2] Tryz.func123 O O (Jr fun hK1=>(JLm (BL false) O (G8 (hK1 (Js fun hK2=>Jr fun hK3=>(JLm (LS 3 Hw.av l) O (JLl H3e O O O fun hm6=>(JLm (G0 0) O (G8 (hK3 (Gk ?_)))))))))))
 obtain⟨b18,kx18,hb18,hkx18,h⟩:=J4 h
 refine H6 (fun i18 (s18:Unit)=>each b18 kx18 (List.drop i18 l) i18 s18=some r) (fun i18 s18=>[(5,LS 3 Hw.av l),(6,Em l.length),(7,Em i18)]) (fun i18 s18=>[]) (fun i18=>l.length - i18) 0 () h ⟨⟨.same O,.same O,.same O,G⟩,G,O⟩ ?_
 clear h
 intro i18 s18 hi18 K18 e18
 refine Jr fun hK19=>(JLh (BL (decide ((i18:Int) < (l.length:Int)))) (Hy O O O) O (G8 (hK19 (Js fun hK20=>Gj O (fun hb=>?_) (fun hb=>?_)))))
 ·
  have hk18:=Je hb
  obtain⟨y18,nx18,hy18,hn18,h⟩:=Hs hi18 hk18
  replace h:=Y8 hb18 h
  refine Gm (hK20 (Js fun hK21=>Gk (Jr fun hK22=>(JLh (.dptr [G0 y18.n,G0 y18.low,G0 y18.high]) (Gs (f:=Hw.av) (xs:=l) (y:=y18) O O O H3e hy18 O) O (JLh (.agg [G0 y18.n,G0 y18.low,G0 y18.high]) (Gi Qfd O O O) O (JLh (.ptr 1172 0) (Ju 1172 3 Hc8 O O) O (Ja (u:=.junk) (J0 (u:=.agg [G0 y18.n,G0 y18.low,G0 y18.high]) (ds:=[G0 y18.n,G0 y18.low,G0 y18.high]) Q85 O O O O O O O O) (G8 (hK22 (Gx [(4,.dptr [G0 y18.n,G0 y18.low,G0 y18.high]),(5,LS 3 Hw.av l),(6,Em l.length),(7,Em i18)] [] 1172 rfl rfl rfl G rfl (by repeat' (first | exact .ptr | constructor)) ?_))))))))))
  refine Jr fun hK23=>(JLh (.dptr [G0 y18.n,G0 y18.low,G0 y18.high]) (Ga Hf9 O O O) O (JLh (G0 y18.n) (Gh Gc O O O) O (JLh (.dptr [G0 y18.low,G0 y18.high]) (Ga Q0b O O O) O (JLh (G0 y18.low) (Gh Gc O O O) O (JLh (BL (decide (y18.n < y18.low))) (Hy O O O) O (JLm (BL (decide (y18.n < y18.low))) O (JLo (.dptr [G0 y18.n,G0 y18.low,G0 y18.high]) [] O .scf G (fun hc=>Ga Hf9 O O O) O (JLo (G0 y18.n) [17] O .scf ⟨Ua,G⟩ (fun hc=>Gh Gc O O O) O (JLo (.dptr [G0 y18.high]) [] O .scf G (fun hc=>Ga Q0a O O O) O (JLo (G0 y18.high) [19] O .scf ⟨Ua,G⟩ (fun hc=>Gh Gc O O O) O (JLo (BL (decide (y18.high < y18.n))) [18,20] O .scf ⟨Ua,Ua,G⟩ (fun hc=>G4d O O O) O (JLh (BL ((decide (y18.n < y18.low))||(decide (y18.high < y18.n)))) (Y7 O O O O) O (G8 (hK23 ?_))))))))))))))
  refine JCc O h (fun h hb=>?_) (fun h hb=>?_)
  ·
   refine Jr fun hK24=>(JLm (BL false) O (G8 (hK24 (Gt (fin1 BL h)))))
  ·
   refine Gm (hK21 (G2 (JLh (G0 ((i18+1:Nat):Int)) (Hx (Hc hk18 hm6) O O O) O (JLm (G0 ((i18+1:Nat):Int)) O (G8 (e18 _ _ (i18+1) () (app1 hn18 h) (by omega) ⟨⟨.same rfl,.same rfl,.same rfl,G⟩,G,rfl⟩))))))
 ·
  have h:=app1 hkx18 (Ht hi18 (H9 hb))
  refine Hd (hK2 (Jr fun hK25=>(JLm (BL true) O (G8 (hK25 (Gt (fin1 BL h)))))))

def Gb6 (c:G4):Option Bool:=
 each (fun y27 i27 (s27:Unit) nx27=>
  wrp (c.Tiers - 1) fun v33=>
  bnd (G76 [(Hw.mk y27 0 v33)]) fun r34=>
  bnd (bif ((!(!r34))&&(decide (0 < (i27:Int)))) then some (IntKind.i64.wrap ((i27:Int) - 1)) else some 0) fun v35=>
  bnd (bif ((!(!r34))&&(decide (0 < (i27:Int)))) then Jc c.Plugs v35 some else some default) fun y36=>
  bif ((!r34)||((decide (0 < (i27:Int)))&&(decide (y27≤y36)))) then
  (some false)
  else
  (nx27 ()))
 (fun(s27:Unit)=>
  bnd (G76 [(Hw.mk c.Bay 0 39),(Hw.mk c.Row 0 30),(Hw.mk c.Tiers 1 10),(Hw.mk c.Height 0 40000),(Hw.mk c.Kilos20 0 500000000),(Hw.mk c.Kilos40 0 500000000),(Hw.mk c.Lash 0 1000000000000),(Hw.mk c.X (-500000) 500000),(Hw.mk c.Y (-500000) 500000),(Hw.mk c.Z (-500000) 500000)]) fun r39=>
  some r39) c.Plugs 0 ()
theorem Q54 (c:G4) (r:Bool) (h:Gb6 c=some r):Pure En 76 [.agg (G4.cs c)] (·=BL r):=by
 unfold Gb6 at h
 refine H0 [.tmp 2] Tryz.func76 O O (Jr fun hK1=>(JLh (.ptr 1114 0) (Jq (cs:=(G4.cs c)) 1114 O O O O O) O (JLm (BL false) O (G8 (hK1 (Gx [(1,Ef c)] [] 1114 rfl rfl rfl G rfl (by exact⟨.ptr,G⟩) (Jr fun hK2=>(JLm (.fn 123 []) O (G8 (hK2 (Js fun hK3=>Jr fun hK4=>(JLh (.dptr [E1 c.Plugs,G0 c.X,G0 c.Y,G0 c.Z]) (Ga Rq O O O) O (JLh (E1 c.Plugs) (Gh J2 O O O) O (JLl H4 O O O fun hm8=>(JLm (G0 0) O (G8 (hK4 (Gk ?_))))))))))))))))))
 obtain⟨b27,kx27,hb27,hkx27,h⟩:=J4 h
 refine H6 (fun i27 (s27:Unit)=>each b27 kx27 (List.drop i27 c.Plugs) i27 s27=some r) (fun i27 s27=>[(1,Ef c),(3,.fn 123 []),(7,E1 c.Plugs),(8,Em c.Plugs.length),(9,Em i27)]) (fun i27 s27=>[]) (fun i27=>c.Plugs.length - i27) 0 () h ⟨(by repeat' constructor),G,rfl⟩ ?_
 clear h
 intro i27 s27 hi27 K27 e27
 refine Jr fun hK28=>(JLh (BL (decide ((i27:Int) < (c.Plugs.length:Int)))) (Hy O O O) O (G8 (hK28 (Js fun hK29=>Gj O (fun hb=>?_) (fun hb=>?_)))))
 ·
  have hk27:=Je hb
  obtain⟨y27,nx27,hy27,hn27,h⟩:=Hs hi27 hk27
  replace h:=Y8 hb27 h
  refine Gm (hK29 (Js fun hK30=>Gk (Jr fun hK31=>(JLm (Em i27) O (JLh (.dptr [G0 y27]) (Gs (f:=G0) (xs:=c.Plugs) (y:=y27) O O O H4 hy27 O) O (JLh (G0 y27) (Gh Gc O O O) O (JLm (Em i27) O (JLm (G0 y27) O (G8 (hK31 (Jr fun hK32=>(JLm (.fn 123 []) O (JLm (G0 y27) O (JLh (.dptr [G0 c.Tiers,G0 c.Height,G0 c.Kilos20,G0 c.Kilos40,G0 c.Lash,E1 c.Plugs,G0 c.X,G0 c.Y,G0 c.Z]) (Ga G26 O O O) O (JLh (G0 c.Tiers) (Gh Gc O O O) O ?_)))))))))))))))
  obtain⟨v33,hv33,h⟩:=wrp_out h
  refine JLh (G0 v33) (G6d hv33 O O O) O (JLh (.agg [G0 y27,G0 0,G0 v33]) (Ji (cs:=[G0 y27,G0 0,G0 v33]) [(0,1),(1,1),(2,1)] [G0 0,G0 0,G0 0] [.int .i64 0,.int .i64 0,.int .i64 0] Ze G2e ⟨.inl O,.inl O,.inl O,G⟩ O O) O (JLh (LS 3 Hw.av [(Hw.mk y27 0 v33)]) (Hv (xs:=[.agg [G0 y27,G0 0,G0 v33]]) O ⟨O,O,G⟩ H3e Hc8 O O O O) O ?_))
  obtain⟨r34,hr34,h⟩:=Gf h
  refine JLh (BL r34) (Gaf (args:=[LS 3 Hw.av [(Hw.mk y27 0 v33)]]) (caps:=[]) O O (Hbf [(Hw.mk y27 0 v33)] r34 hr34) Jc8 ⟨O,O,G⟩ O) O (JLh (BL (!r34)) (R9 (b:=r34) O O) O (JLm (BL (!r34)) O (JLo (Em i27) [] O .scf G (fun hc=>G5 O O) O (JLo (BL (decide (0 < (i27:Int)))) [24] O .scf ⟨Ua,G⟩ (fun hc=>G4d O O O) O (JLo (BL (decide (0 < (i27:Int)))) [25] O .scf ⟨Ua,G⟩ (fun hc=>G5 O O) O (JLo (G0 y27) [] O .optt G (fun hc=>G5 O O) O (JLo (.dptr [E1 c.Plugs,G0 c.X,G0 c.Y,G0 c.Z]) [] O .optt G (fun hc=>Ga Rq O O O) O (JLo (E1 c.Plugs) [28] O .optt ⟨Ua,G⟩ (fun hc=>Gh J2 O O O) O (JLo (Em i27) [] O .optt G (fun hc=>G5 O O) O ?_)))))))))
  obtain⟨v35,hv35,h⟩:=Gf h
  refine JLo (G0 v35) [30] O .optt ⟨Ua,G⟩ (fun hc=>G6d (Option.some.inj (Gv hc hv35)) O O O) O ?_
  obtain⟨y36,hy36,h⟩:=Gf h
  refine JLo (.dptr [G0 y36]) [29,31] O .optt ⟨Ua,Ua,G⟩ (fun hc=>(match Jm (Gv hc hy36) with | ⟨_,hm_,hy_⟩=>Gs (f:=G0) (xs:=c.Plugs) (y:=y36) O O O H4 hy_ hm_)) O (JLo (G0 y36) [32] O .optt ⟨Ua,G⟩ (fun hc=>Gh Gc O O O) O (JLo (BL (decide (y27≤y36))) [27,33] O .optt ⟨Ua,Ua,G⟩ (fun hc=>H97 O O O) O (Gb (u:=BL ((decide (0 < (i27:Int)))&&(decide (y27≤y36)))) [(26,BL (decide (0 < (i27:Int)))),(34,_)] O O O .scf ⟨.all id,.part,G⟩ (fun hc=>J3 O O O O) ?_)))
  refine JLh (BL ((!r34)||((decide (0 < (i27:Int)))&&(decide (y27≤y36))))) (Y7 O O O O) O (G8 (hK32 (JCc O h (fun h hb=>?_) (fun h hb=>?_))))
  ·
   refine Jr fun hK37=>(JLm (BL false) O (G8 (hK37 (Gt (fin1 BL h)))))
  ·
   refine Gm (hK30 (G2 (JLh (G0 ((i27+1:Nat):Int)) (Hx (Hc hk27 hm8) O O O) O (JLm (G0 ((i27+1:Nat):Int)) O (G8 (e27 _ _ (i27+1) () (app1 hn27 h) (by omega) ⟨(by repeat' constructor),G,rfl⟩))))))
 ·
  have h:=app1 hkx27 (Ht hi27 (H9 hb))
  refine Hd (hK3 ?_)
  refine Jr fun hK38=>(JLm (.fn 123 []) O (JLh (Ef c) (Ga Rr O O O) O (JLh (G0 c.Bay) (Gh Gc O O O) O (JLh (.agg [G0 c.Bay,G0 0,G0 39]) (Ji (cs:=[G0 c.Bay,G0 0,G0 39]) [(0,1),(1,1),(2,1)] [G0 0,G0 0,G0 0] [.int .i64 0,.int .i64 0,.int .i64 0] Ze G2e ⟨.inl O,.inl O,.inl O,G⟩ O O) O (JLh (.dptr [G0 c.Row,BL c.Deck,G0 c.Tiers,G0 c.Height,G0 c.Kilos20,G0 c.Kilos40,G0 c.Lash,E1 c.Plugs,G0 c.X,G0 c.Y,G0 c.Z]) (Ga G27 O O O) O (JLh (G0 c.Row) (Gh Gc O O O) O (JLh (.agg [G0 c.Row,G0 0,G0 30]) (Ji (cs:=[G0 c.Row,G0 0,G0 30]) [(0,1),(1,1),(2,1)] [G0 0,G0 0,G0 0] [.int .i64 0,.int .i64 0,.int .i64 0] Ze G2e ⟨.inl O,.inl O,.inl O,G⟩ O O) O (JLh (.dptr [G0 c.Tiers,G0 c.Height,G0 c.Kilos20,G0 c.Kilos40,G0 c.Lash,E1 c.Plugs,G0 c.X,G0 c.Y,G0 c.Z]) (Ga G26 O O O) O (JLh (G0 c.Tiers) (Gh Gc O O O) O (JLh (.agg [G0 c.Tiers,G0 1,G0 10]) (Ji (cs:=[G0 c.Tiers,G0 1,G0 10]) [(0,1),(1,1),(2,1)] [G0 0,G0 0,G0 0] [.int .i64 0,.int .i64 0,.int .i64 0] Ze G2e ⟨.inl O,.inl O,.inl O,G⟩ O O) O (JLh (.dptr [G0 c.Height,G0 c.Kilos20,G0 c.Kilos40,G0 c.Lash,E1 c.Plugs,G0 c.X,G0 c.Y,G0 c.Z]) (Ga G49 O O O) O (JLh (G0 c.Height) (Gh Gc O O O) O (JLh (.agg [G0 c.Height,G0 0,G0 40000]) (Ji (cs:=[G0 c.Height,G0 0,G0 40000]) [(0,1),(1,1),(2,1)] [G0 0,G0 0,G0 0] [.int .i64 0,.int .i64 0,.int .i64 0] Ze G2e ⟨.inl O,.inl O,.inl O,G⟩ O O) O ?_)))))))))))))
  refine JLh (.dptr [G0 c.Kilos20,G0 c.Kilos40,G0 c.Lash,E1 c.Plugs,G0 c.X,G0 c.Y,G0 c.Z]) (Ga H1a O O O) O (JLh (G0 c.Kilos20) (Gh Gc O O O) O (JLh (.agg [G0 c.Kilos20,G0 0,G0 500000000]) (Ji (cs:=[G0 c.Kilos20,G0 0,G0 500000000]) [(0,1),(1,1),(2,1)] [G0 0,G0 0,G0 0] [.int .i64 0,.int .i64 0,.int .i64 0] Ze G2e ⟨.inl O,.inl O,.inl O,G⟩ O O) O (JLh (.dptr [G0 c.Kilos40,G0 c.Lash,E1 c.Plugs,G0 c.X,G0 c.Y,G0 c.Z]) (Ga H19 O O O) O (JLh (G0 c.Kilos40) (Gh Gc O O O) O (JLh (.agg [G0 c.Kilos40,G0 0,G0 500000000]) (Ji (cs:=[G0 c.Kilos40,G0 0,G0 500000000]) [(0,1),(1,1),(2,1)] [G0 0,G0 0,G0 0] [.int .i64 0,.int .i64 0,.int .i64 0] Ze G2e ⟨.inl O,.inl O,.inl O,G⟩ O O) O (JLh (.dptr [G0 c.Lash,E1 c.Plugs,G0 c.X,G0 c.Y,G0 c.Z]) (Ga H18 O O O) O (JLh (G0 c.Lash) (Gh Gc O O O) O (JLh (.agg [G0 c.Lash,G0 0,G0 1000000000000]) (Ji (cs:=[G0 c.Lash,G0 0,G0 1000000000000]) [(0,1),(1,1),(2,1)] [G0 0,G0 0,G0 0] [.int .i64 0,.int .i64 0,.int .i64 0] Ze G2e ⟨.inl O,.inl O,.inl O,G⟩ O O) O (JLh (.dptr [G0 c.X,G0 c.Y,G0 c.Z]) (Ga H17 O O O) O (JLh (G0 c.X) (Gh Gc O O O) O (JLh (.agg [G0 c.X,G0 (-500000),G0 500000]) (Ji (cs:=[G0 c.X,G0 (-500000),G0 500000]) [(0,1),(1,1),(2,1)] [G0 0,G0 0,G0 0] [.int .i64 0,.int .i64 0,.int .i64 0] Ze G2e ⟨.inl O,.inl O,.inl O,G⟩ O O) O (JLh (.dptr [G0 c.Y,G0 c.Z]) (Ga Gf2 O O O) O (JLh (G0 c.Y) (Gh Gc O O O) O ?_)))))))))))))
  refine JLh (.agg [G0 c.Y,G0 (-500000),G0 500000]) (Ji (cs:=[G0 c.Y,G0 (-500000),G0 500000]) [(0,1),(1,1),(2,1)] [G0 0,G0 0,G0 0] [.int .i64 0,.int .i64 0,.int .i64 0] Ze G2e ⟨.inl O,.inl O,.inl O,G⟩ O O) O (JLh (.dptr [G0 c.Z]) (Ga Gf1 O O O) O (JLh (G0 c.Z) (Gh Gc O O O) O (JLh (.agg [G0 c.Z,G0 (-500000),G0 500000]) (Ji (cs:=[G0 c.Z,G0 (-500000),G0 500000]) [(0,1),(1,1),(2,1)] [G0 0,G0 0,G0 0] [.int .i64 0,.int .i64 0,.int .i64 0] Ze G2e ⟨.inl O,.inl O,.inl O,G⟩ O O) O (JLh (LS 3 Hw.av [(Hw.mk c.Bay 0 39),(Hw.mk c.Row 0 30),(Hw.mk c.Tiers 1 10),(Hw.mk c.Height 0 40000),(Hw.mk c.Kilos20 0 500000000),(Hw.mk c.Kilos40 0 500000000),(Hw.mk c.Lash 0 1000000000000),(Hw.mk c.X (-500000) 500000),(Hw.mk c.Y (-500000) 500000),(Hw.mk c.Z (-500000) 500000)]) (Hv (xs:=[.agg [G0 c.Bay,G0 0,G0 39],.agg [G0 c.Row,G0 0,G0 30],.agg [G0 c.Tiers,G0 1,G0 10],.agg [G0 c.Height,G0 0,G0 40000],.agg [G0 c.Kilos20,G0 0,G0 500000000],.agg [G0 c.Kilos40,G0 0,G0 500000000],.agg [G0 c.Lash,G0 0,G0 1000000000000],.agg [G0 c.X,G0 (-500000),G0 500000],.agg [G0 c.Y,G0 (-500000),G0 500000],.agg [G0 c.Z,G0 (-500000),G0 500000]]) O ⟨O,O,O,O,O,O,O,O,O,O,O,O,O,O,O,O,O,O,O,O,G⟩ H3e Hc8 O O O O) O ?_))))
  obtain⟨r39,hr39,h⟩:=Gf h
  refine JLh (BL r39) (Gaf (args:=[LS 3 Hw.av [(Hw.mk c.Bay 0 39),(Hw.mk c.Row 0 30),(Hw.mk c.Tiers 1 10),(Hw.mk c.Height 0 40000),(Hw.mk c.Kilos20 0 500000000),(Hw.mk c.Kilos40 0 500000000),(Hw.mk c.Lash 0 1000000000000),(Hw.mk c.X (-500000) 500000),(Hw.mk c.Y (-500000) 500000),(Hw.mk c.Z (-500000) 500000)]]) (caps:=[]) O O (Hbf [(Hw.mk c.Bay 0 39),(Hw.mk c.Row 0 30),(Hw.mk c.Tiers 1 10),(Hw.mk c.Height 0 40000),(Hw.mk c.Kilos20 0 500000000),(Hw.mk c.Kilos40 0 500000000),(Hw.mk c.Lash 0 1000000000000),(Hw.mk c.X (-500000) 500000),(Hw.mk c.Y (-500000) 500000),(Hw.mk c.Z (-500000) 500000)] r39 hr39) Jc8 ⟨O,O,G⟩ O) O (JLm (BL r39) O (G8 (hK38 (Gt (fin1 BL h)))))

def Gfd (s:H8) (Rp:Bool→Prop):Option Prop:=
 bif (((decide ((s.Columns.length:Int) < 1))||(decide (200 < (s.Columns.length:Int))))||(decide (40 < (s.Covers.length:Int)))) then
 (some (Rp false))
 else
 (each (fun y68 i68 (s68:(Hp Hn Int)) nx68=>
   jp (fun kj74=>
    bif y68.Deck then
    (kj74 1)
    else
    (kj74 0)) fun(j74:Int)=>
   bnd (some (Hp.get s68 (Hn.mk y68.Bay y68.Row j74) 0)) fun v77=>
   Yn (v77+1) fun v78=>
   bnd (Gb6 y68) fun r80=>
   bif (!r80) then
   (some (Rp false))
   else
   (nx68 (Hp.put s68 (Hn.mk y68.Bay y68.Row j74) v78)))
  (fun(s68:(Hp Hn Int))=>
   each (fun y84 i84 (s84:(Hp Hn Int)) nx84=>
    bif (((decide (y84.Bay < 0))||(decide (40≤y84.Bay)))||(decide ((y84.Rows.length:Int)=0))) then
    (some (Rp false))
    else
    (each (fun y157 i157 (s157:(Hp Hn Int)) nx157=>
      bnd (bif ((!((decide (y157 < 0))||(decide (30 < y157))))&&(decide (0 < (i157:Int)))) then Yn ((i157:Int) - 1) some else some 0) fun v164=>
      bnd (bif ((!((decide (y157 < 0))||(decide (30 < y157))))&&(decide (0 < (i157:Int)))) then Jc y84.Rows v164 some else some default) fun y165=>
      bif (((decide (y157 < 0))||(decide (30 < y157)))||((decide (0 < (i157:Int)))&&(decide (y157≤y165)))) then
      (some (Rp false))
      else
      (bnd (some (Hp.get s157 (Hn.mk y84.Bay y157 2) 0)) fun v167=>
       Yn (v167+1) fun v168=>
       nx157 (Hp.put s157 (Hn.mk y84.Bay y157 2) v168)))
     (fun(s157:(Hp Hn Int))=>
      nx84 s157) y84.Rows 0 s84))
   (fun(s84:(Hp Hn Int))=>
    eachM (fun(x176:Hn×Int) (s176:Unit) nx176=>
     bif decide (1 < x176.2) then
     (lft (some (Rp false)))
     else
     (nx176 ()))
    (fun(s176:Unit)=>
     some (Rp true)) (Hp.l s84) ()) s.Covers 0 s68) s.Columns 0 (Hp.empty:Hp Hn Int))
def H4e (s:H8):Option Bool:=
 bif (((decide ((s.Columns.length:Int) < 1))||(decide (200 < (s.Columns.length:Int))))||(decide (40 < (s.Covers.length:Int)))) then
 (some (id false))
 else
 (each (fun y68 i68 (s68:(Hp Hn Int)) nx68=>
   jp (fun kj74=>
    bif y68.Deck then
    (kj74 1)
    else
    (kj74 0)) fun(j74:Int)=>
   bnd (some (Hp.get s68 (Hn.mk y68.Bay y68.Row j74) 0)) fun v77=>
   Yn (v77+1) fun v78=>
   bnd (Gb6 y68) fun r80=>
   bif (!r80) then
   (some (id false))
   else
   (nx68 (Hp.put s68 (Hn.mk y68.Bay y68.Row j74) v78)))
  (fun(s68:(Hp Hn Int))=>
   each (fun y84 i84 (s84:(Hp Hn Int)) nx84=>
    bif (((decide (y84.Bay < 0))||(decide (40≤y84.Bay)))||(decide ((y84.Rows.length:Int)=0))) then
    (some (id false))
    else
    (each (fun y157 i157 (s157:(Hp Hn Int)) nx157=>
      bnd (bif ((!((decide (y157 < 0))||(decide (30 < y157))))&&(decide (0 < (i157:Int)))) then Yn ((i157:Int) - 1) some else some 0) fun v164=>
      bnd (bif ((!((decide (y157 < 0))||(decide (30 < y157))))&&(decide (0 < (i157:Int)))) then Jc y84.Rows v164 some else some default) fun y165=>
      bif (((decide (y157 < 0))||(decide (30 < y157)))||((decide (0 < (i157:Int)))&&(decide (y157≤y165)))) then
      (some (id false))
      else
      (bnd (some (Hp.get s157 (Hn.mk y84.Bay y157 2) 0)) fun v167=>
       Yn (v167+1) fun v168=>
       nx157 (Hp.put s157 (Hn.mk y84.Bay y157 2) v168)))
     (fun(s157:(Hp Hn Int))=>
      nx84 s157) y84.Rows 0 s84))
   (fun(s84:(Hp Hn Int))=>
    J81 (fun(x176:Hn×Int) (s176:Unit) nx176=>
     bif decide (1 < x176.2) then
     (lft (some (id false)))
     else
     (nx176 ()))
    (fun(s176:Unit)=>
     some (id true)) (Hp.l s84) ()) s.Covers 0 s68) s.Columns 0 (Hp.empty:Hp Hn Int))
theorem Q55 (s:H8) (Rp:Bool→Prop) (p:Prop) (h:Gfd s Rp=some p) (hp:p):Pure En 38 [.agg (H8.cs s)] (fun av=>∃ r,Rp r∧av=BL r):=by
 unfold Gfd at h
 refine H0 [.tmp 2] Tryz.func38 O O (Jr fun hK1=>(JLh (.ptr 1058 0) (Jq (cs:=(H8.cs s)) 1058 O O O O O) O (JLm (BL false) O (G8 (hK1 (Gx [(1,Ed s)] [] 1058 rfl rfl rfl G rfl (by exact⟨.ptr,G⟩) (Js fun hK2=>?_)))))))
 refine Jr fun hK3=>(JLh (Ed s) (Ga Hi O O O) O (JLh (E5 s.Columns) (Gh Ho O O O) O (JLl H7 O O O fun hm15=>(JLh (BL (decide ((s.Columns.length:Int) < 1))) (Hy O O O) O (JLm (BL (decide ((s.Columns.length:Int) < 1))) O (JLo (Ed s) [] O .scf G (fun hc=>Ga Hi O O O) O (JLo (E5 s.Columns) [18] O .scf ⟨Ua,G⟩ (fun hc=>Gh Ho O O O) O (JLo (Em s.Columns.length) [19] O .scf ⟨Ua,G⟩ (fun hc=>Qx (f:=G4.av) (xs:=s.Columns) H7 O O) O (JLo (BL (decide (200 < (s.Columns.length:Int)))) [20] O .scf ⟨Ua,G⟩ (fun hc=>G4d O O O) O (JLh (BL ((decide ((s.Columns.length:Int) < 1))||(decide (200 < (s.Columns.length:Int))))) (Y7 O O O O) O (JLm (BL ((decide ((s.Columns.length:Int) < 1))||(decide (200 < (s.Columns.length:Int))))) O (JLo (.dptr [E4 s.Covers,G0 s.Light.Kilos,G0 s.Light.X,G0 s.Light.Y,G0 s.Light.Z,E7 s.Rows,E6 s.Frames,E8 s.Tanks,G0 s.G3.Tolerance,G0 s.G3.Trim,G0 s.G3.List_,G0 s.G3.Stability]) [] O .scf G (fun hc=>Ga Jp O O O) O (JLo (E4 s.Covers) [24] O .scf ⟨Ua,G⟩ (fun hc=>Gh Q4 O O O) O ?_)))))))))))))
 refine JLo (Em s.Covers.length) [25] O .scf ⟨Ua,G⟩ (fun hc=>Qx (f:=Ge.av) (xs:=s.Covers) Hu O O) O (JLo (BL (decide (40 < (s.Covers.length:Int)))) [26] O .scf ⟨Ua,G⟩ (fun hc=>G4d O O O) O (JLh (BL (((decide ((s.Columns.length:Int) < 1))||(decide (200 < (s.Columns.length:Int))))||(decide (40 < (s.Covers.length:Int))))) (Y7 O O O O) O (G8 (hK3 (JCc O h (fun h hb=>?_) (fun h hb=>?_))))))
 ·
  refine Jr fun hK4=>(JLm (BL false) O (G8 (hK4 (Gt (⟨[BL false],[],G,O,⟨⟨_,O,.conv (.same O)⟩,G⟩,O,false,Eq.mpr (Option.some.inj h) hp,O⟩)))))
 ·
  refine Gm (hK2 (Jr fun hK5=>(JLh (.mp 1061) (J70 1061 Hn.kv G0 O O) O (JLm (.mp 1061) O (G8 (hK5 (Js fun hK6=>Jr fun hK7=>(JLh (Ed s) (Ga Hi O O O) O (JLh (E5 s.Columns) (Gh Ho O O O) O (JLl H7 O O O fun hm32=>(JLm (G0 0) O (G8 (hK7 (Gk ?_))))))))))))))
  obtain⟨b68,kx68,hb68,hkx68,h⟩:=J4 h
  refine H6 (fun i68 (s68:(Hp Hn Int))=>each b68 kx68 (List.drop i68 s.Columns) i68 s68=some p) (fun i68 s68=>[(1,Ed s),(3,.mp 1061),(31,E5 s.Columns),(32,Em s.Columns.length),(33,Em i68)]) (fun i68 s68=>[(1061,MP 137 Hn.kv G0 s68)]) (fun i68=>s.Columns.length - i68) 0 (Hp.empty:Hp Hn Int) h ⟨(by repeat' constructor),⟨⟨_,rfl,.map⟩,G⟩,rfl⟩ ?_
  clear h
  intro i68 s68 hi68 K68 e68
  refine Jr fun hK69=>(JLh (BL (decide ((i68:Int) < (s.Columns.length:Int)))) (Hy O O O) O (G8 (hK69 (Js fun hK70=>Gj O (fun hb=>?_) (fun hb=>?_)))))
  ·
   have hk68:=Je hb
   obtain⟨y68,nx68,hy68,hn68,h⟩:=Hs hi68 hk68
   replace h:=Y8 hb68 h
   refine Gm (hK70 (Js fun hK71=>Gk (Jr fun hK72=>(JLh (Ef y68) (Gs (f:=G4.av) (xs:=s.Columns) (y:=y68) O O O H7 hy68 O) O (JLh (.agg (G4.cs y68)) (Gi Yc O O O) O (JLh (.ptr 1059 0) (Ju 1059 12 G5e O O) O (Ja (u:=.junk) (J0 (u:=.agg (G4.cs y68)) (ds:=(G4.cs y68)) Ga0 O O O O O O O O) (G8 (hK72 ?_)))))))))
   refine Gx [(1,Ed s),(3,.mp 1061),(5,Ef y68),(31,E5 s.Columns),(32,Em s.Columns.length),(33,Em i68)] [(1061,MP 137 Hn.kv G0 s68)] 1059 rfl rfl rfl ⟨⟨_,rfl,.map⟩,G⟩ rfl (by repeat' (first | exact .ptr | constructor)) (Jr fun hK73=>(JLm (G0 0) O (G8 (hK73 ?_))))
   obtain⟨kj74,hkj74,h⟩:=Zf h
   refine Rt (fun j74:Int=>kj74 j74=some p) (fun j74=>[(1,Ed s),(3,.mp 1061),(5,Ef y68),(6,G0 j74),(31,E5 s.Columns),(32,Em s.Columns.length),(33,Em i68)]) (fun j74=>[(1061,MP 137 Hn.kv G0 s68)]) (fun Kj74 ej74=>?_) ?_
   ·
    refine Jr fun hK75=>(JLh (.dptr ((G4.cs y68).drop 2)) (Ga Yb O O O) O (JLh (BL y68.Deck) (Gh R5 O O O) O (G8 (hK75 (JCc O h (fun h hb=>?_) (fun h hb=>?_))))))
    ·
     refine G2 (JLm (G0 1) O (G8 (ej74 _ _ 1 h ⟨(by repeat' constructor),⟨⟨_,rfl,.map⟩,G⟩,rfl⟩)))
    ·
     refine Gm (ej74 _ _ 0 h ⟨(by repeat' constructor),⟨⟨_,rfl,.map⟩,G⟩,rfl⟩)
   ·intro j74 h
    replace h:=app1 hkj74 h
    refine Js fun hK76=>G9c (l':=[(1,Ed s),(3,.mp 1061),(5,Ef y68),(6,G0 j74),(31,E5 s.Columns),(32,Em s.Columns.length),(33,Em i68)]) (L':=[(1061,MP 137 Hn.kv G0 s68)]) ⟨(by repeat' constructor),⟨⟨_,rfl,.map⟩,G⟩,rfl⟩ ?_
    obtain⟨v77,hv77,h⟩:=Gf h
    obtain⟨v78,hv78,h⟩:=Jh h
    refine Jt [9,11] [0,0,0,0,0,0,0,0,0,0,1,0] [0,0,0,0,0,0,0,1,1,0,1,0] [[(1061,MP 137 Hn.kv G0 s68)],((1061,MI 137 Hn.kv G0 s68 (Hn.mk y68.Bay y68.Row j74) 0)::[(1061,MP 137 Hn.kv G0 s68)]),((1061,MP 137 Hn.kv G0 (Hp.put s68 (Hn.mk y68.Bay y68.Row j74) v78))::((1061,MI 137 Hn.kv G0 s68 (Hn.mk y68.Bay y68.Row j74) 0)::[(1061,MP 137 Hn.kv G0 s68)]))] Jb (by kernel_rfl) rfl rfl ?_
    refine Gd (u:=.mp 1061) O O ⟨Gr (G5 O O) O,G⟩ (Gd (u:=Ef y68) O O ⟨Gr (Ga Rr O O O) O,G⟩ (Gd (u:=G0 y68.Bay) O O ⟨Gr (Gh Gc O O O) O,G⟩ (Gd (u:=.dptr ((G4.cs y68).drop 1)) O O ⟨Gr (Ga G27 O O O) O,G⟩ (Gd (u:=G0 y68.Row) O O ⟨Gr (Gh Gc O O O) O,G⟩ (Gd (u:=G0 j74) O O ⟨Gr (G5 O O) O,G⟩ (Gd (u:=.agg [G0 y68.Bay,G0 y68.Row,G0 j74]) O O ⟨Gr (J71 (cs:=[G0 y68.Bay,G0 y68.Row,G0 j74]) [.int .i64 0,.int .i64 0,.int .i64 0] Q2c Jbe O O) O,G⟩ (Gd (u:=G0 v77) O O ⟨Gr (((Option.some.inj hv77) ▸ H79 (av:=G0) (m:=s68) (a:=(Hn.mk y68.Bay y68.Row j74)) 0 (.int .i64 0) O O O O J9f Gda J2b O)) O,Gr (((Option.some.inj hv77) ▸ Q62 (av:=G0) (m:=s68) (a:=(Hn.mk y68.Bay y68.Row j74)) 0 (.int .i64 0) O O O O J9f Gda J2b O)) O,G⟩ (Gd (u:=G0 v78) O O ⟨Gr (Hx hv78 O O O) O,Gr (Hx hv78 O O O) O,G⟩ (D_w (u:=.tup [.junk,G0 (G62 (Hp.l s68) (Hn.mk y68.Bay y68.Row j74):Int)]) O O O O (Gr (Jea (m:=s68) (a:=(Hn.mk y68.Bay y68.Row j74)) 0 (.int .i64 0) O O O O J9f Gda J2b O) O) (Gd (u:=G0 (G62 (Hp.l s68) (Hn.mk y68.Bay y68.Row j74):Int)) O O ⟨Gr (Jn O O O) O,G⟩ (Q7e (u:=.junk) O O O O (Gr (J4e (m:=s68) (a:=(Hn.mk y68.Bay y68.Row j74)) (v:=v78) 0 O O O O O O) O) (Ru ?_))))))))))))
    refine hK76 (Jr fun hK79=>(JLh (.agg (G4.cs y68)) (Gi Yc O O O) O ?_))
    obtain⟨r80,hr80,h⟩:=Gf h
    refine JLh (BL r80) (Gq O (Q54 y68 r80 hr80) Qd9 ⟨O,O,G⟩) O (JLh (BL (!r80)) (R9 (b:=r80) O O) O (G8 (hK79 (JCc O h (fun h hb=>?_) (fun h hb=>?_)))))
    ·
     refine Jr fun hK81=>(JLm (BL false) O (G8 (hK81 (Gt (⟨[BL false],[],G,O,⟨⟨_,O,.conv (.same O)⟩,G⟩,O,false,Eq.mpr (Option.some.inj h) hp,O⟩)))))
    ·
     refine Gm (hK71 (G2 (JLh (G0 ((i68+1:Nat):Int)) (Hx (Hc hk68 hm32) O O O) O (JLm (G0 ((i68+1:Nat):Int)) O (G8 (e68 _ _ (i68+1) (Hp.put s68 (Hn.mk y68.Bay y68.Row j74) v78) (app1 hn68 h) (by omega) ⟨(by repeat' constructor),⟨⟨_,rfl,.map⟩,G⟩,rfl⟩))))))
  ·
   have h:=app1 hkx68 (Ht hi68 (H9 hb))
   refine Hd (hK6 (Js fun hK82=>Jr fun hK83=>(JLh (.dptr [E4 s.Covers,G0 s.Light.Kilos,G0 s.Light.X,G0 s.Light.Y,G0 s.Light.Z,E7 s.Rows,E6 s.Frames,E8 s.Tanks,G0 s.G3.Tolerance,G0 s.G3.Trim,G0 s.G3.List_,G0 s.G3.Stability]) (Ga Jp O O O) O (JLh (E4 s.Covers) (Gh Q4 O O O) O (JLl Hu O O O fun hm56=>(JLm (G0 0) O (G8 (hK83 (Gk ?_)))))))))
   obtain⟨b84,kx84,hb84,hkx84,h⟩:=J4 h
   refine H6 (fun i84 (s84:(Hp Hn Int))=>each b84 kx84 (List.drop i84 s.Covers) i84 s84=some p) (fun i84 s84=>[(3,.mp 1061),(55,E4 s.Covers),(56,Em s.Covers.length),(57,Em i84)]) (fun i84 s84=>[(1061,MP 137 Hn.kv G0 s84)]) (fun i84=>s.Covers.length - i84) 0 s68 h ⟨(by repeat' constructor),⟨⟨_,rfl,.map⟩,G⟩,rfl⟩ ?_
   clear h
   intro i84 s84 hi84 K84 e84
   refine Jr fun hK85=>(JLh (BL (decide ((i84:Int) < (s.Covers.length:Int)))) (Hy O O O) O (G8 (hK85 (Js fun hK86=>Gj O (fun hb=>?_) (fun hb=>?_)))))
   ·
    have hk84:=Je hb
    obtain⟨y84,nx84,hy84,hn84,h⟩:=Hs hi84 hk84
    replace h:=Y8 hb84 h
    refine Gm (hK86 (Js fun hK87=>Gk (Jr fun hK88=>(JLh (.dptr [G0 y84.Bay,E1 y84.Rows]) (Gs (f:=Ge.av) (xs:=s.Covers) (y:=y84) O O O Hu hy84 O) O (JLh (.agg [G0 y84.Bay,E1 y84.Rows]) (Gi Z8 O O O) O (JLh (.ptr 1060 0) (Ju 1060 2 G7b O O) O (Ja (u:=.junk) (J0 (u:=.agg [G0 y84.Bay,E1 y84.Rows]) (ds:=[G0 y84.Bay,E1 y84.Rows]) Gd9 O O O O O O O O) (G8 (hK88 (Gx [(3,.mp 1061),(8,.dptr [G0 y84.Bay,E1 y84.Rows]),(55,E4 s.Covers),(56,Em s.Covers.length),(57,Em i84)] [(1061,MP 137 Hn.kv G0 s84)] 1060 rfl rfl rfl ⟨⟨_,rfl,.map⟩,G⟩ rfl (by repeat' (first | exact .ptr | constructor)) (Js fun hK89=>?_)))))))))))
    refine Jr fun hK90=>(JLh (.dptr [G0 y84.Bay,E1 y84.Rows]) (Ga Ya O O O) O (JLh (G0 y84.Bay) (Gh Gc O O O) O (JLh (BL (decide (y84.Bay < 0))) (Hy O O O) O (JLm (BL (decide (y84.Bay < 0))) O (JLo (.dptr [G0 y84.Bay,E1 y84.Rows]) [] O .scf G (fun hc=>Ga Ya O O O) O (JLo (G0 y84.Bay) [65] O .scf ⟨Ua,G⟩ (fun hc=>Gh Gc O O O) O (JLo (BL (decide (40≤y84.Bay))) [66] O .scf ⟨Ua,G⟩ (fun hc=>G06 O O O) O (JLh (BL ((decide (y84.Bay < 0))||(decide (40≤y84.Bay)))) (Y7 O O O O) O (JLm (BL ((decide (y84.Bay < 0))||(decide (40≤y84.Bay)))) O (JLo (.dptr [E1 y84.Rows]) [] O .scf G (fun hc=>Ga Qd O O O) O (JLo (E1 y84.Rows) [70] O .scf ⟨Ua,G⟩ (fun hc=>Gh J2 O O O) O (JLo (Em y84.Rows.length) [71] O .scf ⟨Ua,G⟩ (fun hc=>Qx (f:=G0) (xs:=y84.Rows) H4 O O) O (JLo (BL (decide ((y84.Rows.length:Int)=0))) [72] O .scf ⟨Ua,G⟩ (fun hc=>Jk O O O) O ?_)))))))))))))
    refine JLh (BL (((decide (y84.Bay < 0))||(decide (40≤y84.Bay)))||(decide ((y84.Rows.length:Int)=0)))) (Y7 O O O O) O (G8 (hK90 (JCc O h (fun h hb=>?_) (fun h hb=>?_))))
    ·
     refine Jr fun hK91=>(JLm (BL false) O (G8 (hK91 (Gt (⟨[BL false],[],G,O,⟨⟨_,O,.conv (.same O)⟩,G⟩,O,false,Eq.mpr (Option.some.inj h) hp,O⟩)))))
    ·
     refine Gm (hK89 (Jr fun hK92=>(JLh (.dptr [E1 y84.Rows]) (Ga Qd O O O) O (JLh (E1 y84.Rows) (Gh J2 O O O) O (JLl H4 O O O fun hm77=>(JLm (G0 0) O (G8 (hK92 (Gk ?_)))))))))
     obtain⟨b157,kx157,hb157,hkx157,h⟩:=J4 h
     refine H6 (fun i157 (s157:(Hp Hn Int))=>each b157 kx157 (List.drop i157 y84.Rows) i157 s157=some p) (fun i157 s157=>[(3,.mp 1061),(8,.dptr [G0 y84.Bay,E1 y84.Rows]),(55,E4 s.Covers),(56,Em s.Covers.length),(57,Em i84),(76,E1 y84.Rows),(77,Em y84.Rows.length),(78,Em i157)]) (fun i157 s157=>[(1061,MP 137 Hn.kv G0 s157)]) (fun i157=>y84.Rows.length - i157) 0 s84 h ⟨(by repeat' constructor),⟨⟨_,rfl,.map⟩,G⟩,rfl⟩ ?_
     clear h
     intro i157 s157 hi157 K157 e157
     refine Jr fun hK158=>(JLh (BL (decide ((i157:Int) < (y84.Rows.length:Int)))) (Hy O O O) O (G8 (hK158 (Js fun hK159=>Gj O (fun hb=>?_) (fun hb=>?_)))))
     ·
      have hk157:=Je hb
      obtain⟨y157,nx157,hy157,hn157,h⟩:=Hs hi157 hk157
      replace h:=Y8 hb157 h
      refine Gm (hK159 (Js fun hK160=>Gk (Jr fun hK161=>(JLm (Em i157) O (JLh (.dptr [G0 y157]) (Gs (f:=G0) (xs:=y84.Rows) (y:=y157) O O O H4 hy157 O) O (JLh (G0 y157) (Gh Gc O O O) O (JLm (Em i157) O (JLm (G0 y157) O (G8 (hK161 (Js fun hK162=>?_)))))))))))
      refine Jr fun hK163=>(JLm (G0 y157) O (JLh (BL (decide (y157 < 0))) (Hy O O O) O (JLm (BL (decide (y157 < 0))) O (JLo (G0 y157) [] O .scf G (fun hc=>G5 O O) O (JLo (BL (decide (30 < y157))) [86] O .scf ⟨Ua,G⟩ (fun hc=>G4d O O O) O (JLh (BL ((decide (y157 < 0))||(decide (30 < y157)))) (Y7 O O O O) O (JLm (BL ((decide (y157 < 0))||(decide (30 < y157)))) O (JLo (Em i157) [] O .scf G (fun hc=>G5 O O) O (JLo (BL (decide (0 < (i157:Int)))) [90] O .scf ⟨Ua,G⟩ (fun hc=>G4d O O O) O (JLo (BL (decide (0 < (i157:Int)))) [91] O .scf ⟨Ua,G⟩ (fun hc=>G5 O O) O (JLo (G0 y157) [] O .optt G (fun hc=>G5 O O) O (JLo (.dptr [E1 y84.Rows]) [] O .optt G (fun hc=>Ga Qd O O O) O (JLo (E1 y84.Rows) [94] O .optt ⟨Ua,G⟩ (fun hc=>Gh J2 O O O) O ?_)))))))))))))
      refine JLo (Em i157) [] O .optt G (fun hc=>G5 O O) O ?_
      obtain⟨v164,hv164,h⟩:=Gf h
      refine JLo (G0 v164) [96] O .optt ⟨Ua,G⟩ (fun hc=>G6d (G1c (Gv hc hv164)) O O O) O ?_
      obtain⟨y165,hy165,h⟩:=Gf h
      refine JLo (.dptr [G0 y165]) [95,97] O .optt ⟨Ua,Ua,G⟩ (fun hc=>(match Jm (Gv hc hy165) with | ⟨_,hm_,hy_⟩=>Gs (f:=G0) (xs:=y84.Rows) (y:=y165) O O O H4 hy_ hm_)) O (JLo (G0 y165) [98] O .optt ⟨Ua,G⟩ (fun hc=>Gh Gc O O O) O (JLo (BL (decide (y157≤y165))) [93,99] O .optt ⟨Ua,Ua,G⟩ (fun hc=>H97 O O O) O (Gb (u:=BL ((decide (0 < (i157:Int)))&&(decide (y157≤y165)))) [(92,BL (decide (0 < (i157:Int)))),(100,_)] O O O .scf ⟨.all id,.part,G⟩ (fun hc=>J3 O O O O) ?_)))
      refine JLh (BL (((decide (y157 < 0))||(decide (30 < y157)))||((decide (0 < (i157:Int)))&&(decide (y157≤y165))))) (Y7 O O O O) O (G8 (hK163 (JCc O h (fun h hb=>?_) (fun h hb=>?_))))
      ·
       refine Jr fun hK166=>(JLm (BL false) O (G8 (hK166 (Gt (⟨[BL false],[],G,O,⟨⟨_,O,.conv (.same O)⟩,G⟩,O,false,Eq.mpr (Option.some.inj h) hp,O⟩)))))
      ·
       refine Gm (hK162 (G9c (l':=[(3,.mp 1061),(8,.dptr [G0 y84.Bay,E1 y84.Rows]),(10,G0 y157),(55,E4 s.Covers),(56,Em s.Covers.length),(57,Em i84),(76,E1 y84.Rows),(77,Em y84.Rows.length),(78,Em i157)]) (L':=[(1061,MP 137 Hn.kv G0 s157)]) ⟨(by repeat' constructor),⟨⟨_,rfl,.map⟩,G⟩,rfl⟩ ?_))
       obtain⟨v167,hv167,h⟩:=Gf h
       obtain⟨v168,hv168,h⟩:=Jh h
       refine Jt [7,9] [0,0,0,0,0,0,0,0,1,0] [0,0,0,0,0,1,1,0,1,0] [[(1061,MP 137 Hn.kv G0 s157)],((1061,MI 137 Hn.kv G0 s157 (Hn.mk y84.Bay y157 2) 0)::[(1061,MP 137 Hn.kv G0 s157)]),((1061,MP 137 Hn.kv G0 (Hp.put s157 (Hn.mk y84.Bay y157 2) v168))::((1061,MI 137 Hn.kv G0 s157 (Hn.mk y84.Bay y157 2) 0)::[(1061,MP 137 Hn.kv G0 s157)]))] Jb (by kernel_rfl) rfl rfl ?_
       refine Gd (u:=.mp 1061) O O ⟨Gr (G5 O O) O,G⟩ (Gd (u:=.dptr [G0 y84.Bay,E1 y84.Rows]) O O ⟨Gr (Ga Ya O O O) O,G⟩ (Gd (u:=G0 y84.Bay) O O ⟨Gr (Gh Gc O O O) O,G⟩ (Gd (u:=G0 y157) O O ⟨Gr (G5 O O) O,G⟩ (Gd (u:=.agg [G0 y84.Bay,G0 y157,G0 2]) O O ⟨Gr (J71 (cs:=[G0 y84.Bay,G0 y157,G0 2]) [.int .i64 0,.int .i64 0,.int .i64 0] Q2c Jbe O O) O,G⟩ (Gd (u:=G0 v167) O O ⟨Gr (((Option.some.inj hv167) ▸ H79 (av:=G0) (m:=s157) (a:=(Hn.mk y84.Bay y157 2)) 0 (.int .i64 0) O O O O J9f Gda J2b O)) O,Gr (((Option.some.inj hv167) ▸ Q62 (av:=G0) (m:=s157) (a:=(Hn.mk y84.Bay y157 2)) 0 (.int .i64 0) O O O O J9f Gda J2b O)) O,G⟩ (Gd (u:=G0 v168) O O ⟨Gr (Hx hv168 O O O) O,Gr (Hx hv168 O O O) O,G⟩ (D_w (u:=.tup [.junk,G0 (G62 (Hp.l s157) (Hn.mk y84.Bay y157 2):Int)]) O O O O (Gr (Jea (m:=s157) (a:=(Hn.mk y84.Bay y157 2)) 0 (.int .i64 0) O O O O J9f Gda J2b O) O) (Gd (u:=G0 (G62 (Hp.l s157) (Hn.mk y84.Bay y157 2):Int)) O O ⟨Gr (Jn O O O) O,G⟩ (Q7e (u:=.junk) O O O O (Gr (J4e (m:=s157) (a:=(Hn.mk y84.Bay y157 2)) (v:=v168) 0 O O O O O O) O) (Ru ?_))))))))))
       refine hK160 (G2 (JLh (G0 ((i157+1:Nat):Int)) (Hx (Hc hk157 hm77) O O O) O (JLm (G0 ((i157+1:Nat):Int)) O (G8 (e157 _ _ (i157+1) (Hp.put s157 (Hn.mk y84.Bay y157 2) v168) (app1 hn157 h) (by omega) ⟨(by repeat' constructor),⟨⟨_,rfl,.map⟩,G⟩,rfl⟩)))))
     ·
      have h:=app1 hkx157 (Ht hi157 (H9 hb))
      refine Hd (hK87 (G2 (JLh (G0 ((i84+1:Nat):Int)) (Hx (Hc hk84 hm56) O O O) O (JLm (G0 ((i84+1:Nat):Int)) O (G8 (e84 _ _ (i84+1) s157 (app1 hn84 h) (by omega) ⟨(by repeat' constructor),⟨⟨_,rfl,.map⟩,G⟩,rfl⟩))))))
   ·
    have h:=app1 hkx84 (Ht hi84 (H9 hb))
    refine Hd (hK82 (Js fun hK169=>Jr fun hK170=>(JLm (.mp 1061) O (JLh (.it 1062) (Qbb 1062 (m:=s84) O O O O Gda) O (G8 (hK170 (Gk ?_)))))))
    obtain⟨b176,kx176,hb176,hkx176,h⟩:=eachM_in h
    refine Qb7 (Hp.size s84) (fun i176 (s176:Unit)=>MInv b176 kx176 (Hp.l s84) i176 s176) (fun i176 s176=>[(115,.it 1062)]) (fun i176 s176=>[(1061,MP 137 Hn.kv G0 s84),(1062,.iter 1061 (Hp.size s84) i176)]) () (MInv.start h hp) ⟨⟨.same O,G⟩,⟨⟨_,O,.map⟩,⟨_,O,.iter O⟩,G⟩,O⟩ ?_
    clear h hp
    intro i176 s176 hi176 K176 e176
    refine Jr fun hK177=>H00 O O O (A_nextM (m:=s84) O O O O) ?_
    intro u_ L_ hn_
    rcases hn_ with ⟨q176,x176,he176,hs176,rfl,rfl⟩ | ⟨ha176,rfl,rfl⟩
    ·
     obtain⟨o176,h,ho1_176,ho2_176⟩:=hi176.step he176 hs176
     replace h:=H9f hb176 h
     refine JLh (BL true) (Jn O O O) O (G8 (hK177 (Js fun hK178=>Qb8 O (Gm (hK178 (Gk (Jr fun hK179=>(JLh (.tup [.agg (Hn.cs x176.1),G0 x176.2]) (Qbe (kv:=Hn.kv) (av:=G0) (m:=s84) (q:=q176) (seen:=i176) (e:=x176) O O O O he176) O (JLh (G0 x176.2) (Jn O O O) O (JLm (G0 x176.2) O (G8 (hK179 (Jr fun hK180=>(JLm (G0 x176.2) O (JLh (BL (decide (1 < x176.2))) (G4d O O O) O (G8 (hK180 (JCc O h (fun h hb=>?_) (fun h hb=>?_)))))))))))))))))))
     ·
      refine Jr fun hK181=>(JLm (BL false) O (G8 (hK181 (Gt ?_))))
      obtain⟨y_,hy_,hl_⟩:=lft_out h
      exact⟨[BL false],[],G,O,⟨⟨_,O,.conv (.same O)⟩,G⟩,O,false,Eq.mpr (Option.some.inj hl_) (ho1_176 y_ hy_),O⟩
     ·
      refine Gm (e176 _ _ (i176++[q176]) () (ho2_176 _ (Option.some.inj h).symm) (unseen_lt (List.getElem?_eq_some_iff.1 he176).1 hs176) ⟨⟨.same O,G⟩,⟨⟨_,O,.map⟩,⟨_,O,.iter O⟩,G⟩,O⟩)
    ·
     obtain⟨p_,h,hp⟩:=hi176.done ha176
     replace h:=app1 hkx176 h
     refine JLh (BL false) (Jn O O O) O (G8 (hK177 (Js fun hK182=>Q5d O (Hd (hK169 (Jr fun hK183=>(JLm (BL true) O (G8 (hK183 (Gt (⟨[BL true],[],G,O,⟨⟨_,O,.conv (.same O)⟩,G⟩,O,true,Eq.mpr (Option.some.inj h) hp,O⟩)))))))))))
theorem Q56 (S_:(H8)→Option Bool) (hS_:∀ s r,S_ s=some r→∃ p:Prop,Gfd s (fun r_=>r_=r)=some p∧p) (s:H8) (r:Bool) (h:S_ s=some r):Pure En 38 [.agg (H8.cs s)] (·=BL r):=by
 obtain⟨p,h1,h2⟩:=hS_ s r h
 exact(Q55 s _ p h1 h2).monoP (fun av hh=>by obtain⟨r_,rfl,ha⟩:=hh; exact ha)

def Gcf (size:Int):Option (List Int):=
 bif decide (size=40) then
 (some [0])
 else
 (bif decide (size=20) then
  (some [1,2])
  else
  (some []))
theorem Jf1 (size:Int) (r:(List Int)) (h:Gcf size=some r):Pure En 129 [U8 size] (·=Eb r):=by
 unfold Gcf at h
 refine H0 [.tmp 2] Tryz.func129 O O (Jr fun hK1=>(JLh (Eb ([]:List Int)) (Q2 1 O O) O (G8 (hK1 (Js fun hK2=>Jr fun hK3=>(JLm (U8 size) O (G8 (hK3 (Gk (Jr fun hK4=>(JLh (BL (decide (size=40))) (Jk O O O) O (JLm (BL (decide (size=40))) O (G8 (hK4 (JCc O h (fun h hb=>?_) (fun h hb=>?_))))))))))))))))
 ·
  refine Jr fun hK5=>(JLh (Eb [0]) (Hv (xs:=[U8 0]) O ⟨O,O,G⟩ H3d Q07 O O O O) O (JLm (Eb [0]) O (G8 (hK5 (Gt (fin1 (fun r:(List Int)=>(Eb r:AV)) h))))))
 ·
  refine Jr fun hK6=>(JLh (BL (decide (size=20))) (Jk O O O) O (JLm (BL (decide (size=20))) O (G8 (hK6 (JCc O h (fun h hb=>?_) (fun h hb=>?_))))))
  ·
   refine Jr fun hK7=>(JLh (Eb [1,2]) (Hv (xs:=[U8 1,U8 2]) O ⟨O,O,O,O,G⟩ H3d Q07 O O O O) O (JLm (Eb [1,2]) O (G8 (hK7 (Gt (fin1 (fun r:(List Int)=>(Eb r:AV)) h))))))
  ·
   refine Gm (hK2 (Jr fun hK8=>(JLh (Eb ([]:List Int)) (Q2 1 O O) O (G8 (hK8 (Gt (fin1 (fun r:(List Int)=>(Eb r:AV)) h)))))))
end
end Go.Proofs.YteogacmpgdpjlaaGreat
