/-
 Models of functions of the program,and that they return what the models say.
-/
import Derived.Test.YtecjdioomlhhiaaGreatSortLay
import Derived.Test.YtecjdioomlhhiaaGreatLnv
set_option maxRecDepth 100000
set_option maxHeartbeats 1000000
set_option linter.unusedVariables false
set_option linter.unusedSimpArgs false
namespace Go.Proofs.YtecjdioomlhhiaaGreat
open Go.RowKit
noncomputable section
abbrev Ei:=Tryz.prog
structure Hp where
 n:Int
 low:Int
 high:Int
 deriving DecidableEq,Inhabited
def Hp.cs (x:Hp):List AV:=[I64 x.n,I64 x.low,I64 x.high]
def Hp.av (x:Hp):AV:=.agg x.cs
structure G3 where
 Bay:Int
 Row:Int
 Deck:Bool
 Tiers:Int
 Height:Int
 Kilos20:Int
 Kilos40:Int
 Lash:Int
 Plugs:List Int
 X:Int
 Y:Int
 Z:Int
 deriving DecidableEq,Inhabited
def G3.cs (x:G3):List AV:=[I64 x.Bay,I64 x.Row,BL x.Deck,I64 x.Tiers,I64 x.Height,I64 x.Kilos20,I64 x.Kilos40,I64 x.Lash,E1 x.Plugs,I64 x.X,I64 x.Y,I64 x.Z]
def G3.av (x:G3):AV:=.agg x.cs
abbrev Ed (x:G3):AV:=.dptr (G3.cs x)
abbrev E5:=LS 12 G3.av
structure G9 where
 Bay:Int
 Rows:List Int
 deriving DecidableEq,Inhabited
def G9.cs (x:G9):List AV:=[I64 x.Bay,E1 x.Rows]
def G9.av (x:G9):AV:=.agg x.cs
abbrev E4:=LS 2 G9.av
structure Light where
 Kilos:Int
 X:Int
 Y:Int
 Z:Int
 deriving DecidableEq,Inhabited
def Light.cs (x:Light):List AV:=[I64 x.Kilos,I64 x.X,I64 x.Y,I64 x.Z]
def Light.av (x:Light):AV:=.agg x.cs
structure Row where
 Draught:Int
 Kilos:Int
 Buoy:Int
 Metacentre:Int
 He7:Int
 deriving DecidableEq,Inhabited
def Row.cs (x:Row):List AV:=[I64 x.Draught,I64 x.Kilos,I64 x.Buoy,I64 x.Metacentre,I64 x.He7]
def Row.av (x:Row):AV:=.agg x.cs
abbrev E7:=LS 5 Row.av
structure Frame where
 X:Int
 Light:Int
 Share:Int
 Shear:Int
 Bend:Int
 deriving DecidableEq,Inhabited
def Frame.cs (x:Frame):List AV:=[I64 x.X,I64 x.Light,I64 x.Share,I64 x.Shear,I64 x.Bend]
def Frame.av (x:Frame):AV:=.agg x.cs
abbrev E6:=LS 5 Frame.av
structure Gg where
 Kilos:Int
 X:Int
 Y:Int
 Z:Int
 Surface:Int
 Steps:List Int
 deriving DecidableEq,Inhabited
def Gg.cs (x:Gg):List AV:=[I64 x.Kilos,I64 x.X,I64 x.Y,I64 x.Z,I64 x.Surface,E1 x.Steps]
def Gg.av (x:Gg):AV:=.agg x.cs
abbrev Eg (x:Gg):AV:=.dptr (Gg.cs x)
abbrev E8:=LS 6 Gg.av
structure G1 where
 Tolerance:Int
 Trim:Int
 List_:Int
 Stability:Int
 deriving DecidableEq,Inhabited
def G1.cs (x:G1):List AV:=[I64 x.Tolerance,I64 x.Trim,I64 x.List_,I64 x.Stability]
def G1.av (x:G1):AV:=.agg x.cs
structure H0 where
 Columns:List G3
 Covers:List G9
 Light:Light
 Rows:List Row
 Frames:List Frame
 Tanks:List Gg
 G1:G1
 deriving DecidableEq,Inhabited
def H0.cs (x:H0):List AV:=[E5 x.Columns,E4 x.Covers,I64 x.Light.Kilos,I64 x.Light.X,I64 x.Light.Y,I64 x.Light.Z,E7 x.Rows,E6 x.Frames,E8 x.Tanks,I64 x.G1.Tolerance,I64 x.G1.Trim,I64 x.G1.List_,I64 x.G1.Stability]
def H0.av (x:H0):AV:=.agg x.cs
abbrev Eb (x:H0):AV:=.dptr (H0.cs x)
structure Hh where
 e0:Int
 e1:Int
 e2:Int
 deriving DecidableEq,Inhabited
def Hh.cs (x:Hh):List AV:=[I64 x.e0,I64 x.e1,I64 x.e2]
def Hh.av (x:Hh):AV:=.agg x.cs
def Hh.ks (x:Hh):List Value:=[.int .i64 x.e0,.int .i64 x.e1,.int .i64 x.e2]
def Hh.kv (x:Hh):Value:=.agg x.ks.toArray
namespace XAF
theorem Y28 (a b:Hh):H89 Ei 4 157 [.int .i64 a.e0,.int .i64 a.e1,.int .i64 a.e2] [.int .i64 b.e0,.int .i64 b.e1,.int .i64 b.e2]=some (decide (a=b)):=by
 refine(show _=some ((a.e0==b.e0)&&((a.e1==b.e1)&&((a.e2==b.e2)&&true))) by kernel_rfl).trans (congrArg some ?_)
 rw [Bool.eq_iff_iff]
 simp only [Bool.and_eq_true,beq_iff_eq,decide_eq_true_eq,Bool.and_true]
 constructor
 ·intro h; obtain⟨_,_,_⟩:=a; obtain⟨_,_,_⟩:=b; simp_all
 ·intro h; subst h; simp
theorem R2e:Ge6 Ei 181 3=true:=by kernel_rfl
theorem Y5:Ge6 Ei 67 12=true:=by kernel_rfl
theorem Yk:Ge6 Ei 69 2=true:=by kernel_rfl
theorem Je1:Y06 Ei 157 3 1=true:=by kernel_rfl
theorem Qad:H7 Ei 130=true:=by kernel_rfl
theorem J79:H7 Ei 155=true:=by kernel_rfl
theorem Hca:Qc Ei 181 0 0=true:=by kernel_rfl
theorem Jc2:Qc Ei 181 1 1=true:=by kernel_rfl
theorem Jc1:Qc Ei 181 2 2=true:=by kernel_rfl
theorem Hi:Qc Ei 32 0 0=true:=by kernel_rfl
theorem J0:Qc Ei 32 1 1=true:=by kernel_rfl
theorem G19:Qc Ei 67 0 0=true:=by kernel_rfl
theorem G18:Qc Ei 67 1 1=true:=by kernel_rfl
theorem Gd6:Qc Ei 67 10 10=true:=by kernel_rfl
theorem Gd5:Qc Ei 67 11 11=true:=by kernel_rfl
theorem Yj:Qc Ei 67 2 2=true:=by kernel_rfl
theorem G17:Qc Ei 67 3 3=true:=by kernel_rfl
theorem G3a:Qc Ei 67 4 4=true:=by kernel_rfl
theorem Gf9:Qc Ei 67 5 5=true:=by kernel_rfl
theorem Gf8:Qc Ei 67 6 6=true:=by kernel_rfl
theorem Gf7:Qc Ei 67 7 7=true:=by kernel_rfl
theorem Rc:Qc Ei 67 8 8=true:=by kernel_rfl
theorem Gf6:Qc Ei 67 9 9=true:=by kernel_rfl
theorem G04:Qc Ei 69 0 0=true:=by kernel_rfl
theorem Q5:Qc Ei 69 1 1=true:=by kernel_rfl
theorem Gba:Ge3 Ei 156 157 3=true:=by kernel_rfl
theorem J6:Ei.follows .mixedOrders=true:=by kernel_rfl
theorem Z7:placesOf Ei 181=some [(0,1),(1,1),(2,1)]:=by kernel_rfl
theorem Ht:Ym Ei 22=true:=by kernel_rfl
theorem J8:Ym Ei 23=true:=by kernel_rfl
theorem Gd:Ym Ei 3=true:=by kernel_rfl
theorem Hw:Ym Ei 35=true:=by kernel_rfl
theorem Yc:Ym Ei 4=true:=by kernel_rfl
theorem Q9a:Zh Ei 181 3=true:=by kernel_rfl
theorem Geb:Zh Ei 67 12=true:=by kernel_rfl
theorem Gb9:Zh Ei 69 2=true:=by kernel_rfl
theorem H18:sliceB Ei 138 5 1=true:=by kernel_rfl
theorem H17:sliceB Ei 179 181 3=true:=by kernel_rfl
theorem H4:sliceB Ei 22 67 12=true:=by kernel_rfl
theorem He:sliceB Ei 23 69 2=true:=by kernel_rfl
theorem Gs:sliceB Ei 35 3 1=true:=by kernel_rfl
theorem J76:(Ei.info? 157).bind (fun i=>i.zero.map Value.cells)=some (List.toArray [E0,E0,E0]):=by kernel_rfl
theorem G20:(Ei.info? 181).bind (fun i=>i.zero.map Value.cells)=some (List.toArray [E0,E0,E0]):=by kernel_rfl
theorem H9c:G01 Ei 181 3=true:=by kernel_rfl
theorem Jbb:G01 Ei 5 1=true:=by kernel_rfl
theorem G7d:G01 Ei 67 12=true:=by kernel_rfl
theorem G63:G01 Ei 69 2=true:=by kernel_rfl
theorem Hf4:(Ei.info? 3).bind (·.zero)=some E0:=by kernel_rfl
theorem J5d:H5a Ei 157 Hh.kv:=H5a.of_eq Hh.ks (by kernel_rfl) (fun a b h=>by simp only [Hh.ks,List.cons.injEq,Value.int.injEq,Value.bool.injEq,Value.string.injEq,true_and,and_true] at h; obtain⟨_,_,_⟩:=a; obtain⟨_,_,_⟩:=b; simp_all) 4 (by decide) (fun a b=>Y28 a b) (fun a=>by kernel_rfl) (fun a=>by simp [Instr.sameBits,Hh.ks])
end XAF
open XAF

def G62 (l:List Hp):Option Bool:=
 each (fun y18 i18 (s18:Unit) nx18=>
  bif ((decide (y18.n < y18.low))||(decide (y18.high < y18.n))) then
  (some false)
  else
  (nx18 ()))
 (fun(s18:Unit)=>
  some true) l 0 ()
theorem H96 (l:List Hp) (r:Bool) (h:G62 l=some r):Pure Ei 155 [LS 3 Hp.av l] (·=BL r):=by
 unfold G62 at h
 refine Gz [.tmp 2] Tryz.func155 O O (Jr fun hK1=>(JLm (BL false) O (G7 (hK1 (Js fun hK2=>Jr fun hK3=>(JLm (LS 3 Hp.av l) O (JLl H17 O O O fun hm6=>(JLm (I64 0) O (G7 (hK3 (Gq ?_)))))))))))
 obtain⟨b18,kx18,hb18,hkx18,h⟩:=J3 h
 refine Hd (fun i18 (s18:Unit)=>each b18 kx18 (List.drop i18 l) i18 s18=some r) (fun i18 s18=>[(5,LS 3 Hp.av l),(6,Eh l.length),(7,Eh i18)]) (fun i18 s18=>[]) (fun i18=>l.length - i18) 0 () h ⟨(.sm O O),G,O⟩ ?_
 clear h
 intro i18 s18 hi18 K18 e18
 refine Jr fun hK19=>(JLh (BL (decide ((i18:Int) < (l.length:Int)))) (Hz O O O) O (G7 (hK19 (Js fun hK20=>Gi O (fun hb=>?_) (fun hb=>?_)))))
 ·
  have hk18:=Jj hb
  obtain⟨y18,nx18,hy18,hn18,h⟩:=Hu hi18 hk18
  replace h:=Z9 hb18 h
  refine Gk (hK20 (Js fun hK21=>Gq (Jr fun hK22=>(JLh (.dptr [I64 y18.n,I64 y18.low,I64 y18.high]) (Gw (f:=Hp.av) (xs:=l) (y:=y18) O O O H17 hy18 O) O (JLh (.agg [I64 y18.n,I64 y18.low,I64 y18.high]) (Gh R2e O O O) O (JLh (.ptr 1155 0) (Qo 1155 3 H9c O O) O (Jo (u:=.junk) (Jh (u:=.agg [I64 y18.n,I64 y18.low,I64 y18.high]) (ds:=[I64 y18.n,I64 y18.low,I64 y18.high]) Q9a O O O O O O O O) (G7 (hK22 (Gx [(4,.dptr [I64 y18.n,I64 y18.low,I64 y18.high]),(5,LS 3 Hp.av l),(6,Eh l.length),(7,Eh i18)] [] 1155 rfl rfl rfl G rfl (by repeat' (first | exact .ptr | constructor)) ?_))))))))))
  refine Jr fun hK23=>(JLh (.dptr [I64 y18.n,I64 y18.low,I64 y18.high]) (Ga Hca O O O) O (JLh (I64 y18.n) (Gf Gd O O O) O (JLh (.dptr [I64 y18.low,I64 y18.high]) (Ga Jc2 O O O) O (JLh (I64 y18.low) (Gf Gd O O O) O (JLh (BL (decide (y18.n < y18.low))) (Hz O O O) O (JLm (BL (decide (y18.n < y18.low))) O (JLo (.dptr [I64 y18.n,I64 y18.low,I64 y18.high]) [] O .scf G (fun hc=>Ga Hca O O O) O (JLo (I64 y18.n) [17] O .scf ⟨Ua,G⟩ (fun hc=>Gf Gd O O O) O (JLo (.dptr [I64 y18.high]) [] O .scf G (fun hc=>Ga Jc1 O O O) O (JLo (I64 y18.high) [19] O .scf ⟨Ua,G⟩ (fun hc=>Gf Gd O O O) O (JLo (BL (decide (y18.high < y18.n))) [18,20] O .scf ⟨Ua,Ua,G⟩ (fun hc=>G30 O O O) O (JLh (BL ((decide (y18.n < y18.low))||(decide (y18.high < y18.n)))) (Y4 O O O O) O (G7 (hK23 ?_))))))))))))))
  refine JCc O h ?_ ?_<;>intro h hb
  ·
   refine Jr fun hK24=>(JLm (BL false) O (G7 (hK24 (Gn (fin1 BL h)))))
  ·
   refine Gk (hK21 (G2 (JLh (I64 ((i18+1:Nat):Int)) (Hs (Hf hk18 hm6) O O O) O (JLm (I64 ((i18+1:Nat):Int)) O (G7 (e18 _ _ (i18+1) () (app1 hn18 h) (by omega) ⟨(.sm O O),G,rfl⟩))))))
 ·
  have h:=app1 hkx18 (Hv hi18 (Ha hb))
  refine Hn (hK2 (Jr fun hK25=>(JLm (BL true) O (G7 (hK25 (Gn (fin1 BL h)))))))

def G9a (c:G3):Option Bool:=
 each (fun y27 i27 (s27:Unit) nx27=>
  wrp (c.Tiers - 1) fun v33=>
  bnd (G62 [(Hp.mk y27 0 v33)]) fun r34=>
  bnd (bif ((!(!r34))&&(decide (0 < (i27:Int)))) then some (IntKind.i64.wrap ((i27:Int) - 1)) else some 0) fun v35=>
  bnd (bif ((!(!r34))&&(decide (0 < (i27:Int)))) then Qq c.Plugs v35 some else some default) fun y36=>
  bif ((!r34)||((decide (0 < (i27:Int)))&&(decide (y27≤y36)))) then
  (some false)
  else
  (nx27 ()))
 (fun(s27:Unit)=>
  bnd (G62 [(Hp.mk c.Bay 0 39),(Hp.mk c.Row 0 30),(Hp.mk c.Tiers 1 10),(Hp.mk c.Height 0 40000),(Hp.mk c.Kilos20 0 500000000),(Hp.mk c.Kilos40 0 500000000),(Hp.mk c.Lash 0 1000000000000),(Hp.mk c.X (-500000) 500000),(Hp.mk c.Y (-500000) 500000),(Hp.mk c.Z (-500000) 500000)]) fun r39=>
  some r39) c.Plugs 0 ()
abbrev Ej (c:G3):List AV:=[I64 c.Tiers,I64 c.Height,I64 c.Kilos20,I64 c.Kilos40,I64 c.Lash,E1 c.Plugs,I64 c.X,I64 c.Y,I64 c.Z]
theorem Q15 (c:G3) (r:Bool) (h:G9a c=some r):Pure Ei 130 [.agg (G3.cs c)] (·=BL r):=by
 unfold G9a at h
 refine Gz [.tmp 2] Tryz.func130 O O (Jr fun hK1=>(JLh (.ptr 1141 0) (Je (cs:=(G3.cs c)) 1141 O O O O O) O (JLm (BL false) O (G7 (hK1 (Gx [(1,Ed c)] [] 1141 rfl rfl rfl G rfl (by exact⟨.ptr,G⟩) (Jr fun hK2=>(JLm (.fn 155 []) O (G7 (hK2 (Js fun hK3=>Jr fun hK4=>(JLh (.dptr [E1 c.Plugs,I64 c.X,I64 c.Y,I64 c.Z]) (Ga Rc O O O) O (JLh (E1 c.Plugs) (Gf Hw O O O) O (JLl Gs O O O fun hm8=>(JLm (I64 0) O (G7 (hK4 (Gq ?_))))))))))))))))))
 obtain⟨b27,kx27,hb27,hkx27,h⟩:=J3 h
 refine Hd (fun i27 (s27:Unit)=>each b27 kx27 (List.drop i27 c.Plugs) i27 s27=some r) (fun i27 s27=>[(1,Ed c),(3,.fn 155 []),(7,E1 c.Plugs),(8,Eh c.Plugs.length),(9,Eh i27)]) (fun i27 s27=>[]) (fun i27=>c.Plugs.length - i27) 0 () h ⟨(.sm O O),G,rfl⟩ ?_
 clear h
 intro i27 s27 hi27 K27 e27
 refine Jr fun hK28=>(JLh (BL (decide ((i27:Int) < (c.Plugs.length:Int)))) (Hz O O O) O (G7 (hK28 (Js fun hK29=>Gi O (fun hb=>?_) (fun hb=>?_)))))
 ·
  have hk27:=Jj hb
  obtain⟨y27,nx27,hy27,hn27,h⟩:=Hu hi27 hk27
  replace h:=Z9 hb27 h
  refine Gk (hK29 (Js fun hK30=>Gq (Jr fun hK31=>(JLm (Eh i27) O (JLh (.dptr [I64 y27]) (Gw (f:=I64) (xs:=c.Plugs) (y:=y27) O O O Gs hy27 O) O (JLh (I64 y27) (Gf Gd O O O) O (JLm (Eh i27) O (JLm (I64 y27) O (G7 (hK31 (Jr fun hK32=>(JLm (.fn 155 []) O (JLm (I64 y27) O (JLh (.dptr (Ej c)) (Ga G17 O O O) O (JLh (I64 c.Tiers) (Gf Gd O O O) O ?_)))))))))))))))
  obtain⟨v33,hv33,h⟩:=Rf2 h
  refine JLh (I64 v33) (Gcc hv33 O O O) O (JLh (.agg [I64 y27,I64 0,I64 v33]) (Jp (cs:=[I64 y27,I64 0,I64 v33]) [(0,1),(1,1),(2,1)] [I64 0,I64 0,I64 0] [E0,E0,E0] Z7 G20 ⟨.inl O,.inl O,.inl O,G⟩ O O) O (JLh (LS 3 Hp.av [(Hp.mk y27 0 v33)]) (Hj (xs:=[.agg [I64 y27,I64 0,I64 v33]]) O ⟨O,O,G⟩ H17 H9c O O O O) O ?_))
  obtain⟨r34,hr34,h⟩:=Gc h
  refine JLh (BL r34) (Gb3 (args:=[LS 3 Hp.av [(Hp.mk y27 0 v33)]]) (caps:=[]) O O (H96 [(Hp.mk y27 0 v33)] r34 hr34) J79 ⟨O,O,G⟩ O) O (JLh (BL (!r34)) (Q7 (b:=r34) O O) O (JLm (BL (!r34)) O (JLo (Eh i27) [] O .scf G (fun hc=>G4 O O) O (JLo (BL (decide (0 < (i27:Int)))) [24] O .scf ⟨Ua,G⟩ (fun hc=>G30 O O O) O (JLo (BL (decide (0 < (i27:Int)))) [25] O .scf ⟨Ua,G⟩ (fun hc=>G4 O O) O (JLo (I64 y27) [] O .optt G (fun hc=>G4 O O) O (JLo (.dptr [E1 c.Plugs,I64 c.X,I64 c.Y,I64 c.Z]) [] O .optt G (fun hc=>Ga Rc O O O) O (JLo (E1 c.Plugs) [28] O .optt ⟨Ua,G⟩ (fun hc=>Gf Hw O O O) O (JLo (Eh i27) [] O .optt G (fun hc=>G4 O O) O ?_)))))))))
  obtain⟨v35,hv35,h⟩:=Gc h
  refine JLo (I64 v35) [30] O .optt ⟨Ua,G⟩ (fun hc=>Gcc (Option.some.inj (Gu hc hv35)) O O O) O ?_
  obtain⟨y36,hy36,h⟩:=Gc h
  refine JLo (.dptr [I64 y36]) [29,31] O .optt ⟨Ua,Ua,G⟩ (fun hc=>(match Jx (Gu hc hy36) with | ⟨_,hm_,hy_⟩=>Gw (f:=I64) (xs:=c.Plugs) (y:=y36) O O O Gs hy_ hm_)) O (JLo (I64 y36) [32] O .optt ⟨Ua,G⟩ (fun hc=>Gf Gd O O O) O (JLo (BL (decide (y27≤y36))) [27,33] O .optt ⟨Ua,Ua,G⟩ (fun hc=>J12 O O O) O (G8 (u:=BL ((decide (0 < (i27:Int)))&&(decide (y27≤y36)))) [(26,BL (decide (0 < (i27:Int)))),(34,_)] O O O .scf ⟨.all id,.part,G⟩ (fun hc=>Hy O O O O) ?_)))
  refine JLh (BL ((!r34)||((decide (0 < (i27:Int)))&&(decide (y27≤y36))))) (Y4 O O O O) O (G7 (hK32 (JCc O h (fun h hb=>?_) (fun h hb=>?_))))
  ·
   refine Jr fun hK37=>(JLm (BL false) O (G7 (hK37 (Gn (fin1 BL h)))))
  ·
   refine Gk (hK30 (G2 (JLh (I64 ((i27+1:Nat):Int)) (Hs (Hf hk27 hm8) O O O) O (JLm (I64 ((i27+1:Nat):Int)) O (G7 (e27 _ _ (i27+1) () (app1 hn27 h) (by omega) ⟨(.sm O O),G,rfl⟩))))))
 ·
  have h:=app1 hkx27 (Hv hi27 (Ha hb))
  refine Hn (hK3 ?_)
  refine Jr fun hK38=>(JLm (.fn 155 []) O (JLh (Ed c) (Ga G19 O O O) O (JLh (I64 c.Bay) (Gf Gd O O O) O (JLh (.agg [I64 c.Bay,I64 0,I64 39]) (Jp (cs:=[I64 c.Bay,I64 0,I64 39]) [(0,1),(1,1),(2,1)] [I64 0,I64 0,I64 0] [E0,E0,E0] Z7 G20 ⟨.inl O,.inl O,.inl O,G⟩ O O) O (JLh (.dptr [I64 c.Row,BL c.Deck,I64 c.Tiers,I64 c.Height,I64 c.Kilos20,I64 c.Kilos40,I64 c.Lash,E1 c.Plugs,I64 c.X,I64 c.Y,I64 c.Z]) (Ga G18 O O O) O (JLh (I64 c.Row) (Gf Gd O O O) O (JLh (.agg [I64 c.Row,I64 0,I64 30]) (Jp (cs:=[I64 c.Row,I64 0,I64 30]) [(0,1),(1,1),(2,1)] [I64 0,I64 0,I64 0] [E0,E0,E0] Z7 G20 ⟨.inl O,.inl O,.inl O,G⟩ O O) O (JLh (.dptr (Ej c)) (Ga G17 O O O) O (JLh (I64 c.Tiers) (Gf Gd O O O) O (JLh (.agg [I64 c.Tiers,I64 1,I64 10]) (Jp (cs:=[I64 c.Tiers,I64 1,I64 10]) [(0,1),(1,1),(2,1)] [I64 0,I64 0,I64 0] [E0,E0,E0] Z7 G20 ⟨.inl O,.inl O,.inl O,G⟩ O O) O (JLh (.dptr [I64 c.Height,I64 c.Kilos20,I64 c.Kilos40,I64 c.Lash,E1 c.Plugs,I64 c.X,I64 c.Y,I64 c.Z]) (Ga G3a O O O) O (JLh (I64 c.Height) (Gf Gd O O O) O (JLh (.agg [I64 c.Height,I64 0,I64 40000]) (Jp (cs:=[I64 c.Height,I64 0,I64 40000]) [(0,1),(1,1),(2,1)] [I64 0,I64 0,I64 0] [E0,E0,E0] Z7 G20 ⟨.inl O,.inl O,.inl O,G⟩ O O) O ?_)))))))))))))
  refine JLh (.dptr [I64 c.Kilos20,I64 c.Kilos40,I64 c.Lash,E1 c.Plugs,I64 c.X,I64 c.Y,I64 c.Z]) (Ga Gf9 O O O) O (JLh (I64 c.Kilos20) (Gf Gd O O O) O (JLh (.agg [I64 c.Kilos20,I64 0,I64 500000000]) (Jp (cs:=[I64 c.Kilos20,I64 0,I64 500000000]) [(0,1),(1,1),(2,1)] [I64 0,I64 0,I64 0] [E0,E0,E0] Z7 G20 ⟨.inl O,.inl O,.inl O,G⟩ O O) O (JLh (.dptr [I64 c.Kilos40,I64 c.Lash,E1 c.Plugs,I64 c.X,I64 c.Y,I64 c.Z]) (Ga Gf8 O O O) O (JLh (I64 c.Kilos40) (Gf Gd O O O) O (JLh (.agg [I64 c.Kilos40,I64 0,I64 500000000]) (Jp (cs:=[I64 c.Kilos40,I64 0,I64 500000000]) [(0,1),(1,1),(2,1)] [I64 0,I64 0,I64 0] [E0,E0,E0] Z7 G20 ⟨.inl O,.inl O,.inl O,G⟩ O O) O (JLh (.dptr [I64 c.Lash,E1 c.Plugs,I64 c.X,I64 c.Y,I64 c.Z]) (Ga Gf7 O O O) O (JLh (I64 c.Lash) (Gf Gd O O O) O (JLh (.agg [I64 c.Lash,I64 0,I64 1000000000000]) (Jp (cs:=[I64 c.Lash,I64 0,I64 1000000000000]) [(0,1),(1,1),(2,1)] [I64 0,I64 0,I64 0] [E0,E0,E0] Z7 G20 ⟨.inl O,.inl O,.inl O,G⟩ O O) O (JLh (.dptr [I64 c.X,I64 c.Y,I64 c.Z]) (Ga Gf6 O O O) O (JLh (I64 c.X) (Gf Gd O O O) O (JLh (.agg [I64 c.X,I64 (-500000),I64 500000]) (Jp (cs:=[I64 c.X,I64 (-500000),I64 500000]) [(0,1),(1,1),(2,1)] [I64 0,I64 0,I64 0] [E0,E0,E0] Z7 G20 ⟨.inl O,.inl O,.inl O,G⟩ O O) O (JLh (.dptr [I64 c.Y,I64 c.Z]) (Ga Gd6 O O O) O (JLh (I64 c.Y) (Gf Gd O O O) O ?_)))))))))))))
  refine JLh (.agg [I64 c.Y,I64 (-500000),I64 500000]) (Jp (cs:=[I64 c.Y,I64 (-500000),I64 500000]) [(0,1),(1,1),(2,1)] [I64 0,I64 0,I64 0] [E0,E0,E0] Z7 G20 ⟨.inl O,.inl O,.inl O,G⟩ O O) O (JLh (.dptr [I64 c.Z]) (Ga Gd5 O O O) O (JLh (I64 c.Z) (Gf Gd O O O) O (JLh (.agg [I64 c.Z,I64 (-500000),I64 500000]) (Jp (cs:=[I64 c.Z,I64 (-500000),I64 500000]) [(0,1),(1,1),(2,1)] [I64 0,I64 0,I64 0] [E0,E0,E0] Z7 G20 ⟨.inl O,.inl O,.inl O,G⟩ O O) O (JLh (LS 3 Hp.av [(Hp.mk c.Bay 0 39),(Hp.mk c.Row 0 30),(Hp.mk c.Tiers 1 10),(Hp.mk c.Height 0 40000),(Hp.mk c.Kilos20 0 500000000),(Hp.mk c.Kilos40 0 500000000),(Hp.mk c.Lash 0 1000000000000),(Hp.mk c.X (-500000) 500000),(Hp.mk c.Y (-500000) 500000),(Hp.mk c.Z (-500000) 500000)]) (Hj (xs:=[.agg [I64 c.Bay,I64 0,I64 39],.agg [I64 c.Row,I64 0,I64 30],.agg [I64 c.Tiers,I64 1,I64 10],.agg [I64 c.Height,I64 0,I64 40000],.agg [I64 c.Kilos20,I64 0,I64 500000000],.agg [I64 c.Kilos40,I64 0,I64 500000000],.agg [I64 c.Lash,I64 0,I64 1000000000000],.agg [I64 c.X,I64 (-500000),I64 500000],.agg [I64 c.Y,I64 (-500000),I64 500000],.agg [I64 c.Z,I64 (-500000),I64 500000]]) O ⟨O,O,O,O,O,O,O,O,O,O,O,O,O,O,O,O,O,O,O,O,G⟩ H17 H9c O O O O) O ?_))))
  obtain⟨r39,hr39,h⟩:=Gc h
  refine JLh (BL r39) (Gb3 (args:=[LS 3 Hp.av [(Hp.mk c.Bay 0 39),(Hp.mk c.Row 0 30),(Hp.mk c.Tiers 1 10),(Hp.mk c.Height 0 40000),(Hp.mk c.Kilos20 0 500000000),(Hp.mk c.Kilos40 0 500000000),(Hp.mk c.Lash 0 1000000000000),(Hp.mk c.X (-500000) 500000),(Hp.mk c.Y (-500000) 500000),(Hp.mk c.Z (-500000) 500000)]]) (caps:=[]) O O (H96 [(Hp.mk c.Bay 0 39),(Hp.mk c.Row 0 30),(Hp.mk c.Tiers 1 10),(Hp.mk c.Height 0 40000),(Hp.mk c.Kilos20 0 500000000),(Hp.mk c.Kilos40 0 500000000),(Hp.mk c.Lash 0 1000000000000),(Hp.mk c.X (-500000) 500000),(Hp.mk c.Y (-500000) 500000),(Hp.mk c.Z (-500000) 500000)] r39 hr39) J79 ⟨O,O,G⟩ O) O (JLm (BL r39) O (G7 (hK38 (Gn (fin1 BL h)))))

def Gde (s:H0) (Rp:Bool→Prop):Option Prop:=
 bif (((decide ((s.Columns.length:Int) < 1))||(decide (200 < (s.Columns.length:Int))))||(decide (40 < (s.Covers.length:Int)))) then
 (some (Rp false))
 else
 (each (fun y68 i68 (s68:(J1 Hh Int)) nx68=>
   jp (fun kj74=>
    bif y68.Deck then
    (kj74 1)
    else
    (kj74 0)) fun(j74:Int)=>
   bnd (some (J1.get s68 (Hh.mk y68.Bay y68.Row j74) 0)) fun v77=>
   chk (v77+1) fun v78=>
   bnd (G9a y68) fun r80=>
   bif (!r80) then
   (some (Rp false))
   else
   (nx68 (J1.put s68 (Hh.mk y68.Bay y68.Row j74) v78)))
  (fun(s68:(J1 Hh Int))=>
   each (fun y84 i84 (s84:(J1 Hh Int)) nx84=>
    bif (((decide (y84.Bay < 0))||(decide (40≤y84.Bay)))||(decide ((y84.Rows.length:Int)=0))) then
    (some (Rp false))
    else
    (each (fun y157 i157 (s157:(J1 Hh Int)) nx157=>
      bnd (bif ((!((decide (y157 < 0))||(decide (30 < y157))))&&(decide (0 < (i157:Int)))) then chk ((i157:Int) - 1) some else some 0) fun v164=>
      bnd (bif ((!((decide (y157 < 0))||(decide (30 < y157))))&&(decide (0 < (i157:Int)))) then Qq y84.Rows v164 some else some default) fun y165=>
      bif (((decide (y157 < 0))||(decide (30 < y157)))||((decide (0 < (i157:Int)))&&(decide (y157≤y165)))) then
      (some (Rp false))
      else
      (bnd (some (J1.get s157 (Hh.mk y84.Bay y157 2) 0)) fun v167=>
       chk (v167+1) fun v168=>
       nx157 (J1.put s157 (Hh.mk y84.Bay y157 2) v168)))
     (fun(s157:(J1 Hh Int))=>
      nx84 s157) y84.Rows 0 s84))
   (fun(s84:(J1 Hh Int))=>
    Q61 (fun(x176:Hh×Int) (s176:Unit) nx176=>
     bif decide (1 < x176.2) then
     (lft (some (Rp false)))
     else
     (nx176 ()))
    (fun(s176:Unit)=>
     some (Rp true)) (J1.l s84) ()) s.Covers 0 s68) s.Columns 0 (J1.empty:J1 Hh Int))
def H28 (s:H0):Option Bool:=
 bif (((decide ((s.Columns.length:Int) < 1))||(decide (200 < (s.Columns.length:Int))))||(decide (40 < (s.Covers.length:Int)))) then
 (some (id false))
 else
 (each (fun y68 i68 (s68:(J1 Hh Int)) nx68=>
   jp (fun kj74=>
    bif y68.Deck then
    (kj74 1)
    else
    (kj74 0)) fun(j74:Int)=>
   bnd (some (J1.get s68 (Hh.mk y68.Bay y68.Row j74) 0)) fun v77=>
   chk (v77+1) fun v78=>
   bnd (G9a y68) fun r80=>
   bif (!r80) then
   (some (id false))
   else
   (nx68 (J1.put s68 (Hh.mk y68.Bay y68.Row j74) v78)))
  (fun(s68:(J1 Hh Int))=>
   each (fun y84 i84 (s84:(J1 Hh Int)) nx84=>
    bif (((decide (y84.Bay < 0))||(decide (40≤y84.Bay)))||(decide ((y84.Rows.length:Int)=0))) then
    (some (id false))
    else
    (each (fun y157 i157 (s157:(J1 Hh Int)) nx157=>
      bnd (bif ((!((decide (y157 < 0))||(decide (30 < y157))))&&(decide (0 < (i157:Int)))) then chk ((i157:Int) - 1) some else some 0) fun v164=>
      bnd (bif ((!((decide (y157 < 0))||(decide (30 < y157))))&&(decide (0 < (i157:Int)))) then Qq y84.Rows v164 some else some default) fun y165=>
      bif (((decide (y157 < 0))||(decide (30 < y157)))||((decide (0 < (i157:Int)))&&(decide (y157≤y165)))) then
      (some (id false))
      else
      (bnd (some (J1.get s157 (Hh.mk y84.Bay y157 2) 0)) fun v167=>
       chk (v167+1) fun v168=>
       nx157 (J1.put s157 (Hh.mk y84.Bay y157 2) v168)))
     (fun(s157:(J1 Hh Int))=>
      nx84 s157) y84.Rows 0 s84))
   (fun(s84:(J1 Hh Int))=>
    J45 (fun(x176:Hh×Int) (s176:Unit) nx176=>
     bif decide (1 < x176.2) then
     (lft (some (id false)))
     else
     (nx176 ()))
    (fun(s176:Unit)=>
     some (id true)) (J1.l s84) ()) s.Covers 0 s68) s.Columns 0 (J1.empty:J1 Hh Int))
abbrev Ek (s:H0):List AV:=[E4 s.Covers,I64 s.Light.Kilos,I64 s.Light.X,I64 s.Light.Y,I64 s.Light.Z,E7 s.Rows,E6 s.Frames,E8 s.Tanks,I64 s.G1.Tolerance,I64 s.G1.Trim,I64 s.G1.List_,I64 s.G1.Stability]
theorem Q17 (s:H0) (Rp:Bool→Prop) (p:Prop) (h:Gde s Rp=some p) (hp:p):Pure Ei 79 [.agg (H0.cs s)] (fun av=>∃ r,Rp r∧av=BL r):=by
 unfold Gde at h
 refine Gz [.tmp 2] Tryz.func79 O O (Jr fun hK1=>(JLh (.ptr 1091 0) (Je (cs:=(H0.cs s)) 1091 O O O O O) O (JLm (BL false) O (G7 (hK1 (Gx [(1,Eb s)] [] 1091 rfl rfl rfl G rfl (by exact⟨.ptr,G⟩) (Js fun hK2=>?_)))))))
 refine Jr fun hK3=>(JLh (Eb s) (Ga Hi O O O) O (JLh (E5 s.Columns) (Gf Ht O O O) O (JLl H4 O O O fun hm15=>(JLh (BL (decide ((s.Columns.length:Int) < 1))) (Hz O O O) O (JLm (BL (decide ((s.Columns.length:Int) < 1))) O (JLo (Eb s) [] O .scf G (fun hc=>Ga Hi O O O) O (JLo (E5 s.Columns) [18] O .scf ⟨Ua,G⟩ (fun hc=>Gf Ht O O O) O (JLo (Eh s.Columns.length) [19] O .scf ⟨Ua,G⟩ (fun hc=>Qe (f:=G3.av) (xs:=s.Columns) H4 O O) O (JLo (BL (decide (200 < (s.Columns.length:Int)))) [20] O .scf ⟨Ua,G⟩ (fun hc=>G30 O O O) O (JLh (BL ((decide ((s.Columns.length:Int) < 1))||(decide (200 < (s.Columns.length:Int))))) (Y4 O O O O) O (JLm (BL ((decide ((s.Columns.length:Int) < 1))||(decide (200 < (s.Columns.length:Int))))) O (JLo (.dptr (Ek s)) [] O .scf G (fun hc=>Ga J0 O O O) O (JLo (E4 s.Covers) [24] O .scf ⟨Ua,G⟩ (fun hc=>Gf J8 O O O) O ?_)))))))))))))
 refine JLo (Eh s.Covers.length) [25] O .scf ⟨Ua,G⟩ (fun hc=>Qe (f:=G9.av) (xs:=s.Covers) He O O) O (JLo (BL (decide (40 < (s.Covers.length:Int)))) [26] O .scf ⟨Ua,G⟩ (fun hc=>G30 O O O) O (JLh (BL (((decide ((s.Columns.length:Int) < 1))||(decide (200 < (s.Columns.length:Int))))||(decide (40 < (s.Covers.length:Int))))) (Y4 O O O O) O (G7 (hK3 (JCc O h (fun h hb=>?_) (fun h hb=>?_))))))
 ·
  refine Jr fun hK4=>(JLm (BL false) O (G7 (hK4 (Gn (⟨[BL false],[],G,O,⟨⟨_,O,.conv (.same O)⟩,G⟩,O,false,Eq.mpr (Option.some.inj h) hp,O⟩)))))
 ·
  refine Gk (hK2 (Jr fun hK5=>(JLh (.mp 1094) (Q21 1094 Hh.kv I64 O O) O (JLm (.mp 1094) O (G7 (hK5 (Js fun hK6=>Jr fun hK7=>(JLh (Eb s) (Ga Hi O O O) O (JLh (E5 s.Columns) (Gf Ht O O O) O (JLl H4 O O O fun hm32=>(JLm (I64 0) O (G7 (hK7 (Gq ?_))))))))))))))
  obtain⟨b68,kx68,hb68,hkx68,h⟩:=J3 h
  refine Hd (fun i68 (s68:(J1 Hh Int))=>each b68 kx68 (List.drop i68 s.Columns) i68 s68=some p) (fun i68 s68=>[(1,Eb s),(3,.mp 1094),(31,E5 s.Columns),(32,Eh s.Columns.length),(33,Eh i68)]) (fun i68 s68=>[(1094,MP 156 Hh.kv I64 s68)]) (fun i68=>s.Columns.length - i68) 0 (J1.empty:J1 Hh Int) h ⟨(.sm O O),⟨⟨_,rfl,.map⟩,G⟩,rfl⟩ ?_
  clear h
  intro i68 s68 hi68 K68 e68
  refine Jr fun hK69=>(JLh (BL (decide ((i68:Int) < (s.Columns.length:Int)))) (Hz O O O) O (G7 (hK69 (Js fun hK70=>Gi O (fun hb=>?_) (fun hb=>?_)))))
  ·
   have hk68:=Jj hb
   obtain⟨y68,nx68,hy68,hn68,h⟩:=Hu hi68 hk68
   replace h:=Z9 hb68 h
   refine Gk (hK70 (Js fun hK71=>Gq (Jr fun hK72=>(JLh (Ed y68) (Gw (f:=G3.av) (xs:=s.Columns) (y:=y68) O O O H4 hy68 O) O (JLh (.agg (G3.cs y68)) (Gh Y5 O O O) O (JLh (.ptr 1092 0) (Qo 1092 12 G7d O O) O (Jo (u:=.junk) (Jh (u:=.agg (G3.cs y68)) (ds:=(G3.cs y68)) Geb O O O O O O O O) (G7 (hK72 ?_)))))))))
   refine Gx [(1,Eb s),(3,.mp 1094),(5,Ed y68),(31,E5 s.Columns),(32,Eh s.Columns.length),(33,Eh i68)] [(1094,MP 156 Hh.kv I64 s68)] 1092 rfl rfl rfl ⟨⟨_,rfl,.map⟩,G⟩ rfl (by repeat' (first | exact .ptr | constructor)) (Jr fun hK73=>(JLm (I64 0) O (G7 (hK73 ?_))))
   obtain⟨kj74,hkj74,h⟩:=G84 h
   refine G57 (fun j74:Int=>kj74 j74=some p) (fun j74=>[(1,Eb s),(3,.mp 1094),(5,Ed y68),(6,I64 j74),(31,E5 s.Columns),(32,Eh s.Columns.length),(33,Eh i68)]) (fun j74=>[(1094,MP 156 Hh.kv I64 s68)]) (fun Kj74 ej74=>?_) ?_
   ·
    refine Jr fun hK75=>(JLh (.dptr ((G3.cs y68).drop 2)) (Ga Yj O O O) O (JLh (BL y68.Deck) (Gf Yc O O O) O (G7 (hK75 (JCc O h (fun h hb=>?_) (fun h hb=>?_))))))
    ·
     refine G2 (JLm (I64 1) O (G7 (ej74 _ _ 1 h ⟨(.sm O O),⟨⟨_,rfl,.map⟩,G⟩,rfl⟩)))
    ·
     refine Gk (ej74 _ _ 0 h ⟨(.sm O O),⟨⟨_,rfl,.map⟩,G⟩,rfl⟩)
   ·intro j74 h
    replace h:=app1 hkj74 h
    refine Js fun hK76=>G67 (l':=[(1,Eb s),(3,.mp 1094),(5,Ed y68),(6,I64 j74),(31,E5 s.Columns),(32,Eh s.Columns.length),(33,Eh i68)]) (L':=[(1094,MP 156 Hh.kv I64 s68)]) ⟨(.sm O O),⟨⟨_,rfl,.map⟩,G⟩,rfl⟩ ?_
    obtain⟨v77,hv77,h⟩:=Gc h
    obtain⟨v78,hv78,h⟩:=Q2 h
    refine Jb [9,11] [0,0,0,0,0,0,0,0,0,0,1,0] [0,0,0,0,0,0,0,1,1,0,1,0] [[(1094,MP 156 Hh.kv I64 s68)],((1094,MI 156 Hh.kv I64 s68 (Hh.mk y68.Bay y68.Row j74) 0)::[(1094,MP 156 Hh.kv I64 s68)]),((1094,MP 156 Hh.kv I64 (J1.put s68 (Hh.mk y68.Bay y68.Row j74) v78))::((1094,MI 156 Hh.kv I64 s68 (Hh.mk y68.Bay y68.Row j74) 0)::[(1094,MP 156 Hh.kv I64 s68)]))] J6 (by kernel_rfl) rfl rfl ?_
    refine Gb (u:=.mp 1094) O O ⟨Gp (G4 O O) O,G⟩ (Gb (u:=Ed y68) O O ⟨Gp (Ga G19 O O O) O,G⟩ (Gb (u:=I64 y68.Bay) O O ⟨Gp (Gf Gd O O O) O,G⟩ (Gb (u:=.dptr ((G3.cs y68).drop 1)) O O ⟨Gp (Ga G18 O O O) O,G⟩ (Gb (u:=I64 y68.Row) O O ⟨Gp (Gf Gd O O O) O,G⟩ (Gb (u:=I64 j74) O O ⟨Gp (G4 O O) O,G⟩ (Gb (u:=.agg [I64 y68.Bay,I64 y68.Row,I64 j74]) O O ⟨Gp (Hc0 (cs:=[I64 y68.Bay,I64 y68.Row,I64 j74]) [E0,E0,E0] Je1 J76 O O) O,G⟩ (Gb (u:=I64 v77) O O ⟨Gp (((Option.some.inj hv77) ▸ Q23 (av:=I64) (m:=s68) (a:=(Hh.mk y68.Bay y68.Row j74)) 0 E0 O O O O J5d Gba Hf4 O)) O,Gp (((Option.some.inj hv77) ▸ Q22 (av:=I64) (m:=s68) (a:=(Hh.mk y68.Bay y68.Row j74)) 0 E0 O O O O J5d Gba Hf4 O)) O,G⟩ (Gb (u:=I64 v78) O O ⟨Gp (Hs hv78 O O O) O,Gp (Hs hv78 O O O) O,G⟩ (D_w (u:=.tup [.junk,I64 (G50 (J1.l s68) (Hh.mk y68.Bay y68.Row j74):Int)]) O O O O (Gp (Ja1 (m:=s68) (a:=(Hh.mk y68.Bay y68.Row j74)) 0 E0 O O O O J5d Gba Hf4 O) O) (Gb (u:=I64 (G50 (J1.l s68) (Hh.mk y68.Bay y68.Row j74):Int)) O O ⟨Gp (Hk O O O) O,G⟩ (D_w0 (u:=.junk) O O O O (Gp (J13 (m:=s68) (a:=(Hh.mk y68.Bay y68.Row j74)) (v:=v78) 0 O O O O O O) O) (Qw ?_))))))))))))
    refine hK76 (Jr fun hK79=>(JLh (.agg (G3.cs y68)) (Gh Y5 O O O) O ?_))
    obtain⟨r80,hr80,h⟩:=Gc h
    refine JLh (BL r80) (Gm O (Q15 y68 r80 hr80) Qad ⟨O,O,G⟩) O (JLh (BL (!r80)) (Q7 (b:=r80) O O) O (G7 (hK79 (JCc O h (fun h hb=>?_) (fun h hb=>?_)))))
    ·
     refine Jr fun hK81=>(JLm (BL false) O (G7 (hK81 (Gn (⟨[BL false],[],G,O,⟨⟨_,O,.conv (.same O)⟩,G⟩,O,false,Eq.mpr (Option.some.inj h) hp,O⟩)))))
    ·
     refine Gk (hK71 (G2 (JLh (I64 ((i68+1:Nat):Int)) (Hs (Hf hk68 hm32) O O O) O (JLm (I64 ((i68+1:Nat):Int)) O (G7 (e68 _ _ (i68+1) (J1.put s68 (Hh.mk y68.Bay y68.Row j74) v78) (app1 hn68 h) (by omega) ⟨(.sm O O),⟨⟨_,rfl,.map⟩,G⟩,rfl⟩))))))
  ·
   have h:=app1 hkx68 (Hv hi68 (Ha hb))
   refine Hn (hK6 (Js fun hK82=>Jr fun hK83=>(JLh (.dptr (Ek s)) (Ga J0 O O O) O (JLh (E4 s.Covers) (Gf J8 O O O) O (JLl He O O O fun hm56=>(JLm (I64 0) O (G7 (hK83 (Gq ?_)))))))))
   obtain⟨b84,kx84,hb84,hkx84,h⟩:=J3 h
   refine Hd (fun i84 (s84:(J1 Hh Int))=>each b84 kx84 (List.drop i84 s.Covers) i84 s84=some p) (fun i84 s84=>[(3,.mp 1094),(55,E4 s.Covers),(56,Eh s.Covers.length),(57,Eh i84)]) (fun i84 s84=>[(1094,MP 156 Hh.kv I64 s84)]) (fun i84=>s.Covers.length - i84) 0 s68 h ⟨(.sm O O),⟨⟨_,rfl,.map⟩,G⟩,rfl⟩ ?_
   clear h
   intro i84 s84 hi84 K84 e84
   refine Jr fun hK85=>(JLh (BL (decide ((i84:Int) < (s.Covers.length:Int)))) (Hz O O O) O (G7 (hK85 (Js fun hK86=>Gi O (fun hb=>?_) (fun hb=>?_)))))
   ·
    have hk84:=Jj hb
    obtain⟨y84,nx84,hy84,hn84,h⟩:=Hu hi84 hk84
    replace h:=Z9 hb84 h
    refine Gk (hK86 (Js fun hK87=>Gq (Jr fun hK88=>(JLh (.dptr [I64 y84.Bay,E1 y84.Rows]) (Gw (f:=G9.av) (xs:=s.Covers) (y:=y84) O O O He hy84 O) O (JLh (.agg [I64 y84.Bay,E1 y84.Rows]) (Gh Yk O O O) O (JLh (.ptr 1093 0) (Qo 1093 2 G63 O O) O (Jo (u:=.junk) (Jh (u:=.agg [I64 y84.Bay,E1 y84.Rows]) (ds:=[I64 y84.Bay,E1 y84.Rows]) Gb9 O O O O O O O O) (G7 (hK88 (Gx [(3,.mp 1094),(8,.dptr [I64 y84.Bay,E1 y84.Rows]),(55,E4 s.Covers),(56,Eh s.Covers.length),(57,Eh i84)] [(1094,MP 156 Hh.kv I64 s84)] 1093 rfl rfl rfl ⟨⟨_,rfl,.map⟩,G⟩ rfl (by repeat' (first | exact .ptr | constructor)) (Js fun hK89=>?_)))))))))))
    refine Jr fun hK90=>(JLh (.dptr [I64 y84.Bay,E1 y84.Rows]) (Ga G04 O O O) O (JLh (I64 y84.Bay) (Gf Gd O O O) O (JLh (BL (decide (y84.Bay < 0))) (Hz O O O) O (JLm (BL (decide (y84.Bay < 0))) O (JLo (.dptr [I64 y84.Bay,E1 y84.Rows]) [] O .scf G (fun hc=>Ga G04 O O O) O (JLo (I64 y84.Bay) [65] O .scf ⟨Ua,G⟩ (fun hc=>Gf Gd O O O) O (JLo (BL (decide (40≤y84.Bay))) [66] O .scf ⟨Ua,G⟩ (fun hc=>Zf O O O) O (JLh (BL ((decide (y84.Bay < 0))||(decide (40≤y84.Bay)))) (Y4 O O O O) O (JLm (BL ((decide (y84.Bay < 0))||(decide (40≤y84.Bay)))) O (JLo (.dptr [E1 y84.Rows]) [] O .scf G (fun hc=>Ga Q5 O O O) O (JLo (E1 y84.Rows) [70] O .scf ⟨Ua,G⟩ (fun hc=>Gf Hw O O O) O (JLo (Eh y84.Rows.length) [71] O .scf ⟨Ua,G⟩ (fun hc=>Qe (f:=I64) (xs:=y84.Rows) Gs O O) O (JLo (BL (decide ((y84.Rows.length:Int)=0))) [72] O .scf ⟨Ua,G⟩ (fun hc=>Jw O O O) O ?_)))))))))))))
    refine JLh (BL (((decide (y84.Bay < 0))||(decide (40≤y84.Bay)))||(decide ((y84.Rows.length:Int)=0)))) (Y4 O O O O) O (G7 (hK90 (JCc O h (fun h hb=>?_) (fun h hb=>?_))))
    ·
     refine Jr fun hK91=>(JLm (BL false) O (G7 (hK91 (Gn (⟨[BL false],[],G,O,⟨⟨_,O,.conv (.same O)⟩,G⟩,O,false,Eq.mpr (Option.some.inj h) hp,O⟩)))))
    ·
     refine Gk (hK89 (Jr fun hK92=>(JLh (.dptr [E1 y84.Rows]) (Ga Q5 O O O) O (JLh (E1 y84.Rows) (Gf Hw O O O) O (JLl Gs O O O fun hm77=>(JLm (I64 0) O (G7 (hK92 (Gq ?_)))))))))
     obtain⟨b157,kx157,hb157,hkx157,h⟩:=J3 h
     refine Hd (fun i157 (s157:(J1 Hh Int))=>each b157 kx157 (List.drop i157 y84.Rows) i157 s157=some p) (fun i157 s157=>[(3,.mp 1094),(8,.dptr [I64 y84.Bay,E1 y84.Rows]),(55,E4 s.Covers),(56,Eh s.Covers.length),(57,Eh i84),(76,E1 y84.Rows),(77,Eh y84.Rows.length),(78,Eh i157)]) (fun i157 s157=>[(1094,MP 156 Hh.kv I64 s157)]) (fun i157=>y84.Rows.length - i157) 0 s84 h ⟨(.sm O O),⟨⟨_,rfl,.map⟩,G⟩,rfl⟩ ?_
     clear h
     intro i157 s157 hi157 K157 e157
     refine Jr fun hK158=>(JLh (BL (decide ((i157:Int) < (y84.Rows.length:Int)))) (Hz O O O) O (G7 (hK158 (Js fun hK159=>Gi O (fun hb=>?_) (fun hb=>?_)))))
     ·
      have hk157:=Jj hb
      obtain⟨y157,nx157,hy157,hn157,h⟩:=Hu hi157 hk157
      replace h:=Z9 hb157 h
      refine Gk (hK159 (Js fun hK160=>Gq (Jr fun hK161=>(JLm (Eh i157) O (JLh (.dptr [I64 y157]) (Gw (f:=I64) (xs:=y84.Rows) (y:=y157) O O O Gs hy157 O) O (JLh (I64 y157) (Gf Gd O O O) O (JLm (Eh i157) O (JLm (I64 y157) O (G7 (hK161 (Js fun hK162=>?_)))))))))))
      refine Jr fun hK163=>(JLm (I64 y157) O (JLh (BL (decide (y157 < 0))) (Hz O O O) O (JLm (BL (decide (y157 < 0))) O (JLo (I64 y157) [] O .scf G (fun hc=>G4 O O) O (JLo (BL (decide (30 < y157))) [86] O .scf ⟨Ua,G⟩ (fun hc=>G30 O O O) O (JLh (BL ((decide (y157 < 0))||(decide (30 < y157)))) (Y4 O O O O) O (JLm (BL ((decide (y157 < 0))||(decide (30 < y157)))) O (JLo (Eh i157) [] O .scf G (fun hc=>G4 O O) O (JLo (BL (decide (0 < (i157:Int)))) [90] O .scf ⟨Ua,G⟩ (fun hc=>G30 O O O) O (JLo (BL (decide (0 < (i157:Int)))) [91] O .scf ⟨Ua,G⟩ (fun hc=>G4 O O) O (JLo (I64 y157) [] O .optt G (fun hc=>G4 O O) O (JLo (.dptr [E1 y84.Rows]) [] O .optt G (fun hc=>Ga Q5 O O O) O (JLo (E1 y84.Rows) [94] O .optt ⟨Ua,G⟩ (fun hc=>Gf Hw O O O) O ?_)))))))))))))
      refine JLo (Eh i157) [] O .optt G (fun hc=>G4 O O) O ?_
      obtain⟨v164,hv164,h⟩:=Gc h
      refine JLo (I64 v164) [96] O .optt ⟨Ua,G⟩ (fun hc=>Gcc (Zo (Gu hc hv164)) O O O) O ?_
      obtain⟨y165,hy165,h⟩:=Gc h
      refine JLo (.dptr [I64 y165]) [95,97] O .optt ⟨Ua,Ua,G⟩ (fun hc=>(match Jx (Gu hc hy165) with | ⟨_,hm_,hy_⟩=>Gw (f:=I64) (xs:=y84.Rows) (y:=y165) O O O Gs hy_ hm_)) O (JLo (I64 y165) [98] O .optt ⟨Ua,G⟩ (fun hc=>Gf Gd O O O) O (JLo (BL (decide (y157≤y165))) [93,99] O .optt ⟨Ua,Ua,G⟩ (fun hc=>J12 O O O) O (G8 (u:=BL ((decide (0 < (i157:Int)))&&(decide (y157≤y165)))) [(92,BL (decide (0 < (i157:Int)))),(100,_)] O O O .scf ⟨.all id,.part,G⟩ (fun hc=>Hy O O O O) ?_)))
      refine JLh (BL (((decide (y157 < 0))||(decide (30 < y157)))||((decide (0 < (i157:Int)))&&(decide (y157≤y165))))) (Y4 O O O O) O (G7 (hK163 (JCc O h (fun h hb=>?_) (fun h hb=>?_))))
      ·
       refine Jr fun hK166=>(JLm (BL false) O (G7 (hK166 (Gn (⟨[BL false],[],G,O,⟨⟨_,O,.conv (.same O)⟩,G⟩,O,false,Eq.mpr (Option.some.inj h) hp,O⟩)))))
      ·
       refine Gk (hK162 (G67 (l':=[(3,.mp 1094),(8,.dptr [I64 y84.Bay,E1 y84.Rows]),(10,I64 y157),(55,E4 s.Covers),(56,Eh s.Covers.length),(57,Eh i84),(76,E1 y84.Rows),(77,Eh y84.Rows.length),(78,Eh i157)]) (L':=[(1094,MP 156 Hh.kv I64 s157)]) ⟨(.sm O O),⟨⟨_,rfl,.map⟩,G⟩,rfl⟩ ?_))
       obtain⟨v167,hv167,h⟩:=Gc h
       obtain⟨v168,hv168,h⟩:=Q2 h
       refine Jb [7,9] [0,0,0,0,0,0,0,0,1,0] [0,0,0,0,0,1,1,0,1,0] [[(1094,MP 156 Hh.kv I64 s157)],((1094,MI 156 Hh.kv I64 s157 (Hh.mk y84.Bay y157 2) 0)::[(1094,MP 156 Hh.kv I64 s157)]),((1094,MP 156 Hh.kv I64 (J1.put s157 (Hh.mk y84.Bay y157 2) v168))::((1094,MI 156 Hh.kv I64 s157 (Hh.mk y84.Bay y157 2) 0)::[(1094,MP 156 Hh.kv I64 s157)]))] J6 (by kernel_rfl) rfl rfl ?_
       refine Gb (u:=.mp 1094) O O ⟨Gp (G4 O O) O,G⟩ (Gb (u:=.dptr [I64 y84.Bay,E1 y84.Rows]) O O ⟨Gp (Ga G04 O O O) O,G⟩ (Gb (u:=I64 y84.Bay) O O ⟨Gp (Gf Gd O O O) O,G⟩ (Gb (u:=I64 y157) O O ⟨Gp (G4 O O) O,G⟩ (Gb (u:=.agg [I64 y84.Bay,I64 y157,I64 2]) O O ⟨Gp (Hc0 (cs:=[I64 y84.Bay,I64 y157,I64 2]) [E0,E0,E0] Je1 J76 O O) O,G⟩ (Gb (u:=I64 v167) O O ⟨Gp (((Option.some.inj hv167) ▸ Q23 (av:=I64) (m:=s157) (a:=(Hh.mk y84.Bay y157 2)) 0 E0 O O O O J5d Gba Hf4 O)) O,Gp (((Option.some.inj hv167) ▸ Q22 (av:=I64) (m:=s157) (a:=(Hh.mk y84.Bay y157 2)) 0 E0 O O O O J5d Gba Hf4 O)) O,G⟩ (Gb (u:=I64 v168) O O ⟨Gp (Hs hv168 O O O) O,Gp (Hs hv168 O O O) O,G⟩ (D_w (u:=.tup [.junk,I64 (G50 (J1.l s157) (Hh.mk y84.Bay y157 2):Int)]) O O O O (Gp (Ja1 (m:=s157) (a:=(Hh.mk y84.Bay y157 2)) 0 E0 O O O O J5d Gba Hf4 O) O) (Gb (u:=I64 (G50 (J1.l s157) (Hh.mk y84.Bay y157 2):Int)) O O ⟨Gp (Hk O O O) O,G⟩ (D_w0 (u:=.junk) O O O O (Gp (J13 (m:=s157) (a:=(Hh.mk y84.Bay y157 2)) (v:=v168) 0 O O O O O O) O) (Qw ?_))))))))))
       refine hK160 (G2 (JLh (I64 ((i157+1:Nat):Int)) (Hs (Hf hk157 hm77) O O O) O (JLm (I64 ((i157+1:Nat):Int)) O (G7 (e157 _ _ (i157+1) (J1.put s157 (Hh.mk y84.Bay y157 2) v168) (app1 hn157 h) (by omega) ⟨(.sm O O),⟨⟨_,rfl,.map⟩,G⟩,rfl⟩)))))
     ·
      have h:=app1 hkx157 (Hv hi157 (Ha hb))
      refine Hn (hK87 (G2 (JLh (I64 ((i84+1:Nat):Int)) (Hs (Hf hk84 hm56) O O O) O (JLm (I64 ((i84+1:Nat):Int)) O (G7 (e84 _ _ (i84+1) s157 (app1 hn84 h) (by omega) ⟨(.sm O O),⟨⟨_,rfl,.map⟩,G⟩,rfl⟩))))))
   ·
    have h:=app1 hkx84 (Hv hi84 (Ha hb))
    refine Hn (hK82 (Js fun hK169=>Jr fun hK170=>(JLm (.mp 1094) O (JLh (.it 1095) (Qf8 1095 (m:=s84) O O O O Gba) O (G7 (hK170 (Gq ?_)))))))
    obtain⟨b176,kx176,hb176,hkx176,h⟩:=Qe2 h
    refine Qf0 (J1.size s84) (fun i176 (s176:Unit)=>MInv b176 kx176 (J1.l s84) i176 s176) (fun i176 s176=>[(115,.it 1095)]) (fun i176 s176=>[(1094,MP 156 Hh.kv I64 s84),(1095,.iter 1094 (J1.size s84) i176)]) () (MInv.start h hp) ⟨⟨.same O,G⟩,⟨⟨_,O,.map⟩,⟨_,O,.iter O⟩,G⟩,O⟩ ?_
    clear h hp
    intro i176 s176 hi176 K176 e176
    refine Jr fun hK177=>G48 O O O (R7c (m:=s84) O O O O) ?_
    intro u_ L_ hn_
    rcases hn_ with ⟨q176,x176,he176,hs176,rfl,rfl⟩ | ⟨ha176,rfl,rfl⟩
    ·
     obtain⟨o176,h,ho1_176,ho2_176⟩:=hi176.step he176 hs176
     replace h:=Hba hb176 h
     refine JLh (BL true) (Hk O O O) O (G7 (hK177 (Js fun hK178=>Qf1 O (Gk (hK178 (Gq (Jr fun hK179=>(JLh (.tup [.agg (Hh.cs x176.1),I64 x176.2]) (Qfc (kv:=Hh.kv) (av:=I64) (m:=s84) (q:=q176) (seen:=i176) (e:=x176) O O O O he176) O (JLh (I64 x176.2) (Hk O O O) O (JLm (I64 x176.2) O (G7 (hK179 (Jr fun hK180=>(JLm (I64 x176.2) O (JLh (BL (decide (1 < x176.2))) (G30 O O O) O (G7 (hK180 (JCc O h (fun h hb=>?_) (fun h hb=>?_)))))))))))))))))))
     ·
      refine Jr fun hK181=>(JLm (BL false) O (G7 (hK181 (Gn ?_))))
      obtain⟨y_,hy_,hl_⟩:=Rff h
      exact⟨[BL false],[],G,O,⟨⟨_,O,.conv (.same O)⟩,G⟩,O,false,Eq.mpr (Option.some.inj hl_) (ho1_176 y_ hy_),O⟩
     ·
      refine Gk (e176 _ _ (i176++[q176]) () (ho2_176 _ (Option.some.inj h).symm) (Q3e (List.getElem?_eq_some_iff.1 he176).1 hs176) ⟨⟨.same O,G⟩,⟨⟨_,O,.map⟩,⟨_,O,.iter O⟩,G⟩,O⟩)
    ·
     obtain⟨p_,h,hp⟩:=hi176.done ha176
     replace h:=app1 hkx176 h
     refine JLh (BL false) (Hk O O O) O (G7 (hK177 (Js fun hK182=>Qf2 O (Hn (hK169 (Jr fun hK183=>(JLm (BL true) O (G7 (hK183 (Gn (⟨[BL true],[],G,O,⟨⟨_,O,.conv (.same O)⟩,G⟩,O,true,Eq.mpr (Option.some.inj h) hp,O⟩)))))))))))
theorem Q18 (S_:(H0)→Option Bool) (hS_:∀ s r,S_ s=some r→∃ p:Prop,Gde s (fun r_=>r_=r)=some p∧p) (s:H0) (r:Bool) (h:S_ s=some r):Pure Ei 79 [.agg (H0.cs s)] (·=BL r):=by
 obtain⟨p,h1,h2⟩:=hS_ s r h
 exact(Q17 s _ p h1 h2).monoP (fun av hh=>by obtain⟨r_,rfl,ha⟩:=hh; exact ha)

def Gb1 (size:Int):Option (List Int):=
 bif decide (size=40) then
 (some [0])
 else
 (bif decide (size=20) then
  (some [1,2])
  else
  (some []))
theorem Jab (size:Int) (r:(List Int)) (h:Gb1 size=some r):Pure Ei 99 [U8 size] (·=Ea r):=by
 unfold Gb1 at h
 refine Gz [.tmp 2] Tryz.func99 O O (Jr fun hK1=>(JLh (Ea ([]:List Int)) (Hb 1 O O) O (G7 (hK1 (Js fun hK2=>Jr fun hK3=>(JLm (U8 size) O (G7 (hK3 (Gq (Jr fun hK4=>(JLh (BL (decide (size=40))) (Jw O O O) O (JLm (BL (decide (size=40))) O (G7 (hK4 (JCc O h (fun h hb=>?_) (fun h hb=>?_))))))))))))))))
 ·
  refine Jr fun hK5=>(JLh (Ea [0]) (Hj (xs:=[U8 0]) O ⟨O,O,G⟩ H18 Jbb O O O O) O (JLm (Ea [0]) O (G7 (hK5 (Gn (fin1 (fun r:(List Int)=>(Ea r:AV)) h))))))
 ·
  refine Jr fun hK6=>(JLh (BL (decide (size=20))) (Jw O O O) O (JLm (BL (decide (size=20))) O (G7 (hK6 (JCc O h (fun h hb=>?_) (fun h hb=>?_))))))
  ·
   refine Jr fun hK7=>(JLh (Ea [1,2]) (Hj (xs:=[U8 1,U8 2]) O ⟨O,O,O,O,G⟩ H18 Jbb O O O O) O (JLm (Ea [1,2]) O (G7 (hK7 (Gn (fin1 (fun r:(List Int)=>(Ea r:AV)) h))))))
  ·
   refine Gk (hK2 (Jr fun hK8=>(JLh (Ea ([]:List Int)) (Hb 1 O O) O (G7 (hK8 (Gn (fin1 (fun r:(List Int)=>(Ea r:AV)) h)))))))
end
end Go.Proofs.YtecjdioomlhhiaaGreat
