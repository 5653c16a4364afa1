/-
 Models of functions of the program,and that they return what the models say.
-/
import Derived.Test.YtecjdioomlhhiaaGreatSpecR
set_option maxRecDepth 100000
set_option maxHeartbeats 1000000
set_option linter.unusedVariables false
set_option linter.unusedSimpArgs false
namespace Go.Proofs.YtecjdioomlhhiaaGreat
open Go.RowKit
noncomputable section
structure Hm where
 s:H0
 boxes:List Box
 l:List Stowed
 open_:List Int
 x:Stowed
 deriving DecidableEq,Inhabited
def Hm.cs (x:Hm):List AV:=[E5 x.s.Columns,E4 x.s.Covers,I64 x.s.Light.Kilos,I64 x.s.Light.X,I64 x.s.Light.Y,I64 x.s.Light.Z,E7 x.s.Rows,E6 x.s.Frames,E8 x.s.Tanks,I64 x.s.G1.Tolerance,I64 x.s.G1.Trim,I64 x.s.G1.List_,I64 x.s.G1.Stability,E3 x.boxes,E2 x.l,E1 x.open_,I64 x.x.Box,I64 x.x.Slot.G3,I64 x.x.Slot.Tier,U8 x.x.Slot.Half]
def Hm.av (x:Hm):AV:=.agg x.cs
abbrev Ef (x:Hm):AV:=.dptr (Hm.cs x)
namespace XHF
open XAF
open XLF
open XCF
open XGF
theorem G5d:Ge6 Ei 90 20=true:=by kernel_rfl
theorem Gbe:Q66 Ei 91 4=true:=by kernel_rfl
theorem Q41:Y06 Ei 91 41 1=true:=by kernel_rfl
theorem Qbd:H7 Ei 101=true:=by kernel_rfl
theorem Qbc:H7 Ei 102=true:=by kernel_rfl
theorem J82:H7 Ei 103=true:=by kernel_rfl
theorem Qb6:H7 Ei 113=true:=by kernel_rfl
theorem J7e:H7 Ei 114=true:=by kernel_rfl
theorem Gec:H7 Ei 14=true:=by kernel_rfl
theorem J7a:H7 Ei 142=true:=by kernel_rfl
theorem Jdb:H7 Ei 40=true:=by kernel_rfl
theorem Jda:H7 Ei 45=true:=by kernel_rfl
theorem Jd9:H7 Ei 46=true:=by kernel_rfl
theorem Jd8:H7 Ei 47=true:=by kernel_rfl
theorem Jd7:H7 Ei 48=true:=by kernel_rfl
theorem J22:H7 Ei 49=true:=by kernel_rfl
theorem Ha3:H7 Ei 66=true:=by kernel_rfl
theorem Ha2:H7 Ei 67=true:=by kernel_rfl
theorem Jcf:H7 Ei 68=true:=by kernel_rfl
theorem Jce:H7 Ei 70=true:=by kernel_rfl
theorem H73:Qc Ei 90 0 0=true:=by kernel_rfl
theorem Q2c:Qc Ei 90 1 13=true:=by kernel_rfl
theorem G39:Qc Ei 90 2 14=true:=by kernel_rfl
theorem Q2b:Qc Ei 90 3 15=true:=by kernel_rfl
theorem G38:Qc Ei 90 4 16=true:=by kernel_rfl
theorem Jc0:J4c Ei 147 .u64=true:=by kernel_rfl
theorem J3c:J4c Ei 3 .i64=true:=by kernel_rfl
theorem J38:placesOf Ei 90=some [(0,13),(13,1),(14,1),(15,1),(16,4)]:=by kernel_rfl
theorem Q73:Ym Ei 33=true:=by kernel_rfl
theorem Jbf:Zh Ei 90 20=true:=by kernel_rfl
theorem Jbd:(Ei.info? 90).bind (fun i=>i.zero.map Value.cells)=some (List.toArray [.slice none 0 0,.slice none 0 0,E0,E0,E0,E0,.slice none 0 0,.slice none 0 0,.slice none 0 0,E0,E0,E0,E0,.slice none 0 0,.slice none 0 0,.slice none 0 0,E0,E0,E0,.int .u8 0]):=by kernel_rfl
theorem Jbc:(Ei.info? 91).bind (fun i=>i.zero.map Value.cells)=some (List.toArray [.nilFunc,.nilFunc,.nilFunc,.nilFunc]):=by kernel_rfl
theorem J74:G01 Ei 90 20=true:=by kernel_rfl
end XHF
open XAF
open XLF
open XCF
open XGF
open XHF

def G54 (s:H0) (boxes:List Box) (l:List Stowed) (open_:List Int) (id_:Int):Option Int:=
 bnd (Qa s boxes l open_) fun r4=>
 bif (!r4) then
 (some 2)
 else
 (bnd (G98 l id_) fun r7=>
  bif decide (r7.2≠0) then
  (some r7.2)
  else
  (bif decide (0 < (r7.1.length:Int)) then
   (some 90)
   else
   (bnd (Rf l id_) fun r15=>
    Qq l r15 fun y16=>
    bnd (G66 s y16.Slot.G3) fun r18=>
    bnd (bif decide (0≤r18) then Y1 open_ r18 else some default) fun r20=>
    bif ((decide (0≤r18))&&(!r20)) then
    (some 91)
    else
    (some 0))))
theorem G75 (s:H0) (boxes:List Box) (l:List Stowed) (open_:List Int) (id_:Int) (r:Int) (h:G54 s boxes l open_ id_=some r):Pure Ei 14 [.agg (H0.cs s),E3 boxes,E2 l,E1 open_,I64 id_] (·=I64 r):=by
 unfold G54 at h
 refine Gz [.tmp 10] Tryz.func14 O O (Jr fun hK1=>(JLh (.ptr 1024 0) (Je (cs:=(H0.cs s)) 1024 O O O O O) O (JLm (I64 0) O (G7 (hK1 (Gx [(1,E3 boxes),(2,E2 l),(3,E1 open_),(4,I64 id_),(5,Eb s)] [] 1024 rfl rfl rfl G rfl (by repeat' (first | exact .ptr | constructor)) ?_))))))
 refine Js fun hK2=>Jr fun hK3=>(JLh (.agg (H0.cs s)) (Gh Hc O O O) O (JLm (E3 boxes) O (JLm (E2 l) O (JLm (E1 open_) O ?_))))
 obtain⟨r4,hr4,h⟩:=Gc h
 refine JLh (BL r4) (Gm O (Zx s boxes l open_ r4 hr4) G80 ⟨O,O,O,O,O,O,O,O,G⟩) O (JLh (BL (!r4)) (Q7 (b:=r4) O O) O (G7 (hK3 (JCc O h (fun h hb=>?_) (fun h hb=>?_)))))
 ·
  refine Jr fun hK5=>(JLm (I64 2) O (G7 (hK5 (Gn (fin1 I64 h)))))
 ·
  refine Gk (hK2 (Jr fun hK6=>(JLm (E2 l) O (JLm (I64 id_) O ?_))))
  obtain⟨r7,hr7,h⟩:=Gc h
  refine JLh (.tup [E1 r7.1,I64 r7.2]) (Gm O (Hef l id_ r7 hr7) Jd1 ⟨O,O,O,O,G⟩) O (JLm (.tup [E1 r7.1,I64 r7.2]) O (JLh (E1 r7.1) (Hk O O O) O (JLh (I64 r7.2) (Hk O O O) O (JLm (E1 r7.1) O (JLm (I64 r7.2) O (G7 (hK6 (Js fun hK8=>Gq (Jr fun hK9=>(JLm (I64 r7.2) O (JLh (BL (decide (r7.2≠0))) (G0e O O O) O (JLm (BL (decide (r7.2≠0))) O (G7 (hK9 (JCc O h (fun h hb=>?_) (fun h hb=>?_))))))))))))))))
  ·
   refine Jr fun hK10=>(JLm (I64 r7.2) O (JLm (I64 r7.2) O (G7 (hK10 (Gn (fin1 I64 h))))))
  ·
   refine Jr fun hK11=>(JLm (E1 r7.1) O (JLl Gs O O O fun hm32=>(JLh (BL (decide (0 < (r7.1.length:Int)))) (G30 O O O) O (JLm (BL (decide (0 < (r7.1.length:Int)))) O (G7 (hK11 (JCc O h (fun h hb=>?_) (fun h hb=>?_))))))))
   ·
    refine Jr fun hK12=>(JLm (I64 90) O (G7 (hK12 (Gn (fin1 I64 h)))))
   ·
    refine Gk (hK8 (Js fun hK13=>Js fun hK14=>?_))
    obtain⟨r15,hr15,h⟩:=Gc h
    obtain⟨m17,y16,hm17,hy16,h⟩:=R1 h
    obtain⟨r18,hr18,h⟩:=Gc h
    refine JC_d0 J6 (by kernel_rfl) (Dq (.agg (H0.cs s)) (Gh Hc O O O) O (Dq (E2 l) (G4 O O) O (Dq (E2 l) (G4 O O) O (Dq (I64 id_) (G4 O O) O (Dq (I64 r15) (Gm (args:=[E2 l,I64 id_]) O (G3d l id_ r15 hr15) G81 ⟨O,O,O,O,G⟩) O (Dq (Ec y16) (Gw (f:=Stowed.av) (xs:=l) (y:=y16) O O O Gt hy16 hm17) O (Dq (.dptr ((Stowed.cs y16).drop 1)) (Ga Ho O O O) O (Dq (.dptr ((Stowed.cs y16).drop 1)) (Ga J2 O O O) O (Dq (I64 y16.Slot.G3) (Gf Gd O O O) O (Dq (I64 r18) (Gm (args:=[.agg (H0.cs s),I64 y16.Slot.G3]) O (Hed s y16.Slot.G3 r18 hr18) Jd0 ⟨O,O,O,O,G⟩) O (Dq (I64 r18) (G6 O O) O (Dnil ?_))))))))))))
    refine hK14 (Jr fun hK19=>(JLm (I64 r18) O (JLh (BL (decide (0≤r18))) (Zf O O O) O (JLm (BL (decide (0≤r18))) O (JLo (E1 open_) [] O .sct G (fun hc=>G4 O O) O (JLo (I64 r18) [] O .sct G (fun hc=>G4 O O) O ?_))))))
    obtain⟨r20,hr20,h⟩:=Gc h
    refine JLo (BL r20) [47,48] O .sct ⟨Ua,Ua,G⟩ (fun hc=>Gm (args:=[E1 open_,I64 r18]) O (G61 open_ r18 r20 (Gu hc hr20)) J1e ⟨O,O,O,O,G⟩) O (JLo (BL (!r20)) [49] O .sct ⟨Ua,G⟩ (fun hc=>Q7 (b:=r20) O O) O (JLh (BL ((decide (0≤r18))&&(!r20))) (Hy O O O O) O (G7 (hK19 (JCc O h (fun h hb=>?_) (fun h hb=>?_))))))
    ·
     refine Jr fun hK21=>(JLm (I64 91) O (G7 (hK21 (Gn (fin1 I64 h)))))
    ·
     refine Gk (hK13 (Jr fun hK22=>(JLm (I64 0) O (G7 (hK22 (Gn (fin1 I64 h)))))))

def G64 (s:H0) (boxes:List Box) (l:List Stowed) (open_:List Int) (id_:Int):Option ((List Stowed)×Int):=
 bnd (G54 s boxes l open_ id_) fun r4=>
 bif decide (r4≠0) then
 (some ([],r4))
 else
 (bnd (Rf l id_) fun r8=>
  bnd (Rr l r8) fun r9=>
  some (r9,0))
def G2f (p:Hm):Option Bool:=
 bnd (G46 p.s p.x.Slot.G3) fun r4=>
 bnd (bif decide (0≤r4) then Qq p.s.Columns p.x.Slot.G3 some else some default) fun y6=>
 bnd (bif decide (0≤r4) then Y1 p.open_ r4 else some default) fun r7=>
 some ((decide (0≤r4))&&(y6.Deck==r7))
theorem Ge8 (p:Hm) (r:Bool) (h:G2f p=some r):Pure Ei 45 [.agg (Hm.cs p)] (·=BL r):=by
 unfold G2f at h
 refine Gz [.tmp 2] Tryz.func45 O O (Jr fun hK1=>(JLh (.ptr 1063 0) (Je (cs:=(Hm.cs p)) 1063 O O O O O) O (JLm (BL false) O (G7 (hK1 ?_)))))
 refine Gx [(1,Ef p)] [] 1063 rfl rfl rfl G rfl (by exact⟨.ptr,G⟩) (Jr fun hK2=>(JLh (Ec p.x) (Ga G38 O O O) O (JLh (.dptr ((Stowed.cs p.x).drop 1)) (Ga Ho O O O) O (JLh (.dptr ((Stowed.cs p.x).drop 1)) (Ga J2 O O O) O (JLh (I64 p.x.Slot.G3) (Gf Gd O O O) O (JLm (I64 p.x.Slot.G3) O (G7 (hK2 ?_))))))))
 refine Jr fun hK3=>(JLh (Ef p) (Ga H73 O O O) O (JLh (.agg (H0.cs p.s)) (Gh Hc O O O) O (JLm (I64 p.x.Slot.G3) O ?_)))
 obtain⟨r4,hr4,h⟩:=Gc h
 refine JLh (I64 r4) (Gm O (H97 p.s p.x.Slot.G3 r4 hr4) J83 ⟨O,O,O,O,G⟩) O (JLm (I64 r4) O (G7 (hK3 (Js fun hK5=>?_))))
 obtain⟨y6,hy6,h⟩:=Gc h
 obtain⟨r7,hr7,h⟩:=Gc h
 refine JC_d0 J6 (by kernel_rfl) (Dq (I64 r4) (G4 O O) O (Dq (BL (decide (0≤r4))) (Zf O O O) O (Dq (BL (decide (0≤r4))) (G4 O O) O (Do (Ef p) [] O .sct G (fun hc=>Ga H73 O O O) O (Do (Ef p) [16] O .sct ⟨Ua,G⟩ (fun hc=>Ga Hi O O O) O (Do (E5 p.s.Columns) [17] O .sct ⟨Ua,G⟩ (fun hc=>Gf Ht O O O) O (Do (I64 p.x.Slot.G3) [] O .sct G (fun hc=>G4 O O) O (Do (Ed y6) [18,19] O .sct ⟨Ua,Ua,G⟩ (fun hc=>(match Jx (Gu hc hy6) with | ⟨_,hm_,hy_⟩=>Gw (f:=G3.av) (xs:=p.s.Columns) (y:=y6) O O O H4 hy_ hm_)) O (Do (.dptr ((G3.cs y6).drop 2)) [20] O .sct ⟨Ua,G⟩ (fun hc=>Ga Yj O O O) O (Do (BL y6.Deck) [21] O .sct ⟨Ua,G⟩ (fun hc=>Gf Yc O O O) O (Do (.dptr [E1 p.open_,I64 p.x.Box,I64 p.x.Slot.G3,I64 p.x.Slot.Tier,U8 p.x.Slot.Half]) [] O .sct G (fun hc=>Ga Q2b O O O) O (Do (E1 p.open_) [23] O .sct ⟨Ua,G⟩ (fun hc=>Gf Hw O O O) O (Do (I64 r4) [] O .sct G (fun hc=>G4 O O) O ?_)))))))))))))
 refine Do (BL r7) [24,25] O .sct ⟨Ua,Ua,G⟩ (fun hc=>Gm (args:=[E1 p.open_,I64 r4]) O (G61 p.open_ r4 r7 (Gu hc hr7)) J1e ⟨O,O,O,O,G⟩) O (Do (BL (y6.Deck==r7)) [22,26] O .sct ⟨Ua,Ua,G⟩ (fun hc=>J5b Hf6 O O O) O (Dq (BL ((decide (0≤r4))&&(y6.Deck==r7))) (Hy O O O O) O (Dq (BL ((decide (0≤r4))&&(y6.Deck==r7))) (G6 O O) O (Dnil (hK5 (Gn (fin1 BL h)))))))

def Yi (y:Stowed) (p1:Hm):Option Bool:=
 bnd (Gc8 p1.x.Slot y.Slot) fun r3=>
 some r3
theorem Hbd (y:Stowed) (p1:Hm) (r:Bool) (h:Yi y p1=some r):Pure Ei 102 [.agg (Stowed.cs y),Ef p1] (·=BL r):=by
 unfold Yi at h
 refine Gz [.tmp 3] Tryz.func102 O O (Jr fun hK1=>(JLh (.ptr 1119 0) (Je (cs:=[I64 y.Box,I64 y.Slot.G3,I64 y.Slot.Tier,U8 y.Slot.Half]) 1119 O O O O O) O (JLm (BL false) O (G7 (hK1 (Gx [(1,Ef p1),(2,Ec y)] [] 1119 rfl rfl rfl G rfl (by exact⟨.conv (.same rfl),.ptr,G⟩) (Jr fun hK2=>(JLh (.dptr ((Hm.cs p1).drop 16)) (Ga G38 O O O) O (JLh (.dptr ((Hm.cs p1).drop 17)) (Ga Ho O O O) O (JLh (.agg ((Hm.cs p1).drop 17)) (Gh Q4 O O O) O (JLh (.dptr ((Stowed.cs y).drop 1)) (Ga Ho O O O) O (JLh (.agg ((Stowed.cs y).drop 1)) (Gh Q4 O O O) O ?_))))))))))))
 obtain⟨r3,hr3,h⟩:=Gc h
 refine JLh (BL r3) (Gm O (J0f p1.x.Slot y.Slot r3 hr3) Jcb ⟨O,O,O,O,G⟩) O (JLm (BL r3) O (G7 (hK2 (Gn (fin1 BL h)))))

def Ya (s:List Stowed) (f:Stowed→Option Bool):Option Bool:=
 bnd (Rn s f) fun r3=>
 some (decide (0≤r3))
theorem Gd1 (s:List Stowed) (f:Stowed→Option Bool) (f_f:FuncId) (f_c:List AV) (f_B:H7 Ei f_f=true) (f_d:G06 (fun _=>false) f_c=true) (f_w:∀ a0 q,f a0=some q→Pure Ei f_f ([.agg (Stowed.cs a0)]++f_c) (·=BL q)) (r:Bool) (h:Ya s f=some r):Pure Ei 101 [E2 s,.fn f_f f_c] (·=BL r):=by
 unfold Ya at h
 refine Gz [.tmp 4] Tryz.func101 O O (Jr fun hK1=>(JLm (BL false) O (G7 (hK1 (Jr fun hK2=>(JLm (E2 s) O (JLm (.fn f_f f_c) O ?_)))))))
 obtain⟨r3,hr3,h⟩:=Gc h
 refine JLh (I64 r3) (Gm O (G60 s f f_f f_c f_B f_d f_w r3 hr3) Jc4 ⟨O,O,O,f_d,G⟩) O (JLh (BL (decide (0≤r3))) (Zf O O O) O (JLm (BL (decide (0≤r3))) O (G7 (hK2 (Gn (fin1 BL h))))))

def G44 (p:Hm):Option Bool:=
 bnd (Ya p.l (fun z0=>Yi z0 p)) fun r3=>
 some r3
theorem H03 (p:Hm) (r:Bool) (h:G44 p=some r):Pure Ei 46 [.agg (Hm.cs p)] (·=BL r):=by
 unfold G44 at h
 refine Gz [.tmp 2] Tryz.func46 O O (Jr fun hK1=>(JLh (.ptr 1064 0) (Je (cs:=(Hm.cs p)) 1064 O O O O O) O (JLm (BL false) O (G7 (hK1 ?_)))))
 refine Gx [(1,Ef p)] [] 1064 rfl rfl rfl G rfl (by exact⟨.ptr,G⟩) ?_
 refine Jr fun hK2=>(JLh (.dptr [E2 p.l,E1 p.open_,I64 p.x.Box,I64 p.x.Slot.G3,I64 p.x.Slot.Tier,U8 p.x.Slot.Half]) (Ga G39 O O O) O (JLh (E2 p.l) (Gf Y3 O O O) O (JLh (.fn 102 [.dptr (Hm.cs p)]) (G91 (cs:=[.dptr (Hm.cs p)]) O O) O ?_)))
 obtain⟨r3,hr3,h⟩:=Gc h
 refine JLh (BL r3) (Gm O (Gd1 p.l (fun z0=>Yi z0 p) 102 [.dptr (Hm.cs p)] Qbc O (fun z0 q hq=>Hbd z0 p q hq) r3 hr3) Qbd ⟨O,O,O,O,G⟩) O (JLm (BL r3) O (G7 (hK2 (Gn (fin1 BL h)))))

def G53 (p:Hm):Option Bool:=
 bnd (G97 p.l) fun r3=>
 bnd (Gc9 p.x.Slot r3) fun r4=>
 some (!r4)
theorem Gdc (p:Hm) (r:Bool) (h:G53 p=some r):Pure Ei 47 [.agg (Hm.cs p)] (·=BL r):=by
 unfold G53 at h
 refine Gz [.tmp 2] Tryz.func47 O O (Jr fun hK1=>(JLh (.ptr 1065 0) (Je (cs:=(Hm.cs p)) 1065 O O O O O) O (JLm (BL false) O (G7 (hK1 ?_)))))
 refine Gx [(1,Ef p)] [] 1065 rfl rfl rfl G rfl (by exact⟨.ptr,G⟩) (Js fun hK2=>?_)
 obtain⟨r3,hr3,h⟩:=Gc h
 obtain⟨r4,hr4,h⟩:=Gc h
 refine JC_d0 J6 (by kernel_rfl) (Dq (Ec p.x) (Ga G38 O O O) O (Dq (.dptr ((Stowed.cs p.x).drop 1)) (Ga Ho O O O) O (Dq (.agg ((Stowed.cs p.x).drop 1)) (Gh Q4 O O O) O (Dq (.dptr [E2 p.l,E1 p.open_,I64 p.x.Box,I64 p.x.Slot.G3,I64 p.x.Slot.Tier,U8 p.x.Slot.Half]) (Ga G39 O O O) O (Dq (E2 p.l) (Gf Y3 O O O) O (Dq (E9 r3) (Gm (args:=[E2 p.l]) O (Hec p.l r3 hr3) Jcd ⟨O,O,G⟩) O (Dq (BL r4) (Gm (args:=[.agg ((Stowed.cs p.x).drop 1),E9 r3]) O (J10 p.x.Slot r3 r4 hr4) Jcc ⟨O,O,O,O,G⟩) O (Dq (BL (!r4)) (Q7 (b:=r4) O O) O (Dq (BL (!r4)) (G6 O O) O (Dnil (hK2 (Gn (fin1 BL h)))))))))))))

def R3 (F:Nat) (p:Hm):Option (List Stowed):=
 loop (fun nx10 (s10:Int)=>
  bnd (bif decide (s10 < (p.l.length:Int)) then Qq p.l s10 some else some default) fun y13=>
  bif ((decide (s10 < (p.l.length:Int)))&&(decide (y13.Box < p.x.Box))) then
  (chk (s10+1) fun v14=>
   nx10 v14)
  else
  (bnd (Rx p.l s10 p.x) fun r16=>
   some r16)) F 0
abbrev Er (p:Hm):List AV:=[E2 p.l,E1 p.open_,I64 p.x.Box,I64 p.x.Slot.G3,I64 p.x.Slot.Tier,U8 p.x.Slot.Half]
theorem Gc7 (F:Nat) (p:Hm) (r:(List Stowed)) (h:R3 F p=some r):Pure Ei 49 [.agg (Hm.cs p)] (·=E2 r):=by
 unfold R3 at h
 refine Gz [.tmp 2] Tryz.func49 O O (Jr fun hK1=>(JLh (.ptr 1067 0) (Je (cs:=(Hm.cs p)) 1067 O O O O O) O (JLh (E2 ([]:List Stowed)) (Hb 4 O O) O (G7 (hK1 ?_)))))
 refine Gx [(1,Ef p)] [] 1067 rfl rfl rfl G rfl (by exact⟨.ptr,G⟩) (Jr fun hK2=>(JLm (I64 0) O (G7 (hK2 (Js fun hK3=>Gq ?_)))))
 obtain⟨b10,hb10,h⟩:=Q7f h
 refine Hd (fun i10 (s10:Int)=>loop b10 i10 s10=some r) (fun i10 s10=>[(1,Ef p),(3,I64 s10)]) (fun i10 s10=>[]) (fun i10=>i10) F 0 h ⟨(.sm O O),G,O⟩ ?_
 clear h
 intro i10 s10 hi10 K10 e10
 obtain⟨m10,nx10,hm_10,hn10,h⟩:=Jf9 hi10
 replace h:=Y34 hb10 h
 refine Js fun hK11=>Js fun hK12=>?_
 obtain⟨y13,hy13,h⟩:=Gc h
 refine JC_d0 J6 (by kernel_rfl) (Dq (I64 s10) (G4 O O) O (Dq (.dptr (Er p)) (Ga G39 O O O) O (Dq (E2 p.l) (Gf Y3 O O O) O (Dq (Eh p.l.length) (Qe (f:=Stowed.av) (xs:=p.l) Gt O O) O (Dq (BL (decide (s10 < (p.l.length:Int)))) (Hz O O O) O (Dq (BL (decide (s10 < (p.l.length:Int)))) (G4 O O) O (Do (.dptr (Er p)) [] O .sct G (fun hc=>Ga G39 O O O) O (Do (E2 p.l) [10] O .sct ⟨Ua,G⟩ (fun hc=>Gf Y3 O O O) O (Do (I64 s10) [] O .sct G (fun hc=>G4 O O) O (Do (Ec y13) [11,12] O .sct ⟨Ua,Ua,G⟩ (fun hc=>(match Jx (Gu hc hy13) with | ⟨_,hm_,hy_⟩=>Gw (f:=Stowed.av) (xs:=p.l) (y:=y13) O O O Gt hy_ hm_)) O (Do (Ec y13) [13] O .sct ⟨Ua,G⟩ (fun hc=>Ga Jc O O O) O (Do (I64 y13.Box) [14] O .sct ⟨Ua,G⟩ (fun hc=>Gf Gd O O O) O (Do (Ec p.x) [] O .sct G (fun hc=>Ga G38 O O O) O ?_)))))))))))))
 refine Do (Ec p.x) [16] O .sct ⟨Ua,G⟩ (fun hc=>Ga Jc O O O) O (Do (I64 p.x.Box) [17] O .sct ⟨Ua,G⟩ (fun hc=>Gf Gd O O O) O (Do (BL (decide (y13.Box < p.x.Box))) [15,18] O .sct ⟨Ua,Ua,G⟩ (fun hc=>Hz O O O) O (Dq (BL ((decide (s10 < (p.l.length:Int)))&&(decide (y13.Box < p.x.Box)))) (Hy O O O O) O (Dnil (hK12 (JCc O h (fun h hb=>?_) (fun h hb=>?_)))))))
 ·
  refine Gk (hK11 (Gq (G2 (JLm (I64 s10) O ?_))))
  obtain⟨v14,hv14,h⟩:=Q2 h
  refine JLh (I64 v14) (Hs hv14 O O O) O (JLm (I64 v14) O (G7 (e10 _ _ m10 v14 (app1 hn10 h) (by omega) ⟨(.sm O O),G,rfl⟩)))
 ·
  refine Hn (hK3 (Jr fun hK15=>(JLh (.dptr (Er p)) (Ga G39 O O O) O (JLh (E2 p.l) (Gf Y3 O O O) O (JLm (I64 s10) O (JLh (Ec p.x) (Ga G38 O O O) O (JLh (.agg (Stowed.cs p.x)) (Gh R6 O O O) O ?_)))))))
  obtain⟨r16,hr16,h⟩:=Gc h
  refine JLh (E2 r16) (Gm O (H8e.down p.l s10 p.x r16 hr16) J82 ⟨O,O,O,O,O,O,G⟩) O (JLm (E2 r16) O (G7 (hK15 (Gn (fin1 (fun r:(List Stowed)=>(E2 r:AV)) h)))))

def G5b (F:Nat) (p:Hm):Option Bool:=
 bnd (R3 F p) fun r3=>
 bnd (G88 p.s p.boxes r3 p.x.Slot.G3) fun r4=>
 some (!r4)
theorem Ge9 (F:Nat) (p:Hm) (r:Bool) (h:G5b F p=some r):Pure Ei 48 [.agg (Hm.cs p)] (·=BL r):=by
 unfold G5b at h
 refine Gz [.tmp 2] Tryz.func48 O O (Jr fun hK1=>(JLh (.ptr 1066 0) (Je (cs:=(Hm.cs p)) 1066 O O O O O) O (JLm (BL false) O (G7 (hK1 ?_)))))
 refine Gx [(1,Ef p)] [] 1066 rfl rfl rfl G rfl (by exact⟨.ptr,G⟩) (Js fun hK2=>?_)
 obtain⟨r3,hr3,h⟩:=Gc h
 obtain⟨r4,hr4,h⟩:=Gc h
 refine JC_d0 J6 (by kernel_rfl) (Dq (Ef p) (Ga H73 O O O) O (Dq (.agg (H0.cs p.s)) (Gh Hc O O O) O (Dq (.dptr [E3 p.boxes,E2 p.l,E1 p.open_,I64 p.x.Box,I64 p.x.Slot.G3,I64 p.x.Slot.Tier,U8 p.x.Slot.Half]) (Ga Q2c O O O) O (Dq (E3 p.boxes) (Gf Q73 O O O) O (Dq (.agg (Hm.cs p)) (Gh G5d O O O) O (Dq (E2 r3) (Gm (args:=[.agg (Hm.cs p)]) O (Gc7 F p r3 hr3) J22 ⟨O,O,G⟩) O (Dq (Ec p.x) (Ga G38 O O O) O (Dq (.dptr ((Stowed.cs p.x).drop 1)) (Ga Ho O O O) O (Dq (.dptr ((Stowed.cs p.x).drop 1)) (Ga J2 O O O) O (Dq (I64 p.x.Slot.G3) (Gf Gd O O O) O (Dq (BL r4) (Gm (args:=[.agg (H0.cs p.s),E3 p.boxes,E2 r3,I64 p.x.Slot.G3]) O (J0e p.s p.boxes r3 p.x.Slot.G3 r4 hr4) Jca ⟨O,O,O,O,O,O,O,O,G⟩) O (Dq (BL (!r4)) (Q7 (b:=r4) O O) O (Dq (BL (!r4)) (G6 O O) O (Dnil ?_))))))))))))))
 refine hK2 (Gn (fin1 BL h))

def G0b (F:Nat) (s:H0) (boxes:List Box) (l:List Stowed) (open_:List Int) (x:Stowed):Option ((List Stowed)×Int):=
 bnd (Qa s boxes l open_) fun r4=>
 bif (!r4) then
 (some ([],2))
 else
 (bnd (G89 boxes x.Box) fun r7=>
  bif ((!r7.2)||((decide (r7.1.Size≠20))&&(decide (r7.1.Size≠40)))) then
  (some ([],6))
  else
  (bnd (Rf l x.Box) fun r12=>
   bif decide (0≤r12) then
   (some ([],96))
   else
   (bnd (G99 s x.Slot r7.1.Size) fun r15=>
    bif (!r15) then
    (some ([],97))
    else
    (need (decide (4≤9223372036854775807)) <|
     upto (fun i60 (s60:Unit) nx60=>
      jp (fun kj63=>
       bif decide ((i60:Int)=0) then
       (bnd (G2f (Hm.mk s boxes l open_ x)) fun r67=>
        bif r67 then
        (chk (91+(i60:Int)) fun v69=>
         some ([],v69))
        else
        (kj63 ()))
       else
       (bif decide ((i60:Int)=1) then
        (bnd (G44 (Hm.mk s boxes l open_ x)) fun r71=>
         bif r71 then
         (chk (91+(i60:Int)) fun v73=>
          some ([],v73))
         else
         (kj63 ()))
        else
        (bif decide ((i60:Int)=2) then
         (bnd (G53 (Hm.mk s boxes l open_ x)) fun r75=>
          bif r75 then
          (chk (91+(i60:Int)) fun v77=>
           some ([],v77))
          else
          (kj63 ()))
         else
         (bif decide ((i60:Int)=3) then
          (bnd (G5b F (Hm.mk s boxes l open_ x)) fun r79=>
           bif r79 then
           (chk (91+(i60:Int)) fun v81=>
            some ([],v81))
           else
           (kj63 ()))
          else
          (none))))) fun(j63:Unit)=>
      nx60 ())
     (fun(s60:Unit)=>
      bnd (R3 F (Hm.mk s boxes l open_ x)) fun r83=>
      some (r83,0)) (4:Int).toNat 0 ()))))
abbrev Es (s:H0) (boxes:List Box) (l:List Stowed) (open_:List Int) (x:Stowed):List AV:=[E5 s.Columns,E4 s.Covers,I64 s.Light.Kilos,I64 s.Light.X,I64 s.Light.Y,I64 s.Light.Z,E7 s.Rows,E6 s.Frames,E8 s.Tanks,I64 s.G1.Tolerance,I64 s.G1.Trim,I64 s.G1.List_,I64 s.G1.Stability,E3 boxes,E2 l,E1 open_,I64 x.Box,I64 x.Slot.G3,I64 x.Slot.Tier,U8 x.Slot.Half]
abbrev Eu (s:H0) (boxes:List Box) (l:List Stowed) (open_:List Int) (x:Stowed):List AV:=[.agg (Es s boxes l open_ x)]
theorem J57 (F:Nat) (s:H0) (boxes:List Box) (l:List Stowed) (open_:List Int) (x:Stowed) (r:(List Stowed)×Int) (h:G0b F s boxes l open_ x=some r):Pure Ei 12 [.agg (H0.cs s),E3 boxes,E2 l,E1 open_,.agg (Stowed.cs x)] (·=.tup [E2 r.1,I64 r.2]):=by
 unfold G0b at h
 refine Gz [.tmp 10,.tmp 11] Tryz.func12 O O (Jr fun hK1=>(JLh (.ptr 1016 0) (Je (cs:=(H0.cs s)) 1016 O O O O O) O (JLh (.ptr 1017 0) (Je (cs:=[I64 x.Box,I64 x.Slot.G3,I64 x.Slot.Tier,U8 x.Slot.Half]) 1017 O O O O O) O (JLh (E2 ([]:List Stowed)) (Hb 4 O O) O (JLm (I64 0) O (G7 (hK1 ?_)))))))
 refine Gx [(1,E3 boxes),(2,E2 l),(3,E1 open_),(5,Eb s),(9,.ptr 1017 0)] [(1017,.box 39 [I64 x.Box,I64 x.Slot.G3,I64 x.Slot.Tier,U8 x.Slot.Half])] 1016 rfl rfl rfl ⟨⟨_,rfl,.boxEq rfl rfl⟩,G⟩ rfl (by repeat' (first | exact .ptr | constructor)) ?_
 refine Gx [(1,E3 boxes),(2,E2 l),(3,E1 open_),(5,Eb s),(9,Ec x)] [] 1017 rfl rfl rfl G rfl (by repeat' (first | exact .ptr | constructor)) (Js fun hK2=>?_)
 refine Jr fun hK3=>(JLh (.agg (H0.cs s)) (Gh Hc O O O) O (JLm (E3 boxes) O (JLm (E2 l) O (JLm (E1 open_) O ?_))))
 obtain⟨r4,hr4,h⟩:=Gc h
 refine JLh (BL r4) (Gm O (Zx s boxes l open_ r4 hr4) G80 ⟨O,O,O,O,O,O,O,O,G⟩) O (JLh (BL (!r4)) (Q7 (b:=r4) O O) O (G7 (hK3 (JCc O h (fun h hb=>?_) (fun h hb=>?_)))))
 ·
  refine Jr fun hK5=>(JLh (E2 ([]:List Stowed)) (Hb 4 O O) O (JLm (I64 2) O (G7 (hK5 (Gn (⟨[E2 ([]:List Stowed),I64 2],[],G,O,⟨⟨_,O,.conv (.same O)⟩,⟨_,O,.conv (.same O)⟩,G⟩,O,congrArg (fun r:(List Stowed)×Int=>(.tup [E2 r.1,I64 r.2]:AV)) (Option.some.inj h)⟩))))))
 ·
  refine Gk (hK2 (Jr fun hK6=>(JLm (E3 boxes) O (JLh (Ec x) (Ga Jc O O O) O (JLh (I64 x.Box) (Gf Gd O O O) O ?_)))))
  obtain⟨r7,hr7,h⟩:=Gc h
  refine JLh (.tup [.agg (Box.cs r7.1),BL r7.2]) (Gm O (Gfb boxes x.Box r7 hr7) Ha5 ⟨O,O,O,O,G⟩) O (JLm (.tup [.agg (Box.cs r7.1),BL r7.2]) O (JLh (.agg (Box.cs r7.1)) (Hk O O O) O (JLh (BL r7.2) (Hk O O O) O (JLh (.ptr 1018 0) (Qo 1018 9 G4e O O) O (Jo (u:=.junk) (Jh (u:=.agg (Box.cs r7.1)) (ds:=(Box.cs r7.1)) G29 O O O O O O O O) (JLm (BL r7.2) O (G7 (hK6 ?_))))))))
  refine Gx [(1,E3 boxes),(2,E2 l),(3,E1 open_),(5,Eb s),(9,Ec x),(12,Ee r7.1),(13,BL r7.2)] [] 1018 rfl rfl rfl G rfl (by repeat' (first | exact .ptr | constructor)) (Js fun hK8=>Gq ?_)
  refine Jr fun hK9=>(JLm (BL r7.2) O (JLh (BL (!r7.2)) (Q7 (b:=r7.2) O O) O (JLm (BL (!r7.2)) O (JLo (.dptr ((Box.cs r7.1).drop 2)) [] O .scf G (fun hc=>Ga Z8 O O O) O (JLo (U8 r7.1.Size) [34] O .scf ⟨Ua,G⟩ (fun hc=>Gf J9 O O O) O (JLo (BL (decide (r7.1.Size≠20))) [35] O .scf ⟨Ua,G⟩ (fun hc=>G0e O O O) O (JLo (BL (decide (r7.1.Size≠20))) [36] O .scf ⟨Ua,G⟩ (fun hc=>G4 O O) O (JLo (.dptr ((Box.cs r7.1).drop 2)) [] O .optt G (fun hc=>Ga Z8 O O O) O (JLo (U8 r7.1.Size) [38] O .optt ⟨Ua,G⟩ (fun hc=>Gf J9 O O O) O (JLo (BL (decide (r7.1.Size≠40))) [39] O .optt ⟨Ua,G⟩ (fun hc=>G0e O O O) O (G8 (u:=BL ((decide (r7.1.Size≠20))&&(decide (r7.1.Size≠40)))) [(37,BL (decide (r7.1.Size≠20))),(40,_)] O O O .scf ⟨.all id,.part,G⟩ (fun hc=>Hy O O O O) ?_)))))))))))
  refine JLh (BL ((!r7.2)||((decide (r7.1.Size≠20))&&(decide (r7.1.Size≠40))))) (Y4 O O O O) O (JLm (BL ((!r7.2)||((decide (r7.1.Size≠20))&&(decide (r7.1.Size≠40))))) O (G7 (hK9 (JCc O h (fun h hb=>?_) (fun h hb=>?_)))))
  ·
   refine Jr fun hK10=>(JLh (E2 ([]:List Stowed)) (Hb 4 O O) O (JLm (I64 6) O (G7 (hK10 (Gn (⟨[E2 ([]:List Stowed),I64 6],[],G,O,⟨⟨_,O,.conv (.same O)⟩,⟨_,O,.conv (.same O)⟩,G⟩,O,congrArg (fun r:(List Stowed)×Int=>(.tup [E2 r.1,I64 r.2]:AV)) (Option.some.inj h)⟩))))))
  ·
   refine Jr fun hK11=>(JLm (E2 l) O (JLh (Ec x) (Ga Jc O O O) O (JLh (I64 x.Box) (Gf Gd O O O) O ?_)))
   obtain⟨r12,hr12,h⟩:=Gc h
   refine JLh (I64 r12) (Gm O (G3d l x.Box r12 hr12) G81 ⟨O,O,O,O,G⟩) O (JLh (BL (decide (0≤r12))) (Zf O O O) O (JLm (BL (decide (0≤r12))) O (G7 (hK11 (JCc O h (fun h hb=>?_) (fun h hb=>?_))))))
   ·
    refine Jr fun hK13=>(JLh (E2 ([]:List Stowed)) (Hb 4 O O) O (JLm (I64 96) O (G7 (hK13 (Gn (⟨[E2 ([]:List Stowed),I64 96],[],G,O,⟨⟨_,O,.conv (.same O)⟩,⟨_,O,.conv (.same O)⟩,G⟩,O,congrArg (fun r:(List Stowed)×Int=>(.tup [E2 r.1,I64 r.2]:AV)) (Option.some.inj h)⟩))))))
   ·
    refine Jr fun hK14=>(JLh (.agg (H0.cs s)) (Gh Hc O O O) O (JLh (.dptr ((Stowed.cs x).drop 1)) (Ga Ho O O O) O (JLh (.agg ((Stowed.cs x).drop 1)) (Gh Q4 O O O) O (JLh (.dptr ((Box.cs r7.1).drop 2)) (Ga Z8 O O O) O (JLh (U8 r7.1.Size) (Gf J9 O O O) O ?_)))))
    obtain⟨r15,hr15,h⟩:=Gc h
    refine JLh (BL r15) (Gm O (H48 s x.Slot r7.1.Size r15 hr15) J23 ⟨O,O,O,O,O,O,G⟩) O (JLh (BL (!r15)) (Q7 (b:=r15) O O) O (JLm (BL (!r15)) O (G7 (hK14 (JCc O h (fun h hb=>?_) (fun h hb=>?_))))))
    ·
     refine Jr fun hK16=>(JLh (E2 ([]:List Stowed)) (Hb 4 O O) O (JLm (I64 97) O (G7 (hK16 (Gn (⟨[E2 ([]:List Stowed),I64 97],[],G,O,⟨⟨_,O,.conv (.same O)⟩,⟨_,O,.conv (.same O)⟩,G⟩,O,congrArg (fun r:(List Stowed)×Int=>(.tup [E2 r.1,I64 r.2]:AV)) (Option.some.inj h)⟩))))))
    ·
     refine Gk (hK8 ?_)
     refine Jr fun hK17=>(JLh (.agg (H0.cs s)) (Gh Hc O O O) O (JLm (E3 boxes) O (JLm (E2 l) O (JLm (E1 open_) O (JLh (.agg (Stowed.cs x)) (Gh R6 O O O) O (JLh (.agg (Es s boxes l open_ x)) (Jp (cs:=(Es s boxes l open_ x)) [(0,13),(13,1),(14,1),(15,1),(16,4)] [E5 ([]:List G3),E4 ([]:List G9),I64 0,I64 0,I64 0,I64 0,E7 ([]:List Row),E6 ([]:List Frame),E8 ([]:List Gg),I64 0,I64 0,I64 0,I64 0,E3 ([]:List Box),E2 ([]:List Stowed),E1 ([]:List Int),I64 0,I64 0,I64 0,U8 0] [.slice none 0 0,.slice none 0 0,E0,E0,E0,E0,.slice none 0 0,.slice none 0 0,.slice none 0 0,E0,E0,E0,E0,.slice none 0 0,.slice none 0 0,.slice none 0 0,E0,E0,E0,.int .u8 0] J38 Jbd ⟨.inr ⟨_,O,O⟩,.inr ⟨_,O,O⟩,.inl O,.inl O,.inl O,.inl O,.inr ⟨_,O,O⟩,.inr ⟨_,O,O⟩,.inr ⟨_,O,O⟩,.inl O,.inl O,.inl O,.inl O,.inr ⟨_,O,O⟩,.inr ⟨_,O,O⟩,.inr ⟨_,O,O⟩,.inl O,.inl O,.inl O,.inl O,G⟩ O O) O (JLh (.ptr 1019 0) (Qo 1019 20 J74 O O) O (Jo (u:=.junk) (Jh (u:=.agg (Es s boxes l open_ x)) (ds:=(Es s boxes l open_ x)) Jbf O O O O O O O O) (G7 (hK17 ?_))))))))))
     refine Gx [(14,.dptr (Es s boxes l open_ x))] [] 1019 rfl rfl rfl G rfl (by exact⟨.ptr,G⟩) (Js fun hK18=>?_)
     refine Jr fun hK19=>(JLh (.agg (Es s boxes l open_ x)) (Gh G5d O O O) O (JLh (.bfn 45 (Eu s boxes l open_ x)) (G65 (cs:=(Eu s boxes l open_ x)) O O) O (JLh (.agg (Es s boxes l open_ x)) (Gh G5d O O O) O (JLh (.bfn 46 (Eu s boxes l open_ x)) (G65 (cs:=(Eu s boxes l open_ x)) O O) O (JLh (.agg (Es s boxes l open_ x)) (Gh G5d O O O) O (JLh (.bfn 47 (Eu s boxes l open_ x)) (G65 (cs:=(Eu s boxes l open_ x)) O O) O (JLh (.agg (Es s boxes l open_ x)) (Gh G5d O O O) O (JLh (.bfn 48 (Eu s boxes l open_ x)) (G65 (cs:=(Eu s boxes l open_ x)) O O) O (JLh (.agg [.bfn 45 (Eu s boxes l open_ x),.bfn 46 (Eu s boxes l open_ x),.bfn 47 (Eu s boxes l open_ x),.bfn 48 (Eu s boxes l open_ x)]) (Hc0 (cs:=[.bfn 45 (Eu s boxes l open_ x),.bfn 46 (Eu s boxes l open_ x),.bfn 47 (Eu s boxes l open_ x),.bfn 48 (Eu s boxes l open_ x)]) [.nilFunc,.nilFunc,.nilFunc,.nilFunc] Q41 Jbc O O) O (JLm (I64 0) O (G7 (hK19 ?_))))))))))))
     refine Gq ?_
     obtain⟨hx60,h⟩:=Hr h
     obtain⟨b60,kx60,hb60,hkx60,h⟩:=G4d h
     refine Hd (fun i60 (s60:Unit)=>upto b60 kx60 ((4:Int).toNat - i60) i60 s60=some r) (fun i60 s60=>[(14,.dptr (Es s boxes l open_ x)),(71,.agg [.bfn 45 (Eu s boxes l open_ x),.bfn 46 (Eu s boxes l open_ x),.bfn 47 (Eu s boxes l open_ x),.bfn 48 (Eu s boxes l open_ x)]),(72,Eh i60)]) (fun i60 s60=>[]) (fun i60=>(4:Int).toNat - i60) 0 () h ⟨(.sm O O),G,O⟩ ?_
     clear h
     intro i60 s60 hi60 K60 e60
     refine Jr fun hK61=>(JLh (BL (decide ((i60:Int) < 4))) (Hz O O O) O (G7 (hK61 (Js fun hK62=>Gi O (fun hb=>?_) (fun hb=>?_)))))
     ·
      have hk60:=G21 hb
      obtain⟨nx60,hn60,h⟩:=G1e hi60 hk60
      replace h:=Hba hb60 h
      refine Gk (hK62 ?_)
      obtain⟨kj63,hkj63,h⟩:=G84 h
      refine G57 (fun j63:Unit=>kj63 j63=some r) (fun j63=>[(14,.dptr (Es s boxes l open_ x)),(71,.agg [.bfn 45 (Eu s boxes l open_ x),.bfn 46 (Eu s boxes l open_ x),.bfn 47 (Eu s boxes l open_ x),.bfn 48 (Eu s boxes l open_ x)]),(72,Eh i60)]) (fun j63=>[]) (fun Kj63 ej63=>?_) ?_
      ·
       refine Gq (Jr fun hK64=>(JLm (Eh i60) O ((Decidable.em ((i60:Int)=0)).elim (fun hq65_0=>?_) (fun hq65_0=>?_))))
       ·
        replace h:=Gu (decide_eq_true hq65_0) h
        refine JLh (.bfn 45 (Eu s boxes l open_ x)) (Gce (j:=0) Gbe O O O hq65_0 O O) O (JLm (Eh i60) O (JLm (.bfn 45 (Eu s boxes l open_ x)) O (G7 (hK64 ?_))))
        refine Jr fun hK66=>(JLm (.bfn 45 (Eu s boxes l open_ x)) O ?_)
        obtain⟨r67,hr67,h⟩:=Gc h
        refine JLh (BL r67) (Gcf (args:=[]) (firsts:=(Eu s boxes l open_ x)) O O (Ge8 (Hm.mk s boxes l open_ x) r67 hr67) Jda G O) O (G7 (hK66 (JCc O h (fun h hb=>?_) (fun h hb=>?_))))
        ·
         refine Jr fun hK68=>(JLm (Eh i60) O ?_)
         obtain⟨v69,hv69,h⟩:=Q2 h
         refine JLh (I64 v69) (Hs hv69 O O O) O (JLh (E2 ([]:List Stowed)) (Hb 4 O O) O (JLm (I64 v69) O (G7 (hK68 (Gn (⟨[E2 ([]:List Stowed),I64 v69],[],G,O,⟨⟨_,O,.conv (.same O)⟩,⟨_,O,.conv (.same O)⟩,G⟩,O,congrArg (fun r:(List Stowed)×Int=>(.tup [E2 r.1,I64 r.2]:AV)) (Option.some.inj h)⟩))))))
        ·
         refine Gk (ej63 _ _ () h ⟨(.sm O O),G,O⟩)
       ·
        replace h:=H8 (decide_eq_false hq65_0) h
        refine(Decidable.em ((i60:Int)=1)).elim (fun hq65_1=>?_) (fun hq65_1=>?_)
        ·
         replace h:=Gu (decide_eq_true hq65_1) h
         refine JLh (.bfn 46 (Eu s boxes l open_ x)) (Gce (j:=1) Gbe O O O hq65_1 O O) O (JLm (Eh i60) O (JLm (.bfn 46 (Eu s boxes l open_ x)) O (G7 (hK64 ?_))))
         refine Jr fun hK70=>(JLm (.bfn 46 (Eu s boxes l open_ x)) O ?_)
         obtain⟨r71,hr71,h⟩:=Gc h
         refine JLh (BL r71) (Gcf (args:=[]) (firsts:=(Eu s boxes l open_ x)) O O (H03 (Hm.mk s boxes l open_ x) r71 hr71) Jd9 G O) O (G7 (hK70 (JCc O h (fun h hb=>?_) (fun h hb=>?_))))
         ·
          refine Jr fun hK72=>(JLm (Eh i60) O ?_)
          obtain⟨v73,hv73,h⟩:=Q2 h
          refine JLh (I64 v73) (Hs hv73 O O O) O (JLh (E2 ([]:List Stowed)) (Hb 4 O O) O (JLm (I64 v73) O (G7 (hK72 (Gn (⟨[E2 ([]:List Stowed),I64 v73],[],G,O,⟨⟨_,O,.conv (.same O)⟩,⟨_,O,.conv (.same O)⟩,G⟩,O,congrArg (fun r:(List Stowed)×Int=>(.tup [E2 r.1,I64 r.2]:AV)) (Option.some.inj h)⟩))))))
         ·
          refine Gk (ej63 _ _ () h ⟨(.sm O O),G,O⟩)
        ·
         replace h:=H8 (decide_eq_false hq65_1) h
         refine(Decidable.em ((i60:Int)=2)).elim (fun hq65_2=>?_) (fun hq65_2=>?_)
         ·
          replace h:=Gu (decide_eq_true hq65_2) h
          refine JLh (.bfn 47 (Eu s boxes l open_ x)) (Gce (j:=2) Gbe O O O hq65_2 O O) O (JLm (Eh i60) O (JLm (.bfn 47 (Eu s boxes l open_ x)) O (G7 (hK64 ?_))))
          refine Jr fun hK74=>(JLm (.bfn 47 (Eu s boxes l open_ x)) O ?_)
          obtain⟨r75,hr75,h⟩:=Gc h
          refine JLh (BL r75) (Gcf (args:=[]) (firsts:=(Eu s boxes l open_ x)) O O (Gdc (Hm.mk s boxes l open_ x) r75 hr75) Jd8 G O) O (G7 (hK74 (JCc O h (fun h hb=>?_) (fun h hb=>?_))))
          ·
           refine Jr fun hK76=>(JLm (Eh i60) O ?_)
           obtain⟨v77,hv77,h⟩:=Q2 h
           refine JLh (I64 v77) (Hs hv77 O O O) O (JLh (E2 ([]:List Stowed)) (Hb 4 O O) O (JLm (I64 v77) O (G7 (hK76 (Gn (⟨[E2 ([]:List Stowed),I64 v77],[],G,O,⟨⟨_,O,.conv (.same O)⟩,⟨_,O,.conv (.same O)⟩,G⟩,O,congrArg (fun r:(List Stowed)×Int=>(.tup [E2 r.1,I64 r.2]:AV)) (Option.some.inj h)⟩))))))
          ·
           refine Gk (ej63 _ _ () h ⟨(.sm O O),G,O⟩)
         ·
          replace h:=H8 (decide_eq_false hq65_2) h
          refine(Decidable.em ((i60:Int)=3)).elim (fun hq65_3=>?_) (fun hq65_3=>?_)
          ·
           replace h:=Gu (decide_eq_true hq65_3) h
           refine JLh (.bfn 48 (Eu s boxes l open_ x)) (Gce (j:=3) Gbe O O O hq65_3 O O) O (JLm (Eh i60) O (JLm (.bfn 48 (Eu s boxes l open_ x)) O (G7 (hK64 ?_))))
           refine Jr fun hK78=>(JLm (.bfn 48 (Eu s boxes l open_ x)) O ?_)
           obtain⟨r79,hr79,h⟩:=Gc h
           refine JLh (BL r79) (Gcf (args:=[]) (firsts:=(Eu s boxes l open_ x)) O O (Ge9 F (Hm.mk s boxes l open_ x) r79 hr79) Jd7 G O) O (G7 (hK78 (JCc O h (fun h hb=>?_) (fun h hb=>?_))))
           ·
            refine Jr fun hK80=>(JLm (Eh i60) O ?_)
            obtain⟨v81,hv81,h⟩:=Q2 h
            refine JLh (I64 v81) (Hs hv81 O O O) O (JLh (E2 ([]:List Stowed)) (Hb 4 O O) O (JLm (I64 v81) O (G7 (hK80 (Gn (⟨[E2 ([]:List Stowed),I64 v81],[],G,O,⟨⟨_,O,.conv (.same O)⟩,⟨_,O,.conv (.same O)⟩,G⟩,O,congrArg (fun r:(List Stowed)×Int=>(.tup [E2 r.1,I64 r.2]:AV)) (Option.some.inj h)⟩))))))
           ·
            refine Gk (ej63 _ _ () h ⟨(.sm O O),G,O⟩)
          ·
           replace h:=H8 (decide_eq_false hq65_3) h
           cases h
      ·intro j63 h
       replace h:=app1 hkj63 h
       refine G2 (JLh (I64 ((i60+1:Nat):Int)) (Hs (Hf hk60 (Zj hx60)) O O O) O (JLm (I64 ((i60+1:Nat):Int)) O (G7 (e60 _ _ (i60+1) () (app1 hn60 h) (by omega) ⟨(.sm O O),G,rfl⟩))))
     ·
      have h:=app1 hkx60 (G1f hi60 (Qu hb))
      refine Hn (hK18 (Jr fun hK82=>(JLh (.agg (Es s boxes l open_ x)) (Gh G5d O O O) O ?_)))
      obtain⟨r83,hr83,h⟩:=Gc h
      refine JLh (E2 r83) (Gm O (Gc7 F (Hm.mk s boxes l open_ x) r83 hr83) J22 ⟨O,O,G⟩) O (JLm (E2 r83) O (JLm (I64 0) O (G7 (hK82 (Gn (⟨[E2 r83,I64 0],[],G,O,⟨⟨_,O,.conv (.same O)⟩,⟨_,O,.conv (.same O)⟩,G⟩,O,congrArg (fun r:(List Stowed)×Int=>(.tup [E2 r.1,I64 r.2]:AV)) (Option.some.inj h)⟩))))))

def G6d (x:Int):Option Bool:=
 some (decide (x≠x))
theorem H69 (x:Int) (r:Bool) (h:G6d x=some r):Pure Ei 142 [I64 x] (·=BL r):=by
 unfold G6d at h
 refine Gz [.tmp 2] Tryz.func142 O O (Jr fun hK1=>(JLm (BL false) O (G7 (hK1 (Jr fun hK2=>(JLm (I64 x) O (JLm (I64 x) O (JLh (BL (decide (x≠x))) (G0e O O O) O (JLm (BL (decide (x≠x))) O (G7 (hK2 (Gn (fin1 BL h)))))))))))))

def G8c (x:Int) (y:Int):Option Bool:=
 bnd (G6d x) fun r3=>
 bnd (bif r3 then G6d y else some default) fun r4=>
 some ((r3&&(!r4))||(decide (x < y)))
theorem J70 (x:Int) (y:Int) (r:Bool) (h:G8c x y=some r):Pure Ei 113 [I64 x,I64 y] (·=BL r):=by
 unfold G8c at h
 refine Gz [.tmp 4] Tryz.func113 O O (Jr fun hK1=>(JLm (BL false) O (G7 (hK1 (Jr fun hK2=>(JLm (I64 x) O ?_))))))
 obtain⟨r3,hr3,h⟩:=Gc h
 refine JLh (BL r3) (Gm O (H69 x r3 hr3) J7a ⟨O,O,G⟩) O (JLm (BL r3) O (JLo (I64 y) [] O .sct G (fun hc=>G4 O O) O ?_))
 obtain⟨r4,hr4,h⟩:=Gc h
 refine JLo (BL r4) [8] O .sct ⟨Ua,G⟩ (fun hc=>Gm (args:=[I64 y]) O (H69 y r4 (Gu hc hr4)) J7a ⟨O,O,G⟩) O (JLo (BL (!r4)) [9] O .sct ⟨Ua,G⟩ (fun hc=>Q7 (b:=r4) O O) O (JLh (BL (r3&&(!r4))) (Hy O O O O) O (JLm (BL (r3&&(!r4))) O (JLo (I64 x) [] O .scf G (fun hc=>G4 O O) O (JLo (I64 y) [] O .scf G (fun hc=>G4 O O) O (JLo (BL (decide (x < y))) [13,14] O .scf ⟨Ua,Ua,G⟩ (fun hc=>Hz O O O) O (JLh (BL ((r3&&(!r4))||(decide (x < y)))) (Y4 O O O O) O (JLm (BL ((r3&&(!r4))||(decide (x < y)))) O (G7 (hK2 (Gn (fin1 BL h))))))))))))

def G45 (x:Int):Option Bool:=
 some (decide (x≠x))
theorem H05 (x:Int) (r:Bool) (h:G45 x=some r):Pure Ei 114 [I64 x] (·=BL r):=by
 unfold G45 at h
 refine Gz [.tmp 2] Tryz.func114 O O (Jr fun hK1=>(JLm (BL false) O (G7 (hK1 (Jr fun hK2=>(JLm (I64 x) O (JLm (I64 x) O (JLh (BL (decide (x≠x))) (G0e O O O) O (JLm (BL (decide (x≠x))) O (G7 (hK2 (Gn (fin1 BL h)))))))))))))

def Rj (F:Nat) (x:List Int) (target:Int):Option (Int×Bool):=
 loop (fun nx16 (s16:Int×Int)=>
  bif decide (s16.1 < s16.2) then
  (chk (s16.1+s16.2) fun v20=>
   chk (Rc3 .u64 (IntKind.u64.wrap v20) 1) fun v21=>
   Qq x v21 fun y23=>
   bnd (G8c y23 target) fun r25=>
   bif r25 then
   (chk (v21+1) fun v26=>
    nx16 (v26,s16.2))
   else
   (nx16 (s16.1,v21)))
  else
  (bnd (bif decide (s16.1 < (x.length:Int)) then Qq x s16.1 some else some default) fun y28=>
   bnd (bif ((decide (s16.1 < (x.length:Int)))&&!(decide (y28=target))) then Qq x s16.1 some else some default) fun y29=>
   bnd (bif ((decide (s16.1 < (x.length:Int)))&&!(decide (y28=target))) then G45 y29 else some default) fun r30=>
   bnd (bif (((decide (s16.1 < (x.length:Int)))&&!(decide (y28=target)))&&r30) then G45 target else some default) fun r31=>
   some (s16.1,((decide (s16.1 < (x.length:Int)))&&((decide (y28=target))||(r30&&r31)))))) F (0,(x.length:Int))
theorem G00 (F:Nat) (x:List Int) (target:Int) (r:Int×Bool) (h:Rj F x target=some r):Pure Ei 66 [E1 x,I64 target] (·=.tup [I64 r.1,BL r.2]):=by
 unfold Rj at h
 refine Gz [.tmp 4,.tmp 5] Tryz.func66 O O (Jr fun hK1=>(JLm (I64 0) O (JLm (BL false) O (G7 (hK1 (Jr fun hK2=>(JLm (E1 x) O (JLl Gs O O O fun hm11=>(JLm (Eh x.length) O (G7 (hK2 (Jr fun hK3=>(JLm (Eh x.length) O (JLm (I64 0) O (JLm (Eh x.length) O (G7 (hK3 (Js fun hK4=>Gq ?_))))))))))))))))))
 obtain⟨b16,hb16,h⟩:=Q7f h
 refine Hd (fun i16 (s16:Int×Int)=>loop b16 i16 s16=some r) (fun i16 s16=>[(0,E1 x),(1,I64 target),(6,Eh x.length),(7,I64 s16.1),(8,I64 s16.2)]) (fun i16 s16=>[]) (fun i16=>i16) F (0,(x.length:Int)) h ⟨(.sm O O),G,rfl⟩ ?_
 clear h
 intro i16 s16 hi16 K16 e16
 obtain⟨m16,nx16,hm_16,hn16,h⟩:=Jf9 hi16
 replace h:=Y34 hb16 h
 refine Js fun hK17=>Jr fun hK18=>(JLm (I64 s16.1) O (JLm (I64 s16.2) O (JLh (BL (decide (s16.1 < s16.2))) (Hz O O O) O (G7 (hK18 (JCc O h (fun h hb=>?_) (fun h hb=>?_)))))))
 ·
  refine Gk (hK17 (Gq (Jr fun hK19=>(JLm (I64 s16.1) O (JLm (I64 s16.2) O ?_)))))
  obtain⟨v20,hv20,h⟩:=Q2 h
  refine JLh (I64 v20) (Hs hv20 O O O) O (JLh (.sc (.int .u64 (IntKind.u64.wrap v20))) (Q95 Jc0 J3c O O O) O (JLh (.sc (.int .u64 (Rc3 .u64 (IntKind.u64.wrap v20) 1))) (Y42 (s:=1) O O O O) O ?_))
  obtain⟨v21,hv21,h⟩:=Q2 h
  refine JLh (I64 v21) (Q95 J3c Jc0 hv21 O O) O (JLm (I64 v21) O (G7 (hK19 (Jr fun hK22=>(JLm (E1 x) O (JLm (I64 v21) O ?_))))))
  obtain⟨m24,y23,hm24,hy23,h⟩:=R1 h
  refine JLh (.dptr [I64 y23]) (Gw (f:=I64) (xs:=x) (y:=y23) O O O Gs hy23 hm24) O (JLh (I64 y23) (Gf Gd O O O) O (JLm (I64 target) O ?_))
  obtain⟨r25,hr25,h⟩:=Gc h
  refine JLh (BL r25) (Gm O (J70 y23 target r25 hr25) Qb6 ⟨O,O,O,O,G⟩) O (G7 (hK22 (JCc O h (fun h hb=>?_) (fun h hb=>?_))))
  ·
   refine G2 (JLm (I64 v21) O ?_)
   obtain⟨v26,hv26,h⟩:=Q2 h
   refine JLh (I64 v26) (Hs hv26 O O O) O (JLm (I64 v26) O (G7 (e16 _ _ m16 (v26,s16.2) (app1 hn16 h) (by omega) ⟨(.sm O O),G,rfl⟩)))
  ·
   refine G2 (JLm (I64 v21) O (JLm (I64 v21) O (G7 (e16 _ _ m16 (s16.1,v21) (app1 hn16 h) (by omega) ⟨(.sm O O),G,rfl⟩))))
 ·
  refine Hn (hK4 (Jr fun hK27=>(JLm (I64 s16.1) O (JLm (I64 s16.1) O (JLm (Eh x.length) O (JLh (BL (decide (s16.1 < (x.length:Int)))) (Hz O O O) O (JLm (BL (decide (s16.1 < (x.length:Int)))) O (JLo (E1 x) [] O .sct G (fun hc=>G4 O O) O (JLo (I64 s16.1) [] O .sct G (fun hc=>G4 O O) O ?_)))))))))
  obtain⟨y28,hy28,h⟩:=Gc h
  refine JLo (.dptr [I64 y28]) [36,37] O .sct ⟨Ua,Ua,G⟩ (fun hc=>(match Jx (Gu hc hy28) with | ⟨_,hm_,hy_⟩=>Gw (f:=I64) (xs:=x) (y:=y28) O O O Gs hy_ hm_)) O (JLo (I64 y28) [38] O .sct ⟨Ua,G⟩ (fun hc=>Gf Gd O O O) O (JLo (I64 target) [] O .sct G (fun hc=>G4 O O) O (JLo (BL (decide (y28=target))) [39,40] O .sct ⟨Ua,Ua,G⟩ (fun hc=>Jw O O O) O (JLo (BL (decide (y28=target))) [41] O .sct ⟨Ua,G⟩ (fun hc=>G4 O O) O (JLo (E1 x) [] O .optf G (fun hc=>G4 O O) O (JLo (I64 s16.1) [] O .optf G (fun hc=>G4 O O) O ?_))))))
  obtain⟨y29,hy29,h⟩:=Gc h
  refine JLo (.dptr [I64 y29]) [43,44] O .optf ⟨Ua,Ua,G⟩ (fun hc=>(match Jx (Gu hc hy29) with | ⟨_,hm_,hy_⟩=>Gw (f:=I64) (xs:=x) (y:=y29) O O O Gs hy_ hm_)) O (JLo (I64 y29) [45] O .optf ⟨Ua,G⟩ (fun hc=>Gf Gd O O O) O ?_)
  obtain⟨r30,hr30,h⟩:=Gc h
  refine JLo (BL r30) [46] O .optf ⟨Ua,G⟩ (fun hc=>Gm (args:=[I64 y29]) O (H05 y29 r30 (Gu hc hr30)) J7e ⟨O,O,G⟩) O (JLo (BL r30) [47] O .optf ⟨Ua,G⟩ (fun hc=>G4 O O) O (JLo (I64 target) [] O .optt G (fun hc=>G4 O O) O ?_))
  obtain⟨r31,hr31,h⟩:=Gc h
  refine JLo (BL r31) [49] O .optt ⟨Ua,G⟩ (fun hc=>Gm (args:=[I64 target]) O (H05 target r31 (Gu hc hr31)) J7e ⟨O,O,G⟩) O (G8 (u:=BL (r30&&r31)) [(48,BL r30),(50,_)] O O O .optf ⟨.all id,.part,G⟩ (fun hc=>Hy O O O O) ?_)
  refine G8 (u:=BL ((decide (y28=target))||(r30&&r31))) [(42,BL (decide (y28=target))),(51,_)] O O O .sct ⟨.all id,.part,G⟩ (fun hc=>Y4 O O O O) ?_
  refine JLh (BL ((decide (s16.1 < (x.length:Int)))&&((decide (y28=target))||(r30&&r31)))) (Hy O O O O) O (JLm (I64 s16.1) O (JLm (BL ((decide (s16.1 < (x.length:Int)))&&((decide (y28=target))||(r30&&r31)))) O (G7 (hK27 (Gn (⟨[I64 s16.1,BL ((decide (s16.1 < (x.length:Int)))&&((decide (y28=target))||(r30&&r31)))],[],G,O,⟨⟨_,O,.conv (.same O)⟩,⟨_,O,.conv (.same O)⟩,G⟩,O,congrArg (fun r:Int×Bool=>(.tup [I64 r.1,BL r.2]:AV)) (Option.some.inj h)⟩))))))

def G24 (F:Nat) (s:H0) (boxes:List Box) (l:List Stowed) (open_:List Int) (cover:Int):Option ((List Int)×Int):=
 bnd (Qa s boxes l open_) fun r4=>
 bif (!r4) then
 (some ([],2))
 else
 (bif ((decide (cover < 0))||(decide ((s.Covers.length:Int)≤cover))) then
  (some ([],6))
  else
  (bnd (Gc6 s l cover) fun r9=>
   bif decide (0 < (r9.length:Int)) then
   (some ([],95))
   else
   (bnd (Rj F open_ cover) fun r12=>
    bif r12.2 then
    (bnd (Qg open_) fun r16=>
     some (r16,0))
    else
    (bnd (G4c open_ r12.1 cover) fun r18=>
     some (r18,0)))))
theorem Q34 (F:Nat) (s:H0) (boxes:List Box) (l:List Stowed) (open_:List Int) (cover:Int) (r:(List Int)×Int) (h:G24 F s boxes l open_ cover=some r):Pure Ei 16 [.agg (H0.cs s),E3 boxes,E2 l,E1 open_,I64 cover] (·=.tup [E1 r.1,I64 r.2]):=by
 unfold G24 at h
 refine Gz [.tmp 10,.tmp 11] Tryz.func16 O O (Jr fun hK1=>(JLh (.ptr 1026 0) (Je (cs:=(H0.cs s)) 1026 O O O O O) O (JLh (E1 ([]:List Int)) (Hb 1 O O) O (JLm (I64 0) O (G7 (hK1 ?_))))))
 refine Gx [(1,E3 boxes),(2,E2 l),(3,E1 open_),(4,I64 cover),(5,Eb s)] [] 1026 rfl rfl rfl G rfl (by repeat' (first | exact .ptr | constructor)) (Js fun hK2=>Gq ?_)
 refine Jr fun hK3=>(JLh (.agg (H0.cs s)) (Gh Hc O O O) O (JLm (E3 boxes) O (JLm (E2 l) O (JLm (E1 open_) O ?_))))
 obtain⟨r4,hr4,h⟩:=Gc h
 refine JLh (BL r4) (Gm O (Zx s boxes l open_ r4 hr4) G80 ⟨O,O,O,O,O,O,O,O,G⟩) O (JLh (BL (!r4)) (Q7 (b:=r4) O O) O (JLm (BL (!r4)) O (G7 (hK3 (JCc O h (fun h hb=>?_) (fun h hb=>?_))))))
 ·
  refine Jr fun hK5=>(JLh (E1 ([]:List Int)) (Hb 1 O O) O (JLm (I64 2) O (G7 (hK5 (Gn (⟨[E1 ([]:List Int),I64 2],[],G,O,⟨⟨_,O,.conv (.same O)⟩,⟨_,O,.conv (.same O)⟩,G⟩,O,congrArg (fun r:(List Int)×Int=>(.tup [E1 r.1,I64 r.2]:AV)) (Option.some.inj h)⟩))))))
 ·
  refine Jr fun hK6=>(JLm (I64 cover) O (JLh (BL (decide (cover < 0))) (Hz O O O) O (JLm (BL (decide (cover < 0))) O (JLo (I64 cover) [] O .scf G (fun hc=>G4 O O) O (JLo (.dptr [E4 s.Covers,I64 s.Light.Kilos,I64 s.Light.X,I64 s.Light.Y,I64 s.Light.Z,E7 s.Rows,E6 s.Frames,E8 s.Tanks,I64 s.G1.Tolerance,I64 s.G1.Trim,I64 s.G1.List_,I64 s.G1.Stability]) [] O .scf G (fun hc=>Ga J0 O O O) O (JLo (E4 s.Covers) [26] O .scf ⟨Ua,G⟩ (fun hc=>Gf J8 O O O) O (JLo (Eh s.Covers.length) [27] O .scf ⟨Ua,G⟩ (fun hc=>Qe (f:=G9.av) (xs:=s.Covers) He O O) O (JLo (BL (decide ((s.Covers.length:Int)≤cover))) [25,28] O .scf ⟨Ua,Ua,G⟩ (fun hc=>Zf O O O) O (JLh (BL ((decide (cover < 0))||(decide ((s.Covers.length:Int)≤cover)))) (Y4 O O O O) O (JLm (BL ((decide (cover < 0))||(decide ((s.Covers.length:Int)≤cover)))) O (G7 (hK6 ?_))))))))))))
  refine JCc O h ?_ ?_<;>intro h hb
  ·
   refine Jr fun hK7=>(JLh (E1 ([]:List Int)) (Hb 1 O O) O (JLm (I64 6) O (G7 (hK7 (Gn (⟨[E1 ([]:List Int),I64 6],[],G,O,⟨⟨_,O,.conv (.same O)⟩,⟨_,O,.conv (.same O)⟩,G⟩,O,congrArg (fun r:(List Int)×Int=>(.tup [E1 r.1,I64 r.2]:AV)) (Option.some.inj h)⟩))))))
  ·
   refine Jr fun hK8=>(JLh (.agg (H0.cs s)) (Gh Hc O O O) O (JLm (E2 l) O (JLm (I64 cover) O ?_)))
   obtain⟨r9,hr9,h⟩:=Gc h
   refine JLh (E1 r9) (Gm O (H7e s l cover r9 hr9) J1d ⟨O,O,O,O,O,O,G⟩) O (JLl Gs O O O fun hm36=>(JLh (BL (decide (0 < (r9.length:Int)))) (G30 O O O) O (JLm (BL (decide (0 < (r9.length:Int)))) O (G7 (hK8 (JCc O h (fun h hb=>?_) (fun h hb=>?_)))))))
   ·
    refine Jr fun hK10=>(JLh (E1 ([]:List Int)) (Hb 1 O O) O (JLm (I64 95) O (G7 (hK10 (Gn (⟨[E1 ([]:List Int),I64 95],[],G,O,⟨⟨_,O,.conv (.same O)⟩,⟨_,O,.conv (.same O)⟩,G⟩,O,congrArg (fun r:(List Int)×Int=>(.tup [E1 r.1,I64 r.2]:AV)) (Option.some.inj h)⟩))))))
   ·
    refine Gk (hK2 (Jr fun hK11=>(JLm (E1 open_) O (JLm (I64 cover) O ?_))))
    obtain⟨r12,hr12,h⟩:=Gc h
    refine JLh (.tup [I64 r12.1,BL r12.2]) (Gm O (G00 F open_ cover r12 hr12) Ha3 ⟨O,O,O,O,G⟩) O (JLm (.tup [I64 r12.1,BL r12.2]) O (JLh (I64 r12.1) (Hk O O O) O (JLh (BL r12.2) (Hk O O O) O (JLm (I64 r12.1) O (JLm (BL r12.2) O (G7 (hK11 (Js fun hK13=>Jr fun hK14=>(JLm (BL r12.2) O (G7 (hK14 (JCc O h (fun h hb=>?_) (fun h hb=>?_)))))))))))))
    ·
     refine Jr fun hK15=>(JLm (E1 open_) O ?_)
     obtain⟨r16,hr16,h⟩:=Gc h
     refine JLh (E1 r16) (Gm O (H06 open_ r16 hr16) Ha2 ⟨O,O,G⟩) O (JLm (E1 r16) O (JLm (I64 0) O (G7 (hK15 (Gn (⟨[E1 r16,I64 0],[],G,O,⟨⟨_,O,.conv (.same O)⟩,⟨_,O,.conv (.same O)⟩,G⟩,O,congrArg (fun r:(List Int)×Int=>(.tup [E1 r.1,I64 r.2]:AV)) (Option.some.inj h)⟩))))))
    ·
     refine Gk (hK13 (Jr fun hK17=>(JLm (E1 open_) O (JLm (I64 r12.1) O (JLm (I64 cover) O ?_)))))
     obtain⟨r18,hr18,h⟩:=Gc h
     refine JLh (E1 r18) (Gm O (J54.down open_ r12.1 cover r18 hr18) Jcf ⟨O,O,O,O,O,O,G⟩) O (JLm (E1 r18) O (JLm (I64 0) O (G7 (hK17 (Gn (⟨[E1 r18,I64 0],[],G,O,⟨⟨_,O,.conv (.same O)⟩,⟨_,O,.conv (.same O)⟩,G⟩,O,congrArg (fun r:(List Int)×Int=>(.tup [E1 r.1,I64 r.2]:AV)) (Option.some.inj h)⟩))))))

def G1c (F:Nat) (s:H0) (boxes:List Box) (l:List Stowed) (open_:List Int) (cover:Int):Option ((List Int)×Int):=
 bnd (Qa s boxes l open_) fun r4=>
 bif (!r4) then
 (some ([],2))
 else
 (bif ((decide (cover < 0))||(decide ((s.Covers.length:Int)≤cover))) then
  (some ([],6))
  else
  (bnd (Rj F open_ cover) fun r9=>
   bif (!r9.2) then
   (bnd (Qg open_) fun r13=>
    some (r13,0))
   else
   (bnd (G14 open_ r9.1) fun r15=>
    some (r15,0))))
abbrev Ev (p:Hm):List AV:=[E2 p.l,E1 p.open_,I64 p.x.Box,I64 p.x.Slot.G3,I64 p.x.Slot.Tier,U8 p.x.Slot.Half]
theorem H95 (F:Nat) (p:Hm) (r:(List Stowed)) (h:R3 F p=some r):Qb Ei 49 [.agg (Hm.cs p)] [] (fun av L'=>∃ p:Nat,av=.vec 1114 p 4 r.length∧L'=[(1114,.vec 39 4 p (r.map Stowed.av))]):=by
 unfold R3 at h
 refine Qz [] [.tmp 2] Tryz.func49 O O (Ga6 O) (Jr fun hK1=>(JLh (.ptr 1067 0) (Je (cs:=(Hm.cs p)) 1067 O O O O O) O (JLh (E2 ([]:List Stowed)) (Hb 4 O O) O (G7 (hK1 ?_)))))
 refine Gx [(1,Ef p)] [] 1067 rfl rfl rfl G rfl (by exact⟨.ptr,G⟩) (Jr fun hK2=>(JLm (I64 0) O (G7 (hK2 (Js fun hK3=>Gq ?_)))))
 obtain⟨b10,hb10,h⟩:=Q7f h
 refine Hd (fun i10 (s10:Int)=>loop b10 i10 s10=some r) (fun i10 s10=>[(1,Ef p),(3,I64 s10)]) (fun i10 s10=>[]) (fun i10=>i10) F 0 h ⟨(.sm O O),G,O⟩ ?_
 clear h
 intro i10 s10 hi10 K10 e10
 obtain⟨m10,nx10,hm_10,hn10,h⟩:=Jf9 hi10
 replace h:=Y34 hb10 h
 refine Js fun hK11=>Js fun hK12=>?_
 obtain⟨y13,hy13,h⟩:=Gc h
 refine JC_d0 J6 (by kernel_rfl) (Dq (I64 s10) (G4 O O) O (Dq (.dptr (Ev p)) (Ga G39 O O O) O (Dq (E2 p.l) (Gf Y3 O O O) O (Dq (Eh p.l.length) (Qe (f:=Stowed.av) (xs:=p.l) Gt O O) O (Dq (BL (decide (s10 < (p.l.length:Int)))) (Hz O O O) O (Dq (BL (decide (s10 < (p.l.length:Int)))) (G4 O O) O (Do (.dptr (Ev p)) [] O .sct G (fun hc=>Ga G39 O O O) O (Do (E2 p.l) [10] O .sct ⟨Ua,G⟩ (fun hc=>Gf Y3 O O O) O (Do (I64 s10) [] O .sct G (fun hc=>G4 O O) O (Do (Ec y13) [11,12] O .sct ⟨Ua,Ua,G⟩ (fun hc=>(match Jx (Gu hc hy13) with | ⟨_,hm_,hy_⟩=>Gw (f:=Stowed.av) (xs:=p.l) (y:=y13) O O O Gt hy_ hm_)) O (Do (Ec y13) [13] O .sct ⟨Ua,G⟩ (fun hc=>Ga Jc O O O) O (Do (I64 y13.Box) [14] O .sct ⟨Ua,G⟩ (fun hc=>Gf Gd O O O) O (Do (Ec p.x) [] O .sct G (fun hc=>Ga G38 O O O) O ?_)))))))))))))
 refine Do (Ec p.x) [16] O .sct ⟨Ua,G⟩ (fun hc=>Ga Jc O O O) O (Do (I64 p.x.Box) [17] O .sct ⟨Ua,G⟩ (fun hc=>Gf Gd O O O) O (Do (BL (decide (y13.Box < p.x.Box))) [15,18] O .sct ⟨Ua,Ua,G⟩ (fun hc=>Hz O O O) O (Dq (BL ((decide (s10 < (p.l.length:Int)))&&(decide (y13.Box < p.x.Box)))) (Hy O O O O) O (Dnil (hK12 (JCc O h (fun h hb=>?_) (fun h hb=>?_)))))))
 ·
  refine Gk (hK11 (Gq (G2 (JLm (I64 s10) O ?_))))
  obtain⟨v14,hv14,h⟩:=Q2 h
  refine JLh (I64 v14) (Hs hv14 O O O) O (JLm (I64 v14) O (G7 (e10 _ _ m10 v14 (app1 hn10 h) (by omega) ⟨(.sm O O),G,rfl⟩)))
 ·
  refine Hn (hK3 (Jr fun hK15=>(JLh (.dptr (Ev p)) (Ga G39 O O O) O (JLh (E2 p.l) (Gf Y3 O O O) O (JLm (I64 s10) O (JLh (Ec p.x) (Ga G38 O O O) O (JLh (.agg (Stowed.cs p.x)) (Gh R6 O O O) O ?_)))))))
  obtain⟨r16,hr16,h⟩:=Gc h
  refine G48 O O O (Ge2 (args:=[E2 p.l,I64 s10,.agg (Stowed.cs p.x)]) (L0:=[]) (u:=fun p=>.vec 1114 p 4 r16.length) (Lr:=fun p=>[(1114,.vec 39 4 p (r16.map Stowed.av))]) O (H90.down p.l s10 p.x r16 hr16) J82 ⟨.inl O,O,.inl O,O,.inl O,O,G⟩ G O (fun _=>O)) ?_
  rintro u_ L_ ⟨v17,rfl,rfl⟩
  refine JLm (.vec 1114 v17 4 r16.length) O (G7 (hK15 (Zg 2 O O (fun hn_=>Gn ?_))))
  obtain rfl:=Option.some.inj h
  exact⟨[.vec 1114 v17 4 r16.length],[(1114,.vec 39 4 v17 (r16.map Stowed.av))],⟨⟨_,O,.vec⟩,G⟩,O,⟨⟨_,O,.conv (.same O)⟩,G⟩,v17,congrArg (fun n_:Nat=>(.vec 1114 v17 4 n_:AV)) (hn_.trans (List.length_map _)),O⟩


theorem Q33 (s:H0) (boxes:List Box) (l:List Stowed) (open_:List Int) (id_:Int) (r:(List Stowed)×Int) (h:G64 s boxes l open_ id_=some r):Qb Ei 10 [.agg (H0.cs s),E3 boxes,E2 l,E1 open_,I64 id_] [] (fun av L'=>∃ p:Nat,av=.tup [.vec 1114 p 4 r.1.length,I64 r.2]∧L'=[(1114,.vec 39 4 p (r.1.map Stowed.av))]):=by
 unfold G64 at h
 refine Qz [] [.tmp 10,.tmp 11] Tryz.func10 O O (Ga6 O) (Jr fun hK1=>(JLh (.ptr 1013 0) (Je (cs:=(H0.cs s)) 1013 O O O O O) O (JLh (E2 ([]:List Stowed)) (Hb 4 O O) O (JLm (I64 0) O (G7 (hK1 ?_))))))
 refine Gx [(1,E3 boxes),(2,E2 l),(3,E1 open_),(4,I64 id_),(5,Eb s)] [] 1013 rfl rfl rfl G rfl (by repeat' (first | exact .ptr | constructor)) (Js fun hK2=>?_)
 refine Jr fun hK3=>(JLh (.agg (H0.cs s)) (Gh Hc O O O) O (JLm (E3 boxes) O (JLm (E2 l) O (JLm (E1 open_) O (JLm (I64 id_) O ?_)))))
 obtain⟨r4,hr4,h⟩:=Gc h
 refine JLh (I64 r4) (Gm O (G75 s boxes l open_ id_ r4 hr4) Gec ⟨O,O,O,O,O,O,O,O,O,O,G⟩) O (JLm (I64 r4) O (G7 (hK3 (Jr fun hK5=>(JLm (I64 r4) O (JLh (BL (decide (r4≠0))) (G0e O O O) O (G7 (hK5 (JCc O h (fun h hb=>?_) (fun h hb=>?_))))))))))
 ·
  refine Jr fun hK6=>(JLm (I64 r4) O (JLh (.vec 1114 (([]:List Stowed).length) 4 (([]:List Stowed).length)) (G8f 1114 39 4 O O O) O (JLm (I64 r4) O (G7 (hK6 (Zg 10 O O (fun hn_=>Gn ?_)))))))
  obtain rfl:=Option.some.inj h
  exact⟨[.vec 1114 (([]:List Stowed).length) 4 (([]:List Stowed).length),I64 r4],[(1114,.vec 39 4 (([]:List Stowed).length) (([]:List Stowed).map Stowed.av))],⟨⟨_,O,.vec⟩,G⟩,O,⟨⟨_,O,.conv (.same O)⟩,⟨_,O,.conv (.same O)⟩,G⟩,(([]:List Stowed).length),congrArg (fun n_:Nat=>(.tup [.vec 1114 (([]:List Stowed).length) 4 n_,I64 r4]:AV)) (hn_.trans O),O⟩
 ·
  refine Gk (hK2 (Jr fun hK7=>(JLm (E2 l) O (JLm (E2 l) O (JLm (I64 id_) O ?_)))))
  obtain⟨r8,hr8,h⟩:=Gc h
  refine JLh (I64 r8) (Gm O (G3d l id_ r8 hr8) G81 ⟨O,O,O,O,G⟩) O ?_
  obtain⟨r9,hr9,h⟩:=Gc h
  refine G48 O O O (Ge2 (args:=[E2 l,I64 r8]) (L0:=[]) (u:=fun p=>.vec 1114 p 4 r9.length) (Lr:=fun p=>[(1114,.vec 39 4 p (r9.map Stowed.av))]) O (H3d.down l r8 r9 hr9) Jdb ⟨.inl O,O,.inl O,O,G⟩ G O (fun _=>O)) ?_
  rintro u_ L_ ⟨v10,rfl,rfl⟩
  refine JLm (.vec 1114 v10 4 r9.length) O (JLm (I64 0) O (G7 (hK7 (Zg 10 O O (fun hn_=>Gn ?_)))))
  obtain rfl:=Option.some.inj h
  exact⟨[.vec 1114 v10 4 r9.length,I64 0],[(1114,.vec 39 4 v10 (r9.map Stowed.av))],⟨⟨_,O,.vec⟩,G⟩,O,⟨⟨_,O,.conv (.same O)⟩,⟨_,O,.conv (.same O)⟩,G⟩,v10,congrArg (fun n_:Nat=>(.tup [.vec 1114 v10 4 n_,I64 0]:AV)) (hn_.trans (List.length_map _)),O⟩


abbrev Ew (s:H0) (boxes:List Box) (l:List Stowed) (open_:List Int) (x:Stowed):List AV:=[E5 s.Columns,E4 s.Covers,I64 s.Light.Kilos,I64 s.Light.X,I64 s.Light.Y,I64 s.Light.Z,E7 s.Rows,E6 s.Frames,E8 s.Tanks,I64 s.G1.Tolerance,I64 s.G1.Trim,I64 s.G1.List_,I64 s.G1.Stability,E3 boxes,E2 l,E1 open_,I64 x.Box,I64 x.Slot.G3,I64 x.Slot.Tier,U8 x.Slot.Half]
abbrev Ex (s:H0) (boxes:List Box) (l:List Stowed) (open_:List Int) (x:Stowed):List AV:=[.agg (Ew s boxes l open_ x)]
theorem Q8a (F:Nat) (s:H0) (boxes:List Box) (l:List Stowed) (open_:List Int) (x:Stowed) (r:(List Stowed)×Int) (h:G0b F s boxes l open_ x=some r):Qb Ei 12 [.agg (H0.cs s),E3 boxes,E2 l,E1 open_,.agg (Stowed.cs x)] [] (fun av L'=>∃ p:Nat,av=.tup [.vec 1114 p 4 r.1.length,I64 r.2]∧L'=[(1114,.vec 39 4 p (r.1.map Stowed.av))]):=by
 unfold G0b at h
 refine Qz [] [.tmp 10,.tmp 11] Tryz.func12 O O (Ga6 O) (Jr fun hK1=>(JLh (.ptr 1016 0) (Je (cs:=(H0.cs s)) 1016 O O O O O) O (JLh (.ptr 1017 0) (Je (cs:=[I64 x.Box,I64 x.Slot.G3,I64 x.Slot.Tier,U8 x.Slot.Half]) 1017 O O O O O) O (JLh (E2 ([]:List Stowed)) (Hb 4 O O) O (JLm (I64 0) O (G7 (hK1 ?_)))))))
 refine Gx [(1,E3 boxes),(2,E2 l),(3,E1 open_),(5,Eb s),(9,.ptr 1017 0)] [(1017,.box 39 [I64 x.Box,I64 x.Slot.G3,I64 x.Slot.Tier,U8 x.Slot.Half])] 1016 rfl rfl rfl ⟨⟨_,rfl,.boxEq rfl rfl⟩,G⟩ rfl (by repeat' (first | exact .ptr | constructor)) ?_
 refine Gx [(1,E3 boxes),(2,E2 l),(3,E1 open_),(5,Eb s),(9,Ec x)] [] 1017 rfl rfl rfl G rfl (by repeat' (first | exact .ptr | constructor)) (Js fun hK2=>?_)
 refine Jr fun hK3=>(JLh (.agg (H0.cs s)) (Gh Hc O O O) O (JLm (E3 boxes) O (JLm (E2 l) O (JLm (E1 open_) O ?_))))
 obtain⟨r4,hr4,h⟩:=Gc h
 refine JLh (BL r4) (Gm O (Zx s boxes l open_ r4 hr4) G80 ⟨O,O,O,O,O,O,O,O,G⟩) O (JLh (BL (!r4)) (Q7 (b:=r4) O O) O (G7 (hK3 (JCc O h (fun h hb=>?_) (fun h hb=>?_)))))
 ·
  refine Jr fun hK5=>(JLh (.vec 1114 (([]:List Stowed).length) 4 (([]:List Stowed).length)) (G8f 1114 39 4 O O O) O (JLm (I64 2) O (G7 (hK5 (Zg 10 O O (fun hn_=>Gn ?_))))))
  obtain rfl:=Option.some.inj h
  exact⟨[.vec 1114 (([]:List Stowed).length) 4 (([]:List Stowed).length),I64 2],[(1114,.vec 39 4 (([]:List Stowed).length) (([]:List Stowed).map Stowed.av))],⟨⟨_,O,.vec⟩,G⟩,O,⟨⟨_,O,.conv (.same O)⟩,⟨_,O,.conv (.same O)⟩,G⟩,(([]:List Stowed).length),congrArg (fun n_:Nat=>(.tup [.vec 1114 (([]:List Stowed).length) 4 n_,I64 2]:AV)) (hn_.trans O),O⟩
 ·
  refine Gk (hK2 (Jr fun hK6=>(JLm (E3 boxes) O (JLh (Ec x) (Ga Jc O O O) O (JLh (I64 x.Box) (Gf Gd O O O) O ?_)))))
  obtain⟨r7,hr7,h⟩:=Gc h
  refine JLh (.tup [.agg (Box.cs r7.1),BL r7.2]) (Gm O (Gfb boxes x.Box r7 hr7) Ha5 ⟨O,O,O,O,G⟩) O (JLm (.tup [.agg (Box.cs r7.1),BL r7.2]) O (JLh (.agg (Box.cs r7.1)) (Hk O O O) O (JLh (BL r7.2) (Hk O O O) O (JLh (.ptr 1018 0) (Qo 1018 9 G4e O O) O (Jo (u:=.junk) (Jh (u:=.agg (Box.cs r7.1)) (ds:=(Box.cs r7.1)) G29 O O O O O O O O) (JLm (BL r7.2) O (G7 (hK6 ?_))))))))
  refine Gx [(1,E3 boxes),(2,E2 l),(3,E1 open_),(5,Eb s),(9,Ec x),(12,Ee r7.1),(13,BL r7.2)] [] 1018 rfl rfl rfl G rfl (by repeat' (first | exact .ptr | constructor)) (Js fun hK8=>Gq ?_)
  refine Jr fun hK9=>(JLm (BL r7.2) O (JLh (BL (!r7.2)) (Q7 (b:=r7.2) O O) O (JLm (BL (!r7.2)) O (JLo (.dptr ((Box.cs r7.1).drop 2)) [] O .scf G (fun hc=>Ga Z8 O O O) O (JLo (U8 r7.1.Size) [34] O .scf ⟨Ua,G⟩ (fun hc=>Gf J9 O O O) O (JLo (BL (decide (r7.1.Size≠20))) [35] O .scf ⟨Ua,G⟩ (fun hc=>G0e O O O) O (JLo (BL (decide (r7.1.Size≠20))) [36] O .scf ⟨Ua,G⟩ (fun hc=>G4 O O) O (JLo (.dptr ((Box.cs r7.1).drop 2)) [] O .optt G (fun hc=>Ga Z8 O O O) O (JLo (U8 r7.1.Size) [38] O .optt ⟨Ua,G⟩ (fun hc=>Gf J9 O O O) O (JLo (BL (decide (r7.1.Size≠40))) [39] O .optt ⟨Ua,G⟩ (fun hc=>G0e O O O) O (G8 (u:=BL ((decide (r7.1.Size≠20))&&(decide (r7.1.Size≠40)))) [(37,BL (decide (r7.1.Size≠20))),(40,_)] O O O .scf ⟨.all id,.part,G⟩ (fun hc=>Hy O O O O) ?_)))))))))))
  refine JLh (BL ((!r7.2)||((decide (r7.1.Size≠20))&&(decide (r7.1.Size≠40))))) (Y4 O O O O) O (JLm (BL ((!r7.2)||((decide (r7.1.Size≠20))&&(decide (r7.1.Size≠40))))) O (G7 (hK9 (JCc O h (fun h hb=>?_) (fun h hb=>?_)))))
  ·
   refine Jr fun hK10=>(JLh (.vec 1114 (([]:List Stowed).length) 4 (([]:List Stowed).length)) (G8f 1114 39 4 O O O) O (JLm (I64 6) O (G7 (hK10 (Zg 10 O O (fun hn_=>Gn ?_))))))
   obtain rfl:=Option.some.inj h
   exact⟨[.vec 1114 (([]:List Stowed).length) 4 (([]:List Stowed).length),I64 6],[(1114,.vec 39 4 (([]:List Stowed).length) (([]:List Stowed).map Stowed.av))],⟨⟨_,O,.vec⟩,G⟩,O,⟨⟨_,O,.conv (.same O)⟩,⟨_,O,.conv (.same O)⟩,G⟩,(([]:List Stowed).length),congrArg (fun n_:Nat=>(.tup [.vec 1114 (([]:List Stowed).length) 4 n_,I64 6]:AV)) (hn_.trans O),O⟩
  ·
   refine Jr fun hK11=>(JLm (E2 l) O (JLh (Ec x) (Ga Jc O O O) O (JLh (I64 x.Box) (Gf Gd O O O) O ?_)))
   obtain⟨r12,hr12,h⟩:=Gc h
   refine JLh (I64 r12) (Gm O (G3d l x.Box r12 hr12) G81 ⟨O,O,O,O,G⟩) O (JLh (BL (decide (0≤r12))) (Zf O O O) O (JLm (BL (decide (0≤r12))) O (G7 (hK11 (JCc O h (fun h hb=>?_) (fun h hb=>?_))))))
   ·
    refine Jr fun hK13=>(JLh (.vec 1114 (([]:List Stowed).length) 4 (([]:List Stowed).length)) (G8f 1114 39 4 O O O) O (JLm (I64 96) O (G7 (hK13 (Zg 10 O O (fun hn_=>Gn ?_))))))
    obtain rfl:=Option.some.inj h
    exact⟨[.vec 1114 (([]:List Stowed).length) 4 (([]:List Stowed).length),I64 96],[(1114,.vec 39 4 (([]:List Stowed).length) (([]:List Stowed).map Stowed.av))],⟨⟨_,O,.vec⟩,G⟩,O,⟨⟨_,O,.conv (.same O)⟩,⟨_,O,.conv (.same O)⟩,G⟩,(([]:List Stowed).length),congrArg (fun n_:Nat=>(.tup [.vec 1114 (([]:List Stowed).length) 4 n_,I64 96]:AV)) (hn_.trans O),O⟩
   ·
    refine Jr fun hK14=>(JLh (.agg (H0.cs s)) (Gh Hc O O O) O (JLh (.dptr ((Stowed.cs x).drop 1)) (Ga Ho O O O) O (JLh (.agg ((Stowed.cs x).drop 1)) (Gh Q4 O O O) O (JLh (.dptr ((Box.cs r7.1).drop 2)) (Ga Z8 O O O) O (JLh (U8 r7.1.Size) (Gf J9 O O O) O ?_)))))
    obtain⟨r15,hr15,h⟩:=Gc h
    refine JLh (BL r15) (Gm O (H48 s x.Slot r7.1.Size r15 hr15) J23 ⟨O,O,O,O,O,O,G⟩) O (JLh (BL (!r15)) (Q7 (b:=r15) O O) O (JLm (BL (!r15)) O (G7 (hK14 (JCc O h (fun h hb=>?_) (fun h hb=>?_))))))
    ·
     refine Jr fun hK16=>(JLh (.vec 1114 (([]:List Stowed).length) 4 (([]:List Stowed).length)) (G8f 1114 39 4 O O O) O (JLm (I64 97) O (G7 (hK16 (Zg 10 O O (fun hn_=>Gn ?_))))))
     obtain rfl:=Option.some.inj h
     exact⟨[.vec 1114 (([]:List Stowed).length) 4 (([]:List Stowed).length),I64 97],[(1114,.vec 39 4 (([]:List Stowed).length) (([]:List Stowed).map Stowed.av))],⟨⟨_,O,.vec⟩,G⟩,O,⟨⟨_,O,.conv (.same O)⟩,⟨_,O,.conv (.same O)⟩,G⟩,(([]:List Stowed).length),congrArg (fun n_:Nat=>(.tup [.vec 1114 (([]:List Stowed).length) 4 n_,I64 97]:AV)) (hn_.trans O),O⟩
    ·
     refine Gk (hK8 ?_)
     refine Jr fun hK17=>(JLh (.agg (H0.cs s)) (Gh Hc O O O) O (JLm (E3 boxes) O (JLm (E2 l) O (JLm (E1 open_) O (JLh (.agg (Stowed.cs x)) (Gh R6 O O O) O (JLh (.agg (Ew s boxes l open_ x)) (Jp (cs:=(Ew s boxes l open_ x)) [(0,13),(13,1),(14,1),(15,1),(16,4)] [E5 ([]:List G3),E4 ([]:List G9),I64 0,I64 0,I64 0,I64 0,E7 ([]:List Row),E6 ([]:List Frame),E8 ([]:List Gg),I64 0,I64 0,I64 0,I64 0,E3 ([]:List Box),E2 ([]:List Stowed),E1 ([]:List Int),I64 0,I64 0,I64 0,U8 0] [.slice none 0 0,.slice none 0 0,E0,E0,E0,E0,.slice none 0 0,.slice none 0 0,.slice none 0 0,E0,E0,E0,E0,.slice none 0 0,.slice none 0 0,.slice none 0 0,E0,E0,E0,.int .u8 0] J38 Jbd ⟨.inr ⟨_,O,O⟩,.inr ⟨_,O,O⟩,.inl O,.inl O,.inl O,.inl O,.inr ⟨_,O,O⟩,.inr ⟨_,O,O⟩,.inr ⟨_,O,O⟩,.inl O,.inl O,.inl O,.inl O,.inr ⟨_,O,O⟩,.inr ⟨_,O,O⟩,.inr ⟨_,O,O⟩,.inl O,.inl O,.inl O,.inl O,G⟩ O O) O (JLh (.ptr 1019 0) (Qo 1019 20 J74 O O) O (Jo (u:=.junk) (Jh (u:=.agg (Ew s boxes l open_ x)) (ds:=(Ew s boxes l open_ x)) Jbf O O O O O O O O) (G7 (hK17 ?_))))))))))
     refine Gx [(14,.dptr (Ew s boxes l open_ x))] [] 1019 rfl rfl rfl G rfl (by exact⟨.ptr,G⟩) (Js fun hK18=>?_)
     refine Jr fun hK19=>(JLh (.agg (Ew s boxes l open_ x)) (Gh G5d O O O) O (JLh (.bfn 45 (Ex s boxes l open_ x)) (G65 (cs:=(Ex s boxes l open_ x)) O O) O (JLh (.agg (Ew s boxes l open_ x)) (Gh G5d O O O) O (JLh (.bfn 46 (Ex s boxes l open_ x)) (G65 (cs:=(Ex s boxes l open_ x)) O O) O (JLh (.agg (Ew s boxes l open_ x)) (Gh G5d O O O) O (JLh (.bfn 47 (Ex s boxes l open_ x)) (G65 (cs:=(Ex s boxes l open_ x)) O O) O (JLh (.agg (Ew s boxes l open_ x)) (Gh G5d O O O) O (JLh (.bfn 48 (Ex s boxes l open_ x)) (G65 (cs:=(Ex s boxes l open_ x)) O O) O (JLh (.agg [.bfn 45 (Ex s boxes l open_ x),.bfn 46 (Ex s boxes l open_ x),.bfn 47 (Ex s boxes l open_ x),.bfn 48 (Ex s boxes l open_ x)]) (Hc0 (cs:=[.bfn 45 (Ex s boxes l open_ x),.bfn 46 (Ex s boxes l open_ x),.bfn 47 (Ex s boxes l open_ x),.bfn 48 (Ex s boxes l open_ x)]) [.nilFunc,.nilFunc,.nilFunc,.nilFunc] Q41 Jbc O O) O (JLm (I64 0) O (G7 (hK19 ?_))))))))))))
     refine Gq ?_
     obtain⟨hx60,h⟩:=Hr h
     obtain⟨b60,kx60,hb60,hkx60,h⟩:=G4d h
     refine Hd (fun i60 (s60:Unit)=>upto b60 kx60 ((4:Int).toNat - i60) i60 s60=some r) (fun i60 s60=>[(14,.dptr (Ew s boxes l open_ x)),(71,.agg [.bfn 45 (Ex s boxes l open_ x),.bfn 46 (Ex s boxes l open_ x),.bfn 47 (Ex s boxes l open_ x),.bfn 48 (Ex s boxes l open_ x)]),(72,Eh i60)]) (fun i60 s60=>[]) (fun i60=>(4:Int).toNat - i60) 0 () h ⟨(.sm O O),G,O⟩ ?_
     clear h
     intro i60 s60 hi60 K60 e60
     refine Jr fun hK61=>(JLh (BL (decide ((i60:Int) < 4))) (Hz O O O) O (G7 (hK61 (Js fun hK62=>Gi O (fun hb=>?_) (fun hb=>?_)))))
     ·
      have hk60:=G21 hb
      obtain⟨nx60,hn60,h⟩:=G1e hi60 hk60
      replace h:=Hba hb60 h
      refine Gk (hK62 ?_)
      obtain⟨kj63,hkj63,h⟩:=G84 h
      refine G57 (fun j63:Unit=>kj63 j63=some r) (fun j63=>[(14,.dptr (Ew s boxes l open_ x)),(71,.agg [.bfn 45 (Ex s boxes l open_ x),.bfn 46 (Ex s boxes l open_ x),.bfn 47 (Ex s boxes l open_ x),.bfn 48 (Ex s boxes l open_ x)]),(72,Eh i60)]) (fun j63=>[]) (fun Kj63 ej63=>?_) ?_
      ·
       refine Gq (Jr fun hK64=>(JLm (Eh i60) O ((Decidable.em ((i60:Int)=0)).elim (fun hq65_0=>?_) (fun hq65_0=>?_))))
       ·
        replace h:=Gu (decide_eq_true hq65_0) h
        refine JLh (.bfn 45 (Ex s boxes l open_ x)) (Gce (j:=0) Gbe O O O hq65_0 O O) O (JLm (Eh i60) O (JLm (.bfn 45 (Ex s boxes l open_ x)) O (G7 (hK64 ?_))))
        refine Jr fun hK66=>(JLm (.bfn 45 (Ex s boxes l open_ x)) O ?_)
        obtain⟨r67,hr67,h⟩:=Gc h
        refine JLh (BL r67) (Gcf (args:=[]) (firsts:=(Ex s boxes l open_ x)) O O (Ge8 (Hm.mk s boxes l open_ x) r67 hr67) Jda G O) O (G7 (hK66 (JCc O h (fun h hb=>?_) (fun h hb=>?_))))
        ·
         refine Jr fun hK68=>(JLm (Eh i60) O ?_)
         obtain⟨v69,hv69,h⟩:=Q2 h
         refine JLh (I64 v69) (Hs hv69 O O O) O (JLh (.vec 1114 (([]:List Stowed).length) 4 (([]:List Stowed).length)) (G8f 1114 39 4 O O O) O (JLm (I64 v69) O (G7 (hK68 (Zg 10 O O (fun hn_=>Gn ?_))))))
         obtain rfl:=Option.some.inj h
         exact⟨[.vec 1114 (([]:List Stowed).length) 4 (([]:List Stowed).length),I64 v69],[(1114,.vec 39 4 (([]:List Stowed).length) (([]:List Stowed).map Stowed.av))],⟨⟨_,O,.vec⟩,G⟩,O,⟨⟨_,O,.conv (.same O)⟩,⟨_,O,.conv (.same O)⟩,G⟩,(([]:List Stowed).length),congrArg (fun n_:Nat=>(.tup [.vec 1114 (([]:List Stowed).length) 4 n_,I64 v69]:AV)) (hn_.trans O),O⟩
        ·
         refine Gk (ej63 _ _ () h ⟨(.sm O O),G,O⟩)
       ·
        replace h:=H8 (decide_eq_false hq65_0) h
        refine(Decidable.em ((i60:Int)=1)).elim (fun hq65_1=>?_) (fun hq65_1=>?_)
        ·
         replace h:=Gu (decide_eq_true hq65_1) h
         refine JLh (.bfn 46 (Ex s boxes l open_ x)) (Gce (j:=1) Gbe O O O hq65_1 O O) O (JLm (Eh i60) O (JLm (.bfn 46 (Ex s boxes l open_ x)) O (G7 (hK64 ?_))))
         refine Jr fun hK70=>(JLm (.bfn 46 (Ex s boxes l open_ x)) O ?_)
         obtain⟨r71,hr71,h⟩:=Gc h
         refine JLh (BL r71) (Gcf (args:=[]) (firsts:=(Ex s boxes l open_ x)) O O (H03 (Hm.mk s boxes l open_ x) r71 hr71) Jd9 G O) O (G7 (hK70 (JCc O h (fun h hb=>?_) (fun h hb=>?_))))
         ·
          refine Jr fun hK72=>(JLm (Eh i60) O ?_)
          obtain⟨v73,hv73,h⟩:=Q2 h
          refine JLh (I64 v73) (Hs hv73 O O O) O (JLh (.vec 1114 (([]:List Stowed).length) 4 (([]:List Stowed).length)) (G8f 1114 39 4 O O O) O (JLm (I64 v73) O (G7 (hK72 (Zg 10 O O (fun hn_=>Gn ?_))))))
          obtain rfl:=Option.some.inj h
          exact⟨[.vec 1114 (([]:List Stowed).length) 4 (([]:List Stowed).length),I64 v73],[(1114,.vec 39 4 (([]:List Stowed).length) (([]:List Stowed).map Stowed.av))],⟨⟨_,O,.vec⟩,G⟩,O,⟨⟨_,O,.conv (.same O)⟩,⟨_,O,.conv (.same O)⟩,G⟩,(([]:List Stowed).length),congrArg (fun n_:Nat=>(.tup [.vec 1114 (([]:List Stowed).length) 4 n_,I64 v73]:AV)) (hn_.trans O),O⟩
         ·
          refine Gk (ej63 _ _ () h ⟨(.sm O O),G,O⟩)
        ·
         replace h:=H8 (decide_eq_false hq65_1) h
         refine(Decidable.em ((i60:Int)=2)).elim (fun hq65_2=>?_) (fun hq65_2=>?_)
         ·
          replace h:=Gu (decide_eq_true hq65_2) h
          refine JLh (.bfn 47 (Ex s boxes l open_ x)) (Gce (j:=2) Gbe O O O hq65_2 O O) O (JLm (Eh i60) O (JLm (.bfn 47 (Ex s boxes l open_ x)) O (G7 (hK64 ?_))))
          refine Jr fun hK74=>(JLm (.bfn 47 (Ex s boxes l open_ x)) O ?_)
          obtain⟨r75,hr75,h⟩:=Gc h
          refine JLh (BL r75) (Gcf (args:=[]) (firsts:=(Ex s boxes l open_ x)) O O (Gdc (Hm.mk s boxes l open_ x) r75 hr75) Jd8 G O) O (G7 (hK74 (JCc O h (fun h hb=>?_) (fun h hb=>?_))))
          ·
           refine Jr fun hK76=>(JLm (Eh i60) O ?_)
           obtain⟨v77,hv77,h⟩:=Q2 h
           refine JLh (I64 v77) (Hs hv77 O O O) O (JLh (.vec 1114 (([]:List Stowed).length) 4 (([]:List Stowed).length)) (G8f 1114 39 4 O O O) O (JLm (I64 v77) O (G7 (hK76 (Zg 10 O O (fun hn_=>Gn ?_))))))
           obtain rfl:=Option.some.inj h
           exact⟨[.vec 1114 (([]:List Stowed).length) 4 (([]:List Stowed).length),I64 v77],[(1114,.vec 39 4 (([]:List Stowed).length) (([]:List Stowed).map Stowed.av))],⟨⟨_,O,.vec⟩,G⟩,O,⟨⟨_,O,.conv (.same O)⟩,⟨_,O,.conv (.same O)⟩,G⟩,(([]:List Stowed).length),congrArg (fun n_:Nat=>(.tup [.vec 1114 (([]:List Stowed).length) 4 n_,I64 v77]:AV)) (hn_.trans O),O⟩
          ·
           refine Gk (ej63 _ _ () h ⟨(.sm O O),G,O⟩)
         ·
          replace h:=H8 (decide_eq_false hq65_2) h
          refine(Decidable.em ((i60:Int)=3)).elim (fun hq65_3=>?_) (fun hq65_3=>?_)
          ·
           replace h:=Gu (decide_eq_true hq65_3) h
           refine JLh (.bfn 48 (Ex s boxes l open_ x)) (Gce (j:=3) Gbe O O O hq65_3 O O) O (JLm (Eh i60) O (JLm (.bfn 48 (Ex s boxes l open_ x)) O (G7 (hK64 ?_))))
           refine Jr fun hK78=>(JLm (.bfn 48 (Ex s boxes l open_ x)) O ?_)
           obtain⟨r79,hr79,h⟩:=Gc h
           refine JLh (BL r79) (Gcf (args:=[]) (firsts:=(Ex s boxes l open_ x)) O O (Ge9 F (Hm.mk s boxes l open_ x) r79 hr79) Jd7 G O) O (G7 (hK78 (JCc O h (fun h hb=>?_) (fun h hb=>?_))))
           ·
            refine Jr fun hK80=>(JLm (Eh i60) O ?_)
            obtain⟨v81,hv81,h⟩:=Q2 h
            refine JLh (I64 v81) (Hs hv81 O O O) O (JLh (.vec 1114 (([]:List Stowed).length) 4 (([]:List Stowed).length)) (G8f 1114 39 4 O O O) O (JLm (I64 v81) O (G7 (hK80 (Zg 10 O O (fun hn_=>Gn ?_))))))
            obtain rfl:=Option.some.inj h
            exact⟨[.vec 1114 (([]:List Stowed).length) 4 (([]:List Stowed).length),I64 v81],[(1114,.vec 39 4 (([]:List Stowed).length) (([]:List Stowed).map Stowed.av))],⟨⟨_,O,.vec⟩,G⟩,O,⟨⟨_,O,.conv (.same O)⟩,⟨_,O,.conv (.same O)⟩,G⟩,(([]:List Stowed).length),congrArg (fun n_:Nat=>(.tup [.vec 1114 (([]:List Stowed).length) 4 n_,I64 v81]:AV)) (hn_.trans O),O⟩
           ·
            refine Gk (ej63 _ _ () h ⟨(.sm O O),G,O⟩)
          ·
           replace h:=H8 (decide_eq_false hq65_3) h
           cases h
      ·intro j63 h
       replace h:=app1 hkj63 h
       refine G2 (JLh (I64 ((i60+1:Nat):Int)) (Hs (Hf hk60 (Zj hx60)) O O O) O (JLm (I64 ((i60+1:Nat):Int)) O (G7 (e60 _ _ (i60+1) () (app1 hn60 h) (by omega) ⟨(.sm O O),G,rfl⟩))))
     ·
      have h:=app1 hkx60 (G1f hi60 (Qu hb))
      refine Hn (hK18 (Jr fun hK82=>(JLh (.agg (Ew s boxes l open_ x)) (Gh G5d O O O) O ?_)))
      obtain⟨r83,hr83,h⟩:=Gc h
      refine G48 O O O (Ge2 (args:=(Ex s boxes l open_ x)) (L0:=[]) (u:=fun p=>.vec 1114 p 4 r83.length) (Lr:=fun p=>[(1114,.vec 39 4 p (r83.map Stowed.av))]) O (H95 F (Hm.mk s boxes l open_ x) r83 hr83) J22 ⟨.inl O,O,G⟩ G O (fun _=>O)) ?_
      rintro u_ L_ ⟨v84,rfl,rfl⟩
      refine JLm (.vec 1114 v84 4 r83.length) O (JLm (I64 0) O (G7 (hK82 (Zg 10 O O (fun hn_=>Gn ?_)))))
      obtain rfl:=Option.some.inj h
      exact⟨[.vec 1114 v84 4 r83.length,I64 0],[(1114,.vec 39 4 v84 (r83.map Stowed.av))],⟨⟨_,O,.vec⟩,G⟩,O,⟨⟨_,O,.conv (.same O)⟩,⟨_,O,.conv (.same O)⟩,G⟩,v84,congrArg (fun n_:Nat=>(.tup [.vec 1114 v84 4 n_,I64 0]:AV)) (hn_.trans (List.length_map _)),O⟩
end
end Go.Proofs.YtecjdioomlhhiaaGreat
