/-
  SimPlays,as it is given: whatever the arguments,the law returns true,and the arguments read as they did. No condition.
-/
import Derived.Test.YtmfhaflabpnaoaaGreatRows
import Derived.Test.YtmfhaflabpnaoaaGreatEnds
import Derived.Test.YtmfhaflabpnaoaaGreatSimPl
import Derived.ChangeSame
import Derived.Carry
set_option maxRecDepth 100000
set_option linter.unusedVariables false
namespace Go.Proofs.YtmfhaflabpnaoaaGreat
open Go.RowKit Go.ChangeShapes Go.WideShapes Go.ChangeAt
namespace GSimPlays
noncomputable section
abbrev MX:Nat:=maxLen
theorem Hd4 {H:Type}:Hfe H MX (fun _=>True):=Hfe.all
theorem op3 {n:Nat} {us:List AV} (h:Rv Tryz.prog MX (n+1) 3 us):∃ x:Int,(fun z:Int=>(Lit.int .i64 z).wf=true) x∧us=[I64 x]:=Q75 h Tryz.underlying3
theorem op4 {n:Nat} {us:List AV} (h:Rv Tryz.prog MX (n+1) 4 us):∃ x:Bool,(fun _:Bool=>True) x∧us=[BL x]:=R5a h Tryz.underlying4
theorem Y57 {n:Nat} {us:List AV} (h:Rv Tryz.prog MX (n+2) 35 us):∃ xs:List Int,(fun xs:List Int=>(∀ x∈xs,(fun z:Int=>(Lit.int .i64 z).wf=true) x)∧xs.length≤MX) xs∧us=[(LS 1 I64) xs]:=
  G5c (ok:=(fun z:Int=>(Lit.int .i64 z).wf=true)) h Tryz.underlying35 (by kernel_rfl) (fun us h=>by
    obtain⟨x,hx,rfl⟩:=op3 h
    exact⟨x,hx,Q36 (by kernel_rfl)⟩)
structure G1.ok (x:G1):Prop where
  Bay:(fun z:Int=>(Lit.int .i64 z).wf=true) x.Bay
  Row:(fun z:Int=>(Lit.int .i64 z).wf=true) x.Row
  Deck:(fun _:Bool=>True) x.Deck
  Tiers:(fun z:Int=>(Lit.int .i64 z).wf=true) x.Tiers
  Height:(fun z:Int=>(Lit.int .i64 z).wf=true) x.Height
  Kilos20:(fun z:Int=>(Lit.int .i64 z).wf=true) x.Kilos20
  Kilos40:(fun z:Int=>(Lit.int .i64 z).wf=true) x.Kilos40
  Lash:(fun z:Int=>(Lit.int .i64 z).wf=true) x.Lash
  Plugs:(fun xs:List Int=>(∀ x∈xs,(fun z:Int=>(Lit.int .i64 z).wf=true) x)∧xs.length≤MX) x.Plugs
  X:(fun z:Int=>(Lit.int .i64 z).wf=true) x.X
  Y:(fun z:Int=>(Lit.int .i64 z).wf=true) x.Y
  Z:(fun z:Int=>(Lit.int .i64 z).wf=true) x.Z
theorem op72 {n:Nat} {us:List AV} (h:Rv Tryz.prog MX (n+3) 72 us):∃ x:G1,G1.ok x∧us=x.cs:=by
  have h:=Yp h Tryz.underlying72
  obtain⟨u0,r0,e0,_,h0,h⟩:=h
  obtain⟨x0,o0,rfl⟩:=op3 h0
  obtain⟨u1,r1,e1,_,h1,h⟩:=h
  obtain⟨x1,o1,rfl⟩:=op3 h1
  obtain⟨u2,r2,e2,_,h2,h⟩:=h
  obtain⟨x2,o2,rfl⟩:=op4 h2
  obtain⟨u3,r3,e3,_,h3,h⟩:=h
  obtain⟨x3,o3,rfl⟩:=op3 h3
  obtain⟨u4,r4,e4,_,h4,h⟩:=h
  obtain⟨x4,o4,rfl⟩:=op3 h4
  obtain⟨u5,r5,e5,_,h5,h⟩:=h
  obtain⟨x5,o5,rfl⟩:=op3 h5
  obtain⟨u6,r6,e6,_,h6,h⟩:=h
  obtain⟨x6,o6,rfl⟩:=op3 h6
  obtain⟨u7,r7,e7,_,h7,h⟩:=h
  obtain⟨x7,o7,rfl⟩:=op3 h7
  obtain⟨u8,r8,e8,_,h8,h⟩:=h
  obtain⟨x8,o8,rfl⟩:=Y57 h8
  obtain⟨u9,r9,e9,_,h9,h⟩:=h
  obtain⟨x9,o9,rfl⟩:=op3 h9
  obtain⟨u10,r10,e10,_,h10,h⟩:=h
  obtain⟨x10,o10,rfl⟩:=op3 h10
  obtain⟨u11,r11,e11,_,h11,h⟩:=h
  obtain⟨x11,o11,rfl⟩:=op3 h11
  have h:r11=[]:=h
  subst h
  subst e11
  subst e10
  subst e9
  subst e8
  subst e7
  subst e6
  subst e5
  subst e4
  subst e3
  subst e2
  subst e1
  subst e0
  exact⟨⟨x0,x1,x2,x3,x4,x5,x6,x7,x8,x9,x10,x11⟩,⟨o0,o1,o2,o3,o4,o5,o6,o7,o8,o9,o10,o11⟩,rfl⟩
theorem op22 {n:Nat} {us:List AV} (h:Rv Tryz.prog MX (n+4) 22 us):∃ xs:List G1,(fun xs:List G1=>(∀ x∈xs,G1.ok x)∧xs.length≤MX) xs∧us=[(LS 12 G1.av) xs]:=
  G5c (ok:=G1.ok) h Tryz.underlying22 (by kernel_rfl) (fun us h=>by
    obtain⟨x,hx,rfl⟩:=op72 h
    exact⟨x,hx,Haf Tryz.underlying72⟩)
structure Ga.ok (x:Ga):Prop where
  Bay:(fun z:Int=>(Lit.int .i64 z).wf=true) x.Bay
  Rows:(fun xs:List Int=>(∀ x∈xs,(fun z:Int=>(Lit.int .i64 z).wf=true) x)∧xs.length≤MX) x.Rows
theorem op74 {n:Nat} {us:List AV} (h:Rv Tryz.prog MX (n+3) 74 us):∃ x:Ga,Ga.ok x∧us=x.cs:=by
  have h:=Yp h Tryz.underlying74
  obtain⟨u0,r0,e0,_,h0,h⟩:=h
  obtain⟨x0,o0,rfl⟩:=op3 h0
  obtain⟨u1,r1,e1,_,h1,h⟩:=h
  obtain⟨x1,o1,rfl⟩:=Y57 h1
  have h:r1=[]:=h
  subst h
  subst e1
  subst e0
  exact⟨⟨x0,x1⟩,⟨o0,o1⟩,rfl⟩
theorem op23 {n:Nat} {us:List AV} (h:Rv Tryz.prog MX (n+4) 23 us):∃ xs:List Ga,(fun xs:List Ga=>(∀ x∈xs,Ga.ok x)∧xs.length≤MX) xs∧us=[(LS 2 Ga.av) xs]:=
  G5c (ok:=Ga.ok) h Tryz.underlying23 (by kernel_rfl) (fun us h=>by
    obtain⟨x,hx,rfl⟩:=op74 h
    exact⟨x,hx,Haf Tryz.underlying74⟩)
structure Light.ok (x:Light):Prop where
  Kilos:(fun z:Int=>(Lit.int .i64 z).wf=true) x.Kilos
  X:(fun z:Int=>(Lit.int .i64 z).wf=true) x.X
  Y:(fun z:Int=>(Lit.int .i64 z).wf=true) x.Y
  Z:(fun z:Int=>(Lit.int .i64 z).wf=true) x.Z
theorem op25 {n:Nat} {us:List AV} (h:Rv Tryz.prog MX (n+2) 25 us):∃ x:Light,Light.ok x∧us=x.cs:=by
  have h:=Yp h Tryz.underlying25
  obtain⟨u0,r0,e0,_,h0,h⟩:=h
  obtain⟨x0,o0,rfl⟩:=op3 h0
  obtain⟨u1,r1,e1,_,h1,h⟩:=h
  obtain⟨x1,o1,rfl⟩:=op3 h1
  obtain⟨u2,r2,e2,_,h2,h⟩:=h
  obtain⟨x2,o2,rfl⟩:=op3 h2
  obtain⟨u3,r3,e3,_,h3,h⟩:=h
  obtain⟨x3,o3,rfl⟩:=op3 h3
  have h:r3=[]:=h
  subst h
  subst e3
  subst e2
  subst e1
  subst e0
  exact⟨⟨x0,x1,x2,x3⟩,⟨o0,o1,o2,o3⟩,rfl⟩
structure Row.ok (x:Row):Prop where
  Draught:(fun z:Int=>(Lit.int .i64 z).wf=true) x.Draught
  Kilos:(fun z:Int=>(Lit.int .i64 z).wf=true) x.Kilos
  Buoy:(fun z:Int=>(Lit.int .i64 z).wf=true) x.Buoy
  Metacentre:(fun z:Int=>(Lit.int .i64 z).wf=true) x.Metacentre
  R84:(fun z:Int=>(Lit.int .i64 z).wf=true) x.R84
theorem Yd7 {n:Nat} {us:List AV} (h:Rv Tryz.prog MX (n+2) 211 us):∃ x:Row,Row.ok x∧us=x.cs:=by
  have h:=Yp h Tryz.underlying211
  obtain⟨u0,r0,e0,_,h0,h⟩:=h
  obtain⟨x0,o0,rfl⟩:=op3 h0
  obtain⟨u1,r1,e1,_,h1,h⟩:=h
  obtain⟨x1,o1,rfl⟩:=op3 h1
  obtain⟨u2,r2,e2,_,h2,h⟩:=h
  obtain⟨x2,o2,rfl⟩:=op3 h2
  obtain⟨u3,r3,e3,_,h3,h⟩:=h
  obtain⟨x3,o3,rfl⟩:=op3 h3
  obtain⟨u4,r4,e4,_,h4,h⟩:=h
  obtain⟨x4,o4,rfl⟩:=op3 h4
  have h:r4=[]:=h
  subst h
  subst e4
  subst e3
  subst e2
  subst e1
  subst e0
  exact⟨⟨x0,x1,x2,x3,x4⟩,⟨o0,o1,o2,o3,o4⟩,rfl⟩
theorem op26 {n:Nat} {us:List AV} (h:Rv Tryz.prog MX (n+3) 26 us):∃ xs:List Row,(fun xs:List Row=>(∀ x∈xs,Row.ok x)∧xs.length≤MX) xs∧us=[(LS 5 Row.av) xs]:=
  G5c (ok:=Row.ok) h Tryz.underlying26 (by kernel_rfl) (fun us h=>by
    obtain⟨x,hx,rfl⟩:=Yd7 h
    exact⟨x,hx,Haf Tryz.underlying211⟩)
structure Frame.ok (x:Frame):Prop where
  X:(fun z:Int=>(Lit.int .i64 z).wf=true) x.X
  Light:(fun z:Int=>(Lit.int .i64 z).wf=true) x.Light
  Share:(fun z:Int=>(Lit.int .i64 z).wf=true) x.Share
  Shear:(fun z:Int=>(Lit.int .i64 z).wf=true) x.Shear
  Bend:(fun z:Int=>(Lit.int .i64 z).wf=true) x.Bend
theorem Yd6 {n:Nat} {us:List AV} (h:Rv Tryz.prog MX (n+2) 213 us):∃ x:Frame,Frame.ok x∧us=x.cs:=by
  have h:=Yp h Tryz.underlying213
  obtain⟨u0,r0,e0,_,h0,h⟩:=h
  obtain⟨x0,o0,rfl⟩:=op3 h0
  obtain⟨u1,r1,e1,_,h1,h⟩:=h
  obtain⟨x1,o1,rfl⟩:=op3 h1
  obtain⟨u2,r2,e2,_,h2,h⟩:=h
  obtain⟨x2,o2,rfl⟩:=op3 h2
  obtain⟨u3,r3,e3,_,h3,h⟩:=h
  obtain⟨x3,o3,rfl⟩:=op3 h3
  obtain⟨u4,r4,e4,_,h4,h⟩:=h
  obtain⟨x4,o4,rfl⟩:=op3 h4
  have h:r4=[]:=h
  subst h
  subst e4
  subst e3
  subst e2
  subst e1
  subst e0
  exact⟨⟨x0,x1,x2,x3,x4⟩,⟨o0,o1,o2,o3,o4⟩,rfl⟩
theorem op27 {n:Nat} {us:List AV} (h:Rv Tryz.prog MX (n+3) 27 us):∃ xs:List Frame,(fun xs:List Frame=>(∀ x∈xs,Frame.ok x)∧xs.length≤MX) xs∧us=[(LS 5 Frame.av) xs]:=
  G5c (ok:=Frame.ok) h Tryz.underlying27 (by kernel_rfl) (fun us h=>by
    obtain⟨x,hx,rfl⟩:=Yd6 h
    exact⟨x,hx,Haf Tryz.underlying213⟩)
structure Gr.ok (x:Gr):Prop where
  Kilos:(fun z:Int=>(Lit.int .i64 z).wf=true) x.Kilos
  X:(fun z:Int=>(Lit.int .i64 z).wf=true) x.X
  Y:(fun z:Int=>(Lit.int .i64 z).wf=true) x.Y
  Z:(fun z:Int=>(Lit.int .i64 z).wf=true) x.Z
  Surface:(fun z:Int=>(Lit.int .i64 z).wf=true) x.Surface
  Steps:(fun xs:List Int=>(∀ x∈xs,(fun z:Int=>(Lit.int .i64 z).wf=true) x)∧xs.length≤MX) x.Steps
theorem Yd5 {n:Nat} {us:List AV} (h:Rv Tryz.prog MX (n+3) 215 us):∃ x:Gr,Gr.ok x∧us=x.cs:=by
  have h:=Yp h Tryz.underlying215
  obtain⟨u0,r0,e0,_,h0,h⟩:=h
  obtain⟨x0,o0,rfl⟩:=op3 h0
  obtain⟨u1,r1,e1,_,h1,h⟩:=h
  obtain⟨x1,o1,rfl⟩:=op3 h1
  obtain⟨u2,r2,e2,_,h2,h⟩:=h
  obtain⟨x2,o2,rfl⟩:=op3 h2
  obtain⟨u3,r3,e3,_,h3,h⟩:=h
  obtain⟨x3,o3,rfl⟩:=op3 h3
  obtain⟨u4,r4,e4,_,h4,h⟩:=h
  obtain⟨x4,o4,rfl⟩:=op3 h4
  obtain⟨u5,r5,e5,_,h5,h⟩:=h
  obtain⟨x5,o5,rfl⟩:=Y57 h5
  have h:r5=[]:=h
  subst h
  subst e5
  subst e4
  subst e3
  subst e2
  subst e1
  subst e0
  exact⟨⟨x0,x1,x2,x3,x4,x5⟩,⟨o0,o1,o2,o3,o4,o5⟩,rfl⟩
theorem op28 {n:Nat} {us:List AV} (h:Rv Tryz.prog MX (n+4) 28 us):∃ xs:List Gr,(fun xs:List Gr=>(∀ x∈xs,Gr.ok x)∧xs.length≤MX) xs∧us=[(LS 6 Gr.av) xs]:=
  G5c (ok:=Gr.ok) h Tryz.underlying28 (by kernel_rfl) (fun us h=>by
    obtain⟨x,hx,rfl⟩:=Yd5 h
    exact⟨x,hx,Haf Tryz.underlying215⟩)
structure G5.ok (x:G5):Prop where
  Tolerance:(fun z:Int=>(Lit.int .i64 z).wf=true) x.Tolerance
  Trim:(fun z:Int=>(Lit.int .i64 z).wf=true) x.Trim
  List_:(fun z:Int=>(Lit.int .i64 z).wf=true) x.List_
  Stability:(fun z:Int=>(Lit.int .i64 z).wf=true) x.Stability
theorem op30 {n:Nat} {us:List AV} (h:Rv Tryz.prog MX (n+2) 30 us):∃ x:G5,G5.ok x∧us=x.cs:=by
  have h:=Yp h Tryz.underlying30
  obtain⟨u0,r0,e0,_,h0,h⟩:=h
  obtain⟨x0,o0,rfl⟩:=op3 h0
  obtain⟨u1,r1,e1,_,h1,h⟩:=h
  obtain⟨x1,o1,rfl⟩:=op3 h1
  obtain⟨u2,r2,e2,_,h2,h⟩:=h
  obtain⟨x2,o2,rfl⟩:=op3 h2
  obtain⟨u3,r3,e3,_,h3,h⟩:=h
  obtain⟨x3,o3,rfl⟩:=op3 h3
  have h:r3=[]:=h
  subst h
  subst e3
  subst e2
  subst e1
  subst e0
  exact⟨⟨x0,x1,x2,x3⟩,⟨o0,o1,o2,o3⟩,rfl⟩
structure G6.ok (x:G6):Prop where
  Columns:(fun xs:List G1=>(∀ x∈xs,G1.ok x)∧xs.length≤MX) x.Columns
  Covers:(fun xs:List Ga=>(∀ x∈xs,Ga.ok x)∧xs.length≤MX) x.Covers
  Light:Light.ok x.Light
  Rows:(fun xs:List Row=>(∀ x∈xs,Row.ok x)∧xs.length≤MX) x.Rows
  Frames:(fun xs:List Frame=>(∀ x∈xs,Frame.ok x)∧xs.length≤MX) x.Frames
  Tanks:(fun xs:List Gr=>(∀ x∈xs,Gr.ok x)∧xs.length≤MX) x.Tanks
  G5:G5.ok x.G5
theorem op32 {n:Nat} {us:List AV} (h:Rv Tryz.prog MX (n+5) 32 us):∃ x:G6,G6.ok x∧us=x.cs:=by
  have h:=Yp h Tryz.underlying32
  obtain⟨u0,r0,e0,_,h0,h⟩:=h
  obtain⟨x0,o0,rfl⟩:=op22 h0
  obtain⟨u1,r1,e1,_,h1,h⟩:=h
  obtain⟨x1,o1,rfl⟩:=op23 h1
  obtain⟨u2,r2,e2,_,h2,h⟩:=h
  obtain⟨x2,o2,rfl⟩:=op25 h2
  obtain⟨u3,r3,e3,_,h3,h⟩:=h
  obtain⟨x3,o3,rfl⟩:=op26 h3
  obtain⟨u4,r4,e4,_,h4,h⟩:=h
  obtain⟨x4,o4,rfl⟩:=op27 h4
  obtain⟨u5,r5,e5,_,h5,h⟩:=h
  obtain⟨x5,o5,rfl⟩:=op28 h5
  obtain⟨u6,r6,e6,_,h6,h⟩:=h
  obtain⟨x6,o6,rfl⟩:=op30 h6
  have h:r6=[]:=h
  subst h
  subst e6
  subst e5
  subst e4
  subst e3
  subst e2
  subst e1
  subst e0
  exact⟨⟨x0,x1,x2,x3,x4,x5,x6⟩,⟨o0,o1,o2,o3,o4,o5,o6⟩,rfl⟩
theorem op9 {n:Nat} {us:List AV} (h:Rv Tryz.prog MX (n+1) 9 us):∃ x:ByteArray,(fun s:ByteArray=>s.size≤maxLen) x∧us=[ST x]:=Qac h Tryz.underlying9
theorem op5 {n:Nat} {us:List AV} (h:Rv Tryz.prog MX (n+1) 5 us):∃ x:Int,(fun z:Int=>(Lit.int .u8 z).wf=true) x∧us=[U8 x]:=Q75 h Tryz.underlying5
structure Box.ok (x:Box):Prop where
  ID:(fun z:Int=>(Lit.int .i64 z).wf=true) x.ID
  Number:(fun s:ByteArray=>s.size≤maxLen) x.Number
  Size:(fun z:Int=>(Lit.int .u8 z).wf=true) x.Size
  High:(fun _:Bool=>True) x.High
  Kilos:(fun z:Int=>(Lit.int .i64 z).wf=true) x.Kilos
  Load:(fun z:Int=>(Lit.int .i64 z).wf=true) x.Load
  Discharge:(fun z:Int=>(Lit.int .i64 z).wf=true) x.Discharge
  Class:(fun z:Int=>(Lit.int .u8 z).wf=true) x.Class
  Reefer:(fun _:Bool=>True) x.Reefer
theorem op84 {n:Nat} {us:List AV} (h:Rv Tryz.prog MX (n+2) 84 us):∃ x:Box,Box.ok x∧us=x.cs:=by
  have h:=Yp h Tryz.underlying84
  obtain⟨u0,r0,e0,_,h0,h⟩:=h
  obtain⟨x0,o0,rfl⟩:=op3 h0
  obtain⟨u1,r1,e1,_,h1,h⟩:=h
  obtain⟨x1,o1,rfl⟩:=op9 h1
  obtain⟨u2,r2,e2,_,h2,h⟩:=h
  obtain⟨x2,o2,rfl⟩:=op5 h2
  obtain⟨u3,r3,e3,_,h3,h⟩:=h
  obtain⟨x3,o3,rfl⟩:=op4 h3
  obtain⟨u4,r4,e4,_,h4,h⟩:=h
  obtain⟨x4,o4,rfl⟩:=op3 h4
  obtain⟨u5,r5,e5,_,h5,h⟩:=h
  obtain⟨x5,o5,rfl⟩:=op3 h5
  obtain⟨u6,r6,e6,_,h6,h⟩:=h
  obtain⟨x6,o6,rfl⟩:=op3 h6
  obtain⟨u7,r7,e7,_,h7,h⟩:=h
  obtain⟨x7,o7,rfl⟩:=op5 h7
  obtain⟨u8,r8,e8,_,h8,h⟩:=h
  obtain⟨x8,o8,rfl⟩:=op4 h8
  have h:r8=[]:=h
  subst h
  subst e8
  subst e7
  subst e6
  subst e5
  subst e4
  subst e3
  subst e2
  subst e1
  subst e0
  exact⟨⟨x0,x1,x2,x3,x4,x5,x6,x7,x8⟩,⟨o0,o1,o2,o3,o4,o5,o6,o7,o8⟩,rfl⟩
theorem op33 {n:Nat} {us:List AV} (h:Rv Tryz.prog MX (n+3) 33 us):∃ xs:List Box,(fun xs:List Box=>(∀ x∈xs,Box.ok x)∧xs.length≤MX) xs∧us=[(LS 9 Box.av) xs]:=
  G5c (ok:=Box.ok) h Tryz.underlying33 (by kernel_rfl) (fun us h=>by
    obtain⟨x,hx,rfl⟩:=op84 h
    exact⟨x,hx,Haf Tryz.underlying84⟩)
structure Slot.ok (x:Slot):Prop where
  G1:(fun z:Int=>(Lit.int .i64 z).wf=true) x.G1
  Tier:(fun z:Int=>(Lit.int .i64 z).wf=true) x.Tier
  Half:(fun z:Int=>(Lit.int .u8 z).wf=true) x.Half
theorem op50 {n:Nat} {us:List AV} (h:Rv Tryz.prog MX (n+2) 50 us):∃ x:Slot,Slot.ok x∧us=x.cs:=by
  have h:=Yp h Tryz.underlying50
  obtain⟨u0,r0,e0,_,h0,h⟩:=h
  obtain⟨x0,o0,rfl⟩:=op3 h0
  obtain⟨u1,r1,e1,_,h1,h⟩:=h
  obtain⟨x1,o1,rfl⟩:=op3 h1
  obtain⟨u2,r2,e2,_,h2,h⟩:=h
  obtain⟨x2,o2,rfl⟩:=op5 h2
  have h:r2=[]:=h
  subst h
  subst e2
  subst e1
  subst e0
  exact⟨⟨x0,x1,x2⟩,⟨o0,o1,o2⟩,rfl⟩
structure G3.ok (x:G3):Prop where
  Box:(fun z:Int=>(Lit.int .i64 z).wf=true) x.Box
  Slot:Slot.ok x.Slot
theorem op70 {n:Nat} {us:List AV} (h:Rv Tryz.prog MX (n+3) 70 us):∃ x:G3,G3.ok x∧us=x.cs:=by
  have h:=Yp h Tryz.underlying70
  obtain⟨u0,r0,e0,_,h0,h⟩:=h
  obtain⟨x0,o0,rfl⟩:=op3 h0
  obtain⟨u1,r1,e1,_,h1,h⟩:=h
  obtain⟨x1,o1,rfl⟩:=op50 h1
  have h:r1=[]:=h
  subst h
  subst e1
  subst e0
  exact⟨⟨x0,x1⟩,⟨o0,o1⟩,rfl⟩
theorem op34 {n:Nat} {us:List AV} (h:Rv Tryz.prog MX (n+4) 34 us):∃ xs:List G3,(fun xs:List G3=>(∀ x∈xs,G3.ok x)∧xs.length≤MX) xs∧us=[(LS 4 G3.av) xs]:=
  G5c (ok:=G3.ok) h Tryz.underlying34 (by kernel_rfl) (fun us h=>by
    obtain⟨x,hx,rfl⟩:=op70 h
    exact⟨x,hx,Haf Tryz.underlying70⟩)
structure Move.ok (x:Move):Prop where
  Kind:(fun z:Int=>(Lit.int .u8 z).wf=true) x.Kind
  Box:(fun z:Int=>(Lit.int .i64 z).wf=true) x.Box
  Slot:Slot.ok x.Slot
  Ga:(fun z:Int=>(Lit.int .i64 z).wf=true) x.Ga
theorem op52 {n:Nat} {us:List AV} (h:Rv Tryz.prog MX (n+3) 52 us):∃ x:Move,Move.ok x∧us=x.cs:=by
  have h:=Yp h Tryz.underlying52
  obtain⟨u0,r0,e0,_,h0,h⟩:=h
  obtain⟨x0,o0,rfl⟩:=op5 h0
  obtain⟨u1,r1,e1,_,h1,h⟩:=h
  obtain⟨x1,o1,rfl⟩:=op3 h1
  obtain⟨u2,r2,e2,_,h2,h⟩:=h
  obtain⟨x2,o2,rfl⟩:=op50 h2
  obtain⟨u3,r3,e3,_,h3,h⟩:=h
  obtain⟨x3,o3,rfl⟩:=op3 h3
  have h:r3=[]:=h
  subst h
  subst e3
  subst e2
  subst e1
  subst e0
  exact⟨⟨x0,x1,x2,x3⟩,⟨o0,o1,o2,o3⟩,rfl⟩
theorem op36 {n:Nat} {us:List AV} (h:Rv Tryz.prog MX (n+4) 36 us):∃ xs:List Move,(fun xs:List Move=>(∀ x∈xs,Move.ok x)∧xs.length≤MX) xs∧us=[(LS 6 Move.av) xs]:=
  G5c (ok:=Move.ok) h Tryz.underlying36 (by kernel_rfl) (fun us h=>by
    obtain⟨x,hx,rfl⟩:=op52 h
    exact⟨x,hx,Haf Tryz.underlying52⟩)
end
theorem fnq:Tryz.prog.funcs[3]? = some Tryz.f3:=Tryz.func3
theorem own:ownKnob Tryz.prog.godebug=none:=by kernel_rfl
theorem laidOut:laidOutB Tryz.prog=true:=by kernel_rfl
theorem unB:Tryz.prog.underlying 4=some .bool:=by kernel_rfl
theorem sh0:Q66 Tryz.prog 5 32=true:=by kernel_rfl
theorem sh1:Q66 Tryz.prog 3 33=true:=by kernel_rfl
theorem sh2:Q66 Tryz.prog 4 34=true:=by kernel_rfl
theorem sh3:Q66 Tryz.prog 2 35=true:=by kernel_rfl
theorem sh4:Q66 Tryz.prog 4 36=true:=by kernel_rfl

theorem lifted (os:Os) (started:os.Started) (H:Type) (enc:TypeId×Value→H) :
    ReturnsInHanded {} Tryz.checked os 3 .any (Rows.simPlaysSpec.pre6 enc Tryz.prog Tryz.f3 Rows.simPlaysRow.domain false) (Rows.simPlaysSpec.post enc Tryz.prog Tryz.f3 false true false false):=by
  refine returnsInHanded_of_change (C:=Tryz.checked) own started (by kernel_rfl) Tryz.func3
    (ChangeSpec.witness6 (enc:=enc) (C:=Tryz.checked) false ⟨#[],#[.agg #[.slice none 0 0,.slice none 0 0,.int .i64 0,.int .i64 0,.int .i64 0,.int .i64 0,.slice none 0 0,.slice none 0 0,.slice none 0 0,.int .i64 0,.int .i64 0,.int .i64 0,.int .i64 0],.slice none 0 0,.slice none 0 0,.slice none 0 0,.slice none 0 0],[]⟩ 8 (by kernel_rfl) (by kernel_rfl) (by kernel_rfl) (by kernel_rfl)) ?_
  intro W base args ds gs before hval0 hW hcnd _
  have hval:∀ (j:Nat) t v,Tryz.f3.params[j]? = some t→args[j]? = some v→Value.okWide Tryz.prog W .any base t v:=hval0
  have hW':=hW
  obtain⟨p,q,hA0,hV,rfl,hfz,hnd⟩:=hW
  have hA:DataW.TrodAll enc Tryz.prog W 0 (fun _=>true) true Tryz.f3.params.toList args.toList ds p:=hA0
  rw [Tryz.params3] at hA hval
  obtain⟨v0,vs0,d0,ds0,p0,q0,hargs,rfl,rfl,h0,r0⟩:=trodAll_cons hA
  obtain⟨v1,vs1,d1,ds1,p1,q1,rfl,rfl,rfl,h1,r1⟩:=trodAll_cons r0
  obtain⟨v2,vs2,d2,ds2,p2,q2,rfl,rfl,rfl,h2,r2⟩:=trodAll_cons r1
  obtain⟨v3,vs3,d3,ds3,p3,q3,rfl,rfl,rfl,h3,r3⟩:=trodAll_cons r2
  obtain⟨v4,vs4,d4,ds4,p4,q4,rfl,rfl,rfl,h4,r4⟩:=trodAll_cons r3
  obtain⟨rfl,rfl,rfl⟩:=trodAll_nil r4
  obtain rfl:args=#[v0,v1,v2,v3,v4]:=by cases args; simp_all
  obtain⟨rfl,rfl⟩:=trodVars_none hV
  have lt0:∀ x∈p0,x.block < W.heap.size:=by obtain⟨m,hm⟩:=h0; exact DataW.trod_lt m _ _ _ hm
  obtain⟨us0,t0,D0⟩:=He1 (S:=Jj W ⟨fun _=>none,fun _ _=>False⟩ []) Hd3 Hd4 sh0 (hval 0 32 v0 rfl rfl) h0 trivial
  obtain⟨a0,o0,e0⟩:=op32 (n:=0) t0
  subst e0
  rw [Haf Tryz.underlying32] at D0
  have lt1:∀ x∈p1,x.block < W.heap.size:=by obtain⟨m,hm⟩:=h1; exact DataW.trod_lt m _ _ _ hm
  obtain⟨us1,t1,D1⟩:=He1 (S:=Jj W ⟨fun _=>none,fun _ _=>False⟩ []) Hd3 Hd4 sh1 (hval 1 33 v1 rfl rfl) h1 trivial
  obtain⟨a1,o1,e1⟩:=op33 (n:=0) t1
  subst e1
  rw [Q36 (by kernel_rfl)] at D1
  have lt2:∀ x∈p2,x.block < W.heap.size:=by obtain⟨m,hm⟩:=h2; exact DataW.trod_lt m _ _ _ hm
  obtain⟨us2,t2,D2⟩:=He1 (S:=Jj W ⟨fun _=>none,fun _ _=>False⟩ []) Hd3 Hd4 sh2 (hval 2 34 v2 rfl rfl) h2 trivial
  obtain⟨a2,o2,e2⟩:=op34 (n:=0) t2
  subst e2
  rw [Q36 (by kernel_rfl)] at D2
  have lt3:∀ x∈p3,x.block < W.heap.size:=by obtain⟨m,hm⟩:=h3; exact DataW.trod_lt m _ _ _ hm
  obtain⟨us3,t3,D3⟩:=He1 (S:=Jj W ⟨fun _=>none,fun _ _=>False⟩ []) Hd3 Hd4 sh3 (hval 3 35 v3 rfl rfl) h3 trivial
  obtain⟨a3,o3,e3⟩:=Y57 (n:=0) t3
  subst e3
  rw [Q36 (by kernel_rfl)] at D3
  have lt4:∀ x∈p4,x.block < W.heap.size:=by obtain⟨m,hm⟩:=h4; exact DataW.trod_lt m _ _ _ hm
  obtain⟨us4,t4,D4⟩:=He1 (S:=Jj W ⟨fun _=>none,fun _ _=>False⟩ []) Hd3 Hd4 sh4 (hval 4 36 v4 rfl rfl) h4 trivial
  obtain⟨a4,o4,e4⟩:=op36 (n:=0) t4
  subst e4
  rw [Q36 (by kernel_rfl)] at D4
  refine(Y53 (H26 100 a0 a1 a2 a3 a4 true (R7a (Nat.le_refl _) a0 a1 a2 a3 a4 (fun b hb=>u8r (o1.1 b hb).Size))) rfl (fun j u v hu hv=>?_)).mono fun e W' h=>?_
  · match j,hu,hv with
    | 0,hu,hv=>cases hu; cases hv; exact D0
    | 1,hu,hv=>cases hu; cases hv; exact D1
    | 2,hu,hv=>cases hu; cases hv; exact D2
    | 3,hu,hv=>cases hu; cases hv; exact D3
    | 4,hu,hv=>cases hu; cases hv; exact D4
    | j+5,hu,hv=>cases hu
  · obtain⟨v,r,β',he,bel,hv,rfl⟩:=h
    subst he
    cases hv with | data hv=>cases hv with | sc=>
    exact⟨_,rfl,_,_,_,[],_,[],hW',trodAll_mk1 (shut_bool unB _),(trodAll_cons_mk (Below.trod laidOut (by kernel_rfl) (of_decide_eq_true (by kernel_rfl)) h0 bel lt0) (trodAll_cons_mk (Below.trod laidOut (by kernel_rfl) (of_decide_eq_true (by kernel_rfl)) h1 bel lt1) (trodAll_cons_mk (Below.trod laidOut (by kernel_rfl) (of_decide_eq_true (by kernel_rfl)) h2 bel lt2) (trodAll_cons_mk (Below.trod laidOut (by kernel_rfl) (of_decide_eq_true (by kernel_rfl)) h3 bel lt3) (trodAll_cons_mk (Below.trod laidOut (by kernel_rfl) (of_decide_eq_true (by kernel_rfl)) h4 bel lt4) trodAll_mk0))))),rfl,bel.frame _,fun h=>by cases h⟩

end GSimPlays

/-- The given statement. -/
theorem simPlays_holds : Rows.SimPlaysSaid :=
  OpenClaim.holds_of_wide 3 Tryz.f3 rfl rfl rfl rfl rfl rfl rfl ⟨rfl,rfl,rfl,rfl,rfl⟩ rfl rfl rfl rfl rfl (by kernel_rfl) Tryz.func3 (by kernel_rfl)
    (of_decide_eq_true (by kernel_rfl)) (by unfold Func.isWrapper; first | (rw [if_pos (by decide +kernel)]; kernel_rfl) | (rw [if_neg (by decide +kernel)]; exact⟨rfl,rfl⟩))
    (fun os started H enc _=>GSimPlays.lifted os started H enc)
#print axioms simPlays_holds
end Go.Proofs.YtmfhaflabpnaoaaGreat

