/-
  BlockFewest,as it is given: whatever the arguments,the law returns true,and the arguments read as they did. One condition: the arguments hold together at most 1048576 values and letters.
-/
import Derived.Test.YthcpolfodgjekaaGreatRows
import Derived.Test.YthcpolfodgjekaaGreatFrames
import Derived.Test.YthcpolfodgjekaaGreatFewL
import Derived.ChangeSame
import Derived.Carry
import Derived.JoinedCond
set_option maxRecDepth 100000
set_option linter.unusedVariables false
namespace Go.Proofs.YthcpolfodgjekaaGreat
open Go.RowKit Go.ChangeShapes Go.WideShapes Go.ChangeAt
namespace GBlockFewest
noncomputable section
abbrev MX:Nat:=1048576
theorem Y86 {H:Type} (d:DataW H):1≤Rows.uptoBulk d:=by
  cases d with
  | lit l=>cases l <;> simp [Rows.uptoBulk]
  | _=>simp [Rows.uptoBulk]
theorem Rb0 {H:Type} {d:DataW H} {l:List (DataW H)} (h:d∈l):Rows.uptoBulk d≤Rows.uptoBulkAll l:=by
  induction l with
  | nil=>cases h
  | cons x r ih=>
    simp only [Rows.uptoBulkAll]
    cases List.mem_cons.1 h with
    | inl e=>subst e; omega
    | inr e=>have:=ih e; omega
theorem length_le {H:Type} (l:List (DataW H)):l.length≤Rows.uptoBulkAll l:=by
  induction l with
  | nil=>simp [Rows.uptoBulkAll]
  | cons x r ih=>have:=Y86 x; simp only [Rows.uptoBulkAll,List.length_cons]; omega
theorem J68 {H:Type}:J83 H MX (fun d=>Rows.uptoBulk d≤1048576) where
  slice:=fun elems spare h _=>by
    simp only [Rows.uptoBulk] at h
    have:=length_le elems
    exact⟨by unfold MX; omega,fun e he=>by have:=Rb0 he; omega⟩
  agg:=fun parts h p hp=>by
    simp only [Rows.uptoBulk] at h
    have:=Rb0 hp
    omega
theorem op3 {n:Nat} {us:List AV} (h:Yn Tryz.prog MX (n+1) 3 us):∃ x:Int,(fun z:Int=>(Lit.int .i64 z).wf=true) x∧us=[I64 x]:=Q8f h Tryz.underlying3
theorem op4 {n:Nat} {us:List AV} (h:Yn Tryz.prog MX (n+1) 4 us):∃ x:Bool,(fun _:Bool=>True) x∧us=[BL x]:=R7f h Tryz.underlying4
theorem Y85 {n:Nat} {us:List AV} (h:Yn Tryz.prog MX (n+2) 40 us):∃ xs:List Int,(fun xs:List Int=>(∀ x∈xs,(fun z:Int=>(Lit.int .i64 z).wf=true) x)∧xs.length≤MX) xs∧us=[(LS 1 I64) xs]:=
  G98 (ok:=(fun z:Int=>(Lit.int .i64 z).wf=true)) h Tryz.underlying40 (by kernel_rfl) (fun us h=>by
    obtain⟨x,hx,rfl⟩:=op3 h
    exact⟨x,hx,Qc9 (by kernel_rfl)⟩)
structure G3.ok (x:G3):Prop where
  Bay:(fun z:Int=>(Lit.int .i64 z).wf=true) x.Bay
  Row:(fun z:Int=>(Lit.int .i64 z).wf=true) x.Row
  Deck:(fun _:Bool=>True) x.Deck
  Tiers:(fun z:Int=>(Lit.int .i64 z).wf=true) x.Tiers
  Height:(fun z:Int=>(Lit.int .i64 z).wf=true) x.Height
  Kilos20:(fun z:Int=>(Lit.int .i64 z).wf=true) x.Kilos20
  Kilos40:(fun z:Int=>(Lit.int .i64 z).wf=true) x.Kilos40
  Lash:(fun z:Int=>(Lit.int .i64 z).wf=true) x.Lash
  Plugs:(fun xs:List Int=>(∀ x∈xs,(fun z:Int=>(Lit.int .i64 z).wf=true) x)∧xs.length≤MX) x.Plugs
  X:(fun z:Int=>(Lit.int .i64 z).wf=true) x.X
  Y:(fun z:Int=>(Lit.int .i64 z).wf=true) x.Y
  Z:(fun z:Int=>(Lit.int .i64 z).wf=true) x.Z
theorem op64 {n:Nat} {us:List AV} (h:Yn Tryz.prog MX (n+3) 64 us):∃ x:G3,G3.ok x∧us=x.cs:=by
  have h:=G08 h Tryz.underlying64
  obtain⟨u0,r0,e0,_,h0,h⟩:=h
  obtain⟨x0,o0,rfl⟩:=op3 h0
  obtain⟨u1,r1,e1,_,h1,h⟩:=h
  obtain⟨x1,o1,rfl⟩:=op3 h1
  obtain⟨u2,r2,e2,_,h2,h⟩:=h
  obtain⟨x2,o2,rfl⟩:=op4 h2
  obtain⟨u3,r3,e3,_,h3,h⟩:=h
  obtain⟨x3,o3,rfl⟩:=op3 h3
  obtain⟨u4,r4,e4,_,h4,h⟩:=h
  obtain⟨x4,o4,rfl⟩:=op3 h4
  obtain⟨u5,r5,e5,_,h5,h⟩:=h
  obtain⟨x5,o5,rfl⟩:=op3 h5
  obtain⟨u6,r6,e6,_,h6,h⟩:=h
  obtain⟨x6,o6,rfl⟩:=op3 h6
  obtain⟨u7,r7,e7,_,h7,h⟩:=h
  obtain⟨x7,o7,rfl⟩:=op3 h7
  obtain⟨u8,r8,e8,_,h8,h⟩:=h
  obtain⟨x8,o8,rfl⟩:=Y85 h8
  obtain⟨u9,r9,e9,_,h9,h⟩:=h
  obtain⟨x9,o9,rfl⟩:=op3 h9
  obtain⟨u10,r10,e10,_,h10,h⟩:=h
  obtain⟨x10,o10,rfl⟩:=op3 h10
  obtain⟨u11,r11,e11,_,h11,h⟩:=h
  obtain⟨x11,o11,rfl⟩:=op3 h11
  have h:r11=[]:=h
  subst h
  subst e11
  subst e10
  subst e9
  subst e8
  subst e7
  subst e6
  subst e5
  subst e4
  subst e3
  subst e2
  subst e1
  subst e0
  exact⟨⟨x0,x1,x2,x3,x4,x5,x6,x7,x8,x9,x10,x11⟩,⟨o0,o1,o2,o3,o4,o5,o6,o7,o8,o9,o10,o11⟩,rfl⟩
theorem op22 {n:Nat} {us:List AV} (h:Yn Tryz.prog MX (n+4) 22 us):∃ xs:List G3,(fun xs:List G3=>(∀ x∈xs,G3.ok x)∧xs.length≤MX) xs∧us=[(LS 12 G3.av) xs]:=
  G98 (ok:=G3.ok) h Tryz.underlying22 (by kernel_rfl) (fun us h=>by
    obtain⟨x,hx,rfl⟩:=op64 h
    exact⟨x,hx,Hfd Tryz.underlying64⟩)
structure G8.ok (x:G8):Prop where
  Bay:(fun z:Int=>(Lit.int .i64 z).wf=true) x.Bay
  Rows:(fun xs:List Int=>(∀ x∈xs,(fun z:Int=>(Lit.int .i64 z).wf=true) x)∧xs.length≤MX) x.Rows
theorem op66 {n:Nat} {us:List AV} (h:Yn Tryz.prog MX (n+3) 66 us):∃ x:G8,G8.ok x∧us=x.cs:=by
  have h:=G08 h Tryz.underlying66
  obtain⟨u0,r0,e0,_,h0,h⟩:=h
  obtain⟨x0,o0,rfl⟩:=op3 h0
  obtain⟨u1,r1,e1,_,h1,h⟩:=h
  obtain⟨x1,o1,rfl⟩:=Y85 h1
  have h:r1=[]:=h
  subst h
  subst e1
  subst e0
  exact⟨⟨x0,x1⟩,⟨o0,o1⟩,rfl⟩
theorem op23 {n:Nat} {us:List AV} (h:Yn Tryz.prog MX (n+4) 23 us):∃ xs:List G8,(fun xs:List G8=>(∀ x∈xs,G8.ok x)∧xs.length≤MX) xs∧us=[(LS 2 G8.av) xs]:=
  G98 (ok:=G8.ok) h Tryz.underlying23 (by kernel_rfl) (fun us h=>by
    obtain⟨x,hx,rfl⟩:=op66 h
    exact⟨x,hx,Hfd Tryz.underlying66⟩)
structure Light.ok (x:Light):Prop where
  Kilos:(fun z:Int=>(Lit.int .i64 z).wf=true) x.Kilos
  X:(fun z:Int=>(Lit.int .i64 z).wf=true) x.X
  Y:(fun z:Int=>(Lit.int .i64 z).wf=true) x.Y
  Z:(fun z:Int=>(Lit.int .i64 z).wf=true) x.Z
theorem op25 {n:Nat} {us:List AV} (h:Yn Tryz.prog MX (n+2) 25 us):∃ x:Light,Light.ok x∧us=x.cs:=by
  have h:=G08 h Tryz.underlying25
  obtain⟨u0,r0,e0,_,h0,h⟩:=h
  obtain⟨x0,o0,rfl⟩:=op3 h0
  obtain⟨u1,r1,e1,_,h1,h⟩:=h
  obtain⟨x1,o1,rfl⟩:=op3 h1
  obtain⟨u2,r2,e2,_,h2,h⟩:=h
  obtain⟨x2,o2,rfl⟩:=op3 h2
  obtain⟨u3,r3,e3,_,h3,h⟩:=h
  obtain⟨x3,o3,rfl⟩:=op3 h3
  have h:r3=[]:=h
  subst h
  subst e3
  subst e2
  subst e1
  subst e0
  exact⟨⟨x0,x1,x2,x3⟩,⟨o0,o1,o2,o3⟩,rfl⟩
structure Row.ok (x:Row):Prop where
  Draught:(fun z:Int=>(Lit.int .i64 z).wf=true) x.Draught
  Kilos:(fun z:Int=>(Lit.int .i64 z).wf=true) x.Kilos
  Buoy:(fun z:Int=>(Lit.int .i64 z).wf=true) x.Buoy
  Metacentre:(fun z:Int=>(Lit.int .i64 z).wf=true) x.Metacentre
  J04:(fun z:Int=>(Lit.int .i64 z).wf=true) x.J04
theorem Yb1 {n:Nat} {us:List AV} (h:Yn Tryz.prog MX (n+2) 108 us):∃ x:Row,Row.ok x∧us=x.cs:=by
  have h:=G08 h Tryz.underlying108
  obtain⟨u0,r0,e0,_,h0,h⟩:=h
  obtain⟨x0,o0,rfl⟩:=op3 h0
  obtain⟨u1,r1,e1,_,h1,h⟩:=h
  obtain⟨x1,o1,rfl⟩:=op3 h1
  obtain⟨u2,r2,e2,_,h2,h⟩:=h
  obtain⟨x2,o2,rfl⟩:=op3 h2
  obtain⟨u3,r3,e3,_,h3,h⟩:=h
  obtain⟨x3,o3,rfl⟩:=op3 h3
  obtain⟨u4,r4,e4,_,h4,h⟩:=h
  obtain⟨x4,o4,rfl⟩:=op3 h4
  have h:r4=[]:=h
  subst h
  subst e4
  subst e3
  subst e2
  subst e1
  subst e0
  exact⟨⟨x0,x1,x2,x3,x4⟩,⟨o0,o1,o2,o3,o4⟩,rfl⟩
theorem op26 {n:Nat} {us:List AV} (h:Yn Tryz.prog MX (n+3) 26 us):∃ xs:List Row,(fun xs:List Row=>(∀ x∈xs,Row.ok x)∧xs.length≤MX) xs∧us=[(LS 5 Row.av) xs]:=
  G98 (ok:=Row.ok) h Tryz.underlying26 (by kernel_rfl) (fun us h=>by
    obtain⟨x,hx,rfl⟩:=Yb1 h
    exact⟨x,hx,Hfd Tryz.underlying108⟩)
structure Frame.ok (x:Frame):Prop where
  X:(fun z:Int=>(Lit.int .i64 z).wf=true) x.X
  Light:(fun z:Int=>(Lit.int .i64 z).wf=true) x.Light
  Share:(fun z:Int=>(Lit.int .i64 z).wf=true) x.Share
  Shear:(fun z:Int=>(Lit.int .i64 z).wf=true) x.Shear
  Bend:(fun z:Int=>(Lit.int .i64 z).wf=true) x.Bend
theorem Yb0 {n:Nat} {us:List AV} (h:Yn Tryz.prog MX (n+2) 111 us):∃ x:Frame,Frame.ok x∧us=x.cs:=by
  have h:=G08 h Tryz.underlying111
  obtain⟨u0,r0,e0,_,h0,h⟩:=h
  obtain⟨x0,o0,rfl⟩:=op3 h0
  obtain⟨u1,r1,e1,_,h1,h⟩:=h
  obtain⟨x1,o1,rfl⟩:=op3 h1
  obtain⟨u2,r2,e2,_,h2,h⟩:=h
  obtain⟨x2,o2,rfl⟩:=op3 h2
  obtain⟨u3,r3,e3,_,h3,h⟩:=h
  obtain⟨x3,o3,rfl⟩:=op3 h3
  obtain⟨u4,r4,e4,_,h4,h⟩:=h
  obtain⟨x4,o4,rfl⟩:=op3 h4
  have h:r4=[]:=h
  subst h
  subst e4
  subst e3
  subst e2
  subst e1
  subst e0
  exact⟨⟨x0,x1,x2,x3,x4⟩,⟨o0,o1,o2,o3,o4⟩,rfl⟩
theorem op27 {n:Nat} {us:List AV} (h:Yn Tryz.prog MX (n+3) 27 us):∃ xs:List Frame,(fun xs:List Frame=>(∀ x∈xs,Frame.ok x)∧xs.length≤MX) xs∧us=[(LS 5 Frame.av) xs]:=
  G98 (ok:=Frame.ok) h Tryz.underlying27 (by kernel_rfl) (fun us h=>by
    obtain⟨x,hx,rfl⟩:=Yb0 h
    exact⟨x,hx,Hfd Tryz.underlying111⟩)
structure Gf.ok (x:Gf):Prop where
  Kilos:(fun z:Int=>(Lit.int .i64 z).wf=true) x.Kilos
  X:(fun z:Int=>(Lit.int .i64 z).wf=true) x.X
  Y:(fun z:Int=>(Lit.int .i64 z).wf=true) x.Y
  Z:(fun z:Int=>(Lit.int .i64 z).wf=true) x.Z
  Surface:(fun z:Int=>(Lit.int .i64 z).wf=true) x.Surface
  Steps:(fun xs:List Int=>(∀ x∈xs,(fun z:Int=>(Lit.int .i64 z).wf=true) x)∧xs.length≤MX) x.Steps
theorem Yaf {n:Nat} {us:List AV} (h:Yn Tryz.prog MX (n+3) 114 us):∃ x:Gf,Gf.ok x∧us=x.cs:=by
  have h:=G08 h Tryz.underlying114
  obtain⟨u0,r0,e0,_,h0,h⟩:=h
  obtain⟨x0,o0,rfl⟩:=op3 h0
  obtain⟨u1,r1,e1,_,h1,h⟩:=h
  obtain⟨x1,o1,rfl⟩:=op3 h1
  obtain⟨u2,r2,e2,_,h2,h⟩:=h
  obtain⟨x2,o2,rfl⟩:=op3 h2
  obtain⟨u3,r3,e3,_,h3,h⟩:=h
  obtain⟨x3,o3,rfl⟩:=op3 h3
  obtain⟨u4,r4,e4,_,h4,h⟩:=h
  obtain⟨x4,o4,rfl⟩:=op3 h4
  obtain⟨u5,r5,e5,_,h5,h⟩:=h
  obtain⟨x5,o5,rfl⟩:=Y85 h5
  have h:r5=[]:=h
  subst h
  subst e5
  subst e4
  subst e3
  subst e2
  subst e1
  subst e0
  exact⟨⟨x0,x1,x2,x3,x4,x5⟩,⟨o0,o1,o2,o3,o4,o5⟩,rfl⟩
theorem op28 {n:Nat} {us:List AV} (h:Yn Tryz.prog MX (n+4) 28 us):∃ xs:List Gf,(fun xs:List Gf=>(∀ x∈xs,Gf.ok x)∧xs.length≤MX) xs∧us=[(LS 6 Gf.av) xs]:=
  G98 (ok:=Gf.ok) h Tryz.underlying28 (by kernel_rfl) (fun us h=>by
    obtain⟨x,hx,rfl⟩:=Yaf h
    exact⟨x,hx,Hfd Tryz.underlying114⟩)
structure G1.ok (x:G1):Prop where
  Tolerance:(fun z:Int=>(Lit.int .i64 z).wf=true) x.Tolerance
  Trim:(fun z:Int=>(Lit.int .i64 z).wf=true) x.Trim
  List_:(fun z:Int=>(Lit.int .i64 z).wf=true) x.List_
  Stability:(fun z:Int=>(Lit.int .i64 z).wf=true) x.Stability
theorem op30 {n:Nat} {us:List AV} (h:Yn Tryz.prog MX (n+2) 30 us):∃ x:G1,G1.ok x∧us=x.cs:=by
  have h:=G08 h Tryz.underlying30
  obtain⟨u0,r0,e0,_,h0,h⟩:=h
  obtain⟨x0,o0,rfl⟩:=op3 h0
  obtain⟨u1,r1,e1,_,h1,h⟩:=h
  obtain⟨x1,o1,rfl⟩:=op3 h1
  obtain⟨u2,r2,e2,_,h2,h⟩:=h
  obtain⟨x2,o2,rfl⟩:=op3 h2
  obtain⟨u3,r3,e3,_,h3,h⟩:=h
  obtain⟨x3,o3,rfl⟩:=op3 h3
  have h:r3=[]:=h
  subst h
  subst e3
  subst e2
  subst e1
  subst e0
  exact⟨⟨x0,x1,x2,x3⟩,⟨o0,o1,o2,o3⟩,rfl⟩
structure H0.ok (x:H0):Prop where
  Columns:(fun xs:List G3=>(∀ x∈xs,G3.ok x)∧xs.length≤MX) x.Columns
  Covers:(fun xs:List G8=>(∀ x∈xs,G8.ok x)∧xs.length≤MX) x.Covers
  Light:Light.ok x.Light
  Rows:(fun xs:List Row=>(∀ x∈xs,Row.ok x)∧xs.length≤MX) x.Rows
  Frames:(fun xs:List Frame=>(∀ x∈xs,Frame.ok x)∧xs.length≤MX) x.Frames
  Tanks:(fun xs:List Gf=>(∀ x∈xs,Gf.ok x)∧xs.length≤MX) x.Tanks
  G1:G1.ok x.G1
theorem op32 {n:Nat} {us:List AV} (h:Yn Tryz.prog MX (n+5) 32 us):∃ x:H0,H0.ok x∧us=x.cs:=by
  have h:=G08 h Tryz.underlying32
  obtain⟨u0,r0,e0,_,h0,h⟩:=h
  obtain⟨x0,o0,rfl⟩:=op22 h0
  obtain⟨u1,r1,e1,_,h1,h⟩:=h
  obtain⟨x1,o1,rfl⟩:=op23 h1
  obtain⟨u2,r2,e2,_,h2,h⟩:=h
  obtain⟨x2,o2,rfl⟩:=op25 h2
  obtain⟨u3,r3,e3,_,h3,h⟩:=h
  obtain⟨x3,o3,rfl⟩:=op26 h3
  obtain⟨u4,r4,e4,_,h4,h⟩:=h
  obtain⟨x4,o4,rfl⟩:=op27 h4
  obtain⟨u5,r5,e5,_,h5,h⟩:=h
  obtain⟨x5,o5,rfl⟩:=op28 h5
  obtain⟨u6,r6,e6,_,h6,h⟩:=h
  obtain⟨x6,o6,rfl⟩:=op30 h6
  have h:r6=[]:=h
  subst h
  subst e6
  subst e5
  subst e4
  subst e3
  subst e2
  subst e1
  subst e0
  exact⟨⟨x0,x1,x2,x3,x4,x5,x6⟩,⟨o0,o1,o2,o3,o4,o5,o6⟩,rfl⟩
theorem op9 {n:Nat} {us:List AV} (h:Yn Tryz.prog MX (n+1) 9 us):∃ x:ByteArray,(fun s:ByteArray=>s.size≤maxLen) x∧us=[ST x]:=Qbf h Tryz.underlying9
theorem op5 {n:Nat} {us:List AV} (h:Yn Tryz.prog MX (n+1) 5 us):∃ x:Int,(fun z:Int=>(Lit.int .u8 z).wf=true) x∧us=[U8 x]:=Q8f h Tryz.underlying5
structure Box.ok (x:Box):Prop where
  ID:(fun z:Int=>(Lit.int .i64 z).wf=true) x.ID
  Number:(fun s:ByteArray=>s.size≤maxLen) x.Number
  Size:(fun z:Int=>(Lit.int .u8 z).wf=true) x.Size
  High:(fun _:Bool=>True) x.High
  Kilos:(fun z:Int=>(Lit.int .i64 z).wf=true) x.Kilos
  Load:(fun z:Int=>(Lit.int .i64 z).wf=true) x.Load
  Discharge:(fun z:Int=>(Lit.int .i64 z).wf=true) x.Discharge
  Class:(fun z:Int=>(Lit.int .u8 z).wf=true) x.Class
  Reefer:(fun _:Bool=>True) x.Reefer
theorem op69 {n:Nat} {us:List AV} (h:Yn Tryz.prog MX (n+2) 69 us):∃ x:Box,Box.ok x∧us=x.cs:=by
  have h:=G08 h Tryz.underlying69
  obtain⟨u0,r0,e0,_,h0,h⟩:=h
  obtain⟨x0,o0,rfl⟩:=op3 h0
  obtain⟨u1,r1,e1,_,h1,h⟩:=h
  obtain⟨x1,o1,rfl⟩:=op9 h1
  obtain⟨u2,r2,e2,_,h2,h⟩:=h
  obtain⟨x2,o2,rfl⟩:=op5 h2
  obtain⟨u3,r3,e3,_,h3,h⟩:=h
  obtain⟨x3,o3,rfl⟩:=op4 h3
  obtain⟨u4,r4,e4,_,h4,h⟩:=h
  obtain⟨x4,o4,rfl⟩:=op3 h4
  obtain⟨u5,r5,e5,_,h5,h⟩:=h
  obtain⟨x5,o5,rfl⟩:=op3 h5
  obtain⟨u6,r6,e6,_,h6,h⟩:=h
  obtain⟨x6,o6,rfl⟩:=op3 h6
  obtain⟨u7,r7,e7,_,h7,h⟩:=h
  obtain⟨x7,o7,rfl⟩:=op5 h7
  obtain⟨u8,r8,e8,_,h8,h⟩:=h
  obtain⟨x8,o8,rfl⟩:=op4 h8
  have h:r8=[]:=h
  subst h
  subst e8
  subst e7
  subst e6
  subst e5
  subst e4
  subst e3
  subst e2
  subst e1
  subst e0
  exact⟨⟨x0,x1,x2,x3,x4,x5,x6,x7,x8⟩,⟨o0,o1,o2,o3,o4,o5,o6,o7,o8⟩,rfl⟩
theorem op33 {n:Nat} {us:List AV} (h:Yn Tryz.prog MX (n+3) 33 us):∃ xs:List Box,(fun xs:List Box=>(∀ x∈xs,Box.ok x)∧xs.length≤MX) xs∧us=[(LS 9 Box.av) xs]:=
  G98 (ok:=Box.ok) h Tryz.underlying33 (by kernel_rfl) (fun us h=>by
    obtain⟨x,hx,rfl⟩:=op69 h
    exact⟨x,hx,Hfd Tryz.underlying69⟩)
structure Slot.ok (x:Slot):Prop where
  G3:(fun z:Int=>(Lit.int .i64 z).wf=true) x.G3
  Tier:(fun z:Int=>(Lit.int .i64 z).wf=true) x.Tier
  Half:(fun z:Int=>(Lit.int .u8 z).wf=true) x.Half
theorem op71 {n:Nat} {us:List AV} (h:Yn Tryz.prog MX (n+2) 71 us):∃ x:Slot,Slot.ok x∧us=x.cs:=by
  have h:=G08 h Tryz.underlying71
  obtain⟨u0,r0,e0,_,h0,h⟩:=h
  obtain⟨x0,o0,rfl⟩:=op3 h0
  obtain⟨u1,r1,e1,_,h1,h⟩:=h
  obtain⟨x1,o1,rfl⟩:=op3 h1
  obtain⟨u2,r2,e2,_,h2,h⟩:=h
  obtain⟨x2,o2,rfl⟩:=op5 h2
  have h:r2=[]:=h
  subst h
  subst e2
  subst e1
  subst e0
  exact⟨⟨x0,x1,x2⟩,⟨o0,o1,o2⟩,rfl⟩
structure Stowed.ok (x:Stowed):Prop where
  Box:(fun z:Int=>(Lit.int .i64 z).wf=true) x.Box
  Slot:Slot.ok x.Slot
theorem op73 {n:Nat} {us:List AV} (h:Yn Tryz.prog MX (n+3) 73 us):∃ x:Stowed,Stowed.ok x∧us=x.cs:=by
  have h:=G08 h Tryz.underlying73
  obtain⟨u0,r0,e0,_,h0,h⟩:=h
  obtain⟨x0,o0,rfl⟩:=op3 h0
  obtain⟨u1,r1,e1,_,h1,h⟩:=h
  obtain⟨x1,o1,rfl⟩:=op71 h1
  have h:r1=[]:=h
  subst h
  subst e1
  subst e0
  exact⟨⟨x0,x1⟩,⟨o0,o1⟩,rfl⟩
theorem op34 {n:Nat} {us:List AV} (h:Yn Tryz.prog MX (n+4) 34 us):∃ xs:List Stowed,(fun xs:List Stowed=>(∀ x∈xs,Stowed.ok x)∧xs.length≤MX) xs∧us=[(LS 4 Stowed.av) xs]:=
  G98 (ok:=Stowed.ok) h Tryz.underlying34 (by kernel_rfl) (fun us h=>by
    obtain⟨x,hx,rfl⟩:=op73 h
    exact⟨x,hx,Hfd Tryz.underlying73⟩)
end
theorem fnq:Tryz.prog.funcs[4]? = some Tryz.f4:=Tryz.func4
theorem own:ownKnob Tryz.prog.godebug=none:=by kernel_rfl
theorem laidOut:laidOutB Tryz.prog=true:=by kernel_rfl
theorem unB:Tryz.prog.underlying 4=some .bool:=by kernel_rfl
theorem sh0:Qc7 Tryz.prog 5 32=true:=by kernel_rfl
theorem sh1:Qc7 Tryz.prog 3 33=true:=by kernel_rfl
theorem sh2:Qc7 Tryz.prog 4 34=true:=by kernel_rfl
theorem sh3:Qc7 Tryz.prog 1 3=true:=by kernel_rfl

theorem lifted (os:Os) (started:os.Started) (H:Type) (enc:TypeId×Value→H) (F:Stop.Interp) :
    ReturnsInHanded {} Tryz.checked os 4 .any ((Rows.OpenSpec.upto Rows.blockFewestSpec).pre6 enc Tryz.prog Tryz.f4 Rows.blockFewestUptoRow.domain false) (((Rows.OpenSpec.upto Rows.blockFewestSpec).at F).post enc Tryz.prog Tryz.f4 false true false false):=by
  refine returnsInHanded_of_cond (C:=Tryz.checked) (s:=Rows.OpenSpec.upto Rows.blockFewestSpec) (k:=Rows.uptoSmall) rfl own started (by kernel_rfl) Tryz.func4
    (OpenSpec.witness (enc:=enc) (C:=Tryz.checked) (s:=Rows.OpenSpec.upto Rows.blockFewestSpec) (k:=Rows.uptoSmall) rfl false ⟨#[],#[.agg #[.slice none 0 0,.slice none 0 0,.int .i64 0,.int .i64 0,.int .i64 0,.int .i64 0,.slice none 0 0,.slice none 0 0,.slice none 0 0,.int .i64 0,.int .i64 0,.int .i64 0,.int .i64 0],.slice none 0 0,.slice none 0 0,.int .i64 0],[]⟩ 8 (by kernel_rfl) (by kernel_rfl) (by kernel_rfl)
      (x:=([.agg [.nil,.nil,.agg [.lit (.int .i64 0),.lit (.int .i64 0),.lit (.int .i64 0),.lit (.int .i64 0)],.nil,.nil,.nil,.agg [.lit (.int .i64 0),.lit (.int .i64 0),.lit (.int .i64 0),.lit (.int .i64 0)]],.nil,.nil,.lit (.int .i64 0)],[],[])) (by kernel_rfl) rfl (by kernel_rfl)) ?_
  intro W base args ds gs before hval0 hW _ hk _
  show Calls _ _ _ _ fun e W'=>∃ v,e=.returned v∧Rows.blockFewestSpec.post enc Tryz.prog Tryz.f4 false true false false W args v W'
  have hval:∀ (j:Nat) t v,Tryz.f4.params[j]? = some t→args[j]? = some v→Value.okWide Tryz.prog W .any base t v:=hval0
  have hW':=hW
  obtain⟨p,q,hA0,hV,rfl,hfz,hnd⟩:=hW
  have hA:DataW.TrodAll enc Tryz.prog W 0 (fun _=>true) true Tryz.f4.params.toList args.toList ds p:=hA0
  rw [Tryz.params4] at hA hval
  obtain⟨v0,vs0,d0,ds0,p0,q0,hargs,rfl,rfl,h0,r0⟩:=trodAll_cons hA
  obtain⟨v1,vs1,d1,ds1,p1,q1,rfl,rfl,rfl,h1,r1⟩:=trodAll_cons r0
  obtain⟨v2,vs2,d2,ds2,p2,q2,rfl,rfl,rfl,h2,r2⟩:=trodAll_cons r1
  obtain⟨v3,vs3,d3,ds3,p3,q3,rfl,rfl,rfl,h3,r3⟩:=trodAll_cons r2
  obtain⟨rfl,rfl,rfl⟩:=trodAll_nil r3
  obtain rfl:args=#[v0,v1,v2,v3]:=by cases args; simp_all
  obtain⟨rfl,rfl⟩:=trodVars_none hV
  have hks:Rows.uptoBulkAll [d0,d1,d2,d3]≤1048576:=by
    have:=of_decide_eq_true hk
    simpa using this
  simp only [Rows.uptoBulkAll] at hks
  have lt0:∀ x∈p0,x.block < W.heap.size:=by obtain⟨m,hm⟩:=h0; exact DataW.trod_lt m _ _ _ hm
  obtain⟨us0,t0,D0⟩:=J80 (S:=Qd W ⟨fun _=>none,fun _ _=>False⟩ []) J66 J68 sh0 (hval 0 32 v0 rfl rfl) h0 (show Rows.uptoBulk d0≤1048576 by omega)
  obtain⟨a0,o0,e0⟩:=op32 (n:=0) t0
  subst e0
  rw [Hfd Tryz.underlying32] at D0
  have lt1:∀ x∈p1,x.block < W.heap.size:=by obtain⟨m,hm⟩:=h1; exact DataW.trod_lt m _ _ _ hm
  obtain⟨us1,t1,D1⟩:=J80 (S:=Qd W ⟨fun _=>none,fun _ _=>False⟩ []) J66 J68 sh1 (hval 1 33 v1 rfl rfl) h1 (show Rows.uptoBulk d1≤1048576 by omega)
  obtain⟨a1,o1,e1⟩:=op33 (n:=0) t1
  subst e1
  rw [Qc9 (by kernel_rfl)] at D1
  have lt2:∀ x∈p2,x.block < W.heap.size:=by obtain⟨m,hm⟩:=h2; exact DataW.trod_lt m _ _ _ hm
  obtain⟨us2,t2,D2⟩:=J80 (S:=Qd W ⟨fun _=>none,fun _ _=>False⟩ []) J66 J68 sh2 (hval 2 34 v2 rfl rfl) h2 (show Rows.uptoBulk d2≤1048576 by omega)
  obtain⟨a2,o2,e2⟩:=op34 (n:=0) t2
  subst e2
  rw [Qc9 (by kernel_rfl)] at D2
  have lt3:∀ x∈p3,x.block < W.heap.size:=by obtain⟨m,hm⟩:=h3; exact DataW.trod_lt m _ _ _ hm
  obtain⟨us3,t3,D3⟩:=J80 (S:=Qd W ⟨fun _=>none,fun _ _=>False⟩ []) J66 J68 sh3 (hval 3 3 v3 rfl rfl) h3 (show Rows.uptoBulk d3≤1048576 by omega)
  obtain⟨a3,o3,e3⟩:=op3 (n:=0) t3
  subst e3
  rw [Qc9 (by kernel_rfl)] at D3
  refine(Y4b (H0b 60 a0 a1 a2 a3 true (Rf3 a0 a1 a2 a3 ⟨o0.Columns.2,fun c hc=>(o0.Columns.1 c hc).Plugs.2,o0.Covers.2,fun x hx=>(o0.Covers.1 x hx).Rows.2,o0.Rows.2,o0.Frames.2,o0.Tanks.2,fun x hx=>(o0.Tanks.1 x hx).Steps.2⟩ (fun b hb=>u8r (o1.1 b hb).Size) o1.2 o2.2)) rfl (fun j u v hu hv=>?_)).mono fun e W' h=>?_
  · match j,hu,hv with
    | 0,hu,hv=>cases hu; cases hv; exact D0
    | 1,hu,hv=>cases hu; cases hv; exact D1
    | 2,hu,hv=>cases hu; cases hv; exact D2
    | 3,hu,hv=>cases hu; cases hv; exact D3
    | j+4,hu,hv=>cases hu
  · obtain⟨v,r,β',he,bel,hv,rfl⟩:=h
    subst he
    cases hv with | data hv=>cases hv with | sc=>
    exact⟨_,rfl,_,_,_,[],_,[],hW',trodAll_mk1 (shut_bool unB _),(trodAll_cons_mk (Below.trod laidOut (by kernel_rfl) (of_decide_eq_true (by kernel_rfl)) h0 bel lt0) (trodAll_cons_mk (Below.trod laidOut (by kernel_rfl) (of_decide_eq_true (by kernel_rfl)) h1 bel lt1) (trodAll_cons_mk (Below.trod laidOut (by kernel_rfl) (of_decide_eq_true (by kernel_rfl)) h2 bel lt2) (trodAll_cons_mk (Below.trod laidOut (by kernel_rfl) (of_decide_eq_true (by kernel_rfl)) h3 bel lt3) trodAll_mk0)))),rfl,bel.frame _,fun h=>by cases h⟩

theorem Yb7 {a b:Bool} (ha:a=true) (hb:b=true):(a&&b)=true:=by rw [ha,hb]; rfl
set_option maxHeartbeats 4000000 in
theorem facts:joinedFacts Tryz.pinned.checked.prog 4 Tryz.f4 (Rows.OpenSpec.upto Rows.blockFewestSpec).bare Rows.blockFewestUptoRow=true:=by
  unfold joinedFacts
  repeat' with_reducible refine Yb7 ?_ ?_
  all_goals as_aux_lemma=>kernel_rfl
end GBlockFewest

/-- The given statement. -/
theorem blockFewestUpto_holds : Rows.BlockFewestUptoSaid :=
  OpenClaim.holds_of_cond 4 Tryz.f4 rfl rfl rfl rfl rfl rfl rfl ⟨rfl,rfl,rfl,rfl,rfl⟩ rfl rfl rfl rfl rfl (by kernel_rfl) Tryz.func4 GBlockFewest.facts
    (of_decide_eq_true (by kernel_rfl)) (by unfold Func.isWrapper; first | (rw [if_pos (by decide +kernel)]; kernel_rfl) | (rw [if_neg (by decide +kernel)]; exact⟨rfl,rfl⟩))
    (fun os started H enc _ F=>GBlockFewest.lifted os started H enc F)
#print axioms blockFewestUpto_holds
end Go.Proofs.YthcpolfodgjekaaGreat

