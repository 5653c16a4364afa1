/-
  MovesTells,as it is given: whatever the arguments,the law returns true,and the arguments read as they did. One condition: the arguments hold together at most 1048576 values and letters.
-/
import Derived.Test.YtkiekighbhnolaaGreatRows
import Derived.Test.YtkiekighbhnolaaGreatEnds
import Derived.Test.YtkiekighbhnolaaGreatMovG
import Derived.ChangeSame
import Derived.Carry
import Derived.JoinedCond
set_option maxRecDepth 100000
set_option linter.unusedVariables false
namespace Go.Proofs.YtkiekighbhnolaaGreat
open Go.RowKit Go.ChangeShapes Go.WideShapes Go.ChangeAt
namespace GMovesTells
noncomputable section
abbrev MX:Nat:=1048576
theorem Qf0 {H:Type} (d:DataW H):1≤Rows.uptoBulk d:=by
  cases d with
  | lit l=>cases l <;> simp [Rows.uptoBulk]
  | _=>simp [Rows.uptoBulk]
theorem Jd0 {H:Type} {d:DataW H} {l:List (DataW H)} (h:d∈l):Rows.uptoBulk d≤Rows.uptoBulkAll l:=by
  induction l with
  | nil=>cases h
  | cons x r ih=>
    simp only [Rows.uptoBulkAll]
    cases List.mem_cons.1 h with
    | inl e=>subst e; omega
    | inr e=>have:=ih e; omega
theorem length_le {H:Type} (l:List (DataW H)):l.length≤Rows.uptoBulkAll l:=by
  induction l with
  | nil=>simp [Rows.uptoBulkAll]
  | cons x r ih=>have:=Qf0 x; simp only [Rows.uptoBulkAll,List.length_cons]; omega
theorem JD {H:Type}:RF H MX (fun d=>Rows.uptoBulk d≤1048576) where
  slice:=fun elems spare h _=>by
    simp only [Rows.uptoBulk] at h
    have:=length_le elems
    exact⟨by unfold MX; omega,fun e he=>by have:=Jd0 he; omega⟩
  agg:=fun parts h p hp=>by
    simp only [Rows.uptoBulk] at h
    have:=Jd0 hp
    omega
abbrev OI (k:IntKind) (z:Int):Prop:=(Lit.int k z).wf=true
abbrev OT {J:Type} (_:J):Prop:=True
abbrev OS (s:ByteArray):Prop:=s.size≤maxLen
abbrev OL {J:Type} (ok:J→Prop) (xs:List J):Prop:=(∀ x∈xs,ok x)/\xs.length≤MX
section
variable {J:Type} {T T' d k m:Nat} {ok:J→Prop} {cs:J→List AV} {av:J→AV} {us:List AV} {K:List AV→Prop} {fs:Array Field}
abbrev TE (T d:Nat) (ok:J→Prop) (cs:J→List AV):Prop:=∀ n us,gM Tryz.prog MX (n+d) T us→∃ x:J,ok x/\us=cs x
theorem nx (o:TE T d ok cs) (h:∃ a b,us=a++b/\a.length=Tryz.prog.cellsOf T/\gM Tryz.prog MX (m+d) T a/\K b):∃ x b,us=cs x++b/\ok x/\K b:=by
  obtain⟨a,b,rfl,_,h,hk⟩:=h
  obtain⟨x,hx,rfl⟩:=o _ _ h
  exact⟨x,b,rfl,hx,hk⟩
theorem nl (o:TE T d ok cs) (h:∃ a b,us=a++b/\a.length=Tryz.prog.cellsOf T/\gM Tryz.prog MX (m+d) T a/\b=[]):∃ x,us=cs x++[]/\ok x:=by
  obtain⟨x,b,rfl,hx,rfl⟩:=nx o h
  exact⟨x,rfl,hx⟩
theorem tlS (o:TE T d ok cs) (hs:Tryz.prog.underlying T=some (.struct fs)) (ht:Tryz.prog.underlying T'=some (.slice T)) (hk:Tryz.prog.cellsOf T=k) (ha:∀ x,AV.agg (cs x)=av x):TE T' (d+1) (OL ok) (fun xs=>[LS k av xs]):=fun _ _ h=>
  Gce (ok:=ok) h ht hk fun us h=>by
    obtain⟨x,hx,rfl⟩:=o _ _ h
    exact⟨x,hx,(Jb0 hs).trans (ha x)⟩
theorem tlE (o:TE T d ok (fun x=>[av x])) (hs:isAgg Tryz.prog T=false) (ht:Tryz.prog.underlying T'=some (.slice T)) (hk:Tryz.prog.cellsOf T=k):TE T' (d+1) (OL ok) (fun xs=>[LS k av xs]):=fun _ _ h=>
  Gce (ok:=ok) h ht hk fun us h=>by
    obtain⟨x,hx,rfl⟩:=o _ _ h
    exact⟨x,hx,H86 hs⟩
theorem ar {H:Type} {enc:TypeId×Value→H} {W:World} {base:Nat} {spare:Nat→Bool} {held:Bool} {small:DataW H→Prop} (hsm:RF H MX small) {r:Reach} {b0:Nat} {v:Value} {d_:DataW H} {ps:List MemPlace} (o:TE T d ok cs) (hok:Q0d Tryz.prog (0+d) T=true)
    (hval:Value.okWide Tryz.prog W r b0 T v) (hd:DataW.Trod enc Tryz.prog W base spare held T v d_ ps) (hds:small d_):(∀ x∈ps,x.block < W.heap.size)/\∃ a,ok a/\D W (Ju W ⟨fun _=>none,fun _ _=>False⟩ []) (tU Tryz.prog T (cs a)) v:=by
  obtain⟨us,t,h⟩:=Q61 Q3b hsm hok hval hd hds
  obtain⟨a,ha,rfl⟩:=o 0 us t
  obtain⟨m,hm⟩:=hd
  exact⟨DataW.trod_lt m _ _ _ hm,a,ha,h⟩
end
theorem op3:TE 3 1 (OI .i64) (fun x=>[I64 x]):=fun _ _ h=>H44 h Tryz.underlying3
theorem op4:TE 4 1 OT (fun x=>[BL x]):=fun _ _ h=>J90 h Tryz.underlying4
theorem Qa8:TE 57 2 (OL (OI .i64)) (fun x=>[(LS 1 I64) x]):=tlE op3 (by kernel_rfl) Tryz.underlying57 (by kernel_rfl)
structure G5.ok (x:G5):Prop where
  Plugs:(OL (OI .i64)) x.Plugs
theorem op59:TE 59 3 G5.ok G5.cs:=fun _ _ h=>by
  obtain⟨x0,_,rfl,_,h⟩:=nx op3 (Z4 h Tryz.underlying59)
  obtain⟨x1,_,rfl,_,h⟩:=nx op3 h
  obtain⟨x2,_,rfl,_,h⟩:=nx op4 h
  obtain⟨x3,_,rfl,_,h⟩:=nx op3 h
  obtain⟨x4,_,rfl,_,h⟩:=nx op3 h
  obtain⟨x5,_,rfl,_,h⟩:=nx op3 h
  obtain⟨x6,_,rfl,_,h⟩:=nx op3 h
  obtain⟨x7,_,rfl,_,h⟩:=nx op3 h
  obtain⟨x8,_,rfl,o8,h⟩:=nx Qa8 h
  obtain⟨x9,_,rfl,_,h⟩:=nx op3 h
  obtain⟨x10,_,rfl,_,h⟩:=nx op3 h
  obtain⟨x11,rfl,_⟩:=nl op3 h
  exact⟨⟨x0,x1,x2,x3,x4,x5,x6,x7,x8,x9,x10,x11⟩,⟨o8⟩,rfl⟩
theorem op22:TE 22 4 (OL G5.ok) (fun x=>[(LS 12 G5.av) x]):=tlS op59 Tryz.underlying59 Tryz.underlying22 (by kernel_rfl) fun _=>rfl
structure Gv.ok (x:Gv):Prop where
  Rows:(OL (OI .i64)) x.Rows
theorem op61:TE 61 3 Gv.ok Gv.cs:=fun _ _ h=>by
  obtain⟨x0,_,rfl,_,h⟩:=nx op3 (Z4 h Tryz.underlying61)
  obtain⟨x1,rfl,o1⟩:=nl Qa8 h
  exact⟨⟨x0,x1⟩,⟨o1⟩,rfl⟩
theorem op23:TE 23 4 (OL Gv.ok) (fun x=>[(LS 2 Gv.av) x]):=tlS op61 Tryz.underlying61 Tryz.underlying23 (by kernel_rfl) fun _=>rfl
theorem op25:TE 25 2 OT Light.cs:=fun _ _ h=>by
  obtain⟨x0,_,rfl,_,h⟩:=nx op3 (Z4 h Tryz.underlying25)
  obtain⟨x1,_,rfl,_,h⟩:=nx op3 h
  obtain⟨x2,_,rfl,_,h⟩:=nx op3 h
  obtain⟨x3,rfl,_⟩:=nl op3 h
  exact⟨⟨x0,x1,x2,x3⟩,trivial,rfl⟩
theorem R35:TE 139 2 OT Row.cs:=fun _ _ h=>by
  obtain⟨x0,_,rfl,_,h⟩:=nx op3 (Z4 h Tryz.underlying139)
  obtain⟨x1,_,rfl,_,h⟩:=nx op3 h
  obtain⟨x2,_,rfl,_,h⟩:=nx op3 h
  obtain⟨x3,_,rfl,_,h⟩:=nx op3 h
  obtain⟨x4,rfl,_⟩:=nl op3 h
  exact⟨⟨x0,x1,x2,x3,x4⟩,trivial,rfl⟩
theorem op26:TE 26 3 (OL OT) (fun x=>[(LS 5 Row.av) x]):=tlS R35 Tryz.underlying139 Tryz.underlying26 (by kernel_rfl) fun _=>rfl
theorem R34:TE 142 2 OT Frame.cs:=fun _ _ h=>by
  obtain⟨x0,_,rfl,_,h⟩:=nx op3 (Z4 h Tryz.underlying142)
  obtain⟨x1,_,rfl,_,h⟩:=nx op3 h
  obtain⟨x2,_,rfl,_,h⟩:=nx op3 h
  obtain⟨x3,_,rfl,_,h⟩:=nx op3 h
  obtain⟨x4,rfl,_⟩:=nl op3 h
  exact⟨⟨x0,x1,x2,x3,x4⟩,trivial,rfl⟩
theorem op27:TE 27 3 (OL OT) (fun x=>[(LS 5 Frame.av) x]):=tlS R34 Tryz.underlying142 Tryz.underlying27 (by kernel_rfl) fun _=>rfl
structure Hz.ok (x:Hz):Prop where
  Steps:(OL (OI .i64)) x.Steps
theorem R33:TE 145 3 Hz.ok Hz.cs:=fun _ _ h=>by
  obtain⟨x0,_,rfl,_,h⟩:=nx op3 (Z4 h Tryz.underlying145)
  obtain⟨x1,_,rfl,_,h⟩:=nx op3 h
  obtain⟨x2,_,rfl,_,h⟩:=nx op3 h
  obtain⟨x3,_,rfl,_,h⟩:=nx op3 h
  obtain⟨x4,_,rfl,_,h⟩:=nx op3 h
  obtain⟨x5,rfl,o5⟩:=nl Qa8 h
  exact⟨⟨x0,x1,x2,x3,x4,x5⟩,⟨o5⟩,rfl⟩
theorem op28:TE 28 4 (OL Hz.ok) (fun x=>[(LS 6 Hz.av) x]):=tlS R33 Tryz.underlying145 Tryz.underlying28 (by kernel_rfl) fun _=>rfl
theorem op30:TE 30 2 OT Gj.cs:=fun _ _ h=>by
  obtain⟨x0,_,rfl,_,h⟩:=nx op3 (Z4 h Tryz.underlying30)
  obtain⟨x1,_,rfl,_,h⟩:=nx op3 h
  obtain⟨x2,_,rfl,_,h⟩:=nx op3 h
  obtain⟨x3,rfl,_⟩:=nl op3 h
  exact⟨⟨x0,x1,x2,x3⟩,trivial,rfl⟩
structure Ge.ok (x:Ge):Prop where
  Columns:(OL G5.ok) x.Columns
  Covers:(OL Gv.ok) x.Covers
  Rows:(OL OT) x.Rows
  Frames:(OL OT) x.Frames
  Tanks:(OL Hz.ok) x.Tanks
theorem op32:TE 32 5 Ge.ok Ge.cs:=fun _ _ h=>by
  obtain⟨x0,_,rfl,o0,h⟩:=nx op22 (Z4 h Tryz.underlying32)
  obtain⟨x1,_,rfl,o1,h⟩:=nx op23 h
  obtain⟨x2,_,rfl,_,h⟩:=nx op25 h
  obtain⟨x3,_,rfl,o3,h⟩:=nx op26 h
  obtain⟨x4,_,rfl,o4,h⟩:=nx op27 h
  obtain⟨x5,_,rfl,o5,h⟩:=nx op28 h
  obtain⟨x6,rfl,_⟩:=nl op30 h
  exact⟨⟨x0,x1,x2,x3,x4,x5,x6⟩,⟨o0,o1,o3,o4,o5⟩,rfl⟩
theorem op9:TE 9 1 OS (fun x=>[ST x]):=fun _ _ h=>H74 h Tryz.underlying9
theorem op5:TE 5 1 (OI .u8) (fun x=>[U8 x]):=fun _ _ h=>H44 h Tryz.underlying5
structure Box.ok (x:Box):Prop where
  Size:(OI .u8) x.Size
theorem op64:TE 64 2 Box.ok Box.cs:=fun _ _ h=>by
  obtain⟨x0,_,rfl,_,h⟩:=nx op3 (Z4 h Tryz.underlying64)
  obtain⟨x1,_,rfl,_,h⟩:=nx op9 h
  obtain⟨x2,_,rfl,o2,h⟩:=nx op5 h
  obtain⟨x3,_,rfl,_,h⟩:=nx op4 h
  obtain⟨x4,_,rfl,_,h⟩:=nx op3 h
  obtain⟨x5,_,rfl,_,h⟩:=nx op3 h
  obtain⟨x6,_,rfl,_,h⟩:=nx op3 h
  obtain⟨x7,_,rfl,_,h⟩:=nx op5 h
  obtain⟨x8,rfl,_⟩:=nl op4 h
  exact⟨⟨x0,x1,x2,x3,x4,x5,x6,x7,x8⟩,⟨o2⟩,rfl⟩
theorem op33:TE 33 3 (OL Box.ok) (fun x=>[(LS 9 Box.av) x]):=tlS op64 Tryz.underlying64 Tryz.underlying33 (by kernel_rfl) fun _=>rfl
theorem op66:TE 66 2 OT Slot.cs:=fun _ _ h=>by
  obtain⟨x0,_,rfl,_,h⟩:=nx op3 (Z4 h Tryz.underlying66)
  obtain⟨x1,_,rfl,_,h⟩:=nx op3 h
  obtain⟨x2,rfl,_⟩:=nl op5 h
  exact⟨⟨x0,x1,x2⟩,trivial,rfl⟩
theorem op68:TE 68 3 OT G2.cs:=fun _ _ h=>by
  obtain⟨x0,_,rfl,_,h⟩:=nx op3 (Z4 h Tryz.underlying68)
  obtain⟨x1,rfl,_⟩:=nl op66 h
  exact⟨⟨x0,x1⟩,trivial,rfl⟩
theorem op41:TE 41 4 (OL OT) (fun x=>[(LS 4 G2.av) x]):=tlS op68 Tryz.underlying68 Tryz.underlying41 (by kernel_rfl) fun _=>rfl
theorem op34:TE 34 5 (OL (OL OT)) (fun x=>[(LS 1 (LS 4 G2.av)) x]):=tlE op41 (by kernel_rfl) Tryz.underlying34 (by kernel_rfl)
theorem op35:TE 35 3 (OL (OL (OI .i64))) (fun x=>[(LS 1 (LS 1 I64)) x]):=tlE Qa8 (by kernel_rfl) Tryz.underlying35 (by kernel_rfl)
structure dO.ok (x:dO):Prop where
  States:(OL (OL OT)) x.States
  Water:(OL (OL (OI .i64))) x.Water
theorem op37:TE 37 6 dO.ok dO.cs:=fun _ _ h=>by
  obtain⟨x0,_,rfl,o0,h⟩:=nx op34 (Z4 h Tryz.underlying37)
  obtain⟨x1,rfl,o1⟩:=nl op35 h
  exact⟨⟨x0,x1⟩,⟨o0,o1⟩,rfl⟩
theorem op77:TE 77 3 OT Move.cs:=fun _ _ h=>by
  obtain⟨x0,_,rfl,_,h⟩:=nx op5 (Z4 h Tryz.underlying77)
  obtain⟨x1,_,rfl,_,h⟩:=nx op3 h
  obtain⟨x2,_,rfl,_,h⟩:=nx op66 h
  obtain⟨x3,rfl,_⟩:=nl op3 h
  exact⟨⟨x0,x1,x2,x3⟩,trivial,rfl⟩
theorem op38:TE 38 4 (OL OT) (fun x=>[(LS 6 Move.av) x]):=tlS op77 Tryz.underlying77 Tryz.underlying38 (by kernel_rfl) fun _=>rfl
end
theorem fnq:Tryz.prog.funcs[3]? = some Tryz.f3:=Tryz.func3
theorem own:ownKnob Tryz.prog.godebug=none:=by kernel_rfl
theorem laidOut:laidOutB Tryz.prog=true:=by kernel_rfl
theorem unB:Tryz.prog.underlying 4=some .bool:=by kernel_rfl

theorem lifted (os:Os) (started:os.Started) (H:Type) (enc:TypeId×Value→H) (F:Stop.Interp) :
    ReturnsInHanded {} Tryz.checked os 3 .any ((Rows.OpenSpec.upto Rows.movesTellsSpec).pre6 enc Tryz.prog Tryz.f3 Rows.movesTellsUptoRow.domain false) (((Rows.OpenSpec.upto Rows.movesTellsSpec).at F).post enc Tryz.prog Tryz.f3 false true false false):=by
  refine returnsInHanded_of_cond (C:=Tryz.checked) (s:=Rows.OpenSpec.upto Rows.movesTellsSpec) (k:=Rows.uptoSmall) rfl own started (by kernel_rfl) Tryz.func3
    (OpenSpec.witness (enc:=enc) (C:=Tryz.checked) (s:=Rows.OpenSpec.upto Rows.movesTellsSpec) (k:=Rows.uptoSmall) rfl false ⟨#[],#[.agg #[.slice none 0 0,.slice none 0 0,.int .i64 0,.int .i64 0,.int .i64 0,.int .i64 0,.slice none 0 0,.slice none 0 0,.slice none 0 0,.int .i64 0,.int .i64 0,.int .i64 0,.int .i64 0],.slice none 0 0,.int .i64 0,.agg #[.slice none 0 0,.slice none 0 0],.slice none 0 0],[]⟩ 8 (by kernel_rfl) (by kernel_rfl) (by kernel_rfl)
      (x:=([.agg [.nil,.nil,.agg [.lit (.int .i64 0),.lit (.int .i64 0),.lit (.int .i64 0),.lit (.int .i64 0)],.nil,.nil,.nil,.agg [.lit (.int .i64 0),.lit (.int .i64 0),.lit (.int .i64 0),.lit (.int .i64 0)]],.nil,.lit (.int .i64 0),.agg [.nil,.nil],.nil],[],[])) (by kernel_rfl) rfl (by kernel_rfl)) ?_
  intro W base args ds gs before hval0 hW _ hk _
  show Calls _ _ _ _ fun e W'=>∃ v,e=.returned v/\Rows.movesTellsSpec.post enc Tryz.prog Tryz.f3 false true false false W args v W'
  have hval:∀ (j:Nat) t v,Tryz.f3.params[j]? = some t→args[j]? = some v→Value.okWide Tryz.prog W .any base t v:=hval0
  have hW':=hW
  obtain⟨p,q,hA0,hV,rfl,hfz,hnd⟩:=hW
  have hA:DataW.TrodAll enc Tryz.prog W 0 (fun _=>true) true Tryz.f3.params.toList args.toList ds p:=hA0
  rw [Tryz.params3] at hA hval
  obtain⟨v0,vs0,d0,ds0,p0,q0,hargs,rfl,rfl,h0,r0⟩:=trodAll_cons hA
  obtain⟨v1,vs1,d1,ds1,p1,q1,rfl,rfl,rfl,h1,r1⟩:=trodAll_cons r0
  obtain⟨v2,vs2,d2,ds2,p2,q2,rfl,rfl,rfl,h2,r2⟩:=trodAll_cons r1
  obtain⟨v3,vs3,d3,ds3,p3,q3,rfl,rfl,rfl,h3,r3⟩:=trodAll_cons r2
  obtain⟨v4,vs4,d4,ds4,p4,q4,rfl,rfl,rfl,h4,r4⟩:=trodAll_cons r3
  obtain⟨rfl,rfl,rfl⟩:=trodAll_nil r4
  obtain rfl:args=#[v0,v1,v2,v3,v4]:=by cases args; simp_all
  obtain⟨rfl,rfl⟩:=trodVars_none hV
  have hks:Rows.uptoBulkAll [d0,d1,d2,d3,d4]≤1048576:=by
    have:=of_decide_eq_true hk
    simpa using this
  simp only [Rows.uptoBulkAll] at hks
  obtain⟨lt0,a0,o0,D0⟩:=ar JD op32 (by kernel_rfl) (hval 0 32 v0 rfl rfl) h0 (by omega)
  rw [Jb0 Tryz.underlying32] at D0
  obtain⟨lt1,a1,o1,D1⟩:=ar JD op33 (by kernel_rfl) (hval 1 33 v1 rfl rfl) h1 (by omega)
  rw [H86 (by kernel_rfl)] at D1
  obtain⟨lt2,a2,o2,D2⟩:=ar JD op3 (by kernel_rfl) (hval 2 3 v2 rfl rfl) h2 (by omega)
  rw [H86 (by kernel_rfl)] at D2
  obtain⟨lt3,a3,o3,D3⟩:=ar JD op37 (by kernel_rfl) (hval 3 37 v3 rfl rfl) h3 (by omega)
  rw [Jb0 Tryz.underlying37] at D3
  obtain⟨lt4,a4,o4,D4⟩:=ar JD op38 (by kernel_rfl) (hval 4 38 v4 rfl rfl) h4 (by omega)
  rw [H86 (by kernel_rfl)] at D4
  refine(Qa5 (qW 60 a0 a1 a2 a3 a4 (Ja8 a0 a1 a2 a3 a4 ⟨o0.Columns.2,fun c hc=>(o0.Columns.1 c hc).Plugs.2,o0.Covers.2,fun x hx=>(o0.Covers.1 x hx).Rows.2,o0.Rows.2,o0.Frames.2,o0.Tanks.2,fun x hx=>(o0.Tanks.1 x hx).Steps.2⟩ (fun b hb=>u8r (o1.1 b hb).Size) o1.2 ⟨o3.States.2,fun x hx=>(o3.States.1 x hx).2,o3.Water.2,fun x hx=>(o3.Water.1 x hx).2⟩)) rfl (fun j u v hu hv=>?_)).mono fun e W' h=>?_
  · match j,hu,hv with
    | 0,hu,hv=>cases hu; cases hv; exact D0
    | 1,hu,hv=>cases hu; cases hv; exact D1
    | 2,hu,hv=>cases hu; cases hv; exact D2
    | 3,hu,hv=>cases hu; cases hv; exact D3
    | 4,hu,hv=>cases hu; cases hv; exact D4
    | j+5,hu,hv=>cases hu
  · obtain⟨v,r,J',he,bel,hv,rfl⟩:=h
    subst he
    cases hv with | data hv=>cases hv with | sc=>
    exact⟨_,rfl,_,_,_,[],_,[],hW',trodAll_mk1 (shut_bool unB _),(trodAll_cons_mk (Below.trod laidOut (by kernel_rfl) (of_decide_eq_true (by kernel_rfl)) h0 bel lt0) (trodAll_cons_mk (Below.trod laidOut (by kernel_rfl) (of_decide_eq_true (by kernel_rfl)) h1 bel lt1) (trodAll_cons_mk (Below.trod laidOut (by kernel_rfl) (of_decide_eq_true (by kernel_rfl)) h2 bel lt2) (trodAll_cons_mk (Below.trod laidOut (by kernel_rfl) (of_decide_eq_true (by kernel_rfl)) h3 bel lt3) (trodAll_cons_mk (Below.trod laidOut (by kernel_rfl) (of_decide_eq_true (by kernel_rfl)) h4 bel lt4) trodAll_mk0))))),rfl,bel.frame _,fun h=>by cases h⟩

theorem R3d {a b:Bool} (ha:a=true) (hb:b=true):(a&&b)=true:=by rw [ha,hb]; rfl
set_option maxHeartbeats 4000000 in
theorem facts:joinedFacts Tryz.pinned.checked.prog 3 Tryz.f3 (Rows.OpenSpec.upto Rows.movesTellsSpec).bare Rows.movesTellsUptoRow=true:=by
  unfold joinedFacts
  repeat' with_reducible refine R3d ?_ ?_
  all_goals as_aux_lemma=>kernel_rfl
end GMovesTells

/-- The given statement. -/
theorem movesTellsUpto_holds : Rows.MovesTellsUptoSaid :=
  OpenClaim.holds_of_cond 3 Tryz.f3 rfl rfl rfl rfl rfl rfl rfl ⟨rfl,rfl,rfl,rfl,rfl⟩ rfl rfl rfl rfl rfl (by kernel_rfl) Tryz.func3 GMovesTells.facts
    (of_decide_eq_true (by kernel_rfl)) (by unfold Func.isWrapper; first | (rw [if_pos (by decide +kernel)]; kernel_rfl) | (rw [if_neg (by decide +kernel)]; exact⟨rfl,rfl⟩))
    (fun os started H enc _ F=>GMovesTells.lifted os started H enc F)
#print axioms movesTellsUpto_holds
end Go.Proofs.YtkiekighbhnolaaGreat

