/-
  PlanTells,as it is given: whatever the arguments,the law returns true,and the arguments read as they did. One condition: the arguments hold together at most 1048576 values and letters.
-/
import Derived.Test.YthkihfoleenlmaaGreatRows
import Derived.Test.YthkihfoleenlmaaGreatEnds
import Derived.Test.YthkihfoleenlmaaGreatPlaC
import Derived.ChangeSame
import Derived.Carry
import Derived.JoinedCond
set_option maxRecDepth 100000
set_option linter.unusedVariables false
namespace Go.Proofs.YthkihfoleenlmaaGreat
open Go.RowKit Go.ChangeShapes Go.WideShapes Go.ChangeAt
namespace GPlanTells
noncomputable section
abbrev MX:Nat:=1048576
theorem Je5 {H:Type} (d:DataW H):1≤Rows.uptoBulk d:=by
  cases d with
  | lit l=>cases l <;> simp [Rows.uptoBulk]
  | _=>simp [Rows.uptoBulk]
theorem Hb6 {H:Type} {d:DataW H} {l:List (DataW H)} (h:d∈l):Rows.uptoBulk d≤Rows.uptoBulkAll l:=by
  induction l with
  | nil=>cases h
  | cons x r ih=>
    simp only [Rows.uptoBulkAll]
    cases List.mem_cons.1 h with
    | inl e=>subst e; omega
    | inr e=>have:=ih e; omega
theorem length_le {H:Type} (l:List (DataW H)):l.length≤Rows.uptoBulkAll l:=by
  induction l with
  | nil=>simp [Rows.uptoBulkAll]
  | cons x r ih=>have:=Je5 x; simp only [Rows.uptoBulkAll,List.length_cons]; omega
theorem wF {H:Type}:xR H MX (fun d=>Rows.uptoBulk d≤1048576) where
  slice:=fun elems spare h _=>by
    simp only [Rows.uptoBulk] at h
    have:=length_le elems
    exact⟨by unfold MX; omega,fun e he=>by have:=Hb6 he; omega⟩
  agg:=fun parts h p hp=>by
    simp only [Rows.uptoBulk] at h
    have:=Hb6 hp
    omega
abbrev OI (k:IntKind) (z:Int):Prop:=(Lit.int k z).wf=true
abbrev OT {J:Type} (_:J):Prop:=True
abbrev OS (s:ByteArray):Prop:=s.size≤maxLen
abbrev OL {J:Type} (ok:J→Prop) (xs:List J):Prop:=(∀ x∈xs,ok x)/\xs.length≤MX
section
variable {J:Type} {T T' d k m:Nat} {ok:J→Prop} {cs:J→List AV} {av:J→AV} {us:List AV} {K:List AV→Prop} {fs:Array Field}
abbrev TE (T d:Nat) (ok:J→Prop) (cs:J→List AV):Prop:=∀ n us,eU Tryz.prog MX (n+d) T us→∃ x:J,ok x/\us=cs x
theorem nx (o:TE T d ok cs) (h:∃ a b,us=a++b/\a.length=Tryz.prog.cellsOf T/\eU Tryz.prog MX (m+d) T a/\K b):∃ x b,us=cs x++b/\ok x/\K b:=by
  obtain⟨a,b,rfl,_,h,hk⟩:=h
  obtain⟨x,hx,rfl⟩:=o _ _ h
  exact⟨x,b,rfl,hx,hk⟩
theorem nl (o:TE T d ok cs) (h:∃ a b,us=a++b/\a.length=Tryz.prog.cellsOf T/\eU Tryz.prog MX (m+d) T a/\b=[]):∃ x,us=cs x++[]/\ok x:=by
  obtain⟨x,b,rfl,hx,rfl⟩:=nx o h
  exact⟨x,rfl,hx⟩
theorem tlS (o:TE T d ok cs) (hs:Tryz.prog.underlying T=some (.struct fs)) (ht:Tryz.prog.underlying T'=some (.slice T)) (hk:Tryz.prog.cellsOf T=k) (ha:∀ x,AV.agg (cs x)=av x):TE T' (d+1) (OL ok) (fun xs=>[LS k av xs]):=fun _ _ h=>
  G01 (ok:=ok) h ht hk fun us h=>by
    obtain⟨x,hx,rfl⟩:=o _ _ h
    exact⟨x,hx,(H93 hs).trans (ha x)⟩
theorem tlE (o:TE T d ok (fun x=>[av x])) (hs:isAgg Tryz.prog T=false) (ht:Tryz.prog.underlying T'=some (.slice T)) (hk:Tryz.prog.cellsOf T=k):TE T' (d+1) (OL ok) (fun xs=>[LS k av xs]):=fun _ _ h=>
  G01 (ok:=ok) h ht hk fun us h=>by
    obtain⟨x,hx,rfl⟩:=o _ _ h
    exact⟨x,hx,Gac hs⟩
theorem ar {H:Type} {enc:TypeId×Value→H} {W:World} {base:Nat} {spare:Nat→Bool} {held:Bool} {small:DataW H→Prop} (hsm:xR H MX small) {r:Reach} {b0:Nat} {v:Value} {d_:DataW H} {ps:List MemPlace} (o:TE T d ok cs) (hok:Hf2 Tryz.prog (0+d) T=true)
    (hval:Value.okWide Tryz.prog W r b0 T v) (hd:DataW.Trod enc Tryz.prog W base spare held T v d_ ps) (hds:small d_):(∀ x∈ps,x.block < W.heap.size)/\∃ a,ok a/\D W (Ji W ⟨fun _=>none,fun _ _=>False⟩ []) (pB Tryz.prog T (cs a)) v:=by
  obtain⟨us,t,h⟩:=J3e J1c hsm hok hval hd hds
  obtain⟨a,ha,rfl⟩:=o 0 us t
  obtain⟨m,hm⟩:=hd
  exact⟨DataW.trod_lt m _ _ _ hm,a,ha,h⟩
end
theorem op3:TE 3 1 (OI .i64) (fun x=>[I64 x]):=fun _ _ h=>G75 h Tryz.underlying3
theorem op4:TE 4 1 OT (fun x=>[BL x]):=fun _ _ h=>H79 h Tryz.underlying4
theorem J95:TE 51 2 (OL (OI .i64)) (fun x=>[(LS 1 I64) x]):=tlE op3 (by kernel_rfl) Tryz.underlying51 (by kernel_rfl)
structure G6.ok (x:G6):Prop where
  Plugs:(OL (OI .i64)) x.Plugs
theorem op71:TE 71 3 G6.ok G6.cs:=fun _ _ h=>by
  obtain⟨x0,_,rfl,_,h⟩:=nx op3 (Zn h Tryz.underlying71)
  obtain⟨x1,_,rfl,_,h⟩:=nx op3 h
  obtain⟨x2,_,rfl,_,h⟩:=nx op4 h
  obtain⟨x3,_,rfl,_,h⟩:=nx op3 h
  obtain⟨x4,_,rfl,_,h⟩:=nx op3 h
  obtain⟨x5,_,rfl,_,h⟩:=nx op3 h
  obtain⟨x6,_,rfl,_,h⟩:=nx op3 h
  obtain⟨x7,_,rfl,_,h⟩:=nx op3 h
  obtain⟨x8,_,rfl,o8,h⟩:=nx J95 h
  obtain⟨x9,_,rfl,_,h⟩:=nx op3 h
  obtain⟨x10,_,rfl,_,h⟩:=nx op3 h
  obtain⟨x11,rfl,_⟩:=nl op3 h
  exact⟨⟨x0,x1,x2,x3,x4,x5,x6,x7,x8,x9,x10,x11⟩,⟨o8⟩,rfl⟩
theorem op22:TE 22 4 (OL G6.ok) (fun x=>[(LS 12 G6.av) x]):=tlS op71 Tryz.underlying71 Tryz.underlying22 (by kernel_rfl) fun _=>rfl
structure H3.ok (x:H3):Prop where
  Rows:(OL (OI .i64)) x.Rows
theorem op73:TE 73 3 H3.ok H3.cs:=fun _ _ h=>by
  obtain⟨x0,_,rfl,_,h⟩:=nx op3 (Zn h Tryz.underlying73)
  obtain⟨x1,rfl,o1⟩:=nl J95 h
  exact⟨⟨x0,x1⟩,⟨o1⟩,rfl⟩
theorem op23:TE 23 4 (OL H3.ok) (fun x=>[(LS 2 H3.av) x]):=tlS op73 Tryz.underlying73 Tryz.underlying23 (by kernel_rfl) fun _=>rfl
theorem op25:TE 25 2 OT Light.cs:=fun _ _ h=>by
  obtain⟨x0,_,rfl,_,h⟩:=nx op3 (Zn h Tryz.underlying25)
  obtain⟨x1,_,rfl,_,h⟩:=nx op3 h
  obtain⟨x2,_,rfl,_,h⟩:=nx op3 h
  obtain⟨x3,rfl,_⟩:=nl op3 h
  exact⟨⟨x0,x1,x2,x3⟩,trivial,rfl⟩
theorem Q2b:TE 171 2 OT Row.cs:=fun _ _ h=>by
  obtain⟨x0,_,rfl,_,h⟩:=nx op3 (Zn h Tryz.underlying171)
  obtain⟨x1,_,rfl,_,h⟩:=nx op3 h
  obtain⟨x2,_,rfl,_,h⟩:=nx op3 h
  obtain⟨x3,_,rfl,_,h⟩:=nx op3 h
  obtain⟨x4,rfl,_⟩:=nl op3 h
  exact⟨⟨x0,x1,x2,x3,x4⟩,trivial,rfl⟩
theorem op26:TE 26 3 (OL OT) (fun x=>[(LS 5 Row.av) x]):=tlS Q2b Tryz.underlying171 Tryz.underlying26 (by kernel_rfl) fun _=>rfl
theorem Q2a:TE 174 2 OT Frame.cs:=fun _ _ h=>by
  obtain⟨x0,_,rfl,_,h⟩:=nx op3 (Zn h Tryz.underlying174)
  obtain⟨x1,_,rfl,_,h⟩:=nx op3 h
  obtain⟨x2,_,rfl,_,h⟩:=nx op3 h
  obtain⟨x3,_,rfl,_,h⟩:=nx op3 h
  obtain⟨x4,rfl,_⟩:=nl op3 h
  exact⟨⟨x0,x1,x2,x3,x4⟩,trivial,rfl⟩
theorem op27:TE 27 3 (OL OT) (fun x=>[(LS 5 Frame.av) x]):=tlS Q2a Tryz.underlying174 Tryz.underlying27 (by kernel_rfl) fun _=>rfl
structure Hg.ok (x:Hg):Prop where
  Steps:(OL (OI .i64)) x.Steps
theorem Q29:TE 177 3 Hg.ok Hg.cs:=fun _ _ h=>by
  obtain⟨x0,_,rfl,_,h⟩:=nx op3 (Zn h Tryz.underlying177)
  obtain⟨x1,_,rfl,_,h⟩:=nx op3 h
  obtain⟨x2,_,rfl,_,h⟩:=nx op3 h
  obtain⟨x3,_,rfl,_,h⟩:=nx op3 h
  obtain⟨x4,_,rfl,_,h⟩:=nx op3 h
  obtain⟨x5,rfl,o5⟩:=nl J95 h
  exact⟨⟨x0,x1,x2,x3,x4,x5⟩,⟨o5⟩,rfl⟩
theorem op28:TE 28 4 (OL Hg.ok) (fun x=>[(LS 6 Hg.av) x]):=tlS Q29 Tryz.underlying177 Tryz.underlying28 (by kernel_rfl) fun _=>rfl
theorem op30:TE 30 2 OT Gk.cs:=fun _ _ h=>by
  obtain⟨x0,_,rfl,_,h⟩:=nx op3 (Zn h Tryz.underlying30)
  obtain⟨x1,_,rfl,_,h⟩:=nx op3 h
  obtain⟨x2,_,rfl,_,h⟩:=nx op3 h
  obtain⟨x3,rfl,_⟩:=nl op3 h
  exact⟨⟨x0,x1,x2,x3⟩,trivial,rfl⟩
structure Gq.ok (x:Gq):Prop where
  Columns:(OL G6.ok) x.Columns
  Covers:(OL H3.ok) x.Covers
  Rows:(OL OT) x.Rows
  Frames:(OL OT) x.Frames
  Tanks:(OL Hg.ok) x.Tanks
theorem op32:TE 32 5 Gq.ok Gq.cs:=fun _ _ h=>by
  obtain⟨x0,_,rfl,o0,h⟩:=nx op22 (Zn h Tryz.underlying32)
  obtain⟨x1,_,rfl,o1,h⟩:=nx op23 h
  obtain⟨x2,_,rfl,_,h⟩:=nx op25 h
  obtain⟨x3,_,rfl,o3,h⟩:=nx op26 h
  obtain⟨x4,_,rfl,o4,h⟩:=nx op27 h
  obtain⟨x5,_,rfl,o5,h⟩:=nx op28 h
  obtain⟨x6,rfl,_⟩:=nl op30 h
  exact⟨⟨x0,x1,x2,x3,x4,x5,x6⟩,⟨o0,o1,o3,o4,o5⟩,rfl⟩
theorem op9:TE 9 1 OS (fun x=>[ST x]):=fun _ _ h=>G9d h Tryz.underlying9
theorem op5:TE 5 1 (OI .u8) (fun x=>[U8 x]):=fun _ _ h=>G75 h Tryz.underlying5
structure Box.ok (x:Box):Prop where
  Size:(OI .u8) x.Size
theorem op77:TE 77 2 Box.ok Box.cs:=fun _ _ h=>by
  obtain⟨x0,_,rfl,_,h⟩:=nx op3 (Zn h Tryz.underlying77)
  obtain⟨x1,_,rfl,_,h⟩:=nx op9 h
  obtain⟨x2,_,rfl,o2,h⟩:=nx op5 h
  obtain⟨x3,_,rfl,_,h⟩:=nx op4 h
  obtain⟨x4,_,rfl,_,h⟩:=nx op3 h
  obtain⟨x5,_,rfl,_,h⟩:=nx op3 h
  obtain⟨x6,_,rfl,_,h⟩:=nx op3 h
  obtain⟨x7,_,rfl,_,h⟩:=nx op5 h
  obtain⟨x8,rfl,_⟩:=nl op4 h
  exact⟨⟨x0,x1,x2,x3,x4,x5,x6,x7,x8⟩,⟨o2⟩,rfl⟩
theorem op33:TE 33 3 (OL Box.ok) (fun x=>[(LS 9 Box.av) x]):=tlS op77 Tryz.underlying77 Tryz.underlying33 (by kernel_rfl) fun _=>rfl
theorem op81:TE 81 2 OT Slot.cs:=fun _ _ h=>by
  obtain⟨x0,_,rfl,_,h⟩:=nx op3 (Zn h Tryz.underlying81)
  obtain⟨x1,_,rfl,_,h⟩:=nx op3 h
  obtain⟨x2,rfl,_⟩:=nl op5 h
  exact⟨⟨x0,x1,x2⟩,trivial,rfl⟩
theorem op83:TE 83 3 OT G2.cs:=fun _ _ h=>by
  obtain⟨x0,_,rfl,_,h⟩:=nx op3 (Zn h Tryz.underlying83)
  obtain⟨x1,rfl,_⟩:=nl op81 h
  exact⟨⟨x0,x1⟩,trivial,rfl⟩
theorem op74:TE 74 4 (OL OT) (fun x=>[(LS 4 G2.av) x]):=tlS op83 Tryz.underlying83 Tryz.underlying74 (by kernel_rfl) fun _=>rfl
theorem op34:TE 34 5 (OL (OL OT)) (fun x=>[(LS 1 (LS 4 G2.av)) x]):=tlE op74 (by kernel_rfl) Tryz.underlying34 (by kernel_rfl)
theorem op35:TE 35 3 (OL (OL (OI .i64))) (fun x=>[(LS 1 (LS 1 I64)) x]):=tlE J95 (by kernel_rfl) Tryz.underlying35 (by kernel_rfl)
structure Ya.ok (x:Ya):Prop where
  States:(OL (OL OT)) x.States
  Water:(OL (OL (OI .i64))) x.Water
theorem op37:TE 37 6 Ya.ok Ya.cs:=fun _ _ h=>by
  obtain⟨x0,_,rfl,o0,h⟩:=nx op34 (Zn h Tryz.underlying37)
  obtain⟨x1,rfl,o1⟩:=nl op35 h
  exact⟨⟨x0,x1⟩,⟨o0,o1⟩,rfl⟩
end
theorem fnq:Tryz.prog.funcs[3]? = some Tryz.f3:=Tryz.func3
theorem own:ownKnob Tryz.prog.godebug=none:=by kernel_rfl
theorem laidOut:laidOutB Tryz.prog=true:=by kernel_rfl
theorem unB:Tryz.prog.underlying 4=some .bool:=by kernel_rfl

theorem lifted (os:Os) (started:os.Started) (H:Type) (enc:TypeId×Value→H) (F:Stop.Interp) :
    ReturnsInHanded {} Tryz.checked os 3 .any ((Rows.OpenSpec.upto Rows.planTellsSpec).pre6 enc Tryz.prog Tryz.f3 Rows.planTellsUptoRow.domain false) (((Rows.OpenSpec.upto Rows.planTellsSpec).at F).post enc Tryz.prog Tryz.f3 false true false false):=by
  refine returnsInHanded_of_cond (C:=Tryz.checked) (s:=Rows.OpenSpec.upto Rows.planTellsSpec) (k:=Rows.uptoSmall) rfl own started (by kernel_rfl) Tryz.func3
    (OpenSpec.witness (enc:=enc) (C:=Tryz.checked) (s:=Rows.OpenSpec.upto Rows.planTellsSpec) (k:=Rows.uptoSmall) rfl false ⟨#[],#[.agg #[.slice none 0 0,.slice none 0 0,.int .i64 0,.int .i64 0,.int .i64 0,.int .i64 0,.slice none 0 0,.slice none 0 0,.slice none 0 0,.int .i64 0,.int .i64 0,.int .i64 0,.int .i64 0],.slice none 0 0,.int .i64 0,.int .i64 0,.agg #[.slice none 0 0,.slice none 0 0]],[]⟩ 8 (by kernel_rfl) (by kernel_rfl) (by kernel_rfl)
      (x:=([.agg [.nil,.nil,.agg [.lit (.int .i64 0),.lit (.int .i64 0),.lit (.int .i64 0),.lit (.int .i64 0)],.nil,.nil,.nil,.agg [.lit (.int .i64 0),.lit (.int .i64 0),.lit (.int .i64 0),.lit (.int .i64 0)]],.nil,.lit (.int .i64 0),.lit (.int .i64 0),.agg [.nil,.nil]],[],[])) (by kernel_rfl) rfl (by kernel_rfl)) ?_
  intro W base args ds gs before hval0 hW _ hk _
  show Calls _ _ _ _ fun e W'=>∃ v,e=.returned v/\Rows.planTellsSpec.post enc Tryz.prog Tryz.f3 false true false false W args v W'
  have hval:∀ (j:Nat) t v,Tryz.f3.params[j]? = some t→args[j]? = some v→Value.okWide Tryz.prog W .any base t v:=hval0
  have hW':=hW
  obtain⟨p,q,hA0,hV,rfl,hfz,hnd⟩:=hW
  have hA:DataW.TrodAll enc Tryz.prog W 0 (fun _=>true) true Tryz.f3.params.toList args.toList ds p:=hA0
  rw [Tryz.params3] at hA hval
  obtain⟨v0,vs0,d0,ds0,p0,q0,hargs,rfl,rfl,h0,r0⟩:=trodAll_cons hA
  obtain⟨v1,vs1,d1,ds1,p1,q1,rfl,rfl,rfl,h1,r1⟩:=trodAll_cons r0
  obtain⟨v2,vs2,d2,ds2,p2,q2,rfl,rfl,rfl,h2,r2⟩:=trodAll_cons r1
  obtain⟨v3,vs3,d3,ds3,p3,q3,rfl,rfl,rfl,h3,r3⟩:=trodAll_cons r2
  obtain⟨v4,vs4,d4,ds4,p4,q4,rfl,rfl,rfl,h4,r4⟩:=trodAll_cons r3
  obtain⟨rfl,rfl,rfl⟩:=trodAll_nil r4
  obtain rfl:args=#[v0,v1,v2,v3,v4]:=by cases args; simp_all
  obtain⟨rfl,rfl⟩:=trodVars_none hV
  have hks:Rows.uptoBulkAll [d0,d1,d2,d3,d4]≤1048576:=by
    have:=of_decide_eq_true hk
    simpa using this
  simp only [Rows.uptoBulkAll] at hks
  obtain⟨lt0,a0,o0,D0⟩:=ar wF op32 (by kernel_rfl) (hval 0 32 v0 rfl rfl) h0 (by omega)
  rw [H93 Tryz.underlying32] at D0
  obtain⟨lt1,a1,o1,D1⟩:=ar wF op33 (by kernel_rfl) (hval 1 33 v1 rfl rfl) h1 (by omega)
  rw [Gac (by kernel_rfl)] at D1
  obtain⟨lt2,a2,o2,D2⟩:=ar wF op3 (by kernel_rfl) (hval 2 3 v2 rfl rfl) h2 (by omega)
  rw [Gac (by kernel_rfl)] at D2
  obtain⟨lt3,a3,o3,D3⟩:=ar wF op3 (by kernel_rfl) (hval 3 3 v3 rfl rfl) h3 (by omega)
  rw [Gac (by kernel_rfl)] at D3
  obtain⟨lt4,a4,o4,D4⟩:=ar wF op37 (by kernel_rfl) (hval 4 37 v4 rfl rfl) h4 (by omega)
  rw [H93 Tryz.underlying37] at D4
  refine(J92 (mV 60 a0 a1 a2 a3 a4 (H8d a0 a1 a2 a3 a4 ⟨o0.Columns.2,fun c hc=>(o0.Columns.1 c hc).Plugs.2,o0.Covers.2,fun x hx=>(o0.Covers.1 x hx).Rows.2,o0.Rows.2,o0.Frames.2,o0.Tanks.2,fun x hx=>(o0.Tanks.1 x hx).Steps.2⟩ (fun b hb=>u8r (o1.1 b hb).Size) o1.2 ⟨o4.States.2,fun x hx=>(o4.States.1 x hx).2,o4.Water.2,fun x hx=>(o4.Water.1 x hx).2⟩)) rfl (fun j u v hu hv=>?_)).mono fun e W' h=>?_
  · match j,hu,hv with
    | 0,hu,hv=>cases hu; cases hv; exact D0
    | 1,hu,hv=>cases hu; cases hv; exact D1
    | 2,hu,hv=>cases hu; cases hv; exact D2
    | 3,hu,hv=>cases hu; cases hv; exact D3
    | 4,hu,hv=>cases hu; cases hv; exact D4
    | j+5,hu,hv=>cases hu
  · obtain⟨v,r,J',he,bel,hv,rfl⟩:=h
    subst he
    cases hv with | data hv=>cases hv with | sc=>
    exact⟨_,rfl,_,_,_,[],_,[],hW',trodAll_mk1 (shut_bool unB _),(trodAll_cons_mk (Below.trod laidOut (by kernel_rfl) (of_decide_eq_true (by kernel_rfl)) h0 bel lt0) (trodAll_cons_mk (Below.trod laidOut (by kernel_rfl) (of_decide_eq_true (by kernel_rfl)) h1 bel lt1) (trodAll_cons_mk (Below.trod laidOut (by kernel_rfl) (of_decide_eq_true (by kernel_rfl)) h2 bel lt2) (trodAll_cons_mk (Below.trod laidOut (by kernel_rfl) (of_decide_eq_true (by kernel_rfl)) h3 bel lt3) (trodAll_cons_mk (Below.trod laidOut (by kernel_rfl) (of_decide_eq_true (by kernel_rfl)) h4 bel lt4) trodAll_mk0))))),rfl,bel.frame _,fun h=>by cases h⟩

theorem Q32 {a b:Bool} (ha:a=true) (hb:b=true):(a&&b)=true:=by rw [ha,hb]; rfl
set_option maxHeartbeats 4000000 in
theorem facts:joinedFacts Tryz.pinned.checked.prog 3 Tryz.f3 (Rows.OpenSpec.upto Rows.planTellsSpec).bare Rows.planTellsUptoRow=true:=by
  unfold joinedFacts
  repeat' with_reducible refine Q32 ?_ ?_
  all_goals as_aux_lemma=>kernel_rfl
end GPlanTells

/-- The given statement. -/
theorem planTellsUpto_holds : Rows.PlanTellsUptoSaid :=
  OpenClaim.holds_of_cond 3 Tryz.f3 rfl rfl rfl rfl rfl rfl rfl ⟨rfl,rfl,rfl,rfl,rfl⟩ rfl rfl rfl rfl rfl (by kernel_rfl) Tryz.func3 GPlanTells.facts
    (of_decide_eq_true (by kernel_rfl)) (by unfold Func.isWrapper; first | (rw [if_pos (by decide +kernel)]; kernel_rfl) | (rw [if_neg (by decide +kernel)]; exact⟨rfl,rfl⟩))
    (fun os started H enc _ F=>GPlanTells.lifted os started H enc F)
#print axioms planTellsUpto_holds
end Go.Proofs.YthkihfoleenlmaaGreat

