/-
  SearchStates,as it is given: whatever the arguments,the law returns true,and the arguments read as they did. One condition: the arguments hold together at most 1048576 values and letters.
-/
import Derived.Test.YtbgfgnddogfpcaaGreatRows
import Derived.Test.YtbgfgnddogfpcaaGreatEnds
import Derived.Test.YtbgfgnddogfpcaaGreatStaL
import Derived.ChangeSame
import Derived.Carry
import Derived.JoinedCond
set_option maxRecDepth 100000
set_option linter.unusedVariables false
namespace Go.Proofs.YtbgfgnddogfpcaaGreat
open Go.RowKit Go.ChangeShapes Go.WideShapes Go.ChangeAt
namespace GSearchStates
noncomputable section
abbrev MX:Nat:=1048576
theorem Q8b {H:Type} (d:DataW H):1≤Rows.uptoBulk d:=by
  cases d with
  | lit l=>cases l <;> simp [Rows.uptoBulk]
  | _=>simp [Rows.uptoBulk]
theorem J34 {H:Type} {d:DataW H} {l:List (DataW H)} (h:d∈l):Rows.uptoBulk d≤Rows.uptoBulkAll l:=by
  induction l with
  | nil=>cases h
  | cons x r ih=>
    simp only [Rows.uptoBulkAll]
    cases List.mem_cons.1 h with
    | inl e=>subst e; omega
    | inr e=>have:=ih e; omega
theorem length_le {H:Type} (l:List (DataW H)):l.length≤Rows.uptoBulkAll l:=by
  induction l with
  | nil=>simp [Rows.uptoBulkAll]
  | cons x r ih=>have:=Q8b x; simp only [Rows.uptoBulkAll,List.length_cons]; omega
theorem G44 {H:Type}:zB H MX (fun d=>Rows.uptoBulk d≤1048576) where
  slice:=fun elems spare h _=>by
    simp only [Rows.uptoBulk] at h
    have:=length_le elems
    exact⟨by unfold MX; omega,fun e he=>by have:=J34 he; omega⟩
  agg:=fun parts h p hp=>by
    simp only [Rows.uptoBulk] at h
    have:=J34 hp
    omega
abbrev OI (k:IntKind) (z:Int):Prop:=(Lit.int k z).wf=true
abbrev OT {U:Type} (_:U):Prop:=True
abbrev OS (s:ByteArray):Prop:=s.size≤maxLen
abbrev OL {U:Type} (ok:U→Prop) (xs:List U):Prop:=(∀ x∈xs,ok x)/\xs.length≤MX
section
variable {U:Type} {T T' d k m:Nat} {ok:U→Prop} {cs:U→List AV} {av:U→AV} {us:List AV} {K:List AV→Prop} {fs:Array Field}
abbrev TE (T d:Nat) (ok:U→Prop) (cs:U→List AV):Prop:=∀ n us,eT Tryz.prog MX (n+d) T us→∃ x:U,ok x/\us=cs x
theorem nx (o:TE T d ok cs) (h:∃ a b,us=a++b/\a.length=Tryz.prog.cellsOf T/\eT Tryz.prog MX (m+d) T a/\K b):∃ x b,us=cs x++b/\ok x/\K b:=by
  obtain⟨a,b,rfl,_,h,hk⟩:=h
  obtain⟨x,hx,rfl⟩:=o _ _ h
  exact⟨x,b,rfl,hx,hk⟩
theorem nl (o:TE T d ok cs) (h:∃ a b,us=a++b/\a.length=Tryz.prog.cellsOf T/\eT Tryz.prog MX (m+d) T a/\b=[]):∃ x,us=cs x++[]/\ok x:=by
  obtain⟨x,b,rfl,hx,rfl⟩:=nx o h
  exact⟨x,rfl,hx⟩
theorem tlS (o:TE T d ok cs) (hs:Tryz.prog.underlying T=some (.struct fs)) (ht:Tryz.prog.underlying T'=some (.slice T)) (hk:Tryz.prog.cellsOf T=k) (ha:∀ x,AV.agg (cs x)=av x):TE T' (d+1) (OL ok) (fun xs=>[LS k av xs]):=fun _ _ h=>
  G40 (ok:=ok) h ht hk fun us h=>by
    obtain⟨x,hx,rfl⟩:=o _ _ h
    exact⟨x,hx,(Jc0 hs).trans (ha x)⟩
theorem tlE (o:TE T d ok (fun x=>[av x])) (hs:isAgg Tryz.prog T=false) (ht:Tryz.prog.underlying T'=some (.slice T)) (hk:Tryz.prog.cellsOf T=k):TE T' (d+1) (OL ok) (fun xs=>[LS k av xs]):=fun _ _ h=>
  G40 (ok:=ok) h ht hk fun us h=>by
    obtain⟨x,hx,rfl⟩:=o _ _ h
    exact⟨x,hx,J13 hs⟩
theorem ar {H:Type} {enc:TypeId×Value→H} {W:World} {base:Nat} {spare:Nat→Bool} {held:Bool} {small:DataW H→Prop} (hsm:zB H MX small) {r:Reach} {b0:Nat} {v:Value} {d_:DataW H} {ps:List MemPlace} (o:TE T d ok cs) (hok:J6e Tryz.prog (0+d) T=true)
    (hval:Value.okWide Tryz.prog W r b0 T v) (hd:DataW.Trod enc Tryz.prog W base spare held T v d_ ps) (hds:small d_):(∀ x∈ps,x.block < W.heap.size)/\∃ a,ok a/\D W (Hs W ⟨fun _=>none,fun _ _=>False⟩ []) (qD Tryz.prog T (cs a)) v:=by
  obtain⟨us,t,h⟩:=Jc5 Ja1 hsm hok hval hd hds
  obtain⟨a,ha,rfl⟩:=o 0 us t
  obtain⟨m,hm⟩:=hd
  exact⟨DataW.trod_lt m _ _ _ hm,a,ha,h⟩
end
theorem op3:TE 3 1 (OI .i64) (fun x=>[I64 x]):=fun _ _ h=>Gc2 h Tryz.underlying3
theorem op4:TE 4 1 OT (fun x=>[BL x]):=fun _ _ h=>Hf5 h Tryz.underlying4
theorem Q21:TE 51 2 (OL (OI .i64)) (fun x=>[(LS 1 I64) x]):=tlE op3 (by kernel_rfl) Tryz.underlying51 (by kernel_rfl)
structure G5.ok (x:G5):Prop where
  Plugs:(OL (OI .i64)) x.Plugs
theorem op62:TE 62 3 G5.ok G5.cs:=fun _ _ h=>by
  obtain⟨x0,_,rfl,_,h⟩:=nx op3 (cI h Tryz.underlying62)
  obtain⟨x1,_,rfl,_,h⟩:=nx op3 h
  obtain⟨x2,_,rfl,_,h⟩:=nx op4 h
  obtain⟨x3,_,rfl,_,h⟩:=nx op3 h
  obtain⟨x4,_,rfl,_,h⟩:=nx op3 h
  obtain⟨x5,_,rfl,_,h⟩:=nx op3 h
  obtain⟨x6,_,rfl,_,h⟩:=nx op3 h
  obtain⟨x7,_,rfl,_,h⟩:=nx op3 h
  obtain⟨x8,_,rfl,o8,h⟩:=nx Q21 h
  obtain⟨x9,_,rfl,_,h⟩:=nx op3 h
  obtain⟨x10,_,rfl,_,h⟩:=nx op3 h
  obtain⟨x11,rfl,_⟩:=nl op3 h
  exact⟨⟨x0,x1,x2,x3,x4,x5,x6,x7,x8,x9,x10,x11⟩,⟨o8⟩,rfl⟩
theorem op22:TE 22 4 (OL G5.ok) (fun x=>[(LS 12 G5.av) x]):=tlS op62 Tryz.underlying62 Tryz.underlying22 (by kernel_rfl) fun _=>rfl
structure H3.ok (x:H3):Prop where
  Rows:(OL (OI .i64)) x.Rows
theorem op64:TE 64 3 H3.ok H3.cs:=fun _ _ h=>by
  obtain⟨x0,_,rfl,_,h⟩:=nx op3 (cI h Tryz.underlying64)
  obtain⟨x1,rfl,o1⟩:=nl Q21 h
  exact⟨⟨x0,x1⟩,⟨o1⟩,rfl⟩
theorem op23:TE 23 4 (OL H3.ok) (fun x=>[(LS 2 H3.av) x]):=tlS op64 Tryz.underlying64 Tryz.underlying23 (by kernel_rfl) fun _=>rfl
theorem op25:TE 25 2 OT Light.cs:=fun _ _ h=>by
  obtain⟨x0,_,rfl,_,h⟩:=nx op3 (cI h Tryz.underlying25)
  obtain⟨x1,_,rfl,_,h⟩:=nx op3 h
  obtain⟨x2,_,rfl,_,h⟩:=nx op3 h
  obtain⟨x3,rfl,_⟩:=nl op3 h
  exact⟨⟨x0,x1,x2,x3⟩,trivial,rfl⟩
theorem Qd7:TE 137 2 OT Row.cs:=fun _ _ h=>by
  obtain⟨x0,_,rfl,_,h⟩:=nx op3 (cI h Tryz.underlying137)
  obtain⟨x1,_,rfl,_,h⟩:=nx op3 h
  obtain⟨x2,_,rfl,_,h⟩:=nx op3 h
  obtain⟨x3,_,rfl,_,h⟩:=nx op3 h
  obtain⟨x4,rfl,_⟩:=nl op3 h
  exact⟨⟨x0,x1,x2,x3,x4⟩,trivial,rfl⟩
theorem op26:TE 26 3 (OL OT) (fun x=>[(LS 5 Row.av) x]):=tlS Qd7 Tryz.underlying137 Tryz.underlying26 (by kernel_rfl) fun _=>rfl
theorem Qd6:TE 140 2 OT Frame.cs:=fun _ _ h=>by
  obtain⟨x0,_,rfl,_,h⟩:=nx op3 (cI h Tryz.underlying140)
  obtain⟨x1,_,rfl,_,h⟩:=nx op3 h
  obtain⟨x2,_,rfl,_,h⟩:=nx op3 h
  obtain⟨x3,_,rfl,_,h⟩:=nx op3 h
  obtain⟨x4,rfl,_⟩:=nl op3 h
  exact⟨⟨x0,x1,x2,x3,x4⟩,trivial,rfl⟩
theorem op27:TE 27 3 (OL OT) (fun x=>[(LS 5 Frame.av) x]):=tlS Qd6 Tryz.underlying140 Tryz.underlying27 (by kernel_rfl) fun _=>rfl
structure Hf.ok (x:Hf):Prop where
  Steps:(OL (OI .i64)) x.Steps
theorem Qd5:TE 143 3 Hf.ok Hf.cs:=fun _ _ h=>by
  obtain⟨x0,_,rfl,_,h⟩:=nx op3 (cI h Tryz.underlying143)
  obtain⟨x1,_,rfl,_,h⟩:=nx op3 h
  obtain⟨x2,_,rfl,_,h⟩:=nx op3 h
  obtain⟨x3,_,rfl,_,h⟩:=nx op3 h
  obtain⟨x4,_,rfl,_,h⟩:=nx op3 h
  obtain⟨x5,rfl,o5⟩:=nl Q21 h
  exact⟨⟨x0,x1,x2,x3,x4,x5⟩,⟨o5⟩,rfl⟩
theorem op28:TE 28 4 (OL Hf.ok) (fun x=>[(LS 6 Hf.av) x]):=tlS Qd5 Tryz.underlying143 Tryz.underlying28 (by kernel_rfl) fun _=>rfl
theorem op30:TE 30 2 OT Gk.cs:=fun _ _ h=>by
  obtain⟨x0,_,rfl,_,h⟩:=nx op3 (cI h Tryz.underlying30)
  obtain⟨x1,_,rfl,_,h⟩:=nx op3 h
  obtain⟨x2,_,rfl,_,h⟩:=nx op3 h
  obtain⟨x3,rfl,_⟩:=nl op3 h
  exact⟨⟨x0,x1,x2,x3⟩,trivial,rfl⟩
structure Gf.ok (x:Gf):Prop where
  Columns:(OL G5.ok) x.Columns
  Covers:(OL H3.ok) x.Covers
  Rows:(OL OT) x.Rows
  Frames:(OL OT) x.Frames
  Tanks:(OL Hf.ok) x.Tanks
theorem op32:TE 32 5 Gf.ok Gf.cs:=fun _ _ h=>by
  obtain⟨x0,_,rfl,o0,h⟩:=nx op22 (cI h Tryz.underlying32)
  obtain⟨x1,_,rfl,o1,h⟩:=nx op23 h
  obtain⟨x2,_,rfl,_,h⟩:=nx op25 h
  obtain⟨x3,_,rfl,o3,h⟩:=nx op26 h
  obtain⟨x4,_,rfl,o4,h⟩:=nx op27 h
  obtain⟨x5,_,rfl,o5,h⟩:=nx op28 h
  obtain⟨x6,rfl,_⟩:=nl op30 h
  exact⟨⟨x0,x1,x2,x3,x4,x5,x6⟩,⟨o0,o1,o3,o4,o5⟩,rfl⟩
theorem op9:TE 9 1 OS (fun x=>[ST x]):=fun _ _ h=>Gf7 h Tryz.underlying9
theorem op5:TE 5 1 (OI .u8) (fun x=>[U8 x]):=fun _ _ h=>Gc2 h Tryz.underlying5
structure Box.ok (x:Box):Prop where
  Size:(OI .u8) x.Size
theorem op67:TE 67 2 Box.ok Box.cs:=fun _ _ h=>by
  obtain⟨x0,_,rfl,_,h⟩:=nx op3 (cI h Tryz.underlying67)
  obtain⟨x1,_,rfl,_,h⟩:=nx op9 h
  obtain⟨x2,_,rfl,o2,h⟩:=nx op5 h
  obtain⟨x3,_,rfl,_,h⟩:=nx op4 h
  obtain⟨x4,_,rfl,_,h⟩:=nx op3 h
  obtain⟨x5,_,rfl,_,h⟩:=nx op3 h
  obtain⟨x6,_,rfl,_,h⟩:=nx op3 h
  obtain⟨x7,_,rfl,_,h⟩:=nx op5 h
  obtain⟨x8,rfl,_⟩:=nl op4 h
  exact⟨⟨x0,x1,x2,x3,x4,x5,x6,x7,x8⟩,⟨o2⟩,rfl⟩
theorem op33:TE 33 3 (OL Box.ok) (fun x=>[(LS 9 Box.av) x]):=tlS op67 Tryz.underlying67 Tryz.underlying33 (by kernel_rfl) fun _=>rfl
end
theorem fnq:Tryz.prog.funcs[4]? = some Tryz.f4:=Tryz.func4
theorem own:ownKnob Tryz.prog.godebug=none:=by kernel_rfl
theorem laidOut:laidOutB Tryz.prog=true:=by kernel_rfl
theorem unB:Tryz.prog.underlying 4=some .bool:=by kernel_rfl

theorem lifted (os:Os) (started:os.Started) (H:Type) (enc:TypeId×Value→H) (F:Stop.Interp) :
    ReturnsInHanded {} Tryz.checked os 4 .any ((Rows.OpenSpec.upto Rows.searchStatesSpec).pre6 enc Tryz.prog Tryz.f4 Rows.searchStatesUptoRow.domain false) (((Rows.OpenSpec.upto Rows.searchStatesSpec).at F).post enc Tryz.prog Tryz.f4 false true false false):=by
  refine returnsInHanded_of_cond (C:=Tryz.checked) (s:=Rows.OpenSpec.upto Rows.searchStatesSpec) (k:=Rows.uptoSmall) rfl own started (by kernel_rfl) Tryz.func4
    (OpenSpec.witness (enc:=enc) (C:=Tryz.checked) (s:=Rows.OpenSpec.upto Rows.searchStatesSpec) (k:=Rows.uptoSmall) rfl false ⟨#[],#[.agg #[.slice none 0 0,.slice none 0 0,.int .i64 0,.int .i64 0,.int .i64 0,.int .i64 0,.slice none 0 0,.slice none 0 0,.slice none 0 0,.int .i64 0,.int .i64 0,.int .i64 0,.int .i64 0],.slice none 0 0,.slice none 0 0],[]⟩ 8 (by kernel_rfl) (by kernel_rfl) (by kernel_rfl)
      (x:=([.agg [.nil,.nil,.agg [.lit (.int .i64 0),.lit (.int .i64 0),.lit (.int .i64 0),.lit (.int .i64 0)],.nil,.nil,.nil,.agg [.lit (.int .i64 0),.lit (.int .i64 0),.lit (.int .i64 0),.lit (.int .i64 0)]],.nil,.nil],[],[])) (by kernel_rfl) rfl (by kernel_rfl)) ?_
  intro W base args ds gs before hval0 hW _ hk _
  show Calls _ _ _ _ fun e W'=>∃ v,e=.returned v/\Rows.searchStatesSpec.post enc Tryz.prog Tryz.f4 false true false false W args v W'
  have hval:∀ (j:Nat) t v,Tryz.f4.params[j]? = some t→args[j]? = some v→Value.okWide Tryz.prog W .any base t v:=hval0
  have hW':=hW
  obtain⟨p,q,hA0,hV,rfl,hfz,hnd⟩:=hW
  have hA:DataW.TrodAll enc Tryz.prog W 0 (fun _=>true) true Tryz.f4.params.toList args.toList ds p:=hA0
  rw [Tryz.params4] at hA hval
  obtain⟨v0,vs0,d0,ds0,p0,q0,hargs,rfl,rfl,h0,r0⟩:=trodAll_cons hA
  obtain⟨v1,vs1,d1,ds1,p1,q1,rfl,rfl,rfl,h1,r1⟩:=trodAll_cons r0
  obtain⟨v2,vs2,d2,ds2,p2,q2,rfl,rfl,rfl,h2,r2⟩:=trodAll_cons r1
  obtain⟨rfl,rfl,rfl⟩:=trodAll_nil r2
  obtain rfl:args=#[v0,v1,v2]:=by cases args; simp_all
  obtain⟨rfl,rfl⟩:=trodVars_none hV
  have hks:Rows.uptoBulkAll [d0,d1,d2]≤1048576:=by
    have:=of_decide_eq_true hk
    simpa using this
  simp only [Rows.uptoBulkAll] at hks
  obtain⟨lt0,a0,o0,D0⟩:=ar G44 op32 (by kernel_rfl) (hval 0 32 v0 rfl rfl) h0 (by omega)
  rw [Jc0 Tryz.underlying32] at D0
  obtain⟨lt1,a1,o1,D1⟩:=ar G44 op33 (by kernel_rfl) (hval 1 33 v1 rfl rfl) h1 (by omega)
  rw [J13 (by kernel_rfl)] at D1
  obtain⟨lt2,a2,o2,D2⟩:=ar G44 Q21 (by kernel_rfl) (hval 2 51 v2 rfl rfl) h2 (by omega)
  rw [J13 (by kernel_rfl)] at D2
  refine(Q1e (mE 60 a0 a1 a2 (H81 a0 a1 a2 ⟨o0.Columns.2,fun c hc=>(o0.Columns.1 c hc).Plugs.2,o0.Covers.2,fun x hx=>(o0.Covers.1 x hx).Rows.2,o0.Rows.2,o0.Frames.2,o0.Tanks.2,fun x hx=>(o0.Tanks.1 x hx).Steps.2⟩ (fun b hb=>u8r (o1.1 b hb).Size) o1.2 o2.2)) rfl (fun j u v hu hv=>?_)).mono fun e W' h=>?_
  · match j,hu,hv with
    | 0,hu,hv=>cases hu; cases hv; exact D0
    | 1,hu,hv=>cases hu; cases hv; exact D1
    | 2,hu,hv=>cases hu; cases hv; exact D2
    | j+3,hu,hv=>cases hu
  · obtain⟨v,r,U',he,bel,hv,rfl⟩:=h
    subst he
    cases hv with | data hv=>cases hv with | sc=>
    exact⟨_,rfl,_,_,_,[],_,[],hW',trodAll_mk1 (shut_bool unB _),(trodAll_cons_mk (Below.trod laidOut (by kernel_rfl) (of_decide_eq_true (by kernel_rfl)) h0 bel lt0) (trodAll_cons_mk (Below.trod laidOut (by kernel_rfl) (of_decide_eq_true (by kernel_rfl)) h1 bel lt1) (trodAll_cons_mk (Below.trod laidOut (by kernel_rfl) (of_decide_eq_true (by kernel_rfl)) h2 bel lt2) trodAll_mk0))),rfl,bel.frame _,fun h=>by cases h⟩

theorem Qde {a b:Bool} (ha:a=true) (hb:b=true):(a&&b)=true:=by rw [ha,hb]; rfl
set_option maxHeartbeats 4000000 in
theorem facts:joinedFacts Tryz.pinned.checked.prog 4 Tryz.f4 (Rows.OpenSpec.upto Rows.searchStatesSpec).bare Rows.searchStatesUptoRow=true:=by
  unfold joinedFacts
  repeat' with_reducible refine Qde ?_ ?_
  all_goals as_aux_lemma=>kernel_rfl
end GSearchStates

/-- The given statement. -/
theorem searchStatesUpto_holds : Rows.SearchStatesUptoSaid :=
  OpenClaim.holds_of_cond 4 Tryz.f4 rfl rfl rfl rfl rfl rfl rfl ⟨rfl,rfl,rfl,rfl,rfl⟩ rfl rfl rfl rfl rfl (by kernel_rfl) Tryz.func4 GSearchStates.facts
    (of_decide_eq_true (by kernel_rfl)) (by unfold Func.isWrapper; first | (rw [if_pos (by decide +kernel)]; kernel_rfl) | (rw [if_neg (by decide +kernel)]; exact⟨rfl,rfl⟩))
    (fun os started H enc _ F=>GSearchStates.lifted os started H enc F)
#print axioms searchStatesUpto_holds
end Go.Proofs.YtbgfgnddogfpcaaGreat

