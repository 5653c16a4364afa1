/-
  MarshalBounds,as it is given: whatever the arguments,the law returns true,and the arguments read as they did. No condition.
-/
import Derived.Test.YtokjlondbjdlfaaRows
import Derived.Test.YtokjlondbjdlfaaFrames
import Derived.Test.YtokjlondbjdlfaaMarR
import Derived.ChangeSame
import Derived.Carry
set_option maxRecDepth 100000
set_option linter.unusedVariables false
namespace Go.Proofs.Ytokjlondbjdlfaa
open Go.RowKit Go.ChangeShapes Go.WideShapes Go.ChangeAt
namespace GMarshalBounds
noncomputable section
abbrev MX:Nat:=maxLen
theorem H33 {H:Type}:H65 H MX (fun _=>True):=H65.all
theorem op5 {n:Nat} {us:List AV} (h:Zt Try.prog MX (n+1) 5 us):∃ x:Int,(fun z:Int=>(Lit.int .u8 z).wf=true) x∧us=[U8 x]:=J70 h Try.underlying5
theorem op31 {n:Nat} {us:List AV} (h:Zt Try.prog MX (n+2) 31 us):∃ xs:List Int,(fun xs:List Int=>(∀ x∈xs,(fun z:Int=>(Lit.int .u8 z).wf=true) x)∧xs.length≤MX) xs∧us=[(LS 1 U8) xs]:=
  J1d (ok:=(fun z:Int=>(Lit.int .u8 z).wf=true)) h Try.underlying31 (by kernel_rfl) (fun us h=>by
    obtain⟨x,hx,rfl⟩:=op5 h
    exact⟨x,hx,Hd6 (by kernel_rfl)⟩)
theorem op3 {n:Nat} {us:List AV} (h:Zt Try.prog MX (n+1) 3 us):∃ x:Int,(fun z:Int=>(Lit.int .i64 z).wf=true) x∧us=[I64 x]:=J70 h Try.underlying3
structure G3.ok (x:G3):Prop where
  From:(fun z:Int=>(Lit.int .i64 z).wf=true) x.From
  To:(fun z:Int=>(Lit.int .i64 z).wf=true) x.To
theorem op39 {n:Nat} {us:List AV} (h:Zt Try.prog MX (n+2) 39 us):∃ x:G3,G3.ok x∧us=x.cs:=by
  have h:=J9e h Try.underlying39
  obtain⟨u0,r0,e0,_,h0,h⟩:=h
  obtain⟨x0,o0,rfl⟩:=op3 h0
  obtain⟨u1,r1,e1,_,h1,h⟩:=h
  obtain⟨x1,o1,rfl⟩:=op3 h1
  have h:r1=[]:=h
  subst h
  subst e1
  subst e0
  exact⟨⟨x0,x1⟩,⟨o0,o1⟩,rfl⟩
theorem op26 {n:Nat} {us:List AV} (h:Zt Try.prog MX (n+3) 26 us):∃ xs:List G3,(fun xs:List G3=>(∀ x∈xs,G3.ok x)∧xs.length≤MX) xs∧us=[(LS 2 G3.av) xs]:=
  J1d (ok:=G3.ok) h Try.underlying26 (by kernel_rfl) (fun us h=>by
    obtain⟨x,hx,rfl⟩:=op39 h
    exact⟨x,hx,R96 Try.underlying39⟩)
end
theorem fnq:Try.prog.funcs[8]? = some Try.f8:=Try.func8
theorem own:ownKnob Try.prog.godebug=none:=by kernel_rfl
theorem laidOut:laidOutB Try.prog=true:=by kernel_rfl
theorem unB:Try.prog.underlying 4=some .bool:=by kernel_rfl
theorem sh0:J64 Try.prog 1 5=true:=by kernel_rfl
theorem sh1:J64 Try.prog 1 5=true:=by kernel_rfl
theorem sh2:J64 Try.prog 2 31=true:=by kernel_rfl
theorem sh3:J64 Try.prog 2 31=true:=by kernel_rfl
theorem sh4:J64 Try.prog 3 26=true:=by kernel_rfl

theorem lifted (os:Os) (started:os.Started) (H:Type) (enc:TypeId×Value→H) :
    ReturnsInHanded {} Try.checked os 8 .any (Rows.marshalBoundsSpec.pre6 enc Try.prog Try.f8 Rows.marshalBoundsRow.domain false) (Rows.marshalBoundsSpec.post enc Try.prog Try.f8 false true false false):=by
  refine returnsInHanded_of_change (C:=Try.checked) own started (by kernel_rfl) Try.func8
    (ChangeSpec.witness6 (enc:=enc) (C:=Try.checked) false ⟨#[],#[.int .u8 0,.int .u8 0,.slice none 0 0,.slice none 0 0,.slice none 0 0],[]⟩ 8 (by kernel_rfl) (by kernel_rfl) (by kernel_rfl) (by kernel_rfl)) ?_
  intro W base args ds gs before hval0 hW hcnd _
  have hval:∀ (j:Nat) t v,Try.f8.params[j]? = some t→args[j]? = some v→Value.okWide Try.prog W .any base t v:=hval0
  have hW':=hW
  obtain⟨p,q,hA0,hV,rfl,hfz,hnd⟩:=hW
  have hA:DataW.TrodAll enc Try.prog W 0 (fun _=>true) true Try.f8.params.toList args.toList ds p:=hA0
  rw [Try.params8] at hA hval
  obtain⟨v0,vs0,d0,ds0,p0,q0,hargs,rfl,rfl,h0,r0⟩:=trodAll_cons hA
  obtain⟨v1,vs1,d1,ds1,p1,q1,rfl,rfl,rfl,h1,r1⟩:=trodAll_cons r0
  obtain⟨v2,vs2,d2,ds2,p2,q2,rfl,rfl,rfl,h2,r2⟩:=trodAll_cons r1
  obtain⟨v3,vs3,d3,ds3,p3,q3,rfl,rfl,rfl,h3,r3⟩:=trodAll_cons r2
  obtain⟨v4,vs4,d4,ds4,p4,q4,rfl,rfl,rfl,h4,r4⟩:=trodAll_cons r3
  obtain⟨rfl,rfl,rfl⟩:=trodAll_nil r4
  obtain rfl:args=#[v0,v1,v2,v3,v4]:=by cases args; simp_all
  obtain⟨rfl,rfl⟩:=trodVars_none hV
  have lt0:∀ x∈p0,x.block < W.heap.size:=by obtain⟨m,hm⟩:=h0; exact DataW.trod_lt m _ _ _ hm
  obtain⟨us0,t0,D0⟩:=H43 (S:=J6 W ⟨fun _=>none,fun _ _=>False⟩ []) H31 H33 sh0 (hval 0 5 v0 rfl rfl) h0 trivial
  obtain⟨a0,o0,e0⟩:=op5 (n:=0) t0
  subst e0
  rw [Hd6 (by kernel_rfl)] at D0
  have lt1:∀ x∈p1,x.block < W.heap.size:=by obtain⟨m,hm⟩:=h1; exact DataW.trod_lt m _ _ _ hm
  obtain⟨us1,t1,D1⟩:=H43 (S:=J6 W ⟨fun _=>none,fun _ _=>False⟩ []) H31 H33 sh1 (hval 1 5 v1 rfl rfl) h1 trivial
  obtain⟨a1,o1,e1⟩:=op5 (n:=0) t1
  subst e1
  rw [Hd6 (by kernel_rfl)] at D1
  have lt2:∀ x∈p2,x.block < W.heap.size:=by obtain⟨m,hm⟩:=h2; exact DataW.trod_lt m _ _ _ hm
  obtain⟨us2,t2,D2⟩:=H43 (S:=J6 W ⟨fun _=>none,fun _ _=>False⟩ []) H31 H33 sh2 (hval 2 31 v2 rfl rfl) h2 trivial
  obtain⟨a2,o2,e2⟩:=op31 (n:=0) t2
  subst e2
  rw [Hd6 (by kernel_rfl)] at D2
  have lt3:∀ x∈p3,x.block < W.heap.size:=by obtain⟨m,hm⟩:=h3; exact DataW.trod_lt m _ _ _ hm
  obtain⟨us3,t3,D3⟩:=H43 (S:=J6 W ⟨fun _=>none,fun _ _=>False⟩ []) H31 H33 sh3 (hval 3 31 v3 rfl rfl) h3 trivial
  obtain⟨a3,o3,e3⟩:=op31 (n:=0) t3
  subst e3
  rw [Hd6 (by kernel_rfl)] at D3
  have lt4:∀ x∈p4,x.block < W.heap.size:=by obtain⟨m,hm⟩:=h4; exact DataW.trod_lt m _ _ _ hm
  obtain⟨us4,t4,D4⟩:=H43 (S:=J6 W ⟨fun _=>none,fun _ _=>False⟩ []) H31 H33 sh4 (hval 4 26 v4 rfl rfl) h4 trivial
  obtain⟨a4,o4,e4⟩:=op26 (n:=0) t4
  subst e4
  rw [Hd6 (by kernel_rfl)] at D4
  refine(R34 (G71 9000100 a0 a1 a2 a3 a4 true (Je9 a0 a1 a2 a3 a4 (u8r o0) (u8r o1) (fun v hv=>u8r (o2.1 v hv)) (fun v hv=>u8r (o3.1 v hv)))) rfl (fun j u v hu hv=>?_)).mono fun e W' h=>?_
  · match j,hu,hv with
    | 0,hu,hv=>cases hu; cases hv; exact D0
    | 1,hu,hv=>cases hu; cases hv; exact D1
    | 2,hu,hv=>cases hu; cases hv; exact D2
    | 3,hu,hv=>cases hu; cases hv; exact D3
    | 4,hu,hv=>cases hu; cases hv; exact D4
    | j+5,hu,hv=>cases hu
  · obtain⟨v,r,β',he,bel,hv,rfl⟩:=h
    subst he
    cases hv with | data hv=>cases hv with | sc=>
    exact⟨_,rfl,_,_,_,[],_,[],hW',trodAll_mk1 (shut_bool unB _),(trodAll_cons_mk (Below.trod laidOut (by kernel_rfl) (of_decide_eq_true (by kernel_rfl)) h0 bel lt0) (trodAll_cons_mk (Below.trod laidOut (by kernel_rfl) (of_decide_eq_true (by kernel_rfl)) h1 bel lt1) (trodAll_cons_mk (Below.trod laidOut (by kernel_rfl) (of_decide_eq_true (by kernel_rfl)) h2 bel lt2) (trodAll_cons_mk (Below.trod laidOut (by kernel_rfl) (of_decide_eq_true (by kernel_rfl)) h3 bel lt3) (trodAll_cons_mk (Below.trod laidOut (by kernel_rfl) (of_decide_eq_true (by kernel_rfl)) h4 bel lt4) trodAll_mk0))))),rfl,bel.frame _,fun h=>by cases h⟩

end GMarshalBounds

/-- The given statement. -/
theorem marshalBounds_holds : Rows.MarshalBoundsSaid :=
  OpenClaim.holds_of_wide 8 Try.f8 rfl rfl rfl rfl rfl rfl rfl ⟨rfl,rfl,rfl,rfl,rfl⟩ rfl rfl rfl rfl rfl (by kernel_rfl) Try.func8 (by kernel_rfl)
    (of_decide_eq_true (by kernel_rfl)) (by unfold Func.isWrapper; first | (rw [if_pos (by decide +kernel)]; kernel_rfl) | (rw [if_neg (by decide +kernel)]; exact⟨rfl,rfl⟩))
    (fun os started H enc _=>GMarshalBounds.lifted os started H enc)
#print axioms marshalBounds_holds
end Go.Proofs.Ytokjlondbjdlfaa

