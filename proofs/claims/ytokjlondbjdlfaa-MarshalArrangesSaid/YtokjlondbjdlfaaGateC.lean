/-
  MarshalArranges,as it is given: whatever the arguments,the law returns true,and the arguments read as they did. No condition.
-/
import Derived.Test.YtokjlondbjdlfaaRows
import Derived.Test.YtokjlondbjdlfaaFrames
import Derived.Test.YtokjlondbjdlfaaMarN
import Derived.ChangeSame
import Derived.Carry
set_option maxRecDepth 100000
set_option linter.unusedVariables false
namespace Go.Proofs.Ytokjlondbjdlfaa
open Go.RowKit Go.ChangeShapes Go.WideShapes Go.ChangeAt
namespace GMarshalArranges
noncomputable section
abbrev MX:Nat:=maxLen
theorem J97 {H:Type}:H3c H MX (fun _=>True):=H3c.all
theorem op3 {n:Nat} {us:List AV} (h:Zo Try.prog MX (n+1) 3 us):∃ x:Int,(fun z:Int=>(Lit.int .i64 z).wf=true) x∧us=[I64 x]:=Q5c h Try.underlying3
theorem op25 {n:Nat} {us:List AV} (h:Zo Try.prog MX (n+2) 25 us):∃ xs:List Int,(fun xs:List Int=>(∀ x∈xs,(fun z:Int=>(Lit.int .i64 z).wf=true) x)∧xs.length≤MX) xs∧us=[(LS 1 I64) xs]:=
  Hf4 (ok:=(fun z:Int=>(Lit.int .i64 z).wf=true)) h Try.underlying25 (by kernel_rfl) (fun us h=>by
    obtain⟨x,hx,rfl⟩:=op3 h
    exact⟨x,hx,Q15 (by kernel_rfl)⟩)
theorem op22 {n:Nat} {us:List AV} (h:Zo Try.prog MX (n+3) 22 us):∃ xs:List (List Int),(fun xs:List (List Int)=>(∀ x∈xs,(fun xs:List Int=>(∀ x∈xs,(fun z:Int=>(Lit.int .i64 z).wf=true) x)∧xs.length≤MX) x)∧xs.length≤MX) xs∧us=[(LS 1 (LS 1 I64)) xs]:=
  Hf4 (ok:=(fun xs:List Int=>(∀ x∈xs,(fun z:Int=>(Lit.int .i64 z).wf=true) x)∧xs.length≤MX)) h Try.underlying22 (by kernel_rfl) (fun us h=>by
    obtain⟨x,hx,rfl⟩:=op25 h
    exact⟨x,hx,Q15 (by kernel_rfl)⟩)
structure Gn.ok (x:Gn):Prop where
  Stacks:(fun xs:List (List Int)=>(∀ x∈xs,(fun xs:List Int=>(∀ x∈xs,(fun z:Int=>(Lit.int .i64 z).wf=true) x)∧xs.length≤MX) x)∧xs.length≤MX) x.Stacks
  Height:(fun z:Int=>(Lit.int .i64 z).wf=true) x.Height
theorem op24 {n:Nat} {us:List AV} (h:Zo Try.prog MX (n+4) 24 us):∃ x:Gn,Gn.ok x∧us=x.cs:=by
  have h:=J65 h Try.underlying24
  obtain⟨u0,r0,e0,_,h0,h⟩:=h
  obtain⟨x0,o0,rfl⟩:=op22 h0
  obtain⟨u1,r1,e1,_,h1,h⟩:=h
  obtain⟨x1,o1,rfl⟩:=op3 h1
  have h:r1=[]:=h
  subst h
  subst e1
  subst e0
  exact⟨⟨x0,x1⟩,⟨o0,o1⟩,rfl⟩
end
theorem fnq:Try.prog.funcs[6]? = some Try.f6:=Try.func6
theorem own:ownKnob Try.prog.godebug=none:=by kernel_rfl
theorem laidOut:laidOutB Try.prog=true:=by kernel_rfl
theorem unB:Try.prog.underlying 4=some .bool:=by kernel_rfl
theorem sh0:Q05 Try.prog 4 24=true:=by kernel_rfl
theorem sh1:Q05 Try.prog 2 25=true:=by kernel_rfl

theorem lifted (os:Os) (started:os.Started) (H:Type) (enc:TypeId×Value→H) :
    ReturnsInHanded {} Try.checked os 6 .any (Rows.marshalArrangesSpec.pre6 enc Try.prog Try.f6 Rows.marshalArrangesRow.domain false) (Rows.marshalArrangesSpec.post enc Try.prog Try.f6 false true false false):=by
  refine returnsInHanded_of_change (C:=Try.checked) own started (by kernel_rfl) Try.func6
    (ChangeSpec.witness6 (enc:=enc) (C:=Try.checked) false ⟨#[],#[.agg #[.slice none 0 0,.int .i64 0],.slice none 0 0],[]⟩ 8 (by kernel_rfl) (by kernel_rfl) (by kernel_rfl) (by kernel_rfl)) ?_
  intro W base args ds gs before hval0 hW hcnd _
  have hval:∀ (j:Nat) t v,Try.f6.params[j]? = some t→args[j]? = some v→Value.okWide Try.prog W .any base t v:=hval0
  have hW':=hW
  obtain⟨p,q,hA0,hV,rfl,hfz,hnd⟩:=hW
  have hA:DataW.TrodAll enc Try.prog W 0 (fun _=>true) true Try.f6.params.toList args.toList ds p:=hA0
  rw [Try.params6] at hA hval
  obtain⟨v0,vs0,d0,ds0,p0,q0,hargs,rfl,rfl,h0,r0⟩:=trodAll_cons hA
  obtain⟨v1,vs1,d1,ds1,p1,q1,rfl,rfl,rfl,h1,r1⟩:=trodAll_cons r0
  obtain⟨rfl,rfl,rfl⟩:=trodAll_nil r1
  obtain rfl:args=#[v0,v1]:=by cases args; simp_all
  obtain⟨rfl,rfl⟩:=trodVars_none hV
  have lt0:∀ x∈p0,x.block < W.heap.size:=by obtain⟨m,hm⟩:=h0; exact DataW.trod_lt m _ _ _ hm
  obtain⟨us0,t0,D0⟩:=Jb7 (S:=J1 W ⟨fun _=>none,fun _ _=>False⟩ []) J8f J97 sh0 (hval 0 24 v0 rfl rfl) h0 trivial
  obtain⟨a0,o0,e0⟩:=op24 (n:=0) t0
  subst e0
  rw [R2c Try.underlying24] at D0
  have lt1:∀ x∈p1,x.block < W.heap.size:=by obtain⟨m,hm⟩:=h1; exact DataW.trod_lt m _ _ _ hm
  obtain⟨us1,t1,D1⟩:=Jb7 (S:=J1 W ⟨fun _=>none,fun _ _=>False⟩ []) J8f J97 sh1 (hval 1 25 v1 rfl rfl) h1 trivial
  obtain⟨a1,o1,e1⟩:=op25 (n:=0) t1
  subst e1
  rw [Q15 (by kernel_rfl)] at D1
  refine(Qdc (G45 500 a0 a1 true (Jaa a0 a1)) rfl (fun j u v hu hv=>?_)).mono fun e W' h=>?_
  · match j,hu,hv with
    | 0,hu,hv=>cases hu; cases hv; exact D0
    | 1,hu,hv=>cases hu; cases hv; exact D1
    | j+2,hu,hv=>cases hu
  · obtain⟨v,r,β',he,bel,hv,rfl⟩:=h
    subst he
    cases hv with | data hv=>cases hv with | sc=>
    exact⟨_,rfl,_,_,_,[],_,[],hW',trodAll_mk1 (shut_bool unB _),(trodAll_cons_mk (Below.trod laidOut (by kernel_rfl) (of_decide_eq_true (by kernel_rfl)) h0 bel lt0) (trodAll_cons_mk (Below.trod laidOut (by kernel_rfl) (of_decide_eq_true (by kernel_rfl)) h1 bel lt1) trodAll_mk0)),rfl,bel.frame _,fun h=>by cases h⟩

end GMarshalArranges

/-- The given statement. -/
theorem marshalArranges_holds : Rows.MarshalArrangesSaid :=
  OpenClaim.holds_of_wide 6 Try.f6 rfl rfl rfl rfl rfl rfl rfl ⟨rfl,rfl,rfl,rfl,rfl⟩ rfl rfl rfl rfl rfl (by kernel_rfl) Try.func6 (by kernel_rfl)
    (of_decide_eq_true (by kernel_rfl)) (by unfold Func.isWrapper; first | (rw [if_pos (by decide +kernel)]; kernel_rfl) | (rw [if_neg (by decide +kernel)]; exact⟨rfl,rfl⟩))
    (fun os started H enc _=>GMarshalArranges.lifted os started H enc)
#print axioms marshalArranges_holds
end Go.Proofs.Ytokjlondbjdlfaa

