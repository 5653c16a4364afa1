/-
  MarshalSmall,as it is given: whatever the arguments,the law returns true,and the arguments read as they did. No condition.
-/
import Derived.Test.YtokjlondbjdlfaaGreatRows
import Derived.Test.YtokjlondbjdlfaaGreatEnds
import Derived.Test.YtokjlondbjdlfaaGreatMarS
import Derived.ChangeSame
import Derived.Carry
set_option maxRecDepth 100000
set_option linter.unusedVariables false
namespace Go.Proofs.YtokjlondbjdlfaaGreat
open Go.RowKit Go.ChangeShapes Go.WideShapes Go.ChangeAt
namespace GMarshalSmall
noncomputable section
abbrev MX:Nat:=maxLen
theorem Rc8 {H:Type}:H60 H MX (fun _=>True):=H60.all

end
theorem fnq:Tryz.prog.funcs[3]? = some Tryz.f3:=Tryz.func3
theorem own:ownKnob Tryz.prog.godebug=none:=by kernel_rfl
theorem laidOut:laidOutB Tryz.prog=true:=by kernel_rfl
theorem unB:Tryz.prog.underlying 4=some .bool:=by kernel_rfl

theorem lifted (os:Os) (started:os.Started) (H:Type) (enc:TypeId×Value→H) :
    ReturnsInHanded {} Tryz.checked os 3 .any (Rows.marshalSmallSpec.pre6 enc Tryz.prog Tryz.f3 Rows.marshalSmallRow.domain false) (Rows.marshalSmallSpec.post enc Tryz.prog Tryz.f3 false true false false):=by
  refine returnsInHanded_of_change (C:=Tryz.checked) own started (by kernel_rfl) Tryz.func3
    (ChangeSpec.witness6 (enc:=enc) (C:=Tryz.checked) false ⟨#[],#[],[]⟩ 8 (by kernel_rfl) (by kernel_rfl) (by kernel_rfl) (by kernel_rfl)) ?_
  intro W base args ds gs before hval0 hW hcnd _
  have hval:∀ (j:Nat) t v,Tryz.f3.params[j]? = some t→args[j]? = some v→Value.okWide Tryz.prog W .any base t v:=hval0
  have hW':=hW
  obtain⟨p,q,hA0,hV,rfl,hfz,hnd⟩:=hW
  have hA:DataW.TrodAll enc Tryz.prog W 0 (fun _=>true) true Tryz.f3.params.toList args.toList ds p:=hA0
  rw [Tryz.params3] at hA hval
  obtain⟨hargs,rfl,rfl⟩:=trodAll_nil hA
  obtain rfl:args=#[]:=by cases args; simp_all
  obtain⟨rfl,rfl⟩:=trodVars_none hV
  refine(R23 (G82 9000100 true Q39) rfl (fun j u v hu hv=>?_)).mono fun e W' h=>?_
  · match j,hu,hv with
    | j+0,hu,hv=>cases hu
  · obtain⟨v,r,β',he,bel,hv,rfl⟩:=h
    subst he
    cases hv with | data hv=>cases hv with | sc=>
    exact⟨_,rfl,_,_,_,[],_,[],hW',trodAll_mk1 (shut_bool unB _),trodAll_mk0,rfl,bel.frame _,fun h=>by cases h⟩

end GMarshalSmall

/-- The given statement. -/
theorem marshalSmall_holds : Rows.MarshalSmallSaid :=
  OpenClaim.holds_of_wide 3 Tryz.f3 rfl rfl rfl rfl rfl rfl rfl ⟨rfl,rfl,rfl,rfl,rfl⟩ rfl rfl rfl rfl rfl (by kernel_rfl) Tryz.func3 (by kernel_rfl)
    (of_decide_eq_true (by kernel_rfl)) (by unfold Func.isWrapper; first | (rw [if_pos (by decide +kernel)]; kernel_rfl) | (rw [if_neg (by decide +kernel)]; exact⟨rfl,rfl⟩))
    (fun os started H enc _=>GMarshalSmall.lifted os started H enc)
#print axioms marshalSmall_holds
end Go.Proofs.YtokjlondbjdlfaaGreat

