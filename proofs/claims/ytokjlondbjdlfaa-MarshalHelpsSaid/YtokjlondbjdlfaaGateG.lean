/-
  MarshalHelps,as it is given: whatever the arguments,the law returns true,and the arguments read as they did. No condition.
-/
import Derived.Test.YtokjlondbjdlfaaRows
import Derived.Test.YtokjlondbjdlfaaFrames
import Derived.Test.YtokjlondbjdlfaaMarHp
import Derived.ChangeSame
import Derived.Carry
set_option maxRecDepth 100000
set_option linter.unusedVariables false
namespace Go.Proofs.Ytokjlondbjdlfaa
open Go.RowKit Go.ChangeShapes Go.WideShapes Go.ChangeAt
namespace GMarshalHelps
noncomputable section
abbrev MX:Nat:=maxLen
theorem Hc7 {H:Type}:H85 H MX (fun _=>True):=H85.all
theorem op5 {n:Nat} {us:List AV} (h:G20 Try.prog MX (n+1) 5 us):∃ x:Int,(fun z:Int=>(Lit.int .u8 z).wf=true) x∧us=[U8 x]:=Qdc h Try.underlying5
theorem op31 {n:Nat} {us:List AV} (h:G20 Try.prog MX (n+2) 31 us):∃ xs:List Int,(fun xs:List Int=>(∀ x∈xs,(fun z:Int=>(Lit.int .u8 z).wf=true) x)∧xs.length≤MX) xs∧us=[(LS 1 U8) xs]:=
  Q6f (ok:=(fun z:Int=>(Lit.int .u8 z).wf=true)) h Try.underlying31 (by kernel_rfl) (fun us h=>by
    obtain⟨x,hx,rfl⟩:=op5 h
    exact⟨x,hx,J69 (by kernel_rfl)⟩)
end
theorem fnq:Try.prog.funcs[9]? = some Try.f9:=Try.func9
theorem own:ownKnob Try.prog.godebug=none:=by kernel_rfl
theorem laidOut:laidOutB Try.prog=true:=by kernel_rfl
theorem unB:Try.prog.underlying 4=some .bool:=by kernel_rfl
theorem sh0:Jd3 Try.prog 1 5=true:=by kernel_rfl
theorem sh1:Jd3 Try.prog 1 5=true:=by kernel_rfl
theorem sh2:Jd3 Try.prog 2 31=true:=by kernel_rfl
theorem sh3:Jd3 Try.prog 2 31=true:=by kernel_rfl

theorem lifted (os:Os) (started:os.Started) (H:Type) (enc:TypeId×Value→H) :
    ReturnsInHanded {} Try.checked os 9 .any (Rows.marshalHelpsSpec.pre6 enc Try.prog Try.f9 Rows.marshalHelpsRow.domain false) (Rows.marshalHelpsSpec.post enc Try.prog Try.f9 false true false false):=by
  refine returnsInHanded_of_change (C:=Try.checked) own started (by kernel_rfl) Try.func9
    (ChangeSpec.witness6 (enc:=enc) (C:=Try.checked) false ⟨#[],#[.int .u8 0,.int .u8 0,.slice none 0 0,.slice none 0 0],[]⟩ 8 (by kernel_rfl) (by kernel_rfl) (by kernel_rfl) (by kernel_rfl)) ?_
  intro W base args ds gs before hval0 hW hcnd _
  have hval:∀ (j:Nat) t v,Try.f9.params[j]? = some t→args[j]? = some v→Value.okWide Try.prog W .any base t v:=hval0
  have hW':=hW
  obtain⟨p,q,hA0,hV,rfl,hfz,hnd⟩:=hW
  have hA:DataW.TrodAll enc Try.prog W 0 (fun _=>true) true Try.f9.params.toList args.toList ds p:=hA0
  rw [Try.params9] at hA hval
  obtain⟨v0,vs0,d0,ds0,p0,q0,hargs,rfl,rfl,h0,r0⟩:=trodAll_cons hA
  obtain⟨v1,vs1,d1,ds1,p1,q1,rfl,rfl,rfl,h1,r1⟩:=trodAll_cons r0
  obtain⟨v2,vs2,d2,ds2,p2,q2,rfl,rfl,rfl,h2,r2⟩:=trodAll_cons r1
  obtain⟨v3,vs3,d3,ds3,p3,q3,rfl,rfl,rfl,h3,r3⟩:=trodAll_cons r2
  obtain⟨rfl,rfl,rfl⟩:=trodAll_nil r3
  obtain rfl:args=#[v0,v1,v2,v3]:=by cases args; simp_all
  obtain⟨rfl,rfl⟩:=trodVars_none hV
  have lt0:∀ x∈p0,x.block < W.heap.size:=by obtain⟨m,hm⟩:=h0; exact DataW.trod_lt m _ _ _ hm
  obtain⟨us0,t0,D0⟩:=He2 (S:=J7 W ⟨fun _=>none,fun _ _=>False⟩ []) Hc5 Hc7 sh0 (hval 0 5 v0 rfl rfl) h0 trivial
  obtain⟨a0,o0,e0⟩:=op5 (n:=0) t0
  subst e0
  rw [J69 (by kernel_rfl)] at D0
  have lt1:∀ x∈p1,x.block < W.heap.size:=by obtain⟨m,hm⟩:=h1; exact DataW.trod_lt m _ _ _ hm
  obtain⟨us1,t1,D1⟩:=He2 (S:=J7 W ⟨fun _=>none,fun _ _=>False⟩ []) Hc5 Hc7 sh1 (hval 1 5 v1 rfl rfl) h1 trivial
  obtain⟨a1,o1,e1⟩:=op5 (n:=0) t1
  subst e1
  rw [J69 (by kernel_rfl)] at D1
  have lt2:∀ x∈p2,x.block < W.heap.size:=by obtain⟨m,hm⟩:=h2; exact DataW.trod_lt m _ _ _ hm
  obtain⟨us2,t2,D2⟩:=He2 (S:=J7 W ⟨fun _=>none,fun _ _=>False⟩ []) Hc5 Hc7 sh2 (hval 2 31 v2 rfl rfl) h2 trivial
  obtain⟨a2,o2,e2⟩:=op31 (n:=0) t2
  subst e2
  rw [J69 (by kernel_rfl)] at D2
  have lt3:∀ x∈p3,x.block < W.heap.size:=by obtain⟨m,hm⟩:=h3; exact DataW.trod_lt m _ _ _ hm
  obtain⟨us3,t3,D3⟩:=He2 (S:=J7 W ⟨fun _=>none,fun _ _=>False⟩ []) Hc5 Hc7 sh3 (hval 3 31 v3 rfl rfl) h3 trivial
  obtain⟨a3,o3,e3⟩:=op31 (n:=0) t3
  subst e3
  rw [J69 (by kernel_rfl)] at D3
  refine(R71 (G92 9000100 a0 a1 a2 a3 true (Q89 a0 a1 a2 a3 (u8r o0) (u8r o1) (fun v hv=>u8r (o2.1 v hv)) (fun v hv=>u8r (o3.1 v hv)))) rfl (fun j u v hu hv=>?_)).mono fun e W' h=>?_
  · match j,hu,hv with
    | 0,hu,hv=>cases hu; cases hv; exact D0
    | 1,hu,hv=>cases hu; cases hv; exact D1
    | 2,hu,hv=>cases hu; cases hv; exact D2
    | 3,hu,hv=>cases hu; cases hv; exact D3
    | j+4,hu,hv=>cases hu
  · obtain⟨v,r,β',he,bel,hv,rfl⟩:=h
    subst he
    cases hv with | data hv=>cases hv with | sc=>
    exact⟨_,rfl,_,_,_,[],_,[],hW',trodAll_mk1 (shut_bool unB _),(trodAll_cons_mk (Below.trod laidOut (by kernel_rfl) (of_decide_eq_true (by kernel_rfl)) h0 bel lt0) (trodAll_cons_mk (Below.trod laidOut (by kernel_rfl) (of_decide_eq_true (by kernel_rfl)) h1 bel lt1) (trodAll_cons_mk (Below.trod laidOut (by kernel_rfl) (of_decide_eq_true (by kernel_rfl)) h2 bel lt2) (trodAll_cons_mk (Below.trod laidOut (by kernel_rfl) (of_decide_eq_true (by kernel_rfl)) h3 bel lt3) trodAll_mk0)))),rfl,bel.frame _,fun h=>by cases h⟩

end GMarshalHelps

/-- The given statement. -/
theorem marshalHelps_holds : Rows.MarshalHelpsSaid :=
  OpenClaim.holds_of_wide 9 Try.f9 rfl rfl rfl rfl rfl rfl rfl ⟨rfl,rfl,rfl,rfl,rfl⟩ rfl rfl rfl rfl rfl (by kernel_rfl) Try.func9 (by kernel_rfl)
    (of_decide_eq_true (by kernel_rfl)) (by unfold Func.isWrapper; first | (rw [if_pos (by decide +kernel)]; kernel_rfl) | (rw [if_neg (by decide +kernel)]; exact⟨rfl,rfl⟩))
    (fun os started H enc _=>GMarshalHelps.lifted os started H enc)
#print axioms marshalHelps_holds
end Go.Proofs.Ytokjlondbjdlfaa

