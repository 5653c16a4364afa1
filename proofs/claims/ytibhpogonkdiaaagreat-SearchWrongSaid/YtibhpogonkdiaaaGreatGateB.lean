/-
  SearchWrong,as it is given: whatever the arguments,the law returns true,and the arguments read as they did. No condition.
-/
import Derived.Test.YtibhpogonkdiaaaGreatRows
import Derived.Test.YtibhpogonkdiaaaGreatEnds
import Derived.Test.YtibhpogonkdiaaaGreatSeaN
import Derived.ChangeSame
import Derived.Carry
set_option linter.unusedSimpArgs false
set_option linter.unnecessarySimpa false
set_option maxRecDepth 100000
set_option linter.unusedVariables false
namespace Go.Proofs.YtibhpogonkdiaaaGreat
open Go.RowKit Go.ChangeShapes Go.WideShapes Go.ChangeAt
namespace GSearchWrong
noncomputable section
abbrev MX:Nat:=maxLen
theorem J75 {H:Type}:H83 H MX (fun _=>True):=H83.all
theorem op5 {n:Nat} {us:List AV} (h:Zj Tryz.prog MX (n+1) 5 us):∃ x:Int,(fun z:Int=>(Lit.int .u8 z).wf=true) x∧us=[U8 x]:=Hf1 h Tryz.underlying5
theorem op4 {n:Nat} {us:List AV} (h:Zj Tryz.prog MX (n+1) 4 us):∃ x:Bool,(fun _:Bool=>True) x∧us=[BL x]:=Qc3 h Tryz.underlying4
structure H2.ok (x:H2):Prop where
  Bay:(fun z:Int=>(Lit.int .u8 z).wf=true) x.Bay
  Row:(fun z:Int=>(Lit.int .u8 z).wf=true) x.Row
  Tiers:(fun z:Int=>(Lit.int .u8 z).wf=true) x.Tiers
  Deck:(fun _:Bool=>True) x.Deck
theorem Y1b {n:Nat} {us:List AV} (h:Zj Tryz.prog MX (n+2) 133 us):∃ x:H2,H2.ok x∧us=x.cs:=by
  have h:=Q03 h Tryz.underlying133
  obtain⟨u0,r0,e0,_,h0,h⟩:=h
  obtain⟨x0,o0,rfl⟩:=op5 h0
  obtain⟨u1,r1,e1,_,h1,h⟩:=h
  obtain⟨x1,o1,rfl⟩:=op5 h1
  obtain⟨u2,r2,e2,_,h2,h⟩:=h
  obtain⟨x2,o2,rfl⟩:=op5 h2
  obtain⟨u3,r3,e3,_,h3,h⟩:=h
  obtain⟨x3,o3,rfl⟩:=op4 h3
  have h:r3=[]:=h
  subst h
  subst e3
  subst e2
  subst e1
  subst e0
  exact⟨⟨x0,x1,x2,x3⟩,⟨o0,o1,o2,o3⟩,rfl⟩
theorem op22 {n:Nat} {us:List AV} (h:Zj Tryz.prog MX (n+3) 22 us):∃ xs:List H2,(fun xs:List H2=>(∀ x∈xs,H2.ok x)∧xs.length≤MX) xs∧us=[(LS 4 H2.av) xs]:=
  Qc2 (ok:=H2.ok) h Tryz.underlying22 (by kernel_rfl) (fun us h=>by
    obtain⟨x,hx,rfl⟩:=Y1b h
    exact⟨x,hx,Rf1 Tryz.underlying133⟩)
theorem op23 {n:Nat} {us:List AV} (h:Zj Tryz.prog MX (n+1) 23 us):∃ x:Int,(fun z:Int=>(Lit.int .u32 z).wf=true) x∧us=[(fun n=>.sc (.int .u32 n)) x]:=Hf1 h Tryz.underlying23
theorem op3 {n:Nat} {us:List AV} (h:Zj Tryz.prog MX (n+1) 3 us):∃ x:Int,(fun z:Int=>(Lit.int .i64 z).wf=true) x∧us=[I64 x]:=Hf1 h Tryz.underlying3
end
theorem fnq:Tryz.prog.funcs[3]? = some Tryz.f3:=Tryz.func3
theorem own:ownKnob Tryz.prog.godebug=none:=by kernel_rfl
theorem laidOut:laidOutB Tryz.prog=true:=by kernel_rfl
theorem unB:Tryz.prog.underlying 4=some .bool:=by kernel_rfl
theorem sh0:Q5f Tryz.prog 3 22=true:=by kernel_rfl
theorem sh1:Q5f Tryz.prog 1 23=true:=by kernel_rfl
theorem sh2:Q5f Tryz.prog 1 3=true:=by kernel_rfl

theorem lifted (os:Os) (started:os.Started) (H:Type) (enc:TypeId×Value→H) :
    ReturnsInHanded {} Tryz.checked os 3 .any (Rows.searchWrongSpec.pre6 enc Tryz.prog Tryz.f3 Rows.searchWrongRow.domain false) (Rows.searchWrongSpec.post enc Tryz.prog Tryz.f3 false true false false):=by
  refine returnsInHanded_of_change (C:=Tryz.checked) own started (by kernel_rfl) Tryz.func3
    (ChangeSpec.witness6 (enc:=enc) (C:=Tryz.checked) false ⟨#[],#[.slice none 0 0,.int .u32 0,.int .i64 0],[]⟩ 8 (by kernel_rfl) (by kernel_rfl) (by kernel_rfl) (by kernel_rfl)) ?_
  intro W base args ds gs before hval0 hW hcnd _
  have hval:∀ (j:Nat) t v,Tryz.f3.params[j]? = some t→args[j]? = some v→Value.okWide Tryz.prog W .any base t v:=hval0
  have hW':=hW
  obtain⟨p,q,hA0,hV,rfl,hfz,hnd⟩:=hW
  have hA:DataW.TrodAll enc Tryz.prog W 0 (fun _=>true) true Tryz.f3.params.toList args.toList ds p:=hA0
  rw [Tryz.params3] at hA hval
  obtain⟨v0,vs0,d0,ds0,p0,q0,hargs,rfl,rfl,h0,r0⟩:=trodAll_cons hA
  obtain⟨v1,vs1,d1,ds1,p1,q1,rfl,rfl,rfl,h1,r1⟩:=trodAll_cons r0
  obtain⟨v2,vs2,d2,ds2,p2,q2,rfl,rfl,rfl,h2,r2⟩:=trodAll_cons r1
  obtain⟨rfl,rfl,rfl⟩:=trodAll_nil r2
  obtain rfl:args=#[v0,v1,v2]:=by cases args; simp_all
  obtain⟨rfl,rfl⟩:=trodVars_none hV
  have lt0:∀ x∈p0,x.block < W.heap.size:=by obtain⟨m,hm⟩:=h0; exact DataW.trod_lt m _ _ _ hm
  obtain⟨us0,t0,D0⟩:=J93 (S:=Hn W ⟨fun _=>none,fun _ _=>False⟩ []) J73 J75 sh0 (hval 0 22 v0 rfl rfl) h0 trivial
  obtain⟨a0,o0,e0⟩:=op22 (n:=0) t0
  subst e0
  rw [Qe2 (by kernel_rfl)] at D0
  have lt1:∀ x∈p1,x.block < W.heap.size:=by obtain⟨m,hm⟩:=h1; exact DataW.trod_lt m _ _ _ hm
  obtain⟨us1,t1,D1⟩:=J93 (S:=Hn W ⟨fun _=>none,fun _ _=>False⟩ []) J73 J75 sh1 (hval 1 23 v1 rfl rfl) h1 trivial
  obtain⟨a1,o1,e1⟩:=op23 (n:=0) t1
  subst e1
  rw [Qe2 (by kernel_rfl)] at D1
  have lt2:∀ x∈p2,x.block < W.heap.size:=by obtain⟨m,hm⟩:=h2; exact DataW.trod_lt m _ _ _ hm
  obtain⟨us2,t2,D2⟩:=J93 (S:=Hn W ⟨fun _=>none,fun _ _=>False⟩ []) J73 J75 sh2 (hval 2 3 v2 rfl rfl) h2 trivial
  obtain⟨a2,o2,e2⟩:=op3 (n:=0) t2
  subst e2
  rw [Qe2 (by kernel_rfl)] at D2
  refine(Ra4 (G9e 60 a0 a1 a2 true (Qda a0 a1 a2 (fun p hp=>⟨u8r (o0.1 p hp).Bay,u8r (o0.1 p hp).Row,u8r (o0.1 p hp).Tiers⟩))) rfl (fun j u v hu hv=>?_)).mono fun e W' h=>?_
  · match j,hu,hv with
    | 0,hu,hv=>cases hu; cases hv; exact D0
    | 1,hu,hv=>cases hu; cases hv; exact D1
    | 2,hu,hv=>cases hu; cases hv; exact D2
    | j+3,hu,hv=>cases hu
  · obtain⟨v,r,β',he,bel,hv,rfl⟩:=h
    subst he
    cases hv with | data hv=>cases hv with | sc=>
    exact⟨_,rfl,_,_,_,[],_,[],hW',trodAll_mk1 (shut_bool unB _),(trodAll_cons_mk (Below.trod laidOut (by kernel_rfl) (of_decide_eq_true (by kernel_rfl)) h0 bel lt0) (trodAll_cons_mk (Below.trod laidOut (by kernel_rfl) (of_decide_eq_true (by kernel_rfl)) h1 bel lt1) (trodAll_cons_mk (Below.trod laidOut (by kernel_rfl) (of_decide_eq_true (by kernel_rfl)) h2 bel lt2) trodAll_mk0))),rfl,bel.frame _,fun h=>by cases h⟩

end GSearchWrong

/-- The given statement. -/
theorem searchWrong_holds : Rows.SearchWrongSaid :=
  OpenClaim.holds_of_wide 3 Tryz.f3 rfl rfl rfl rfl rfl rfl rfl ⟨rfl,rfl,rfl,rfl,rfl⟩ rfl rfl rfl rfl rfl (by kernel_rfl) Tryz.func3 (by kernel_rfl)
    (of_decide_eq_true (by kernel_rfl)) (by unfold Func.isWrapper; first | (rw [if_pos (by decide +kernel)]; kernel_rfl) | (rw [if_neg (by decide +kernel)]; exact⟨rfl,rfl⟩))
    (fun os started H enc _=>GSearchWrong.lifted os started H enc)
#print axioms searchWrong_holds
end Go.Proofs.YtibhpogonkdiaaaGreat

