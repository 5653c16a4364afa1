/-
  SearchLeast,as it is given: whatever the arguments,the law returns true,and the arguments read as they did. No condition.
-/
import Derived.Test.YtibhpogonkdiaaaGreatRows
import Derived.Test.YtibhpogonkdiaaaGreatFrames
import Derived.Test.YtibhpogonkdiaaaGreatSeaW
import Derived.ChangeSame
import Derived.Carry
set_option maxRecDepth 100000
set_option linter.unusedVariables false
namespace Go.Proofs.YtibhpogonkdiaaaGreat
open Go.RowKit Go.ChangeShapes Go.WideShapes Go.ChangeAt
namespace GSearchLeast
noncomputable section
abbrev MX:Nat:=maxLen
theorem wL {H:Type}:yQ H MX (fun _=>True):=yQ.all
theorem op5 {n:Nat} {us:List AV} (h:cH Tryz.prog MX (n+1) 5 us):∃ x:Int,(fun z:Int=>(Lit.int .u8 z).wf=true) x∧us=[U8 x]:=Gc0 h Tryz.underlying5
theorem op4 {n:Nat} {us:List AV} (h:cH Tryz.prog MX (n+1) 4 us):∃ x:Bool,(fun _:Bool=>True) x∧us=[BL x]:=Hf3 h Tryz.underlying4
structure Hc.ok (x:Hc):Prop where
  Bay:(fun z:Int=>(Lit.int .u8 z).wf=true) x.Bay
  Row:(fun z:Int=>(Lit.int .u8 z).wf=true) x.Row
  Tiers:(fun z:Int=>(Lit.int .u8 z).wf=true) x.Tiers
  Deck:(fun _:Bool=>True) x.Deck
theorem Q75 {n:Nat} {us:List AV} (h:cH Tryz.prog MX (n+2) 133 us):∃ x:Hc,Hc.ok x∧us=x.cs:=by
  have h:=HQ h Tryz.underlying133
  obtain⟨u0,r0,e0,_,h0,h⟩:=h
  obtain⟨x0,o0,rfl⟩:=op5 h0
  obtain⟨u1,r1,e1,_,h1,h⟩:=h
  obtain⟨x1,o1,rfl⟩:=op5 h1
  obtain⟨u2,r2,e2,_,h2,h⟩:=h
  obtain⟨x2,o2,rfl⟩:=op5 h2
  obtain⟨u3,r3,e3,_,h3,h⟩:=h
  obtain⟨x3,o3,rfl⟩:=op4 h3
  have h:r3=[]:=h
  subst h
  subst e3
  subst e2
  subst e1
  subst e0
  exact⟨⟨x0,x1,x2,x3⟩,⟨o0,o1,o2,o3⟩,rfl⟩
theorem op22 {n:Nat} {us:List AV} (h:cH Tryz.prog MX (n+3) 22 us):∃ xs:List Hc,(fun xs:List Hc=>(∀ x∈xs,Hc.ok x)∧xs.length≤MX) xs∧us=[(LS 4 Hc.av) xs]:=
  G48 (ok:=Hc.ok) h Tryz.underlying22 (by kernel_rfl) (fun us h=>by
    obtain⟨x,hx,rfl⟩:=Q75 h
    exact⟨x,hx,Jca Tryz.underlying133⟩)
theorem op23 {n:Nat} {us:List AV} (h:cH Tryz.prog MX (n+1) 23 us):∃ x:Int,(fun z:Int=>(Lit.int .u32 z).wf=true) x∧us=[(fun n=>.sc (.int .u32 n)) x]:=Gc0 h Tryz.underlying23
structure Gu.ok (x:Gu):Prop where
  G7:(fun z:Int=>(Lit.int .u8 z).wf=true) x.G7
  Kilos:(fun z:Int=>(Lit.int .u8 z).wf=true) x.Kilos
  Load:(fun z:Int=>(Lit.int .u8 z).wf=true) x.Load
  Stay:(fun z:Int=>(Lit.int .u8 z).wf=true) x.Stay
  Small:(fun _:Bool=>True) x.Small
  High:(fun _:Bool=>True) x.High
theorem op99 {n:Nat} {us:List AV} (h:cH Tryz.prog MX (n+2) 99 us):∃ x:Gu,Gu.ok x∧us=x.cs:=by
  have h:=HQ h Tryz.underlying99
  obtain⟨u0,r0,e0,_,h0,h⟩:=h
  obtain⟨x0,o0,rfl⟩:=op5 h0
  obtain⟨u1,r1,e1,_,h1,h⟩:=h
  obtain⟨x1,o1,rfl⟩:=op5 h1
  obtain⟨u2,r2,e2,_,h2,h⟩:=h
  obtain⟨x2,o2,rfl⟩:=op5 h2
  obtain⟨u3,r3,e3,_,h3,h⟩:=h
  obtain⟨x3,o3,rfl⟩:=op5 h3
  obtain⟨u4,r4,e4,_,h4,h⟩:=h
  obtain⟨x4,o4,rfl⟩:=op4 h4
  obtain⟨u5,r5,e5,_,h5,h⟩:=h
  obtain⟨x5,o5,rfl⟩:=op4 h5
  have h:r5=[]:=h
  subst h
  subst e5
  subst e4
  subst e3
  subst e2
  subst e1
  subst e0
  exact⟨⟨x0,x1,x2,x3,x4,x5⟩,⟨o0,o1,o2,o3,o4,o5⟩,rfl⟩
theorem op53 {n:Nat} {us:List AV} (h:cH Tryz.prog MX (n+3) 53 us):∃ xs:List Gu,(fun xs:List Gu=>(∀ x∈xs,Gu.ok x)∧xs.length≤MX) xs∧us=[(LS 6 Gu.av) xs]:=
  G48 (ok:=Gu.ok) h Tryz.underlying53 (by kernel_rfl) (fun us h=>by
    obtain⟨x,hx,rfl⟩:=op99 h
    exact⟨x,hx,Jca Tryz.underlying99⟩)
end
theorem fnq:Tryz.prog.funcs[6]? = some Tryz.f6:=Tryz.func6
theorem own:ownKnob Tryz.prog.godebug=none:=by kernel_rfl
theorem laidOut:laidOutB Tryz.prog=true:=by kernel_rfl
theorem unB:Tryz.prog.underlying 4=some .bool:=by kernel_rfl
theorem sh0:Ga9 Tryz.prog 3 22=true:=by kernel_rfl
theorem sh1:Ga9 Tryz.prog 1 23=true:=by kernel_rfl
theorem sh2:Ga9 Tryz.prog 3 53=true:=by kernel_rfl
theorem sh3:Ga9 Tryz.prog 1 5=true:=by kernel_rfl
theorem sh4:Ga9 Tryz.prog 1 5=true:=by kernel_rfl

theorem lifted (os:Os) (started:os.Started) (H:Type) (enc:TypeId×Value→H) :
    ReturnsInHanded {} Tryz.checked os 6 .any (Rows.searchLeastSpec.pre6 enc Tryz.prog Tryz.f6 Rows.searchLeastRow.domain false) (Rows.searchLeastSpec.post enc Tryz.prog Tryz.f6 false true false false):=by
  refine returnsInHanded_of_change (C:=Tryz.checked) own started (by kernel_rfl) Tryz.func6
    (ChangeSpec.witness6 (enc:=enc) (C:=Tryz.checked) false ⟨#[],#[.slice none 0 0,.int .u32 0,.slice none 0 0,.int .u8 0,.int .u8 0],[]⟩ 8 (by kernel_rfl) (by kernel_rfl) (by kernel_rfl) (by kernel_rfl)) ?_
  intro W base args ds gs before hval0 hW hcnd _
  have hval:∀ (j:Nat) t v,Tryz.f6.params[j]? = some t→args[j]? = some v→Value.okWide Tryz.prog W .any base t v:=hval0
  have hW':=hW
  obtain⟨p,q,hA0,hV,rfl,hfz,hnd⟩:=hW
  have hA:DataW.TrodAll enc Tryz.prog W 0 (fun _=>true) true Tryz.f6.params.toList args.toList ds p:=hA0
  rw [Tryz.params6] at hA hval
  obtain⟨v0,vs0,d0,ds0,p0,q0,hargs,rfl,rfl,h0,r0⟩:=trodAll_cons hA
  obtain⟨v1,vs1,d1,ds1,p1,q1,rfl,rfl,rfl,h1,r1⟩:=trodAll_cons r0
  obtain⟨v2,vs2,d2,ds2,p2,q2,rfl,rfl,rfl,h2,r2⟩:=trodAll_cons r1
  obtain⟨v3,vs3,d3,ds3,p3,q3,rfl,rfl,rfl,h3,r3⟩:=trodAll_cons r2
  obtain⟨v4,vs4,d4,ds4,p4,q4,rfl,rfl,rfl,h4,r4⟩:=trodAll_cons r3
  obtain⟨rfl,rfl,rfl⟩:=trodAll_nil r4
  obtain rfl:args=#[v0,v1,v2,v3,v4]:=by cases args; simp_all
  obtain⟨rfl,rfl⟩:=trodVars_none hV
  have lt0:∀ x∈p0,x.block < W.heap.size:=by obtain⟨m,hm⟩:=h0; exact DataW.trod_lt m _ _ _ hm
  obtain⟨us0,t0,D0⟩:=xE (S:=J6 W ⟨fun _=>none,fun _ _=>False⟩ []) wG wL sh0 (hval 0 22 v0 rfl rfl) h0 trivial
  obtain⟨a0,o0,e0⟩:=op22 (n:=0) t0
  subst e0
  rw [G6e (by kernel_rfl)] at D0
  have lt1:∀ x∈p1,x.block < W.heap.size:=by obtain⟨m,hm⟩:=h1; exact DataW.trod_lt m _ _ _ hm
  obtain⟨us1,t1,D1⟩:=xE (S:=J6 W ⟨fun _=>none,fun _ _=>False⟩ []) wG wL sh1 (hval 1 23 v1 rfl rfl) h1 trivial
  obtain⟨a1,o1,e1⟩:=op23 (n:=0) t1
  subst e1
  rw [G6e (by kernel_rfl)] at D1
  have lt2:∀ x∈p2,x.block < W.heap.size:=by obtain⟨m,hm⟩:=h2; exact DataW.trod_lt m _ _ _ hm
  obtain⟨us2,t2,D2⟩:=xE (S:=J6 W ⟨fun _=>none,fun _ _=>False⟩ []) wG wL sh2 (hval 2 53 v2 rfl rfl) h2 trivial
  obtain⟨a2,o2,e2⟩:=op53 (n:=0) t2
  subst e2
  rw [G6e (by kernel_rfl)] at D2
  have lt3:∀ x∈p3,x.block < W.heap.size:=by obtain⟨m,hm⟩:=h3; exact DataW.trod_lt m _ _ _ hm
  obtain⟨us3,t3,D3⟩:=xE (S:=J6 W ⟨fun _=>none,fun _ _=>False⟩ []) wG wL sh3 (hval 3 5 v3 rfl rfl) h3 trivial
  obtain⟨a3,o3,e3⟩:=op5 (n:=0) t3
  subst e3
  rw [G6e (by kernel_rfl)] at D3
  have lt4:∀ x∈p4,x.block < W.heap.size:=by obtain⟨m,hm⟩:=h4; exact DataW.trod_lt m _ _ _ hm
  obtain⟨us4,t4,D4⟩:=xE (S:=J6 W ⟨fun _=>none,fun _ _=>False⟩ []) wG wL sh4 (hval 4 5 v4 rfl rfl) h4 trivial
  obtain⟨a4,o4,e4⟩:=op5 (n:=0) t4
  subst e4
  rw [G6e (by kernel_rfl)] at D4
  refine(Jfb (nB 60 a0 a1 a2 a3 a4 true (J10 a0 a1 a2 a3 a4 (fun p hp=>⟨u8r (o0.1 p hp).Bay,u8r (o0.1 p hp).Row,u8r (o0.1 p hp).Tiers⟩) (fun x hx=>⟨u8r (o2.1 x hx).G7,u8r (o2.1 x hx).Kilos,u8r (o2.1 x hx).Load,u8r (o2.1 x hx).Stay⟩) (u8r o3) (u8r o4))) rfl (fun j u v hu hv=>?_)).mono fun e W' h=>?_
  · match j,hu,hv with
    | 0,hu,hv=>cases hu; cases hv; exact D0
    | 1,hu,hv=>cases hu; cases hv; exact D1
    | 2,hu,hv=>cases hu; cases hv; exact D2
    | 3,hu,hv=>cases hu; cases hv; exact D3
    | 4,hu,hv=>cases hu; cases hv; exact D4
    | j+5,hu,hv=>cases hu
  · obtain⟨v,r,β',he,bel,hv,rfl⟩:=h
    subst he
    cases hv with | data hv=>cases hv with | sc=>
    exact⟨_,rfl,_,_,_,[],_,[],hW',trodAll_mk1 (shut_bool unB _),(trodAll_cons_mk (Below.trod laidOut (by kernel_rfl) (of_decide_eq_true (by kernel_rfl)) h0 bel lt0) (trodAll_cons_mk (Below.trod laidOut (by kernel_rfl) (of_decide_eq_true (by kernel_rfl)) h1 bel lt1) (trodAll_cons_mk (Below.trod laidOut (by kernel_rfl) (of_decide_eq_true (by kernel_rfl)) h2 bel lt2) (trodAll_cons_mk (Below.trod laidOut (by kernel_rfl) (of_decide_eq_true (by kernel_rfl)) h3 bel lt3) (trodAll_cons_mk (Below.trod laidOut (by kernel_rfl) (of_decide_eq_true (by kernel_rfl)) h4 bel lt4) trodAll_mk0))))),rfl,bel.frame _,fun h=>by cases h⟩

end GSearchLeast

/-- The given statement. -/
theorem searchLeast_holds : Rows.SearchLeastSaid :=
  OpenClaim.holds_of_wide 6 Tryz.f6 rfl rfl rfl rfl rfl rfl rfl ⟨rfl,rfl,rfl,rfl,rfl⟩ rfl rfl rfl rfl rfl (by kernel_rfl) Tryz.func6 (by kernel_rfl)
    (of_decide_eq_true (by kernel_rfl)) (by unfold Func.isWrapper; first | (rw [if_pos (by decide +kernel)]; kernel_rfl) | (rw [if_neg (by decide +kernel)]; exact⟨rfl,rfl⟩))
    (fun os started H enc _=>GSearchLeast.lifted os started H enc)
#print axioms searchLeast_holds
end Go.Proofs.YtibhpogonkdiaaaGreat

