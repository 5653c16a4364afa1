/-
 slices.SortFunc in a model. Slices of whole numbers of the call's own,sorted in place by the library.
-/
import Derived.Test.YtfkilljboodoaaaGreatSort
set_option maxRecDepth 100000
namespace Go.Proofs.YtfkilljboodoaaaGreat
open Go.RowKit Go.Shelf Go.Sort

open Classical in
noncomputable def J7c {α:Type} [Inhabited α] (cmp:α→α→Option Int) (xs:List α):Option (List α):=
 if h:∃ cf:α→α→Int,(∀ x y,cmp x y=some (cf x y))∧SWO (ltOf cf)∧xs.length < 4611686018427387904 then some (G0d h.choose xs) else none
theorem sortM_out {α:Type} [Inhabited α] {cmp:α→α→Option Int} {xs r:List α} (h:J7c cmp xs=some r):∃ cf:α→α→Int,(∀ x y,cmp x y=some (cf x y))∧SWO (ltOf cf)∧xs.length < 4611686018427387904∧r=G0d cf xs:=by
 unfold J7c at h
 split at h
 ·next hh=>exact⟨hh.choose,hh.choose_spec.1,hh.choose_spec.2.1,hh.choose_spec.2.2,(Option.some.inj h).symm⟩
 ·cases h
theorem sortM_eq {α:Type} [Inhabited α] {cmp:α→α→Option Int} (cf:α→α→Int) (hc:∀ x y,cmp x y=some (cf x y)) (hO:SWO (ltOf cf)) {xs:List α} (hl:xs.length < 4611686018427387904):J7c cmp xs=some (G0d cf xs):=by
 have hh:∃ cf:α→α→Int,(∀ x y,cmp x y=some (cf x y))∧SWO (ltOf cf)∧xs.length < 4611686018427387904:=⟨cf,hc,hO,hl⟩
 unfold J7c
 rw [dif_pos hh]
 have:hh.choose=cf:=by
  funext x y
  have h1:=hh.choose_spec.1 x y
  rw [hc x y] at h1
  exact(Option.some.inj h1).symm
 rw [this]

theorem cells1 {vs:List Value} (h:vs.all Value.oneCell'=true):∀ v∈vs,v.oneCell'=true:=List.all_eq_true.1 h

section ops
variable {P:Program} {o:Oper} {l:Fr} {L L'':Loc}
theorem A_sortM {F:FuncId} {x y:Operand} {ts:Array TypeId} {k i ver E n:Nat} {g:FuncId} {caps:List AV} {α:Type} [Inhabited α] {f:α→AV} {cmp:α→α→Option Int} {xs r:List α} (enc:α→List Value) (ho:o.op=.call { callee:=.value (.func F),args:=#[x,y],argTypes:=ts })
  (hs:Heb P F k) (h0:SortNone P F) (hf:Flat f enc) (hk:∀ x,(enc x).length=k) (h1:∀ x,∀ v∈enc x,v.oneCell'=true) (hB:Hn P F=true) (hgB:Hn P g=true)
  (hx:ev l x=.vec i ver k n) (hy:ev l y=.fn g caps) (hi:lk L i=some (.vec E k ver (xs.map f))) (hn:n=xs.length) (hcd:G0a (fun _=>false) caps=true) (h:J7c cmp xs=some r)
  (hcmp:∀ x y q,cmp x y=some q→Pure P g ([f x,f y]++caps) (·=G1 q)) (hL:(i,.vec E k ver (r.map f))::H7e L [(i,.vec E k ver (xs.map f))]=L''):H2 P o l L (Is (.tup []) L''):=by
 obtain⟨cf,hc,hO,hl,rfl⟩:=sortM_out h
 subst hn
 have hcall:=sort_calls (P:=P) (F:=F) (k:=k) hs h0 enc hf hk h1 cf hO g hgB caps hcd (fun a b=>hcmp a b _ (hc a b)) i ver E xs hl
 refine Jbe (xs:=[x,y]) ho hcall hB ⟨.inl hx,?_,.inl hy,?_,trivial⟩ ⟨hi,trivial⟩ ?_ ?_ hL
 ·simp [AV.refs,G05,lk]
 ·exact Yb _ _ hcd
 ·simp [closedIn,Je.refs]
 ·simp [H04,G05,lk]
end ops
end Go.Proofs.YtfkilljboodoaaaGreat
set_option maxRecDepth 100000
namespace Go.Proofs.YtfkilljboodoaaaGreat
open Go.RowKit Go.Sort Go.Shelf

section ops
variable {P:Program} {o:Oper} {l:Fr} {L L'':Loc}
end ops
end Go.Proofs.YtfkilljboodoaaaGreat
