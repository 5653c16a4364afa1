/-
 The examples of the chapter. StowMore: the law's plain mathematics.
-/
import Derived.Test.YtbljcmgjmieffaaGreatXP
import Derived.Test.YtbljcmgjmieffaaGreatBuiltO
set_option linter.unusedVariables false
set_option linter.unusedSimpArgs false
set_option linter.unnecessarySimpa false
set_option maxRecDepth 100000
namespace Go.Proofs.YtbljcmgjmieffaaGreat
open Go.RowKit
theorem awake09 : J5 60 = some true := by kernel_rfl
end Go.Proofs.YtbljcmgjmieffaaGreat
set_option linter.unusedSimpArgs false
set_option linter.unnecessarySimpa false
set_option maxRecDepth 100000
set_option linter.unusedVariables false
namespace Go.Proofs.YtbljcmgjmieffaaGreat
open Go.RowKit

theorem G22.mem {s:Gt} {l:List Stowed} {ids r:List Int} (h:G22 s l ids r) (hi:∀ a∈ids,a∈l.map (·.Ga)):∀ a∈r,a∈l.map (·.Ga):=
 h.least (·∈l.map (·.Ga)) (fun a b _ hp=>by
  obtain⟨x,_,_,y,hy,e,_⟩:=hp
  exact List.mem_map.2 ⟨y,hy,e⟩) hi
theorem G22.mono {s:Gt} {l:List Stowed} {ids ids' r r':List Int} (h:G22 s l ids r) (h':G22 s l ids' r') (hi:∀ a∈ids,a∈ids'):∀ a∈r,a∈r':=
 h.least (·∈r') (fun a b ha hp=>h'.closed a ha b hp) (fun a ha=>h'.seeds a (hi a ha))
theorem G22.len {s:Gt} {l:List Stowed} {ids r:List Int} (h:G22 s l ids r) (hi:∀ a∈ids,a∈l.map (·.Ga)):r.length≤l.length:=by
 have:=(G27 h.sorted).length_le_of_subset (fun a ha=>h.mem hi a ha)
 simpa using this
/-- A ship and a state as the chapter's statements make them. -/
structure J4c (s:Gt) (boxes:List Ga) (l:List Stowed):Prop where
 ship:LimOk s
 right:Rw s boxes l
 len:l.length≤10
theorem J4c.colIn {s:Gt} {boxes:List Ga} {l:List Stowed} (h:J4c s boxes l) {x:Stowed} (hx:x∈l):ColIn s x.Slot:=by
 obtain⟨b,_,h1,_⟩:=h.right.each x hx
 exact J2c h1
theorem above_at {s:Gt} {boxes:List Ga} {l:List Stowed} (h:J4c s boxes l) {x:Stowed} (hx:x∈l):Zc l x.Ga=some (G06 l x.Slot,0):=by
 have hl:=h.len
 rw [J29 l x.Ga (by omega)]
 obtain⟨x0,hf⟩:∃ x0,H6f l x.Ga=some x0:=by
  cases hq:H6f l x.Ga with
  | some x0=>exact⟨x0,rfl⟩
  | none=>exact absurd (decide_eq_true (rfl:x.Ga=x.Ga)) (by have:=List.find?_eq_none.1 hq x hx; simp at this)
 have h1:=List.mem_of_find?_eq_some hf
 have h2:x0.Ga=x.Ga:=of_decide_eq_true (List.find?_some (p:=fun z:Stowed=>decide (z.Ga=x.Ga)) hf)
 have h3:x0=x:=H0c h.right.sorted h1 hx h2
 subst h3
 unfold J4a
 rw [hf]
theorem H6a {n m:Nat} (h:n+m≤1000):decide ((n+m)*8≤140737488355328∧n+m≤maxLen)=true:=decide_eq_true ⟨by omega,by simp only [maxLen]; omega⟩

end Go.Proofs.YtbljcmgjmieffaaGreat
