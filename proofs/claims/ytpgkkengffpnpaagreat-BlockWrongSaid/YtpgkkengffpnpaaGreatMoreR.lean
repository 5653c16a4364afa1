/-
 What is reached for,of the states that the chapter's statements make.
-/
import Derived.Test.YtpgkkengffpnpaaGreatBuiltB
set_option linter.unusedSimpArgs false
set_option linter.unnecessarySimpa false
set_option maxRecDepth 100000
set_option linter.unusedVariables false
namespace Go.Proofs.YtpgkkengffpnpaaGreat
open Go.RowKit

theorem G20.mem {s:Gp} {l:List Stowed} {ids r:List Int} (h:G20 s l ids r) (hi:∀ a∈ids,a∈l.map (·.G9)):∀ a∈r,a∈l.map (·.G9):=
 h.least (·∈l.map (·.G9)) (fun a b _ hp=>by
  obtain⟨x,_,_,y,hy,e,_⟩:=hp
  exact List.mem_map.2 ⟨y,hy,e⟩) hi
theorem G20.mono {s:Gp} {l:List Stowed} {ids ids' r r':List Int} (h:G20 s l ids r) (h':G20 s l ids' r') (hi:∀ a∈ids,a∈ids'):∀ a∈r,a∈r':=
 h.least (·∈r') (fun a b ha hp=>h'.closed a ha b hp) (fun a ha=>h'.seeds a (hi a ha))
theorem G20.len {s:Gp} {l:List Stowed} {ids r:List Int} (h:G20 s l ids r) (hi:∀ a∈ids,a∈l.map (·.G9)):r.length≤l.length:=by
 have:=(G83 h.sorted).length_le_of_subset (fun a ha=>h.mem hi a ha)
 simpa using this
/-- A ship and a state as the chapter's statements make them. -/
structure H07 (s:Gp) (boxes:List G9) (l:List Stowed):Prop where
 ship:LimOk s
 right:Ri s boxes l
 len:l.length≤10
end Go.Proofs.YtpgkkengffpnpaaGreat
