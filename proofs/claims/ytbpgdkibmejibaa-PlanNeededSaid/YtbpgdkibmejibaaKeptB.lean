/-
  What is lifted between two states: the walk ends, and tells numbers of boxes, each once.
-/
import Derived.Test.YtbpgdkibmejibaaKeptA
set_option maxRecDepth 100000
namespace Go.Proofs.Ytbpgdkibmejibaa
open Go.RowKit

/-- Ships whose covers and columns are few. -/
structure Small (s : Ship) : Prop where
  right : S_ship_Right s = some true
  cols : 1 ≤ s.Columns.length ∧ s.Columns.length ≤ 40
  tiers : ∀ c ∈ s.Columns, c.Tiers ≤ 100
  covs : s.Covers.length ≤ 1000
  rows : ∀ x ∈ s.Covers, x.Rows.length ≤ 1000
theorem built_small {s : Ship} (h : BuiltOk s) : Small s :=
  ⟨built_right h, ⟨h.some, by have := h.cols.len; omega⟩, fun c hc => by have := (h.cols.each c hc).tiers; omega, by have := h.covs.len; omega, fun x hx => by
    rcases (h.covs.each x hx).rows with e | e <;> rw [e] <;> simp⟩

def ColIn (s : Ship) (x : Slot) : Prop := ∃ (m : Nat) (c : Column), x.Column = (m : Int) ∧ s.Columns[m]? = some c
structure LInv (U : List Int) (m : AMap Int Unit) (l : List Int) : Prop where
  nodup : l.Nodup
  sub : ∀ a ∈ l, a ∈ U
  has : ∀ a, AMap.has m a = decide (a ∈ l)
theorem LInv.le {U : List Int} {m : AMap Int Unit} {l : List Int} (h : LInv U m l) : l.length ≤ U.length := h.nodup.length_le_of_subset (fun a ha => h.sub a ha)
theorem LInv.start {U : List Int} : LInv U (AMap.empty : AMap Int Unit) [] := ⟨List.nodup_nil, fun a ha => (List.not_mem_nil ha).elim, fun a => by simp [amap_has_empty]⟩
theorem LInv.snoc {U : List Int} {m : AMap Int Unit} {l : List Int} (h : LInv U m l) {id : Int} (h1 : id ∉ l) (h2 : id ∈ U) : LInv U (AMap.put m id ()) (l ++ [id]) := by
  refine ⟨?_, fun a ha => ?_, fun a => ?_⟩
  · rw [List.nodup_append]
    refine ⟨h.nodup, by simp, fun a ha b hb => ?_⟩
    rw [List.mem_singleton] at hb; subst hb
    intro e; subst e; exact h1 ha
  · rcases List.mem_append.1 ha with ha | ha
    · exact h.sub a ha
    · rw [List.mem_singleton] at ha; subst ha; exact h2
  · rw [amap_has_put, h.has, Bool.eq_iff_iff]
    simp only [Bool.or_eq_true, decide_eq_true_eq, List.mem_append, List.mem_singleton]
    exact ⟨fun h => h.elim (fun e => .inr e.symm) .inl, fun h => h.elim .inr (fun e => .inl e.symm)⟩

theorem set_add (m : AMap Int Unit) (k : Int) : M_plan_set_int_add m k = some (if AMap.has m k then (false, m) else (true, AMap.put m k ())) := by
  unfold M_plan_set_int_add
  cases AMap.has m k <;> rfl

structure StatesOk (s : Ship) (U : List Int) (states : List (List Stowed)) : Prop where
  small : Small s
  each : ∀ st ∈ states, ∀ x ∈ st, x.Box ∈ U ∧ ColIn s x.Slot
  len : U.length ≤ 1000

theorem lifted_same (F : Nat) (s : Ship) (l : List Stowed) : M_plan_lifted F s l l = some [] := by
  refine wp_eq ?_
  unfold M_plan_lifted
  refine wp_each (fun _ s9 => s9.2 = []) rfl (fun pre st post s9 nx e hI hnx => ?_) (fun s9 hI => ?_)
  · refine wp_each (fun _ s59 => s59.2 = []) hI (fun pre y post s59 nx2 e hI hnx2 => ?_) (fun s59 hI => hnx _ hI)
    refine wp_jp (fun j => j.2 = []) (fun K hK => ?_) (fun j hj => hnx2 _ hj)
    refine wp_bnd_eq (plan_find l y.Box) (wp_bnd_eq (plan_find l y.Box) (wp_bif (fun h => ?_) (fun _ => hK _ hI)))
    simp at h
  · rw [hI]
    exact wp_bnd_eq (show sortIM [] = some [] from rfl) (wp_some rfl)

/-! ### slices.DeleteFunc -/
end Go.Proofs.Ytbpgdkibmejibaa
