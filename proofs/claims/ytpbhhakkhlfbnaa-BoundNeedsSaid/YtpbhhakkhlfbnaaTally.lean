/-
  Maps that count.
-/
import Derived.Test.YtpbhhakkhlfbnaaJoin
namespace Go.Proofs.Ytpbhhakkhlfbnaa
set_option linter.unusedVariables false
set_option linter.unusedSimpArgs false
section
variable {κ ν : Type} [DecidableEq κ]

theorem mhas_iff {l : List (κ × ν)} {a : κ} : mhas l a = true ↔ a ∈ l.map (·.1) := by
  simp [mhas]
theorem mget_cons (p : κ × ν) (l : List (κ × ν)) (a : κ) : mget (p :: l) a = if p.1 = a then some p.2 else mget l a := by
  unfold mget
  rw [List.find?_cons]
  by_cases h : p.1 = a <;> simp [h]
theorem mget_append (l m : List (κ × ν)) (a : κ) : mget (l ++ m) a = (mget l a).or (mget m a) := by
  induction l with
  | nil => simp [mget]
  | cons p l ih => rw [List.cons_append, mget_cons, mget_cons, ih]; split <;> simp
theorem mget_isSome {l : List (κ × ν)} {a : κ} : (mget l a).isSome = mhas l a := by
  induction l with
  | nil => rfl
  | cons p l ih =>
    rw [mget_cons]
    simp only [mhas, List.any_cons]
    by_cases h : p.1 = a
    · simp [h]
    · simpa [h, mhas] using ih
theorem mget_eq_none {l : List (κ × ν)} {a : κ} (h : mhas l a = false) : mget l a = none := by
  have := mget_isSome (l := l) (a := a)
  rw [h] at this
  simpa using this
theorem mget_mput (l : List (κ × ν)) (a b : κ) (v : ν) : mget (mput l a v) b = if a = b then some v else mget l b := by
  unfold mput
  split
  · rename_i h
    induction l with
    | nil => simp [mhas] at h
    | cons p l ih =>
      rw [List.map_cons, mget_cons, mget_cons]
      by_cases hp : p.1 = a
      · simp only [hp, if_true]
        by_cases hab : a = b
        · simp [hab]
        · simp only [hab, if_false]
          by_cases hl : mhas l a = true
          · rw [ih hl, if_neg hab]
          · have e : l.map (fun p => if p.1 = a then (a, v) else p) = l := by
              conv => rhs; rw [← List.map_id l]
              apply List.map_congr_left
              intro q hq
              have : q.1 ≠ a := fun e => hl (mhas_iff.2 (List.mem_map.2 ⟨q, hq, e⟩))
              simp [this]
            rw [e]
      · simp only [hp, if_false]
        have hl : mhas l a = true := by simpa [mhas, hp] using h
        rw [ih hl]
        by_cases hpb : p.1 = b
        · have : ¬ a = b := fun e => hp (hpb.trans e.symm)
          simp [hpb, this]
        · simp [hpb]
  · rename_i h
    rw [mget_append, mget_cons]
    by_cases hab : a = b
    · subst hab; rw [mget_eq_none (by simpa using h)]; simp
    · have : mget ([] : List (κ × ν)) b = none := rfl
      simp [hab, this]
theorem keys_mput (l : List (κ × ν)) (a : κ) (v : ν) : (mput l a v).map (·.1) = if mhas l a then l.map (·.1) else l.map (·.1) ++ [a] := by
  unfold mput
  split
  · rw [List.map_map]
    apply List.map_congr_left
    intro p _
    simp only [Function.comp]
    split <;> simp_all
  · simp
theorem keys_mins (l : List (κ × ν)) (a : κ) (z : ν) : (mins l a z).map (·.1) = if mhas l a then l.map (·.1) else l.map (·.1) ++ [a] := by
  unfold mins; split <;> simp
theorem mget_mins (l : List (κ × ν)) (a : κ) (z : ν) : (mget (mins l a z) a).getD z = (mget l a).getD z := by
  unfold mins
  split
  · rfl
  · rename_i h
    rw [mget_append, mget_eq_none (by simpa using h), mget_cons]; simp

/-- How often each thing is there, in the order in which they came. -/
def tally (l : List κ) : List (κ × Int) := l.foldl (fun m a => mput m a ((mget m a).getD 0 + 1)) []
theorem tally_snoc (l : List κ) (a : κ) : tally (l ++ [a]) = mput (tally l) a ((mget (tally l) a).getD 0 + 1) := by
  simp [tally, List.foldl_append]
theorem rev_ind {α : Type} {motive : List α → Prop} (l : List α) (h0 : motive []) (h1 : ∀ l a, motive l → motive (l ++ [a])) : motive l := by
  have : ∀ n (l : List α), l.length = n → motive l := by
    intro n
    induction n with
    | zero => intro l hl; rw [List.eq_nil_of_length_eq_zero hl]; exact h0
    | succ n ih =>
      intro l hl
      have hne : l ≠ [] := by intro e; rw [e] at hl; simp at hl
      rw [← List.dropLast_concat_getLast hne]
      exact h1 _ _ (ih _ (by simp [hl]))
  exact this _ l rfl
theorem tally_nodup (l : List κ) : ((tally l).map (·.1)).Nodup := by
  induction l using rev_ind with
  | h0 => simp [tally]
  | h1 l a ih => rw [tally_snoc]; exact nodup_mput ih _ _
theorem tally_get (l : List κ) (a : κ) : (mget (tally l) a).getD 0 = (l.count a : Int) := by
  induction l using rev_ind with
  | h0 => simp [tally, mget]
  | h1 l b ih =>
    rw [tally_snoc, mget_mput, List.count_append]
    by_cases h : b = a
    · subst h; rw [if_pos rfl, ih]; simp
    · rw [if_neg h, ih]; simp [h]
theorem tally_sub (l : List κ) (b : κ) (h : b ∈ (tally l).map (·.1)) : b ∈ l := by
  induction l using rev_ind with
  | h0 => simp [tally] at h
  | h1 l a ih =>
    rw [tally_snoc, keys_mput] at h
    split at h
    · simp [ih h]
    · rcases List.mem_append.1 h with h | h
      · simp [ih h]
      · simp at h; simp [h]
theorem tally_sup (l : List κ) (b : κ) (h : b ∈ l) : b ∈ (tally l).map (·.1) := by
  rw [← mhas_iff, ← mget_isSome]
  have h1 := tally_get l b
  have h2 := List.count_pos_iff.2 h
  cases hm : mget (tally l) b with
  | some _ => rfl
  | none => rw [hm] at h1; simp at h1; omega
theorem tally_val (l : List κ) {j : Nat} {a : κ} {n : Int} (h : (tally l)[j]? = some (a, n)) : n = (l.count a : Int) := by
  have h1 := (mget_at (tally_nodup l) h).1
  have h2 := tally_get l a
  rw [h1] at h2
  simpa using h2
theorem tally_bound (l : List κ) (a : κ) : 0 ≤ (mget (tally l) a).getD 0 ∧ (mget (tally l) a).getD 0 ≤ (l.length : Int) := by
  rw [tally_get]
  have := List.count_le_length (a := a) (l := l)
  omega
theorem tally_le_one (l : List κ) : (∀ (j : Nat) a n, (tally l)[j]? = some (a, n) → n ≤ 1) ↔ l.Nodup := by
  rw [List.nodup_iff_count]
  constructor
  · intro h a
    by_cases ha : a ∈ l
    · obtain ⟨p, hp, rfl⟩ := List.mem_map.1 (tally_sup l a ha)
      obtain ⟨j, hj⟩ := List.mem_iff_getElem?.1 hp
      have := h j p.1 p.2 hj
      rw [tally_val l hj] at this
      omega
    · rw [List.count_eq_zero.2 ha]; omega
  · intro h j a n hj
    rw [tally_val l hj]
    have := h a
    omega
end
section
variable {P : Program} {o : Oper} {l : Fr} {L : Loc} {κ ν : Type} [DecidableEq κ] {kv : κ → Value} {av : ν → AV}
def arrB (P : Program) (T E k : Nat) : Bool := (match P.underlying T with | some (.array _ e) => e == E | _ => false) && sizeB P E k
/-- An array that is laid out in the text. -/
theorem A_buildArr {T E k : Nat} {parts : List (Nat × Operand)} {cs : List AV} (zs : List Value) (hT : arrB P T E k = true) (hz : (P.info? T).bind (fun i => i.zero.map Value.cells) = some zs.toArray) (ho : o.op = .build T parts.toArray) (hfill : fillAV (fun i => some (i * k, k)) (zs.map .sc) (parts.map fun p => (p.1, ev l p.2)) = some cs) : AStep P o l L (Is (.agg cs) L) :=
  AStep_val fun a w β _ hf => by
    unfold arrB at hT
    simp only [Bool.and_eq_true] at hT
    obtain ⟨hT, hE⟩ := hT
    split at hT
    · rename_i n e hu
      simp at hT; subst hT
      cases h1 : P.info? T with
      | none => rw [h1] at hz; simp at hz
      | some inf =>
        rw [h1] at hz
        cases h2 : inf.zero with
        | none => simp [h2] at hz
        | some z =>
          simp only [Option.bind_some, h2, Option.map_some, Option.some.injEq] at hz
          obtain ⟨vs', e1, e2, e3⟩ := fill_ok (w := w) (β := β) (L := L) (qs := parts.map fun p => (p.1, a.eval p.2)) (vs := zs.toArray) hfill (by simp) (fun j p q hp hq => by
            simp only [List.getElem?_map, Option.map_eq_some_iff] at hp hq
            obtain ⟨x, hx, rfl⟩ := hp
            obtain ⟨y, hy, rfl⟩ := hq
            rw [hx] at hy; cases hy
            exact ⟨rfl, hf.ev _⟩) (by simp) (fun j u v hu hv => by
            simp only [List.getElem?_map, Option.map_eq_some_iff] at hu
            obtain ⟨x, hx, rfl⟩ := hu
            simp [hx] at hv; subst hv; exact .sc)
          refine ⟨.agg vs', ?_, .agg e2 e3⟩
          simp [execOp, ho, Instr.build, zeroValue, typeInfo, h1, h2, run_underlying hu, run_sizeOf' hE w, hz, e1]
    · cases hT
theorem A_lookup0 {m x : Operand} {T K E i : Nat} {lst : List (κ × ν)} {a : κ} (z0 : ν) (zv : Value) (ho : o.op = .lookup T m x false) (hm : ev l m = .mp i) (hi : lk L i = some (.map T (mapOf kv av lst))) (hn : (lst.map (·.1)).Nodup)
    (hx : ev l x = zeroAV (kv a)) (hk : KeyL P K kv) (hT : mapB P T K E = true) (hz : (P.info? E).bind (·.zero) = some zv) (hzv : av z0 = zeroAV zv) :
    AStep P o l L (Is (av ((mget lst a).getD z0)) L) := A_lookup z0 zv ho hm hi hn hx hk hT hz hzv
/-- m[k] behind the place for k that was made ahead of it. -/
theorem A_lookupIns {m x : Operand} {T K E i : Nat} {lst : List (κ × ν)} {a : κ} (z0 : ν) (zv : Value) (ho : o.op = .lookup T m x false) (hm : ev l m = .mp i) (hi : lk L i = some (.map T (mapOf kv av (mins lst a z0)))) (hn : (lst.map (·.1)).Nodup)
    (hx : ev l x = zeroAV (kv a)) (hk : KeyL P K kv) (hT : mapB P T K E = true) (hz : (P.info? E).bind (·.zero) = some zv) (hzv : av z0 = zeroAV zv) :
    AStep P o l L (Is (av ((mget lst a).getD z0)) L) := by
  have h := A_lookup (L := L) z0 zv ho hm hi (nodup_mins hn a z0) hx hk hT hz hzv
  rw [mget_mins] at h
  exact h
end
end Go.Proofs.Ytpbhhakkhlfbnaa
