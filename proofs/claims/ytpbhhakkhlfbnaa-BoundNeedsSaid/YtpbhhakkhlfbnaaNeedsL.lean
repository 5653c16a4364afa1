/-
  BoundNeeds: the law's plain mathematics.
-/
import Derived.Test.YtpbhhakkhlfbnaaBuiltL
import Derived.Test.YtpbhhakkhlfbnaaAwake27
set_option maxRecDepth 100000
namespace Go.Proofs.Ytpbhhakkhlfbnaa
open Go.RowKit

def tmax (l : List Column) : Int := l.foldl (fun n c => max n c.Tiers) 0
theorem tmax_snoc (l : List Column) (c : Column) : tmax (l ++ [c]) = max (tmax l) c.Tiers := by simp [tmax]

theorem tallest_spec {s : Ship} (h0 : ∀ c ∈ s.Columns, 0 ≤ c.Tiers) : M_ship_Tallest s = some (tmax s.Columns) := by
  refine wp_eq ?_
  unfold M_ship_Tallest
  refine wp_each (fun pre t => t = tmax pre) rfl (fun pre y post t nx e ht hnx => ?_) (fun t ht => wp_some ht)
  subst ht
  have hy := h0 y (by rw [e]; simp)
  refine wp_jp (fun j => j = tmax (pre ++ [y])) (fun K hK => wp_bif (fun hc => hK _ ?_) (fun hc => hK _ ?_)) (fun j hj => hnx _ hj)
  · rw [tmax_snoc]
    simp only [Bool.or_eq_true, decide_eq_true_eq] at hc
    rcases hc with hc | hc
    · have : pre = [] := List.length_eq_zero_iff.1 (by omega)
      subst this
      show y.Tiers = max 0 y.Tiers
      omega
    · omega
  · rw [tmax_snoc]
    simp only [Bool.or_eq_false_iff, decide_eq_false_iff_not] at hc
    omega
theorem tmax_built {l : List Column} (h1 : 1 ≤ l.length) (h : ∀ c ∈ l, ColOk c) : tmax l = 2 ∨ tmax l = 3 ∨ tmax l = 4 ∨ tmax l = 5 := by
  have key : ∀ (l : List Column), (∀ c ∈ l, ColOk c) → ∀ m : Int, 0 ≤ m → m ≤ 5 → (2 ≤ m ∨ 1 ≤ l.length) → 2 ≤ l.foldl (fun n c => max n c.Tiers) m ∧ l.foldl (fun n c => max n c.Tiers) m ≤ 5 := by
    intro l
    induction l with
    | nil => intro _ m h0 h1 h2; simp at h2; exact ⟨h2, h1⟩
    | cons c l ih =>
      intro h m h0 h1 h2
      have hc := (h c (List.mem_cons_self ..)).tiers
      rw [List.foldl_cons]
      exact ih (fun x hx => h x (List.mem_cons_of_mem _ hx)) _ (by omega) (by omega) (.inl (by omega))
  have := key l h 0 (by omega) (by omega) (.inr h1)
  unfold tmax
  omega

def up (n d : Int) : Int := (n + d - 1) / d
theorem up_spec {n d : Int} (hn : 0 ≤ n ∧ n ≤ 100000) (hd : 1 ≤ d ∧ d ≤ 10) : M_bound_up n d = some (up n d) := by
  refine wp_eq ?_
  unfold M_bound_up
  refine wp_chk ⟨by omega, by omega⟩ (wp_chk ⟨by omega, by omega⟩ (wp_bnd (wp_quo (by omega) ⟨by omega, by omega⟩ (wp_some ?_))))
  exact Int.tdiv_eq_ediv_of_nonneg (by omega)
def needN (T w h : Int) : Int := max (2 * up w T) (up (2 * w + h) T)
theorem up_bounds {n d : Int} (hn : 0 ≤ n ∧ n ≤ 100000) (hd : 1 ≤ d) : 0 ≤ up n d ∧ up n d ≤ 100000 := by
  unfold up
  have h0 : 0 ≤ (n + d - 1) / d := Int.ediv_nonneg (by omega) (by omega)
  have h1 : (n + d - 1) / d ≤ 100000 := by
    refine Int.lt_add_one_iff.1 (Int.ediv_lt_of_lt_mul (by omega) ?_)
    have : (100000 + 1) * d = 100000 * d + d := by rw [Int.add_mul]; omega
    omega
  exact ⟨h0, h1⟩
theorem need_spec {s : Ship} {T w h : Int} (hr : S_ship_Right s = some true) (ht : M_ship_Tallest s = some T) (hT : 1 ≤ T ∧ T ≤ 10) (hw : 0 ≤ w ∧ w ≤ 2000) (hh : 0 ≤ h ∧ h ≤ 2000) :
    M_bound_Need s w h = some (needN T w h, 0) := by
  refine wp_eq ?_
  unfold M_bound_Need
  refine wp_bnd_eq hr (wp_bif (fun hc => ?_) (fun _ => ?_))
  · simp only [Bool.or_eq_true, decide_eq_true_eq, Bool.not_true, Bool.false_eq_true, false_or] at hc
    omega
  have b1 := up_bounds (n := w) (d := T) ⟨by omega, by omega⟩ hT.1
  have b2 := up_bounds (n := 2 * w + h) (d := T) ⟨by omega, by omega⟩ hT.1
  refine wp_bnd_eq ht (wp_bnd_eq (up_spec ⟨by omega, by omega⟩ hT) ?_)
  refine wp_chk ⟨by omega, by omega⟩ (wp_chk ⟨by omega, by omega⟩ (wp_chk ⟨by omega, by omega⟩ (wp_bnd_eq (up_spec ⟨by omega, by omega⟩ hT) (wp_some rfl))))

theorem need_law {T w h v k : Int} (hT : T = 2 ∨ T = 3 ∨ T = 4 ∨ T = 5) (hw : 0 ≤ w) (hh : 0 ≤ h) (hv : 0 ≤ v) (hk : 0 ≤ k) :
    needN T w h ≤ needN T (w + v) (h + k) ∧ needN T v k ≤ needN T (w + v) (h + k) ∧ needN T (w + v) (h + k) ≤ needN T w h + needN T v k := by
  have h1 : up (w + v) T ≤ up w T + up v T := by unfold up; rcases hT with rfl | rfl | rfl | rfl <;> omega
  have h2 : up (2 * (w + v) + (h + k)) T ≤ up (2 * w + h) T + up (2 * v + k) T := by unfold up; rcases hT with rfl | rfl | rfl | rfl <;> omega
  refine ⟨?_, ?_, by unfold needN; omega⟩ <;> unfold needN up <;>
  rcases hT with rfl | rfl | rfl | rfl <;> omega
theorem need_room {T w h : Int} (hT : T = 2 ∨ T = 3 ∨ T = 4 ∨ T = 5) (hw : 0 ≤ w) (hh : 0 ≤ h) :
    2 * w + h ≤ needN T w h * T ∧ w ≤ needN T w h / 2 * T ∧ (needN T w h = 0 ∨ (needN T w h - 1) * T < 2 * w + h ∨ (needN T w h - 1) / 2 * T < w) := by
  unfold needN up
  rcases hT with rfl | rfl | rfl | rfl <;> omega

theorem lawNeeds (l : List law07_Place) (covers a b c d : Int) (hp : ∀ p ∈ l, PlaceOk p) (ha : 0 ≤ a ∧ a ≤ 65535) (hb : 0 ≤ b ∧ b ≤ 65535) (hc : 0 ≤ c ∧ c ≤ 65535) (hd : 0 ≤ d ∧ d ≤ 65535) :
    M_twistlocklaw27_BoundNeeds 60 l covers a b c d = some true := by
  refine wp_eq ?_
  unfold M_twistlocklaw27_BoundNeeds
  refine wp_bnd (wp_mono (built_spec l covers hp) (fun s hs => ?_))
  have hright := built_right hs
  have htall : M_ship_Tallest s = some (tmax s.Columns) := tallest_spec (fun c hc => by have := (hs.cols.each c hc).tiers; omega)
  have hT := tmax_built hs.some hs.cols.each
  generalize hTT : tmax s.Columns = T at htall hT
  have need := fun (w h : Int) (hw : 0 ≤ w ∧ w ≤ 2000) (hh : 0 ≤ h ∧ h ≤ 2000) => need_spec hright htall (by omega) hw hh
  have mod : ∀ z : Int, 0 ≤ z → z.tmod 1001 = z % 1001 := fun z hz => Int.tmod_eq_emod_of_nonneg hz
  refine wp_chk ⟨by omega, by omega⟩ (wp_bnd (wp_rem (by omega) (wp_chk ⟨by omega, by omega⟩ (wp_bnd (wp_rem (by omega) (wp_chk ⟨by omega, by omega⟩ (wp_bnd (wp_rem (by omega) (wp_chk ⟨by omega, by omega⟩ (wp_bnd (wp_rem (by omega) ?_)))))))))))
  rw [mod a ha.1, mod b hb.1, mod c hc.1, mod d hd.1]
  have ra : 0 ≤ a % 1001 ∧ a % 1001 ≤ 1000 := by omega
  have rb : 0 ≤ b % 1001 ∧ b % 1001 ≤ 1000 := by omega
  have rc : 0 ≤ c % 1001 ∧ c % 1001 ≤ 1000 := by omega
  have rd : 0 ≤ d % 1001 ∧ d % 1001 ≤ 1000 := by omega
  generalize a % 1001 = w at *
  generalize b % 1001 = h at *
  generalize c % 1001 = v at *
  generalize d % 1001 = k at *
  refine wp_bnd_eq (need 0 0 (by omega) (by omega)) (wp_bnd_eq (need 1 0 (by omega) (by omega)) (wp_bnd_eq (need w h (by omega) (by omega)) (wp_bnd_eq (need v k (by omega) (by omega)) ?_)))
  refine wp_chk ⟨by omega, by omega⟩ (wp_chk ⟨by omega, by omega⟩ (wp_bnd_eq (need (w + v) (h + k) (by omega) (by omega)) ?_))
  have e0 : needN T 0 0 = 0 := by unfold needN up; rcases hT with rfl | rfl | rfl | rfl <;> rfl
  have e1 : needN T 1 0 = 2 := by unfold needN up; rcases hT with rfl | rfl | rfl | rfl <;> rfl
  obtain ⟨l1, l2, l3⟩ := need_law hT ra.1 rb.1 rc.1 rd.1
  obtain ⟨m1, m2, m3⟩ := need_room hT ra.1 rb.1
  have bx : 0 ≤ needN T w h ∧ needN T w h ≤ 100000 := by
    have b1 := up_bounds (n := w) (d := T) ⟨by omega, by omega⟩ (by omega)
    have b2 := up_bounds (n := 2 * w + h) (d := T) ⟨by omega, by omega⟩ (by omega)
    have b3 : up w T ≤ 50000 := by unfold up; rcases hT with rfl | rfl | rfl | rfl <;> omega
    unfold needN; omega
  have by' : 0 ≤ needN T v k ∧ needN T v k ≤ 100000 := by
    have b1 := up_bounds (n := v) (d := T) ⟨by omega, by omega⟩ (by omega)
    have b2 := up_bounds (n := 2 * v + k) (d := T) ⟨by omega, by omega⟩ (by omega)
    have b3 : up v T ≤ 50000 := by unfold up; rcases hT with rfl | rfl | rfl | rfl <;> omega
    unfold needN; omega
  simp only [e0, e1]
  generalize needN T w h = x at *
  generalize needN T v k = y at *
  generalize needN T (w + v) (h + k) = z at *
  refine wp_chk ⟨by decide, by decide⟩ (wp_chk ⟨by decide, by decide⟩ (wp_chk ⟨by decide, by decide⟩ (wp_chk ⟨by decide, by decide⟩ ?_)))
  have g1 : decide (z < x) = false := decide_eq_false (by omega)
  have g2 : decide (z < y) = false := decide_eq_false (by omega)
  have g3 : decide (x + y < z) = false := decide_eq_false (by omega)
  refine wp_bnd (wp_bif (fun _ => wp_chk ⟨by omega, by omega⟩ (wp_some ?_)) (fun hc => ?_))
  rotate_left
  · rw [g1, g2] at hc; simp at hc
  refine wp_bif (fun hc => ?_) (fun _ => ?_)
  · rw [g1, g2, g3] at hc; simp at hc
  refine wp_each (fun pre t => t = tmax pre) rfl (fun pre y post t nx e ht hnx => hnx _ ?_) (fun t ht => ?_)
  · rw [tmax_snoc, ht]
  rw [hTT] at ht
  subst ht
  have p1 : decide (2 * w + h ≤ x * t) = true := decide_eq_true (by omega)
  have q1 : x * t ≤ 1000000 ∧ 0 ≤ x * t := by rcases hT with rfl | rfl | rfl | rfl <;> omega
  refine wp_chk ⟨by omega, by omega⟩ (wp_chk ⟨by omega, by omega⟩ (wp_chk ⟨by omega, by omega⟩ ?_))
  rw [p1]
  simp only [cond_true, Bool.true_and]
  have d2 : x.tdiv 2 = x / 2 := Int.tdiv_eq_ediv_of_nonneg bx.1
  refine wp_bnd (wp_quo (by omega) ⟨by omega, by omega⟩ ?_)
  rw [d2]
  have q2 : x / 2 * t ≤ 1000000 ∧ 0 ≤ x / 2 * t := by rcases hT with rfl | rfl | rfl | rfl <;> omega
  refine wp_bnd (wp_chk ⟨by omega, by omega⟩ (wp_some ?_))
  have p2 : decide (w ≤ x / 2 * t) = true := decide_eq_true m2
  rw [p2]
  simp only [Bool.true_and]
  by_cases hx : x = 0
  · subst hx
    simp only [decide_true, Bool.not_true, cond_false, Bool.true_or]
    exact wp_bnd (wp_some (wp_bnd (wp_some (wp_bnd (wp_some (wp_bnd (wp_some (wp_bnd (wp_some (wp_bnd (wp_some (wp_bnd (wp_some (wp_bnd_eq awake27 (wp_some rfl)))))))))))))))
  · rw [decide_eq_false hx]
    simp only [Bool.not_false, cond_true, Bool.false_or]
    have q3 : (x - 1) * t ≤ 1000000 ∧ 0 ≤ (x - 1) * t := by rcases hT with rfl | rfl | rfl | rfl <;> omega
    refine wp_bnd (wp_chk ⟨by omega, by omega⟩ (wp_some (wp_bnd (wp_chk ⟨by omega, by omega⟩ (wp_some (wp_bnd (wp_chk ⟨by omega, by omega⟩ (wp_some (wp_bnd (wp_chk ⟨by omega, by omega⟩ (wp_some ?_)))))))))))
    by_cases h4 : (x - 1) * t < 2 * w + h
    · rw [decide_eq_true h4]
      simp only [Bool.not_true, cond_false, Bool.true_or, cond_true]
      exact wp_bnd (wp_some (wp_bnd (wp_some (wp_bnd (wp_some (wp_bnd_eq awake27 (wp_some rfl)))))))
    · have h5 : (x - 1) / 2 * t < w := by omega
      rw [decide_eq_false h4]
      simp only [Bool.not_false, cond_true, Bool.false_or]
      have d3 : (x - 1).tdiv 2 = (x - 1) / 2 := Int.tdiv_eq_ediv_of_nonneg (by omega)
      have q4 : (x - 1) / 2 * t ≤ 1000000 ∧ 0 ≤ (x - 1) / 2 * t := by rcases hT with rfl | rfl | rfl | rfl <;> omega
      refine wp_bnd (wp_chk ⟨by omega, by omega⟩ (wp_some (wp_bnd (wp_quo (by omega) ⟨by omega, by omega⟩ ?_))))
      rw [d3]
      refine wp_bnd (wp_chk ⟨by omega, by omega⟩ (wp_some ?_))
      rw [decide_eq_true h5]
      exact wp_bnd_eq awake27 (wp_some rfl)
end Go.Proofs.Ytpbhhakkhlfbnaa
