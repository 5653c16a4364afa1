/-
 What Put returns, and that states stay right. States with a box more or less are right.
-/
import Derived.Test.YtpgkkengffpnpaaGreatPutM
set_option linter.unusedSimpArgs false
set_option linter.unnecessarySimpa false
set_option maxRecDepth 100000
set_option linter.unusedVariables false
namespace Go.Proofs.YtpgkkengffpnpaaGreat
open Go.RowKit

theorem addH_add {boxes : List G9} {m half n : Int} {x : Stowed} : G59 boxes m half n x = n + G59 boxes m half 0 x := by
  unfold G59
  split
  · cases Q6 boxes x.G9 with
    | some b => simp only; omega
    | none => simp
  · simp
theorem H29 {boxes : List G9} {m half : Int} : ∀ (l : List Stowed) (n : Int), l.foldl (G59 boxes m half) n = n + l.foldl (G59 boxes m half) 0 := by
  intro l
  induction l with
  | nil => intro n; simp
  | cons x r ih =>
    intro n
    rw [List.foldl_cons, List.foldl_cons, ih (G59 boxes m half n x), ih (G59 boxes m half 0 x), addH_add (n := n)]
    omega
theorem H28 {boxes : List G9} {m half : Int} (pre post : List Stowed) (x : Stowed) : G30 boxes (pre ++ x :: post) m half = G30 boxes (pre ++ post) m half + G59 boxes m half 0 x := by
  unfold G30
  rw [List.foldl_append, List.foldl_cons, List.foldl_append, H29 post (G59 boxes m half _ x), H29 post (List.foldl _ 0 pre), addH_add]
  omega
theorem J8c {boxes : List G9} {m half n : Int} {x : Stowed} (h : x.Slot.G4 ≠ m) : G59 boxes m half n x = n := by
  unfold G59
  rw [if_neg (fun hh => h hh.1)]
theorem G15 {l : List Stowed} {y : Slot} {half : Int} (h : below (l.map (·.Slot)) y half) : ∃ z ∈ l, z.Slot = ⟨y.G4, y.Tier - 1, half⟩ := by
  obtain ⟨z, hz, e⟩ := List.mem_map.1 h
  exact ⟨z, hz, e⟩
/-- A box in a list that is in order. -/
def H8f (l : List Stowed) (x : Stowed) (r : List Stowed) : Prop := ∃ pre post, l = pre ++ post ∧ r = pre ++ x :: post ∧ (∀ y ∈ pre, y.G9 < x.G9) ∧ (∀ y, post.head? = some y → x.G9 ≤ y.G9)
theorem result_spec {F : Nat} {p : Hi} (hl : p.l.length ≤ 1000) (hF : p.l.length < F) : Wp (R8 F p) (H8f p.l p.x) := by
  unfold R8
  refine wp_loop (fun n => ∃ k : Nat, n = (k : Int) ∧ k ≤ p.l.length ∧ ∀ y ∈ p.l.take k, y.G9 < p.x.G9) (fun n => ((p.l.length : Int) - n).toNat) ⟨0, rfl, Nat.zero_le _, fun y hy => by rw [List.take_zero] at hy; cases hy⟩ (by show ((p.l.length : Int) - 0).toNat < F; omega) (fun n nx hI hnx => ?_)
  obtain ⟨k, rfl, h1, h2⟩ := hI
  have done : (∀ y, (p.l.drop k).head? = some y → p.x.G9 ≤ y.G9) → Wp (bnd (R7 p.l (k : Int) p.x) fun r16 => some r16) (H8f p.l p.x) := fun h3 => by
    have e : R7 p.l (k : Int) p.x = some (p.l.take k ++ p.x :: p.l.drop k) := by
      unfold R7
      rw [decide_eq_true (show (0 : Int) ≤ (k : Int) by omega), decide_eq_true (show (k : Int) ≤ (p.l.length : Int) by omega), decide_eq_true (show p.l.length ≤ 100000 by omega), show ((k : Int)).toNat = k by omega]
      rfl
    exact Gy e (Gh ⟨p.l.take k, p.l.drop k, (List.take_append_drop k p.l).symm, rfl, h2, h3⟩)
  by_cases hk : k < p.l.length
  · have hg : p.l[k]? = some p.l[k] := List.getElem?_eq_getElem hk
    rw [decide_eq_true (show (k : Int) < (p.l.length : Int) by omega)]
    simp only [cond_true, Bool.true_and]
    refine H4 (Ro rfl hg (Gh (Hb (fun h => Qc ⟨by omega, by omega⟩ (hnx _ ⟨k + 1, by simp, by omega, fun y hy => ?_⟩ (by omega))) (fun h => done fun y hy => ?_))))
    · rw [List.take_succ_eq_append_getElem hk] at hy
      rcases List.mem_append.1 hy with hy | hy
      · exact h2 y hy
      · rw [List.mem_singleton] at hy; subst hy
        exact of_decide_eq_true h
    · rw [List.head?_drop, hg] at hy
      cases hy
      have := of_decide_eq_false h
      omega
  · rw [decide_eq_false (show ¬ ((k : Int) < (p.l.length : Int)) by omega)]
    refine H4 (Gh (Hb (fun h => by cases h) (fun _ => done fun y hy => ?_)))
    rw [List.head?_drop, List.getElem?_eq_none (by omega)] at hy
    cases hy
/-- Where a cover bars a slot: it is shut upon a hold, or open beneath a deck. -/
def H87 (s : Gp) (o : List Int) (x : Slot) : Prop := ∃ (m : Nat) (c : G4), x.G4 = (m : Int) ∧ s.Columns[m]? = some c ∧ 0 ≤ Q7 s c ∧ (c.Deck = true ↔ Q7 s c ∈ o)
def MetP (l : List Stowed) (x : Slot) : Prop := ∃ y ∈ l, H36 x y.Slot
def FitC (s : Gp) (boxes : List G9) (q : List Stowed) (x : Slot) : Prop := ∀ (m : Nat) (c : G4), x.G4 = (m : Int) → s.Columns[m]? = some c → H3c boxes q m c
def PutR (s : Gp) (boxes : List G9) (l : List Stowed) (o : List Int) (x : Stowed) (size : Int) (r : List Stowed × Int) : Prop :=
  (¬ Yo s x.Slot size ∧ r = ([], 97)) ∨ (Yo s x.Slot size ∧ ((H87 s o x.Slot ∧ r = ([], 91)) ∨ (¬ H87 s o x.Slot ∧ ((MetP l x.Slot ∧ r = ([], 92)) ∨ (¬ MetP l x.Slot ∧ ((¬ H16 x.Slot (l.map (·.Slot)) ∧ r = ([], 93)) ∨ (H16 x.Slot (l.map (·.Slot)) ∧ ∃ q, H8f l x q ∧ ((¬ FitC s boxes q x.Slot ∧ r = ([], 94)) ∨ (FitC s boxes q x.Slot ∧ r = (q, 0))))))))))
theorem shut_spec {s : Gp} {boxes : List G9} {l : List Stowed} {o : List Int} (h : H12 s boxes l) {x : Stowed} {size : Int} (hx : Yo s x.Slot size) : Wp (Z4 (Hi.mk s boxes l o x)) (fun r => r = true ↔ H87 s o x.Slot) := by
  have hs := Zn h.ship
  obtain ⟨m, c, hm, hc, _⟩ := hx.col
  have hcl : H87 s o x.Slot ↔ (0 ≤ Q7 s c ∧ (c.Deck = true ↔ Q7 s c ∈ o)) := by
    constructor
    · rintro ⟨m', c', e1, e2, e3⟩
      have : m' = m := by omega
      subst this
      rw [hc] at e2; cases e2
      exact e3
    · exact fun e => ⟨m, c, hm, hc, e⟩
  unfold Z4
  show Wp (bnd (Y0 s x.Slot.G4) _) _
  rw [hm]
  refine Gy (H23 hc (fun x hx => by have := hs.rows x hx; omega) (by have := hs.covs; omega)) ?_
  by_cases hk : 0 ≤ Q7 s c
  · rw [decide_eq_true hk]
    simp only [cond_true, Bool.true_and]
    refine H4 (Ro rfl hc (Gh (Gy (Gc1 _ _) (Gh ?_))))
    rw [hcl, beq_iff_eq, Bool.eq_iff_iff, Gc2]
    exact ⟨fun h => ⟨hk, h⟩, fun h => h.2⟩
  · rw [decide_eq_false hk]
    refine H4 (Gh (H4 (Gh (Gh (G95 fun hh => hk (hcl.1 hh).1)))))
theorem met_spec {s : Gp} {boxes : List G9} {l : List Stowed} {o : List Int} {x : Stowed} : Wp (Ze (Hi.mk s boxes l o x)) (fun r => r = true ↔ MetP l x.Slot) := by
  have h := H10 (p := fun y : Stowed => decide (H36 x.Slot y.Slot)) (f := fun z0 => Qy z0 (Hi.mk s boxes l o x)) (xs := l) (fun y _ => by
    unfold Qy
    exact G09 (Gy (wp_dec (slot_meet x.Slot y.Slot)) (Gh rfl)))
  have e : Q2 l (fun z0 => Qy z0 (Hi.mk s boxes l o x)) = some (Hcd (fun y : Stowed => decide (H36 x.Slot y.Slot)) l) := h
  unfold Ze Jt
  refine H4 (Gy e (Gh (Gh ?_)))
  rw [Gf5, List.any_eq_true]
  exact ⟨fun ⟨y, hy, h⟩ => ⟨y, hy, of_decide_eq_true h⟩, fun ⟨y, hy, h⟩ => ⟨y, hy, decide_eq_true h⟩⟩
theorem J72 {F : Nat} {s : Gp} {boxes : List G9} {l : List Stowed} {o : List Int} (h : H12 s boxes l) (hO : Gbb s o) (hF : 20 ≤ F) {x : Stowed} {b : G9} (hb : Q6 boxes x.G9 = some b) (hz : b.Size = 20 ∨ b.Size = 40) (hx : x.G9 ∉ l.map (·.G9)) :
    Wp (G04 F s boxes l o x) (PutR s boxes l o x b.Size) := by
  have hs := Zn h.ship
  have hl := h.len
  unfold G04
  refine Gy (h.checked hO) (Hb (fun h => by cases h) (fun _ => Gy (H0a boxes x.G9) ?_))
  rw [hb]
  refine Hb (fun hh => ?_) (fun _ => Gy (find_no hx) (Hb (fun hh => by simp at hh) (fun _ => ?_)))
  · simp only [Bool.not_true, Bool.false_or, Bool.and_eq_true, decide_eq_true_eq] at hh
    omega
  refine H4 (wp_mono (J69 s x.Slot b.Size) (fun r15 h15 => Hb (fun hh => Gh (.inl ⟨fun hk => ?_, rfl⟩)) (fun hh => ?_)))
  · rw [h15.2 hk] at hh; cases hh
  have hslot : Yo s x.Slot b.Size := h15.1 (by simpa using hh)
  have htier : -1000000 ≤ x.Slot.Tier ∧ x.Slot.Tier ≤ 1000000 := by
    obtain ⟨m, c, _, hc, ht⟩ := hslot.col
    have := hs.tiers c (List.mem_of_getElem? hc)
    have := hslot.tier
    omega
  obtain ⟨q, hq, hins⟩ := result_spec (F := F) (p := Hi.mk s boxes l o x) (by show l.length ≤ 1000; omega) (by show l.length < F; omega)
  have hql : q.length ≤ 1000000 := by
    obtain ⟨pre, post, e1, e2, _⟩ := hins
    have : l = pre ++ post := e1
    rw [e2]
    have h2 := congrArg List.length this
    simp only [List.length_append, List.length_cons] at h2 ⊢
    omega
  refine Qn (by decide) ?_
  rw [show (4 : Int).toNat = 4 from rfl]
  refine Hb2 (fun i _ => (1 ≤ i → ¬ H87 s o x.Slot) ∧ (2 ≤ i → ¬ MetP l x.Slot) ∧ (3 ≤ i → H16 x.Slot (l.map (·.Slot))) ∧ (4 ≤ i → FitC s boxes q x.Slot)) ⟨fun h => by omega, fun h => by omega, fun h => by omega, fun h => by omega⟩ (fun i u nx hi hI hnx => ?_) (fun u hI => ?_)
  · obtain ⟨i1, i2, i3, i4⟩ := hI
    refine G08 (fun _ => (1 ≤ i + 1 → ¬ H87 s o x.Slot) ∧ (2 ≤ i + 1 → ¬ MetP l x.Slot) ∧ (3 ≤ i + 1 → H16 x.Slot (l.map (·.Slot))) ∧ (4 ≤ i + 1 → FitC s boxes q x.Slot)) (fun K hK => ?_) (fun j hj => hnx _ hj)
    refine Hb (fun h0 => ?_) (fun h0 => Hb (fun h1 => ?_) (fun h1 => Hb (fun h2 => ?_) (fun h2 => Hb (fun h3 => ?_) (fun h3 => ?_))))
    · have h0 := of_decide_eq_true h0
      refine H4 (wp_mono (shut_spec h hslot) (fun r hr => Hb (fun hh => Qc ⟨by omega, by omega⟩ (Gh (.inr ⟨hslot, .inl ⟨hr.1 hh, ?_⟩⟩))) (fun hh => hK _ ⟨fun _ hk => ?_, fun h => by omega, fun h => by omega, fun h => by omega⟩)))
      · rw [h0]; rfl
      · rw [hr.2 hk] at hh; cases hh
    · have h0 := of_decide_eq_false h0
      have h1 := of_decide_eq_true h1
      refine H4 (wp_mono met_spec (fun r hr => Hb (fun hh => Qc ⟨by omega, by omega⟩ (Gh (.inr ⟨hslot, .inr ⟨i1 (by omega), .inl ⟨hr.1 hh, ?_⟩⟩⟩))) (fun hh => hK _ ⟨fun _ => i1 (by omega), fun _ hk => ?_, fun h => by omega, fun h => by omega⟩)))
      · rw [h1]; rfl
      · rw [hr.2 hk] at hh; cases hh
    · have h2 := of_decide_eq_true h2
      unfold Zt
      refine H4 (Gy (J65 l (by omega)) (H4 (wp_mono (slot_held x.Slot (l.map (·.Slot)) htier) (fun r hr => Gh (Hb (fun hh => Qc ⟨by omega, by omega⟩ (Gh (.inr ⟨hslot, .inr ⟨i1 (by omega), .inr ⟨i2 (by omega), .inl ⟨fun hk => ?_, ?_⟩⟩⟩⟩))) (fun hh => hK _ ⟨fun _ => i1 (by omega), fun _ => i2 (by omega), fun _ => hr.1 (by simpa using hh), fun h => by omega⟩))))))
      · rw [hr.2 hk] at hh; cases hh
      · rw [h2]; rfl
    · have h3 := of_decide_eq_true h3
      obtain ⟨m, c, hm, hc, _⟩ := hslot.col
      have hfc : FitC s boxes q x.Slot ↔ H3c boxes q m c := by
        refine ⟨fun hf => hf m c hm hc, fun hf m' c' e1 e2 => ?_⟩
        have : m' = m := by omega
        subst this
        rw [hc] at e2; cases e2
        exact hf
      unfold G07
      refine H4 (Gy hq ?_)
      show Wp (bnd (G3e s boxes q x.Slot.G4) _) _
      rw [hm]
      refine H4 (wp_mono (stow_fits hc hql) (fun r hr => Gh (Hb (fun hh => Qc ⟨by omega, by omega⟩ (Gh (.inr ⟨hslot, .inr ⟨i1 (by omega), .inr ⟨i2 (by omega), .inr ⟨i3 (by omega), q, hins, .inl ⟨fun hk => ?_, ?_⟩⟩⟩⟩⟩))) (fun hh => hK _ ⟨fun _ => i1 (by omega), fun _ => i2 (by omega), fun _ => i3 (by omega), fun _ => hfc.2 (hr.1 (by simpa using hh))⟩))))
      · rw [hr.2 (hfc.1 hk)] at hh; cases hh
      · rw [h3]; rfl
    · have a0 := of_decide_eq_false h0
      have a1 := of_decide_eq_false h1
      have a2 := of_decide_eq_false h2
      have a3 := of_decide_eq_false h3
      omega
  · obtain ⟨i1, i2, i3, i4⟩ := hI
    exact Gy hq (Gh (.inr ⟨hslot, .inr ⟨i1 (by omega), .inr ⟨i2 (by omega), .inr ⟨i3 (by omega), q, hins, .inr ⟨i4 (by omega), rfl⟩⟩⟩⟩⟩))
end Go.Proofs.YtpgkkengffpnpaaGreat
set_option linter.unusedSimpArgs false
set_option linter.unnecessarySimpa false
set_option maxRecDepth 100000
set_option linter.unusedVariables false
namespace Go.Proofs.YtpgkkengffpnpaaGreat
open Go.RowKit

theorem J12 {a b:Int} (h:Ga0 a b):Ga0 b a:=by
 unfold Ga0 at h ⊢
 omega
theorem meet_symm {a b:Slot} (h:H36 a b):H36 b a:=⟨h.1.symm,h.2.1.symm,J12 h.2.2⟩
theorem Hca {l q:List Stowed} {x:Stowed} (h:H8f l x q):q.Perm (x::l):=by
 obtain⟨pre,post,rfl,rfl,_⟩:=h
 exact List.perm_middle
theorem J7d {l q:List Stowed} {x:Stowed} (h:H8f l x q) (hs:l.Pairwise (fun a b=>a.G9 < b.G9)) (hx:x.G9 ∉ l.map (·.G9)):q.Pairwise (fun a b=>a.G9 < b.G9):=by
 obtain⟨pre,post,rfl,rfl,h1,h2⟩:=h
 obtain⟨s1,s2,s3⟩:=List.pairwise_append.1 hs
 refine List.pairwise_append.2 ⟨s1,List.pairwise_cons.2 ⟨fun y hy=>?_,s2⟩,fun a ha b hb=>?_⟩
 ·have hne:x.G9≠y.G9:=fun e=>hx (List.mem_map.2 ⟨y,List.mem_append.2 (.inr hy),e.symm⟩)
  cases post with
  | nil=>cases hy
  | cons z r=>
   have h3:=h2 z rfl
   rcases List.mem_cons.1 hy with rfl | hy
   ·omega
   ·have:=(List.pairwise_cons.1 s2).1 y hy
    omega
 ·rcases List.mem_cons.1 hb with rfl | hb
  ·exact h1 a ha
  ·exact s3 a ha b hb
theorem held_mono {l q:List Slot} {x:Slot} (h:H16 x l) (hs:∀ y∈l,y∈q):H16 x q:=by
 rcases h with h | h | ⟨h0,h1,h2⟩
 ·exact .inl h
 ·exact .inr (.inl (hs _ h))
 ·exact .inr (.inr ⟨h0,hs _ h1,hs _ h2⟩)
theorem right_ins {s:Gp} {boxes:List G9} {l q:List Stowed} {x:Stowed} {b:G9} (h:Rf s boxes l) (hb:Q6 boxes x.G9=some b) (hslot:Yo s x.Slot b.Size) (hmet:¬ MetP l x.Slot) (hheld:H16 x.Slot (l.map (·.Slot))) (hins:H8f l x q) (hx:x.G9 ∉ l.map (·.G9)) (hfit:FitC s boxes q x.Slot):Rf s boxes q:=by
 have hp:=Hca hins
 have hmem:∀ y,y∈q ↔ y=x∨y∈l:=fun y=>by rw [hp.mem_iff,List.mem_cons]
 have hsl:∀ y∈l.map (·.Slot),y∈q.map (·.Slot):=fun y hy=>by
  obtain⟨z,hz,e⟩:=List.mem_map.1 hy
  exact List.mem_map.2 ⟨z,(hmem z).2 (.inr hz),e⟩
 refine⟨fun y hy=>?_,J7d hins h.sorted hx,?_,fun m c hc=>?_⟩
 ·rcases (hmem y).1 hy with rfl | hy
  ·exact⟨b,hb,hslot,held_mono hheld hsl⟩
  ·obtain⟨b',h1,h2,h3⟩:=h.each y hy
   exact⟨b',h1,h2,held_mono h3 hsl⟩
 ·have ha:=h.apart
  obtain⟨pre,post,rfl,rfl,_⟩:=hins
  obtain⟨s1,s2,s3⟩:=List.pairwise_append.1 ha
  refine List.pairwise_append.2 ⟨s1,List.pairwise_cons.2 ⟨fun y hy hm=>hmet ⟨y,List.mem_append.2 (.inr hy),meet_symm hm⟩,s2⟩,fun a ha b hb=>?_⟩
  rcases List.mem_cons.1 hb with rfl | hb
  ·exact fun hm=>hmet ⟨a,List.mem_append.2 (.inl ha),hm⟩
  ·exact s3 a ha b hb
 ·by_cases he:x.Slot.G4=(m:Int)
  ·exact hfit m c he hc
  ·have:=h.fits m c hc
   obtain⟨pre,post,rfl,rfl,_⟩:=hins
   unfold H3c at this ⊢
   rw [H28,H28,J8c he,J8c he,Int.add_zero,Int.add_zero]
   exact this
/-- What stands in a column stands upon something, down to the lowest tier. -/
theorem chain {s:Gp} {boxes:List G9} {l:List Stowed} (h:Rf s boxes l) {t:Int} (h0:0≤t):∀ (n:Nat) (z:Stowed),z∈l→z.Slot.Tier=t+(n:Int)+1 →
  (∃ w∈l,w.Slot=⟨z.Slot.G4,t,z.Slot.Half⟩)∨(z.Slot.Half=0∧(∃ w∈l,w.Slot=⟨z.Slot.G4,t,1⟩)∧∃ w∈l,w.Slot=⟨z.Slot.G4,t,2⟩):=by
 intro n
 induction n with
 | zero=>
  intro z hz ht
  obtain⟨_,_,_,hh⟩:=h.each z hz
  have e:z.Slot.Tier - 1=t:=by omega
  rcases hh with hh | hh | ⟨hz0,h1,h2⟩
  ·omega
  ·obtain⟨w,hw,ew⟩:=G15 hh
   rw [e] at ew
   exact .inl ⟨w,hw,ew⟩
  ·obtain⟨w,hw,ew⟩:=G15 h1
   obtain⟨v,hv,ev⟩:=G15 h2
   rw [e] at ew ev
   exact .inr ⟨hz0,⟨w,hw,ew⟩,⟨v,hv,ev⟩⟩
 | succ n ih=>
  intro z hz ht
  obtain⟨_,_,_,hh⟩:=h.each z hz
  have one:∀ w∈l,∀ half,w.Slot=⟨z.Slot.G4,z.Slot.Tier - 1,half⟩→half≠0→∃ v∈l,v.Slot=⟨z.Slot.G4,t,half⟩:=fun w hw half ew hne=>by
   have:=ih w hw (by rw [ew]; simp only; omega)
   rw [ew] at this
   rcases this with h | ⟨h,_⟩
   ·exact h
   ·exact(hne h).elim
  rcases hh with hh | hh | ⟨hz0,h1,h2⟩
  ·omega
  ·obtain⟨w,hw,ew⟩:=G15 hh
   have:=ih w hw (by rw [ew]; simp only; omega)
   rw [ew] at this
   exact this
  ·obtain⟨w,hw,ew⟩:=G15 h1
   obtain⟨v,hv,ev⟩:=G15 h2
   exact .inr ⟨hz0,one w hw 1 ew (by decide),one v hv 2 ev (by decide)⟩
end Go.Proofs.YtpgkkengffpnpaaGreat
