/-
  StowBack: the law.
-/
import Derived.Test.YtbljcmgjmieffaaGreatPutO
set_option linter.unusedSimpArgs false
set_option linter.unnecessarySimpa false
set_option maxRecDepth 100000
set_option linter.unusedVariables false
namespace Go.Proofs.YtbljcmgjmieffaaGreat
open Go.RowKit

theorem H9f {α β : Type} {Q : β → Prop} {c : Bool} {m : Option α} {x d : α} {k : α → Option β} (hc : c = true) (hm : m = some x) (h : Wp (k x) Q) : Wp (bnd (bif c then m else some d) k) Q := by
  subst hc hm
  exact h

theorem lawBackF {F : Nat} (hF : 40 ≤ F) (hA : J4 F = some true) (l : List Gz) (covers : Int) (drops : List Gg) (opened : Int) (more : Gg) (tier : Int) (hp : ∀ p ∈ l, H11 p) (hd : ∀ x ∈ drops, H3c x) (hm : H3c more) (ht : Byte tier) :
    Qt F l covers drops opened more tier = some true := by
  refine G17 ?_
  unfold Qt
  refine H1 (wp_mono (H8d l covers hp) (fun s hL => ?_))
  have hs := G51 hL
  refine H1 (wp_mono (Hde hs hd) (fun r5 h5 => ?_))
  obtain ⟨g1, g2, g3⟩ := h5
  have hS : Sta s r5.1 r5.2 := ⟨hL, g2, by omega⟩
  have hcv := hL.covs.len
  refine Qh (fun _ o => G8a s o ∧ ∀ k ∈ o, J4a s r5.2 k) ⟨openR_nil, fun k hk => (List.not_mem_nil hk).elim⟩ (fun pre y post o nx e hI hnx => ?_) (fun o hI => ?_)
  · obtain ⟨i1, i2⟩ := hI
    have hpl : pre.length < s.Covers.length := by rw [e]; simp
    refine G4e (fun o => G8a s o ∧ ∀ k ∈ o, J4a s r5.2 k) (fun K hK => ?_) (fun j hj => hnx _ hj)
    refine H1 (wp_mono (open_spec hS i1 (by omega) hpl) (fun r hr => ?_))
    have hmm : Wp (bif decide (r.2 = 0) then Gea (pre.length : Int) 4294967295 else some 0) (fun _ => True) := He (fun _ => G83 rfl (by omega) trivial) (fun _ => Gk trivial)
    refine H1 (wp_mono hmm (fun m _ => He (fun h => hK _ ?_) (fun _ => hK _ ⟨i1, i2⟩)))
    have h := of_decide_eq_true (Bool.and_eq_true _ _ ▸ h).1
    rcases hr with ⟨_, e2⟩ | ⟨hu, _, ho, hm2⟩
    · rw [e2] at h; exact absurd h (by decide)
    · refine ⟨ho, fun k hk => ?_⟩
      rcases (hm2 k).1 hk with hk | rfl
      · exact i2 k hk
      · exact hu
  obtain ⟨hO, hU⟩ := hI
  refine Qh (fun _ _ => True) trivial (fun pre x post u nx e _ hnx => ?_) (fun u _ => ?_)
  · refine G4e (fun _ => True) (fun K hK => ?_) (fun j _ => hnx _ trivial)
    have hx : x ∈ r5.2 := by rw [e]; simp
    obtain ⟨v, hv, hvr⟩ := free_spec hS hO hx
    refine H1 (wp_mono (take_spec hS hx hv) (fun r88 h88 => H8 hv ?_))
    obtain ⟨t1, t2⟩ := h88
    rw [t1]
    refine He (fun h => (of_decide_eq_true h rfl).elim) (fun _ => He (fun _ => hK _ trivial) (fun h0 => ?_))
    have h0 : v = 0 := by have := of_decide_eq_false h0; omega
    obtain ⟨pre', post', e1, e2⟩ := t2 h0
    have hov : G00 r5.2 x.Slot = [] ∧ ¬ H72 s o x.Slot := by
      rcases hvr with ⟨h, _⟩ | ⟨h, _⟩ | ⟨_, h⟩
      · omega
      · omega
      · exact h
    have hb := back_spec (F := F) (boxes := r5.1) (pre := pre') (post := post') (x := x) (o := o) (s := s) (by rw [← e1]; exact hS) hO (by omega) (by rw [← e1]; exact hU) (by rw [← e1]; exact hov.1) hov.2
    obtain ⟨hS2, hput⟩ := hb
    have hl2 := hS2.len
    have hright : Qr s r5.1 (pre' ++ post') = some true := G17 (wp_mono (Gb2 hs.right hs.tier (by omega)) (fun r hr => hr.2 hS2.right))
    rw [e2]
    refine H8 hput (H9f rfl hright ?_)
    refine H1 (He (fun _ => Q0 ⟨by omega, by omega⟩ (Gk ?_)) (fun h => by cases h))
    have hlen : decide (((pre' ++ post').length : Int) ≠ (r5.2.length : Int) - 1) = false := decide_eq_false (fun hne => hne (by rw [e1]; simp only [List.length_append, List.length_cons]; omega))
    rw [hlen]
    refine H9f rfl (by rw [← e1]; exact H81 r5.2) ?_
    exact He (fun h => by cases h) (fun _ => hK _ trivial)
  obtain ⟨⟨c1, c2⟩, ⟨k1, k2⟩⟩ := hm
  obtain ⟨t1, t2⟩ := ht
  refine Q0 ⟨by omega, by omega⟩ (H1 (Gfa (by have := hL.some; omega) ?_))
  refine Q0 ⟨by omega, by omega⟩ (H1 (Gfa (by decide) ?_))
  refine G4e (fun j => j.1 = 20 ∨ j.1 = 40) (fun K hK => He (fun _ => H1 (Gfa (by decide) (hK _ (.inl rfl)))) (fun _ => hK _ (.inr rfl))) (fun j hj => ?_)
  have hbl : r5.1.length ≤ 9 := by rw [g1, J44, List.length_take]; omega
  refine R9 (G60 (by rw [List.length_singleton]; omega) (by omega)) ?_
  have hid : (Ga.mk 3 ByteArray.empty j.1 j.2.1 0 0 0 0 false).ID = 3 := rfl
  have hsz : (Ga.mk 3 ByteArray.empty j.1 j.2.1 0 0 0 0 false).Size = 20 ∨ (Ga.mk 3 ByteArray.empty j.1 j.2.1 0 0 0 0 false).Size = 40 := hj
  generalize Ga.mk 3 ByteArray.empty j.1 j.2.1 0 0 0 0 false = b3 at hid hsz ⊢
  have hfb : Yd (r5.1 ++ [b3]) 3 = some b3 := by
    have hno : Yd r5.1 3 = none := by rw [g1]; exact no3 _
    unfold Yd at hno ⊢
    rw [List.find?_append, hno, Option.none_or, List.find?_singleton, hid]
    rfl
  have hn3 : (3 : Int) ∉ r5.2.map (·.Ga) := fun hm => by
    obtain ⟨y, hy, e⟩ := List.mem_map.1 hm
    obtain ⟨b, hb, _⟩ := g2.each y hy
    have e : y.Ga = 3 := e
    rw [e, g1, no3] at hb
    cases hb
  have hS3 : Sta s (r5.1 ++ [b3]) r5.2 := ⟨hL, H26 g2, by omega⟩
  refine H1 (wp_mono (put_spec hS3 hO (by omega) (b := b3) hfb hsz hn3) (fun r hr => ?_))
  refine He (fun h => ?_) (fun h => ?_)
  · have h := of_decide_eq_true h
    have hr1 : r.1 = [] := by
      rcases hr with ⟨_, e⟩ | ⟨_, ⟨_, e⟩ | ⟨_, ⟨_, e⟩ | ⟨_, ⟨_, e⟩ | ⟨_, q, _, ⟨_, e⟩ | ⟨_, e⟩⟩⟩⟩⟩
      · rw [e]
      · rw [e]
      · rw [e]
      · rw [e]
      · rw [e]
      · rw [e] at h; exact (h rfl).elim
    rw [hr1]
    exact H9f rfl hA (Gk rfl)
  have h := of_decide_eq_false h
  have hsucc : ∃ q, r = (q, 0) ∧ G1d s (Stowed.mk 3 (Slot.mk (more.G3.tmod (s.Columns.length : Int)) (tier.tmod 5) j.2.2)).Slot b3.Size ∧ ¬ H94 s o (Stowed.mk 3 (Slot.mk (more.G3.tmod (s.Columns.length : Int)) (tier.tmod 5) j.2.2)).Slot ∧ ¬ MetP r5.2 (Stowed.mk 3 (Slot.mk (more.G3.tmod (s.Columns.length : Int)) (tier.tmod 5) j.2.2)).Slot ∧ Gd6 (Stowed.mk 3 (Slot.mk (more.G3.tmod (s.Columns.length : Int)) (tier.tmod 5) j.2.2)).Slot (r5.2.map (·.Slot)) ∧ H9a r5.2 (Stowed.mk 3 (Slot.mk (more.G3.tmod (s.Columns.length : Int)) (tier.tmod 5) j.2.2)) q ∧ FitC s (r5.1 ++ [b3]) q (Stowed.mk 3 (Slot.mk (more.G3.tmod (s.Columns.length : Int)) (tier.tmod 5) j.2.2)).Slot := by
    rcases hr with ⟨_, e⟩ | ⟨p1, ⟨_, e⟩ | ⟨p2, ⟨_, e⟩ | ⟨p3, ⟨_, e⟩ | ⟨p4, q, p5, ⟨_, e⟩ | ⟨p6, e⟩⟩⟩⟩⟩
    · rw [e] at h; exact absurd h (by decide)
    · rw [e] at h; exact absurd h (by decide)
    · rw [e] at h; exact absurd h (by decide)
    · rw [e] at h; exact absurd h (by decide)
    · rw [e] at h; exact absurd h (by decide)
    · exact ⟨q, e, p1, p2, p3, p4, p5, p6⟩
  clear hr h
  obtain ⟨q, rfl, p1, p2, p3, p4, p5, p6⟩ := hsucc
  have hx3 : (Stowed.mk 3 (Slot.mk (more.G3.tmod (s.Columns.length : Int)) (tier.tmod 5) j.2.2)).Ga = 3 := rfl
  generalize Stowed.mk 3 (Slot.mk (more.G3.tmod (s.Columns.length : Int)) (tier.tmod 5) j.2.2) = x3 at p1 p2 p3 p4 p5 p6 hx3
  have hnx : x3.Ga ∉ r5.2.map (·.Ga) := by rw [hx3]; exact hn3
  have hqr := right_ins (H26 g2) (by rw [hx3]; exact hfb) p1 p3 p4 p5 hnx p6
  have hqp := H8f p5
  have hql : q.length = r5.2.length + 1 := by rw [hqp.length_eq, List.length_cons]
  have hSq : Sta s (r5.1 ++ [b3]) q := ⟨hL, hqr, by omega⟩
  have hxq : x3 ∈ q := hqp.mem_iff.2 (List.mem_cons_self ..)
  have hov := no_over g2 p1 p3 p5
  obtain ⟨v, hv, hvr⟩ := free_spec hSq hO hxq
  have hv0 : v = 0 := by
    rcases hvr with ⟨_, h⟩ | ⟨_, _, h⟩ | ⟨h, _⟩
    · exact (h hov).elim
    · exact (p2 (shut_of h)).elim
    · exact h
  have htk := take_spec hSq hxq hv
  rw [hx3] at htk
  refine H1 (wp_mono htk (fun r120 h120 => ?_))
  obtain ⟨u1, u2⟩ := h120
  obtain ⟨pre', post', e1, e2⟩ := u2 hv0
  have hag : r120.1 = r5.2 := by
    rw [e2]
    have hsub : (pre' ++ post').Sublist q := by rw [e1]; exact List.Sublist.append_left (List.sublist_cons_self ..) _
    refine Hd6 (List.Perm.cons_inv (a := x3) ?_) (hqr.sorted.sublist hsub) g2.sorted
    exact (List.perm_middle.symm.trans (e1 ▸ List.Perm.refl q)).trans hqp
  have hright : Qr s (r5.1 ++ [b3]) q = some true := G17 (wp_mono (Gb2 hs.right hs.tier (by omega)) (fun r hr => hr.2 hqr))
  rw [u1, hv0, hag]
  refine H9f rfl hright ?_
  refine H1 (He (fun _ => Q0 ⟨by omega, by omega⟩ (Gk ?_)) (fun h => by cases h))
  have hlen : decide (((q, (0 : Int)).1.length : Int) = (r5.2.length : Int) + 1) = true := decide_eq_true (by show (q.length : Int) = _; omega)
  rw [hlen]
  refine H9f rfl (H81 r5.2) ?_
  exact H9f rfl hA (Gk rfl)
theorem lawBack (l : List Gz) (covers : Int) (drops : List Gg) (opened : Int) (more : Gg) (tier : Int) (hp : ∀ p ∈ l, H11 p) (hd : ∀ x ∈ drops, H3c x) (hm : H3c more) (ht : Byte tier) :
    Qt 60 l covers drops opened more tier = some true := lawBackF (by omega) awake09 l covers drops opened more tier hp hd hm ht
end Go.Proofs.YtbljcmgjmieffaaGreat
