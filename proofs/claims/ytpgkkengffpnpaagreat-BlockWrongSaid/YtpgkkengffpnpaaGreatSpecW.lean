/-
  What stow.without and stow.with return: a list without an element, and with one more; of slices.Clone, slices.Delete and slices.Insert.
-/
import Derived.Test.YtpgkkengffpnpaaGreatXC
import Derived.Test.YtpgkkengffpnpaaGreatWp
set_option linter.unnecessarySimpa false
set_option maxRecDepth 100000
set_option linter.unusedVariables false
set_option linter.unusedSimpArgs false
namespace Go.Proofs.YtpgkkengffpnpaaGreat
open Go.RowKit
theorem Hf5 {α β : Type} [DecidableEq β] {xs : List α} {k : Bool → Option β} {r : Option β} (h : ∀ b, (b = true → xs = []) → k b = r) : nilB xs k = r := by
  unfold nilB
  cases xs with
  | nil => rw [h true (fun _ => rfl), h false (fun e => by cases e)]; simp
  | cons x l => exact h false (fun e => by cases e)
/-- The version that a new slice bears is of no account. -/
theorem Qx.ver {P : Program} {f : FuncId} {args : List AV} {i t k n : Nat} {xs : List AV} (h : Qx P f args [] (fun u L' => ∃ p : Nat, u = .vec i p k n ∧ L' = [(i, .vec t k p xs)])) (q : Nat) : Qx P f args [] (fun u L' => u = .vec i q k n ∧ L' = [(i, .vec t k q xs)]) := by
  intro w β vs hsat hl hv
  refine (h w β vs hsat hl hv).mono fun e w' hr => ?_
  obtain ⟨v, r, β', L', rfl, hs, st, hvr, p, rfl, rfl⟩ := hr
  have hlk : ∀ id, (lk [(i, J3.vec t k p xs)] id).isSome = (lk [(i, J3.vec t k q xs)] id).isSome := fun id => by
    rw [Ge, Ge]; split <;> rfl
  have hstab : ∀ b j, Je w' β' [(i, J3.vec t k p xs)] b j → Je w' β' [(i, J3.vec t k q xs)] b j := fun b j h => ⟨h.lt, h.seen, fun id o ho hb => by
    rw [Ge] at ho
    by_cases e : i = id
    · subst e
      rw [if_pos rfl] at ho; cases ho
      exact (show False from h.kept i (.vec t k p xs) (by rw [Ge, if_pos rfl]) hb).elim
    · rw [if_neg e] at ho; cases ho⟩
  refine ⟨v, _, β', _, rfl, ⟨hs.hid, fun id b h1 => hs.bnd id b (by rw [hlk]; exact h1), fun id b j h1 => hs.apart id b j (by rw [hlk]; exact h1), fun id id' b h1 h2 => hs.inj id id' b (by rw [hlk]; exact h1) (by rw [hlk]; exact h2), fun id o ho => ?_⟩,
    ⟨st.os, st.tape, st.output, st.size, st.hid, fun b j h => ⟨hstab b j (st.stab b j h).1, (st.stab b j h).2⟩, fun b hb hf => ⟨(st.far b hb hf).1, fun id hid => (st.far b hb hf).2 id (by rw [hlk]; exact hid)⟩, fun id t cs h => by simp [lk] at h, fun id t cs h => by simp [lk] at h, fun id t n cs h => by simp [lk] at h, fun id t k ver xs h => by simp [lk] at h, fun id t k ver xs h => by simp [lk] at h⟩, ?_, rfl, rfl⟩
  · rw [Ge] at ho
    by_cases e : i = id
    · subst e
      rw [if_pos rfl] at ho; cases ho
      have h0 := hs.obj i _ (by rw [Ge, if_pos rfl])
      refine ⟨h0.1, h0.2.imp_right ?_⟩
      rintro ⟨b, hb, vs, a1, a2, a3⟩
      exact ⟨b, hb, vs, a1, a2, fun j u v hu hv => (a3 j u v hu hv).mono fun b i hs => ⟨hstab b i hs, rfl⟩⟩
    · rw [if_neg e] at ho; cases ho
  · cases hvr with
    | data h => cases h
    | vec hp hone =>
      obtain ⟨t', ver', xs', h1, _, h3⟩ := hp
      rw [Ge, if_pos rfl] at h1; cases h1
      exact .vec ⟨t, q, xs, by rw [Ge, if_pos rfl], Nat.le_refl _, fun _ => h3 rfl⟩ hone
theorem grow_cut {α : Type} (xs : List α) (n : Nat) (y z : α) (h : n < xs.length) (p q r : Nat) (hp : p = xs.length + 1 - n) (hq : q = xs.length + 1 - (n + 1)) (hr : r = xs.length - n) :
    overlay (overlay (xs.take n ++ List.replicate p z) n [y] p) (n + 1) ((xs.drop n).take r) q = xs.take n ++ y :: xs.drop n := by
  subst hp hq hr
  have e : (xs.drop n).take (xs.length - n) = xs.drop n := List.take_of_length_le (by simp)
  rw [e]
  unfold overlay
  have hl : (xs.drop n).length = xs.length - n := by simp
  have ht : (xs.take n).length = n := by rw [List.length_take]; omega
  rw [List.length_singleton, Nat.min_eq_left (show 1 ≤ xs.length + 1 - n by omega), hl, Nat.min_eq_left (show xs.length - n ≤ xs.length + 1 - (n + 1) by omega)]
  have a1 : (xs.take n ++ List.replicate (xs.length + 1 - n) z).take n = xs.take n := by rw [List.take_append_of_le_length (by omega), List.take_of_length_le (by omega)]
  rw [a1]
  have a2 : (xs.take n ++ [y].take 1 ++ (xs.take n ++ List.replicate (xs.length + 1 - n) z).drop (n + 1)).take (n + 1) = xs.take n ++ [y] := by
    rw [List.take_append_of_le_length (by simp; omega), List.take_of_length_le (by simp; omega)]; rfl
  rw [a2]
  have a3 : (xs.take n ++ [y].take 1 ++ (xs.take n ++ List.replicate (xs.length + 1 - n) z).drop (n + 1)).drop (n + 1 + (xs.length - n)) = [] := List.drop_of_length_le (by simp; omega)
  rw [a3, List.append_nil, e, List.append_assoc]; rfl
theorem room_cut {f : AV → AV} (xs : List AV) (n : Nat) (y : AV) (J : AV) (h : n < xs.length) (p q : Nat) (hp : p = xs.length + 1 - n) (hq : q = xs.length + 1 - (n + 1)) (X Y : List AV) (hX : X = xs ++ List.replicate (xs.length + 1 - xs.length) J) (hY : Y = X.take (n + 1) ++ (((X.drop n).take p).take (min ((X.drop n).take p).length q)) ++ X.drop (n + 1 + min ((X.drop n).take p).length q)) :
    (Y.take n ++ [y].take (min [y].length p) ++ Y.drop (n + min [y].length p)).take (xs.length + 1) = xs.take n ++ y :: xs.drop n := by
  have hJ : xs.length + 1 - xs.length = 1 := by omega
  rw [hJ] at hX
  have hXl : X.length = xs.length + 1 := by rw [hX]; simp
  have hdl : ((X.drop n).take p).length = p := by rw [List.length_take, List.length_drop, hXl, hp]; omega
  have hmin : min p q = q := by omega
  rw [hdl, hmin] at hY
  have hXn : X.take n = xs.take n := by rw [hX, List.take_append_of_le_length (by omega)]
  have hXd : ((X.drop n).take p).take q = xs.drop n := by
    rw [List.take_take, Nat.min_eq_left (by omega), hX, List.drop_append_of_le_length (by omega), List.take_append_of_le_length (by simp; omega), List.take_of_length_le (by simp; omega)]
  rw [hXd] at hY
  have hYe : X.drop (n + 1 + q) = [] := List.drop_of_length_le (by omega)
  rw [hYe, List.append_nil] at hY
  have hYt : Y.take n = xs.take n := by
    rw [hY, List.take_append_of_le_length (by rw [List.length_take]; omega), List.take_take, Nat.min_eq_left (by omega), hXn]
  have h1 : min [y].length p = 1 := by rw [List.length_singleton]; omega
  have hYd : Y.drop (n + 1) = xs.drop n := by
    have hl : (X.take (n + 1)).length = n + 1 := by rw [List.length_take]; omega
    rw [hY, List.drop_append, hl, Nat.sub_self, List.drop_zero, List.drop_of_length_le (by omega), List.nil_append]
  rw [h1, hYt, hYd]
  rw [List.take_of_length_le (by simp; omega), List.append_assoc]; rfl
theorem J21 {α : Type} {f : α → AV} (hf : ∀ y, (f y).flatOk = true) {X : List AV} {xs : List α} {J : AV} {n p q : Nat} (hX : X = xs.map f ++ List.replicate ((xs.map f).length + 1 - (xs.map f).length) J) (hn : n < xs.length) (hp : p = xs.length + 1 - n) (hq : q = xs.length + 1 - (n + 1)) : ∀ y ∈ ((X.drop n).take p).take (min ((X.drop n).take p).length q), y.flatOk = true := by
  have hJ : (xs.map f).length + 1 - (xs.map f).length = 1 := by omega
  rw [hJ] at hX
  have hXl : X.length = xs.length + 1 := by rw [hX]; simp
  have hdl : ((X.drop n).take p).length = p := by rw [List.length_take, List.length_drop, hXl, hp]; omega
  have hmin : min p q = q := by omega
  have hXd : ((X.drop n).take p).take q = (xs.map f).drop n := by
    rw [List.take_take, Nat.min_eq_left (by omega), hX, List.drop_append_of_le_length (by simp; omega), List.take_append_of_le_length (by simp; omega), List.take_of_length_le (by simp; omega)]
  rw [hdl, hmin, hXd]
  intro y hy
  obtain ⟨z, _, rfl⟩ := List.mem_map.1 (List.mem_of_mem_drop hy)
  exact hf z

/-! ### int -/
theorem Zz : sliceB Tryz.prog 40 3 1 = true := by kernel_rfl
theorem wE_int : Y7 Tryz.prog 3 1 8 = true := by kernel_rfl
theorem wz_int : (Tryz.prog.info? 3).bind (fun i => i.zero.map Value.cells) = some ([.int .i64 0] : List Value).toArray := by kernel_rfl
theorem wm_int : Tryz.prog.follows .mixedOrders = true := by kernel_rfl
theorem W_clone_int (l : List Int) (h : l.length ≤ 100000) : Qn l = some l := by
  unfold Qn
  refine Hf5 (fun b hb => ?_)
  cases b with
  | true => rw [hb rfl]; rfl
  | false => exact Y4 (Qe (decide_eq_true ⟨by simp; omega, by simp [maxLen]; omega⟩) (Gg rfl))

set_option maxHeartbeats 2000000 in
theorem W_Insert_int (xs : List Int) (n : Nat) (y : Int) (hn : n ≤ xs.length) (hm : xs.length ≤ 100000) (ver : Nat) :
    Qx Tryz.prog 81 [.vec 1116 ver 1 xs.length, G0 (n : Int), LS 1 G0 [y]] [(1116, .vec 3 1 ver (xs.map G0))] (fun u L' => u = LS 1 G0 (xs.take n ++ y :: xs.drop n) ∧ L' = [(1116, .vec 3 1 (ver + 4) [])]) := by
  refine G21 [1116] [.tmp 6] Tryz.func81 rfl rfl (Hcd rfl) ?_
  refine Jr fun h1 => ?_
  refine Yv (.sc (.slice none 0 0)) rfl ?_
  refine G7 (h1 ?_)
  refine Jr fun h2 => ?_
  refine Yv (.vec 1116 ver 1 xs.length) rfl ?_
  refine Yv (G0 (n : Int)) rfl ?_
  refine G1 (u := .vsl 1116 ver 1 n (xs.length - n)) (G9f (f := G0) (xs := xs) rfl rfl rfl rfl Zz ⟨rfl, hn⟩) ?_
  refine G7 (h2 ?_)
  refine Jr fun h3 => ?_
  refine Yv (LS 1 G0 [y]) rfl ?_
  refine G1 (u := G0 ((1 : Nat) : Int)) (Zj (f := G0) (xs := [y]) Zz rfl rfl) ?_
  refine Yv (G0 ((1 : Nat) : Int)) rfl ?_
  refine G7 (h3 ?_)
  refine Js fun h4 => ?_
  refine Jr fun h5 => ?_
  refine Yv (G0 ((1 : Nat) : Int)) rfl ?_
  refine G1 (u := BL (decide (((1 : Nat) : Int) = 0))) (Q0 rfl rfl rfl) ?_
  refine G7 (h5 ?_)
  refine Gm rfl (fun hb => ?_) (fun hb => ?_)
  · exact absurd (of_decide_eq_true hb) (by omega)
  refine Gr (h4 ?_)
  refine Jr fun h6 => ?_
  refine Yv (.vec 1116 ver 1 xs.length) rfl ?_
  refine G1 (u := G0 (xs.length : Int)) (Jaa Zz rfl rfl rfl) ?_
  refine Yv (G0 (xs.length : Int)) rfl ?_
  refine G7 (h6 ?_)
  refine Js fun h7 => ?_
  refine Jr fun h8 => ?_
  refine Yv (G0 (n : Int)) rfl ?_
  refine Yv (G0 (xs.length : Int)) rfl ?_
  refine G1 (u := BL (decide ((n : Int) = (xs.length : Int)))) (Q0 rfl rfl rfl) ?_
  refine G7 (h8 ?_)
  refine Gm rfl (fun hb => ?_) (fun hb => ?_)
  · -- at the end
    have hb := of_decide_eq_true hb
    have hnx : n = xs.length := by omega
    refine Jr fun h9 => ?_
    refine Yv (.vec 1116 ver 1 xs.length) rfl ?_
    refine Yv (LS 1 G0 [y]) rfl ?_
    refine G1 (u := .vec 1116 (ver + 3) 1 (xs ++ [y]).length) (G44 (f := G0) (xs := xs) (ys := [y]) (ver1 := ver + 3) rfl rfl rfl rfl Zz wE_int (decide_eq_true ⟨by rw [List.length_singleton]; omega, by rw [List.length_singleton]; simp [maxLen]; omega⟩) (fun _ => rfl) (.inl rfl) (by omega)) ?_
    refine Yv (.vec 1116 (ver + 3) 1 (xs ++ [y]).length) rfl ?_
    refine G7 (h9 ?_)
    refine Ge9 6 (ver + 4) rfl rfl (by omega) ?_
    refine Gx ?_
    refine ⟨[LS 1 G0 (xs.take n ++ y :: xs.drop n)], [(1116, .vec 3 1 (ver + 4) [])], ⟨⟨_, rfl, .vec⟩, trivial⟩, rfl, ⟨⟨_, rfl, .conv (.eq ?_ rfl)⟩, trivial⟩, rfl, rfl⟩
    refine congrArg (AV.list 1) (congrArg (List.map G0) ?_)
    rw [hnx, List.take_length, List.drop_length]
  have hb := of_decide_eq_false hb
  have hlt : n < xs.length := by omega
  refine Gr (h7 ?_)
  refine JC_vcap 0 rfl rfl (fun c hc1 hc2 => ?_)
  rw [List.length_map] at hc1
  refine Yk (l' := [(0, .vcap 1116 ver 1 xs.length c), (1, G0 (n : Int)), (2, LS 1 G0 [y]), (7, G0 ((1 : Nat) : Int)), (8, G0 (xs.length : Int))]) (L' := [(1116, .vec 3 1 ver (xs.map G0))]) ⟨⟨.eq (by rw [show (xs.map G0).length = xs.length from List.length_map ..]; rfl) rfl, .same rfl, .same rfl, .same rfl, .same rfl, trivial⟩, ⟨⟨_, rfl, .vec⟩, trivial⟩, rfl⟩ ?_
  refine Js fun h10 => ?_
  refine Jr fun h11 => ?_
  refine Yv (G0 (xs.length : Int)) rfl ?_
  refine Yv (G0 ((1 : Nat) : Int)) rfl ?_
  refine G1 (u := G0 ((xs.length + 1 : Nat) : Int)) (Hx (by rw [IntKind.wrap_i64]; omega) rfl rfl rfl) ?_
  refine Yv (.vcap 1116 ver 1 xs.length c) rfl ?_
  refine G1 (u := G0 (c : Int)) (Jbb rfl Zz rfl rfl) ?_
  refine G1 (u := BL (decide ((c : Int) < ((xs.length + 1 : Nat) : Int)))) (G35 rfl rfl rfl) ?_
  refine G7 (h11 ?_)
  refine Gm rfl (fun hb => ?_) (fun hb => ?_)
  · -- a new row
    have hb := of_decide_eq_true hb
    obtain ⟨p, hp⟩ : ∃ p, p = xs.length + 1 - n := ⟨_, rfl⟩
    obtain ⟨X1, hX1⟩ : ∃ X1, xs.take n ++ List.replicate p (0 : Int) = X1 := ⟨_, rfl⟩
    have hl1 : X1.length = xs.length + 1 := by rw [← hX1, List.length_append, List.length_take, List.length_replicate]; omega
    obtain ⟨X2, hX2⟩ : ∃ X2, overlay X1 n [y] (X1.length - n) = X2 := ⟨_, rfl⟩
    have hl2 : X2.length = xs.length + 1 := by
      rw [← hX2]; unfold overlay
      rw [List.length_singleton, Nat.min_eq_left (by omega)]; simp; omega
    obtain ⟨Y, hY⟩ : ∃ Y, Y = (xs.drop n).take (xs.length - n) := ⟨_, rfl⟩
    obtain ⟨X3, hX3⟩ : ∃ X3, overlay X2 (n + 1) Y (X2.length - (n + 1)) = X3 := ⟨_, rfl⟩
    refine Jr fun h12 => ?_
    refine Yv (.vcap 1116 ver 1 xs.length c) rfl ?_
    refine Yv (G0 (n : Int)) rfl ?_
    refine G1 (u := .vcap 1116 ver 1 n c) (He1 rfl Zz rfl rfl rfl rfl (by omega)) ?_
    refine Yv (G0 (xs.length : Int)) rfl ?_
    refine Yv (G0 ((1 : Nat) : Int)) rfl ?_
    refine G1 (u := G0 ((xs.length + 1 : Nat) : Int)) (Hx (by rw [IntKind.wrap_i64]; omega) rfl rfl rfl) ?_
    refine Yv (G0 (n : Int)) rfl ?_
    refine G1 (u := G0 (p : Int)) (H3d (by rw [IntKind.wrap_i64]; omega) rfl rfl rfl) ?_
    refine G1 (u := .vec 77000002 0 1 X1.length) (Jb1 (f := G0) (xs := xs) 77000002 (0 : Int) [.int .i64 0] X1 hX1 rfl rfl rfl rfl rfl Zz (kn := .i64) (by kernel_rfl) wE_int wz_int rfl rfl ⟨.inl rfl, trivial⟩ (by omega) (by simp [maxLen]; omega) hn (by omega) (by omega) (by omega) rfl) ?_
    refine Yv (.vec 77000002 0 1 X1.length) rfl ?_
    refine G7 (h12 ?_)
    refine Jr fun h13 => ?_
    refine Yv (.vec 77000002 0 1 X1.length) rfl ?_
    refine Yv (G0 (n : Int)) rfl ?_
    refine G1 (u := .vsl 77000002 0 1 n (X1.length - n)) (G9f (f := G0) (xs := X1) rfl rfl rfl rfl Zz ⟨rfl, by omega⟩) ?_
    refine Yv (LS 1 G0 [y]) rfl ?_
    refine G1 (J3f (f := G0) (xs := X1) (ys := [y]) X2 hX2 rfl Zz (.inr rfl) rfl (Src_list rfl (.inl rfl)) (fun _ => rfl)) ?_
    refine G7 (h13 ?_)
    refine Yk (l' := [(0, .vcap 1116 ver 1 xs.length c), (1, G0 (n : Int)), (2, LS 1 G0 [y]), (7, G0 ((1 : Nat) : Int)), (9, .vec 77000002 0 1 X2.length)]) (L' := [(77000002, .vec 3 1 0 (X2.map G0)), (1116, .vec 3 1 ver (xs.map G0))]) ⟨⟨.same rfl, .same rfl, .same rfl, .same rfl, .eq (by rw [hl2, ← hl1]; rfl) rfl, trivial⟩, ⟨⟨_, rfl, .vec⟩, ⟨_, rfl, .vec⟩, trivial⟩, rfl⟩ ?_
    refine Js fun h14 => ?_
    refine Qa [8] [0, 0, 0, 0, 0, 0, 0, 0, 0] [0, 0, 0, 0, 0, 0, 0, 0, 0] [[(77000002, .vec 3 1 0 (X2.map G0)), (1116, .vec 3 1 ver (xs.map G0))], [(77000002, .vec 3 1 0 (X3.map G0)), (77000002, .vec 3 1 0 (X2.map G0)), (1116, .vec 3 1 ver (xs.map G0))]] wm_int (by kernel_rfl) rfl rfl ?_
    refine Gv (u := .vec 77000002 0 1 X2.length) rfl rfl ⟨Gz (G7c _ rfl rfl) rfl, trivial⟩ ?_ rfl
    refine Gv (u := G0 (n : Int)) rfl rfl ⟨Gz (G7c _ rfl rfl) rfl, trivial⟩ ?_ rfl
    refine Gv (u := G0 ((1 : Nat) : Int)) rfl rfl ⟨Gz (G7c _ rfl rfl) rfl, trivial⟩ ?_ rfl
    refine Gv (u := G0 ((n + 1 : Nat) : Int)) rfl rfl ⟨Gz (Hx (by rw [IntKind.wrap_i64]; omega) rfl rfl rfl) rfl, trivial⟩ ?_ rfl
    refine Gv (u := .vsl 77000002 0 1 (n + 1) (X2.length - (n + 1))) rfl rfl ⟨Gz (G9f (f := G0) (xs := X2) rfl rfl rfl rfl Zz ⟨rfl, by omega⟩) rfl, trivial⟩ ?_ rfl
    refine Gv (u := .vcap 1116 ver 1 xs.length c) rfl rfl ⟨Gz (G7c _ rfl rfl) rfl, trivial⟩ ?_ rfl
    refine Gv (u := G0 (n : Int)) rfl rfl ⟨Gz (G7c _ rfl rfl) rfl, trivial⟩ ?_ rfl
    refine Gv (u := .vsl 1116 ver 1 n (xs.length - n)) rfl rfl ⟨Gz (Je1 rfl Zz rfl rfl rfl rfl hn (by simp) (by simp; omega)) rfl, trivial⟩ ?_ rfl
    refine D_w (u := G0 ((min Y.length (X2.length - (n + 1)) : Nat) : Int)) rfl rfl rfl rfl (Gz (J3f (f := G0) (xs := X2) (ys := Y) X3 hX3 rfl Zz (.inr rfl) rfl (hY ▸ Src_vsl rfl rfl) (fun _ => rfl)) rfl) ?_ rfl
    refine Z8 (h14 ?_)
    refine Jr fun h15 => ?_
    refine Yv (.vec 77000002 0 1 X2.length) rfl ?_
    refine Yv (.vec 77000002 0 1 X2.length) rfl ?_
    refine G7 (h15 ?_)
    refine Ge9 6 1 rfl rfl (by omega) ?_
    refine Jde (i := 1116) (ver + 4) rfl (by omega) ?_
    refine Gx ?_
    refine ⟨[LS 1 G0 (xs.take n ++ y :: xs.drop n)], [(1116, .vec 3 1 (ver + 4) [])], ⟨⟨_, rfl, .vec⟩, trivial⟩, rfl, ⟨⟨_, rfl, .conv (.eq ?_ rfl)⟩, trivial⟩, rfl, rfl⟩
    refine congrArg (AV.list 1) (congrArg (List.map G0) ?_)
    rw [show X2.length - (n + 1) = xs.length + 1 - (n + 1) by omega] at hX3
    rw [show X1.length - n = p by omega] at hX2
    rw [← hX3, ← hX2, ← hX1, hY]
    exact grow_cut xs n y (0 : Int) hlt _ _ _ hp rfl rfl
  have hb := of_decide_eq_false hb
  obtain ⟨X, hX⟩ : ∃ X, X = xs.map G0 ++ List.replicate ((xs.map G0).length + 1 - (xs.map G0).length) (.agg (List.replicate 1 .junk)) := ⟨_, rfl⟩
  have hXl : X.length = xs.length + 1 := by rw [hX]; simp
  refine Gr (h10 ?_)
  refine Jr fun h16 => ?_
  refine Yv (.vcap 1116 ver 1 xs.length c) rfl ?_
  refine Yv (G0 (xs.length : Int)) rfl ?_
  refine Yv (G0 ((1 : Nat) : Int)) rfl ?_
  refine G1 (u := G0 ((xs.length + 1 : Nat) : Int)) (Hx (by rw [IntKind.wrap_i64]; omega) rfl rfl rfl) ?_
  refine G1 (u := .vcap 1116 ver 1 (xs.length + 1) c) (He1 rfl Zz rfl rfl rfl rfl (by omega)) ?_
  refine J28 60 X (by rw [hX, List.length_map]) rfl rfl (by simp) (by omega) (by simp; omega) ?_
  refine Yv (.vsl 1116 (ver + 1) 1 0 (xs.length + 1)) rfl ?_
  refine G7 (h16 ?_)
  refine Js fun h17 => ?_
  refine Jr fun h18 => ?_
  refine Yv (LS 1 G0 [y]) rfl ?_
  refine Yv (.vsl 1116 (ver + 1) 1 0 (xs.length + 1)) rfl ?_
  refine Yv (G0 (n : Int)) rfl ?_
  refine Yv (G0 ((1 : Nat) : Int)) rfl ?_
  refine G1 (u := G0 ((n + 1 : Nat) : Int)) (Hx (by rw [IntKind.wrap_i64]; omega) rfl rfl rfl) ?_
  refine G1 (u := .vsl 1116 (ver + 1) 1 (n + 1) (xs.length + 1 - (n + 1))) (G8e (lo := n + 1) (hi := xs.length + 1) rfl Zz rfl rfl (.inr ⟨_, _, rfl, rfl⟩) (.inl ⟨rfl, rfl⟩) (by omega) (by omega) rfl) ?_
  refine G1 (u := BL false) (Jad (S := 4) rfl Tryz.func109 (by kernel_rfl) (by kernel_rfl) (by kernel_rfl) (by kernel_rfl) Zz rfl rfl rfl rfl rfl (by simp) (by omega)) ?_
  refine G1 (u := BL true) (Ru (b := false) rfl rfl) ?_
  refine G7 (h18 ?_)
  refine Gm rfl (fun hb => ?_) (fun hb => by cases hb)
  obtain ⟨Y, hY⟩ : ∃ Y, Y = X.take (n + 1) ++ (((X.drop n).take (xs.length + 1 - n)).take (min ((X.drop n).take (xs.length + 1 - n)).length (xs.length + 1 - (n + 1)))) ++ X.drop (n + 1 + min ((X.drop n).take (xs.length + 1 - n)).length (xs.length + 1 - (n + 1))) := ⟨_, rfl⟩
  have hYl : Y.length = xs.length + 1 := by
    have hdl : ((X.drop n).take (xs.length + 1 - n)).length = xs.length + 1 - n := by rw [List.length_take, List.length_drop, hXl]; omega
    rw [hY, hdl, Nat.min_eq_right (by omega)]
    simp only [List.length_append, List.length_take, List.length_drop, hXl]
    omega
  refine Yk (l' := [(0, .vsl 1116 (ver + 1) 1 0 (xs.length + 1)), (1, G0 (n : Int)), (2, LS 1 G0 [y]), (7, G0 ((1 : Nat) : Int))]) (L' := [(1116, .vec 3 1 (ver + 1) X)]) ⟨⟨.same rfl, .same rfl, .same rfl, .same rfl, trivial⟩, ⟨⟨_, rfl, .vec⟩, trivial⟩, rfl⟩ ?_
  refine Js fun h19 => ?_
  refine Qa [8] [0, 0, 0, 0, 0, 0, 0, 0, 0] [0, 0, 0, 0, 0, 0, 0, 0, 0] [[(1116, .vec 3 1 (ver + 1) X)], [(1116, .vec 3 1 (ver + 1) Y), (1116, .vec 3 1 (ver + 1) X)]] wm_int (by kernel_rfl) rfl rfl ?_
  refine Gv (u := .vsl 1116 (ver + 1) 1 0 (xs.length + 1)) rfl rfl ⟨Gz (G7c _ rfl rfl) rfl, trivial⟩ ?_ rfl
  refine Gv (u := G0 (n : Int)) rfl rfl ⟨Gz (G7c _ rfl rfl) rfl, trivial⟩ ?_ rfl
  refine Gv (u := G0 ((1 : Nat) : Int)) rfl rfl ⟨Gz (G7c _ rfl rfl) rfl, trivial⟩ ?_ rfl
  refine Gv (u := G0 ((n + 1 : Nat) : Int)) rfl rfl ⟨Gz (Hx (by rw [IntKind.wrap_i64]; omega) rfl rfl rfl) rfl, trivial⟩ ?_ rfl
  refine Gv (u := .vsl 1116 (ver + 1) 1 (n + 1) (xs.length + 1 - (n + 1))) rfl rfl ⟨Gz (G8e (lo := n + 1) (hi := xs.length + 1) rfl Zz rfl rfl (.inr ⟨_, _, rfl, rfl⟩) (.inl ⟨rfl, rfl⟩) (by omega) (by omega) rfl) rfl, trivial⟩ ?_ rfl
  refine Gv (u := .vsl 1116 (ver + 1) 1 0 (xs.length + 1)) rfl rfl ⟨Gz (G7c _ rfl rfl) rfl, trivial⟩ ?_ rfl
  refine Gv (u := G0 (n : Int)) rfl rfl ⟨Gz (G7c _ rfl rfl) rfl, trivial⟩ ?_ rfl
  refine Gv (u := .vsl 1116 (ver + 1) 1 n (xs.length + 1 - n)) rfl rfl ⟨Gz (G8e (lo := n) (hi := xs.length + 1) rfl Zz rfl rfl (.inr ⟨_, _, rfl, rfl⟩) (.inl ⟨rfl, rfl⟩) (by omega) (by omega) rfl) rfl, trivial⟩ ?_ rfl
  refine D_w (u := G0 ((min ((X.drop n).take (xs.length + 1 - n)).length (xs.length + 1 - (n + 1)) : Nat) : Int)) rfl rfl rfl rfl (Gz (A_copyR (ys := (X.drop n).take (xs.length + 1 - n)) Y hY.symm rfl Zz ⟨rfl, .inr rfl⟩ (.inr (.inr ⟨_, _, _, _, _, _, rfl, rfl, rfl⟩)) (J21 (f := G0) (fun _ => rfl) hX hlt rfl rfl)) rfl) ?_ rfl
  refine Z8 (h19 ?_)
  refine Jr fun h20 => ?_
  refine Yv (.vsl 1116 (ver + 1) 1 0 (xs.length + 1)) rfl ?_
  refine Yv (G0 (n : Int)) rfl ?_
  refine G1 (u := .vsl 1116 (ver + 1) 1 n (xs.length + 1 - n)) (G8e (lo := n) (hi := xs.length + 1) rfl Zz rfl rfl (.inr ⟨_, _, rfl, rfl⟩) (.inl ⟨rfl, rfl⟩) (by omega) (by omega) rfl) ?_
  refine Yv (LS 1 G0 [y]) rfl ?_
  refine G1 (Jc8 (xs := Y) (ys := [G0 y]) rfl Zz ⟨rfl, .inr rfl⟩ (.inl ⟨_, rfl, .inl rfl⟩) (fun z hz => by
    have := List.mem_of_mem_take hz
    rw [List.mem_singleton] at this
    subst this; rfl)) ?_
  refine G7 (h20 ?_)
  refine Jr fun h21 => ?_
  refine Yv (.vsl 1116 (ver + 1) 1 0 (xs.length + 1)) rfl ?_
  refine Yv (.vsl 1116 (ver + 1) 1 0 (xs.length + 1)) rfl ?_
  refine G7 (h21 ?_)
  refine Jc4 6 rfl rfl ?_
  refine Ge9 6 (ver + 4) rfl rfl (by omega) ?_
  refine Gx ?_
  refine ⟨[LS 1 G0 (xs.take n ++ y :: xs.drop n)], [(1116, .vec 3 1 (ver + 4) [])], ⟨⟨_, rfl, .vec⟩, trivial⟩, rfl, ⟨⟨_, rfl, .conv (.eq ?_ rfl)⟩, trivial⟩, rfl, rfl⟩
  refine congrArg (AV.list 1) ?_
  have hlm : (xs.map G0).length = xs.length := List.length_map ..
  have := room_cut (f := id) (xs.map G0) n (G0 y) (.agg (List.replicate 1 .junk)) (by rw [hlm]; exact hlt) (xs.length + 1 - n) (xs.length + 1 - (n + 1)) (by rw [hlm]) (by rw [hlm]) X Y hX hY
  rw [hlm] at this
  rw [List.map_append, List.map_cons, List.map_take, List.map_drop]
  exact this

def G23 (l : List Int) (n : Int) (x : Int) : Option (List Int) := bif decide (0 ≤ n) && (decide (n ≤ (l.length : Int)) && decide (l.length ≤ 100000)) then some (l.take n.toNat ++ x :: l.drop n.toNat) else none
theorem Hd7 (l : List Int) (n : Int) (x : Int) (r : List Int) (h : G23 l n x = some r) : Pure Tryz.prog 49 [LS 1 G0 l, G0 n, G0 x] (· = LS 1 G0 r) := by
  unfold G23 at h
  cases hc : (decide (0 ≤ n) && (decide (n ≤ (l.length : Int)) && decide (l.length ≤ 100000))) with
  | false => rw [hc] at h; cases h
  | true =>
    rw [hc] at h
    simp only [Bool.and_eq_true, decide_eq_true_eq] at hc
    obtain ⟨h1, h2, h3⟩ := hc
    obtain ⟨q, rfl⟩ : ∃ q : Nat, n = (q : Int) := ⟨n.toNat, by omega⟩
    have h := Option.some.inj h
    simp only [Int.toNat_natCast] at h
    subst h
    refine H6 [.tmp 6] Tryz.func49 rfl rfl ?_
    refine Jr fun h1 => ?_
    refine Yv (.sc (.slice none 0 0)) rfl ?_
    refine G7 (h1 ?_)
    refine Jr fun h2 => ?_
    refine Yv (LS 1 G0 l) rfl ?_
    refine G1 (u := .vec 1116 0 1 l.length) (H00 (args := [LS 1 G0 l]) (L0 := []) (Lr := [(1116, .vec 3 1 0 (l.map G0))]) rfl ((H63 l l (W_clone_int l h3)).ver 0) (by kernel_rfl) ⟨.inl rfl, rfl, trivial⟩ trivial rfl rfl rfl) ?_
    refine Yv (G0 (q : Int)) rfl ?_
    refine Yv (G0 x) rfl ?_
    refine G1 (u := LS 1 G0 [x]) (H9 (xs := [G0 x]) rfl ⟨rfl, rfl, trivial⟩ Zz (by kernel_rfl) rfl rfl rfl rfl) ?_
    refine G1 (u := LS 1 G0 (l.take q ++ x :: l.drop q)) (H00 rfl (W_Insert_int l q x (by omega) h3 0) (by kernel_rfl) ⟨.inl rfl, rfl, .inl rfl, rfl, .inl rfl, rfl, trivial⟩ ⟨rfl, trivial⟩ rfl rfl rfl) ?_
    refine Yv (LS 1 G0 (l.take q ++ x :: l.drop q)) rfl ?_
    refine G7 (h2 ?_)
    refine Gx ?_
    exact ⟨[LS 1 G0 (l.take q ++ x :: l.drop q)], [], trivial, rfl, ⟨⟨_, rfl, .conv (.same rfl)⟩, trivial⟩, rfl, rfl⟩
def Hd6 := PLift.up Hd7

/-! ### twistlock/api.Stowed -/
theorem Hv : sliceB Tryz.prog 37 49 4 = true := by kernel_rfl
theorem Hb5 : Y7 Tryz.prog 49 4 32 = true := by kernel_rfl
theorem Hb3 : (Tryz.prog.info? 49).bind (fun i => i.zero.map Value.cells) = some ([.int .i64 0, .int .i64 0, .int .i64 0, .int .u8 0] : List Value).toArray := by kernel_rfl
theorem Gbe : Tryz.prog.follows .mixedOrders = true := by kernel_rfl
theorem Gf8 (l : List Stowed) (h : l.length ≤ 100000) : Qu l = some l := by
  unfold Qu
  refine Hf5 (fun b hb => ?_)
  cases b with
  | true => rw [hb rfl]; rfl
  | false => exact Y4 (Qe (decide_eq_true ⟨by simp; omega, by simp [maxLen]; omega⟩) (Gg rfl))

set_option maxHeartbeats 2000000 in
theorem Ha8 (xs : List Stowed) (n : Nat) (y : Stowed) (hn : n ≤ xs.length) (hm : xs.length ≤ 100000) (ver : Nat) :
    Qx Tryz.prog 106 [.vec 1142 ver 4 xs.length, G0 (n : Int), LS 4 Stowed.av [y]] [(1142, .vec 49 4 ver (xs.map Stowed.av))] (fun u L' => u = LS 4 Stowed.av (xs.take n ++ y :: xs.drop n) ∧ L' = [(1142, .vec 49 4 (ver + 4) [])]) := by
  refine G21 [1142] [.tmp 6] Tryz.func106 rfl rfl (Hcd rfl) ?_
  refine Jr fun h1 => ?_
  refine Yv (.sc (.slice none 0 0)) rfl ?_
  refine G7 (h1 ?_)
  refine Jr fun h2 => ?_
  refine Yv (.vec 1142 ver 4 xs.length) rfl ?_
  refine Yv (G0 (n : Int)) rfl ?_
  refine G1 (u := .vsl 1142 ver 4 n (xs.length - n)) (G9f (f := Stowed.av) (xs := xs) rfl rfl rfl rfl Hv ⟨rfl, hn⟩) ?_
  refine G7 (h2 ?_)
  refine Jr fun h3 => ?_
  refine Yv (LS 4 Stowed.av [y]) rfl ?_
  refine G1 (u := G0 ((1 : Nat) : Int)) (Zj (f := Stowed.av) (xs := [y]) Hv rfl rfl) ?_
  refine Yv (G0 ((1 : Nat) : Int)) rfl ?_
  refine G7 (h3 ?_)
  refine Js fun h4 => ?_
  refine Jr fun h5 => ?_
  refine Yv (G0 ((1 : Nat) : Int)) rfl ?_
  refine G1 (u := BL (decide (((1 : Nat) : Int) = 0))) (Q0 rfl rfl rfl) ?_
  refine G7 (h5 ?_)
  refine Gm rfl (fun hb => ?_) (fun hb => ?_)
  · exact absurd (of_decide_eq_true hb) (by omega)
  refine Gr (h4 ?_)
  refine Jr fun h6 => ?_
  refine Yv (.vec 1142 ver 4 xs.length) rfl ?_
  refine G1 (u := G0 (xs.length : Int)) (Jaa Hv rfl rfl rfl) ?_
  refine Yv (G0 (xs.length : Int)) rfl ?_
  refine G7 (h6 ?_)
  refine Js fun h7 => ?_
  refine Jr fun h8 => ?_
  refine Yv (G0 (n : Int)) rfl ?_
  refine Yv (G0 (xs.length : Int)) rfl ?_
  refine G1 (u := BL (decide ((n : Int) = (xs.length : Int)))) (Q0 rfl rfl rfl) ?_
  refine G7 (h8 ?_)
  refine Gm rfl (fun hb => ?_) (fun hb => ?_)
  · -- at the end
    have hb := of_decide_eq_true hb
    have hnx : n = xs.length := by omega
    refine Jr fun h9 => ?_
    refine Yv (.vec 1142 ver 4 xs.length) rfl ?_
    refine Yv (LS 4 Stowed.av [y]) rfl ?_
    refine G1 (u := .vec 1142 (ver + 3) 4 (xs ++ [y]).length) (G44 (f := Stowed.av) (xs := xs) (ys := [y]) (ver1 := ver + 3) rfl rfl rfl rfl Hv Hb5 (decide_eq_true ⟨by rw [List.length_singleton]; omega, by rw [List.length_singleton]; simp [maxLen]; omega⟩) (fun _ => rfl) (.inl rfl) (by omega)) ?_
    refine Yv (.vec 1142 (ver + 3) 4 (xs ++ [y]).length) rfl ?_
    refine G7 (h9 ?_)
    refine Ge9 6 (ver + 4) rfl rfl (by omega) ?_
    refine Gx ?_
    refine ⟨[LS 4 Stowed.av (xs.take n ++ y :: xs.drop n)], [(1142, .vec 49 4 (ver + 4) [])], ⟨⟨_, rfl, .vec⟩, trivial⟩, rfl, ⟨⟨_, rfl, .conv (.eq ?_ rfl)⟩, trivial⟩, rfl, rfl⟩
    refine congrArg (AV.list 4) (congrArg (List.map Stowed.av) ?_)
    rw [hnx, List.take_length, List.drop_length]
  have hb := of_decide_eq_false hb
  have hlt : n < xs.length := by omega
  refine Gr (h7 ?_)
  refine JC_vcap 0 rfl rfl (fun c hc1 hc2 => ?_)
  rw [List.length_map] at hc1
  refine Yk (l' := [(0, .vcap 1142 ver 4 xs.length c), (1, G0 (n : Int)), (2, LS 4 Stowed.av [y]), (7, G0 ((1 : Nat) : Int)), (8, G0 (xs.length : Int))]) (L' := [(1142, .vec 49 4 ver (xs.map Stowed.av))]) ⟨⟨.eq (by rw [show (xs.map Stowed.av).length = xs.length from List.length_map ..]; rfl) rfl, .same rfl, .same rfl, .same rfl, .same rfl, trivial⟩, ⟨⟨_, rfl, .vec⟩, trivial⟩, rfl⟩ ?_
  refine Js fun h10 => ?_
  refine Jr fun h11 => ?_
  refine Yv (G0 (xs.length : Int)) rfl ?_
  refine Yv (G0 ((1 : Nat) : Int)) rfl ?_
  refine G1 (u := G0 ((xs.length + 1 : Nat) : Int)) (Hx (by rw [IntKind.wrap_i64]; omega) rfl rfl rfl) ?_
  refine Yv (.vcap 1142 ver 4 xs.length c) rfl ?_
  refine G1 (u := G0 (c : Int)) (Jbb rfl Hv rfl rfl) ?_
  refine G1 (u := BL (decide ((c : Int) < ((xs.length + 1 : Nat) : Int)))) (G35 rfl rfl rfl) ?_
  refine G7 (h11 ?_)
  refine Gm rfl (fun hb => ?_) (fun hb => ?_)
  · -- a new row
    have hb := of_decide_eq_true hb
    obtain ⟨p, hp⟩ : ∃ p, p = xs.length + 1 - n := ⟨_, rfl⟩
    obtain ⟨X1, hX1⟩ : ∃ X1, xs.take n ++ List.replicate p (Stowed.mk 0 (Slot.mk 0 0 0)) = X1 := ⟨_, rfl⟩
    have hl1 : X1.length = xs.length + 1 := by rw [← hX1, List.length_append, List.length_take, List.length_replicate]; omega
    obtain ⟨X2, hX2⟩ : ∃ X2, overlay X1 n [y] (X1.length - n) = X2 := ⟨_, rfl⟩
    have hl2 : X2.length = xs.length + 1 := by
      rw [← hX2]; unfold overlay
      rw [List.length_singleton, Nat.min_eq_left (by omega)]; simp; omega
    obtain ⟨Y, hY⟩ : ∃ Y, Y = (xs.drop n).take (xs.length - n) := ⟨_, rfl⟩
    obtain ⟨X3, hX3⟩ : ∃ X3, overlay X2 (n + 1) Y (X2.length - (n + 1)) = X3 := ⟨_, rfl⟩
    refine Jr fun h12 => ?_
    refine Yv (.vcap 1142 ver 4 xs.length c) rfl ?_
    refine Yv (G0 (n : Int)) rfl ?_
    refine G1 (u := .vcap 1142 ver 4 n c) (He1 rfl Hv rfl rfl rfl rfl (by omega)) ?_
    refine Yv (G0 (xs.length : Int)) rfl ?_
    refine Yv (G0 ((1 : Nat) : Int)) rfl ?_
    refine G1 (u := G0 ((xs.length + 1 : Nat) : Int)) (Hx (by rw [IntKind.wrap_i64]; omega) rfl rfl rfl) ?_
    refine Yv (G0 (n : Int)) rfl ?_
    refine G1 (u := G0 (p : Int)) (H3d (by rw [IntKind.wrap_i64]; omega) rfl rfl rfl) ?_
    refine G1 (u := .vec 77000002 0 4 X1.length) (Jb1 (f := Stowed.av) (xs := xs) 77000002 (Stowed.mk 0 (Slot.mk 0 0 0)) [.int .i64 0, .int .i64 0, .int .i64 0, .int .u8 0] X1 hX1 rfl rfl rfl rfl rfl Hv (kn := .i64) (by kernel_rfl) Hb5 Hb3 rfl rfl ⟨.inl rfl, .inl rfl, .inl rfl, .inl rfl, trivial⟩ (by omega) (by simp [maxLen]; omega) hn (by omega) (by omega) (by omega) rfl) ?_
    refine Yv (.vec 77000002 0 4 X1.length) rfl ?_
    refine G7 (h12 ?_)
    refine Jr fun h13 => ?_
    refine Yv (.vec 77000002 0 4 X1.length) rfl ?_
    refine Yv (G0 (n : Int)) rfl ?_
    refine G1 (u := .vsl 77000002 0 4 n (X1.length - n)) (G9f (f := Stowed.av) (xs := X1) rfl rfl rfl rfl Hv ⟨rfl, by omega⟩) ?_
    refine Yv (LS 4 Stowed.av [y]) rfl ?_
    refine G1 (J3f (f := Stowed.av) (xs := X1) (ys := [y]) X2 hX2 rfl Hv (.inr rfl) rfl (Src_list rfl (.inl rfl)) (fun _ => rfl)) ?_
    refine G7 (h13 ?_)
    refine Yk (l' := [(0, .vcap 1142 ver 4 xs.length c), (1, G0 (n : Int)), (2, LS 4 Stowed.av [y]), (7, G0 ((1 : Nat) : Int)), (9, .vec 77000002 0 4 X2.length)]) (L' := [(77000002, .vec 49 4 0 (X2.map Stowed.av)), (1142, .vec 49 4 ver (xs.map Stowed.av))]) ⟨⟨.same rfl, .same rfl, .same rfl, .same rfl, .eq (by rw [hl2, ← hl1]; rfl) rfl, trivial⟩, ⟨⟨_, rfl, .vec⟩, ⟨_, rfl, .vec⟩, trivial⟩, rfl⟩ ?_
    refine Js fun h14 => ?_
    refine Qa [8] [0, 0, 0, 0, 0, 0, 0, 0, 0] [0, 0, 0, 0, 0, 0, 0, 0, 0] [[(77000002, .vec 49 4 0 (X2.map Stowed.av)), (1142, .vec 49 4 ver (xs.map Stowed.av))], [(77000002, .vec 49 4 0 (X3.map Stowed.av)), (77000002, .vec 49 4 0 (X2.map Stowed.av)), (1142, .vec 49 4 ver (xs.map Stowed.av))]] Gbe (by kernel_rfl) rfl rfl ?_
    refine Gv (u := .vec 77000002 0 4 X2.length) rfl rfl ⟨Gz (G7c _ rfl rfl) rfl, trivial⟩ ?_ rfl
    refine Gv (u := G0 (n : Int)) rfl rfl ⟨Gz (G7c _ rfl rfl) rfl, trivial⟩ ?_ rfl
    refine Gv (u := G0 ((1 : Nat) : Int)) rfl rfl ⟨Gz (G7c _ rfl rfl) rfl, trivial⟩ ?_ rfl
    refine Gv (u := G0 ((n + 1 : Nat) : Int)) rfl rfl ⟨Gz (Hx (by rw [IntKind.wrap_i64]; omega) rfl rfl rfl) rfl, trivial⟩ ?_ rfl
    refine Gv (u := .vsl 77000002 0 4 (n + 1) (X2.length - (n + 1))) rfl rfl ⟨Gz (G9f (f := Stowed.av) (xs := X2) rfl rfl rfl rfl Hv ⟨rfl, by omega⟩) rfl, trivial⟩ ?_ rfl
    refine Gv (u := .vcap 1142 ver 4 xs.length c) rfl rfl ⟨Gz (G7c _ rfl rfl) rfl, trivial⟩ ?_ rfl
    refine Gv (u := G0 (n : Int)) rfl rfl ⟨Gz (G7c _ rfl rfl) rfl, trivial⟩ ?_ rfl
    refine Gv (u := .vsl 1142 ver 4 n (xs.length - n)) rfl rfl ⟨Gz (Je1 rfl Hv rfl rfl rfl rfl hn (by simp) (by simp; omega)) rfl, trivial⟩ ?_ rfl
    refine D_w (u := G0 ((min Y.length (X2.length - (n + 1)) : Nat) : Int)) rfl rfl rfl rfl (Gz (J3f (f := Stowed.av) (xs := X2) (ys := Y) X3 hX3 rfl Hv (.inr rfl) rfl (hY ▸ Src_vsl rfl rfl) (fun _ => rfl)) rfl) ?_ rfl
    refine Z8 (h14 ?_)
    refine Jr fun h15 => ?_
    refine Yv (.vec 77000002 0 4 X2.length) rfl ?_
    refine Yv (.vec 77000002 0 4 X2.length) rfl ?_
    refine G7 (h15 ?_)
    refine Ge9 6 1 rfl rfl (by omega) ?_
    refine Jde (i := 1142) (ver + 4) rfl (by omega) ?_
    refine Gx ?_
    refine ⟨[LS 4 Stowed.av (xs.take n ++ y :: xs.drop n)], [(1142, .vec 49 4 (ver + 4) [])], ⟨⟨_, rfl, .vec⟩, trivial⟩, rfl, ⟨⟨_, rfl, .conv (.eq ?_ rfl)⟩, trivial⟩, rfl, rfl⟩
    refine congrArg (AV.list 4) (congrArg (List.map Stowed.av) ?_)
    rw [show X2.length - (n + 1) = xs.length + 1 - (n + 1) by omega] at hX3
    rw [show X1.length - n = p by omega] at hX2
    rw [← hX3, ← hX2, ← hX1, hY]
    exact grow_cut xs n y (Stowed.mk 0 (Slot.mk 0 0 0)) hlt _ _ _ hp rfl rfl
  have hb := of_decide_eq_false hb
  obtain ⟨X, hX⟩ : ∃ X, X = xs.map Stowed.av ++ List.replicate ((xs.map Stowed.av).length + 1 - (xs.map Stowed.av).length) (.agg (List.replicate 4 .junk)) := ⟨_, rfl⟩
  have hXl : X.length = xs.length + 1 := by rw [hX]; simp
  refine Gr (h10 ?_)
  refine Jr fun h16 => ?_
  refine Yv (.vcap 1142 ver 4 xs.length c) rfl ?_
  refine Yv (G0 (xs.length : Int)) rfl ?_
  refine Yv (G0 ((1 : Nat) : Int)) rfl ?_
  refine G1 (u := G0 ((xs.length + 1 : Nat) : Int)) (Hx (by rw [IntKind.wrap_i64]; omega) rfl rfl rfl) ?_
  refine G1 (u := .vcap 1142 ver 4 (xs.length + 1) c) (He1 rfl Hv rfl rfl rfl rfl (by omega)) ?_
  refine J28 60 X (by rw [hX, List.length_map]) rfl rfl (by simp) (by omega) (by simp; omega) ?_
  refine Yv (.vsl 1142 (ver + 1) 4 0 (xs.length + 1)) rfl ?_
  refine G7 (h16 ?_)
  refine Js fun h17 => ?_
  refine Jr fun h18 => ?_
  refine Yv (LS 4 Stowed.av [y]) rfl ?_
  refine Yv (.vsl 1142 (ver + 1) 4 0 (xs.length + 1)) rfl ?_
  refine Yv (G0 (n : Int)) rfl ?_
  refine Yv (G0 ((1 : Nat) : Int)) rfl ?_
  refine G1 (u := G0 ((n + 1 : Nat) : Int)) (Hx (by rw [IntKind.wrap_i64]; omega) rfl rfl rfl) ?_
  refine G1 (u := .vsl 1142 (ver + 1) 4 (n + 1) (xs.length + 1 - (n + 1))) (G8e (lo := n + 1) (hi := xs.length + 1) rfl Hv rfl rfl (.inr ⟨_, _, rfl, rfl⟩) (.inl ⟨rfl, rfl⟩) (by omega) (by omega) rfl) ?_
  refine G1 (u := BL false) (Jad (S := 4) rfl Tryz.func119 (by kernel_rfl) (by kernel_rfl) (by kernel_rfl) (by kernel_rfl) Hv rfl rfl rfl rfl rfl (by simp) (by omega)) ?_
  refine G1 (u := BL true) (Ru (b := false) rfl rfl) ?_
  refine G7 (h18 ?_)
  refine Gm rfl (fun hb => ?_) (fun hb => by cases hb)
  obtain ⟨Y, hY⟩ : ∃ Y, Y = X.take (n + 1) ++ (((X.drop n).take (xs.length + 1 - n)).take (min ((X.drop n).take (xs.length + 1 - n)).length (xs.length + 1 - (n + 1)))) ++ X.drop (n + 1 + min ((X.drop n).take (xs.length + 1 - n)).length (xs.length + 1 - (n + 1))) := ⟨_, rfl⟩
  have hYl : Y.length = xs.length + 1 := by
    have hdl : ((X.drop n).take (xs.length + 1 - n)).length = xs.length + 1 - n := by rw [List.length_take, List.length_drop, hXl]; omega
    rw [hY, hdl, Nat.min_eq_right (by omega)]
    simp only [List.length_append, List.length_take, List.length_drop, hXl]
    omega
  refine Yk (l' := [(0, .vsl 1142 (ver + 1) 4 0 (xs.length + 1)), (1, G0 (n : Int)), (2, LS 4 Stowed.av [y]), (7, G0 ((1 : Nat) : Int))]) (L' := [(1142, .vec 49 4 (ver + 1) X)]) ⟨⟨.same rfl, .same rfl, .same rfl, .same rfl, trivial⟩, ⟨⟨_, rfl, .vec⟩, trivial⟩, rfl⟩ ?_
  refine Js fun h19 => ?_
  refine Qa [8] [0, 0, 0, 0, 0, 0, 0, 0, 0] [0, 0, 0, 0, 0, 0, 0, 0, 0] [[(1142, .vec 49 4 (ver + 1) X)], [(1142, .vec 49 4 (ver + 1) Y), (1142, .vec 49 4 (ver + 1) X)]] Gbe (by kernel_rfl) rfl rfl ?_
  refine Gv (u := .vsl 1142 (ver + 1) 4 0 (xs.length + 1)) rfl rfl ⟨Gz (G7c _ rfl rfl) rfl, trivial⟩ ?_ rfl
  refine Gv (u := G0 (n : Int)) rfl rfl ⟨Gz (G7c _ rfl rfl) rfl, trivial⟩ ?_ rfl
  refine Gv (u := G0 ((1 : Nat) : Int)) rfl rfl ⟨Gz (G7c _ rfl rfl) rfl, trivial⟩ ?_ rfl
  refine Gv (u := G0 ((n + 1 : Nat) : Int)) rfl rfl ⟨Gz (Hx (by rw [IntKind.wrap_i64]; omega) rfl rfl rfl) rfl, trivial⟩ ?_ rfl
  refine Gv (u := .vsl 1142 (ver + 1) 4 (n + 1) (xs.length + 1 - (n + 1))) rfl rfl ⟨Gz (G8e (lo := n + 1) (hi := xs.length + 1) rfl Hv rfl rfl (.inr ⟨_, _, rfl, rfl⟩) (.inl ⟨rfl, rfl⟩) (by omega) (by omega) rfl) rfl, trivial⟩ ?_ rfl
  refine Gv (u := .vsl 1142 (ver + 1) 4 0 (xs.length + 1)) rfl rfl ⟨Gz (G7c _ rfl rfl) rfl, trivial⟩ ?_ rfl
  refine Gv (u := G0 (n : Int)) rfl rfl ⟨Gz (G7c _ rfl rfl) rfl, trivial⟩ ?_ rfl
  refine Gv (u := .vsl 1142 (ver + 1) 4 n (xs.length + 1 - n)) rfl rfl ⟨Gz (G8e (lo := n) (hi := xs.length + 1) rfl Hv rfl rfl (.inr ⟨_, _, rfl, rfl⟩) (.inl ⟨rfl, rfl⟩) (by omega) (by omega) rfl) rfl, trivial⟩ ?_ rfl
  refine D_w (u := G0 ((min ((X.drop n).take (xs.length + 1 - n)).length (xs.length + 1 - (n + 1)) : Nat) : Int)) rfl rfl rfl rfl (Gz (A_copyR (ys := (X.drop n).take (xs.length + 1 - n)) Y hY.symm rfl Hv ⟨rfl, .inr rfl⟩ (.inr (.inr ⟨_, _, _, _, _, _, rfl, rfl, rfl⟩)) (J21 (f := Stowed.av) (fun _ => rfl) hX hlt rfl rfl)) rfl) ?_ rfl
  refine Z8 (h19 ?_)
  refine Jr fun h20 => ?_
  refine Yv (.vsl 1142 (ver + 1) 4 0 (xs.length + 1)) rfl ?_
  refine Yv (G0 (n : Int)) rfl ?_
  refine G1 (u := .vsl 1142 (ver + 1) 4 n (xs.length + 1 - n)) (G8e (lo := n) (hi := xs.length + 1) rfl Hv rfl rfl (.inr ⟨_, _, rfl, rfl⟩) (.inl ⟨rfl, rfl⟩) (by omega) (by omega) rfl) ?_
  refine Yv (LS 4 Stowed.av [y]) rfl ?_
  refine G1 (Jc8 (xs := Y) (ys := [Stowed.av y]) rfl Hv ⟨rfl, .inr rfl⟩ (.inl ⟨_, rfl, .inl rfl⟩) (fun z hz => by
    have := List.mem_of_mem_take hz
    rw [List.mem_singleton] at this
    subst this; rfl)) ?_
  refine G7 (h20 ?_)
  refine Jr fun h21 => ?_
  refine Yv (.vsl 1142 (ver + 1) 4 0 (xs.length + 1)) rfl ?_
  refine Yv (.vsl 1142 (ver + 1) 4 0 (xs.length + 1)) rfl ?_
  refine G7 (h21 ?_)
  refine Jc4 6 rfl rfl ?_
  refine Ge9 6 (ver + 4) rfl rfl (by omega) ?_
  refine Gx ?_
  refine ⟨[LS 4 Stowed.av (xs.take n ++ y :: xs.drop n)], [(1142, .vec 49 4 (ver + 4) [])], ⟨⟨_, rfl, .vec⟩, trivial⟩, rfl, ⟨⟨_, rfl, .conv (.eq ?_ rfl)⟩, trivial⟩, rfl, rfl⟩
  refine congrArg (AV.list 4) ?_
  have hlm : (xs.map Stowed.av).length = xs.length := List.length_map ..
  have := room_cut (f := id) (xs.map Stowed.av) n (Stowed.av y) (.agg (List.replicate 4 .junk)) (by rw [hlm]; exact hlt) (xs.length + 1 - n) (xs.length + 1 - (n + 1)) (by rw [hlm]) (by rw [hlm]) X Y hX hY
  rw [hlm] at this
  rw [List.map_append, List.map_cons, List.map_take, List.map_drop]
  exact this

def Ra (l : List Stowed) (n : Int) (x : Stowed) : Option (List Stowed) := bif decide (0 ≤ n) && (decide (n ≤ (l.length : Int)) && decide (l.length ≤ 100000)) then some (l.take n.toNat ++ x :: l.drop n.toNat) else none
theorem Hb6 : Gba Tryz.prog 49 4 = true := by kernel_rfl
theorem H15 (l : List Stowed) (n : Int) (x : Stowed) (r : List Stowed) (h : Ra l n x = some r) : Pure Tryz.prog 77 [LS 4 Stowed.av l, G0 n, .agg (Stowed.cs x)] (· = LS 4 Stowed.av r) := by
  unfold Ra at h
  cases hc : (decide (0 ≤ n) && (decide (n ≤ (l.length : Int)) && decide (l.length ≤ 100000))) with
  | false => rw [hc] at h; cases h
  | true =>
    rw [hc] at h
    simp only [Bool.and_eq_true, decide_eq_true_eq] at hc
    obtain ⟨h1, h2, h3⟩ := hc
    obtain ⟨q, rfl⟩ : ∃ q : Nat, n = (q : Int) := ⟨n.toNat, by omega⟩
    have h := Option.some.inj h
    simp only [Int.toNat_natCast] at h
    subst h
    refine H6 [.tmp 6] Tryz.func77 rfl rfl ?_
    refine Jr fun h1 => ?_
    refine G1 (u := .ptr 77000003 0) (Jn (u := .agg (Stowed.cs x)) (cs := Stowed.cs x) 77000003 rfl rfl rfl rfl rfl) ?_
    refine Yv (.sc (.slice none 0 0)) rfl ?_
    refine G7 (h1 ?_)
    refine Gt [(0, LS 4 Stowed.av l), (1, G0 (q : Int)), (5, .dptr (Stowed.cs x))] [] 77000003 rfl rfl rfl trivial rfl (by exact ⟨.conv (.same rfl), .conv (.same rfl), .ptr, trivial⟩) ?_
    refine Js fun h2 => ?_
    refine Qa [1, 5] [0, 0, 0, 0, 0, 0, 2] [0, 0, 1, 1, 1, 0, 2] [[], [(1142, .vec 49 4 0 (l.map Stowed.av))], [(1142, .vec 49 4 4 [])]] Gbe (by kernel_rfl) rfl rfl ?_
    refine Gv (u := LS 4 Stowed.av l) rfl rfl ⟨Gz (G7c _ rfl rfl) rfl, trivial⟩ ?_ rfl
    refine D_w (u := .vec 1142 0 4 l.length) rfl rfl rfl rfl (Gz (H00 (args := [LS 4 Stowed.av l]) (L0 := []) (Lr := [(1142, .vec 49 4 0 (l.map Stowed.av))]) rfl ((G40 l l (Gf8 l h3)).ver 0) (by kernel_rfl) ⟨.inl rfl, rfl, trivial⟩ trivial rfl rfl rfl) rfl) ?_ rfl
    refine Gv (u := G0 (q : Int)) rfl rfl ⟨Gz (G7c _ rfl rfl) rfl, Gz (G7c _ rfl rfl) rfl, trivial⟩ ?_ rfl
    refine Gv (u := .agg (Stowed.cs x)) rfl rfl ⟨Gz (Gh Hb6 rfl rfl rfl) rfl, Gz (Gh Hb6 rfl rfl rfl) rfl, trivial⟩ ?_ rfl
    refine Gv (u := LS 4 Stowed.av [x]) rfl rfl ⟨Gz (H9 (xs := [Stowed.av x]) rfl ⟨rfl, rfl, trivial⟩ Hv (by kernel_rfl) rfl rfl rfl rfl) rfl, Gz (H9 (xs := [Stowed.av x]) rfl ⟨rfl, rfl, trivial⟩ Hv (by kernel_rfl) rfl rfl rfl rfl) rfl, trivial⟩ ?_ rfl
    refine D_w (u := LS 4 Stowed.av (l.take q ++ x :: l.drop q)) rfl rfl rfl rfl (Gz (H00 (args := [.vec 1142 0 4 l.length, G0 (q : Int), LS 4 Stowed.av [x]]) rfl (Ha8 l q x (by omega) h3 0) (by kernel_rfl) ⟨.inl rfl, rfl, .inl rfl, rfl, .inl rfl, rfl, trivial⟩ ⟨rfl, trivial⟩ rfl rfl rfl) rfl) ?_ rfl
    refine Gv (u := LS 4 Stowed.av (l.take q ++ x :: l.drop q)) rfl rfl ⟨Gz (G7c _ rfl rfl) rfl, trivial⟩ ?_ rfl
    refine Z8 (h2 ?_)
    refine Gx ?_
    exact ⟨[LS 4 Stowed.av (l.take q ++ x :: l.drop q)], [], trivial, rfl, ⟨⟨_, rfl, .conv (.same rfl)⟩, trivial⟩, rfl, rfl⟩
def H14 := PLift.up H15
end Go.Proofs.YtpgkkengffpnpaaGreat
