/-
  What stow.without and stow.with return: a list without an element, and with one more; of slices.Clone, slices.Delete and slices.Insert.
-/
import Derived.Test.YtkcdjcgifgdanaaGreatXC
import Derived.Test.YtkcdjcgifgdanaaGreatIns
import Derived.Test.YtkcdjcgifgdanaaGreatWp
set_option linter.unnecessarySimpa false
set_option maxRecDepth 100000
set_option linter.unusedVariables false
set_option linter.unusedSimpArgs false
namespace Go.Proofs.YtkcdjcgifgdanaaGreat
open Go.RowKit
theorem H7d {α β : Type} [DecidableEq β] {xs : List α} {k : Bool → Option β} {r : Option β} (h : ∀ b, (b = true → xs = []) → k b = r) : nilB xs k = r := by
  unfold nilB
  cases xs with
  | nil => rw [h true (fun _ => rfl), h false (fun e => by cases e)]; simp
  | cons x l => exact h false (fun e => by cases e)
/-- The version that a new slice bears is of no account. -/
theorem Qc.ver {P : Program} {f : FuncId} {args : List AV} {i t k n : Nat} {xs : List AV} (h : Qc P f args [] (fun u L' => ∃ p : Nat, u = .vec i p k n ∧ L' = [(i, .vec t k p xs)])) (q : Nat) : Qc P f args [] (fun u L' => u = .vec i q k n ∧ L' = [(i, .vec t k q xs)]) := by
  intro w β vs hsat hl hv
  refine (h w β vs hsat hl hv).mono fun e w' hr => ?_
  obtain ⟨v, r, β', L', rfl, hs, st, hvr, p, rfl, rfl⟩ := hr
  have hlk : ∀ id, (lk [(i, J4.vec t k p xs)] id).isSome = (lk [(i, J4.vec t k q xs)] id).isSome := fun id => by
    rw [Gg, Gg]; split <;> rfl
  have hstab : ∀ b j, Jh w' β' [(i, J4.vec t k p xs)] b j → Jh w' β' [(i, J4.vec t k q xs)] b j := fun b j h => ⟨h.lt, h.seen, fun id o ho hb => by
    rw [Gg] at ho
    by_cases e : i = id
    · subst e
      rw [if_pos rfl] at ho; cases ho
      exact (show False from h.kept i (.vec t k p xs) (by rw [Gg, if_pos rfl]) hb).elim
    · rw [if_neg e] at ho; cases ho⟩
  refine ⟨v, _, β', _, rfl, ⟨hs.hid, fun id b h1 => hs.bnd id b (by rw [hlk]; exact h1), fun id b j h1 => hs.apart id b j (by rw [hlk]; exact h1), fun id id' b h1 h2 => hs.inj id id' b (by rw [hlk]; exact h1) (by rw [hlk]; exact h2), fun id o ho => ?_⟩,
    ⟨st.os, st.tape, st.output, st.size, st.hid, fun b j h => ⟨hstab b j (st.stab b j h).1, (st.stab b j h).2⟩, fun b hb hf => ⟨(st.far b hb hf).1, fun id hid => (st.far b hb hf).2 id (by rw [hlk]; exact hid)⟩, fun id t cs h => by simp [lk] at h, fun id t cs h => by simp [lk] at h, fun id t n cs h => by simp [lk] at h, fun id t k ver xs h => by simp [lk] at h, fun id t k ver xs h => by simp [lk] at h⟩, ?_, rfl, rfl⟩
  · rw [Gg] at ho
    by_cases e : i = id
    · subst e
      rw [if_pos rfl] at ho; cases ho
      have h0 := hs.obj i _ (by rw [Gg, if_pos rfl])
      refine ⟨h0.1, h0.2.imp_right ?_⟩
      rintro ⟨b, hb, vs, a1, a2, a3⟩
      exact ⟨b, hb, vs, a1, a2, fun j u v hu hv => (a3 j u v hu hv).mono fun b i hs => ⟨hstab b i hs, rfl⟩⟩
    · rw [if_neg e] at ho; cases ho
  · cases hvr with
    | data h => cases h
    | vec hp hone =>
      obtain ⟨t', ver', xs', h1, _, h3⟩ := hp
      rw [Gg, if_pos rfl] at h1; cases h1
      exact .vec ⟨t, q, xs, by rw [Gg, if_pos rfl], Nat.le_refl _, fun _ => h3 rfl⟩ hone
theorem del_cut {α : Type} (xs : List α) (n : Nat) (z : α) (h : n < xs.length) :
    ((blank (xs.take n ++ (xs.drop (n + 1)).take (xs.length - (n + 1)) ++ xs.drop (n + ((xs.drop (n + 1)).take (xs.length - (n + 1))).length)) (n + ((xs.drop (n + 1)).take (xs.length - (n + 1))).length) (xs.length - (n + ((xs.drop (n + 1)).take (xs.length - (n + 1))).length)) z).take (n + ((xs.drop (n + 1)).take (xs.length - (n + 1))).length)) = xs.eraseIdx n := by
  have e : (xs.drop (n + 1)).take (xs.length - (n + 1)) = xs.drop (n + 1) := List.take_of_length_le (by simp)
  rw [e]
  unfold blank
  have hl : (xs.take n ++ xs.drop (n + 1)).length = n + (xs.drop (n + 1)).length := by rw [List.length_append, List.length_take]; omega
  rw [List.append_assoc (xs.take n), List.eraseIdx_eq_take_drop_succ]
  have h1 : (xs.take n ++ (xs.drop (n + 1) ++ xs.drop (n + (xs.drop (n + 1)).length))).take (n + (xs.drop (n + 1)).length) = xs.take n ++ xs.drop (n + 1) := by
    rw [← List.append_assoc, List.take_append_of_le_length (by omega), List.take_of_length_le (by omega)]
  rw [h1, List.append_assoc, List.take_append_of_le_length (by omega), List.take_of_length_le (by omega)]
theorem grow_cut {α : Type} (xs : List α) (n : Nat) (y z : α) (h : n < xs.length) (p q r : Nat) (hp : p = xs.length + 1 - n) (hq : q = xs.length + 1 - (n + 1)) (hr : r = xs.length - n) :
    overlay (overlay (xs.take n ++ List.replicate p z) n [y] p) (n + 1) ((xs.drop n).take r) q = xs.take n ++ y :: xs.drop n := by
  subst hp hq hr
  have e : (xs.drop n).take (xs.length - n) = xs.drop n := List.take_of_length_le (by simp)
  rw [e]
  unfold overlay
  have hl : (xs.drop n).length = xs.length - n := by simp
  have ht : (xs.take n).length = n := by rw [List.length_take]; omega
  rw [List.length_singleton, Nat.min_eq_left (show 1 ≤ xs.length + 1 - n by omega), hl, Nat.min_eq_left (show xs.length - n ≤ xs.length + 1 - (n + 1) by omega)]
  have a1 : (xs.take n ++ List.replicate (xs.length + 1 - n) z).take n = xs.take n := by rw [List.take_append_of_le_length (by omega), List.take_of_length_le (by omega)]
  rw [a1]
  have a2 : (xs.take n ++ [y].take 1 ++ (xs.take n ++ List.replicate (xs.length + 1 - n) z).drop (n + 1)).take (n + 1) = xs.take n ++ [y] := by
    rw [List.take_append_of_le_length (by simp; omega), List.take_of_length_le (by simp; omega)]; rfl
  rw [a2]
  have a3 : (xs.take n ++ [y].take 1 ++ (xs.take n ++ List.replicate (xs.length + 1 - n) z).drop (n + 1)).drop (n + 1 + (xs.length - n)) = [] := List.drop_of_length_le (by simp; omega)
  rw [a3, List.append_nil, e, List.append_assoc]; rfl
theorem room_cut {f : AV → AV} (xs : List AV) (n : Nat) (y : AV) (J : AV) (h : n < xs.length) (p q : Nat) (hp : p = xs.length + 1 - n) (hq : q = xs.length + 1 - (n + 1)) (X Y : List AV) (hX : X = xs ++ List.replicate (xs.length + 1 - xs.length) J) (hY : Y = X.take (n + 1) ++ (((X.drop n).take p).take (min ((X.drop n).take p).length q)) ++ X.drop (n + 1 + min ((X.drop n).take p).length q)) :
    (Y.take n ++ [y].take (min [y].length p) ++ Y.drop (n + min [y].length p)).take (xs.length + 1) = xs.take n ++ y :: xs.drop n := by
  have hJ : xs.length + 1 - xs.length = 1 := by omega
  rw [hJ] at hX
  have hXl : X.length = xs.length + 1 := by rw [hX]; simp
  have hdl : ((X.drop n).take p).length = p := by rw [List.length_take, List.length_drop, hXl, hp]; omega
  have hmin : min p q = q := by omega
  rw [hdl, hmin] at hY
  have hXn : X.take n = xs.take n := by rw [hX, List.take_append_of_le_length (by omega)]
  have hXd : ((X.drop n).take p).take q = xs.drop n := by
    rw [List.take_take, Nat.min_eq_left (by omega), hX, List.drop_append_of_le_length (by omega), List.take_append_of_le_length (by simp; omega), List.take_of_length_le (by simp; omega)]
  rw [hXd] at hY
  have hYe : X.drop (n + 1 + q) = [] := List.drop_of_length_le (by omega)
  rw [hYe, List.append_nil] at hY
  have hYt : Y.take n = xs.take n := by
    rw [hY, List.take_append_of_le_length (by rw [List.length_take]; omega), List.take_take, Nat.min_eq_left (by omega), hXn]
  have h1 : min [y].length p = 1 := by rw [List.length_singleton]; omega
  have hYd : Y.drop (n + 1) = xs.drop n := by
    have hl : (X.take (n + 1)).length = n + 1 := by rw [List.length_take]; omega
    rw [hY, List.drop_append, hl, Nat.sub_self, List.drop_zero, List.drop_of_length_le (by omega), List.nil_append]
  rw [h1, hYt, hYd]
  rw [List.take_of_length_le (by simp; omega), List.append_assoc]; rfl
theorem J26 {α : Type} {f : α → AV} (hf : ∀ y, (f y).flatOk = true) {X : List AV} {xs : List α} {J : AV} {n p q : Nat} (hX : X = xs.map f ++ List.replicate ((xs.map f).length + 1 - (xs.map f).length) J) (hn : n < xs.length) (hp : p = xs.length + 1 - n) (hq : q = xs.length + 1 - (n + 1)) : ∀ y ∈ ((X.drop n).take p).take (min ((X.drop n).take p).length q), y.flatOk = true := by
  have hJ : (xs.map f).length + 1 - (xs.map f).length = 1 := by omega
  rw [hJ] at hX
  have hXl : X.length = xs.length + 1 := by rw [hX]; simp
  have hdl : ((X.drop n).take p).length = p := by rw [List.length_take, List.length_drop, hXl, hp]; omega
  have hmin : min p q = q := by omega
  have hXd : ((X.drop n).take p).take q = (xs.map f).drop n := by
    rw [List.take_take, Nat.min_eq_left (by omega), hX, List.drop_append_of_le_length (by simp; omega), List.take_append_of_le_length (by simp; omega), List.take_of_length_le (by simp; omega)]
  rw [hdl, hmin, hXd]
  intro y hy
  obtain ⟨z, _, rfl⟩ := List.mem_map.1 (List.mem_of_mem_drop hy)
  exact hf z

/-! ### int -/
theorem Rv : sliceB Tryz.prog 50 3 1 = true := by kernel_rfl
theorem wE_int : Y3 Tryz.prog 3 1 8 = true := by kernel_rfl
theorem wz_int : (Tryz.prog.info? 3).bind (fun i => i.zero.map Value.cells) = some ([.int .i64 0] : List Value).toArray := by kernel_rfl
theorem wm_int : Tryz.prog.follows .mixedOrders = true := by kernel_rfl
theorem J2a (l : List Int) (h : l.length ≤ 100000) : Jv l = some l := by
  unfold Jv
  refine H7d (fun b hb => ?_)
  cases b with
  | true => rw [hb rfl]; rfl
  | false => exact Yn (Qk (decide_eq_true ⟨by simp; omega, by simp [maxLen]; omega⟩) (Gh rfl))

theorem W_Delete_int (xs : List Int) (n : Nat) (hn : n < xs.length) (hm : xs.length ≤ 100000) (ver : Nat) :
    Qc Tryz.prog 95 [.vec 1129 ver 1 xs.length, G0 (n : Int), G0 ((n + 1 : Nat) : Int)] [(1129, .vec 3 1 ver (xs.map G0))] (fun u L' => u = LS 1 G0 (xs.eraseIdx n) ∧ L' = [(1129, .vec 3 1 (ver + 2) [])]) := by
  obtain ⟨Y, hY⟩ : ∃ Y, Y = (xs.drop (n + 1)).take (xs.length - (n + 1)) := ⟨_, rfl⟩
  have hYl : Y.length = xs.length - (n + 1) := by rw [hY]; simp
  refine Yy [1129] [.tmp 6] Tryz.func95 rfl rfl (H47 rfl) ?_
  refine Jr fun h1 => ?_
  refine Ru (.sc (.slice none 0 0)) rfl ?_
  refine G7 (h1 ?_)
  refine Jr fun h2 => ?_
  refine Ru (.vec 1129 ver 1 xs.length) rfl ?_
  refine Ru (G0 (n : Int)) rfl ?_
  refine Ru (G0 ((n + 1 : Nat) : Int)) rfl ?_
  refine Ru (.vec 1129 ver 1 xs.length) rfl ?_
  refine G1 (u := G0 (xs.length : Int)) (Hbb Rv rfl rfl rfl) ?_
  refine G1 (u := .junk) (Jc2 (lo := n) (hi := n + 1) (mx := xs.length) rfl Rv rfl rfl rfl rfl rfl rfl rfl rfl (by omega) (by omega) (by simp)) ?_
  refine G7 (h2 ?_)
  refine Js fun h3 => ?_
  refine Jr fun h4 => ?_
  refine Ru (G0 (n : Int)) rfl ?_
  refine Ru (G0 ((n + 1 : Nat) : Int)) rfl ?_
  refine G1 (u := BL (decide ((n : Int) = ((n + 1 : Nat) : Int)))) (Qh rfl rfl rfl) ?_
  refine G7 (h4 ?_)
  refine Gk rfl (fun hb => ?_) (fun hb => ?_)
  · exact absurd (of_decide_eq_true hb) (by omega)
  refine Gn (h3 ?_)
  refine Jr fun h5 => ?_
  refine Ru (.vec 1129 ver 1 xs.length) rfl ?_
  refine G1 (u := G0 (xs.length : Int)) (Hbb Rv rfl rfl rfl) ?_
  refine Ru (G0 (xs.length : Int)) rfl ?_
  refine G7 (h5 ?_)
  refine Js fun h6 => ?_
  refine Q7 [6] [0, 0, 0, 0, 0, 0, 0, 1] [0, 0, 0, 0, 0, 0, 0, 1] [[(1129, .vec 3 1 ver (xs.map G0))], [(1129, .vec 3 1 ver ((xs.take n ++ Y ++ xs.drop (n + Y.length)).map G0)), (1129, .vec 3 1 ver (xs.map G0))]] wm_int (by kernel_rfl) rfl rfl ?_
  refine Gm (u := .vec 1129 ver 1 xs.length) rfl rfl ⟨Gs (G40 _ rfl rfl) rfl, trivial⟩ ?_ rfl
  refine Gm (u := G0 (n : Int)) rfl rfl ⟨Gs (G40 _ rfl rfl) rfl, trivial⟩ ?_ rfl
  refine Gm (u := .vsl 1129 ver 1 0 n) rfl rfl ⟨Gs (Jc0 (f := G0) (xs := xs) rfl rfl rfl rfl Rv ⟨rfl, by omega⟩) rfl, trivial⟩ ?_ rfl
  refine Gm (u := .vec 1129 ver 1 xs.length) rfl rfl ⟨Gs (G40 _ rfl rfl) rfl, trivial⟩ ?_ rfl
  refine Gm (u := G0 ((n + 1 : Nat) : Int)) rfl rfl ⟨Gs (G40 _ rfl rfl) rfl, trivial⟩ ?_ rfl
  refine Gm (u := .vsl 1129 ver 1 (n + 1) (xs.length - (n + 1))) rfl rfl ⟨Gs (G4d (f := G0) (xs := xs) rfl rfl rfl rfl Rv ⟨rfl, by omega⟩) rfl, trivial⟩ ?_ rfl
  refine D_w (u := .vsl 1129 ver 1 0 (n + Y.length)) rfl rfl rfl rfl (Gs (J31 (f := G0) (xs := xs) (ys := Y) rfl Rv rfl rfl (hY ▸ J41 rfl rfl) (fun _ => rfl) (by omega) rfl) rfl) ?_ rfl
  refine Gm (u := .vsl 1129 ver 1 0 (n + Y.length)) rfl rfl ⟨Gs (G40 _ rfl rfl) rfl, trivial⟩ ?_ rfl
  refine Yq (h6 ?_)
  have hl2 : (xs.take n ++ Y ++ xs.drop (n + Y.length)).length = xs.length := by rw [List.length_append, List.length_append, List.length_take, List.length_drop, hYl]; omega
  refine Jr fun h7 => ?_
  refine Ru (.vsl 1129 ver 1 0 (n + Y.length)) rfl ?_
  refine Ru (.vsl 1129 ver 1 0 (n + Y.length)) rfl ?_
  refine G1 (u := G0 ((n + Y.length : Nat) : Int)) (Je4 rfl Rv rfl rfl) ?_
  refine Ru (G0 (xs.length : Int)) rfl ?_
  refine G1 (u := .vsl 1129 ver 1 (n + Y.length) (xs.length - (n + Y.length))) (G60 (lo := n + Y.length) (hi := xs.length) rfl Rv rfl rfl (.inr ⟨_, _, rfl, rfl⟩) (.inr ⟨_, _, rfl, rfl⟩) (by omega) (by rw [List.length_map, hl2]; exact Nat.le_refl _) rfl) ?_
  refine Hs (Jac (f := G0) (xs := xs.take n ++ Y ++ xs.drop (n + Y.length)) (0 : Int) [.int .i64 0] rfl Rv (.inr rfl) rfl wz_int rfl rfl rfl ⟨.inl rfl, trivial⟩) ?_
  refine G7 (h7 ?_)
  refine Jr fun h8 => ?_
  refine Ru (.vsl 1129 ver 1 0 (n + Y.length)) rfl ?_
  refine Ru (.vsl 1129 ver 1 0 (n + Y.length)) rfl ?_
  refine G7 (h8 ?_)
  refine J44 6 rfl rfl ?_
  refine Gb5 6 (ver + 2) rfl rfl (by omega) ?_
  refine Gr ?_
  refine ⟨[LS 1 G0 (xs.eraseIdx n)], [(1129, .vec 3 1 (ver + 2) [])], ⟨⟨_, rfl, .vec⟩, trivial⟩, rfl, ⟨⟨_, rfl, .conv (.eq ?_ rfl)⟩, trivial⟩, rfl, rfl⟩
  refine congrArg (AV.list 1) ?_
  rw [← List.map_take]
  refine congrArg (List.map G0) ?_
  have := del_cut xs n (0 : Int) hn
  rw [← hY] at this
  exact this

def Zf (l : List Int) (n : Int) : Option (List Int) := bif decide (0 ≤ n) && (decide (n < (l.length : Int)) && decide (l.length ≤ 100000)) then some (l.eraseIdx n.toNat) else none
theorem H6f (l : List Int) (n : Int) (r : List Int) (h : Zf l n = some r) : Pure Tryz.prog 64 [LS 1 G0 l, G0 n] (· = LS 1 G0 r) := by
  unfold Zf at h
  cases hc : (decide (0 ≤ n) && (decide (n < (l.length : Int)) && decide (l.length ≤ 100000))) with
  | false => rw [hc] at h; cases h
  | true =>
    rw [hc] at h
    simp only [Bool.and_eq_true, decide_eq_true_eq] at hc
    obtain ⟨h1, h2, h3⟩ := hc
    obtain ⟨q, rfl⟩ : ∃ q : Nat, n = (q : Int) := ⟨n.toNat, by omega⟩
    have h := Option.some.inj h
    simp only [Int.toNat_natCast] at h
    subst h
    refine H1 [.tmp 4] Tryz.func64 rfl rfl ?_
    refine Jr fun h1 => ?_
    refine Ru (.sc (.slice none 0 0)) rfl ?_
    refine G7 (h1 ?_)
    refine Jr fun h2 => ?_
    refine Ru (LS 1 G0 l) rfl ?_
    refine G1 (u := .vec 1129 0 1 l.length) (G33 (args := [LS 1 G0 l]) (L0 := []) (Lr := [(1129, .vec 3 1 0 (l.map G0))]) rfl ((Gb0 l l (J2a l h3)).ver 0) (by kernel_rfl) ⟨.inl rfl, rfl, trivial⟩ trivial rfl rfl rfl) ?_
    refine Ru (G0 (q : Int)) rfl ?_
    refine Ru (G0 (q : Int)) rfl ?_
    refine G1 (u := G0 ((q + 1 : Nat) : Int)) (Hu (by rw [IntKind.wrap_i64]; omega) rfl rfl rfl) ?_
    refine G1 (u := LS 1 G0 (l.eraseIdx q)) (G33 rfl (W_Delete_int l q (by omega) h3 0) (by kernel_rfl) ⟨.inl rfl, rfl, .inl rfl, rfl, .inl rfl, rfl, trivial⟩ ⟨rfl, trivial⟩ rfl rfl rfl) ?_
    refine Ru (LS 1 G0 (l.eraseIdx q)) rfl ?_
    refine G7 (h2 ?_)
    refine Gr ?_
    exact ⟨[LS 1 G0 (l.eraseIdx q)], [], trivial, rfl, ⟨⟨_, rfl, .conv (.same rfl)⟩, trivial⟩, rfl, rfl⟩
def H6e := PLift.up H6f

set_option maxHeartbeats 2000000 in
theorem W_Insert_int (xs : List Int) (n : Nat) (y : Int) (hn : n ≤ xs.length) (hm : xs.length ≤ 100000) (ver : Nat) :
    Qc Tryz.prog 89 [.vec 1129 ver 1 xs.length, G0 (n : Int), LS 1 G0 [y]] [(1129, .vec 3 1 ver (xs.map G0))] (fun u L' => u = LS 1 G0 (xs.take n ++ y :: xs.drop n) ∧ L' = [(1129, .vec 3 1 (ver + 4) [])]) := by
  refine Yy [1129] [.tmp 6] Tryz.func89 rfl rfl (H47 rfl) ?_
  refine Jr fun h1 => ?_
  refine Ru (.sc (.slice none 0 0)) rfl ?_
  refine G7 (h1 ?_)
  refine Jr fun h2 => ?_
  refine Ru (.vec 1129 ver 1 xs.length) rfl ?_
  refine Ru (G0 (n : Int)) rfl ?_
  refine G1 (u := .vsl 1129 ver 1 n (xs.length - n)) (G4d (f := G0) (xs := xs) rfl rfl rfl rfl Rv ⟨rfl, hn⟩) ?_
  refine G7 (h2 ?_)
  refine Jr fun h3 => ?_
  refine Ru (LS 1 G0 [y]) rfl ?_
  refine G1 (u := G0 ((1 : Nat) : Int)) (Z4 (f := G0) (xs := [y]) Rv rfl rfl) ?_
  refine Ru (G0 ((1 : Nat) : Int)) rfl ?_
  refine G7 (h3 ?_)
  refine Js fun h4 => ?_
  refine Jr fun h5 => ?_
  refine Ru (G0 ((1 : Nat) : Int)) rfl ?_
  refine G1 (u := BL (decide (((1 : Nat) : Int) = 0))) (Qh rfl rfl rfl) ?_
  refine G7 (h5 ?_)
  refine Gk rfl (fun hb => ?_) (fun hb => ?_)
  · exact absurd (of_decide_eq_true hb) (by omega)
  refine Gn (h4 ?_)
  refine Jr fun h6 => ?_
  refine Ru (.vec 1129 ver 1 xs.length) rfl ?_
  refine G1 (u := G0 (xs.length : Int)) (Hbb Rv rfl rfl rfl) ?_
  refine Ru (G0 (xs.length : Int)) rfl ?_
  refine G7 (h6 ?_)
  refine Js fun h7 => ?_
  refine Jr fun h8 => ?_
  refine Ru (G0 (n : Int)) rfl ?_
  refine Ru (G0 (xs.length : Int)) rfl ?_
  refine G1 (u := BL (decide ((n : Int) = (xs.length : Int)))) (Qh rfl rfl rfl) ?_
  refine G7 (h8 ?_)
  refine Gk rfl (fun hb => ?_) (fun hb => ?_)
  · -- at the end
    have hb := of_decide_eq_true hb
    have hnx : n = xs.length := by omega
    refine Jr fun h9 => ?_
    refine Ru (.vec 1129 ver 1 xs.length) rfl ?_
    refine Ru (LS 1 G0 [y]) rfl ?_
    refine G1 (u := .vec 1129 (ver + 3) 1 (xs ++ [y]).length) (Ge9 (f := G0) (xs := xs) (ys := [y]) (ver1 := ver + 3) rfl rfl rfl rfl Rv wE_int (decide_eq_true ⟨by rw [List.length_singleton]; omega, by rw [List.length_singleton]; simp [maxLen]; omega⟩) (fun _ => rfl) (.inl rfl) (by omega)) ?_
    refine Ru (.vec 1129 (ver + 3) 1 (xs ++ [y]).length) rfl ?_
    refine G7 (h9 ?_)
    refine Gb5 6 (ver + 4) rfl rfl (by omega) ?_
    refine Gr ?_
    refine ⟨[LS 1 G0 (xs.take n ++ y :: xs.drop n)], [(1129, .vec 3 1 (ver + 4) [])], ⟨⟨_, rfl, .vec⟩, trivial⟩, rfl, ⟨⟨_, rfl, .conv (.eq ?_ rfl)⟩, trivial⟩, rfl, rfl⟩
    refine congrArg (AV.list 1) (congrArg (List.map G0) ?_)
    rw [hnx, List.take_length, List.drop_length]
  have hb := of_decide_eq_false hb
  have hlt : n < xs.length := by omega
  refine Gn (h7 ?_)
  refine JC_vcap 0 rfl rfl (fun c hc1 hc2 => ?_)
  rw [List.length_map] at hc1
  refine Yj (l' := [(0, .vcap 1129 ver 1 xs.length c), (1, G0 (n : Int)), (2, LS 1 G0 [y]), (7, G0 ((1 : Nat) : Int)), (8, G0 (xs.length : Int))]) (L' := [(1129, .vec 3 1 ver (xs.map G0))]) ⟨⟨.eq (by rw [show (xs.map G0).length = xs.length from List.length_map ..]; rfl) rfl, .same rfl, .same rfl, .same rfl, .same rfl, trivial⟩, ⟨⟨_, rfl, .vec⟩, trivial⟩, rfl⟩ ?_
  refine Js fun h10 => ?_
  refine Jr fun h11 => ?_
  refine Ru (G0 (xs.length : Int)) rfl ?_
  refine Ru (G0 ((1 : Nat) : Int)) rfl ?_
  refine G1 (u := G0 ((xs.length + 1 : Nat) : Int)) (Hu (by rw [IntKind.wrap_i64]; omega) rfl rfl rfl) ?_
  refine Ru (.vcap 1129 ver 1 xs.length c) rfl ?_
  refine G1 (u := G0 (c : Int)) (Jc1 rfl Rv rfl rfl) ?_
  refine G1 (u := BL (decide ((c : Int) < ((xs.length + 1 : Nat) : Int)))) (G76 rfl rfl rfl) ?_
  refine G7 (h11 ?_)
  refine Gk rfl (fun hb => ?_) (fun hb => ?_)
  · -- a new row
    have hb := of_decide_eq_true hb
    obtain ⟨p, hp⟩ : ∃ p, p = xs.length + 1 - n := ⟨_, rfl⟩
    obtain ⟨X1, hX1⟩ : ∃ X1, xs.take n ++ List.replicate p (0 : Int) = X1 := ⟨_, rfl⟩
    have hl1 : X1.length = xs.length + 1 := by rw [← hX1, List.length_append, List.length_take, List.length_replicate]; omega
    obtain ⟨X2, hX2⟩ : ∃ X2, overlay X1 n [y] (X1.length - n) = X2 := ⟨_, rfl⟩
    have hl2 : X2.length = xs.length + 1 := by
      rw [← hX2]; unfold overlay
      rw [List.length_singleton, Nat.min_eq_left (by omega)]; simp; omega
    obtain ⟨Y, hY⟩ : ∃ Y, Y = (xs.drop n).take (xs.length - n) := ⟨_, rfl⟩
    obtain ⟨X3, hX3⟩ : ∃ X3, overlay X2 (n + 1) Y (X2.length - (n + 1)) = X3 := ⟨_, rfl⟩
    refine Jr fun h12 => ?_
    refine Ru (.vcap 1129 ver 1 xs.length c) rfl ?_
    refine Ru (G0 (n : Int)) rfl ?_
    refine G1 (u := .vcap 1129 ver 1 n c) (Heb rfl Rv rfl rfl rfl rfl (by omega)) ?_
    refine Ru (G0 (xs.length : Int)) rfl ?_
    refine Ru (G0 ((1 : Nat) : Int)) rfl ?_
    refine G1 (u := G0 ((xs.length + 1 : Nat) : Int)) (Hu (by rw [IntKind.wrap_i64]; omega) rfl rfl rfl) ?_
    refine Ru (G0 (n : Int)) rfl ?_
    refine G1 (u := G0 (p : Int)) (Gea (by rw [IntKind.wrap_i64]; omega) rfl rfl rfl) ?_
    refine G1 (u := .vec 77000002 0 1 X1.length) (Jad (f := G0) (xs := xs) 77000002 (0 : Int) [.int .i64 0] X1 hX1 rfl rfl rfl rfl rfl Rv (kn := .i64) (by kernel_rfl) wE_int wz_int rfl rfl ⟨.inl rfl, trivial⟩ (by omega) (by simp [maxLen]; omega) hn (by omega) (by omega) (by omega) rfl) ?_
    refine Ru (.vec 77000002 0 1 X1.length) rfl ?_
    refine G7 (h12 ?_)
    refine Jr fun h13 => ?_
    refine Ru (.vec 77000002 0 1 X1.length) rfl ?_
    refine Ru (G0 (n : Int)) rfl ?_
    refine G1 (u := .vsl 77000002 0 1 n (X1.length - n)) (G4d (f := G0) (xs := X1) rfl rfl rfl rfl Rv ⟨rfl, by omega⟩) ?_
    refine Ru (LS 1 G0 [y]) rfl ?_
    refine G1 (J46 (f := G0) (xs := X1) (ys := [y]) X2 hX2 rfl Rv (.inr rfl) rfl (Src_list rfl (.inl rfl)) (fun _ => rfl)) ?_
    refine G7 (h13 ?_)
    refine Yj (l' := [(0, .vcap 1129 ver 1 xs.length c), (1, G0 (n : Int)), (2, LS 1 G0 [y]), (7, G0 ((1 : Nat) : Int)), (9, .vec 77000002 0 1 X2.length)]) (L' := [(77000002, .vec 3 1 0 (X2.map G0)), (1129, .vec 3 1 ver (xs.map G0))]) ⟨⟨.same rfl, .same rfl, .same rfl, .same rfl, .eq (by rw [hl2, ← hl1]; rfl) rfl, trivial⟩, ⟨⟨_, rfl, .vec⟩, ⟨_, rfl, .vec⟩, trivial⟩, rfl⟩ ?_
    refine Js fun h14 => ?_
    refine Q7 [8] [0, 0, 0, 0, 0, 0, 0, 0, 0] [0, 0, 0, 0, 0, 0, 0, 0, 0] [[(77000002, .vec 3 1 0 (X2.map G0)), (1129, .vec 3 1 ver (xs.map G0))], [(77000002, .vec 3 1 0 (X3.map G0)), (77000002, .vec 3 1 0 (X2.map G0)), (1129, .vec 3 1 ver (xs.map G0))]] wm_int (by kernel_rfl) rfl rfl ?_
    refine Gm (u := .vec 77000002 0 1 X2.length) rfl rfl ⟨Gs (G40 _ rfl rfl) rfl, trivial⟩ ?_ rfl
    refine Gm (u := G0 (n : Int)) rfl rfl ⟨Gs (G40 _ rfl rfl) rfl, trivial⟩ ?_ rfl
    refine Gm (u := G0 ((1 : Nat) : Int)) rfl rfl ⟨Gs (G40 _ rfl rfl) rfl, trivial⟩ ?_ rfl
    refine Gm (u := G0 ((n + 1 : Nat) : Int)) rfl rfl ⟨Gs (Hu (by rw [IntKind.wrap_i64]; omega) rfl rfl rfl) rfl, trivial⟩ ?_ rfl
    refine Gm (u := .vsl 77000002 0 1 (n + 1) (X2.length - (n + 1))) rfl rfl ⟨Gs (G4d (f := G0) (xs := X2) rfl rfl rfl rfl Rv ⟨rfl, by omega⟩) rfl, trivial⟩ ?_ rfl
    refine Gm (u := .vcap 1129 ver 1 xs.length c) rfl rfl ⟨Gs (G40 _ rfl rfl) rfl, trivial⟩ ?_ rfl
    refine Gm (u := G0 (n : Int)) rfl rfl ⟨Gs (G40 _ rfl rfl) rfl, trivial⟩ ?_ rfl
    refine Gm (u := .vsl 1129 ver 1 n (xs.length - n)) rfl rfl ⟨Gs (Je5 rfl Rv rfl rfl rfl rfl hn (by simp) (by simp; omega)) rfl, trivial⟩ ?_ rfl
    refine D_w (u := G0 ((min Y.length (X2.length - (n + 1)) : Nat) : Int)) rfl rfl rfl rfl (Gs (J46 (f := G0) (xs := X2) (ys := Y) X3 hX3 rfl Rv (.inr rfl) rfl (hY ▸ J41 rfl rfl) (fun _ => rfl)) rfl) ?_ rfl
    refine Yq (h14 ?_)
    refine Jr fun h15 => ?_
    refine Ru (.vec 77000002 0 1 X2.length) rfl ?_
    refine Ru (.vec 77000002 0 1 X2.length) rfl ?_
    refine G7 (h15 ?_)
    refine Gb5 6 1 rfl rfl (by omega) ?_
    refine Je2 (i := 1129) (ver + 4) rfl (by omega) ?_
    refine Gr ?_
    refine ⟨[LS 1 G0 (xs.take n ++ y :: xs.drop n)], [(1129, .vec 3 1 (ver + 4) [])], ⟨⟨_, rfl, .vec⟩, trivial⟩, rfl, ⟨⟨_, rfl, .conv (.eq ?_ rfl)⟩, trivial⟩, rfl, rfl⟩
    refine congrArg (AV.list 1) (congrArg (List.map G0) ?_)
    rw [show X2.length - (n + 1) = xs.length + 1 - (n + 1) by omega] at hX3
    rw [show X1.length - n = p by omega] at hX2
    rw [← hX3, ← hX2, ← hX1, hY]
    exact grow_cut xs n y (0 : Int) hlt _ _ _ hp rfl rfl
  have hb := of_decide_eq_false hb
  obtain ⟨X, hX⟩ : ∃ X, X = xs.map G0 ++ List.replicate ((xs.map G0).length + 1 - (xs.map G0).length) (.agg (List.replicate 1 .junk)) := ⟨_, rfl⟩
  have hXl : X.length = xs.length + 1 := by rw [hX]; simp
  refine Gn (h10 ?_)
  refine Jr fun h16 => ?_
  refine Ru (.vcap 1129 ver 1 xs.length c) rfl ?_
  refine Ru (G0 (xs.length : Int)) rfl ?_
  refine Ru (G0 ((1 : Nat) : Int)) rfl ?_
  refine G1 (u := G0 ((xs.length + 1 : Nat) : Int)) (Hu (by rw [IntKind.wrap_i64]; omega) rfl rfl rfl) ?_
  refine G1 (u := .vcap 1129 ver 1 (xs.length + 1) c) (Heb rfl Rv rfl rfl rfl rfl (by omega)) ?_
  refine J2b 60 X (by rw [hX, List.length_map]) rfl rfl (by simp) (by omega) (by simp; omega) ?_
  refine Ru (.vsl 1129 (ver + 1) 1 0 (xs.length + 1)) rfl ?_
  refine G7 (h16 ?_)
  refine Js fun h17 => ?_
  refine Jr fun h18 => ?_
  refine Ru (LS 1 G0 [y]) rfl ?_
  refine Ru (.vsl 1129 (ver + 1) 1 0 (xs.length + 1)) rfl ?_
  refine Ru (G0 (n : Int)) rfl ?_
  refine Ru (G0 ((1 : Nat) : Int)) rfl ?_
  refine G1 (u := G0 ((n + 1 : Nat) : Int)) (Hu (by rw [IntKind.wrap_i64]; omega) rfl rfl rfl) ?_
  refine G1 (u := .vsl 1129 (ver + 1) 1 (n + 1) (xs.length + 1 - (n + 1))) (G60 (lo := n + 1) (hi := xs.length + 1) rfl Rv rfl rfl (.inr ⟨_, _, rfl, rfl⟩) (.inl ⟨rfl, rfl⟩) (by omega) (by omega) rfl) ?_
  refine G1 (u := BL false) (Ja7 (S := 4) rfl Tryz.func118 (by kernel_rfl) (by kernel_rfl) (by kernel_rfl) (by kernel_rfl) Rv rfl rfl rfl rfl rfl (by simp) (by omega)) ?_
  refine G1 (u := BL true) (Rj (b := false) rfl rfl) ?_
  refine G7 (h18 ?_)
  refine Gk rfl (fun hb => ?_) (fun hb => by cases hb)
  obtain ⟨Y, hY⟩ : ∃ Y, Y = X.take (n + 1) ++ (((X.drop n).take (xs.length + 1 - n)).take (min ((X.drop n).take (xs.length + 1 - n)).length (xs.length + 1 - (n + 1)))) ++ X.drop (n + 1 + min ((X.drop n).take (xs.length + 1 - n)).length (xs.length + 1 - (n + 1))) := ⟨_, rfl⟩
  have hYl : Y.length = xs.length + 1 := by
    have hdl : ((X.drop n).take (xs.length + 1 - n)).length = xs.length + 1 - n := by rw [List.length_take, List.length_drop, hXl]; omega
    rw [hY, hdl, Nat.min_eq_right (by omega)]
    simp only [List.length_append, List.length_take, List.length_drop, hXl]
    omega
  refine Yj (l' := [(0, .vsl 1129 (ver + 1) 1 0 (xs.length + 1)), (1, G0 (n : Int)), (2, LS 1 G0 [y]), (7, G0 ((1 : Nat) : Int))]) (L' := [(1129, .vec 3 1 (ver + 1) X)]) ⟨⟨.same rfl, .same rfl, .same rfl, .same rfl, trivial⟩, ⟨⟨_, rfl, .vec⟩, trivial⟩, rfl⟩ ?_
  refine Js fun h19 => ?_
  refine Q7 [8] [0, 0, 0, 0, 0, 0, 0, 0, 0] [0, 0, 0, 0, 0, 0, 0, 0, 0] [[(1129, .vec 3 1 (ver + 1) X)], [(1129, .vec 3 1 (ver + 1) Y), (1129, .vec 3 1 (ver + 1) X)]] wm_int (by kernel_rfl) rfl rfl ?_
  refine Gm (u := .vsl 1129 (ver + 1) 1 0 (xs.length + 1)) rfl rfl ⟨Gs (G40 _ rfl rfl) rfl, trivial⟩ ?_ rfl
  refine Gm (u := G0 (n : Int)) rfl rfl ⟨Gs (G40 _ rfl rfl) rfl, trivial⟩ ?_ rfl
  refine Gm (u := G0 ((1 : Nat) : Int)) rfl rfl ⟨Gs (G40 _ rfl rfl) rfl, trivial⟩ ?_ rfl
  refine Gm (u := G0 ((n + 1 : Nat) : Int)) rfl rfl ⟨Gs (Hu (by rw [IntKind.wrap_i64]; omega) rfl rfl rfl) rfl, trivial⟩ ?_ rfl
  refine Gm (u := .vsl 1129 (ver + 1) 1 (n + 1) (xs.length + 1 - (n + 1))) rfl rfl ⟨Gs (G60 (lo := n + 1) (hi := xs.length + 1) rfl Rv rfl rfl (.inr ⟨_, _, rfl, rfl⟩) (.inl ⟨rfl, rfl⟩) (by omega) (by omega) rfl) rfl, trivial⟩ ?_ rfl
  refine Gm (u := .vsl 1129 (ver + 1) 1 0 (xs.length + 1)) rfl rfl ⟨Gs (G40 _ rfl rfl) rfl, trivial⟩ ?_ rfl
  refine Gm (u := G0 (n : Int)) rfl rfl ⟨Gs (G40 _ rfl rfl) rfl, trivial⟩ ?_ rfl
  refine Gm (u := .vsl 1129 (ver + 1) 1 n (xs.length + 1 - n)) rfl rfl ⟨Gs (G60 (lo := n) (hi := xs.length + 1) rfl Rv rfl rfl (.inr ⟨_, _, rfl, rfl⟩) (.inl ⟨rfl, rfl⟩) (by omega) (by omega) rfl) rfl, trivial⟩ ?_ rfl
  refine D_w (u := G0 ((min ((X.drop n).take (xs.length + 1 - n)).length (xs.length + 1 - (n + 1)) : Nat) : Int)) rfl rfl rfl rfl (Gs (A_copyR (ys := (X.drop n).take (xs.length + 1 - n)) Y hY.symm rfl Rv ⟨rfl, .inr rfl⟩ (.inr (.inr ⟨_, _, _, _, _, _, rfl, rfl, rfl⟩)) (J26 (f := G0) (fun _ => rfl) hX hlt rfl rfl)) rfl) ?_ rfl
  refine Yq (h19 ?_)
  refine Jr fun h20 => ?_
  refine Ru (.vsl 1129 (ver + 1) 1 0 (xs.length + 1)) rfl ?_
  refine Ru (G0 (n : Int)) rfl ?_
  refine G1 (u := .vsl 1129 (ver + 1) 1 n (xs.length + 1 - n)) (G60 (lo := n) (hi := xs.length + 1) rfl Rv rfl rfl (.inr ⟨_, _, rfl, rfl⟩) (.inl ⟨rfl, rfl⟩) (by omega) (by omega) rfl) ?_
  refine Ru (LS 1 G0 [y]) rfl ?_
  refine G1 (Jcd (xs := Y) (ys := [G0 y]) rfl Rv ⟨rfl, .inr rfl⟩ (.inl ⟨_, rfl, .inl rfl⟩) (fun z hz => by
    have := List.mem_of_mem_take hz
    rw [List.mem_singleton] at this
    subst this; rfl)) ?_
  refine G7 (h20 ?_)
  refine Jr fun h21 => ?_
  refine Ru (.vsl 1129 (ver + 1) 1 0 (xs.length + 1)) rfl ?_
  refine Ru (.vsl 1129 (ver + 1) 1 0 (xs.length + 1)) rfl ?_
  refine G7 (h21 ?_)
  refine J44 6 rfl rfl ?_
  refine Gb5 6 (ver + 4) rfl rfl (by omega) ?_
  refine Gr ?_
  refine ⟨[LS 1 G0 (xs.take n ++ y :: xs.drop n)], [(1129, .vec 3 1 (ver + 4) [])], ⟨⟨_, rfl, .vec⟩, trivial⟩, rfl, ⟨⟨_, rfl, .conv (.eq ?_ rfl)⟩, trivial⟩, rfl, rfl⟩
  refine congrArg (AV.list 1) ?_
  have hlm : (xs.map G0).length = xs.length := List.length_map ..
  have := room_cut (f := id) (xs.map G0) n (G0 y) (.agg (List.replicate 1 .junk)) (by rw [hlm]; exact hlt) (xs.length + 1 - n) (xs.length + 1 - (n + 1)) (by rw [hlm]) (by rw [hlm]) X Y hX hY
  rw [hlm] at this
  rw [List.map_append, List.map_cons, List.map_take, List.map_drop]
  exact this

def G24 (l : List Int) (n : Int) (x : Int) : Option (List Int) := bif decide (0 ≤ n) && (decide (n ≤ (l.length : Int)) && decide (l.length ≤ 100000)) then some (l.take n.toNat ++ x :: l.drop n.toNat) else none
theorem He4 (l : List Int) (n : Int) (x : Int) (r : List Int) (h : G24 l n x = some r) : Pure Tryz.prog 60 [LS 1 G0 l, G0 n, G0 x] (· = LS 1 G0 r) := by
  unfold G24 at h
  cases hc : (decide (0 ≤ n) && (decide (n ≤ (l.length : Int)) && decide (l.length ≤ 100000))) with
  | false => rw [hc] at h; cases h
  | true =>
    rw [hc] at h
    simp only [Bool.and_eq_true, decide_eq_true_eq] at hc
    obtain ⟨h1, h2, h3⟩ := hc
    obtain ⟨q, rfl⟩ : ∃ q : Nat, n = (q : Int) := ⟨n.toNat, by omega⟩
    have h := Option.some.inj h
    simp only [Int.toNat_natCast] at h
    subst h
    refine H1 [.tmp 6] Tryz.func60 rfl rfl ?_
    refine Jr fun h1 => ?_
    refine Ru (.sc (.slice none 0 0)) rfl ?_
    refine G7 (h1 ?_)
    refine Jr fun h2 => ?_
    refine Ru (LS 1 G0 l) rfl ?_
    refine G1 (u := .vec 1129 0 1 l.length) (G33 (args := [LS 1 G0 l]) (L0 := []) (Lr := [(1129, .vec 3 1 0 (l.map G0))]) rfl ((Gb0 l l (J2a l h3)).ver 0) (by kernel_rfl) ⟨.inl rfl, rfl, trivial⟩ trivial rfl rfl rfl) ?_
    refine Ru (G0 (q : Int)) rfl ?_
    refine Ru (G0 x) rfl ?_
    refine G1 (u := LS 1 G0 [x]) (H9 (xs := [G0 x]) rfl ⟨rfl, rfl, trivial⟩ Rv (by kernel_rfl) rfl rfl rfl rfl) ?_
    refine G1 (u := LS 1 G0 (l.take q ++ x :: l.drop q)) (G33 rfl (W_Insert_int l q x (by omega) h3 0) (by kernel_rfl) ⟨.inl rfl, rfl, .inl rfl, rfl, .inl rfl, rfl, trivial⟩ ⟨rfl, trivial⟩ rfl rfl rfl) ?_
    refine Ru (LS 1 G0 (l.take q ++ x :: l.drop q)) rfl ?_
    refine G7 (h2 ?_)
    refine Gr ?_
    exact ⟨[LS 1 G0 (l.take q ++ x :: l.drop q)], [], trivial, rfl, ⟨⟨_, rfl, .conv (.same rfl)⟩, trivial⟩, rfl, rfl⟩
def He3 := PLift.up He4

/-! ### twistlock/api.Stowed -/
theorem Hw : sliceB Tryz.prog 47 80 4 = true := by kernel_rfl
theorem Hc3 : Y3 Tryz.prog 80 4 32 = true := by kernel_rfl
theorem Hc2 : (Tryz.prog.info? 80).bind (fun i => i.zero.map Value.cells) = some ([.int .i64 0, .int .i64 0, .int .i64 0, .int .u8 0] : List Value).toArray := by kernel_rfl
theorem Gbf : Tryz.prog.follows .mixedOrders = true := by kernel_rfl
theorem Gfe (l : List Stowed) (h : l.length ≤ 100000) : Qm l = some l := by
  unfold Qm
  refine H7d (fun b hb => ?_)
  cases b with
  | true => rw [hb rfl]; rfl
  | false => exact Yn (Qk (decide_eq_true ⟨by simp; omega, by simp [maxLen]; omega⟩) (Gh rfl))

theorem Hb7 (xs : List Stowed) (n : Nat) (hn : n < xs.length) (hm : xs.length ≤ 100000) (ver : Nat) :
    Qc Tryz.prog 92 [.vec 1153 ver 4 xs.length, G0 (n : Int), G0 ((n + 1 : Nat) : Int)] [(1153, .vec 80 4 ver (xs.map Stowed.av))] (fun u L' => u = LS 4 Stowed.av (xs.eraseIdx n) ∧ L' = [(1153, .vec 80 4 (ver + 2) [])]) := by
  obtain ⟨Y, hY⟩ : ∃ Y, Y = (xs.drop (n + 1)).take (xs.length - (n + 1)) := ⟨_, rfl⟩
  have hYl : Y.length = xs.length - (n + 1) := by rw [hY]; simp
  refine Yy [1153] [.tmp 6] Tryz.func92 rfl rfl (H47 rfl) ?_
  refine Jr fun h1 => ?_
  refine Ru (.sc (.slice none 0 0)) rfl ?_
  refine G7 (h1 ?_)
  refine Jr fun h2 => ?_
  refine Ru (.vec 1153 ver 4 xs.length) rfl ?_
  refine Ru (G0 (n : Int)) rfl ?_
  refine Ru (G0 ((n + 1 : Nat) : Int)) rfl ?_
  refine Ru (.vec 1153 ver 4 xs.length) rfl ?_
  refine G1 (u := G0 (xs.length : Int)) (Hbb Hw rfl rfl rfl) ?_
  refine G1 (u := .junk) (Jc2 (lo := n) (hi := n + 1) (mx := xs.length) rfl Hw rfl rfl rfl rfl rfl rfl rfl rfl (by omega) (by omega) (by simp)) ?_
  refine G7 (h2 ?_)
  refine Js fun h3 => ?_
  refine Jr fun h4 => ?_
  refine Ru (G0 (n : Int)) rfl ?_
  refine Ru (G0 ((n + 1 : Nat) : Int)) rfl ?_
  refine G1 (u := BL (decide ((n : Int) = ((n + 1 : Nat) : Int)))) (Qh rfl rfl rfl) ?_
  refine G7 (h4 ?_)
  refine Gk rfl (fun hb => ?_) (fun hb => ?_)
  · exact absurd (of_decide_eq_true hb) (by omega)
  refine Gn (h3 ?_)
  refine Jr fun h5 => ?_
  refine Ru (.vec 1153 ver 4 xs.length) rfl ?_
  refine G1 (u := G0 (xs.length : Int)) (Hbb Hw rfl rfl rfl) ?_
  refine Ru (G0 (xs.length : Int)) rfl ?_
  refine G7 (h5 ?_)
  refine Js fun h6 => ?_
  refine Q7 [6] [0, 0, 0, 0, 0, 0, 0, 1] [0, 0, 0, 0, 0, 0, 0, 1] [[(1153, .vec 80 4 ver (xs.map Stowed.av))], [(1153, .vec 80 4 ver ((xs.take n ++ Y ++ xs.drop (n + Y.length)).map Stowed.av)), (1153, .vec 80 4 ver (xs.map Stowed.av))]] Gbf (by kernel_rfl) rfl rfl ?_
  refine Gm (u := .vec 1153 ver 4 xs.length) rfl rfl ⟨Gs (G40 _ rfl rfl) rfl, trivial⟩ ?_ rfl
  refine Gm (u := G0 (n : Int)) rfl rfl ⟨Gs (G40 _ rfl rfl) rfl, trivial⟩ ?_ rfl
  refine Gm (u := .vsl 1153 ver 4 0 n) rfl rfl ⟨Gs (Jc0 (f := Stowed.av) (xs := xs) rfl rfl rfl rfl Hw ⟨rfl, by omega⟩) rfl, trivial⟩ ?_ rfl
  refine Gm (u := .vec 1153 ver 4 xs.length) rfl rfl ⟨Gs (G40 _ rfl rfl) rfl, trivial⟩ ?_ rfl
  refine Gm (u := G0 ((n + 1 : Nat) : Int)) rfl rfl ⟨Gs (G40 _ rfl rfl) rfl, trivial⟩ ?_ rfl
  refine Gm (u := .vsl 1153 ver 4 (n + 1) (xs.length - (n + 1))) rfl rfl ⟨Gs (G4d (f := Stowed.av) (xs := xs) rfl rfl rfl rfl Hw ⟨rfl, by omega⟩) rfl, trivial⟩ ?_ rfl
  refine D_w (u := .vsl 1153 ver 4 0 (n + Y.length)) rfl rfl rfl rfl (Gs (J31 (f := Stowed.av) (xs := xs) (ys := Y) rfl Hw rfl rfl (hY ▸ J41 rfl rfl) (fun _ => rfl) (by omega) rfl) rfl) ?_ rfl
  refine Gm (u := .vsl 1153 ver 4 0 (n + Y.length)) rfl rfl ⟨Gs (G40 _ rfl rfl) rfl, trivial⟩ ?_ rfl
  refine Yq (h6 ?_)
  have hl2 : (xs.take n ++ Y ++ xs.drop (n + Y.length)).length = xs.length := by rw [List.length_append, List.length_append, List.length_take, List.length_drop, hYl]; omega
  refine Jr fun h7 => ?_
  refine Ru (.vsl 1153 ver 4 0 (n + Y.length)) rfl ?_
  refine Ru (.vsl 1153 ver 4 0 (n + Y.length)) rfl ?_
  refine G1 (u := G0 ((n + Y.length : Nat) : Int)) (Je4 rfl Hw rfl rfl) ?_
  refine Ru (G0 (xs.length : Int)) rfl ?_
  refine G1 (u := .vsl 1153 ver 4 (n + Y.length) (xs.length - (n + Y.length))) (G60 (lo := n + Y.length) (hi := xs.length) rfl Hw rfl rfl (.inr ⟨_, _, rfl, rfl⟩) (.inr ⟨_, _, rfl, rfl⟩) (by omega) (by rw [List.length_map, hl2]; exact Nat.le_refl _) rfl) ?_
  refine Hs (Jac (f := Stowed.av) (xs := xs.take n ++ Y ++ xs.drop (n + Y.length)) (Stowed.mk 0 (Slot.mk 0 0 0)) [.int .i64 0, .int .i64 0, .int .i64 0, .int .u8 0] rfl Hw (.inr rfl) rfl Hc2 rfl rfl rfl ⟨.inl rfl, .inl rfl, .inl rfl, .inl rfl, trivial⟩) ?_
  refine G7 (h7 ?_)
  refine Jr fun h8 => ?_
  refine Ru (.vsl 1153 ver 4 0 (n + Y.length)) rfl ?_
  refine Ru (.vsl 1153 ver 4 0 (n + Y.length)) rfl ?_
  refine G7 (h8 ?_)
  refine J44 6 rfl rfl ?_
  refine Gb5 6 (ver + 2) rfl rfl (by omega) ?_
  refine Gr ?_
  refine ⟨[LS 4 Stowed.av (xs.eraseIdx n)], [(1153, .vec 80 4 (ver + 2) [])], ⟨⟨_, rfl, .vec⟩, trivial⟩, rfl, ⟨⟨_, rfl, .conv (.eq ?_ rfl)⟩, trivial⟩, rfl, rfl⟩
  refine congrArg (AV.list 4) ?_
  rw [← List.map_take]
  refine congrArg (List.map Stowed.av) ?_
  have := del_cut xs n (Stowed.mk 0 (Slot.mk 0 0 0)) hn
  rw [← hY] at this
  exact this

def Rh (l : List Stowed) (n : Int) : Option (List Stowed) := bif decide (0 ≤ n) && (decide (n < (l.length : Int)) && decide (l.length ≤ 100000)) then some (l.eraseIdx n.toNat) else none
theorem Ge2 (l : List Stowed) (n : Int) (r : List Stowed) (h : Rh l n = some r) : Pure Tryz.prog 62 [LS 4 Stowed.av l, G0 n] (· = LS 4 Stowed.av r) := by
  unfold Rh at h
  cases hc : (decide (0 ≤ n) && (decide (n < (l.length : Int)) && decide (l.length ≤ 100000))) with
  | false => rw [hc] at h; cases h
  | true =>
    rw [hc] at h
    simp only [Bool.and_eq_true, decide_eq_true_eq] at hc
    obtain ⟨h1, h2, h3⟩ := hc
    obtain ⟨q, rfl⟩ : ∃ q : Nat, n = (q : Int) := ⟨n.toNat, by omega⟩
    have h := Option.some.inj h
    simp only [Int.toNat_natCast] at h
    subst h
    refine H1 [.tmp 4] Tryz.func62 rfl rfl ?_
    refine Jr fun h1 => ?_
    refine Ru (.sc (.slice none 0 0)) rfl ?_
    refine G7 (h1 ?_)
    refine Jr fun h2 => ?_
    refine Ru (LS 4 Stowed.av l) rfl ?_
    refine G1 (u := .vec 1153 0 4 l.length) (G33 (args := [LS 4 Stowed.av l]) (L0 := []) (Lr := [(1153, .vec 80 4 0 (l.map Stowed.av))]) rfl ((G3d l l (Gfe l h3)).ver 0) (by kernel_rfl) ⟨.inl rfl, rfl, trivial⟩ trivial rfl rfl rfl) ?_
    refine Ru (G0 (q : Int)) rfl ?_
    refine Ru (G0 (q : Int)) rfl ?_
    refine G1 (u := G0 ((q + 1 : Nat) : Int)) (Hu (by rw [IntKind.wrap_i64]; omega) rfl rfl rfl) ?_
    refine G1 (u := LS 4 Stowed.av (l.eraseIdx q)) (G33 rfl (Hb7 l q (by omega) h3 0) (by kernel_rfl) ⟨.inl rfl, rfl, .inl rfl, rfl, .inl rfl, rfl, trivial⟩ ⟨rfl, trivial⟩ rfl rfl rfl) ?_
    refine Ru (LS 4 Stowed.av (l.eraseIdx q)) rfl ?_
    refine G7 (h2 ?_)
    refine Gr ?_
    exact ⟨[LS 4 Stowed.av (l.eraseIdx q)], [], trivial, rfl, ⟨⟨_, rfl, .conv (.same rfl)⟩, trivial⟩, rfl, rfl⟩
def Ge1 := PLift.up Ge2

set_option maxHeartbeats 2000000 in
theorem Hb6 (xs : List Stowed) (n : Nat) (y : Stowed) (hn : n ≤ xs.length) (hm : xs.length ≤ 100000) (ver : Nat) :
    Qc Tryz.prog 120 [.vec 1153 ver 4 xs.length, G0 (n : Int), LS 4 Stowed.av [y]] [(1153, .vec 80 4 ver (xs.map Stowed.av))] (fun u L' => u = LS 4 Stowed.av (xs.take n ++ y :: xs.drop n) ∧ L' = [(1153, .vec 80 4 (ver + 4) [])]) := by
  refine Yy [1153] [.tmp 6] Tryz.func120 rfl rfl (H47 rfl) ?_
  refine Jr fun h1 => ?_
  refine Ru (.sc (.slice none 0 0)) rfl ?_
  refine G7 (h1 ?_)
  refine Jr fun h2 => ?_
  refine Ru (.vec 1153 ver 4 xs.length) rfl ?_
  refine Ru (G0 (n : Int)) rfl ?_
  refine G1 (u := .vsl 1153 ver 4 n (xs.length - n)) (G4d (f := Stowed.av) (xs := xs) rfl rfl rfl rfl Hw ⟨rfl, hn⟩) ?_
  refine G7 (h2 ?_)
  refine Jr fun h3 => ?_
  refine Ru (LS 4 Stowed.av [y]) rfl ?_
  refine G1 (u := G0 ((1 : Nat) : Int)) (Z4 (f := Stowed.av) (xs := [y]) Hw rfl rfl) ?_
  refine Ru (G0 ((1 : Nat) : Int)) rfl ?_
  refine G7 (h3 ?_)
  refine Js fun h4 => ?_
  refine Jr fun h5 => ?_
  refine Ru (G0 ((1 : Nat) : Int)) rfl ?_
  refine G1 (u := BL (decide (((1 : Nat) : Int) = 0))) (Qh rfl rfl rfl) ?_
  refine G7 (h5 ?_)
  refine Gk rfl (fun hb => ?_) (fun hb => ?_)
  · exact absurd (of_decide_eq_true hb) (by omega)
  refine Gn (h4 ?_)
  refine Jr fun h6 => ?_
  refine Ru (.vec 1153 ver 4 xs.length) rfl ?_
  refine G1 (u := G0 (xs.length : Int)) (Hbb Hw rfl rfl rfl) ?_
  refine Ru (G0 (xs.length : Int)) rfl ?_
  refine G7 (h6 ?_)
  refine Js fun h7 => ?_
  refine Jr fun h8 => ?_
  refine Ru (G0 (n : Int)) rfl ?_
  refine Ru (G0 (xs.length : Int)) rfl ?_
  refine G1 (u := BL (decide ((n : Int) = (xs.length : Int)))) (Qh rfl rfl rfl) ?_
  refine G7 (h8 ?_)
  refine Gk rfl (fun hb => ?_) (fun hb => ?_)
  · -- at the end
    have hb := of_decide_eq_true hb
    have hnx : n = xs.length := by omega
    refine Jr fun h9 => ?_
    refine Ru (.vec 1153 ver 4 xs.length) rfl ?_
    refine Ru (LS 4 Stowed.av [y]) rfl ?_
    refine G1 (u := .vec 1153 (ver + 3) 4 (xs ++ [y]).length) (Ge9 (f := Stowed.av) (xs := xs) (ys := [y]) (ver1 := ver + 3) rfl rfl rfl rfl Hw Hc3 (decide_eq_true ⟨by rw [List.length_singleton]; omega, by rw [List.length_singleton]; simp [maxLen]; omega⟩) (fun _ => rfl) (.inl rfl) (by omega)) ?_
    refine Ru (.vec 1153 (ver + 3) 4 (xs ++ [y]).length) rfl ?_
    refine G7 (h9 ?_)
    refine Gb5 6 (ver + 4) rfl rfl (by omega) ?_
    refine Gr ?_
    refine ⟨[LS 4 Stowed.av (xs.take n ++ y :: xs.drop n)], [(1153, .vec 80 4 (ver + 4) [])], ⟨⟨_, rfl, .vec⟩, trivial⟩, rfl, ⟨⟨_, rfl, .conv (.eq ?_ rfl)⟩, trivial⟩, rfl, rfl⟩
    refine congrArg (AV.list 4) (congrArg (List.map Stowed.av) ?_)
    rw [hnx, List.take_length, List.drop_length]
  have hb := of_decide_eq_false hb
  have hlt : n < xs.length := by omega
  refine Gn (h7 ?_)
  refine JC_vcap 0 rfl rfl (fun c hc1 hc2 => ?_)
  rw [List.length_map] at hc1
  refine Yj (l' := [(0, .vcap 1153 ver 4 xs.length c), (1, G0 (n : Int)), (2, LS 4 Stowed.av [y]), (7, G0 ((1 : Nat) : Int)), (8, G0 (xs.length : Int))]) (L' := [(1153, .vec 80 4 ver (xs.map Stowed.av))]) ⟨⟨.eq (by rw [show (xs.map Stowed.av).length = xs.length from List.length_map ..]; rfl) rfl, .same rfl, .same rfl, .same rfl, .same rfl, trivial⟩, ⟨⟨_, rfl, .vec⟩, trivial⟩, rfl⟩ ?_
  refine Js fun h10 => ?_
  refine Jr fun h11 => ?_
  refine Ru (G0 (xs.length : Int)) rfl ?_
  refine Ru (G0 ((1 : Nat) : Int)) rfl ?_
  refine G1 (u := G0 ((xs.length + 1 : Nat) : Int)) (Hu (by rw [IntKind.wrap_i64]; omega) rfl rfl rfl) ?_
  refine Ru (.vcap 1153 ver 4 xs.length c) rfl ?_
  refine G1 (u := G0 (c : Int)) (Jc1 rfl Hw rfl rfl) ?_
  refine G1 (u := BL (decide ((c : Int) < ((xs.length + 1 : Nat) : Int)))) (G76 rfl rfl rfl) ?_
  refine G7 (h11 ?_)
  refine Gk rfl (fun hb => ?_) (fun hb => ?_)
  · -- a new row
    have hb := of_decide_eq_true hb
    obtain ⟨p, hp⟩ : ∃ p, p = xs.length + 1 - n := ⟨_, rfl⟩
    obtain ⟨X1, hX1⟩ : ∃ X1, xs.take n ++ List.replicate p (Stowed.mk 0 (Slot.mk 0 0 0)) = X1 := ⟨_, rfl⟩
    have hl1 : X1.length = xs.length + 1 := by rw [← hX1, List.length_append, List.length_take, List.length_replicate]; omega
    obtain ⟨X2, hX2⟩ : ∃ X2, overlay X1 n [y] (X1.length - n) = X2 := ⟨_, rfl⟩
    have hl2 : X2.length = xs.length + 1 := by
      rw [← hX2]; unfold overlay
      rw [List.length_singleton, Nat.min_eq_left (by omega)]; simp; omega
    obtain ⟨Y, hY⟩ : ∃ Y, Y = (xs.drop n).take (xs.length - n) := ⟨_, rfl⟩
    obtain ⟨X3, hX3⟩ : ∃ X3, overlay X2 (n + 1) Y (X2.length - (n + 1)) = X3 := ⟨_, rfl⟩
    refine Jr fun h12 => ?_
    refine Ru (.vcap 1153 ver 4 xs.length c) rfl ?_
    refine Ru (G0 (n : Int)) rfl ?_
    refine G1 (u := .vcap 1153 ver 4 n c) (Heb rfl Hw rfl rfl rfl rfl (by omega)) ?_
    refine Ru (G0 (xs.length : Int)) rfl ?_
    refine Ru (G0 ((1 : Nat) : Int)) rfl ?_
    refine G1 (u := G0 ((xs.length + 1 : Nat) : Int)) (Hu (by rw [IntKind.wrap_i64]; omega) rfl rfl rfl) ?_
    refine Ru (G0 (n : Int)) rfl ?_
    refine G1 (u := G0 (p : Int)) (Gea (by rw [IntKind.wrap_i64]; omega) rfl rfl rfl) ?_
    refine G1 (u := .vec 77000002 0 4 X1.length) (Jad (f := Stowed.av) (xs := xs) 77000002 (Stowed.mk 0 (Slot.mk 0 0 0)) [.int .i64 0, .int .i64 0, .int .i64 0, .int .u8 0] X1 hX1 rfl rfl rfl rfl rfl Hw (kn := .i64) (by kernel_rfl) Hc3 Hc2 rfl rfl ⟨.inl rfl, .inl rfl, .inl rfl, .inl rfl, trivial⟩ (by omega) (by simp [maxLen]; omega) hn (by omega) (by omega) (by omega) rfl) ?_
    refine Ru (.vec 77000002 0 4 X1.length) rfl ?_
    refine G7 (h12 ?_)
    refine Jr fun h13 => ?_
    refine Ru (.vec 77000002 0 4 X1.length) rfl ?_
    refine Ru (G0 (n : Int)) rfl ?_
    refine G1 (u := .vsl 77000002 0 4 n (X1.length - n)) (G4d (f := Stowed.av) (xs := X1) rfl rfl rfl rfl Hw ⟨rfl, by omega⟩) ?_
    refine Ru (LS 4 Stowed.av [y]) rfl ?_
    refine G1 (J46 (f := Stowed.av) (xs := X1) (ys := [y]) X2 hX2 rfl Hw (.inr rfl) rfl (Src_list rfl (.inl rfl)) (fun _ => rfl)) ?_
    refine G7 (h13 ?_)
    refine Yj (l' := [(0, .vcap 1153 ver 4 xs.length c), (1, G0 (n : Int)), (2, LS 4 Stowed.av [y]), (7, G0 ((1 : Nat) : Int)), (9, .vec 77000002 0 4 X2.length)]) (L' := [(77000002, .vec 80 4 0 (X2.map Stowed.av)), (1153, .vec 80 4 ver (xs.map Stowed.av))]) ⟨⟨.same rfl, .same rfl, .same rfl, .same rfl, .eq (by rw [hl2, ← hl1]; rfl) rfl, trivial⟩, ⟨⟨_, rfl, .vec⟩, ⟨_, rfl, .vec⟩, trivial⟩, rfl⟩ ?_
    refine Js fun h14 => ?_
    refine Q7 [8] [0, 0, 0, 0, 0, 0, 0, 0, 0] [0, 0, 0, 0, 0, 0, 0, 0, 0] [[(77000002, .vec 80 4 0 (X2.map Stowed.av)), (1153, .vec 80 4 ver (xs.map Stowed.av))], [(77000002, .vec 80 4 0 (X3.map Stowed.av)), (77000002, .vec 80 4 0 (X2.map Stowed.av)), (1153, .vec 80 4 ver (xs.map Stowed.av))]] Gbf (by kernel_rfl) rfl rfl ?_
    refine Gm (u := .vec 77000002 0 4 X2.length) rfl rfl ⟨Gs (G40 _ rfl rfl) rfl, trivial⟩ ?_ rfl
    refine Gm (u := G0 (n : Int)) rfl rfl ⟨Gs (G40 _ rfl rfl) rfl, trivial⟩ ?_ rfl
    refine Gm (u := G0 ((1 : Nat) : Int)) rfl rfl ⟨Gs (G40 _ rfl rfl) rfl, trivial⟩ ?_ rfl
    refine Gm (u := G0 ((n + 1 : Nat) : Int)) rfl rfl ⟨Gs (Hu (by rw [IntKind.wrap_i64]; omega) rfl rfl rfl) rfl, trivial⟩ ?_ rfl
    refine Gm (u := .vsl 77000002 0 4 (n + 1) (X2.length - (n + 1))) rfl rfl ⟨Gs (G4d (f := Stowed.av) (xs := X2) rfl rfl rfl rfl Hw ⟨rfl, by omega⟩) rfl, trivial⟩ ?_ rfl
    refine Gm (u := .vcap 1153 ver 4 xs.length c) rfl rfl ⟨Gs (G40 _ rfl rfl) rfl, trivial⟩ ?_ rfl
    refine Gm (u := G0 (n : Int)) rfl rfl ⟨Gs (G40 _ rfl rfl) rfl, trivial⟩ ?_ rfl
    refine Gm (u := .vsl 1153 ver 4 n (xs.length - n)) rfl rfl ⟨Gs (Je5 rfl Hw rfl rfl rfl rfl hn (by simp) (by simp; omega)) rfl, trivial⟩ ?_ rfl
    refine D_w (u := G0 ((min Y.length (X2.length - (n + 1)) : Nat) : Int)) rfl rfl rfl rfl (Gs (J46 (f := Stowed.av) (xs := X2) (ys := Y) X3 hX3 rfl Hw (.inr rfl) rfl (hY ▸ J41 rfl rfl) (fun _ => rfl)) rfl) ?_ rfl
    refine Yq (h14 ?_)
    refine Jr fun h15 => ?_
    refine Ru (.vec 77000002 0 4 X2.length) rfl ?_
    refine Ru (.vec 77000002 0 4 X2.length) rfl ?_
    refine G7 (h15 ?_)
    refine Gb5 6 1 rfl rfl (by omega) ?_
    refine Je2 (i := 1153) (ver + 4) rfl (by omega) ?_
    refine Gr ?_
    refine ⟨[LS 4 Stowed.av (xs.take n ++ y :: xs.drop n)], [(1153, .vec 80 4 (ver + 4) [])], ⟨⟨_, rfl, .vec⟩, trivial⟩, rfl, ⟨⟨_, rfl, .conv (.eq ?_ rfl)⟩, trivial⟩, rfl, rfl⟩
    refine congrArg (AV.list 4) (congrArg (List.map Stowed.av) ?_)
    rw [show X2.length - (n + 1) = xs.length + 1 - (n + 1) by omega] at hX3
    rw [show X1.length - n = p by omega] at hX2
    rw [← hX3, ← hX2, ← hX1, hY]
    exact grow_cut xs n y (Stowed.mk 0 (Slot.mk 0 0 0)) hlt _ _ _ hp rfl rfl
  have hb := of_decide_eq_false hb
  obtain ⟨X, hX⟩ : ∃ X, X = xs.map Stowed.av ++ List.replicate ((xs.map Stowed.av).length + 1 - (xs.map Stowed.av).length) (.agg (List.replicate 4 .junk)) := ⟨_, rfl⟩
  have hXl : X.length = xs.length + 1 := by rw [hX]; simp
  refine Gn (h10 ?_)
  refine Jr fun h16 => ?_
  refine Ru (.vcap 1153 ver 4 xs.length c) rfl ?_
  refine Ru (G0 (xs.length : Int)) rfl ?_
  refine Ru (G0 ((1 : Nat) : Int)) rfl ?_
  refine G1 (u := G0 ((xs.length + 1 : Nat) : Int)) (Hu (by rw [IntKind.wrap_i64]; omega) rfl rfl rfl) ?_
  refine G1 (u := .vcap 1153 ver 4 (xs.length + 1) c) (Heb rfl Hw rfl rfl rfl rfl (by omega)) ?_
  refine J2b 60 X (by rw [hX, List.length_map]) rfl rfl (by simp) (by omega) (by simp; omega) ?_
  refine Ru (.vsl 1153 (ver + 1) 4 0 (xs.length + 1)) rfl ?_
  refine G7 (h16 ?_)
  refine Js fun h17 => ?_
  refine Jr fun h18 => ?_
  refine Ru (LS 4 Stowed.av [y]) rfl ?_
  refine Ru (.vsl 1153 (ver + 1) 4 0 (xs.length + 1)) rfl ?_
  refine Ru (G0 (n : Int)) rfl ?_
  refine Ru (G0 ((1 : Nat) : Int)) rfl ?_
  refine G1 (u := G0 ((n + 1 : Nat) : Int)) (Hu (by rw [IntKind.wrap_i64]; omega) rfl rfl rfl) ?_
  refine G1 (u := .vsl 1153 (ver + 1) 4 (n + 1) (xs.length + 1 - (n + 1))) (G60 (lo := n + 1) (hi := xs.length + 1) rfl Hw rfl rfl (.inr ⟨_, _, rfl, rfl⟩) (.inl ⟨rfl, rfl⟩) (by omega) (by omega) rfl) ?_
  refine G1 (u := BL false) (Ja7 (S := 4) rfl Tryz.func128 (by kernel_rfl) (by kernel_rfl) (by kernel_rfl) (by kernel_rfl) Hw rfl rfl rfl rfl rfl (by simp) (by omega)) ?_
  refine G1 (u := BL true) (Rj (b := false) rfl rfl) ?_
  refine G7 (h18 ?_)
  refine Gk rfl (fun hb => ?_) (fun hb => by cases hb)
  obtain ⟨Y, hY⟩ : ∃ Y, Y = X.take (n + 1) ++ (((X.drop n).take (xs.length + 1 - n)).take (min ((X.drop n).take (xs.length + 1 - n)).length (xs.length + 1 - (n + 1)))) ++ X.drop (n + 1 + min ((X.drop n).take (xs.length + 1 - n)).length (xs.length + 1 - (n + 1))) := ⟨_, rfl⟩
  have hYl : Y.length = xs.length + 1 := by
    have hdl : ((X.drop n).take (xs.length + 1 - n)).length = xs.length + 1 - n := by rw [List.length_take, List.length_drop, hXl]; omega
    rw [hY, hdl, Nat.min_eq_right (by omega)]
    simp only [List.length_append, List.length_take, List.length_drop, hXl]
    omega
  refine Yj (l' := [(0, .vsl 1153 (ver + 1) 4 0 (xs.length + 1)), (1, G0 (n : Int)), (2, LS 4 Stowed.av [y]), (7, G0 ((1 : Nat) : Int))]) (L' := [(1153, .vec 80 4 (ver + 1) X)]) ⟨⟨.same rfl, .same rfl, .same rfl, .same rfl, trivial⟩, ⟨⟨_, rfl, .vec⟩, trivial⟩, rfl⟩ ?_
  refine Js fun h19 => ?_
  refine Q7 [8] [0, 0, 0, 0, 0, 0, 0, 0, 0] [0, 0, 0, 0, 0, 0, 0, 0, 0] [[(1153, .vec 80 4 (ver + 1) X)], [(1153, .vec 80 4 (ver + 1) Y), (1153, .vec 80 4 (ver + 1) X)]] Gbf (by kernel_rfl) rfl rfl ?_
  refine Gm (u := .vsl 1153 (ver + 1) 4 0 (xs.length + 1)) rfl rfl ⟨Gs (G40 _ rfl rfl) rfl, trivial⟩ ?_ rfl
  refine Gm (u := G0 (n : Int)) rfl rfl ⟨Gs (G40 _ rfl rfl) rfl, trivial⟩ ?_ rfl
  refine Gm (u := G0 ((1 : Nat) : Int)) rfl rfl ⟨Gs (G40 _ rfl rfl) rfl, trivial⟩ ?_ rfl
  refine Gm (u := G0 ((n + 1 : Nat) : Int)) rfl rfl ⟨Gs (Hu (by rw [IntKind.wrap_i64]; omega) rfl rfl rfl) rfl, trivial⟩ ?_ rfl
  refine Gm (u := .vsl 1153 (ver + 1) 4 (n + 1) (xs.length + 1 - (n + 1))) rfl rfl ⟨Gs (G60 (lo := n + 1) (hi := xs.length + 1) rfl Hw rfl rfl (.inr ⟨_, _, rfl, rfl⟩) (.inl ⟨rfl, rfl⟩) (by omega) (by omega) rfl) rfl, trivial⟩ ?_ rfl
  refine Gm (u := .vsl 1153 (ver + 1) 4 0 (xs.length + 1)) rfl rfl ⟨Gs (G40 _ rfl rfl) rfl, trivial⟩ ?_ rfl
  refine Gm (u := G0 (n : Int)) rfl rfl ⟨Gs (G40 _ rfl rfl) rfl, trivial⟩ ?_ rfl
  refine Gm (u := .vsl 1153 (ver + 1) 4 n (xs.length + 1 - n)) rfl rfl ⟨Gs (G60 (lo := n) (hi := xs.length + 1) rfl Hw rfl rfl (.inr ⟨_, _, rfl, rfl⟩) (.inl ⟨rfl, rfl⟩) (by omega) (by omega) rfl) rfl, trivial⟩ ?_ rfl
  refine D_w (u := G0 ((min ((X.drop n).take (xs.length + 1 - n)).length (xs.length + 1 - (n + 1)) : Nat) : Int)) rfl rfl rfl rfl (Gs (A_copyR (ys := (X.drop n).take (xs.length + 1 - n)) Y hY.symm rfl Hw ⟨rfl, .inr rfl⟩ (.inr (.inr ⟨_, _, _, _, _, _, rfl, rfl, rfl⟩)) (J26 (f := Stowed.av) (fun _ => rfl) hX hlt rfl rfl)) rfl) ?_ rfl
  refine Yq (h19 ?_)
  refine Jr fun h20 => ?_
  refine Ru (.vsl 1153 (ver + 1) 4 0 (xs.length + 1)) rfl ?_
  refine Ru (G0 (n : Int)) rfl ?_
  refine G1 (u := .vsl 1153 (ver + 1) 4 n (xs.length + 1 - n)) (G60 (lo := n) (hi := xs.length + 1) rfl Hw rfl rfl (.inr ⟨_, _, rfl, rfl⟩) (.inl ⟨rfl, rfl⟩) (by omega) (by omega) rfl) ?_
  refine Ru (LS 4 Stowed.av [y]) rfl ?_
  refine G1 (Jcd (xs := Y) (ys := [Stowed.av y]) rfl Hw ⟨rfl, .inr rfl⟩ (.inl ⟨_, rfl, .inl rfl⟩) (fun z hz => by
    have := List.mem_of_mem_take hz
    rw [List.mem_singleton] at this
    subst this; rfl)) ?_
  refine G7 (h20 ?_)
  refine Jr fun h21 => ?_
  refine Ru (.vsl 1153 (ver + 1) 4 0 (xs.length + 1)) rfl ?_
  refine Ru (.vsl 1153 (ver + 1) 4 0 (xs.length + 1)) rfl ?_
  refine G7 (h21 ?_)
  refine J44 6 rfl rfl ?_
  refine Gb5 6 (ver + 4) rfl rfl (by omega) ?_
  refine Gr ?_
  refine ⟨[LS 4 Stowed.av (xs.take n ++ y :: xs.drop n)], [(1153, .vec 80 4 (ver + 4) [])], ⟨⟨_, rfl, .vec⟩, trivial⟩, rfl, ⟨⟨_, rfl, .conv (.eq ?_ rfl)⟩, trivial⟩, rfl, rfl⟩
  refine congrArg (AV.list 4) ?_
  have hlm : (xs.map Stowed.av).length = xs.length := List.length_map ..
  have := room_cut (f := id) (xs.map Stowed.av) n (Stowed.av y) (.agg (List.replicate 4 .junk)) (by rw [hlm]; exact hlt) (xs.length + 1 - n) (xs.length + 1 - (n + 1)) (by rw [hlm]) (by rw [hlm]) X Y hX hY
  rw [hlm] at this
  rw [List.map_append, List.map_cons, List.map_take, List.map_drop]
  exact this

def R9 (l : List Stowed) (n : Int) (x : Stowed) : Option (List Stowed) := bif decide (0 ≤ n) && (decide (n ≤ (l.length : Int)) && decide (l.length ≤ 100000)) then some (l.take n.toNat ++ x :: l.drop n.toNat) else none
theorem Hc4 : Ga9 Tryz.prog 80 4 = true := by kernel_rfl
theorem H1a (l : List Stowed) (n : Int) (x : Stowed) (r : List Stowed) (h : R9 l n x = some r) : Pure Tryz.prog 98 [LS 4 Stowed.av l, G0 n, .agg (Stowed.cs x)] (· = LS 4 Stowed.av r) := by
  unfold R9 at h
  cases hc : (decide (0 ≤ n) && (decide (n ≤ (l.length : Int)) && decide (l.length ≤ 100000))) with
  | false => rw [hc] at h; cases h
  | true =>
    rw [hc] at h
    simp only [Bool.and_eq_true, decide_eq_true_eq] at hc
    obtain ⟨h1, h2, h3⟩ := hc
    obtain ⟨q, rfl⟩ : ∃ q : Nat, n = (q : Int) := ⟨n.toNat, by omega⟩
    have h := Option.some.inj h
    simp only [Int.toNat_natCast] at h
    subst h
    refine H1 [.tmp 6] Tryz.func98 rfl rfl ?_
    refine Jr fun h1 => ?_
    refine G1 (u := .ptr 77000003 0) (Jm (u := .agg (Stowed.cs x)) (cs := Stowed.cs x) 77000003 rfl rfl rfl rfl rfl) ?_
    refine Ru (.sc (.slice none 0 0)) rfl ?_
    refine G7 (h1 ?_)
    refine Gp [(0, LS 4 Stowed.av l), (1, G0 (q : Int)), (5, .dptr (Stowed.cs x))] [] 77000003 rfl rfl rfl trivial rfl (by exact ⟨.conv (.same rfl), .conv (.same rfl), .ptr, trivial⟩) ?_
    refine Js fun h2 => ?_
    refine Q7 [1, 5] [0, 0, 0, 0, 0, 0, 2] [0, 0, 1, 1, 1, 0, 2] [[], [(1153, .vec 80 4 0 (l.map Stowed.av))], [(1153, .vec 80 4 4 [])]] Gbf (by kernel_rfl) rfl rfl ?_
    refine Gm (u := LS 4 Stowed.av l) rfl rfl ⟨Gs (G40 _ rfl rfl) rfl, trivial⟩ ?_ rfl
    refine D_w (u := .vec 1153 0 4 l.length) rfl rfl rfl rfl (Gs (G33 (args := [LS 4 Stowed.av l]) (L0 := []) (Lr := [(1153, .vec 80 4 0 (l.map Stowed.av))]) rfl ((G3d l l (Gfe l h3)).ver 0) (by kernel_rfl) ⟨.inl rfl, rfl, trivial⟩ trivial rfl rfl rfl) rfl) ?_ rfl
    refine Gm (u := G0 (q : Int)) rfl rfl ⟨Gs (G40 _ rfl rfl) rfl, Gs (G40 _ rfl rfl) rfl, trivial⟩ ?_ rfl
    refine Gm (u := .agg (Stowed.cs x)) rfl rfl ⟨Gs (Gi Hc4 rfl rfl rfl) rfl, Gs (Gi Hc4 rfl rfl rfl) rfl, trivial⟩ ?_ rfl
    refine Gm (u := LS 4 Stowed.av [x]) rfl rfl ⟨Gs (H9 (xs := [Stowed.av x]) rfl ⟨rfl, rfl, trivial⟩ Hw (by kernel_rfl) rfl rfl rfl rfl) rfl, Gs (H9 (xs := [Stowed.av x]) rfl ⟨rfl, rfl, trivial⟩ Hw (by kernel_rfl) rfl rfl rfl rfl) rfl, trivial⟩ ?_ rfl
    refine D_w (u := LS 4 Stowed.av (l.take q ++ x :: l.drop q)) rfl rfl rfl rfl (Gs (G33 (args := [.vec 1153 0 4 l.length, G0 (q : Int), LS 4 Stowed.av [x]]) rfl (Hb6 l q x (by omega) h3 0) (by kernel_rfl) ⟨.inl rfl, rfl, .inl rfl, rfl, .inl rfl, rfl, trivial⟩ ⟨rfl, trivial⟩ rfl rfl rfl) rfl) ?_ rfl
    refine Gm (u := LS 4 Stowed.av (l.take q ++ x :: l.drop q)) rfl rfl ⟨Gs (G40 _ rfl rfl) rfl, trivial⟩ ?_ rfl
    refine Yq (h2 ?_)
    refine Gr ?_
    exact ⟨[LS 4 Stowed.av (l.take q ++ x :: l.drop q)], [], trivial, rfl, ⟨⟨_, rfl, .conv (.same rfl)⟩, trivial⟩, rfl, rfl⟩
def H19 := PLift.up H1a
end Go.Proofs.YtkcdjcgifgdanaaGreat
