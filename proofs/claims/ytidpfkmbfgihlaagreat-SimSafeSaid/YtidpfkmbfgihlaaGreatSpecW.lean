/-
 What a model returns, What stow.without and stow.with return:
-/
import Derived.Test.YtidpfkmbfgihlaaGreatIter
import Derived.Test.YtidpfkmbfgihlaaGreatXC
namespace Go.Proofs.YtidpfkmbfgihlaaGreat

section
variable {α β σ : Type} {Q : β → Prop}

def Wp (m : Option β) (Q : β → Prop) : Prop := ∃ r, m = some r ∧ Q r

theorem Gg {r : β} (h : Q r) : Wp (some r) Q := ⟨r, rfl, h⟩
theorem wp_mono {m : Option β} {Q' : β → Prop} (h : Wp m Q') (hq : ∀ r, Q' r → Q r) : Wp m Q := by
  obtain ⟨r, e, h⟩ := h; exact ⟨r, e, hq r h⟩
theorem Gy {m : Option α} {k : α → Option β} (h : Wp m (fun x => Wp (k x) Q)) : Wp (bnd m k) Q := by
  obtain ⟨x, rfl, h⟩ := h; exact h
theorem Gs {m : Option α} {k : α → Option β} {x : α} (e : m = some x) (h : Wp (k x) Q) : Wp (bnd m k) Q := by subst e; exact h
theorem Qy {z : Int} {k : Int → Option β} (h1 : -9223372036854775808 ≤ z ∧ z ≤ 9223372036854775807) (h : Wp (k z) Q) : Wp (chk z k) Q := by
  unfold chk R03
  rw [M1 h1.1, M1 h1.2]; exact h
theorem He {c : Bool} {x y : Option β} (h1 : c = true → Wp x Q) (h2 : c = false → Wp y Q) : Wp (bif c then x else y) Q := by
  cases c with
  | true => exact h1 rfl
  | false => exact h2 rfl
theorem G00 {b : Bool} {k : Option β} (hb : b = true) (h : Wp k Q) : Wp (need b k) Q := by subst hb; exact h
theorem Ya {l : List α} {i : Int} {k : α → Option β} {m : Nat} {x : α} (hi : i = (m : Int)) (hx : l[m]? = some x) (h : Wp (k x) Q) : Wp (Z3 l i k) Q := by
  subst hi
  unfold Z3
  rw [M1 (by omega : (0 : Int) ≤ m), cond_true, show (m : Int).toNat = m by omega, hx]
  exact h
theorem G51 {m : (α → Option β) → Option β} {k : α → Option β} (P : α → Prop) (hm : ∀ K : α → Option β, (∀ a, P a → Wp (K a) Q) → Wp (m K) Q) (hk : ∀ a, P a → Wp (k a) Q) : Wp (jp m k) Q := hm k hk
theorem H09 {m n : Int} {Q : Int → Prop} (hn : n ≠ 0) (h : Q (m.tmod n)) : Wp (Gdc m n) Q := by
  unfold Gdc
  rw [M2 hn, cond_false]
  exact Gg h
theorem H67 {i : Int} {n m : Nat} {Q : Nat → Prop} (hi : i = (m : Int)) (hm : m ≤ n) (h : Q m) : Wp (J21 i n) Q := by
  subst hi
  unfold J21
  rw [M1 (by omega : (0 : Int) ≤ m), show (m : Int).toNat = m by omega, M1 hm]
  exact Gg h
theorem Rc (I : List α → σ → Prop) {b : α → Nat → σ → (σ → Option β) → Option β} {kx : σ → Option β} {xs : List α} {s : σ} (h0 : I [] s)
    (hb : ∀ pre x post s nx, xs = pre ++ x :: post → I pre s → (∀ s', I (pre ++ [x]) s' → Wp (nx s') Q) → Wp (b x pre.length s nx) Q) (hk : ∀ s, I xs s → Wp (kx s) Q) : Wp (each b kx xs 0 s) Q := by
  have key : ∀ (post pre : List α) (s : σ), xs = pre ++ post → I pre s → Wp (each b kx post pre.length s) Q := by
    intro post
    induction post with
    | nil => intro pre s e hi; rw [List.append_nil] at e; subst e; exact hk s hi
    | cons x post ih =>
      intro pre s e hi
      rw [each]
      refine hb pre x post s _ e hi (fun s' h1 => ?_)
      have := ih (pre ++ [x]) s' (by rw [e]; simp) h1
      rw [Mf, Mg] at this
      exact this
  exact key xs [] s rfl h0
theorem R20 (I : Nat → σ → Prop) {b : Nat → σ → (σ → Option β) → Option β} {kx : σ → Option β} {n : Nat} {s : σ} (h0 : I 0 s)
    (hb : ∀ i s nx, i < n → I i s → (∀ s', I (i + 1) s' → Wp (nx s') Q) → Wp (b i s nx) Q) (hk : ∀ s, I n s → Wp (kx s) Q) : Wp (upto b kx n 0 s) Q := by
  have key : ∀ (m i : Nat) (s : σ), i + m = n → I i s → Wp (upto b kx m i s) Q := by
    intro m
    induction m with
    | zero => intro i s e hi; have e : i = n := by omega
              subst e; exact hk s hi
    | succ m ih =>
      intro i s e hi
      rw [upto]
      exact hb i s _ (by omega) hi (fun s' h1 => ih (i + 1) s' (by omega) h1)
  exact key n 0 s (by omega) h0
theorem G30 {m : Option β} {r : β} (h : Wp m (· = r)) : m = some r := by
  obtain ⟨x, e, rfl⟩ := h; exact e
end

def G92 {α : Type} (p : α → Bool) (l : List α) : List Int := (l.zipIdx.filter (fun x => p x.1)).map (fun x => (x.2 : Int))
theorem J46 {α : Type} (p : α → Bool) (l : List α) (x : α) : G92 p (l ++ [x]) = G92 p l ++ (if p x then [(l.length : Int)] else []) := by
  unfold G92
  rw [List.zipIdx_append, List.filter_append, List.map_append]
  by_cases h : p x <;> simp [h]
theorem Q23 {α : Type} (p : α → Bool) (l : List α) : (G92 p l).length ≤ l.length := by
  unfold G92
  rw [Mj]
  exact Nat.le_trans (Kw _ _) (by simp)
theorem Jb2 {α : Type} {p : α → Bool} {l : List α} : G92 p l = [] ↔ ∀ x ∈ l, p x = false := by
  unfold G92
  rw [List.map_eq_nil_iff, List.filter_eq_nil_iff]
  constructor
  · intro h x hx
    obtain ⟨i, hi⟩ := List.mem_iff_getElem?.1 hx
    have := h (x, i) (List.mk_mem_zipIdx_iff_getElem?.2 hi)
    simpa using this
  · intro h y hy
    have := h y.1 (List.mem_iff_getElem?.2 ⟨y.2, List.mk_mem_zipIdx_iff_getElem?.1 hy⟩)
    simp [this]
set_option maxRecDepth 100000
set_option linter.unusedVariables false
set_option linter.unusedSimpArgs false
open Go.RowKit
theorem J3f {α β:Type} [DecidableEq β] {xs:List α} {k:Bool→Option β} {r:Option β} (h:∀ b,(b=true→xs=[])→k b=r):R83 xs k=r:=by
 unfold R83
 cases xs with
 | nil=>rw [h true (fun _=>rfl),h false (fun e=>by cases e)]; simp
 | cons x l=>exact h false (fun e=>by cases e)
theorem Y37 {α:Type} (xs:List α) (n:Nat) (z:α) (h:n < xs.length) :
  ((blank (xs.take n++(xs.drop (n+1)).take (xs.length - (n+1))++xs.drop (n+((xs.drop (n+1)).take (xs.length - (n+1))).length)) (n+((xs.drop (n+1)).take (xs.length - (n+1))).length) (xs.length - (n+((xs.drop (n+1)).take (xs.length - (n+1))).length)) z).take (n+((xs.drop (n+1)).take (xs.length - (n+1))).length))=xs.eraseIdx n:=by
 have e:(xs.drop (n+1)).take (xs.length - (n+1))=xs.drop (n+1):=List.take_of_length_le (by simp)
 rw [e]
 unfold blank
 have hl:(xs.take n++xs.drop (n+1)).length=n+(xs.drop (n+1)).length:=by rw [Mf,List.length_take]; omega
 rw [List.append_assoc (xs.take n),List.eraseIdx_eq_take_drop_succ]
 have h1:(xs.take n++(xs.drop (n+1)++xs.drop (n+(xs.drop (n+1)).length))).take (n+(xs.drop (n+1)).length)=xs.take n++xs.drop (n+1):=by
  rw [← List.append_assoc,List.take_append_of_le_length (by omega),List.take_of_length_le (by omega)]
 rw [h1,List.append_assoc,List.take_append_of_le_length (by omega),List.take_of_length_le (by omega)]
theorem R90 {α:Type} (xs:List α) (n:Nat) (y z:α) (h:n < xs.length) (p q r:Nat) (hp:p=xs.length+1 - n) (hq:q=xs.length+1 - (n+1)) (hr:r=xs.length - n) :
  overlay (overlay (xs.take n++List.replicate p z) n [y] p) (n+1) ((xs.drop n).take r) q=xs.take n++y::xs.drop n:=by
 subst hp hq hr
 have e:(xs.drop n).take (xs.length - n)=xs.drop n:=List.take_of_length_le (by simp)
 rw [e]
 unfold overlay
 have hl:(xs.drop n).length=xs.length - n:=by simp
 have ht:(xs.take n).length=n:=by rw [List.length_take]; omega
 rw [Mg,Nat.min_eq_left (show 1≤xs.length+1 - n by omega),hl,Nat.min_eq_left (show xs.length - n≤xs.length+1 - (n+1) by omega)]
 have a1:(xs.take n++List.replicate (xs.length+1 - n) z).take n=xs.take n:=by rw [List.take_append_of_le_length (by omega),List.take_of_length_le (by omega)]
 rw [a1]
 have a2:(xs.take n++[y].take 1++(xs.take n++List.replicate (xs.length+1 - n) z).drop (n+1)).take (n+1)=xs.take n++[y]:=by
  rw [List.take_append_of_le_length (by simp; omega),List.take_of_length_le (by simp; omega)]; rfl
 rw [a2]
 have a3:(xs.take n++[y].take 1++(xs.take n++List.replicate (xs.length+1 - n) z).drop (n+1)).drop (n+1+(xs.length - n))=[]:=List.drop_of_length_le (by simp; omega)
 rw [a3,List.append_nil,e,List.append_assoc]; rfl
theorem R7c {f:AV→AV} (xs:List AV) (n:Nat) (y:AV) (J:AV) (h:n < xs.length) (p q:Nat) (hp:p=xs.length+1 - n) (hq:q=xs.length+1 - (n+1)) (X Y:List AV) (hX:X=xs++List.replicate (xs.length+1 - xs.length) J) (hY:Y=X.take (n+1)++(((X.drop n).take p).take (min ((X.drop n).take p).length q))++X.drop (n+1+min ((X.drop n).take p).length q)) :
  (Y.take n++[y].take (min [y].length p)++Y.drop (n+min [y].length p)).take (xs.length+1)=xs.take n++y::xs.drop n:=by
 have hJ:xs.length+1 - xs.length=1:=by omega
 rw [hJ] at hX
 have h2:X.length=xs.length+1:=by rw [hX]; simp
 have h3:((X.drop n).take p).length=p:=by rw [List.length_take,List.length_drop,h2,hp]; omega
 have h0:min p q=q:=by omega
 rw [h3,h0] at hY
 have h4:X.take n=xs.take n:=by rw [hX,List.take_append_of_le_length (by omega)]
 have h5:((X.drop n).take p).take q=xs.drop n:=by
  rw [List.take_take,Nat.min_eq_left (by omega),hX,List.drop_append_of_le_length (by omega),List.take_append_of_le_length (by simp; omega),List.take_of_length_le (by simp; omega)]
 rw [h5] at hY
 have h6:X.drop (n+1+q)=[]:=List.drop_of_length_le (by omega)
 rw [h6,List.append_nil] at hY
 have h7:Y.take n=xs.take n:=by
  rw [hY,List.take_append_of_le_length (by rw [List.length_take]; omega),List.take_take,Nat.min_eq_left (by omega),h4]
 have h1:min [y].length p=1:=by rw [Mg]; omega
 have h8:Y.drop (n+1)=xs.drop n:=by
  have hl:(X.take (n+1)).length=n+1:=by rw [List.length_take]; omega
  rw [hY,List.drop_append,hl,Nat.sub_self,List.drop_zero,List.drop_of_length_le (by omega),List.nil_append]
 rw [h1,h7,h8]
 rw [List.take_of_length_le (by simp; omega),List.append_assoc]; rfl
theorem Q26 {α:Type} {f:α→AV} (hf:∀ y,(f y).flatOk=true) {X:List AV} {xs:List α} {J:AV} {n p q:Nat} (hX:X=xs.map f++List.replicate ((xs.map f).length+1 - (xs.map f).length) J) (hn:n < xs.length) (hp:p=xs.length+1 - n) (hq:q=xs.length+1 - (n+1)):∀ y∈((X.drop n).take p).take (min ((X.drop n).take p).length q),y.flatOk=true:=by
 have hJ:(xs.map f).length+1 - (xs.map f).length=1:=by omega
 rw [hJ] at hX
 have h1:X.length=xs.length+1:=by rw [hX]; simp
 have h2:((X.drop n).take p).length=p:=by rw [List.length_take,List.length_drop,h1,hp]; omega
 have h0:min p q=q:=by omega
 have h3:((X.drop n).take p).take q=(xs.map f).drop n:=by
  rw [List.take_take,Nat.min_eq_left (by omega),hX,List.drop_append_of_le_length (by simp; omega),List.take_append_of_le_length (by simp; omega),List.take_of_length_le (by simp; omega)]
 rw [h2,h0,h3]
 intro y hy
 obtain⟨z,_,rfl⟩:=Mm.1 (List.mem_of_mem_drop hy)
 exact hf z

/-! ### int -/
theorem Ze:sliceB Tryz.prog 51 3 1=true:=by kernel_rfl
theorem Y83:Z8 Tryz.prog 3 1 8=true:=by kernel_rfl
theorem Y81:(Tryz.prog.info? 3).bind (fun i=>i.zero.map Value.cells)=some ([E0]:List Value).toArray:=by kernel_rfl
theorem Rb2:Tryz.prog.follows .mixedOrders=true:=by kernel_rfl
theorem Q2c (l:List Int) (h:l.length≤100000):Q4 l=some l:=by
 unfold Q4
 refine J3f (fun b hb=>?_)
 cases b with
 | true=>rw [hb rfl]; rfl
 | false=>exact G30 (G00 (M1 ⟨by simp; omega,by simp [maxLen]; omega⟩) (Gg rfl))

theorem R41 (xs:List Int) (n:Nat) (hn:n < xs.length) (hm:xs.length≤100000) (ver:Nat) :
  Jh Tryz.prog 121 [.vec 1090 ver 1 xs.length,I64 (n:Int),I64 ((n+1:Nat):Int)] [(1090,.vec 3 1 ver (xs.map I64))] (fun u L'=>u=.vec 1090 (ver+2) 1 (xs.eraseIdx n).length∧L'=[(1090,.vec 3 1 (ver+2) ((xs.eraseIdx n).map I64))]):=by
 obtain⟨Y,hY⟩:∃ Y,Y=(xs.drop (n+1)).take (xs.length - (n+1)):=⟨_,rfl⟩
 have h0:Y.length=xs.length - (n+1):=by rw [hY]; simp
 refine Q9 [1090] [.tmp 6] Tryz.func121 O O (G56 O) (Jr fun h1=>(JLm (.sc (.slice none 0 0)) O (G5 (h1 (Jr fun h2=>(JLm (.vec 1090 ver 1 xs.length) O (JLm (I64 (n:Int)) O (JLm (I64 ((n+1:Nat):Int)) O (JLm (.vec 1090 ver 1 xs.length) O (JLh (I64 (xs.length:Int)) (J8e Ze O O O) O (JLh .junk (R1c (lo:=n) (hi:=n+1) (mx:=xs.length) rfl Ze rfl rfl rfl rfl rfl rfl rfl rfl (by omega) (by omega) (by simp)) O (G5 (h2 (Js fun h3=>Jr fun h4=>(JLm (I64 (n:Int)) O (JLm (I64 ((n+1:Nat):Int)) O (JLh (BL (decide ((n:Int)=((n+1:Nat):Int)))) (Q0 O O O) O (G5 (h4 (Gn O (fun hb=>?_) (fun hb=>?_)))))))))))))))))))))
 ·exact absurd (Kz hb) (by omega)
 refine Gr (h3 (Jr fun h5=>(JLm (.vec 1090 ver 1 xs.length) O (JLh (I64 (xs.length:Int)) (J8e Ze O O O) O (JLm (I64 (xs.length:Int)) O (G5 (h5 (Js fun h6=>J5 [6] [0,0,0,0,0,0,0,1] [0,0,0,0,0,0,0,1] [[(1090,.vec 3 1 ver (xs.map I64))],[(1090,.vec 3 1 ver ((xs.take n++Y++xs.drop (n+Y.length)).map I64)),(1090,.vec 3 1 ver (xs.map I64))]] Rb2 (by kernel_rfl) rfl rfl ?_))))))))
 refine Gd (u:=.vec 1090 ver 1 xs.length) O O ⟨Ge (Ga8 _ O O) O,G⟩ (Gd (u:=I64 (n:Int)) O O ⟨Ge (Ga8 _ O O) O,G⟩ (Gd (u:=.vsl 1090 ver 1 0 n) rfl rfl ⟨Ge (R19 (f:=I64) (xs:=xs) rfl rfl rfl rfl Ze ⟨rfl,by omega⟩) rfl,trivial⟩ (Gd (u:=.vec 1090 ver 1 xs.length) O O ⟨Ge (Ga8 _ O O) O,G⟩ (Gd (u:=I64 ((n+1:Nat):Int)) O O ⟨Ge (Ga8 _ O O) O,G⟩ (Gd (u:=.vsl 1090 ver 1 (n+1) (xs.length - (n+1))) rfl rfl ⟨Ge (Geb (f:=I64) (xs:=xs) rfl rfl rfl rfl Ze ⟨rfl,by omega⟩) rfl,trivial⟩ (D_w (u:=.vsl 1090 ver 1 0 (n+Y.length)) rfl rfl rfl rfl (Ge (Q31 (f:=I64) (xs:=xs) (ys:=Y) rfl Ze rfl rfl (hY ▸ Q45 rfl rfl) (fun _=>rfl) (by omega) rfl) rfl) (Gd (u:=.vsl 1090 ver 1 0 (n+Y.length)) O O ⟨Ge (Ga8 _ O O) O,G⟩ (Qw (h6 ?_)))))))))
 have h9:(xs.take n++Y++xs.drop (n+Y.length)).length=xs.length:=by rw [Mf,Mf,List.length_take,List.length_drop,h0]; omega
 refine Jr fun h7=>(JLm (.vsl 1090 ver 1 0 (n+Y.length)) O (JLm (.vsl 1090 ver 1 0 (n+Y.length)) O (JLh (I64 ((n+Y.length:Nat):Int)) (Ra6 O Ze O O) O (JLm (I64 (xs.length:Int)) O (JLh (.vsl 1090 ver 1 (n+Y.length) (xs.length - (n+Y.length))) (Ga7 (lo:=n+Y.length) (hi:=xs.length) rfl Ze rfl rfl (.inr ⟨_,_,rfl,rfl⟩) (.inr ⟨_,_,rfl,rfl⟩) (by omega) (by rw [Mj,h9]; exact M8) rfl) O (Hp (Rac (f:=I64) (xs:=xs.take n++Y++xs.drop (n+Y.length)) (0:Int) [E0] O Ze (.inr O) O Y81 O O O ⟨.inl O,G⟩) (G5 (h7 (Jr fun h8=>(JLm (.vsl 1090 ver 1 0 (n+Y.length)) O (JLm (.vsl 1090 ver 1 0 (n+Y.length)) O (G5 (h8 (Q48 6 O O (H65 (f:=I64) (xs.eraseIdx n) 6 (ver+2) rfl rfl (by omega) ?_ ?_)))))))))))))))
 ·rw [← List.map_take]
  refine congrArg (List.map I64) ?_
  have:=Y37 xs n (0:Int) hn
  rw [← hY] at this
  exact this
 refine Gq (⟨[.vec 1090 (ver+2) 1 (xs.eraseIdx n).length],[(1090,.vec 3 1 (ver+2) ((xs.eraseIdx n).map I64))],⟨⟨_,O,.vec⟩,G⟩,O,⟨⟨_,O,.conv (.same O)⟩,G⟩,O,O⟩)

def Zy (l:List Int) (n:Int):Option (List Int):=bif decide (0≤n)&&(decide (n < (l.length:Int))&&decide (l.length≤100000)) then some (l.eraseIdx n.toNat) else none
theorem H32 (l:List Int) (n:Int) (r:List Int) (h:Zy l n=some r):Jh Tryz.prog 67 [LS 1 I64 l,I64 n] [] (fun av L'=>∃ p:Nat,av=.vec 1090 p 1 r.length∧L'=[(1090,.vec 3 1 p (r.map I64))]):=by
 unfold Zy at h
 cases hc:(decide (0≤n)&&(decide (n < (l.length:Int))&&decide (l.length≤100000))) with
 | false=>rw [hc] at h; cases h
 | true=>
  rw [hc] at h
  simp only [Mh,Mi] at hc
  obtain⟨h1,h2,h3⟩:=hc
  obtain⟨q,rfl⟩:∃ q:Nat,n=(q:Int):=⟨n.toNat,by omega⟩
  have h:=M5 h
  simp only [Int.toNat_natCast] at h
  subst h
  refine Q9 [] [.tmp 4] Tryz.func67 O O (G56 O) (Jr fun h1=>(JLm (.sc (.slice none 0 0)) O (G5 (h1 (Jr fun h2=>(JLm (LS 1 I64 l) O (JLh (.vec 1090 0 1 l.length) (Ru (args:=[LS 1 I64 l]) (L0:=[]) (Lr:=[(1090,.vec 3 1 0 (l.map I64))]) rfl ((H38 l l (Q2c l h3)).ver 0) (by kernel_rfl) ⟨.inl rfl,rfl,G⟩ G rfl rfl rfl) O (JLm (I64 (q:Int)) O (JLm (I64 (q:Int)) O (JLh (I64 ((q+1:Nat):Int)) (Jg (by rw [IntKind.wrap_i64]; omega) rfl rfl rfl) O (JLh (.vec 1090 (0+2) 1 (l.eraseIdx q).length) (Ru rfl (R41 l q (by omega) h3 0) (by kernel_rfl) ⟨.inl rfl,rfl,.inl rfl,rfl,.inl rfl,rfl,G⟩ ⟨rfl,G⟩ rfl rfl rfl) O (JLm (.vec 1090 (0+2) 1 (l.eraseIdx q).length) O (G5 (h2 (Gq ?_)))))))))))))))
  exact⟨[.vec 1090 (0+2) 1 (l.eraseIdx q).length],[(1090,.vec 3 1 (0+2) ((l.eraseIdx q).map I64))],⟨⟨_,O,.vec⟩,G⟩,O,⟨⟨_,O,.conv (.same O)⟩,G⟩,0+2,O,O⟩
theorem J30 (l:List Int) (n:Int) (r:List Int) (h:Zy l n=some r):Pure Tryz.prog 67 [LS 1 I64 l,I64 n] (·=LS 1 I64 r):=(H32 l n r h).data0
def J2f:=PLift.up J30

set_option maxHeartbeats 2000000 in
theorem R40 (xs:List Int) (n:Nat) (y:Int) (hn:n≤xs.length) (hm:xs.length≤100000) (ver:Nat) :
  Jh Tryz.prog 120 [.vec 1090 ver 1 xs.length,I64 (n:Int),LS 1 I64 [y]] [(1090,.vec 3 1 ver (xs.map I64))] (fun u L'=>u=.vec 1090 (ver+4) 1 (xs.take n++y::xs.drop n).length∧L'=[(1090,.vec 3 1 (ver+4) ((xs.take n++y::xs.drop n).map I64))]):=by
 refine Q9 [1090] [.tmp 6] Tryz.func120 O O (G56 O) (Jr fun h1=>(JLm (.sc (.slice none 0 0)) O (G5 (h1 (Jr fun h2=>(JLm (.vec 1090 ver 1 xs.length) O (JLm (I64 (n:Int)) O (JLh (.vsl 1090 ver 1 n (xs.length - n)) (Geb (f:=I64) (xs:=xs) O O O O Ze ⟨O,hn⟩) O (G5 (h2 (Jr fun h3=>(JLm (LS 1 I64 [y]) O (JLh (I64 ((1:Nat):Int)) (G20 (f:=I64) (xs:=[y]) Ze O O) O (JLm (I64 ((1:Nat):Int)) O (G5 (h3 (Js fun h4=>Jr fun h5=>(JLm (I64 ((1:Nat):Int)) O (JLh (BL (decide (((1:Nat):Int)=0))) (Q0 O O O) O (G5 (h5 (Gn O (fun hb=>?_) (fun hb=>?_)))))))))))))))))))))))
 ·exact absurd (Kz hb) (by omega)
 refine Gr (h4 (Jr fun h6=>(JLm (.vec 1090 ver 1 xs.length) O (JLh (I64 (xs.length:Int)) (J8e Ze O O O) O (JLm (I64 (xs.length:Int)) O (G5 (h6 (Js fun h7=>Jr fun h8=>(JLm (I64 (n:Int)) O (JLm (I64 (xs.length:Int)) O (JLh (BL (decide ((n:Int)=(xs.length:Int)))) (Q0 O O O) O (G5 (h8 (Gn O (fun hb=>?_) (fun hb=>?_)))))))))))))))
 ·-- at the end
  have hb:=Kz hb
  have a5:n=xs.length:=by omega
  refine Jr fun h9=>(JLm (.vec 1090 ver 1 xs.length) O (JLm (LS 1 I64 [y]) O (JLh (.vec 1090 (ver+3) 1 (xs++[y]).length) (G6d (f:=I64) (xs:=xs) (ys:=[y]) (ver1:=ver+3) rfl rfl rfl rfl Ze Y83 (M1 ⟨by rw [Mg]; omega,by rw [Mg]; simp [maxLen]; omega⟩) (fun _=>rfl) (.inl rfl) (by omega)) O (JLm (.vec 1090 (ver+3) 1 (xs++[y]).length) O (G5 (h9 (H65 (f:=I64) (xs.take n++y::xs.drop n) 6 (ver+4) rfl rfl (by omega) (congrArg (List.map I64) (by rw [a5,List.take_length,List.drop_length])) (Gq (⟨[.vec 1090 (ver+4) 1 (xs.take n++y::xs.drop n).length],[(1090,.vec 3 1 (ver+4) ((xs.take n++y::xs.drop n).map I64))],⟨⟨_,O,.vec⟩,G⟩,O,⟨⟨_,O,.conv (.same O)⟩,G⟩,O,O⟩)))))))))
 have hb:=M0 hb
 have a1:n < xs.length:=by omega
 refine Gr (h7 (Y3f 0 O O (fun c a6 c1=>?_)))
 rw [Mj] at a6
 refine Qc (l':=[(0,.vcap 1090 ver 1 xs.length c),(1,I64 (n:Int)),(2,LS 1 I64 [y]),(7,I64 ((1:Nat):Int)),(8,I64 (xs.length:Int))]) (L':=[(1090,.vec 3 1 ver (xs.map I64))]) ⟨⟨.eq (by rw [show (xs.map I64).length=xs.length from Mj ..]; rfl) rfl,.same rfl,.same rfl,.same rfl,.same rfl,G⟩,⟨⟨_,rfl,.vec⟩,G⟩,rfl⟩ (Js fun a7=>Jr fun a8=>(JLm (I64 (xs.length:Int)) O (JLm (I64 ((1:Nat):Int)) O (JLh (I64 ((xs.length+1:Nat):Int)) (Jg (by rw [IntKind.wrap_i64]; omega) rfl rfl rfl) O (JLm (.vcap 1090 ver 1 xs.length c) O (JLh (I64 (c:Int)) (R1b O Ze O O) O (JLh (BL (decide ((c:Int) < ((xs.length+1:Nat):Int)))) (Gbe O O O) O (G5 (a8 (Gn O (fun hb=>?_) (fun hb=>?_)))))))))))
 ·-- a new row
  have hb:=Kz hb
  obtain⟨p,hp⟩:∃ p,p=xs.length+1 - n:=⟨_,rfl⟩
  obtain⟨X1,a2⟩:∃ X1,xs.take n++List.replicate p (0:Int)=X1:=⟨_,rfl⟩
  have a9:X1.length=xs.length+1:=by rw [← a2,Mf,List.length_take,List.length_replicate]; omega
  obtain⟨X2,h0⟩:∃ X2,overlay X1 n [y] (X1.length - n)=X2:=⟨_,rfl⟩
  have b0:X2.length=xs.length+1:=by
   rw [← h0]; unfold overlay
   rw [Mg,Nat.min_eq_left (by omega)]; simp; omega
  obtain⟨Y,hY⟩:∃ Y,Y=(xs.drop n).take (xs.length - n):=⟨_,rfl⟩
  obtain⟨X3,a3⟩:∃ X3,overlay X2 (n+1) Y (X2.length - (n+1))=X3:=⟨_,rfl⟩
  refine Jr fun b1=>(JLm (.vcap 1090 ver 1 xs.length c) O (JLm (I64 (n:Int)) O (JLh (.vcap 1090 ver 1 n c) (Jca rfl Ze rfl rfl rfl rfl (by omega)) O (JLm (I64 (xs.length:Int)) O (JLm (I64 ((1:Nat):Int)) O (JLh (I64 ((xs.length+1:Nat):Int)) (Jg (by rw [IntKind.wrap_i64]; omega) rfl rfl rfl) O (JLm (I64 (n:Int)) O (JLh (I64 (p:Int)) (H4d (by rw [IntKind.wrap_i64]; omega) rfl rfl rfl) O (JLh (.vec 77000002 0 1 X1.length) (Qcf (f:=I64) (xs:=xs) 77000002 (0:Int) [E0] X1 a2 rfl rfl rfl rfl rfl Ze (kn:=.i64) (by kernel_rfl) Y83 Y81 rfl rfl ⟨.inl rfl,G⟩ (by omega) (by simp [maxLen]; omega) hn (by omega) (by omega) (by omega) rfl) O (JLm (.vec 77000002 0 1 X1.length) O (G5 (b1 ?_))))))))))))
  refine Jr fun b2=>(JLm (.vec 77000002 0 1 X1.length) O (JLm (I64 (n:Int)) O (JLh (.vsl 77000002 0 1 n (X1.length - n)) (Geb (f:=I64) (xs:=X1) rfl rfl rfl rfl Ze ⟨rfl,by omega⟩) O (JLm (LS 1 I64 [y]) O (G0 (Q4b (f:=I64) (xs:=X1) (ys:=[y]) X2 h0 O Ze (.inr O) O (R9d O (.inl O)) (fun _=>O)) ?_)))))
  refine G5 (b2 (Qc (l':=[(0,.vcap 1090 ver 1 xs.length c),(1,I64 (n:Int)),(2,LS 1 I64 [y]),(7,I64 ((1:Nat):Int)),(9,.vec 77000002 0 1 X2.length)]) (L':=[(77000002,.vec 3 1 0 (X2.map I64)),(1090,.vec 3 1 ver (xs.map I64))]) ⟨⟨.same rfl,.same rfl,.same rfl,.same rfl,.eq (by rw [b0,← a9]; rfl) rfl,G⟩,⟨⟨_,rfl,.vec⟩,⟨_,rfl,.vec⟩,G⟩,rfl⟩ (Js fun b3=>J5 [8] [0,0,0,0,0,0,0,0,0] [0,0,0,0,0,0,0,0,0] [[(77000002,.vec 3 1 0 (X2.map I64)),(1090,.vec 3 1 ver (xs.map I64))],[(77000002,.vec 3 1 0 (X3.map I64)),(77000002,.vec 3 1 0 (X2.map I64)),(1090,.vec 3 1 ver (xs.map I64))]] Rb2 (by kernel_rfl) rfl rfl ?_)))
  refine Gd (u:=.vec 77000002 0 1 X2.length) O O ⟨Ge (Ga8 _ O O) O,G⟩ (Gd (u:=I64 (n:Int)) O O ⟨Ge (Ga8 _ O O) O,G⟩ (Gd (u:=I64 ((1:Nat):Int)) O O ⟨Ge (Ga8 _ O O) O,G⟩ (Gd (u:=I64 ((n+1:Nat):Int)) rfl rfl ⟨Ge (Jg (by rw [IntKind.wrap_i64]; omega) rfl rfl rfl) rfl,G⟩ (Gd (u:=.vsl 77000002 0 1 (n+1) (X2.length - (n+1))) rfl rfl ⟨Ge (Geb (f:=I64) (xs:=X2) rfl rfl rfl rfl Ze ⟨rfl,by omega⟩) rfl,trivial⟩ (Gd (u:=.vcap 1090 ver 1 xs.length c) O O ⟨Ge (Ga8 _ O O) O,G⟩ (Gd (u:=I64 (n:Int)) O O ⟨Ge (Ga8 _ O O) O,G⟩ (Gd (u:=.vsl 1090 ver 1 n (xs.length - n)) rfl rfl ⟨Ge (Ra8 rfl Ze rfl rfl rfl rfl hn (by simp) (by simp; omega)) rfl,G⟩ (D_w (u:=I64 ((min Y.length (X2.length - (n+1)):Nat):Int)) O O O O (Ge (Q4b (f:=I64) (xs:=X2) (ys:=Y) X3 a3 O Ze (.inr O) O (hY ▸ Q45 O O) (fun _=>O)) O) ?_))))))))
  refine Qw (b3 (Jr fun b4=>(JLm (.vec 77000002 0 1 X2.length) O (JLm (.vec 77000002 0 1 X2.length) O (G5 (b4 (Ra2 (f:=I64) (xs.take n++y::xs.drop n) 6 1090 (ver+4) rfl rfl rfl (by decide) (by omega) (congrArg (List.map I64) ?_) ?_)))))))
  ·rw [show X2.length - (n+1)=xs.length+1 - (n+1) by omega] at a3
   rw [show X1.length - n=p by omega] at h0
   rw [← a3,← h0,← a2,hY]
   exact R90 xs n y (0:Int) a1 _ _ _ hp O O
  refine Gq (⟨[.vec 1090 (ver+4) 1 (xs.take n++y::xs.drop n).length],[(1090,.vec 3 1 (ver+4) ((xs.take n++y::xs.drop n).map I64))],⟨⟨_,O,.vec⟩,G⟩,O,⟨⟨_,O,.conv (.same O)⟩,G⟩,O,O⟩)
 have hb:=M0 hb
 obtain⟨X,hX⟩:∃ X,X=xs.map I64++List.replicate ((xs.map I64).length+1 - (xs.map I64).length) (.agg (List.replicate 1 .junk)):=⟨_,rfl⟩
 have a4:X.length=xs.length+1:=by rw [hX]; simp
 refine Gr (a7 (Jr fun b5=>(JLm (.vcap 1090 ver 1 xs.length c) O (JLm (I64 (xs.length:Int)) O (JLm (I64 ((1:Nat):Int)) O (JLh (I64 ((xs.length+1:Nat):Int)) (Jg (by rw [IntKind.wrap_i64]; omega) rfl rfl rfl) O (JLh (.vcap 1090 ver 1 (xs.length+1) c) (Jca rfl Ze rfl rfl rfl rfl (by omega)) O (Q2d 60 X (by rw [hX,Mj]) rfl rfl (by simp) (by omega) (by simp; omega) (JLm (.vsl 1090 (ver+1) 1 0 (xs.length+1)) O (G5 (b5 (Js fun c2=>?_))))))))))))
 refine Jr fun b6=>(JLm (LS 1 I64 [y]) O (JLm (.vsl 1090 (ver+1) 1 0 (xs.length+1)) O (JLm (I64 (n:Int)) O (JLm (I64 ((1:Nat):Int)) O (JLh (I64 ((n+1:Nat):Int)) (Jg (by rw [IntKind.wrap_i64]; omega) rfl rfl rfl) O (JLh (.vsl 1090 (ver+1) 1 (n+1) (xs.length+1 - (n+1))) (Ga7 (lo:=n+1) (hi:=xs.length+1) rfl Ze rfl rfl (.inr ⟨_,_,rfl,rfl⟩) (.inl ⟨rfl,rfl⟩) (by omega) (by omega) rfl) O (JLh (BL false) (Qcb (S:=4) rfl Tryz.func151 (by kernel_rfl) (by kernel_rfl) (by kernel_rfl) (by kernel_rfl) Ze rfl rfl rfl rfl rfl (by simp) (by omega)) O (JLh (BL true) (Qx (b:=false) O O) O (G5 (b6 (Gn rfl (fun hb=>?_) (fun hb=>by cases hb))))))))))))
 obtain⟨Y,hY⟩:∃ Y,Y=X.take (n+1)++(((X.drop n).take (xs.length+1 - n)).take (min ((X.drop n).take (xs.length+1 - n)).length (xs.length+1 - (n+1))))++X.drop (n+1+min ((X.drop n).take (xs.length+1 - n)).length (xs.length+1 - (n+1))):=⟨_,rfl⟩
 have c3:Y.length=xs.length+1:=by
  have b7:((X.drop n).take (xs.length+1 - n)).length=xs.length+1 - n:=by rw [List.length_take,List.length_drop,a4]; omega
  rw [hY,b7,Nat.min_eq_right (by omega)]
  simp only [Mf,List.length_take,List.length_drop,a4]
  omega
 refine Qc (l':=[(0,.vsl 1090 (ver+1) 1 0 (xs.length+1)),(1,I64 (n:Int)),(2,LS 1 I64 [y]),(7,I64 ((1:Nat):Int))]) (L':=[(1090,.vec 3 1 (ver+1) X)]) ⟨(.sm O O),⟨⟨_,rfl,.vec⟩,G⟩,rfl⟩ (Js fun b8=>J5 [8] [0,0,0,0,0,0,0,0,0] [0,0,0,0,0,0,0,0,0] [[(1090,.vec 3 1 (ver+1) X)],[(1090,.vec 3 1 (ver+1) Y),(1090,.vec 3 1 (ver+1) X)]] Rb2 (by kernel_rfl) rfl rfl ?_)
 refine Gd (u:=.vsl 1090 (ver+1) 1 0 (xs.length+1)) O O ⟨Ge (Ga8 _ O O) O,G⟩ (Gd (u:=I64 (n:Int)) O O ⟨Ge (Ga8 _ O O) O,G⟩ (Gd (u:=I64 ((1:Nat):Int)) O O ⟨Ge (Ga8 _ O O) O,G⟩ (Gd (u:=I64 ((n+1:Nat):Int)) rfl rfl ⟨Ge (Jg (by rw [IntKind.wrap_i64]; omega) rfl rfl rfl) rfl,G⟩ (Gd (u:=.vsl 1090 (ver+1) 1 (n+1) (xs.length+1 - (n+1))) rfl rfl ⟨Ge (Ga7 (lo:=n+1) (hi:=xs.length+1) rfl Ze rfl rfl (.inr ⟨_,_,rfl,rfl⟩) (.inl ⟨rfl,rfl⟩) (by omega) (by omega) rfl) rfl,G⟩ (Gd (u:=.vsl 1090 (ver+1) 1 0 (xs.length+1)) O O ⟨Ge (Ga8 _ O O) O,G⟩ (Gd (u:=I64 (n:Int)) O O ⟨Ge (Ga8 _ O O) O,G⟩ (Gd (u:=.vsl 1090 (ver+1) 1 n (xs.length+1 - n)) rfl rfl ⟨Ge (Ga7 (lo:=n) (hi:=xs.length+1) rfl Ze rfl rfl (.inr ⟨_,_,rfl,rfl⟩) (.inl ⟨rfl,rfl⟩) (by omega) (by omega) rfl) rfl,G⟩ (D_w (u:=I64 ((min ((X.drop n).take (xs.length+1 - n)).length (xs.length+1 - (n+1)):Nat):Int)) O O O O (Ge (Y4a (ys:=(X.drop n).take (xs.length+1 - n)) Y hY.symm O Ze ⟨O,.inr O⟩ (.inr (.inr ⟨_,_,_,_,_,_,O,O,O⟩)) (Q26 (f:=I64) (fun _=>O) hX a1 O O)) O) ?_))))))))
 refine Qw (b8 (Jr fun b9=>(JLm (.vsl 1090 (ver+1) 1 0 (xs.length+1)) O (JLm (I64 (n:Int)) O (JLh (.vsl 1090 (ver+1) 1 n (xs.length+1 - n)) (Ga7 (lo:=n) (hi:=xs.length+1) rfl Ze rfl rfl (.inr ⟨_,_,rfl,rfl⟩) (.inl ⟨rfl,rfl⟩) (by omega) (by omega) rfl) O (JLm (LS 1 I64 [y]) O ?_))))))
 refine G0 (R4a (xs:=Y) (ys:=[I64 y]) O Ze ⟨O,.inr O⟩ (.inl ⟨_,O,.inl O⟩) (fun z hz=>by
  have:=List.mem_of_mem_take hz
  rw [Mn] at this
  subst this; rfl)) ?_
 refine G5 (b9 (Jr fun c0=>(JLm (.vsl 1090 (ver+1) 1 0 (xs.length+1)) O (JLm (.vsl 1090 (ver+1) 1 0 (xs.length+1)) O (G5 (c0 (Q48 6 O O (H65 (f:=I64) (xs.take n++y::xs.drop n) 6 (ver+4) rfl rfl (by omega) ?_ (Gq ⟨[.vec 1090 (ver+4) 1 (xs.take n++y::xs.drop n).length],[(1090,.vec 3 1 (ver+4) ((xs.take n++y::xs.drop n).map I64))],⟨⟨_,rfl,.vec⟩,G⟩,rfl,⟨⟨_,rfl,.conv (.same rfl)⟩,G⟩,rfl,rfl⟩)))))))))
 have a0:(xs.map I64).length=xs.length:=Mj ..
 have:=R7c (f:=id) (xs.map I64) n (I64 y) (.agg (List.replicate 1 .junk)) (by rw [a0]; exact a1) (xs.length+1 - n) (xs.length+1 - (n+1)) (by rw [a0]) (by rw [a0]) X Y hX hY
 rw [a0] at this
 rw [List.map_append,List.map_cons,List.map_take,List.map_drop]
 exact this

def G34 (l:List Int) (n:Int) (x:Int):Option (List Int):=bif decide (0≤n)&&(decide (n≤(l.length:Int))&&decide (l.length≤100000)) then some (l.take n.toNat++x::l.drop n.toNat) else none
theorem Ha1 (l:List Int) (n:Int) (x:Int) (r:List Int) (h:G34 l n x=some r):Jh Tryz.prog 66 [LS 1 I64 l,I64 n,I64 x] [] (fun av L'=>∃ p:Nat,av=.vec 1090 p 1 r.length∧L'=[(1090,.vec 3 1 p (r.map I64))]):=by
 unfold G34 at h
 cases hc:(decide (0≤n)&&(decide (n≤(l.length:Int))&&decide (l.length≤100000))) with
 | false=>rw [hc] at h; cases h
 | true=>
  rw [hc] at h
  simp only [Mh,Mi] at hc
  obtain⟨h1,h2,h3⟩:=hc
  obtain⟨q,rfl⟩:∃ q:Nat,n=(q:Int):=⟨n.toNat,by omega⟩
  have h:=M5 h
  simp only [Int.toNat_natCast] at h
  subst h
  refine Q9 [] [.tmp 6] Tryz.func66 O O (G56 O) (Jr fun h1=>(JLm (.sc (.slice none 0 0)) O (G5 (h1 (Jr fun h2=>(JLm (LS 1 I64 l) O (JLh (.vec 1090 0 1 l.length) (Ru (args:=[LS 1 I64 l]) (L0:=[]) (Lr:=[(1090,.vec 3 1 0 (l.map I64))]) rfl ((H38 l l (Q2c l h3)).ver 0) (by kernel_rfl) ⟨.inl rfl,rfl,G⟩ G rfl rfl rfl) O (JLm (I64 (q:Int)) O (JLm (I64 x) O (JLh (LS 1 I64 [x]) (H9 (xs:=[I64 x]) rfl ⟨rfl,rfl,G⟩ Ze (by kernel_rfl) rfl rfl rfl rfl) O (JLh (.vec 1090 (0+4) 1 (l.take q++x::l.drop q).length) (Ru rfl (R40 l q x (by omega) h3 0) (by kernel_rfl) ⟨.inl rfl,rfl,.inl rfl,rfl,.inl rfl,rfl,G⟩ ⟨rfl,G⟩ rfl rfl rfl) O (JLm (.vec 1090 (0+4) 1 (l.take q++x::l.drop q).length) O (G5 (h2 (Gq ?_)))))))))))))))
  exact⟨[.vec 1090 (0+4) 1 (l.take q++x::l.drop q).length],[(1090,.vec 3 1 (0+4) ((l.take q++x::l.drop q).map I64))],⟨⟨_,O,.vec⟩,G⟩,O,⟨⟨_,O,.conv (.same O)⟩,G⟩,0+4,O,O⟩
theorem Jb9 (l:List Int) (n:Int) (x:Int) (r:List Int) (h:G34 l n x=some r):Pure Tryz.prog 66 [LS 1 I64 l,I64 n,I64 x] (·=LS 1 I64 r):=(Ha1 l n x r h).data0
def Jb8:=PLift.up Jb9

/-! ### twistlock/api.Stowed -/
theorem J4:sliceB Tryz.prog 38 55 4=true:=by kernel_rfl
theorem J93:Z8 Tryz.prog 55 4 32=true:=by kernel_rfl
theorem J92:(Tryz.prog.info? 55).bind (fun i=>i.zero.map Value.cells)=some ([E0,E0,E0,.int .u8 0]:List Value).toArray:=by kernel_rfl
theorem H4e:Tryz.prog.follows .mixedOrders=true:=by kernel_rfl
theorem Ha0 (l:List Stowed) (h:l.length≤100000):Qb l=some l:=by
 unfold Qb
 refine J3f (fun b hb=>?_)
 cases b with
 | true=>rw [hb rfl]; rfl
 | false=>exact G30 (G00 (M1 ⟨by simp; omega,by simp [maxLen]; omega⟩) (Gg rfl))

theorem J84 (xs:List Stowed) (n:Nat) (hn:n < xs.length) (hm:xs.length≤100000) (ver:Nat) :
  Jh Tryz.prog 111 [.vec 1028 ver 4 xs.length,I64 (n:Int),I64 ((n+1:Nat):Int)] [(1028,.vec 55 4 ver (xs.map Stowed.av))] (fun u L'=>u=.vec 1028 (ver+2) 4 (xs.eraseIdx n).length∧L'=[(1028,.vec 55 4 (ver+2) ((xs.eraseIdx n).map Stowed.av))]):=by
 obtain⟨Y,hY⟩:∃ Y,Y=(xs.drop (n+1)).take (xs.length - (n+1)):=⟨_,rfl⟩
 have h0:Y.length=xs.length - (n+1):=by rw [hY]; simp
 refine Q9 [1028] [.tmp 6] Tryz.func111 O O (G56 O) (Jr fun h1=>(JLm (.sc (.slice none 0 0)) O (G5 (h1 (Jr fun h2=>(JLm (.vec 1028 ver 4 xs.length) O (JLm (I64 (n:Int)) O (JLm (I64 ((n+1:Nat):Int)) O (JLm (.vec 1028 ver 4 xs.length) O (JLh (I64 (xs.length:Int)) (J8e J4 O O O) O (JLh .junk (R1c (lo:=n) (hi:=n+1) (mx:=xs.length) rfl J4 rfl rfl rfl rfl rfl rfl rfl rfl (by omega) (by omega) (by simp)) O (G5 (h2 (Js fun h3=>Jr fun h4=>(JLm (I64 (n:Int)) O (JLm (I64 ((n+1:Nat):Int)) O (JLh (BL (decide ((n:Int)=((n+1:Nat):Int)))) (Q0 O O O) O (G5 (h4 (Gn O (fun hb=>?_) (fun hb=>?_)))))))))))))))))))))
 ·exact absurd (Kz hb) (by omega)
 refine Gr (h3 (Jr fun h5=>(JLm (.vec 1028 ver 4 xs.length) O (JLh (I64 (xs.length:Int)) (J8e J4 O O O) O (JLm (I64 (xs.length:Int)) O (G5 (h5 (Js fun h6=>J5 [6] [0,0,0,0,0,0,0,1] [0,0,0,0,0,0,0,1] [[(1028,.vec 55 4 ver (xs.map Stowed.av))],[(1028,.vec 55 4 ver ((xs.take n++Y++xs.drop (n+Y.length)).map Stowed.av)),(1028,.vec 55 4 ver (xs.map Stowed.av))]] H4e (by kernel_rfl) rfl rfl ?_))))))))
 refine Gd (u:=.vec 1028 ver 4 xs.length) O O ⟨Ge (Ga8 _ O O) O,G⟩ (Gd (u:=I64 (n:Int)) O O ⟨Ge (Ga8 _ O O) O,G⟩ (Gd (u:=.vsl 1028 ver 4 0 n) rfl rfl ⟨Ge (R19 (f:=Stowed.av) (xs:=xs) rfl rfl rfl rfl J4 ⟨rfl,by omega⟩) rfl,trivial⟩ (Gd (u:=.vec 1028 ver 4 xs.length) O O ⟨Ge (Ga8 _ O O) O,G⟩ (Gd (u:=I64 ((n+1:Nat):Int)) O O ⟨Ge (Ga8 _ O O) O,G⟩ (Gd (u:=.vsl 1028 ver 4 (n+1) (xs.length - (n+1))) rfl rfl ⟨Ge (Geb (f:=Stowed.av) (xs:=xs) rfl rfl rfl rfl J4 ⟨rfl,by omega⟩) rfl,trivial⟩ (D_w (u:=.vsl 1028 ver 4 0 (n+Y.length)) rfl rfl rfl rfl (Ge (Q31 (f:=Stowed.av) (xs:=xs) (ys:=Y) rfl J4 rfl rfl (hY ▸ Q45 rfl rfl) (fun _=>rfl) (by omega) rfl) rfl) (Gd (u:=.vsl 1028 ver 4 0 (n+Y.length)) O O ⟨Ge (Ga8 _ O O) O,G⟩ ?_)))))))
 refine Qw (h6 ?_)
 have h9:(xs.take n++Y++xs.drop (n+Y.length)).length=xs.length:=by rw [Mf,Mf,List.length_take,List.length_drop,h0]; omega
 refine Jr fun h7=>(JLm (.vsl 1028 ver 4 0 (n+Y.length)) O (JLm (.vsl 1028 ver 4 0 (n+Y.length)) O (JLh (I64 ((n+Y.length:Nat):Int)) (Ra6 O J4 O O) O (JLm (I64 (xs.length:Int)) O (JLh (.vsl 1028 ver 4 (n+Y.length) (xs.length - (n+Y.length))) (Ga7 (lo:=n+Y.length) (hi:=xs.length) rfl J4 rfl rfl (.inr ⟨_,_,rfl,rfl⟩) (.inr ⟨_,_,rfl,rfl⟩) (by omega) (by rw [Mj,h9]; exact M8) rfl) O (Hp (Rac (f:=Stowed.av) (xs:=xs.take n++Y++xs.drop (n+Y.length)) (Stowed.mk 0 (Slot.mk 0 0 0)) [E0,E0,E0,.int .u8 0] O J4 (.inr O) O J92 O O O ⟨.inl O,.inl O,.inl O,.inl O,G⟩) (G5 (h7 (Jr fun h8=>(JLm (.vsl 1028 ver 4 0 (n+Y.length)) O (JLm (.vsl 1028 ver 4 0 (n+Y.length)) O (G5 (h8 ?_)))))))))))))
 refine Q48 6 O O (H65 (f:=Stowed.av) (xs.eraseIdx n) 6 (ver+2) rfl rfl (by omega) ?_ ?_)
 ·rw [← List.map_take]
  refine congrArg (List.map Stowed.av) ?_
  have:=Y37 xs n (Stowed.mk 0 (Slot.mk 0 0 0)) hn
  rw [← hY] at this
  exact this
 refine Gq (⟨[.vec 1028 (ver+2) 4 (xs.eraseIdx n).length],[(1028,.vec 55 4 (ver+2) ((xs.eraseIdx n).map Stowed.av))],⟨⟨_,O,.vec⟩,G⟩,O,⟨⟨_,O,.conv (.same O)⟩,G⟩,O,O⟩)

def Y2 (l:List Stowed) (n:Int):Option (List Stowed):=bif decide (0≤n)&&(decide (n < (l.length:Int))&&decide (l.length≤100000)) then some (l.eraseIdx n.toNat) else none
theorem G96 (l:List Stowed) (n:Int) (r:List Stowed) (h:Y2 l n=some r):Jh Tryz.prog 54 [LS 4 Stowed.av l,I64 n] [] (fun av L'=>∃ p:Nat,av=.vec 1028 p 4 r.length∧L'=[(1028,.vec 55 4 p (r.map Stowed.av))]):=by
 unfold Y2 at h
 cases hc:(decide (0≤n)&&(decide (n < (l.length:Int))&&decide (l.length≤100000))) with
 | false=>rw [hc] at h; cases h
 | true=>
  rw [hc] at h
  simp only [Mh,Mi] at hc
  obtain⟨h1,h2,h3⟩:=hc
  obtain⟨q,rfl⟩:∃ q:Nat,n=(q:Int):=⟨n.toNat,by omega⟩
  have h:=M5 h
  simp only [Int.toNat_natCast] at h
  subst h
  refine Q9 [] [.tmp 4] Tryz.func54 O O (G56 O) (Jr fun h1=>(JLm (.sc (.slice none 0 0)) O (G5 (h1 (Jr fun h2=>(JLm (LS 4 Stowed.av l) O (JLh (.vec 1028 0 4 l.length) (Ru (args:=[LS 4 Stowed.av l]) (L0:=[]) (Lr:=[(1028,.vec 55 4 0 (l.map Stowed.av))]) rfl ((Ye l l (Ha0 l h3)).ver 0) (by kernel_rfl) ⟨.inl rfl,rfl,G⟩ G rfl rfl rfl) O (JLm (I64 (q:Int)) O (JLm (I64 (q:Int)) O (JLh (I64 ((q+1:Nat):Int)) (Jg (by rw [IntKind.wrap_i64]; omega) rfl rfl rfl) O (JLh (.vec 1028 (0+2) 4 (l.eraseIdx q).length) (Ru rfl (J84 l q (by omega) h3 0) (by kernel_rfl) ⟨.inl rfl,rfl,.inl rfl,rfl,.inl rfl,rfl,G⟩ ⟨rfl,G⟩ rfl rfl rfl) O (JLm (.vec 1028 (0+2) 4 (l.eraseIdx q).length) O (G5 (h2 (Gq ?_)))))))))))))))
  exact⟨[.vec 1028 (0+2) 4 (l.eraseIdx q).length],[(1028,.vec 55 4 (0+2) ((l.eraseIdx q).map Stowed.av))],⟨⟨_,O,.vec⟩,G⟩,O,⟨⟨_,O,.conv (.same O)⟩,G⟩,0+2,O,O⟩
theorem H81 (l:List Stowed) (n:Int) (r:List Stowed) (h:Y2 l n=some r):Pure Tryz.prog 54 [LS 4 Stowed.av l,I64 n] (·=LS 4 Stowed.av r):=(G96 l n r h).data0
def H80:=PLift.up H81

set_option maxHeartbeats 2000000 in
theorem J83 (xs:List Stowed) (n:Nat) (y:Stowed) (hn:n≤xs.length) (hm:xs.length≤100000) (ver:Nat) :
  Jh Tryz.prog 149 [.vec 1028 ver 4 xs.length,I64 (n:Int),LS 4 Stowed.av [y]] [(1028,.vec 55 4 ver (xs.map Stowed.av))] (fun u L'=>u=.vec 1028 (ver+4) 4 (xs.take n++y::xs.drop n).length∧L'=[(1028,.vec 55 4 (ver+4) ((xs.take n++y::xs.drop n).map Stowed.av))]):=by
 refine Q9 [1028] [.tmp 6] Tryz.func149 O O (G56 O) (Jr fun h1=>(JLm (.sc (.slice none 0 0)) O (G5 (h1 (Jr fun h2=>(JLm (.vec 1028 ver 4 xs.length) O (JLm (I64 (n:Int)) O (JLh (.vsl 1028 ver 4 n (xs.length - n)) (Geb (f:=Stowed.av) (xs:=xs) O O O O J4 ⟨O,hn⟩) O (G5 (h2 (Jr fun h3=>(JLm (LS 4 Stowed.av [y]) O (JLh (I64 ((1:Nat):Int)) (G20 (f:=Stowed.av) (xs:=[y]) J4 O O) O (JLm (I64 ((1:Nat):Int)) O (G5 (h3 (Js fun h4=>Jr fun h5=>(JLm (I64 ((1:Nat):Int)) O (JLh (BL (decide (((1:Nat):Int)=0))) (Q0 O O O) O (G5 (h5 (Gn O (fun hb=>?_) (fun hb=>?_)))))))))))))))))))))))
 ·exact absurd (Kz hb) (by omega)
 refine Gr (h4 (Jr fun h6=>(JLm (.vec 1028 ver 4 xs.length) O (JLh (I64 (xs.length:Int)) (J8e J4 O O O) O (JLm (I64 (xs.length:Int)) O (G5 (h6 (Js fun h7=>Jr fun h8=>(JLm (I64 (n:Int)) O (JLm (I64 (xs.length:Int)) O (JLh (BL (decide ((n:Int)=(xs.length:Int)))) (Q0 O O O) O (G5 (h8 (Gn O (fun hb=>?_) (fun hb=>?_)))))))))))))))
 ·-- at the end
  have hb:=Kz hb
  have a5:n=xs.length:=by omega
  refine Jr fun h9=>(JLm (.vec 1028 ver 4 xs.length) O (JLm (LS 4 Stowed.av [y]) O (JLh (.vec 1028 (ver+3) 4 (xs++[y]).length) (G6d (f:=Stowed.av) (xs:=xs) (ys:=[y]) (ver1:=ver+3) rfl rfl rfl rfl J4 J93 (M1 ⟨by rw [Mg]; omega,by rw [Mg]; simp [maxLen]; omega⟩) (fun _=>rfl) (.inl rfl) (by omega)) O (JLm (.vec 1028 (ver+3) 4 (xs++[y]).length) O (G5 (h9 (H65 (f:=Stowed.av) (xs.take n++y::xs.drop n) 6 (ver+4) rfl rfl (by omega) (congrArg (List.map Stowed.av) (by rw [a5,List.take_length,List.drop_length])) (Gq (⟨[.vec 1028 (ver+4) 4 (xs.take n++y::xs.drop n).length],[(1028,.vec 55 4 (ver+4) ((xs.take n++y::xs.drop n).map Stowed.av))],⟨⟨_,O,.vec⟩,G⟩,O,⟨⟨_,O,.conv (.same O)⟩,G⟩,O,O⟩)))))))))
 have hb:=M0 hb
 have a1:n < xs.length:=by omega
 refine Gr (h7 (Y3f 0 O O (fun c a6 c1=>?_)))
 rw [Mj] at a6
 refine Qc (l':=[(0,.vcap 1028 ver 4 xs.length c),(1,I64 (n:Int)),(2,LS 4 Stowed.av [y]),(7,I64 ((1:Nat):Int)),(8,I64 (xs.length:Int))]) (L':=[(1028,.vec 55 4 ver (xs.map Stowed.av))]) ⟨⟨.eq (by rw [show (xs.map Stowed.av).length=xs.length from Mj ..]; rfl) rfl,.same rfl,.same rfl,.same rfl,.same rfl,G⟩,⟨⟨_,rfl,.vec⟩,G⟩,rfl⟩ (Js fun a7=>Jr fun a8=>(JLm (I64 (xs.length:Int)) O (JLm (I64 ((1:Nat):Int)) O (JLh (I64 ((xs.length+1:Nat):Int)) (Jg (by rw [IntKind.wrap_i64]; omega) rfl rfl rfl) O (JLm (.vcap 1028 ver 4 xs.length c) O (JLh (I64 (c:Int)) (R1b O J4 O O) O (JLh (BL (decide ((c:Int) < ((xs.length+1:Nat):Int)))) (Gbe O O O) O (G5 (a8 (Gn O (fun hb=>?_) (fun hb=>?_)))))))))))
 ·-- a new row
  have hb:=Kz hb
  obtain⟨p,hp⟩:∃ p,p=xs.length+1 - n:=⟨_,rfl⟩
  obtain⟨X1,a2⟩:∃ X1,xs.take n++List.replicate p (Stowed.mk 0 (Slot.mk 0 0 0))=X1:=⟨_,rfl⟩
  have a9:X1.length=xs.length+1:=by rw [← a2,Mf,List.length_take,List.length_replicate]; omega
  obtain⟨X2,h0⟩:∃ X2,overlay X1 n [y] (X1.length - n)=X2:=⟨_,rfl⟩
  have b0:X2.length=xs.length+1:=by
   rw [← h0]; unfold overlay
   rw [Mg,Nat.min_eq_left (by omega)]; simp; omega
  obtain⟨Y,hY⟩:∃ Y,Y=(xs.drop n).take (xs.length - n):=⟨_,rfl⟩
  obtain⟨X3,a3⟩:∃ X3,overlay X2 (n+1) Y (X2.length - (n+1))=X3:=⟨_,rfl⟩
  refine Jr fun b1=>(JLm (.vcap 1028 ver 4 xs.length c) O (JLm (I64 (n:Int)) O (JLh (.vcap 1028 ver 4 n c) (Jca rfl J4 rfl rfl rfl rfl (by omega)) O (JLm (I64 (xs.length:Int)) O (JLm (I64 ((1:Nat):Int)) O (JLh (I64 ((xs.length+1:Nat):Int)) (Jg (by rw [IntKind.wrap_i64]; omega) rfl rfl rfl) O (JLm (I64 (n:Int)) O (JLh (I64 (p:Int)) (H4d (by rw [IntKind.wrap_i64]; omega) rfl rfl rfl) O (JLh (.vec 77000002 0 4 X1.length) (Qcf (f:=Stowed.av) (xs:=xs) 77000002 (Stowed.mk 0 (Slot.mk 0 0 0)) [E0,E0,E0,.int .u8 0] X1 a2 rfl rfl rfl rfl rfl J4 (kn:=.i64) (by kernel_rfl) J93 J92 rfl rfl ⟨.inl rfl,.inl rfl,.inl rfl,.inl rfl,G⟩ (by omega) (by simp [maxLen]; omega) hn (by omega) (by omega) (by omega) rfl) O (JLm (.vec 77000002 0 4 X1.length) O (G5 (b1 ?_))))))))))))
  refine Jr fun b2=>(JLm (.vec 77000002 0 4 X1.length) O (JLm (I64 (n:Int)) O (JLh (.vsl 77000002 0 4 n (X1.length - n)) (Geb (f:=Stowed.av) (xs:=X1) rfl rfl rfl rfl J4 ⟨rfl,by omega⟩) O (JLm (LS 4 Stowed.av [y]) O (G0 (Q4b (f:=Stowed.av) (xs:=X1) (ys:=[y]) X2 h0 O J4 (.inr O) O (R9d O (.inl O)) (fun _=>O)) ?_)))))
  refine G5 (b2 (Qc (l':=[(0,.vcap 1028 ver 4 xs.length c),(1,I64 (n:Int)),(2,LS 4 Stowed.av [y]),(7,I64 ((1:Nat):Int)),(9,.vec 77000002 0 4 X2.length)]) (L':=[(77000002,.vec 55 4 0 (X2.map Stowed.av)),(1028,.vec 55 4 ver (xs.map Stowed.av))]) ⟨⟨.same rfl,.same rfl,.same rfl,.same rfl,.eq (by rw [b0,← a9]; rfl) rfl,G⟩,⟨⟨_,rfl,.vec⟩,⟨_,rfl,.vec⟩,G⟩,rfl⟩ (Js fun b3=>J5 [8] [0,0,0,0,0,0,0,0,0] [0,0,0,0,0,0,0,0,0] [[(77000002,.vec 55 4 0 (X2.map Stowed.av)),(1028,.vec 55 4 ver (xs.map Stowed.av))],[(77000002,.vec 55 4 0 (X3.map Stowed.av)),(77000002,.vec 55 4 0 (X2.map Stowed.av)),(1028,.vec 55 4 ver (xs.map Stowed.av))]] H4e (by kernel_rfl) rfl rfl ?_)))
  refine Gd (u:=.vec 77000002 0 4 X2.length) O O ⟨Ge (Ga8 _ O O) O,G⟩ (Gd (u:=I64 (n:Int)) O O ⟨Ge (Ga8 _ O O) O,G⟩ (Gd (u:=I64 ((1:Nat):Int)) O O ⟨Ge (Ga8 _ O O) O,G⟩ (Gd (u:=I64 ((n+1:Nat):Int)) rfl rfl ⟨Ge (Jg (by rw [IntKind.wrap_i64]; omega) rfl rfl rfl) rfl,G⟩ (Gd (u:=.vsl 77000002 0 4 (n+1) (X2.length - (n+1))) rfl rfl ⟨Ge (Geb (f:=Stowed.av) (xs:=X2) rfl rfl rfl rfl J4 ⟨rfl,by omega⟩) rfl,trivial⟩ (Gd (u:=.vcap 1028 ver 4 xs.length c) O O ⟨Ge (Ga8 _ O O) O,G⟩ (Gd (u:=I64 (n:Int)) O O ⟨Ge (Ga8 _ O O) O,G⟩ (Gd (u:=.vsl 1028 ver 4 n (xs.length - n)) rfl rfl ⟨Ge (Ra8 rfl J4 rfl rfl rfl rfl hn (by simp) (by simp; omega)) rfl,G⟩ (D_w (u:=I64 ((min Y.length (X2.length - (n+1)):Nat):Int)) O O O O (Ge (Q4b (f:=Stowed.av) (xs:=X2) (ys:=Y) X3 a3 O J4 (.inr O) O (hY ▸ Q45 O O) (fun _=>O)) O) ?_))))))))
  refine Qw (b3 (Jr fun b4=>(JLm (.vec 77000002 0 4 X2.length) O (JLm (.vec 77000002 0 4 X2.length) O (G5 (b4 (Ra2 (f:=Stowed.av) (xs.take n++y::xs.drop n) 6 1028 (ver+4) rfl rfl rfl (by decide) (by omega) (congrArg (List.map Stowed.av) ?_) ?_)))))))
  ·rw [show X2.length - (n+1)=xs.length+1 - (n+1) by omega] at a3
   rw [show X1.length - n=p by omega] at h0
   rw [← a3,← h0,← a2,hY]
   exact R90 xs n y (Stowed.mk 0 (Slot.mk 0 0 0)) a1 _ _ _ hp O O
  refine Gq (⟨[.vec 1028 (ver+4) 4 (xs.take n++y::xs.drop n).length],[(1028,.vec 55 4 (ver+4) ((xs.take n++y::xs.drop n).map Stowed.av))],⟨⟨_,O,.vec⟩,G⟩,O,⟨⟨_,O,.conv (.same O)⟩,G⟩,O,O⟩)
 have hb:=M0 hb
 obtain⟨X,hX⟩:∃ X,X=xs.map Stowed.av++List.replicate ((xs.map Stowed.av).length+1 - (xs.map Stowed.av).length) (.agg (List.replicate 4 .junk)):=⟨_,rfl⟩
 have a4:X.length=xs.length+1:=by rw [hX]; simp
 refine Gr (a7 (Jr fun b5=>(JLm (.vcap 1028 ver 4 xs.length c) O (JLm (I64 (xs.length:Int)) O (JLm (I64 ((1:Nat):Int)) O (JLh (I64 ((xs.length+1:Nat):Int)) (Jg (by rw [IntKind.wrap_i64]; omega) rfl rfl rfl) O (JLh (.vcap 1028 ver 4 (xs.length+1) c) (Jca rfl J4 rfl rfl rfl rfl (by omega)) O (Q2d 60 X (by rw [hX,Mj]) rfl rfl (by simp) (by omega) (by simp; omega) (JLm (.vsl 1028 (ver+1) 4 0 (xs.length+1)) O (G5 (b5 (Js fun c2=>?_))))))))))))
 refine Jr fun b6=>(JLm (LS 4 Stowed.av [y]) O (JLm (.vsl 1028 (ver+1) 4 0 (xs.length+1)) O (JLm (I64 (n:Int)) O (JLm (I64 ((1:Nat):Int)) O (JLh (I64 ((n+1:Nat):Int)) (Jg (by rw [IntKind.wrap_i64]; omega) rfl rfl rfl) O (JLh (.vsl 1028 (ver+1) 4 (n+1) (xs.length+1 - (n+1))) (Ga7 (lo:=n+1) (hi:=xs.length+1) rfl J4 rfl rfl (.inr ⟨_,_,rfl,rfl⟩) (.inl ⟨rfl,rfl⟩) (by omega) (by omega) rfl) O (JLh (BL false) (Qcb (S:=4) rfl Tryz.func170 (by kernel_rfl) (by kernel_rfl) (by kernel_rfl) (by kernel_rfl) J4 rfl rfl rfl rfl rfl (by simp) (by omega)) O (JLh (BL true) (Qx (b:=false) O O) O (G5 (b6 (Gn rfl (fun hb=>?_) (fun hb=>by cases hb))))))))))))
 obtain⟨Y,hY⟩:∃ Y,Y=X.take (n+1)++(((X.drop n).take (xs.length+1 - n)).take (min ((X.drop n).take (xs.length+1 - n)).length (xs.length+1 - (n+1))))++X.drop (n+1+min ((X.drop n).take (xs.length+1 - n)).length (xs.length+1 - (n+1))):=⟨_,rfl⟩
 have c3:Y.length=xs.length+1:=by
  have b7:((X.drop n).take (xs.length+1 - n)).length=xs.length+1 - n:=by rw [List.length_take,List.length_drop,a4]; omega
  rw [hY,b7,Nat.min_eq_right (by omega)]
  simp only [Mf,List.length_take,List.length_drop,a4]
  omega
 refine Qc (l':=[(0,.vsl 1028 (ver+1) 4 0 (xs.length+1)),(1,I64 (n:Int)),(2,LS 4 Stowed.av [y]),(7,I64 ((1:Nat):Int))]) (L':=[(1028,.vec 55 4 (ver+1) X)]) ⟨(.sm O O),⟨⟨_,rfl,.vec⟩,G⟩,rfl⟩ (Js fun b8=>J5 [8] [0,0,0,0,0,0,0,0,0] [0,0,0,0,0,0,0,0,0] [[(1028,.vec 55 4 (ver+1) X)],[(1028,.vec 55 4 (ver+1) Y),(1028,.vec 55 4 (ver+1) X)]] H4e (by kernel_rfl) rfl rfl ?_)
 refine Gd (u:=.vsl 1028 (ver+1) 4 0 (xs.length+1)) O O ⟨Ge (Ga8 _ O O) O,G⟩ (Gd (u:=I64 (n:Int)) O O ⟨Ge (Ga8 _ O O) O,G⟩ (Gd (u:=I64 ((1:Nat):Int)) O O ⟨Ge (Ga8 _ O O) O,G⟩ (Gd (u:=I64 ((n+1:Nat):Int)) rfl rfl ⟨Ge (Jg (by rw [IntKind.wrap_i64]; omega) rfl rfl rfl) rfl,G⟩ (Gd (u:=.vsl 1028 (ver+1) 4 (n+1) (xs.length+1 - (n+1))) rfl rfl ⟨Ge (Ga7 (lo:=n+1) (hi:=xs.length+1) rfl J4 rfl rfl (.inr ⟨_,_,rfl,rfl⟩) (.inl ⟨rfl,rfl⟩) (by omega) (by omega) rfl) rfl,G⟩ (Gd (u:=.vsl 1028 (ver+1) 4 0 (xs.length+1)) O O ⟨Ge (Ga8 _ O O) O,G⟩ (Gd (u:=I64 (n:Int)) O O ⟨Ge (Ga8 _ O O) O,G⟩ (Gd (u:=.vsl 1028 (ver+1) 4 n (xs.length+1 - n)) rfl rfl ⟨Ge (Ga7 (lo:=n) (hi:=xs.length+1) rfl J4 rfl rfl (.inr ⟨_,_,rfl,rfl⟩) (.inl ⟨rfl,rfl⟩) (by omega) (by omega) rfl) rfl,G⟩ (D_w (u:=I64 ((min ((X.drop n).take (xs.length+1 - n)).length (xs.length+1 - (n+1)):Nat):Int)) O O O O (Ge (Y4a (ys:=(X.drop n).take (xs.length+1 - n)) Y hY.symm O J4 ⟨O,.inr O⟩ (.inr (.inr ⟨_,_,_,_,_,_,O,O,O⟩)) (Q26 (f:=Stowed.av) (fun _=>O) hX a1 O O)) O) ?_))))))))
 refine Qw (b8 (Jr fun b9=>(JLm (.vsl 1028 (ver+1) 4 0 (xs.length+1)) O (JLm (I64 (n:Int)) O (JLh (.vsl 1028 (ver+1) 4 n (xs.length+1 - n)) (Ga7 (lo:=n) (hi:=xs.length+1) rfl J4 rfl rfl (.inr ⟨_,_,rfl,rfl⟩) (.inl ⟨rfl,rfl⟩) (by omega) (by omega) rfl) O (JLm (LS 4 Stowed.av [y]) O ?_))))))
 refine G0 (R4a (xs:=Y) (ys:=[Stowed.av y]) O J4 ⟨O,.inr O⟩ (.inl ⟨_,O,.inl O⟩) (fun z hz=>by
  have:=List.mem_of_mem_take hz
  rw [Mn] at this
  subst this; rfl)) ?_
 refine G5 (b9 (Jr fun c0=>(JLm (.vsl 1028 (ver+1) 4 0 (xs.length+1)) O (JLm (.vsl 1028 (ver+1) 4 0 (xs.length+1)) O (G5 (c0 (Q48 6 O O (H65 (f:=Stowed.av) (xs.take n++y::xs.drop n) 6 (ver+4) rfl rfl (by omega) ?_ (Gq ⟨[.vec 1028 (ver+4) 4 (xs.take n++y::xs.drop n).length],[(1028,.vec 55 4 (ver+4) ((xs.take n++y::xs.drop n).map Stowed.av))],⟨⟨_,rfl,.vec⟩,G⟩,rfl,⟨⟨_,rfl,.conv (.same rfl)⟩,G⟩,rfl,rfl⟩)))))))))
 have a0:(xs.map Stowed.av).length=xs.length:=Mj ..
 have:=R7c (f:=id) (xs.map Stowed.av) n (Stowed.av y) (.agg (List.replicate 4 .junk)) (by rw [a0]; exact a1) (xs.length+1 - n) (xs.length+1 - (n+1)) (by rw [a0]) (by rw [a0]) X Y hX hY
 rw [a0] at this
 rw [List.map_append,List.map_cons,List.map_take,List.map_drop]
 exact this

def Y5 (l:List Stowed) (n:Int) (x:Stowed):Option (List Stowed):=bif decide (0≤n)&&(decide (n≤(l.length:Int))&&decide (l.length≤100000)) then some (l.take n.toNat++x::l.drop n.toNat) else none
theorem J94:Gf6 Tryz.prog 55 4=true:=by kernel_rfl
theorem Gdf (l:List Stowed) (n:Int) (x:Stowed) (r:List Stowed) (h:Y5 l n x=some r):Jh Tryz.prog 116 [LS 4 Stowed.av l,I64 n,.agg (Stowed.cs x)] [] (fun av L'=>∃ p:Nat,av=.vec 1028 p 4 r.length∧L'=[(1028,.vec 55 4 p (r.map Stowed.av))]):=by
 unfold Y5 at h
 cases hc:(decide (0≤n)&&(decide (n≤(l.length:Int))&&decide (l.length≤100000))) with
 | false=>rw [hc] at h; cases h
 | true=>
  rw [hc] at h
  simp only [Mh,Mi] at hc
  obtain⟨h1,h2,h3⟩:=hc
  obtain⟨q,rfl⟩:∃ q:Nat,n=(q:Int):=⟨n.toNat,by omega⟩
  have h:=M5 h
  simp only [Int.toNat_natCast] at h
  subst h
  refine Q9 [] [.tmp 6] Tryz.func116 O O (G56 O) (Jr fun h1=>(JLh (.ptr 77000003 0) (Jm (cs:=Stowed.cs x) 77000003 O O O O O) O (JLm (.sc (.slice none 0 0)) O (G5 (h1 (Gm [(0,LS 4 Stowed.av l),(1,I64 (q:Int)),(5,.dptr (Stowed.cs x))] [] 77000003 rfl rfl rfl G rfl (by exact⟨.conv (.same rfl),.conv (.same rfl),.ptr,G⟩) (Js fun h2=>J5 [1,5] [0,0,0,0,0,0,2] [0,0,1,1,1,0,2] [[],[(1028,.vec 55 4 0 (l.map Stowed.av))],[(1028,.vec 55 4 (0+4) ((l.take q++x::l.drop q).map Stowed.av))]] H4e (by kernel_rfl) rfl rfl ?_)))))))
  refine Gd (u:=LS 4 Stowed.av l) O O ⟨Ge (Ga8 _ O O) O,G⟩ (D_w (u:=.vec 1028 0 4 l.length) rfl rfl rfl rfl (Ge (Ru (args:=[LS 4 Stowed.av l]) (L0:=[]) (Lr:=[(1028,.vec 55 4 0 (l.map Stowed.av))]) rfl ((Ye l l (Ha0 l h3)).ver 0) (by kernel_rfl) ⟨.inl rfl,rfl,G⟩ G rfl rfl rfl) rfl) (Gd (u:=I64 (q:Int)) O O ⟨Ge (Ga8 _ O O) O,Ge (Ga8 _ O O) O,G⟩ (Gd (u:=.agg (Stowed.cs x)) O O ⟨Ge (Gj J94 O O O) O,Ge (Gj J94 O O O) O,G⟩ (Gd (u:=LS 4 Stowed.av [x]) rfl rfl ⟨Ge (H9 (xs:=[Stowed.av x]) rfl ⟨rfl,rfl,G⟩ J4 (by kernel_rfl) rfl rfl rfl rfl) rfl,Ge (H9 (xs:=[Stowed.av x]) rfl ⟨rfl,rfl,G⟩ J4 (by kernel_rfl) rfl rfl rfl rfl) rfl,G⟩ (D_w (u:=.vec 1028 (0+4) 4 (l.take q++x::l.drop q).length) rfl rfl rfl rfl (Ge (Ru (args:=[.vec 1028 0 4 l.length,I64 (q:Int),LS 4 Stowed.av [x]]) rfl (J83 l q x (by omega) h3 0) (by kernel_rfl) ⟨.inl rfl,rfl,.inl rfl,rfl,.inl rfl,rfl,G⟩ ⟨rfl,G⟩ rfl rfl rfl) rfl) (Gd (u:=.vec 1028 (0+4) 4 (l.take q++x::l.drop q).length) O O ⟨Ge (Ga8 _ O O) O,G⟩ ?_))))))
  refine Qw (h2 (Gq (⟨[.vec 1028 (0+4) 4 (l.take q++x::l.drop q).length],[(1028,.vec 55 4 (0+4) ((l.take q++x::l.drop q).map Stowed.av))],⟨⟨_,O,.vec⟩,G⟩,O,⟨⟨_,O,.conv (.same O)⟩,G⟩,0+4,O,O⟩)))
theorem Hc5 (l:List Stowed) (n:Int) (x:Stowed) (r:List Stowed) (h:Y5 l n x=some r):Pure Tryz.prog 116 [LS 4 Stowed.av l,I64 n,.agg (Stowed.cs x)] (·=LS 4 Stowed.av r):=(Gdf l n x r h).data0
def Hc4:=PLift.up Hc5
end Go.Proofs.YtidpfkmbfgihlaaGreat
