/-
 Slices that are lent aQ local objects,with what lies behind What a model returns, slices.Delete of one element.
-/
import Derived.Test.YtibhpogonkdiaaaGreatIterJ
import Derived.Test.YtibhpogonkdiaaaGreatRel
import Derived.Test.YtibhpogonkdiaaaGreatXC
set_option linter.unusedSimpArgs false
set_option linter.unnecessarySimpa false
namespace Go.Proofs.YtibhpogonkdiaaaGreat
open Go.RowKit
set_option linter.unusedVariables false

section vals
variable {w:World} {β:Gr} {L:Loc}
theorem V.vsl_lst {α:Type} {f:α→AV} {i ver k t:Nat} {e:Ln α} {v:Value} (h5:Sat w β L) (hi:lk L i=some (.vec t k ver ((e.1++e.2).map f))) (h6:Nat.blt 0 k=true) (hv:V w β L (.vsl i ver k 0 e.1.length) v):D w (fun b _=>b < w.heap.size) (LT k f e) v:=by
 have h8:0 < k:=by simpa [Nat.blt_eq] using h6
 obtain⟨_,hn,_⟩:=hv.inv_vsl hi
 obtain⟨o1,o2⟩:=h5.obj i _ hi
 rcases hv.inv_vsl0 hi with ⟨rfl,e2,e3⟩ | ⟨b,cap,rfl,e2,e3,e4,e5⟩
 ·have h9:(e.1++e.2).map f=[]:=by
   rcases o2 with ⟨_,o2⟩ | ⟨b',o2,_⟩
   ·exact o2
   ·rw [show β i=β.at_ i from rfl,e3] at o2; cases o2
  have h2:=List.map_eq_nil_iff.1 h9
  obtain⟨h3,h4⟩:=List.append_eq_nil_iff.1 h2
  show D w _ (.lst k (e.1.map f) (e.2.map f)) _
  rw [h3,h4]
  exact .lnil (Nat.zero_le _)
 ·rcases o2 with ⟨o2,_⟩ | ⟨b',o2,vs,o3,o4,o5⟩
  ·rw [show β i=β.at_ i from rfl,e2] at o2; cases o2
  ·rw [show β i=β.at_ i from rfl,e2] at o2; cases o2
   have hs:vs.size=cap*k:=by simpa [World.shape?,o3] using e5
   have h7:((e.1++e.2).map f).length≤cap:=by
    rw [hs] at o4
    exact Nat.le_of_mul_le_mul_right o4 h8
   have h0:e.1.map f++e.2.map f=(e.1++e.2).map f:=List.map_append.symm
   have a0:(e.1.map f).length=e.1.length:=Me ..
   show D w _ (.lst k (e.1.map f) (e.2.map f)) _
   rw [← a0]
   have h1:∀ j,j < (flat ((e.1++e.2).map f)).length→j < vs.size:=fun j hj=>by
    rw [Hu o1] at hj
    omega
   refine .lst (fun j=>vs.getD j undef) ?_ e4 ?_ (fun j hj=>⟨(Kn o3).1,?_⟩) (fun j u hu=>?_)
   ·rw [← Ma,h0]; exact h7
   ·rw [h0]; exact o1
   ·rw [h0] at hj
    have:=h1 j hj
    simp [World.cell?,o3,this]
   ·rw [h0] at hu
    have hj:=(Ky hu).1
    have:=h1 j hj
    exact(o5 j u _ hu (by simp [this])).mono fun b i hs=>⟨hs.lt,rfl⟩
theorem V.vsl_list {α:Type} {f:α→AV} {i ver k t:Nat} {e:Ln α} {v:Value} (h0:Sat w β L) (hi:lk L i=some (.vec t k ver ((e.1++e.2).map f))) (h1:Nat.blt 0 k=true) (hv:V w β L (.vsl i ver k 0 e.1.length) v):D w (fun b _=>b < w.heap.size) (LS k f e.1) v:=
 (hv.vsl_lst h0 hi h1).lst_list
end vals

section calls
variable {P:Program} {o:Oper} {l:Fr} {L:Loc} {u:AV}
inductive Ja1 (L:Loc):AV→AV→Prop
 | data {u u':AV} (h:u.plain=u') (hd:u'.isData=true):Ja1 L u u'
 | vsl {α:Type} {f:α→AV} {i ver k t:Nat} {e:Ln α} (hi:lk L i=some (.vec t k ver ((e.1++e.2).map f))) (hpos:Nat.blt 0 k=true):Ja1 L (.vsl i ver k 0 e.1.length) (LS k f e.1)
 | vlt {α:Type} {f:α→AV} {i ver k t:Nat} {e:Ln α} (hi:lk L i=some (.vec t k ver ((e.1++e.2).map f))) (hpos:Nat.blt 0 k=true):Ja1 L (.vsl i ver k 0 e.1.length) (LT k f e)
theorem Ja1.D {w:World} {β:Gr} {u u':AV} (h1:Sat w β L) (h:Ja1 L u u') {v:Value} (hv:V w β L u v):D w (fun b _=>b < w.heap.size) u' v:=by
 cases h with
 | data h hd=>
  subst h
  exact(hv.plain.toD hd).mono fun b i hs=>⟨hs.lt,rfl⟩
 | vsl hi h0=>exact hv.vsl_list h1 hi h0
 | vlt hi h0=>exact hv.vsl_lst h1 hi h0
def G8d (l:Fr) (L:Loc):List Operand→List AV→Prop
 | [],[]=>True
 | x::r,u::s=>Ja1 L (ev l x) u∧G8d l L r s
 | _,_=>False
theorem G8d.length {l:Fr} {L:Loc}:∀ {xs:List Operand} {us:List AV},G8d l L xs us→xs.length=us.length
 | [],[],_=>rfl
 | _::r,_::s,h=>by simp [G8d.length h.2]
end calls

section ops
variable {P:Program} {N:Cfg} {o:Oper} {l:Fr} {L:Loc} {α:Type}
end ops

section rename
variable {w:World} {β:Gr} {L:Loc}
end rename
section renameJ
variable {P:Program} {N:Cfg} {Q:Post} {c:Code} {l:Fr} {L:Loc}
theorem R83 (s ver1:Nat) {i ver k n t:Nat} {xs:List AV} (h1:look l s=.vec i ver k n) (hi:lk L i=some (.vec t k ver xs)) (h3:ver < ver1)
  (hk:JC P N c Q ((s,.vec i ver1 k xs.length)::l) ((i,.vec t k ver1 xs)::L)):JC P N c Q l L:=fun n0 w0 β0 L0 a w β hs=>by
 have hv:=hs.frame.tmp s
 rw [h1] at hv
 obtain⟨h2,h0⟩:J04 w (β.at_ i) t k xs.length (a.tmps.getD s undef)∧(a.tmps.getD s undef).oneCell'=true:=by
  cases hv with
  | data h=>cases h
  | vec hp h0=>
   obtain⟨t',ver',xs',g1,_,g3⟩:=hp
   rw [hi] at g1; cases g1
   obtain⟨rfl,g4⟩:=g3 rfl
   exact⟨g4,h0⟩
 obtain⟨st,sat⟩:=Qj (w':=w) (t:=t) (k:=k) (ver1:=ver1) (xs':=xs) (ob':=β.at_ i) hs.sat (.inr ⟨ver,xs,hi,by omega,fun e=>by omega⟩) rfl rfl ⟨rfl,M3⟩ (M3) (fun _ _ _=>rfl) (.inr (.inl ⟨by rw [inL,hi]; rfl,rfl⟩))
 have sat':=sat ((hs.sat.obj i _ hi).step st (fun b hb=>rfl))
 refine hk n0 w0 β0 L0 a w _ ⟨sat',hs.step.trans st,(hs.frame.step st).over (.vec ⟨t,ver1,xs,by rw [Gb,if_pos rfl],M3,fun _=>⟨rfl,?_⟩⟩ h0),hs.size,hs.base,hs.defers.step st⟩
 rw [show (upP β i (β.at_ i)) i=β.at_ i by simp [upP]]
 exact h2
theorem R52 {α:Type} {f:α→AV} (ys:List α) (s ver1:Nat) {i ver k n t:Nat} {xs:List AV} (h1:look l s=.vec i ver k n) (hi:lk L i=some (.vec t k ver xs)) (h0:ver < ver1) (hx:xs=ys.map f)
  (hk:JC P N c Q ((s,.vec i ver1 k ys.length)::l) ((i,.vec t k ver1 (ys.map f))::L)):JC P N c Q l L:=by
 subst hx
 refine R83 s ver1 h1 hi h0 ?_
 rw [Me]
 exact hk
end renameJ

section
variable {α β σ : Type} {Q : β → Prop}

def Wp (m : Option β) (Q : β → Prop) : Prop := ∃ r, m = some r ∧ Q r

theorem H5 {r : β} (h : Q r) : Wp (some r) Q := ⟨r, rfl, h⟩
theorem wp_mono {m : Option β} {Q' : β → Prop} (h : Wp m Q') (hq : ∀ r, Q' r → Q r) : Wp m Q := by
  obtain ⟨r, e, h⟩ := h; exact ⟨r, e, hq r h⟩
theorem Ht {m : Option α} {k : α → Option β} (h : Wp m (fun x => Wp (k x) Q)) : Wp (bnd m k) Q := by
  obtain ⟨x, rfl, h⟩ := h; exact h
theorem Hh {m : Option α} {k : α → Option β} {x : α} (e : m = some x) (h : Wp (k x) Q) : Wp (bnd m k) Q := by subst e; exact h
theorem R3 {z : Int} {k : Int → Option β} (h1 : -9223372036854775808 ≤ z ∧ z ≤ 9223372036854775807) (h : Wp (k z) Q) : Wp (chk z k) Q := by
  unfold chk Je6
  rw [Kw h1.1, Kw h1.2]; exact h
theorem Q6 {c : Bool} {x y : Option β} (h1 : c = true → Wp x Q) (h2 : c = false → Wp y Q) : Wp (bif c then x else y) Q := by
  cases c with
  | true => exact h1 rfl
  | false => exact h2 rfl
theorem Rk {b : Bool} {k : Option β} (hb : b = true) (h : Wp k Q) : Wp (need b k) Q := by subst hb; exact h
theorem Rb {l : List α} {i : Int} {k : α → Option β} {m : Nat} {x : α} (hi : i = (m : Int)) (hx : l[m]? = some x) (h : Wp (k x) Q) : Wp (Jz l i k) Q := by
  subst hi
  unfold Jz
  rw [Kw (by omega : (0 : Int) ≤ m), cond_true, show (m : Int).toNat = m by omega, hx]
  exact h
theorem G90 {m : (α → Option β) → Option β} {k : α → Option β} (P : α → Prop) (hm : ∀ K : α → Option β, (∀ a, P a → Wp (K a) Q) → Wp (m K) Q) (hk : ∀ a, P a → Wp (k a) Q) : Wp (jp m k) Q := hm k hk
theorem Hec {m n : Int} {Q : Int → Prop} (hn : n ≠ 0) (h : Q (m.tmod n)) : Wp (Gfe m n) Q := by
  unfold Gfe
  rw [Kx hn, cond_false]
  exact H5 h
theorem H1a {i : Int} {n m : Nat} {Q : Nat → Prop} (hi : i = (m : Int)) (hm : m ≤ n) (h : Q m) : Wp (Gc7 i n) Q := by
  subst hi
  unfold Gc7
  rw [Kw (by omega : (0 : Int) ≤ m), show (m : Int).toNat = m by omega, Kw hm]
  exact H5 h
theorem R4 (I : List α → σ → Prop) {b : α → Nat → σ → (σ → Option β) → Option β} {kx : σ → Option β} {xs : List α} {s : σ} (h0 : I [] s)
    (hb : ∀ pre x post s nx, xs = pre ++ x :: post → I pre s → (∀ s', I (pre ++ [x]) s' → Wp (nx s') Q) → Wp (b x pre.length s nx) Q) (hk : ∀ s, I xs s → Wp (kx s) Q) : Wp (each b kx xs 0 s) Q := by
  have key : ∀ (post pre : List α) (s : σ), xs = pre ++ post → I pre s → Wp (each b kx post pre.length s) Q := by
    intro post
    induction post with
    | nil => intro pre s e hi; rw [List.append_nil] at e; subst e; exact hk s hi
    | cons x post ih =>
      intro pre s e hi
      rw [each]
      refine hb pre x post s _ e hi (fun s' h1 => ?_)
      have := ih (pre ++ [x]) s' (by rw [e]; simp) h1
      rw [Ma, Mb] at this
      exact this
  exact key xs [] s rfl h0
theorem Hc1 (I : Nat → σ → Prop) {b : Nat → σ → (σ → Option β) → Option β} {kx : σ → Option β} {n : Nat} {s : σ} (h0 : I 0 s)
    (hb : ∀ i s nx, i < n → I i s → (∀ s', I (i + 1) s' → Wp (nx s') Q) → Wp (b i s nx) Q) (hk : ∀ s, I n s → Wp (kx s) Q) : Wp (upto b kx n 0 s) Q := by
  have key : ∀ (m i : Nat) (s : σ), i + m = n → I i s → Wp (upto b kx m i s) Q := by
    intro m
    induction m with
    | zero => intro i s e hi; have e : i = n := by omega
              subst e; exact hk s hi
    | succ m ih =>
      intro i s e hi
      rw [upto]
      exact hb i s _ (by omega) hi (fun s' h1 => ih (i + 1) s' (by omega) h1)
  exact key n 0 s (by omega) h0
theorem H46 {m : Option β} {r : β} (h : Wp m (· = r)) : m = some r := by
  obtain ⟨x, e, rfl⟩ := h; exact e
end

def Hd8 {α : Type} (p : α → Bool) (l : List α) : List Int := (l.zipIdx.filter (fun x => p x.1)).map (fun x => (x.2 : Int))
theorem Je7 {α : Type} (p : α → Bool) (l : List α) (x : α) : Hd8 p (l ++ [x]) = Hd8 p l ++ (if p x then [(l.length : Int)] else []) := by
  unfold Hd8
  rw [List.zipIdx_append, List.filter_append, List.map_append]
  by_cases h : p x <;> simp [h]
theorem Q67 {α : Type} (p : α → Bool) (l : List α) : (Hd8 p l).length ≤ l.length := by
  unfold Hd8
  rw [Me]
  exact Nat.le_trans (Kr _ _) (by simp)
theorem Q66 {α : Type} {p : α → Bool} {l : List α} : Hd8 p l = [] ↔ ∀ x ∈ l, p x = false := by
  unfold Hd8
  rw [List.map_eq_nil_iff, List.filter_eq_nil_iff]
  constructor
  · intro h x hx
    obtain ⟨i, hi⟩ := List.mem_iff_getElem?.1 hx
    have := h (x, i) (List.mk_mem_zipIdx_iff_getElem?.2 hi)
    simpa using this
  · intro h y hy
    have := h y.1 (List.mem_iff_getElem?.2 ⟨y.2, List.mk_mem_zipIdx_iff_getElem?.1 hy⟩)
    simp [this]
set_option maxRecDepth 100000
theorem R33 {α β:Type} [DecidableEq β] {xs:List α} {k:Bool→Option β} {r:Option β} (h:∀ b,(b=true→xs=[])→k b=r):Ra7 xs k=r:=by
 unfold Ra7
 cases xs with
 | nil=>rw [h true (fun _=>rfl),h false (fun e=>by cases e)]; simp
 | cons x l=>exact h false (fun e=>by cases e)
theorem Raf {α:Type} (xs:List α) (n:Nat) (z:α) (h:n < xs.length) :
  ((blank (xs.take n++(xs.drop (n+1)).take (xs.length - (n+1))++xs.drop (n+((xs.drop (n+1)).take (xs.length - (n+1))).length)) (n+((xs.drop (n+1)).take (xs.length - (n+1))).length) (xs.length - (n+((xs.drop (n+1)).take (xs.length - (n+1))).length)) z).take (n+((xs.drop (n+1)).take (xs.length - (n+1))).length))=xs.eraseIdx n:=by
 have e:(xs.drop (n+1)).take (xs.length - (n+1))=xs.drop (n+1):=List.take_of_length_le (by simp)
 rw [e]
 unfold blank
 have hl:(xs.take n++xs.drop (n+1)).length=n+(xs.drop (n+1)).length:=by rw [Ma,List.length_take]; omega
 rw [List.append_assoc (xs.take n),List.eraseIdx_eq_take_drop_succ]
 have h1:(xs.take n++(xs.drop (n+1)++xs.drop (n+(xs.drop (n+1)).length))).take (n+(xs.drop (n+1)).length)=xs.take n++xs.drop (n+1):=by
  rw [← List.append_assoc,List.take_append_of_le_length (by omega),List.take_of_length_le (by omega)]
 rw [h1,List.append_assoc,List.take_append_of_le_length (by omega),List.take_of_length_le (by omega)]
/-! ### int -/
theorem H2b:sliceB Tryz.prog 39 3 1=true:=by kernel_rfl
theorem Re4:(Tryz.prog.info? 3).bind (fun i=>i.zero.map Value.cells)=some ([.int .i64 0]:List Value).toArray:=by kernel_rfl
theorem Re5:Tryz.prog.follows .mixedOrders=true:=by kernel_rfl
theorem J35 (l:List Int) (h:l.length≤100000):Qg l=some l:=by
 unfold Qg
 refine R33 (fun b hb=>?_)
 cases b with
 | true=>rw [hb rfl]; rfl
 | false=>exact H46 (Rk (Kw ⟨by simp; omega,by simp [maxLen]; omega⟩) (H5 rfl))

theorem Q1c (xs:List Int) (n:Nat) (hn:n < xs.length) (hm:xs.length≤100000) (ver:Nat) :
  Jw Tryz.prog 102 [.vec 1020000002 ver 1 xs.length,I64 (n:Int),I64 ((n+1:Nat):Int)] [(1020000002,.vec 3 1 ver (xs.map I64))] (fun u L'=>u=.vec 1020000002 (ver+2) 1 (xs.eraseIdx n).length∧L'=[(1020000002,.vec 3 1 (ver+2) ((xs.eraseIdx n).map I64))]):=by
 obtain⟨Y,hY⟩:∃ Y,Y=(xs.drop (n+1)).take (xs.length - (n+1)):=⟨_,rfl⟩
 have h0:Y.length=xs.length - (n+1):=by rw [hY]; simp
 refine Zp [1020000002] [.tmp 6] Tryz.func102 rfl rfl (H62 rfl) ?_
 refine Jr fun h1=>?_
 refine JLm (.sc (.slice none 0 0)) rfl ?_
 refine G6 (h1 ?_)
 refine Jr fun h2=>?_
 refine JLm (.vec 1020000002 ver 1 xs.length) rfl ?_
 refine JLm (I64 (n:Int)) rfl ?_
 refine JLm (I64 ((n+1:Nat):Int)) rfl ?_
 refine JLm (.vec 1020000002 ver 1 xs.length) rfl ?_
 refine G0 (u:=I64 (xs.length:Int)) (Qf0 H2b rfl rfl rfl) ?_
 refine G0 (u:=.junk) (R59 (lo:=n) (hi:=n+1) (mx:=xs.length) rfl H2b rfl rfl rfl rfl rfl rfl rfl rfl (by omega) (by omega) (by simp)) ?_
 refine G6 (h2 ?_)
 refine Js fun h3=>?_
 refine Jr fun h4=>?_
 refine JLm (I64 (n:Int)) rfl ?_
 refine JLm (I64 ((n+1:Nat):Int)) rfl ?_
 refine G0 (u:=BL (decide ((n:Int)=((n+1:Nat):Int)))) (Q4 rfl rfl rfl) ?_
 refine G6 (h4 ?_)
 refine Gn rfl (fun hb=>?_) (fun hb=>?_)
 ·exact absurd (Ku hb) (by omega)
 refine Gp (h3 ?_)
 refine Jr fun h5=>?_
 refine JLm (.vec 1020000002 ver 1 xs.length) rfl ?_
 refine G0 (u:=I64 (xs.length:Int)) (Qf0 H2b rfl rfl rfl) ?_
 refine JLm (I64 (xs.length:Int)) rfl ?_
 refine G6 (h5 ?_)
 refine Js fun h6=>?_
 refine Qw [6] [0,0,0,0,0,0,0,1] [0,0,0,0,0,0,0,1] [[(1020000002,.vec 3 1 ver (xs.map I64))],[(1020000002,.vec 3 1 ver ((xs.take n++Y++xs.drop (n+Y.length)).map I64)),(1020000002,.vec 3 1 ver (xs.map I64))]] Re5 (by kernel_rfl) rfl rfl ?_
 refine Gq (u:=.vec 1020000002 ver 1 xs.length) rfl rfl ⟨Gm (R5b _ rfl rfl) rfl,trivial⟩ ?_ rfl
 refine Gq (u:=I64 (n:Int)) rfl rfl ⟨Gm (R5b _ rfl rfl) rfl,trivial⟩ ?_ rfl
 refine Gq (u:=.vsl 1020000002 ver 1 0 n) rfl rfl ⟨Gm (R54 (f:=I64) (xs:=xs) rfl rfl rfl rfl H2b ⟨rfl,by omega⟩) rfl,trivial⟩ ?_ rfl
 refine Gq (u:=.vec 1020000002 ver 1 xs.length) rfl rfl ⟨Gm (R5b _ rfl rfl) rfl,trivial⟩ ?_ rfl
 refine Gq (u:=I64 ((n+1:Nat):Int)) rfl rfl ⟨Gm (R5b _ rfl rfl) rfl,trivial⟩ ?_ rfl
 refine Gq (u:=.vsl 1020000002 ver 1 (n+1) (xs.length - (n+1))) rfl rfl ⟨Gm (R53 (f:=I64) (xs:=xs) rfl rfl rfl rfl H2b ⟨rfl,by omega⟩) rfl,trivial⟩ ?_ rfl
 refine D_w (u:=.vsl 1020000002 ver 1 0 (n+Y.length)) rfl rfl rfl rfl (Gm (Q88 (f:=I64) (xs:=xs) (ys:=Y) rfl H2b rfl rfl (hY ▸ Rb5 rfl rfl) (fun _=>rfl) (by omega) rfl) rfl) ?_ rfl
 refine Gq (u:=.vsl 1020000002 ver 1 0 (n+Y.length)) rfl rfl ⟨Gm (R5b _ rfl rfl) rfl,trivial⟩ ?_ rfl
 refine Z7 (h6 ?_)
 have h9:(xs.take n++Y++xs.drop (n+Y.length)).length=xs.length:=by rw [Ma,Ma,List.length_take,List.length_drop,h0]; omega
 refine Jr fun h7=>?_
 refine JLm (.vsl 1020000002 ver 1 0 (n+Y.length)) rfl ?_
 refine JLm (.vsl 1020000002 ver 1 0 (n+Y.length)) rfl ?_
 refine G0 (u:=I64 ((n+Y.length:Nat):Int)) (R8a rfl H2b rfl rfl) ?_
 refine JLm (I64 (xs.length:Int)) rfl ?_
 refine G0 (u:=.vsl 1020000002 ver 1 (n+Y.length) (xs.length - (n+Y.length))) (Q80 (lo:=n+Y.length) (hi:=xs.length) rfl H2b rfl rfl (.inr ⟨_,_,rfl,rfl⟩) (.inr ⟨_,_,rfl,rfl⟩) (by omega) (by rw [Me,h9]; exact M3) rfl) ?_
 refine Hb (R95 (f:=I64) (xs:=xs.take n++Y++xs.drop (n+Y.length)) (0:Int) [.int .i64 0] rfl H2b (.inr rfl) rfl Re4 rfl rfl rfl ⟨.inl rfl,trivial⟩) ?_
 refine G6 (h7 ?_)
 refine Jr fun h8=>?_
 refine JLm (.vsl 1020000002 ver 1 0 (n+Y.length)) rfl ?_
 refine JLm (.vsl 1020000002 ver 1 0 (n+Y.length)) rfl ?_
 refine G6 (h8 ?_)
 refine Rbc 6 rfl rfl ?_
 refine R52 (f:=I64) (xs.eraseIdx n) 6 (ver+2) rfl rfl (by omega) ?_ ?_
 ·rw [← List.map_take]
  refine congrArg (List.map I64) ?_
  have:=Raf xs n (0:Int) hn
  rw [← hY] at this
  exact this
 refine Gy ?_
 exact⟨[.vec 1020000002 (ver+2) 1 (xs.eraseIdx n).length],[(1020000002,.vec 3 1 (ver+2) ((xs.eraseIdx n).map I64))],⟨⟨_,rfl,.vec⟩,trivial⟩,rfl,⟨⟨_,rfl,.conv (.same rfl)⟩,trivial⟩,rfl,rfl⟩

def Z3 (xs:List Int) (a b:Int):Option (List Int):=bif decide (0≤a)&&(decide (a < (xs.length:Int))&&(decide (b=a+1)&&decide (xs.length≤100000))) then some (xs.eraseIdx a.toNat) else none
theorem H4e (xs:List Int) (a b:Int) (r:List Int) (h:Z3 xs a b=some r) (ver:Nat):Jw Tryz.prog 102 [.vec 1020000002 ver 1 xs.length,I64 a,I64 b] [(1020000002,.vec 3 1 ver (xs.map I64))] (fun u L'=>u=.vec 1020000002 (ver+2) 1 r.length∧L'=[(1020000002,.vec 3 1 (ver+2) (r.map I64))]):=by
 unfold Z3 at h
 cases hc:(decide (0≤a)&&(decide (a < (xs.length:Int))&&(decide (b=a+1)&&decide (xs.length≤100000)))) with
 | false=>rw [hc] at h; cases h
 | true=>
  rw [hc] at h
  simp only [Mc,Md] at hc
  obtain⟨h1,h2,rfl,h3⟩:=hc
  obtain⟨q,rfl⟩:∃ q:Nat,a=(q:Int):=⟨a.toNat,by omega⟩
  have h:=M0 h
  simp only [Int.toNat_natCast] at h
  subst h
  exact Q1c xs q (by omega) h3 ver
end Go.Proofs.YtibhpogonkdiaaaGreat
