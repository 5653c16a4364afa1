/-
 Slices that are lent aQ local objects,with what lies behind What a model returns, slices.Delete of one element.
-/
import Derived.Test.YtibhpogonkdiaaaGreatIterJ
import Derived.Test.YtibhpogonkdiaaaGreatIter
import Derived.Test.YtibhpogonkdiaaaGreatXC
set_option linter.unusedSimpArgs false
set_option linter.unnecessarySimpa false
namespace Go.Proofs.YtibhpogonkdiaaaGreat
open Go.RowKit
set_option linter.unusedVariables false

section vals
variable {w:World} {β:Gu} {L:Loc}
theorem V.vsl_lst {α:Type} {f:α→AV} {i ver k t:Nat} {e:Ln α} {v:Value} (h5:Sat w β L) (hi:lk L i=some (.vec t k ver ((e.1++e.2).map f))) (h6:Nat.blt 0 k=true) (hv:V w β L (.vsl i ver k 0 e.1.length) v):D w (fun b _=>b < w.heap.size) (LT k f e) v:=by
 have h8:0 < k:=by simpa [Nat.blt_eq] using h6
 obtain⟨_,hn,_⟩:=hv.inv_vsl hi
 obtain⟨o1,o2⟩:=h5.obj i _ hi
 rcases hv.inv_vsl0 hi with ⟨rfl,e2,e3⟩ | ⟨b,cap,rfl,e2,e3,e4,e5⟩
 ·have h9:(e.1++e.2).map f=[]:=by
   rcases o2 with ⟨_,o2⟩ | ⟨b',o2,_⟩
   ·exact o2
   ·rw [show β i=β.at_ i from rfl,e3] at o2; cases o2
  have h2:=List.map_eq_nil_iff.1 h9
  obtain⟨h3,h4⟩:=List.append_eq_nil_iff.1 h2
  show D w _ (.lst k (e.1.map f) (e.2.map f)) _
  rw [h3,h4]
  exact .lnil (Nat.zero_le _)
 ·rcases o2 with ⟨o2,_⟩ | ⟨b',o2,vs,o3,o4,o5⟩
  ·rw [show β i=β.at_ i from rfl,e2] at o2; cases o2
  ·rw [show β i=β.at_ i from rfl,e2] at o2; cases o2
   have hs:vs.size=cap*k:=by simpa [World.shape?,o3] using e5
   have h7:((e.1++e.2).map f).length≤cap:=by
    rw [hs] at o4
    exact Nat.le_of_mul_le_mul_right o4 h8
   have h0:e.1.map f++e.2.map f=(e.1++e.2).map f:=List.map_append.symm
   have a0:(e.1.map f).length=e.1.length:=Mc ..
   show D w _ (.lst k (e.1.map f) (e.2.map f)) _
   rw [← a0]
   have h1:∀ j,j < (flat ((e.1++e.2).map f)).length→j < vs.size:=fun j hj=>by
    rw [J0 o1] at hj
    omega
   refine .lst (fun j=>vs.getD j undef) ?_ e4 ?_ (fun j hj=>⟨(Kk o3).1,?_⟩) (fun j u hu=>?_)
   ·rw [← M8,h0]; exact h7
   ·rw [h0]; exact o1
   ·rw [h0] at hj
    have:=h1 j hj
    simp [World.cell?,o3,this]
   ·rw [h0] at hu
    have hj:=(Kw hu).1
    have:=h1 j hj
    exact(o5 j u _ hu (by simp [this])).mono fun b i hs=>⟨hs.lt,rfl⟩
theorem V.vsl_list {α:Type} {f:α→AV} {i ver k t:Nat} {e:Ln α} {v:Value} (h0:Sat w β L) (hi:lk L i=some (.vec t k ver ((e.1++e.2).map f))) (h1:Nat.blt 0 k=true) (hv:V w β L (.vsl i ver k 0 e.1.length) v):D w (fun b _=>b < w.heap.size) (LS k f e.1) v:=
 (hv.vsl_lst h0 hi h1).lst_list
end vals

section calls
variable {P:Program} {o:Oper} {l:Fr} {L:Loc} {u:AV}
inductive Jec (L:Loc):AV→AV→Prop
 | data {u u':AV} (h:u.plain=u') (hd:u'.isData=true):Jec L u u'
 | vsl {α:Type} {f:α→AV} {i ver k t:Nat} {e:Ln α} (hi:lk L i=some (.vec t k ver ((e.1++e.2).map f))) (hpos:Nat.blt 0 k=true):Jec L (.vsl i ver k 0 e.1.length) (LS k f e.1)
 | vlt {α:Type} {f:α→AV} {i ver k t:Nat} {e:Ln α} (hi:lk L i=some (.vec t k ver ((e.1++e.2).map f))) (hpos:Nat.blt 0 k=true):Jec L (.vsl i ver k 0 e.1.length) (LT k f e)
theorem Jec.D {w:World} {β:Gu} {u u':AV} (h1:Sat w β L) (h:Jec L u u') {v:Value} (hv:V w β L u v):D w (fun b _=>b < w.heap.size) u' v:=by
 cases h with
 | data h hd=>
  subst h
  exact(hv.plain.toD hd).mono fun b i hs=>⟨hs.lt,rfl⟩
 | vsl hi h0=>exact hv.vsl_list h1 hi h0
 | vlt hi h0=>exact hv.vsl_lst h1 hi h0
def Gb6 (l:Fr) (L:Loc):List Operand→List AV→Prop
 | [],[]=>True
 | x::r,u::s=>Jec L (ev l x) u∧Gb6 l L r s
 | _,_=>False
theorem Gb6.length {l:Fr} {L:Loc}:∀ {xs:List Operand} {us:List AV},Gb6 l L xs us→xs.length=us.length
 | [],[],_=>rfl
 | _::r,_::s,h=>by simp [Gb6.length h.2]
theorem Gb6.get {l:Fr} {L:Loc}:∀ {xs:List Operand} {us:List AV},Gb6 l L xs us→∀ {j:Nat} {x:Operand} {u:AV},xs[j]? = some x→us[j]? = some u→Jec L (ev l x) u
 | [],[],_,j,x,u,h,_=>by simp at h
 | x::r,u::s,h,0,_,_,hx,hu=>by simp at hx hu; subst hx hu; exact h.1
 | x::r,u::s,h,j+1,_,_,hx,hu=>by simp at hx hu; exact Gb6.get h.2 hx hu
end calls

section ops
variable {P:Program} {N:Cfg} {o:Oper} {l:Fr} {L:Loc} {α:Type}
end ops

section rename
variable {w:World} {β:Gu} {L:Loc}
end rename
section renameJ
variable {P:Program} {N:Cfg} {Q:Post} {c:Code} {l:Fr} {L:Loc}
theorem Rea (s ver1:Nat) {i ver k n t:Nat} {xs:List AV} (h1:look l s=.vec i ver k n) (hi:lk L i=some (.vec t k ver xs)) (h3:ver < ver1)
  (hk:JC P N c Q ((s,.vec i ver1 k xs.length)::l) ((i,.vec t k ver1 xs)::L)):JC P N c Q l L:=fun n0 w0 β0 L0 a w β hs=>by
 have hv:=hs.frame.tmp s
 rw [h1] at hv
 obtain⟨h2,h0⟩:J40 w (β.at_ i) t k xs.length (a.tmps.getD s undef)∧(a.tmps.getD s undef).oneCell'=true:=by
  cases hv with
  | data h=>cases h
  | vec hp h0=>
   obtain⟨t',ver',xs',g1,_,g3⟩:=hp
   rw [hi] at g1; cases g1
   obtain⟨rfl,g4⟩:=g3 rfl
   exact⟨g4,h0⟩
 obtain⟨st,sat⟩:=Qu (w':=w) (t:=t) (k:=k) (ver1:=ver1) (xs':=xs) (ob':=β.at_ i) hs.sat (.inr ⟨ver,xs,hi,by omega,fun e=>by omega⟩) rfl rfl ⟨rfl,M1⟩ (M1) (fun _ _ _=>rfl) (.inr (.inl ⟨by rw [inL,hi]; rfl,rfl⟩))
 have sat':=sat ((hs.sat.obj i _ hi).step st (fun b hb=>rfl))
 refine hk n0 w0 β0 L0 a w _ ⟨sat',hs.step.trans st,(hs.frame.step st).over (.vec ⟨t,ver1,xs,by rw [Gd,if_pos rfl],M1,fun _=>⟨rfl,?_⟩⟩ h0),hs.size,hs.base,hs.defers.step st⟩
 rw [show (upP β i (β.at_ i)) i=β.at_ i by simp [upP]]
 exact h2
theorem Rb3 {α:Type} {f:α→AV} (ys:List α) (s ver1:Nat) {i ver k n t:Nat} {xs:List AV} (h1:look l s=.vec i ver k n) (hi:lk L i=some (.vec t k ver xs)) (h0:ver < ver1) (hx:xs=ys.map f)
  (hk:JC P N c Q ((s,.vec i ver1 k ys.length)::l) ((i,.vec t k ver1 (ys.map f))::L)):JC P N c Q l L:=by
 subst hx
 refine Rea s ver1 h1 hi h0 ?_
 rw [Mc]
 exact hk
end renameJ

section
variable {α β σ : Type} {Q : β → Prop}

def Wp (m : Option β) (Q : β → Prop) : Prop := ∃ r, m = some r ∧ Q r

theorem Gy {r : β} (h : Q r) : Wp (some r) Q := ⟨r, rfl, h⟩
theorem wp_mono {m : Option β} {Q' : β → Prop} (h : Wp m Q') (hq : ∀ r, Q' r → Q r) : Wp m Q := by
  obtain ⟨r, e, h⟩ := h; exact ⟨r, e, hq r h⟩
theorem H8 {m : Option α} {k : α → Option β} (h : Wp m (fun x => Wp (k x) Q)) : Wp (bnd m k) Q := by
  obtain ⟨x, rfl, h⟩ := h; exact h
theorem Gw {m : Option α} {k : α → Option β} {x : α} (e : m = some x) (h : Wp (k x) Q) : Wp (bnd m k) Q := by subst e; exact h
theorem Jd {z : Int} {k : Int → Option β} (h1 : -9223372036854775808 ≤ z ∧ z ≤ 9223372036854775807) (h : Wp (k z) Q) : Wp (chk z k) Q := by
  unfold chk Q34
  rw [Ku h1.1, Ku h1.2]; exact h
theorem Hy {c : Bool} {x y : Option β} (h1 : c = true → Wp x Q) (h2 : c = false → Wp y Q) : Wp (bif c then x else y) Q := by
  cases c with
  | true => exact h1 rfl
  | false => exact h2 rfl
theorem Jq {b : Bool} {k : Option β} (hb : b = true) (h : Wp k Q) : Wp (need b k) Q := by subst hb; exact h
theorem Qs {l : List α} {i : Int} {k : α → Option β} {m : Nat} {x : α} (hi : i = (m : Int)) (hx : l[m]? = some x) (h : Wp (k x) Q) : Wp (Q4 l i k) Q := by
  subst hi
  unfold Q4
  rw [Ku (by omega : (0 : Int) ≤ m), cond_true, show (m : Int).toNat = m by omega, hx]
  exact h
theorem Yf {m : (α → Option β) → Option β} {k : α → Option β} (P : α → Prop) (hm : ∀ K : α → Option β, (∀ a, P a → Wp (K a) Q) → Wp (m K) Q) (hk : ∀ a, P a → Wp (k a) Q) : Wp (jp m k) Q := hm k hk
theorem G84 {m n : Int} {Q : Int → Prop} (hn : n ≠ 0) (h : Q (m.tmod n)) : Wp (Ged m n) Q := by
  unfold Ged
  rw [Kv hn, cond_false]
  exact Gy h
theorem G56 {i : Int} {n m : Nat} {Q : Nat → Prop} (hi : i = (m : Int)) (hm : m ≤ n) (h : Q m) : Wp (Ga7 i n) Q := by
  subst hi
  unfold Ga7
  rw [Ku (by omega : (0 : Int) ≤ m), show (m : Int).toNat = m by omega, Ku hm]
  exact Gy h
theorem Jb (I : List α → σ → Prop) {b : α → Nat → σ → (σ → Option β) → Option β} {kx : σ → Option β} {xs : List α} {s : σ} (h0 : I [] s)
    (hb : ∀ pre x post s nx, xs = pre ++ x :: post → I pre s → (∀ s', I (pre ++ [x]) s' → Wp (nx s') Q) → Wp (b x pre.length s nx) Q) (hk : ∀ s, I xs s → Wp (kx s) Q) : Wp (each b kx xs 0 s) Q := by
  have key : ∀ (post pre : List α) (s : σ), xs = pre ++ post → I pre s → Wp (each b kx post pre.length s) Q := by
    intro post
    induction post with
    | nil => intro pre s e hi; rw [List.append_nil] at e; subst e; exact hk s hi
    | cons x post ih =>
      intro pre s e hi
      rw [each]
      refine hb pre x post s _ e hi (fun s' h1 => ?_)
      have := ih (pre ++ [x]) s' (by rw [e]; simp) h1
      rw [M8, M9] at this
      exact this
  exact key xs [] s rfl h0
theorem G7f (I : Nat → σ → Prop) {b : Nat → σ → (σ → Option β) → Option β} {kx : σ → Option β} {n : Nat} {s : σ} (h0 : I 0 s)
    (hb : ∀ i s nx, i < n → I i s → (∀ s', I (i + 1) s' → Wp (nx s') Q) → Wp (b i s nx) Q) (hk : ∀ s, I n s → Wp (kx s) Q) : Wp (upto b kx n 0 s) Q := by
  have key : ∀ (m i : Nat) (s : σ), i + m = n → I i s → Wp (upto b kx m i s) Q := by
    intro m
    induction m with
    | zero => intro i s e hi; have e : i = n := by omega
              subst e; exact hk s hi
    | succ m ih =>
      intro i s e hi
      rw [upto]
      exact hb i s _ (by omega) hi (fun s' h1 => ih (i + 1) s' (by omega) h1)
  exact key n 0 s (by omega) h0
theorem G6f {m : Option β} {r : β} (h : Wp m (· = r)) : m = some r := by
  obtain ⟨x, e, rfl⟩ := h; exact e
end

def Gc4 {α : Type} (p : α → Bool) (l : List α) : List Int := (l.zipIdx.filter (fun x => p x.1)).map (fun x => (x.2 : Int))
theorem Hb4 {α : Type} (p : α → Bool) (l : List α) (x : α) : Gc4 p (l ++ [x]) = Gc4 p l ++ (if p x then [(l.length : Int)] else []) := by
  unfold Gc4
  rw [List.zipIdx_append, List.filter_append, List.map_append]
  by_cases h : p x <;> simp [h]
theorem J6c {α : Type} (p : α → Bool) (l : List α) : (Gc4 p l).length ≤ l.length := by
  unfold Gc4
  rw [Mc]
  exact Nat.le_trans (Kp _ _) (by simp)
theorem J11 {α : Type} {p : α → Bool} {l : List α} : Gc4 p l = [] ↔ ∀ x ∈ l, p x = false := by
  unfold Gc4
  rw [List.map_eq_nil_iff, List.filter_eq_nil_iff]
  constructor
  · intro h x hx
    obtain ⟨i, hi⟩ := List.mem_iff_getElem?.1 hx
    have := h (x, i) (List.mk_mem_zipIdx_iff_getElem?.2 hi)
    simpa using this
  · intro h y hy
    have := h y.1 (List.mem_iff_getElem?.2 ⟨y.2, List.mk_mem_zipIdx_iff_getElem?.1 hy⟩)
    simp [this]
set_option maxRecDepth 100000
theorem R90 {α β:Type} [DecidableEq β] {xs:List α} {k:Bool→Option β} {r:Option β} (h:∀ b,(b=true→xs=[])→k b=r):Y0e xs k=r:=by
 unfold Y0e
 cases xs with
 | nil=>rw [h true (fun _=>rfl),h false (fun e=>by cases e)]; simp
 | cons x l=>exact h false (fun e=>by cases e)
theorem Y17 {α:Type} (xs:List α) (n:Nat) (z:α) (h:n < xs.length) :
  ((blank (xs.take n++(xs.drop (n+1)).take (xs.length - (n+1))++xs.drop (n+((xs.drop (n+1)).take (xs.length - (n+1))).length)) (n+((xs.drop (n+1)).take (xs.length - (n+1))).length) (xs.length - (n+((xs.drop (n+1)).take (xs.length - (n+1))).length)) z).take (n+((xs.drop (n+1)).take (xs.length - (n+1))).length))=xs.eraseIdx n:=by
 have e:(xs.drop (n+1)).take (xs.length - (n+1))=xs.drop (n+1):=List.take_of_length_le (by simp)
 rw [e]
 unfold blank
 have hl:(xs.take n++xs.drop (n+1)).length=n+(xs.drop (n+1)).length:=by rw [M8,List.length_take]; omega
 rw [List.append_assoc (xs.take n),List.eraseIdx_eq_take_drop_succ]
 have h1:(xs.take n++(xs.drop (n+1)++xs.drop (n+(xs.drop (n+1)).length))).take (n+(xs.drop (n+1)).length)=xs.take n++xs.drop (n+1):=by
  rw [← List.append_assoc,List.take_append_of_le_length (by omega),List.take_of_length_le (by omega)]
 rw [h1,List.append_assoc,List.take_append_of_le_length (by omega),List.take_of_length_le (by omega)]
/-! ### int -/
theorem H56:sliceB Tryz.prog 39 3 1=true:=by kernel_rfl
theorem Y50:(Tryz.prog.info? 3).bind (fun i=>i.zero.map Value.cells)=some ([.int .i64 0]:List Value).toArray:=by kernel_rfl
theorem Y51:Tryz.prog.follows .mixedOrders=true:=by kernel_rfl
theorem J74 (l:List Int) (h:l.length≤100000):Qp l=some l:=by
 unfold Qp
 refine R90 (fun b hb=>?_)
 cases b with
 | true=>rw [hb rfl]; rfl
 | false=>exact G6f (Jq (Ku ⟨by simp; omega,by simp [maxLen]; omega⟩) (Gy rfl))

theorem Q6e (xs:List Int) (n:Nat) (hn:n < xs.length) (hm:xs.length≤100000) (ver:Nat) :
  Q2 Tryz.prog 102 [.vec 1020000002 ver 1 xs.length,I64 (n:Int),I64 ((n+1:Nat):Int)] [(1020000002,.vec 3 1 ver (xs.map I64))] (fun u L'=>u=.vec 1020000002 (ver+2) 1 (xs.eraseIdx n).length∧L'=[(1020000002,.vec 3 1 (ver+2) ((xs.eraseIdx n).map I64))]):=by
 obtain⟨Y,hY⟩:∃ Y,Y=(xs.drop (n+1)).take (xs.length - (n+1)):=⟨_,rfl⟩
 have h0:Y.length=xs.length - (n+1):=by rw [hY]; simp
 refine G0a [1020000002] [.tmp 6] Tryz.func102 rfl rfl (H91 rfl) ?_
 refine Jr fun h1=>?_
 refine JLm (.sc (.slice none 0 0)) rfl ?_
 refine G6 (h1 ?_)
 refine Jr fun h2=>?_
 refine JLm (.vec 1020000002 ver 1 xs.length) rfl ?_
 refine JLm (I64 (n:Int)) rfl ?_
 refine JLm (I64 ((n+1:Nat):Int)) rfl ?_
 refine JLm (.vec 1020000002 ver 1 xs.length) rfl ?_
 refine G0 (u:=I64 (xs.length:Int)) (R4a H56 rfl rfl rfl) ?_
 refine G0 (u:=.junk) (Rba (lo:=n) (hi:=n+1) (mx:=xs.length) rfl H56 rfl rfl rfl rfl rfl rfl rfl rfl (by omega) (by omega) (by simp)) ?_
 refine G6 (h2 ?_)
 refine Js fun h3=>?_
 refine Jr fun h4=>?_
 refine JLm (I64 (n:Int)) rfl ?_
 refine JLm (I64 ((n+1:Nat):Int)) rfl ?_
 refine G0 (u:=BL (decide ((n:Int)=((n+1:Nat):Int)))) (Q6 rfl rfl rfl) ?_
 refine G6 (h4 ?_)
 refine Gn rfl (fun hb=>?_) (fun hb=>?_)
 ·exact absurd (Ks hb) (by omega)
 refine Gp (h3 ?_)
 refine Jr fun h5=>?_
 refine JLm (.vec 1020000002 ver 1 xs.length) rfl ?_
 refine G0 (u:=I64 (xs.length:Int)) (R4a H56 rfl rfl rfl) ?_
 refine JLm (I64 (xs.length:Int)) rfl ?_
 refine G6 (h5 ?_)
 refine Js fun h6=>?_
 refine R4 [6] [0,0,0,0,0,0,0,1] [0,0,0,0,0,0,0,1] [[(1020000002,.vec 3 1 ver (xs.map I64))],[(1020000002,.vec 3 1 ver ((xs.take n++Y++xs.drop (n+Y.length)).map I64)),(1020000002,.vec 3 1 ver (xs.map I64))]] Y51 (by kernel_rfl) rfl rfl ?_
 refine Gr (u:=.vec 1020000002 ver 1 xs.length) rfl rfl ⟨Gm (Rbc _ rfl rfl) rfl,trivial⟩ ?_ rfl
 refine Gr (u:=I64 (n:Int)) rfl rfl ⟨Gm (Rbc _ rfl rfl) rfl,trivial⟩ ?_ rfl
 refine Gr (u:=.vsl 1020000002 ver 1 0 n) rfl rfl ⟨Gm (Rb5 (f:=I64) (xs:=xs) rfl rfl rfl rfl H56 ⟨rfl,by omega⟩) rfl,trivial⟩ ?_ rfl
 refine Gr (u:=.vec 1020000002 ver 1 xs.length) rfl rfl ⟨Gm (Rbc _ rfl rfl) rfl,trivial⟩ ?_ rfl
 refine Gr (u:=I64 ((n+1:Nat):Int)) rfl rfl ⟨Gm (Rbc _ rfl rfl) rfl,trivial⟩ ?_ rfl
 refine Gr (u:=.vsl 1020000002 ver 1 (n+1) (xs.length - (n+1))) rfl rfl ⟨Gm (Rb4 (f:=I64) (xs:=xs) rfl rfl rfl rfl H56 ⟨rfl,by omega⟩) rfl,trivial⟩ ?_ rfl
 refine D_w (u:=.vsl 1020000002 ver 1 0 (n+Y.length)) rfl rfl rfl rfl (Gm (Qdf (f:=I64) (xs:=xs) (ys:=Y) rfl H56 rfl rfl (hY ▸ Y1d rfl rfl) (fun _=>rfl) (by omega) rfl) rfl) ?_ rfl
 refine Gr (u:=.vsl 1020000002 ver 1 0 (n+Y.length)) rfl rfl ⟨Gm (Rbc _ rfl rfl) rfl,trivial⟩ ?_ rfl
 refine Zg (h6 ?_)
 have h9:(xs.take n++Y++xs.drop (n+Y.length)).length=xs.length:=by rw [M8,M8,List.length_take,List.length_drop,h0]; omega
 refine Jr fun h7=>?_
 refine JLm (.vsl 1020000002 ver 1 0 (n+Y.length)) rfl ?_
 refine JLm (.vsl 1020000002 ver 1 0 (n+Y.length)) rfl ?_
 refine G0 (u:=I64 ((n+Y.length:Nat):Int)) (Rf1 rfl H56 rfl rfl) ?_
 refine JLm (I64 (xs.length:Int)) rfl ?_
 refine G0 (u:=.vsl 1020000002 ver 1 (n+Y.length) (xs.length - (n+Y.length))) (Qd7 (lo:=n+Y.length) (hi:=xs.length) rfl H56 rfl rfl (.inr ⟨_,_,rfl,rfl⟩) (.inr ⟨_,_,rfl,rfl⟩) (by omega) (by rw [Mc,h9]; exact M1) rfl) ?_
 refine Hb (Rfc (f:=I64) (xs:=xs.take n++Y++xs.drop (n+Y.length)) (0:Int) [.int .i64 0] rfl H56 (.inr rfl) rfl Y50 rfl rfl rfl ⟨.inl rfl,trivial⟩) ?_
 refine G6 (h7 ?_)
 refine Jr fun h8=>?_
 refine JLm (.vsl 1020000002 ver 1 0 (n+Y.length)) rfl ?_
 refine JLm (.vsl 1020000002 ver 1 0 (n+Y.length)) rfl ?_
 refine G6 (h8 ?_)
 refine Y24 6 rfl rfl ?_
 refine Rb3 (f:=I64) (xs.eraseIdx n) 6 (ver+2) rfl rfl (by omega) ?_ ?_
 ·rw [← List.map_take]
  refine congrArg (List.map I64) ?_
  have:=Y17 xs n (0:Int) hn
  rw [← hY] at this
  exact this
 refine H2 ?_
 exact⟨[.vec 1020000002 (ver+2) 1 (xs.eraseIdx n).length],[(1020000002,.vec 3 1 (ver+2) ((xs.eraseIdx n).map I64))],⟨⟨_,rfl,.vec⟩,trivial⟩,rfl,⟨⟨_,rfl,.conv (.same rfl)⟩,trivial⟩,rfl,rfl⟩

def Zo (xs:List Int) (a b:Int):Option (List Int):=bif decide (0≤a)&&(decide (a < (xs.length:Int))&&(decide (b=a+1)&&decide (xs.length≤100000))) then some (xs.eraseIdx a.toNat) else none
theorem H78 (xs:List Int) (a b:Int) (r:List Int) (h:Zo xs a b=some r) (ver:Nat):Q2 Tryz.prog 102 [.vec 1020000002 ver 1 xs.length,I64 a,I64 b] [(1020000002,.vec 3 1 ver (xs.map I64))] (fun u L'=>u=.vec 1020000002 (ver+2) 1 r.length∧L'=[(1020000002,.vec 3 1 (ver+2) (r.map I64))]):=by
 unfold Zo at h
 cases hc:(decide (0≤a)&&(decide (a < (xs.length:Int))&&(decide (b=a+1)&&decide (xs.length≤100000)))) with
 | false=>rw [hc] at h; cases h
 | true=>
  rw [hc] at h
  simp only [Ma,Mb] at hc
  obtain⟨h1,h2,rfl,h3⟩:=hc
  obtain⟨q,rfl⟩:∃ q:Nat,a=(q:Int):=⟨a.toNat,by omega⟩
  have h:=Ky h
  simp only [Int.toNat_natCast] at h
  subst h
  exact Q6e xs q (by omega) h3 ver
end Go.Proofs.YtibhpogonkdiaaaGreat
