/-
 Slices that are lent as local objects,with what lies behind What a model returns, slices.Delete of one element.
-/
import Derived.Test.YtibhpogonkdiaaaGreatIterJ
import Derived.Test.YtibhpogonkdiaaaGreatRel
import Derived.Test.YtibhpogonkdiaaaGreatXC
namespace Go.Proofs.YtibhpogonkdiaaaGreat
open Go.RowKit
set_option linter.unusedVariables false

section vals
variable {w:World} {β:H2} {L:Loc}
end vals

section AJ
variable {P:Program} {o:Oper} {l:Fr} {L:Loc} {u:AV}
end AJ

section ops
variable {P:Program} {N:Cfg} {o:Oper} {l:Fr} {L:Loc} {α:Type}
end ops

section rename
variable {w:World} {β:H2} {L:Loc}
end rename
section renameJ
variable {P:Program} {N:Cfg} {Q:Post} {c:Code} {l:Fr} {L:Loc}
theorem Jdb (s AZ:Nat) {i ver k n t:Nat} {xs:AG} (h1:look l s=.vec i ver k n) (hi:lk L i=some (.vec t k ver xs)) (h3:ver < AZ)
  (hk:JC P N c Q ((s,.vec i AZ k xs.length)::l) ((i,.vec t k AZ xs)::L)):JC P N c Q l L:=fun n0 w0 β0 L0 a w β hs=>by
 have hv:=hs.frame.tmp s;rw [h1] at hv;obtain⟨h2,h0⟩:RN w (β.at_ i) t k xs.length (a.tmps.getD s undef)∧(a.tmps.getD s undef).oneCell'=true:=by
  cases hv with
  | data h=>cases h
  | vec hp h0=>
   grind
 obtain⟨st,sat⟩:=Rn (w':=w) (t:=t) (k:=k) (AZ:=AZ) (xs':=xs) (ob':=β.at_ i) hs.sat (.inr ⟨ver,xs,hi,by omega,fun e=>by omega⟩) rfl rfl ⟨rfl,Sf⟩ (Sf) (fun _ _ _=>rfl) (.inr (.inl ⟨by rw [inL,hi]; rfl,rfl⟩));have sat':=sat ((hs.sat.obj i _ hi).step st (fun b hb=>rfl));refine hk n0 w0 β0 L0 a w _ ⟨sat',hs.step.trans st,(hs.frame.step st).over (.vec ⟨t,AZ,xs,by rw [Gm,if_pos rfl],Sf,fun _=>⟨rfl,?_⟩⟩ h0),hs.size,hs.base,hs.defers.step st⟩;rw [show (upP β i (β.at_ i)) i=β.at_ i by simp [upP]];exact h2
theorem J9b {α:Type} {f:α->AV} (ys:List α) (s AZ:Nat) {i ver k n t:Nat} {xs:AG} (h1:look l s=.vec i ver k n) (hi:lk L i=some (.vec t k ver xs)) (h0:ver < AZ) (hx:xs=ys.map f)
  (hk:JC P N c Q ((s,.vec i AZ k ys.length)::l) ((i,.vec t k AZ (ys.map f))::L)):JC P N c Q l L:=by
 subst hx;refine Jdb s AZ h1 hi h0 ?_;grind
end renameJ

section
variable {α β σ : Type} {Q : β -> Prop}

def Wp (m : Option β) (Q : β -> Prop) : Prop := ∃ r, m = some r ∧ Q r

theorem Gx {r : β} (h : Q r:=by rfl) : Wp (some r) Q := ⟨r, rfl, h⟩
theorem wp_mono {m : Option β} {Q' : β -> Prop} (h : Wp m Q') (hq : ∀ r, Q' r -> Q r) : Wp m Q := by
  obtain ⟨r, e, h⟩ := h; exact ⟨r, e, hq r h⟩
variable {k:α -> Option β}
theorem H6 {m : Option α} (h : Wp m (fun x => Wp (k x) Q)) : Wp (bnd m k) Q := by
  obtain ⟨x, rfl, h⟩ := h; exact h
theorem Gv {m : Option α} {x : α} (e : m = some x) (h : Wp (k x) Q) : Wp (bnd m k) Q := by subst e; exact h
theorem Hy {z : Int} {k : Int -> Option β} (h1 : -9223372036854775808 <= z ∧ z <= 9223372036854775807) (h : Wp (k z) Q) : Wp (chk z k) Q := by
  unfold chk G64;grind
theorem Hr {c : Bool} {x y : Option β} (h1 : c = true -> Wp x Q) (h2 : c = false -> Wp y Q) : Wp (bif c then x else y) Q := by
  grind
theorem Ji {b : Bool} {k : Option β} (hb : b = true) (h : Wp k Q) : Wp (need b k) Q := by subst hb; exact h
theorem Jk {l : List α} {i : Int} {m : Nat} {x : α} (hi : i = (m : Int)) (hx : l[m]? = some x) (h : Wp (k x) Q) : Wp (Jy l i k) Q := by
  subst hi;unfold Jy;rw [S8 (by omega : (0 : Int) <= m), cond_true, show (m : Int).toNat = m by omega, hx];exact h
theorem Rz {m : (α -> Option β) -> Option β} (P : α -> Prop) (hm : ∀ K : α -> Option β, (∀ a, P a -> Wp (K a) Q) -> Wp (m K) Q) (hk : ∀ a, P a -> Wp (k a) Q) : Wp (jp m k) Q := hm k hk
theorem Q3f {m n : Int} {Q : Int -> Prop} (hn : 0 < n) (hm : -9223372036854775807 <= m ∧ m <= 9223372036854775807) (h : Q (m.tdiv n)) : Wp (Gce m n) Q := by
  unfold Gce;rw [S9 (by omega), cond_false];have hb : -9223372036854775808 <= m.tdiv n ∧ m.tdiv n <= 9223372036854775807 := by
    have h1 := Int.natAbs_tdiv_le_natAbs m n;omega
  exact Hy hb (Gx h)
theorem gS {m n : Int} {Q : Int -> Prop} (hn : n ≠ 0) (h : Q (m.tmod n)) : Wp (mK m n) Q := by
  unfold mK;rw [S9 hn, cond_false];exact Gx h
theorem aY {i : Int} {n m : Nat} {Q : Nat -> Prop} (hi : i = (m : Int)) (hm : m <= n) (h : Q m) : Wp (eI i n) Q := by
  subst hi;unfold eI;rw [S8 (by omega : (0 : Int) <= m), show (m : Int).toNat = m by omega, S8 hm];exact Gx h
theorem Ja (I : List α -> σ -> Prop) {b : α -> Nat -> σ -> (σ -> Option β) -> Option β} {kx : σ -> Option β} {xs : List α} {s : σ} (h0 : I [] s)
    (hb : ∀ pre x post s nx, xs = pre ++ x :: post -> I pre s -> (∀ s', I (pre ++ [x]) s' -> Wp (nx s') Q) -> Wp (b x pre.length s nx) Q) (hk : ∀ s, I xs s -> Wp (kx s) Q) : Wp (each b kx xs 0 s) Q := by
  have key : ∀ (post pre : List α) (s : σ), xs = pre ++ post -> I pre s -> Wp (each b kx post pre.length s) Q := by
    intro post
    induction post with
    | nil => intro pre s e hi; rw [List.append_nil] at e; subst e; exact hk s hi
    | cons x post ih =>
      intro pre s e hi;rw [each];grind
  exact key xs [] s rfl h0
theorem iK (I : Nat -> σ -> Prop) {b : Nat -> σ -> (σ -> Option β) -> Option β} {kx : σ -> Option β} {n : Nat} {s : σ} (h0 : I 0 s)
    (hb : ∀ i s nx, i < n -> I i s -> (∀ s', I (i + 1) s' -> Wp (nx s') Q) -> Wp (b i s nx) Q) (hk : ∀ s, I n s -> Wp (kx s) Q) : Wp (upto b kx n 0 s) Q := by
  have key : ∀ (m i : Nat) (s : σ), i + m = n -> I i s -> Wp (upto b kx m i s) Q := by
    intro m
    induction m with
    | zero => intro i s e hi; have e : i = n := by omega
              subst e; exact hk s hi
    | succ m ih =>
      intro i s e hi;rw [upto];grind
  grind
theorem eF {m : Option β} {r : β} (h : Wp m (· = r)) : m = some r := by
  obtain ⟨x, e, rfl⟩ := h; exact e
end

def mW {α : Type} (p : α -> Bool) (l : List α) : AD := (l.zipIdx.filter (fun x => p x.1)).map (fun x => (x.2 : Int))
variable {α:Type}
theorem yI (p : α -> Bool) (l : List α) (x : α) : mW p (l ++ [x]) = mW p l ++ (if p x then [(l.length : Int)] else []) := by
  unfold mW;grind
theorem ZR (p : α -> Bool) (l : List α) : (mW p l).length <= l.length := by
  unfold mW;rw [Ss];exact Nat.le_trans (S3 _ _) (by simp)
theorem JK {p : α -> Bool} {l : List α} : mW p l = [] ↔ ∀ x ∈ l, p x = false := by
  unfold mW;rw [List.map_eq_nil_iff, List.filter_eq_nil_iff];constructor
  · intro h x hx
    obtain ⟨i, hi⟩ := List.mem_iff_getElem?.1 hx;have := h (x, i) (List.mk_mem_zipIdx_iff_getElem?.2 hi);simpa using this
  ·grind
set_option maxRecDepth 100000
set_option linter.unusedSimpArgs false
theorem J75 {β:Type} [DecidableEq β] {xs:List α} {k:Bool->Option β} {r:Option β} (h:∀ b,(b=true->xs=[])->k b=r):Jfe xs k=r:=by
 unfold Jfe;grind
theorem Q07 (xs:List α) (n:Nat) (z:α) (h:n < xs.length) :
  ((blank (xs.take n++(xs.drop (n+1)).take (xs.length - (n+1))++xs.drop (n+((xs.drop (n+1)).take (xs.length - (n+1))).length)) (n+((xs.drop (n+1)).take (xs.length - (n+1))).length) (xs.length - (n+((xs.drop (n+1)).take (xs.length - (n+1))).length)) z).take (n+((xs.drop (n+1)).take (xs.length - (n+1))).length))=xs.eraseIdx n:=by
 have e:(xs.drop (n+1)).take (xs.length - (n+1))=xs.drop (n+1):=List.take_of_length_le (by simp);rw [e];unfold blank;grind
/-! ### int -/
theorem tV:sliceB Tryz.prog 39 3 1=true:=by kernel_rfl
theorem Q3e:(Tryz.prog.info? 3).bind (fun i=>i.zero.map Value.cells)=some ([.int .i64 0]:AM).toArray:=by kernel_rfl
theorem Q40:Tryz.prog.follows .mixedOrders=true:=by kernel_rfl
theorem G01 (l:AD) (h:l.length<=100000):Rg l=some l:=by
 unfold Rg;refine J75 (fun b hb=>?_);cases b with
 | true=>rw [hb rfl]; rfl
 | false=>exact eF (Ji (S8 ⟨by simp; omega,by simp [maxLen]; omega⟩) Gx)

theorem H22 (xs:AD) (n:Nat) (hn:n < xs.length) (hm:xs.length<=100000) (ver:Nat) :
  Q4 Tryz.prog 102 [.vec 1020000002 ver 1 xs.length,I64 (n:Int),I64 ((n+1:Nat):Int)] [(1020000002,.vec 3 1 ver (xs.map I64))] (fun u L'=>u=.vec 1020000002 (ver+2) 1 (xs.eraseIdx n).length∧L'=[(1020000002,.vec 3 1 (ver+2) ((xs.eraseIdx n).map I64))]):=by
 obtain⟨Y,hY⟩:∃ Y,Y=(xs.drop (n+1)).take (xs.length - (n+1)):=⟨_,rfl⟩;have h0:Y.length=xs.length - (n+1):=by rw [hY]; simp
 refine Yc [1020000002] [.tmp 6] Tryz.func102 rfl rfl (nV rfl) ?_;refine Jr fun h1=>?_;refine JLm (.sc (.slice none 0 0)) rfl ?_;refine G6 (h1 ?_);refine Jr fun h2=>?_;refine JLm (.vec 1020000002 ver 1 xs.length) rfl ?_;refine JLm (I64 (n:Int)) rfl ?_;refine JLm (I64 ((n+1:Nat):Int)) rfl ?_;refine JLm (.vec 1020000002 ver 1 xs.length) rfl ?_;refine G0 (u:=I64 (xs.length:Int)) (J2e tV rfl rfl rfl) ?_;refine G0 (u:=.AP) (Ja0 (lo:=n) (hi:=n+1) (mx:=xs.length) rfl tV rfl rfl rfl rfl rfl rfl rfl rfl (by omega) (by omega) (by simp)) ?_;refine G6 (h2 ?_);refine Js fun h3=>?_;refine Jr fun h4=>?_;refine JLm (I64 (n:Int)) rfl ?_;refine JLm (I64 ((n+1:Nat):Int)) rfl ?_;refine G0 (u:=BL (decide ((n:Int)=((n+1:Nat):Int)))) Qj ?_;refine G6 (h4 ?_);refine Gp rfl (fun hb=>?_) (fun hb=>?_)
 ·exact absurd (S6 hb) (by omega)
 refine Gs (h3 ?_);refine Jr fun h5=>?_;refine JLm (.vec 1020000002 ver 1 xs.length) rfl ?_;refine G0 (u:=I64 (xs.length:Int)) (J2e tV rfl rfl rfl) ?_;refine JLm (I64 (xs.length:Int)) rfl ?_;refine G6 (h5 ?_);refine Js fun h6=>?_;refine Qe [6] [0,0,0,0,0,0,0,1] [0,0,0,0,0,0,0,1] [[(1020000002,.vec 3 1 ver (xs.map I64))],[(1020000002,.vec 3 1 ver ((xs.take n++Y++xs.drop (n+Y.length)).map I64)),(1020000002,.vec 3 1 ver (xs.map I64))]] Q40 (by kernel_rfl) rfl rfl ?_;refine Gr (u:=.vec 1020000002 ver 1 xs.length) rfl rfl ⟨Gg (Ja2 _),trivial⟩ ?_;refine Gr (u:=I64 (n:Int)) rfl rfl ⟨Gg (Ja2 _),trivial⟩ ?_;refine Gr (u:=.vsl 1020000002 ver 1 0 n) rfl rfl ⟨Gg (YF (f:=I64) (xs:=xs) rfl rfl rfl rfl tV ⟨rfl,by omega⟩),trivial⟩ ?_;refine Gr (u:=.vec 1020000002 ver 1 xs.length) rfl rfl ⟨Gg (Ja2 _),trivial⟩ ?_;refine Gr (u:=I64 ((n+1:Nat):Int)) rfl rfl ⟨Gg (Ja2 _),trivial⟩ ?_;refine Gr (u:=.vsl 1020000002 ver 1 (n+1) (xs.length - (n+1))) rfl rfl ⟨Gg (tO (f:=I64) (xs:=xs) rfl rfl rfl rfl tV ⟨rfl,by omega⟩),trivial⟩ ?_;refine D_w (u:=.vsl 1020000002 ver 1 0 (n+Y.length)) rfl rfl rfl rfl (Gg (Ha4 (f:=I64) (xs:=xs) (ys:=Y) rfl tV rfl rfl (hY ▸ H24 rfl rfl) (fun _=>rfl) (by omega) rfl)) ?_;refine Gr (u:=.vsl 1020000002 ver 1 0 (n+Y.length)) rfl rfl ⟨Gg (Ja2 _),trivial⟩ ?_;refine Yg (h6 ?_);have h9:(xs.take n++Y++xs.drop (n+Y.length)).length=xs.length:=by rw [Sn,Sn,List.length_take,List.length_drop,h0]; omega
 refine Jr fun h7=>?_;refine JLm (.vsl 1020000002 ver 1 0 (n+Y.length)) rfl ?_;refine JLm (.vsl 1020000002 ver 1 0 (n+Y.length)) rfl ?_;refine G0 (u:=I64 ((n+Y.length:Nat):Int)) (Je3 rfl tV rfl rfl) ?_;refine JLm (I64 (xs.length:Int)) rfl ?_;refine G0 (u:=.vsl 1020000002 ver 1 (n+Y.length) (xs.length - (n+Y.length))) (H9f (lo:=n+Y.length) (hi:=xs.length) rfl tV rfl rfl (.inr ⟨_,_,rfl,rfl⟩) (.inr ⟨_,_,rfl,rfl⟩) (by omega) (by rw [Ss,h9]; exact Sf) rfl) ?_;refine Ha (G9a (f:=I64) (xs:=xs.take n++Y++xs.drop (n+Y.length)) (0:Int) [.int .i64 0] rfl tV (.inr rfl) rfl Q3e rfl rfl rfl ⟨.inl rfl,trivial⟩) ?_;refine G6 (h7 ?_);refine Jr fun h8=>?_;refine JLm (.vsl 1020000002 ver 1 0 (n+Y.length)) rfl ?_;refine JLm (.vsl 1020000002 ver 1 0 (n+Y.length)) rfl ?_;refine G6 (h8 ?_);refine Q13 6 rfl rfl ?_;refine J9b (f:=I64) (xs.eraseIdx n) 6 (ver+2) rfl rfl (by omega) ?_ ?_
 ·rw [<- List.map_take];refine congrArg (List.map I64) ?_;have:=Q07 xs n (0:Int) hn;rw [<- hY] at this;exact this
 refine H0 ?_;exact⟨[.vec 1020000002 (ver+2) 1 (xs.eraseIdx n).length],[(1020000002,.vec 3 1 (ver+2) ((xs.eraseIdx n).map I64))],⟨⟨_,rfl,.vec⟩,trivial⟩,rfl,⟨⟨_,rfl,.conv (.same rfl)⟩,trivial⟩,rfl,rfl⟩

def bS (xs:AD) (a b:Int):Option AD:=bif decide (0<=a)&&(decide (a < (xs.length:Int))&&(decide (b=a+1)&&decide (xs.length<=100000))) then some (xs.eraseIdx a.toNat) else none
theorem vT (xs:AD) (a b:Int) (r:AD) (h:bS xs a b=some r) (ver:Nat):Q4 Tryz.prog 102 [.vec 1020000002 ver 1 xs.length,I64 a,I64 b] [(1020000002,.vec 3 1 ver (xs.map I64))] (fun u L'=>u=.vec 1020000002 (ver+2) 1 r.length∧L'=[(1020000002,.vec 3 1 (ver+2) (r.map I64))]):=by
 unfold bS at h;cases hc:(decide (0<=a)&&(decide (a < (xs.length:Int))&&(decide (b=a+1)&&decide (xs.length<=100000)))) with
 | false=>rw [hc] at h; cases h
 | true=>
  rw [hc] at h;simp only [Sq,Sr] at hc;obtain⟨h1,h2,rfl,h3⟩:=hc;obtain⟨q,rfl⟩:∃ q:Nat,a=(q:Int):=⟨a.toNat,by omega⟩;have h:=Sc h;simp only [Int.toNat_natCast] at h;subst h;exact H22 xs q (by omega) h3 ver
end Go.Proofs.YtibhpogonkdiaaaGreat
