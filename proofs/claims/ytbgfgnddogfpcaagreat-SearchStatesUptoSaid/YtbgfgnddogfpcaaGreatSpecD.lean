/-
 Slices that are lent aQ local objects,with what lies behind What a model returns, slices.Delete of one element.
-/
import Derived.Test.YtbgfgnddogfpcaaGreatIterJ
import Derived.Test.YtbgfgnddogfpcaaGreatRel
import Derived.Test.YtbgfgnddogfpcaaGreatXC
namespace Go.Proofs.YtbgfgnddogfpcaaGreat
open Go.RowKit
set_option linter.unusedVariables false




section renameJ
variable {P:Program} {N:Cfg} {Q:Post} {c:Code} {l:Fr} {L:Loc}
theorem Jd1 (s BA:Nat) {i ver k n t:Nat} {xs:AD} (h1:look l s=.vec i ver k n) (hi:lk L i=some (.vec t k ver xs)) (h3:ver < BA)
  (hk:JC P N c Q ((s,.vec i BA k xs.length)::l) ((i,.vec t k BA xs)::L)):JC P N c Q l L:=fun n0 w0 U0 L0 a w U hs=>by
 have hv:=hs.frame.tmp s;rw [h1] at hv;obtain⟨h2,h0⟩:RX w (U.at_ i) t k xs.length (a.tmps.getD s undef)/\(a.tmps.getD s undef).oneCell'=true:=by
  cases hv with
  | data h=>cases h
  | vec hp h0=>
   obtain⟨t',ver',xs',g1,_,g3⟩:=hp;rw [hi] at g1; cases g1;obtain⟨rfl,g4⟩:=g3 rfl;exact⟨g4,h0⟩
 obtain⟨st,sat⟩:=R0 (w':=w) (t:=t) (k:=k) (BA:=BA) (xs':=xs) (ob':=U.at_ i) hs.sat (.inr ⟨ver,xs,hi,by omega,fun e=>by omega⟩) rfl rfl ⟨rfl,Pf⟩ (Pf) (fun _ _ _=>rfl) (.inr (.inl ⟨by rw [inL,hi]; rfl,rfl⟩));have sat':=sat ((hs.sat.obj i _ hi).step st (fun b hb=>rfl));refine hk n0 w0 U0 L0 a w _ ⟨sat',hs.step.trans st,(hs.frame.step st).over (.vec ⟨t,BA,xs,by rw [Ge,if_pos rfl],Pf,fun _=>⟨rfl,?_⟩⟩ h0),hs.size,hs.base,hs.defers.step st⟩;rw [show (upP U i (U.at_ i)) i=U.at_ i by simp [upP]];exact h2
theorem J8a {W:Type} {f:W->AV} (ys:List W) (s BA:Nat) {i ver k n t:Nat} {xs:AD} (h1:look l s=.vec i ver k n) (hi:lk L i=some (.vec t k ver xs)) (h0:ver < BA) (hx:xs=ys.map f)
  (hk:JC P N c Q ((s,.vec i BA k ys.length)::l) ((i,.vec t k BA (ys.map f))::L)):JC P N c Q l L:=by
 subst hx;refine Jd1 s BA h1 hi h0 ?_;rw [Pr];exact hk
end renameJ

section
variable {W U B : Type} {Q : U -> Prop}

def Wp (m : Option U) (Q : U -> Prop) : Prop := ∃ r, m = some r /\ Q r

theorem Gt {r : U} (h : Q r:=by rfl) : Wp (some r) Q := ⟨r, rfl, h⟩
theorem wp_mono {m : Option U} {Q' : U -> Prop} (h : Wp m Q') (hq : ∀ r, Q' r -> Q r) : Wp m Q := by
  obtain ⟨r, e, h⟩ := h; exact ⟨r, e, hq r h⟩
variable {k:W -> Option U}
theorem Hq {m : Option W} (h : Wp m (fun x => Wp (k x) Q)) : Wp (bnd m k) Q := by
  obtain ⟨x, rfl, h⟩ := h; exact h
theorem H2 {m : Option W} {x : W} (e : m = some x) (h : Wp (k x) Q) : Wp (bnd m k) Q := by subst e; exact h
theorem bW {z : Int} {k : Int -> Option U} (h1 : -9223372036854775808 <= z /\ z <= 9223372036854775807) (h : Wp (k z) Q) : Wp (chk z k) Q := by
  unfold chk Gd8;rw [P8 h1.1, P8 h1.2]; exact h
theorem Ja {c : Bool} {x y : Option U} (h1 : c = true -> Wp x Q) (h2 : c = false -> Wp y Q) : Wp (bif c then x else y) Q := by
  cases c with
  | true => exact h1 rfl
  | false => exact h2 rfl
theorem Yt {b : Bool} {k : Option U} (hb : b = true) (h : Wp k Q) : Wp (need b k) Q := by subst hb; exact h
theorem fO {l : List W} {i : Int} {m : Nat} {x : W} (hi : i = (m : Int)) (hx : l[m]? = some x) (h : Wp (k x) Q) : Wp (Jw l i k) Q := by
  subst hi;unfold Jw;rw [P8 (by omega : (0 : Int) <= m), cond_true, show (m : Int).toNat = m by omega, hx];exact h
theorem oM {m : (W -> Option U) -> Option U} (P : W -> Prop) (hm : ∀ K : W -> Option U, (∀ a, P a -> Wp (K a) Q) -> Wp (m K) Q) (hk : ∀ a, P a -> Wp (k a) Q) : Wp (jp m k) Q := hm k hk
theorem HS {i : Int} {n m : Nat} {Q : Nat -> Prop} (hi : i = (m : Int)) (hm : m <= n) (h : Q m) : Wp (fC i n) Q := by
  subst hi;unfold fC;rw [P8 (by omega : (0 : Int) <= m), show (m : Int).toNat = m by omega, P8 hm];exact Gt h
theorem Q6 (I : List W -> B -> Prop) {b : W -> Nat -> B -> (B -> Option U) -> Option U} {kx : B -> Option U} {xs : List W} {s : B} (h0 : I [] s)
    (hb : ∀ pre x post s nx, xs = pre ++ x :: post -> I pre s -> (∀ s', I (pre ++ [x]) s' -> Wp (nx s') Q) -> Wp (b x pre.length s nx) Q) (hk : ∀ s, I xs s -> Wp (kx s) Q) : Wp (each b kx xs 0 s) Q := by
  have key : ∀ (post pre : List W) (s : B), xs = pre ++ post -> I pre s -> Wp (each b kx post pre.length s) Q := by
    intro post
    induction post with
    | nil => intro pre s e hi; rw [List.append_nil] at e; subst e; exact hk s hi
    | cons x post ih =>
      intro pre s e hi;rw [each];refine hb pre x post s _ e hi (fun s' h1 => ?_);have := ih (pre ++ [x]) s' (by rw [e]; simp) h1;rw [Pn, Po] at this;exact this
  exact key xs [] s rfl h0
theorem HR (I : Nat -> B -> Prop) {b : Nat -> B -> (B -> Option U) -> Option U} {kx : B -> Option U} {n : Nat} {s : B} (h0 : I 0 s)
    (hb : ∀ i s nx, i < n -> I i s -> (∀ s', I (i + 1) s' -> Wp (nx s') Q) -> Wp (b i s nx) Q) (hk : ∀ s, I n s -> Wp (kx s) Q) : Wp (upto b kx n 0 s) Q := by
  have key : ∀ (m i : Nat) (s : B), i + m = n -> I i s -> Wp (upto b kx m i s) Q := by
    intro m
    induction m with
    | zero => intro i s e hi; have e : i = n := by omega
              subst e; exact hk s hi
    | succ m ih =>
      intro i s e hi;rw [upto];exact hb i s _ (by omega) hi (fun s' h1 => ih (i + 1) s' (by omega) h1)
  exact key n 0 s (by omega) h0
theorem Zs {m : Option U} {r : U} (h : Wp m (· = r)) : m = some r := by
  obtain ⟨x, e, rfl⟩ := h; exact e
end

set_option maxRecDepth 100000
set_option linter.unusedSimpArgs false
theorem J70 {W U:Type} [DecidableEq U] {xs:List W} {k:Bool->Option U} {r:Option U} (h:∀ b,(b=true->xs=[])->k b=r):Q23 xs k=r:=by
 unfold Q23;cases xs with
 | nil=>rw [h true (fun _=>rfl),h false (fun e=>by cases e)]; simp
 | cons x l=>exact h false (fun e=>by cases e)
theorem Q2e {W:Type} (xs:List W) (n:Nat) (z:W) (h:n < xs.length) :
  ((blank (xs.take n++(xs.drop (n+1)).take (xs.length - (n+1))++xs.drop (n+((xs.drop (n+1)).take (xs.length - (n+1))).length)) (n+((xs.drop (n+1)).take (xs.length - (n+1))).length) (xs.length - (n+((xs.drop (n+1)).take (xs.length - (n+1))).length)) z).take (n+((xs.drop (n+1)).take (xs.length - (n+1))).length))=xs.eraseIdx n:=by
 have e:(xs.drop (n+1)).take (xs.length - (n+1))=xs.drop (n+1):=List.take_of_length_le (by simp);rw [e];unfold blank;have hl:(xs.take n++xs.drop (n+1)).length=n+(xs.drop (n+1)).length:=by rw [Pn,List.length_take]; omega
 rw [List.append_assoc (xs.take n),List.eraseIdx_eq_take_drop_succ];have h1:(xs.take n++(xs.drop (n+1)++xs.drop (n+(xs.drop (n+1)).length))).take (n+(xs.drop (n+1)).length)=xs.take n++xs.drop (n+1):=by
  rw [<- List.append_assoc,List.take_append_of_le_length (by omega),List.take_of_length_le (by omega)]
 rw [h1,List.append_assoc,List.take_append_of_le_length (by omega),List.take_of_length_le (by omega)]
/-! ### int -/
theorem uO:sliceB Tryz.prog 51 3 1=true:=by kernel_rfl
theorem Q80:(Tryz.prog.info? 3).bind (fun i=>i.zero.map Value.cells)=some ([.int .i64 0]:AK).toArray:=by kernel_rfl
theorem Q82:Tryz.prog.follows .mixedOrders=true:=by kernel_rfl
theorem G02 (l:AE) (h:l.length<=100000):Rb l=some l:=by
 unfold Rb;refine J70 (fun b hb=>?_);cases b with
 | true=>rw [hb rfl]; rfl
 | false=>exact Zs (Yt (P8 ⟨by simp; omega,by simp [maxLen]; omega⟩) Gt)

theorem H0d (xs:AE) (n:Nat) (hn:n < xs.length) (hm:xs.length<=100000) (ver:Nat) :
  Q2 Tryz.prog 129 [.vec 1290000002 ver 1 xs.length,I64 (n:Int),I64 ((n+1:Nat):Int)] [(1290000002,.vec 3 1 ver (xs.map I64))] (fun u L'=>u=.vec 1290000002 (ver+2) 1 (xs.eraseIdx n).length/\L'=[(1290000002,.vec 3 1 (ver+2) ((xs.eraseIdx n).map I64))]):=by
 obtain⟨Y,hY⟩:∃ Y,Y=(xs.drop (n+1)).take (xs.length - (n+1)):=⟨_,rfl⟩;have h0:Y.length=xs.length - (n+1):=by rw [hY]; simp
 refine aW [1290000002] [.tmp 6] Tryz.func129 rfl rfl (zR rfl) ?_;refine Jr fun h1=>?_;refine JLm (.sc (.slice none 0 0)) rfl ?_;refine G6 (h1 ?_);refine Jr fun h2=>?_;refine JLm (.vec 1290000002 ver 1 xs.length) rfl ?_;refine JLm (I64 (n:Int)) rfl ?_;refine JLm (I64 ((n+1:Nat):Int)) rfl ?_;refine JLm (.vec 1290000002 ver 1 xs.length) rfl ?_;refine G0 (u:=I64 (xs.length:Int)) (J20 uO rfl rfl rfl) ?_;refine G0 (u:=.AL) (J91 (lo:=n) (hi:=n+1) (mx:=xs.length) rfl uO rfl rfl rfl rfl rfl rfl rfl rfl (by omega) (by omega) (by simp)) ?_;refine G6 (h2 ?_);refine Js fun h3=>?_;refine Jr fun h4=>?_;refine JLm (I64 (n:Int)) rfl ?_;refine JLm (I64 ((n+1:Nat):Int)) rfl ?_;refine G0 (u:=BL (decide ((n:Int)=((n+1:Nat):Int)))) Q7 ?_;refine G6 (h4 ?_);refine Gh rfl (fun hb=>?_) (fun hb=>?_)
 .exact absurd (P6 hb) (by omega)
 refine Gj (h3 ?_);refine Jr fun h5=>?_;refine JLm (.vec 1290000002 ver 1 xs.length) rfl ?_;refine G0 (u:=I64 (xs.length:Int)) (J20 uO rfl rfl rfl) ?_;refine JLm (I64 (xs.length:Int)) rfl ?_;refine G6 (h5 ?_);refine Js fun h6=>?_;refine Q1 [6] [0,0,0,0,0,0,0,1] [0,0,0,0,0,0,0,1] [[(1290000002,.vec 3 1 ver (xs.map I64))],[(1290000002,.vec 3 1 ver ((xs.take n++Y++xs.drop (n+Y.length)).map I64)),(1290000002,.vec 3 1 ver (xs.map I64))]] Q82 (by kernel_rfl) rfl rfl ?_;refine Gb (u:=.vec 1290000002 ver 1 xs.length) rfl rfl ⟨Gr (J94 _),trivial⟩ ?_;refine Gb (u:=I64 (n:Int)) rfl rfl ⟨Gr (J94 _),trivial⟩ ?_;refine Gb (u:=.vsl 1290000002 ver 1 0 n) rfl rfl ⟨Gr (J8d (f:=I64) (xs:=xs) rfl rfl rfl rfl uO ⟨rfl,by omega⟩),trivial⟩ ?_;refine Gb (u:=.vec 1290000002 ver 1 xs.length) rfl rfl ⟨Gr (J94 _),trivial⟩ ?_;refine Gb (u:=I64 ((n+1:Nat):Int)) rfl rfl ⟨Gr (J94 _),trivial⟩ ?_;refine Gb (u:=.vsl 1290000002 ver 1 (n+1) (xs.length - (n+1))) rfl rfl ⟨Gr (J8c (f:=I64) (xs:=xs) rfl rfl rfl rfl uO ⟨rfl,by omega⟩),trivial⟩ ?_;refine D_w (u:=.vsl 1290000002 ver 1 0 (n+Y.length)) rfl rfl rfl rfl (Gr (Haa (f:=I64) (xs:=xs) (ys:=Y) rfl uO rfl rfl (hY ▸ Q38 rfl rfl) (fun _=>rfl) (by omega) rfl)) ?_ rfl;refine Gb (u:=.vsl 1290000002 ver 1 0 (n+Y.length)) rfl rfl ⟨Gr (J94 _),trivial⟩ ?_;refine Y2 (h6 ?_);have h9:(xs.take n++Y++xs.drop (n+Y.length)).length=xs.length:=by rw [Pn,Pn,List.length_take,List.length_drop,h0]; omega
 refine Jr fun h7=>?_;refine JLm (.vsl 1290000002 ver 1 0 (n+Y.length)) rfl ?_;refine JLm (.vsl 1290000002 ver 1 0 (n+Y.length)) rfl ?_;refine G0 (u:=I64 ((n+Y.length:Nat):Int)) (Jda rfl uO rfl rfl) ?_;refine JLm (I64 (xs.length:Int)) rfl ?_;refine G0 (u:=.vsl 1290000002 ver 1 (n+Y.length) (xs.length - (n+Y.length))) (Ha3 (lo:=n+Y.length) (hi:=xs.length) rfl uO rfl rfl (.inr ⟨_,_,rfl,rfl⟩) (.inr ⟨_,_,rfl,rfl⟩) (by omega) (by rw [Pr,h9]; exact Pf) rfl) ?_;refine Hz (Jea (f:=I64) (xs:=xs.take n++Y++xs.drop (n+Y.length)) (0:Int) [.int .i64 0] rfl uO (.inr rfl) rfl Q80 rfl rfl rfl ⟨.inl rfl,trivial⟩) ?_;refine G6 (h7 ?_);refine Jr fun h8=>?_;refine JLm (.vsl 1290000002 ver 1 0 (n+Y.length)) rfl ?_;refine JLm (.vsl 1290000002 ver 1 0 (n+Y.length)) rfl ?_;refine G6 (h8 ?_);refine Q41 6 rfl rfl ?_;refine J8a (f:=I64) (xs.eraseIdx n) 6 (ver+2) rfl rfl (by omega) ?_ ?_
 .rw [<- List.map_take];refine congrArg (List.map I64) ?_;have:=Q2e xs n (0:Int) hn;rw [<- hY] at this;exact this
 refine Gp ?_;exact⟨[.vec 1290000002 (ver+2) 1 (xs.eraseIdx n).length],[(1290000002,.vec 3 1 (ver+2) ((xs.eraseIdx n).map I64))],⟨⟨_,rfl,.vec⟩,trivial⟩,rfl,⟨⟨_,rfl,.conv (.same rfl)⟩,trivial⟩,rfl,rfl⟩

def cE (xs:AE) (a b:Int):Option AE:=bif decide (0<=a)&&(decide (a < (xs.length:Int))&&(decide (b=a+1)&&decide (xs.length<=100000))) then some (xs.eraseIdx a.toNat) else none
theorem wN (xs:AE) (a b:Int) (r:AE) (h:cE xs a b=some r) (ver:Nat):Q2 Tryz.prog 129 [.vec 1290000002 ver 1 xs.length,I64 a,I64 b] [(1290000002,.vec 3 1 ver (xs.map I64))] (fun u L'=>u=.vec 1290000002 (ver+2) 1 r.length/\L'=[(1290000002,.vec 3 1 (ver+2) (r.map I64))]):=by
 unfold cE at h;cases hc:(decide (0<=a)&&(decide (a < (xs.length:Int))&&(decide (b=a+1)&&decide (xs.length<=100000)))) with
 | false=>rw [hc] at h; cases h
 | true=>
  rw [hc] at h;simp only [Pp,Pq] at hc;obtain⟨h1,h2,rfl,h3⟩:=hc;obtain⟨q,rfl⟩:∃ q:Nat,a=(q:Int):=⟨a.toNat,by omega⟩;have h:=Pc h;simp only [Int.toNat_natCast] at h;subst h;exact H0d xs q (by omega) h3 ver
end Go.Proofs.YtbgfgnddogfpcaaGreat
