/-
 What a model returns, What the program says of a ship and of a state,and what has
-/
import Derived.Test.YtgcpimpnpcdmmaaGreatRangeF
import Derived.Test.YtgcpimpnpcdmmaaGreatXB
namespace Go.Proofs.YtgcpimpnpcdmmaaGreat

section
variable {α β σ : Type} {Q : β → Prop}

def Wp (m : Option β) (Q : β → Prop) : Prop := ∃ r, m = some r ∧ Q r

theorem Gp {r : β} (h : Q r) : Wp (some r) Q := ⟨r, rfl, h⟩
theorem wp_mono {m : Option β} {Q' : β → Prop} (h : Wp m Q') (hq : ∀ r, Q' r → Q r) : Wp m Q := by
  obtain ⟨r, e, h⟩ := h; exact ⟨r, e, hq r h⟩
theorem H6 {m : Option α} {k : α → Option β} (h : Wp m (fun x => Wp (k x) Q)) : Wp (bnd m k) Q := by
  obtain ⟨x, rfl, h⟩ := h; exact h
theorem Gt {m : Option α} {k : α → Option β} {x : α} (e : m = some x) (h : Wp (k x) Q) : Wp (bnd m k) Q := by subst e; exact h
theorem Qo {z : Int} {k : Int → Option β} (h1 : -9223372036854775808 ≤ z ∧ z ≤ 9223372036854775807) (h : Wp (k z) Q) : Wp (chk z k) Q := by
  unfold chk R3a
  rw [M3 h1.1, M3 h1.2]; exact h
theorem Hv {c : Bool} {x y : Option β} (h1 : c = true → Wp x Q) (h2 : c = false → Wp y Q) : Wp (bif c then x else y) Q := by
  cases c with
  | true => exact h1 rfl
  | false => exact h2 rfl
theorem Rx {b : Bool} {k : Option β} (hb : b = true) (h : Wp k Q) : Wp (need b k) Q := by subst hb; exact h
theorem Yq {l : List α} {i : Int} {k : α → Option β} {m : Nat} {x : α} (hi : i = (m : Int)) (hx : l[m]? = some x) (h : Wp (k x) Q) : Wp (Qw l i k) Q := by
  subst hi
  unfold Qw
  rw [M3 (by omega : (0 : Int) ≤ m), cond_true, show (m : Int).toNat = m by omega, hx]
  exact h
theorem Zr {m : (α → Option β) → Option β} {k : α → Option β} (P : α → Prop) (hm : ∀ K : α → Option β, (∀ a, P a → Wp (K a) Q) → Wp (m K) Q) (hk : ∀ a, P a → Wp (k a) Q) : Wp (jp m k) Q := hm k hk
theorem J31 {m n : Int} {Q : Int → Prop} (hn : n ≠ 0) (h : Q (m.tmod n)) : Wp (J1e m n) Q := by
  unfold J1e
  rw [M4 hn, cond_false]
  exact Gp h
theorem J32 {i : Int} {n m : Nat} {Q : Nat → Prop} (hi : i = (m : Int)) (hm : m ≤ n) (h : Q m) : Wp (Jd7 i n) Q := by
  subst hi
  unfold Jd7
  rw [M3 (by omega : (0 : Int) ≤ m), show (m : Int).toNat = m by omega, M3 hm]
  exact Gp h
theorem Jj (I : List α → σ → Prop) {b : α → Nat → σ → (σ → Option β) → Option β} {kx : σ → Option β} {xs : List α} {s : σ} (h0 : I [] s)
    (hb : ∀ pre x post s nx, xs = pre ++ x :: post → I pre s → (∀ s', I (pre ++ [x]) s' → Wp (nx s') Q) → Wp (b x pre.length s nx) Q) (hk : ∀ s, I xs s → Wp (kx s) Q) : Wp (each b kx xs 0 s) Q := by
  have key : ∀ (post pre : List α) (s : σ), xs = pre ++ post → I pre s → Wp (each b kx post pre.length s) Q := by
    intro post
    induction post with
    | nil => intro pre s e hi; rw [List.append_nil] at e; subst e; exact hk s hi
    | cons x post ih =>
      intro pre s e hi
      rw [each]
      refine hb pre x post s _ e hi (fun s' h1 => ?_)
      have := ih (pre ++ [x]) s' (by rw [e]; simp) h1
      rw [Mh, Mi] at this
      exact this
  exact key xs [] s rfl h0
theorem Hf3 (I : Nat → σ → Prop) {b : Nat → σ → (σ → Option β) → Option β} {kx : σ → Option β} {n : Nat} {s : σ} (h0 : I 0 s)
    (hb : ∀ i s nx, i < n → I i s → (∀ s', I (i + 1) s' → Wp (nx s') Q) → Wp (b i s nx) Q) (hk : ∀ s, I n s → Wp (kx s) Q) : Wp (upto b kx n 0 s) Q := by
  have key : ∀ (m i : Nat) (s : σ), i + m = n → I i s → Wp (upto b kx m i s) Q := by
    intro m
    induction m with
    | zero => intro i s e hi; have e : i = n := by omega
              subst e; exact hk s hi
    | succ m ih =>
      intro i s e hi
      rw [upto]
      exact hb i s _ (by omega) hi (fun s' h1 => ih (i + 1) s' (by omega) h1)
  exact key n 0 s (by omega) h0
theorem G34 {m : Option β} {r : β} (h : Wp m (· = r)) : m = some r := by
  obtain ⟨x, e, rfl⟩ := h; exact e
end

def H0e {α : Type} (p : α → Bool) (l : List α) : List Int := (l.zipIdx.filter (fun x => p x.1)).map (fun x => (x.2 : Int))
theorem J6d {α : Type} (p : α → Bool) (l : List α) (x : α) : H0e p (l ++ [x]) = H0e p l ++ (if p x then [(l.length : Int)] else []) := by
  unfold H0e
  rw [List.zipIdx_append, List.filter_append, List.map_append]
  by_cases h : p x <;> simp [h]
theorem Q59 {α : Type} (p : α → Bool) (l : List α) : (H0e p l).length ≤ l.length := by
  unfold H0e
  rw [Mm]
  exact Nat.le_trans (Ky _ _) (by simp)
theorem Jdf {α : Type} {p : α → Bool} {l : List α} : H0e p l = [] ↔ ∀ x ∈ l, p x = false := by
  unfold H0e
  rw [List.map_eq_nil_iff, List.filter_eq_nil_iff]
  constructor
  · intro h x hx
    obtain ⟨i, hi⟩ := List.mem_iff_getElem?.1 hx
    have := h (x, i) (List.mk_mem_zipIdx_iff_getElem?.2 hi)
    simpa using this
  · intro h y hy
    have := h y.1 (List.mem_iff_getElem?.2 ⟨y.2, List.mk_mem_zipIdx_iff_getElem?.1 hy⟩)
    simp [this]
set_option linter.unusedVariables false
set_option maxRecDepth 100000
open Go.RowKit
theorem Y89 {α γ:Type} {l:List α} {i:Nat} {y:α} (h:l[i]? = some y) (k:α→Option γ):Qw l (i:Int) k=k y:=by
 unfold Qw
 rw [M3 (by omega:(0:Int)≤(i:Int)),cond_true,show (i:Int).toNat=i by omega,h]; rfl
structure Z69 (c:G3):Prop where
 plugs:∀ p∈c.Plugs,0≤p∧p < c.Tiers
 sorted:c.Plugs.Pairwise (· < ·)
 place:0≤c.Bay∧c.Bay≤39∧0≤c.Row∧c.Row≤30∧1≤c.Tiers∧c.Tiers≤10∧0≤c.Height∧c.Height≤40000
 load:0≤c.Kilos20∧c.Kilos20≤500000000∧0≤c.Kilos40∧c.Kilos40≤500000000∧0≤c.Lash∧c.Lash≤1000000000000
 at_ : -500000≤c.X∧c.X≤500000 ∧ -500000≤c.Y∧c.Y≤500000 ∧ -500000≤c.Z∧c.Z≤500000
theorem Hcb {p:Prop} (h:¬ p):(false=true) ↔ p:=⟨fun e=>Bool.noConfusion e,fun hp=>(h hp).elim⟩
theorem Z8f {β:Type} {Q:β→Prop} {z:Int} {k:Int→Option β} (h:Wp (k (IntKind.i64.wrap z)) Q):Wp (wrp z k) Q:=h
theorem Y78 {α:Type} {R:α→α→Prop} {l:List α} {x:α} (h:l.Pairwise R) (hx:∀ a∈l,R a x):(l++[x]).Pairwise R:=by
 rw [List.pairwise_append]
 refine⟨h,List.pairwise_singleton ..,fun a ha b hb=>?_⟩
 rw [Mp] at hb; subst hb
 exact hx a ha
theorem Hde {α:Type} {P:α→Prop} {l:List α} {x:α} (h1:∀ y∈l,P y) (h2:P x):∀ y∈l++[x],P y:=fun y hy=>by
 rcases Mn.1 hy with hy | hy
 ·exact h1 y hy
 ·rw [Mp.1 hy]; exact h2
theorem Q40 {pre:List Int} {y p:Int} (h:pre.Pairwise (· < ·)) (hp:pre[pre.length - 1]? = some p) (hy:p < y):∀ a∈pre,a < y:=by
 rcases List.eq_nil_or_concat pre with rfl | ⟨q,z,rfl⟩
 ·intro a ha; cases ha
 ·rw [List.concat_eq_append] at *
  have hz:z=p:=by
   rw [Mh,Mi,show q.length+1 - 1=q.length by omega] at hp
   simpa using hp
  subst hz
  intro a ha
  rcases Mn.1 ha with ha | ha
  ·have:=(List.pairwise_append.1 h).2.2 a ha z (by simp)
   omega
  ·rw [Mp.1 ha]; exact hy
theorem Q4b (l:List Hm):G5e l=some (l.all (fun x=>decide (x.low≤x.n)&&decide (x.n≤x.high))):=by
 refine G34 ?_
 unfold G5e
 refine Jj (fun pre _=>pre.all (fun x=>decide (x.low≤x.n)&&decide (x.n≤x.high))=true) rfl (fun pre y post s nx e hI h0=>Hv (fun h=>Gp ?_) (fun h=>h0 _ ?_)) (fun s hI=>Gp hI.symm)
 ·symm
  rw [List.all_eq_false]
  refine⟨y,by rw [e]; simp,?_⟩
  simp only [Ms,Mk] at h
  simp only [Mj,Mk]
  omega
 ·simp only [Mt,decide_eq_false_iff_not] at h
  rw [List.all_append,hI]
  simp only [List.all_cons,List.all_nil,Bool.and_true,Bool.true_and,Mj,Mk]
  omega
theorem R63 {pre post:List Int} {l:List Int} {y:Int} (e:l=pre++y::post) (hp:0 < pre.length):∃ p,l[pre.length - 1]? = some p∧pre[pre.length - 1]? = some p∧p∈pre:=by
 have h1:pre[pre.length - 1]? = some (pre[pre.length - 1]'(by omega)):=M6 (by omega)
 exact⟨_,by rw [e,Mc (by omega)]; exact h1,h1,List.getElem_mem _⟩
theorem Yc3 (c:G3) (hl:c.Plugs.length≤1048576):Wp (Gbe c) (fun r=>r=true ↔ Z69 c):=by
 unfold Gbe
 have hw:1≤c.Tiers∧c.Tiers≤10→IntKind.i64.wrap (c.Tiers - 1)=c.Tiers - 1:=fun h=>Q73 (by omega) (by omega)
 refine Jj (fun pre _=>(∀ p∈pre,0≤p∧p≤IntKind.i64.wrap (c.Tiers - 1))∧pre.Pairwise (· < ·)) ⟨fun p hp=>(M9 hp).elim,List.Pairwise.nil⟩ (fun pre y post s nx e hI h5=>?_) (fun s hI=>?_)
 ·obtain⟨h3,h4⟩:=hI
  have h6:y∈c.Plugs:=by rw [e]; simp
  have b0:pre.length < c.Plugs.length:=by rw [e]; simp
  refine Z8f (Gt (Q4b _) ?_)
  simp only [List.all_cons,List.all_nil,Bool.and_true]
  by_cases hy:0≤y∧y≤IntKind.i64.wrap (c.Tiers - 1)
  ·rw [M3 hy.1,M3 hy.2]
   simp only [Bool.and_self,Bool.not_true,Bool.not_false,Bool.true_and,Bool.false_or]
   by_cases hp:0 < pre.length
   ·obtain⟨p,h7,h8,h9⟩:=R63 e hp
    have a0:IntKind.i64.wrap ((pre.length:Int) - 1)=((pre.length - 1:Nat):Int):=by
     rw [Q73 (by omega) (by omega)]; omega
    rw [M3 (by omega:0 < (pre.length:Int)),cond_true]
    refine Gt (congrArg some a0) (Gt ((Y89 h7 some).trans rfl) ?_)
    simp only [Bool.true_and]
    refine Hv (fun h=>Gp (Hcb fun hc=>?_)) (fun h=>h5 _ ⟨Hde h3 hy,Y78 h4 (Q40 h4 h8 (by have:=M2 h; omega))⟩)
    have:=M1 h
    have hs:=hc.sorted
    rw [e] at hs
    have:=(List.pairwise_append.1 hs).2.2 p h9 y (by simp)
    omega
   ·have h0:pre=[]:=Kw (by omega)
    subst h0
    rw [M4 (by simp:¬ 0 < (([]:List Int).length:Int))]
    refine H6 (Gp (H6 (Gp ?_)))
    simp only [Bool.false_and,cond_false]
    exact h5 _ ⟨Hde h3 hy,by simp⟩
  ·have hf:(decide (0≤y)&&decide (y≤IntKind.i64.wrap (c.Tiers - 1)))=false:=by
    rw [Bool.and_eq_false_iff,decide_eq_false_iff_not,decide_eq_false_iff_not]
    omega
   rw [hf]
   simp only [Bool.not_false,Bool.not_true,Bool.false_and,cond_false,Bool.true_or,cond_true]
   refine H6 (Gp (H6 (Gp (Gp (Hcb fun hc=>hy ?_)))))
   have h1:=hc.plugs y h6
   have h2:=hc.place
   rw [hw (by omega)]
   omega
 ·obtain⟨h3,h4⟩:=hI
  refine Gt (Q4b _) (Gp ?_)
  simp only [List.all_cons,List.all_nil,Bool.and_true,Mj,Mk]
  constructor
  ·rintro⟨a1,a2,a3,a4,a5,a6,a7,a8,a9,a10⟩
   have hw:=hw a3
   exact⟨fun p hp=>by have:=h3 p hp; omega,h4,by omega,by omega,by omega⟩
  ·intro h
   obtain⟨_,_,b1,b2,b3⟩:=h
   omega
def dk (b:Bool):Int:=bif b then 1 else 0
def k3 (c:G3):Hf:=⟨c.Bay,c.Row,dk c.Deck⟩
def x3 (x:G9):List Hf:=x.Rows.map fun r=>⟨x.Bay,r,2⟩
structure CovR (x:G9):Prop where
 bay:0≤x.Bay∧x.Bay≤39
 some:x.Rows≠[]
 rows:∀ r∈x.Rows,0≤r∧r≤30
 sorted:x.Rows.Pairwise (· < ·)
structure Je9 (s:Gi):Prop where
 num:1≤s.Columns.length∧s.Columns.length≤200∧s.Covers.length≤40
 col:∀ c∈s.Columns,Z69 c
 cov:∀ x∈s.Covers,CovR x
 nodup:(s.Columns.map k3++s.Covers.flatMap x3).Nodup
theorem Z78 {κ:Type} [DecidableEq κ] {m:H8 κ Int} {l:List κ} (h:H8.l m=tally l) (a:κ):H8.l (H8.put m a (H8.get m a 0+1))=tally (l++[a]):=by
 rw [Hff]
 show H02 (H8.l m) a ((G30 (H8.l m) a).getD 0+1)=_
 rw [h]
theorem Z7f {κ:Type} [DecidableEq κ] {m:H8 κ Int} {l:List κ} (h:H8.l m=tally l) (a:κ):0≤H8.get m a 0∧H8.get m a 0≤(l.length:Int):=by
 have:=Rbb l a
 show 0≤(G30 (H8.l m) a).getD 0∧_
 rw [h]
 exact⟨this.1,by show (G30 (H8.l m) a).getD 0≤_; rw [h]; exact this.2⟩
theorem Z07 (l:List G9) (h:∀ x∈l,x.Rows.length≤1048576):(l.flatMap x3).length≤1048576*l.length:=by
 induction l with
 | nil=>simp
 | cons x l ih=>
  have h1:=h x (List.mem_cons_self ..)
  have h2:=ih (fun y hy=>h y (List.mem_cons_of_mem _ hy))
  rw [List.flatMap_cons,Mh,Md]
  have:(x3 x).length=x.Rows.length:=by simp [x3]
  omega
theorem Qb9 (s:Gi) (hp:∀ c∈s.Columns,c.Plugs.length≤1048576) (hr:∀ x∈s.Covers,x.Rows.length≤1048576):Wp (Gbc s) (fun r=>r=true ↔ Je9 s):=by
 unfold Gbc H79
 refine Hv (fun hc=>Gp (Hcb fun h=>?_)) (fun hc=>?_)
 ·have:=h.num
  simp only [Ms,Mk] at hc
  omega
 simp only [Mt,decide_eq_false_iff_not] at hc
 have hn:1≤s.Columns.length∧s.Columns.length≤200∧s.Covers.length≤40:=by omega
 refine Jj (fun pre m=>H8.l m=tally (pre.map k3)∧∀ c∈pre,Z69 c) ⟨rfl,fun c hc=>(M9 hc).elim⟩ (fun pre y post m nx e hI h6=>?_) (fun m hI=>?_)
 ·obtain⟨h5,h7⟩:=hI
  have h3:y∈s.Columns:=by rw [e]; simp
  have a6:pre.length < s.Columns.length:=by rw [e]; simp
  refine Zr (fun j=>j=dk y.Deck) (fun K hK=>Hv (fun h=>hK _ (by rw [h]; rfl)) (fun h=>hK _ (by rw [h]; rfl))) (fun j hj=>?_)
  subst hj
  have hb:=Z7f h5 (k3 y)
  rw [Mm] at hb
  refine Gt (x:=H8.get m (k3 y) 0) rfl (Qo ⟨by omega,by omega⟩ (H6 (wp_mono (Yc3 y (hp y h3)) (fun r hr=>Hv (fun h=>Gp (Hcb fun hs=>?_)) (fun h=>h6 _ ⟨?_,Hde h7 ?_⟩)))))
  ·rw [hr.2 (hs.col y h3)] at h; cases h
  ·rw [List.map_append]; exact Z78 h5 (k3 y)
  ·cases r with
   | true=>exact hr.1 rfl
   | false=>cases h
 obtain⟨h5,h7⟩:=hI
 refine Jj (fun pre m=>H8.l m=tally (s.Columns.map k3++pre.flatMap x3)∧∀ x∈pre,CovR x) ⟨by simpa using h5,fun c hc=>(M9 hc).elim⟩ (fun pre y post m nx e hJ h6=>?_) (fun m hJ=>?_)
 ·obtain⟨h8,h9⟩:=hJ
  have h3:y∈s.Covers:=by rw [e]; simp
  have a6:pre.length < s.Covers.length:=by rw [e]; simp
  refine Hv (fun hc=>Gp (Hcb fun h=>?_)) (fun hc=>?_)
  ·have h1:=(h.cov y h3).bay
   have h2:=(h.cov y h3).some
   simp only [Ms,Mk] at hc
   have:y.Rows.length≠0:=fun h=>h2 (List.length_eq_zero_iff.1 h)
   omega
  simp only [Mt,decide_eq_false_iff_not] at hc
  have a7:y.Rows≠[]:=fun h=>by rw [h] at hc; simp at hc
  have b6:=Z07 pre (fun x hx=>hr x (by rw [e]; exact Mn.2 (.inl hx)))
  have b7:=hr y h3
  refine Jj (fun pr m=>H8.l m=tally (s.Columns.map k3++pre.flatMap x3++pr.map (fun r=>(⟨y.Bay,r,2⟩:Hf)))∧(∀ r∈pr,0≤r∧r≤30)∧pr.Pairwise (· < ·)) ⟨by simpa using h8,fun c hc=>(M9 hc).elim,List.Pairwise.nil⟩ (fun pr r pos m nx' e' hK a5=>?_) (fun m hK=>h6 _ ⟨?_,Hde h9 ⟨by omega,a7,hK.2.1,hK.2.2⟩⟩)
  ·obtain⟨a3,a8,a4⟩:=hK
   have a9:r∈y.Rows:=by rw [e']; simp
   have b5:pr.length < y.Rows.length:=by rw [e']; simp
   have go:0≤r∧r≤30→(∀ a∈pr,a < r)→Wp (bnd (some (H8.get m ⟨y.Bay,r,2⟩ 0)) fun v167=>chk (v167+1) fun v168=>nx' (H8.put m ⟨y.Bay,r,2⟩ v168)) (fun r=>r=true ↔ Je9 s):=fun h1 h2=>by
    have hb:=Z7f a3 ⟨y.Bay,r,2⟩
    simp only [Mh,Mm] at hb
    refine H6 (Gp (Qo ⟨by omega,by omega⟩ (a5 _ ⟨?_,Hde a8 h1,Y78 a4 h2⟩)))
    rw [List.map_append,← List.append_assoc]
    exact Z78 a3 ⟨y.Bay,r,2⟩
   by_cases a0:0≤r∧r≤30
   ·have a1:(decide (r < 0)||decide (30 < r))=false:=by simp; omega
    simp only [a1,Bool.not_false,Bool.true_and,Bool.false_or]
    by_cases b0:0 < pr.length
    ·obtain⟨p,b1,b2,b3⟩:=R63 e' b0
     rw [M3 (by omega:0 < (pr.length:Int)),cond_true]
     refine H6 (Qo ⟨by omega,by omega⟩ (Gp ?_))
     have b4:(pr.length:Int) - 1=((pr.length - 1:Nat):Int):=by omega
     rw [b4]
     refine Gt ((Y89 b1 some).trans rfl) ?_
     simp only [Bool.true_and]
     refine Hv (fun h=>Gp (Hcb fun hc=>?_)) (fun h=>go a0 (Q40 a4 b2 (by have:=M2 h; omega)))
     have:=M1 h
     have hs:=(hc.cov y h3).sorted
     rw [e'] at hs
     have:=(List.pairwise_append.1 hs).2.2 p b3 r (by simp)
     omega
    ·have h0:pr=[]:=Kw (by omega)
     subst h0
     rw [M4 (by simp:¬ 0 < (([]:List Int).length:Int))]
     refine H6 (Gp (H6 (Gp ?_)))
     simp only [Bool.false_and,cond_false]
     exact go a0 (fun a ha=>(M9 ha).elim)
   ·have a1:(decide (r < 0)||decide (30 < r))=true:=by simp; omega
    simp only [a1,Bool.not_true,Bool.false_and,cond_false,Bool.true_or,cond_true]
    exact H6 (Gp (H6 (Gp (Gp (Hcb fun hc=>a0 ((hc.cov y h3).rows r a9))))))
  ·rw [List.flatMap_append,← List.append_assoc]
   simpa [x3] using hK.1
 ·obtain⟨h8,h9⟩:=hJ
  rw [Jd1 (c:=fun x:Hf×Int=>decide (1 < x.2))]
  refine Gp ?_
  have a2:(H8.l m).any (fun x=>decide (1 < x.2))=false ↔ (s.Columns.map k3++s.Covers.flatMap x3).Nodup:=by
   rw [← R5d,h8,List.any_eq_false]
   constructor
   ·intro h j a n hj
    have:=h (a,n) (M8 hj)
    simp only [Mk] at this
    omega
   ·intro h x hx
    obtain⟨j,hj⟩:=List.mem_iff_getElem?.1 hx
    have:=h j x.1 x.2 hj
    simp only [Mk]
    omega
  cases h4:(H8.l m).any (fun x=>decide (1 < x.2)) with
  | true=>
   refine Hcb fun h=>?_
   rw [a2.2 h.nodup] at h4; cases h4
  | false=>exact⟨fun _=>⟨hn,h7,h9,a2.1 h4⟩,fun _=>rfl⟩
theorem G08 {n k:Nat} (hn:n≤1000001) (hk:k≤1000):decide (n*k≤140737488355328∧n≤maxLen)=true:=by
 have h:n*k≤1000001*1000:=Nat.mul_le_mul hn hk
 have h2:n≤maxLen:=Nat.le_trans hn (by decide)
 exact M3 ⟨by omega,h2⟩
theorem H94 {α β:Type} {x:α} {k:α→Option β}:bnd (some x) k=k x:=rfl
def J2b {α:Type} (p:α→Bool) (l:List α):Int:=match l.findIdx? p with
 | some j=>(j:Int)
 | none => -1
theorem H55 {α:Type} {p:α→Bool} {f:α→Option Bool} {xs:List α} (hf:∀ x∈xs,f x=some (p x)) :
  each (fun y i (_:Unit) nx=>bnd (f y) fun r=>bif r then some (i:Int) else nx ()) (fun _=>some (-1)) xs 0 ()=some (J2b p xs):=by
 have key:∀ (xs:List α),(∀ x∈xs,f x=some (p x))→∀ i:Nat,each (fun y i (_:Unit) nx=>bnd (f y) fun r=>bif r then some (i:Int) else nx ()) (fun _=>some (-1)) xs i ()=some (match xs.findIdx? p with
  | some j=>((i+j:Nat):Int)
  | none => -1):=by
  intro xs
  induction xs with
  | nil=>intro _ i; rfl
  | cons x xs ih=>
   intro hf i
   rw [each,hf x (List.mem_cons_self ..),H94,List.findIdx?_cons]
   cases p x with
   | true=>simp
   | false=>
    simp only [cond_false]
    rw [ih (fun y hy=>hf y (List.mem_cons_of_mem _ hy)) (i+1)]
    cases xs.findIdx? p with
    | none=>simp
    | some j=>show some (((i+1+j:Nat)):Int)=some (((i+(j+1):Nat)):Int); rw [show i+1+j=i+(j+1) by omega]
 rw [key xs hf 0]
 unfold J2b
 cases xs.findIdx? p <;> simp
theorem Geb {α:Type} (p:α→Bool) (l:List α):(J2b p l = -1∧(∀ x∈l,p x=false)∧l.find? p=none)∨∃ (m:Nat) (x:α),J2b p l=(m:Int)∧l[m]? = some x∧p x=true∧l.find? p=some x:=by
 unfold J2b
 cases h:l.findIdx? p with
 | none=>
  have:=List.findIdx?_eq_none_iff.1 h
  exact .inl ⟨rfl,this,List.find?_eq_none.2 (fun x hx=>by rw [this x hx]; simp)⟩
 | some j=>
  obtain⟨hj,h1,h2⟩:=List.findIdx?_eq_some_iff_getElem.1 h
  refine .inr ⟨j,l[j],rfl,by simp [hj],h1,?_⟩
  refine List.find?_eq_some_iff_getElem.2 ⟨h1,j,hj,rfl,fun k hk=>?_⟩
  simpa using h2 k hk
theorem Gf8 {α:Type} {p:α→Bool} {l:List α}:decide (0≤J2b p l)=l.any p:=by
 rcases Geb p l with ⟨h1,h2,_⟩ | ⟨m,x,h1,h2,h3,_⟩
 ·rw [h1]
  refine Eq.symm (List.any_eq_false.2 fun x hx=>?_)
  rw [h2 x hx]; exact Bool.false_ne_true
 ·rw [h1,M3 (by omega)]
  exact(List.any_eq_true.2 ⟨x,M8 h2,h3⟩).symm
def Qf (boxes:List Box) (id:Int):Option Box:=boxes.find? (fun b=>decide (b.ID=id))
theorem Q06 (boxes:List Box) (id:Int):Ga2 boxes id=some (match Qf boxes id with
  | some b=>(b,true)
  | none=>(Box.mk 0 ByteArray.empty 0 false 0 0 0 0 false,false)):=by
 unfold Ga2
 have h:Zq boxes (fun z0=>Gd8 z0 id)=some (J2b (fun b:Box=>decide (b.ID=id)) boxes):=H55 (fun x _=>rfl)
 rw [h]
 simp only [H94]
 unfold Qf
 rcases Geb (fun b:Box=>decide (b.ID=id)) boxes with ⟨h1,_,h3⟩ | ⟨m,x,h1,h2,_,h4⟩
 ·rw [h1,h3]; rfl
 ·rw [h1,h4,M4 (by omega),cond_false]
  unfold Qw
  rw [M3 (by omega),cond_true,show (m:Int).toNat=m by omega,h2]
  rfl
def Qd8 (l:List G1) (id:Int):Option G1:=l.find? (fun x=>decide (x.Box=id))
def Hba (size:Int):List Int:=if size=40 then [0] else if size=20 then [1,2] else []
theorem Q46 (size:Int):G4c size=some (Hba size):=by
 unfold G4c Hba
 by_cases h:size=40
 ·simp [h]
 ·by_cases h2:size=20
  ·simp [h2]
  ·simp [h,h2]
theorem Yc1 (l:List Int) (v:Int):Z4 l v=some (l.any (fun y=>decide (v=y))):=by
 unfold Z4
 have h:G03 l v=some (J2b (fun y=>decide (v=y)) l):=by
  unfold G03
  exact H55 (f:=fun y=>some (decide (v=y))) (fun x _=>rfl)
 rw [h]
 simp only [H94]
 rw [Gf8]
theorem R73 (l:List Slot) (v:Slot):Qc l v=some (l.any (fun y=>decide (v=y))):=by
 unfold Qc
 have h:Ya l v=some (J2b (fun y=>decide (v=y)) l):=by
  unfold Ya
  exact H55 (f:=fun y=>some (decide (v=y))) (fun x _=>rfl)
 rw [h]
 simp only [H94]
 rw [Gf8]
structure G91 (s:Gi) (x:Slot) (size:Int):Prop where
 col:∃ (m:Nat) (c:G3),x.G3=(m:Int)∧s.Columns[m]? = some c∧x.Tier < c.Tiers
 tier:0≤x.Tier
 half:x.Half∈Hba size
theorem Qb7 (s:Gi) (x:Slot) (size:Int):Wp (G73 s x size) (fun r=>r=true ↔ G91 s x size):=by
 unfold G73
 by_cases h0:0≤x.G3∧x.G3 < (s.Columns.length:Int)
 ·by_cases h1:0≤x.Tier
  ·obtain⟨m,hm⟩:∃ m:Nat,x.G3=(m:Int):=⟨x.G3.toNat,by omega⟩
   have h3:m < s.Columns.length:=by omega
   have hc:s.Columns[m]? = some s.Columns[m]:=by simp [h3]
   have e:(((decide (0≤x.G3))&&(decide (x.G3 < (s.Columns.length:Int))))&&(decide (0≤x.Tier)))=true:=by simp [h0.1,h0.2,h1]
   simp only [e,cond_true,Bool.true_and]
   refine H6 (Yq hm hc (Gp ?_))
   by_cases h2:x.Tier < (s.Columns[m]).Tiers
   ·rw [M3 h2]
    simp only [cond_true]
    refine Gt (Q46 size) (Gt (Yc1 _ _) (Gp ?_))
    rw [Bool.true_and,List.any_eq_true]
    constructor
    ·rintro⟨y,hy,he⟩
     have:=M1 he
     subst this
     exact⟨⟨m,_,hm,hc,h2⟩,h1,hy⟩
    ·exact fun h=>⟨_,h.half,by simp⟩
   ·rw [M4 h2]
    simp only [cond_false,Bool.false_and]
    refine H6 (Gp (H6 (Gp (Gp ⟨fun h=>(by cases h),fun h=>?_⟩))))
    obtain⟨m',c,g1,g2,g3⟩:=h.col
    have:m'=m:=by omega
    subst this
    rw [hc] at g2; cases g2
    exact(h2 g3).elim
  ·simp only [M4 h1,Bool.and_false,cond_false,Bool.false_and]
   exact H6 (Gp (H6 (Gp (H6 (Gp (Gp ⟨fun h=>(by cases h),fun h=>(h1 h.tier).elim⟩))))))
 ·have e:((decide (0≤x.G3))&&(decide (x.G3 < (s.Columns.length:Int))))=false:=by
   by_cases h:0≤x.G3
   ·have:¬ x.G3 < (s.Columns.length:Int):=fun g=>h0 ⟨h,g⟩
    simp [this]
   ·simp [h]
  simp only [e,Bool.false_and,cond_false]
  refine H6 (Gp (H6 (Gp (H6 (Gp (Gp ⟨fun h=>(by cases h),fun h=>?_⟩))))))
  obtain⟨m,c,g1,g2,_⟩:=h.col
  have:=(M5 g2).1
  exact(h0 (by omega)).elim
def below (l:List Slot) (x:Slot) (half:Int):Prop:=(⟨x.G3,x.Tier - 1,half⟩:Slot)∈l
def H6e (x:Slot) (l:List Slot):Prop:=x.Tier≤0∨below l x x.Half∨(x.Half=0∧below l x 1∧below l x 2)
theorem Ja9 (half:Int) (l:List Slot) (x:Slot) (ht : -1000000≤x.Tier∧x.Tier≤1000000):Wp (Zd half l x) (fun r=>r=true ↔ below l x half):=by
 unfold Zd
 refine Qo ⟨by omega,by omega⟩ (Gt (R73 _ _) (Gp ?_))
 rw [List.any_eq_true]
 constructor
 ·rintro⟨y,hy,he⟩
  have:=M1 he
  subst this
  exact hy
 ·exact fun h=>⟨_,h,by simp⟩
theorem R26 (x:Slot) (l:List Slot) (ht : -1000000≤x.Tier∧x.Tier≤1000000):Wp (G43 x l) (fun r=>r=true ↔ H6e x l):=by
 unfold G43 H6e
 refine Hv (fun h=>Gp ⟨fun _=>.inl (M1 h),fun _=>rfl⟩) (fun h=>?_)
 have h0:=M2 h
 refine H6 (wp_mono (Ja9 x.Half l x ht) (fun r7 h7=>?_))
 cases r7 with
 | true=>
  simp only [Bool.not_true,Bool.false_and,cond_false,Bool.true_or]
  exact H6 (Gp (H6 (Gp (Gp ⟨fun _=>.inr (.inl (h7.1 rfl)),fun _=>rfl⟩))))
 | false=>
  have h1:¬ below l x x.Half:=fun h=>by have:=h7.2 h; cases this
  simp only [Bool.not_false,Bool.true_and,Bool.false_or]
  by_cases hh:x.Half=0
  ·rw [M3 hh]
   simp only [cond_true,Bool.true_and]
   refine H6 (wp_mono (Ja9 1 l x ht) (fun r8 h8=>?_))
   cases r8 with
   | true=>
    simp only [cond_true,Bool.true_and]
    refine H6 (wp_mono (Ja9 2 l x ht) (fun r9 h9=>Gp ⟨fun h=>.inr (.inr ⟨hh,h8.1 rfl,h9.1 h⟩),fun h=>?_⟩))
    rcases h with h | h | ⟨_,_,h⟩
    ·exact(h0 h).elim
    ·exact(h1 h).elim
    ·exact h9.2 h
   | false=>
    simp only [cond_false,Bool.false_and]
    refine H6 (Gp (Gp ⟨fun h=>(by cases h),fun h=>?_⟩))
    rcases h with h | h | ⟨_,h,_⟩
    ·exact(h0 h).elim
    ·exact(h1 h).elim
    ·have:=h8.2 h; cases this
  ·rw [M4 hh]
   simp only [cond_false,Bool.false_and]
   refine H6 (Gp (H6 (Gp (Gp ⟨fun h=>(by cases h),fun h=>?_⟩))))
   rcases h with h | h | ⟨h,_⟩
   ·exact(h0 h).elim
   ·exact(h1 h).elim
   ·exact(hh h).elim
def H40 (a b:Int):Prop:=a=b∨a=0∨b=0
theorem Q45 (a b:Int):Wp (G8d a b) (fun r=>r=true ↔ H40 a b):=by
 unfold G8d H40
 refine Gp ?_
 simp [or_assoc]
def He9 (a b:Slot):Prop:=a.G3=b.G3∧a.Tier=b.Tier∧H40 a.Half b.Half
theorem R25 (a b:Slot):Wp (Gfe a b) (fun r=>r=true ↔ He9 a b):=by
 unfold Gfe He9
 by_cases h:a.G3=b.G3∧a.Tier=b.Tier
 ·simp only [M3 h.1,M3 h.2,Bool.and_self,cond_true,Bool.true_and]
  exact H6 (wp_mono (Q45 _ _) (fun r hr=>Gp ⟨fun e=>⟨h.1,h.2,hr.1 e⟩,fun e=>hr.2 e.2.2⟩))
 ·have e:(decide (a.G3=b.G3)&&decide (a.Tier=b.Tier))=false:=by
   by_cases h1:a.G3=b.G3
   ·have:¬ a.Tier=b.Tier:=fun h2=>h ⟨h1,h2⟩
    simp [this]
   ·simp [h1]
  simp only [e,cond_false,Bool.false_and]
  exact H6 (Gp (Gp ⟨fun e=>(by cases e),fun e=>(h ⟨e.1,e.2.1⟩).elim⟩))
def H58 (a b:Slot):Prop:=a.G3=b.G3∧b.Tier < a.Tier∧H40 a.Half b.Half
theorem Q08 (a b:Slot):Wp (Gfd a b) (fun r=>r=true ↔ H58 a b):=by
 unfold Gfd H58
 by_cases h:a.G3=b.G3∧b.Tier < a.Tier
 ·simp only [M3 h.1,M3 h.2,Bool.and_self,cond_true,Bool.true_and]
  exact H6 (wp_mono (Q45 _ _) (fun r hr=>Gp ⟨fun e=>⟨h.1,h.2,hr.1 e⟩,fun e=>hr.2 e.2.2⟩))
 ·have e:(decide (a.G3=b.G3)&&decide (b.Tier < a.Tier))=false:=by
   by_cases h1:a.G3=b.G3
   ·have:¬ b.Tier < a.Tier:=fun h2=>h ⟨h1,h2⟩
    simp [this]
   ·simp [h1]
  simp only [e,cond_false,Bool.false_and]
  exact H6 (Gp (Gp ⟨fun e=>(by cases e),fun e=>(h ⟨e.1,e.2.1⟩).elim⟩))
def H86 (b:Box):Int:=if b.High then 2896 else 2591
def Gec (boxes:List Box) (column half:Int) (n:Int) (x:G1):Int:=
 if x.Slot.G3=column∧(x.Slot.Half=half∨x.Slot.Half=0) then (match Qf boxes x.Box with | some b=>n+H86 b | none=>n) else n
def Ry (boxes:List Box) (l:List G1) (column half:Int):Int:=l.foldl (Gec boxes column half) 0
theorem Je8 {boxes:List Box} {column half n:Int} {x:G1}:n≤Gec boxes column half n x∧Gec boxes column half n x≤n+2896:=by
 unfold Gec H86
 split
 ·split
  ·split <;> omega
  ·omega
 ·omega
theorem Q3e (boxes:List Box) (l:List G1) (column half:Int) (hl:l.length≤1000000):G8c boxes l column half=some (Ry boxes l column half):=by
 refine G34 ?_
 unfold G8c Ry
 refine Jj (fun pre n=>n=pre.foldl (Gec boxes column half) 0∧0≤n∧n≤2896*pre.length) ⟨rfl,Int.le_refl _,by simp⟩ (fun pre y post n nx e hn h5=>?_) (fun n hn=>Gp hn.1)
 obtain⟨rfl,h1,h2⟩:=hn
 have hp:pre.length+1≤l.length:=by rw [e]; simp
 have ha:=Je8 (boxes:=boxes) (column:=column) (half:=half) (n:=pre.foldl (Gec boxes column half) 0) (x:=y)
 have h4:((pre++[y]).length:Int)=pre.length+1:=by simp
 generalize hg:pre.foldl (Gec boxes column half) 0=n at *
 refine Zr (fun j=>j=Gec boxes column half n y) (fun K hK=>?_) (fun j hj=>h5 _ ⟨by rw [hj,List.foldl_append,hg]; rfl,by omega,by rw [h4]; omega⟩)
 refine Hv (fun hc=>?_) (fun hc=>hK _ ?_)
 ·have h0:y.Slot.G3=column∧(y.Slot.Half=half∨y.Slot.Half=0):=by simpa using hc
  refine Gt (Q06 boxes y.Box) ?_
  cases hf:Qf boxes y.Box with
  | none=>exact Hv (fun h=>by cases h) (fun _=>hK _ (by unfold Gec; rw [if_pos h0,hf]))
  | some b=>
   refine Hv (fun _=>?_) (fun h=>by cases h)
   have ht:H59 b=some (H86 b):=by unfold H59 H86; cases b.High <;> rfl
   have h3:Gec boxes column half n y=n+H86 b:=by unfold Gec; rw [if_pos h0,hf]
   refine Gt ht (Qo ?_ (hK _ h3.symm))
   rw [← h3]
   omega
 ·have h0:¬ (y.Slot.G3=column∧(y.Slot.Half=half∨y.Slot.Half=0)):=by simpa using hc
  unfold Gec; rw [if_neg h0]
def J27 (boxes:List Box) (l:List G1) (m:Nat) (c:G3):Prop:=c.Height≤0∨(Ry boxes l m 1≤c.Height∧Ry boxes l m 2≤c.Height)
theorem Ya9 {s:Gi} {boxes:List Box} {l:List G1} {m:Nat} {c:G3} (hc:s.Columns[m]? = some c) (hl:l.length≤1000000):Wp (H5a s boxes l (m:Int)) (fun r=>r=true ↔ J27 boxes l m c):=by
 unfold H5a J27
 refine Yq rfl hc ?_
 by_cases h:c.Height≤0
 ·simp only [M3 h,Bool.not_true,cond_false,Bool.false_and,Bool.true_or]
  exact H6 (Gp (H6 (Gp (Gp ⟨fun _=>.inl h,fun _=>rfl⟩))))
 ·simp only [M4 h,Bool.not_false,cond_true,Bool.true_and,Bool.false_or]
  refine Gt (Q3e boxes l m 1 hl) ?_
  by_cases h1:Ry boxes l m 1≤c.Height
  ·rw [M3 h1]
   simp only [cond_true,Bool.true_and]
   exact Gt (Q3e boxes l m 2 hl) (Gp ⟨fun e=>.inr ⟨h1,M1 e⟩,fun e=>M3 (e.elim (fun e=>(h e).elim) (·.2))⟩)
  ·rw [M4 h1]
   simp only [cond_false,Bool.false_and]
   exact H6 (Gp (Gp ⟨fun e=>(by cases e),fun e=>e.elim (fun e=>(h e).elim) (fun e=>(h1 e.1).elim)⟩))
theorem Y36 (l:List G1) (hl:l.length≤1000000):H13 l=some (l.map (·.Slot)):=by
 refine G34 ?_
 unfold H13
 refine Jj (fun pre s=>s=pre.map (·.Slot)) rfl (fun pre y post s nx e hs h0=>?_) (fun s hs=>Gp hs)
 subst hs
 have hp:pre.length+1≤l.length:=by rw [e]; simp
 exact Rx (G08 (by simp only [Mm,Mi]; omega) (by omega)) (h0 _ (by simp))
structure R6 (s:Gi) (boxes:List Box) (l:List G1):Prop where
 each:∀ x∈l,∃ b,Qf boxes x.Box=some b∧G91 s x.Slot b.Size∧H6e x.Slot (l.map (·.Slot))
 sorted:l.Pairwise (fun a b=>a.Box < b.Box)
 apart:l.Pairwise (fun a b=>¬ He9 b.Slot a.Slot)
 fits:∀ m c,s.Columns[m]? = some c→J27 boxes l m c
theorem Hc9 {α:Type} {R:α→α→Prop} {l:List α} {x:α} (h:l.Pairwise R) (hx:∀ a∈l,R a x):(l++[x]).Pairwise R:=by
 rw [List.pairwise_append]
 refine⟨h,List.pairwise_singleton ..,fun a ha b hb=>?_⟩
 rw [Mp] at hb; subst hb
 exact hx a ha
theorem H0c {α:Type} {R:α→α→Prop} {pre post:List α} {y:α} (h:(pre++y::post).Pairwise R):∀ a∈pre,R a y:=fun a ha=>(List.pairwise_append.1 h).2.2 a ha y (List.mem_cons_self ..)
theorem Ge7 {s:Gi} {boxes:List Box} {l:List G1} (hr:Gbc s=some true) (ht:∀ c∈s.Columns,c.Tiers≤1000000) (hl:l.length≤1000000):Wp (Yu s boxes l) (fun r=>r=true ↔ R6 s boxes l):=by
 unfold Yu
 refine Gt hr (Hv (fun h=>by cases h) (fun _=>?_))
 refine Gt (Y36 l hl) ?_
 refine Jj (fun pre _=>(∀ x∈pre,∃ b,Qf boxes x.Box=some b∧G91 s x.Slot b.Size∧H6e x.Slot (l.map (·.Slot)))∧pre.Pairwise (fun a b=>a.Box < b.Box)∧pre.Pairwise (fun a b=>¬ He9 b.Slot a.Slot))
  ⟨fun x hx=>(M9 hx).elim,List.Pairwise.nil,List.Pairwise.nil⟩ (fun pre y post u nx e hI h4=>?_) (fun u hI=>?_)
 ·obtain⟨i1,i2,i3⟩:=hI
  have a8:pre.length < l.length:=by rw [e]; simp
  have hy:y∈l:=by rw [e]; simp
  have no:∀ {m:Option Bool},m=some false→¬ R6 s boxes l→Wp m (fun r=>r=true ↔ R6 s boxes l):=fun e h=>by subst e; exact Gp ⟨fun e=>(by cases e),fun e=>(h e).elim⟩
  refine Gt (Q06 boxes y.Box) ?_
  cases hf:Qf boxes y.Box with
  | none=>
   simp only [Bool.not_false,Bool.not_true,Bool.false_and,cond_false,Bool.true_or,cond_true]
   refine H6 (Gp (H6 (Gp (H6 (Gp (H6 (Gp (no rfl fun h=>?_))))))))
   obtain⟨b,hb,_⟩:=h.each y hy
   rw [hf] at hb; cases hb
  | some b=>
   simp only [Bool.not_true,Bool.not_false,Bool.true_and,Bool.false_or]
   -- the order
   have h7:Wp (bif decide (0 < (pre.length:Int)) then chk ((pre.length:Int) - 1) some else some 0) (fun v=>Wp (bif decide (0 < (pre.length:Int)) then Qw l v some else some default) (fun y20=>
     ((decide (0 < (pre.length:Int))&&decide (y.Box≤y20.Box))=true→¬ R6 s boxes l)∧((decide (0 < (pre.length:Int))&&decide (y.Box≤y20.Box))=false→∀ a∈pre,a.Box < y.Box))):=by
    rcases List.eq_nil_or_concat pre with hp | ⟨pre',z,hp⟩
    ·subst hp
     simp only [List.length_nil]
     exact Gp (Gp ⟨fun h=>by simp at h,fun _ a ha=>(M9 ha).elim⟩)
    ·have h2:pre=pre'++[z]:=by simpa using hp
     have a9:pre.length=pre'.length+1:=by rw [h2]; simp
     have hd:decide (0 < (pre.length:Int))=true:=M3 (by omega)
     have hz:l[pre'.length]? = some z:=by rw [e,h2]; simp
     rw [hd]
     simp only [cond_true,Bool.true_and]
     refine Qo ⟨by omega,by omega⟩ (Gp (Yq (m:=pre'.length) (by omega) hz (Gp ⟨fun h hR=>?_,fun h a ha=>?_⟩)))
     ·have:=M1 h
      have hs:=hR.sorted
      rw [e] at hs
      have:=H0c hs z (by rw [h2]; simp)
      omega
     ·have b0:¬ y.Box≤z.Box:=M2 h
      rw [h2] at ha
      rcases Mn.1 ha with ha | ha
      ·have:=H0c (h2 ▸ i2:(pre'++z::[]).Pairwise _) a ha
       omega
      ·rw [Mp] at ha; subst ha; omega
   refine H6 (wp_mono h7 (fun v hv=>H6 (wp_mono hv (fun y20 a5=>?_))))
   obtain⟨n1,n2⟩:=a5
   generalize (decide (0 < (pre.length:Int))&&decide (y.Box≤y20.Box))=c at n1 n2
   cases c with
   | true=>
    simp only [Bool.not_true,cond_false,Bool.true_or,cond_true]
    exact H6 (Gp (H6 (Gp (no rfl (n1 rfl)))))
   | false=>
    simp only [Bool.not_false,cond_true,Bool.false_or]
    have h8:=n2 rfl
    refine H6 (wp_mono (Qb7 s y.Slot b.Size) (fun r21 a1=>?_))
    cases r21 with
    | false=>
     simp only [Bool.not_false,Bool.not_true,cond_false,Bool.true_or,cond_true]
     refine H6 (Gp (no rfl fun h=>?_))
     obtain⟨b',hb,hs,_⟩:=h.each y hy
     rw [hf] at hb; cases hb
     have:=a1.2 hs; cases this
    | true=>
     have h1:=a1.1 rfl
     simp only [Bool.not_true,Bool.not_false,cond_true,Bool.false_or]
     have h9 : -1000000≤y.Slot.Tier∧y.Slot.Tier≤1000000:=by
      obtain⟨m,c,_,hc,h3⟩:=h1.col
      have:=h1.tier
      have:=ht c (M8 hc)
      omega
     refine H6 (wp_mono (R26 y.Slot (l.map (·.Slot)) h9) (fun r22 a2=>?_))
     cases r22 with
     | false=>
      refine Hv (fun _=>no rfl fun h=>?_) (fun h=>by cases h)
      obtain⟨b',hb,_,hh⟩:=h.each y hy
      have:=a2.2 hh; cases this
     | true=>
      have a0:=a2.1 rfl
      refine Hv (fun h=>by cases h) (fun _=>?_)
      refine H6 (J32 (m:=pre.length) rfl (by rw [Mm]; omega) ?_)
      have a6:(l.map (·.Slot)).take pre.length=pre.map (·.Slot):=by rw [← List.map_take,e,List.take_left']; rfl
      rw [a6]
      refine Jj (fun pr _=>∀ a∈pr,¬ He9 y.Slot a) (fun a ha=>(M9 ha).elim) (fun pr a pos u nx2 e2 h5 a4=>?_) (fun u h5=>h4 _ ⟨fun x hx=>?_,Hc9 i2 h8,Hc9 i3 (fun a ha=>h5 a.Slot (Mo.2 ⟨a,ha,rfl⟩))⟩)
      ·refine H6 (wp_mono (R25 y.Slot a) (fun r48 a3=>?_))
       refine Hv (fun h=>no rfl fun hR=>?_) (fun h=>a4 _ (fun a' h0=>?_))
       ·have hm:=a3.1 h
        have a7:a∈pre.map (·.Slot):=by rw [e2]; simp
        obtain⟨z,hz,rfl⟩:=Mo.1 a7
        have ha:=hR.apart
        rw [e] at ha
        exact H0c ha z hz hm
       ·rcases Mn.1 h0 with h0 | h0
        ·exact h5 a' h0
        ·rw [Mp] at h0; subst h0
         intro hm
         have:=a3.2 hm
         rw [this] at h; cases h
      ·rcases Mn.1 hx with hx | hx
       ·exact i1 x hx
       ·rw [Mp] at hx; subst hx
        exact⟨b,hf,h1,a0⟩
 ·obtain⟨i1,i2,i3⟩:=hI
  refine Jj (fun pre _=>∀ m c,m < pre.length→s.Columns[m]? = some c→J27 boxes l m c) (fun m c h=>(Nat.not_lt_zero m h).elim) (fun pre y post u nx e hI h4=>?_) (fun u hI=>Gp ⟨fun _=>⟨i1,i2,i3,fun m c hc=>hI m c (M5 hc).1 hc⟩,fun _=>rfl⟩)
  have hc:s.Columns[pre.length]? = some y:=by rw [e]; simp
  refine H6 (wp_mono (Ya9 hc hl) (fun r hr=>?_))
  cases r with
  | false=>exact Hv (fun _=>Gp ⟨fun e=>(by cases e),fun h=>by have:=hr.2 (h.fits _ _ hc); cases this⟩) (fun h=>by cases h)
  | true=>
   refine Hv (fun h=>by cases h) (fun _=>h4 _ (fun m c hm h6=>?_))
   rw [Mh,Mi] at hm
   rcases Kz m pre.length with h | h
   ·exact hI m c h h6
   ·have:m=pre.length:=by omega
    subst this
    rw [hc] at h6; cases h6
    exact hr.1 rfl
section maps
variable {κ ν:Type} [DecidableEq κ]
theorem Qe4 (a:κ):H8.has (H8.empty:H8 κ ν) a=false:=rfl
theorem R76 (m:H8 κ ν) (a b:κ) (v:ν):H8.has (H8.put m a v) b=(decide (a=b)||H8.has m b):=by
 unfold H8.has H8.put
 have h:=Hb8 (l:=H02 m.l a v) (a:=b)
 have h2:=Hb8 (l:=m.l) (a:=b)
 rw [← h,Hdd]
 by_cases e:a=b
 ·simp [e]
 ·simp [e,h2]
end maps
theorem Q5d {α:Type} {l:List α} {wanted:α→Option Bool} {p:α→Bool} (hw:∀ x∈l,wanted x=some (p x)) (hl:l.length≤1000000) :
  each (fun y i (s:List Int) nx=>jp (fun kj=>bnd (wanted y) fun r=>bif r then (need (decide ((s.length+[(i:Int)].length)*8≤140737488355328∧s.length+[(i:Int)].length≤maxLen)) <| kj (s++[(i:Int)])) else (kj s)) fun(j:List Int)=>nx j)
   (fun s=>some s) l 0 []=some (H0e p l):=by
 refine G34 ?_
 refine Jj (fun pre s=>s=H0e p pre) rfl (fun pre x post s nx e hs h0=>?_) (fun s hs=>Gp hs)
 subst hs
 have h1:pre.length+1≤l.length:=by rw [e]; simp
 refine Zr (fun j=>j=H0e p (pre++[x])) (fun K hK=>?_) (fun j hj=>h0 _ hj)
 refine Gt (hw x (by rw [e]; simp)) (Hv (fun h=>Rx ?_ (hK _ ?_)) (fun h=>hK _ ?_))
 ·have:=Q59 p pre
  exact G08 (by rw [Mi]; omega) (by omega)
 ·rw [J6d,h]; rfl
 ·rw [J6d,h]; simp
theorem Ybd {α:Type} (p:α→Bool) (x:α) (l:List α):H0e p (x::l)=(if p x then [0] else [])++(H0e p l).map (·+1):=by
 unfold H0e
 rw [List.zipIdx_cons',List.filter_cons]
 have h:(((l.zipIdx.map (Prod.map id (fun n:Nat=>n+1))).filter (fun y:α×Nat=>p y.1)).map (fun y:α×Nat=>(y.2:Int)))=((l.zipIdx.filter (fun y:α×Nat=>p y.1)).map (fun y:α×Nat=>(y.2:Int))).map (·+1):=by
  rw [List.filter_map,List.map_map,List.map_map]
  rfl
 by_cases hx:p x=true
 ·rw [if_pos (show p (x,0).fst=true from hx),if_pos hx,List.map_cons]
  exact congrArg (List.cons _) h
 ·rw [if_neg (show ¬ p (x,0).fst=true from hx),if_neg hx,List.nil_append]
  exact h
theorem Ybc {α:Type} (p:α→Bool) (l:List α):(H0e p l).head? = match l.findIdx? p with
  | some j=>some (j:Int)
  | none=>none:=by
 induction l with
 | nil=>rfl
 | cons x l ih=>
  rw [Ybd,List.findIdx?_cons]
  by_cases hx:p x
  ·simp [hx]
  ·simp only [hx,if_false,Bool.false_eq_true,List.nil_append,List.head?_map,ih]
   cases l.findIdx? p <;> simp
theorem Z06 {α:Type} (p:α→Bool) (l:List α):decide (0 < ((H0e p l).length:Int))=l.any p:=by
 by_cases h:∀ x∈l,p x=false
 ·rw [Jdf.2 h]
  refine Eq.symm (List.any_eq_false.2 fun x hx=>?_)
  rw [h x hx]; exact Bool.false_ne_true
 ·have h1:H0e p l≠[]:=fun e=>h (Jdf.1 e)
  have h2:=List.length_pos_iff.2 h1
  rw [M3 (by omega)]
  refine Eq.symm (List.any_eq_true.2 ?_)
  refine Classical.byContradiction fun hn=>h fun x hx=>?_
  cases hc:p x with
  | false=>rfl
  | true=>exact(hn ⟨x,hx,hc⟩).elim
def Ha7 (x:G9) (c:G3):Bool:=decide (x.Bay=c.Bay)&&x.Rows.any (fun r=>decide (r=c.Row))
theorem Rc4 (x:G9) (c:G3) (hl:x.Rows.length≤1000000):Gdb x c=some (Ha7 x c):=by
 unfold Gdb Ha7
 by_cases h:x.Bay=c.Bay
 ·have hc:G45 x.Rows (fun z0=>G7e z0 c)=some (H0e (fun r=>decide (r=c.Row)) x.Rows):=by
   unfold G45
   exact Q5d (fun x _=>rfl) hl
  rw [M3 h]
  simp only [cond_true,Bool.true_and]
  rw [hc,H94,Z06]
 ·rw [M4 h]
  rfl
def Jv (s:Gi) (c:G3):Int:=J2b (fun x=>Ha7 x c) s.Covers
theorem H09 {s:Gi} {m:Nat} {c:G3} (hc:s.Columns[m]? = some c) (hr:∀ x∈s.Covers,x.Rows.length≤1000000) (hl:s.Covers.length≤1000000):Rb s (m:Int)=some (Jv s c):=by
 have hm:=(M5 hc).1
 refine G34 ?_
 unfold Rb
 refine Hv (fun h=>?_) (fun _=>?_)
 ·simp only [Ms,Mk] at h
  omega
 have h1:Zi s.Covers (fun z0=>G27 z0 s (m:Int))=some (H0e (fun x=>Ha7 x c) s.Covers):=by
  unfold Zi
  refine Q5d (fun x hx=>G34 ?_) hl
  unfold G27
  exact Yq rfl hc (Gt (Rc4 x c (hr x hx)) (Gp rfl))
 refine Gt h1 ?_
 have hh:=Ybc (fun x=>Ha7 x c) s.Covers
 unfold Jv J2b
 cases hf:s.Covers.findIdx? (fun x=>Ha7 x c) with
 | none=>
  rw [hf] at hh
  have h0:H0e (fun x=>Ha7 x c) s.Covers=[]:=List.head?_eq_none_iff.1 hh
  rw [h0]
  exact Gp rfl
 | some j=>
  rw [hf] at hh
  cases hi:H0e (fun x=>Ha7 x c) s.Covers with
  | nil=>rw [hi] at hh; cases hh
  | cons z r=>
   rw [hi] at hh
   simp only [List.head?_cons,Option.some.injEq] at hh
   subst hh
   refine Hv (fun h=>?_) (fun _=>Yq (m:=0) rfl rfl (Gp rfl))
   have:=M1 h
   simp only [Md] at this
   omega
def abB (k:Int) (b:Box):Bool:=decide (b.Load≤k)&&decide (k < b.Discharge)
def Z0 (l:List G1) (id:Int):Slot×Bool:=match Qd8 l id with
 | some x=>(x.Slot,true)
 | none=>(⟨0,0,0⟩,false)
structure Small (s:Gi):Prop where
 right:Gbc s=some true
 cols:1≤s.Columns.length∧s.Columns.length≤40
 tiers:∀ c∈s.Columns,c.Tiers≤100
 covs:s.Covers.length≤1000
 rows:∀ x∈s.Covers,x.Rows.length≤1000
def G2e (s:Gi) (x:Slot):Prop:=∃ (m:Nat) (c:G3),x.G3=(m:Int)∧s.Columns[m]? = some c
structure Gde (U:List Int) (m:H8 Int Unit) (l:List Int):Prop where
 nodup:l.Nodup
 sub:∀ a∈l,a∈U
 has:∀ a,H8.has m a=decide (a∈l)
theorem Gde.le {U:List Int} {m:H8 Int Unit} {l:List Int} (h:Gde U m l):l.length≤U.length:=h.nodup.length_le_of_subset (fun a ha=>h.sub a ha)
theorem Gde.start {U:List Int}:Gde U (H8.empty:H8 Int Unit) []:=⟨List.nodup_nil,fun a ha=>(M9 ha).elim,fun a=>by simp [Qe4]⟩
theorem Gde.snoc {U:List Int} {m:H8 Int Unit} {l:List Int} (h:Gde U m l) {id:Int} (h1:id ∉ l) (h2:id∈U):Gde U (H8.put m id ()) (l++[id]):=by
 refine⟨?_,fun a ha=>?_,fun a=>?_⟩
 ·rw [List.nodup_append]
  refine⟨h.nodup,by simp,fun a ha b hb=>?_⟩
  rw [Mp] at hb; subst hb
  intro e; subst e; exact h1 ha
 ·rcases Mn.1 ha with ha | ha
  ·exact h.sub a ha
  ·rw [Mp] at ha; subst ha; exact h2
 ·rw [R76,h.has,Bool.eq_iff_iff]
  simp only [Ms,Mk,Mn,Mp]
  exact⟨fun h=>h.elim (fun e=>.inr e.symm) .inl,fun h=>h.elim .inr (fun e=>.inl e.symm)⟩
theorem Ro {l:List Int} (h:l.Pairwise (· < ·)):l.Nodup:=h.imp (fun h=>by omega)
theorem Small.tier {s:Gi} (h:Small s):∀ c∈s.Columns,c.Tiers≤1000000:=fun c hc=>by have:=h.tiers c hc; omega
theorem Ge8 {s:Gi} {x:Slot} {size:Int} (h:G91 s x size):G2e s x:=by
 obtain⟨m,c,h1,h2,_⟩:=h.col
 exact⟨m,c,h1,h2⟩
theorem Jac {s:Gi} {boxes:List Box}:R6 s boxes []:=⟨fun x hx=>(M9 hx).elim,List.Pairwise.nil,List.Pairwise.nil,fun m c _=>by
 unfold J27 Ry
 simp only [List.foldl_nil]
 omega⟩
theorem H0f {a b:List Int} (ha:a.Pairwise (· < ·)) (hb:b.Pairwise (· < ·)) (h:∀ x,x∈a ↔ x∈b):a=b:=
 List.Perm.eq_of_pairwise (le:=fun x y:Int=>x < y) (fun x y _ _ h1 h2=>by omega) ha hb ((List.perm_ext_iff_of_nodup (Ro ha) (Ro hb)).2 h)
structure J50 (s:Gi) (boxes:List Box) (k:Int) (l:List G1):Prop where
 right:R6 s boxes l
 mem:∀ x∈l,∃ b∈boxes,b.ID=x.Box∧abB k b=true
theorem J50.nil {s:Gi} {boxes:List Box} {k:Int}:J50 s boxes k []:=⟨Jac,fun x hx=>(M9 hx).elim⟩
def upon (s:Gi) (x y:Slot):Prop:=∃ (m:Nat) (c:G3) (m1:Nat) (c1:G3),x.G3=(m:Int)∧s.Columns[m]? = some c∧y.G3=(m1:Int)∧s.Columns[m1]? = some c1∧c.Deck=false∧c1.Deck=true∧0≤Jv s c∧Jv s c1=Jv s c
def R7d (s:Gi) (states:List (List G1)) (st:List G1) (a b:Int):Prop:=
 (Z0 st a).2=true∧((∃ y∈st,y.Box=b∧H58 y.Slot (Z0 st a).1)∨∃ st2∈states,∃ y∈st2,y.Box=b∧upon s (Z0 st a).1 y.Slot)
def Gd5 (s:Gi) (states:List (List G1)) (a b:Int):Prop:=∃ st∈states,R7d s states st a b
structure Grown (s:Gi) (U:List Int) (states:List (List G1)) (l:List Int) (id:Int) (m:H8 Int Unit) (l':List Int):Prop where
 inv:Gde U m l'
 sub:∀ a∈l,a∈l'
 has:id∈l'
 closed:∀ a∈l',a ∉ l→∀ b,Gd5 s states a b→b∈l'
 least:∀ C:Int→Prop,(∀ a b,C a→Gd5 s states a b→C b)→(∀ a∈l,C a)→C id→∀ a∈l',C a
structure Rch (s:Gi) (U:List Int) (states:List (List G1)) (l:List Int) (id:Int) (m:H8 Int Unit) (l':List Int):Prop where
 inv:Gde U m l'
 sub:∀ a∈l++[id],a∈l'
 closed:∀ a∈l',a ∉ l→a≠id→∀ b,Gd5 s states a b→b∈l'
 least:∀ C:Int→Prop,(∀ a b,C a→Gd5 s states a b→C b)→(∀ a∈l,C a)→C id→∀ a∈l',C a
section
variable {s:Gi} {U:List Int} {states:List (List G1)} {l l' l2:List Int} {id y:Int} {m m2:H8 Int Unit}
theorem Rch.start (h:Gde U m (l++[id])):Rch s U states l id m (l++[id]):=
 ⟨h,fun a ha=>ha,fun a ha h1 h2=>by
  rcases Mn.1 ha with ha | ha
  ·exact(h1 ha).elim
  ·exact(h2 (Mp.1 ha)).elim,fun C _ hl hid a ha=>by
  rcases Mn.1 ha with ha | ha
  ·exact hl a ha
  ·exact Mp.1 ha ▸ hid⟩
theorem Rch.step (h:Rch s U states l id m l') (hp:Gd5 s states id y) (g:Grown s U states l' y m2 l2):Rch s U states l id m2 l2∧(∀ a∈l',a∈l2)∧y∈l2:=
 ⟨⟨g.inv,fun a ha=>g.sub a (h.sub a ha),fun a ha h1 h2 b hb=>by
  by_cases h0:a∈l'
  ·exact g.sub b (h.closed a h0 h1 h2 b hb)
  ·exact g.closed a ha h0 b hb,fun C hc hl hid=>g.least C hc (h.least C hc hl hid) (hc id y hid hp)⟩,g.sub,g.has⟩
end
structure J59 (s:Gi) (bf af:List G1) (l:List Int):Prop where
 seeds:∀ st∈[bf,af],∀ y∈st,Z0 bf y.Box≠Z0 af y.Box→y.Box∈l
 closed:∀ a∈l,∀ b,Gd5 s [bf,af] a b→b∈l
 least:∀ C:Int→Prop,(∀ a b,C a→Gd5 s [bf,af] a b→C b)→(∀ st∈[bf,af],∀ y∈st,Z0 bf y.Box≠Z0 af y.Box→C y.Box)→∀ a∈l,C a
theorem Qc6 {α:Type} {a b x:α} (h:x∈[a,b]):x∈[b,a]:=by
 simp only [Mq,M9,or_false] at h ⊢
 exact h.symm
theorem Gd5.swap {s:Gi} {a b:List G1} {x y:Int} (h:Gd5 s [a,b] x y):Gd5 s [b,a] x y:=by
 obtain⟨st,h0,h1,h2⟩:=h
 exact⟨st,Qc6 h0,h1,h2.imp _root_.id (fun⟨st2,h3,h4⟩=>⟨st2,Qc6 h3,h4⟩)⟩
section lf
variable {s:Gi} {bf af:List G1}
end lf
instance (a b:Slot):Decidable (H58 a b):=by unfold H58 H40; infer_instance
def H4e (l:List G1) (x:Slot):List Int:=(l.filter (fun y=>decide (H58 y.Slot x))).map (·.Box)
theorem Gf6 {l:List G1} {x:Slot} {b:Int}:b∈H4e l x ↔ ∃ y∈l,y.Box=b∧H58 y.Slot x:=by
 unfold H4e
 rw [Mo]
 constructor
 ·rintro⟨y,hy,e⟩
  rw [Mr,Mk] at hy
  exact⟨y,hy.1,e,hy.2⟩
 ·rintro⟨y,hy,e,h⟩
  exact⟨y,Mr.2 ⟨hy,M3 h⟩,e⟩
def Pl (s:Gi) (l:List G1) (a b:Int):Prop:=∃ x∈l,x.Box=a∧∃ y∈l,y.Box=b∧(H58 y.Slot x.Slot∨upon s x.Slot y.Slot)
theorem Hbb {l:List G1} (h:l.Pairwise (fun a b=>a.Box < b.Box)) {x y:G1} (hx:x∈l) (hy:y∈l) (e:x.Box=y.Box):x=y:=by
 obtain⟨i,hi,rfl⟩:=List.mem_iff_getElem.1 hx
 obtain⟨j,hj,rfl⟩:=List.mem_iff_getElem.1 hy
 have hp:=List.pairwise_iff_getElem.1 h
 rcases Nat.lt_trichotomy i j with g | g | g
 ·have:=hp i j hi hj g; omega
 ·subst g; rfl
 ·have:=hp j i hj hi g; omega
structure Brd (s:Gi) (boxes:List Box) (l:List G1):Prop where
 ship:Je9 s
 right:R6 s boxes l
 rows:∀ x∈s.Covers,x.Rows.length≤1000000
 covs:s.Covers.length≤1000000
 len:l.length≤1000
theorem Brd.col {s:Gi} {boxes:List Box} {l:List G1} (h:Brd s boxes l) {x:G1} (hx:x∈l):G2e s x.Slot:=by
 obtain⟨b,_,h1,_⟩:=h.right.each x hx
 exact Ge8 h1
structure Gcc (s:Gi) (l:List G1) (ids:List Int) (r:List Int):Prop where
 sorted:r.Pairwise (· < ·)
 seeds:∀ a∈ids,a∈r
 closed:∀ a∈r,∀ b,Pl s l a b→b∈r
 least:∀ C:Int→Prop,(∀ a b,C a→Pl s l a b→C b)→(∀ a∈ids,C a)→∀ a∈r,C a
theorem Gcc.eq {s:Gi} {l:List G1} {ids r r':List Int} (h:Gcc s l ids r) (h':Gcc s l ids r'):r=r':=
 H0f h.sorted h'.sorted (fun x=>⟨fun hx=>h.least (·∈r') (fun a b ha hp=>h'.closed a ha b hp) h'.seeds x hx,fun hx=>h'.least (·∈r) (fun a b ha hp=>h.closed a ha b hp) h.seeds x hx⟩)
def Y63 (s:Gi) (boxes:List Box) (l:List G1) (ids:List Int) (r:List Int×Int):Prop:=
 (¬ (Je9 s∧R6 s boxes l)∧r=([],2))∨(Je9 s∧R6 s boxes l∧((¬ (∀ a∈ids,a∈l.map (·.Box))∧r=([],6))∨((∀ a∈ids,a∈l.map (·.Box))∧r.2=0∧Gcc s l ids r.1)))
theorem Y63.eq {s:Gi} {boxes:List Box} {l:List G1} {ids:List Int} {r r':List Int×Int} (h:Y63 s boxes l ids r) (h':Y63 s boxes l ids r'):r=r':=by
 rcases h with ⟨h1,h2⟩ | ⟨h1,h2,h3⟩ <;> rcases h' with ⟨k1,k2⟩ | ⟨k1,k2,k3⟩
 ·rw [h2,k2]
 ·exact(h1 ⟨k1,k2⟩).elim
 ·exact(k1 ⟨h1,h2⟩).elim
 ·rcases h3 with ⟨h3,h4⟩ | ⟨h3,h4,h5⟩ <;> rcases k3 with ⟨k3,k4⟩ | ⟨k3,k4,k5⟩
  ·rw [h4,k4]
  ·exact(h3 k3).elim
  ·exact(k3 h3).elim
  ·exact Prod.ext (h5.eq k5) (h4.trans k4.symm)
end Go.Proofs.YtgcpimpnpcdmmaaGreat
