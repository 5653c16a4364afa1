/-
 What a model returns, What the program says of a ship and of a state,and what has The ships that twistlocklaw07.Built makes: What is reached for,of the states that the chapter's stateme What can be put,taken,opened and closed. What Free,Take,Open,Close and Put return,of states that are What Put returns,and that states stay right. States with a box more or less are right.
-/
import Derived.Test.YtgcpimpnpcdmmaaGreatRangeF
import Derived.Test.YtgcpimpnpcdmmaaGreatXB
namespace Go.Proofs.YtgcpimpnpcdmmaaGreat

section
variable {α β σ : Type} {Q : β → Prop}

def Wp (m : Option β) (Q : β → Prop) : Prop := ∃ r, m = some r ∧ Q r

theorem Gn {r : β} (h : Q r) : Wp (some r) Q := ⟨r, rfl, h⟩
theorem wp_mono {m : Option β} {Q' : β → Prop} (h : Wp m Q') (hq : ∀ r, Q' r → Q r) : Wp m Q := by
  obtain ⟨r, e, h⟩ := h; exact ⟨r, e, hq r h⟩
theorem H4 {m : Option α} {k : α → Option β} (h : Wp m (fun x => Wp (k x) Q)) : Wp (bnd m k) Q := by
  obtain ⟨x, rfl, h⟩ := h; exact h
theorem Gt {m : Option α} {k : α → Option β} {x : α} (e : m = some x) (h : Wp (k x) Q) : Wp (bnd m k) Q := by subst e; exact h
theorem Qo {z : Int} {k : Int → Option β} (h1 : -9223372036854775808 ≤ z ∧ z ≤ 9223372036854775807) (h : Wp (k z) Q) : Wp (chk z k) Q := by
  unfold chk R47
  rw [M4 h1.1, M4 h1.2]; exact h
theorem Hu {c : Bool} {x y : Option β} (h1 : c = true → Wp x Q) (h2 : c = false → Wp y Q) : Wp (bif c then x else y) Q := by
  cases c with
  | true => exact h1 rfl
  | false => exact h2 rfl
theorem Rj {b : Bool} {k : Option β} (hb : b = true) (h : Wp k Q) : Wp (need b k) Q := by subst hb; exact h
theorem Yh {l : List α} {i : Int} {k : α → Option β} {m : Nat} {x : α} (hi : i = (m : Int)) (hx : l[m]? = some x) (h : Wp (k x) Q) : Wp (Qm l i k) Q := by
  subst hi
  unfold Qm
  rw [M4 (by omega : (0 : Int) ≤ m), cond_true, show (m : Int).toNat = m by omega, hx]
  exact h
theorem G00 {m : (α → Option β) → Option β} {k : α → Option β} (P : α → Prop) (hm : ∀ K : α → Option β, (∀ a, P a → Wp (K a) Q) → Wp (m K) Q) (hk : ∀ a, P a → Wp (k a) Q) : Wp (jp m k) Q := hm k hk
theorem J05 {m n : Int} {Q : Int → Prop} (hn : n ≠ 0) (h : Q (m.tmod n)) : Wp (Hc5 m n) Q := by
  unfold Hc5
  rw [M5 hn, cond_false]
  exact Gn h
theorem H87 {i : Int} {n m : Nat} {Q : Nat → Prop} (hi : i = (m : Int)) (hm : m ≤ n) (h : Q m) : Wp (J5b i n) Q := by
  subst hi
  unfold J5b
  rw [M4 (by omega : (0 : Int) ≤ m), show (m : Int).toNat = m by omega, M4 hm]
  exact Gn h
theorem Jo (I : List α → σ → Prop) {b : α → Nat → σ → (σ → Option β) → Option β} {kx : σ → Option β} {xs : List α} {s : σ} (h0 : I [] s)
    (hb : ∀ pre x post s nx, xs = pre ++ x :: post → I pre s → (∀ s', I (pre ++ [x]) s' → Wp (nx s') Q) → Wp (b x pre.length s nx) Q) (hk : ∀ s, I xs s → Wp (kx s) Q) : Wp (each b kx xs 0 s) Q := by
  have key : ∀ (post pre : List α) (s : σ), xs = pre ++ post → I pre s → Wp (each b kx post pre.length s) Q := by
    intro post
    induction post with
    | nil => intro pre s e hi; rw [List.append_nil] at e; subst e; exact hk s hi
    | cons x post ih =>
      intro pre s e hi
      rw [each]
      refine hb pre x post s _ e hi (fun s' h1 => ?_)
      have := ih (pre ++ [x]) s' (by rw [e]; simp) h1
      rw [Mi, Mj] at this
      exact this
  exact key xs [] s rfl h0
theorem J04 (I : Nat → σ → Prop) {b : Nat → σ → (σ → Option β) → Option β} {kx : σ → Option β} {n : Nat} {s : σ} (h0 : I 0 s)
    (hb : ∀ i s nx, i < n → I i s → (∀ s', I (i + 1) s' → Wp (nx s') Q) → Wp (b i s nx) Q) (hk : ∀ s, I n s → Wp (kx s) Q) : Wp (upto b kx n 0 s) Q := by
  have key : ∀ (m i : Nat) (s : σ), i + m = n → I i s → Wp (upto b kx m i s) Q := by
    intro m
    induction m with
    | zero => intro i s e hi; have e : i = n := by omega
              subst e; exact hk s hi
    | succ m ih =>
      intro i s e hi
      rw [upto]
      exact hb i s _ (by omega) hi (fun s' h1 => ih (i + 1) s' (by omega) h1)
  exact key n 0 s (by omega) h0
theorem G60 {m : Option β} {r : β} (h : Wp m (· = r)) : m = some r := by
  obtain ⟨x, e, rfl⟩ := h; exact e
end

def H15 {α : Type} (p : α → Bool) (l : List α) : List Int := (l.zipIdx.filter (fun x => p x.1)).map (fun x => (x.2 : Int))
theorem J83 {α : Type} (p : α → Bool) (l : List α) (x : α) : H15 p (l ++ [x]) = H15 p l ++ (if p x then [(l.length : Int)] else []) := by
  unfold H15
  rw [List.zipIdx_append, List.filter_append, List.map_append]
  by_cases h : p x <;> simp [h]
theorem Q68 {α : Type} (p : α → Bool) (l : List α) : (H15 p l).length ≤ l.length := by
  unfold H15
  rw [Mn]
  exact Nat.le_trans (Ky _ _) (by simp)
theorem Jf0 {α : Type} {p : α → Bool} {l : List α} : H15 p l = [] ↔ ∀ x ∈ l, p x = false := by
  unfold H15
  rw [List.map_eq_nil_iff, List.filter_eq_nil_iff]
  constructor
  · intro h x hx
    obtain ⟨i, hi⟩ := List.mem_iff_getElem?.1 hx
    have := h (x, i) (List.mk_mem_zipIdx_iff_getElem?.2 hi)
    simpa using this
  · intro h y hy
    have := h y.1 (List.mem_iff_getElem?.2 ⟨y.2, List.mk_mem_zipIdx_iff_getElem?.1 hy⟩)
    simp [this]
set_option linter.unusedVariables false
set_option maxRecDepth 100000
open Go.RowKit
theorem Y9a {α γ:Type} {l:List α} {i:Nat} {y:α} (h:l[i]? = some y) (k:α→Option γ):Qm l (i:Int) k=k y:=by
 unfold Qm
 rw [M4 (by omega:(0:Int)≤(i:Int)),cond_true,show (i:Int).toNat=i by omega,h]; rfl
structure Z72 (c:G3):Prop where
 plugs:∀ p∈c.Plugs,0≤p∧p < c.Tiers
 sorted:c.Plugs.Pairwise (· < ·)
 place:0≤c.Bay∧c.Bay≤39∧0≤c.Row∧c.Row≤30∧1≤c.Tiers∧c.Tiers≤10∧0≤c.Height∧c.Height≤40000
 load:0≤c.Kilos20∧c.Kilos20≤500000000∧0≤c.Kilos40∧c.Kilos40≤500000000∧0≤c.Lash∧c.Lash≤1000000000000
 at_ : -500000≤c.X∧c.X≤500000 ∧ -500000≤c.Y∧c.Y≤500000 ∧ -500000≤c.Z∧c.Z≤500000
theorem Hdc {p:Prop} (h:¬ p):(false=true) ↔ p:=⟨fun e=>Bool.noConfusion e,fun hp=>(h hp).elim⟩
theorem Z95 {β:Type} {Q:β→Prop} {z:Int} {k:Int→Option β} (h:Wp (k (IntKind.i64.wrap z)) Q):Wp (wrp z k) Q:=h
theorem Y89 {α:Type} {R:α→α→Prop} {l:List α} {x:α} (h:l.Pairwise R) (hx:∀ a∈l,R a x):(l++[x]).Pairwise R:=by
 rw [List.pairwise_append]
 refine⟨h,List.pairwise_singleton ..,fun a ha b hb=>?_⟩
 rw [Mq] at hb; subst hb
 exact hx a ha
theorem Hec {α:Type} {P:α→Prop} {l:List α} {x:α} (h1:∀ y∈l,P y) (h2:P x):∀ y∈l++[x],P y:=fun y hy=>by
 rcases Mo.1 hy with hy | hy
 ·exact h1 y hy
 ·rw [Mq.1 hy]; exact h2
theorem Q4f {pre:List Int} {y p:Int} (h:pre.Pairwise (· < ·)) (hp:pre[pre.length - 1]? = some p) (hy:p < y):∀ a∈pre,a < y:=by
 rcases List.eq_nil_or_concat pre with rfl | ⟨q,z,rfl⟩
 ·intro a ha; cases ha
 ·rw [List.concat_eq_append] at *
  have hz:z=p:=by
   rw [Mi,Mj,show q.length+1 - 1=q.length by omega] at hp
   simpa using hp
  subst hz
  intro a ha
  rcases Mo.1 ha with ha | ha
  ·have:=(List.pairwise_append.1 h).2.2 a ha z (by simp)
   omega
  ·rw [Mq.1 ha]; exact hy
theorem Q59 (l:List Hn):G6f l=some (l.all (fun x=>decide (x.low≤x.n)&&decide (x.n≤x.high))):=by
 refine G60 ?_
 unfold G6f
 refine Jo (fun pre _=>pre.all (fun x=>decide (x.low≤x.n)&&decide (x.n≤x.high))=true) rfl (fun pre y post s nx e hI h0=>Hu (fun h=>Gn ?_) (fun h=>h0 _ ?_)) (fun s hI=>Gn hI.symm)
 ·symm
  rw [List.all_eq_false]
  refine⟨y,by rw [e]; simp,?_⟩
  simp only [Mt,Mm] at h
  simp only [Mk,Mm]
  omega
 ·simp only [Mu,decide_eq_false_iff_not] at h
  rw [List.all_append,hI]
  simp only [List.all_cons,List.all_nil,Bool.and_true,Bool.true_and,Mk,Mm]
  omega
theorem R6d {pre post:List Int} {l:List Int} {y:Int} (e:l=pre++y::post) (hp:0 < pre.length):∃ p,l[pre.length - 1]? = some p∧pre[pre.length - 1]? = some p∧p∈pre:=by
 have h1:pre[pre.length - 1]? = some (pre[pre.length - 1]'(by omega)):=M7 (by omega)
 exact⟨_,by rw [e,Md (by omega)]; exact h1,h1,List.getElem_mem _⟩
theorem Yd2 (c:G3) (hl:c.Plugs.length≤1048576):Wp (Gc8 c) (fun r=>r=true ↔ Z72 c):=by
 unfold Gc8
 have hw:1≤c.Tiers∧c.Tiers≤10→IntKind.i64.wrap (c.Tiers - 1)=c.Tiers - 1:=fun h=>Q82 (by omega) (by omega)
 refine Jo (fun pre _=>(∀ p∈pre,0≤p∧p≤IntKind.i64.wrap (c.Tiers - 1))∧pre.Pairwise (· < ·)) ⟨fun p hp=>(Ma hp).elim,List.Pairwise.nil⟩ (fun pre y post s nx e hI h5=>?_) (fun s hI=>?_)
 ·obtain⟨h3,h4⟩:=hI
  have h6:y∈c.Plugs:=by rw [e]; simp
  have b0:pre.length < c.Plugs.length:=by rw [e]; simp
  refine Z95 (Gt (Q59 _) ?_)
  simp only [List.all_cons,List.all_nil,Bool.and_true]
  by_cases hy:0≤y∧y≤IntKind.i64.wrap (c.Tiers - 1)
  ·rw [M4 hy.1,M4 hy.2]
   simp only [Bool.and_self,Bool.not_true,Bool.not_false,Bool.true_and,Bool.false_or]
   by_cases hp:0 < pre.length
   ·obtain⟨p,h7,h8,h9⟩:=R6d e hp
    have a0:IntKind.i64.wrap ((pre.length:Int) - 1)=((pre.length - 1:Nat):Int):=by
     rw [Q82 (by omega) (by omega)]; omega
    rw [M4 (by omega:0 < (pre.length:Int)),cond_true]
    refine Gt (congrArg some a0) (Gt ((Y9a h7 some).trans rfl) ?_)
    simp only [Bool.true_and]
    refine Hu (fun h=>Gn (Hdc fun hc=>?_)) (fun h=>h5 _ ⟨Hec h3 hy,Y89 h4 (Q4f h4 h8 (by have:=M3 h; omega))⟩)
    have:=M2 h
    have hs:=hc.sorted
    rw [e] at hs
    have:=(List.pairwise_append.1 hs).2.2 p h9 y (by simp)
    omega
   ·have h0:pre=[]:=Kw (by omega)
    subst h0
    rw [M5 (by simp:¬ 0 < (([]:List Int).length:Int))]
    refine H4 (Gn (H4 (Gn ?_)))
    simp only [Bool.false_and,cond_false]
    exact h5 _ ⟨Hec h3 hy,by simp⟩
  ·have hf:(decide (0≤y)&&decide (y≤IntKind.i64.wrap (c.Tiers - 1)))=false:=by
    rw [Bool.and_eq_false_iff,decide_eq_false_iff_not,decide_eq_false_iff_not]
    omega
   rw [hf]
   simp only [Bool.not_false,Bool.not_true,Bool.false_and,cond_false,Bool.true_or,cond_true]
   refine H4 (Gn (H4 (Gn (Gn (Hdc fun hc=>hy ?_)))))
   have h1:=hc.plugs y h6
   have h2:=hc.place
   rw [hw (by omega)]
   omega
 ·obtain⟨h3,h4⟩:=hI
  refine Gt (Q59 _) (Gn ?_)
  simp only [List.all_cons,List.all_nil,Bool.and_true,Mk,Mm]
  constructor
  ·rintro⟨a1,a2,a3,a4,a5,a6,a7,a8,a9,a10⟩
   have hw:=hw a3
   exact⟨fun p hp=>by have:=h3 p hp; omega,h4,by omega,by omega,by omega⟩
  ·intro h
   obtain⟨_,_,b1,b2,b3⟩:=h
   omega
def dk (b:Bool):Int:=bif b then 1 else 0
def k3 (c:G3):Hg:=⟨c.Bay,c.Row,dk c.Deck⟩
def x3 (x:G9):List Hg:=x.Rows.map fun r=>⟨x.Bay,r,2⟩
structure CovR (x:G9):Prop where
 bay:0≤x.Bay∧x.Bay≤39
 some:x.Rows≠[]
 rows:∀ r∈x.Rows,0≤r∧r≤30
 sorted:x.Rows.Pairwise (· < ·)
structure Jf8 (s:Gj):Prop where
 num:1≤s.Columns.length∧s.Columns.length≤200∧s.Covers.length≤40
 col:∀ c∈s.Columns,Z72 c
 cov:∀ x∈s.Covers,CovR x
 nodup:(s.Columns.map k3++s.Covers.flatMap x3).Nodup
theorem Z80 {κ:Type} [DecidableEq κ] {m:Ha κ Int} {l:List κ} (h:Ha.l m=tally l) (a:κ):Ha.l (Ha.put m a (Ha.get m a 0+1))=tally (l++[a]):=by
 rw [J13]
 show H06 (Ha.l m) a ((G3f (Ha.l m) a).getD 0+1)=_
 rw [h]
theorem Z86 {κ:Type} [DecidableEq κ] {m:Ha κ Int} {l:List κ} (h:Ha.l m=tally l) (a:κ):0≤Ha.get m a 0∧Ha.get m a 0≤(l.length:Int):=by
 have:=Rc4 l a
 show 0≤(G3f (Ha.l m) a).getD 0∧_
 rw [h]
 exact⟨this.1,by show (G3f (Ha.l m) a).getD 0≤_; rw [h]; exact this.2⟩
theorem Z0f (l:List G9) (h:∀ x∈l,x.Rows.length≤1048576):(l.flatMap x3).length≤1048576*l.length:=by
 induction l with
 | nil=>simp
 | cons x l ih=>
  have h1:=h x (List.mem_cons_self ..)
  have h2:=ih (fun y hy=>h y (List.mem_cons_of_mem _ hy))
  rw [List.flatMap_cons,Mi,Me]
  have:(x3 x).length=x.Rows.length:=by simp [x3]
  omega
theorem Qc4 (s:Gj) (hp:∀ c∈s.Columns,c.Plugs.length≤1048576) (hr:∀ x∈s.Covers,x.Rows.length≤1048576):Wp (Gc5 s) (fun r=>r=true ↔ Jf8 s):=by
 unfold Gc5 H83
 refine Hu (fun hc=>Gn (Hdc fun h=>?_)) (fun hc=>?_)
 ·have:=h.num
  simp only [Mt,Mm] at hc
  omega
 simp only [Mu,decide_eq_false_iff_not] at hc
 have hn:1≤s.Columns.length∧s.Columns.length≤200∧s.Covers.length≤40:=by omega
 refine Jo (fun pre m=>Ha.l m=tally (pre.map k3)∧∀ c∈pre,Z72 c) ⟨rfl,fun c hc=>(Ma hc).elim⟩ (fun pre y post m nx e hI h6=>?_) (fun m hI=>?_)
 ·obtain⟨h5,h7⟩:=hI
  have h3:y∈s.Columns:=by rw [e]; simp
  have a6:pre.length < s.Columns.length:=by rw [e]; simp
  refine G00 (fun j=>j=dk y.Deck) (fun K hK=>Hu (fun h=>hK _ (by rw [h]; rfl)) (fun h=>hK _ (by rw [h]; rfl))) (fun j hj=>?_)
  subst hj
  have hb:=Z86 h5 (k3 y)
  rw [Mn] at hb
  refine Gt (x:=Ha.get m (k3 y) 0) rfl (Qo ⟨by omega,by omega⟩ (H4 (wp_mono (Yd2 y (hp y h3)) (fun r hr=>Hu (fun h=>Gn (Hdc fun hs=>?_)) (fun h=>h6 _ ⟨?_,Hec h7 ?_⟩)))))
  ·rw [hr.2 (hs.col y h3)] at h; cases h
  ·rw [List.map_append]; exact Z80 h5 (k3 y)
  ·cases r with
   | true=>exact hr.1 rfl
   | false=>cases h
 obtain⟨h5,h7⟩:=hI
 refine Jo (fun pre m=>Ha.l m=tally (s.Columns.map k3++pre.flatMap x3)∧∀ x∈pre,CovR x) ⟨by simpa using h5,fun c hc=>(Ma hc).elim⟩ (fun pre y post m nx e hJ h6=>?_) (fun m hJ=>?_)
 ·obtain⟨h8,h9⟩:=hJ
  have h3:y∈s.Covers:=by rw [e]; simp
  have a6:pre.length < s.Covers.length:=by rw [e]; simp
  refine Hu (fun hc=>Gn (Hdc fun h=>?_)) (fun hc=>?_)
  ·have h1:=(h.cov y h3).bay
   have h2:=(h.cov y h3).some
   simp only [Mt,Mm] at hc
   have:y.Rows.length≠0:=fun h=>h2 (List.length_eq_zero_iff.1 h)
   omega
  simp only [Mu,decide_eq_false_iff_not] at hc
  have a7:y.Rows≠[]:=fun h=>by rw [h] at hc; simp at hc
  have b6:=Z0f pre (fun x hx=>hr x (by rw [e]; exact Mo.2 (.inl hx)))
  have b7:=hr y h3
  refine Jo (fun pr m=>Ha.l m=tally (s.Columns.map k3++pre.flatMap x3++pr.map (fun r=>(⟨y.Bay,r,2⟩:Hg)))∧(∀ r∈pr,0≤r∧r≤30)∧pr.Pairwise (· < ·)) ⟨by simpa using h8,fun c hc=>(Ma hc).elim,List.Pairwise.nil⟩ (fun pr r pos m nx' e' hK a5=>?_) (fun m hK=>h6 _ ⟨?_,Hec h9 ⟨by omega,a7,hK.2.1,hK.2.2⟩⟩)
  ·obtain⟨a3,a8,a4⟩:=hK
   have a9:r∈y.Rows:=by rw [e']; simp
   have b5:pr.length < y.Rows.length:=by rw [e']; simp
   have go:0≤r∧r≤30→(∀ a∈pr,a < r)→Wp (bnd (some (Ha.get m ⟨y.Bay,r,2⟩ 0)) fun v167=>chk (v167+1) fun v168=>nx' (Ha.put m ⟨y.Bay,r,2⟩ v168)) (fun r=>r=true ↔ Jf8 s):=fun h1 h2=>by
    have hb:=Z86 a3 ⟨y.Bay,r,2⟩
    simp only [Mi,Mn] at hb
    refine H4 (Gn (Qo ⟨by omega,by omega⟩ (a5 _ ⟨?_,Hec a8 h1,Y89 a4 h2⟩)))
    rw [List.map_append,← List.append_assoc]
    exact Z80 a3 ⟨y.Bay,r,2⟩
   by_cases a0:0≤r∧r≤30
   ·have a1:(decide (r < 0)||decide (30 < r))=false:=by simp; omega
    simp only [a1,Bool.not_false,Bool.true_and,Bool.false_or]
    by_cases b0:0 < pr.length
    ·obtain⟨p,b1,b2,b3⟩:=R6d e' b0
     rw [M4 (by omega:0 < (pr.length:Int)),cond_true]
     refine H4 (Qo ⟨by omega,by omega⟩ (Gn ?_))
     have b4:(pr.length:Int) - 1=((pr.length - 1:Nat):Int):=by omega
     rw [b4]
     refine Gt ((Y9a b1 some).trans rfl) ?_
     simp only [Bool.true_and]
     refine Hu (fun h=>Gn (Hdc fun hc=>?_)) (fun h=>go a0 (Q4f a4 b2 (by have:=M3 h; omega)))
     have:=M2 h
     have hs:=(hc.cov y h3).sorted
     rw [e'] at hs
     have:=(List.pairwise_append.1 hs).2.2 p b3 r (by simp)
     omega
    ·have h0:pr=[]:=Kw (by omega)
     subst h0
     rw [M5 (by simp:¬ 0 < (([]:List Int).length:Int))]
     refine H4 (Gn (H4 (Gn ?_)))
     simp only [Bool.false_and,cond_false]
     exact go a0 (fun a ha=>(Ma ha).elim)
   ·have a1:(decide (r < 0)||decide (30 < r))=true:=by simp; omega
    simp only [a1,Bool.not_true,Bool.false_and,cond_false,Bool.true_or,cond_true]
    exact H4 (Gn (H4 (Gn (Gn (Hdc fun hc=>a0 ((hc.cov y h3).rows r a9))))))
  ·rw [List.flatMap_append,← List.append_assoc]
   simpa [x3] using hK.1
 ·obtain⟨h8,h9⟩:=hJ
  rw [Je3 (c:=fun x:Hg×Int=>decide (1 < x.2))]
  refine Gn ?_
  have a2:(Ha.l m).any (fun x=>decide (1 < x.2))=false ↔ (s.Columns.map k3++s.Covers.flatMap x3).Nodup:=by
   rw [← R67,h8,List.any_eq_false]
   constructor
   ·intro h j a n hj
    have:=h (a,n) (M9 hj)
    simp only [Mm] at this
    omega
   ·intro h x hx
    obtain⟨j,hj⟩:=List.mem_iff_getElem?.1 hx
    have:=h j x.1 x.2 hj
    simp only [Mm]
    omega
  cases h4:(Ha.l m).any (fun x=>decide (1 < x.2)) with
  | true=>
   refine Hdc fun h=>?_
   rw [a2.2 h.nodup] at h4; cases h4
  | false=>exact⟨fun _=>⟨hn,h7,h9,a2.1 h4⟩,fun _=>rfl⟩
theorem G12 {n k:Nat} (hn:n≤1000001) (hk:k≤1000):decide (n*k≤140737488355328∧n≤maxLen)=true:=by
 have h:n*k≤1000001*1000:=Nat.mul_le_mul hn hk
 have h2:n≤maxLen:=Nat.le_trans hn (by decide)
 exact M4 ⟨by omega,h2⟩
theorem Ha5 {α β:Type} {x:α} {k:α→Option β}:bnd (some x) k=k x:=rfl
def J60 {α:Type} (p:α→Bool) (l:List α):Int:=match l.findIdx? p with
 | some j=>(j:Int)
 | none => -1
theorem Ha4 {α:Type} {p:α→Bool} {f:α→Option Bool} {xs:List α} (hf:∀ x∈xs,f x=some (p x)) :
  each (fun y i (_:Unit) nx=>bnd (f y) fun r=>bif r then some (i:Int) else nx ()) (fun _=>some (-1)) xs 0 ()=some (J60 p xs):=by
 have key:∀ (xs:List α),(∀ x∈xs,f x=some (p x))→∀ i:Nat,each (fun y i (_:Unit) nx=>bnd (f y) fun r=>bif r then some (i:Int) else nx ()) (fun _=>some (-1)) xs i ()=some (match xs.findIdx? p with
  | some j=>((i+j:Nat):Int)
  | none => -1):=by
  intro xs
  induction xs with
  | nil=>intro _ i; rfl
  | cons x xs ih=>
   intro hf i
   rw [each,hf x (List.mem_cons_self ..),Ha5,List.findIdx?_cons]
   cases p x with
   | true=>simp
   | false=>
    simp only [cond_false]
    rw [ih (fun y hy=>hf y (List.mem_cons_of_mem _ hy)) (i+1)]
    cases xs.findIdx? p with
    | none=>simp
    | some j=>show some (((i+1+j:Nat)):Int)=some (((i+(j+1):Nat)):Int); rw [show i+1+j=i+(j+1) by omega]
 rw [key xs hf 0]
 unfold J60
 cases xs.findIdx? p <;> simp
theorem H3b {α:Type} (p:α→Bool) (l:List α):(J60 p l = -1∧(∀ x∈l,p x=false)∧l.find? p=none)∨∃ (m:Nat) (x:α),J60 p l=(m:Int)∧l[m]? = some x∧p x=true∧l.find? p=some x:=by
 unfold J60
 cases h:l.findIdx? p with
 | none=>
  have:=List.findIdx?_eq_none_iff.1 h
  exact .inl ⟨rfl,this,List.find?_eq_none.2 (fun x hx=>by rw [this x hx]; simp)⟩
 | some j=>
  obtain⟨hj,h1,h2⟩:=List.findIdx?_eq_some_iff_getElem.1 h
  refine .inr ⟨j,l[j],rfl,by simp [hj],h1,?_⟩
  refine List.find?_eq_some_iff_getElem.2 ⟨h1,j,hj,rfl,fun k hk=>?_⟩
  simpa using h2 k hk
theorem H5f {α:Type} {p:α→Bool} {l:List α}:decide (0≤J60 p l)=l.any p:=by
 rcases H3b p l with ⟨h1,h2,_⟩ | ⟨m,x,h1,h2,h3,_⟩
 ·rw [h1]
  refine Eq.symm (List.any_eq_false.2 fun x hx=>?_)
  rw [h2 x hx]; exact Bool.false_ne_true
 ·rw [h1,M4 (by omega)]
  exact(List.any_eq_true.2 ⟨x,M9 h2,h3⟩).symm
def Qj (boxes:List Box) (id:Int):Option Box:=boxes.find? (fun b=>decide (b.ID=id))
theorem Q18 (boxes:List Box) (id:Int):Gb0 boxes id=some (match Qj boxes id with
  | some b=>(b,true)
  | none=>(Box.mk 0 ByteArray.empty 0 false 0 0 0 0 false,false)):=by
 unfold Gb0
 have h:Zw boxes (fun z0=>Gdd z0 id)=some (J60 (fun b:Box=>decide (b.ID=id)) boxes):=Ha4 (fun x _=>rfl)
 rw [h]
 simp only [Ha5]
 unfold Qj
 rcases H3b (fun b:Box=>decide (b.ID=id)) boxes with ⟨h1,_,h3⟩ | ⟨m,x,h1,h2,_,h4⟩
 ·rw [h1,h3]; rfl
 ·rw [h1,h4,M5 (by omega),cond_false]
  unfold Qm
  rw [M4 (by omega),cond_true,show (m:Int).toNat=m by omega,h2]
  rfl
def Qe8 (l:List G1) (id:Int):Option G1:=l.find? (fun x=>decide (x.Box=id))
def Hca (size:Int):List Int:=if size=40 then [0] else if size=20 then [1,2] else []
theorem Q55 (size:Int):G5d size=some (Hca size):=by
 unfold G5d Hca
 by_cases h:size=40
 ·simp [h]
 ·by_cases h2:size=20
  ·simp [h2]
  ·simp [h,h2]
theorem Yd0 (l:List Int) (v:Int):Ze l v=some (l.any (fun y=>decide (v=y))):=by
 unfold Ze
 have h:G0d l v=some (J60 (fun y=>decide (v=y)) l):=by
  unfold G0d
  exact Ha4 (f:=fun y=>some (decide (v=y))) (fun x _=>rfl)
 rw [h]
 simp only [Ha5]
 rw [H5f]
theorem R7d (l:List Slot) (v:Slot):Qf l v=some (l.any (fun y=>decide (v=y))):=by
 unfold Qf
 have h:Yn l v=some (J60 (fun y=>decide (v=y)) l):=by
  unfold Yn
  exact Ha4 (f:=fun y=>some (decide (v=y))) (fun x _=>rfl)
 rw [h]
 simp only [Ha5]
 rw [H5f]
structure G9a (s:Gj) (x:Slot) (size:Int):Prop where
 col:∃ (m:Nat) (c:G3),x.G3=(m:Int)∧s.Columns[m]? = some c∧x.Tier < c.Tiers
 tier:0≤x.Tier
 half:x.Half∈Hca size
theorem Qc2 (s:Gj) (x:Slot) (size:Int):Wp (G7f s x size) (fun r=>r=true ↔ G9a s x size):=by
 unfold G7f
 by_cases h0:0≤x.G3∧x.G3 < (s.Columns.length:Int)
 ·by_cases h1:0≤x.Tier
  ·obtain⟨m,hm⟩:∃ m:Nat,x.G3=(m:Int):=⟨x.G3.toNat,by omega⟩
   have h3:m < s.Columns.length:=by omega
   have hc:s.Columns[m]? = some s.Columns[m]:=by simp [h3]
   have e:(((decide (0≤x.G3))&&(decide (x.G3 < (s.Columns.length:Int))))&&(decide (0≤x.Tier)))=true:=by simp [h0.1,h0.2,h1]
   simp only [e,cond_true,Bool.true_and]
   refine H4 (Yh hm hc (Gn ?_))
   by_cases h2:x.Tier < (s.Columns[m]).Tiers
   ·rw [M4 h2]
    simp only [cond_true]
    refine Gt (Q55 size) (Gt (Yd0 _ _) (Gn ?_))
    rw [Bool.true_and,List.any_eq_true]
    constructor
    ·rintro⟨y,hy,he⟩
     have:=M2 he
     subst this
     exact⟨⟨m,_,hm,hc,h2⟩,h1,hy⟩
    ·exact fun h=>⟨_,h.half,by simp⟩
   ·rw [M5 h2]
    simp only [cond_false,Bool.false_and]
    refine H4 (Gn (H4 (Gn (Gn ⟨fun h=>(by cases h),fun h=>?_⟩))))
    obtain⟨m',c,g1,g2,g3⟩:=h.col
    have:m'=m:=by omega
    subst this
    rw [hc] at g2; cases g2
    exact(h2 g3).elim
  ·simp only [M5 h1,Bool.and_false,cond_false,Bool.false_and]
   exact H4 (Gn (H4 (Gn (H4 (Gn (Gn ⟨fun h=>(by cases h),fun h=>(h1 h.tier).elim⟩))))))
 ·have e:((decide (0≤x.G3))&&(decide (x.G3 < (s.Columns.length:Int))))=false:=by
   by_cases h:0≤x.G3
   ·have:¬ x.G3 < (s.Columns.length:Int):=fun g=>h0 ⟨h,g⟩
    simp [this]
   ·simp [h]
  simp only [e,Bool.false_and,cond_false]
  refine H4 (Gn (H4 (Gn (H4 (Gn (Gn ⟨fun h=>(by cases h),fun h=>?_⟩))))))
  obtain⟨m,c,g1,g2,_⟩:=h.col
  have:=(M6 g2).1
  exact(h0 (by omega)).elim
def below (l:List Slot) (x:Slot) (half:Int):Prop:=(⟨x.G3,x.Tier - 1,half⟩:Slot)∈l
def H78 (x:Slot) (l:List Slot):Prop:=x.Tier≤0∨below l x x.Half∨(x.Half=0∧below l x 1∧below l x 2)
theorem Jba (half:Int) (l:List Slot) (x:Slot) (ht : -1000000≤x.Tier∧x.Tier≤1000000):Wp (Zn half l x) (fun r=>r=true ↔ below l x half):=by
 unfold Zn
 refine Qo ⟨by omega,by omega⟩ (Gt (R7d _ _) (Gn ?_))
 rw [List.any_eq_true]
 constructor
 ·rintro⟨y,hy,he⟩
  have:=M2 he
  subst this
  exact hy
 ·exact fun h=>⟨_,h,by simp⟩
theorem R32 (x:Slot) (l:List Slot) (ht : -1000000≤x.Tier∧x.Tier≤1000000):Wp (G4c x l) (fun r=>r=true ↔ H78 x l):=by
 unfold G4c H78
 refine Hu (fun h=>Gn ⟨fun _=>.inl (M2 h),fun _=>rfl⟩) (fun h=>?_)
 have h0:=M3 h
 refine H4 (wp_mono (Jba x.Half l x ht) (fun r7 h7=>?_))
 cases r7 with
 | true=>
  simp only [Bool.not_true,Bool.false_and,cond_false,Bool.true_or]
  exact H4 (Gn (H4 (Gn (Gn ⟨fun _=>.inr (.inl (h7.1 rfl)),fun _=>rfl⟩))))
 | false=>
  have h1:¬ below l x x.Half:=fun h=>by have:=h7.2 h; cases this
  simp only [Bool.not_false,Bool.true_and,Bool.false_or]
  by_cases hh:x.Half=0
  ·rw [M4 hh]
   simp only [cond_true,Bool.true_and]
   refine H4 (wp_mono (Jba 1 l x ht) (fun r8 h8=>?_))
   cases r8 with
   | true=>
    simp only [cond_true,Bool.true_and]
    refine H4 (wp_mono (Jba 2 l x ht) (fun r9 h9=>Gn ⟨fun h=>.inr (.inr ⟨hh,h8.1 rfl,h9.1 h⟩),fun h=>?_⟩))
    rcases h with h | h | ⟨_,_,h⟩
    ·exact(h0 h).elim
    ·exact(h1 h).elim
    ·exact h9.2 h
   | false=>
    simp only [cond_false,Bool.false_and]
    refine H4 (Gn (Gn ⟨fun h=>(by cases h),fun h=>?_⟩))
    rcases h with h | h | ⟨_,h,_⟩
    ·exact(h0 h).elim
    ·exact(h1 h).elim
    ·have:=h8.2 h; cases this
  ·rw [M5 hh]
   simp only [cond_false,Bool.false_and]
   refine H4 (Gn (H4 (Gn (Gn ⟨fun h=>(by cases h),fun h=>?_⟩))))
   rcases h with h | h | ⟨h,_⟩
   ·exact(h0 h).elim
   ·exact(h1 h).elim
   ·exact(hh h).elim
def H4a (a b:Int):Prop:=a=b∨a=0∨b=0
theorem Q54 (a b:Int):Wp (G97 a b) (fun r=>r=true ↔ H4a a b):=by
 unfold G97 H4a
 refine Gn ?_
 simp [or_assoc]
def Hfb (a b:Slot):Prop:=a.G3=b.G3∧a.Tier=b.Tier∧H4a a.Half b.Half
theorem R31 (a b:Slot):Wp (H02 a b) (fun r=>r=true ↔ Hfb a b):=by
 unfold H02 Hfb
 by_cases h:a.G3=b.G3∧a.Tier=b.Tier
 ·simp only [M4 h.1,M4 h.2,Bool.and_self,cond_true,Bool.true_and]
  exact H4 (wp_mono (Q54 _ _) (fun r hr=>Gn ⟨fun e=>⟨h.1,h.2,hr.1 e⟩,fun e=>hr.2 e.2.2⟩))
 ·have e:(decide (a.G3=b.G3)&&decide (a.Tier=b.Tier))=false:=by
   by_cases h1:a.G3=b.G3
   ·have:¬ a.Tier=b.Tier:=fun h2=>h ⟨h1,h2⟩
    simp [this]
   ·simp [h1]
  simp only [e,cond_false,Bool.false_and]
  exact H4 (Gn (Gn ⟨fun e=>(by cases e),fun e=>(h ⟨e.1,e.2.1⟩).elim⟩))
def H62 (a b:Slot):Prop:=a.G3=b.G3∧b.Tier < a.Tier∧H4a a.Half b.Half
theorem Q1a (a b:Slot):Wp (H01 a b) (fun r=>r=true ↔ H62 a b):=by
 unfold H01 H62
 by_cases h:a.G3=b.G3∧b.Tier < a.Tier
 ·simp only [M4 h.1,M4 h.2,Bool.and_self,cond_true,Bool.true_and]
  exact H4 (wp_mono (Q54 _ _) (fun r hr=>Gn ⟨fun e=>⟨h.1,h.2,hr.1 e⟩,fun e=>hr.2 e.2.2⟩))
 ·have e:(decide (a.G3=b.G3)&&decide (b.Tier < a.Tier))=false:=by
   by_cases h1:a.G3=b.G3
   ·have:¬ b.Tier < a.Tier:=fun h2=>h ⟨h1,h2⟩
    simp [this]
   ·simp [h1]
  simp only [e,cond_false,Bool.false_and]
  exact H4 (Gn (Gn ⟨fun e=>(by cases e),fun e=>(h ⟨e.1,e.2.1⟩).elim⟩))
def H95 (b:Box):Int:=if b.High then 2896 else 2591
def Gf1 (boxes:List Box) (column half:Int) (n:Int) (x:G1):Int:=
 if x.Slot.G3=column∧(x.Slot.Half=half∨x.Slot.Half=0) then (match Qj boxes x.Box with | some b=>n+H95 b | none=>n) else n
def Y4 (boxes:List Box) (l:List G1) (column half:Int):Int:=l.foldl (Gf1 boxes column half) 0
theorem Jf7 {boxes:List Box} {column half n:Int} {x:G1}:n≤Gf1 boxes column half n x∧Gf1 boxes column half n x≤n+2896:=by
 unfold Gf1 H95
 split
 ·split
  ·split <;> omega
  ·omega
 ·omega
theorem Q4d (boxes:List Box) (l:List G1) (column half:Int) (hl:l.length≤1000000):G96 boxes l column half=some (Y4 boxes l column half):=by
 refine G60 ?_
 unfold G96 Y4
 refine Jo (fun pre n=>n=pre.foldl (Gf1 boxes column half) 0∧0≤n∧n≤2896*pre.length) ⟨rfl,Int.le_refl _,by simp⟩ (fun pre y post n nx e hn h5=>?_) (fun n hn=>Gn hn.1)
 obtain⟨rfl,h1,h2⟩:=hn
 have hp:pre.length+1≤l.length:=by rw [e]; simp
 have ha:=Jf7 (boxes:=boxes) (column:=column) (half:=half) (n:=pre.foldl (Gf1 boxes column half) 0) (x:=y)
 have h4:((pre++[y]).length:Int)=pre.length+1:=by simp
 generalize hg:pre.foldl (Gf1 boxes column half) 0=n at *
 refine G00 (fun j=>j=Gf1 boxes column half n y) (fun K hK=>?_) (fun j hj=>h5 _ ⟨by rw [hj,List.foldl_append,hg]; rfl,by omega,by rw [h4]; omega⟩)
 refine Hu (fun hc=>?_) (fun hc=>hK _ ?_)
 ·have h0:y.Slot.G3=column∧(y.Slot.Half=half∨y.Slot.Half=0):=by simpa using hc
  refine Gt (Q18 boxes y.Box) ?_
  cases hf:Qj boxes y.Box with
  | none=>exact Hu (fun h=>by cases h) (fun _=>hK _ (by unfold Gf1; rw [if_pos h0,hf]))
  | some b=>
   refine Hu (fun _=>?_) (fun h=>by cases h)
   have ht:H63 b=some (H95 b):=by unfold H63 H95; cases b.High <;> rfl
   have h3:Gf1 boxes column half n y=n+H95 b:=by unfold Gf1; rw [if_pos h0,hf]
   refine Gt ht (Qo ?_ (hK _ h3.symm))
   rw [← h3]
   omega
 ·have h0:¬ (y.Slot.G3=column∧(y.Slot.Half=half∨y.Slot.Half=0)):=by simpa using hc
  unfold Gf1; rw [if_neg h0]
def J3b (boxes:List Box) (l:List G1) (m:Nat) (c:G3):Prop:=c.Height≤0∨(Y4 boxes l m 1≤c.Height∧Y4 boxes l m 2≤c.Height)
theorem Yb9 {s:Gj} {boxes:List Box} {l:List G1} {m:Nat} {c:G3} (hc:s.Columns[m]? = some c) (hl:l.length≤1000000):Wp (H64 s boxes l (m:Int)) (fun r=>r=true ↔ J3b boxes l m c):=by
 unfold H64 J3b
 refine Yh rfl hc ?_
 by_cases h:c.Height≤0
 ·simp only [M4 h,Bool.not_true,cond_false,Bool.false_and,Bool.true_or]
  exact H4 (Gn (H4 (Gn (Gn ⟨fun _=>.inl h,fun _=>rfl⟩))))
 ·simp only [M5 h,Bool.not_false,cond_true,Bool.true_and,Bool.false_or]
  refine Gt (Q4d boxes l m 1 hl) ?_
  by_cases h1:Y4 boxes l m 1≤c.Height
  ·rw [M4 h1]
   simp only [cond_true,Bool.true_and]
   exact Gt (Q4d boxes l m 2 hl) (Gn ⟨fun e=>.inr ⟨h1,M2 e⟩,fun e=>M4 (e.elim (fun e=>(h e).elim) (·.2))⟩)
  ·rw [M5 h1]
   simp only [cond_false,Bool.false_and]
   exact H4 (Gn (Gn ⟨fun e=>(by cases e),fun e=>e.elim (fun e=>(h e).elim) (fun e=>(h1 e.1).elim)⟩))
theorem Y43 (l:List G1) (hl:l.length≤1000000):H19 l=some (l.map (·.Slot)):=by
 refine G60 ?_
 unfold H19
 refine Jo (fun pre s=>s=pre.map (·.Slot)) rfl (fun pre y post s nx e hs h0=>?_) (fun s hs=>Gn hs)
 subst hs
 have hp:pre.length+1≤l.length:=by rw [e]; simp
 exact Rj (G12 (by simp only [Mn,Mj]; omega) (by omega)) (h0 _ (by simp))
structure Re (s:Gj) (boxes:List Box) (l:List G1):Prop where
 each:∀ x∈l,∃ b,Qj boxes x.Box=some b∧G9a s x.Slot b.Size∧H78 x.Slot (l.map (·.Slot))
 sorted:l.Pairwise (fun a b=>a.Box < b.Box)
 apart:l.Pairwise (fun a b=>¬ Hfb b.Slot a.Slot)
 fits:∀ m c,s.Columns[m]? = some c→J3b boxes l m c
theorem Hdb {α:Type} {R:α→α→Prop} {l:List α} {x:α} (h:l.Pairwise R) (hx:∀ a∈l,R a x):(l++[x]).Pairwise R:=by
 rw [List.pairwise_append]
 refine⟨h,List.pairwise_singleton ..,fun a ha b hb=>?_⟩
 rw [Mq] at hb; subst hb
 exact hx a ha
theorem H12 {α:Type} {R:α→α→Prop} {pre post:List α} {y:α} (h:(pre++y::post).Pairwise R):∀ a∈pre,R a y:=fun a ha=>(List.pairwise_append.1 h).2.2 a ha y (List.mem_cons_self ..)
theorem Gec {s:Gj} {boxes:List Box} {l:List G1} (hr:Gc5 s=some true) (ht:∀ c∈s.Columns,c.Tiers≤1000000) (hl:l.length≤1000000):Wp (Z6 s boxes l) (fun r=>r=true ↔ Re s boxes l):=by
 unfold Z6
 refine Gt hr (Hu (fun h=>by cases h) (fun _=>?_))
 refine Gt (Y43 l hl) ?_
 refine Jo (fun pre _=>(∀ x∈pre,∃ b,Qj boxes x.Box=some b∧G9a s x.Slot b.Size∧H78 x.Slot (l.map (·.Slot)))∧pre.Pairwise (fun a b=>a.Box < b.Box)∧pre.Pairwise (fun a b=>¬ Hfb b.Slot a.Slot))
  ⟨fun x hx=>(Ma hx).elim,List.Pairwise.nil,List.Pairwise.nil⟩ (fun pre y post u nx e hI h4=>?_) (fun u hI=>?_)
 ·obtain⟨i1,i2,i3⟩:=hI
  have a8:pre.length < l.length:=by rw [e]; simp
  have hy:y∈l:=by rw [e]; simp
  have no:∀ {m:Option Bool},m=some false→¬ Re s boxes l→Wp m (fun r=>r=true ↔ Re s boxes l):=fun e h=>by subst e; exact Gn ⟨fun e=>(by cases e),fun e=>(h e).elim⟩
  refine Gt (Q18 boxes y.Box) ?_
  cases hf:Qj boxes y.Box with
  | none=>
   simp only [Bool.not_false,Bool.not_true,Bool.false_and,cond_false,Bool.true_or,cond_true]
   refine H4 (Gn (H4 (Gn (H4 (Gn (H4 (Gn (no rfl fun h=>?_))))))))
   obtain⟨b,hb,_⟩:=h.each y hy
   rw [hf] at hb; cases hb
  | some b=>
   simp only [Bool.not_true,Bool.not_false,Bool.true_and,Bool.false_or]
   -- the order
   have h7:Wp (bif decide (0 < (pre.length:Int)) then chk ((pre.length:Int) - 1) some else some 0) (fun v=>Wp (bif decide (0 < (pre.length:Int)) then Qm l v some else some default) (fun y20=>
     ((decide (0 < (pre.length:Int))&&decide (y.Box≤y20.Box))=true→¬ Re s boxes l)∧((decide (0 < (pre.length:Int))&&decide (y.Box≤y20.Box))=false→∀ a∈pre,a.Box < y.Box))):=by
    rcases List.eq_nil_or_concat pre with hp | ⟨pre',z,hp⟩
    ·subst hp
     simp only [List.length_nil]
     exact Gn (Gn ⟨fun h=>by simp at h,fun _ a ha=>(Ma ha).elim⟩)
    ·have h2:pre=pre'++[z]:=by simpa using hp
     have a9:pre.length=pre'.length+1:=by rw [h2]; simp
     have hd:decide (0 < (pre.length:Int))=true:=M4 (by omega)
     have hz:l[pre'.length]? = some z:=by rw [e,h2]; simp
     rw [hd]
     simp only [cond_true,Bool.true_and]
     refine Qo ⟨by omega,by omega⟩ (Gn (Yh (m:=pre'.length) (by omega) hz (Gn ⟨fun h hR=>?_,fun h a ha=>?_⟩)))
     ·have:=M2 h
      have hs:=hR.sorted
      rw [e] at hs
      have:=H12 hs z (by rw [h2]; simp)
      omega
     ·have b0:¬ y.Box≤z.Box:=M3 h
      rw [h2] at ha
      rcases Mo.1 ha with ha | ha
      ·have:=H12 (h2 ▸ i2:(pre'++z::[]).Pairwise _) a ha
       omega
      ·rw [Mq] at ha; subst ha; omega
   refine H4 (wp_mono h7 (fun v hv=>H4 (wp_mono hv (fun y20 a5=>?_))))
   obtain⟨n1,n2⟩:=a5
   generalize (decide (0 < (pre.length:Int))&&decide (y.Box≤y20.Box))=c at n1 n2
   cases c with
   | true=>
    simp only [Bool.not_true,cond_false,Bool.true_or,cond_true]
    exact H4 (Gn (H4 (Gn (no rfl (n1 rfl)))))
   | false=>
    simp only [Bool.not_false,cond_true,Bool.false_or]
    have h8:=n2 rfl
    refine H4 (wp_mono (Qc2 s y.Slot b.Size) (fun r21 a1=>?_))
    cases r21 with
    | false=>
     simp only [Bool.not_false,Bool.not_true,cond_false,Bool.true_or,cond_true]
     refine H4 (Gn (no rfl fun h=>?_))
     obtain⟨b',hb,hs,_⟩:=h.each y hy
     rw [hf] at hb; cases hb
     have:=a1.2 hs; cases this
    | true=>
     have h1:=a1.1 rfl
     simp only [Bool.not_true,Bool.not_false,cond_true,Bool.false_or]
     have h9 : -1000000≤y.Slot.Tier∧y.Slot.Tier≤1000000:=by
      obtain⟨m,c,_,hc,h3⟩:=h1.col
      have:=h1.tier
      have:=ht c (M9 hc)
      omega
     refine H4 (wp_mono (R32 y.Slot (l.map (·.Slot)) h9) (fun r22 a2=>?_))
     cases r22 with
     | false=>
      refine Hu (fun _=>no rfl fun h=>?_) (fun h=>by cases h)
      obtain⟨b',hb,_,hh⟩:=h.each y hy
      have:=a2.2 hh; cases this
     | true=>
      have a0:=a2.1 rfl
      refine Hu (fun h=>by cases h) (fun _=>?_)
      refine H4 (H87 (m:=pre.length) rfl (by rw [Mn]; omega) ?_)
      have a6:(l.map (·.Slot)).take pre.length=pre.map (·.Slot):=by rw [← List.map_take,e,List.take_left']; rfl
      rw [a6]
      refine Jo (fun pr _=>∀ a∈pr,¬ Hfb y.Slot a) (fun a ha=>(Ma ha).elim) (fun pr a pos u nx2 e2 h5 a4=>?_) (fun u h5=>h4 _ ⟨fun x hx=>?_,Hdb i2 h8,Hdb i3 (fun a ha=>h5 a.Slot (Mp.2 ⟨a,ha,rfl⟩))⟩)
      ·refine H4 (wp_mono (R31 y.Slot a) (fun r48 a3=>?_))
       refine Hu (fun h=>no rfl fun hR=>?_) (fun h=>a4 _ (fun a' h0=>?_))
       ·have hm:=a3.1 h
        have a7:a∈pre.map (·.Slot):=by rw [e2]; simp
        obtain⟨z,hz,rfl⟩:=Mp.1 a7
        have ha:=hR.apart
        rw [e] at ha
        exact H12 ha z hz hm
       ·rcases Mo.1 h0 with h0 | h0
        ·exact h5 a' h0
        ·rw [Mq] at h0; subst h0
         intro hm
         have:=a3.2 hm
         rw [this] at h; cases h
      ·rcases Mo.1 hx with hx | hx
       ·exact i1 x hx
       ·rw [Mq] at hx; subst hx
        exact⟨b,hf,h1,a0⟩
 ·obtain⟨i1,i2,i3⟩:=hI
  refine Jo (fun pre _=>∀ m c,m < pre.length→s.Columns[m]? = some c→J3b boxes l m c) (fun m c h=>(Nat.not_lt_zero m h).elim) (fun pre y post u nx e hI h4=>?_) (fun u hI=>Gn ⟨fun _=>⟨i1,i2,i3,fun m c hc=>hI m c (M6 hc).1 hc⟩,fun _=>rfl⟩)
  have hc:s.Columns[pre.length]? = some y:=by rw [e]; simp
  refine H4 (wp_mono (Yb9 hc hl) (fun r hr=>?_))
  cases r with
  | false=>exact Hu (fun _=>Gn ⟨fun e=>(by cases e),fun h=>by have:=hr.2 (h.fits _ _ hc); cases this⟩) (fun h=>by cases h)
  | true=>
   refine Hu (fun h=>by cases h) (fun _=>h4 _ (fun m c hm h6=>?_))
   rw [Mi,Mj] at hm
   rcases Kz m pre.length with h | h
   ·exact hI m c h h6
   ·have:m=pre.length:=by omega
    subst this
    rw [hc] at h6; cases h6
    exact hr.1 rfl
section maps
variable {κ ν:Type} [DecidableEq κ]
theorem Qf4 (a:κ):Ha.has (Ha.empty:Ha κ ν) a=false:=rfl
theorem R80 (m:Ha κ ν) (a b:κ) (v:ν):Ha.has (Ha.put m a v) b=(decide (a=b)||Ha.has m b):=by
 unfold Ha.has Ha.put
 have h:=Hc9 (l:=H06 m.l a v) (a:=b)
 have h2:=Hc9 (l:=m.l) (a:=b)
 rw [← h,Heb]
 by_cases e:a=b
 ·simp [e]
 ·simp [e,h2]
end maps
theorem Q6c {α:Type} {l:List α} {wanted:α→Option Bool} {p:α→Bool} (hw:∀ x∈l,wanted x=some (p x)) (hl:l.length≤1000000) :
  each (fun y i (s:List Int) nx=>jp (fun kj=>bnd (wanted y) fun r=>bif r then (need (decide ((s.length+[(i:Int)].length)*8≤140737488355328∧s.length+[(i:Int)].length≤maxLen)) <| kj (s++[(i:Int)])) else (kj s)) fun(j:List Int)=>nx j)
   (fun s=>some s) l 0 []=some (H15 p l):=by
 refine G60 ?_
 refine Jo (fun pre s=>s=H15 p pre) rfl (fun pre x post s nx e hs h0=>?_) (fun s hs=>Gn hs)
 subst hs
 have h1:pre.length+1≤l.length:=by rw [e]; simp
 refine G00 (fun j=>j=H15 p (pre++[x])) (fun K hK=>?_) (fun j hj=>h0 _ hj)
 refine Gt (hw x (by rw [e]; simp)) (Hu (fun h=>Rj ?_ (hK _ ?_)) (fun h=>hK _ ?_))
 ·have:=Q68 p pre
  exact G12 (by rw [Mj]; omega) (by omega)
 ·rw [J83,h]; rfl
 ·rw [J83,h]; simp
theorem Ycc {α:Type} (p:α→Bool) (x:α) (l:List α):H15 p (x::l)=(if p x then [0] else [])++(H15 p l).map (·+1):=by
 unfold H15
 rw [List.zipIdx_cons',List.filter_cons]
 have h:(((l.zipIdx.map (Prod.map id (fun n:Nat=>n+1))).filter (fun y:α×Nat=>p y.1)).map (fun y:α×Nat=>(y.2:Int)))=((l.zipIdx.filter (fun y:α×Nat=>p y.1)).map (fun y:α×Nat=>(y.2:Int))).map (·+1):=by
  rw [List.filter_map,List.map_map,List.map_map]
  rfl
 by_cases hx:p x=true
 ·rw [if_pos (show p (x,0).fst=true from hx),if_pos hx,List.map_cons]
  exact congrArg (List.cons _) h
 ·rw [if_neg (show ¬ p (x,0).fst=true from hx),if_neg hx,List.nil_append]
  exact h
theorem Ycb {α:Type} (p:α→Bool) (l:List α):(H15 p l).head? = match l.findIdx? p with
  | some j=>some (j:Int)
  | none=>none:=by
 induction l with
 | nil=>rfl
 | cons x l ih=>
  rw [Ycc,List.findIdx?_cons]
  by_cases hx:p x
  ·simp [hx]
  ·simp only [hx,if_false,Bool.false_eq_true,List.nil_append,List.head?_map,ih]
   cases l.findIdx? p <;> simp
theorem Z0e {α:Type} (p:α→Bool) (l:List α):decide (0 < ((H15 p l).length:Int))=l.any p:=by
 by_cases h:∀ x∈l,p x=false
 ·rw [Jf0.2 h]
  refine Eq.symm (List.any_eq_false.2 fun x hx=>?_)
  rw [h x hx]; exact Bool.false_ne_true
 ·have h1:H15 p l≠[]:=fun e=>h (Jf0.1 e)
  have h2:=List.length_pos_iff.2 h1
  rw [M4 (by omega)]
  refine Eq.symm (List.any_eq_true.2 ?_)
  refine Classical.byContradiction fun hn=>h fun x hx=>?_
  cases hc:p x with
  | false=>rfl
  | true=>exact(hn ⟨x,hx,hc⟩).elim
def Hf4 (x:G9) (c:G3):Bool:=decide (x.Bay=c.Bay)&&x.Rows.any (fun r=>decide (r=c.Row))
theorem Rce (x:G9) (c:G3) (hl:x.Rows.length≤1000000):Ge1 x c=some (Hf4 x c):=by
 unfold Ge1 Hf4
 by_cases h:x.Bay=c.Bay
 ·have hc:G50 x.Rows (fun z0=>G88 z0 c)=some (H15 (fun r=>decide (r=c.Row)) x.Rows):=by
   unfold G50
   exact Q6c (fun x _=>rfl) hl
  rw [M4 h]
  simp only [cond_true,Bool.true_and]
  rw [hc,Ha5,Z0e]
 ·rw [M5 h]
  rfl
def Jy (s:Gj) (c:G3):Int:=J60 (fun x=>Hf4 x c) s.Covers
theorem H0f {s:Gj} {m:Nat} {c:G3} (hc:s.Columns[m]? = some c) (hr:∀ x∈s.Covers,x.Rows.length≤1000000) (hl:s.Covers.length≤1000000):Rh s (m:Int)=some (Jy s c):=by
 have hm:=(M6 hc).1
 refine G60 ?_
 unfold Rh
 refine Hu (fun h=>?_) (fun _=>?_)
 ·simp only [Mt,Mm] at h
  omega
 have h1:Zp s.Covers (fun z0=>G34 z0 s (m:Int))=some (H15 (fun x=>Hf4 x c) s.Covers):=by
  unfold Zp
  refine Q6c (fun x hx=>G60 ?_) hl
  unfold G34
  exact Yh rfl hc (Gt (Rce x c (hr x hx)) (Gn rfl))
 refine Gt h1 ?_
 have hh:=Ycb (fun x=>Hf4 x c) s.Covers
 unfold Jy J60
 cases hf:s.Covers.findIdx? (fun x=>Hf4 x c) with
 | none=>
  rw [hf] at hh
  have h0:H15 (fun x=>Hf4 x c) s.Covers=[]:=List.head?_eq_none_iff.1 hh
  rw [h0]
  exact Gn rfl
 | some j=>
  rw [hf] at hh
  cases hi:H15 (fun x=>Hf4 x c) s.Covers with
  | nil=>rw [hi] at hh; cases hh
  | cons z r=>
   rw [hi] at hh
   simp only [List.head?_cons,Option.some.injEq] at hh
   subst hh
   refine Hu (fun h=>?_) (fun _=>Yh (m:=0) rfl rfl (Gn rfl))
   have:=M2 h
   simp only [Me] at this
   omega
def abB (k:Int) (b:Box):Bool:=decide (b.Load≤k)&&decide (k < b.Discharge)
def Za (l:List G1) (id:Int):Slot×Bool:=match Qe8 l id with
 | some x=>(x.Slot,true)
 | none=>(⟨0,0,0⟩,false)
structure Small (s:Gj):Prop where
 right:Gc5 s=some true
 cols:1≤s.Columns.length∧s.Columns.length≤40
 tiers:∀ c∈s.Columns,c.Tiers≤100
 covs:s.Covers.length≤1000
 rows:∀ x∈s.Covers,x.Rows.length≤1000
def Hd3 (s:Gj) (x:Slot):Prop:=∃ (m:Nat) (c:G3),x.G3=(m:Int)∧s.Columns[m]? = some c
structure Ge4 (U:List Int) (m:Ha Int Unit) (l:List Int):Prop where
 nodup:l.Nodup
 sub:∀ a∈l,a∈U
 has:∀ a,Ha.has m a=decide (a∈l)
theorem Ge4.le {U:List Int} {m:Ha Int Unit} {l:List Int} (h:Ge4 U m l):l.length≤U.length:=h.nodup.length_le_of_subset (fun a ha=>h.sub a ha)
theorem Ge4.start {U:List Int}:Ge4 U (Ha.empty:Ha Int Unit) []:=⟨List.nodup_nil,fun a ha=>(Ma ha).elim,fun a=>by simp [Qf4]⟩
theorem Ge4.snoc {U:List Int} {m:Ha Int Unit} {l:List Int} (h:Ge4 U m l) {id:Int} (h1:id ∉ l) (h2:id∈U):Ge4 U (Ha.put m id ()) (l++[id]):=by
 refine⟨?_,fun a ha=>?_,fun a=>?_⟩
 ·rw [List.nodup_append]
  refine⟨h.nodup,by simp,fun a ha b hb=>?_⟩
  rw [Mq] at hb; subst hb
  intro e; subst e; exact h1 ha
 ·rcases Mo.1 ha with ha | ha
  ·exact h.sub a ha
  ·rw [Mq] at ha; subst ha; exact h2
 ·rw [R80,h.has,Bool.eq_iff_iff]
  simp only [Mt,Mm,Mo,Mq]
  exact⟨fun h=>h.elim (fun e=>.inr e.symm) .inl,fun h=>h.elim .inr (fun e=>.inl e.symm)⟩
theorem Yk {l:List Int} (h:l.Pairwise (· < ·)):l.Nodup:=h.imp (fun h=>by omega)
theorem Small.tier {s:Gj} (h:Small s):∀ c∈s.Columns,c.Tiers≤1000000:=fun c hc=>by have:=h.tiers c hc; omega
theorem Ged {s:Gj} {x:Slot} {size:Int} (h:G9a s x size):Hd3 s x:=by
 obtain⟨m,c,h1,h2,_⟩:=h.col
 exact⟨m,c,h1,h2⟩
theorem Jbd {s:Gj} {boxes:List Box}:Re s boxes []:=⟨fun x hx=>(Ma hx).elim,List.Pairwise.nil,List.Pairwise.nil,fun m c _=>by
 unfold J3b Y4
 simp only [List.foldl_nil]
 omega⟩
theorem G7e {a b:List Int} (ha:a.Pairwise (· < ·)) (hb:b.Pairwise (· < ·)) (h:∀ x,x∈a ↔ x∈b):a=b:=
 List.Perm.eq_of_pairwise (le:=fun x y:Int=>x < y) (fun x y _ _ h1 h2=>by omega) ha hb ((List.perm_ext_iff_of_nodup (Yk ha) (Yk hb)).2 h)
structure J68 (s:Gj) (boxes:List Box) (k:Int) (l:List G1):Prop where
 right:Re s boxes l
 mem:∀ x∈l,∃ b∈boxes,b.ID=x.Box∧abB k b=true
theorem J68.nil {s:Gj} {boxes:List Box} {k:Int}:J68 s boxes k []:=⟨Jbd,fun x hx=>(Ma hx).elim⟩
def upon (s:Gj) (x y:Slot):Prop:=∃ (m:Nat) (c:G3) (m1:Nat) (c1:G3),x.G3=(m:Int)∧s.Columns[m]? = some c∧y.G3=(m1:Int)∧s.Columns[m1]? = some c1∧c.Deck=false∧c1.Deck=true∧0≤Jy s c∧Jy s c1=Jy s c
def R87 (s:Gj) (states:List (List G1)) (st:List G1) (a b:Int):Prop:=
 (Za st a).2=true∧((∃ y∈st,y.Box=b∧H62 y.Slot (Za st a).1)∨∃ st2∈states,∃ y∈st2,y.Box=b∧upon s (Za st a).1 y.Slot)
def Gdb (s:Gj) (states:List (List G1)) (a b:Int):Prop:=∃ st∈states,R87 s states st a b
structure Grown (s:Gj) (U:List Int) (states:List (List G1)) (l:List Int) (id:Int) (m:Ha Int Unit) (l':List Int):Prop where
 inv:Ge4 U m l'
 sub:∀ a∈l,a∈l'
 has:id∈l'
 closed:∀ a∈l',a ∉ l→∀ b,Gdb s states a b→b∈l'
 least:∀ C:Int→Prop,(∀ a b,C a→Gdb s states a b→C b)→(∀ a∈l,C a)→C id→∀ a∈l',C a
structure Rch (s:Gj) (U:List Int) (states:List (List G1)) (l:List Int) (id:Int) (m:Ha Int Unit) (l':List Int):Prop where
 inv:Ge4 U m l'
 sub:∀ a∈l++[id],a∈l'
 closed:∀ a∈l',a ∉ l→a≠id→∀ b,Gdb s states a b→b∈l'
 least:∀ C:Int→Prop,(∀ a b,C a→Gdb s states a b→C b)→(∀ a∈l,C a)→C id→∀ a∈l',C a
section
variable {s:Gj} {U:List Int} {states:List (List G1)} {l l' l2:List Int} {id y:Int} {m m2:Ha Int Unit}
theorem Rch.start (h:Ge4 U m (l++[id])):Rch s U states l id m (l++[id]):=
 ⟨h,fun a ha=>ha,fun a ha h1 h2=>by
  rcases Mo.1 ha with ha | ha
  ·exact(h1 ha).elim
  ·exact(h2 (Mq.1 ha)).elim,fun C _ hl hid a ha=>by
  rcases Mo.1 ha with ha | ha
  ·exact hl a ha
  ·exact Mq.1 ha ▸ hid⟩
theorem Rch.step (h:Rch s U states l id m l') (hp:Gdb s states id y) (g:Grown s U states l' y m2 l2):Rch s U states l id m2 l2∧(∀ a∈l',a∈l2)∧y∈l2:=
 ⟨⟨g.inv,fun a ha=>g.sub a (h.sub a ha),fun a ha h1 h2 b hb=>by
  by_cases h0:a∈l'
  ·exact g.sub b (h.closed a h0 h1 h2 b hb)
  ·exact g.closed a ha h0 b hb,fun C hc hl hid=>g.least C hc (h.least C hc hl hid) (hc id y hid hp)⟩,g.sub,g.has⟩
end
structure J70 (s:Gj) (bf af:List G1) (l:List Int):Prop where
 seeds:∀ st∈[bf,af],∀ y∈st,Za bf y.Box≠Za af y.Box→y.Box∈l
 closed:∀ a∈l,∀ b,Gdb s [bf,af] a b→b∈l
 least:∀ C:Int→Prop,(∀ a b,C a→Gdb s [bf,af] a b→C b)→(∀ st∈[bf,af],∀ y∈st,Za bf y.Box≠Za af y.Box→C y.Box)→∀ a∈l,C a
section lf
variable {s:Gj} {bf af:List G1}
end lf
instance (a b:Slot):Decidable (H62 a b):=by unfold H62 H4a; infer_instance
def H5a (l:List G1) (x:Slot):List Int:=(l.filter (fun y=>decide (H62 y.Slot x))).map (·.Box)
theorem Gfc {l:List G1} {x:Slot} {b:Int}:b∈H5a l x ↔ ∃ y∈l,y.Box=b∧H62 y.Slot x:=by
 unfold H5a
 rw [Mp]
 constructor
 ·rintro⟨y,hy,e⟩
  rw [Ms,Mm] at hy
  exact⟨y,hy.1,e,hy.2⟩
 ·rintro⟨y,hy,e,h⟩
  exact⟨y,Ms.2 ⟨hy,M4 h⟩,e⟩
theorem Hcb {l:List G1} (h:l.Pairwise (fun a b=>a.Box < b.Box)) {x y:G1} (hx:x∈l) (hy:y∈l) (e:x.Box=y.Box):x=y:=by
 obtain⟨i,hi,rfl⟩:=List.mem_iff_getElem.1 hx
 obtain⟨j,hj,rfl⟩:=List.mem_iff_getElem.1 hy
 have hp:=List.pairwise_iff_getElem.1 h
 rcases Nat.lt_trichotomy i j with g | g | g
 ·have:=hp i j hi hj g; omega
 ·subst g; rfl
 ·have:=hp j i hj hi g; omega
def Byte (z:Int):Prop:=0≤z∧z≤255
structure Q88 (p:H9):Prop where
 bay:Byte p.Bay
 row:Byte p.Row
 tiers:Byte p.Tiers
structure Ya8 (c:G3):Prop where
 bay:0≤c.Bay∧c.Bay≤4
 row:0≤c.Row∧c.Row≤4
 tiers:2≤c.Tiers∧c.Tiers≤5
 height:c.Height=0
 k20:c.Kilos20=500000000
 k40:c.Kilos40=500000000
 lash:c.Lash=0
 plugs:c.Plugs=[]
 x : -26000≤c.X∧c.X≤26000
 y : -5000≤c.Y∧c.Y≤5000
 z:0≤c.Z∧c.Z≤20000
def Y69 (c:G3):Int×Int×Bool:=(c.Bay,c.Row,c.Deck)
def H4f (bay row:Int) (deck:Bool) (c:G3):Bool:=((decide (c.Bay=bay))&&(decide (c.Row=row)))&&(c.Deck==deck)
theorem Reb {bay row:Int} {deck:Bool} {c:G3}:H4f bay row deck c=true ↔ Y69 c=(bay,row,deck):=by
 simp [H4f,Y69,and_assoc]
structure R5b (x:G9):Prop where
 bay:0≤x.Bay∧x.Bay≤4
 rows:x.Rows=[0,1]∨x.Rows=[2,3,4]
def R91 (x:G9):Int×Bool:=(x.Bay,decide (x.Rows=[0,1]))
structure Z2e (l:List G3):Prop where
 len:l.length≤12
 each:∀ c∈l,Ya8 c
 nodup:(l.map Y69).Nodup
structure Z2d (l:List G9):Prop where
 len:l.length≤10
 each:∀ x∈l,R5b x
 nodup:(l.map R91).Nodup
structure Hd4 (s:Gj):Prop where
 some:1≤s.Columns.length
 cols:Z2e s.Columns
 covs:Z2d s.Covers
theorem Qef {l:List G3} {wanted:G3→Option Bool} {p:G3→Bool} (hw:∀ x∈l,wanted x=some (p x)) (hl:l.length≤1000000):Zh l wanted=some (H15 p l):=by
 refine G60 ?_
 unfold Zh
 refine Jo (fun pre s=>s=H15 p pre) rfl (fun pre x post s nx e hs h0=>?_) (fun s hs=>Gn hs)
 subst hs
 have h1:pre.length+1≤l.length:=by rw [e]; simp
 refine G00 (fun j=>j=H15 p (pre++[x])) (fun K hK=>?_) (fun j hj=>h0 _ hj)
 refine Gt (hw x (by rw [e]; simp)) (Hu (fun h=>Rj ?_ (hK _ ?_)) (fun h=>hK _ ?_))
 ·have:=Q68 p pre
  exact G12 (by rw [Mj]; omega) (by omega)
 ·rw [J83,h]; rfl
 ·rw [J83,h]; simp
theorem Yce {s:Gj} {bay row:Int} {deck:Bool} (hl:s.Columns.length≤1000000):Wp (H66 s bay row deck) (fun r=>r.2=s.Columns.any (H4f bay row deck)):=by
 unfold H66
 refine Gt (Qef (p:=H4f bay row deck) (fun x _=>rfl) hl) (Hu (fun h=>Gn ?_) (fun h=>?_))
 ·have h0:H15 (H4f bay row deck) s.Columns=[]:=by
   have:=M2 h
   exact List.length_eq_zero_iff.1 (by omega)
  refine Eq.symm (List.any_eq_false.2 (fun x hx=>?_))
  rw [Jf0.1 h0 x hx]; exact Bool.false_ne_true
 ·have h0:H15 (H4f bay row deck) s.Columns≠[]:=by
   have:=M3 h
   intro e; rw [e] at this; exact this rfl
  have h1:∃ z,(H15 (H4f bay row deck) s.Columns)[0]? = some z:=by
   cases hh:H15 (H4f bay row deck) s.Columns with
   | nil=>exact(h0 hh).elim
   | cons z r=>exact⟨z,rfl⟩
  obtain⟨z,hz⟩:=h1
  refine Yh (m:=0) rfl hz (Gn ?_)
  refine Eq.symm ?_
  have:¬ ∀ x∈s.Columns,H4f bay row deck x=false:=fun h=>h0 (Jf0.2 h)
  rw [List.any_eq_true]
  refine Classical.byContradiction fun hn=>this fun x hx=>?_
  cases hc:H4f bay row deck x with
  | false=>rfl
  | true=>exact(hn ⟨x,hx,hc⟩).elim
theorem Y6a (l:List H9) (covers:Int) (hp:∀ p∈l,Q88 p):Wp (Zo l covers) Hd4:=by
 unfold Zo
 refine H4 (H87 (m:=min l.length 12) (by omega) (by omega) ?_)
 have h4:(l.take (min l.length 12)).length≤12:=by rw [List.length_take]; omega
 refine Jo (fun pre s=>∃ cols,s=(cols,[],0,0,0,0,[],[],[],0,0,0,0)∧cols.length≤pre.length∧(∀ c∈cols,Ya8 c)∧(cols.map Y69).Nodup)
  ⟨[],rfl,Mb,fun c hc=>(Ma hc).elim,List.nodup_nil⟩ (fun pre y post s nx e hs h5=>?_) (fun s hs=>?_)
 ·obtain⟨cols,rfl,h1,h2,h3⟩:=hs
  have h6:pre.length+1≤12:=by rw [e] at h4; simp at h4; omega
  have hy:Q88 y:=hp y (List.mem_of_mem_take (by rw [e]; simp:y∈l.take (min l.length 12)))
  obtain⟨⟨b1,b2⟩,⟨r1,r2⟩,⟨t1,t2⟩⟩:=hy
  refine G00 (fun j=>j.length≤(pre++[y]).length∧(∀ c∈j,Ya8 c)∧(j.map Y69).Nodup) (fun K hK=>?_) (fun j hj=>h5 _ ⟨j,rfl,hj⟩)
  refine Qo ⟨by omega,by omega⟩ (H4 (J05 (by omega) ?_))
  refine Qo ⟨by omega,by omega⟩ (H4 (J05 (by omega) ?_))
  refine Qo ⟨by omega,by omega⟩ (H4 (J05 (by omega) ?_))
  have e1:y.Bay.tmod 5=y.Bay % 5:=Int.tmod_eq_emod_of_nonneg b1
  have e2:y.Row.tmod 5=y.Row % 5:=Int.tmod_eq_emod_of_nonneg r1
  have e3:y.Tiers.tmod 4=y.Tiers % 4:=Int.tmod_eq_emod_of_nonneg t1
  rw [e1,e2,e3]
  refine Qo ⟨by omega,by omega⟩ (Qo ⟨by omega,by omega⟩ (Qo ⟨by omega,by omega⟩ (Qo ⟨by omega,by omega⟩ (Qo ⟨by omega,by omega⟩ ?_))))
  refine G00 (fun z:Int=>0≤z∧z≤20000) (fun K' h0=>Hu (fun _=>h0 _ ⟨by omega,by omega⟩) (fun _=>h0 _ ⟨by omega,by omega⟩)) (fun z hz=>?_)
  have hl:cols.length≤1000000:=by omega
  refine H4 (wp_mono (Yce hl) (fun r hr=>?_))
  refine Hu (fun h=>Rj ?_ (hK _ ⟨?_,?_,?_⟩)) (fun h=>hK _ ⟨?_,h2,h3⟩)
  ·exact G12 (by rw [Mj]; show cols.length+1≤_; omega) (by omega)
  ·simp only [Mi,Mj]; omega
  ·intro c hc
   rcases Mo.1 hc with hc | hc
   ·exact h2 c hc
   ·rw [Mq] at hc; subst hc
    exact⟨⟨by simp only; omega,by simp only; omega⟩,⟨by simp only; omega,by simp only; omega⟩,⟨by simp only; omega,by simp only; omega⟩,rfl,rfl,rfl,rfl,rfl,⟨by simp only; omega,by simp only; omega⟩,⟨by simp only; omega,by simp only; omega⟩,hz⟩
  ·rw [List.map_append,List.nodup_append]
   refine⟨h3,by simp,fun a ha b hb=>?_⟩
   simp only [List.map_cons,List.map_nil,Mq] at hb
   subst hb
   obtain⟨c,hc,rfl⟩:=Mp.1 ha
   intro he
   have hf:r.2=false:=by simpa using h
   rw [hf] at hr
   have:=List.any_eq_false.1 hr.symm c hc
   exact this (Reb.2 he)
  ·simp only [Mi,Mj]; omega
 ·obtain⟨cols,rfl,h1,h2,h3⟩:=hs
  have h1:cols.length≤12:=Nat.le_trans h1 h4
  refine G00 (fun j=>1≤j.length∧Z2e j) (fun K hK=>Hu (fun h=>hK _ ⟨Mb,?_⟩) (fun h=>hK _ ⟨?_,⟨h1,h2,h3⟩⟩)) (fun cols' hc=>?_)
  ·refine⟨by simp,fun c hc=>?_,by simp⟩
   rw [Mq] at hc; subst hc
   exact⟨by simp,by simp,by simp,rfl,rfl,rfl,rfl,rfl,by simp,by simp,by simp⟩
  ·have:¬ ((cols.length:Int)=0):=M3 h
   show 1≤cols.length
   omega
  refine Rj (by decide) ?_
  have e5:(5:Int).toNat=5:=rfl
  rw [e5]
  refine J04 (fun i s=>∃ covs,s=(cols',covs,0,0,0,0,[],[],[],0,0,0,0)∧covs.length≤2*i∧(∀ x∈covs,R5b x∧x.Bay < i)∧(covs.map R91).Nodup)
   ⟨[],rfl,Nat.zero_le _,fun c hc=>(Ma hc).elim,List.nodup_nil⟩ (fun i s nx hi hs h5=>?_) (fun s hs=>?_)
  ·obtain⟨covs,rfl,g1,g2,g3⟩:=hs
   refine G00 (fun j:List G9=>j.length≤2*(i+1)∧(∀ x∈j,R5b x∧x.Bay < (i+1:Nat))∧(j.map R91).Nodup) (fun K hK=>?_) (fun j hj=>h5 _ ⟨j,rfl,hj⟩)
   refine G00 (fun j:List G9=>j.length≤2*i+1∧(∀ x∈j,R5b x∧(x.Bay < i∨x=⟨i,[0,1]⟩))∧(j.map R91).Nodup) (fun K' h0=>?_) (fun j hj=>?_)
   ·refine Qo ⟨by omega,by omega⟩ (H4 (H87 (m:=2*i) (by omega) (by omega) ?_))
    refine Hu (fun h=>Rj ?_ (h0 _ ⟨?_,?_,?_⟩)) (fun h=>h0 _ ⟨(by show covs.length≤_; omega),fun x hx=>⟨(g2 x hx).1,.inl (g2 x hx).2⟩,g3⟩)
    ·exact G12 (by rw [Mj]; show covs.length+1≤_; omega) (by omega)
    ·simp only [Mi,Mj]; omega
    ·intro x hx
     rcases Mo.1 hx with hx | hx
     ·exact⟨(g2 x hx).1,.inl (g2 x hx).2⟩
     ·rw [Mq] at hx; subst hx
      exact⟨⟨⟨by simp only; omega,by simp only; omega⟩,.inl rfl⟩,.inr rfl⟩
    ·rw [List.map_append,List.nodup_append]
     refine⟨g3,by simp,fun a ha b hb=>?_⟩
     simp only [List.map_cons,List.map_nil,Mq] at hb
     subst hb
     obtain⟨c,hc,rfl⟩:=Mp.1 ha
     intro he
     have:=(g2 c hc).2
     have e2:c.Bay=i:=congrArg Prod.fst he
     omega
   ·obtain⟨q1,q2,q3⟩:=hj
    refine Qo ⟨by omega,by omega⟩ (Qo ⟨by omega,by omega⟩ (H4 (H87 (m:=2*i+1) (by omega) (by omega) ?_)))
    refine Hu (fun h=>Rj ?_ (hK _ ⟨?_,?_,?_⟩)) (fun h=>hK _ ⟨by omega,fun x hx=>⟨(q2 x hx).1,?_⟩,q3⟩)
    ·exact G12 (by rw [Mj]; omega) (by omega)
    ·simp only [Mi,Mj]; omega
    ·intro x hx
     rcases Mo.1 hx with hx | hx
     ·refine⟨(q2 x hx).1,?_⟩
      rcases (q2 x hx).2 with h | h
      ·omega
      ·rw [h]; simp only; omega
     ·rw [Mq] at hx; subst hx
      exact⟨⟨⟨by simp only; omega,by simp only; omega⟩,.inr rfl⟩,by simp only; omega⟩
    ·rw [List.map_append,List.nodup_append]
     refine⟨q3,by simp,fun a ha b hb=>?_⟩
     simp only [List.map_cons,List.map_nil,Mq] at hb
     subst hb
     obtain⟨c,hc,rfl⟩:=Mp.1 ha
     intro he
     rcases (q2 c hc).2 with h | h
     ·have e2:c.Bay=i:=congrArg Prod.fst he
      omega
     ·rw [h] at he
      have e2:=congrArg Prod.snd he
      simp [R91] at e2
    ·rcases (q2 x hx).2 with h | h
     ·omega
     ·rw [h]; simp only; omega
  ·obtain⟨covs,rfl,g1,g2,g3⟩:=hs
   exact Gn ⟨hc.1,hc.2,⟨g1,fun x hx=>(g2 x hx).1,g3⟩⟩
/-! ### Ships whose columns are limited in height now and then -/
def ColL (c:G3):Prop:=∃ (c0:G3) (h:Int),Ya8 c0∧(h=0∨h=8000)∧c={ c0 with Height:=h }
structure Ja8 (s:Gj):Prop where
 some:1≤s.Columns.length
 len:s.Columns.length≤12
 each:∀ c∈s.Columns,ColL c
 nodup:(s.Columns.map Y69).Nodup
 covs:Z2d s.Covers
theorem Z58 {c:G3} (h:ColL c):Z72 c:=by
 obtain⟨c0,z,⟨h1,h2,h3,_,h5,h6,h7,h8,h9,h0,h4⟩,g1,rfl⟩:=h
 refine⟨fun p hp=>?_,?_,⟨by show (0:Int)≤c0.Bay; omega,by show c0.Bay≤39; omega,by show (0:Int)≤c0.Row; omega,by show c0.Row≤30; omega,by show 1≤c0.Tiers; omega,by show c0.Tiers≤10; omega,by show (0:Int)≤z; omega,by show z≤40000; omega⟩,⟨by show (0:Int)≤c0.Kilos20; omega,by show c0.Kilos20≤500000000; omega,by show (0:Int)≤c0.Kilos40; omega,by show c0.Kilos40≤500000000; omega,by show (0:Int)≤c0.Lash; omega,by show c0.Lash≤1000000000000; omega⟩,⟨by show -500000≤c0.X; omega,by show c0.X≤500000; omega,by show -500000≤c0.Y; omega,by show c0.Y≤500000; omega,by show -500000≤c0.Z; omega,by show c0.Z≤500000; omega⟩⟩
 ·have hp:p∈c0.Plugs:=hp
  rw [h8] at hp; cases hp
 ·show c0.Plugs.Pairwise _
  rw [h8]; exact List.Pairwise.nil
theorem Z0a {s:Gj} (h:Ja8 s):Jf8 s:=by
 obtain⟨h1,h2,h3,h4,⟨h5,h6,h7⟩⟩:=h
 refine⟨⟨h1,by omega,by omega⟩,fun c hc=>Z58 (h3 c hc),fun x hx=>?_,?_⟩
 ·obtain⟨⟨b1,b2⟩,hr⟩:=h6 x hx
  rcases hr with h | h <;> refine⟨⟨b1,by omega⟩,by rw [h]; simp,by rw [h]; simp,by rw [h]; simp⟩
 ·refine List.nodup_append.2 ⟨?_,?_,?_⟩
  ·have a0:=List.pairwise_map.1 h4
   refine List.pairwise_map.2 (a0.imp (fun {a b} h0 e=>h0 ?_))
   simp only [k3,Hg.mk.injEq] at e
   obtain⟨e1,e2,e3⟩:=e
   have e4:a.Deck=b.Deck:=by
    revert e3
    cases a.Deck <;> cases b.Deck <;> simp [dk]
   simp only [Y69,e1,e2,e4]
  ·refine List.pairwise_flatMap.2 ⟨fun x hx=>?_,?_⟩
   ·refine List.pairwise_map.2 ?_
    rcases (h6 x hx).rows with h | h <;> rw [h] <;> simp
   ·have a1:=List.pairwise_map.1 h7
    have h9:s.Covers.Pairwise (fun a b=>R91 a≠R91 b∧R5b a∧R5b b):=
     List.pairwise_iff_getElem.2 (fun i j hi hj a2=>⟨List.pairwise_iff_getElem.1 a1 i j hi hj a2,h6 _ (List.getElem_mem hi),h6 _ (List.getElem_mem hj)⟩)
    refine h9.imp (fun {a b} h0 p hp q hq e=>?_)
    obtain⟨a3,ha,hb⟩:=h0
    obtain⟨r,hr,rfl⟩:=Mp.1 hp
    obtain⟨r',h8,rfl⟩:=Mp.1 hq
    simp only [Hg.mk.injEq] at e
    obtain⟨e1,e2,_⟩:=e
    subst e2
    apply a3
    rcases ha.rows with h | h <;> rcases hb.rows with h' | h' <;> rw [h] at hr <;> rw [h'] at h8 <;> simp [R91,e1,h,h'] at hr h8 ⊢ <;> omega
  ·intro a ha b hb e
   obtain⟨c,_,rfl⟩:=Mp.1 ha
   obtain⟨x,_,hx⟩:=List.mem_flatMap.1 hb
   obtain⟨r,_,rfl⟩:=Mp.1 hx
   simp only [k3,Hg.mk.injEq] at e
   have:=e.2.2
   revert this
   cases c.Deck <;> simp [dk]
theorem J80 {s:Gj} (h:Ja8 s):Small s:=by
 have h0:∀ c∈s.Columns,c.Plugs.length=0∧c.Tiers≤100:=fun c hc=>by
  obtain⟨c0,z,h2,_,rfl⟩:=h.each c hc
  have:=h2.tiers
  exact⟨by show c0.Plugs.length=0; rw [h2.plugs]; rfl,by show c0.Tiers≤100; omega⟩
 have h1:∀ x∈s.Covers,x.Rows.length≤1000:=fun x hx=>by
  rcases (h.covs.each x hx).rows with e | e <;> rw [e] <;> simp
 refine⟨G60 (wp_mono (Qc4 s (fun c hc=>by have:=(h0 c hc).1; omega) (fun x hx=>by have:=h1 x hx; omega)) (fun r hr=>hr.2 (Z0a h))),⟨h.some,by have:=h.len; omega⟩,fun c hc=>(h0 c hc).2,by have:=h.covs.len; omega,h1⟩
theorem Y4a {s:Gj} (hs:Small s) (size:Int):Wp (H18 s size) (fun r=>r.length≤200*s.Columns.length∧∀ x∈r,G9a s x size):=by
 unfold H18
 have h6:(Hca size).length≤2:=by
  unfold Hca
  split
  ·simp
  ·split <;> simp
 refine Jo (fun pre r=>r.length≤200*pre.length∧∀ x∈r,G9a s x size) ⟨by simp,fun x hx=>(Ma hx).elim⟩ (fun pre c post r nx e hI h5=>?_) (fun r hI=>Gn hI)
 obtain⟨h1,h2⟩:=hI
 have hc:s.Columns[pre.length]? = some c:=by rw [e]; simp
 have ht:=hs.tiers c (M9 hc)
 refine Rj (M4 (by omega)) ?_
 have h7:(max c.Tiers 0).toNat≤100:=by omega
 refine J04 (fun i r'=>r'.length≤r.length+2*i∧∀ x∈r',G9a s x size) ⟨by simp,h2⟩ (fun i r' nx2 hi hI h3=>?_) (fun r' hI=>h5 _ ⟨?_,hI.2⟩)
 ·refine Gt (Q55 size) ?_
  refine Jo (fun pr r2=>r2.length=r'.length+pr.length∧∀ x∈r2,G9a s x size) ⟨by simp,hI.2⟩ (fun pr h post2 r2 nx3 e2 h0 h4=>h4 _ ⟨?_,fun x hx=>?_⟩) (fun r2 h0=>h3 _ ⟨by have:=hI.1; have:=h0.1; omega,h0.2⟩)
  ·simp only [Mi,Mj]; have:=h0.1; omega
  ·rcases Mo.1 hx with hx | hx
   ·exact h0.2 x hx
   ·rw [Mq] at hx; subst hx
    exact⟨⟨pre.length,c,rfl,hc,by show (i:Int) < c.Tiers; omega⟩,by show (0:Int)≤i; omega,by show h∈Hca size; rw [e2]; simp⟩
 ·have:=hI.1
  simp only [Mi,Mj]; omega
theorem Yf9 {s:Gj} (hs:Small s) (size:Int):Wp (Haa s size) (fun r=>r.length≤200*s.Columns.length∧∀ x∈r,G9a s x size):=by
 unfold Haa
 refine Gt (show H80 s size=some () from rfl) ?_
 refine H4 (wp_mono (Y4a hs size) (fun ys h0=>?_))
 have hc:=hs.cols
 refine Jo (fun pre r=>r=pre) rfl (fun pre y post r nx e hI h1=>?_) (fun r hI=>by subst hI; exact Gn h0)
 subst hI
 have hl:r.length < ys.length:=by rw [e]; simp
 exact Rj (G12 (by rw [Mj]; have:=h0.1; omega) (by omega)) (h1 _ rfl)
structure Sta (s:Gj) (boxes:List Box) (l:List G1):Prop where
 ship:Ja8 s
 right:Re s boxes l
 len:l.length≤10
theorem Sta.colIn {s:Gj} {boxes:List Box} {l:List G1} (h:Sta s boxes l) {x:G1} (hx:x∈l):Hd3 s x.Slot:=by
 obtain⟨b,_,h1,_⟩:=h.right.each x hx
 exact Ged h1
theorem wp_loop {β σ:Type} {Q:β→Prop} (I:σ→Prop) (μ:σ→Nat) {b:(σ→Option β)→σ→Option β} {F:Nat} {s:σ} (h0:I s) (hF:μ s < F)
    (hb:∀ s nx,I s→(∀ s',I s'→μ s' < μ s→Wp (nx s') Q)→Wp (b nx s) Q):Wp (loop b F s) Q:=by
  induction F generalizing s with
  | zero=>omega
  | succ F ih=>
    rw [loop]
    exact hb s _ h0 (fun s' h1 h2=>ih h1 (by omega))
structure Ga0 (s:Gj) (o:List Int):Prop where
  mem:∀ y∈o,0≤y∧y < (s.Covers.length:Int)
  sorted:o.Pairwise (· < ·)
theorem R3b {s:Gj}:Ga0 s []:=⟨fun y hy=>(Ma hy).elim,List.Pairwise.nil⟩
theorem Ga0.len {s:Gj} {o:List Int} (h:Ga0 s o):o.length≤s.Covers.length:=by
  have hn:o.Nodup:=Yk h.sorted
  have:=hn.length_le_of_subset (l₂:=(List.range s.Covers.length).map (fun n:Nat=>(n:Int))) (fun a ha=>by
    obtain⟨h1,h2⟩:=h.mem a ha
    exact Mp.2 ⟨a.toNat,List.mem_range.2 (by omega),by omega⟩)
  simpa using this
theorem Z96 {m:Option Bool} {p:Prop} [Decidable p] (h:Wp m (fun r=>r=true ↔ p)):m=some (decide p):=by
  obtain⟨r,hr,h⟩:=h
  rw [hr]
  congr 1
  cases r with
  | false=>exact(M5 (fun hp=>by have:=h.2 hp; cases this)).symm
  | true=>exact(M4 (h.1 rfl)).symm
instance (a b:Slot):Decidable (Hfb a b):=by unfold Hfb H4a; infer_instance
def Jc8 (s:Gj) (o:List Int) (x:Slot):Prop:=∃ (m:Nat) (c:G3),x.G3=(m:Int)∧s.Columns[m]? = some c∧c.Deck=false∧0≤Jy s c∧Jy s c ∉ o
def Q70 (s:Gj) (l:List G1) (k:Int):Prop:=∀ y∈l,∀ (m:Nat) (c:G3),y.Slot.G3=(m:Int)→s.Columns[m]? = some c→c.Deck=true→Jy s c≠k
theorem Rf2 {boxes:List Box} {m half n:Int} {x:G1}:Gf1 boxes m half n x=n+Gf1 boxes m half 0 x:=by
  unfold Gf1
  split
  · cases Qj boxes x.Box with
    | some b=>simp only; omega
    | none=>simp
  · simp
theorem Ha2 {boxes:List Box} {m half:Int}:∀ (l:List G1) (n:Int),l.foldl (Gf1 boxes m half) n=n+l.foldl (Gf1 boxes m half) 0:=by
  intro l
  induction l with
  | nil=>intro n; simp
  | cons x r ih=>
    intro n
    rw [List.foldl_cons,List.foldl_cons,ih (Gf1 boxes m half n x),ih (Gf1 boxes m half 0 x),Rf2 (n:=n)]
    omega
theorem J21 {boxes:List Box} {m half:Int} (pre post:List G1) (x:G1):Y4 boxes (pre++x::post) m half=Y4 boxes (pre++post) m half+Gf1 boxes m half 0 x:=by
  unfold Y4
  rw [List.foldl_append,List.foldl_cons,List.foldl_append,Ha2 post (Gf1 boxes m half _ x),Ha2 post (List.foldl _ 0 pre),Rf2]
  omega
theorem Qf6 {boxes:List Box} {m half n:Int} {x:G1} (h:x.Slot.G3≠m):Gf1 boxes m half n x=n:=by
  unfold Gf1
  rw [if_neg (fun hh=>h hh.1)]
theorem G78 {l:List G1} {y:Slot} {half:Int} (h:below (l.map (·.Slot)) y half):∃ z∈l,z.Slot=⟨y.G3,y.Tier - 1,half⟩:=by
  obtain⟨z,hz,e⟩:=Mp.1 h
  exact⟨z,hz,e⟩
theorem R4a {pre post:List G1} {x:G1} {y:Slot} (hn:¬ H62 y x.Slot) (h:H78 y ((pre++x::post).map (·.Slot))):H78 y ((pre++post).map (·.Slot)):=by
  have key:∀ half,(half=y.Half∨y.Half=0)→below ((pre++x::post).map (·.Slot)) y half→below ((pre++post).map (·.Slot)) y half:=fun half hh hb=>by
    obtain⟨z,hz,e⟩:=G78 hb
    refine Mp.2 ⟨z,?_,e⟩
    have h3:z≠x:=fun e2=>hn (by
      subst e2
      rw [e]
      refine⟨rfl,by simp only; omega,?_⟩
      rcases hh with hh | hh
      · exact .inl hh.symm
      · exact .inr (.inl hh))
    simp only [Mo,Mr] at hz ⊢
    rcases hz with hz | hz | hz
    · exact .inl hz
    · exact(h3 hz).elim
    · exact .inr hz
  rcases h with h | h | ⟨h0,h1,h2⟩
  · exact .inl h
  · exact .inr (.inl (key _ (.inl rfl) h))
  · exact .inr (.inr ⟨h0,key _ (.inr h0) h1,key _ (.inr h0) h2⟩)
theorem R71 {pre post:List G1} {x y:G1} (h:y∈pre++post):y∈pre++x::post:=by
  simp only [Mo,Mr] at h ⊢
  rcases h with h | h
  · exact .inl h
  · exact .inr (.inr h)
theorem Qca {s:Gj} {boxes:List Box} {pre post:List G1} {x:G1} (h:Re s boxes (pre++x::post)) (ho:H5a (pre++x::post) x.Slot=[]):Re s boxes (pre++post):=by
  have h0:(pre++post).Sublist (pre++x::post):=List.Sublist.append_left (List.sublist_cons_self ..) _
  refine⟨fun y hy=>?_,h.sorted.sublist h0,h.apart.sublist h0,fun m c hc=>?_⟩
  · obtain⟨b,h1,h2,h3⟩:=h.each y (R71 hy)
    refine⟨b,h1,h2,R4a (fun hv=>?_) h3⟩
    have:y.Box∈H5a (pre++x::post) x.Slot:=Gfc.2 ⟨y,R71 hy,rfl,hv⟩
    rw [ho] at this; cases this
  · have:=h.fits m c hc
    unfold J3b at this ⊢
    rw [J21,J21] at this
    have a1:=(Jf7 (boxes:=boxes) (column:=(m:Int)) (half:=1) (n:=0) (x:=x)).1
    have a2:=(Jf7 (boxes:=boxes) (column:=(m:Int)) (half:=2) (n:=0) (x:=x)).1
    rcases this with h | ⟨h,h'⟩
    · exact .inl h
    · exact .inr ⟨by omega,by omega⟩
def Ja9 (l:List G1) (x:G1) (r:List G1):Prop:=∃ pre post,l=pre++post∧r=pre++x::post∧(∀ y∈pre,y.Box < x.Box)∧(∀ y,post.head? = some y→x.Box≤y.Box)
def J33 (s:Gj) (o:List Int) (x:Slot):Prop:=∃ (m:Nat) (c:G3),x.G3=(m:Int)∧s.Columns[m]? = some c∧0≤Jy s c∧(c.Deck=true ↔ Jy s c∈o)
def Rf6 (l:List G1) (x:Slot):Prop:=∃ y∈l,Hfb x y.Slot
def Rf9 (s:Gj) (boxes:List Box) (q:List G1) (x:Slot):Prop:=∀ (m:Nat) (c:G3),x.G3=(m:Int)→s.Columns[m]? = some c→J3b boxes q m c
theorem Q57 {a b:Int} (h:H4a a b):H4a b a:=by
 unfold H4a at h ⊢
 omega
theorem Hee {a b:Slot} (h:Hfb a b):Hfb b a:=⟨h.1.symm,h.2.1.symm,Q57 h.2.2⟩
theorem G37 {l q:List G1} {x:G1} (h:Ja9 l x q):q.Perm (x::l):=by
 obtain⟨pre,post,rfl,rfl,_⟩:=h
 exact List.perm_middle
theorem H3a {l q:List G1} {x:G1} (h:Ja9 l x q) (hs:l.Pairwise (fun a b=>a.Box < b.Box)) (hx:x.Box ∉ l.map (·.Box)):q.Pairwise (fun a b=>a.Box < b.Box):=by
 obtain⟨pre,post,rfl,rfl,h1,h2⟩:=h
 obtain⟨s1,s2,s3⟩:=List.pairwise_append.1 hs
 refine List.pairwise_append.2 ⟨s1,List.pairwise_cons.2 ⟨fun y hy=>?_,s2⟩,fun a ha b hb=>?_⟩
 ·have h0:x.Box≠y.Box:=fun e=>hx (Mp.2 ⟨y,Mo.2 (.inr hy),e.symm⟩)
  cases post with
  | nil=>cases hy
  | cons z r=>
   have h3:=h2 z rfl
   rcases Mr.1 hy with rfl | hy
   ·omega
   ·have:=(List.pairwise_cons.1 s2).1 y hy
    omega
 ·rcases Mr.1 hb with rfl | hb
  ·exact h1 a ha
  ·exact s3 a ha b hb
theorem Gfe {a b:List G1} (hp:a.Perm b) (ha:a.Pairwise (fun x y=>x.Box < y.Box)) (hb:b.Pairwise (fun x y=>x.Box < y.Box)):a=b:=
 List.Perm.eq_of_pairwise (le:=fun x y:G1=>x.Box < y.Box) (fun x y _ _ h1 h2=>by omega) ha hb hp
theorem R49 {l q:List Slot} {x:Slot} (h:H78 x l) (hs:∀ y∈l,y∈q):H78 x q:=by
 rcases h with h | h | ⟨h0,h1,h2⟩
 ·exact .inl h
 ·exact .inr (.inl (hs _ h))
 ·exact .inr (.inr ⟨h0,hs _ h1,hs _ h2⟩)
theorem Q1e {s:Gj} {boxes:List Box} {l q:List G1} {x:G1} {b:Box} (h:Re s boxes l) (hb:Qj boxes x.Box=some b) (h6:G9a s x.Slot b.Size) (h4:¬ Rf6 l x.Slot) (h7:H78 x.Slot (l.map (·.Slot))) (h0:Ja9 l x q) (hx:x.Box ∉ l.map (·.Box)) (h9:Rf9 s boxes q x.Slot):Re s boxes q:=by
 have hp:=G37 h0
 have h5:∀ y,y∈q ↔ y=x∨y∈l:=fun y=>by rw [hp.mem_iff,Mr]
 have h8:∀ y∈l.map (·.Slot),y∈q.map (·.Slot):=fun y hy=>by
  obtain⟨z,hz,e⟩:=Mp.1 hy
  exact Mp.2 ⟨z,(h5 z).2 (.inr hz),e⟩
 refine⟨fun y hy=>?_,H3a h0 h.sorted hx,?_,fun m c hc=>?_⟩
 ·rcases (h5 y).1 hy with rfl | hy
  ·exact⟨b,hb,h6,R49 h7 h8⟩
  ·obtain⟨b',h1,h2,h3⟩:=h.each y hy
   exact⟨b',h1,h2,R49 h3 h8⟩
 ·have ha:=h.apart
  obtain⟨pre,post,rfl,rfl,_⟩:=h0
  obtain⟨s1,s2,s3⟩:=List.pairwise_append.1 ha
  refine List.pairwise_append.2 ⟨s1,List.pairwise_cons.2 ⟨fun y hy hm=>h4 ⟨y,Mo.2 (.inr hy),Hee hm⟩,s2⟩,fun a ha b hb=>?_⟩
  rcases Mr.1 hb with rfl | hb
  ·exact fun hm=>h4 ⟨a,Mo.2 (.inl ha),hm⟩
  ·exact s3 a ha b hb
 ·by_cases he:x.Slot.G3=(m:Int)
  ·exact h9 m c he hc
  ·have:=h.fits m c hc
   obtain⟨pre,post,rfl,rfl,_⟩:=h0
   unfold J3b at this ⊢
   rw [J21,J21,Qf6 he,Qf6 he,Int.add_zero,Int.add_zero]
   exact this
theorem Y82 {s:Gj} {x:Slot} {size:Int} (h:G9a s x size):size=20∨size=40:=by
 have:=h.half
 unfold Hca at this
 split at this
 ·exact .inr (by assumption)
 ·split at this
  ·exact .inl (by assumption)
  ·cases this
end Go.Proofs.YtgcpimpnpcdmmaaGreat
