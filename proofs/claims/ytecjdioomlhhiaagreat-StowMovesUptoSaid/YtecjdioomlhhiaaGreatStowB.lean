/-
  What has to be lifted so that some boxes can be: the least set that is closed,of the program.
-/
import Derived.Test.YtecjdioomlhhiaaGreatStowA
set_option maxRecDepth 100000
set_option linter.unusedVariables false
namespace Go.Proofs.YtecjdioomlhhiaaGreat
open Go.RowKit

theorem Rab {s:H0} (hS:H15 s) {c:G3} {i j:Nat} {x y:G9} (hi:s.Covers[i]? = some x) (hj:s.Covers[j]? = some y) (hx:Ge5 x c=true) (hy:Ge5 y c=true):i=j:=by
  have hn:(s.Covers.flatMap x3).Nodup:=(List.nodup_append.1 hS.nodup).2.1
  have hmem:∀ z:G9,Ge5 z c=true→(⟨c.Bay,c.Row,2⟩:Hh)∈x3 z:=fun z hz=>by
    unfold Ge5 at hz
    simp only [Bool.and_eq_true,decide_eq_true_eq,List.any_eq_true] at hz
    obtain⟨h1,r,h2,h3⟩:=hz
    exact List.mem_map.2 ⟨r,h2,by rw [h1,h3]⟩
  have key:∀ (l:List G9) (i j:Nat),(l.flatMap x3).Nodup→i < j→∀ x y,l[i]? = some x→l[j]? = some y→Ge5 x c=true→Ge5 y c=true→False:=by
    intro l
    induction l with
    | nil=>intro i j _ _ x y h; simp at h
    | cons z r ih=>
      intro i j hn hij x y hi hj hx hy
      rw [List.flatMap_cons,List.nodup_append] at hn
      cases j with
      | zero=>omega
      | succ j=>
        rw [List.getElem?_cons_succ] at hj
        cases i with
        | zero=>
          rw [List.getElem?_cons_zero] at hi; cases hi
          exact hn.2.2 _ (hmem _ hx) _ (List.mem_flatMap.2 ⟨y,List.mem_of_getElem? hj,hmem y hy⟩) rfl
        | succ i=>
          rw [List.getElem?_cons_succ] at hi
          exact ih i j hn.2.1 (by omega) x y hi hj hx hy
  rcases Nat.lt_trichotomy i j with h | h | h
  · exact(key _ i j hn h x y hi hj hx hy).elim
  · exact h
  · exact(key _ j i hn h y x hj hi hy hx).elim
theorem J94 {s:H0} (hS:H15 s) {c:G3} {k:Nat} {x:G9} (hk:s.Covers[k]? = some x):Ge5 x c=true ↔ Ro s c=(k:Int):=by
  unfold Ro
  rcases G41 (fun x=>Ge5 x c) s.Covers with ⟨h1,h2,_⟩ | ⟨m,y,h1,h2,h3,_⟩
  · rw [h1]
    constructor
    · intro h; rw [h2 x (List.mem_of_getElem? hk)] at h; cases h
    · intro h; omega
  · rw [h1]
    constructor
    · intro h; rw [Rab hS h2 hk h3 h]
    · intro h
      have:m=k:=by omega
      subst this
      rw [hk] at h2; cases h2; exact h3

theorem Gd7 (l:List Stowed) (id:Int):Rf l id=some (Hc6 (fun x:Stowed=>decide (x.Box=id)) l):=by
  have h:=H8a (p:=fun x:Stowed=>decide (x.Box=id)) (f:=fun z0=>Gaf z0 id) (xs:=l) (fun x _=>rfl)
  exact(congrArg (fun m=>bnd m fun r3=>some r3) h).trans rfl
instance (a b:Slot):Decidable (Ge7 a b):=by unfold Ge7 G93; infer_instance
def J0c (l:List Stowed) (x:Slot):List Int:=(l.filter (fun y=>decide (Ge7 y.Slot x))).map (·.Box)
theorem H64 {α β R:Type} {Q:R→Prop} {p:α→Bool} {f:α→β} {b:α→Nat→List β→(List β→Option R)→Option R} {kx:List β→Option R} {l:List α} (hl:l.length≤1000000)
    (hb:∀ x i st nx,x∈l→st.length≤1000000→(p x=true→Wp (nx (st++[f x])) Q)→(p x=false→Wp (nx st) Q)→Wp (b x i st nx) Q) (hk:Wp (kx ((l.filter p).map f)) Q):Wp (each b kx l 0 []) Q:=by
  refine Qp (fun pre st=>st=(pre.filter p).map f) rfl (fun pre x post st nx e hI hnx=>?_) (fun st hI=>by rw [hI]; exact hk)
  subst hI
  have hlen:((pre.filter p).map f).length≤pre.length:=by rw [List.length_map]; exact List.length_filter_le _ _
  have hpl:pre.length≤l.length:=by rw [e]; simp
  refine hb x _ _ nx (by rw [e]; simp) (by omega) (fun h=>hnx _ ?_) (fun h=>hnx _ ?_)
  · rw [List.filter_append,List.map_append,List.filter_cons_of_pos h]; rfl
  · rw [List.filter_append,List.map_append,List.filter_cons_of_neg (by rw [h]; exact Bool.false_ne_true)]; simp
theorem Q50 {β:Type} {st:List β} {y:β} (h:st.length≤1000000):decide ((st.length+[y].length)*8≤140737488355328∧st.length+[y].length≤maxLen)=true:=by
  refine decide_eq_true ⟨?_,?_⟩
  · rw [List.length_singleton]; omega
  · rw [List.length_singleton]; simp only [maxLen]; omega
def H77 (l:List Stowed) (id:Int):List Int×Int:=match He1 l id with
  | some x=>(J0c l x.Slot,0)
  | none=>([],6)
theorem Je5 (l:List Stowed) (id:Int) (hl:l.length≤1000000):G98 l id=some (H77 l id):=by
  refine G03 ?_
  unfold G98 H77
  refine Gy (Gd7 l id) ?_
  unfold He1
  rcases G41 (fun x:Stowed=>decide (x.Box=id)) l with ⟨h1,_,h3⟩ | ⟨m,x,h1,h2,_,h4⟩
  · rw [h1,h3]
    exact Hg (fun _=>Gj rfl) (fun h=>absurd (of_decide_eq_false h) (by omega))
  · rw [h1,h4]
    refine Hg (fun h=>absurd (of_decide_eq_true h) (by omega)) (fun _=>?_)
    refine H64 (p:=fun y=>decide (Ge7 y.Slot x.Slot)) (f:=(·.Box)) hl (fun y i st nx hy hst ht hf=>?_) (Gj rfl)
    refine H5b (fun j=>j=if Ge7 y.Slot x.Slot then st++[y.Box] else st) (fun K hK=>?_) (fun j hj=>?_)
    · refine G32 rfl h2 (H6 (wp_mono (R8c y.Slot x.Slot) (fun r hr=>Hg (fun h=>Y2 (Q50 hst) (hK _ ?_)) (fun h=>hK _ ?_))))
      · rw [if_pos (hr.1 h)]
      · rw [if_neg (fun ho=>by rw [hr.2 ho] at h; cases h)]
    · by_cases ho:Ge7 y.Slot x.Slot
      · rw [hj,if_pos ho]; exact ht (decide_eq_true ho)
      · rw [hj,if_neg ho]; exact hf (decide_eq_false ho)
theorem R96 (l:List Stowed) (id:Int) (hl:l.length≤1000000):G09 l id=some (H77 l id):=by
  refine G03 ?_
  unfold G09 H77
  refine Gy (Q7b l id) ?_
  unfold He1
  rcases G41 (fun x:Stowed=>decide (x.Box=id)) l with ⟨h1,_,h3⟩ | ⟨m,x,h1,h2,_,h4⟩
  · rw [h1,h3]
    exact Hg (fun _=>Gj rfl) (fun h=>absurd (of_decide_eq_false h) (by omega))
  · rw [h1,h4]
    refine Hg (fun h=>absurd (of_decide_eq_true h) (by omega)) (fun _=>?_)
    refine H64 (p:=fun y=>decide (Ge7 y.Slot x.Slot)) (f:=(·.Box)) hl (fun y i st nx hy hst ht hf=>?_) (Gj rfl)
    refine H5b (fun j=>j=if Ge7 y.Slot x.Slot then st++[y.Box] else st) (fun K hK=>?_) (fun j hj=>?_)
    · refine G32 rfl h2 (H6 (wp_mono (Rc9 y.Slot x.Slot) (fun r hr=>Hg (fun h=>Y2 (Q50 hst) (hK _ ?_)) (fun h=>hK _ ?_))))
      · rw [if_pos (hr.1 h)]
      · rw [if_neg (fun ho=>by rw [hr.2 ho] at h; cases h)]
    · by_cases ho:Ge7 y.Slot x.Slot
      · rw [hj,if_pos ho]; exact ht (decide_eq_true ho)
      · rw [hj,if_neg ho]; exact hf (decide_eq_false ho)

/-! ### Columns under and upon covers -/
theorem Qd7 {α:Type} {p:α→Bool} {l:List α} {z:Int}:z∈Ge4 p l ↔ ∃ (m:Nat) (x:α),z=(m:Int)∧l[m]? = some x∧p x=true:=by
  unfold Ge4
  rw [List.mem_map]
  constructor
  · rintro⟨⟨x,m⟩,hx,rfl⟩
    rw [List.mem_filter] at hx
    exact⟨m,x,rfl,List.mem_zipIdx_iff_getElem?.1 hx.1,hx.2⟩
  · rintro⟨m,x,rfl,h1,h2⟩
    exact⟨(x,m),List.mem_filter.2 ⟨List.mem_zipIdx_iff_getElem?.2 h1,h2⟩,rfl⟩
theorem R8e {s:H0} {k:Nat} {x:G9} (hk:s.Covers[k]? = some x) (hr:∀ x∈s.Covers,x.Rows.length≤1000000) (hc:s.Columns.length≤1000000) :
    H07 s (k:Int)=some (Ge4 (fun c:G3=>c.Deck&&Ge5 x c) s.Columns):=by
  have hlt:=(List.getElem?_eq_some_iff.1 hk).1
  refine G03 ?_
  unfold H07 H27
  refine H6 (Hg (fun h=>?_) (fun _=>Gy (x:=Ge4 (fun c:G3=>c.Deck&&Ge5 x c) s.Columns) ?_ (Gj (Gj rfl))))
  · simp only [Bool.or_eq_true,decide_eq_true_eq] at h; omega
  unfold G28
  refine He3 (fun c hcm=>G03 ?_) hc
  unfold G8b
  cases hd:c.Deck with
  | false=>exact H6 (Gj (H6 (Gj (Gj rfl))))
  | true=>
    refine Gy (x:=x) ?_ (Gy (x:=Ge5 x c) (J88 x c (hr x (List.mem_of_getElem? hk))) (Gj rfl))
    show Qq s.Covers (k:Int) some=some x
    exact Y9 hk some
theorem Hb6 (l:List Int) (v:Int):Y1 l v=some (l.any (fun y=>decide (v=y))):=by
  unfold Y1 G15
  have key:∀ (l:List Int) (i:Nat),∃ j:Int,each (fun(y:Int) (i:Nat) (_:Unit) nx=>bif decide (v=y) then some (i:Int) else nx ()) (fun(_:Unit)=>some (-1:Int)) l i ()=some j∧decide (0≤j)=l.any (fun y=>decide (v=y)):=by
    intro l
    induction l with
    | nil=>intro i; exact⟨-1,rfl,rfl⟩
    | cons x r ih=>
      intro i
      rw [each,List.any_cons]
      cases decide (v=x) with
      | true=>exact⟨(i:Int),rfl,decide_eq_true (by omega)⟩
      | false=>exact ih (i+1)
  obtain⟨j,e1,e2⟩:=key l 0
  have e1':G15 l v=some j:=e1
  unfold G15 at e1'
  rw [e1']
  show some (decide (0≤j))=_
  rw [e2]
theorem Je4 {s:H0} {m:Nat} {c:G3} (hc:s.Columns[m]? = some c) (hr:∀ x∈s.Covers,x.Rows.length≤1000000) (hl:s.Covers.length≤1000000):G66 s (m:Int)=some (if c.Deck=true then -1 else Ro s c):=by
  refine G03 ?_
  unfold G66
  refine G32 rfl hc (Hg (fun h=>Gj (by rw [if_pos h])) (fun h=>Gy (J3e hc hr hl) (Gj (by rw [if_neg (by rw [h]; exact Bool.false_ne_true)]))))
theorem Q47 {s:H0} (hS:H15 s) {l:List Stowed} {k:Nat} (hk:k < s.Covers.length) (hr:∀ x∈s.Covers,x.Rows.length≤1000000) (hl:l.length≤1000000) :
    Wp (Gc6 s l (k:Int)) (fun r=>∀ b,b∈r ↔ ∃ y∈l,y.Box=b∧∃ (m:Nat) (c:G3),y.Slot.G3=(m:Int)∧s.Columns[m]? = some c∧c.Deck=true∧Ro s c=(k:Int)):=by
  have hk':s.Covers[k]? = some s.Covers[k]:=List.getElem?_eq_getElem hk
  unfold Gc6
  refine Gy (R8e hk' hr (by have:=hS.num.2.1; omega)) ?_
  refine H64 (p:=fun y=>(Ge4 (fun c:G3=>c.Deck&&Ge5 s.Covers[k] c) s.Columns).any (fun z=>decide (y.Slot.G3=z))) (f:=(·.Box)) hl (fun y i st nx hy hst ht hf=>?_) (Gj (fun b=>?_))
  · refine H5b (fun j=>j=if (Ge4 (fun c:G3=>c.Deck&&Ge5 s.Covers[k] c) s.Columns).any (fun z=>decide (y.Slot.G3=z))=true then st++[y.Box] else st) (fun K hK=>?_) (fun j hj=>?_)
    · refine Gy (Hb6 _ _) (Hg (fun h=>Y2 (Q50 hst) (hK _ ?_)) (fun h=>hK _ ?_))
      · rw [if_pos h]
      · rw [if_neg (by rw [h]; exact Bool.false_ne_true)]
    · cases h:(Ge4 (fun c:G3=>c.Deck&&Ge5 s.Covers[k] c) s.Columns).any (fun z=>decide (y.Slot.G3=z)) with
      | true=>rw [h] at hj; rw [hj]; exact ht h
      | false=>rw [h] at hj; rw [hj]; exact hf h
  · rw [List.mem_map]
    have hiff:∀ y:Stowed,(Ge4 (fun c:G3=>c.Deck&&Ge5 s.Covers[k] c) s.Columns).any (fun z=>decide (y.Slot.G3=z))=true ↔ ∃ (m:Nat) (c:G3),y.Slot.G3=(m:Int)∧s.Columns[m]? = some c∧c.Deck=true∧Ro s c=(k:Int):=fun y=>by
      rw [List.any_eq_true]
      constructor
      · rintro⟨z,hz,e⟩
        obtain⟨m,c,rfl,h1,h2⟩:=Qd7.1 hz
        rw [Bool.and_eq_true] at h2
        exact⟨m,c,of_decide_eq_true e,h1,h2.1,(J94 hS hk').1 h2.2⟩
      · rintro⟨m,c,e,h1,h2,h3⟩
        exact⟨(m:Int),Qd7.2 ⟨m,c,rfl,h1,by rw [h2,(J94 hS hk').2 h3]; rfl⟩,decide_eq_true e⟩
    constructor
    · rintro⟨y,hy,rfl⟩
      rw [List.mem_filter] at hy
      exact⟨y,hy.1,rfl,(hiff y).1 hy.2⟩
    · rintro⟨y,hy,e,h⟩
      exact⟨y,List.mem_filter.2 ⟨hy,(hiff y).2 h⟩,e⟩

/-! ### The least closed set -/
def Pl (s:H0) (l:List Stowed) (a b:Int):Prop:=∃ x∈l,x.Box=a∧∃ y∈l,y.Box=b∧(Ge7 y.Slot x.Slot∨upon s x.Slot y.Slot)
structure Brd (s:H0) (boxes:List Box) (l:List Stowed):Prop where
  ship:H15 s
  right:Ga1 s boxes l
  rows:∀ x∈s.Covers,x.Rows.length≤1000000
  covs:s.Covers.length≤1000000
  len:l.length≤1000
theorem Brd.col {s:H0} {boxes:List Box} {l:List Stowed} (h:Brd s boxes l) {x:Stowed} (hx:x∈l):Re7 s x.Slot:=by
  obtain⟨b,_,h1,_⟩:=h.right.each x hx
  exact Je8 h1
structure Gbd (s:H0) (l:List Stowed) (ids:List Int) (r:List Int):Prop where
  sorted:r.Pairwise (· < ·)
  seeds:∀ a∈ids,a∈r
  closed:∀ a∈r,∀ b,Pl s l a b→b∈r
  least:∀ C:Int→Prop,(∀ a b,C a→Pl s l a b→C b)→(∀ a∈ids,C a)→∀ a∈r,C a
theorem Gbd.eq {s:H0} {l:List Stowed} {ids r r':List Int} (h:Gbd s l ids r) (h':Gbd s l ids r'):r=r':=
  Hb4 h.sorted h'.sorted (fun x=>⟨fun hx=>h.least (·∈r') (fun a b ha hp=>h'.closed a ha b hp) h'.seeds x hx,fun hx=>h'.least (·∈r) (fun a b ha hp=>h.closed a ha b hp) h.seeds x hx⟩)
def Q89 (s:H0) (boxes:List Box) (l:List Stowed) (ids:List Int) (r:List Int×Int):Prop:=
  (¬ (H15 s∧Ga1 s boxes l)∧r=([],2))∨(H15 s∧Ga1 s boxes l∧((¬ (∀ a∈ids,a∈l.map (·.Box))∧r=([],6))∨((∀ a∈ids,a∈l.map (·.Box))∧r.2=0∧Gbd s l ids r.1)))
theorem Q89.eq {s:H0} {boxes:List Box} {l:List Stowed} {ids:List Int} {r r':List Int×Int} (h:Q89 s boxes l ids r) (h':Q89 s boxes l ids r'):r=r':=by
  rcases h with ⟨h1,h2⟩ | ⟨h1,h2,h3⟩ <;> rcases h' with ⟨k1,k2⟩ | ⟨k1,k2,k3⟩
  · rw [h2,k2]
  · exact(h1 ⟨k1,k2⟩).elim
  · exact(k1 ⟨h1,h2⟩).elim
  · rcases h3 with ⟨h3,h4⟩ | ⟨h3,h4,h5⟩ <;> rcases k3 with ⟨k3,k4⟩ | ⟨k3,k4,k5⟩
    · rw [h4,k4]
    · exact(h3 k3).elim
    · exact(k3 h3).elim
    · exact Prod.ext (h5.eq k5) (h4.trans k4.symm)
end Go.Proofs.YtecjdioomlhhiaaGreat
