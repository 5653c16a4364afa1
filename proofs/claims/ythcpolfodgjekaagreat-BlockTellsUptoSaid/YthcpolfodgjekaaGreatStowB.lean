/-
  What has to be lifted so that some boxes can be: the least set that is closed,of the program.
-/
import Derived.Test.YthcpolfodgjekaaGreatStowA
set_option maxRecDepth 100000
set_option linter.unusedVariables false
namespace Go.Proofs.YthcpolfodgjekaaGreat
open Go.RowKit
theorem cover_one {s:H2} (hS:H0a s) {c:G4} {i j:Nat} {x y:G9} (hi:s.Covers[i]? = some x) (hj:s.Covers[j]? = some y) (hx:Gd7 x c=true) (hy:Gd7 y c=true):i=j:=by
  have hn:(s.Covers.flatMap x3).Nodup:=(List.nodup_append.1 hS.nodup).2.1
  have hmem:∀ z:G9,Gd7 z c=true→(⟨c.Bay,c.Row,2⟩:Hf)∈x3 z:=fun z hz=>by
    unfold Gd7 at hz
    simp only [Bool.and_eq_true,decide_eq_true_eq,List.any_eq_true] at hz
    obtain⟨h1,r,h2,h3⟩:=hz
    exact List.mem_map.2 ⟨r,h2,by rw [h1,h3]⟩
  have key:∀ (l:List G9) (i j:Nat),(l.flatMap x3).Nodup→i < j→∀ x y,l[i]? = some x→l[j]? = some y→Gd7 x c=true→Gd7 y c=true→False:=by
    intro l
    induction l with
    | nil=>intro i j _ _ x y h; simp at h
    | cons z r ih=>
      intro i j hn hij x y hi hj hx hy
      rw [List.flatMap_cons,List.nodup_append] at hn
      cases j with
      | zero=>omega
      | succ j=>
        rw [List.getElem?_cons_succ] at hj
        cases i with
        | zero=>
          rw [List.getElem?_cons_zero] at hi; cases hi
          exact hn.2.2 _ (hmem _ hx) _ (List.mem_flatMap.2 ⟨y,List.mem_of_getElem? hj,hmem y hy⟩) rfl
        | succ i=>
          rw [List.getElem?_cons_succ] at hi
          exact ih i j hn.2.1 (by omega) x y hi hj hx hy
  rcases Nat.lt_trichotomy i j with h | h | h
  · exact(key _ i j hn h x y hi hj hx hy).elim
  · exact h
  · exact(key _ j i hn h y x hj hi hy hx).elim
theorem Ja5 {s:H2} (hS:H0a s) {c:G4} {k:Nat} {x:G9} (hk:s.Covers[k]? = some x):Gd7 x c=true ↔ Yt s c=(k:Int):=by
  unfold Yt
  rcases G6a (fun x=>Gd7 x c) s.Covers with ⟨h1,h2,_⟩ | ⟨m,y,h1,h2,h3,_⟩
  · rw [h1]
    constructor
    · intro h; rw [h2 x (List.mem_of_getElem? hk)] at h; cases h
    · intro h; omega
  · rw [h1]
    constructor
    · intro h; rw [cover_one hS h2 hk h3 h]
    · intro h
      have:m=k:=by omega
      subst this
      rw [hk] at h2; cases h2; exact h3
theorem Je4 (l:List Stowed) (id:Int):G4b l id=some (H9c (fun x:Stowed=>decide (x.Gg=id)) l):=by
  have h:=H74 (p:=fun x:Stowed=>decide (x.Gg=id)) (f:=fun z0=>Gaa z0 id) (xs:=l) (fun x _=>rfl)
  exact(congrArg (fun m=>bnd m fun r3=>some r3) h).trans rfl
instance (a b:Slot):Decidable (H35 a b):=by unfold H35 H0c; infer_instance
def overL (l:List Stowed) (x:Slot):List Int:=(l.filter (fun y=>decide (H35 y.Slot x))).map (·.Gg)
theorem mem_overL {l:List Stowed} {x:Slot} {b:Int}:b∈overL l x ↔ ∃ y∈l,y.Gg=b∧H35 y.Slot x:=by
  unfold overL
  rw [List.mem_map]
  constructor
  · rintro⟨y,hy,e⟩
    rw [List.mem_filter,decide_eq_true_eq] at hy
    exact⟨y,hy.1,e,hy.2⟩
  · rintro⟨y,hy,e,h⟩
    exact⟨y,List.mem_filter.2 ⟨hy,decide_eq_true h⟩,e⟩
theorem G49 {α β R:Type} {Q:R→Prop} {p:α→Bool} {f:α→β} {b:α→Nat→List β→(List β→Option R)→Option R} {kx:List β→Option R} {l:List α} (hl:l.length≤1000000)
    (hb:∀ x i st nx,x∈l→st.length≤1000000→(p x=true→Wp (nx (st++[f x])) Q)→(p x=false→Wp (nx st) Q)→Wp (b x i st nx) Q) (hk:Wp (kx ((l.filter p).map f)) Q):Wp (each b kx l 0 []) Q:=by
  refine Qi (fun pre st=>st=(pre.filter p).map f) rfl (fun pre x post st nx e hI hnx=>?_) (fun st hI=>by rw [hI]; exact hk)
  subst hI
  have hlen:((pre.filter p).map f).length≤pre.length:=by rw [List.length_map]; exact List.length_filter_le _ _
  have hpl:pre.length≤l.length:=by rw [e]; simp
  refine hb x _ _ nx (by rw [e]; simp) (by omega) (fun h=>hnx _ ?_) (fun h=>hnx _ ?_)
  · rw [List.filter_append,List.map_append,List.filter_cons_of_pos h]; rfl
  · rw [List.filter_append,List.map_append,List.filter_cons_of_neg (by rw [h]; exact Bool.false_ne_true)]; simp
theorem room8 {β:Type} {st:List β} {y:β} (h:st.length≤1000000):decide ((st.length+[y].length)*8≤140737488355328∧st.length+[y].length≤maxLen)=true:=by
  refine decide_eq_true ⟨?_,?_⟩
  · rw [List.length_singleton]; omega
  · rw [List.length_singleton]; simp only [maxLen]; omega
def aboveR (l:List Stowed) (id:Int):List Int×Int:=match Jfc l id with
  | some x=>(overL l x.Slot,0)
  | none=>([],6)
theorem stow_above (l:List Stowed) (id:Int) (hl:l.length≤1000000):Gcf l id=some (aboveR l id):=by
  refine Zz ?_
  unfold Gcf aboveR
  refine H1 (Je4 l id) ?_
  unfold Jfc
  rcases G6a (fun x:Stowed=>decide (x.Gg=id)) l with ⟨h1,_,h3⟩ | ⟨m,x,h1,h2,_,h4⟩
  · rw [h1,h3]
    exact J3 (fun _=>Gt rfl) (fun h=>absurd (of_decide_eq_false h) (by omega))
  · rw [h1,h4]
    refine J3 (fun h=>absurd (of_decide_eq_true h) (by omega)) (fun _=>?_)
    refine G49 (p:=fun y=>decide (H35 y.Slot x.Slot)) (f:=(·.Gg)) hl (fun y i st nx hy hst ht hf=>?_) (Gt rfl)
    refine Haa (fun j=>j=if H35 y.Slot x.Slot then st++[y.Gg] else st) (fun K hK=>?_) (fun j hj=>?_)
    · refine G58 rfl h2 (Hs (wp_mono (slot_over y.Slot x.Slot) (fun r hr=>J3 (fun h=>G0b (room8 hst) (hK _ ?_)) (fun h=>hK _ ?_))))
      · rw [if_pos (hr.1 h)]
      · rw [if_neg (fun ho=>by rw [hr.2 ho] at h; cases h)]
    · by_cases ho:H35 y.Slot x.Slot
      · rw [hj,if_pos ho]; exact ht (decide_eq_true ho)
      · rw [hj,if_neg ho]; exact hf (decide_eq_false ho)
/-! ### Columns under and upon covers -/
theorem mem_idxs {α:Type} {p:α→Bool} {l:List α} {z:Int}:z∈Gd6 p l ↔ ∃ (m:Nat) (x:α),z=(m:Int)∧l[m]? = some x∧p x=true:=by
  unfold Gd6
  rw [List.mem_map]
  constructor
  · rintro⟨⟨x,m⟩,hx,rfl⟩
    rw [List.mem_filter] at hx
    exact⟨m,x,rfl,List.mem_zipIdx_iff_getElem?.1 hx.1,hx.2⟩
  · rintro⟨m,x,rfl,h1,h2⟩
    exact⟨(x,m),List.mem_filter.2 ⟨List.mem_zipIdx_iff_getElem?.2 h1,h2⟩,rfl⟩
theorem ship_upon {s:H2} {k:Nat} {x:G9} (hk:s.Covers[k]? = some x) (hr:∀ x∈s.Covers,x.Rows.length≤1000000) (hc:s.Columns.length≤1000000) :
    Gf9 s (k:Int)=some (Gd6 (fun c:G4=>c.Deck&&Gd7 x c) s.Columns):=by
  have hlt:=(List.getElem?_eq_some_iff.1 hk).1
  refine Zz ?_
  unfold Gf9 H1a
  refine Hs (J3 (fun h=>?_) (fun _=>H1 (x:=Gd6 (fun c:G4=>c.Deck&&Gd7 x c) s.Columns) ?_ (Gt (Gt rfl))))
  · simp only [Bool.or_eq_true,decide_eq_true_eq] at h; omega
  unfold G20
  refine Hd2 (fun c hcm=>Zz ?_) hc
  unfold G8b
  cases hd:c.Deck with
  | false=>exact Hs (Gt (Hs (Gt (Gt rfl))))
  | true=>
    refine H1 (x:=x) ?_ (H1 (x:=Gd7 x c) (J9b x c (hr x (List.mem_of_getElem? hk))) (Gt rfl))
    show Qr s.Covers (k:Int) some=some x
    exact Z2 hk some
theorem J4d (l:List Int) (v:Int):Ry l v=some (l.any (fun y=>decide (v=y))):=by
  unfold Ry G08
  have key:∀ (l:List Int) (i:Nat),∃ j:Int,each (fun(y:Int) (i:Nat) (_:Unit) nx=>bif decide (v=y) then some (i:Int) else nx ()) (fun(_:Unit)=>some (-1:Int)) l i ()=some j∧decide (0≤j)=l.any (fun y=>decide (v=y)):=by
    intro l
    induction l with
    | nil=>intro i; exact⟨-1,rfl,rfl⟩
    | cons x r ih=>
      intro i
      rw [each,List.any_cons]
      cases decide (v=x) with
      | true=>exact⟨(i:Int),rfl,decide_eq_true (by omega)⟩
      | false=>exact ih (i+1)
  obtain⟨j,e1,e2⟩:=key l 0
  have e1':G08 l v=some j:=e1
  unfold G08 at e1'
  rw [e1']
  show some (decide (0≤j))=_
  rw [e2]
theorem stow_hatch {s:H2} {m:Nat} {c:G4} (hc:s.Columns[m]? = some c) (hr:∀ x∈s.Covers,x.Rows.length≤1000000) (hl:s.Covers.length≤1000000):Gcd s (m:Int)=some (if c.Deck=true then -1 else Yt s c):=by
  refine Zz ?_
  unfold Gcd
  refine G58 rfl hc (J3 (fun h=>Gt (by rw [if_pos h])) (fun h=>H1 (ship_coverOf hc hr hl) (Gt (by rw [if_neg (by rw [h]; exact Bool.false_ne_true)]))))
theorem stow_upon {s:H2} (hS:H0a s) {l:List Stowed} {k:Nat} (hk:k < s.Covers.length) (hr:∀ x∈s.Covers,x.Rows.length≤1000000) (hl:l.length≤1000000) :
    Wp (Gbb s l (k:Int)) (fun r=>∀ b,b∈r ↔ ∃ y∈l,y.Gg=b∧∃ (m:Nat) (c:G4),y.Slot.G4=(m:Int)∧s.Columns[m]? = some c∧c.Deck=true∧Yt s c=(k:Int)):=by
  have hk':s.Covers[k]? = some s.Covers[k]:=List.getElem?_eq_getElem hk
  unfold Gbb
  refine H1 (ship_upon hk' hr (by have:=hS.num.2.1; omega)) ?_
  refine G49 (p:=fun y=>(Gd6 (fun c:G4=>c.Deck&&Gd7 s.Covers[k] c) s.Columns).any (fun z=>decide (y.Slot.G4=z))) (f:=(·.Gg)) hl (fun y i st nx hy hst ht hf=>?_) (Gt (fun b=>?_))
  · refine Haa (fun j=>j=if (Gd6 (fun c:G4=>c.Deck&&Gd7 s.Covers[k] c) s.Columns).any (fun z=>decide (y.Slot.G4=z))=true then st++[y.Gg] else st) (fun K hK=>?_) (fun j hj=>?_)
    · refine H1 (J4d _ _) (J3 (fun h=>G0b (room8 hst) (hK _ ?_)) (fun h=>hK _ ?_))
      · rw [if_pos h]
      · rw [if_neg (by rw [h]; exact Bool.false_ne_true)]
    · cases h:(Gd6 (fun c:G4=>c.Deck&&Gd7 s.Covers[k] c) s.Columns).any (fun z=>decide (y.Slot.G4=z)) with
      | true=>rw [h] at hj; rw [hj]; exact ht h
      | false=>rw [h] at hj; rw [hj]; exact hf h
  · rw [List.mem_map]
    have hiff:∀ y:Stowed,(Gd6 (fun c:G4=>c.Deck&&Gd7 s.Covers[k] c) s.Columns).any (fun z=>decide (y.Slot.G4=z))=true ↔ ∃ (m:Nat) (c:G4),y.Slot.G4=(m:Int)∧s.Columns[m]? = some c∧c.Deck=true∧Yt s c=(k:Int):=fun y=>by
      rw [List.any_eq_true]
      constructor
      · rintro⟨z,hz,e⟩
        obtain⟨m,c,rfl,h1,h2⟩:=mem_idxs.1 hz
        rw [Bool.and_eq_true] at h2
        exact⟨m,c,of_decide_eq_true e,h1,h2.1,(Ja5 hS hk').1 h2.2⟩
      · rintro⟨m,c,e,h1,h2,h3⟩
        exact⟨(m:Int),mem_idxs.2 ⟨m,c,rfl,h1,by rw [h2,(Ja5 hS hk').2 h3]; rfl⟩,decide_eq_true e⟩
    constructor
    · rintro⟨y,hy,rfl⟩
      rw [List.mem_filter] at hy
      exact⟨y,hy.1,rfl,(hiff y).1 hy.2⟩
    · rintro⟨y,hy,e,h⟩
      exact⟨y,List.mem_filter.2 ⟨hy,(hiff y).2 h⟩,e⟩
/-! ### The least closed set -/
def Pl (s:H2) (l:List Stowed) (a b:Int):Prop:=∃ x∈l,x.Gg=a∧∃ y∈l,y.Gg=b∧(H35 y.Slot x.Slot∨upon s x.Slot y.Slot)
structure Grw (s:H2) (l:List Stowed) (L:List Int) (ids:List Int) (m:Ho Int Unit) (L':List Int):Prop where
  inv:Jb6 (l.map (·.Gg)) m L'
  sub:∀ a∈L,a∈L'
  has:∀ a∈ids,a∈L'
  closed:∀ a∈L',a ∉ L→∀ b,Pl s l a b→b∈L'
  least:∀ C:Int→Prop,(∀ a b,C a→Pl s l a b→C b)→(∀ a∈L,C a)→(∀ a∈ids,C a)→∀ a∈L',C a
theorem Jbf {l:List Stowed} (h:l.Pairwise (fun a b=>a.Gg < b.Gg)) {x y:Stowed} (hx:x∈l) (hy:y∈l) (e:x.Gg=y.Gg):x=y:=by
  obtain⟨i,hi,rfl⟩:=List.mem_iff_getElem.1 hx
  obtain⟨j,hj,rfl⟩:=List.mem_iff_getElem.1 hy
  have hp:=List.pairwise_iff_getElem.1 h
  rcases Nat.lt_trichotomy i j with g | g | g
  · have:=hp i j hi hj g; omega
  · subst g; rfl
  · have:=hp j i hj hi g; omega
structure Brd (s:H2) (boxes:List Gg) (l:List Stowed):Prop where
  ship:H0a s
  right:Gcc s boxes l
  rows:∀ x∈s.Covers,x.Rows.length≤1000000
  covs:s.Covers.length≤1000000
  len:l.length≤1000
theorem Brd.col {s:H2} {boxes:List Gg} {l:List Stowed} (h:Brd s boxes l) {x:Stowed} (hx:x∈l):ColIn s x.Slot:=by
  obtain⟨b,_,h1,_⟩:=h.right.each x hx
  exact slot_colIn h1
theorem reach_add {s:H2} {boxes:List Gg} {l:List Stowed} (hB:Brd s boxes l):∀ (F:Nat) (ids:List Int) (m:Ho Int Unit) (L:List Int),Jb6 (l.map (·.Gg)) m L→(∀ a∈ids,a∈l.map (·.Gg))→l.length+1≤F+L.length →
    Wp (G1a F ids m l s) (fun r=>∃ L',Grw s l L ids r L'):=by
  have hlen:(l.map (·.Gg)).length=l.length:=List.length_map ..
  intro F
  induction F with
  | zero=>intro ids m L hi _ hF; have:=hi.le; omega
  | succ F ih=>
    intro ids m L hi hids hF
    show Wp (G8c (G1a F) F ids m l s) _
    unfold G8c
    refine Qi (fun pre mm=>∃ L1,Grw s l L pre mm L1) ⟨L,hi,fun a h=>h,fun a h=>(List.not_mem_nil h).elim,fun a h hn=>(hn h).elim,fun C _ h _=>h⟩ (fun pre y post mm nx e hI hnx=>?_) (fun mm hI=>Gt hI)
    obtain⟨L1,g1⟩:=hI
    have hy:y∈l.map (·.Gg):=hids y (by rw [e]; simp)
    have hL1:L.length≤L1.length:=hi.nodup.length_le_of_subset (fun a ha=>g1.sub a ha)
    refine Haa (fun j=>∃ L',Grw s l L (pre++[y]) j L') (fun K hK=>?_) (fun j hj=>hnx _ hj)
    refine J3 (fun hh=>hK _ ?_) (fun hh=>?_)
    · rw [g1.inv.has] at hh
      have hm:=of_decide_eq_true hh
      exact⟨L1,g1.inv,g1.sub,Qn g1.has hm,g1.closed,fun C h1 h2 h3=>g1.least C h1 h2 (fun a ha=>h3 a (List.mem_append.2 (.inl ha)))⟩
    rw [g1.inv.has] at hh
    have hm:=of_decide_eq_false hh
    obtain⟨x,hx,hxb⟩:=List.mem_map.1 hy
    obtain⟨x0,hf0⟩:∃ x0,Jfc l y=some x0:=by
      cases h:Jfc l y with
      | some x0=>exact⟨x0,rfl⟩
      | none=>exact absurd (decide_eq_true hxb) (by have:=List.find?_eq_none.1 h x hx; simpa using this)
    have hx0m:=List.mem_of_find?_eq_some hf0
    have hx0b:x0.Gg=y:=of_decide_eq_true (List.find?_some (p:=fun x:Stowed=>decide (x.Gg=y)) hf0)
    have hx0:x0=x:=Jbf hB.right.sorted hx0m hx (by rw [hx0b,hxb])
    subst hx0
    have hs1:=g1.inv.snoc hm hy
    refine H1 (stow_above l y (by have:=hB.len; omega)) ?_
    have habove:aboveR l y=(overL l x0.Slot,0):=by unfold aboveR; rw [hf0]
    rw [habove]
    have hl1:(L1++[y]).length=L1.length+1:=by simp
    refine Hs (wp_mono (ih (overL l x0.Slot) _ (L1++[y]) hs1 (fun a ha=>by
      obtain⟨z,hz,e,_⟩:=mem_overL.1 ha
      exact List.mem_map.2 ⟨z,hz,e⟩) (by omega)) (fun m2 h2=>?_))
    obtain⟨L2,g2⟩:=h2
    have hL2:(L1++[y]).length≤L2.length:=hs1.nodup.length_le_of_subset (fun a ha=>g2.sub a ha)
    refine H1 (Je4 l y) ?_
    rcases G6a (fun x:Stowed=>decide (x.Gg=y)) l with ⟨_,h2,_⟩ | ⟨q,x1,h1,h2,h3,_⟩
    · have:=h2 x0 hx; rw [decide_eq_true hxb] at this; cases this
    have hx1:x1=x0:=Jbf hB.right.sorted (List.mem_of_getElem? h2) hx (by rw [of_decide_eq_true h3,hxb])
    subst hx1
    obtain⟨mc,c,hmc,hc⟩:=hB.col hx
    have honly:∀ b,Pl s l y b ↔ b∈overL l x1.Slot∨∃ z∈l,z.Gg=b∧upon s x1.Slot z.Slot:=fun b=>by
      rw [mem_overL]
      constructor
      · rintro⟨z,hz,e,w,hw,ew,h⟩
        have hzx:z=x1:=Jbf hB.right.sorted hz hx (by rw [e,hxb])
        subst hzx
        rcases h with h | h
        · exact .inl ⟨w,hw,ew,h⟩
        · exact .inr ⟨w,hw,ew,h⟩
      · rintro(⟨w,hw,ew,h⟩ | ⟨w,hw,ew,h⟩)
        · exact⟨x1,hx,hxb,w,hw,ew,.inl h⟩
        · exact⟨x1,hx,hxb,w,hw,ew,.inr h⟩
    refine G58 h1 h2 ?_
    rw [hmc]
    refine H1 (stow_hatch hc hB.rows hB.covs) (J3 (fun hh=>?_) (fun hh=>hK _ ?_))
    · have hh:=of_decide_eq_true hh
      by_cases hd:c.Deck=true
      · rw [if_pos hd] at hh; omega
      rw [if_neg hd] at hh ⊢
      have hd:c.Deck=false:=by simpa using hd
      obtain⟨k,hk,hkl⟩:∃ k:Nat,Yt s c=(k:Int)∧k < s.Covers.length:=by
        unfold Yt at hh ⊢
        rcases G6a (fun x=>Gd7 x c) s.Covers with ⟨h1,_,_⟩ | ⟨k,z,h1,h2,_,_⟩
        · omega
        · exact⟨k,h1,(List.getElem?_eq_some_iff.1 h2).1⟩
      rw [hk]
      refine Hs (wp_mono (stow_upon hB.ship hkl hB.rows (by have:=hB.len; omega)) (fun up hup=>?_))
      have hupon:∀ z∈l,upon s x1.Slot z.Slot ↔ ∃ (m:Nat) (c':G4),z.Slot.G4=(m:Int)∧s.Columns[m]? = some c'∧c'.Deck=true∧Yt s c'=(k:Int):=fun z hz=>by
        constructor
        · rintro⟨m0,c0,m1,c1,e1,e2,e3,e4,_,q2,q3,q4⟩
          have:m0=mc:=by omega
          subst this
          rw [hc] at e2; cases e2
          exact⟨m1,c1,e3,e4,q2,by omega⟩
        · rintro⟨m1,c1,e3,e4,q2,q4⟩
          exact⟨mc,c,m1,c1,hmc,hc,e3,e4,hd,q2,hh,by omega⟩
      refine Hs (wp_mono (ih up _ L2 g2.inv (fun a ha=>by
        obtain⟨z,hz,e,_⟩:=(hup a).1 ha
        exact List.mem_map.2 ⟨z,hz,e⟩) (by omega)) (fun m3 h3=>hK _ ?_))
      obtain⟨L3,g3⟩:=h3
      refine⟨L3,g3.inv,fun a ha=>g3.sub a (g2.sub a (List.mem_append.2 (.inl (g1.sub a ha)))),Qn (fun a ha=>g3.sub a (g2.sub a (List.mem_append.2 (.inl (g1.has a ha))))) (g3.sub y (g2.sub y (by simp))),fun a ha hn b hb=>?_,fun C h1 h2 h3=>?_⟩
      · by_cases ha2:a∈L2
        · by_cases ha1:a∈L1++[y]
          · rcases List.mem_append.1 ha1 with ha1 | ha1
            · exact g3.sub b (g2.sub b (List.mem_append.2 (.inl (g1.closed a ha1 hn b hb))))
            · rw [List.mem_singleton] at ha1; subst ha1
              rcases (honly b).1 hb with h | ⟨z,hz,e,hu⟩
              · exact g3.sub b (g2.has b h)
              · exact g3.has b ((hup b).2 ⟨z,hz,e,(hupon z hz).1 hu⟩)
          · exact g3.sub b (g2.closed a ha2 ha1 b hb)
        · exact g3.closed a ha ha2 b hb
      · have hy':C y:=h3 y (by simp)
        have c1:=g1.least C h1 h2 (fun a ha=>h3 a (List.mem_append.2 (.inl ha)))
        have c2:=g2.least C h1 (Qn c1 hy') (fun a ha=>h1 y a hy' ((honly a).2 (.inl ha)))
        exact g3.least C h1 c2 (fun a ha=>by
          obtain⟨z,hz,e,hu⟩:=(hup a).1 ha
          exact h1 y a hy' ((honly a).2 (.inr ⟨z,hz,e,(hupon z hz).2 hu⟩)))
    · have hh:=of_decide_eq_false hh
      have hno:∀ z,¬ upon s x1.Slot z:=fun z hz=>by
        obtain⟨m0,c0,m1,c1,e1,e2,e3,e4,q1,q2,q3,q4⟩:=hz
        have:m0=mc:=by omega
        subst this
        rw [hc] at e2; cases e2
        rw [if_neg (by rw [q1]; exact Bool.false_ne_true)] at hh
        exact hh q3
      refine⟨L2,g2.inv,fun a ha=>g2.sub a (List.mem_append.2 (.inl (g1.sub a ha))),Qn (fun a ha=>g2.sub a (List.mem_append.2 (.inl (g1.has a ha)))) (g2.sub y (by simp)),fun a ha hn b hb=>?_,fun C h1 h2 h3=>?_⟩
      · by_cases ha1:a∈L1++[y]
        · rcases List.mem_append.1 ha1 with ha1 | ha1
          · exact g2.sub b (List.mem_append.2 (.inl (g1.closed a ha1 hn b hb)))
          · rw [List.mem_singleton] at ha1; subst ha1
            rcases (honly b).1 hb with h | ⟨z,hz,e,hu⟩
            · exact g2.has b h
            · exact(hno _ hu).elim
        · exact g2.closed a ha ha1 b hb
      · have hy':C y:=h3 y (by simp)
        exact g2.least C h1 (Qn (g1.least C h1 h2 (fun a ha=>h3 a (List.mem_append.2 (.inl ha)))) hy') (fun a ha=>h1 y a hy' ((honly a).2 (.inl ha)))
structure G64 (s:H2) (l:List Stowed) (ids:List Int) (r:List Int):Prop where
  sorted:r.Pairwise (· < ·)
  seeds:∀ a∈ids,a∈r
  closed:∀ a∈r,∀ b,Pl s l a b→b∈r
  least:∀ C:Int→Prop,(∀ a b,C a→Pl s l a b→C b)→(∀ a∈ids,C a)→∀ a∈r,C a
theorem G64.eq {s:H2} {l:List Stowed} {ids r r':List Int} (h:G64 s l ids r) (h':G64 s l ids r'):r=r':=
  J4c h.sorted h'.sorted (fun x=>⟨fun hx=>h.least (·∈r') (fun a b ha hp=>h'.closed a ha b hp) h'.seeds x hx,fun hx=>h'.least (·∈r) (fun a b ha hp=>h.closed a ha b hp) h.seeds x hx⟩)
def J2b (s:H2) (boxes:List Gg) (l:List Stowed) (ids:List Int) (r:List Int×Int):Prop:=
  (¬ (H0a s∧Gcc s boxes l)∧r=([],2))∨(H0a s∧Gcc s boxes l∧((¬ (∀ a∈ids,a∈l.map (·.Gg))∧r=([],6))∨((∀ a∈ids,a∈l.map (·.Gg))∧r.2=0∧G64 s l ids r.1)))
theorem J2b.eq {s:H2} {boxes:List Gg} {l:List Stowed} {ids:List Int} {r r':List Int×Int} (h:J2b s boxes l ids r) (h':J2b s boxes l ids r'):r=r':=by
  rcases h with ⟨h1,h2⟩ | ⟨h1,h2,h3⟩ <;> rcases h' with ⟨k1,k2⟩ | ⟨k1,k2,k3⟩
  · rw [h2,k2]
  · exact(h1 ⟨k1,k2⟩).elim
  · exact(k1 ⟨h1,h2⟩).elim
  · rcases h3 with ⟨h3,h4⟩ | ⟨h3,h4,h5⟩ <;> rcases k3 with ⟨k3,k4⟩ | ⟨k3,k4,k5⟩
    · rw [h4,k4]
    · exact(h3 k3).elim
    · exact(k3 h3).elim
    · exact Prod.ext (h5.eq k5) (h4.trans k4.symm)
theorem has_keys (m:Ho Int Unit) (a:Int):a∈(Ho.l m).map (·.1) ↔ Ho.has m a=true:=by
  unfold Ho.has Gc2
  simp
theorem prog_reach {F:Nat} {s:H2} {boxes:List Gg} {l:List Stowed} {ids:List Int} (hp:∀ c∈s.Columns,c.Plugs.length≤1048576) (hr:∀ x∈s.Covers,x.Rows.length≤1000000) (hc:s.Covers.length≤1000000) (hl:l.length≤1000) (hF:l.length+1≤F) :
    Wp (Z3 F s boxes l ids) (J2b s boxes l ids):=by
  unfold Z3
  refine Hs (wp_mono (Q':=fun r=>r=true ↔ H0a s∧Gcc s boxes l) ?_ (fun r4 h4=>J3 (fun h=>Gt (.inl ⟨fun hh=>?_,rfl⟩)) (fun h=>?_)))
  · unfold G19
    exact Hs (wp_mono (prog_stow (boxes:=boxes) (l:=l) hp (fun x hx=>by have:=hr x hx; omega) (by omega)) (fun r hr=>Gt hr))
  · rw [h4.2 hh] at h; cases h
  obtain⟨hS,hR⟩:=h4.1 (by simpa using h)
  have hB:Brd s boxes l:=⟨hS,hR,hr,hc,hl⟩
  refine Qi (fun pre _=>∀ a∈pre,a∈l.map (·.Gg)) (fun a ha=>(List.not_mem_nil ha).elim) (fun pre y post u nx e hI hnx=>H1 (Je4 l y) ?_) (fun u hI=>?_)
  · rcases G6a (fun x:Stowed=>decide (x.Gg=y)) l with ⟨h1,h2,_⟩ | ⟨q,x,h1,h2,h3,_⟩
    · rw [h1]
      refine J3 (fun _=>Gt (.inr ⟨hS,hR,.inl ⟨fun hh=>?_,rfl⟩⟩)) (fun h=>absurd (of_decide_eq_false h) (by omega))
      obtain⟨x,hx,hb⟩:=List.mem_map.1 (hh y (by rw [e]; simp))
      have:=h2 x hx; rw [decide_eq_true hb] at this; cases this
    · rw [h1]
      refine J3 (fun h=>absurd (of_decide_eq_true h) (by omega)) (fun _=>hnx _ (Qn hI (List.mem_map.2 ⟨x,List.mem_of_getElem? h2,of_decide_eq_true h3⟩)))
  · refine Hs (wp_mono (reach_add hB F ids _ [] .start hI (by simp; omega)) (fun m hm=>?_))
    obtain⟨L,g⟩:=hm
    have hn:=m.nd
    have hkl:(Ho.l m).length≤l.length:=by
      have:((Ho.l m).map (·.1)).length≤(l.map (·.Gg)).length:=hn.length_le_of_subset (fun a ha=>by
        rw [has_keys,g.inv.has] at ha
        exact g.inv.sub a (of_decide_eq_true ha))
      simpa using this
    have hse:G84 ((Ho.l m).map (·.1))=some (G78 ((Ho.l m).map (·.1))):=by
      unfold G84
      rw [decide_eq_true (show ((Ho.l m).map (·.1)).length < 4611686018427387904 by rw [List.length_map]; omega)]
      rfl
    refine G0b (decide_eq_true ⟨by omega,by simp only [maxLen]; omega⟩) (H1 hse (Gt (.inr ⟨hS,hR,.inr ⟨hI,rfl,?_⟩⟩)))
    have hpm:=Gb7 ((Ho.l m).map (·.1))
    have hmem:∀ a,a∈G78 ((Ho.l m).map (·.1)) ↔ a∈L:=fun a=>by
      rw [hpm.mem_iff,has_keys,g.inv.has,decide_eq_true_eq]
    refine⟨?_,fun a ha=>(hmem a).2 (g.has a ha),fun a ha b hb=>(hmem b).2 (g.closed a ((hmem a).1 ha) (by simp) b hb),fun C h1 h2 a ha=>g.least C h1 (fun a ha=>(List.not_mem_nil ha).elim) h2 a ((hmem a).1 ha)⟩
    have hnd:(G78 ((Ho.l m).map (·.1))).Nodup:=hpm.nodup_iff.2 hn
    exact(List.pairwise_and_iff.2 ⟨G93 _,hnd⟩).imp (fun {a b} h=>by have h1:=h.1; have h2:=h.2; omega)
end Go.Proofs.YthcpolfodgjekaaGreat
