/-
 What has to be lf so that some boxes can be: What has to be lf so that some boxes can be: States that are right,of any ship: What can be put,taken,opened and closed. What Free,Take,Open,Close and Put return,of states that are What Put returns,and that states stay right. What the reference's Put tells,of a state that is right. States with a box more or less are right. StowMoves: StowMoves: What a simulator's maps hold,and what the methods that only What a move needs,what it brings about,and that it can be un
-/
import Derived.Test.YtmfhaflabpnaoaaGreatStowA
set_option maxRecDepth 100000
set_option linter.unusedVariables false
namespace Go.Proofs.YtmfhaflabpnaoaaGreat
open Go.RowKit
instance (a b:Slot):Decidable (H08 a b):=by unfold H08 G76; infer_instance
def H3a (l:List G3) (x:Slot):List Int:=(l.filter (fun y=>decide (H08 y.Slot x))).map (·.Box)
theorem Hf5 {l:List G3} {x:Slot} {b:Int}:b∈H3a l x ↔ ∃ y∈l,y.Box=b∧H08 y.Slot x:=by
  unfold H3a
  rw [Mi]
  constructor
  · rintro⟨y,hy,e⟩
    rw [Mm,Mf] at hy
    exact⟨y,hy.1,e,hy.2⟩
  · rintro⟨y,hy,e,h⟩
    exact⟨y,Mm.2 ⟨hy,Ky h⟩,e⟩
theorem R17 {α β R:Type} {Q:R→Prop} {p:α→Bool} {f:α→β} {b:α→Nat→List β→(List β→Option R)→Option R} {kx:List β→Option R} {l:List α} (hl:l.length≤1000000)
    (hb:∀ x i st nx,x∈l→st.length≤1000000→(p x=true→Wp (nx (st++[f x])) Q)→(p x=false→Wp (nx st) Q)→Wp (b x i st nx) Q) (hk:Wp (kx ((l.filter p).map f)) Q):Wp (each b kx l 0 []) Q:=by
  refine Q8 (fun pre st=>st=(pre.filter p).map f) rfl (fun pre x post st nx e hI h0=>?_) (fun st hI=>by rw [hI]; exact hk)
  subst hI
  have h1:((pre.filter p).map f).length≤pre.length:=by rw [Mg]; exact Kt _ _
  have h2:pre.length≤l.length:=by rw [e]; simp
  refine hb x _ _ nx (by rw [e]; simp) (by omega) (fun h=>h0 _ ?_) (fun h=>h0 _ ?_)
  · rw [List.filter_append,List.map_append,List.filter_cons_of_pos h]; rfl
  · rw [List.filter_append,List.map_append,List.filter_cons_of_neg (by rw [h]; exact Bool.false_ne_true)]; simp
theorem Qfd {β:Type} {st:List β} {y:β} (h:st.length≤1000000):decide ((st.length+[y].length)*8≤140737488355328∧st.length+[y].length≤maxLen)=true:=by
  refine Ky ⟨?_,?_⟩
  · rw [Md]; omega
  · rw [Md]; simp only [maxLen]; omega
def R83 (l:List G3) (id:Int):List Int×Int:=match J7c l id with
  | some x=>(H3a l x.Slot,0)
  | none=>([],6)
theorem Rd9 (l:List G3) (id:Int) (hl:l.length≤1000000):Z8 l id=some (R83 l id):=by
  refine Z3 ?_
  unfold Z8 R83
  refine Gy (Q1d l id) ?_
  unfold J7c
  rcases Gc1 (fun x:G3=>decide (x.Box=id)) l with ⟨h1,_,h3⟩ | ⟨m,x,h1,h2,_,h4⟩
  · rw [h1,h3]
    exact Hb (fun _=>Gg rfl) (fun h=>absurd (Kx h) (by omega))
  · rw [h1,h4]
    refine Hb (fun h=>absurd (Kw h) (by omega)) (fun _=>?_)
    refine R17 (p:=fun y=>decide (H08 y.Slot x.Slot)) (f:=(·.Box)) hl (fun y i st nx hy h0 ht hf=>?_) (Gg rfl)
    refine Hca (fun j=>j=if H08 y.Slot x.Slot then st++[y.Box] else st) (fun K hK=>?_) (fun j hj=>?_)
    · refine Zr rfl h2 (H8 (wp_mono (Y0a y.Slot x.Slot) (fun r hr=>Hb (fun h=>Zq (Qfd h0) (hK _ ?_)) (fun h=>hK _ ?_))))
      · rw [if_pos (hr.1 h)]
      · rw [if_neg (fun ho=>by rw [hr.2 ho] at h; cases h)]
    · by_cases ho:H08 y.Slot x.Slot
      · rw [hj,if_pos ho]; exact ht (Ky ho)
      · rw [hj,if_neg ho]; exact hf (Kz ho)
/-! ### Columns under and upon covers -/
/-! ### The least closed set -/
def Pl (s:G6) (l:List G3) (a b:Int):Prop:=∃ x∈l,x.Box=a∧∃ y∈l,y.Box=b∧(H08 y.Slot x.Slot∨upon s x.Slot y.Slot)
theorem Jd4 {l:List G3} (h:l.Pairwise (fun a b=>a.Box < b.Box)) {x y:G3} (hx:x∈l) (hy:y∈l) (e:x.Box=y.Box):x=y:=by
  obtain⟨i,hi,rfl⟩:=List.mem_iff_getElem.1 hx
  obtain⟨j,hj,rfl⟩:=List.mem_iff_getElem.1 hy
  have hp:=List.pairwise_iff_getElem.1 h
  rcases Nat.lt_trichotomy i j with g | g | g
  · have:=hp i j hi hj g; omega
  · subst g; rfl
  · have:=hp j i hj hi g; omega
structure Brd (s:G6) (boxes:List Box) (l:List G3):Prop where
  ship:H06 s
  right:G27 s boxes l
  rows:∀ x∈s.Covers,x.Rows.length≤1000000
  covs:s.Covers.length≤1000000
  len:l.length≤1000
theorem Brd.col {s:G6} {boxes:List Box} {l:List G3} (h:Brd s boxes l) {x:G3} (hx:x∈l):Y36 s x.Slot:=by
  obtain⟨b,_,h1,_⟩:=h.right.each x hx
  exact Q15 h1
structure Gdc (s:G6) (l:List G3) (ids:List Int) (r:List Int):Prop where
  sorted:r.Pairwise (· < ·)
  seeds:∀ a∈ids,a∈r
  closed:∀ a∈r,∀ b,Pl s l a b→b∈r
  least:∀ C:Int→Prop,(∀ a b,C a→Pl s l a b→C b)→(∀ a∈ids,C a)→∀ a∈r,C a
theorem Gdc.eq {s:G6} {l:List G3} {ids r r':List Int} (h:Gdc s l ids r) (h':Gdc s l ids r'):r=r':=
  H23 h.sorted h'.sorted (fun x=>⟨fun hx=>h.least (·∈r') (fun a b ha hp=>h'.closed a ha b hp) h'.seeds x hx,fun hx=>h'.least (·∈r) (fun a b ha hp=>h.closed a ha b hp) h.seeds x hx⟩)
def R86 (s:G6) (boxes:List Box) (l:List G3) (ids:List Int) (r:List Int×Int):Prop:=
  (¬ (H06 s∧G27 s boxes l)∧r=([],2))∨(H06 s∧G27 s boxes l∧((¬ (∀ a∈ids,a∈l.map (·.Box))∧r=([],6))∨((∀ a∈ids,a∈l.map (·.Box))∧r.2=0∧Gdc s l ids r.1)))
theorem R86.eq {s:G6} {boxes:List Box} {l:List G3} {ids:List Int} {r r':List Int×Int} (h:R86 s boxes l ids r) (h':R86 s boxes l ids r'):r=r':=by
  rcases h with ⟨h1,h2⟩ | ⟨h1,h2,h3⟩ <;> rcases h' with ⟨k1,k2⟩ | ⟨k1,k2,k3⟩
  · rw [h2,k2]
  · exact(h1 ⟨k1,k2⟩).elim
  · exact(k1 ⟨h1,h2⟩).elim
  · rcases h3 with ⟨h3,h4⟩ | ⟨h3,h4,h5⟩ <;> rcases k3 with ⟨k3,k4⟩ | ⟨k3,k4,k5⟩
    · rw [h4,k4]
    · exact(h3 k3).elim
    · exact(k3 h3).elim
    · exact Prod.ext (h5.eq k5) (h4.trans k4.symm)
theorem Rd7 {s:G6} {m:Nat} {c:G1} (hc:s.Columns[m]? = some c):Y7 s (m:Int)=some (if c.Deck=true then -1 else Qo s c):=by
  refine Z3 ?_
  unfold Y7
  exact Zr rfl hc (Hb (fun h=>Gg (by rw [if_pos h])) (fun h=>Gy (J70 hc) (Gg (by rw [if_neg (by rw [h]; exact Bool.false_ne_true)]))))
theorem Rd3 {s:G6} {m:Nat} {c:G1} {k:Int} (hc:s.Columns[m]? = some c):Yg s (m:Int) k=some (c.Deck&&decide (Qo s c=k)):=by
  refine Z3 ?_
  unfold Yg
  refine Zr rfl hc ?_
  cases hd:c.Deck with
  | true=>exact Gy (J70 hc) (Gg rfl)
  | false=>exact H8 (Gg (Gg rfl))
structure MkR (s:G6) (l:List G3) (ids:List Int) (pre:List Int) (bs:List Bool):Prop where
  len:bs.length=l.length
  seeds:∀ a∈pre,∃ (i:Nat) (x:G3),l[i]? = some x∧x.Box=a∧bs[i]? = some true
  sound:∀ (i:Nat) (x:G3),l[i]? = some x→bs[i]? = some true→∀ C:Int→Prop,(∀ a b,C a→Pl s l a b→C b)→(∀ a∈ids,C a)→C x.Box
theorem MkR.set {s:G6} {l:List G3} {ids pre:List Int} {bs:List Bool} (h:MkR s l ids pre bs) {k:Nat} {y:G3} (hy:l[k]? = some y) (hs:∀ C:Int→Prop,(∀ a b,C a→Pl s l a b→C b)→(∀ a∈ids,C a)→C y.Box):MkR s l ids pre (bs.set k true):=by
  refine⟨by rw [List.length_set]; exact h.len,fun a ha=>?_,fun i x hx hb=>?_⟩
  · obtain⟨i,x,h1,h2,h3⟩:=h.seeds a ha
    refine⟨i,x,h1,h2,?_⟩
    by_cases e:k=i
    · subst e
      rw [List.getElem?_set_self (M0 h3).1]
    · rw [List.getElem?_set_ne e]; exact h3
  · by_cases e:k=i
    · subst e
      rw [hy] at hx; cases hx
      exact hs
    · rw [List.getElem?_set_ne e] at hb
      exact h.sound i x hx hb
structure CovG (s:G6):Prop where
 len:s.Covers.length≤40
structure Q4d (s:G6):Prop where
 small:Small s
 ship:H06 s
 plugs:∀ c∈s.Columns,c.Plugs.length≤1048576
 covs:CovG s
theorem H7a {s:G6} (h:Q4d s):Small s:=h.small
theorem R0b {s:G6} (h:Q4d s):H06 s:=h.ship
theorem Gdc.mem {s:G6} {l:List G3} {ids r:List Int} (h:Gdc s l ids r) (hi:∀ a∈ids,a∈l.map (·.Box)):∀ a∈r,a∈l.map (·.Box):=
 h.least (·∈l.map (·.Box)) (fun a b _ hp=>by
  obtain⟨x,_,_,y,hy,e,_⟩:=hp
  exact Mi.2 ⟨y,hy,e⟩) hi
theorem Gdc.mono {s:G6} {l:List G3} {ids ids' r r':List Int} (h:Gdc s l ids r) (h':Gdc s l ids' r') (hi:∀ a∈ids,a∈ids'):∀ a∈r,a∈r':=
 h.least (·∈r') (fun a b ha hp=>h'.closed a ha b hp) (fun a ha=>h'.seeds a (hi a ha))
theorem Gdc.len {s:G6} {l:List G3} {ids r:List Int} (h:Gdc s l ids r) (hi:∀ a∈ids,a∈l.map (·.Box)):r.length≤l.length:=by
 have:=(G34 h.sorted).length_le_of_subset (fun a ha=>h.mem hi a ha)
 simpa using this
structure Sta (s:G6) (boxes:List Box) (l:List G3):Prop where
 ship:Q4d s
 right:G27 s boxes l
 len:l.length≤200
theorem Sta.colIn {s:G6} {boxes:List Box} {l:List G3} (h:Sta s boxes l) {x:G3} (hx:x∈l):Y36 s x.Slot:=by
 obtain⟨b,_,h1,_⟩:=h.right.each x hx
 exact Q15 h1
structure Q44 (s:G6) (o:List Int):Prop where
 mem:∀ y∈o,0≤y∧y < (s.Covers.length:Int)
 sorted:o.Pairwise (· < ·)
theorem Rdd {s:G6}:Q44 s []:=⟨fun y hy=>(M4 hy).elim,List.Pairwise.nil⟩
theorem Q44.len {s:G6} {o:List Int} (h:Q44 s o):o.length≤s.Covers.length:=by
 have hn:o.Nodup:=G34 h.sorted
 have:=hn.length_le_of_subset (l₂:=(List.range s.Covers.length).map (fun n:Nat=>(n:Int))) (fun a ha=>by
  obtain⟨h1,h2⟩:=h.mem a ha
  exact Mi.2 ⟨a.toNat,List.mem_range.2 (by omega),by omega⟩)
 simpa using this
theorem Y94 {m:Option Bool} {p:Prop} [Decidable p] (h:Wp m (fun r=>r=true ↔ p)):m=some (decide p):=by
 obtain⟨r,hr,h⟩:=h
 rw [hr]
 congr 1
 cases r with
 | false=>exact(Kz (fun hp=>by have:=h.2 hp; cases this)).symm
 | true=>exact(Ky (h.1 rfl)).symm
instance (a b:Slot):Decidable (Gc8 a b):=by unfold Gc8 G76; infer_instance
def H6a (s:G6) (o:List Int) (x:Slot):Prop:=∃ (m:Nat) (c:G1),x.G1=(m:Int)∧s.Columns[m]? = some c∧c.Deck=false∧0≤Qo s c∧Qo s c ∉ o
def J10 (s:G6) (l:List G3) (k:Int):Prop:=∀ y∈l,∀ (m:Nat) (c:G1),y.Slot.G1=(m:Int)→s.Columns[m]? = some c→c.Deck=true→Qo s c≠k
theorem R1e {boxes:List Box} {m half n:Int} {x:G3}:Gd6 boxes m half n x=n+Gd6 boxes m half 0 x:=by
 unfold Gd6
 split
 ·cases Jp boxes x.Box with
  | some b=>simp only; omega
  | none=>simp
 ·simp
theorem J29 {boxes:List Box} {m half:Int}:∀ (l:List G3) (n:Int),l.foldl (Gd6 boxes m half) n=n+l.foldl (Gd6 boxes m half) 0:=by
 intro l
 induction l with
 | nil=>intro n; simp
 | cons x r ih=>
  intro n
  rw [List.foldl_cons,List.foldl_cons,ih (Gd6 boxes m half n x),ih (Gd6 boxes m half 0 x),R1e (n:=n)]
  omega
theorem Hac {boxes:List Box} {m half:Int} (pre post:List G3) (x:G3):Rs boxes (pre++x::post) m half=Rs boxes (pre++post) m half+Gd6 boxes m half 0 x:=by
 unfold Rs
 rw [List.foldl_append,List.foldl_cons,List.foldl_append,J29 post (Gd6 boxes m half _ x),J29 post (List.foldl _ 0 pre),R1e]
 omega
theorem Q3d {boxes:List Box} {m half n:Int} {x:G3} (h:x.Slot.G1≠m):Gd6 boxes m half n x=n:=by
 unfold Gd6
 rw [if_neg (fun hh=>h hh.1)]
theorem G81 {l:List G3} {y:Slot} {half:Int} (h:below (l.map (·.Slot)) y half):∃ z∈l,z.Slot=⟨y.G1,y.Tier - 1,half⟩:=by
 obtain⟨z,hz,e⟩:=Mi.1 h
 exact⟨z,hz,e⟩
theorem Q8e {pre post:List G3} {x:G3} {y:Slot} (hn:¬ H08 y x.Slot) (h:Gce y ((pre++x::post).map (·.Slot))):Gce y ((pre++post).map (·.Slot)):=by
 have key:∀ half,(half=y.Half∨y.Half=0)→below ((pre++x::post).map (·.Slot)) y half→below ((pre++post).map (·.Slot)) y half:=fun half hh hb=>by
  obtain⟨z,hz,e⟩:=G81 hb
  refine Mi.2 ⟨z,?_,e⟩
  have h3:z≠x:=fun e2=>hn (by
   subst e2
   rw [e]
   refine⟨rfl,by simp only; omega,?_⟩
   rcases hh with hh | hh
   ·exact .inl hh.symm
   ·exact .inr (.inl hh))
  simp only [Mh,Mk] at hz ⊢
  rcases hz with hz | hz | hz
  ·exact .inl hz
  ·exact(h3 hz).elim
  ·exact .inr hz
 rcases h with h | h | ⟨h0,h1,h2⟩
 ·exact .inl h
 ·exact .inr (.inl (key _ (.inl rfl) h))
 ·exact .inr (.inr ⟨h0,key _ (.inr h0) h1,key _ (.inr h0) h2⟩)
theorem Ra7 {pre post:List G3} {x y:G3} (h:y∈pre++post):y∈pre++x::post:=by
 simp only [Mh,Mk] at h ⊢
 rcases h with h | h
 ·exact .inl h
 ·exact .inr (.inr h)
theorem R6a {s:G6} {boxes:List Box} {pre post:List G3} {x:G3} (h:G27 s boxes (pre++x::post)) (ho:H3a (pre++x::post) x.Slot=[]):G27 s boxes (pre++post):=by
 have h0:(pre++post).Sublist (pre++x::post):=List.Sublist.append_left (List.sublist_cons_self ..) _
 refine⟨fun y hy=>?_,h.sorted.sublist h0,h.apart.sublist h0,fun m c hc=>?_⟩
 ·obtain⟨b,h1,h2,h3⟩:=h.each y (Ra7 hy)
  refine⟨b,h1,h2,Q8e (fun hv=>?_) h3⟩
  have:y.Box∈H3a (pre++x::post) x.Slot:=Hf5.2 ⟨y,Ra7 hy,rfl,hv⟩
  rw [ho] at this; cases this
 ·have:=h.fits m c hc
  unfold H1b at this ⊢
  rw [Hac,Hac] at this
  have a1:=(J56 (boxes:=boxes) (column:=(m:Int)) (half:=1) (n:=0) (x:=x)).1
  have a2:=(J56 (boxes:=boxes) (column:=(m:Int)) (half:=2) (n:=0) (x:=x)).1
  rcases this with h | ⟨h,h'⟩
  ·exact .inl h
  ·exact .inr ⟨by omega,by omega⟩
def He9 (l:List G3) (x:G3) (r:List G3):Prop:=∃ pre post,l=pre++post∧r=pre++x::post∧(∀ y∈pre,y.Box < x.Box)∧(∀ y,post.head? = some y→x.Box≤y.Box)
def Hbd (s:G6) (o:List Int) (x:Slot):Prop:=∃ (m:Nat) (c:G1),x.G1=(m:Int)∧s.Columns[m]? = some c∧0≤Qo s c∧(c.Deck=true ↔ Qo s c∈o)
def Qc5 (l:List G3) (x:Slot):Prop:=∃ y∈l,Gc8 x y.Slot
def Qcb (s:G6) (boxes:List Box) (q:List G3) (x:Slot):Prop:=∀ (m:Nat) (c:G1),x.G1=(m:Int)→s.Columns[m]? = some c→H1b boxes q m c
def Y67 (s:G6) (boxes:List Box) (l:List G3) (o:List Int) (x:G3) (size:Int) (r:List G3×Int):Prop:=
 (¬ Ga4 s x.Slot size∧r=([],97))∨(Ga4 s x.Slot size∧((Hbd s o x.Slot∧r=([],91))∨(¬ Hbd s o x.Slot∧((Qc5 l x.Slot∧r=([],92))∨(¬ Qc5 l x.Slot∧((¬ Gce x.Slot (l.map (·.Slot))∧r=([],93))∨(Gce x.Slot (l.map (·.Slot))∧∃ q,He9 l x q∧((¬ Qcb s boxes q x.Slot∧r=([],94))∨(Qcb s boxes q x.Slot∧r=(q,0))))))))))
theorem G64 {l q:List G3} {x:G3} (h:He9 l x q):q.Perm (x::l):=by
 obtain⟨pre,post,rfl,rfl,_⟩:=h
 exact List.perm_middle
theorem Gc0 {l q:List G3} {x:G3} (h:He9 l x q) (hs:l.Pairwise (fun a b=>a.Box < b.Box)) (hx:x.Box ∉ l.map (·.Box)):q.Pairwise (fun a b=>a.Box < b.Box):=by
 obtain⟨pre,post,rfl,rfl,h1,h2⟩:=h
 obtain⟨s1,s2,s3⟩:=List.pairwise_append.1 hs
 refine List.pairwise_append.2 ⟨s1,List.pairwise_cons.2 ⟨fun y hy=>?_,s2⟩,fun a ha b hb=>?_⟩
 ·have h0:x.Box≠y.Box:=fun e=>hx (Mi.2 ⟨y,Mh.2 (.inr hy),e.symm⟩)
  cases post with
  | nil=>cases hy
  | cons z r=>
   have h3:=h2 z rfl
   rcases Mk.1 hy with rfl | hy
   ·omega
   ·have:=(List.pairwise_cons.1 s2).1 y hy
    omega
 ·rcases Mk.1 hb with rfl | hb
  ·exact h1 a ha
  ·exact s3 a ha b hb
theorem H59 {a b:List G3} (hp:a.Perm b) (ha:a.Pairwise (fun x y=>x.Box < y.Box)) (hb:b.Pairwise (fun x y=>x.Box < y.Box)):a=b:=
 List.Perm.eq_of_pairwise (le:=fun x y:G3=>x.Box < y.Box) (fun x y _ _ h1 h2=>by omega) ha hb hp
theorem Ja6 {a b:Int} (h:G76 a b):G76 b a:=by
 unfold G76 at h ⊢
 omega
theorem H2e {a b:Slot} (h:Gc8 a b):Gc8 b a:=⟨h.1.symm,h.2.1.symm,Ja6 h.2.2⟩
theorem J24 (o:List Int) (v:Int):Q3 o v=some (decide (v∈o)):=by
 refine Z3 ?_
 unfold Q3
 refine Q8 (fun pre _=>v ∉ pre) (fun h=>(M4 h).elim) (fun pre y post u nx e hI h0=>Hb (fun h=>Gg ?_) (fun h=>h0 _ ?_)) (fun u hI=>Gg (Kz hI).symm)
 ·have h:=Kw h
  exact(Ky (by rw [e,h]; simp)).symm
 ·have h:=Kx h
  rw [Mh,Mj]
  exact fun hh=>hh.elim hI (fun e=>h e.symm)
theorem R19 {β:Type} {Q:β→Prop} {k x:Int} {o:List Int} {s:G6} {m:Nat} {c:G1} {A B:Option β} (hm:x=(m:Int)) (hc:s.Columns[m]? = some c) (ha:(0≤k∧(c.Deck=true ↔ k∈o))→Wp A Q) (hb:¬ (0≤k∧(c.Deck=true ↔ k∈o))→Wp B Q) :
  Wp (bnd (bif decide (0≤k) then Qr s.Columns x some else some default) fun y24=>
   bnd (bif ((decide (0≤k))&&y24.Deck) then Q3 o k else some default) fun r25=>
   bnd (bif ((!(((decide (0≤k))&&y24.Deck)&&r25))&&(decide (0≤k))) then Qr s.Columns x some else some default) fun y26=>
   bnd (bif ((!(((decide (0≤k))&&y24.Deck)&&r25))&&((decide (0≤k))&&(!y26.Deck))) then Q3 o k else some default) fun r27=>
   bif ((((decide (0≤k))&&y24.Deck)&&r25)||(((decide (0≤k))&&(!y26.Deck))&&(!r27))) then A else B) Q:=by
 subst hm
 by_cases hk:0≤k
 ·rw [Ky hk,G2e hc,J24]
  simp only [cond_true,Bool.true_and,Qt]
  cases hd:c.Deck with
  | true=>
   by_cases ho:k∈o
   ·rw [Ky ho]
    simp only [cond_true,cond_false,Bool.true_and,Bool.and_true,Bool.not_true,Bool.false_and,Qt,Bool.true_or]
    exact ha ⟨hk,fun _=>ho,fun _=>hd⟩
   ·rw [Kz ho]
    simp only [cond_true,cond_false,Bool.true_and,Bool.and_true,Bool.not_true,Bool.not_false,Bool.false_and,Bool.and_false,Qt,Bool.false_or,hd]
    exact hb (fun h=>ho (h.2.1 hd))
  | false=>
   by_cases ho:k∈o
   ·rw [Ky ho]
    simp only [cond_true,cond_false,Bool.true_and,Bool.and_true,Bool.not_true,Bool.not_false,Bool.false_and,Bool.and_false,Qt,Bool.false_or,hd]
    exact hb (fun h=>by have:=h.2.2 ho; rw [hd] at this; cases this)
   ·rw [Kz ho]
    simp only [cond_true,cond_false,Bool.true_and,Bool.and_true,Bool.not_true,Bool.not_false,Bool.false_and,Bool.and_false,Qt,Bool.false_or,hd]
    exact ha ⟨hk,fun h=>(by rw [hd] at h; cases h),fun h=>(ho h).elim⟩
 ·rw [Kz hk]
  simp only [cond_false,Qt,Bool.false_and,Bool.and_false,Bool.or_self]
  exact hb (fun h=>hk h.1)
theorem Qb2 {st:List G3} {y:G3} (h:st.length≤1000):decide ((st.length+[y].length)*32≤140737488355328∧st.length+[y].length≤maxLen)=true:=by
 refine Ky ⟨?_,?_⟩
 ·rw [Md]; omega
 ·rw [Md]; simp only [maxLen]; omega
theorem Rd5 {F:Nat} {s:G6} {boxes:List Box} {l:List G3} {o:List Int} (h:Sta s boxes l) (hC:Hv F s boxes l o=some true) {x:G3} {b:Box} (hb:Jp boxes x.Box=some b) (hz:b.Size=20∨b.Size=40) (hx:x.Box ∉ l.map (·.Box)) :
  Wp (G00 F s boxes l o x) (Y67 s boxes l o x b.Size):=by
 have hs:=H7a h.ship
 have hl:=h.len
 unfold G00
 refine Gy hC (Hb (fun h=>by cases h) (fun _=>Gy (J48 boxes x.Box) ?_))
 rw [hb]
 refine Hb (fun hh=>?_) (fun _=>Gy (Q1d l x.Box) (Hb (fun hh=>?_) (fun _=>Z2 ⟨by show (-9223372036854775808:Int)≤b.Size; omega,by show b.Size≤9223372036854775807; omega⟩ ?_)))
 ·simp only [Bool.not_true,Bool.false_or,Me,Mf] at hh
  omega
 ·rw [H04,List.any_eq_true] at hh
  obtain⟨y,hy,e⟩:=hh
  exact(hx (Mi.2 ⟨y,hy,Kw e⟩)).elim
 refine H8 (wp_mono (R01 s x.Slot b.Size) (fun r18 h7=>Hb (fun hh=>Gg (.inl ⟨fun hk=>?_,rfl⟩)) (fun hh=>?_)))
 ·rw [h7.2 hk] at hh; cases hh
 have h0:Ga4 s x.Slot b.Size:=h7.1 (by simpa using hh)
 have h6 : -1000000≤x.Slot.Tier∧x.Slot.Tier≤1000000:=by
  obtain⟨m,c,_,hc,ht⟩:=h0.col
  have:=hs.tiers c (M3 hc)
  have:=h0.tier
  omega
 obtain⟨m,c,hm,hc,_⟩:=h0.col
 have h8:Hbd s o x.Slot ↔ (0≤Qo s c∧(c.Deck=true ↔ Qo s c∈o)):=by
  constructor
  ·rintro⟨m',c',e1,e2,e3⟩
   have:m'=m:=by omega
   subst this
   rw [hc] at e2; cases e2
   exact e3
  ·exact fun e=>⟨m,c,hm,hc,e⟩
 have a0:Qn s x.Slot.G1=some (Qo s c):=by rw [hm]; exact J70 hc
 refine Gy a0 (R19 hm hc (fun hk=>Gg (.inr ⟨h0,.inl ⟨h8.2 hk,rfl⟩⟩)) (fun hk=>?_))
 have h3:¬ Hbd s o x.Slot:=fun hh=>hk (h8.1 hh)
 refine Q8 (fun pre _=>∀ y∈pre,¬ Gc8 x.Slot y.Slot) (fun y hy=>(M4 hy).elim) (fun pre y post u nx e hI h5=>H8 (wp_mono (R02 y.Slot x.Slot) (fun r hr=>Hb (fun hh=>Gg (.inr ⟨h0,.inr ⟨h3,.inl ⟨⟨y,by rw [e]; simp,H2e (hr.1 hh)⟩,rfl⟩⟩⟩)) (fun hh=>h5 _ (Y0 (P:=fun y:G3=>¬ Gc8 x.Slot y.Slot) hI (fun hm=>by rw [hr.2 (H2e hm)] at hh; cases hh)))))) (fun u hI=>?_)
 have h1:¬ Qc5 l x.Slot:=fun⟨y,hy,hm⟩=>hI y hy hm
 refine Gy (Q82 l (by omega)) (H8 (wp_mono (R04 x.Slot (l.map (·.Slot)) h6) (fun r hr=>Hb (fun hh=>Gg (.inr ⟨h0,.inr ⟨h3,.inr ⟨h1,.inl ⟨fun hk=>?_,rfl⟩⟩⟩⟩)) (fun hh=>?_))))
 ·rw [hr.2 hk] at hh; cases hh
 have h4:=hr.1 (by simpa using hh)
 have a5:∀ y∈l,y.Box≠x.Box:=fun y hy e=>hx (Mi.2 ⟨y,hy,e⟩)
 refine Q8 (fun pre st=>st.1.length≤pre.length+1∧((st.2=false∧st.1=pre∧∀ y∈pre,y.Box < x.Box)∨(st.2=true∧∃ a d,pre=a++d∧st.1=a++x::d∧(∀ y∈a,y.Box < x.Box)∧∃ z,d.head? = some z∧x.Box < z.Box))) ⟨by simp,.inl ⟨rfl,rfl,fun y hy=>(M4 hy).elim⟩⟩ (fun pre y post st nx e hI h5=>?_) (fun st hI=>?_)
 ·obtain⟨q,t⟩:=st
  obtain⟨i0,hI⟩:=hI
  dsimp only at i0 hI ⊢
  have a6:y∈l:=by rw [e]; simp
  have b1:pre.length < l.length:=by rw [e]; simp
  have b0:=a5 y a6
  refine Hca (fun j=>j.1.length≤pre.length+1∧((j.2=false∧j.1=pre∧(∀ y∈pre,y.Box < x.Box)∧y.Box < x.Box)∨(j.2=true∧∃ a d,pre=a++d∧j.1=a++x::d∧(∀ y∈a,y.Box < x.Box)∧((d=[]∧x.Box < y.Box)∨∃ z,d.head? = some z∧x.Box < z.Box)))) (fun K hK=>Hb (fun hc=>?_) (fun hc=>hK _ ?_)) (fun j hj=>?_)
  ·simp only [Me,Bool.not_eq_true',Mf] at hc
   rcases hI with ⟨a1,a2,a3⟩ | ⟨a1,_⟩
   ·refine Zq (Qb2 (by omega)) (hK _ ⟨?_,.inr ⟨rfl,pre,[],(List.append_nil pre).symm,by rw [a2],a3,.inl ⟨rfl,hc.2⟩⟩⟩)
    show (q++[x]).length≤_
    rw [a2]; simp
   ·rw [hc.1] at a1; cases a1
  ·refine⟨i0,?_⟩
   rcases hI with ⟨a1,a2,a3⟩ | ⟨a1,a,d,e1,e2,e3,e4⟩
   ·refine .inl ⟨a1,a2,a3,?_⟩
    rw [a1] at hc
    have:¬ x.Box < y.Box:=by simpa using hc
    omega
   ·exact .inr ⟨a1,a,d,e1,e2,e3,.inr e4⟩
  ·obtain⟨q2,t2⟩:=j
   obtain⟨j0,hj⟩:=hj
   dsimp only at j0 hj ⊢
   refine Zq (Qb2 (by omega)) (h5 _ ⟨?_,?_⟩)
   ·show (q2++[y]).length≤_
    simp only [Mc,Md]; omega
   ·rcases hj with ⟨a1,a2,a3,a4⟩ | ⟨a1,a,d,e1,e2,e3,e4⟩
    ·exact .inl ⟨a1,by show q2++[y]=_; rw [a2],Y0 (P:=fun y:G3=>y.Box < x.Box) a3 a4⟩
    ·refine .inr ⟨a1,a,d++[y],by rw [e1,List.append_assoc],by show q2++[y]=_; rw [e2]; simp,e3,?_⟩
     rcases e4 with ⟨rfl,h⟩ | ⟨z,hz,h⟩
     ·exact⟨y,rfl,h⟩
     ·refine⟨z,?_,h⟩
      cases d with
      | nil=>cases hz
      | cons w r=>exact hz
 ·obtain⟨q,t⟩:=st
  obtain⟨i0,hI⟩:=hI
  dsimp only at i0 hI ⊢
  refine Hca (fun j=>He9 l x j) (fun K hK=>Hb (fun hc=>?_) (fun hc=>hK _ ?_)) (fun j h2=>?_)
  ·rcases hI with ⟨a1,a2,a3⟩ | ⟨a1,_⟩
   ·exact Zq (Qb2 (by omega)) (hK _ ⟨l,[],(List.append_nil l).symm,by rw [a2],a3,fun y hy=>by cases hy⟩)
   ·rw [a1] at hc; cases hc
  ·rcases hI with ⟨a1,a2,a3⟩ | ⟨a1,a,d,e1,e2,e3,z,e4,e5⟩
   ·rw [a1] at hc; cases hc
   ·exact⟨a,d,e1,e2,e3,fun y hy=>by rw [e4] at hy; cases hy; omega⟩
  ·have a7:j.length≤1000000:=by
    have:=(G64 h2).length_eq
    simp only [M8] at this
    omega
   have a8:0≤c.Height:=by
    have:=((R0b h.ship).col c (M3 hc)).place
    omega
   have h9:Qcb s boxes j x.Slot ↔ H1b boxes j m c:=by
    refine⟨fun hf=>hf m c hm hc,fun hf m' c' e1 e2=>?_⟩
    have:m'=m:=by omega
    subst this
    rw [hc] at e2; cases e2
    exact hf
   have a9:Wp (Rx s boxes j x.Slot.G1) (fun r=>r=true ↔ ¬ H1b boxes j m c):=by rw [hm]; exact R03 hc a8 a7
   refine H8 (wp_mono a9 (fun r hr=>Hb (fun hh=>Gg (.inr ⟨h0,.inr ⟨h3,.inr ⟨h1,.inr ⟨h4,j,h2,.inl ⟨fun hk=>hr.1 hh (h9.1 hk),rfl⟩⟩⟩⟩⟩)) (fun hh=>Gg (.inr ⟨h0,.inr ⟨h3,.inr ⟨h1,.inr ⟨h4,j,h2,.inr ⟨h9.2 ?_,rfl⟩⟩⟩⟩⟩))))
   by_cases hf:H1b boxes j m c
   ·exact hf
   ·rw [hr.2 hf] at hh; cases hh
theorem Y67.eq {s:G6} {boxes:List Box} {l:List G3} {o:List Int} {x:G3} {size:Int} {r r':List G3×Int} (hs:l.Pairwise (fun a b=>a.Box < b.Box)) (hx:x.Box ∉ l.map (·.Box)) (h:Y67 s boxes l o x size r) (h':Y67 s boxes l o x size r'):r=r':=by
 have hi:∀ {q q':List G3},He9 l x q→He9 l x q'→q=q':=fun h1 h2=>H59 ((G64 h1).trans (G64 h2).symm) (Gc0 h1 hs hx) (Gc0 h2 hs hx)
 rcases h with ⟨a,e⟩ | ⟨a,⟨b,e⟩ | ⟨b,⟨d,e⟩ | ⟨d,⟨g,e⟩ | ⟨g,q,i,⟨j,e⟩ | ⟨j,e⟩⟩⟩⟩⟩ <;> rcases h' with ⟨a',e'⟩ | ⟨a',⟨b',e'⟩ | ⟨b',⟨d',e'⟩ | ⟨d',⟨g',e'⟩ | ⟨g',q',i',⟨j',e'⟩ | ⟨j',e'⟩⟩⟩⟩⟩ <;> first | (rw [e,e']; done) | contradiction | (have hq:=hi i i'; subst hq; first | (rw [e,e']; done) | contradiction)
theorem over_self {a:Slot}:¬ H08 a a:=fun h=>by have:=h.2.1; omega
theorem Y9f {l q:List G3} {x:G3} {pre post:List G3} (h:He9 (pre++post) x q) (hs:(pre++x::post).Pairwise (fun a b=>a.Box < b.Box)):q=pre++x::post:=by
 have h0:(pre++post).Sublist (pre++x::post):=List.Sublist.append_left (List.sublist_cons_self ..) _
 obtain⟨s1,s2,s3⟩:=List.pairwise_append.1 hs
 refine H59 ((G64 h).trans List.perm_middle.symm) (Gc0 h (hs.sublist h0) (fun hm=>?_)) hs
 obtain⟨y,hy,e⟩:=Mi.1 hm
 rcases Mh.1 hy with hy | hy
 ·have:=s3 y hy x (List.mem_cons_self ..)
  omega
 ·have:=(List.pairwise_cons.1 s2).1 y hy
  omega
theorem Q8d {l q:List Slot} {x:Slot} (h:Gce x l) (hs:∀ y∈l,y∈q):Gce x q:=by
 rcases h with h | h | ⟨h0,h1,h2⟩
 ·exact .inl h
 ·exact .inr (.inl (hs _ h))
 ·exact .inr (.inr ⟨h0,hs _ h1,hs _ h2⟩)
theorem Rd2 {s:G6} {boxes:List Box} {l q:List G3} {x:G3} {b:Box} (h:G27 s boxes l) (hb:Jp boxes x.Box=some b) (h6:Ga4 s x.Slot b.Size) (h4:¬ Qc5 l x.Slot) (h7:Gce x.Slot (l.map (·.Slot))) (h0:He9 l x q) (hx:x.Box ∉ l.map (·.Box)) (h9:Qcb s boxes q x.Slot):G27 s boxes q:=by
 have hp:=G64 h0
 have h5:∀ y,y∈q ↔ y=x∨y∈l:=fun y=>by rw [hp.mem_iff,Mk]
 have h8:∀ y∈l.map (·.Slot),y∈q.map (·.Slot):=fun y hy=>by
  obtain⟨z,hz,e⟩:=Mi.1 hy
  exact Mi.2 ⟨z,(h5 z).2 (.inr hz),e⟩
 refine⟨fun y hy=>?_,Gc0 h0 h.sorted hx,?_,fun m c hc=>?_⟩
 ·rcases (h5 y).1 hy with rfl | hy
  ·exact⟨b,hb,h6,Q8d h7 h8⟩
  ·obtain⟨b',h1,h2,h3⟩:=h.each y hy
   exact⟨b',h1,h2,Q8d h3 h8⟩
 ·have ha:=h.apart
  obtain⟨pre,post,rfl,rfl,_⟩:=h0
  obtain⟨s1,s2,s3⟩:=List.pairwise_append.1 ha
  refine List.pairwise_append.2 ⟨s1,List.pairwise_cons.2 ⟨fun y hy hm=>h4 ⟨y,Mh.2 (.inr hy),H2e hm⟩,s2⟩,fun a ha b hb=>?_⟩
  rcases Mk.1 hb with rfl | hb
  ·exact fun hm=>h4 ⟨a,Mh.2 (.inl ha),hm⟩
  ·exact s3 a ha b hb
 ·by_cases he:x.Slot.G1=(m:Int)
  ·exact h9 m c he hc
  ·have:=h.fits m c hc
   obtain⟨pre,post,rfl,rfl,_⟩:=h0
   unfold H1b at this ⊢
   rw [Hac,Hac,Q3d he,Q3d he,Int.add_zero,Int.add_zero]
   exact this
theorem chain {s:G6} {boxes:List Box} {l:List G3} (h:G27 s boxes l) {t:Int} (h0:0≤t):∀ (n:Nat) (z:G3),z∈l→z.Slot.Tier=t+(n:Int)+1 →
  (∃ w∈l,w.Slot=⟨z.Slot.G1,t,z.Slot.Half⟩)∨(z.Slot.Half=0∧(∃ w∈l,w.Slot=⟨z.Slot.G1,t,1⟩)∧∃ w∈l,w.Slot=⟨z.Slot.G1,t,2⟩):=by
 intro n
 induction n with
 | zero=>
  intro z hz ht
  obtain⟨_,_,_,hh⟩:=h.each z hz
  have e:z.Slot.Tier - 1=t:=by omega
  rcases hh with hh | hh | ⟨h3,h1,h2⟩
  ·omega
  ·obtain⟨w,hw,ew⟩:=G81 hh
   rw [e] at ew
   exact .inl ⟨w,hw,ew⟩
  ·obtain⟨w,hw,ew⟩:=G81 h1
   obtain⟨v,hv,ev⟩:=G81 h2
   rw [e] at ew ev
   exact .inr ⟨h3,⟨w,hw,ew⟩,⟨v,hv,ev⟩⟩
 | succ n ih=>
  intro z hz ht
  obtain⟨_,_,_,hh⟩:=h.each z hz
  have one:∀ w∈l,∀ half,w.Slot=⟨z.Slot.G1,z.Slot.Tier - 1,half⟩→half≠0→∃ v∈l,v.Slot=⟨z.Slot.G1,t,half⟩:=fun w hw half ew h4=>by
   have:=ih w hw (by rw [ew]; simp only; omega)
   rw [ew] at this
   rcases this with h | ⟨h,_⟩
   ·exact h
   ·exact(h4 h).elim
  rcases hh with hh | hh | ⟨h3,h1,h2⟩
  ·omega
  ·obtain⟨w,hw,ew⟩:=G81 hh
   have:=ih w hw (by rw [ew]; simp only; omega)
   rw [ew] at this
   exact this
  ·obtain⟨w,hw,ew⟩:=G81 h1
   obtain⟨v,hv,ev⟩:=G81 h2
   exact .inr ⟨h3,one w hw 1 ew (by decide),one v hv 2 ev (by decide)⟩
theorem Y58 {s:G6} {boxes:List Box} {l q:List G3} {x:G3} {size:Int} (h:G27 s boxes l) (h0:Ga4 s x.Slot size) (h2:¬ Qc5 l x.Slot) (h3:He9 l x q):H3a q x.Slot=[]:=by
 refine List.eq_nil_iff_forall_not_mem.2 fun a ha=>?_
 obtain⟨z,hz,_,ho⟩:=Hf5.1 ha
 have h4:z∈l:=by
  rcases Mk.1 ((G64 h3).mem_iff.1 hz) with rfl | hz
  ·exact(over_self ho).elim
  ·exact hz
 obtain⟨o1,o2,o3⟩:=ho
 have ht:=h0.tier
 have h1:x.Slot.Half=0∨x.Slot.Half=1∨x.Slot.Half=2:=by
  have:=h0.half
  unfold Had at this
  split at this
  ·have:x.Slot.Half=0:=by simpa using this
   exact .inl this
  ·split at this
   ·have:x.Slot.Half=1∨x.Slot.Half=2:=by simpa using this
    exact .inr this
   ·cases this
 have meet:∀ w∈l,∀ half,w.Slot=⟨z.Slot.G1,x.Slot.Tier,half⟩→G76 x.Slot.Half half→False:=fun w hw half ew h5=>h2 ⟨w,hw,by rw [ew]; exact⟨o1.symm,rfl,h5⟩⟩
 rcases chain h ht ((z.Slot.Tier - x.Slot.Tier - 1).toNat) z h4 (by omega) with ⟨w,hw,ew⟩ | ⟨_,⟨w,hw,ew⟩,⟨v,hv,ev⟩⟩
 ·exact meet w hw _ ew (Ja6 o3)
 ·rcases h1 with e | e | e
  ·exact meet w hw _ ew (.inr (.inl e))
  ·exact meet w hw _ ew (.inl e)
  ·exact meet v hv _ ev (.inl e)
theorem Y50 {s:G6} {o:List Int} {x:Slot} (h:H6a s o x):Hbd s o x:=by
 obtain⟨m,c,h1,h2,h3,h4,h5⟩:=h
 exact⟨m,c,h1,h2,h4,⟨fun e=>absurd (h3.symm.trans e) Bool.false_ne_true,fun e=>(h5 e).elim⟩⟩
theorem Y16 {s:G6} {boxes:List Box} {l:List G3} {o:List Int} (hU:∀ k∈o,J10 s l k) {x:G3} (hx:x∈l) (h:¬ H6a s o x.Slot):¬ Hbd s o x.Slot:=by
 rintro⟨m,c,h1,h2,h3,h4⟩
 cases hd:c.Deck with
 | false=>exact h ⟨m,c,h1,h2,hd,h3,fun hm=>by have:=h4.2 hm; rw [hd] at this; cases this⟩
 | true=>exact hU _ (h4.1 hd) x hx m c h1 h2 hd rfl
theorem Y4f {s:G6} {x:Slot} {size:Int} (h:Ga4 s x size):size=20∨size=40:=by
 have:=h.half
 unfold Had at this
 split at this
 ·exact .inr (by assumption)
 ·split at this
  ·exact .inl (by assumption)
  ·cases this
theorem Y4b {α R:Type} {Q:R→Prop} {p:Int→Bool} {b:α→Nat→List Int→(List Int→Option R)→Option R} {kx:List Int→Option R} {xs:List α} (hl:xs.length≤1000)
  (hb:∀ y (i:Nat) st nx,st.length≤1000→(p (i:Int)=true→Wp (nx (st++[(i:Int)])) Q)→(p (i:Int)=false→Wp (nx st) Q)→Wp (b y i st nx) Q)
  (hk:∀ q:List Int,q.Pairwise (· < ·)→(∀ a,a∈q ↔ 0≤a∧a < (xs.length:Int)∧p a=true)→Wp (kx q) Q):Wp (each b kx xs 0 []) Q:=by
 refine Q8 (fun pre q=>q.length≤pre.length∧q.Pairwise (· < ·)∧∀ a:Int,a∈q ↔ 0≤a∧a < (pre.length:Int)∧p a=true) ⟨M5,List.Pairwise.nil,fun a=>⟨fun h=>(M4 h).elim,fun⟨h1,h2,_⟩=>by simp at h2; omega⟩⟩ (fun pre y post q nx e hI h0=>?_) (fun q hI=>hk q hI.2.1 hI.2.2)
 obtain⟨i1,i2,i3⟩:=hI
 have h4:pre.length < xs.length:=by rw [e]; simp
 have h3:((pre++[y]).length:Int)=(pre.length:Int)+1:=by simp
 refine hb y _ _ nx (by omega) (fun hp=>h0 _ ⟨by simp; omega,?_,fun a=>?_⟩) (fun hp=>h0 _ ⟨by simp; omega,i2,fun a=>?_⟩)
 ·refine Ha5 i2 (fun a ha=>?_)
  exact((i3 a).1 ha).2.1
 ·rw [Mh,Mj,i3,h3]
  constructor
  ·rintro(⟨a1,a2,a3⟩ | rfl)
   ·exact⟨a1,by omega,a3⟩
   ·exact⟨by omega,by omega,hp⟩
  ·rintro⟨a1,a2,a3⟩
   by_cases hq:a=(pre.length:Int)
   ·exact .inr hq
   ·exact .inl ⟨a1,by omega,a3⟩
 ·rw [i3,h3]
  constructor
  ·rintro⟨a1,a2,a3⟩
   exact⟨a1,by omega,a3⟩
  ·rintro⟨a1,a2,a3⟩
   have:a≠(pre.length:Int):=fun hq=>by rw [hq,hp] at a3; cases a3
   exact⟨a1,by omega,a3⟩
theorem Q65 {F:Nat} {s:G6} {boxes:List Box} {l:List G3} {o:List Int} (h:Sta s boxes l) (hO:Q44 s o) (hC:Hv F s boxes l o=some true) {k:Nat} (hk:k < s.Covers.length) :
  Wp (Zm F s boxes l o (k:Int)) (fun r=>(¬ J10 s l (k:Int)∧r=([],95))∨(J10 s l (k:Int)∧r.2=0∧Q44 s r.1∧∀ a,a∈r.1 ↔ a∈o∨a=(k:Int))):=by
 have hs:=H7a h.ship
 have h3:=hs.covs
 unfold Zm
 refine Gy hC (Hb (fun h=>by cases h) (fun _=>Hb (fun h=>?_) (fun _=>?_)))
 ·simp only [Mn,Mf] at h; omega
 refine Q8 (fun pre _=>J10 s pre (k:Int)) (fun y hy=>(M4 hy).elim) (fun pre y post u nx e hI h4=>?_) (fun u hI=>?_)
 ·have hy:y∈l:=by rw [e]; simp
  obtain⟨m,c,hm,hc⟩:=h.colIn hy
  have hu:Yg s y.Slot.G1 (k:Int)=some (c.Deck&&decide (Qo s c=(k:Int))):=by rw [hm]; exact Rd3 hc
  refine Gy hu (Hb (fun hh=>Gg (.inl ⟨fun h0=>?_,rfl⟩)) (fun hh=>h4 _ ?_))
  ·simp only [Me,Mf] at hh
   exact h0 y hy m c hm hc hh.1 hh.2
  ·refine Y0 (P:=fun y:G3=>∀ (m:Nat) (c:G1),y.Slot.G1=(m:Int)→s.Columns[m]? = some c→c.Deck=true→Qo s c≠(k:Int)) hI (fun m' c' e1 e2 e3 e4=>?_)
   have:m'=m:=by omega
   subst this
   rw [hc] at e2; cases e2
   rw [e3,Ky e4] at hh; cases hh
 ·refine Y4b (p:=fun a=>decide (a=(k:Int)∨a∈o)) h3 (fun y i st nx h5 ht hf=>?_) (fun q h1 h2=>Gg (.inr ⟨hI,rfl,⟨fun a ha=>?_,h1⟩,fun a=>?_⟩))
  ·refine Hca (fun j=>j=if (i:Int)=(k:Int)∨(i:Int)∈o then st++[(i:Int)] else st) (fun K hK=>?_) (fun j hj=>?_)
   ·rw [J24]
    by_cases hc:(i:Int)=(k:Int)
    ·rw [Ky hc]
     refine H8 (Gg (Hb (fun _=>Zq (Qfd (by omega)) (hK _ ?_)) (fun hh=>by simp at hh)))
     rw [if_pos (.inl hc)]
    ·rw [Kz hc]
     refine H8 (Gg (Hb (fun hh=>Zq (Qfd (by omega)) (hK _ ?_)) (fun hh=>hK _ ?_)))
     ·have hh:(i:Int)∈o:=by simpa using hh
      rw [if_pos (.inr hh)]
     ·have hh:¬ (i:Int)∈o:=by simpa using hh
      rw [if_neg (fun h=>h.elim hc hh)]
   ·by_cases hc:(i:Int)=(k:Int)∨(i:Int)∈o
    ·rw [hj,if_pos hc]; exact ht (Ky hc)
    ·rw [hj,if_neg hc]; exact hf (Kz hc)
  ·have:=(h2 a).1 ha
   exact⟨this.1,this.2.1⟩
  ·rw [h2,Mf]
   constructor
   ·rintro⟨_,_,a3⟩
    exact a3.elim .inr .inl
   ·rintro(a1 | rfl)
    ·have:=hO.mem a a1
     exact⟨this.1,this.2,.inr a1⟩
    ·exact⟨by omega,by omega,.inl rfl⟩
section
variable {κ ν:Type} [DecidableEq κ]
theorem Y1a {l:List (κ×ν)} (hn:(l.map (·.1)).Nodup) {a:κ} {v:ν}:G38 l a=some v ↔ (a,v)∈l:=by
 constructor
 ·intro h
  unfold G38 at h
  obtain⟨p,hp,rfl⟩:=Option.map_eq_some_iff.1 h
  have h1:=List.mem_of_find?_eq_some hp
  have h2:p.1=a:=by simpa using List.find?_some hp
  subst h2
  exact h1
 ·intro h
  obtain⟨j,hj⟩:=List.mem_iff_getElem?.1 h
  exact(Haa hn hj).1
theorem Qa6 (m:Gv κ ν) {a:κ} {v:ν}:G38 (Gv.Hc m) a=some v ↔ (a,v)∈Gv.Hc m:=Y1a m.nd
theorem Rfd (m:Gv κ ν) {a:κ}:Gv.has m a=true ↔ ∃ v,(a,v)∈Gv.Hc m:=by
 unfold Gv.has
 rw [Q23,Mi]
 exact⟨fun⟨p,hp,e⟩=>⟨p.2,by subst e; exact hp⟩,fun⟨v,hv⟩=>⟨(a,v),hv,rfl⟩⟩
theorem Hcb (m:Gv κ ν) {a:κ} {v z:ν} (h:(a,v)∈Gv.Hc m):Gv.get m a z=v:=by
 unfold Gv.get
 rw [(Qa6 m).2 h]; rfl
theorem R95 (m:Gv κ ν) {a:κ} {z:ν} (h:∀ v,(a,v) ∉ Gv.Hc m):Gv.get m a z=z:=by
 unfold Gv.get
 cases hq:G38 (Gv.Hc m) a with
 | none=>rfl
 | some v=>exact(h v ((Qa6 m).1 hq)).elim
theorem Jda (m:Gv κ ν) {a b:κ} {v w:ν}:(b,w)∈Gv.Hc (Gv.put m a v) ↔ (b=a∧w=v)∨(b≠a∧(b,w)∈Gv.Hc m):=by
 rw [← Qa6]
 have e:Gv.Hc (Gv.put m a v)=H01 (Gv.Hc m) a v:=Q6f m.l a v
 rw [e,J73]
 by_cases h:a=b
 ·subst h
  rw [if_pos rfl]
  constructor
  ·intro h; cases h; exact .inl ⟨rfl,rfl⟩
  ·rintro(⟨_,rfl⟩ | ⟨h,_⟩)
   ·rfl
   ·exact(h rfl).elim
 ·rw [if_neg h,Qa6]
  exact⟨fun g=>.inr ⟨fun e=>h e.symm,g⟩,fun g=>g.elim (fun g=>(h g.1.symm).elim) (·.2)⟩
theorem R2e (m:Gv κ ν) {a b:κ} {w:ν}:(b,w)∈Gv.Hc (Gv.del m a) ↔ b≠a∧(b,w)∈Gv.Hc m:=by
 have e:Gv.Hc (Gv.del m a)=(Gv.Hc m).filter (fun p=>decide (p.1≠a)):=Q76 m.l a
 rw [e,Mm,Mf]
 exact⟨fun h=>⟨h.2,h.1⟩,fun h=>⟨h.2,h.1⟩⟩
omit [DecidableEq κ] in
theorem Jdb {a:κ} {v:ν}:(a,v) ∉ Gv.Hc (Gv.empty:Gv κ ν):=fun h=>by cases h
end
structure St where
 l:List G3
 o:List Int
 a:List Int
structure Good (s:G6) (boxes:List Box) (t:St):Prop where
 ship:Q4d s
 right:G27 s boxes t.l
 opn:Q44 s t.o
 free:∀ k∈t.o,J10 s t.l k
 box:∀ i∈t.a,∃ b,Jp boxes i=some b∧(b.Size=20∨b.Size=40)
 asc:t.a.Pairwise (· < ·)
 disj:∀ i∈t.a,i ∉ t.l.map (·.Box)
 num:t.l.length+t.a.length≤80
structure H07 (s:G6) (boxes:List Box) (m:Gh) (t:St):Prop where
 cols:m.ship.Columns=s.Columns
 covs:m.ship.Covers=s.Covers
 on:∀ x b,(x,b)∈Gv.Hc m.on ↔ (⟨b.ID,x⟩:G3)∈t.l∧Jp boxes b.ID=some b
 quay:∀ i b,(i,b)∈Gv.Hc m.quay ↔ i∈t.a∧Jp boxes i=some b
 opn:∀ k v,(k,v)∈Gv.Hc m.open_ ↔ k∈t.o∧v=1
theorem G95 {boxes:List Box} {i:Int} {b:Box} (h:Jp boxes i=some b):b.ID=i:=Kw (List.find?_some (p:=fun b:Box=>decide (b.ID=i)) h)
theorem Good.sta {s:G6} {boxes:List Box} {t:St} (h:Good s boxes t):Sta s boxes t.l:=⟨h.ship,h.right,by have:=h.num; omega⟩
theorem Jab {l:List G3} (h:l.Pairwise (fun a b=>a.Box < b.Box)):(l.map (·.Box)).Nodup:=G34 (List.pairwise_map.2 h)
theorem R72 {l:List G3} (h:l.Pairwise (fun a b=>a.Box < b.Box)):l.Nodup:=h.imp (fun {a b} h0 e=>by subst e; omega)
section
variable {s:G6} {boxes:List Box} {m:Gh} {t:St}
theorem Jce (hG:Good s boxes t) (hR:H07 s boxes m t):(onB m).Perm t.l:=by
 refine(List.perm_ext_iff_of_nodup ?_ (R72 hG.right.sorted)).2 fun x=>?_
 ·have h:((Gv.Hc m.on).map (·.1)).Nodup:=m.on.nd
  unfold onB
  refine List.pairwise_map.2 ((List.pairwise_map.1 h).imp fun {p q} h0 e=>h0 ?_)
  exact congrArg G3.Slot e
 ·unfold onB
  rw [Mi]
  constructor
  ·rintro⟨⟨y,b⟩,hp,rfl⟩
   exact((hR.on y b).1 hp).1
  ·intro hx
   obtain⟨b,hb,_⟩:=hG.right.each x hx
   have e:=G95 hb
   refine⟨(x.Slot,b),(hR.on x.Slot b).2 ⟨by rw [e]; exact hx,by rw [e]; exact hb⟩,?_⟩
   show G3.mk b.ID x.Slot=x
   rw [e]
theorem Y00 (hG:Good s boxes t) (hR:H07 s boxes m t):G0c m=some t.l:=by
 have hp:=Jce hG hR
 have hl:t.l.length≤80:=by have:=hG.num; omega
 have h0:=hp.length_eq
 have hn:((onB m).map (·.Box)).Nodup:=(hp.map _).nodup_iff.2 (Jab hG.right.sorted)
 unfold G0c
 rw [Ky (show (onB m).length*32≤140737488355328∧(onB m).length≤maxLen∧((onB m).map (·.Box)).Nodup from ⟨by omega,by simp only [maxLen]; omega,hn⟩),Q21]
 refine congrArg some (Q12 ((Ha1 _).trans hp) (Jab hG.right.sorted) (Ha0 _) (hG.right.sorted.imp fun h=>by omega))
theorem J9f {seq:List (Option Int)} {a:List Int} (hn:(seq.filterMap id).Nodup) (ha:a.Pairwise (· < ·)) (hl:a.length≤1000) (h:∀ i,i∈seq.filterMap id ↔ i∈a):Yd seq=some a:=by
 have hp:(seq.filterMap id).Perm a:=(List.perm_ext_iff_of_nodup hn (G34 ha)).2 h
 have h0:=hp.length_eq
 unfold Yd
 rw [Ky (show (seq.filterMap id).length*8≤140737488355328∧(seq.filterMap id).length≤maxLen from ⟨by omega,by simp only [maxLen]; omega⟩),Q21,sorted_perm hp]
 unfold H37
 rw [Ky (show a.length < 4611686018427387904 by omega),cond_true]
 exact congrArg some (List.Perm.eq_of_pairwise (le:=fun a b:Int=>a≤b) (fun a b _ _ h1 h2=>by omega) (Gd3 a) (ha.imp fun h=>by omega) (Ge9 a))
theorem Ree (hG:Good s boxes t) (hR:H07 s boxes m t):Z0 m=some t.a:=by
 unfold Z0
 have hn:((Gv.Hc m.quay).map (·.1)).Nodup:=m.quay.nd
 refine Z3 (H8 (Gg (Gy (J9f (a:=t.a) (by rw [H7b]; exact hn) hG.asc (by have:=hG.num; omega) (fun i=>?_)) (Gg rfl))))
 rw [H7b,Mi]
 constructor
 ·rintro⟨⟨j,b⟩,hp,rfl⟩
  exact((hR.quay j b).1 hp).1
 ·intro hi
  obtain⟨b,hb,_⟩:=hG.box i hi
  exact⟨(i,b),(hR.quay i b).2 ⟨hi,hb⟩,rfl⟩
theorem Y56 (hG:Good s boxes t) (hR:H07 s boxes m t):G03 m=some t.o:=by
 unfold G03
 have hn:((Gv.Hc m.open_).map (·.1)).Nodup:=m.open_.nd
 have hl:=hG.opn.len
 have hc:=hG.ship.covs.len
 refine Z3 (H8 (Gg (Gy (J9f (a:=t.o) (by rw [H7b]; exact hn) hG.opn.sorted (by omega) (fun i=>?_)) (Gg rfl))))
 rw [H7b,Mi]
 constructor
 ·rintro⟨⟨j,v⟩,hp,rfl⟩
  exact((hR.opn j v).1 hp).1
 ·intro hi
  exact⟨(i,1),(hR.opn i 1).2 ⟨hi,rfl⟩,rfl⟩
theorem Ya8 (hG:Good s boxes t) (hR:H07 s boxes m t) {is:Slot→Option Bool} {p:Slot→Bool} (h:∀ y∈t.l,is y.Slot=some (p y.Slot)):Zy m is=some (t.l.any fun y=>p y.Slot):=by
 have hp:=Jce hG hR
 have h0:∀ q∈Gv.Hc m.on,is q.1=some (p q.1):=fun q hq=>h (J6b q) (hp.mem_iff.1 (Mi.2 ⟨q,hq,rfl⟩))
 unfold Zy
 have h1:(Gv.Hc m.on).all (fun p=>(is p.1).isSome)=true:=List.all_eq_true.2 fun q hq=>by rw [h0 q hq]; rfl
 rw [h1,cond_true,← R1c hp]
 refine congrArg some ?_
 unfold onB
 rw [List.any_map,Bool.eq_iff_iff,List.any_eq_true,List.any_eq_true]
 exact⟨fun⟨q,hq,e⟩=>⟨q,hq,by rw [h0 q hq] at e; exact e⟩,fun⟨q,hq,e⟩=>⟨q,hq,by rw [h0 q hq]; exact e⟩⟩
theorem G39 {c half:Int} (x:G3) (l:List G3):Rs boxes (x::l) c half=Gd6 boxes c half 0 x+Rs boxes l c half:=by
 unfold Rs
 rw [List.foldl_cons,J29]
theorem Jb1 {c half:Int} {a b:List G3} (h:a.Perm b):Rs boxes a c half=Rs boxes b c half:=by
 induction h with
 | nil=>rfl
 | cons x _ ih=>rw [G39,G39,ih]
 | swap x y l=>rw [G39,G39,G39,G39]; omega
 | trans _ _ h1 h2=>exact h1.trans h2
theorem Q8f {c half:Int}:∀ l:List G3,0≤Rs boxes l c half∧Rs boxes l c half≤2896*(l.length:Int)
 | []=>⟨Int.le_refl _,by show (0:Int)≤_; simp⟩
 | x::l=>by
  have ih:=Q8f (c:=c) (half:=half) l
  have h:=J56 (boxes:=boxes) (column:=c) (half:=half) (n:=0) (x:=x)
  rw [G39,M8]
  omega
theorem Qf5 (b:Box):hgt b=H16 b:=by
 unfold hgt H16
 cases b.High <;> rfl
theorem Rb5 {c half:Int} {x:G3} {b:Box} (h:Jp boxes x.Box=some b):Gd6 boxes c half 0 x=if x.Slot.G1=c∧(x.Slot.Half=half∨x.Slot.Half=0) then H16 b else 0:=by
 unfold Gd6
 rw [h]
 split
 ·exact Int.zero_add _
 ·rfl
theorem Raf {c half:Int}:∀ es:List (Slot×Box),(∀ p∈es,Jp boxes p.2.ID=some p.2)→Hab c half es=Rs boxes (es.map J6b) c half
 | [],_=>rfl
 | p::r,h=>by
  rw [List.map_cons,G39,Rb5 (x:=J6b p) (b:=p.2) (h p (by simp)),← Raf r (fun q hq=>h q (List.mem_cons_of_mem _ hq)),Hab]
  congr 1
  show _=if p.1.G1=c∧(p.1.Half=half∨p.1.Half=0) then H16 p.2 else 0
  unfold Qb8
  by_cases hc:p.1.G1=c∧(p.1.Half=half∨p.1.Half=0)
  ·rw [if_pos hc,← Qf5]
   have:(decide (p.1.G1=c)&&(decide (p.1.Half=0)||decide (p.1.Half=half)))=true:=by
    simp only [Me,Mn,Mf]
    exact⟨hc.1,hc.2.symm⟩
   rw [this]; rfl
  ·rw [if_neg hc]
   have:(decide (p.1.G1=c)&&(decide (p.1.Half=0)||decide (p.1.Half=half)))=false:=by
    rw [← Bool.not_eq_true]
    simp only [Me,Mn,Mf]
    exact fun g=>hc ⟨g.1,g.2.symm⟩
   rw [this]; rfl
theorem Rae (hG:Good s boxes t) (hR:H07 s boxes m t) (x:Slot) (b:Box) (half:Int):G26 m x b half=some ((if x.Half=half∨x.Half=0 then H16 b else 0)+Rs boxes t.l x.G1 half):=by
 have hp:=Jce hG hR
 have e:Hab x.G1 half (Gv.Hc m.on)=Rs boxes t.l x.G1 half:=by
  rw [Raf (boxes:=boxes) _ (fun p hp=>((hR.on p.1 p.2).1 hp).2)]
  exact Jb1 hp
 have e2:(bif (decide (x.Half=0)||decide (x.Half=half)) then hgt b else 0)=(if x.Half=half∨x.Half=0 then H16 b else 0):=by
  by_cases hc:x.Half=half∨x.Half=0
  ·rw [if_pos hc,← Qf5]
   have:(decide (x.Half=0)||decide (x.Half=half))=true:=by
    simp only [Mn,Mf]; exact hc.symm
   rw [this]; rfl
  ·rw [if_neg hc]
   have:(decide (x.Half=0)||decide (x.Half=half))=false:=by
    rw [← Bool.not_eq_true]
    simp only [Mn,Mf]; exact fun g=>hc g.symm
   rw [this]; rfl
 have hb:=(Q8f (boxes:=boxes) (c:=x.G1) (half:=half) t.l).2
 have hl:t.l.length≤80:=by have:=hG.num; omega
 unfold G26
 rw [e,e2]
 have ht:H16 b≤2896:=by unfold H16; split <;> omega
 rw [Ky (show (if x.Half=half∨x.Half=0 then H16 b else 0)+Rs boxes t.l x.G1 half≤9223372036854775807 by split <;> omega),cond_true]
theorem Q7b (hG:Good s boxes t) (hR:H07 s boxes m t) {i:Nat} {c:G1} (hc:s.Columns[i]? = some c):G2b m.ship (i:Int)=some (Qo s c):=by
 have hs:=H7a hG.ship
 have e:=Qb0 (s:=m.ship) (c:=c) (m:=i) (by rw [hR.cols]; exact hc) (fun x hx=>by rw [hR.covs] at hx; have:=hs.rows x hx; omega) (by rw [hR.covs]; have:=hs.covs; omega)
 unfold Qo at e ⊢
 rw [hR.covs] at e
 exact e
theorem Qaf (hR:H07 s boxes m t) (k:Int):decide (0 < Gv.get m.open_ k 0)=decide (k∈t.o):=by
 by_cases h:k∈t.o
 ·rw [Hcb m.open_ ((hR.opn k 1).2 ⟨h,rfl⟩),Ky h]; rfl
 ·rw [R95 m.open_ (fun v hv=>h ((hR.opn k v).1 hv).1),Kz h]; rfl
theorem Qfa (hG:Good s boxes t) (hR:H07 s boxes m t) {x:Slot} {i:Nat} {c:G1} (hx:x.G1=(i:Int)) (hc:s.Columns[i]? = some c):Wp (G52 m x) (fun r=>r=true ↔ Hbd s t.o x):=by
 have h0:Hbd s t.o x ↔ (0≤Qo s c∧(c.Deck=true ↔ Qo s c∈t.o)):=by
  constructor
  ·rintro⟨m',c',e1,e2,e3⟩
   have:m'=i:=by omega
   subst this
   rw [hc] at e2; cases e2
   exact e3
  ·exact fun e=>⟨i,c,hx,hc,e⟩
 unfold G52
 rw [hx]
 refine Gy (Q7b hG hR hc) ?_
 by_cases hk:0≤Qo s c
 ·rw [Ky hk]
  simp only [cond_true,Bool.true_and]
  refine H8 (Gg (H8 (Zr rfl (show m.ship.Columns[i]? = some c by rw [hR.cols]; exact hc) (Gg (Gg ?_)))))
  rw [Qaf hR,h0,beq_iff_eq,Bool.eq_iff_iff,Mf]
  exact⟨fun h=>⟨hk,h.symm⟩,fun h=>h.2.symm⟩
 ·rw [Kz hk]
  refine H8 (Gg (H8 (Gg (Gg (Yc fun hh=>hk (h0.1 hh).1)))))
end
def H66 (k:Int) (l:List Int):List Int:=l.filter (fun z=>decide (z < k))++k::l.filter (fun z=>decide (k < z))
def Hc5 (k:Int) (l:List Int):List Int:=l.filter (fun z=>decide (z≠k))
def H7c (y:G3) (l:List G3):List G3:=l.filter (fun z=>decide (z.Box < y.Box))++y::l.filter (fun z=>decide (y.Box < z.Box))
def H24 (k:Int) (l:List G3):List G3:=l.filter (fun z=>decide (z.Box≠k))
theorem G7d {k:Int} {l:List Int} {i:Int}:i∈Hc5 k l ↔ i∈l∧i≠k:=by unfold Hc5; rw [Mm,Mf]
theorem G63 {k:Int} {l:List Int} {i:Int}:i∈H66 k l ↔ i=k∨i∈l:=by
 unfold H66
 rw [Mh,Mk,Mm,Mm,Mf,Mf]
 constructor
 ·rintro(h | h | h)
  ·exact .inr h.1
  ·exact .inl h
  ·exact .inr h.1
 ·rintro(h | h)
  ·exact .inr (.inl h)
  ·rcases Int.lt_trichotomy i k with g | g | g
   ·exact .inl ⟨h,g⟩
   ·exact .inr (.inl g)
   ·exact .inr (.inr ⟨h,g⟩)
theorem H7d {k:Int} {l:List Int} (h:l.Pairwise (· < ·)):(H66 k l).Pairwise (· < ·):=by
 unfold H66
 refine List.pairwise_append.2 ⟨h.filter _,List.pairwise_cons.2 ⟨fun a ha=>Kw (Mm.1 ha).2,h.filter _⟩,fun a ha b hb=>?_⟩
 have h1:=Kw (Mm.1 ha).2
 rcases Mk.1 hb with rfl | hb
 ·exact h1
 ·have h2:=Kw (Mm.1 hb).2
  omega
theorem Hde {k:Int} {l:List Int} (h:l.Pairwise (· < ·)):(Hc5 k l).Pairwise (· < ·):=h.filter _
theorem R0e {k:Int} {l:List Int} (h:l.Pairwise (· < ·)) (hk:k ∉ l):(H66 k l).length=l.length+1:=by
 have hp:(H66 k l).Perm (k::l):=(List.perm_ext_iff_of_nodup (G34 (H7d h)) (List.nodup_cons.2 ⟨hk,G34 h⟩)).2 fun i=>by rw [G63,Mk]
 rw [hp.length_eq,M8]
theorem R18 {k:Int} {l:List Int} (h:l.Pairwise (· < ·)) (hk:k ∉ l):Hc5 k (H66 k l)=l:=
 H23 (Hde (H7d h)) h fun i=>by
  rw [G7d,G63]
  exact⟨fun g=>g.1.resolve_left g.2,fun g=>⟨.inr g,fun e=>hk (e ▸ g)⟩⟩
theorem Q2e {k:Int} {l:List Int} (h:l.Pairwise (· < ·)) (hk:k∈l):H66 k (Hc5 k l)=l:=
 H23 (H7d (Hde h)) h fun i=>by
  rw [G63,G7d]
  constructor
  ·rintro(e | e)
   ·exact e ▸ hk
   ·exact e.1
  ·intro g
   by_cases e:i=k
   ·exact .inl e
   ·exact .inr ⟨g,e⟩
theorem Y28 {k:Int} {l:List Int} (h:l.Pairwise (· < ·)) (hk:k∈l):(Hc5 k l).length+1=l.length:=by
 have:=R0e (k:=k) (Hde (k:=k) h) (fun g=>(G7d.1 g).2 rfl)
 rw [Q2e h hk] at this
 omega
theorem Q25 {k:Int} {l:List G3} {y:G3}:y∈H24 k l ↔ y∈l∧y.Box≠k:=by unfold H24; rw [Mm,Mf]
theorem Y01 {l:List G3} (hs:l.Pairwise (fun a b=>a.Box < b.Box)) {k:Int} (hk:k ∉ l.map (·.Box)):l=l.filter (fun z=>decide (z.Box < k))++l.filter (fun z=>decide (k < z.Box)):=by
 have e:l.filter (fun z=>decide (k < z.Box))=l.filter (fun z=>!decide (z.Box < k)):=List.filter_congr fun z hz=>by
  have:z.Box≠k:=fun e=>hk (Mi.2 ⟨z,hz,e⟩)
  by_cases h:z.Box < k
  ·rw [Ky h,Kz (by omega)]; rfl
  ·rw [Kz h,Ky (by omega)]; rfl
 refine H59 ?_ hs ?_
 ·rw [e]; exact(List.filter_append_perm _ _).symm
 ·refine List.pairwise_append.2 ⟨hs.filter _,hs.filter _,fun a ha b hb=>?_⟩
  have h1:=Kw (Mm.1 ha).2
  have h2:=Kw (Mm.1 hb).2
  omega
theorem H58 {l:List G3} (hs:l.Pairwise (fun a b=>a.Box < b.Box)) {y:G3} (hk:y.Box ∉ l.map (·.Box)):He9 l y (H7c y l):=by
 refine⟨_,_,Y01 hs hk,rfl,fun z hz=>Kw (Mm.1 hz).2,fun z hz=>?_⟩
 have:=Kw (Mm.1 (List.mem_of_mem_head? (Option.mem_def.2 hz))).2
 omega
theorem R0f {l q:List G3} {y:G3} (hs:l.Pairwise (fun a b=>a.Box < b.Box)) (hk:y.Box ∉ l.map (·.Box)) (h:He9 l y q):q=H7c y l:=
 H59 ((G64 h).trans (G64 (H58 hs hk)).symm) (Gc0 h hs hk) (Gc0 (H58 hs hk) hs hk)
theorem J54 {pre post:List G3} {y:G3} (hs:(pre++y::post).Pairwise (fun a b=>a.Box < b.Box)):H24 y.Box (pre++y::post)=pre++post:=by
 obtain⟨s1,s2,s3⟩:=List.pairwise_append.1 hs
 unfold H24
 rw [List.filter_append,List.filter_cons_of_neg (by simp)]
 congr 1
 ·refine List.filter_eq_self.2 fun z hz=>Ky ?_
  have:=s3 z hz y (List.mem_cons_self ..)
  omega
 ·refine List.filter_eq_self.2 fun z hz=>Ky ?_
  have:=(List.pairwise_cons.1 s2).1 z hz
  omega
theorem Y27 {l:List G3} (hs:l.Pairwise (fun a b=>a.Box < b.Box)) {y:G3} (hk:y.Box ∉ l.map (·.Box)):H24 y.Box (H7c y l)=l:=by
 have h:=H58 hs hk
 obtain⟨pre,post,e1,e2,_⟩:=id h
 have:=Gc0 h hs hk
 rw [e2] at this ⊢
 rw [J54 this,e1]
theorem Ra3 {l:List G3} (hs:l.Pairwise (fun a b=>a.Box < b.Box)) (k:Int):k ∉ (H24 k l).map (·.Box):=fun h=>by
 obtain⟨z,hz,e⟩:=Mi.1 h
 exact(Q25.1 hz).2 e
theorem Y20 {l:List G3} (hs:l.Pairwise (fun a b=>a.Box < b.Box)) {y:G3} (hy:y∈l):H7c y (H24 y.Box l)=l:=by
 have hd:(H24 y.Box l).Pairwise (fun a b=>a.Box < b.Box):=hs.filter _
 obtain⟨pre,post,rfl⟩:=List.append_of_mem hy
 rw [J54 hs] at hd ⊢
 have hn:y.Box ∉ (pre++post).map (·.Box):=by rw [← J54 hs]; exact Ra3 hs _
 exact Y9f (l:=[]) (H58 hd hn) hs
def Qcd (s:G6) (t:St) (x:Move):Prop:=x.Box=0∧x.Slot=⟨0,0,0⟩∧0≤x.Ga∧x.Ga < (s.Covers.length:Int)∧x.Ga ∉ t.o∧J10 s t.l x.Ga
def Qcc (s:G6) (t:St) (x:Move):Prop:=x.Box=0∧x.Slot=⟨0,0,0⟩∧0≤x.Ga∧x.Ga < (s.Covers.length:Int)∧x.Ga∈t.o
def R8d (s:G6) (t:St) (x:Move):Prop:=x.Ga=0∧(⟨x.Box,x.Slot⟩:G3)∈t.l∧H3a t.l x.Slot=[]∧¬ H6a s t.o x.Slot
def Y37 (s:G6) (boxes:List Box) (t:St) (x:Move):Prop:=x.Ga=0∧x.Box∈t.a∧∃ b,Jp boxes x.Box=some b∧Ga4 s x.Slot b.Size∧¬ Hbd s t.o x.Slot∧¬ Qc5 t.l x.Slot∧Gce x.Slot (t.l.map (·.Slot))∧Qcb s boxes (H7c ⟨x.Box,x.Slot⟩ t.l) x.Slot
def Can (s:G6) (boxes:List Box) (t:St) (x:Move):Prop:=(x.Kind=1∧Qcd s t x)∨(x.Kind=4∧Qcc s t x)∨(x.Kind=2∧R8d s t x)∨(x.Kind=3∧Y37 s boxes t x)
def nxt (t:St) (x:Move):St:=
 if x.Kind=1 then ⟨t.l,H66 x.Ga t.o,t.a⟩ else if x.Kind=4 then ⟨t.l,Hc5 x.Ga t.o,t.a⟩
 else if x.Kind=2 then ⟨H24 x.Box t.l,t.o,H66 x.Box t.a⟩ else ⟨H7c ⟨x.Box,x.Slot⟩ t.l,t.o,Hc5 x.Box t.a⟩
def G77 (x:Move):Int:=if x.Kind=2∨x.Kind=3 then 1 else 0
def opp (x:Move):Move:=⟨5 - x.Kind,x.Box,x.Slot,x.Ga⟩
section
variable {s:G6} {boxes:List Box} {t:St} {x:Move}
theorem Y15 (h:x.Kind=1):nxt t x=⟨t.l,H66 x.Ga t.o,t.a⟩:=by unfold nxt; rw [if_pos h]
theorem Y12 (h:x.Kind=4):nxt t x=⟨t.l,Hc5 x.Ga t.o,t.a⟩:=by unfold nxt; rw [if_neg (by omega),if_pos h]
theorem Y14 (h:x.Kind=2):nxt t x=⟨H24 x.Box t.l,t.o,H66 x.Box t.a⟩:=by unfold nxt; rw [if_neg (by omega),if_neg (by omega),if_pos h]
theorem Y13 (h:x.Kind=3):nxt t x=⟨H7c ⟨x.Box,x.Slot⟩ t.l,t.o,Hc5 x.Box t.a⟩:=by unfold nxt; rw [if_neg (by omega),if_neg (by omega),if_neg (by omega)]
theorem Rc0 {l l':List G3} {k:Int} (h:J10 s l k) (hs:∀ y∈l',y∈l):J10 s l' k:=fun y hy=>h y (hs y hy)
theorem Can.step (hG:Good s boxes t) (h:Can s boxes t x):Good s boxes (nxt t x):=by
 have h9:=hG.right.sorted
 rcases h with ⟨hk,h1,h2,h3,h4,h5,h6⟩ | ⟨hk,h1,h2,h3,h4,h5⟩ | ⟨hk,h1,h2,h3,h4⟩ | ⟨hk,h1,h2,b,h3,h4,h5,h6,h7,h8⟩
 ·rw [Y15 hk]
  refine⟨hG.ship,hG.right,⟨fun k h0=>?_,H7d hG.opn.sorted⟩,fun k h0=>?_,hG.box,hG.asc,hG.disj,hG.num⟩
  ·rcases G63.1 h0 with rfl | h0
   ·exact⟨h3,h4⟩
   ·exact hG.opn.mem k h0
  ·rcases G63.1 h0 with rfl | h0
   ·exact h6
   ·exact hG.free k h0
 ·rw [Y12 hk]
  exact⟨hG.ship,hG.right,⟨fun k h0=>hG.opn.mem k (G7d.1 h0).1,Hde hG.opn.sorted⟩,fun k h0=>hG.free k (G7d.1 h0).1,hG.box,hG.asc,hG.disj,hG.num⟩
 ·rw [Y14 hk]
  have a0:x.Box ∉ t.a:=fun h=>hG.disj _ h (Mi.2 ⟨_,h2,rfl⟩)
  obtain⟨pre,post,e⟩:=List.append_of_mem h2
  have hd:H24 x.Box t.l=pre++post:=by rw [e] at h9 ⊢; exact J54 h9
  have hr:G27 s boxes (H24 x.Box t.l):=by rw [hd]; exact R6a (by rw [← e]; exact hG.right) (by rw [← e]; exact h3)
  have a1:∀ y∈H24 x.Box t.l,y∈t.l:=fun y hy=>(Q25.1 hy).1
  refine⟨hG.ship,hr,hG.opn,fun k h0=>Rc0 (hG.free k h0) a1,fun i hi=>?_,H7d hG.asc,fun i hi hm=>?_,?_⟩
  ·rcases G63.1 hi with rfl | hi
   ·obtain⟨b,g1,g2,_⟩:=hG.right.each _ h2
    exact⟨b,g1,Y4f g2⟩
   ·exact hG.box i hi
  ·rcases G63.1 hi with rfl | hi
   ·exact Ra3 h9 _ hm
   ·obtain⟨z,hz,ez⟩:=Mi.1 hm
    exact hG.disj i hi (Mi.2 ⟨z,a1 z hz,ez⟩)
  ·have hn:=hG.num
   show (H24 x.Box t.l).length+(H66 x.Box t.a).length≤80
   rw [R0e hG.asc a0,hd]
   rw [e] at hn
   simp only [Mc,M8] at hn ⊢
   omega
 ·rw [Y13 hk]
  have a0:x.Box ∉ t.l.map (·.Box):=hG.disj _ h2
  have a2:=H58 h9 (y:=⟨x.Box,x.Slot⟩) a0
  have hp:=G64 a2
  have hr:=Rd2 hG.right h3 h4 h6 h7 a2 a0 h8
  have a3:∀ y,y∈H7c ⟨x.Box,x.Slot⟩ t.l ↔ y=⟨x.Box,x.Slot⟩∨y∈t.l:=fun y=>by rw [hp.mem_iff,Mk]
  refine⟨hG.ship,hr,hG.opn,fun k h0 y hy m c hm hc hd he=>?_,fun i hi=>hG.box i (G7d.1 hi).1,Hde hG.asc,fun i hi hm=>?_,?_⟩
  ·rcases (a3 y).1 hy with rfl | hy
   ·refine h5 ⟨m,c,hm,hc,?_,⟨fun _=>by rw [he]; exact h0,fun _=>hd⟩⟩
    have:=(hG.opn.mem k h0).1
    omega
   ·exact hG.free k h0 y hy m c hm hc hd he
  ·obtain⟨z,hz,ez⟩:=Mi.1 hm
   rcases (a3 z).1 hz with rfl | hz
   ·exact(G7d.1 hi).2 ez.symm
   ·exact hG.disj i (G7d.1 hi).1 (Mi.2 ⟨z,hz,ez⟩)
  ·have hn:=hG.num
   have:=Y28 hG.asc h2
   show (H7c ⟨x.Box,x.Slot⟩ t.l).length+(Hc5 x.Box t.a).length≤80
   rw [hp.length_eq,M8]
   omega
theorem Can.back (hG:Good s boxes t) (h:Can s boxes t x):Can s boxes (nxt t x) (opp x)∧nxt (nxt t x) (opp x)=t:=by
 have h0:=hG.right.sorted
 rcases h with ⟨hk,h1,h2,h3,h4,h5,h6⟩ | ⟨hk,h1,h2,h3,h4,h5⟩ | ⟨hk,h1,h2,h3,h4⟩ | ⟨hk,h1,h2,b,h3,h4,h5,h6,h7,h8⟩
 ·rw [Y15 hk]
  have ho:(opp x).Kind=4:=by show 5 - x.Kind=4; omega
  refine⟨.inr (.inl ⟨ho,h1,h2,h3,h4,G63.2 (.inl rfl)⟩),?_⟩
  rw [Y12 ho]
  show (⟨t.l,Hc5 x.Ga (H66 x.Ga t.o),t.a⟩:St)=t
  rw [R18 hG.opn.sorted h5]
 ·rw [Y12 hk]
  have ho:(opp x).Kind=1:=by show 5 - x.Kind=1; omega
  refine⟨.inl ⟨ho,h1,h2,h3,h4,fun g=>(G7d.1 g).2 rfl,hG.free _ h5⟩,?_⟩
  rw [Y15 ho]
  show (⟨t.l,H66 x.Ga (Hc5 x.Ga t.o),t.a⟩:St)=t
  rw [Q2e hG.opn.sorted h5]
 ·rw [Y14 hk]
  have ho:(opp x).Kind=3:=by show 5 - x.Kind=3; omega
  have h9:x.Box ∉ t.a:=fun h=>hG.disj _ h (Mi.2 ⟨_,h2,rfl⟩)
  have a0:H7c ⟨x.Box,x.Slot⟩ (H24 x.Box t.l)=t.l:=Y20 h0 h2
  obtain⟨b,g1,g2,g3⟩:=hG.right.each _ h2
  obtain⟨pre,post,e⟩:=List.append_of_mem h2
  have hd:H24 x.Box t.l=pre++post:=by rw [e] at h0 ⊢; exact J54 h0
  refine⟨.inr (.inr (.inr ⟨ho,h1,G63.2 (.inl rfl),b,g1,g2,Y16 (boxes:=boxes) hG.free h2 h4,?_,?_,?_⟩)),?_⟩
  ·show ¬ Qc5 (H24 x.Box t.l) x.Slot
   rintro⟨y,hy,hm⟩
   have ha:=hG.right.apart
   rw [hd] at hy
   rw [e] at ha
   obtain⟨a1,a2,a3⟩:=List.pairwise_append.1 ha
   rcases Mh.1 hy with hy | hy
   ·exact a3 y hy _ (List.mem_cons_self ..) hm
   ·exact(List.pairwise_cons.1 a2).1 y hy (H2e hm)
  ·show Gce x.Slot ((H24 x.Box t.l).map (·.Slot))
   rw [hd]
   exact Q8e (x:=⟨x.Box,x.Slot⟩) over_self (by rw [← e]; exact g3)
  ·show Qcb s boxes (H7c ⟨x.Box,x.Slot⟩ (H24 x.Box t.l)) x.Slot
   rw [a0]
   exact fun m c _ hc=>hG.right.fits m c hc
  ·rw [Y13 ho]
   show (⟨H7c ⟨x.Box,x.Slot⟩ (H24 x.Box t.l),t.o,Hc5 x.Box (H66 x.Box t.a)⟩:St)=t
   rw [a0,R18 hG.asc h9]
 ·rw [Y13 hk]
  have ho:(opp x).Kind=2:=by show 5 - x.Kind=2; omega
  have h9:x.Box ∉ t.l.map (·.Box):=hG.disj _ h2
  have a4:=H58 h0 (y:=⟨x.Box,x.Slot⟩) h9
  refine⟨.inr (.inr (.inl ⟨ho,h1,(G64 a4).mem_iff.2 (List.mem_cons_self ..),Y58 hG.right h4 h6 a4,fun g=>h5 (Y50 g)⟩)),?_⟩
  rw [Y14 ho]
  show (⟨H24 x.Box (H7c ⟨x.Box,x.Slot⟩ t.l),t.o,H66 x.Box (Hc5 x.Box t.a)⟩:St)=t
  rw [show H24 x.Box (H7c ⟨x.Box,x.Slot⟩ t.l)=t.l from Y27 (y:=⟨x.Box,x.Slot⟩) h0 h9,Q2e hG.asc h2]
end
end Go.Proofs.YtmfhaflabpnaoaaGreat
