/-
 What is reached for,of the states that the chapter's statements make. What can be put,taken,opened and closed. What Free,Take,Open,Close and Put return,of states that are right. What Put returns,and that states stay right. States with a box more or less are right.
-/
import Derived.Test.YtidpfkmbfgihlaaGreatBuiltB
set_option maxRecDepth 100000
set_option linter.unusedVariables false
namespace Go.Proofs.YtidpfkmbfgihlaaGreat
open Go.RowKit
structure Sta (s:Gk) (boxes:List Box) (l:List Stowed):Prop where
 ship:Qb5 s
 right:Yv s boxes l
 len:l.length≤10
theorem Sta.colIn {s:Gk} {boxes:List Box} {l:List Stowed} (h:Sta s boxes l) {x:Stowed} (hx:x∈l):Yaa s x.Slot:=by
 obtain⟨b,_,h1,_⟩:=h.right.each x hx
 exact Q72 h1
end Go.Proofs.YtidpfkmbfgihlaaGreat
set_option maxRecDepth 100000
set_option linter.unusedVariables false
namespace Go.Proofs.YtidpfkmbfgihlaaGreat
open Go.RowKit

structure H47 (s:Gk) (o:List Int):Prop where
  mem:∀ y∈o,0≤y∧y < (s.Covers.length:Int)
  sorted:o.Pairwise (· < ·)
theorem Qef {s:Gk}:H47 s []:=⟨fun y hy=>(List.not_mem_nil hy).elim,List.Pairwise.nil⟩
theorem H47.len {s:Gk} {o:List Int} (h:H47 s o):o.length≤s.Covers.length:=by
  have hn:o.Nodup:=G2f h.sorted
  have:=hn.length_le_of_subset (l₂:=(List.range s.Covers.length).map (fun n:Nat=>(n:Int))) (fun a ha=>by
    obtain⟨h1,h2⟩:=h.mem a ha
    exact List.mem_map.2 ⟨a.toNat,List.mem_range.2 (by omega),by omega⟩)
  simpa using this
theorem R2e {s:Gk} (hs:Small s) (boxes:List Box) (l:List Stowed) (o:List Int) (hl:l.length≤1000000):Wp (Zg s boxes l o) (fun r=>r=true ↔ H47 s o∧Yv s boxes l):=by
  unfold Zg
  refine Y3 (fun pre _=>H47 s pre) Qef (fun pre y post u nx e hI hnx=>?_) (fun u hI=>?_)
  · have no:¬ H47 s o→Wp (some false) (fun r=>r=true ↔ H47 s o∧Yv s boxes l):=fun h=>Gj (H3e fun hh=>h hh.1)
    by_cases hy:y < 0∨(s.Covers.length:Int)≤y
    · have hc:(decide (y < 0)||decide ((s.Covers.length:Int)≤y))=true:=by simpa using hy
      rw [hc]
      refine H5 (Gj (H5 (Gj (Hr (fun _=>no fun h=>?_) (fun h=>by cases h)))))
      have:=h.mem y (by rw [e]; simp)
      omega
    have hc:(decide (y < 0)||decide ((s.Covers.length:Int)≤y))=false:=by
      rw [Bool.or_eq_false_iff]; exact⟨decide_eq_false (by omega),decide_eq_false (by omega)⟩
    rw [hc]
    simp only [Bool.not_false,Bool.true_and,Bool.false_or]
    have hyok:0≤y∧y < (s.Covers.length:Int):=by omega
    have hprev:Wp (bif decide (0 < (pre.length:Int)) then chk ((pre.length:Int) - 1) some else some 0) (fun v=>Wp (bif decide (0 < (pre.length:Int)) then Yy o v some else some default) (fun p=>(decide (0 < (pre.length:Int))&&decide (y≤p))=false→H47 s (pre++[y]))∧Wp (bif decide (0 < (pre.length:Int)) then Yy o v some else some default) (fun p=>(decide (0 < (pre.length:Int))&&decide (y≤p))=true→¬ H47 s o)):=by
      by_cases hp:0 < pre.length
      · obtain⟨p,hp1,hp2,hp3⟩:=Q35 e hp
        rw [decide_eq_true (show 0 < (pre.length:Int) by omega)]
        simp only [cond_true,Bool.true_and]
        have:pre.length < 1+s.Covers.length:=by have:=hI.len; omega
        have:=hs.covs
        refine R1 ⟨by omega,by omega⟩ (Gj ⟨Yg (m:=pre.length - 1) (by omega) hp1 (Gj fun h=>?_),Yg (m:=pre.length - 1) (by omega) hp1 (Gj fun h hh=>?_)⟩)
        · have hlt:p < y:=by have:=of_decide_eq_false h; omega
          exact⟨H5c hI.mem hyok,R1f hI.sorted (J17 hI.sorted hp2 hlt)⟩
        · have h:=of_decide_eq_true h
          have hso:=hh.sorted
          rw [e] at hso
          have:=Ga8 hso p hp3
          omega
      · have h0:pre=[]:=List.eq_nil_of_length_eq_zero (by omega)
        subst h0
        exact Gj ⟨Gj fun _=>⟨fun z hz=>(List.mem_singleton.1 hz) ▸ hyok,List.pairwise_singleton ..⟩,Gj fun h=>Bool.noConfusion h⟩
    refine H5 (wp_mono hprev (fun v hv=>?_))
    obtain⟨p,hp,h1⟩:=hv.1
    obtain⟨p',hp',h2⟩:=hv.2
    rw [hp] at hp'; cases hp'
    rw [hp]
    refine H5 (Gj (Hr (fun h=>no (h2 h)) (fun h=>hnx _ (h1 h))))
  · exact H5 (wp_mono (H68 hs.right hs.tier hl) (fun r hr=>Gj (hr.trans ⟨fun h=>⟨hI,h⟩,fun h=>h.2⟩)))
end Go.Proofs.YtidpfkmbfgihlaaGreat
set_option maxRecDepth 100000
set_option linter.unusedVariables false
namespace Go.Proofs.YtidpfkmbfgihlaaGreat
open Go.RowKit

theorem Y71 {m:Option Bool} {p:Prop} [Decidable p] (h:Wp m (fun r=>r=true ↔ p)):m=some (decide p):=by
  obtain⟨r,hr,h⟩:=h
  rw [hr]
  congr 1
  cases r with
  | false=>exact(decide_eq_false (fun hp=>by have:=h.2 hp; cases this)).symm
  | true=>exact(decide_eq_true (h.1 rfl)).symm
instance (a b:Slot):Decidable (Hbe a b):=by unfold Hbe H1a; infer_instance
def Hee (s:Gk) (o:List Int) (x:Slot):Prop:=∃ (m:Nat) (c:G2),x.G2=(m:Int)∧s.Columns[m]? = some c∧c.Deck=false∧0≤R4 s c∧R4 s c ∉ o
theorem Sta.checked {s:Gk} {boxes:List Box} {l:List Stowed} (h:Sta s boxes l) {o:List Int} (hO:H47 s o):Zg s boxes l o=some true:=by
  have hl:=h.len
  exact G83 (wp_mono (R2e (G76 h.ship) boxes l o (by omega)) (fun r hr=>hr.2 ⟨hO,h.right⟩))
def J5a (s:Gk) (l:List Stowed) (k:Int):Prop:=∀ y∈l,∀ (m:Nat) (c:G2),y.Slot.G2=(m:Int)→s.Columns[m]? = some c→c.Deck=true→R4 s c≠k
end Go.Proofs.YtidpfkmbfgihlaaGreat
set_option maxRecDepth 100000
set_option linter.unusedVariables false
namespace Go.Proofs.YtidpfkmbfgihlaaGreat
open Go.RowKit

theorem R8d {boxes:List Box} {m half n:Int} {x:Stowed}:Gd1 boxes m half n x=n+Gd1 boxes m half 0 x:=by
  unfold Gd1
  split
  · cases Qj boxes x.Box with
    | some b=>simp only; omega
    | none=>simp
  · simp
theorem J78 {boxes:List Box} {m half:Int}:∀ (l:List Stowed) (n:Int),l.foldl (Gd1 boxes m half) n=n+l.foldl (Gd1 boxes m half) 0:=by
  intro l
  induction l with
  | nil=>intro n; simp
  | cons x r ih=>
    intro n
    rw [List.foldl_cons,List.foldl_cons,ih (Gd1 boxes m half n x),ih (Gd1 boxes m half 0 x),R8d (n:=n)]
    omega
theorem He8 {boxes:List Box} {m half:Int} (pre post:List Stowed) (x:Stowed):Ze boxes (pre++x::post) m half=Ze boxes (pre++post) m half+Gd1 boxes m half 0 x:=by
  unfold Ze
  rw [List.foldl_append,List.foldl_cons,List.foldl_append,J78 post (Gd1 boxes m half _ x),J78 post (List.foldl _ 0 pre),R8d]
  omega
theorem Q9e {boxes:List Box} {m half n:Int} {x:Stowed} (h:x.Slot.G2≠m):Gd1 boxes m half n x=n:=by
  unfold Gd1
  rw [if_neg (fun hh=>h hh.1)]
theorem G91 {l:List Stowed} {y:Slot} {half:Int} (h:below (l.map (·.Slot)) y half):∃ z∈l,z.Slot=⟨y.G2,y.Tier - 1,half⟩:=by
  obtain⟨z,hz,e⟩:=List.mem_map.1 h
  exact⟨z,hz,e⟩
theorem Jd9 {pre post:List Stowed} {x:Stowed} {y:Slot} (hn:¬ H9c y x.Slot) (h:H3b y ((pre++x::post).map (·.Slot))):H3b y ((pre++post).map (·.Slot)):=by
  have key:∀ half,(half=y.Half∨y.Half=0)→below ((pre++x::post).map (·.Slot)) y half→below ((pre++post).map (·.Slot)) y half:=fun half hh hb=>by
    obtain⟨z,hz,e⟩:=G91 hb
    refine List.mem_map.2 ⟨z,?_,e⟩
    have hzx:z≠x:=fun e2=>hn (by
      subst e2
      rw [e]
      refine⟨rfl,by simp only; omega,?_⟩
      rcases hh with hh | hh
      · exact .inl hh.symm
      · exact .inr (.inl hh))
    simp only [List.mem_append,List.mem_cons] at hz ⊢
    rcases hz with hz | hz | hz
    · exact .inl hz
    · exact(hzx hz).elim
    · exact .inr hz
  rcases h with h | h | ⟨h0,h1,h2⟩
  · exact .inl h
  · exact .inr (.inl (key _ (.inl rfl) h))
  · exact .inr (.inr ⟨h0,key _ (.inr h0) h1,key _ (.inr h0) h2⟩)
theorem Y1d {pre post:List Stowed} {x y:Stowed} (h:y∈pre++post):y∈pre++x::post:=by
  simp only [List.mem_append,List.mem_cons] at h ⊢
  rcases h with h | h
  · exact .inl h
  · exact .inr (.inr h)
theorem Q79 {s:Gk} {boxes:List Box} {pre post:List Stowed} {x:Stowed} (h:Yv s boxes (pre++x::post)) (ho:H6d (pre++x::post) x.Slot=[]):Yv s boxes (pre++post):=by
  have hsub:(pre++post).Sublist (pre++x::post):=List.Sublist.append_left (List.sublist_cons_self ..) _
  refine⟨fun y hy=>?_,h.sorted.sublist hsub,h.apart.sublist hsub,fun m c hc=>?_⟩
  · obtain⟨b,h1,h2,h3⟩:=h.each y (Y1d hy)
    refine⟨b,h1,h2,Jd9 (fun hv=>?_) h3⟩
    have:y.Box∈H6d (pre++x::post) x.Slot:=Hb4.2 ⟨y,Y1d hy,rfl,hv⟩
    rw [ho] at this; cases this
  · have:=h.fits m c hc
    unfold J03 at this ⊢
    rw [He8,He8] at this
    have a1:=(Q37 (boxes:=boxes) (column:=(m:Int)) (half:=1) (n:=0) (x:=x)).1
    have a2:=(Q37 (boxes:=boxes) (column:=(m:Int)) (half:=2) (n:=0) (x:=x)).1
    rcases this with h | ⟨h,h'⟩
    · exact .inl h
    · exact .inr ⟨by omega,by omega⟩
def J5f (l:List Stowed) (x:Stowed) (r:List Stowed):Prop:=∃ pre post,l=pre++post∧r=pre++x::post∧(∀ y∈pre,y.Box < x.Box)∧(∀ y,post.head? = some y→x.Box≤y.Box)
def Hba (s:Gk) (o:List Int) (x:Slot):Prop:=∃ (m:Nat) (c:G2),x.G2=(m:Int)∧s.Columns[m]? = some c∧0≤R4 s c∧(c.Deck=true ↔ R4 s c∈o)
def Qd3 (l:List Stowed) (x:Slot):Prop:=∃ y∈l,Hbe x y.Slot
def Qdc (s:Gk) (boxes:List Box) (q:List Stowed) (x:Slot):Prop:=∀ (m:Nat) (c:G2),x.G2=(m:Int)→s.Columns[m]? = some c→J03 boxes q m c
end Go.Proofs.YtidpfkmbfgihlaaGreat
set_option maxRecDepth 100000
set_option linter.unusedVariables false
namespace Go.Proofs.YtidpfkmbfgihlaaGreat
open Go.RowKit
theorem Q0d {a b:Int} (h:H1a a b):H1a b a:=by
 unfold H1a at h ⊢
 omega
theorem Hb5 {a b:Slot} (h:Hbe a b):Hbe b a:=⟨h.1.symm,h.2.1.symm,Q0d h.2.2⟩
theorem over_self {a:Slot}:¬ H9c a a:=fun h=>by have:=h.2.1; omega
theorem Gf0 {l q:List Stowed} {x:Stowed} (h:J5f l x q):q.Perm (x::l):=by
 obtain⟨pre,post,rfl,rfl,_⟩:=h
 exact List.perm_middle
theorem H72 {l q:List Stowed} {x:Stowed} (h:J5f l x q) (hs:l.Pairwise (fun a b=>a.Box < b.Box)) (hx:x.Box ∉ l.map (·.Box)):q.Pairwise (fun a b=>a.Box < b.Box):=by
 obtain⟨pre,post,rfl,rfl,h1,h2⟩:=h
 obtain⟨s1,s2,s3⟩:=List.pairwise_append.1 hs
 refine List.pairwise_append.2 ⟨s1,List.pairwise_cons.2 ⟨fun y hy=>?_,s2⟩,fun a ha b hb=>?_⟩
 ·have hne:x.Box≠y.Box:=fun e=>hx (List.mem_map.2 ⟨y,List.mem_append.2 (.inr hy),e.symm⟩)
  cases post with
  | nil=>cases hy
  | cons z r=>
   have h3:=h2 z rfl
   rcases List.mem_cons.1 hy with rfl | hy
   ·omega
   ·have:=(List.pairwise_cons.1 s2).1 y hy
    omega
 ·rcases List.mem_cons.1 hb with rfl | hb
  ·exact h1 a ha
  ·exact s3 a ha b hb
theorem J22 {a b:List Stowed} (hp:a.Perm b) (ha:a.Pairwise (fun x y=>x.Box < y.Box)) (hb:b.Pairwise (fun x y=>x.Box < y.Box)):a=b:=
 List.Perm.eq_of_pairwise (le:=fun x y:Stowed=>x.Box < y.Box) (fun x y _ _ h1 h2=>by omega) ha hb hp
theorem Rf2 {l q:List Stowed} {x:Stowed} {pre post:List Stowed} (h:J5f (pre++post) x q) (hs:(pre++x::post).Pairwise (fun a b=>a.Box < b.Box)):q=pre++x::post:=by
 have hsub:(pre++post).Sublist (pre++x::post):=List.Sublist.append_left (List.sublist_cons_self ..) _
 obtain⟨s1,s2,s3⟩:=List.pairwise_append.1 hs
 refine J22 ((Gf0 h).trans List.perm_middle.symm) (H72 h (hs.sublist hsub) (fun hm=>?_)) hs
 obtain⟨y,hy,e⟩:=List.mem_map.1 hm
 rcases List.mem_append.1 hy with hy | hy
 ·have:=s3 y hy x (List.mem_cons_self ..)
  omega
 ·have:=(List.pairwise_cons.1 s2).1 y hy
  omega
theorem Qf8 {l q:List Slot} {x:Slot} (h:H3b x l) (hs:∀ y∈l,y∈q):H3b x q:=by
 rcases h with h | h | ⟨h0,h1,h2⟩
 ·exact .inl h
 ·exact .inr (.inl (hs _ h))
 ·exact .inr (.inr ⟨h0,hs _ h1,hs _ h2⟩)
theorem Y4c {s:Gk} {boxes:List Box} {l q:List Stowed} {x:Stowed} {b:Box} (h:Yv s boxes l) (hb:Qj boxes x.Box=some b) (hslot:G62 s x.Slot b.Size) (hmet:¬ Qd3 l x.Slot) (hheld:H3b x.Slot (l.map (·.Slot))) (hins:J5f l x q) (hx:x.Box ∉ l.map (·.Box)) (hfit:Qdc s boxes q x.Slot):Yv s boxes q:=by
 have hp:=Gf0 hins
 have hmem:∀ y,y∈q ↔ y=x∨y∈l:=fun y=>by rw [hp.mem_iff,List.mem_cons]
 have hsl:∀ y∈l.map (·.Slot),y∈q.map (·.Slot):=fun y hy=>by
  obtain⟨z,hz,e⟩:=List.mem_map.1 hy
  exact List.mem_map.2 ⟨z,(hmem z).2 (.inr hz),e⟩
 refine⟨fun y hy=>?_,H72 hins h.sorted hx,?_,fun m c hc=>?_⟩
 ·rcases (hmem y).1 hy with rfl | hy
  ·exact⟨b,hb,hslot,Qf8 hheld hsl⟩
  ·obtain⟨b',h1,h2,h3⟩:=h.each y hy
   exact⟨b',h1,h2,Qf8 h3 hsl⟩
 ·have ha:=h.apart
  obtain⟨pre,post,rfl,rfl,_⟩:=hins
  obtain⟨s1,s2,s3⟩:=List.pairwise_append.1 ha
  refine List.pairwise_append.2 ⟨s1,List.pairwise_cons.2 ⟨fun y hy hm=>hmet ⟨y,List.mem_append.2 (.inr hy),Hb5 hm⟩,s2⟩,fun a ha b hb=>?_⟩
  rcases List.mem_cons.1 hb with rfl | hb
  ·exact fun hm=>hmet ⟨a,List.mem_append.2 (.inl ha),hm⟩
  ·exact s3 a ha b hb
 ·by_cases he:x.Slot.G2=(m:Int)
  ·exact hfit m c he hc
  ·have:=h.fits m c hc
   obtain⟨pre,post,rfl,rfl,_⟩:=hins
   unfold J03 at this ⊢
   rw [He8,He8,Q9e he,Q9e he,Int.add_zero,Int.add_zero]
   exact this
theorem chain {s:Gk} {boxes:List Box} {l:List Stowed} (h:Yv s boxes l) {t:Int} (h0:0≤t):∀ (n:Nat) (z:Stowed),z∈l→z.Slot.Tier=t+(n:Int)+1 →
  (∃ w∈l,w.Slot=⟨z.Slot.G2,t,z.Slot.Half⟩)∨(z.Slot.Half=0∧(∃ w∈l,w.Slot=⟨z.Slot.G2,t,1⟩)∧∃ w∈l,w.Slot=⟨z.Slot.G2,t,2⟩):=by
 intro n
 induction n with
 | zero=>
  intro z hz ht
  obtain⟨_,_,_,hh⟩:=h.each z hz
  have e:z.Slot.Tier - 1=t:=by omega
  rcases hh with hh | hh | ⟨hz0,h1,h2⟩
  ·omega
  ·obtain⟨w,hw,ew⟩:=G91 hh
   rw [e] at ew
   exact .inl ⟨w,hw,ew⟩
  ·obtain⟨w,hw,ew⟩:=G91 h1
   obtain⟨v,hv,ev⟩:=G91 h2
   rw [e] at ew ev
   exact .inr ⟨hz0,⟨w,hw,ew⟩,⟨v,hv,ev⟩⟩
 | succ n ih=>
  intro z hz ht
  obtain⟨_,_,_,hh⟩:=h.each z hz
  have one:∀ w∈l,∀ half,w.Slot=⟨z.Slot.G2,z.Slot.Tier - 1,half⟩→half≠0→∃ v∈l,v.Slot=⟨z.Slot.G2,t,half⟩:=fun w hw half ew hne=>by
   have:=ih w hw (by rw [ew]; simp only; omega)
   rw [ew] at this
   rcases this with h | ⟨h,_⟩
   ·exact h
   ·exact(hne h).elim
  rcases hh with hh | hh | ⟨hz0,h1,h2⟩
  ·omega
  ·obtain⟨w,hw,ew⟩:=G91 hh
   have:=ih w hw (by rw [ew]; simp only; omega)
   rw [ew] at this
   exact this
  ·obtain⟨w,hw,ew⟩:=G91 h1
   obtain⟨v,hv,ev⟩:=G91 h2
   exact .inr ⟨hz0,one w hw 1 ew (by decide),one v hv 2 ev (by decide)⟩
theorem Yca {s:Gk} {boxes:List Box} {l q:List Stowed} {x:Stowed} {size:Int} (h:Yv s boxes l) (hslot:G62 s x.Slot size) (hmet:¬ Qd3 l x.Slot) (hins:J5f l x q):H6d q x.Slot=[]:=by
 refine List.eq_nil_iff_forall_not_mem.2 fun a ha=>?_
 obtain⟨z,hz,_,ho⟩:=Hb4.1 ha
 have hzl:z∈l:=by
  rcases List.mem_cons.1 ((Gf0 hins).mem_iff.1 hz) with rfl | hz
  ·exact(over_self ho).elim
  ·exact hz
 obtain⟨o1,o2,o3⟩:=ho
 have ht:=hslot.tier
 have hhalf:x.Slot.Half=0∨x.Slot.Half=1∨x.Slot.Half=2:=by
  have:=hslot.half
  unfold H98 at this
  split at this
  ·have:x.Slot.Half=0:=by simpa using this
   exact .inl this
  ·split at this
   ·have:x.Slot.Half=1∨x.Slot.Half=2:=by simpa using this
    exact .inr this
   ·cases this
 have meet:∀ w∈l,∀ half,w.Slot=⟨z.Slot.G2,x.Slot.Tier,half⟩→H1a x.Slot.Half half→False:=fun w hw half ew hsh=>hmet ⟨w,hw,by rw [ew]; exact⟨o1.symm,rfl,hsh⟩⟩
 rcases chain h ht ((z.Slot.Tier - x.Slot.Tier - 1).toNat) z hzl (by omega) with ⟨w,hw,ew⟩ | ⟨_,⟨w,hw,ew⟩,⟨v,hv,ev⟩⟩
 ·exact meet w hw _ ew (Q0d o3)
 ·rcases hhalf with e | e | e
  ·exact meet w hw _ ew (.inr (.inl e))
  ·exact meet w hw _ ew (.inl e)
  ·exact meet v hv _ ev (.inl e)
theorem Yc1 {s:Gk} {o:List Int} {x:Slot} (h:Hee s o x):Hba s o x:=by
 obtain⟨m,c,h1,h2,h3,h4,h5⟩:=h
 exact⟨m,c,h1,h2,h4,⟨fun e=>absurd (h3.symm.trans e) Bool.false_ne_true,fun e=>(h5 e).elim⟩⟩
theorem R75 {s:Gk} {boxes:List Box} {l:List Stowed} {o:List Int} (hU:∀ k∈o,J5a s l k) {x:Stowed} (hx:x∈l) (h:¬ Hee s o x.Slot):¬ Hba s o x.Slot:=by
 rintro⟨m,c,h1,h2,h3,h4⟩
 cases hd:c.Deck with
 | false=>exact h ⟨m,c,h1,h2,hd,h3,fun hm=>by have:=h4.2 hm; rw [hd] at this; cases this⟩
 | true=>exact hU _ (h4.1 hd) x hx m c h1 h2 hd rfl
theorem Y11 {s:Gk} {x:Slot} {size:Int} (h:G62 s x size):size=20∨size=40:=by
 have:=h.half
 unfold H98 at this
 split at this
 ·exact .inr (by assumption)
 ·split at this
  ·exact .inl (by assumption)
  ·cases this
end Go.Proofs.YtidpfkmbfgihlaaGreat
