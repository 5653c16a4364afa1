/-
 What is reached for,of the states that the chapter's statements make. What can be put,taken,opened and closed. What Free,Take,Open,Close and Put return,of states that are right. What Put returns,and that states stay right. States with a box more or less are right. What a simulator's maps hold,and what the methods that only read return.
-/
import Derived.Test.YtidpfkmbfgihlaaGreatBuiltB
set_option maxRecDepth 100000
set_option linter.unusedVariables false
namespace Go.Proofs.YtidpfkmbfgihlaaGreat
open Go.RowKit
structure Sta (s:Gk) (boxes:List Box) (l:List Stowed):Prop where
 ship:Q23 s
 right:Yw s boxes l
 len:l.length≤10
end Go.Proofs.YtidpfkmbfgihlaaGreat
set_option maxRecDepth 100000
set_option linter.unusedVariables false
namespace Go.Proofs.YtidpfkmbfgihlaaGreat
open Go.RowKit

structure H44 (s:Gk) (o:List Int):Prop where
  mem:∀ y∈o,0≤y∧y < (s.Covers.length:Int)
  sorted:o.Pairwise (· < ·)
theorem Qf2 {s:Gk}:H44 s []:=⟨fun y hy=>(List.not_mem_nil hy).elim,List.Pairwise.nil⟩
theorem H44.len {s:Gk} {o:List Int} (h:H44 s o):o.length≤s.Covers.length:=by
  have hn:o.Nodup:=G33 h.sorted
  have:=hn.length_le_of_subset (l₂:=(List.range s.Covers.length).map (fun n:Nat=>(n:Int))) (fun a ha=>by
    obtain⟨h1,h2⟩:=h.mem a ha
    exact List.mem_map.2 ⟨a.toNat,List.mem_range.2 (by omega),by omega⟩)
  simpa using this
theorem R2f {s:Gk} (hs:Small s) (boxes:List Box) (l:List Stowed) (o:List Int) (hl:l.length≤1000000):Wp (Ze s boxes l o) (fun r=>r=true ↔ H44 s o∧Yw s boxes l):=by
  unfold Ze
  refine Y4 (fun pre _=>H44 s pre) Qf2 (fun pre y post u nx e hI hnx=>?_) (fun u hI=>?_)
  · have no:¬ H44 s o→Wp (some false) (fun r=>r=true ↔ H44 s o∧Yw s boxes l):=fun h=>Gj (H3b fun hh=>h hh.1)
    by_cases hy:y < 0∨(s.Covers.length:Int)≤y
    · have hc:(decide (y < 0)||decide ((s.Covers.length:Int)≤y))=true:=by simpa using hy
      rw [hc]
      refine H5 (Gj (H5 (Gj (Hp (fun _=>no fun h=>?_) (fun h=>by cases h)))))
      have:=h.mem y (by rw [e]; simp)
      omega
    have hc:(decide (y < 0)||decide ((s.Covers.length:Int)≤y))=false:=by
      rw [Bool.or_eq_false_iff]; exact⟨decide_eq_false (by omega),decide_eq_false (by omega)⟩
    rw [hc]
    simp only [Bool.not_false,Bool.true_and,Bool.false_or]
    have hyok:0≤y∧y < (s.Covers.length:Int):=by omega
    have hprev:Wp (bif decide (0 < (pre.length:Int)) then chk ((pre.length:Int) - 1) some else some 0) (fun v=>Wp (bif decide (0 < (pre.length:Int)) then Yv o v some else some default) (fun p=>(decide (0 < (pre.length:Int))&&decide (y≤p))=false→H44 s (pre++[y]))∧Wp (bif decide (0 < (pre.length:Int)) then Yv o v some else some default) (fun p=>(decide (0 < (pre.length:Int))&&decide (y≤p))=true→¬ H44 s o)):=by
      by_cases hp:0 < pre.length
      · obtain⟨p,hp1,hp2,hp3⟩:=Q37 e hp
        rw [decide_eq_true (show 0 < (pre.length:Int) by omega)]
        simp only [cond_true,Bool.true_and]
        have:pre.length < 1+s.Covers.length:=by have:=hI.len; omega
        have:=hs.covs
        refine Qy ⟨by omega,by omega⟩ (Gj ⟨Yh (m:=pre.length - 1) (by omega) hp1 (Gj fun h=>?_),Yh (m:=pre.length - 1) (by omega) hp1 (Gj fun h hh=>?_)⟩)
        · have hlt:p < y:=by have:=of_decide_eq_false h; omega
          exact⟨H5a hI.mem hyok,R22 hI.sorted (J14 hI.sorted hp2 hlt)⟩
        · have h:=of_decide_eq_true h
          have hso:=hh.sorted
          rw [e] at hso
          have:=Ga9 hso p hp3
          omega
      · have h0:pre=[]:=List.eq_nil_of_length_eq_zero (by omega)
        subst h0
        exact Gj ⟨Gj fun _=>⟨fun z hz=>(List.mem_singleton.1 hz) ▸ hyok,List.pairwise_singleton ..⟩,Gj fun h=>Bool.noConfusion h⟩
    refine H5 (wp_mono hprev (fun v hv=>?_))
    obtain⟨p,hp,h1⟩:=hv.1
    obtain⟨p',hp',h2⟩:=hv.2
    rw [hp] at hp'; cases hp'
    rw [hp]
    refine H5 (Gj (Hp (fun h=>no (h2 h)) (fun h=>hnx _ (h1 h))))
  · exact H5 (wp_mono (G8b hs.right hs.tier hl) (fun r hr=>Gj (hr.trans ⟨fun h=>⟨hI,h⟩,fun h=>h.2⟩)))
end Go.Proofs.YtidpfkmbfgihlaaGreat
set_option maxRecDepth 100000
set_option linter.unusedVariables false
namespace Go.Proofs.YtidpfkmbfgihlaaGreat
open Go.RowKit

instance (a b:Slot):Decidable (Hb9 a b):=by unfold Hb9 H19; infer_instance
def He8 (s:Gk) (o:List Int) (x:Slot):Prop:=∃ (m:Nat) (c:G2),x.G2=(m:Int)∧s.Columns[m]? = some c∧c.Deck=false∧0≤R4 s c∧R4 s c ∉ o
theorem Sta.checked {s:Gk} {boxes:List Box} {l:List Stowed} (h:Sta s boxes l) {o:List Int} (hO:H44 s o):Ze s boxes l o=some true:=by
  have hl:=h.len
  exact G31 (wp_mono (R2f (G2f h.ship) boxes l o (by omega)) (fun r hr=>hr.2 ⟨hO,h.right⟩))
def J59 (s:Gk) (l:List Stowed) (k:Int):Prop:=∀ y∈l,∀ (m:Nat) (c:G2),y.Slot.G2=(m:Int)→s.Columns[m]? = some c→c.Deck=true→R4 s c≠k
end Go.Proofs.YtidpfkmbfgihlaaGreat
set_option maxRecDepth 100000
set_option linter.unusedVariables false
namespace Go.Proofs.YtidpfkmbfgihlaaGreat
open Go.RowKit

theorem R8c {boxes:List Box} {m half n:Int} {x:Stowed}:Gd2 boxes m half n x=n+Gd2 boxes m half 0 x:=by
  unfold Gd2
  split
  · cases Q6 boxes x.Box with
    | some b=>simp only; omega
    | none=>simp
  · simp
theorem J77 {boxes:List Box} {m half:Int}:∀ (l:List Stowed) (n:Int),l.foldl (Gd2 boxes m half) n=n+l.foldl (Gd2 boxes m half) 0:=by
  intro l
  induction l with
  | nil=>intro n; simp
  | cons x r ih=>
    intro n
    rw [List.foldl_cons,List.foldl_cons,ih (Gd2 boxes m half n x),ih (Gd2 boxes m half 0 x),R8c (n:=n)]
    omega
theorem He2 {boxes:List Box} {m half:Int} (pre post:List Stowed) (x:Stowed):Zc boxes (pre++x::post) m half=Zc boxes (pre++post) m half+Gd2 boxes m half 0 x:=by
  unfold Zc
  rw [List.foldl_append,List.foldl_cons,List.foldl_append,J77 post (Gd2 boxes m half _ x),J77 post (List.foldl _ 0 pre),R8c]
  omega
theorem Qa1 {boxes:List Box} {m half n:Int} {x:Stowed} (h:x.Slot.G2≠m):Gd2 boxes m half n x=n:=by
  unfold Gd2
  rw [if_neg (fun hh=>h hh.1)]
theorem G93 {l:List Stowed} {y:Slot} {half:Int} (h:below (l.map (·.Slot)) y half):∃ z∈l,z.Slot=⟨y.G2,y.Tier - 1,half⟩:=by
  obtain⟨z,hz,e⟩:=List.mem_map.1 h
  exact⟨z,hz,e⟩
theorem Jd9 {pre post:List Stowed} {x:Stowed} {y:Slot} (hn:¬ H99 y x.Slot) (h:H38 y ((pre++x::post).map (·.Slot))):H38 y ((pre++post).map (·.Slot)):=by
  have key:∀ half,(half=y.Half∨y.Half=0)→below ((pre++x::post).map (·.Slot)) y half→below ((pre++post).map (·.Slot)) y half:=fun half hh hb=>by
    obtain⟨z,hz,e⟩:=G93 hb
    refine List.mem_map.2 ⟨z,?_,e⟩
    have hzx:z≠x:=fun e2=>hn (by
      subst e2
      rw [e]
      refine⟨rfl,by simp only; omega,?_⟩
      rcases hh with hh | hh
      · exact .inl hh.symm
      · exact .inr (.inl hh))
    simp only [List.mem_append,List.mem_cons] at hz ⊢
    rcases hz with hz | hz | hz
    · exact .inl hz
    · exact(hzx hz).elim
    · exact .inr hz
  rcases h with h | h | ⟨h0,h1,h2⟩
  · exact .inl h
  · exact .inr (.inl (key _ (.inl rfl) h))
  · exact .inr (.inr ⟨h0,key _ (.inr h0) h1,key _ (.inr h0) h2⟩)
theorem Y17 {pre post:List Stowed} {x y:Stowed} (h:y∈pre++post):y∈pre++x::post:=by
  simp only [List.mem_append,List.mem_cons] at h ⊢
  rcases h with h | h
  · exact .inl h
  · exact .inr (.inr h)
theorem Q7e {s:Gk} {boxes:List Box} {pre post:List Stowed} {x:Stowed} (h:Yw s boxes (pre++x::post)) (ho:H6a (pre++x::post) x.Slot=[]):Yw s boxes (pre++post):=by
  have hsub:(pre++post).Sublist (pre++x::post):=List.Sublist.append_left (List.sublist_cons_self ..) _
  refine⟨fun y hy=>?_,h.sorted.sublist hsub,h.apart.sublist hsub,fun m c hc=>?_⟩
  · obtain⟨b,h1,h2,h3⟩:=h.each y (Y17 hy)
    refine⟨b,h1,h2,Jd9 (fun hv=>?_) h3⟩
    have:y.Box∈H6a (pre++x::post) x.Slot:=Haf.2 ⟨y,Y17 hy,rfl,hv⟩
    rw [ho] at this; cases this
  · have:=h.fits m c hc
    unfold Hfd at this ⊢
    rw [He2,He2] at this
    have a1:=(Q39 (boxes:=boxes) (column:=(m:Int)) (half:=1) (n:=0) (x:=x)).1
    have a2:=(Q39 (boxes:=boxes) (column:=(m:Int)) (half:=2) (n:=0) (x:=x)).1
    rcases this with h | ⟨h,h'⟩
    · exact .inl h
    · exact .inr ⟨by omega,by omega⟩
def J5e (l:List Stowed) (x:Stowed) (r:List Stowed):Prop:=∃ pre post,l=pre++post∧r=pre++x::post∧(∀ y∈pre,y.Box < x.Box)∧(∀ y,post.head? = some y→x.Box≤y.Box)
def Hb5 (s:Gk) (o:List Int) (x:Slot):Prop:=∃ (m:Nat) (c:G2),x.G2=(m:Int)∧s.Columns[m]? = some c∧0≤R4 s c∧(c.Deck=true ↔ R4 s c∈o)
def Qd6 (l:List Stowed) (x:Slot):Prop:=∃ y∈l,Hb9 x y.Slot
def Qdf (s:Gk) (boxes:List Box) (q:List Stowed) (x:Slot):Prop:=∀ (m:Nat) (c:G2),x.G2=(m:Int)→s.Columns[m]? = some c→Hfd boxes q m c
end Go.Proofs.YtidpfkmbfgihlaaGreat
set_option maxRecDepth 100000
set_option linter.unusedVariables false
namespace Go.Proofs.YtidpfkmbfgihlaaGreat
open Go.RowKit
theorem Q0e {a b:Int} (h:H19 a b):H19 b a:=by
 unfold H19 at h ⊢
 omega
theorem Hb0 {a b:Slot} (h:Hb9 a b):Hb9 b a:=⟨h.1.symm,h.2.1.symm,Q0e h.2.2⟩
theorem over_self {a:Slot}:¬ H99 a a:=fun h=>by have:=h.2.1; omega
theorem Gf1 {l q:List Stowed} {x:Stowed} (h:J5e l x q):q.Perm (x::l):=by
 obtain⟨pre,post,rfl,rfl,_⟩:=h
 exact List.perm_middle
theorem H6f {l q:List Stowed} {x:Stowed} (h:J5e l x q) (hs:l.Pairwise (fun a b=>a.Box < b.Box)) (hx:x.Box ∉ l.map (·.Box)):q.Pairwise (fun a b=>a.Box < b.Box):=by
 obtain⟨pre,post,rfl,rfl,h1,h2⟩:=h
 obtain⟨s1,s2,s3⟩:=List.pairwise_append.1 hs
 refine List.pairwise_append.2 ⟨s1,List.pairwise_cons.2 ⟨fun y hy=>?_,s2⟩,fun a ha b hb=>?_⟩
 ·have hne:x.Box≠y.Box:=fun e=>hx (List.mem_map.2 ⟨y,List.mem_append.2 (.inr hy),e.symm⟩)
  cases post with
  | nil=>cases hy
  | cons z r=>
   have h3:=h2 z rfl
   rcases List.mem_cons.1 hy with rfl | hy
   ·omega
   ·have:=(List.pairwise_cons.1 s2).1 y hy
    omega
 ·rcases List.mem_cons.1 hb with rfl | hb
  ·exact h1 a ha
  ·exact s3 a ha b hb
theorem J1f {a b:List Stowed} (hp:a.Perm b) (ha:a.Pairwise (fun x y=>x.Box < y.Box)) (hb:b.Pairwise (fun x y=>x.Box < y.Box)):a=b:=
 List.Perm.eq_of_pairwise (le:=fun x y:Stowed=>x.Box < y.Box) (fun x y _ _ h1 h2=>by omega) ha hb hp
theorem Ree {l q:List Stowed} {x:Stowed} {pre post:List Stowed} (h:J5e (pre++post) x q) (hs:(pre++x::post).Pairwise (fun a b=>a.Box < b.Box)):q=pre++x::post:=by
 have hsub:(pre++post).Sublist (pre++x::post):=List.Sublist.append_left (List.sublist_cons_self ..) _
 obtain⟨s1,s2,s3⟩:=List.pairwise_append.1 hs
 refine J1f ((Gf1 h).trans List.perm_middle.symm) (H6f h (hs.sublist hsub) (fun hm=>?_)) hs
 obtain⟨y,hy,e⟩:=List.mem_map.1 hm
 rcases List.mem_append.1 hy with hy | hy
 ·have:=s3 y hy x (List.mem_cons_self ..)
  omega
 ·have:=(List.pairwise_cons.1 s2).1 y hy
  omega
theorem Qfb {l q:List Slot} {x:Slot} (h:H38 x l) (hs:∀ y∈l,y∈q):H38 x q:=by
 rcases h with h | h | ⟨h0,h1,h2⟩
 ·exact .inl h
 ·exact .inr (.inl (hs _ h))
 ·exact .inr (.inr ⟨h0,hs _ h1,hs _ h2⟩)
theorem Y47 {s:Gk} {boxes:List Box} {l q:List Stowed} {x:Stowed} {b:Box} (h:Yw s boxes l) (hb:Q6 boxes x.Box=some b) (hslot:G66 s x.Slot b.Size) (hmet:¬ Qd6 l x.Slot) (hheld:H38 x.Slot (l.map (·.Slot))) (hins:J5e l x q) (hx:x.Box ∉ l.map (·.Box)) (hfit:Qdf s boxes q x.Slot):Yw s boxes q:=by
 have hp:=Gf1 hins
 have hmem:∀ y,y∈q ↔ y=x∨y∈l:=fun y=>by rw [hp.mem_iff,List.mem_cons]
 have hsl:∀ y∈l.map (·.Slot),y∈q.map (·.Slot):=fun y hy=>by
  obtain⟨z,hz,e⟩:=List.mem_map.1 hy
  exact List.mem_map.2 ⟨z,(hmem z).2 (.inr hz),e⟩
 refine⟨fun y hy=>?_,H6f hins h.sorted hx,?_,fun m c hc=>?_⟩
 ·rcases (hmem y).1 hy with rfl | hy
  ·exact⟨b,hb,hslot,Qfb hheld hsl⟩
  ·obtain⟨b',h1,h2,h3⟩:=h.each y hy
   exact⟨b',h1,h2,Qfb h3 hsl⟩
 ·have ha:=h.apart
  obtain⟨pre,post,rfl,rfl,_⟩:=hins
  obtain⟨s1,s2,s3⟩:=List.pairwise_append.1 ha
  refine List.pairwise_append.2 ⟨s1,List.pairwise_cons.2 ⟨fun y hy hm=>hmet ⟨y,List.mem_append.2 (.inr hy),Hb0 hm⟩,s2⟩,fun a ha b hb=>?_⟩
  rcases List.mem_cons.1 hb with rfl | hb
  ·exact fun hm=>hmet ⟨a,List.mem_append.2 (.inl ha),hm⟩
  ·exact s3 a ha b hb
 ·by_cases he:x.Slot.G2=(m:Int)
  ·exact hfit m c he hc
  ·have:=h.fits m c hc
   obtain⟨pre,post,rfl,rfl,_⟩:=hins
   unfold Hfd at this ⊢
   rw [He2,He2,Qa1 he,Qa1 he,Int.add_zero,Int.add_zero]
   exact this
theorem chain {s:Gk} {boxes:List Box} {l:List Stowed} (h:Yw s boxes l) {t:Int} (h0:0≤t):∀ (n:Nat) (z:Stowed),z∈l→z.Slot.Tier=t+(n:Int)+1 →
  (∃ w∈l,w.Slot=⟨z.Slot.G2,t,z.Slot.Half⟩)∨(z.Slot.Half=0∧(∃ w∈l,w.Slot=⟨z.Slot.G2,t,1⟩)∧∃ w∈l,w.Slot=⟨z.Slot.G2,t,2⟩):=by
 intro n
 induction n with
 | zero=>
  intro z hz ht
  obtain⟨_,_,_,hh⟩:=h.each z hz
  have e:z.Slot.Tier - 1=t:=by omega
  rcases hh with hh | hh | ⟨hz0,h1,h2⟩
  ·omega
  ·obtain⟨w,hw,ew⟩:=G93 hh
   rw [e] at ew
   exact .inl ⟨w,hw,ew⟩
  ·obtain⟨w,hw,ew⟩:=G93 h1
   obtain⟨v,hv,ev⟩:=G93 h2
   rw [e] at ew ev
   exact .inr ⟨hz0,⟨w,hw,ew⟩,⟨v,hv,ev⟩⟩
 | succ n ih=>
  intro z hz ht
  obtain⟨_,_,_,hh⟩:=h.each z hz
  have one:∀ w∈l,∀ half,w.Slot=⟨z.Slot.G2,z.Slot.Tier - 1,half⟩→half≠0→∃ v∈l,v.Slot=⟨z.Slot.G2,t,half⟩:=fun w hw half ew hne=>by
   have:=ih w hw (by rw [ew]; simp only; omega)
   rw [ew] at this
   rcases this with h | ⟨h,_⟩
   ·exact h
   ·exact(hne h).elim
  rcases hh with hh | hh | ⟨hz0,h1,h2⟩
  ·omega
  ·obtain⟨w,hw,ew⟩:=G93 hh
   have:=ih w hw (by rw [ew]; simp only; omega)
   rw [ew] at this
   exact this
  ·obtain⟨w,hw,ew⟩:=G93 h1
   obtain⟨v,hv,ev⟩:=G93 h2
   exact .inr ⟨hz0,one w hw 1 ew (by decide),one v hv 2 ev (by decide)⟩
theorem Yc5 {s:Gk} {boxes:List Box} {l q:List Stowed} {x:Stowed} {size:Int} (h:Yw s boxes l) (hslot:G66 s x.Slot size) (hmet:¬ Qd6 l x.Slot) (hins:J5e l x q):H6a q x.Slot=[]:=by
 refine List.eq_nil_iff_forall_not_mem.2 fun a ha=>?_
 obtain⟨z,hz,_,ho⟩:=Haf.1 ha
 have hzl:z∈l:=by
  rcases List.mem_cons.1 ((Gf1 hins).mem_iff.1 hz) with rfl | hz
  ·exact(over_self ho).elim
  ·exact hz
 obtain⟨o1,o2,o3⟩:=ho
 have ht:=hslot.tier
 have hhalf:x.Slot.Half=0∨x.Slot.Half=1∨x.Slot.Half=2:=by
  have:=hslot.half
  unfold H95 at this
  split at this
  ·have:x.Slot.Half=0:=by simpa using this
   exact .inl this
  ·split at this
   ·have:x.Slot.Half=1∨x.Slot.Half=2:=by simpa using this
    exact .inr this
   ·cases this
 have meet:∀ w∈l,∀ half,w.Slot=⟨z.Slot.G2,x.Slot.Tier,half⟩→H19 x.Slot.Half half→False:=fun w hw half ew hsh=>hmet ⟨w,hw,by rw [ew]; exact⟨o1.symm,rfl,hsh⟩⟩
 rcases chain h ht ((z.Slot.Tier - x.Slot.Tier - 1).toNat) z hzl (by omega) with ⟨w,hw,ew⟩ | ⟨_,⟨w,hw,ew⟩,⟨v,hv,ev⟩⟩
 ·exact meet w hw _ ew (Q0e o3)
 ·rcases hhalf with e | e | e
  ·exact meet w hw _ ew (.inr (.inl e))
  ·exact meet w hw _ ew (.inl e)
  ·exact meet v hv _ ev (.inl e)
theorem Ybd {s:Gk} {o:List Int} {x:Slot} (h:He8 s o x):Hb5 s o x:=by
 obtain⟨m,c,h1,h2,h3,h4,h5⟩:=h
 exact⟨m,c,h1,h2,h4,⟨fun e=>absurd (h3.symm.trans e) Bool.false_ne_true,fun e=>(h5 e).elim⟩⟩
theorem R73 {s:Gk} {boxes:List Box} {l:List Stowed} {o:List Int} (hU:∀ k∈o,J59 s l k) {x:Stowed} (hx:x∈l) (h:¬ He8 s o x.Slot):¬ Hb5 s o x.Slot:=by
 rintro⟨m,c,h1,h2,h3,h4⟩
 cases hd:c.Deck with
 | false=>exact h ⟨m,c,h1,h2,hd,h3,fun hm=>by have:=h4.2 hm; rw [hd] at this; cases this⟩
 | true=>exact hU _ (h4.1 hd) x hx m c h1 h2 hd rfl
theorem Y0b {s:Gk} {x:Slot} {size:Int} (h:G66 s x size):size=20∨size=40:=by
 have:=h.half
 unfold H95 at this
 split at this
 ·exact .inr (by assumption)
 ·split at this
  ·exact .inl (by assumption)
  ·cases this
end Go.Proofs.YtidpfkmbfgihlaaGreat
set_option maxRecDepth 100000
set_option linter.unusedVariables false
namespace Go.Proofs.YtidpfkmbfgihlaaGreat
open Go.RowKit

section
variable {κ ν:Type} [DecidableEq κ]
theorem Y83 {l:List (κ×ν)} (hn:(l.map (·.1)).Nodup) {a:κ} {v:ν}:G2b l a=some v ↔ (a,v)∈l:=by
 constructor
 ·intro h
  unfold G2b at h
  obtain⟨p,hp,rfl⟩:=Option.map_eq_some_iff.1 h
  have h1:=List.mem_of_find?_eq_some hp
  have h2:p.1=a:=by simpa using List.find?_some hp
  subst h2
  exact h1
 ·intro h
  obtain⟨j,hj⟩:=List.mem_iff_getElem?.1 h
  exact(Hde hn hj).1
theorem R19 (m:Gt κ ν) {a:κ} {v:ν}:G2b (Gt.Hd m) a=some v ↔ (a,v)∈Gt.Hd m:=Y83 m.nd
theorem Q44 (m:Gt κ ν) {a b:κ} {v w:ν}:(b,w)∈Gt.Hd (Gt.put m a v) ↔ (b=a∧w=v)∨(b≠a∧(b,w)∈Gt.Hd m):=by
 rw [← R19]
 have e:Gt.Hd (Gt.put m a v)=Gfd (Gt.Hd m) a v:=Qe2 m.l a v
 rw [e,J3c]
 by_cases h:a=b
 ·subst h
  rw [if_pos rfl]
  constructor
  ·intro h; cases h; exact .inl ⟨rfl,rfl⟩
  ·rintro(⟨_,rfl⟩ | ⟨h,_⟩)
   ·rfl
   ·exact(h rfl).elim
 ·rw [if_neg h,R19]
  exact⟨fun g=>.inr ⟨fun e=>h e.symm,g⟩,fun g=>g.elim (fun g=>(h g.1.symm).elim) (·.2)⟩
omit [DecidableEq κ] in
theorem Q45 {a:κ} {v:ν}:(a,v) ∉ Gt.Hd (Gt.empty:Gt κ ν):=fun h=>by cases h
end

structure St where
 l:List Stowed
 o:List Int
 a:List Int
structure Good (s:Gk) (boxes:List Box) (t:St):Prop where
 ship:Q23 s
 right:Yw s boxes t.l
 opn:H44 s t.o
 free:∀ k∈t.o,J59 s t.l k
 box:∀ i∈t.a,∃ b,Q6 boxes i=some b∧(b.Size=20∨b.Size=40)
 asc:t.a.Pairwise (· < ·)
 disj:∀ i∈t.a,i ∉ t.l.map (·.Box)
 num:t.l.length+t.a.length=boxes.length
 few:boxes.length≤8
structure H78 (s:Gk) (boxes:List Box) (m:Gb) (t:St):Prop where
 cols:m.ship.Columns=s.Columns
 covs:m.ship.Covers=s.Covers
 on:∀ x b,(x,b)∈Gt.Hd m.on ↔ (⟨b.ID,x⟩:Stowed)∈t.l∧Q6 boxes b.ID=some b
 quay:∀ i b,(i,b)∈Gt.Hd m.quay ↔ i∈t.a∧Q6 boxes i=some b
 opn:∀ k v,(k,v)∈Gt.Hd m.open_ ↔ k∈t.o∧v=1
theorem G4d {boxes:List Box} {i:Int} {b:Box} (h:Q6 boxes i=some b):b.ID=i:=of_decide_eq_true (List.find?_some (p:=fun b:Box=>decide (b.ID=i)) h)
theorem Good.sta {s:Gk} {boxes:List Box} {t:St} (h:Good s boxes t):Sta s boxes t.l:=⟨h.ship,h.right,by have:=h.num; have:=h.few; omega⟩
theorem J19 {l:List Stowed} (h:l.Pairwise (fun a b=>a.Box < b.Box)):(l.map (·.Box)).Nodup:=G33 (List.pairwise_map.2 h)
theorem Rea {l:List Stowed} (h:l.Pairwise (fun a b=>a.Box < b.Box)):l.Nodup:=h.imp (fun {a b} hab e=>by subst e; omega)
section
variable {s:Gk} {boxes:List Box} {m:Gb} {t:St}
theorem Q38 (hG:Good s boxes t) (hR:H78 s boxes m t):(onB m).Perm t.l:=by
 refine(List.perm_ext_iff_of_nodup ?_ (Rea hG.right.sorted)).2 fun x=>?_
 ·have h:((Gt.Hd m.on).map (·.1)).Nodup:=m.on.nd
  unfold onB
  refine List.pairwise_map.2 ((List.pairwise_map.1 h).imp fun {p q} hpq e=>hpq ?_)
  exact congrArg Stowed.Slot e
 ·unfold onB
  rw [List.mem_map]
  constructor
  ·rintro⟨⟨y,b⟩,hp,rfl⟩
   exact((hR.on y b).1 hp).1
  ·intro hx
   obtain⟨b,hb,_⟩:=hG.right.each x hx
   have e:=G4d hb
   refine⟨(x.Slot,b),(hR.on x.Slot b).2 ⟨by rw [e]; exact hx,by rw [e]; exact hb⟩,?_⟩
   show Stowed.mk b.ID x.Slot=x
   rw [e]
theorem Y73 (hG:Good s boxes t) (hR:H78 s boxes m t):R0 m=some t.l:=by
 have hp:=Q38 hG hR
 have hl:t.l.length≤8:=by have:=hG.num; have:=hG.few; omega
 have hlen:=hp.length_eq
 have hn:((onB m).map (·.Box)).Nodup:=(hp.map _).nodup_iff.2 (J19 hG.right.sorted)
 unfold R0
 rw [decide_eq_true (show (onB m).length*32≤140737488355328∧(onB m).length≤maxLen∧((onB m).map (·.Box)).Nodup from ⟨by omega,by simp only [maxLen]; omega,hn⟩),Q84]
 refine congrArg some (Q74 ((Hd5 _).trans hp) (J19 hG.right.sorted) (Hd4 _) (hG.right.sorted.imp fun h=>by omega))
theorem Q06 {seq:List (Option Int)} {a:List Int} (hn:(seq.filterMap id).Nodup) (ha:a.Pairwise (· < ·)) (hl:a.length≤1000) (h:∀ i,i∈seq.filterMap id ↔ i∈a):Yo seq=some a:=by
 have hp:(seq.filterMap id).Perm a:=(List.perm_ext_iff_of_nodup hn (G33 ha)).2 h
 have hlen:=hp.length_eq
 unfold Yo
 rw [decide_eq_true (show (seq.filterMap id).length*8≤140737488355328∧(seq.filterMap id).length≤maxLen from ⟨by omega,by simp only [maxLen]; omega⟩),Q84,sorted_perm hp]
 unfold H67
 rw [decide_eq_true (show a.length < 4611686018427387904 by omega),cond_true]
 exact congrArg some (List.Perm.eq_of_pairwise (le:=fun a b:Int=>a≤b) (fun a b _ _ hab hba=>by omega) (Gef a) (ha.imp fun h=>by omega) (H09 a))
theorem Y5f (hG:Good s boxes t) (hR:H78 s boxes m t):Qp m=some t.a:=by
 unfold Qp
 have hn:((Gt.Hd m.quay).map (·.1)).Nodup:=m.quay.nd
 refine G31 (H5 (Gj (Gx (Q06 (a:=t.a) (by rw [Hb1]; exact hn) hG.asc (by have:=hG.num; have:=hG.few; omega) (fun i=>?_)) (Gj rfl))))
 rw [Hb1,List.mem_map]
 constructor
 ·rintro⟨⟨j,b⟩,hp,rfl⟩
  exact((hR.quay j b).1 hp).1
 ·intro hi
  obtain⟨b,hb,_⟩:=hG.box i hi
  exact⟨(i,b),(hR.quay i b).2 ⟨hi,hb⟩,rfl⟩
end
end Go.Proofs.YtidpfkmbfgihlaaGreat
