/-
 What a move needs,what it brings about,and that it can be undone: no program in sight. What doing a move does: the move can be done,and is done,or an error is told,and nothing changes. What putting a box does,and doing any move. How a simulator begins,and what the chapter's statements make.
-/
import Derived.Test.YtidpfkmbfgihlaaGreatSimA
set_option maxRecDepth 100000
set_option linter.unusedVariables false
namespace Go.Proofs.YtidpfkmbfgihlaaGreat
open Go.RowKit

def He0 (k:Int) (l:List Int):List Int:=l.filter (fun z=>decide (z < k))++k::l.filter (fun z=>decide (k < z))
def J22 (k:Int) (l:List Int):List Int:=l.filter (fun z=>decide (z≠k))
def Hdf (y:Stowed) (l:List Stowed):List Stowed:=l.filter (fun z=>decide (z.Box < y.Box))++y::l.filter (fun z=>decide (y.Box < z.Box))
def H72 (k:Int) (l:List Stowed):List Stowed:=l.filter (fun z=>decide (z.Box≠k))
theorem G8d {k:Int} {l:List Int} {i:Int}:i∈J22 k l ↔ i∈l∧i≠k:=by unfold J22; rw [List.mem_filter,decide_eq_true_eq]
theorem G8c {k:Int} {l:List Int} {i:Int}:i∈He0 k l ↔ i=k∨i∈l:=by
 unfold He0
 rw [List.mem_append,List.mem_cons,List.mem_filter,List.mem_filter,decide_eq_true_eq,decide_eq_true_eq]
 constructor
 ·rintro(h | h | h)
  ·exact .inr h.1
  ·exact .inl h
  ·exact .inr h.1
 ·rintro(h | h)
  ·exact .inr (.inl h)
  ·rcases Int.lt_trichotomy i k with g | g | g
   ·exact .inl ⟨h,g⟩
   ·exact .inr (.inl g)
   ·exact .inr (.inr ⟨h,g⟩)
theorem J1d {k:Int} {l:List Int} (h:l.Pairwise (· < ·)):(He0 k l).Pairwise (· < ·):=by
 unfold He0
 refine List.pairwise_append.2 ⟨h.filter _,List.pairwise_cons.2 ⟨fun a ha=>of_decide_eq_true (List.mem_filter.1 ha).2,h.filter _⟩,fun a ha b hb=>?_⟩
 have h1:=of_decide_eq_true (List.mem_filter.1 ha).2
 rcases List.mem_cons.1 hb with rfl | hb
 ·exact h1
 ·have h2:=of_decide_eq_true (List.mem_filter.1 hb).2
  omega
theorem J21 {k:Int} {l:List Int} (h:l.Pairwise (· < ·)):(J22 k l).Pairwise (· < ·):=h.filter _
theorem R7c {k:Int} {l:List Int} (h:l.Pairwise (· < ·)) (hk:k ∉ l):(He0 k l).length=l.length+1:=by
 have hp:(He0 k l).Perm (k::l):=(List.perm_ext_iff_of_nodup (G33 (J1d h)) (List.nodup_cons.2 ⟨hk,G33 h⟩)).2 fun i=>by rw [G8c,List.mem_cons]
 rw [hp.length_eq,List.length_cons]
theorem R83 {k:Int} {l:List Int} (h:l.Pairwise (· < ·)) (hk:k ∉ l):J22 k (He0 k l)=l:=
 He4 (J21 (J1d h)) h fun i=>by
  rw [G8d,G8c]
  exact⟨fun g=>g.1.resolve_left g.2,fun g=>⟨.inr g,fun e=>hk (e ▸ g)⟩⟩
theorem Q8f {k:Int} {l:List Int} (h:l.Pairwise (· < ·)) (hk:k∈l):He0 k (J22 k l)=l:=
 He4 (J1d (J21 h)) h fun i=>by
  rw [G8c,G8d]
  constructor
  ·rintro(e | e)
   ·exact e ▸ hk
   ·exact e.1
  ·intro g
   by_cases e:i=k
   ·exact .inl e
   ·exact .inr ⟨g,e⟩
theorem Y8d {k:Int} {l:List Int} (h:l.Pairwise (· < ·)) (hk:k∈l):(J22 k l).length+1=l.length:=by
 have:=R7c (k:=k) (J21 (k:=k) h) (fun g=>(G8d.1 g).2 rfl)
 rw [Q8f h hk] at this
 omega
theorem Q87 {k:Int} {l:List Stowed} {y:Stowed}:y∈H72 k l ↔ y∈l∧y.Box≠k:=by unfold H72; rw [List.mem_filter,decide_eq_true_eq]
theorem Y74 {l:List Stowed} (hs:l.Pairwise (fun a b=>a.Box < b.Box)) {k:Int} (hk:k ∉ l.map (·.Box)):l=l.filter (fun z=>decide (z.Box < k))++l.filter (fun z=>decide (k < z.Box)):=by
 have e:l.filter (fun z=>decide (k < z.Box))=l.filter (fun z=>!decide (z.Box < k)):=List.filter_congr fun z hz=>by
  have:z.Box≠k:=fun e=>hk (List.mem_map.2 ⟨z,hz,e⟩)
  by_cases h:z.Box < k
  ·rw [decide_eq_true h,decide_eq_false (by omega)]; rfl
  ·rw [decide_eq_false h,decide_eq_true (by omega)]; rfl
 refine J1f ?_ hs ?_
 ·rw [e]; exact(List.filter_append_perm _ _).symm
 ·refine List.pairwise_append.2 ⟨hs.filter _,hs.filter _,fun a ha b hb=>?_⟩
  have h1:=of_decide_eq_true (List.mem_filter.1 ha).2
  have h2:=of_decide_eq_true (List.mem_filter.1 hb).2
  omega
theorem H93 {l:List Stowed} (hs:l.Pairwise (fun a b=>a.Box < b.Box)) {y:Stowed} (hk:y.Box ∉ l.map (·.Box)):J5e l y (Hdf y l):=by
 refine⟨_,_,Y74 hs hk,rfl,fun z hz=>of_decide_eq_true (List.mem_filter.1 hz).2,fun z hz=>?_⟩
 have:=of_decide_eq_true (List.mem_filter.1 (List.mem_of_mem_head? (Option.mem_def.2 hz))).2
 omega
theorem Jaa {pre post:List Stowed} {y:Stowed} (hs:(pre++y::post).Pairwise (fun a b=>a.Box < b.Box)):H72 y.Box (pre++y::post)=pre++post:=by
 obtain⟨s1,s2,s3⟩:=List.pairwise_append.1 hs
 unfold H72
 rw [List.filter_append,List.filter_cons_of_neg (by simp)]
 congr 1
 ·refine List.filter_eq_self.2 fun z hz=>decide_eq_true ?_
  have:=s3 z hz y (List.mem_cons_self ..)
  omega
 ·refine List.filter_eq_self.2 fun z hz=>decide_eq_true ?_
  have:=(List.pairwise_cons.1 s2).1 z hz
  omega
theorem Y8c {l:List Stowed} (hs:l.Pairwise (fun a b=>a.Box < b.Box)) {y:Stowed} (hk:y.Box ∉ l.map (·.Box)):H72 y.Box (Hdf y l)=l:=by
 have h:=H93 hs hk
 obtain⟨pre,post,e1,e2,_⟩:=id h
 have:=H6f h hs hk
 rw [e2] at this ⊢
 rw [Jaa this,e1]
theorem Y14 {l:List Stowed} (hs:l.Pairwise (fun a b=>a.Box < b.Box)) (k:Int):k ∉ (H72 k l).map (·.Box):=fun h=>by
 obtain⟨z,hz,e⟩:=List.mem_map.1 h
 exact(Q87.1 hz).2 e
theorem Y87 {l:List Stowed} (hs:l.Pairwise (fun a b=>a.Box < b.Box)) {y:Stowed} (hy:y∈l):Hdf y (H72 y.Box l)=l:=by
 have hd:(H72 y.Box l).Pairwise (fun a b=>a.Box < b.Box):=hs.filter _
 obtain⟨pre,post,rfl⟩:=List.append_of_mem hy
 rw [Jaa hs] at hd ⊢
 have hn:y.Box ∉ (pre++post).map (·.Box):=by rw [← Jaa hs]; exact Y14 hs _
 exact Ree (l:=[]) (H93 hd hn) hs

def Jbf (s:Gk) (t:St) (x:Move):Prop:=x.Box=0∧x.Slot=⟨0,0,0⟩∧0≤x.G8∧x.G8 < (s.Covers.length:Int)∧x.G8 ∉ t.o∧J59 s t.l x.G8
def Jbe (s:Gk) (t:St) (x:Move):Prop:=x.Box=0∧x.Slot=⟨0,0,0⟩∧0≤x.G8∧x.G8 < (s.Covers.length:Int)∧x.G8∈t.o
def Qc1 (s:Gk) (t:St) (x:Move):Prop:=x.G8=0∧(⟨x.Box,x.Slot⟩:Stowed)∈t.l∧H6a t.l x.Slot=[]∧¬ He8 s t.o x.Slot
def R95 (s:Gk) (boxes:List Box) (t:St) (x:Move):Prop:=x.G8=0∧x.Box∈t.a∧∃ b,Q6 boxes x.Box=some b∧G66 s x.Slot b.Size∧¬ Hb5 s t.o x.Slot∧¬ Qd6 t.l x.Slot∧H38 x.Slot (t.l.map (·.Slot))∧Qdf s boxes (Hdf ⟨x.Box,x.Slot⟩ t.l) x.Slot
def Can (s:Gk) (boxes:List Box) (t:St) (x:Move):Prop:=(x.Kind=1∧Jbf s t x)∨(x.Kind=4∧Jbe s t x)∨(x.Kind=2∧Qc1 s t x)∨(x.Kind=3∧R95 s boxes t x)
def nxt (t:St) (x:Move):St:=
 if x.Kind=1 then ⟨t.l,He0 x.G8 t.o,t.a⟩ else if x.Kind=4 then ⟨t.l,J22 x.G8 t.o,t.a⟩
 else if x.Kind=2 then ⟨H72 x.Box t.l,t.o,He0 x.Box t.a⟩ else ⟨Hdf ⟨x.Box,x.Slot⟩ t.l,t.o,J22 x.Box t.a⟩
def opp (x:Move):Move:=⟨5 - x.Kind,x.Box,x.Slot,x.G8⟩
section
variable {s:Gk} {boxes:List Box} {t:St} {x:Move}
theorem Yc4 (h:x.Kind=1):nxt t x=⟨t.l,He0 x.G8 t.o,t.a⟩:=by unfold nxt; rw [if_pos h]
theorem Yc1 (h:x.Kind=4):nxt t x=⟨t.l,J22 x.G8 t.o,t.a⟩:=by unfold nxt; rw [if_neg (by omega),if_pos h]
theorem Yc3 (h:x.Kind=2):nxt t x=⟨H72 x.Box t.l,t.o,He0 x.Box t.a⟩:=by unfold nxt; rw [if_neg (by omega),if_neg (by omega),if_pos h]
theorem Yc2 (h:x.Kind=3):nxt t x=⟨Hdf ⟨x.Box,x.Slot⟩ t.l,t.o,J22 x.Box t.a⟩:=by unfold nxt; rw [if_neg (by omega),if_neg (by omega),if_neg (by omega)]
theorem Y37 {l l':List Stowed} {k:Int} (h:J59 s l k) (hs:∀ y∈l',y∈l):J59 s l' k:=fun y hy=>h y (hs y hy)
theorem Can.step (hG:Good s boxes t) (h:Can s boxes t x):Good s boxes (nxt t x):=by
 have hso:=hG.right.sorted
 rcases h with ⟨hk,h1,h2,h3,h4,h5,h6⟩ | ⟨hk,h1,h2,h3,h4,h5⟩ | ⟨hk,h1,h2,h3,h4⟩ | ⟨hk,h1,h2,b,h3,h4,h5,h6,h7,h8⟩
 ·rw [Yc4 hk]
  refine⟨hG.ship,hG.right,⟨fun k hk'=>?_,J1d hG.opn.sorted⟩,fun k hk'=>?_,hG.box,hG.asc,hG.disj,hG.num,hG.few⟩
  ·rcases G8c.1 hk' with rfl | hk'
   ·exact⟨h3,h4⟩
   ·exact hG.opn.mem k hk'
  ·rcases G8c.1 hk' with rfl | hk'
   ·exact h6
   ·exact hG.free k hk'
 ·rw [Yc1 hk]
  exact⟨hG.ship,hG.right,⟨fun k hk'=>hG.opn.mem k (G8d.1 hk').1,J21 hG.opn.sorted⟩,fun k hk'=>hG.free k (G8d.1 hk').1,hG.box,hG.asc,hG.disj,hG.num,hG.few⟩
 ·rw [Yc3 hk]
  have hno:x.Box ∉ t.a:=fun h=>hG.disj _ h (List.mem_map.2 ⟨_,h2,rfl⟩)
  obtain⟨pre,post,e⟩:=List.append_of_mem h2
  have hd:H72 x.Box t.l=pre++post:=by rw [e] at hso ⊢; exact Jaa hso
  have hr:Yw s boxes (H72 x.Box t.l):=by rw [hd]; exact Q7e (by rw [← e]; exact hG.right) (by rw [← e]; exact h3)
  have hsub:∀ y∈H72 x.Box t.l,y∈t.l:=fun y hy=>(Q87.1 hy).1
  refine⟨hG.ship,hr,hG.opn,fun k hk'=>Y37 (hG.free k hk') hsub,fun i hi=>?_,J1d hG.asc,fun i hi hm=>?_,?_,hG.few⟩
  ·rcases G8c.1 hi with rfl | hi
   ·obtain⟨b,g1,g2,_⟩:=hG.right.each _ h2
    exact⟨b,g1,Y0b g2⟩
   ·exact hG.box i hi
  ·rcases G8c.1 hi with rfl | hi
   ·exact Y14 hso _ hm
   ·obtain⟨z,hz,ez⟩:=List.mem_map.1 hm
    exact hG.disj i hi (List.mem_map.2 ⟨z,hsub z hz,ez⟩)
  ·have hn:=hG.num
   show (H72 x.Box t.l).length+(He0 x.Box t.a).length=_
   rw [R7c hG.asc hno,hd]
   rw [e] at hn
   simp only [List.length_append,List.length_cons] at hn ⊢
   omega
 ·rw [Yc2 hk]
  have hno:x.Box ∉ t.l.map (·.Box):=hG.disj _ h2
  have hins:=H93 hso (y:=⟨x.Box,x.Slot⟩) hno
  have hp:=Gf1 hins
  have hr:=Y47 hG.right h3 h4 h6 h7 hins hno h8
  have hmem:∀ y,y∈Hdf ⟨x.Box,x.Slot⟩ t.l ↔ y=⟨x.Box,x.Slot⟩∨y∈t.l:=fun y=>by rw [hp.mem_iff,List.mem_cons]
  refine⟨hG.ship,hr,hG.opn,fun k hk' y hy m c hm hc hd he=>?_,fun i hi=>hG.box i (G8d.1 hi).1,J21 hG.asc,fun i hi hm=>?_,?_,hG.few⟩
  ·rcases (hmem y).1 hy with rfl | hy
   ·refine h5 ⟨m,c,hm,hc,?_,⟨fun _=>by rw [he]; exact hk',fun _=>hd⟩⟩
    have:=(hG.opn.mem k hk').1
    omega
   ·exact hG.free k hk' y hy m c hm hc hd he
  ·obtain⟨z,hz,ez⟩:=List.mem_map.1 hm
   rcases (hmem z).1 hz with rfl | hz
   ·exact(G8d.1 hi).2 ez.symm
   ·exact hG.disj i (G8d.1 hi).1 (List.mem_map.2 ⟨z,hz,ez⟩)
  ·have hn:=hG.num
   have:=Y8d hG.asc h2
   show (Hdf ⟨x.Box,x.Slot⟩ t.l).length+(J22 x.Box t.a).length=_
   rw [hp.length_eq,List.length_cons]
   omega
theorem Can.back (hG:Good s boxes t) (h:Can s boxes t x):Can s boxes (nxt t x) (opp x)∧nxt (nxt t x) (opp x)=t:=by
 have hso:=hG.right.sorted
 rcases h with ⟨hk,h1,h2,h3,h4,h5,h6⟩ | ⟨hk,h1,h2,h3,h4,h5⟩ | ⟨hk,h1,h2,h3,h4⟩ | ⟨hk,h1,h2,b,h3,h4,h5,h6,h7,h8⟩
 ·rw [Yc4 hk]
  have ho:(opp x).Kind=4:=by show 5 - x.Kind=4; omega
  refine⟨.inr (.inl ⟨ho,h1,h2,h3,h4,G8c.2 (.inl rfl)⟩),?_⟩
  rw [Yc1 ho]
  show (⟨t.l,J22 x.G8 (He0 x.G8 t.o),t.a⟩:St)=t
  rw [R83 hG.opn.sorted h5]
 ·rw [Yc1 hk]
  have ho:(opp x).Kind=1:=by show 5 - x.Kind=1; omega
  refine⟨.inl ⟨ho,h1,h2,h3,h4,fun g=>(G8d.1 g).2 rfl,hG.free _ h5⟩,?_⟩
  rw [Yc4 ho]
  show (⟨t.l,He0 x.G8 (J22 x.G8 t.o),t.a⟩:St)=t
  rw [Q8f hG.opn.sorted h5]
 ·rw [Yc3 hk]
  have ho:(opp x).Kind=3:=by show 5 - x.Kind=3; omega
  have hno:x.Box ∉ t.a:=fun h=>hG.disj _ h (List.mem_map.2 ⟨_,h2,rfl⟩)
  have hback:Hdf ⟨x.Box,x.Slot⟩ (H72 x.Box t.l)=t.l:=Y87 hso h2
  obtain⟨b,g1,g2,g3⟩:=hG.right.each _ h2
  obtain⟨pre,post,e⟩:=List.append_of_mem h2
  have hd:H72 x.Box t.l=pre++post:=by rw [e] at hso ⊢; exact Jaa hso
  refine⟨.inr (.inr (.inr ⟨ho,h1,G8c.2 (.inl rfl),b,g1,g2,R73 (boxes:=boxes) hG.free h2 h4,?_,?_,?_⟩)),?_⟩
  ·show ¬ Qd6 (H72 x.Box t.l) x.Slot
   rintro⟨y,hy,hm⟩
   have ha:=hG.right.apart
   rw [hd] at hy
   rw [e] at ha
   obtain⟨a1,a2,a3⟩:=List.pairwise_append.1 ha
   rcases List.mem_append.1 hy with hy | hy
   ·exact a3 y hy _ (List.mem_cons_self ..) hm
   ·exact(List.pairwise_cons.1 a2).1 y hy (Hb0 hm)
  ·show H38 x.Slot ((H72 x.Box t.l).map (·.Slot))
   rw [hd]
   exact Jd9 (x:=⟨x.Box,x.Slot⟩) over_self (by rw [← e]; exact g3)
  ·show Qdf s boxes (Hdf ⟨x.Box,x.Slot⟩ (H72 x.Box t.l)) x.Slot
   rw [hback]
   exact fun m c _ hc=>hG.right.fits m c hc
  ·rw [Yc2 ho]
   show (⟨Hdf ⟨x.Box,x.Slot⟩ (H72 x.Box t.l),t.o,J22 x.Box (He0 x.Box t.a)⟩:St)=t
   rw [hback,R83 hG.asc hno]
 ·rw [Yc2 hk]
  have ho:(opp x).Kind=2:=by show 5 - x.Kind=2; omega
  have hno:x.Box ∉ t.l.map (·.Box):=hG.disj _ h2
  have hins:=H93 hso (y:=⟨x.Box,x.Slot⟩) hno
  refine⟨.inr (.inr (.inl ⟨ho,h1,(Gf1 hins).mem_iff.2 (List.mem_cons_self ..),Yc5 hG.right h4 h6 hins,fun g=>h5 (Ybd g)⟩)),?_⟩
  rw [Yc3 ho]
  show (⟨H72 x.Box (Hdf ⟨x.Box,x.Slot⟩ t.l),t.o,He0 x.Box (J22 x.Box t.a)⟩:St)=t
  rw [show H72 x.Box (Hdf ⟨x.Box,x.Slot⟩ t.l)=t.l from Y8c (y:=⟨x.Box,x.Slot⟩) hso hno,Q8f hG.asc h2]
end
end Go.Proofs.YtidpfkmbfgihlaaGreat
set_option maxRecDepth 100000
set_option linter.unusedVariables false
namespace Go.Proofs.YtidpfkmbfgihlaaGreat
open Go.RowKit

theorem Y8 {v:Option Bool} {P:Prop} {e:Int} {rest:List (Option Bool×Int)} {Q:Int→Prop} (hv:Wp v (fun r=>r=true ↔ P)) (h1:P→Wp (H1b rest) Q) (h2:¬ P→Q e):Wp (H1b ((v,e)::rest)) Q:=by
 obtain⟨r,rfl,hr⟩:=hv
 cases r with
 | true=>exact h1 (hr.1 rfl)
 | false=>exact⟨e,rfl,h2 (fun hp=>by have:=hr.2 hp; cases this)⟩
section
variable {s:Gk} {boxes:List Box} {m:Gb} {t:St} {x:Move}
theorem J74 (hR:H78 s boxes m t):Wp (Z1 ((((decide (x.Box=0))&&(decide (x.Slot=(Slot.mk 0 0 0))))&&(decide (0≤x.G8)))&&(decide (x.G8 < (m.ship.Covers.length:Int))))) (fun r=>r=true ↔ (x.Box=0∧x.Slot=⟨0,0,0⟩∧0≤x.G8∧x.G8 < (s.Covers.length:Int))):=by
 refine Gj ?_
 rw [hR.covs]
 simp only [Bool.and_eq_true,decide_eq_true_eq,and_assoc]
end
end Go.Proofs.YtidpfkmbfgihlaaGreat
set_option maxRecDepth 100000
set_option linter.unusedVariables false
namespace Go.Proofs.YtidpfkmbfgihlaaGreat
open Go.RowKit
section
variable {s:Gk} {boxes:List Box} {m:Gb} {t:St} {x:Move}
end
end Go.Proofs.YtidpfkmbfgihlaaGreat
set_option maxRecDepth 100000
set_option linter.unusedVariables false
namespace Go.Proofs.YtidpfkmbfgihlaaGreat
open Go.RowKit

theorem Y4f {s:Gk} (h:Y30 s):Q23 s:=
 ⟨h.some,h.cols.len,fun c hc=>⟨c,0,h.cols.each c hc,.inl rfl,by rw [← (h.cols.each c hc).height]⟩,h.cols.nodup,h.covs⟩
theorem R90 {s:Gk} {l0:List Gu} (hs:Small s) (hl0:∀ d∈l0,R3a d) {most:Nat} (hmost:most≤10) :
  Wp (R7 s l0 (most:Int)) (fun r=>r.1=G92 (l0.take (min l0.length most))∧Yw s r.1 r.2∧r.2.length≤most):=by
 unfold R7
 have hcols:=hs.cols
 refine H5 (J07 (m:=min l0.length most) (by omega) (by omega) ?_)
 have hlen:(l0.take (min l0.length most)).length≤most:=by rw [List.length_take]; omega
 have hl:∀ d∈l0.take (min l0.length most),R3a d:=fun d hd=>hl0 d (List.mem_of_mem_take hd)
 generalize l0.take (min l0.length most)=l at hlen hl
 refine wp_mono (Q':=fun r=>r.1=G92 l∧Yw s (G92 l) r.2∧r.2.length≤l.length) ?_ (fun r hr=>⟨hr.1,by rw [hr.1]; exact hr.2.1,by omega⟩)
 refine Y4 (fun pre st=>st.1=G92 pre∧Yw s (G92 pre) st.2∧st.2.length≤pre.length) ⟨rfl,J70,Nat.le_refl _⟩ (fun pre y post st nx e hI hnx=>?_) (fun st hI=>Gj hI)
 obtain⟨h1,h2,h3⟩:=hI
 obtain⟨⟨c1,c2⟩,⟨k1,k2⟩⟩:=hl y (by rw [e]; simp)
 have hp:pre.length < most:=by rw [e] at hlen; simp only [List.length_append,List.length_cons] at hlen; omega
 have hbl:=Q9c pre
 have hb1:st.1.length≤most:=by rw [h1]; omega
 refine Gbb (fun j=>j.1=G92 (pre++[y])∧Yw s (G92 (pre++[y])) j.2∧j.2.length≤(pre++[y]).length) (fun K hK=>?_) (fun j hj=>hnx _ hj)
 refine Qy ⟨by omega,by omega⟩ (Qy ⟨by omega,by omega⟩ (Qy ⟨by omega,by omega⟩ (Qy ⟨by omega,by omega⟩ ?_)))
 refine Gbb (fun j17=>j17=Ha1 (strip y)) (fun K' hK'=>Hp (fun h=>hK' _ ?_) (fun h=>hK' _ ?_)) (fun j17 h17=>?_)
 ·unfold Ha1 strip; simp only [h,cond_true]
 ·unfold Ha1 strip; simp only [h,cond_false]
 subst h17
 have hbox:st.1++[Box.mk (5*((pre.length+1:Nat):Int)) ByteArray.empty (Ha1 (strip y)).1 (Ha1 (strip y)).2 (1000+100*y.Kilos) 0 1 0 false]=G92 (pre++[y]):=by
  rw [Q20,h1]; rfl
 rw [hbox]
 refine Yy (G28 (by rw [List.length_singleton]; omega) (by omega)) ?_
 refine H5 (wp_mono (Y77 hs _) (fun r22 h22=>?_))
 have hmore:Yw s (G92 (pre++[y])) st.2:=by rw [Q20]; exact Q11 h2
 refine Y4 (fun _ s49=>s49=st.2) rfl (fun pre2 x post2 s49 nx2 e2 hJ hnx2=>?_) (fun s49 hJ=>hK _ ⟨rfl,by rw [hJ]; exact hmore,by rw [hJ,List.length_append,List.length_singleton]; show st.2.length≤_; omega⟩)
 subst hJ
 simp only [List.nil_append]
 refine Yy (G28 (by simp only [List.length_nil]; omega) (by omega)) (Yy (G28 (by rw [List.length_singleton]; omega) (by omega)) (Qy ⟨by omega,by omega⟩ (H5 (J06 (by omega) ?_))))
 by_cases hc:x.G2=y.G2.tmod (s.Columns.length:Int)
 ·rw [decide_eq_true hc]
  simp only [cond_true,Bool.true_and]
  refine H5 (wp_mono (G8b hs.right hs.tier (by simp only [List.length_append,List.length_singleton]; omega)) (fun v hv=>Hp (fun h=>hK _ ⟨rfl,hv.1 h,?_⟩) (fun h=>hnx2 _ rfl)))
  simp only [List.length_append,List.length_singleton]; omega
 ·rw [decide_eq_false hc]
  simp only [cond_false,Bool.false_and]
  exact H5 (Gj (hnx2 _ rfl))

structure J48 (boxes:List Box):Prop where
 asc:boxes.Pairwise (fun a b=>a.ID < b.ID)
 size:∀ b∈boxes,b.Size=20∨b.Size=40
 ids:∀ b∈boxes,5≤b.ID∧b.ID≤40
 few:boxes.length≤8
theorem Y5e {l:List Gu} (hl:l.length≤8):J48 (G92 l):=by
 refine⟨List.pairwise_iff_getElem.2 fun i j hi hj hij=>?_,fun b hb=>?_,fun b hb=>?_,by rw [Q9c]; exact hl⟩
 ·simp only [G92,List.getElem_map,List.getElem_zipIdx,Y93]
  omega
 all_goals
  unfold G92 at hb
  obtain⟨⟨t,i⟩,hp,rfl⟩:=List.mem_map.1 hb
  have hi:=(List.getElem?_eq_some_iff.1 (List.mk_mem_zipIdx_iff_getElem?.1 hp)).1
  rw [List.length_map] at hi
 ·show (Ha1 t).1=20∨(Ha1 t).1=40
  unfold Ha1
  cases t.2.1 with
  | true=>exact .inl rfl
  | false=>exact .inr rfl
 ·show 5≤5*((i+1:Nat):Int)∧5*((i+1:Nat):Int)≤40
  omega
theorem R81:∀ {boxes:List Box},boxes.Pairwise (fun a b=>a.ID < b.ID)→∀ {b:Box},b∈boxes→Q6 boxes b.ID=some b
 | c::r,h,b,hb=>by
  obtain⟨h1,h2⟩:=List.pairwise_cons.1 h
  unfold Q6
  rw [List.find?_cons]
  rcases List.mem_cons.1 hb with rfl | hb
  ·rw [decide_eq_true rfl]
  ·have:=h1 b hb
   rw [decide_eq_false (by omega)]
   exact R81 h2 hb
theorem Y20 {boxes:List Box} {i:Int} {b:Box} (h:Q6 boxes i=some b):b∈boxes:=List.mem_of_find?_eq_some h
theorem Q1e {l:List Stowed} {f:Stowed→Option Bool} {p:Stowed→Bool} (h:∀ x∈l,f x=some (p x)):Hy l f=some (l.any p):=by
 have e:R1 l f=some (J76 p l):=Hb3 h
 unfold Hy
 exact G31 (Gx e (Gj (by show decide (0≤J76 p l)=_; rw [H94])))
theorem J45 {α:Type} [DecidableEq α] {k:Nat} {s:List α} (h:s.length*k≤140737488355328∧s.length≤maxLen):(R74 s fun b4=>bif b4 then (some []) else (need (decide ((([]:List α).length+s.length)*k≤140737488355328∧([]:List α).length+s.length≤maxLen)) <| some (([]:List α)++s)))=some s:=by
 refine J3a (fun b hb=>?_)
 cases b with
 | true=>rw [hb rfl]; rfl
 | false=>
  rw [cond_false,decide_eq_true (show (([]:List α).length+s.length)*k≤140737488355328∧([]:List α).length+s.length≤maxLen by rw [List.length_nil,Nat.zero_add]; exact h)]
  rfl
theorem Y0d {n k:Nat} (hn:n≤1000000) (hk:k≤1000):n*k≤140737488355328∧n≤maxLen:=
 ⟨Nat.le_trans (Nat.mul_le_mul hn hk) (by decide),by simp only [maxLen]; omega⟩
theorem R87 {s:List Stowed} (h:s.length≤1000000):Qc s=some s:=J45 (Y0d (k:=32) h (by decide))
theorem Jdb {s:List G2} (h:s.length≤1000000):Qo s=some s:=J45 (Y0d (k:=112) h (by decide))
theorem R03 {s:List G8} (h:s.length≤1000000):R8 s=some s:=J45 (Y0d (k:=32) h (by decide))
theorem Y5b {s:List Int} (h:s.length≤1000000):Q4 s=some s:=J45 (Y0d (k:=8) h (by decide))
def Q77 (b:Box):Bool:=decide (b.Size=20)||decide (b.Size=40)
theorem Q78 (boxes:List Box) (i:Int):G68 boxes i=some (match Q6 boxes i with
  | some b=>(b,Q77 b)
  | none=>(Box.mk 0 ByteArray.empty 0 false 0 0 0 0 false,false)):=by
 unfold G68
 rw [J33]
 cases Q6 boxes i <;> rfl
theorem Q72 {β:Type} {Q:β→Prop} {boxes:List Box} {state:List Stowed} {ashore pre post:List Int} {y:Int} (e:ashore=pre++y::post) (ha:pre.length≤1000000) {A:Option β} {B:Box→Option β}
  (hA:(∀ b,Q6 boxes y=some b→¬ (b.Size=20∨b.Size=40))∨(∃ p∈pre,y≤p)∨y∈state.map (·.Box)→Wp A Q)
  (hB:∀ b,Q6 boxes y=some b→(b.Size=20∨b.Size=40)→Wp (B b) Q) :
  Wp (bnd (G68 boxes y) fun r162=>
     bnd (bif ((!(!r162.2))&&(decide (0 < (pre.length:Int)))) then chk ((pre.length:Int) - 1) some else some 0) fun v165=>
     bnd (bif ((!(!r162.2))&&(decide (0 < (pre.length:Int)))) then Yv ashore v165 some else some default) fun y166=>
     bnd (bif (!((!r162.2)||((decide (0 < (pre.length:Int)))&&(decide (y≤y166))))) then Hy state (fun z0=>G1e z0 y) else some default) fun r167=>
     bif (((!r162.2)||((decide (0 < (pre.length:Int)))&&(decide (y≤y166))))||r167) then A else B r162.1) Q:=by
 refine Gx (Q78 boxes y) ?_
 cases hf:Q6 boxes y with
 | none=>
  have hA:=hA (.inl fun b hb=>by rw [hf] at hb; cases hb)
  exact H5 (Gj (H5 (Gj (H5 (Gj hA)))))
 | some b=>
  simp only
  by_cases hz:b.Size=20∨b.Size=40
  ·have hz':Q77 b=true:=by unfold Q77; simpa using hz
   rw [hz']
   simp only [Bool.not_true,Bool.not_false,Bool.true_and,Bool.false_or]
   have hc:=Q1e (l:=state) (f:=fun z0=>G1e z0 y) (p:=fun x=>decide (x.Box=y)) (fun x _=>rfl)
   have hin:(state.any fun x=>decide (x.Box=y))=true→y∈state.map (·.Box):=fun h=>by
    obtain⟨x,hx,e⟩:=List.any_eq_true.1 h
    exact List.mem_map.2 ⟨x,hx,of_decide_eq_true e⟩
   by_cases hp:0 < (pre.length:Int)
   ·obtain⟨p,h1,h2,h3⟩:=Q37 (l:=ashore) (y:=y) e (by omega)
    rw [decide_eq_true hp]
    simp only [cond_true,Bool.true_and]
    refine H5 (Qy (by omega) (Gj (H5 (Yh (show (pre.length:Int) - 1=((pre.length - 1:Nat):Int) by omega) h1 (Gj ?_)))))
    by_cases hle:y≤p
    ·rw [decide_eq_true hle]
     exact H5 (Gj (hA (.inr (.inl ⟨p,h3,hle⟩))))
    ·rw [decide_eq_false hle]
     refine Gx hc (Hp (fun h=>hA (.inr (.inr (hin (by simpa using h))))) (fun _=>hB b hf hz))
   ·rw [decide_eq_false hp]
    refine H5 (Gj (H5 (Gj (Gx hc (Hp (fun h=>hA (.inr (.inr (hin (by simpa using h))))) (fun _=>hB b hf hz))))))
  ·have hz':Q77 b=false:=by unfold Q77; simpa using hz
   rw [hz']
   have hA:=hA (.inl fun d hd=>by rw [hf] at hd; cases hd; exact hz)
   exact H5 (Gj (H5 (Gj (H5 (Gj hA)))))
theorem J91 {β:Type} {Q:β→Prop} {s:Gk} (hr:∀ x∈s.Covers,x.Rows.length≤1000000) {K:List G8→Option β} (hK:Wp (K s.Covers) Q) :
  Wp (each (fun y41 i41 (s41:(List G8)) nx41=>
   Yv s.Covers (i41:Int) fun y46=>
   bnd (Q4 y46.Rows) fun r48=>
   Yv s41 (i41:Int) fun y49=>
   nx41 (s41.set (i41:Int).toNat (G8.mk y49.Bay r48))) K s.Covers 0 s.Covers) Q:=by
 refine Y4 (fun _ t=>t=s.Covers) rfl (fun pre y post t nx e hI hnx=>?_) (fun t ht=>by rw [ht]; exact hK)
 subst hI
 have hy:s.Covers[pre.length]? = some y:=by rw [e]; simp
 refine Yh rfl hy (Gx (Y5b (hr y (List.mem_of_getElem? hy))) (Yh rfl hy (hnx _ ?_)))
 apply List.ext_getElem?
 intro q
 rw [show ((pre.length:Int)).toNat=pre.length by omega,List.getElem?_set]
 split
 ·rename_i h
  subst h
  have:=(List.getElem?_eq_some_iff.1 hy).1
  rw [if_pos this,hy]
 ·rfl
theorem Rdb {s:Gk} {boxes:List Box} {l:List Stowed} {a:List Int} (hL:Q23 s) (hr:Yw s boxes l) (hl:l.length≤10) (hal:a.length≤1000)
  (hbox:∀ i∈a,∃ b,Q6 boxes i=some b∧(b.Size=20∨b.Size=40)) (hasc:a.Pairwise (· < ·)) (hdis:∀ i∈a,i ∉ l.map (·.Box)) :
  Wp (Ge5 s boxes l a) (fun r=>r.2=0∧H78 s boxes r.1 ⟨l,[],a⟩∧r.1.lifts=0):=by
 have hs:=G2f hL
 have hcl:=hL.covs.len
 have hcn:=hL.len
 unfold Ge5
 refine H5 (wp_mono (G8b hs.right hs.tier (by omega)) (fun r4 h4=>Hp (fun h=>?_) (fun _=>?_)))
 ·rw [h4.2 hr] at h; cases h
 refine Gx (Jdb (by omega)) (Gx (R03 (by omega)) (J91 (fun x hx=>by have:=hs.rows x hx; omega) ?_))
 refine Y4 (fun pre (st:Gt Slot Box)=>∀ y b,(y,b)∈Gt.Hd st ↔ (⟨b.ID,y⟩:Stowed)∈pre∧Q6 boxes b.ID=some b) (fun y b=>⟨fun h=>(Q45 h).elim,fun h=>by cases h.1⟩) (fun pre x post st nx e hI hnx=>?_) (fun st hI=>?_)
 ·have hx:x∈l:=by rw [e]; simp
  obtain⟨d,hd,_⟩:=hr.each x hx
  refine Gx (Q78 boxes x.Box) ?_
  rw [hd]
  refine hnx _ (fun y b=>?_)
  have hid:=G4d hd
  show (y,b)∈Gt.Hd (Gt.put st x.Slot d) ↔ _
  rw [Q44,hI,List.mem_append,List.mem_singleton]
  constructor
  ·rintro(⟨rfl,rfl⟩ | ⟨g1,g2,g3⟩)
   ·exact⟨.inr (by rw [hid]),by rw [hid]; exact hd⟩
   ·exact⟨.inl g2,g3⟩
  ·rintro⟨g | g,g3⟩
   ·refine .inr ⟨fun h=>?_,g,g3⟩
    have ha:=hr.apart
    rw [e] at ha
    exact Ga9 ha _ g (by rw [show (⟨b.ID,y⟩:Stowed).Slot=x.Slot from h]; exact⟨rfl,rfl,.inl rfl⟩)
   ·have e1:b.ID=x.Box:=congrArg Stowed.Box g
    refine .inl ⟨congrArg Stowed.Slot g,?_⟩
    rw [e1,hd] at g3
    cases g3; rfl
 ·refine Y4 (fun pre (qt:Gt Int Box)=>∀ i b,(i,b)∈Gt.Hd qt ↔ i∈pre∧Q6 boxes i=some b) (fun i b=>⟨fun h=>(Q45 h).elim,fun h=>by cases h.1⟩) (fun pre y post qt nx e hJ hnx=>?_) (fun qt hJ=>?_)
  ·have hy:y∈a:=by rw [e]; simp
   refine Q72 e (by have:=congrArg List.length e; simp only [List.length_append] at this; omega) (fun h=>?_) (fun b hb _=>hnx _ (fun i d=>?_))
   ·rcases h with h | ⟨p,hp,h⟩ | h
    ·obtain⟨b,hb,hz⟩:=hbox y hy
     exact(h b hb hz).elim
    ·rw [e] at hasc
     have:=Ga9 hasc p hp
     omega
    ·exact(hdis y hy h).elim
   ·show (i,d)∈Gt.Hd (Gt.put qt y b) ↔ _
    rw [Q44,hJ,List.mem_append,List.mem_singleton]
    constructor
    ·rintro(⟨rfl,rfl⟩ | ⟨g1,g2,g3⟩)
     ·exact⟨.inr rfl,hb⟩
     ·exact⟨.inl g2,g3⟩
    ·rintro⟨g | g,g3⟩
     ·by_cases h:i=y
      ·subst h
       refine .inl ⟨rfl,?_⟩
       rw [hb] at g3
       cases g3; rfl
      ·exact .inr ⟨h,g,g3⟩
     ·subst g
      refine .inl ⟨rfl,?_⟩
      rw [hb] at g3
      cases g3; rfl
  ·exact Gj ⟨rfl,⟨rfl,rfl,hI,hJ,fun k v=>⟨fun h=>(Q45 h).elim,fun h=>by cases h.1⟩⟩,rfl⟩
end Go.Proofs.YtidpfkmbfgihlaaGreat
