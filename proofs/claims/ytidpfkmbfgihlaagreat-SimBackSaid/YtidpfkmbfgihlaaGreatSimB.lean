/-
 What a simulator's maps hold,and what the methods that only read return. What a move needs,what it brings about,and that it can be undone: no program in sight.
-/
import Derived.Test.YtidpfkmbfgihlaaGreatPutB
set_option maxRecDepth 100000
set_option linter.unusedVariables false
namespace Go.Proofs.YtidpfkmbfgihlaaGreat
open Go.RowKit

section
variable {κ ν:Type} [DecidableEq κ]
theorem Y88 {l:List (κ×ν)} (hn:(l.map (·.1)).Nodup) {a:κ} {v:ν}:G2a l a=some v ↔ (a,v)∈l:=by
 constructor
 ·intro h
  unfold G2a at h
  obtain⟨p,hp,rfl⟩:=Option.map_eq_some_iff.1 h
  have h1:=List.mem_of_find?_eq_some hp
  have h2:p.1=a:=by simpa using List.find?_some hp
  subst h2
  exact h1
 ·intro h
  obtain⟨j,hj⟩:=List.mem_iff_getElem?.1 h
  exact(He4 hn hj).1
theorem R15 (m:Gt κ ν) {a:κ} {v:ν}:G2a (Gt.He m) a=some v ↔ (a,v)∈Gt.He m:=Y88 m.nd
theorem Y76 (m:Gt κ ν) {a:κ}:Gt.has m a=true ↔ ∃ v,(a,v)∈Gt.He m:=by
 unfold Gt.has
 rw [Q80,List.mem_map]
 exact⟨fun⟨p,hp,e⟩=>⟨p.2,by subst e; exact hp⟩,fun⟨v,hv⟩=>⟨(a,v),hv,rfl⟩⟩
theorem J0c (m:Gt κ ν) {a:κ} {v z:ν} (h:(a,v)∈Gt.He m):Gt.get m a z=v:=by
 unfold Gt.get
 rw [(R15 m).2 h]; rfl
theorem Y0d (m:Gt κ ν) {a:κ} {z:ν} (h:∀ v,(a,v) ∉ Gt.He m):Gt.get m a z=z:=by
 unfold Gt.get
 cases hq:G2a (Gt.He m) a with
 | none=>rfl
 | some v=>exact(h v ((R15 m).1 hq)).elim
theorem Q42 (m:Gt κ ν) {a b:κ} {v w:ν}:(b,w)∈Gt.He (Gt.put m a v) ↔ (b=a∧w=v)∨(b≠a∧(b,w)∈Gt.He m):=by
 rw [← R15]
 have e:Gt.He (Gt.put m a v)=Gfc (Gt.He m) a v:=Qdf m.l a v
 rw [e,J3d]
 by_cases h:a=b
 ·subst h
  rw [if_pos rfl]
  constructor
  ·intro h; cases h; exact .inl ⟨rfl,rfl⟩
  ·rintro(⟨_,rfl⟩ | ⟨h,_⟩)
   ·rfl
   ·exact(h rfl).elim
 ·rw [if_neg h,R15]
  exact⟨fun g=>.inr ⟨fun e=>h e.symm,g⟩,fun g=>g.elim (fun g=>(h g.1.symm).elim) (·.2)⟩
theorem Ra6 (m:Gt κ ν) {a b:κ} {w:ν}:(b,w)∈Gt.He (Gt.del m a) ↔ b≠a∧(b,w)∈Gt.He m:=by
 have e:Gt.He (Gt.del m a)=(Gt.He m).filter (fun p=>decide (p.1≠a)):=Qe4 m.l a
 rw [e,List.mem_filter,decide_eq_true_eq]
 exact⟨fun h=>⟨h.2,h.1⟩,fun h=>⟨h.2,h.1⟩⟩
omit [DecidableEq κ] in
theorem Q43 {a:κ} {v:ν}:(a,v) ∉ Gt.He (Gt.empty:Gt κ ν):=fun h=>by cases h
end

structure St where
 l:List Stowed
 o:List Int
 a:List Int
structure Good (s:Gk) (boxes:List Box) (t:St):Prop where
 ship:Qb5 s
 right:Yv s boxes t.l
 opn:H47 s t.o
 free:∀ k∈t.o,J5a s t.l k
 box:∀ i∈t.a,∃ b,Qj boxes i=some b∧(b.Size=20∨b.Size=40)
 asc:t.a.Pairwise (· < ·)
 disj:∀ i∈t.a,i ∉ t.l.map (·.Box)
 num:t.l.length+t.a.length=boxes.length
 few:boxes.length≤8
structure H2d (s:Gk) (boxes:List Box) (m:Gb) (t:St):Prop where
 cols:m.ship.Columns=s.Columns
 covs:m.ship.Covers=s.Covers
 on:∀ x b,(x,b)∈Gt.He m.on ↔ (⟨b.ID,x⟩:Stowed)∈t.l∧Qj boxes b.ID=some b
 quay:∀ i b,(i,b)∈Gt.He m.quay ↔ i∈t.a∧Qj boxes i=some b
 opn:∀ k v,(k,v)∈Gt.He m.open_ ↔ k∈t.o∧v=1
theorem G61 {boxes:List Box} {i:Int} {b:Box} (h:Qj boxes i=some b):b.ID=i:=of_decide_eq_true (List.find?_some (p:=fun b:Box=>decide (b.ID=i)) h)
theorem Good.sta {s:Gk} {boxes:List Box} {t:St} (h:Good s boxes t):Sta s boxes t.l:=⟨h.ship,h.right,by have:=h.num; have:=h.few; omega⟩
theorem J1b {l:List Stowed} (h:l.Pairwise (fun a b=>a.Box < b.Box)):(l.map (·.Box)).Nodup:=G2f (List.pairwise_map.2 h)
theorem Red {l:List Stowed} (h:l.Pairwise (fun a b=>a.Box < b.Box)):l.Nodup:=h.imp (fun {a b} hab e=>by subst e; omega)
section
variable {s:Gk} {boxes:List Box} {m:Gb} {t:St}
theorem Q36 (hG:Good s boxes t) (hR:H2d s boxes m t):(onB m).Perm t.l:=by
 refine(List.perm_ext_iff_of_nodup ?_ (Red hG.right.sorted)).2 fun x=>?_
 ·have h:((Gt.He m.on).map (·.1)).Nodup:=m.on.nd
  unfold onB
  refine List.pairwise_map.2 ((List.pairwise_map.1 h).imp fun {p q} hpq e=>hpq ?_)
  exact congrArg Stowed.Slot e
 ·unfold onB
  rw [List.mem_map]
  constructor
  ·rintro⟨⟨y,b⟩,hp,rfl⟩
   exact((hR.on y b).1 hp).1
  ·intro hx
   obtain⟨b,hb,_⟩:=hG.right.each x hx
   have e:=G61 hb
   refine⟨(x.Slot,b),(hR.on x.Slot b).2 ⟨by rw [e]; exact hx,by rw [e]; exact hb⟩,?_⟩
   show Stowed.mk b.ID x.Slot=x
   rw [e]
theorem R68 (hG:Good s boxes t) (hR:H2d s boxes m t):Qz m=some t.l:=by
 have hp:=Q36 hG hR
 have hl:t.l.length≤8:=by have:=hG.num; have:=hG.few; omega
 have hlen:=hp.length_eq
 have hn:((onB m).map (·.Box)).Nodup:=(hp.map _).nodup_iff.2 (J1b hG.right.sorted)
 unfold Qz
 rw [decide_eq_true (show (onB m).length*32≤140737488355328∧(onB m).length≤maxLen∧((onB m).map (·.Box)).Nodup from ⟨by omega,by simp only [maxLen]; omega,hn⟩),Q7f]
 refine congrArg some (Q70 ((Hdb _).trans hp) (J1b hG.right.sorted) (Hda _) (hG.right.sorted.imp fun h=>by omega))
theorem Q05 {seq:List (Option Int)} {a:List Int} (hn:(seq.filterMap id).Nodup) (ha:a.Pairwise (· < ·)) (hl:a.length≤1000) (h:∀ i,i∈seq.filterMap id ↔ i∈a):Yn seq=some a:=by
 have hp:(seq.filterMap id).Perm a:=(List.perm_ext_iff_of_nodup hn (G2f ha)).2 h
 have hlen:=hp.length_eq
 unfold Yn
 rw [decide_eq_true (show (seq.filterMap id).length*8≤140737488355328∧(seq.filterMap id).length≤maxLen from ⟨by omega,by simp only [maxLen]; omega⟩),Q7f,sorted_perm hp]
 unfold H6a
 rw [decide_eq_true (show a.length < 4611686018427387904 by omega),cond_true]
 exact congrArg some (List.Perm.eq_of_pairwise (le:=fun a b:Int=>a≤b) (fun a b _ _ hab hba=>by omega) (Gee a) (ha.imp fun h=>by omega) (H09 a))
theorem Y65 (hG:Good s boxes t) (hR:H2d s boxes m t):Qp m=some t.a:=by
 unfold Qp
 have hn:((Gt.He m.quay).map (·.1)).Nodup:=m.quay.nd
 refine G83 (H5 (Gj (H2 (Q05 (a:=t.a) (by rw [Hb6]; exact hn) hG.asc (by have:=hG.num; have:=hG.few; omega) (fun i=>?_)) (Gj rfl))))
 rw [Hb6,List.mem_map]
 constructor
 ·rintro⟨⟨j,b⟩,hp,rfl⟩
  exact((hR.quay j b).1 hp).1
 ·intro hi
  obtain⟨b,hb,_⟩:=hG.box i hi
  exact⟨(i,b),(hR.quay i b).2 ⟨hi,hb⟩,rfl⟩
theorem Yc5 (hG:Good s boxes t) (hR:H2d s boxes m t):Rw m=some t.o:=by
 unfold Rw
 have hn:((Gt.He m.open_).map (·.1)).Nodup:=m.open_.nd
 have hl:=hG.opn.len
 have hc:=hG.ship.covs.len
 refine G83 (H5 (Gj (H2 (Q05 (a:=t.o) (by rw [Hb6]; exact hn) hG.opn.sorted (by omega) (fun i=>?_)) (Gj rfl))))
 rw [Hb6,List.mem_map]
 constructor
 ·rintro⟨⟨j,v⟩,hp,rfl⟩
  exact((hR.opn j v).1 hp).1
 ·intro hi
  exact⟨(i,1),(hR.opn i 1).2 ⟨hi,rfl⟩,rfl⟩
theorem Z13 (hG:Good s boxes t) (hR:H2d s boxes m t) {is:Slot→Option Bool} {p:Slot→Bool} (h:∀ y∈t.l,is y.Slot=some (p y.Slot)):Zz m is=some (t.l.any fun y=>p y.Slot):=by
 have hp:=Q36 hG hR
 have hin:∀ q∈Gt.He m.on,is q.1=some (p q.1):=fun q hq=>h (Jcc q) (hp.mem_iff.1 (List.mem_map.2 ⟨q,hq,rfl⟩))
 unfold Zz
 have hall:(Gt.He m.on).all (fun p=>(is p.1).isSome)=true:=List.all_eq_true.2 fun q hq=>by rw [hin q hq]; rfl
 rw [hall,cond_true,← R8b hp]
 refine congrArg some ?_
 unfold onB
 rw [List.any_map,Bool.eq_iff_iff,List.any_eq_true,List.any_eq_true]
 exact⟨fun⟨q,hq,e⟩=>⟨q,hq,by rw [hin q hq] at e; exact e⟩,fun⟨q,hq,e⟩=>⟨q,hq,by rw [hin q hq]; exact e⟩⟩
theorem G33 {c half:Int} (x:Stowed) (l:List Stowed):Ze boxes (x::l) c half=Gd1 boxes c half 0 x+Ze boxes l c half:=by
 unfold Ze
 rw [List.foldl_cons,J78]
theorem Q17 {c half:Int} {a b:List Stowed} (h:a.Perm b):Ze boxes a c half=Ze boxes b c half:=by
 induction h with
 | nil=>rfl
 | cons x _ ih=>rw [G33,G33,ih]
 | swap x y l=>rw [G33,G33,G33,G33]; omega
 | trans _ _ h1 h2=>exact h1.trans h2
theorem Qf9 {c half:Int}:∀ l:List Stowed,0≤Ze boxes l c half∧Ze boxes l c half≤2896*(l.length:Int)
 | []=>⟨Int.le_refl _,by show (0:Int)≤_; simp⟩
 | x::l=>by
  have ih:=Qf9 (c:=c) (half:=half) l
  have h:=Q37 (boxes:=boxes) (column:=c) (half:=half) (n:=0) (x:=x)
  rw [G33,List.length_cons]
  omega
theorem R67 (b:Box):hgt b=H67 b:=by
 unfold hgt H67
 cases b.High <;> rfl
theorem Y2c {c half:Int} {x:Stowed} {b:Box} (h:Qj boxes x.Box=some b):Gd1 boxes c half 0 x=if x.Slot.G2=c∧(x.Slot.Half=half∨x.Slot.Half=0) then H67 b else 0:=by
 unfold Gd1
 rw [h]
 split
 ·exact Int.zero_add _
 ·rfl
theorem Y23 {c half:Int}:∀ es:List (Slot×Box),(∀ p∈es,Qj boxes p.2.ID=some p.2)→He7 c half es=Ze boxes (es.map Jcc) c half
 | [],_=>rfl
 | p::r,h=>by
  rw [List.map_cons,G33,Y2c (x:=Jcc p) (b:=p.2) (h p (by simp)),← Y23 r (fun q hq=>h q (List.mem_cons_of_mem _ hq)),He7]
  congr 1
  show _=if p.1.G2=c∧(p.1.Half=half∨p.1.Half=0) then H67 p.2 else 0
  unfold R25
  by_cases hc:p.1.G2=c∧(p.1.Half=half∨p.1.Half=0)
  ·rw [if_pos hc,← R67]
   have:(decide (p.1.G2=c)&&(decide (p.1.Half=0)||decide (p.1.Half=half)))=true:=by
    simp only [Bool.and_eq_true,Bool.or_eq_true,decide_eq_true_eq]
    exact⟨hc.1,hc.2.symm⟩
   rw [this]; rfl
  ·rw [if_neg hc]
   have:(decide (p.1.G2=c)&&(decide (p.1.Half=0)||decide (p.1.Half=half)))=false:=by
    rw [← Bool.not_eq_true]
    simp only [Bool.and_eq_true,Bool.or_eq_true,decide_eq_true_eq]
    exact fun g=>hc ⟨g.1,g.2.symm⟩
   rw [this]; rfl
theorem Y22 (hG:Good s boxes t) (hR:H2d s boxes m t) (x:Slot) (b:Box) (half:Int):G24 m x b half=some ((if x.Half=half∨x.Half=0 then H67 b else 0)+Ze boxes t.l x.G2 half):=by
 have hp:=Q36 hG hR
 have e:He7 x.G2 half (Gt.He m.on)=Ze boxes t.l x.G2 half:=by
  rw [Y23 (boxes:=boxes) _ (fun p hp=>((hR.on p.1 p.2).1 hp).2)]
  exact Q17 hp
 have e2:(bif (decide (x.Half=0)||decide (x.Half=half)) then hgt b else 0)=(if x.Half=half∨x.Half=0 then H67 b else 0):=by
  by_cases hc:x.Half=half∨x.Half=0
  ·rw [if_pos hc,← R67]
   have:(decide (x.Half=0)||decide (x.Half=half))=true:=by
    simp only [Bool.or_eq_true,decide_eq_true_eq]; exact hc.symm
   rw [this]; rfl
  ·rw [if_neg hc]
   have:(decide (x.Half=0)||decide (x.Half=half))=false:=by
    rw [← Bool.not_eq_true]
    simp only [Bool.or_eq_true,decide_eq_true_eq]; exact fun g=>hc g.symm
   rw [this]; rfl
 have hb:=(Qf9 (boxes:=boxes) (c:=x.G2) (half:=half) t.l).2
 have hl:t.l.length≤8:=by have:=hG.num; have:=hG.few; omega
 unfold G24
 rw [e,e2]
 have ht:H67 b≤2896:=by unfold H67; split <;> omega
 rw [decide_eq_true (show (if x.Half=half∨x.Half=0 then H67 b else 0)+Ze boxes t.l x.G2 half≤9223372036854775807 by split <;> omega),cond_true]
theorem Qe9 (hG:Good s boxes t) (hR:H2d s boxes m t) {i:Nat} {c:G2} (hc:s.Columns[i]? = some c):Yd m.ship (i:Int)=some (R4 s c):=by
 have hs:=G76 hG.ship
 have e:=Hdc (s:=m.ship) (c:=c) (m:=i) (by rw [hR.cols]; exact hc) (fun x hx=>by rw [hR.covs] at hx; have:=hs.rows x hx; omega) (by rw [hR.covs]; have:=hs.covs; omega)
 unfold R4 at e ⊢
 rw [hR.covs] at e
 exact e
theorem R1c (hR:H2d s boxes m t) (k:Int):decide (0 < Gt.get m.open_ k 0)=decide (k∈t.o):=by
 by_cases h:k∈t.o
 ·rw [J0c m.open_ ((hR.opn k 1).2 ⟨h,rfl⟩),decide_eq_true h]; rfl
 ·rw [Y0d m.open_ (fun v hv=>h ((hR.opn k v).1 hv).1),decide_eq_false h]; rfl
theorem R6c (hG:Good s boxes t) (hR:H2d s boxes m t) {x:Slot} {i:Nat} {c:G2} (hx:x.G2=(i:Int)) (hc:s.Columns[i]? = some c):Wp (G52 m x) (fun r=>r=true ↔ Hba s t.o x):=by
 have hcl:Hba s t.o x ↔ (0≤R4 s c∧(c.Deck=true ↔ R4 s c∈t.o)):=by
  constructor
  ·rintro⟨m',c',e1,e2,e3⟩
   have:m'=i:=by omega
   subst this
   rw [hc] at e2; cases e2
   exact e3
  ·exact fun e=>⟨i,c,hx,hc,e⟩
 unfold G52
 rw [hx]
 refine H2 (Qe9 hG hR hc) ?_
 by_cases hk:0≤R4 s c
 ·rw [decide_eq_true hk]
  simp only [cond_true,Bool.true_and]
  refine H5 (Gj (H5 (Yg rfl (show m.ship.Columns[i]? = some c by rw [hR.cols]; exact hc) (Gj (Gj ?_)))))
  rw [R1c hR,hcl,beq_iff_eq,Bool.eq_iff_iff,decide_eq_true_eq]
  exact⟨fun h=>⟨hk,h.symm⟩,fun h=>h.2.symm⟩
 ·rw [decide_eq_false hk]
  refine H5 (Gj (H5 (Gj (Gj (H3e fun hh=>hk (hcl.1 hh).1)))))
end
end Go.Proofs.YtidpfkmbfgihlaaGreat
set_option maxRecDepth 100000
set_option linter.unusedVariables false
namespace Go.Proofs.YtidpfkmbfgihlaaGreat
open Go.RowKit

def He6 (k:Int) (l:List Int):List Int:=l.filter (fun z=>decide (z < k))++k::l.filter (fun z=>decide (k < z))
def J25 (k:Int) (l:List Int):List Int:=l.filter (fun z=>decide (z≠k))
def He5 (y:Stowed) (l:List Stowed):List Stowed:=l.filter (fun z=>decide (z.Box < y.Box))++y::l.filter (fun z=>decide (y.Box < z.Box))
def H75 (k:Int) (l:List Stowed):List Stowed:=l.filter (fun z=>decide (z.Box≠k))
theorem G8b {k:Int} {l:List Int} {i:Int}:i∈J25 k l ↔ i∈l∧i≠k:=by unfold J25; rw [List.mem_filter,decide_eq_true_eq]
theorem G8a {k:Int} {l:List Int} {i:Int}:i∈He6 k l ↔ i=k∨i∈l:=by
 unfold He6
 rw [List.mem_append,List.mem_cons,List.mem_filter,List.mem_filter,decide_eq_true_eq,decide_eq_true_eq]
 constructor
 ·rintro(h | h | h)
  ·exact .inr h.1
  ·exact .inl h
  ·exact .inr h.1
 ·rintro(h | h)
  ·exact .inr (.inl h)
  ·rcases Int.lt_trichotomy i k with g | g | g
   ·exact .inl ⟨h,g⟩
   ·exact .inr (.inl g)
   ·exact .inr (.inr ⟨h,g⟩)
theorem J20 {k:Int} {l:List Int} (h:l.Pairwise (· < ·)):(He6 k l).Pairwise (· < ·):=by
 unfold He6
 refine List.pairwise_append.2 ⟨h.filter _,List.pairwise_cons.2 ⟨fun a ha=>of_decide_eq_true (List.mem_filter.1 ha).2,h.filter _⟩,fun a ha b hb=>?_⟩
 have h1:=of_decide_eq_true (List.mem_filter.1 ha).2
 rcases List.mem_cons.1 hb with rfl | hb
 ·exact h1
 ·have h2:=of_decide_eq_true (List.mem_filter.1 hb).2
  omega
theorem J24 {k:Int} {l:List Int} (h:l.Pairwise (· < ·)):(J25 k l).Pairwise (· < ·):=h.filter _
theorem R7e {k:Int} {l:List Int} (h:l.Pairwise (· < ·)) (hk:k ∉ l):(He6 k l).length=l.length+1:=by
 have hp:(He6 k l).Perm (k::l):=(List.perm_ext_iff_of_nodup (G2f (J20 h)) (List.nodup_cons.2 ⟨hk,G2f h⟩)).2 fun i=>by rw [G8a,List.mem_cons]
 rw [hp.length_eq,List.length_cons]
theorem R85 {k:Int} {l:List Int} (h:l.Pairwise (· < ·)) (hk:k ∉ l):J25 k (He6 k l)=l:=
 Hea (J24 (J20 h)) h fun i=>by
  rw [G8b,G8a]
  exact⟨fun g=>g.1.resolve_left g.2,fun g=>⟨.inr g,fun e=>hk (e ▸ g)⟩⟩
theorem Q8c {k:Int} {l:List Int} (h:l.Pairwise (· < ·)) (hk:k∈l):He6 k (J25 k l)=l:=
 Hea (J20 (J24 h)) h fun i=>by
  rw [G8a,G8b]
  constructor
  ·rintro(e | e)
   ·exact e ▸ hk
   ·exact e.1
  ·intro g
   by_cases e:i=k
   ·exact .inl e
   ·exact .inr ⟨g,e⟩
theorem Y91 {k:Int} {l:List Int} (h:l.Pairwise (· < ·)) (hk:k∈l):(J25 k l).length+1=l.length:=by
 have:=R7e (k:=k) (J24 (k:=k) h) (fun g=>(G8b.1 g).2 rfl)
 rw [Q8c h hk] at this
 omega
theorem Q82 {k:Int} {l:List Stowed} {y:Stowed}:y∈H75 k l ↔ y∈l∧y.Box≠k:=by unfold H75; rw [List.mem_filter,decide_eq_true_eq]
theorem Y79 {l:List Stowed} (hs:l.Pairwise (fun a b=>a.Box < b.Box)) {k:Int} (hk:k ∉ l.map (·.Box)):l=l.filter (fun z=>decide (z.Box < k))++l.filter (fun z=>decide (k < z.Box)):=by
 have e:l.filter (fun z=>decide (k < z.Box))=l.filter (fun z=>!decide (z.Box < k)):=List.filter_congr fun z hz=>by
  have:z.Box≠k:=fun e=>hk (List.mem_map.2 ⟨z,hz,e⟩)
  by_cases h:z.Box < k
  ·rw [decide_eq_true h,decide_eq_false (by omega)]; rfl
  ·rw [decide_eq_false h,decide_eq_true (by omega)]; rfl
 refine J22 ?_ hs ?_
 ·rw [e]; exact(List.filter_append_perm _ _).symm
 ·refine List.pairwise_append.2 ⟨hs.filter _,hs.filter _,fun a ha b hb=>?_⟩
  have h1:=of_decide_eq_true (List.mem_filter.1 ha).2
  have h2:=of_decide_eq_true (List.mem_filter.1 hb).2
  omega
theorem H96 {l:List Stowed} (hs:l.Pairwise (fun a b=>a.Box < b.Box)) {y:Stowed} (hk:y.Box ∉ l.map (·.Box)):J5f l y (He5 y l):=by
 refine⟨_,_,Y79 hs hk,rfl,fun z hz=>of_decide_eq_true (List.mem_filter.1 hz).2,fun z hz=>?_⟩
 have:=of_decide_eq_true (List.mem_filter.1 (List.mem_of_mem_head? (Option.mem_def.2 hz))).2
 omega
theorem Ja8 {pre post:List Stowed} {y:Stowed} (hs:(pre++y::post).Pairwise (fun a b=>a.Box < b.Box)):H75 y.Box (pre++y::post)=pre++post:=by
 obtain⟨s1,s2,s3⟩:=List.pairwise_append.1 hs
 unfold H75
 rw [List.filter_append,List.filter_cons_of_neg (by simp)]
 congr 1
 ·refine List.filter_eq_self.2 fun z hz=>decide_eq_true ?_
  have:=s3 z hz y (List.mem_cons_self ..)
  omega
 ·refine List.filter_eq_self.2 fun z hz=>decide_eq_true ?_
  have:=(List.pairwise_cons.1 s2).1 z hz
  omega
theorem Y90 {l:List Stowed} (hs:l.Pairwise (fun a b=>a.Box < b.Box)) {y:Stowed} (hk:y.Box ∉ l.map (·.Box)):H75 y.Box (He5 y l)=l:=by
 have h:=H96 hs hk
 obtain⟨pre,post,e1,e2,_⟩:=id h
 have:=H72 h hs hk
 rw [e2] at this ⊢
 rw [Ja8 this,e1]
theorem Y1a {l:List Stowed} (hs:l.Pairwise (fun a b=>a.Box < b.Box)) (k:Int):k ∉ (H75 k l).map (·.Box):=fun h=>by
 obtain⟨z,hz,e⟩:=List.mem_map.1 h
 exact(Q82.1 hz).2 e
theorem Y8c {l:List Stowed} (hs:l.Pairwise (fun a b=>a.Box < b.Box)) {y:Stowed} (hy:y∈l):He5 y (H75 y.Box l)=l:=by
 have hd:(H75 y.Box l).Pairwise (fun a b=>a.Box < b.Box):=hs.filter _
 obtain⟨pre,post,rfl⟩:=List.append_of_mem hy
 rw [Ja8 hs] at hd ⊢
 have hn:y.Box ∉ (pre++post).map (·.Box):=by rw [← Ja8 hs]; exact Y1a hs _
 exact Rf2 (l:=[]) (H96 hd hn) hs

def Jbe (s:Gk) (t:St) (x:Move):Prop:=x.Box=0∧x.Slot=⟨0,0,0⟩∧0≤x.G8∧x.G8 < (s.Covers.length:Int)∧x.G8 ∉ t.o∧J5a s t.l x.G8
def Jbd (s:Gk) (t:St) (x:Move):Prop:=x.Box=0∧x.Slot=⟨0,0,0⟩∧0≤x.G8∧x.G8 < (s.Covers.length:Int)∧x.G8∈t.o
def Qbf (s:Gk) (t:St) (x:Move):Prop:=x.G8=0∧(⟨x.Box,x.Slot⟩:Stowed)∈t.l∧H6d t.l x.Slot=[]∧¬ Hee s t.o x.Slot
def R96 (s:Gk) (boxes:List Box) (t:St) (x:Move):Prop:=x.G8=0∧x.Box∈t.a∧∃ b,Qj boxes x.Box=some b∧G62 s x.Slot b.Size∧¬ Hba s t.o x.Slot∧¬ Qd3 t.l x.Slot∧H3b x.Slot (t.l.map (·.Slot))∧Qdc s boxes (He5 ⟨x.Box,x.Slot⟩ t.l) x.Slot
def Can (s:Gk) (boxes:List Box) (t:St) (x:Move):Prop:=(x.Kind=1∧Jbe s t x)∨(x.Kind=4∧Jbd s t x)∨(x.Kind=2∧Qbf s t x)∨(x.Kind=3∧R96 s boxes t x)
def nxt (t:St) (x:Move):St:=
 if x.Kind=1 then ⟨t.l,He6 x.G8 t.o,t.a⟩ else if x.Kind=4 then ⟨t.l,J25 x.G8 t.o,t.a⟩
 else if x.Kind=2 then ⟨H75 x.Box t.l,t.o,He6 x.Box t.a⟩ else ⟨He5 ⟨x.Box,x.Slot⟩ t.l,t.o,J25 x.Box t.a⟩
def G7d (x:Move):Int:=if x.Kind=2∨x.Kind=3 then 1 else 0
def opp (x:Move):Move:=⟨5 - x.Kind,x.Box,x.Slot,x.G8⟩
section
variable {s:Gk} {boxes:List Box} {t:St} {x:Move}
theorem Yc9 (h:x.Kind=1):nxt t x=⟨t.l,He6 x.G8 t.o,t.a⟩:=by unfold nxt; rw [if_pos h]
theorem Yc6 (h:x.Kind=4):nxt t x=⟨t.l,J25 x.G8 t.o,t.a⟩:=by unfold nxt; rw [if_neg (by omega),if_pos h]
theorem Yc8 (h:x.Kind=2):nxt t x=⟨H75 x.Box t.l,t.o,He6 x.Box t.a⟩:=by unfold nxt; rw [if_neg (by omega),if_neg (by omega),if_pos h]
theorem Yc7 (h:x.Kind=3):nxt t x=⟨He5 ⟨x.Box,x.Slot⟩ t.l,t.o,J25 x.Box t.a⟩:=by unfold nxt; rw [if_neg (by omega),if_neg (by omega),if_neg (by omega)]
theorem Y3d {l l':List Stowed} {k:Int} (h:J5a s l k) (hs:∀ y∈l',y∈l):J5a s l' k:=fun y hy=>h y (hs y hy)
theorem Can.step (hG:Good s boxes t) (h:Can s boxes t x):Good s boxes (nxt t x):=by
 have hso:=hG.right.sorted
 rcases h with ⟨hk,h1,h2,h3,h4,h5,h6⟩ | ⟨hk,h1,h2,h3,h4,h5⟩ | ⟨hk,h1,h2,h3,h4⟩ | ⟨hk,h1,h2,b,h3,h4,h5,h6,h7,h8⟩
 ·rw [Yc9 hk]
  refine⟨hG.ship,hG.right,⟨fun k hk'=>?_,J20 hG.opn.sorted⟩,fun k hk'=>?_,hG.box,hG.asc,hG.disj,hG.num,hG.few⟩
  ·rcases G8a.1 hk' with rfl | hk'
   ·exact⟨h3,h4⟩
   ·exact hG.opn.mem k hk'
  ·rcases G8a.1 hk' with rfl | hk'
   ·exact h6
   ·exact hG.free k hk'
 ·rw [Yc6 hk]
  exact⟨hG.ship,hG.right,⟨fun k hk'=>hG.opn.mem k (G8b.1 hk').1,J24 hG.opn.sorted⟩,fun k hk'=>hG.free k (G8b.1 hk').1,hG.box,hG.asc,hG.disj,hG.num,hG.few⟩
 ·rw [Yc8 hk]
  have hno:x.Box ∉ t.a:=fun h=>hG.disj _ h (List.mem_map.2 ⟨_,h2,rfl⟩)
  obtain⟨pre,post,e⟩:=List.append_of_mem h2
  have hd:H75 x.Box t.l=pre++post:=by rw [e] at hso ⊢; exact Ja8 hso
  have hr:Yv s boxes (H75 x.Box t.l):=by rw [hd]; exact Q79 (by rw [← e]; exact hG.right) (by rw [← e]; exact h3)
  have hsub:∀ y∈H75 x.Box t.l,y∈t.l:=fun y hy=>(Q82.1 hy).1
  refine⟨hG.ship,hr,hG.opn,fun k hk'=>Y3d (hG.free k hk') hsub,fun i hi=>?_,J20 hG.asc,fun i hi hm=>?_,?_,hG.few⟩
  ·rcases G8a.1 hi with rfl | hi
   ·obtain⟨b,g1,g2,_⟩:=hG.right.each _ h2
    exact⟨b,g1,Y11 g2⟩
   ·exact hG.box i hi
  ·rcases G8a.1 hi with rfl | hi
   ·exact Y1a hso _ hm
   ·obtain⟨z,hz,ez⟩:=List.mem_map.1 hm
    exact hG.disj i hi (List.mem_map.2 ⟨z,hsub z hz,ez⟩)
  ·have hn:=hG.num
   show (H75 x.Box t.l).length+(He6 x.Box t.a).length=_
   rw [R7e hG.asc hno,hd]
   rw [e] at hn
   simp only [List.length_append,List.length_cons] at hn ⊢
   omega
 ·rw [Yc7 hk]
  have hno:x.Box ∉ t.l.map (·.Box):=hG.disj _ h2
  have hins:=H96 hso (y:=⟨x.Box,x.Slot⟩) hno
  have hp:=Gf0 hins
  have hr:=Y4c hG.right h3 h4 h6 h7 hins hno h8
  have hmem:∀ y,y∈He5 ⟨x.Box,x.Slot⟩ t.l ↔ y=⟨x.Box,x.Slot⟩∨y∈t.l:=fun y=>by rw [hp.mem_iff,List.mem_cons]
  refine⟨hG.ship,hr,hG.opn,fun k hk' y hy m c hm hc hd he=>?_,fun i hi=>hG.box i (G8b.1 hi).1,J24 hG.asc,fun i hi hm=>?_,?_,hG.few⟩
  ·rcases (hmem y).1 hy with rfl | hy
   ·refine h5 ⟨m,c,hm,hc,?_,⟨fun _=>by rw [he]; exact hk',fun _=>hd⟩⟩
    have:=(hG.opn.mem k hk').1
    omega
   ·exact hG.free k hk' y hy m c hm hc hd he
  ·obtain⟨z,hz,ez⟩:=List.mem_map.1 hm
   rcases (hmem z).1 hz with rfl | hz
   ·exact(G8b.1 hi).2 ez.symm
   ·exact hG.disj i (G8b.1 hi).1 (List.mem_map.2 ⟨z,hz,ez⟩)
  ·have hn:=hG.num
   have:=Y91 hG.asc h2
   show (He5 ⟨x.Box,x.Slot⟩ t.l).length+(J25 x.Box t.a).length=_
   rw [hp.length_eq,List.length_cons]
   omega
theorem Can.back (hG:Good s boxes t) (h:Can s boxes t x):Can s boxes (nxt t x) (opp x)∧nxt (nxt t x) (opp x)=t:=by
 have hso:=hG.right.sorted
 rcases h with ⟨hk,h1,h2,h3,h4,h5,h6⟩ | ⟨hk,h1,h2,h3,h4,h5⟩ | ⟨hk,h1,h2,h3,h4⟩ | ⟨hk,h1,h2,b,h3,h4,h5,h6,h7,h8⟩
 ·rw [Yc9 hk]
  have ho:(opp x).Kind=4:=by show 5 - x.Kind=4; omega
  refine⟨.inr (.inl ⟨ho,h1,h2,h3,h4,G8a.2 (.inl rfl)⟩),?_⟩
  rw [Yc6 ho]
  show (⟨t.l,J25 x.G8 (He6 x.G8 t.o),t.a⟩:St)=t
  rw [R85 hG.opn.sorted h5]
 ·rw [Yc6 hk]
  have ho:(opp x).Kind=1:=by show 5 - x.Kind=1; omega
  refine⟨.inl ⟨ho,h1,h2,h3,h4,fun g=>(G8b.1 g).2 rfl,hG.free _ h5⟩,?_⟩
  rw [Yc9 ho]
  show (⟨t.l,He6 x.G8 (J25 x.G8 t.o),t.a⟩:St)=t
  rw [Q8c hG.opn.sorted h5]
 ·rw [Yc8 hk]
  have ho:(opp x).Kind=3:=by show 5 - x.Kind=3; omega
  have hno:x.Box ∉ t.a:=fun h=>hG.disj _ h (List.mem_map.2 ⟨_,h2,rfl⟩)
  have hback:He5 ⟨x.Box,x.Slot⟩ (H75 x.Box t.l)=t.l:=Y8c hso h2
  obtain⟨b,g1,g2,g3⟩:=hG.right.each _ h2
  obtain⟨pre,post,e⟩:=List.append_of_mem h2
  have hd:H75 x.Box t.l=pre++post:=by rw [e] at hso ⊢; exact Ja8 hso
  refine⟨.inr (.inr (.inr ⟨ho,h1,G8a.2 (.inl rfl),b,g1,g2,R75 (boxes:=boxes) hG.free h2 h4,?_,?_,?_⟩)),?_⟩
  ·show ¬ Qd3 (H75 x.Box t.l) x.Slot
   rintro⟨y,hy,hm⟩
   have ha:=hG.right.apart
   rw [hd] at hy
   rw [e] at ha
   obtain⟨a1,a2,a3⟩:=List.pairwise_append.1 ha
   rcases List.mem_append.1 hy with hy | hy
   ·exact a3 y hy _ (List.mem_cons_self ..) hm
   ·exact(List.pairwise_cons.1 a2).1 y hy (Hb5 hm)
  ·show H3b x.Slot ((H75 x.Box t.l).map (·.Slot))
   rw [hd]
   exact Jd9 (x:=⟨x.Box,x.Slot⟩) over_self (by rw [← e]; exact g3)
  ·show Qdc s boxes (He5 ⟨x.Box,x.Slot⟩ (H75 x.Box t.l)) x.Slot
   rw [hback]
   exact fun m c _ hc=>hG.right.fits m c hc
  ·rw [Yc7 ho]
   show (⟨He5 ⟨x.Box,x.Slot⟩ (H75 x.Box t.l),t.o,J25 x.Box (He6 x.Box t.a)⟩:St)=t
   rw [hback,R85 hG.asc hno]
 ·rw [Yc7 hk]
  have ho:(opp x).Kind=2:=by show 5 - x.Kind=2; omega
  have hno:x.Box ∉ t.l.map (·.Box):=hG.disj _ h2
  have hins:=H96 hso (y:=⟨x.Box,x.Slot⟩) hno
  refine⟨.inr (.inr (.inl ⟨ho,h1,(Gf0 hins).mem_iff.2 (List.mem_cons_self ..),Yca hG.right h4 h6 hins,fun g=>h5 (Yc1 g)⟩)),?_⟩
  rw [Yc8 ho]
  show (⟨H75 x.Box (He5 ⟨x.Box,x.Slot⟩ t.l),t.o,He6 x.Box (J25 x.Box t.a)⟩:St)=t
  rw [show H75 x.Box (He5 ⟨x.Box,x.Slot⟩ t.l)=t.l from Y90 (y:=⟨x.Box,x.Slot⟩) hso hno,Q8c hG.asc h2]
end
end Go.Proofs.YtidpfkmbfgihlaaGreat
