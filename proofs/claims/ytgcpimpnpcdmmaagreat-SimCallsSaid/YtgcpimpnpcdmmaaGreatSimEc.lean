/-
 What a simulator's maps hold,and what the methods that only What a move needs,what it brings about,and that it can be un What doing a move does: What putting a box does,and doing any move. How a simulator begins,and what the chapter's statements mak
-/
import Derived.Test.YtgcpimpnpcdmmaaGreatPlanV
set_option maxRecDepth 100000
set_option linter.unusedVariables false
namespace Go.Proofs.YtgcpimpnpcdmmaaGreat
open Go.RowKit
section
variable {κ ν:Type} [DecidableEq κ]
theorem Yd8 {l:List (κ×ν)} (hn:(l.map (·.1)).Nodup) {a:κ} {v:ν}:G26 l a=some v ↔ (a,v)∈l:=by
 constructor
 ·intro h
  unfold G26 at h
  obtain⟨p,hp,rfl⟩:=Option.map_eq_some_iff.1 h
  have h1:=List.mem_of_find?_eq_some hp
  have h2:p.1=a:=by simpa using List.find?_some hp
  subst h2
  exact h1
 ·intro h
  obtain⟨j,hj⟩:=List.mem_iff_getElem?.1 h
  exact(Hf7 hn hj).1
theorem R34 (m:Gu κ ν) {a:κ} {v:ν}:G26 (Gu.Ha m) a=some v ↔ (a,v)∈Gu.Ha m:=Yd8 m.nd
theorem Ybb (m:Gu κ ν) {a:κ}:Gu.has m a=true ↔ ∃ v,(a,v)∈Gu.Ha m:=by
 unfold Gu.has
 rw [Qaa,Mo]
 exact⟨fun⟨p,hp,e⟩=>⟨p.2,by subst e; exact hp⟩,fun⟨v,hv⟩=>⟨(a,v),hv,rfl⟩⟩
theorem J1a (m:Gu κ ν) {a:κ} {v z:ν} (h:(a,v)∈Gu.Ha m):Gu.get m a z=v:=by
 unfold Gu.get
 rw [(R34 m).2 h]; rfl
theorem Y4b (m:Gu κ ν) {a:κ} {z:ν} (h:∀ v,(a,v) ∉ Gu.Ha m):Gu.get m a z=z:=by
 unfold Gu.get
 cases hq:G26 (Gu.Ha m) a with
 | none=>rfl
 | some v=>exact(h v ((R34 m).1 hq)).elim
theorem Q5c (m:Gu κ ν) {a b:κ} {v w:ν}:(b,w)∈Gu.Ha (Gu.put m a v) ↔ (b=a∧w=v)∨(b≠a∧(b,w)∈Gu.Ha m):=by
 rw [← R34]
 have e:Gu.Ha (Gu.put m a v)=Gee (Gu.Ha m) a v:=R00 m.l a v
 rw [e,Hcb]
 by_cases h:a=b
 ·subst h
  rw [if_pos rfl]
  constructor
  ·intro h; cases h; exact .inl ⟨rfl,rfl⟩
  ·rintro(⟨_,rfl⟩ | ⟨h,_⟩)
   ·rfl
   ·exact(h rfl).elim
 ·rw [if_neg h,R34]
  exact⟨fun g=>.inr ⟨fun e=>h e.symm,g⟩,fun g=>g.elim (fun g=>(h g.1.symm).elim) (·.2)⟩
theorem Rd7 (m:Gu κ ν) {a b:κ} {w:ν}:(b,w)∈Gu.Ha (Gu.del m a) ↔ b≠a∧(b,w)∈Gu.Ha m:=by
 have e:Gu.Ha (Gu.del m a)=(Gu.Ha m).filter (fun p=>decide (p.1≠a)):=R04 m.l a
 rw [e,Mr,Mk]
 exact⟨fun h=>⟨h.2,h.1⟩,fun h=>⟨h.2,h.1⟩⟩
omit [DecidableEq κ] in
theorem Q5d {a:κ} {v:ν}:(a,v) ∉ Gu.Ha (Gu.empty:Gu κ ν):=fun h=>by cases h
end
structure St where
 l:List G1
 o:List Int
 a:List Int
structure Good (s:Gh) (boxes:List Box) (t:St):Prop where
 ship:J7e s
 right:R5 s boxes t.l
 opn:G82 s t.o
 free:∀ k∈t.o,Q40 s t.l k
 box:∀ i∈t.a,∃ b,Qf boxes i=some b∧(b.Size=20∨b.Size=40)
 asc:t.a.Pairwise (· < ·)
 disj:∀ i∈t.a,i ∉ t.l.map (·.Box)
 num:t.l.length+t.a.length≤10
structure H53 (s:Gh) (boxes:List Box) (m:Gc) (t:St):Prop where
 cols:m.ship.Columns=s.Columns
 covs:m.ship.Covers=s.Covers
 on:∀ x b,(x,b)∈Gu.Ha m.on ↔ (⟨b.ID,x⟩:G1)∈t.l∧Qf boxes b.ID=some b
 quay:∀ i b,(i,b)∈Gu.Ha m.quay ↔ i∈t.a∧Qf boxes i=some b
 opn:∀ k v,(k,v)∈Gu.Ha m.open_ ↔ k∈t.o∧v=1
theorem G81 {boxes:List Box} {i:Int} {b:Box} (h:Qf boxes i=some b):b.ID=i:=M1 (List.find?_some (p:=fun b:Box=>decide (b.ID=i)) h)
theorem Good.sta {s:Gh} {boxes:List Box} {t:St} (h:Good s boxes t):Sta s boxes t.l:=⟨h.ship,h.right,by have:=h.num; omega⟩
theorem J30 {l:List G1} (h:l.Pairwise (fun a b=>a.Box < b.Box)):(l.map (·.Box)).Nodup:=Y5 (List.pairwise_map.2 h)
theorem Y25 {l:List G1} (h:l.Pairwise (fun a b=>a.Box < b.Box)):l.Nodup:=h.imp (fun {a b} h0 e=>by subst e; omega)
section
variable {s:Gh} {boxes:List Box} {m:Gc} {t:St}
theorem Q58 (hG:Good s boxes t) (hR:H53 s boxes m t):(onB m).Perm t.l:=by
 refine(List.perm_ext_iff_of_nodup ?_ (Y25 hG.right.sorted)).2 fun x=>?_
 ·have h:((Gu.Ha m.on).map (·.1)).Nodup:=m.on.nd
  unfold onB
  refine List.pairwise_map.2 ((List.pairwise_map.1 h).imp fun {p q} h0 e=>h0 ?_)
  exact congrArg G1.Slot e
 ·unfold onB
  rw [Mo]
  constructor
  ·rintro⟨⟨y,b⟩,hp,rfl⟩
   exact((hR.on y b).1 hp).1
  ·intro hx
   obtain⟨b,hb,_⟩:=hG.right.each x hx
   have e:=G81 hb
   refine⟨(x.Slot,b),(hR.on x.Slot b).2 ⟨by rw [e]; exact hx,by rw [e]; exact hb⟩,?_⟩
   show G1.mk b.ID x.Slot=x
   rw [e]
theorem Yc0 (hG:Good s boxes t) (hR:H53 s boxes m t):G06 m=some t.l:=by
 have hp:=Q58 hG hR
 have hl:t.l.length≤10:=by have:=hG.num; omega
 have h0:=hp.length_eq
 have hn:((onB m).map (·.Box)).Nodup:=(hp.map _).nodup_iff.2 (J30 hG.right.sorted)
 unfold G06
 rw [M3 (show (onB m).length*32≤140737488355328∧(onB m).length≤maxLen∧((onB m).map (·.Box)).Nodup from ⟨by omega,by simp only [maxLen]; omega,hn⟩),Qa9]
 refine congrArg some (Q99 ((Hef _).trans hp) (J30 hG.right.sorted) (Hee _) (hG.right.sorted.imp fun h=>by omega))
theorem Q20 {seq:List (Option Int)} {a:List Int} (hn:(seq.filterMap id).Nodup) (ha:a.Pairwise (· < ·)) (hl:a.length≤1000) (h:∀ i,i∈seq.filterMap id ↔ i∈a):Ya seq=some a:=by
 have hp:(seq.filterMap id).Perm a:=(List.perm_ext_iff_of_nodup hn (Y5 ha)).2 h
 have h0:=hp.length_eq
 unfold Ya
 rw [M3 (show (seq.filterMap id).length*8≤140737488355328∧(seq.filterMap id).length≤maxLen from ⟨by omega,by simp only [maxLen]; omega⟩),Qa9,sorted_perm hp]
 unfold G8a
 rw [M3 (show a.length < 4611686018427387904 by omega),cond_true]
 exact congrArg some (List.Perm.eq_of_pairwise (le:=fun a b:Int=>a≤b) (fun a b _ _ h1 h2=>by omega) (Ga6 a) (ha.imp fun h=>by omega) (G89 a))
theorem Ya6 (hG:Good s boxes t) (hR:H53 s boxes m t):Yx m=some t.a:=by
 unfold Yx
 have hn:((Gu.Ha m.quay).map (·.1)).Nodup:=m.quay.nd
 refine G28 (H6 (Gm (Gt (Q20 (a:=t.a) (by rw [Hcf]; exact hn) hG.asc (by have:=hG.num; omega) (fun i=>?_)) (Gm rfl))))
 rw [Hcf,Mo]
 constructor
 ·rintro⟨⟨j,b⟩,hp,rfl⟩
  exact((hR.quay j b).1 hp).1
 ·intro hi
  obtain⟨b,hb,_⟩:=hG.box i hi
  exact⟨(i,b),(hR.quay i b).2 ⟨hi,hb⟩,rfl⟩
theorem Z24 (hG:Good s boxes t) (hR:H53 s boxes m t):Zu m=some t.o:=by
 unfold Zu
 have hn:((Gu.Ha m.open_).map (·.1)).Nodup:=m.open_.nd
 have hl:=hG.opn.len
 have hc:=hG.ship.covs.len
 refine G28 (H6 (Gm (Gt (Q20 (a:=t.o) (by rw [Hcf]; exact hn) hG.opn.sorted (by omega) (fun i=>?_)) (Gm rfl))))
 rw [Hcf,Mo]
 constructor
 ·rintro⟨⟨j,v⟩,hp,rfl⟩
  exact((hR.opn j v).1 hp).1
 ·intro hi
  exact⟨(i,1),(hR.opn i 1).2 ⟨hi,rfl⟩,rfl⟩
theorem Z7a (hG:Good s boxes t) (hR:H53 s boxes m t) {is:Slot→Option Bool} {p:Slot→Bool} (h:∀ y∈t.l,is y.Slot=some (p y.Slot)):Zo m is=some (t.l.any fun y=>p y.Slot):=by
 have hp:=Q58 hG hR
 have h0:∀ q∈Gu.Ha m.on,is q.1=some (p q.1):=fun q hq=>h (Je6 q) (hp.mem_iff.1 (Mo.2 ⟨q,hq,rfl⟩))
 unfold Zo
 have h1:(Gu.Ha m.on).all (fun p=>(is p.1).isSome)=true:=List.all_eq_true.2 fun q hq=>by rw [h0 q hq]; rfl
 rw [h1,cond_true,← Rbf hp]
 refine congrArg some ?_
 unfold onB
 rw [List.any_map,Bool.eq_iff_iff,List.any_eq_true,List.any_eq_true]
 exact⟨fun⟨q,hq,e⟩=>⟨q,hq,by rw [h0 q hq] at e; exact e⟩,fun⟨q,hq,e⟩=>⟨q,hq,by rw [h0 q hq]; exact e⟩⟩
theorem G34 {c half:Int} (x:G1) (l:List G1):Rs boxes (x::l) c half=Gd9 boxes c half 0 x+Rs boxes l c half:=by
 unfold Rs
 rw [List.foldl_cons,H80]
theorem Q39 {c half:Int} {a b:List G1} (h:a.Perm b):Rs boxes a c half=Rs boxes b c half:=by
 induction h with
 | nil=>rfl
 | cons x _ ih=>rw [G34,G34,ih]
 | swap x y l=>rw [G34,G34,G34,G34]; omega
 | trans _ _ h1 h2=>exact h1.trans h2
theorem R20 {c half:Int}:∀ l:List G1,0≤Rs boxes l c half∧Rs boxes l c half≤2896*(l.length:Int)
 | []=>⟨Int.le_refl _,by show (0:Int)≤_; simp⟩
 | x::l=>by
  have ih:=R20 (c:=c) (half:=half) l
  have h:=Jc8 (boxes:=boxes) (column:=c) (half:=half) (n:=0) (x:=x)
  rw [G34,Md]
  omega
theorem R99 (b:Box):hgt b=H72 b:=by
 unfold hgt H72
 cases b.High <;> rfl
theorem Y68 {c half:Int} {x:G1} {b:Box} (h:Qf boxes x.Box=some b):Gd9 boxes c half 0 x=if x.Slot.G3=c∧(x.Slot.Half=half∨x.Slot.Half=0) then H72 b else 0:=by
 unfold Gd9
 rw [h]
 split
 ·exact Int.zero_add _
 ·rfl
theorem Y60 {c half:Int}:∀ es:List (Slot×Box),(∀ p∈es,Qf boxes p.2.ID=some p.2)→Hf8 c half es=Rs boxes (es.map Je6) c half
 | [],_=>rfl
 | p::r,h=>by
  rw [List.map_cons,G34,Y68 (x:=Je6 p) (b:=p.2) (h p (by simp)),← Y60 r (fun q hq=>h q (List.mem_cons_of_mem _ hq)),Hf8]
  congr 1
  show _=if p.1.G3=c∧(p.1.Half=half∨p.1.Half=0) then H72 p.2 else 0
  unfold R4a
  by_cases hc:p.1.G3=c∧(p.1.Half=half∨p.1.Half=0)
  ·rw [if_pos hc,← R99]
   have:(decide (p.1.G3=c)&&(decide (p.1.Half=0)||decide (p.1.Half=half)))=true:=by
    simp only [Mj,Ms,Mk]
    exact⟨hc.1,hc.2.symm⟩
   rw [this]; rfl
  ·rw [if_neg hc]
   have:(decide (p.1.G3=c)&&(decide (p.1.Half=0)||decide (p.1.Half=half)))=false:=by
    rw [← Bool.not_eq_true]
    simp only [Mj,Ms,Mk]
    exact fun g=>hc ⟨g.1,g.2.symm⟩
   rw [this]; rfl
theorem Y5f (hG:Good s boxes t) (hR:H53 s boxes m t) (x:Slot) (b:Box) (half:Int):G21 m x b half=some ((if x.Half=half∨x.Half=0 then H72 b else 0)+Rs boxes t.l x.G3 half):=by
 have hp:=Q58 hG hR
 have e:Hf8 x.G3 half (Gu.Ha m.on)=Rs boxes t.l x.G3 half:=by
  rw [Y60 (boxes:=boxes) _ (fun p hp=>((hR.on p.1 p.2).1 hp).2)]
  exact Q39 hp
 have e2:(bif (decide (x.Half=0)||decide (x.Half=half)) then hgt b else 0)=(if x.Half=half∨x.Half=0 then H72 b else 0):=by
  by_cases hc:x.Half=half∨x.Half=0
  ·rw [if_pos hc,← R99]
   have:(decide (x.Half=0)||decide (x.Half=half))=true:=by
    simp only [Ms,Mk]; exact hc.symm
   rw [this]; rfl
  ·rw [if_neg hc]
   have:(decide (x.Half=0)||decide (x.Half=half))=false:=by
    rw [← Bool.not_eq_true]
    simp only [Ms,Mk]; exact fun g=>hc g.symm
   rw [this]; rfl
 have hb:=(R20 (boxes:=boxes) (c:=x.G3) (half:=half) t.l).2
 have hl:t.l.length≤10:=by have:=hG.num; omega
 unfold G21
 rw [e,e2]
 have ht:H72 b≤2896:=by unfold H72; split <;> omega
 rw [M3 (show (if x.Half=half∨x.Half=0 then H72 b else 0)+Rs boxes t.l x.G3 half≤9223372036854775807 by split <;> omega),cond_true]
theorem R09 (hG:Good s boxes t) (hR:H53 s boxes m t) {i:Nat} {c:G3} (hc:s.Columns[i]? = some c):R8 m.ship (i:Int)=some (Jt s c):=by
 have hs:=J56 hG.ship
 have e:=Gf6 (s:=m.ship) (c:=c) (m:=i) (by rw [hR.cols]; exact hc) (fun x hx=>by rw [hR.covs] at hx; have:=hs.rows x hx; omega) (by rw [hR.covs]; have:=hs.covs; omega)
 unfold Jt at e ⊢
 rw [hR.covs] at e
 exact e
theorem R3e (hR:H53 s boxes m t) (k:Int):decide (0 < Gu.get m.open_ k 0)=decide (k∈t.o):=by
 by_cases h:k∈t.o
 ·rw [J1a m.open_ ((hR.opn k 1).2 ⟨h,rfl⟩),M3 h]; rfl
 ·rw [Y4b m.open_ (fun v hv=>h ((hR.opn k v).1 hv).1),M4 h]; rfl
theorem R9f (hG:Good s boxes t) (hR:H53 s boxes m t) {x:Slot} {i:Nat} {c:G3} (hx:x.G3=(i:Int)) (hc:s.Columns[i]? = some c):Wp (G4f m x) (fun r=>r=true ↔ J0a s t.o x):=by
 have h0:J0a s t.o x ↔ (0≤Jt s c∧(c.Deck=true ↔ Jt s c∈t.o)):=by
  constructor
  ·rintro⟨m',c',e1,e2,e3⟩
   have:m'=i:=by omega
   subst this
   rw [hc] at e2; cases e2
   exact e3
  ·exact fun e=>⟨i,c,hx,hc,e⟩
 unfold G4f
 rw [hx]
 refine Gt (R09 hG hR hc) ?_
 by_cases hk:0≤Jt s c
 ·rw [M3 hk]
  simp only [cond_true,Bool.true_and]
  refine H6 (Gm (H6 (Zb rfl (show m.ship.Columns[i]? = some c by rw [hR.cols]; exact hc) (Gm (Gm ?_)))))
  rw [R3e hR,h0,beq_iff_eq,Bool.eq_iff_iff,Mk]
  exact⟨fun h=>⟨hk,h.symm⟩,fun h=>h.2.symm⟩
 ·rw [M4 hk]
  refine H6 (Gm (H6 (Gm (Gm (Hba fun hh=>hk (h0.1 hh).1)))))
end
def H20 (k:Int) (l:List Int):List Int:=l.filter (fun z=>decide (z < k))++k::l.filter (fun z=>decide (k < z))
def H83 (k:Int) (l:List Int):List Int:=l.filter (fun z=>decide (z≠k))
def H1f (y:G1) (l:List G1):List G1:=l.filter (fun z=>decide (z.Box < y.Box))++y::l.filter (fun z=>decide (y.Box < z.Box))
def H23 (k:Int) (l:List G1):List G1:=l.filter (fun z=>decide (z.Box≠k))
theorem G31 {k:Int} {l:List Int} {i:Int}:i∈H83 k l ↔ i∈l∧i≠k:=by unfold H83; rw [Mr,Mk]
theorem G30 {k:Int} {l:List Int} {i:Int}:i∈H20 k l ↔ i=k∨i∈l:=by
 unfold H20
 rw [Mn,Mq,Mr,Mr,Mk,Mk]
 constructor
 ·rintro(h | h | h)
  ·exact .inr h.1
  ·exact .inl h
  ·exact .inr h.1
 ·rintro(h | h)
  ·exact .inr (.inl h)
  ·rcases Int.lt_trichotomy i k with g | g | g
   ·exact .inl ⟨h,g⟩
   ·exact .inr (.inl g)
   ·exact .inr (.inr ⟨h,g⟩)
theorem Hd0 {k:Int} {l:List Int} (h:l.Pairwise (· < ·)):(H20 k l).Pairwise (· < ·):=by
 unfold H20
 refine List.pairwise_append.2 ⟨h.filter _,List.pairwise_cons.2 ⟨fun a ha=>M1 (Mr.1 ha).2,h.filter _⟩,fun a ha b hb=>?_⟩
 have h1:=M1 (Mr.1 ha).2
 rcases Mq.1 hb with rfl | hb
 ·exact h1
 ·have h2:=M1 (Mr.1 hb).2
  omega
theorem Hd3 {k:Int} {l:List Int} (h:l.Pairwise (· < ·)):(H83 k l).Pairwise (· < ·):=h.filter _
theorem Rb0 {k:Int} {l:List Int} (h:l.Pairwise (· < ·)) (hk:k ∉ l):(H20 k l).length=l.length+1:=by
 have hp:(H20 k l).Perm (k::l):=(List.perm_ext_iff_of_nodup (Y5 (Hd0 h)) (List.nodup_cons.2 ⟨hk,Y5 h⟩)).2 fun i=>by rw [G30,Mq]
 rw [hp.length_eq,Md]
theorem Rb6 {k:Int} {l:List Int} (h:l.Pairwise (· < ·)) (hk:k ∉ l):H83 k (H20 k l)=l:=
 Gfc (Hd3 (Hd0 h)) h fun i=>by
  rw [G31,G30]
  exact⟨fun g=>g.1.resolve_left g.2,fun g=>⟨.inr g,fun e=>hk (e ▸ g)⟩⟩
theorem Qb7 {k:Int} {l:List Int} (h:l.Pairwise (· < ·)) (hk:k∈l):H20 k (H83 k l)=l:=
 Gfc (Hd0 (Hd3 h)) h fun i=>by
  rw [G30,G31]
  constructor
  ·rintro(e | e)
   ·exact e ▸ hk
   ·exact e.1
  ·intro g
   by_cases e:i=k
   ·exact .inl e
   ·exact .inr ⟨g,e⟩
theorem Ye6 {k:Int} {l:List Int} (h:l.Pairwise (· < ·)) (hk:k∈l):(H83 k l).length+1=l.length:=by
 have:=Rb0 (k:=k) (Hd3 (k:=k) h) (fun g=>(G31.1 g).2 rfl)
 rw [Qb7 h hk] at this
 omega
theorem Qad {k:Int} {l:List G1} {y:G1}:y∈H23 k l ↔ y∈l∧y.Box≠k:=by unfold H23; rw [Mr,Mk]
theorem Yc1 {l:List G1} (hs:l.Pairwise (fun a b=>a.Box < b.Box)) {k:Int} (hk:k ∉ l.map (·.Box)):l=l.filter (fun z=>decide (z.Box < k))++l.filter (fun z=>decide (k < z.Box)):=by
 have e:l.filter (fun z=>decide (k < z.Box))=l.filter (fun z=>!decide (z.Box < k)):=List.filter_congr fun z hz=>by
  have:z.Box≠k:=fun e=>hk (Mo.2 ⟨z,hz,e⟩)
  by_cases h:z.Box < k
  ·rw [M3 h,M4 (by omega)]; rfl
  ·rw [M4 h,M3 (by omega)]; rfl
 refine H41 ?_ hs ?_
 ·rw [e]; exact(List.filter_append_perm _ _).symm
 ·refine List.pairwise_append.2 ⟨hs.filter _,hs.filter _,fun a ha b hb=>?_⟩
  have h1:=M1 (Mr.1 ha).2
  have h2:=M1 (Mr.1 hb).2
  omega
theorem H5e {l:List G1} (hs:l.Pairwise (fun a b=>a.Box < b.Box)) {y:G1} (hk:y.Box ∉ l.map (·.Box)):J7f l y (H1f y l):=by
 refine⟨_,_,Yc1 hs hk,rfl,fun z hz=>M1 (Mr.1 hz).2,fun z hz=>?_⟩
 have:=M1 (Mr.1 (List.mem_of_mem_head? (Option.mem_def.2 hz))).2
 omega
theorem J5f {pre post:List G1} {y:G1} (hs:(pre++y::post).Pairwise (fun a b=>a.Box < b.Box)):H23 y.Box (pre++y::post)=pre++post:=by
 obtain⟨s1,s2,s3⟩:=List.pairwise_append.1 hs
 unfold H23
 rw [List.filter_append,List.filter_cons_of_neg (by simp)]
 congr 1
 ·refine List.filter_eq_self.2 fun z hz=>M3 ?_
  have:=s3 z hz y (List.mem_cons_self ..)
  omega
 ·refine List.filter_eq_self.2 fun z hz=>M3 ?_
  have:=(List.pairwise_cons.1 s2).1 z hz
  omega
theorem Ye5 {l:List G1} (hs:l.Pairwise (fun a b=>a.Box < b.Box)) {y:G1} (hk:y.Box ∉ l.map (·.Box)):H23 y.Box (H1f y l)=l:=by
 have h:=H5e hs hk
 obtain⟨pre,post,e1,e2,_⟩:=id h
 have:=H1e h hs hk
 rw [e2] at this ⊢
 rw [J5f this,e1]
theorem Y59 {l:List G1} (hs:l.Pairwise (fun a b=>a.Box < b.Box)) (k:Int):k ∉ (H23 k l).map (·.Box):=fun h=>by
 obtain⟨z,hz,e⟩:=Mo.1 h
 exact(Qad.1 hz).2 e
theorem Ydf {l:List G1} (hs:l.Pairwise (fun a b=>a.Box < b.Box)) {y:G1} (hy:y∈l):H1f y (H23 y.Box l)=l:=by
 have hd:(H23 y.Box l).Pairwise (fun a b=>a.Box < b.Box):=hs.filter _
 obtain⟨pre,post,rfl⟩:=List.append_of_mem hy
 rw [J5f hs] at hd ⊢
 have hn:y.Box ∉ (pre++post).map (·.Box):=by rw [← J5f hs]; exact Y59 hs _
 exact Z72 (l:=[]) (H5e hd hn) hs
def Jdb (s:Gh) (t:St) (x:Move):Prop:=x.Box=0∧x.Slot=⟨0,0,0⟩∧0≤x.G9∧x.G9 < (s.Covers.length:Int)∧x.G9 ∉ t.o∧Q40 s t.l x.G9
def Jda (s:Gh) (t:St) (x:Move):Prop:=x.Box=0∧x.Slot=⟨0,0,0⟩∧0≤x.G9∧x.G9 < (s.Covers.length:Int)∧x.G9∈t.o
def Qe8 (s:Gh) (t:St) (x:Move):Prop:=x.G9=0∧(⟨x.Box,x.Slot⟩:G1)∈t.l∧H3c t.l x.Slot=[]∧¬ J9b s t.o x.Slot
def Rcb (s:Gh) (boxes:List Box) (t:St) (x:Move):Prop:=x.G9=0∧x.Box∈t.a∧∃ b,Qf boxes x.Box=some b∧G7b s x.Slot b.Size∧¬ J0a s t.o x.Slot∧¬ Rc5 t.l x.Slot∧H5a x.Slot (t.l.map (·.Slot))∧Rc8 s boxes (H1f ⟨x.Box,x.Slot⟩ t.l) x.Slot
def Can (s:Gh) (boxes:List Box) (t:St) (x:Move):Prop:=(x.Kind=1∧Jdb s t x)∨(x.Kind=4∧Jda s t x)∨(x.Kind=2∧Qe8 s t x)∨(x.Kind=3∧Rcb s boxes t x)
def nxt (t:St) (x:Move):St:=
 if x.Kind=1 then ⟨t.l,H20 x.G9 t.o,t.a⟩ else if x.Kind=4 then ⟨t.l,H83 x.G9 t.o,t.a⟩
 else if x.Kind=2 then ⟨H23 x.Box t.l,t.o,H20 x.Box t.a⟩ else ⟨H1f ⟨x.Box,x.Slot⟩ t.l,t.o,H83 x.Box t.a⟩
def G80 (x:Move):Int:=if x.Kind=2∨x.Kind=3 then 1 else 0
def opp (x:Move):Move:=⟨5 - x.Kind,x.Box,x.Slot,x.G9⟩
section
variable {s:Gh} {boxes:List Box} {t:St} {x:Move}
theorem Yd4 (h:x.Kind=1):nxt t x=⟨t.l,H20 x.G9 t.o,t.a⟩:=by unfold nxt; rw [if_pos h]
theorem Yd1 (h:x.Kind=4):nxt t x=⟨t.l,H83 x.G9 t.o,t.a⟩:=by unfold nxt; rw [if_neg (by omega),if_pos h]
theorem Yd3 (h:x.Kind=2):nxt t x=⟨H23 x.Box t.l,t.o,H20 x.Box t.a⟩:=by unfold nxt; rw [if_neg (by omega),if_neg (by omega),if_pos h]
theorem Yd2 (h:x.Kind=3):nxt t x=⟨H1f ⟨x.Box,x.Slot⟩ t.l,t.o,H83 x.Box t.a⟩:=by unfold nxt; rw [if_neg (by omega),if_neg (by omega),if_neg (by omega)]
theorem Y76 {l l':List G1} {k:Int} (h:Q40 s l k) (hs:∀ y∈l',y∈l):Q40 s l' k:=fun y hy=>h y (hs y hy)
theorem Can.step (hG:Good s boxes t) (h:Can s boxes t x):Good s boxes (nxt t x):=by
 have h9:=hG.right.sorted
 rcases h with ⟨hk,h1,h2,h3,h4,h5,h6⟩ | ⟨hk,h1,h2,h3,h4,h5⟩ | ⟨hk,h1,h2,h3,h4⟩ | ⟨hk,h1,h2,b,h3,h4,h5,h6,h7,h8⟩
 ·rw [Yd4 hk]
  refine⟨hG.ship,hG.right,⟨fun k h0=>?_,Hd0 hG.opn.sorted⟩,fun k h0=>?_,hG.box,hG.asc,hG.disj,hG.num⟩
  ·rcases G30.1 h0 with rfl | h0
   ·exact⟨h3,h4⟩
   ·exact hG.opn.mem k h0
  ·rcases G30.1 h0 with rfl | h0
   ·exact h6
   ·exact hG.free k h0
 ·rw [Yd1 hk]
  exact⟨hG.ship,hG.right,⟨fun k h0=>hG.opn.mem k (G31.1 h0).1,Hd3 hG.opn.sorted⟩,fun k h0=>hG.free k (G31.1 h0).1,hG.box,hG.asc,hG.disj,hG.num⟩
 ·rw [Yd3 hk]
  have a0:x.Box ∉ t.a:=fun h=>hG.disj _ h (Mo.2 ⟨_,h2,rfl⟩)
  obtain⟨pre,post,e⟩:=List.append_of_mem h2
  have hd:H23 x.Box t.l=pre++post:=by rw [e] at h9 ⊢; exact J5f h9
  have hr:R5 s boxes (H23 x.Box t.l):=by rw [hd]; exact Qa3 (by rw [← e]; exact hG.right) (by rw [← e]; exact h3)
  have a1:∀ y∈H23 x.Box t.l,y∈t.l:=fun y hy=>(Qad.1 hy).1
  refine⟨hG.ship,hr,hG.opn,fun k h0=>Y76 (hG.free k h0) a1,fun i hi=>?_,Hd0 hG.asc,fun i hi hm=>?_,?_⟩
  ·rcases G30.1 hi with rfl | hi
   ·obtain⟨b,g1,g2,_⟩:=hG.right.each _ h2
    exact⟨b,g1,Y4f g2⟩
   ·exact hG.box i hi
  ·rcases G30.1 hi with rfl | hi
   ·exact Y59 h9 _ hm
   ·obtain⟨z,hz,ez⟩:=Mo.1 hm
    exact hG.disj i hi (Mo.2 ⟨z,a1 z hz,ez⟩)
  ·have hn:=hG.num
   show (H23 x.Box t.l).length+(H20 x.Box t.a).length≤_
   rw [Rb0 hG.asc a0,hd]
   rw [e] at hn
   simp only [Mh,Md] at hn ⊢
   omega
 ·rw [Yd2 hk]
  have a0:x.Box ∉ t.l.map (·.Box):=hG.disj _ h2
  have a2:=H5e h9 (y:=⟨x.Box,x.Slot⟩) a0
  have hp:=G33 a2
  have hr:=Jeb hG.right h3 h4 h6 h7 a2 a0 h8
  have a3:∀ y,y∈H1f ⟨x.Box,x.Slot⟩ t.l ↔ y=⟨x.Box,x.Slot⟩∨y∈t.l:=fun y=>by rw [hp.mem_iff,Mq]
  refine⟨hG.ship,hr,hG.opn,fun k h0 y hy m c hm hc hd he=>?_,fun i hi=>hG.box i (G31.1 hi).1,Hd3 hG.asc,fun i hi hm=>?_,?_⟩
  ·rcases (a3 y).1 hy with rfl | hy
   ·refine h5 ⟨m,c,hm,hc,?_,⟨fun _=>by rw [he]; exact h0,fun _=>hd⟩⟩
    have:=(hG.opn.mem k h0).1
    omega
   ·exact hG.free k h0 y hy m c hm hc hd he
  ·obtain⟨z,hz,ez⟩:=Mo.1 hm
   rcases (a3 z).1 hz with rfl | hz
   ·exact(G31.1 hi).2 ez.symm
   ·exact hG.disj i (G31.1 hi).1 (Mo.2 ⟨z,hz,ez⟩)
  ·have hn:=hG.num
   have:=Ye6 hG.asc h2
   show (H1f ⟨x.Box,x.Slot⟩ t.l).length+(H83 x.Box t.a).length≤_
   rw [hp.length_eq,Md]
   omega
theorem Can.back (hG:Good s boxes t) (h:Can s boxes t x):Can s boxes (nxt t x) (opp x)∧nxt (nxt t x) (opp x)=t:=by
 have h0:=hG.right.sorted
 rcases h with ⟨hk,h1,h2,h3,h4,h5,h6⟩ | ⟨hk,h1,h2,h3,h4,h5⟩ | ⟨hk,h1,h2,h3,h4⟩ | ⟨hk,h1,h2,b,h3,h4,h5,h6,h7,h8⟩
 ·rw [Yd4 hk]
  have ho:(opp x).Kind=4:=by show 5 - x.Kind=4; omega
  refine⟨.inr (.inl ⟨ho,h1,h2,h3,h4,G30.2 (.inl rfl)⟩),?_⟩
  rw [Yd1 ho]
  show (⟨t.l,H83 x.G9 (H20 x.G9 t.o),t.a⟩:St)=t
  rw [Rb6 hG.opn.sorted h5]
 ·rw [Yd1 hk]
  have ho:(opp x).Kind=1:=by show 5 - x.Kind=1; omega
  refine⟨.inl ⟨ho,h1,h2,h3,h4,fun g=>(G31.1 g).2 rfl,hG.free _ h5⟩,?_⟩
  rw [Yd4 ho]
  show (⟨t.l,H20 x.G9 (H83 x.G9 t.o),t.a⟩:St)=t
  rw [Qb7 hG.opn.sorted h5]
 ·rw [Yd3 hk]
  have ho:(opp x).Kind=3:=by show 5 - x.Kind=3; omega
  have h9:x.Box ∉ t.a:=fun h=>hG.disj _ h (Mo.2 ⟨_,h2,rfl⟩)
  have a0:H1f ⟨x.Box,x.Slot⟩ (H23 x.Box t.l)=t.l:=Ydf h0 h2
  obtain⟨b,g1,g2,g3⟩:=hG.right.each _ h2
  obtain⟨pre,post,e⟩:=List.append_of_mem h2
  have hd:H23 x.Box t.l=pre++post:=by rw [e] at h0 ⊢; exact J5f h0
  refine⟨.inr (.inr (.inr ⟨ho,h1,G30.2 (.inl rfl),b,g1,g2,Yd5 (boxes:=boxes) hG.free h2 h4,?_,?_,?_⟩)),?_⟩
  ·show ¬ Rc5 (H23 x.Box t.l) x.Slot
   rintro⟨y,hy,hm⟩
   have ha:=hG.right.apart
   rw [hd] at hy
   rw [e] at ha
   obtain⟨a1,a2,a3⟩:=List.pairwise_append.1 ha
   rcases Mn.1 hy with hy | hy
   ·exact a3 y hy _ (List.mem_cons_self ..) hm
   ·exact(List.pairwise_cons.1 a2).1 y hy (Hce hm)
  ·show H5a x.Slot ((H23 x.Box t.l).map (·.Slot))
   rw [hd]
   exact R1f (x:=⟨x.Box,x.Slot⟩) over_self (by rw [← e]; exact g3)
  ·show Rc8 s boxes (H1f ⟨x.Box,x.Slot⟩ (H23 x.Box t.l)) x.Slot
   rw [a0]
   exact fun m c _ hc=>hG.right.fits m c hc
  ·rw [Yd2 ho]
   show (⟨H1f ⟨x.Box,x.Slot⟩ (H23 x.Box t.l),t.o,H83 x.Box (H20 x.Box t.a)⟩:St)=t
   rw [a0,Rb6 hG.asc h9]
 ·rw [Yd2 hk]
  have ho:(opp x).Kind=2:=by show 5 - x.Kind=2; omega
  have h9:x.Box ∉ t.l.map (·.Box):=hG.disj _ h2
  have a4:=H5e h0 (y:=⟨x.Box,x.Slot⟩) h9
  refine⟨.inr (.inr (.inl ⟨ho,h1,(G33 a4).mem_iff.2 (List.mem_cons_self ..),Z25 hG.right h4 h6 a4,fun g=>h5 (Z1d g)⟩)),?_⟩
  rw [Yd3 ho]
  show (⟨H23 x.Box (H1f ⟨x.Box,x.Slot⟩ t.l),t.o,H20 x.Box (H83 x.Box t.a)⟩:St)=t
  rw [show H23 x.Box (H1f ⟨x.Box,x.Slot⟩ t.l)=t.l from Ye5 (y:=⟨x.Box,x.Slot⟩) h0 h9,Qb7 hG.asc h2]
end
theorem Yq {v:Option Bool} {P:Prop} {e:Int} {rest:List (Option Bool×Int)} {Q:Int→Prop} (hv:Wp v (fun r=>r=true ↔ P)) (h1:P→Wp (H33 rest) Q) (h2:¬ P→Q e):Wp (H33 ((v,e)::rest)) Q:=by
 obtain⟨r,rfl,hr⟩:=hv
 cases r with
 | true=>exact h1 (hr.1 rfl)
 | false=>exact⟨e,rfl,h2 (fun hp=>by have:=hr.2 hp; cases this)⟩
theorem He3 {Q:Int→Prop} (h:Q 0):Wp (H33 []) Q:=⟨0,rfl,h⟩
def Rca (s:Gh) (boxes:List Box) (m:Gc) (t:St) (x:Move) (r:Int×Gc):Prop:=
 (Can s boxes t x∧r.1=0∧H53 s boxes r.2 (nxt t x)∧r.2.lifts=m.lifts+G80 x)∨(¬ Can s boxes t x∧r.1≠0∧r.2=m)
section
variable {s:Gh} {boxes:List Box} {m:Gc} {t:St} {x:Move}
open Classical in
theorem Qc9 (hG:Good s boxes t) (hR:H53 s boxes m t) {is:Slot→Option Bool} {P:Slot→Prop} (h:∀ y∈t.l,Wp (is y.Slot) (fun r=>r=true ↔ P y.Slot)):Wp (Zo m is) (fun r=>r=true ↔ ∃ y∈t.l,P y.Slot):=by
 refine⟨_,Z7a hG hR (p:=fun y=>decide (P y)) (fun y hy=>Z68 (h y hy)),?_⟩
 show (t.l.any _=true) ↔ _
 rw [List.any_eq_true]
 exact⟨fun⟨y,hy,e⟩=>⟨y,hy,M1 e⟩,fun⟨y,hy,e⟩=>⟨y,hy,M3 e⟩⟩
theorem R52 {s:Gh} {z:Int} {i j:Nat} {c d:G3} (h1:z=(i:Int)) (h2:z=(j:Int)) (hc:s.Columns[i]? = some c) (hd:s.Columns[j]? = some d):d=c:=by
 have:j=i:=by omega
 subst this
 rw [hc] at hd
 cases hd; rfl
theorem Qff (hG:Good s boxes t) (hR:H53 s boxes m t) (b:Bool) (y:Move):Wp (G01 b m y) (fun r=>r=true ↔ (b=true→Q40 s t.l y.G9)):=by
 unfold G01
 cases b with
 | false=>exact H6 (Gm (Gm ⟨fun _ h=>(by cases h),fun _=>rfl⟩))
 | true=>
  simp only [Bool.not_true,Bool.not_false,cond_true]
  refine H6 (wp_mono (Qc9 hG hR (P:=fun z=>∃ (i:Nat) (c:G3),z.G3=(i:Int)∧s.Columns[i]? = some c∧c.Deck=true∧Jt s c=y.G9) (fun z hz=>?_)) (fun r hr=>Gm ?_))
  ·obtain⟨i,c,hi,hc⟩:=hG.sta.colIn hz
   have h0:(∃ (i:Nat) (c:G3),z.Slot.G3=(i:Int)∧s.Columns[i]? = some c∧c.Deck=true∧Jt s c=y.G9) ↔ (c.Deck=true∧Jt s c=y.G9):=by
    constructor
    ·rintro⟨j,d,h1,h2,h3⟩
     have:=R52 hi h1 hc h2
     subst this
     exact h3
    ·exact fun h=>⟨i,c,hi,hc,h⟩
   unfold G0f
   rw [hi] at h0 ⊢
   refine Zb rfl (show m.ship.Columns[i]? = some c by rw [hR.cols]; exact hc) ?_
   rw [h0]
   cases hd:c.Deck with
   | false=>exact H6 (Gm (Gm ⟨fun h=>(by cases h),fun h=>(by cases h.1)⟩))
   | true=>exact Gt (R09 hG hR hc) (Gm ⟨fun h=>⟨rfl,M1 h⟩,fun h=>M3 h.2⟩)
  ·show ((false||!r)=true) ↔ _
   rw [Bool.false_or,Bool.not_eq_true',← Bool.not_eq_true,hr]
   constructor
   ·exact fun h _ z hz i c h1 h2 h3 h4=>h ⟨z,hz,i,c,h1,h2,h3,h4⟩
   ·rintro h ⟨z,hz,i,c,h1,h2,h3,h4⟩
    exact h trivial z hz i c h1 h2 h3 h4
theorem Qb2 (hR:H53 s boxes m t):Wp (Yp ((((decide (x.Box=0))&&(decide (x.Slot=(Slot.mk 0 0 0))))&&(decide (0≤x.G9)))&&(decide (x.G9 < (m.ship.Covers.length:Int))))) (fun r=>r=true ↔ (x.Box=0∧x.Slot=⟨0,0,0⟩∧0≤x.G9∧x.G9 < (s.Covers.length:Int))):=by
 refine Gm ?_
 rw [hR.covs]
 simp only [Mj,Mk,and_assoc]
theorem Y36 (hG:Good s boxes t) (hR:H53 s boxes m t) (hk:x.Kind=1):Wp (G07 m x) (Rca s boxes m t x):=by
 have h4:Can s boxes t x ↔ Jdb s t x:=by
  constructor
  ·rintro(h | h | h | h)
   ·exact h.2
   all_goals exact absurd h.1 (by omega)
  ·exact fun h=>.inl ⟨hk,h⟩
 unfold G07
 refine Gt rfl (Gt rfl (Gt rfl (H6 (wp_mono (Q':=fun r=>(r=0∧Jdb s t x)∨(r≠0∧¬ Jdb s t x)) ?_ (fun r8 h8=>?_)))))
 ·rw [R3e hR,M3 hk]
  refine Yq (Qb2 hR) (fun h1=>?_) (fun h1=>.inr ⟨by decide,fun h=>h1 ⟨h.1,h.2.1,h.2.2.1,h.2.2.2.1⟩⟩)
  refine Yq (P:=x.G9 ∉ t.o) (Gm ?_) (fun h2=>?_) (fun h2=>.inr ⟨by decide,fun h=>h2 h.2.2.2.2.1⟩)
  ·simp
  refine Yq (Qff hG hR true _) (fun h3=>He3 (.inl ⟨rfl,h1.1,h1.2.1,h1.2.2.1,h1.2.2.2,h2,h3 rfl⟩)) (fun h3=>.inr ⟨by decide,fun h=>h3 fun _=>h.2.2.2.2.2⟩)
 ·refine Hs (fun h=>Gm (.inr ?_)) (fun h=>?_)
  ·have h0:=M1 h
   rcases h8 with ⟨e,_⟩ | ⟨e,h8⟩
   ·exact(h0 e).elim
   ·exact⟨fun g=>h8 (h4.1 g),e,rfl⟩
  ·have h0:r8=0:=by have:=M2 h; omega
   have h8:Jdb s t x:=h8.elim (·.2) (fun h=>(h.1 h0).elim)
   have hz:Gu.get m.open_ x.G9 0=0:=Y4b _ (fun v hv=>h8.2.2.2.2.1 ((hR.opn _ v).1 hv).1)
   refine Zy (fun j=>j=Gc.mk m.ship m.on m.quay (Gu.put m.open_ x.G9 1) m.lifts) (fun K hK=>Hs (fun _=>?_) (fun h=>absurd hk (M2 h))) (fun j hj=>Gm (.inl ⟨h4.2 h8,rfl,?_,?_⟩))
   ·refine Gt rfl (R2 (by rw [hz]; omega) (hK _ (by rw [hz]; rfl)))
   ·subst hj
    rw [Yd4 hk]
    refine⟨hR.cols,hR.covs,hR.on,hR.quay,fun k v=>?_⟩
    show (k,v)∈Gu.Ha (Gu.put m.open_ x.G9 1) ↔ k∈H20 x.G9 t.o∧v=1
    rw [Q5c,G30,hR.opn]
    constructor
    ·rintro(h | h)
     ·exact⟨.inl h.1,h.2⟩
     ·exact⟨.inr h.2.1,h.2.2⟩
    ·rintro⟨h | h,e⟩
     ·exact .inl ⟨h,e⟩
     ·exact .inr ⟨fun e2=>h8.2.2.2.2.1 (e2 ▸ h),h,e⟩
   ·subst hj
    show m.lifts=m.lifts+G80 x
    unfold G80
    rw [if_neg (by omega)]; omega
theorem Y35 (hG:Good s boxes t) (hR:H53 s boxes m t) (hk:x.Kind=4):Wp (G07 m x) (Rca s boxes m t x):=by
 have h4:Can s boxes t x ↔ Jda s t x:=by
  constructor
  ·rintro(h | h | h | h)
   ·exact absurd h.1 (by omega)
   ·exact h.2
   all_goals exact absurd h.1 (by omega)
  ·exact fun h=>.inr (.inl ⟨hk,h⟩)
 unfold G07
 refine Gt rfl (Gt rfl (Gt rfl (H6 (wp_mono (Q':=fun r=>(r=0∧Jda s t x)∨(r≠0∧¬ Jda s t x)) ?_ (fun r8 h8=>?_)))))
 ·rw [R3e hR,M4 (show ¬ x.Kind=1 by omega)]
  refine Yq (Qb2 hR) (fun h1=>?_) (fun h1=>.inr ⟨by decide,fun h=>h1 ⟨h.1,h.2.1,h.2.2.1,h.2.2.2.1⟩⟩)
  refine Yq (P:=x.G9∈t.o) (Gm ?_) (fun h2=>?_) (fun h2=>.inr ⟨by decide,fun h=>h2 h.2.2.2.2⟩)
  ·simp
  refine Yq (Qff hG hR false _) (fun h3=>He3 (.inl ⟨rfl,h1.1,h1.2.1,h1.2.2.1,h1.2.2.2,h2⟩)) (fun h3=>(h3 (fun h=>by cases h)).elim)
 ·refine Hs (fun h=>Gm (.inr ?_)) (fun h=>?_)
  ·have h0:=M1 h
   rcases h8 with ⟨e,_⟩ | ⟨e,h8⟩
   ·exact(h0 e).elim
   ·exact⟨fun g=>h8 (h4.1 g),e,rfl⟩
  ·have h0:r8=0:=by have:=M2 h; omega
   have h8:Jda s t x:=h8.elim (·.2) (fun h=>(h.1 h0).elim)
   refine Zy (fun j=>j=Gc.mk m.ship m.on m.quay (Gu.del m.open_ x.G9) m.lifts) (fun K hK=>Hs (fun h=>absurd (M1 h) (by omega)) (fun _=>hK _ rfl)) (fun j hj=>Gm (.inl ⟨h4.2 h8,rfl,?_,?_⟩))
   ·subst hj
    rw [Yd1 hk]
    refine⟨hR.cols,hR.covs,hR.on,hR.quay,fun k v=>?_⟩
    show (k,v)∈Gu.Ha (Gu.del m.open_ x.G9) ↔ k∈H83 x.G9 t.o∧v=1
    rw [Rd7,G31,hR.opn]
    exact⟨fun h=>⟨⟨h.2.1,h.1⟩,h.2.2⟩,fun h=>⟨h.1.2,h.1.1,h.2⟩⟩
   ·subst hj
    show m.lifts=m.lifts+G80 x
    unfold G80
    rw [if_neg (by omega)]; omega
theorem Yc4 (hG:Good s boxes t) (hR:H53 s boxes m t) {y z:G1} (hy:y∈t.l) (hz:z∈t.l) (e:y.Slot=z.Slot):y=z:=by
 obtain⟨b,hb,_⟩:=hG.right.each y hy
 obtain⟨d,hd,_⟩:=hG.right.each z hz
 have h1:=(hR.on y.Slot b).2 ⟨by rw [G81 hb]; exact hy,by rw [G81 hb]; exact hb⟩
 have h2:=(hR.on z.Slot d).2 ⟨by rw [G81 hd]; exact hz,by rw [G81 hd]; exact hd⟩
 rw [e] at h1
 have h3:b=d:=(J1a m.on (z:=default) h1).symm.trans (J1a m.on (z:=default) h2)
 exact Ha7 hG.right.sorted hy hz (by rw [← G81 hb,← G81 hd,h3])
theorem Ycf (hG:Good s boxes t) (hR:H53 s boxes m t) (hk:x.Kind=2) (hl:0≤m.lifts∧m.lifts≤1000000):Wp (Gc7 m x) (Rca s boxes m t x):=by
 have h6:Can s boxes t x ↔ Qe8 s t x:=by
  constructor
  ·rintro(h | h | h | h)
   ·exact absurd h.1 (by omega)
   ·exact absurd h.1 (by omega)
   ·exact h.2
   ·exact absurd h.1 (by omega)
  ·exact fun h=>.inr (.inr (.inl ⟨hk,h⟩))
 unfold Gc7
 have h8:((Gu.has m.on x.Slot)&&(decide ((Gu.get m.on x.Slot (Box.mk 0 ByteArray.empty 0 false 0 0 0 0 false)).ID=x.Box)))=true ↔ (⟨x.Box,x.Slot⟩:G1)∈t.l:=by
  rw [Mj,Ybb,Mk]
  constructor
  ·rintro⟨⟨b,hb⟩,h⟩
   rw [J1a m.on hb] at h
   rw [← h]
   exact((hR.on _ b).1 hb).1
  ·intro h
   obtain⟨b,hb,_⟩:=hG.right.each _ h
   have h5:Qf boxes x.Box=some b:=hb
   have h1:=(hR.on x.Slot b).2 ⟨by rw [G81 h5]; exact h,by rw [G81 h5]; exact h5⟩
   exact⟨⟨b,h1⟩,by rw [J1a m.on h1]; exact G81 h5⟩
 refine Gt rfl (Gt rfl (Gt rfl (H6 (wp_mono (Q':=fun r=>(r=0∧Qe8 s t x)∨(r≠0∧¬ Qe8 s t x)) ?_ (fun r7 h7=>?_)))))
 ·refine Yq (P:=x.G9=0) (Gm (by rw [Mk])) (fun h1=>?_) (fun h1=>.inr ⟨by decide,fun h=>h1 h.1⟩)
  refine Yq (Gm h8) (fun h2=>?_) (fun h2=>.inr ⟨by decide,fun h=>h2 h.2.1⟩)
  refine Yq (P:=H3c t.l x.Slot=[]) ?_ (fun h3=>?_) (fun h3=>.inr ⟨by decide,fun h=>h3 h.2.2.1⟩)
  ·unfold G68
   refine H6 (wp_mono (Qc9 hG hR (P:=fun z=>H44 z x.Slot) (fun y hy=>?_)) (fun r hr=>Gm ?_))
   ·unfold G38
    exact H6 (wp_mono (Je7 _ _) (fun r hr=>Gm hr))
   ·rw [Bool.not_eq_true',← Bool.not_eq_true,hr]
    constructor
    ·intro h
     refine List.eq_nil_iff_forall_not_mem.2 fun a ha=>?_
     obtain⟨z,hz,_,ho⟩:=Ge4.1 ha
     exact h ⟨z,hz,ho⟩
    ·rintro h ⟨z,hz,ho⟩
     have:=Ge4.2 ⟨z,hz,rfl,ho⟩
     rw [h] at this; cases this
  refine Yq (P:=¬ J9b s t.o x.Slot) ?_ (fun h4=>He3 (.inl ⟨rfl,h1,h2,h3,h4⟩)) (fun h4=>.inr ⟨by decide,fun h=>h4 h.2.2.2⟩)
  obtain⟨i,c,hi,hc⟩:=hG.sta.colIn h2
  have hi:x.Slot.G3=(i:Int):=hi
  have h9:J9b s t.o x.Slot ↔ (c.Deck=false∧0≤Jt s c∧Jt s c ∉ t.o):=by
   constructor
   ·rintro⟨j,d,e1,e2,e3⟩
    have:=R52 hi e1 hc e2
    subst this
    exact e3
   ·exact fun e=>⟨i,c,hi,hc,e⟩
  have a0:J0a s t.o x.Slot ↔ (0≤Jt s c∧(c.Deck=true ↔ Jt s c∈t.o)):=by
   constructor
   ·rintro⟨j,d,e1,e2,e3⟩
    have:=R52 hi e1 hc e2
    subst this
    exact e3
   ·exact fun e=>⟨i,c,hi,hc,e⟩
  unfold G67
  show Wp (Qy m.ship.Columns x.Slot.G3 _) _
  refine Zb hi (show m.ship.Columns[i]? = some c by rw [hR.cols]; exact hc) ?_
  rw [h9]
  cases hd:c.Deck with
  | true=>exact H6 (Gm (Gm ⟨fun _ h=>(by cases h.1),fun _=>rfl⟩))
  | false=>
   refine H6 (wp_mono (R9f hG hR hi hc) (fun r hr=>Gm ?_))
   show ((false||!r)=true) ↔ _
   rw [Bool.false_or,Bool.not_eq_true',← Bool.not_eq_true,hr,a0,hd]
   refine not_congr ⟨fun h=>⟨rfl,h.1,fun g=>by cases h.2.2 g⟩,fun h=>⟨h.2.1,⟨fun g=>(by cases g),fun g=>(h.2.2 g).elim⟩⟩⟩
 ·refine Hs (fun h=>Gm (.inr ?_)) (fun h=>?_)
  ·have h0:=M1 h
   rcases h7 with ⟨e,_⟩ | ⟨e,h7⟩
   ·exact(h0 e).elim
   ·exact⟨fun g=>h7 (h6.1 g),e,rfl⟩
  ·have h0:r7=0:=by have:=M2 h; omega
   have h7:Qe8 s t x:=h7.elim (·.2) (fun h=>(h.1 h0).elim)
   refine R2 (by omega) (Gm (.inl ⟨h6.2 h7,rfl,?_,?_⟩))
   ·obtain⟨h1,h2,h3,h4⟩:=h7
    obtain⟨b,hb,_⟩:=hG.right.each _ h2
    have hb:Qf boxes x.Box=some b:=hb
    have hid:=G81 hb
    have a1:=(hR.on x.Slot b).2 ⟨by rw [hid]; exact h2,by rw [hid]; exact hb⟩
    rw [Yd3 hk,J1a m.on a1]
    refine⟨hR.cols,hR.covs,fun y d=>?_,fun i d=>?_,hR.opn⟩
    ·show (y,d)∈Gu.Ha (Gu.del m.on x.Slot) ↔ (⟨d.ID,y⟩:G1)∈H23 x.Box t.l∧Qf boxes d.ID=some d
     rw [Rd7,Qad,hR.on]
     constructor
     ·rintro⟨g1,g2,g3⟩
      refine⟨⟨g2,fun e=>g1 ?_⟩,g3⟩
      exact congrArg G1.Slot (Ha7 hG.right.sorted g2 h2 e)
     ·rintro⟨⟨g1,g2⟩,g3⟩
      refine⟨fun e=>g2 ?_,g1,g3⟩
      exact congrArg G1.Box (Yc4 hG hR g1 h2 e)
    ·show (i,d)∈Gu.Ha (Gu.put m.quay b.ID b) ↔ i∈H20 x.Box t.a∧Qf boxes i=some d
     rw [Q5c,G30,hR.quay,hid]
     constructor
     ·rintro(⟨rfl,rfl⟩ | ⟨g1,g2,g3⟩)
      ·exact⟨.inl rfl,hb⟩
      ·exact⟨.inr g2,g3⟩
     ·rintro⟨g | g,g3⟩
      ·subst g
       exact .inl ⟨rfl,by rw [hb] at g3; cases g3; rfl⟩
      ·exact .inr ⟨fun e=>hG.disj i g (Mo.2 ⟨_,h2,e.symm⟩),g,g3⟩
   ·show m.lifts+1=m.lifts+G80 x
    unfold G80
    rw [if_pos (.inl hk)]
end
section
variable {s:Gh} {boxes:List Box} {m:Gc} {t:St} {x:Move}
theorem Yc7 (hR:H53 s boxes m t) (y:Slot) (size:Int):Wp (G5f m.ship y size) (fun r=>r=true ↔ G7b s y size):=by
 refine wp_mono (Q9c m.ship y size) (fun r hr=>hr.trans ⟨fun h=>⟨?_,h.tier,h.half⟩,fun h=>⟨?_,h.tier,h.half⟩⟩)
 ·obtain⟨i,c,h1,h2,h3⟩:=h.col
  exact⟨i,c,h1,by rw [← hR.cols]; exact h2,h3⟩
 ·obtain⟨i,c,h1,h2,h3⟩:=h.col
  exact⟨i,c,h1,by rw [hR.cols]; exact h2,h3⟩
theorem Z2e (hG:Good s boxes t) (hR:H53 s boxes m t) (hk:x.Kind=3) (hl:0≤m.lifts∧m.lifts≤1000000):Wp (H03 m x) (Rca s boxes m t x):=by
 have a1:Can s boxes t x ↔ Rcb s boxes t x:=by
  constructor
  ·rintro(h | h | h | h)
   ·exact absurd h.1 (by omega)
   ·exact absurd h.1 (by omega)
   ·exact absurd h.1 (by omega)
   ·exact h.2
  ·exact fun h=>.inr (.inr (.inr ⟨hk,h⟩))
 have a5:=J56 hG.ship
 unfold H03
 have a6:Gu.has m.quay x.Box=true ↔ x.Box∈t.a:=by
  rw [Ybb]
  constructor
  ·rintro⟨b,hb⟩
   exact((hR.quay _ b).1 hb).1
  ·intro h
   obtain⟨b,hb,_⟩:=hG.box _ h
   exact⟨b,(hR.quay _ b).2 ⟨h,hb⟩⟩
 refine Gt rfl (Gt rfl (Gt rfl (H6 (wp_mono (Q':=fun r=>(r=0∧Rcb s boxes t x)∨(r≠0∧¬ Rcb s boxes t x)) ?_ (fun r7 h7=>?_)))))
 ·refine Yq (P:=x.G9=0) (Gm (by rw [Mk])) (fun h1=>?_) (fun h1=>.inr ⟨by decide,fun h=>h1 h.1⟩)
  refine Yq (Gm a6) (fun h2=>?_) (fun h2=>.inr ⟨by decide,fun h=>h2 h.2.1⟩)
  obtain⟨b,hb,hz⟩:=hG.box _ h2
  rw [J1a m.quay ((hR.quay _ b).2 ⟨h2,hb⟩)]
  have a2:x.Box ∉ t.l.map (·.Box):=hG.disj _ h2
  refine Yq (P:=G7b s x.Slot b.Size) ?_ (fun h3=>?_) (fun h3=>.inr ⟨by decide,fun⟨_,_,d,g1,g2,_⟩=>h3 (by rw [hb] at g1; cases g1; exact g2)⟩)
  ·unfold G9b
   exact H6 (wp_mono (Yc7 hR x.Slot b.Size) (fun r hr=>Gm hr))
  obtain⟨i,c,hi,hc,b0⟩:=h3.col
  have a7 : -1000000≤x.Slot.Tier∧x.Slot.Tier≤1000000:=by
   have:=a5.tiers c (M8 hc)
   have:=h3.tier
   omega
  refine Yq (P:=¬ J0a s t.o x.Slot) ?_ (fun h4=>?_) (fun h4=>.inr ⟨by decide,fun⟨_,_,d,g1,g2,g3,_⟩=>h4 g3⟩)
  ·unfold G9a
   refine H6 (wp_mono (R9f hG hR (x:=x.Slot) hi hc) (fun r hr=>Gm ?_))
   rw [Bool.not_eq_true',← Bool.not_eq_true,hr]
  refine Yq (P:=¬ Rc5 t.l x.Slot) ?_ (fun h5=>?_) (fun h5=>.inr ⟨by decide,fun⟨_,_,d,g1,g2,g3,g4,_⟩=>h5 g4⟩)
  ·unfold G99
   refine H6 (wp_mono (Qc9 hG hR (P:=fun z=>Hd8 z x.Slot) (fun y hy=>?_)) (fun r hr=>Gm ?_))
   ·unfold G50
    exact H6 (wp_mono (R07 _ _) (fun r hr=>Gm hr))
   ·rw [Bool.not_eq_true',← Bool.not_eq_true,hr]
    exact not_congr ⟨fun⟨y,hy,h⟩=>⟨y,hy,Hce h⟩,fun⟨y,hy,h⟩=>⟨y,hy,Hce h⟩⟩
  refine Yq (P:=H5a x.Slot (t.l.map (·.Slot))) ?_ (fun h6=>?_) (fun h6=>.inr ⟨by decide,fun⟨_,_,d,g1,g2,g3,g4,g5,_⟩=>h6 g5⟩)
  ·have hp:=Q58 hG hR
   have a3:(Gu.keys m.on).filterMap id=(onB m).map (·.Slot):=by
    rw [Hcf]; unfold onB; rw [List.map_map]; rfl
   have b1:(onB m).length≤10:=by rw [hp.length_eq]; have:=hG.num; omega
   unfold G98
   refine H6 (Gm (Gt (x:=(onB m).map (·.Slot)) ?_ (H6 (wp_mono (Q':=fun r=>r=true ↔ H5a x.Slot (t.l.map (·.Slot))) ?_ (fun r hr=>Gm hr)))))
   ·unfold Zn
    rw [a3,M3 (show ((onB m).map (·.Slot)).length*24≤140737488355328∧((onB m).map (·.Slot)).length≤maxLen from ⟨by rw [Mm]; omega,by rw [Mm]; simp only [maxLen]; omega⟩),Qa9]
   ·unfold H50
    rw [R1d (hp.map (·.Slot))]
    exact R08 x.Slot _ a7
  refine Yq (P:=Rc8 s boxes (H1f ⟨x.Box,x.Slot⟩ t.l) x.Slot) ?_ (fun h7=>He3 (.inl ⟨rfl,h1,h2,b,hb,h3,h4,h5,h6,h7⟩)) (fun h7=>.inr ⟨by decide,fun⟨_,_,d,g1,g2,g3,g4,g5,g6⟩=>h7 g6⟩)
  have h9:=H5e hG.right.sorted (y:=⟨x.Box,x.Slot⟩) a2
  have a8:Rc8 s boxes (H1f ⟨x.Box,x.Slot⟩ t.l) x.Slot ↔ J10 boxes (H1f ⟨x.Box,x.Slot⟩ t.l) i c:=by
   refine⟨fun hf=>hf i c hi hc,fun hf j d e1 e2=>?_⟩
   have:j=i:=by omega
   subst this
   rw [hc] at e2; cases e2
   exact hf
  have hh:∀ half:Int,Rs boxes (H1f ⟨x.Box,x.Slot⟩ t.l) (i:Int) half=(if x.Slot.Half=half∨x.Slot.Half=0 then H72 b else 0)+Rs boxes t.l (i:Int) half:=fun half=>by
   rw [Q39 (G33 h9),G34,Y68 (x:=⟨x.Box,x.Slot⟩) hb]
   congr 1
   by_cases a0:x.Slot.Half=half∨x.Slot.Half=0
   ·rw [if_pos a0,if_pos ⟨hi,a0⟩]
   ·rw [if_neg a0,if_neg (fun g=>a0 g.2)]
  unfold G97
  show Wp (Qy m.ship.Columns x.Slot.G3 _) _
  refine Zb hi (show m.ship.Columns[i]? = some c by rw [hR.cols]; exact hc) ?_
  rw [a8]
  unfold J10
  by_cases hH:c.Height≤0
  ·rw [M3 hH]
   exact H6 (Gm (H6 (Gm (Gm ⟨fun _=>.inl hH,fun _=>rfl⟩))))
  ·rw [M4 hH]
   refine Gt (Y5f hG hR x.Slot b 1) (Gt (Y5f hG hR x.Slot b 2) (Gm ?_))
   rw [hi,← hh,← hh,Bool.false_or,Mk,Int.max_le]
   exact⟨fun h=>.inr h,fun h=>h.resolve_left hH⟩
 ·refine Hs (fun h=>Gm (.inr ?_)) (fun h=>?_)
  ·have h0:=M1 h
   rcases h7 with ⟨e,_⟩ | ⟨e,h7⟩
   ·exact(h0 e).elim
   ·exact⟨fun g=>h7 (a1.1 g),e,rfl⟩
  ·have h0:r7=0:=by have:=M2 h; omega
   have h7:Rcb s boxes t x:=h7.elim (·.2) (fun h=>(h.1 h0).elim)
   refine R2 (by omega) (Gm (.inl ⟨a1.2 h7,rfl,?_,?_⟩))
   ·obtain⟨h1,h2,b,hb,h3,h4,h5,h6,h8⟩:=h7
    have a2:x.Box ∉ t.l.map (·.Box):=hG.disj _ h2
    have h9:=H5e hG.right.sorted (y:=⟨x.Box,x.Slot⟩) a2
    have hid:=G81 hb
    have a9:=(hR.quay x.Box b).2 ⟨h2,hb⟩
    have a4:∀ y∈t.l,y.Slot≠x.Slot:=fun y hy e=>h5 ⟨y,hy,by rw [e]; exact⟨rfl,rfl,.inl rfl⟩⟩
    rw [Yd2 hk,J1a m.quay a9]
    refine⟨hR.cols,hR.covs,fun y d=>?_,fun i d=>?_,hR.opn⟩
    ·show (y,d)∈Gu.Ha (Gu.put m.on x.Slot b) ↔ (⟨d.ID,y⟩:G1)∈H1f ⟨x.Box,x.Slot⟩ t.l∧Qf boxes d.ID=some d
     rw [Q5c,(G33 h9).mem_iff,Mq,hR.on]
     constructor
     ·rintro(⟨rfl,rfl⟩ | ⟨g1,g2,g3⟩)
      ·exact⟨.inl (by rw [hid]),by rw [hid]; exact hb⟩
      ·exact⟨.inr g2,g3⟩
     ·rintro⟨g | g,g3⟩
      ·have e1:d.ID=x.Box:=congrArg G1.Box g
       have e2:y=x.Slot:=congrArg G1.Slot g
       refine .inl ⟨e2,?_⟩
       rw [e1,hb] at g3
       cases g3; rfl
      ·exact .inr ⟨a4 _ g,g,g3⟩
    ·show (i,d)∈Gu.Ha (Gu.del m.quay x.Box) ↔ i∈H83 x.Box t.a∧Qf boxes i=some d
     rw [Rd7,G31,hR.quay]
     exact⟨fun h=>⟨⟨h.2.1,h.1⟩,h.2.2⟩,fun h=>⟨h.1.2,h.1.1,h.2⟩⟩
   ·show m.lifts+1=m.lifts+G80 x
    unfold G80
    rw [if_pos (.inr hk)]
theorem Z31 (hG:Good s boxes t) (hR:H53 s boxes m t) (hl:0≤m.lifts∧m.lifts≤1000000) (x:Move):Wp (G60 m x) (Rca s boxes m t x):=by
 unfold G60
 refine Zy (fun j=>j=true ↔ (x.Kind=1∨x.Kind=4)) (fun K hK=>Hs (fun h=>hK _ ?_) (fun h=>hK _ ?_)) (fun j hj=>?_)
 ·rw [h]; exact⟨fun _=>.inl (M1 h),fun _=>rfl⟩
 ·rw [Mk]
  exact⟨.inr,fun g=>g.resolve_left (M2 h)⟩
 refine Hs (fun h=>?_) (fun h=>Hs (fun h2=>?_) (fun h2=>Hs (fun h3=>?_) (fun h3=>Gm (.inr ⟨?_,by show (310:Int)≠0; decide,rfl⟩))))
 ·rcases hj.1 h with hk | hk
  ·exact H6 (wp_mono (Y36 hG hR hk) (fun r hr=>Gm hr))
  ·exact H6 (wp_mono (Y35 hG hR hk) (fun r hr=>Gm hr))
 ·exact H6 (wp_mono (Ycf hG hR (M1 h2) hl) (fun r hr=>Gm hr))
 ·exact H6 (wp_mono (Z2e hG hR (M1 h3) hl) (fun r hr=>Gm hr))
 ·have hn:¬ (x.Kind=1∨x.Kind=4):=fun g=>by rw [hj.2 g] at h; cases h
  have h2:=M2 h2
  have h3:=M2 h3
  rintro(g | g | g | g)
  ·exact hn (.inl g.1)
  ·exact hn (.inr g.1)
  ·exact h2 g.1
  ·exact h3 g.1
end
theorem Z30 {boxes:List Box} {i:Int} {b:Box} (h:Qf boxes i=some b):b∈boxes:=List.mem_of_find?_eq_some h
theorem Rb8 {l:List G1} {f:G1→Option Bool} {p:G1→Bool} (h:∀ x∈l,f x=some (p x)):J9 l f=some (l.any p):=by
 have e:Qa l f=some (J36 p l):=H82 h
 unfold J9
 exact G28 (Gt e (Gm (by show decide (0≤J36 p l)=_; rw [H40])))
theorem Y27 {α β:Type} [DecidableEq β] {xs:List α} {k:Bool→Option β} {r:Option β} (h:∀ b,(b=true→xs=[])→k b=r):Y28 xs k=r:=by
 unfold Y28
 cases xs with
 | nil=>rw [h true (fun _=>rfl),h false (fun e=>by cases e)]; simp
 | cons x l=>exact h false (fun e=>by cases e)
theorem Jf8 {α:Type} [DecidableEq α] {k:Nat} {s:List α} (h:s.length*k≤140737488355328∧s.length≤maxLen):(Y28 s fun b4=>bif b4 then (some []) else (need (decide ((([]:List α).length+s.length)*k≤140737488355328∧([]:List α).length+s.length≤maxLen)) <| some (([]:List α)++s)))=some s:=by
 refine Y27 (fun b hb=>?_)
 cases b with
 | true=>rw [hb rfl]; rfl
 | false=>
  rw [cond_false,M3 (show (([]:List α).length+s.length)*k≤140737488355328∧([]:List α).length+s.length≤maxLen by rw [List.length_nil,Nat.zero_add]; exact h)]
  rfl
theorem Yc9 {n k:Nat} (hn:n≤1000000) (hk:k≤1000):n*k≤140737488355328∧n≤maxLen:=
 ⟨Nat.le_trans (Nat.mul_le_mul hn hk) (by decide),by simp only [maxLen]; omega⟩
theorem Ya1 {s:List G3} (h:s.length≤1000000):Rb s=some s:=Jf8 (Yc9 (k:=112) h (by decide))
theorem Ya0 {s:List G9} (h:s.length≤1000000):Rq s=some s:=Jf8 (Yc9 (k:=32) h (by decide))
theorem Y9f {s:List Int} (h:s.length≤1000000):Yo s=some s:=Jf8 (Yc9 (k:=8) h (by decide))
def Q9d (b:Box):Bool:=decide (b.Size=20)||decide (b.Size=40)
theorem Ra0 (boxes:List Box) (i:Int):Gdb boxes i=some (match Qf boxes i with
  | some b=>(b,Q9d b)
  | none=>(Box.mk 0 ByteArray.empty 0 false 0 0 0 0 false,false)):=by
 unfold Gdb
 rw [Je5]
 cases Qf boxes i <;> rfl
theorem Y11 {β:Type} {Q:β→Prop} {boxes:List Box} {state:List G1} {ashore pre post:List Int} {y:Int} (e:ashore=pre++y::post) (ha:pre.length≤1000000) {A:Option β} {B:Box→Option β}
  (hA:(∀ b,Qf boxes y=some b→¬ (b.Size=20∨b.Size=40))∨(∃ p∈pre,y≤p)∨y∈state.map (·.Box)→Wp A Q)
  (hB:∀ b,Qf boxes y=some b→(b.Size=20∨b.Size=40)→Wp (B b) Q) :
  Wp (bnd (Gdb boxes y) fun r162=>
     bnd (bif ((!(!r162.2))&&(decide (0 < (pre.length:Int)))) then chk ((pre.length:Int) - 1) some else some 0) fun v165=>
     bnd (bif ((!(!r162.2))&&(decide (0 < (pre.length:Int)))) then Qy ashore v165 some else some default) fun y166=>
     bnd (bif (!((!r162.2)||((decide (0 < (pre.length:Int)))&&(decide (y≤y166))))) then J9 state (fun z0=>G79 z0 y) else some default) fun r167=>
     bif (((!r162.2)||((decide (0 < (pre.length:Int)))&&(decide (y≤y166))))||r167) then A else B r162.1) Q:=by
 refine Gt (Ra0 boxes y) ?_
 cases hf:Qf boxes y with
 | none=>
  have hA:=hA (.inl fun b hb=>by rw [hf] at hb; cases hb)
  exact H6 (Gm (H6 (Gm (H6 (Gm hA)))))
 | some b=>
  simp only
  by_cases hz:b.Size=20∨b.Size=40
  ·have h0:Q9d b=true:=by unfold Q9d; simpa using hz
   rw [h0]
   simp only [Bool.not_true,Bool.not_false,Bool.true_and,Bool.false_or]
   have hc:=Rb8 (l:=state) (f:=fun z0=>G79 z0 y) (p:=fun x=>decide (x.Box=y)) (fun x _=>rfl)
   have h5:(state.any fun x=>decide (x.Box=y))=true→y∈state.map (·.Box):=fun h=>by
    obtain⟨x,hx,e⟩:=List.any_eq_true.1 h
    exact Mo.2 ⟨x,hx,M1 e⟩
   by_cases hp:0 < (pre.length:Int)
   ·obtain⟨p,h1,h2,h3⟩:=R42 (l:=ashore) (y:=y) e (by omega)
    rw [M3 hp]
    simp only [cond_true,Bool.true_and]
    refine H6 (R2 (by omega) (Gm (H6 (Zb (show (pre.length:Int) - 1=((pre.length - 1:Nat):Int) by omega) h1 (Gm ?_)))))
    by_cases h4:y≤p
    ·rw [M3 h4]
     exact H6 (Gm (hA (.inr (.inl ⟨p,h3,h4⟩))))
    ·rw [M4 h4]
     refine Gt hc (Hs (fun h=>hA (.inr (.inr (h5 (by simpa using h))))) (fun _=>hB b hf hz))
   ·rw [M4 hp]
    refine H6 (Gm (H6 (Gm (Gt hc (Hs (fun h=>hA (.inr (.inr (h5 (by simpa using h))))) (fun _=>hB b hf hz))))))
  ·have h0:Q9d b=false:=by unfold Q9d; simpa using hz
   rw [h0]
   have hA:=hA (.inl fun d hd=>by rw [hf] at hd; cases hd; exact hz)
   exact H6 (Gm (H6 (Gm (H6 (Gm hA)))))
theorem R3d {β:Type} {Q:β→Prop} {s:Gh} (hr:∀ x∈s.Covers,x.Rows.length≤1000000) {K:List G9→Option β} (hK:Wp (K s.Covers) Q) :
  Wp (each (fun y41 i41 (s41:(List G9)) nx41=>
   Qy s.Covers (i41:Int) fun y46=>
   bnd (Yo y46.Rows) fun r48=>
   Qy s41 (i41:Int) fun y49=>
   nx41 (s41.set (i41:Int).toNat (G9.mk y49.Bay r48))) K s.Covers 0 s.Covers) Q:=by
 refine Jg (fun _ t=>t=s.Covers) rfl (fun pre y post t nx e hI h0=>?_) (fun t ht=>by rw [ht]; exact hK)
 subst hI
 have hy:s.Covers[pre.length]? = some y:=by rw [e]; simp
 refine Zb rfl hy (Gt (Y9f (hr y (M8 hy))) (Zb rfl hy (h0 _ ?_)))
 apply List.ext_getElem?
 intro q
 rw [show ((pre.length:Int)).toNat=pre.length by omega,List.getElem?_set]
 split
 ·rename_i h
  subst h
  have:=(M5 hy).1
  rw [if_pos this,hy]
 ·rfl
theorem Y10 {s:Gh} {boxes:List Box} {l:List G1} {a:List Int} (hL:J7e s) (hr:R5 s boxes l) (hl:l.length≤10) (h5:a.length≤1000)
  (h2:∀ i∈a,∃ b,Qf boxes i=some b∧(b.Size=20∨b.Size=40)) (h0:a.Pairwise (· < ·)) (h3:∀ i∈a,i ∉ l.map (·.Box)) :
  Wp (Geb s boxes l a) (fun r=>r.2=0∧H53 s boxes r.1 ⟨l,[],a⟩∧r.1.lifts=0):=by
 have hs:=J56 hL
 have h6:=hL.covs.len
 have h7:=hL.len
 unfold Geb
 refine H6 (wp_mono (Gd5 hs.right hs.tier (by omega)) (fun r4 h4=>Hs (fun h=>?_) (fun _=>?_)))
 ·rw [h4.2 hr] at h; cases h
 refine Gt (Ya1 (by omega)) (Gt (Ya0 (by omega)) (R3d (fun x hx=>by have:=hs.rows x hx; omega) ?_))
 refine Jg (fun pre (st:Gu Slot Box)=>∀ y b,(y,b)∈Gu.Ha st ↔ (⟨b.ID,y⟩:G1)∈pre∧Qf boxes b.ID=some b) (fun y b=>⟨fun h=>(Q5d h).elim,fun h=>by cases h.1⟩) (fun pre x post st nx e hI h1=>?_) (fun st hI=>?_)
 ·have hx:x∈l:=by rw [e]; simp
  obtain⟨d,hd,_⟩:=hr.each x hx
  refine Gt (Ra0 boxes x.Box) ?_
  rw [hd]
  refine h1 _ (fun y b=>?_)
  have hid:=G81 hd
  show (y,b)∈Gu.Ha (Gu.put st x.Slot d) ↔ _
  rw [Q5c,hI,Mn,Mp]
  constructor
  ·rintro(⟨rfl,rfl⟩ | ⟨g1,g2,g3⟩)
   ·exact⟨.inr (by rw [hid]),by rw [hid]; exact hd⟩
   ·exact⟨.inl g2,g3⟩
  ·rintro⟨g | g,g3⟩
   ·refine .inr ⟨fun h=>?_,g,g3⟩
    have ha:=hr.apart
    rw [e] at ha
    exact Gf9 ha _ g (by rw [show (⟨b.ID,y⟩:G1).Slot=x.Slot from h]; exact⟨rfl,rfl,.inl rfl⟩)
   ·have e1:b.ID=x.Box:=congrArg G1.Box g
    refine .inl ⟨congrArg G1.Slot g,?_⟩
    rw [e1,hd] at g3
    cases g3; rfl
 ·refine Jg (fun pre (qt:Gu Int Box)=>∀ i b,(i,b)∈Gu.Ha qt ↔ i∈pre∧Qf boxes i=some b) (fun i b=>⟨fun h=>(Q5d h).elim,fun h=>by cases h.1⟩) (fun pre y post qt nx e hJ h1=>?_) (fun qt hJ=>?_)
  ·have hy:y∈a:=by rw [e]; simp
   refine Y11 e (by have:=congrArg List.length e; simp only [Mh] at this; omega) (fun h=>?_) (fun b hb _=>h1 _ (fun i d=>?_))
   ·rcases h with h | ⟨p,hp,h⟩ | h
    ·obtain⟨b,hb,hz⟩:=h2 y hy
     exact(h b hb hz).elim
    ·rw [e] at h0
     have:=Gf9 h0 p hp
     omega
    ·exact(h3 y hy h).elim
   ·show (i,d)∈Gu.Ha (Gu.put qt y b) ↔ _
    rw [Q5c,hJ,Mn,Mp]
    constructor
    ·rintro(⟨rfl,rfl⟩ | ⟨g1,g2,g3⟩)
     ·exact⟨.inr rfl,hb⟩
     ·exact⟨.inl g2,g3⟩
    ·rintro⟨g | g,g3⟩
     ·by_cases h:i=y
      ·subst h
       refine .inl ⟨rfl,?_⟩
       rw [hb] at g3
       cases g3; rfl
      ·exact .inr ⟨h,g,g3⟩
     ·subst g
      refine .inl ⟨rfl,?_⟩
      rw [hb] at g3
      cases g3; rfl
  ·exact Gm ⟨rfl,⟨rfl,rfl,hI,hJ,fun k v=>⟨fun h=>(Q5d h).elim,fun h=>by cases h.1⟩⟩,rfl⟩
end Go.Proofs.YtgcpimpnpcdmmaaGreat
