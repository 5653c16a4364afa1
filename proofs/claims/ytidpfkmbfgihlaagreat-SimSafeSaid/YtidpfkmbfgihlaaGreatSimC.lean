/-
 States with a box more or less are right. What a simulator's maps hold,and what the methods that only What a move needs,what it brings about,and that it can be un What doing a move does:
-/
import Derived.Test.YtidpfkmbfgihlaaGreatPutN
set_option maxRecDepth 100000
set_option linter.unusedVariables false
namespace Go.Proofs.YtidpfkmbfgihlaaGreat
open Go.RowKit
theorem Q19 {a b:Int} (h:H20 a b):H20 b a:=by
 unfold H20 at h ⊢
 omega
theorem Hbc {a b:Slot} (h:Hc7 a b):Hc7 b a:=⟨h.1.symm,h.2.1.symm,Q19 h.2.2⟩
theorem over_self {a:Slot}:¬ Ha3 a a:=fun h=>by have:=h.2.1; omega
theorem Gf4 {l q:List Stowed} {x:Stowed} (h:J67 l x q):q.Perm (x::l):=by
 obtain⟨pre,post,rfl,rfl,_⟩:=h
 exact List.perm_middle
theorem H7a {l q:List Stowed} {x:Stowed} (h:J67 l x q) (hs:l.Pairwise (fun a b=>a.Box < b.Box)) (hx:x.Box ∉ l.map (·.Box)):q.Pairwise (fun a b=>a.Box < b.Box):=by
 obtain⟨pre,post,rfl,rfl,h1,h2⟩:=h
 obtain⟨s1,s2,s3⟩:=List.pairwise_append.1 hs
 refine List.pairwise_append.2 ⟨s1,List.pairwise_cons.2 ⟨fun y hy=>?_,s2⟩,fun a ha b hb=>?_⟩
 ·have h0:x.Box≠y.Box:=fun e=>hx (Mm.2 ⟨y,Mk.2 (.inr hy),e.symm⟩)
  cases post with
  | nil=>cases hy
  | cons z r=>
   have h3:=h2 z rfl
   rcases Mo.1 hy with rfl | hy
   ·omega
   ·have:=(List.pairwise_cons.1 s2).1 y hy
    omega
 ·rcases Mo.1 hb with rfl | hb
  ·exact h1 a ha
  ·exact s3 a ha b hb
theorem J26 {a b:List Stowed} (hp:a.Perm b) (ha:a.Pairwise (fun x y=>x.Box < y.Box)) (hb:b.Pairwise (fun x y=>x.Box < y.Box)):a=b:=
 List.Perm.eq_of_pairwise (le:=fun x y:Stowed=>x.Box < y.Box) (fun x y _ _ h1 h2=>by omega) ha hb hp
theorem Y00 {l q:List Stowed} {x:Stowed} {pre post:List Stowed} (h:J67 (pre++post) x q) (hs:(pre++x::post).Pairwise (fun a b=>a.Box < b.Box)):q=pre++x::post:=by
 have h0:(pre++post).Sublist (pre++x::post):=List.Sublist.append_left (List.sublist_cons_self ..) _
 obtain⟨s1,s2,s3⟩:=List.pairwise_append.1 hs
 refine J26 ((Gf4 h).trans List.perm_middle.symm) (H7a h (hs.sublist h0) (fun hm=>?_)) hs
 obtain⟨y,hy,e⟩:=Mm.1 hm
 rcases Mk.1 hy with hy | hy
 ·have:=s3 y hy x (List.mem_cons_self ..)
  omega
 ·have:=(List.pairwise_cons.1 s2).1 y hy
  omega
theorem R05 {l q:List Slot} {x:Slot} (h:H3f x l) (hs:∀ y∈l,y∈q):H3f x q:=by
 rcases h with h | h | ⟨h0,h1,h2⟩
 ·exact .inl h
 ·exact .inr (.inl (hs _ h))
 ·exact .inr (.inr ⟨h0,hs _ h1,hs _ h2⟩)
theorem Y5f {s:Gk} {boxes:List Box} {l q:List Stowed} {x:Stowed} {b:Box} (h:Yz s boxes l) (hb:Qj boxes x.Box=some b) (h6:G69 s x.Slot b.Size) (h4:¬ Qde l x.Slot) (h7:H3f x.Slot (l.map (·.Slot))) (h0:J67 l x q) (hx:x.Box ∉ l.map (·.Box)) (h9:Qe7 s boxes q x.Slot):Yz s boxes q:=by
 have hp:=Gf4 h0
 have h5:∀ y,y∈q ↔ y=x∨y∈l:=fun y=>by rw [hp.mem_iff,Mo]
 have h8:∀ y∈l.map (·.Slot),y∈q.map (·.Slot):=fun y hy=>by
  obtain⟨z,hz,e⟩:=Mm.1 hy
  exact Mm.2 ⟨z,(h5 z).2 (.inr hz),e⟩
 refine⟨fun y hy=>?_,H7a h0 h.sorted hx,?_,fun m c hc=>?_⟩
 ·rcases (h5 y).1 hy with rfl | hy
  ·exact⟨b,hb,h6,R05 h7 h8⟩
  ·obtain⟨b',h1,h2,h3⟩:=h.each y hy
   exact⟨b',h1,h2,R05 h3 h8⟩
 ·have ha:=h.apart
  obtain⟨pre,post,rfl,rfl,_⟩:=h0
  obtain⟨s1,s2,s3⟩:=List.pairwise_append.1 ha
  refine List.pairwise_append.2 ⟨s1,List.pairwise_cons.2 ⟨fun y hy hm=>h4 ⟨y,Mk.2 (.inr hy),Hbc hm⟩,s2⟩,fun a ha b hb=>?_⟩
  rcases Mo.1 hb with rfl | hb
  ·exact fun hm=>h4 ⟨a,Mk.2 (.inl ha),hm⟩
  ·exact s3 a ha b hb
 ·by_cases he:x.Slot.G2=(m:Int)
  ·exact h9 m c he hc
  ·have:=h.fits m c hc
   obtain⟨pre,post,rfl,rfl,_⟩:=h0
   unfold J08 at this ⊢
   rw [Hf0,Hf0,Qaa he,Qaa he,Int.add_zero,Int.add_zero]
   exact this
theorem chain {s:Gk} {boxes:List Box} {l:List Stowed} (h:Yz s boxes l) {t:Int} (h0:0≤t):∀ (n:Nat) (z:Stowed),z∈l→z.Slot.Tier=t+(n:Int)+1 →
  (∃ w∈l,w.Slot=⟨z.Slot.G2,t,z.Slot.Half⟩)∨(z.Slot.Half=0∧(∃ w∈l,w.Slot=⟨z.Slot.G2,t,1⟩)∧∃ w∈l,w.Slot=⟨z.Slot.G2,t,2⟩):=by
 intro n
 induction n with
 | zero=>
  intro z hz ht
  obtain⟨_,_,_,hh⟩:=h.each z hz
  have e:z.Slot.Tier - 1=t:=by omega
  rcases hh with hh | hh | ⟨h3,h1,h2⟩
  ·omega
  ·obtain⟨w,hw,ew⟩:=G95 hh
   rw [e] at ew
   exact .inl ⟨w,hw,ew⟩
  ·obtain⟨w,hw,ew⟩:=G95 h1
   obtain⟨v,hv,ev⟩:=G95 h2
   rw [e] at ew ev
   exact .inr ⟨h3,⟨w,hw,ew⟩,⟨v,hv,ev⟩⟩
 | succ n ih=>
  intro z hz ht
  obtain⟨_,_,_,hh⟩:=h.each z hz
  have one:∀ w∈l,∀ half,w.Slot=⟨z.Slot.G2,z.Slot.Tier - 1,half⟩→half≠0→∃ v∈l,v.Slot=⟨z.Slot.G2,t,half⟩:=fun w hw half ew h4=>by
   have:=ih w hw (by rw [ew]; simp only; omega)
   rw [ew] at this
   rcases this with h | ⟨h,_⟩
   ·exact h
   ·exact(h4 h).elim
  rcases hh with hh | hh | ⟨h3,h1,h2⟩
  ·omega
  ·obtain⟨w,hw,ew⟩:=G95 hh
   have:=ih w hw (by rw [ew]; simp only; omega)
   rw [ew] at this
   exact this
  ·obtain⟨w,hw,ew⟩:=G95 h1
   obtain⟨v,hv,ev⟩:=G95 h2
   exact .inr ⟨h3,one w hw 1 ew (by decide),one v hv 2 ev (by decide)⟩
theorem Ydb {s:Gk} {boxes:List Box} {l q:List Stowed} {x:Stowed} {size:Int} (h:Yz s boxes l) (h0:G69 s x.Slot size) (h2:¬ Qde l x.Slot) (h3:J67 l x q):H75 q x.Slot=[]:=by
 refine List.eq_nil_iff_forall_not_mem.2 fun a ha=>?_
 obtain⟨z,hz,_,ho⟩:=Hbb.1 ha
 have h4:z∈l:=by
  rcases Mo.1 ((Gf4 h3).mem_iff.1 hz) with rfl | hz
  ·exact(over_self ho).elim
  ·exact hz
 obtain⟨o1,o2,o3⟩:=ho
 have ht:=h0.tier
 have h1:x.Slot.Half=0∨x.Slot.Half=1∨x.Slot.Half=2:=by
  have:=h0.half
  unfold H9f at this
  split at this
  ·have:x.Slot.Half=0:=by simpa using this
   exact .inl this
  ·split at this
   ·have:x.Slot.Half=1∨x.Slot.Half=2:=by simpa using this
    exact .inr this
   ·cases this
 have meet:∀ w∈l,∀ half,w.Slot=⟨z.Slot.G2,x.Slot.Tier,half⟩→H20 x.Slot.Half half→False:=fun w hw half ew h5=>h2 ⟨w,hw,by rw [ew]; exact⟨o1.symm,rfl,h5⟩⟩
 rcases chain h ht ((z.Slot.Tier - x.Slot.Tier - 1).toNat) z h4 (by omega) with ⟨w,hw,ew⟩ | ⟨_,⟨w,hw,ew⟩,⟨v,hv,ev⟩⟩
 ·exact meet w hw _ ew (Q19 o3)
 ·rcases h1 with e | e | e
  ·exact meet w hw _ ew (.inr (.inl e))
  ·exact meet w hw _ ew (.inl e)
  ·exact meet v hv _ ev (.inl e)
theorem Yd7 {s:Gk} {o:List Int} {x:Slot} (h:Hf3 s o x):Hc3 s o x:=by
 obtain⟨m,c,h1,h2,h3,h4,h5⟩:=h
 exact⟨m,c,h1,h2,h4,⟨fun e=>absurd (h3.symm.trans e) Bool.false_ne_true,fun e=>(h5 e).elim⟩⟩
theorem R82 {s:Gk} {boxes:List Box} {l:List Stowed} {o:List Int} (hU:∀ k∈o,J62 s l k) {x:Stowed} (hx:x∈l) (h:¬ Hf3 s o x.Slot):¬ Hc3 s o x.Slot:=by
 rintro⟨m,c,h1,h2,h3,h4⟩
 cases hd:c.Deck with
 | false=>exact h ⟨m,c,h1,h2,hd,h3,fun hm=>by have:=h4.2 hm; rw [hd] at this; cases this⟩
 | true=>exact hU _ (h4.1 hd) x hx m c h1 h2 hd rfl
theorem Y20 {s:Gk} {x:Slot} {size:Int} (h:G69 s x size):size=20∨size=40:=by
 have:=h.half
 unfold H9f at this
 split at this
 ·exact .inr (by assumption)
 ·split at this
  ·exact .inl (by assumption)
  ·cases this

section
variable {κ ν:Type} [DecidableEq κ]
theorem Y9e {l:List (κ×ν)} (hn:(l.map (·.1)).Nodup) {a:κ} {v:ν}:G31 l a=some v ↔ (a,v)∈l:=by
 constructor
 ·intro h
  unfold G31 at h
  obtain⟨p,hp,rfl⟩:=Option.map_eq_some_iff.1 h
  have h1:=List.mem_of_find?_eq_some hp
  have h2:p.1=a:=by simpa using List.find?_some hp
  subst h2
  exact h1
 ·intro h
  obtain⟨j,hj⟩:=List.mem_iff_getElem?.1 h
  exact(Hec hn hj).1
theorem R23 (m:Gu κ ν) {a:κ} {v:ν}:G31 (Gu.Hf m) a=some v ↔ (a,v)∈Gu.Hf m:=Y9e m.nd
theorem Y87 (m:Gu κ ν) {a:κ}:Gu.has m a=true ↔ ∃ v,(a,v)∈Gu.Hf m:=by
 unfold Gu.has
 rw [Q8c,Mm]
 exact⟨fun⟨p,hp,e⟩=>⟨p.2,by subst e; exact hp⟩,fun⟨v,hv⟩=>⟨(a,v),hv,rfl⟩⟩
theorem J11 (m:Gu κ ν) {a:κ} {v z:ν} (h:(a,v)∈Gu.Hf m):Gu.get m a z=v:=by
 unfold Gu.get
 rw [(R23 m).2 h]; rfl
theorem Y1c (m:Gu κ ν) {a:κ} {z:ν} (h:∀ v,(a,v) ∉ Gu.Hf m):Gu.get m a z=z:=by
 unfold Gu.get
 cases hq:G31 (Gu.Hf m) a with
 | none=>rfl
 | some v=>exact(h v ((R23 m).1 hq)).elim
theorem Q4e (m:Gu κ ν) {a b:κ} {v w:ν}:(b,w)∈Gu.Hf (Gu.put m a v) ↔ (b=a∧w=v)∨(b≠a∧(b,w)∈Gu.Hf m):=by
 rw [← R23]
 have e:Gu.Hf (Gu.put m a v)=H02 (Gu.Hf m) a v:=Qea m.l a v
 rw [e,J41]
 by_cases h:a=b
 ·subst h
  rw [if_pos rfl]
  constructor
  ·intro h; cases h; exact .inl ⟨rfl,rfl⟩
  ·rintro(⟨_,rfl⟩ | ⟨h,_⟩)
   ·rfl
   ·exact(h rfl).elim
 ·rw [if_neg h,R23]
  exact⟨fun g=>.inr ⟨fun e=>h e.symm,g⟩,fun g=>g.elim (fun g=>(h g.1.symm).elim) (·.2)⟩
theorem Rb4 (m:Gu κ ν) {a b:κ} {w:ν}:(b,w)∈Gu.Hf (Gu.del m a) ↔ b≠a∧(b,w)∈Gu.Hf m:=by
 have e:Gu.Hf (Gu.del m a)=(Gu.Hf m).filter (fun p=>decide (p.1≠a)):=Qef m.l a
 rw [e,Mp,Mi]
 exact⟨fun h=>⟨h.2,h.1⟩,fun h=>⟨h.2,h.1⟩⟩
omit [DecidableEq κ] in
theorem Q4f {a:κ} {v:ν}:(a,v) ∉ Gu.Hf (Gu.empty:Gu κ ν):=fun h=>by cases h
end

structure St where
 l:List Stowed
 o:List Int
 a:List Int
structure Good (s:Gk) (boxes:List Box) (t:St):Prop where
 ship:Qc1 s
 right:Yz s boxes t.l
 opn:Gf9 s t.o
 free:∀ k∈t.o,J62 s t.l k
 box:∀ i∈t.a,∃ b,Qj boxes i=some b∧(b.Size=20∨b.Size=40)
 asc:t.a.Pairwise (· < ·)
 disj:∀ i∈t.a,i ∉ t.l.map (·.Box)
 num:t.l.length+t.a.length=boxes.length
 few:boxes.length≤8
structure Gf8 (s:Gk) (boxes:List Box) (m:Gb) (t:St):Prop where
 cols:m.ship.Columns=s.Columns
 covs:m.ship.Covers=s.Covers
 on:∀ x b,(x,b)∈Gu.Hf m.on ↔ (⟨b.ID,x⟩:Stowed)∈t.l∧Qj boxes b.ID=some b
 quay:∀ i b,(i,b)∈Gu.Hf m.quay ↔ i∈t.a∧Qj boxes i=some b
 opn:∀ k v,(k,v)∈Gu.Hf m.open_ ↔ k∈t.o∧v=1
theorem G68 {boxes:List Box} {i:Int} {b:Box} (h:Qj boxes i=some b):b.ID=i:=Kz (List.find?_some (p:=fun b:Box=>decide (b.ID=i)) h)
theorem Good.sta {s:Gk} {boxes:List Box} {t:St} (h:Good s boxes t):Sta s boxes t.l:=⟨h.ship,h.right,by have:=h.num; have:=h.few; omega⟩
theorem J20 {l:List Stowed} (h:l.Pairwise (fun a b=>a.Box < b.Box)):(l.map (·.Box)).Nodup:=G36 (List.pairwise_map.2 h)
theorem Rfa {l:List Stowed} (h:l.Pairwise (fun a b=>a.Box < b.Box)):l.Nodup:=h.imp (fun {a b} h0 e=>by subst e; omega)
section
variable {s:Gk} {boxes:List Box} {m:Gb} {t:St}
theorem Q42 (hG:Good s boxes t) (hR:Gf8 s boxes m t):(onB m).Perm t.l:=by
 refine(List.perm_ext_iff_of_nodup ?_ (Rfa hG.right.sorted)).2 fun x=>?_
 ·have h:((Gu.Hf m.on).map (·.1)).Nodup:=m.on.nd
  unfold onB
  refine List.pairwise_map.2 ((List.pairwise_map.1 h).imp fun {p q} h0 e=>h0 ?_)
  exact congrArg Stowed.Slot e
 ·unfold onB
  rw [Mm]
  constructor
  ·rintro⟨⟨y,b⟩,hp,rfl⟩
   exact((hR.on y b).1 hp).1
  ·intro hx
   obtain⟨b,hb,_⟩:=hG.right.each x hx
   have e:=G68 hb
   refine⟨(x.Slot,b),(hR.on x.Slot b).2 ⟨by rw [e]; exact hx,by rw [e]; exact hb⟩,?_⟩
   show Stowed.mk b.ID x.Slot=x
   rw [e]
theorem Hb8 (hG:Good s boxes t) (hR:Gf8 s boxes m t):R0 m=some t.l:=by
 have hp:=Q42 hG hR
 have hl:t.l.length≤8:=by have:=hG.num; have:=hG.few; omega
 have h0:=hp.length_eq
 have hn:((onB m).map (·.Box)).Nodup:=(hp.map _).nodup_iff.2 (J20 hG.right.sorted)
 unfold R0
 rw [M1 (show (onB m).length*32≤140737488355328∧(onB m).length≤maxLen∧((onB m).map (·.Box)).Nodup from ⟨by omega,by simp only [maxLen]; omega,hn⟩),Q8b]
 refine congrArg some (Q7c ((He4 _).trans hp) (J20 hG.right.sorted) (He3 _) (hG.right.sorted.imp fun h=>by omega))
theorem Q11 {seq:List (Option Int)} {a:List Int} (hn:(seq.filterMap id).Nodup) (ha:a.Pairwise (· < ·)) (hl:a.length≤1000) (h:∀ i,i∈seq.filterMap id ↔ i∈a):Yq seq=some a:=by
 have hp:(seq.filterMap id).Perm a:=(List.perm_ext_iff_of_nodup hn (G36 ha)).2 h
 have h0:=hp.length_eq
 unfold Yq
 rw [M1 (show (seq.filterMap id).length*8≤140737488355328∧(seq.filterMap id).length≤maxLen from ⟨by omega,by simp only [maxLen]; omega⟩),Q8b,sorted_perm hp]
 unfold H72
 rw [M1 (show a.length < 4611686018427387904 by omega),cond_true]
 exact congrArg some (List.Perm.eq_of_pairwise (le:=fun a b:Int=>a≤b) (fun a b _ _ h1 h2=>by omega) (Gf2 a) (ha.imp fun h=>by omega) (H10 a))
theorem Hc1 (hG:Good s boxes t) (hR:Gf8 s boxes m t):Qp m=some t.a:=by
 unfold Qp
 have hn:((Gu.Hf m.quay).map (·.1)).Nodup:=m.quay.nd
 refine G30 (Gy (Gg (Gs (Q11 (a:=t.a) (by rw [Hbd]; exact hn) hG.asc (by have:=hG.num; have:=hG.few; omega) (fun i=>?_)) (Gg rfl))))
 rw [Hbd,Mm]
 constructor
 ·rintro⟨⟨j,b⟩,hp,rfl⟩
  exact((hR.quay j b).1 hp).1
 ·intro hi
  obtain⟨b,hb,_⟩:=hG.box i hi
  exact⟨(i,b),(hR.quay i b).2 ⟨hi,hb⟩,rfl⟩
theorem Jaa (hG:Good s boxes t) (hR:Gf8 s boxes m t):Ry m=some t.o:=by
 unfold Ry
 have hn:((Gu.Hf m.open_).map (·.1)).Nodup:=m.open_.nd
 have hl:=hG.opn.len
 have hc:=hG.ship.covs.len
 refine G30 (Gy (Gg (Gs (Q11 (a:=t.o) (by rw [Hbd]; exact hn) hG.opn.sorted (by omega) (fun i=>?_)) (Gg rfl))))
 rw [Hbd,Mm]
 constructor
 ·rintro⟨⟨j,v⟩,hp,rfl⟩
  exact((hR.opn j v).1 hp).1
 ·intro hi
  exact⟨(i,1),(hR.opn i 1).2 ⟨hi,rfl⟩,rfl⟩
theorem Z28 (hG:Good s boxes t) (hR:Gf8 s boxes m t) {is:Slot→Option Bool} {p:Slot→Bool} (h:∀ y∈t.l,is y.Slot=some (p y.Slot)):G05 m is=some (t.l.any fun y=>p y.Slot):=by
 have hp:=Q42 hG hR
 have h0:∀ q∈Gu.Hf m.on,is q.1=some (p q.1):=fun q hq=>h (Jd5 q) (hp.mem_iff.1 (Mm.2 ⟨q,hq,rfl⟩))
 unfold G05
 have h1:(Gu.Hf m.on).all (fun p=>(is p.1).isSome)=true:=List.all_eq_true.2 fun q hq=>by rw [h0 q hq]; rfl
 rw [h1,cond_true,← R9a hp]
 refine congrArg some ?_
 unfold onB
 rw [List.any_map,Bool.eq_iff_iff,List.any_eq_true,List.any_eq_true]
 exact⟨fun⟨q,hq,e⟩=>⟨q,hq,by rw [h0 q hq] at e; exact e⟩,fun⟨q,hq,e⟩=>⟨q,hq,by rw [h0 q hq]; exact e⟩⟩
theorem G3a {c half:Int} (x:Stowed) (l:List Stowed):Zi boxes (x::l) c half=Gd5 boxes c half 0 x+Zi boxes l c half:=by
 unfold Zi
 rw [List.foldl_cons,J80]
theorem Q24 {c half:Int} {a b:List Stowed} (h:a.Perm b):Zi boxes a c half=Zi boxes b c half:=by
 induction h with
 | nil=>rfl
 | cons x _ ih=>rw [G3a,G3a,ih]
 | swap x y l=>rw [G3a,G3a,G3a,G3a]; omega
 | trans _ _ h1 h2=>exact h1.trans h2
theorem R06 {c half:Int}:∀ l:List Stowed,0≤Zi boxes l c half∧Zi boxes l c half≤2896*(l.length:Int)
 | []=>⟨Int.le_refl _,by show (0:Int)≤_; simp⟩
 | x::l=>by
  have ih:=R06 (c:=c) (half:=half) l
  have h:=Q43 (boxes:=boxes) (column:=c) (half:=half) (n:=0) (x:=x)
  rw [G3a,Mb]
  omega
theorem R75 (b:Box):hgt b=H70 b:=by
 unfold hgt H70
 cases b.High <;> rfl
theorem Y3b {c half:Int} {x:Stowed} {b:Box} (h:Qj boxes x.Box=some b):Gd5 boxes c half 0 x=if x.Slot.G2=c∧(x.Slot.Half=half∨x.Slot.Half=0) then H70 b else 0:=by
 unfold Gd5
 rw [h]
 split
 ·exact Int.zero_add _
 ·rfl
theorem Y32 {c half:Int}:∀ es:List (Slot×Box),(∀ p∈es,Qj boxes p.2.ID=some p.2)→Hef c half es=Zi boxes (es.map Jd5) c half
 | [],_=>rfl
 | p::r,h=>by
  rw [List.map_cons,G3a,Y3b (x:=Jd5 p) (b:=p.2) (h p (by simp)),← Y32 r (fun q hq=>h q (List.mem_cons_of_mem _ hq)),Hef]
  congr 1
  show _=if p.1.G2=c∧(p.1.Half=half∨p.1.Half=0) then H70 p.2 else 0
  unfold R33
  by_cases hc:p.1.G2=c∧(p.1.Half=half∨p.1.Half=0)
  ·rw [if_pos hc,← R75]
   have:(decide (p.1.G2=c)&&(decide (p.1.Half=0)||decide (p.1.Half=half)))=true:=by
    simp only [Mh,Mq,Mi]
    exact⟨hc.1,hc.2.symm⟩
   rw [this]; rfl
  ·rw [if_neg hc]
   have:(decide (p.1.G2=c)&&(decide (p.1.Half=0)||decide (p.1.Half=half)))=false:=by
    rw [← Bool.not_eq_true]
    simp only [Mh,Mq,Mi]
    exact fun g=>hc ⟨g.1,g.2.symm⟩
   rw [this]; rfl
theorem Y31 (hG:Good s boxes t) (hR:Gf8 s boxes m t) (x:Slot) (b:Box) (half:Int):G2b m x b half=some ((if x.Half=half∨x.Half=0 then H70 b else 0)+Zi boxes t.l x.G2 half):=by
 have hp:=Q42 hG hR
 have e:Hef x.G2 half (Gu.Hf m.on)=Zi boxes t.l x.G2 half:=by
  rw [Y32 (boxes:=boxes) _ (fun p hp=>((hR.on p.1 p.2).1 hp).2)]
  exact Q24 hp
 have e2:(bif (decide (x.Half=0)||decide (x.Half=half)) then hgt b else 0)=(if x.Half=half∨x.Half=0 then H70 b else 0):=by
  by_cases hc:x.Half=half∨x.Half=0
  ·rw [if_pos hc,← R75]
   have:(decide (x.Half=0)||decide (x.Half=half))=true:=by
    simp only [Mq,Mi]; exact hc.symm
   rw [this]; rfl
  ·rw [if_neg hc]
   have:(decide (x.Half=0)||decide (x.Half=half))=false:=by
    rw [← Bool.not_eq_true]
    simp only [Mq,Mi]; exact fun g=>hc g.symm
   rw [this]; rfl
 have hb:=(R06 (boxes:=boxes) (c:=x.G2) (half:=half) t.l).2
 have hl:t.l.length≤8:=by have:=hG.num; have:=hG.few; omega
 unfold G2b
 rw [e,e2]
 have ht:H70 b≤2896:=by unfold H70; split <;> omega
 rw [M1 (show (if x.Half=half∨x.Half=0 then H70 b else 0)+Zi boxes t.l x.G2 half≤9223372036854775807 by split <;> omega),cond_true]
theorem Qf4 (hG:Good s boxes t) (hR:Gf8 s boxes m t) {i:Nat} {c:G2} (hc:s.Columns[i]? = some c):Yg m.ship (i:Int)=some (R4 s c):=by
 have hs:=G27 hG.ship
 have e:=H53 (s:=m.ship) (c:=c) (m:=i) (by rw [hR.cols]; exact hc) (fun x hx=>by rw [hR.covs] at hx; have:=hs.rows x hx; omega) (by rw [hR.covs]; have:=hs.covs; omega)
 unfold R4 at e ⊢
 rw [hR.covs] at e
 exact e
theorem R2a (hR:Gf8 s boxes m t) (k:Int):decide (0 < Gu.get m.open_ k 0)=decide (k∈t.o):=by
 by_cases h:k∈t.o
 ·rw [J11 m.open_ ((hR.opn k 1).2 ⟨h,rfl⟩),M1 h]; rfl
 ·rw [Y1c m.open_ (fun v hv=>h ((hR.opn k v).1 hv).1),M2 h]; rfl
theorem R79 (hG:Good s boxes t) (hR:Gf8 s boxes m t) {x:Slot} {i:Nat} {c:G2} (hx:x.G2=(i:Int)) (hc:s.Columns[i]? = some c):Wp (G59 m x) (fun r=>r=true ↔ Hc3 s t.o x):=by
 have h0:Hc3 s t.o x ↔ (0≤R4 s c∧(c.Deck=true ↔ R4 s c∈t.o)):=by
  constructor
  ·rintro⟨m',c',e1,e2,e3⟩
   have:m'=i:=by omega
   subst this
   rw [hc] at e2; cases e2
   exact e3
  ·exact fun e=>⟨i,c,hx,hc,e⟩
 unfold G59
 rw [hx]
 refine Gs (Qf4 hG hR hc) ?_
 by_cases hk:0≤R4 s c
 ·rw [M1 hk]
  simp only [cond_true,Bool.true_and]
  refine Gy (Gg (Gy (Ya rfl (show m.ship.Columns[i]? = some c by rw [hR.cols]; exact hc) (Gg (Gg ?_)))))
  rw [R2a hR,h0,beq_iff_eq,Bool.eq_iff_iff,Mi]
  exact⟨fun h=>⟨hk,h.symm⟩,fun h=>h.2.symm⟩
 ·rw [M2 hk]
  refine Gy (Gg (Gy (Gg (Gg (H42 fun hh=>hk (h0.1 hh).1)))))
end

def Hee (k:Int) (l:List Int):List Int:=l.filter (fun z=>decide (z < k))++k::l.filter (fun z=>decide (k < z))
def Hc0 (k:Int) (l:List Int):List Int:=l.filter (fun z=>decide (z≠k))
def Hed (y:Stowed) (l:List Stowed):List Stowed:=l.filter (fun z=>decide (z.Box < y.Box))++y::l.filter (fun z=>decide (y.Box < z.Box))
def H43 (k:Int) (l:List Stowed):List Stowed:=l.filter (fun z=>decide (z.Box≠k))
theorem G8f {k:Int} {l:List Int} {i:Int}:i∈Hc0 k l ↔ i∈l∧i≠k:=by unfold Hc0; rw [Mp,Mi]
theorem G71 {k:Int} {l:List Int} {i:Int}:i∈Hee k l ↔ i=k∨i∈l:=by
 unfold Hee
 rw [Mk,Mo,Mp,Mp,Mi,Mi]
 constructor
 ·rintro(h | h | h)
  ·exact .inr h.1
  ·exact .inl h
  ·exact .inr h.1
 ·rintro(h | h)
  ·exact .inr (.inl h)
  ·rcases Int.lt_trichotomy i k with g | g | g
   ·exact .inl ⟨h,g⟩
   ·exact .inr (.inl g)
   ·exact .inr (.inr ⟨h,g⟩)
theorem Hbe {k:Int} {l:List Int} (h:l.Pairwise (· < ·)):(Hee k l).Pairwise (· < ·):=by
 unfold Hee
 refine List.pairwise_append.2 ⟨h.filter _,List.pairwise_cons.2 ⟨fun a ha=>Kz (Mp.1 ha).2,h.filter _⟩,fun a ha b hb=>?_⟩
 have h1:=Kz (Mp.1 ha).2
 rcases Mo.1 hb with rfl | hb
 ·exact h1
 ·have h2:=Kz (Mp.1 hb).2
  omega
theorem J28 {k:Int} {l:List Int} (h:l.Pairwise (· < ·)):(Hc0 k l).Pairwise (· < ·):=h.filter _
theorem R8c {k:Int} {l:List Int} (h:l.Pairwise (· < ·)) (hk:k ∉ l):(Hee k l).length=l.length+1:=by
 have hp:(Hee k l).Perm (k::l):=(List.perm_ext_iff_of_nodup (G36 (Hbe h)) (List.nodup_cons.2 ⟨hk,G36 h⟩)).2 fun i=>by rw [G71,Mo]
 rw [hp.length_eq,Mb]
theorem R94 {k:Int} {l:List Int} (h:l.Pairwise (· < ·)) (hk:k ∉ l):Hc0 k (Hee k l)=l:=
 H54 (J28 (Hbe h)) h fun i=>by
  rw [G8f,G71]
  exact⟨fun g=>g.1.resolve_left g.2,fun g=>⟨.inr g,fun e=>hk (e ▸ g)⟩⟩
theorem Q97 {k:Int} {l:List Int} (h:l.Pairwise (· < ·)) (hk:k∈l):Hee k (Hc0 k l)=l:=
 H54 (Hbe (J28 h)) h fun i=>by
  rw [G71,G8f]
  constructor
  ·rintro(e | e)
   ·exact e ▸ hk
   ·exact e.1
  ·intro g
   by_cases e:i=k
   ·exact .inl e
   ·exact .inr ⟨g,e⟩
theorem Ya7 {k:Int} {l:List Int} (h:l.Pairwise (· < ·)) (hk:k∈l):(Hc0 k l).length+1=l.length:=by
 have:=R8c (k:=k) (J28 (k:=k) h) (fun g=>(G8f.1 g).2 rfl)
 rw [Q97 h hk] at this
 omega
theorem Q8e {k:Int} {l:List Stowed} {y:Stowed}:y∈H43 k l ↔ y∈l∧y.Box≠k:=by unfold H43; rw [Mp,Mi]
theorem Y8a {l:List Stowed} (hs:l.Pairwise (fun a b=>a.Box < b.Box)) {k:Int} (hk:k ∉ l.map (·.Box)):l=l.filter (fun z=>decide (z.Box < k))++l.filter (fun z=>decide (k < z.Box)):=by
 have e:l.filter (fun z=>decide (k < z.Box))=l.filter (fun z=>!decide (z.Box < k)):=List.filter_congr fun z hz=>by
  have:z.Box≠k:=fun e=>hk (Mm.2 ⟨z,hz,e⟩)
  by_cases h:z.Box < k
  ·rw [M1 h,M2 (by omega)]; rfl
  ·rw [M2 h,M1 (by omega)]; rfl
 refine J26 ?_ hs ?_
 ·rw [e]; exact(List.filter_append_perm _ _).symm
 ·refine List.pairwise_append.2 ⟨hs.filter _,hs.filter _,fun a ha b hb=>?_⟩
  have h1:=Kz (Mp.1 ha).2
  have h2:=Kz (Mp.1 hb).2
  omega
theorem H9e {l:List Stowed} (hs:l.Pairwise (fun a b=>a.Box < b.Box)) {y:Stowed} (hk:y.Box ∉ l.map (·.Box)):J67 l y (Hed y l):=by
 refine⟨_,_,Y8a hs hk,rfl,fun z hz=>Kz (Mp.1 hz).2,fun z hz=>?_⟩
 have:=Kz (Mp.1 (List.mem_of_mem_head? (Option.mem_def.2 hz))).2
 omega
theorem R8d {l q:List Stowed} {y:Stowed} (hs:l.Pairwise (fun a b=>a.Box < b.Box)) (hk:y.Box ∉ l.map (·.Box)) (h:J67 l y q):q=Hed y l:=
 J26 ((Gf4 h).trans (Gf4 (H9e hs hk)).symm) (H7a h hs hk) (H7a (H9e hs hk) hs hk)
theorem J4b {pre post:List Stowed} {y:Stowed} (hs:(pre++y::post).Pairwise (fun a b=>a.Box < b.Box)):H43 y.Box (pre++y::post)=pre++post:=by
 obtain⟨s1,s2,s3⟩:=List.pairwise_append.1 hs
 unfold H43
 rw [List.filter_append,List.filter_cons_of_neg (by simp)]
 congr 1
 ·refine List.filter_eq_self.2 fun z hz=>M1 ?_
  have:=s3 z hz y (List.mem_cons_self ..)
  omega
 ·refine List.filter_eq_self.2 fun z hz=>M1 ?_
  have:=(List.pairwise_cons.1 s2).1 z hz
  omega
theorem Ya6 {l:List Stowed} (hs:l.Pairwise (fun a b=>a.Box < b.Box)) {y:Stowed} (hk:y.Box ∉ l.map (·.Box)):H43 y.Box (Hed y l)=l:=by
 have h:=H9e hs hk
 obtain⟨pre,post,e1,e2,_⟩:=id h
 have:=H7a h hs hk
 rw [e2] at this ⊢
 rw [J4b this,e1]
theorem Y29 {l:List Stowed} (hs:l.Pairwise (fun a b=>a.Box < b.Box)) (k:Int):k ∉ (H43 k l).map (·.Box):=fun h=>by
 obtain⟨z,hz,e⟩:=Mm.1 h
 exact(Q8e.1 hz).2 e
theorem Ya2 {l:List Stowed} (hs:l.Pairwise (fun a b=>a.Box < b.Box)) {y:Stowed} (hy:y∈l):Hed y (H43 y.Box l)=l:=by
 have hd:(H43 y.Box l).Pairwise (fun a b=>a.Box < b.Box):=hs.filter _
 obtain⟨pre,post,rfl⟩:=List.append_of_mem hy
 rw [J4b hs] at hd ⊢
 have hn:y.Box ∉ (pre++post).map (·.Box):=by rw [← J4b hs]; exact Y29 hs _
 exact Y00 (l:=[]) (H9e hd hn) hs

def J50 (s:Gk) (t:St) (x:Move):Prop:=x.Box=0∧x.Slot=⟨0,0,0⟩∧0≤x.G8∧x.G8 < (s.Covers.length:Int)∧x.G8 ∉ t.o∧J62 s t.l x.G8
def J4f (s:Gk) (t:St) (x:Move):Prop:=x.Box=0∧x.Slot=⟨0,0,0⟩∧0≤x.G8∧x.G8 < (s.Covers.length:Int)∧x.G8∈t.o
def Jf6 (s:Gk) (t:St) (x:Move):Prop:=x.G8=0∧(⟨x.Box,x.Slot⟩:Stowed)∈t.l∧H75 t.l x.Slot=[]∧¬ Hf3 s t.o x.Slot
def Qca (s:Gk) (boxes:List Box) (t:St) (x:Move):Prop:=x.G8=0∧x.Box∈t.a∧∃ b,Qj boxes x.Box=some b∧G69 s x.Slot b.Size∧¬ Hc3 s t.o x.Slot∧¬ Qde t.l x.Slot∧H3f x.Slot (t.l.map (·.Slot))∧Qe7 s boxes (Hed ⟨x.Box,x.Slot⟩ t.l) x.Slot
def Can (s:Gk) (boxes:List Box) (t:St) (x:Move):Prop:=(x.Kind=1∧J50 s t x)∨(x.Kind=4∧J4f s t x)∨(x.Kind=2∧Jf6 s t x)∨(x.Kind=3∧Qca s boxes t x)
def nxt (t:St) (x:Move):St:=
 if x.Kind=1 then ⟨t.l,Hee x.G8 t.o,t.a⟩ else if x.Kind=4 then ⟨t.l,Hc0 x.G8 t.o,t.a⟩
 else if x.Kind=2 then ⟨H43 x.Box t.l,t.o,Hee x.Box t.a⟩ else ⟨Hed ⟨x.Box,x.Slot⟩ t.l,t.o,Hc0 x.Box t.a⟩
def G83 (x:Move):Int:=if x.Kind=2∨x.Kind=3 then 1 else 0
def opp (x:Move):Move:=⟨5 - x.Kind,x.Box,x.Slot,x.G8⟩
section
variable {s:Gk} {boxes:List Box} {t:St} {x:Move}
theorem Y9a (h:x.Kind=1):nxt t x=⟨t.l,Hee x.G8 t.o,t.a⟩:=by unfold nxt; rw [if_pos h]
theorem Y97 (h:x.Kind=4):nxt t x=⟨t.l,Hc0 x.G8 t.o,t.a⟩:=by unfold nxt; rw [if_neg (by omega),if_pos h]
theorem Y99 (h:x.Kind=2):nxt t x=⟨H43 x.Box t.l,t.o,Hee x.Box t.a⟩:=by unfold nxt; rw [if_neg (by omega),if_neg (by omega),if_pos h]
theorem Y98 (h:x.Kind=3):nxt t x=⟨Hed ⟨x.Box,x.Slot⟩ t.l,t.o,Hc0 x.Box t.a⟩:=by unfold nxt; rw [if_neg (by omega),if_neg (by omega),if_neg (by omega)]
theorem Y4c {l l':List Stowed} {k:Int} (h:J62 s l k) (hs:∀ y∈l',y∈l):J62 s l' k:=fun y hy=>h y (hs y hy)
theorem Can.step (hG:Good s boxes t) (h:Can s boxes t x):Good s boxes (nxt t x):=by
 have h9:=hG.right.sorted
 rcases h with ⟨hk,h1,h2,h3,h4,h5,h6⟩ | ⟨hk,h1,h2,h3,h4,h5⟩ | ⟨hk,h1,h2,h3,h4⟩ | ⟨hk,h1,h2,b,h3,h4,h5,h6,h7,h8⟩
 ·rw [Y9a hk]
  refine⟨hG.ship,hG.right,⟨fun k h0=>?_,Hbe hG.opn.sorted⟩,fun k h0=>?_,hG.box,hG.asc,hG.disj,hG.num,hG.few⟩
  ·rcases G71.1 h0 with rfl | h0
   ·exact⟨h3,h4⟩
   ·exact hG.opn.mem k h0
  ·rcases G71.1 h0 with rfl | h0
   ·exact h6
   ·exact hG.free k h0
 ·rw [Y97 hk]
  exact⟨hG.ship,hG.right,⟨fun k h0=>hG.opn.mem k (G8f.1 h0).1,J28 hG.opn.sorted⟩,fun k h0=>hG.free k (G8f.1 h0).1,hG.box,hG.asc,hG.disj,hG.num,hG.few⟩
 ·rw [Y99 hk]
  have a0:x.Box ∉ t.a:=fun h=>hG.disj _ h (Mm.2 ⟨_,h2,rfl⟩)
  obtain⟨pre,post,e⟩:=List.append_of_mem h2
  have hd:H43 x.Box t.l=pre++post:=by rw [e] at h9 ⊢; exact J4b h9
  have hr:Yz s boxes (H43 x.Box t.l):=by rw [hd]; exact Q85 (by rw [← e]; exact hG.right) (by rw [← e]; exact h3)
  have a1:∀ y∈H43 x.Box t.l,y∈t.l:=fun y hy=>(Q8e.1 hy).1
  refine⟨hG.ship,hr,hG.opn,fun k h0=>Y4c (hG.free k h0) a1,fun i hi=>?_,Hbe hG.asc,fun i hi hm=>?_,?_,hG.few⟩
  ·rcases G71.1 hi with rfl | hi
   ·obtain⟨b,g1,g2,_⟩:=hG.right.each _ h2
    exact⟨b,g1,Y20 g2⟩
   ·exact hG.box i hi
  ·rcases G71.1 hi with rfl | hi
   ·exact Y29 h9 _ hm
   ·obtain⟨z,hz,ez⟩:=Mm.1 hm
    exact hG.disj i hi (Mm.2 ⟨z,a1 z hz,ez⟩)
  ·have hn:=hG.num
   show (H43 x.Box t.l).length+(Hee x.Box t.a).length=_
   rw [R8c hG.asc a0,hd]
   rw [e] at hn
   simp only [Mf,Mb] at hn ⊢
   omega
 ·rw [Y98 hk]
  have a0:x.Box ∉ t.l.map (·.Box):=hG.disj _ h2
  have a2:=H9e h9 (y:=⟨x.Box,x.Slot⟩) a0
  have hp:=Gf4 a2
  have hr:=Y5f hG.right h3 h4 h6 h7 a2 a0 h8
  have a3:∀ y,y∈Hed ⟨x.Box,x.Slot⟩ t.l ↔ y=⟨x.Box,x.Slot⟩∨y∈t.l:=fun y=>by rw [hp.mem_iff,Mo]
  refine⟨hG.ship,hr,hG.opn,fun k h0 y hy m c hm hc hd he=>?_,fun i hi=>hG.box i (G8f.1 hi).1,J28 hG.asc,fun i hi hm=>?_,?_,hG.few⟩
  ·rcases (a3 y).1 hy with rfl | hy
   ·refine h5 ⟨m,c,hm,hc,?_,⟨fun _=>by rw [he]; exact h0,fun _=>hd⟩⟩
    have:=(hG.opn.mem k h0).1
    omega
   ·exact hG.free k h0 y hy m c hm hc hd he
  ·obtain⟨z,hz,ez⟩:=Mm.1 hm
   rcases (a3 z).1 hz with rfl | hz
   ·exact(G8f.1 hi).2 ez.symm
   ·exact hG.disj i (G8f.1 hi).1 (Mm.2 ⟨z,hz,ez⟩)
  ·have hn:=hG.num
   have:=Ya7 hG.asc h2
   show (Hed ⟨x.Box,x.Slot⟩ t.l).length+(Hc0 x.Box t.a).length=_
   rw [hp.length_eq,Mb]
   omega
theorem Can.back (hG:Good s boxes t) (h:Can s boxes t x):Can s boxes (nxt t x) (opp x)∧nxt (nxt t x) (opp x)=t:=by
 have h0:=hG.right.sorted
 rcases h with ⟨hk,h1,h2,h3,h4,h5,h6⟩ | ⟨hk,h1,h2,h3,h4,h5⟩ | ⟨hk,h1,h2,h3,h4⟩ | ⟨hk,h1,h2,b,h3,h4,h5,h6,h7,h8⟩
 ·rw [Y9a hk]
  have ho:(opp x).Kind=4:=by show 5 - x.Kind=4; omega
  refine⟨.inr (.inl ⟨ho,h1,h2,h3,h4,G71.2 (.inl rfl)⟩),?_⟩
  rw [Y97 ho]
  show (⟨t.l,Hc0 x.G8 (Hee x.G8 t.o),t.a⟩:St)=t
  rw [R94 hG.opn.sorted h5]
 ·rw [Y97 hk]
  have ho:(opp x).Kind=1:=by show 5 - x.Kind=1; omega
  refine⟨.inl ⟨ho,h1,h2,h3,h4,fun g=>(G8f.1 g).2 rfl,hG.free _ h5⟩,?_⟩
  rw [Y9a ho]
  show (⟨t.l,Hee x.G8 (Hc0 x.G8 t.o),t.a⟩:St)=t
  rw [Q97 hG.opn.sorted h5]
 ·rw [Y99 hk]
  have ho:(opp x).Kind=3:=by show 5 - x.Kind=3; omega
  have h9:x.Box ∉ t.a:=fun h=>hG.disj _ h (Mm.2 ⟨_,h2,rfl⟩)
  have a0:Hed ⟨x.Box,x.Slot⟩ (H43 x.Box t.l)=t.l:=Ya2 h0 h2
  obtain⟨b,g1,g2,g3⟩:=hG.right.each _ h2
  obtain⟨pre,post,e⟩:=List.append_of_mem h2
  have hd:H43 x.Box t.l=pre++post:=by rw [e] at h0 ⊢; exact J4b h0
  refine⟨.inr (.inr (.inr ⟨ho,h1,G71.2 (.inl rfl),b,g1,g2,R82 (boxes:=boxes) hG.free h2 h4,?_,?_,?_⟩)),?_⟩
  ·show ¬ Qde (H43 x.Box t.l) x.Slot
   rintro⟨y,hy,hm⟩
   have ha:=hG.right.apart
   rw [hd] at hy
   rw [e] at ha
   obtain⟨a1,a2,a3⟩:=List.pairwise_append.1 ha
   rcases Mk.1 hy with hy | hy
   ·exact a3 y hy _ (List.mem_cons_self ..) hm
   ·exact(List.pairwise_cons.1 a2).1 y hy (Hbc hm)
  ·show H3f x.Slot ((H43 x.Box t.l).map (·.Slot))
   rw [hd]
   exact Je4 (x:=⟨x.Box,x.Slot⟩) over_self (by rw [← e]; exact g3)
  ·show Qe7 s boxes (Hed ⟨x.Box,x.Slot⟩ (H43 x.Box t.l)) x.Slot
   rw [a0]
   exact fun m c _ hc=>hG.right.fits m c hc
  ·rw [Y98 ho]
   show (⟨Hed ⟨x.Box,x.Slot⟩ (H43 x.Box t.l),t.o,Hc0 x.Box (Hee x.Box t.a)⟩:St)=t
   rw [a0,R94 hG.asc h9]
 ·rw [Y98 hk]
  have ho:(opp x).Kind=2:=by show 5 - x.Kind=2; omega
  have h9:x.Box ∉ t.l.map (·.Box):=hG.disj _ h2
  have a4:=H9e h0 (y:=⟨x.Box,x.Slot⟩) h9
  refine⟨.inr (.inr (.inl ⟨ho,h1,(Gf4 a4).mem_iff.2 (List.mem_cons_self ..),Ydb hG.right h4 h6 a4,fun g=>h5 (Yd7 g)⟩)),?_⟩
  rw [Y99 ho]
  show (⟨H43 x.Box (Hed ⟨x.Box,x.Slot⟩ t.l),t.o,Hee x.Box (Hc0 x.Box t.a)⟩:St)=t
  rw [show H43 x.Box (Hed ⟨x.Box,x.Slot⟩ t.l)=t.l from Ya6 (y:=⟨x.Box,x.Slot⟩) h0 h9,Q97 hG.asc h2]
end

theorem Z6 {v:Option Bool} {P:Prop} {e:Int} {rest:List (Option Bool×Int)} {Q:Int→Prop} (hv:Wp v (fun r=>r=true ↔ P)) (h1:P→Wp (H22 rest) Q) (h2:¬ P→Q e):Wp (H22 ((v,e)::rest)) Q:=by
 obtain⟨r,rfl,hr⟩:=hv
 cases r with
 | true=>exact h1 (hr.1 rfl)
 | false=>exact⟨e,rfl,h2 (fun hp=>by have:=hr.2 hp; cases this)⟩
theorem Hd0 {Q:Int→Prop} (h:Q 0):Wp (H22 []) Q:=⟨0,rfl,h⟩
def Ra4 (s:Gk) (boxes:List Box) (m:Gb) (t:St) (x:Move) (r:Int×Gb):Prop:=
 (Can s boxes t x∧r.1=0∧Gf8 s boxes r.2 (nxt t x)∧r.2.lifts=m.lifts+G83 x)∨(¬ Can s boxes t x∧r.1≠0∧r.2=m)
section
variable {s:Gk} {boxes:List Box} {m:Gb} {t:St} {x:Move}
open Classical in
theorem Qa8 (hG:Good s boxes t) (hR:Gf8 s boxes m t) {is:Slot→Option Bool} {P:Slot→Prop} (h:∀ y∈t.l,Wp (is y.Slot) (fun r=>r=true ↔ P y.Slot)):Wp (G05 m is) (fun r=>r=true ↔ ∃ y∈t.l,P y.Slot):=by
 refine⟨_,Z28 hG hR (p:=fun y=>decide (P y)) (fun y hy=>Y82 (h y hy)),?_⟩
 show (t.l.any _=true) ↔ _
 rw [List.any_eq_true]
 exact⟨fun⟨y,hy,e⟩=>⟨y,hy,Kz e⟩,fun⟨y,hy,e⟩=>⟨y,hy,M1 e⟩⟩
theorem R3c {s:Gk} {z:Int} {i j:Nat} {c d:G2} (h1:z=(i:Int)) (h2:z=(j:Int)) (hc:s.Columns[i]? = some c) (hd:s.Columns[j]? = some d):d=c:=by
 have:j=i:=by omega
 subst this
 rw [hc] at hd
 cases hd; rfl
theorem Qe9 (hG:Good s boxes t) (hR:Gf8 s boxes m t) (b:Bool) (y:Move):Wp (G10 b m y) (fun r=>r=true ↔ (b=true→J62 s t.l y.G8)):=by
 unfold G10
 cases b with
 | false=>exact Gy (Gg (Gg ⟨fun _ h=>(by cases h),fun _=>rfl⟩))
 | true=>
  simp only [Bool.not_true,Bool.not_false,cond_true]
  refine Gy (wp_mono (Qa8 hG hR (P:=fun z=>∃ (i:Nat) (c:G2),z.G2=(i:Int)∧s.Columns[i]? = some c∧c.Deck=true∧R4 s c=y.G8) (fun z hz=>?_)) (fun r hr=>Gg ?_))
  ·obtain⟨i,c,hi,hc⟩:=hG.sta.colIn hz
   have h0:(∃ (i:Nat) (c:G2),z.Slot.G2=(i:Int)∧s.Columns[i]? = some c∧c.Deck=true∧R4 s c=y.G8) ↔ (c.Deck=true∧R4 s c=y.G8):=by
    constructor
    ·rintro⟨j,d,h1,h2,h3⟩
     have:=R3c hi h1 hc h2
     subst this
     exact h3
    ·exact fun h=>⟨i,c,hi,hc,h⟩
   unfold G1a
   rw [hi] at h0 ⊢
   refine Ya rfl (show m.ship.Columns[i]? = some c by rw [hR.cols]; exact hc) ?_
   rw [h0]
   cases hd:c.Deck with
   | false=>exact Gy (Gg (Gg ⟨fun h=>(by cases h),fun h=>(by cases h.1)⟩))
   | true=>exact Gs (Qf4 hG hR hc) (Gg ⟨fun h=>⟨rfl,Kz h⟩,fun h=>M1 h.2⟩)
  ·show ((false||!r)=true) ↔ _
   rw [Bool.false_or,Bool.not_eq_true',← Bool.not_eq_true,hr]
   constructor
   ·exact fun h _ z hz i c h1 h2 h3 h4=>h ⟨z,hz,i,c,h1,h2,h3,h4⟩
   ·rintro h ⟨z,hz,i,c,h1,h2,h3,h4⟩
    exact h trivial z hz i c h1 h2 h3 h4
theorem Q94 (hR:Gf8 s boxes m t):Wp (Z5 ((((decide (x.Box=0))&&(decide (x.Slot=(Slot.mk 0 0 0))))&&(decide (0≤x.G8)))&&(decide (x.G8 < (m.ship.Covers.length:Int))))) (fun r=>r=true ↔ (x.Box=0∧x.Slot=⟨0,0,0⟩∧0≤x.G8∧x.G8 < (s.Covers.length:Int))):=by
 refine Gg ?_
 rw [hR.covs]
 simp only [Mh,Mi,and_assoc]
theorem Y09 (hG:Good s boxes t) (hR:Gf8 s boxes m t) (hk:x.Kind=1):Wp (G14 m x) (Ra4 s boxes m t x):=by
 have h4:Can s boxes t x ↔ J50 s t x:=by
  constructor
  ·rintro(h | h | h | h)
   ·exact h.2
   all_goals exact absurd h.1 (by omega)
  ·exact fun h=>.inl ⟨hk,h⟩
 unfold G14
 refine Gs rfl (Gs rfl (Gs rfl (Gy (wp_mono (Q':=fun r=>(r=0∧J50 s t x)∨(r≠0∧¬ J50 s t x)) ?_ (fun r8 h8=>?_)))))
 ·rw [R2a hR,M1 hk]
  refine Z6 (Q94 hR) (fun h1=>?_) (fun h1=>.inr ⟨by decide,fun h=>h1 ⟨h.1,h.2.1,h.2.2.1,h.2.2.2.1⟩⟩)
  refine Z6 (P:=x.G8 ∉ t.o) (Gg ?_) (fun h2=>?_) (fun h2=>.inr ⟨by decide,fun h=>h2 h.2.2.2.2.1⟩)
  ·simp
  refine Z6 (Qe9 hG hR true _) (fun h3=>Hd0 (.inl ⟨rfl,h1.1,h1.2.1,h1.2.2.1,h1.2.2.2,h2,h3 rfl⟩)) (fun h3=>.inr ⟨by decide,fun h=>h3 fun _=>h.2.2.2.2.2⟩)
 ·refine He (fun h=>Gg (.inr ?_)) (fun h=>?_)
  ·have h0:=Kz h
   rcases h8 with ⟨e,_⟩ | ⟨e,h8⟩
   ·exact(h0 e).elim
   ·exact⟨fun g=>h8 (h4.1 g),e,rfl⟩
  ·have h0:r8=0:=by have:=M0 h; omega
   have h8:J50 s t x:=h8.elim (·.2) (fun h=>(h.1 h0).elim)
   have hz:Gu.get m.open_ x.G8 0=0:=Y1c _ (fun v hv=>h8.2.2.2.2.1 ((hR.opn _ v).1 hv).1)
   refine G51 (fun j=>j=Gb.mk m.ship m.on m.quay (Gu.put m.open_ x.G8 1) m.lifts) (fun K hK=>He (fun _=>?_) (fun h=>absurd hk (M0 h))) (fun j hj=>Gg (.inl ⟨h4.2 h8,rfl,?_,?_⟩))
   ·refine Gs rfl (Qy (by rw [hz]; omega) (hK _ (by rw [hz]; rfl)))
   ·subst hj
    rw [Y9a hk]
    refine⟨hR.cols,hR.covs,hR.on,hR.quay,fun k v=>?_⟩
    show (k,v)∈Gu.Hf (Gu.put m.open_ x.G8 1) ↔ k∈Hee x.G8 t.o∧v=1
    rw [Q4e,G71,hR.opn]
    constructor
    ·rintro(h | h)
     ·exact⟨.inl h.1,h.2⟩
     ·exact⟨.inr h.2.1,h.2.2⟩
    ·rintro⟨h | h,e⟩
     ·exact .inl ⟨h,e⟩
     ·exact .inr ⟨fun e2=>h8.2.2.2.2.1 (e2 ▸ h),h,e⟩
   ·subst hj
    show m.lifts=m.lifts+G83 x
    unfold G83
    rw [if_neg (by omega)]; omega
theorem Y08 (hG:Good s boxes t) (hR:Gf8 s boxes m t) (hk:x.Kind=4):Wp (G14 m x) (Ra4 s boxes m t x):=by
 have h4:Can s boxes t x ↔ J4f s t x:=by
  constructor
  ·rintro(h | h | h | h)
   ·exact absurd h.1 (by omega)
   ·exact h.2
   all_goals exact absurd h.1 (by omega)
  ·exact fun h=>.inr (.inl ⟨hk,h⟩)
 unfold G14
 refine Gs rfl (Gs rfl (Gs rfl (Gy (wp_mono (Q':=fun r=>(r=0∧J4f s t x)∨(r≠0∧¬ J4f s t x)) ?_ (fun r8 h8=>?_)))))
 ·rw [R2a hR,M2 (show ¬ x.Kind=1 by omega)]
  refine Z6 (Q94 hR) (fun h1=>?_) (fun h1=>.inr ⟨by decide,fun h=>h1 ⟨h.1,h.2.1,h.2.2.1,h.2.2.2.1⟩⟩)
  refine Z6 (P:=x.G8∈t.o) (Gg ?_) (fun h2=>?_) (fun h2=>.inr ⟨by decide,fun h=>h2 h.2.2.2.2⟩)
  ·simp
  refine Z6 (Qe9 hG hR false _) (fun h3=>Hd0 (.inl ⟨rfl,h1.1,h1.2.1,h1.2.2.1,h1.2.2.2,h2⟩)) (fun h3=>(h3 (fun h=>by cases h)).elim)
 ·refine He (fun h=>Gg (.inr ?_)) (fun h=>?_)
  ·have h0:=Kz h
   rcases h8 with ⟨e,_⟩ | ⟨e,h8⟩
   ·exact(h0 e).elim
   ·exact⟨fun g=>h8 (h4.1 g),e,rfl⟩
  ·have h0:r8=0:=by have:=M0 h; omega
   have h8:J4f s t x:=h8.elim (·.2) (fun h=>(h.1 h0).elim)
   refine G51 (fun j=>j=Gb.mk m.ship m.on m.quay (Gu.del m.open_ x.G8) m.lifts) (fun K hK=>He (fun h=>absurd (Kz h) (by omega)) (fun _=>hK _ rfl)) (fun j hj=>Gg (.inl ⟨h4.2 h8,rfl,?_,?_⟩))
   ·subst hj
    rw [Y97 hk]
    refine⟨hR.cols,hR.covs,hR.on,hR.quay,fun k v=>?_⟩
    show (k,v)∈Gu.Hf (Gu.del m.open_ x.G8) ↔ k∈Hc0 x.G8 t.o∧v=1
    rw [Rb4,G8f,hR.opn]
    exact⟨fun h=>⟨⟨h.2.1,h.1⟩,h.2.2⟩,fun h=>⟨h.1.2,h.1.1,h.2⟩⟩
   ·subst hj
    show m.lifts=m.lifts+G83 x
    unfold G83
    rw [if_neg (by omega)]; omega
theorem Y8c (hG:Good s boxes t) (hR:Gf8 s boxes m t) {y z:Stowed} (hy:y∈t.l) (hz:z∈t.l) (e:y.Slot=z.Slot):y=z:=by
 obtain⟨b,hb,_⟩:=hG.right.each y hy
 obtain⟨d,hd,_⟩:=hG.right.each z hz
 have h1:=(hR.on y.Slot b).2 ⟨by rw [G68 hb]; exact hy,by rw [G68 hb]; exact hb⟩
 have h2:=(hR.on z.Slot d).2 ⟨by rw [G68 hd]; exact hz,by rw [G68 hd]; exact hd⟩
 rw [e] at h1
 have h3:b=d:=(J11 m.on (z:=default) h1).symm.trans (J11 m.on (z:=default) h2)
 exact Jb6 hG.right.sorted hy hz (by rw [← G68 hb,← G68 hd,h3])
theorem Y94 (hG:Good s boxes t) (hR:Gf8 s boxes m t) (hk:x.Kind=2) (hl:0≤m.lifts∧m.lifts≤1000000):Wp (Gcb m x) (Ra4 s boxes m t x):=by
 have h6:Can s boxes t x ↔ Jf6 s t x:=by
  constructor
  ·rintro(h | h | h | h)
   ·exact absurd h.1 (by omega)
   ·exact absurd h.1 (by omega)
   ·exact h.2
   ·exact absurd h.1 (by omega)
  ·exact fun h=>.inr (.inr (.inl ⟨hk,h⟩))
 unfold Gcb
 have h8:((Gu.has m.on x.Slot)&&(decide ((Gu.get m.on x.Slot (Box.mk 0 ByteArray.empty 0 false 0 0 0 0 false)).ID=x.Box)))=true ↔ (⟨x.Box,x.Slot⟩:Stowed)∈t.l:=by
  rw [Mh,Y87,Mi]
  constructor
  ·rintro⟨⟨b,hb⟩,h⟩
   rw [J11 m.on hb] at h
   rw [← h]
   exact((hR.on _ b).1 hb).1
  ·intro h
   obtain⟨b,hb,_⟩:=hG.right.each _ h
   have h5:Qj boxes x.Box=some b:=hb
   have h1:=(hR.on x.Slot b).2 ⟨by rw [G68 h5]; exact h,by rw [G68 h5]; exact h5⟩
   exact⟨⟨b,h1⟩,by rw [J11 m.on h1]; exact G68 h5⟩
 refine Gs rfl (Gs rfl (Gs rfl (Gy (wp_mono (Q':=fun r=>(r=0∧Jf6 s t x)∨(r≠0∧¬ Jf6 s t x)) ?_ (fun r7 h7=>?_)))))
 ·refine Z6 (P:=x.G8=0) (Gg (by rw [Mi])) (fun h1=>?_) (fun h1=>.inr ⟨by decide,fun h=>h1 h.1⟩)
  refine Z6 (Gg h8) (fun h2=>?_) (fun h2=>.inr ⟨by decide,fun h=>h2 h.2.1⟩)
  refine Z6 (P:=H75 t.l x.Slot=[]) ?_ (fun h3=>?_) (fun h3=>.inr ⟨by decide,fun h=>h3 h.2.2.1⟩)
  ·unfold G74
   refine Gy (wp_mono (Qa8 hG hR (P:=fun z=>Ha3 z x.Slot) (fun y hy=>?_)) (fun r hr=>Gg ?_))
   ·unfold G43
    exact Gy (wp_mono (Qf3 _ _) (fun r hr=>Gg hr))
   ·rw [Bool.not_eq_true',← Bool.not_eq_true,hr]
    constructor
    ·intro h
     refine List.eq_nil_iff_forall_not_mem.2 fun a ha=>?_
     obtain⟨z,hz,_,ho⟩:=Hbb.1 ha
     exact h ⟨z,hz,ho⟩
    ·rintro h ⟨z,hz,ho⟩
     have:=Hbb.2 ⟨z,hz,rfl,ho⟩
     rw [h] at this; cases this
  refine Z6 (P:=¬ Hf3 s t.o x.Slot) ?_ (fun h4=>Hd0 (.inl ⟨rfl,h1,h2,h3,h4⟩)) (fun h4=>.inr ⟨by decide,fun h=>h4 h.2.2.2⟩)
  obtain⟨i,c,hi,hc⟩:=hG.sta.colIn h2
  have hi:x.Slot.G2=(i:Int):=hi
  have h9:Hf3 s t.o x.Slot ↔ (c.Deck=false∧0≤R4 s c∧R4 s c ∉ t.o):=by
   constructor
   ·rintro⟨j,d,e1,e2,e3⟩
    have:=R3c hi e1 hc e2
    subst this
    exact e3
   ·exact fun e=>⟨i,c,hi,hc,e⟩
  have a0:Hc3 s t.o x.Slot ↔ (0≤R4 s c∧(c.Deck=true ↔ R4 s c∈t.o)):=by
   constructor
   ·rintro⟨j,d,e1,e2,e3⟩
    have:=R3c hi e1 hc e2
    subst this
    exact e3
   ·exact fun e=>⟨i,c,hi,hc,e⟩
  unfold G73
  show Wp (Z3 m.ship.Columns x.Slot.G2 _) _
  refine Ya hi (show m.ship.Columns[i]? = some c by rw [hR.cols]; exact hc) ?_
  rw [h9]
  cases hd:c.Deck with
  | true=>exact Gy (Gg (Gg ⟨fun _ h=>(by cases h.1),fun _=>rfl⟩))
  | false=>
   refine Gy (wp_mono (R79 hG hR hi hc) (fun r hr=>Gg ?_))
   show ((false||!r)=true) ↔ _
   rw [Bool.false_or,Bool.not_eq_true',← Bool.not_eq_true,hr,a0,hd]
   refine not_congr ⟨fun h=>⟨rfl,h.1,fun g=>by cases h.2.2 g⟩,fun h=>⟨h.2.1,⟨fun g=>(by cases g),fun g=>(h.2.2 g).elim⟩⟩⟩
 ·refine He (fun h=>Gg (.inr ?_)) (fun h=>?_)
  ·have h0:=Kz h
   rcases h7 with ⟨e,_⟩ | ⟨e,h7⟩
   ·exact(h0 e).elim
   ·exact⟨fun g=>h7 (h6.1 g),e,rfl⟩
  ·have h0:r7=0:=by have:=M0 h; omega
   have h7:Jf6 s t x:=h7.elim (·.2) (fun h=>(h.1 h0).elim)
   refine Qy (by omega) (Gg (.inl ⟨h6.2 h7,rfl,?_,?_⟩))
   ·obtain⟨h1,h2,h3,h4⟩:=h7
    obtain⟨b,hb,_⟩:=hG.right.each _ h2
    have hb:Qj boxes x.Box=some b:=hb
    have hid:=G68 hb
    have a1:=(hR.on x.Slot b).2 ⟨by rw [hid]; exact h2,by rw [hid]; exact hb⟩
    rw [Y99 hk,J11 m.on a1]
    refine⟨hR.cols,hR.covs,fun y d=>?_,fun i d=>?_,hR.opn⟩
    ·show (y,d)∈Gu.Hf (Gu.del m.on x.Slot) ↔ (⟨d.ID,y⟩:Stowed)∈H43 x.Box t.l∧Qj boxes d.ID=some d
     rw [Rb4,Q8e,hR.on]
     constructor
     ·rintro⟨g1,g2,g3⟩
      refine⟨⟨g2,fun e=>g1 ?_⟩,g3⟩
      exact congrArg Stowed.Slot (Jb6 hG.right.sorted g2 h2 e)
     ·rintro⟨⟨g1,g2⟩,g3⟩
      refine⟨fun e=>g2 ?_,g1,g3⟩
      exact congrArg Stowed.Box (Y8c hG hR g1 h2 e)
    ·show (i,d)∈Gu.Hf (Gu.put m.quay b.ID b) ↔ i∈Hee x.Box t.a∧Qj boxes i=some d
     rw [Q4e,G71,hR.quay,hid]
     constructor
     ·rintro(⟨rfl,rfl⟩ | ⟨g1,g2,g3⟩)
      ·exact⟨.inl rfl,hb⟩
      ·exact⟨.inr g2,g3⟩
     ·rintro⟨g | g,g3⟩
      ·subst g
       exact .inl ⟨rfl,by rw [hb] at g3; cases g3; rfl⟩
      ·exact .inr ⟨fun e=>hG.disj i g (Mm.2 ⟨_,h2,e.symm⟩),g,g3⟩
   ·show m.lifts+1=m.lifts+G83 x
    unfold G83
    rw [if_pos (.inl hk)]
end
end Go.Proofs.YtidpfkmbfgihlaaGreat
