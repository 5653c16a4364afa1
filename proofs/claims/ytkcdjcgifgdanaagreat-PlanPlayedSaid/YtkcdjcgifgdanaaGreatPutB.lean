/-
 States with a box more or less are right.
-/
import Derived.Test.YtkcdjcgifgdanaaGreatPutN
set_option linter.unusedSimpArgs false
set_option linter.unnecessarySimpa false
set_option maxRecDepth 100000
set_option linter.unusedVariables false
namespace Go.Proofs.YtkcdjcgifgdanaaGreat
open Go.RowKit
theorem J1c {a b:Int} (h:G9e a b):G9e b a:=by
 unfold G9e at h ⊢
 omega
theorem Hfe {a b:Slot} (h:Gff a b):Gff b a:=⟨h.1.symm,h.2.1.symm,J1c h.2.2⟩
theorem Gdc {l q:List Stowed} {x:Stowed} (h:H9f l x q):q.Perm (x::l):=by
 obtain⟨pre,post,rfl,rfl,_⟩:=h
 exact List.perm_middle
theorem Hb2 {l q:List Stowed} {x:Stowed} (h:H9f l x q) (hs:l.Pairwise (fun a b=>a.Gd < b.Gd)) (hx:x.Gd ∉ l.map (·.Gd)):q.Pairwise (fun a b=>a.Gd < b.Gd):=by
 obtain⟨pre,post,rfl,rfl,h1,h2⟩:=h
 obtain⟨s1,s2,s3⟩:=List.pairwise_append.1 hs
 refine List.pairwise_append.2 ⟨s1,List.pairwise_cons.2 ⟨fun y hy=>?_,s2⟩,fun a ha b hb=>?_⟩
 ·have hne:x.Gd≠y.Gd:=fun e=>hx (List.mem_map.2 ⟨y,List.mem_append.2 (.inr hy),e.symm⟩)
  cases post with
  | nil=>cases hy
  | cons z r=>
   have h3:=h2 z rfl
   rcases List.mem_cons.1 hy with rfl | hy
   ·omega
   ·have:=(List.pairwise_cons.1 s2).1 y hy
    omega
 ·rcases List.mem_cons.1 hb with rfl | hb
  ·exact h1 a ha
  ·exact s3 a ha b hb
theorem H62 {a b:List Stowed} (hp:a.Perm b) (ha:a.Pairwise (fun x y=>x.Gd < y.Gd)) (hb:b.Pairwise (fun x y=>x.Gd < y.Gd)):a=b:=
 List.Perm.eq_of_pairwise (le:=fun x y:Stowed=>x.Gd < y.Gd) (fun x y _ _ h1 h2=>by omega) ha hb hp
theorem held_mono {l q:List Slot} {x:Slot} (h:H03 x l) (hs:∀ y∈l,y∈q):H03 x q:=by
 rcases h with h | h | ⟨h0,h1,h2⟩
 ·exact .inl h
 ·exact .inr (.inl (hs _ h))
 ·exact .inr (.inr ⟨h0,hs _ h1,hs _ h2⟩)
theorem right_ins {s:Gw} {boxes:List Gd} {l q:List Stowed} {x:Stowed} {b:Gd} (h:R1 s boxes l) (hb:G0c boxes x.Gd=some b) (hslot:G38 s x.Slot b.Size) (hmet:¬ MetP l x.Slot) (hheld:H03 x.Slot (l.map (·.Slot))) (hins:H9f l x q) (hx:x.Gd ∉ l.map (·.Gd)) (hfit:FitC s boxes q x.Slot):R1 s boxes q:=by
 have hp:=Gdc hins
 have hmem:∀ y,y∈q ↔ y=x∨y∈l:=fun y=>by rw [hp.mem_iff,List.mem_cons]
 have hsl:∀ y∈l.map (·.Slot),y∈q.map (·.Slot):=fun y hy=>by
  obtain⟨z,hz,e⟩:=List.mem_map.1 hy
  exact List.mem_map.2 ⟨z,(hmem z).2 (.inr hz),e⟩
 refine⟨fun y hy=>?_,Hb2 hins h.sorted hx,?_,fun m c hc=>?_⟩
 ·rcases (hmem y).1 hy with rfl | hy
  ·exact⟨b,hb,hslot,held_mono hheld hsl⟩
  ·obtain⟨b',h1,h2,h3⟩:=h.each y hy
   exact⟨b',h1,h2,held_mono h3 hsl⟩
 ·have ha:=h.apart
  obtain⟨pre,post,rfl,rfl,_⟩:=hins
  obtain⟨s1,s2,s3⟩:=List.pairwise_append.1 ha
  refine List.pairwise_append.2 ⟨s1,List.pairwise_cons.2 ⟨fun y hy hm=>hmet ⟨y,List.mem_append.2 (.inr hy),Hfe hm⟩,s2⟩,fun a ha b hb=>?_⟩
  rcases List.mem_cons.1 hb with rfl | hb
  ·exact fun hm=>hmet ⟨a,List.mem_append.2 (.inl ha),hm⟩
  ·exact s3 a ha b hb
 ·by_cases he:x.Slot.G4=(m:Int)
  ·exact hfit m c he hc
  ·have:=h.fits m c hc
   obtain⟨pre,post,rfl,rfl,_⟩:=hins
   unfold H76 at this ⊢
   rw [H35,H35,J8f he,J8f he,Int.add_zero,Int.add_zero]
   exact this
/-- What stands in a column stands upon something, down to the lowest tier. -/
theorem chain {s:Gw} {boxes:List Gd} {l:List Stowed} (h:R1 s boxes l) {t:Int} (h0:0≤t):∀ (n:Nat) (z:Stowed),z∈l→z.Slot.Tier=t+(n:Int)+1 →
  (∃ w∈l,w.Slot=⟨z.Slot.G4,t,z.Slot.Half⟩)∨(z.Slot.Half=0∧(∃ w∈l,w.Slot=⟨z.Slot.G4,t,1⟩)∧∃ w∈l,w.Slot=⟨z.Slot.G4,t,2⟩):=by
 intro n
 induction n with
 | zero=>
  intro z hz ht
  obtain⟨_,_,_,hh⟩:=h.each z hz
  have e:z.Slot.Tier - 1=t:=by omega
  rcases hh with hh | hh | ⟨hz0,h1,h2⟩
  ·omega
  ·obtain⟨w,hw,ew⟩:=G19 hh
   rw [e] at ew
   exact .inl ⟨w,hw,ew⟩
  ·obtain⟨w,hw,ew⟩:=G19 h1
   obtain⟨v,hv,ev⟩:=G19 h2
   rw [e] at ew ev
   exact .inr ⟨hz0,⟨w,hw,ew⟩,⟨v,hv,ev⟩⟩
 | succ n ih=>
  intro z hz ht
  obtain⟨_,_,_,hh⟩:=h.each z hz
  have one:∀ w∈l,∀ half,w.Slot=⟨z.Slot.G4,z.Slot.Tier - 1,half⟩→half≠0→∃ v∈l,v.Slot=⟨z.Slot.G4,t,half⟩:=fun w hw half ew hne=>by
   have:=ih w hw (by rw [ew]; simp only; omega)
   rw [ew] at this
   rcases this with h | ⟨h,_⟩
   ·exact h
   ·exact(hne h).elim
  rcases hh with hh | hh | ⟨hz0,h1,h2⟩
  ·omega
  ·obtain⟨w,hw,ew⟩:=G19 hh
   have:=ih w hw (by rw [ew]; simp only; omega)
   rw [ew] at this
   exact this
  ·obtain⟨w,hw,ew⟩:=G19 h1
   obtain⟨v,hv,ev⟩:=G19 h2
   exact .inr ⟨hz0,one w hw 1 ew (by decide),one v hv 2 ev (by decide)⟩
theorem size_of {s:Gw} {x:Slot} {size:Int} (h:G38 s x size):size=20∨size=40:=by
 have:=h.half
 unfold Gfa at this
 split at this
 ·exact .inr (by assumption)
 ·split at this
  ·exact .inl (by assumption)
  ·cases this
end Go.Proofs.YtkcdjcgifgdanaaGreat
