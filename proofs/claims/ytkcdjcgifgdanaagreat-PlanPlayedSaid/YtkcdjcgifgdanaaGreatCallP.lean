/-
 Between two states of a plan: what is lifted can be taken,and put.
-/
import Derived.Test.YtkcdjcgifgdanaaGreatPlanV
set_option linter.unusedSimpArgs false
set_option linter.unnecessarySimpa false
set_option maxRecDepth 100000
set_option linter.unusedVariables false
namespace Go.Proofs.YtkcdjcgifgdanaaGreat
open Go.RowKit

theorem J85 {boxes:List Gd} {m half:Int} (p:Stowed→Bool):∀ (l:List Stowed),G1e boxes (l.filter p) m half≤G1e boxes l m half:=by
 intro l
 induction l with
 | nil=>exact Int.le_refl _
 | cons x r ih=>
  unfold G1e at *
  have h0:=(J3f (boxes:=boxes) (column:=m) (half:=half) (n:=0) (x:=x)).1
  rw [List.foldl_cons,H36 r]
  rw [List.filter_cons]
  split
  ·rw [List.foldl_cons,H36 (r.filter p)]
   omega
  ·omega
theorem put_ok {s:Gw} {boxes:List Gd} {l:List Stowed} {o:List Int} {x:Stowed} {b:Gd} {r:List Stowed×Int} (h:Sta s boxes l) (hl:l.length≤9) (hb:G0c boxes x.Gd=some b) (hx:x.Gd ∉ l.map (·.Gd)) (hr:PutR s boxes l o x b.Size r) (h0:r.2=0) :
  G38 s x.Slot b.Size∧¬ H48 s o x.Slot∧H9f l x r.1∧Sta s boxes r.1:=by
 rcases hr with ⟨_,e⟩ | ⟨g0,⟨_,e⟩ | ⟨g1,⟨_,e⟩ | ⟨g2,⟨_,e⟩ | ⟨g3,q,hins,⟨_,e⟩ | ⟨g4,e⟩⟩⟩⟩⟩
 ·rw [e] at h0; exact absurd h0 (by decide)
 ·rw [e] at h0; exact absurd h0 (by decide)
 ·rw [e] at h0; exact absurd h0 (by decide)
 ·rw [e] at h0; exact absurd h0 (by decide)
 ·rw [e] at h0; exact absurd h0 (by decide)
 ·rw [e]
  have hlen:q.length=l.length+1:=by
   have:=(Gdc hins).length_eq
   simpa using this
  exact⟨g0,g1,hins,h.ship,right_ins h.right hb g0 g2 g3 hins hx g4,by show q.length≤10; omega⟩
theorem G37 {l:List Stowed} (h:l.Pairwise (fun a b=>a.Gd < b.Gd)):l.Nodup:=h.imp (fun {a b} h e=>by subst e; omega)
/-- A part of a state, in order. -/
theorem sub_filter {l q:List Stowed} (hl:l.Pairwise (fun a b=>a.Gd < b.Gd)) (hq:q.Pairwise (fun a b=>a.Gd < b.Gd)) (hs:∀ y∈q,y∈l):q=l.filter (fun y=>decide (y∈q)):=by
 refine H62 ((List.perm_ext_iff_of_nodup (G37 hq) ((G37 hl).sublist List.filter_sublist)).2 fun y=>?_) hq (hl.sublist List.filter_sublist)
 rw [List.mem_filter,decide_eq_true_eq]
 exact⟨fun h=>⟨hs y h,h⟩,fun h=>h.2⟩
theorem J6f {boxes:List Gd} {m half:Int} {l q:List Stowed} (hl:l.Pairwise (fun a b=>a.Gd < b.Gd)) (hq:q.Pairwise (fun a b=>a.Gd < b.Gd)) (hs:∀ y∈q,y∈l):G1e boxes q m half≤G1e boxes l m half:=by
 rw [sub_filter hl hq hs]
 exact J85 _ l
theorem pair_apart {l:List Stowed} (h:l.Pairwise (fun a b=>¬ Gff b.Slot a.Slot)) {x y:Stowed} (hx:x∈l) (hy:y∈l) (hne:x≠y):¬ Gff x.Slot y.Slot:=by
 induction l with
 | nil=>cases hx
 | cons z r ih=>
  obtain⟨h1,h2⟩:=List.pairwise_cons.1 h
  rcases List.mem_cons.1 hx with e1 | hx2 <;> rcases List.mem_cons.1 hy with e2 | hy2
  ·exact(hne (e1.trans e2.symm)).elim
  ·subst e1; exact fun hm=>h1 y hy2 (Hfe hm)
  ·subst e2; exact h1 x hx2
  ·exact ih h2 hx2 hy2
/-- What is known of a call. -/
structure Zx (s:Gw) (boxes:List Gd) (before after:List Stowed) (set:List Int):Prop where
 ship:LimOk s
 bef:R1 s boxes before
 aft:R1 s boxes after
 lb:before.length≤9
 la:after.length≤9
 least:H75 s before after set
section
variable {s:Gw} {boxes:List Gd} {before after l:List Stowed} {set:List Int}
theorem G58 (hs:l.Pairwise (fun a b=>a.Gd < b.Gd)) {x:Stowed} (hx:x∈l):R0 l x.Gd=(x.Slot,true):=by
 have h1:(R0 l x.Gd).2=true:=Hb4.2 (List.mem_map.2 ⟨x,hx,rfl⟩)
 obtain⟨y,hy,e1,e2⟩:=H15 h1
 have:=H89 hs hy hx e1
 subst this
 exact Prod.ext e2 h1
theorem Zx.swap (h:Zx s boxes before after set) (hl:H75 s after before set):Zx s boxes after before set:=⟨h.ship,h.aft,h.bef,h.la,h.lb,hl⟩
/-- What is not lifted stays where it is. -/
theorem Zx.stays (h:Zx s boxes before after set) {x:Stowed} (hx:x∈before) (hn:x.Gd ∉ set):x∈after:=by
 have he:R0 before x.Gd=R0 after x.Gd:=Classical.byContradiction fun e=>hn (h.least.seeds before (by simp) x hx e)
 rw [G58 h.bef.sorted hx] at he
 obtain⟨y,hy,e1,e2⟩:=H15 (l:=after) (id:=x.Gd) (by rw [← he])
 rw [← he] at e2
 have:y=x:=by
  cases y; cases x
  simp only at e1 e2
  subst e1 e2
  rfl
 exact this ▸ hy
theorem Zx.stays2 (h:Zx s boxes before after set) {x:Stowed} (hx:x∈after) (hn:x.Gd ∉ set):x∈before:=by
 have he:R0 before x.Gd=R0 after x.Gd:=Classical.byContradiction fun e=>hn (h.least.seeds after (by simp) x hx e)
 rw [G58 h.aft.sorted hx] at he
 obtain⟨y,hy,e1,e2⟩:=H15 (l:=before) (id:=x.Gd) (by rw [he])
 rw [he] at e2
 have:y=x:=by
  cases y; cases x
  simp only at e1 e2
  subst e1 e2
  rfl
 exact this ▸ hy
theorem Zx.over (h:Zx s boxes before after set) {x y:Stowed} (hx:x∈before) (hy:y∈before) (hm:x.Gd∈set) (ho:G8d y.Slot x.Slot):y.Gd∈set:=
 h.least.closed x.Gd hm y.Gd ⟨before,by simp,by rw [G58 h.bef.sorted hx],.inl ⟨y,hy,rfl,by rw [G58 h.bef.sorted hx]; exact ho⟩⟩
/-- What stands upon a cover under which a lifted box is, or will be, is lifted. -/
theorem Zx.upon (h:Zx s boxes before after set) {x y:Stowed} (hx:x∈before∨x∈after) (hy:y∈before∨y∈after) (hm:x.Gd∈set) (ho:upon s x.Slot y.Slot):y.Gd∈set:=by
 have hy2:∃ st2∈[before,after],y∈st2:=by
  rcases hy with hy | hy
  ·exact⟨before,by simp,hy⟩
  ·exact⟨after,by simp,hy⟩
 obtain⟨st2,h2,hy2⟩:=hy2
 rcases hx with hx | hx
 ·exact h.least.closed x.Gd hm y.Gd ⟨before,by simp,by rw [G58 h.bef.sorted hx],.inr ⟨st2,h2,y,hy2,rfl,by rw [G58 h.bef.sorted hx]; exact ho⟩⟩
 ·exact h.least.closed x.Gd hm y.Gd ⟨after,by simp,by rw [G58 h.aft.sorted hx],.inr ⟨st2,h2,y,hy2,rfl,by rw [G58 h.aft.sorted hx]; exact ho⟩⟩
/-- A state on the way from the state before: some lifted boxes are taken. -/
structure H68 (s:Gw) (boxes:List Gd) (before:List Stowed) (set:List Int) (l:List Stowed):Prop where
 sta:Sta s boxes l
 sub:∀ x∈l,x∈before
 keep:∀ x∈before,x.Gd ∉ set→x∈l
/-- A state on the way to the state after: some lifted boxes are put. -/
structure J91 (s:Gw) (boxes:List Gd) (after:List Stowed) (set:List Int) (l:List Stowed):Prop where
 sta:Sta s boxes l
 sub:∀ x∈l,x∈after
 keep:∀ x∈after,x.Gd ∉ set→x∈l
theorem Zx.start (h:Zx s boxes before after set):H68 s boxes before set before:=⟨⟨h.ship,h.bef,by have:=h.lb; omega⟩,fun _ hx=>hx,fun _ hx _=>hx⟩
theorem H68.take (h:H68 s boxes before set l) {pre post:List Stowed} {x:Stowed} (e:l=pre++x::post) (hx:x.Gd∈set) (ho:G8c l x.Slot=[]):H68 s boxes before set (pre++post):=by
 subst e
 have hlen:(pre++x::post).length=(pre++post).length+1:=by simp only [List.length_append,List.length_cons]; omega
 refine⟨⟨h.sta.ship,J78 h.sta.right ho,by have:=h.sta.len; omega⟩,fun z hz=>h.sub z (J3e hz),fun z hz hn=>?_⟩
 have:=h.keep z hz hn
 simp only [List.mem_append,List.mem_cons] at this ⊢
 rcases this with hz | rfl | hz
 ·exact .inl hz
 ·exact(hn hx).elim
 ·exact .inr hz
/-- When all lifted boxes are taken. -/
theorem H68.turn (h:Zx s boxes before after set) (h1:H68 s boxes before set l) (hd:∀ x∈l,x.Gd ∉ set):J91 s boxes after set l:=
 ⟨h1.sta,fun x hx=>h.stays (h1.sub x hx) (hd x hx),fun x hx hn=>h1.keep x (h.stays2 hx hn) hn⟩
theorem J91.done (h:Zx s boxes before after set) (h2:J91 s boxes after set l) (hd:∀ x∈after,x.Gd∈set→x∈l):l=after:=by
 refine H62 ((List.perm_ext_iff_of_nodup (G37 h2.sta.right.sorted) (G37 h.aft.sorted)).2 fun y=>⟨h2.sub y,fun hy=>?_⟩) h2.sta.right.sorted h.aft.sorted
 by_cases hm:y.Gd∈set
 ·exact hd y hy hm
 ·exact h2.keep y hy hm
theorem J91.put {F:Nat} {o:List Int} (h:Zx s boxes before after set) (h2:J91 s boxes after set l) (hO:Zm s o) (hF:20≤F) {x:Stowed} (hx:x∈after) (hn:x ∉ l) (hns:¬ H48 s o x.Slot)
  (hbel:∀ z∈after,z.Slot.G4=x.Slot.G4→z.Slot.Tier < x.Slot.Tier→z∈l) :
  Wp (G6a F s boxes l o x) (fun r=>r.2=0∧H9f l x r.1∧J91 s boxes after set r.1):=by
 obtain⟨b,hb,hslot,hheld⟩:=h.aft.each x hx
 have hll:l.length≤8:=by
  have hnd:=G37 h2.sta.right.sorted
  have:=(List.nodup_cons.2 ⟨hn,hnd⟩).length_le_of_subset (l₂:=after) (fun y hy=>by
   rcases List.mem_cons.1 hy with rfl | hy
   ·exact hx
   ·exact h2.sub y hy)
  have:=h.la
  simp only [List.length_cons] at *
  omega
 have hxb:x.Gd ∉ l.map (·.Gd):=fun hm=>by
  obtain⟨y,hy,e⟩:=List.mem_map.1 hm
  have:=H89 h.aft.sorted (h2.sub y hy) hx e
  exact hn (this ▸ hy)
 refine wp_mono (put_spec h2.sta hO hF hb (size_of hslot) hxb) (fun r hr=>?_)
 have hmet:¬ MetP l x.Slot:=fun⟨y,hy,hm⟩=>by
  have hya:=h2.sub y hy
  have hne:x≠y:=fun e=>hn (e ▸ hy)
  exact absurd hm (pair_apart h.aft.apart hx hya hne)
 have hheld2:H03 x.Slot (l.map (·.Slot)):=by
  have key:∀ half,below (after.map (·.Slot)) x.Slot half→below (l.map (·.Slot)) x.Slot half:=fun half hbw=>by
   obtain⟨z,hz,e⟩:=G19 hbw
   exact List.mem_map.2 ⟨z,hbel z hz (by rw [e]) (by rw [e]; show x.Slot.Tier - 1 < x.Slot.Tier; omega),e⟩
  rcases hheld with g | g | ⟨g0,g1,g2⟩
  ·exact .inl g
  ·exact .inr (.inl (key _ g))
  ·exact .inr (.inr ⟨g0,key _ g1,key _ g2⟩)
 have h0:r.2=0:=by
  rcases hr with ⟨g,_⟩ | ⟨_,⟨g,_⟩ | ⟨_,⟨g,_⟩ | ⟨_,⟨g,_⟩ | ⟨_,q,hins,⟨g,_⟩ | ⟨_,e⟩⟩⟩⟩⟩
  ·exact(g hslot).elim
  ·exact(hns g).elim
  ·exact(hmet g).elim
  ·exact(g hheld2).elim
  ·refine(g fun m c e1 e2=>?_).elim
   have hq:=Hb2 hins h2.sta.right.sorted hxb
   have hsub:∀ y∈q,y∈after:=fun y hy=>by
    rcases List.mem_cons.1 ((Gdc hins).mem_iff.1 hy) with rfl | hy
    ·exact hx
    ·exact h2.sub y hy
   have:=h.aft.fits m c e2
   unfold H76 at this ⊢
   have a1:=J6f (boxes:=boxes) (m:=(m:Int)) (half:=1) h.aft.sorted hq hsub
   have a2:=J6f (boxes:=boxes) (m:=(m:Int)) (half:=2) h.aft.sorted hq hsub
   rcases this with h | ⟨h,h'⟩
   ·exact .inl h
   ·exact .inr ⟨by omega,by omega⟩
  ·rw [e]
 obtain⟨_,_,hins,hS⟩:=put_ok h2.sta (by omega) hb hxb hr h0
 have hmem:∀ y,y∈r.1 ↔ y=x∨y∈l:=fun y=>by rw [(Gdc hins).mem_iff,List.mem_cons]
 exact⟨h0,hins,hS,fun y hy=>by
  rcases (hmem y).1 hy with rfl | hy
  ·exact hx
  ·exact h2.sub y hy,fun y hy hny=>(hmem y).2 (.inr (h2.keep y hy hny))⟩
end
end Go.Proofs.YtkcdjcgifgdanaaGreat
