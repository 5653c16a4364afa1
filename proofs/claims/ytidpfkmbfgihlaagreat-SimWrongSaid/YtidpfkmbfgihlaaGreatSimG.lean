/-
 What the chapter's statements make: a ship,boxes,a state,and a simulator with the other boxes on the quay. SimWrong: what is no simulator,and what is no move.
-/
import Derived.Test.YtidpfkmbfgihlaaGreatSimE
set_option maxRecDepth 100000
set_option linter.unusedVariables false
namespace Go.Proofs.YtidpfkmbfgihlaaGreat
open Go.RowKit

theorem Yd5:Ym=some true:=by kernel_rfl
def Q83 (l:List Stowed) (b:Box):Bool:=!(l.any fun x=>decide (x.Box=b.ID))
def J9c (l:List Stowed) (boxes:List Box):List Int:=(boxes.filter (Q83 l)).map (·.ID)
theorem J39 {l:List Stowed} {b:Box}:Q83 l b=true ↔ b.ID ∉ l.map (·.Box):=by
 unfold Q83
 rw [Bool.not_eq_true',← Bool.not_eq_true,List.any_eq_true,List.mem_map]
 exact not_congr ⟨fun⟨x,hx,e⟩=>⟨x,hx,of_decide_eq_true e⟩,fun⟨x,hx,e⟩=>⟨x,hx,decide_eq_true e⟩⟩
theorem Y79 {s:Gk} {boxes:List Box} {l:List Stowed} (hB:J48 boxes) (hr:Yw s boxes l):l.length+(J9c l boxes).length=boxes.length:=by
 have h1:=(List.filter_append_perm (Q83 l) boxes).length_eq
 have hnd:(boxes.map (·.ID)).Nodup:=G33 (List.pairwise_map.2 hB.asc)
 have hp:(l.map (·.Box)).Perm ((boxes.filter (fun b=>!Q83 l b)).map (·.ID)):=by
  refine(List.perm_ext_iff_of_nodup (J19 hr.sorted) (hnd.sublist (List.filter_sublist.map _))).2 fun i=>?_
  rw [List.mem_map,List.mem_map]
  constructor
  ·rintro⟨x,hx,rfl⟩
   obtain⟨b,hb,_⟩:=hr.each x hx
   refine⟨b,List.mem_filter.2 ⟨Y20 hb,?_⟩,G4d hb⟩
   rw [Bool.not_eq_true',← Bool.not_eq_true,J39,G4d hb]
   exact fun h=>h (List.mem_map.2 ⟨x,hx,rfl⟩)
  ·rintro⟨b,hb,rfl⟩
   have h2:=(List.mem_filter.1 hb).2
   rw [Bool.not_eq_true',← Bool.not_eq_true,J39,Classical.not_not] at h2
   exact List.mem_map.1 h2
 have h2:=hp.length_eq
 rw [List.length_map,List.length_map] at h2
 unfold J9c
 rw [List.length_map]
 rw [List.length_append] at h1
 omega
theorem R71 {l:List Stowed} {boxes:List Box} (hB:J48 boxes):(J9c l boxes).Pairwise (· < ·):=List.pairwise_map.2 (hB.asc.filter _)
theorem R75 {l:List Stowed} {boxes:List Box} {i:Int}:i∈J9c l boxes ↔ ∃ b∈boxes,b.ID=i∧i ∉ l.map (·.Box):=by
 unfold J9c
 rw [List.mem_map]
 constructor
 ·rintro⟨b,hb,rfl⟩
  exact⟨b,(List.mem_filter.1 hb).1,rfl,J39.1 (List.mem_filter.1 hb).2⟩
 ·rintro⟨b,hb,rfl,h⟩
  exact⟨b,List.mem_filter.2 ⟨hb,J39.2 h⟩,rfl⟩
theorem Y4d (places:List Ha) (covers:Int) (drops:List Gu) (hp:∀ p∈places,Q3c p) (hd:∀ x∈drops,R3a x) :
  Wp (Qs places covers drops) (fun r=>J48 r.2.1∧∃ t:St,t.l=r.2.2.1∧t.o=[]∧Good r.1 r.2.1 t∧H78 r.1 r.2.1 r.2.2.2 t∧r.2.2.2.lifts=0):=by
 unfold Qs
 refine H5 (wp_mono (Rf7 places covers hp) (fun s hBu=>?_))
 have hL:=Y4f hBu
 have hs:=G2f hL
 refine H5 (wp_mono (R90 hs hd (most:=8) (by decide)) (fun r5 h5=>?_))
 obtain⟨g1,g2,g3⟩:=h5
 have hB:J48 r5.1:=by rw [g1]; exact Y5e (by rw [List.length_take]; omega)
 refine Y4 (fun pre st=>Yw s r5.1 st∧st.length≤pre.length) ⟨J70,Nat.le_refl _⟩ (fun pre y post st nx e hI hnx=>?_) (fun l hI=>?_)
 ·obtain⟨h1,h2⟩:=hI
  have hpl:pre.length < 8:=by have:=congrArg List.length e; simp only [List.length_append,List.length_cons] at this; omega
  refine Gbb (fun j=>Yw s r5.1 j∧j.length≤pre.length+1) (fun K hK=>?_) (fun j hj=>hnx _ ⟨hj.1,by rw [List.length_append,List.length_singleton]; exact hj.2⟩)
  refine Gx (R87 (by omega)) (Yy (G28 (by rw [List.length_singleton]; omega) (by omega)) (H5 (J06 (by decide) ?_)))
  by_cases hc:y.Box.tmod 10=0
  ·rw [decide_eq_true hc]
   refine H5 (wp_mono (G8b hs.right hs.tier (by simp only [List.length_append,List.length_singleton]; omega)) (fun v hv=>Hp (fun h=>hK _ ⟨hv.1 (by simpa using h),?_⟩) (fun h=>hK _ ⟨h1,by omega⟩)))
   simp only [List.length_append,List.length_singleton]; omega
  ·rw [decide_eq_false hc]
   exact H5 (Gj (hK _ ⟨h1,by omega⟩))
 ·obtain⟨h1,h2⟩:=hI
  have hll:l.length≤8:=by omega
  have hfew:=hB.few
  refine Y4 (fun pre (a:List Int)=>a=(pre.filter (Q83 l)).map (·.ID)) rfl (fun pre y post a nx e hI hnx=>?_) (fun a hI=>?_)
  ·have hpl:pre.length < 8:=by have:=congrArg List.length e; simp only [List.length_append,List.length_cons] at this; omega
   have hal:a.length≤pre.length:=by rw [hI,List.length_map]; exact List.length_filter_le _ _
   refine Gbb (fun j=>j=((pre++[y]).filter (Q83 l)).map (·.ID)) (fun K hK=>?_) (fun j hj=>hnx _ hj)
   refine Gx (Q1e (p:=fun x=>decide (x.Box=y.ID)) (fun x _=>rfl)) (Hp (fun h=>?_) (fun h=>hK _ ?_))
   ·refine Yy (G28 (by rw [List.length_singleton]; omega) (by omega)) (hK _ ?_)
    rw [hI,List.filter_append,List.map_append,List.filter_cons_of_pos (by exact h)]
    rfl
   ·rw [hI,List.filter_append,List.map_append,List.filter_cons_of_neg (by rw [Bool.not_eq_true]; exact h)]
    simp
  ·have ha:a=J9c l r5.1:=hI
   subst ha
   have hnum:=Y79 hB h1
   have hbox:∀ i∈J9c l r5.1,∃ b,Q6 r5.1 i=some b∧(b.Size=20∨b.Size=40):=fun i hi=>by
    obtain⟨b,hb,rfl,_⟩:=R75.1 hi
    exact⟨b,R81 hB.asc hb,hB.size b hb⟩
   have hdis:∀ i∈J9c l r5.1,i ∉ l.map (·.Box):=fun i hi=>by
    obtain⟨_,_,_,h⟩:=R75.1 hi
    exact h
   refine H5 (wp_mono (Rdb hL h1 (by omega) (by omega) hbox (R71 hB) hdis) (fun r70 h70=>Gj ⟨hB,⟨l,[],J9c l r5.1⟩,rfl,rfl,?_,h70.2.1,h70.2.2⟩))
   exact⟨hL,h1,Qf2,fun k hk=>(by cases hk),hbox,R71 hB,hdis,hnum,hB.few⟩
end Go.Proofs.YtidpfkmbfgihlaaGreat
set_option maxRecDepth 100000
set_option linter.unusedVariables false
namespace Go.Proofs.YtidpfkmbfgihlaaGreat
open Go.RowKit

theorem Y43 (l:List Stowed):Q3 l l=some true:=by
 refine G31 ?_
 unfold Q3
 refine Hp (fun h=>((of_decide_eq_true h) rfl).elim) (fun _=>?_)
 refine Y4 (fun _ _=>True) trivial (fun pre y post u nx e _ hnx=>?_) (fun u _=>Gj rfl)
 refine Yh (x:=y) rfl (by rw [e]; simp) (Hp (fun h=>?_) (fun _=>hnx _ trivial))
 rw [decide_eq_true (rfl:y=y)] at h
 cases h
def Y9b (s:Gk) (x:Move):Prop:=(x.Kind≠1∧x.Kind≠2∧x.Kind≠3∧x.Kind≠4)∨((x.Kind=1∨x.Kind=4)∧¬ (x.Box=0∧x.Slot=⟨0,0,0⟩∧0≤x.G8∧x.G8 < (s.Covers.length:Int)))∨((x.Kind=2∨x.Kind=3)∧x.G8≠0)
theorem Yce {s:Gk} {boxes:List Box} {m:Gb} {t:St} {x:Move} (hR:H78 s boxes m t) (h:Y9b s x):Zf m x=some (310,m):=by
 refine G31 ?_
 have hcov:(x.Kind=1∨x.Kind=4)→Wp (Yz m x) (·=(310,m)):=fun hk=>by
  have hx:¬ (x.Box=0∧x.Slot=⟨0,0,0⟩∧0≤x.G8∧x.G8 < (s.Covers.length:Int)):=by
   rcases h with h | h | h
   ·omega
   ·exact h.2
   ·omega
  unfold Yz
  refine Gx rfl (Gx rfl (Gx rfl (H5 (wp_mono (Q':=fun r=>r=310) (Y8 (J74 hR) (fun h1=>(hx h1).elim) (fun _=>rfl)) (fun r8 h8=>?_)))))
  subst h8
  exact Hp (fun _=>Gj rfl) (fun h=>by cases h)
 have hc:(x.Kind=2∨x.Kind=3)→x.G8≠0:=fun hk=>by
  rcases h with h | h | h
  ·omega
  ·omega
  ·exact h.2
 unfold Zf
 refine Gbb (fun j=>j=true ↔ (x.Kind=1∨x.Kind=4)) (fun K hK=>Hp (fun h=>hK _ ?_) (fun h=>hK _ ?_)) (fun j hj=>?_)
 ·rw [h]; exact⟨fun _=>.inl (of_decide_eq_true h),fun _=>rfl⟩
 ·rw [decide_eq_true_eq]
  exact⟨.inr,fun g=>g.resolve_left (of_decide_eq_false h)⟩
 refine Hp (fun h=>?_) (fun h=>Hp (fun h2=>?_) (fun h2=>Hp (fun h3=>?_) (fun h3=>Gj rfl)))
 ·exact H5 (wp_mono (hcov (hj.1 h)) (fun r hr=>Gj hr))
 ·have hx:=hc (.inl (of_decide_eq_true h2))
  refine H5 (wp_mono (Q':=(·=(310,m))) ?_ (fun r hr=>Gj hr))
  unfold G7d
  refine Gx rfl (Gx rfl (Gx rfl (H5 (wp_mono (Q':=fun r=>r=310) (Y8 (P:=x.G8=0) (Gj (by rw [decide_eq_true_eq])) (fun h1=>(hx h1).elim) (fun _=>rfl)) (fun r8 h8=>?_)))))
  subst h8
  exact Hp (fun _=>Gj rfl) (fun h=>by cases h)
 ·have hx:=hc (.inr (of_decide_eq_true h3))
  refine H5 (wp_mono (Q':=(·=(310,m))) ?_ (fun r hr=>Gj hr))
  unfold Gb1
  refine Gx rfl (Gx rfl (Gx rfl (H5 (wp_mono (Q':=fun r=>r=310) (Y8 (P:=x.G8=0) (Gj (by rw [decide_eq_true_eq])) (fun h1=>(hx h1).elim) (fun _=>rfl)) (fun r8 h8=>?_)))))
  subst h8
  exact Hp (fun _=>Gj rfl) (fun h=>by cases h)
theorem J92 {s:Gk} {boxes:List Box} {l:List Stowed} {a:List Int} (h:Rs s boxes l=some false):G1f s boxes l a=some 2:=by
 unfold G1f
 rw [h]; rfl
theorem Ha2 {s:Gk} {boxes:List Box} {l:List Stowed} {a:List Int} (hL:Q23 s) (hr:Rs s boxes l=some true) (hal:a.length≤1000)
  (hbad:∃ i∈a,∀ b,Q6 boxes i=some b→¬ (b.Size=20∨b.Size=40)):G1f s boxes l a=some 2:=by
 have hs:=G2f hL
 have hcl:=hL.covs.len
 have hcn:=hL.len
 refine G31 ?_
 unfold G1f
 refine Gx hr (Hp (fun h=>by cases h) (fun _=>?_))
 refine Gx (Jdb (by omega)) (Gx (R03 (by omega)) (J91 (fun x hx=>by have:=hs.rows x hx; omega) ?_))
 refine Y4 (fun _ _=>True) trivial (fun pre x post st nx e hI hnx=>Gx (Q78 boxes x.Box) (hnx _ trivial)) (fun st hI=>?_)
 refine Y4 (fun pre _=>∀ i∈pre,∃ b,Q6 boxes i=some b∧(b.Size=20∨b.Size=40)) (fun i hi=>by cases hi) (fun pre y post qt nx e hJ hnx=>?_) (fun qt hJ=>?_)
 ·refine Q72 (Q:=(·=2)) e (by have:=congrArg List.length e; simp only [List.length_append] at this; omega) (fun _=>⟨2,rfl,rfl⟩) (fun b hb hz=>hnx _ (fun i hi=>?_))
  rcases List.mem_append.1 hi with hi | hi
  ·exact hJ i hi
  ·rw [List.mem_singleton] at hi; subst hi
   exact⟨b,hb,hz⟩
 ·obtain⟨i,hi,hb⟩:=hbad
  obtain⟨b,h1,h2⟩:=hJ i hi
  exact(hb b h1 h2).elim
theorem Good.rightM {s:Gk} {boxes:List Box} {t:St} (h:Good s boxes t):Rs s boxes t.l=some true:=by
 have hs:=G2f h.ship
 have:=h.sta.len
 exact G31 (wp_mono (G8b hs.right hs.tier (by omega)) (fun r hr=>hr.2 h.right))
theorem Ja8 {boxes:List Box} (hB:J48 boxes) {i:Int} (hi:i < 5∨40 < i):Q6 boxes i=none:=by
 cases hq:Q6 boxes i with
 | none=>rfl
 | some b=>
  have h1:=G4d hq
  have h2:=hB.ids b (Y20 hq)
  omega
theorem R7b (places:List Ha) (covers:Int) (drops:List Gu) (way n:Int) (hp:∀ p∈places,Q3c p) (hd:∀ x∈drops,R3a x) (hw:Byte way) (hn:Byte n) :
  Zm places covers drops way n=some true:=by
 refine G31 ?_
 obtain⟨w1,w2⟩:=hw
 obtain⟨n1,n2⟩:=hn
 unfold Zm
 refine Gx Yd5 (Hp (fun h=>by cases h) (fun _=>?_))
 refine H5 (wp_mono (Y4d places covers drops hp hd) (fun r7 h7=>?_))
 obtain⟨hB,t,htl,hto,hG,hR,hlf⟩:=h7
 have hcl:=hG.ship.covs.len
 have hcn:=hG.ship.len
 have hfew:=hB.few
 have hnum:=hG.num
 refine H5 (J06 (by decide) ?_)
 refine Qy (by omega) (Qy (by omega) (Qy (by omega) (Qy (by omega) (Qy (by omega) (Qy (by omega) (Qy (by omega) (Qy (by omega) (Qy (by omega) ?_))))))))
 refine H5 (J06 (show ((8:Nat):Int)≠0 by decide) ?_)
 have hv:n.tmod 100=n % 100:=Int.tmod_eq_emod_of_nonneg n1
 have hw8:way.tmod 8=way % 8:=Int.tmod_eq_emod_of_nonneg w1
 have hw5:way.tmod 5=way % 5:=Int.tmod_eq_emod_of_nonneg w1
 have hwrap:IntKind.u8.wrap (5+n.tmod 100)=5+n % 100:=by
  rw [hv]
  have:0≤n % 100∧n % 100 < 100:=⟨Int.emod_nonneg _ (by decide),Int.emod_lt_of_pos _ (by decide)⟩
  show (5+n % 100) % 256=_
  exact Int.emod_eq_of_lt (by omega) (by omega)
 rw [hwrap]
 show Wp (Yv _ (way.tmod 8) _) _
 rw [hw8]
 have hk:∃ (q:Nat) (x:Move),way % 8=(q:Int)∧[(Move.mk 0 0 (Slot.mk 0 0 0) 0),(Move.mk (5+n % 100) 0 (Slot.mk 0 0 0) 0),(Move.mk 1 0 (Slot.mk 0 0 0) ((r7.1.Covers.length:Int)+n)),(Move.mk 4 0 (Slot.mk 0 0 0) ((-1) - n)),(Move.mk 1 (1+n) (Slot.mk 0 0 0) 0),(Move.mk 4 0 (Slot.mk 0 0 1) 0),(Move.mk 2 0 (Slot.mk 0 0 0) (1+n)),(Move.mk 3 0 (Slot.mk 0 0 0) (-1))][q]? = some x∧Y9b r7.1 x:=by
  have h8:way % 8=0∨way % 8=1∨way % 8=2∨way % 8=3∨way % 8=4∨way % 8=5∨way % 8=6∨way % 8=7:=by omega
  rcases h8 with h | h | h | h | h | h | h | h
  ·exact⟨0,_,h,rfl,.inl ⟨by show (0:Int)≠1; decide,by show (0:Int)≠2; decide,by show (0:Int)≠3; decide,by show (0:Int)≠4; decide⟩⟩
  ·exact⟨1,_,h,rfl,.inl ⟨by show 5+n % 100≠1; omega,by show 5+n % 100≠2; omega,by show 5+n % 100≠3; omega,by show 5+n % 100≠4; omega⟩⟩
  ·refine⟨2,_,h,rfl,.inr (.inl ⟨.inl rfl,fun g=>?_⟩)⟩
   have:(r7.1.Covers.length:Int)+n < (r7.1.Covers.length:Int):=g.2.2.2
   omega
  ·refine⟨3,_,h,rfl,.inr (.inl ⟨.inr rfl,fun g=>?_⟩)⟩
   have:(0:Int)≤(-1) - n:=g.2.2.1
   omega
  ·refine⟨4,_,h,rfl,.inr (.inl ⟨.inl rfl,fun g=>?_⟩)⟩
   have:(1:Int)+n=0:=g.1
   omega
  ·refine⟨5,_,h,rfl,.inr (.inl ⟨.inr rfl,fun g=>?_⟩)⟩
   have:(Slot.mk 0 0 1:Slot)=⟨0,0,0⟩:=g.2.1
   cases this
  ·refine⟨6,_,h,rfl,.inr (.inr ⟨.inl rfl,?_⟩)⟩
   show (1:Int)+n≠0
   omega
  ·exact⟨7,_,h,rfl,.inr (.inr ⟨.inr rfl,by show (-1:Int)≠0; decide⟩)⟩
 obtain⟨q,x,hq,hx,hno⟩:=hk
 refine Yh hq hx (Gx (Yce hR hno) ?_)
 simp only [ne_eq,not_true_eq_false,decide_false,Bool.not_false,cond_true,Bool.false_or]
 refine Gx (Y73 hG hR) ?_
 rw [htl]
 refine Gx (Y43 _) (Hp (fun h=>by cases h) (fun _=>Gx (Y5f hG hR) ?_))
 have hrm:=hG.rightM
 rw [htl] at hrm hnum
 have hl8:r7.2.2.1.length≤1000000:=by omega
 have hlim:=Y4e hG.ship
 have hsm:=G2f hG.ship
 have hship:∀ (c:List G2),(Gk.mk c r7.1.Covers r7.1.Light r7.1.Rows r7.1.Frames r7.1.Tanks r7.1.G4).Covers=r7.1.Covers:=fun c=>rfl
 refine Gbb (fun j=>G1f (Gk.mk j.2.2.2 r7.1.Covers r7.1.Light r7.1.Rows r7.1.Frames r7.1.Tanks r7.1.G4) j.1 j.2.1 j.2.2.1=some 2) (fun K hK=>?_) (fun j hj=>Gx hj (Gj rfl))
 refine H5 (J06 (by decide) ?_)
 refine Hp (fun h0=>?_) (fun h0=>Hp (fun h1=>?_) (fun h1=>Hp (fun h2=>?_) (fun h2=>Hp (fun h3=>?_) (fun h3=>?_))))
 ·refine Gx (R87 (by omega)) (Yy (G28 (by rw [List.length_singleton]; omega) (by omega)) (hK _ (J92 (G31 (wp_mono (G8b hsm.right hsm.tier (by simp only [List.length_append,List.length_singleton]; omega)) (fun r hr=>?_))))))
  rw [← Bool.not_eq_true,hr]
  intro hR2
  obtain⟨b,hb,_⟩:=hR2.each ⟨999,⟨0,0,0⟩⟩ (by simp)
  rw [Ja8 hB (.inr (by show (40:Int) < 999; decide))] at hb
  cases hb
 ·obtain⟨c,hc⟩:∃ c,r7.1.Columns[0]? = some c:=⟨r7.1.Columns[0]'(by have:=hG.ship.some; omega),List.getElem?_eq_getElem _⟩
  refine Gx (Jdb (by omega)) (Yh (m:=0) rfl hc (Yy (G28 (by rw [List.length_singleton]; omega) (by omega)) (hK _ (J92 (G31 ?_)))))
  refine wp_mono (Y49 (s:=Gk.mk (r7.1.Columns++[c]) r7.1.Covers r7.1.Light r7.1.Rows r7.1.Frames r7.1.Tanks r7.1.G4) (fun d hd=>?_) (fun y hy=>by have:=hsm.rows y hy; omega) hl8) (fun r hr=>?_)
  ·have hmem:=List.mem_of_getElem? hc
   rcases List.mem_append.1 hd with hd | hd
   ·exact hlim d hd
   ·rw [List.mem_singleton] at hd; subst hd
    exact hlim d hmem
  ·rw [← Bool.not_eq_true,hr]
   intro ⟨hS,_⟩
   have h3:=(List.nodup_append.1 hS.nodup).1
   have h3:((r7.1.Columns++[c]).map k3).Nodup:=h3
   rw [List.map_append,List.nodup_append] at h3
   exact h3.2.2 (k3 c) (List.mem_map.2 ⟨c,List.mem_of_getElem? hc,rfl⟩) (k3 c) (by simp) rfl
 ·refine Yy (G28 (by rw [List.length_singleton]; omega) (by omega)) (hK _ (Ha2 hG.ship hrm (by simp only [List.length_append,List.length_singleton]; omega) ⟨999,by simp,fun b hb=>?_⟩))
  rw [Ja8 hB (.inr (by decide))] at hb
  cases hb
 ·refine Yy (G28 (by rw [List.length_singleton]; omega) (by omega)) (hK _ (Ha2 hG.ship hrm (by simp only [List.length_append,List.length_singleton]; omega) ⟨0,by simp,fun b hb=>?_⟩))
  rw [Ja8 hB (.inl (by decide))] at hb
  cases hb
 ·refine Yy (G28 (by rw [List.length_singleton]; omega) (by omega)) (Yy (G28 (by rw [List.length_singleton]; omega) (by omega)) (hK _ (Ha2 hG.ship ?_ (by simp only [List.length_append,List.length_singleton]; omega) ⟨1000,by simp,fun b hb=>?_⟩)))
  ·refine G31 (wp_mono (G8b hsm.right hsm.tier hl8) (fun r hr=>hr.2 (Q11 ?_)))
   rw [← htl]; exact hG.right
  ·have:Q6 (r7.2.1++[Box.mk 1000 ByteArray.empty 30 false 0 0 0 0 false]) 1000=some (Box.mk 1000 ByteArray.empty 30 false 0 0 0 0 false):=by
    have h0:=Ja8 hB (i:=1000) (.inr (by decide))
    unfold Q6 at h0 ⊢
    rw [List.find?_append,h0]
    rfl
   rw [this] at hb
   cases hb
   decide
end Go.Proofs.YtidpfkmbfgihlaaGreat
