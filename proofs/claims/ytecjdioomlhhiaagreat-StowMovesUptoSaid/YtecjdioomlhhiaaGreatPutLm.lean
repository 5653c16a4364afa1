/-
 What has to be lifted so that some boxes can be: the same,of the reference. States that are right,of any ship: at most 30 boxes. What can be put,taken,opened and closed.
-/
import Derived.Test.YtecjdioomlhhiaaGreatStowB
set_option maxRecDepth 100000
set_option linter.unusedVariables false
namespace Go.Proofs.YtecjdioomlhhiaaGreat
open Go.RowKit
theorem R95 {s:H0} {m:Nat} {c:G3} (hc:s.Columns[m]? = some c):Yp s (m:Int)=some (if c.Deck=true then -1 else Ro s c):=by
  refine G03 ?_
  unfold Yp
  exact G32 rfl hc (Hg (fun h=>Gj (by rw [if_pos h])) (fun h=>Gy (J63 hc) (Gj (by rw [if_neg (by rw [h]; exact Bool.false_ne_true)]))))
theorem R92 {s:H0} {m:Nat} {c:G3} {k:Int} (hc:s.Columns[m]? = some c):Z1 s (m:Int) k=some (c.Deck&&decide (Ro s c=k)):=by
  refine G03 ?_
  unfold Z1
  refine G32 rfl hc ?_
  cases hd:c.Deck with
  | true=>exact Gy (J63 hc) (Gj rfl)
  | false=>exact H6 (Gj (Gj rfl))
structure MkR (s:H0) (l:List Stowed) (ids:List Int) (pre:List Int) (bs:List Bool):Prop where
  len:bs.length=l.length
  seeds:∀ a∈pre,∃ (i:Nat) (x:Stowed),l[i]? = some x∧x.Box=a∧bs[i]? = some true
  sound:∀ (i:Nat) (x:Stowed),l[i]? = some x→bs[i]? = some true→∀ C:Int→Prop,(∀ a b,C a→Pl s l a b→C b)→(∀ a∈ids,C a)→C x.Box
theorem MkR.set {s:H0} {l:List Stowed} {ids pre:List Int} {bs:List Bool} (h:MkR s l ids pre bs) {k:Nat} {y:Stowed} (hy:l[k]? = some y) (hs:∀ C:Int→Prop,(∀ a b,C a→Pl s l a b→C b)→(∀ a∈ids,C a)→C y.Box):MkR s l ids pre (bs.set k true):=by
  refine⟨by rw [List.length_set]; exact h.len,fun a ha=>?_,fun i x hx hb=>?_⟩
  · obtain⟨i,x,h1,h2,h3⟩:=h.seeds a ha
    refine⟨i,x,h1,h2,?_⟩
    by_cases e:k=i
    · subst e
      rw [List.getElem?_set_self (List.getElem?_eq_some_iff.1 h3).1]
    · rw [List.getElem?_set_ne e]; exact h3
  · by_cases e:k=i
    · subst e
      rw [hy] at hx; cases hx
      exact hs
    · rw [List.getElem?_set_ne e] at hb
      exact h.sound i x hx hb
end Go.Proofs.YtecjdioomlhhiaaGreat
set_option maxRecDepth 100000
set_option linter.unusedVariables false
namespace Go.Proofs.YtecjdioomlhhiaaGreat
open Go.RowKit
structure CovG (s:H0):Prop where
 len:s.Covers.length≤20
structure R72 (s:H0):Prop where
 small:Small s
 ship:H15 s
 plugs:∀ c∈s.Columns,c.Plugs.length≤1048576
 covs:CovG s
theorem Gbf {s:H0} (h:R72 s):Small s:=h.small
theorem Jfa {s:H0} (h:R72 s):H15 s:=h.ship
theorem Gbd.mem {s:H0} {l:List Stowed} {ids r:List Int} (h:Gbd s l ids r) (hi:∀ a∈ids,a∈l.map (·.Box)):∀ a∈r,a∈l.map (·.Box):=
 h.least (·∈l.map (·.Box)) (fun a b _ hp=>by
  obtain⟨x,_,_,y,hy,e,_⟩:=hp
  exact List.mem_map.2 ⟨y,hy,e⟩) hi
theorem Gbd.mono {s:H0} {l:List Stowed} {ids ids' r r':List Int} (h:Gbd s l ids r) (h':Gbd s l ids' r') (hi:∀ a∈ids,a∈ids'):∀ a∈r,a∈r':=
 h.least (·∈r') (fun a b ha hp=>h'.closed a ha b hp) (fun a ha=>h'.seeds a (hi a ha))
theorem Gbd.len {s:H0} {l:List Stowed} {ids r:List Int} (h:Gbd s l ids r) (hi:∀ a∈ids,a∈l.map (·.Box)):r.length≤l.length:=by
 have:=(H19 h.sorted).length_le_of_subset (fun a ha=>h.mem hi a ha)
 simpa using this
structure Sta (s:H0) (boxes:List Box) (l:List Stowed):Prop where
 ship:R72 s
 right:Ga1 s boxes l
 len:l.length≤30
theorem Sta.colIn {s:H0} {boxes:List Box} {l:List Stowed} (h:Sta s boxes l) {x:Stowed} (hx:x∈l):Re7 s x.Slot:=by
 obtain⟨b,_,h1,_⟩:=h.right.each x hx
 exact Je8 h1
theorem Rc5 {n m:Nat} (h:n+m≤1000):decide ((n+m)*8≤140737488355328∧n+m≤maxLen)=true:=decide_eq_true ⟨by omega,by simp only [maxLen]; omega⟩
end Go.Proofs.YtecjdioomlhhiaaGreat
set_option maxRecDepth 100000
set_option linter.unusedVariables false
namespace Go.Proofs.YtecjdioomlhhiaaGreat
open Go.RowKit

structure Gdb (s:H0) (o:List Int):Prop where
 mem:∀ y∈o,0≤y∧y < (s.Covers.length:Int)
 sorted:o.Pairwise (· < ·)
theorem R9c {s:H0}:Gdb s []:=⟨fun y hy=>(List.not_mem_nil hy).elim,List.Pairwise.nil⟩
theorem Gdb.len {s:H0} {o:List Int} (h:Gdb s o):o.length≤s.Covers.length:=by
 have hn:o.Nodup:=H19 h.sorted
 have:=hn.length_le_of_subset (l₂:=(List.range s.Covers.length).map (fun n:Nat=>(n:Int))) (fun a ha=>by
  obtain⟨h1,h2⟩:=h.mem a ha
  exact List.mem_map.2 ⟨a.toNat,List.mem_range.2 (by omega),by omega⟩)
 simpa using this
theorem J96 {s:H0} (hcov:s.Covers.length≤1000) {R:Prop} {boxes:List Box} {l:List Stowed} (o:List Int) (hR:Wp (G1b s boxes l) (fun r=>r=true ↔ R)):Wp (Qa s boxes l o) (fun r=>r=true ↔ Gdb s o∧R):=by
 unfold Qa
 refine Qp (fun pre _=>Gdb s pre) R9c (fun pre y post u nx e hI hnx=>?_) (fun u hI=>?_)
 ·have no:¬ Gdb s o→Wp (some false) (fun r=>r=true ↔ Gdb s o∧R):=fun h=>Gj (Yn fun hh=>h hh.1)
  by_cases hy:y < 0∨(s.Covers.length:Int)≤y
  ·have hc:(decide (y < 0)||decide ((s.Covers.length:Int)≤y))=true:=by simpa using hy
   rw [hc]
   refine H6 (Gj (H6 (Gj (Hg (fun _=>no fun h=>?_) (fun h=>by cases h)))))
   have:=h.mem y (by rw [e]; simp)
   omega
  have hc:(decide (y < 0)||decide ((s.Covers.length:Int)≤y))=false:=by
   rw [Bool.or_eq_false_iff]; exact⟨decide_eq_false (by omega),decide_eq_false (by omega)⟩
  rw [hc]
  simp only [Bool.not_false,Bool.true_and,Bool.false_or]
  have hyok:0≤y∧y < (s.Covers.length:Int):=by omega
  have hprev:Wp (bif decide (0 < (pre.length:Int)) then chk ((pre.length:Int) - 1) some else some 0) (fun v=>Wp (bif decide (0 < (pre.length:Int)) then Qq o v some else some default) (fun p=>(decide (0 < (pre.length:Int))&&decide (y≤p))=false→Gdb s (pre++[y]))∧Wp (bif decide (0 < (pre.length:Int)) then Qq o v some else some default) (fun p=>(decide (0 < (pre.length:Int))&&decide (y≤p))=true→¬ Gdb s o)):=by
   by_cases hp:0 < pre.length
   ·obtain⟨p,hp1,hp2,hp3⟩:=J46 e hp
    rw [decide_eq_true (show 0 < (pre.length:Int) by omega)]
    simp only [cond_true,Bool.true_and]
    have:pre.length < 1+s.Covers.length:=by have:=hI.len; omega
    have:=hcov
    refine Yb ⟨by omega,by omega⟩ (Gj ⟨G32 (m:=pre.length - 1) (by omega) hp1 (Gj fun h=>?_),G32 (m:=pre.length - 1) (by omega) hp1 (Gj fun h hh=>?_)⟩)
    ·have hlt:p < y:=by have:=of_decide_eq_false h; omega
     exact⟨Qm hI.mem hyok,H5f hI.sorted (Gfd hI.sorted hp2 hlt)⟩
    ·have h:=of_decide_eq_true h
     have hso:=hh.sorted
     rw [e] at hso
     have:=H1b hso p hp3
     omega
   ·have h0:pre=[]:=List.eq_nil_of_length_eq_zero (by omega)
    subst h0
    exact Gj ⟨Gj fun _=>⟨fun z hz=>(List.mem_singleton.1 hz) ▸ hyok,List.pairwise_singleton ..⟩,Gj fun h=>Bool.noConfusion h⟩
  refine H6 (wp_mono hprev (fun v hv=>?_))
  obtain⟨p,hp,h1⟩:=hv.1
  obtain⟨p',hp',h2⟩:=hv.2
  rw [hp] at hp'; cases hp'
  rw [hp]
  refine H6 (Gj (Hg (fun h=>no (h2 h)) (fun h=>hnx _ (h1 h))))
 ·exact H6 (wp_mono (hR) (fun r hr=>Gj (hr.trans ⟨fun h=>⟨hI,h⟩,fun h=>h.2⟩)))
theorem Q84 {s:H0} (hs:Small s) (boxes:List Box) (l:List Stowed) (o:List Int) (hl:l.length≤1000000):Wp (Qa s boxes l o) (fun r=>r=true ↔ Gdb s o∧Ga1 s boxes l):=J96 hs.covs o (Je3 hs.right hs.tier hl)
theorem Rdd (x y:Int):G8c x y=some (decide (x < y)):=by
 unfold G8c G6d
 rw [decide_eq_false (show ¬ (x≠x) from fun h=>h rfl)]
 rfl
theorem shr1 (z:Int) (h0:0≤z) (h1:z≤2000):Rc3 .u64 (IntKind.u64.wrap z) 1=z / 2:=by
 have e:IntKind.u64.wrap z=z:=by
  simp only [IntKind.wrap,IntKind.signed,IntKind.bits]
  simp
  omega
 rw [e]
 unfold Rc3
 rw [show min 1 IntKind.u64.bits=1 from rfl,Int.fdiv_eq_ediv_of_nonneg _ (by decide)]
 rfl
theorem J8a {F:Nat} {o:List Int} {t:Int} (ho:o.Pairwise (· < ·)) (hl:o.length≤1000) (hF:o.length < F) :
  Wp (Rj F o t) (fun r=>∃ n:Nat,r.1=(n:Int)∧n≤o.length∧(∀ a∈o.take n,a < t)∧(∀ a∈o.drop n,t≤a)∧(r.2=true ↔ o[n]? = some t)):=by
 unfold Rj
 have hpw:=List.pairwise_iff_getElem.1 ho
 refine wp_loop (fun st=>∃ i j:Nat,st=((i:Int),(j:Int))∧i≤j∧j≤o.length∧(∀ a∈o.take i,a < t)∧(∀ a∈o.drop j,t≤a)) (fun st=>(st.2 - st.1).toNat) ⟨0,o.length,rfl,Nat.zero_le _,Nat.le_refl _,by simp,by simp⟩ (by show ((o.length:Int) - 0).toNat < F; omega) (fun st nx hI hnx=>?_)
 obtain⟨i,j,rfl,h1,h2,h3,h4⟩:=hI
 refine Hg (fun h=>?_) (fun h=>?_)
 ·have h:=of_decide_eq_true h
  refine Yb ⟨by omega,by omega⟩ ?_
  rw [shr1 _ (by omega) (by omega)]
  have hm:((i:Int)+(j:Int)) / 2=(((i+j) / 2:Nat):Int):=by omega
  rw [hm]
  have hk1:i≤(i+j) / 2:=by omega
  have hk2:(i+j) / 2 < j:=by omega
  generalize (i+j) / 2=k at hk1 hk2
  have hg:o[k]? = some (o[k]'(by omega)):=List.getElem?_eq_getElem (by omega)
  refine Yb ⟨by omega,by omega⟩ (G32 rfl hg (Gy (Rdd _ _) (Hg (fun hh=>Yb ⟨by omega,by omega⟩ (hnx _ ⟨k+1,j,by simp,by omega,h2,fun a ha=>?_,h4⟩ (by simp only; omega))) (fun hh=>hnx _ ⟨i,k,rfl,hk1,by omega,h3,fun a ha=>?_⟩ (by simp only; omega)))))
  ·have hh:=of_decide_eq_true hh
   obtain⟨q,hq,rfl⟩:=List.mem_iff_getElem.1 ha
   rw [List.length_take] at hq
   rw [List.getElem_take]
   rcases Nat.lt_or_ge q k with g | g
   ·have:=hpw q k (by omega) (by omega) g; omega
   ·have:q=k:=by omega
    subst this; exact hh
  ·have hh:=of_decide_eq_false hh
   obtain⟨q,hq,rfl⟩:=List.mem_iff_getElem.1 ha
   rw [List.length_drop] at hq
   rw [List.getElem_drop]
   rcases Nat.eq_zero_or_pos q with g | g
   ·subst g; simp only [Nat.add_zero]; omega
   ·have:=hpw k (k+q) (by omega) (by omega) (by omega); omega
 ·have h:=of_decide_eq_false h
  have hij:i=j:=by omega
  subst hij
  by_cases hlt:i < o.length
  ·have hg:o[i]? = some o[i]:=List.getElem?_eq_getElem hlt
   rw [decide_eq_true (show (i:Int) < (o.length:Int) by omega)]
   simp only [cond_true,Bool.true_and]
   refine H6 (G32 rfl hg (Gj ?_))
   by_cases he:o[i]=t
   ·rw [decide_eq_true he]
    exact H6 (Gj (H6 (Gj (H6 (Gj (Gj ⟨i,rfl,h2,h3,h4,by simp [hg,he]⟩))))))
   ·rw [decide_eq_false he]
    simp only [Bool.not_false,cond_true,Bool.true_and]
    refine H6 (G32 rfl hg (Gj ?_))
    unfold G45
    rw [decide_eq_false (show ¬ (o[i]≠o[i]) from fun h=>h rfl)]
    exact H6 (Gj (H6 (Gj (Gj ⟨i,rfl,h2,h3,h4,by simp [hg,he]⟩))))
  ·rw [decide_eq_false (show ¬ ((i:Int) < (o.length:Int)) by omega)]
   exact H6 (Gj (H6 (Gj (H6 (Gj (H6 (Gj (Gj ⟨i,rfl,h2,h3,h4,by simp [List.getElem?_eq_none (show o.length≤i by omega)]⟩))))))))
end Go.Proofs.YtecjdioomlhhiaaGreat
