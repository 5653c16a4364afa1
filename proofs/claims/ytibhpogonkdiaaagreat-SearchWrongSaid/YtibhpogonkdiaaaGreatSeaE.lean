/-
 What stow.Right says,in plain words. All ways to pile boxes up: The library's insertion sort,aQ the extractor's model has it The orders of search: The ways to pile boxes up: search.states: search.states:
-/
import Derived.Test.YtibhpogonkdiaaaGreatRightL
import Derived.Test.YtibhpogonkdiaaaGreatEnds
set_option linter.unusedVariables false
set_option linter.unusedSimpArgs false
set_option linter.unnecessarySimpa false
set_option maxRecDepth 100000
namespace Go.Proofs.YtibhpogonkdiaaaGreat
open Go.RowKit

structure G4e (s:Ge) (boxes:List Box) (l:List G1):Prop where
 each:∀ x∈l,∃ b,G5c boxes x.Box=some b∧Q1e s x.Slot b.Size∧R13 x.Slot (l.map (·.Slot))
 sorted:l.Pairwise (fun a b=>a.Box < b.Box)
 apart:l.Pairwise (fun a b=>¬ Q7a b.Slot a.Slot)
 fits:∀ m c,s.Columns[m]? = some c→R14 boxes l m c

theorem H99 {α:Type} {R:α→α→Prop} {l:List α} {x:α} (h:l.Pairwise R) (hx:∀ a∈l,R a x):(l++[x]).Pairwise R:=by
 rw [List.pairwise_append]
 refine⟨h,List.pairwise_singleton ..,fun a ha b hb=>?_⟩
 rw [Mh] at hb; subst hb
 exact hx a ha
theorem H38 {α:Type} {R:α→α→Prop} {pre post:List α} {y:α} (h:(pre++y::post).Pairwise R):∀ a∈pre,R a y:=fun a ha=>(List.pairwise_append.1 h).2.2 a ha y (List.mem_cons_self ..)

theorem Ge2 {s:Ge} {boxes:List Box} {l:List G1} (hr:Jm s=some true) (ht:∀ c∈s.Columns,c.Tiers≤1000000) (hl:l.length≤1000000):Wp (Qv s boxes l) (fun r=>r=true ↔ G4e s boxes l):=by
 unfold Qv
 refine Hh hr (Q6 (fun h=>by cases h) (fun _=>?_))
 refine Hh (Qc4 l hl) ?_
 refine R4 (fun pre _=>(∀ x∈pre,∃ b,G5c boxes x.Box=some b∧Q1e s x.Slot b.Size∧R13 x.Slot (l.map (·.Slot)))∧pre.Pairwise (fun a b=>a.Box < b.Box)∧pre.Pairwise (fun a b=>¬ Q7a b.Slot a.Slot))
  ⟨fun x hx=>(M2 hx).elim,List.Pairwise.nil,List.Pairwise.nil⟩ (fun pre y post u nx e hI h4=>?_) (fun u hI=>?_)
 ·obtain⟨i1,i2,i3⟩:=hI
  have a8:pre.length < l.length:=by rw [e]; simp
  have hy:y∈l:=by rw [e]; simp
  have no:∀ {m:Option Bool},m=some false→¬ G4e s boxes l→Wp m (fun r=>r=true ↔ G4e s boxes l):=fun e h=>by subst e; exact H5 ⟨fun e=>(by cases e),fun e=>(h e).elim⟩
  refine Hh (H77 boxes y.Box) ?_
  cases hf:G5c boxes y.Box with
  | none=>
   simp only [Bool.not_false,Bool.not_true,Bool.false_and,cond_false,Bool.true_or,cond_true]
   refine Ht (H5 (Ht (H5 (Ht (H5 (Ht (H5 (no rfl fun h=>?_))))))))
   obtain⟨b,hb,_⟩:=h.each y hy
   rw [hf] at hb; cases hb
  | some b=>
   simp only [Bool.not_true,Bool.not_false,Bool.true_and,Bool.false_or]
   -- the order
   have h7:Wp (bif decide (0 < (pre.length:Int)) then chk ((pre.length:Int) - 1) some else some 0) (fun v=>Wp (bif decide (0 < (pre.length:Int)) then Jz l v some else some default) (fun y20=>
     ((decide (0 < (pre.length:Int))&&decide (y.Box≤y20.Box))=true→¬ G4e s boxes l)∧((decide (0 < (pre.length:Int))&&decide (y.Box≤y20.Box))=false→∀ a∈pre,a.Box < y.Box))):=by
    rcases List.eq_nil_or_concat pre with hp | ⟨pre',z,hp⟩
    ·subst hp
     simp only [List.length_nil]
     exact H5 (H5 ⟨fun h=>by simp at h,fun _ a ha=>(M2 ha).elim⟩)
    ·have h2:pre=pre'++[z]:=by simpa using hp
     have a9:pre.length=pre'.length+1:=by rw [h2]; simp
     have hd:decide (0 < (pre.length:Int))=true:=Kw (by omega)
     have hz:l[pre'.length]? = some z:=by rw [e,h2]; simp
     rw [hd]
     simp only [cond_true,Bool.true_and]
     refine R3 ⟨by omega,by omega⟩ (H5 (Rb (m:=pre'.length) (by omega) hz (H5 ⟨fun h hR=>?_,fun h a ha=>?_⟩)))
     ·have:=Ku h
      have hs:=hR.sorted
      rw [e] at hs
      have:=H38 hs z (by rw [h2]; simp)
      omega
     ·have b0:¬ y.Box≤z.Box:=Kv h
      rw [h2] at ha
      rcases Mf.1 ha with ha | ha
      ·have:=H38 (h2 ▸ i2:(pre'++z::[]).Pairwise _) a ha
       omega
      ·rw [Mh] at ha; subst ha; omega
   refine Ht (wp_mono h7 (fun v hv=>Ht (wp_mono hv (fun y20 a5=>?_))))
   obtain⟨n1,n2⟩:=a5
   generalize (decide (0 < (pre.length:Int))&&decide (y.Box≤y20.Box))=c at n1 n2
   cases c with
   | true=>
    simp only [Bool.not_true,cond_false,Bool.true_or,cond_true]
    exact Ht (H5 (Ht (H5 (no rfl (n1 rfl)))))
   | false=>
    simp only [Bool.not_false,cond_true,Bool.false_or]
    have h8:=n2 rfl
    refine Ht (wp_mono (Qd0 s y.Slot b.Size) (fun r21 a1=>?_))
    cases r21 with
    | false=>
     simp only [Bool.not_false,Bool.not_true,cond_false,Bool.true_or,cond_true]
     refine Ht (H5 (no rfl fun h=>?_))
     obtain⟨b',hb,hs,_⟩:=h.each y hy
     rw [hf] at hb; cases hb
     have:=a1.2 hs; cases this
    | true=>
     have h1:=a1.1 rfl
     simp only [Bool.not_true,Bool.not_false,cond_true,Bool.false_or]
     have h9 : -1000000≤y.Slot.Tier∧y.Slot.Tier≤1000000:=by
      obtain⟨m,c,_,hc,h3⟩:=h1.col
      have:=h1.tier
      have:=ht c (M1 hc)
      omega
     refine Ht (wp_mono (R2d y.Slot (l.map (·.Slot)) h9) (fun r22 a2=>?_))
     cases r22 with
     | false=>
      refine Q6 (fun _=>no rfl fun h=>?_) (fun h=>by cases h)
      obtain⟨b',hb,_,hh⟩:=h.each y hy
      have:=a2.2 hh; cases this
     | true=>
      have a0:=a2.1 rfl
      refine Q6 (fun h=>by cases h) (fun _=>?_)
      refine Ht (H1a (m:=pre.length) rfl (by rw [Me]; omega) ?_)
      have a6:(l.map (·.Slot)).take pre.length=pre.map (·.Slot):=by rw [← List.map_take,e,List.take_left']; rfl
      rw [a6]
      refine R4 (fun pr _=>∀ a∈pr,¬ Q7a y.Slot a) (fun a ha=>(M2 ha).elim) (fun pr a pos u nx2 e2 h5 a4=>?_) (fun u h5=>h4 _ ⟨fun x hx=>?_,H99 i2 h8,H99 i3 (fun a ha=>h5 a.Slot (Mg.2 ⟨a,ha,rfl⟩))⟩)
      ·refine Ht (wp_mono (R2c y.Slot a) (fun r48 a3=>?_))
       refine Q6 (fun h=>no rfl fun hR=>?_) (fun h=>a4 _ (fun a' h0=>?_))
       ·have hm:=a3.1 h
        have a7:a∈pre.map (·.Slot):=by rw [e2]; simp
        obtain⟨z,hz,rfl⟩:=Mg.1 a7
        have ha:=hR.apart
        rw [e] at ha
        exact H38 ha z hz hm
       ·rcases Mf.1 h0 with h0 | h0
        ·exact h5 a' h0
        ·rw [Mh] at h0; subst h0
         intro hm
         have:=a3.2 hm
         rw [this] at h; cases h
      ·rcases Mf.1 hx with hx | hx
       ·exact i1 x hx
       ·rw [Mh] at hx; subst hx
        exact⟨b,hf,h1,a0⟩
 ·obtain⟨i1,i2,i3⟩:=hI
  refine R4 (fun pre _=>∀ m c,m < pre.length→s.Columns[m]? = some c→R14 boxes l m c) (fun m c h=>(Nat.not_lt_zero m h).elim) (fun pre y post u nx e hI h4=>?_) (fun u hI=>H5 ⟨fun _=>⟨i1,i2,i3,fun m c hc=>hI m c (Ky hc).1 hc⟩,fun _=>rfl⟩)
  have hc:s.Columns[pre.length]? = some y:=by rw [e]; simp
  refine Ht (wp_mono (R27 hc hl) (fun r hr=>?_))
  cases r with
  | false=>exact Q6 (fun _=>H5 ⟨fun e=>(by cases e),fun h=>by have:=hr.2 (h.fits _ _ hc); cases this⟩) (fun h=>by cases h)
  | true=>
   refine Q6 (fun h=>by cases h) (fun _=>h4 _ (fun m c hm h6=>?_))
   rw [Ma,Mb] at hm
   rcases Ks m pre.length with h | h
   ·exact hI m c h h6
   ·have:m=pre.length:=by omega
    subst this
    rw [hc] at h6; cases h6
    exact hr.1 rfl

def shut (ts hs:List Int) (c:Nat):Bool:=(hs.drop (c+1)).any (fun n=>decide (0 < n))||decide (ts.getD c 0≤hs.getD c 0)
def G27 (ts:List Int):Nat→List Int→List Int→List (List G1)
 | 0,_,_=>[]
 | F+1,ids,hs=>bif ids.isEmpty then [[]] else
   (List.range ts.length).flatMap fun c=>bif shut ts hs c then [] else
    (List.range ids.length).flatMap fun i=>(G27 ts F (ids.eraseIdx i) (hs.set c (hs.getD c 0+1))).map fun r=>(⟨ids.getD i 0,⟨(c:Int),hs.getD c 0,0⟩⟩:G1)::r
theorem Jea {ts:List Int}:∀ {F:Nat} {ids hs:List Int} {r:List G1},ids.length < F→r∈G27 ts F ids hs→r.length=ids.length
 | F+1,ids,hs,r,hF,hr=>by
  unfold G27 at hr
  cases ids with
  | nil=>simp at hr; subst hr; rfl
  | cons a l=>
   simp only [List.isEmpty_cons,cond_false,List.mem_flatMap,List.mem_range] at hr
   obtain⟨c,hc,hr⟩:=hr
   cases h0:shut ts hs c with
   | true=>rw [h0] at hr; simp at hr
   | false=>
    rw [h0] at hr
    simp only [cond_false,List.mem_flatMap,List.mem_range,Mg] at hr
    obtain⟨i,hi,q,hq,rfl⟩:=hr
    have hl:((a::l).eraseIdx i).length=l.length:=by rw [List.length_eraseIdx_of_lt (by simpa using hi)]; simp
    have:=Jea (F:=F) (by rw [hl]; simp at hF; omega) hq
    rw [M6,this,hl,M6]
theorem Q16 (l:List Int) (p:Int→Bool) (f:Int→Option Bool) (hf:∀ x∈l,f x=some (p x)):Qu l f=some (l.any p):=by
 unfold Qu Z8
 rw [Hdd hf,Gb4,H63]
theorem J7a {α:Type} (f:Nat→List α) (n:Nat):(List.range (n+1)).flatMap f=(List.range n).flatMap f++f n:=by
 rw [List.range_succ,List.flatMap_append]; simp

theorem Je9 (s:Ge):∀ (F:Nat) (ids hs:List Int),hs.length=s.Columns.length→s.Columns.length≤1000→(∀ h∈hs,0≤h∧h+(ids.length:Int)≤1000)→ids.length < F→ids.length≤1000→G04 F ids s hs=some (G27 (s.Columns.map (·.Tiers)) F ids hs):=by
 intro F
 induction F with
 | zero=>intro ids hs h1 h2 h3 h4; omega
 | succ F ih=>
  intro ids hs h1 h2 h3 h4 h5
  show G08 (G04 F) ids s hs=_
  refine H46 ?_
  unfold G08 G27
  cases ids with
  | nil=>exact H5 rfl
  | cons a l=>
   obtain⟨ids,h0⟩:∃ ids,a::l=ids:=⟨_,rfl⟩
   have b0:ids.isEmpty=false:=by rw [← h0]; rfl
   have b5:0 < ids.length:=by rw [← h0]; simp
   rw [h0] at h3 h4 h5 ⊢
   rw [b0,cond_false]
   refine Q6 (fun e=>by have:=Ku e; omega) (fun _=>?_)
   rw [Me]
   refine R4 (fun pre s7=>s7=(List.range pre.length).flatMap fun c=>bif shut (s.Columns.map (·.Tiers)) hs c then [] else
    (List.range ids.length).flatMap fun i=>(G27 (s.Columns.map (·.Tiers)) F (ids.eraseIdx i) (hs.set c (hs.getD c 0+1))).map fun r=>(⟨ids.getD i 0,⟨(c:Int),hs.getD c 0,0⟩⟩:G1)::r)
    rfl (fun pre y post s7 nx e hI b1=>?_) (fun s7 hI=>H5 hI)
   have b6:pre.length < s.Columns.length:=by rw [e]; simp
   have hc:pre.length < hs.length:=by omega
   have a2:hs.getD pre.length 0=hs[pre.length]:=by simp [List.getD,hc]
   have b2:(s.Columns.map (·.Tiers)).getD pre.length 0=y.Tiers:=by
    have:s.Columns[pre.length]? = some y:=by rw [e]; simp
    simp [List.getD,this]
   have hh:=h3 _ (List.getElem_mem hc)
   refine G90 (fun s'=>s'=(List.range (pre++[y]).length).flatMap fun c=>bif shut (s.Columns.map (·.Tiers)) hs c then [] else
    (List.range ids.length).flatMap fun i=>(G27 (s.Columns.map (·.Tiers)) F (ids.eraseIdx i) (hs.set c (hs.getD c 0+1))).map fun r=>(⟨ids.getD i 0,⟨(c:Int),hs.getD c 0,0⟩⟩:G1)::r) (fun K hK=>?_) (fun s' b3=>b1 s' b3)
   rw [Ma,Mb] at hK
   simp only [J7a] at hK
   refine Ht (H1a (m:=pre.length+1) rfl (by omega) ?_)
   refine Hh (Q16 _ (fun n=>decide (0 < n)) _ (fun x _=>rfl)) ?_
   have h6:shut (s.Columns.map (·.Tiers)) hs pre.length=((hs.drop (pre.length+1)).any (fun n=>decide (0 < n))||decide (y.Tiers≤hs[pre.length])):=by
    unfold shut; rw [a2,b2]
   have a3:shut (s.Columns.map (·.Tiers)) hs pre.length=true→Wp (K s7) (fun r=>r=(List.range s.Columns.length).flatMap fun c=>bif shut (s.Columns.map (·.Tiers)) hs c then [] else
    (List.range ids.length).flatMap fun i=>(G27 (s.Columns.map (·.Tiers)) F (ids.eraseIdx i) (hs.set c (hs.getD c 0+1))).map fun r=>(⟨ids.getD i 0,⟨(c:Int),hs.getD c 0,0⟩⟩:G1)::r):=fun h=>hK _ (by rw [h,cond_true,List.append_nil]; exact hI)
   cases h7:(hs.drop (pre.length+1)).any (fun n=>decide (0 < n)) with
   | true=>
    simp only [Bool.not_true,cond_false,Bool.true_or,cond_true]
    exact Ht (H5 (a3 (by rw [h6,h7]; rfl)))
   | false=>
    simp only [Bool.not_false,cond_true,Bool.false_or]
    refine Ht (Rb (m:=pre.length) rfl (Kz hc) (H5 ?_))
    refine Q6 (fun ht=>a3 (by rw [h6,ht,Bool.or_true])) (fun ht=>?_)
    have a4:shut (s.Columns.map (·.Tiers)) hs pre.length=false:=by rw [h6,h7,ht]; rfl
    refine R4 (fun done s68=>s68=s7++(List.range done.length).flatMap fun i=>(G27 (s.Columns.map (·.Tiers)) F (ids.eraseIdx i) (hs.set pre.length (hs.getD pre.length 0+1))).map fun r=>(⟨ids.getD i 0,⟨(pre.length:Int),hs.getD pre.length 0,0⟩⟩:G1)::r)
     (by simp) (fun done y68 rest s68 nx2 e2 h8 a5=>?_) (fun s68 h8=>hK _ (by rw [h8,a4,cond_false,hI]))
    have b4:done.length < ids.length:=by rw [e2]; simp
    have a6:ids.getD done.length 0=y68:=by
     have:ids[done.length]? = some y68:=by rw [e2]; simp
     simp [List.getD,this]
    have h9:(ids.eraseIdx done.length).length=ids.length - 1:=List.length_eraseIdx_of_lt b4
    refine Rb (m:=pre.length) rfl (Kz hc) ?_
    refine Hh (J35 hs (by omega)) (Rb (m:=pre.length) rfl (Kz hc) (R3 ⟨by omega,by omega⟩ (Rb (m:=pre.length) rfl (Kz hc) ?_)))
    refine Hh (J35 ids (by omega)) ?_
    refine Hh (x:=ids.eraseIdx done.length) ?_ ?_
    ·unfold Z3
     rw [Kw (by omega:(0:Int)≤(done.length:Int)),Kw (by omega:(done.length:Int) < (ids.length:Int)),Kw (by push_cast; omega:((done.length+1:Nat):Int)=(done.length:Int)+1),Kw (by omega:ids.length≤100000)]
     simp
    refine Hh (x:=()) rfl ?_
    rw [Int.toNat_natCast]
    have a7:∀ h∈hs.set pre.length (hs[pre.length]+1),0≤h∧h+((ids.eraseIdx done.length).length:Int)≤1000:=fun h hm=>by
     rw [h9]
     rcases List.mem_or_eq_of_mem_set hm with hm | rfl
     ·have:=h3 h hm; omega
     ·omega
    have a8:=ih (ids.eraseIdx done.length) (hs.set pre.length (hs[pre.length]+1)) (by rw [List.length_set]; exact h1) h2 a7 (by omega) (by omega)
    refine Hh a8 ?_
    refine R4 (fun got s88=>s88=s68++got.map fun r=>(⟨y68,⟨(pre.length:Int),hs[pre.length],0⟩⟩:G1)::r) (by simp) (fun got y88 rest3 s88 nx3 e3 a0 a9=>?_) (fun s88 a0=>a5 _ ?_)
    ·have hm:y88∈G27 (s.Columns.map (·.Tiers)) F (ids.eraseIdx done.length) (hs.set pre.length (hs[pre.length]+1)):=by rw [e3]; simp
     have a1:=Jea (by omega) hm
     refine Rk (Kw ⟨?_,?_⟩) (a9 _ ?_)
     ·rw [Mb,a1,h9]; omega
     ·rw [Mb,a1,h9]; exact Nat.le_trans (by omega:1+(ids.length - 1)≤1001) (by decide)
     ·rw [a0]; simp
    ·rw [a0,h8,Ma,Mb,J7a,a6,a2,List.append_assoc]

section isort
variable {α:Type}
def Hfc (c:α→α→Int) (x:α):List α→List α→List α
 | [],mid=>x::mid
 | p::rp,mid=>if c x p < 0 then Hfc c x rp (p::mid) else (p::rp).reverse++x::mid
def H0f (c:α→α→Int):List α→List α→List α
 | d,[]=>d
 | d,x::t=>H0f c (Hfc c x d.reverse []) t
def H1e (c:α→α→Int) (l:List α):List α:=H0f c [] l

theorem Hfb (c:α→α→Int) (x:α):∀ (rp mid:List α),(Hfc c x rp mid).Perm (rp.reverse++x::mid)
 | [],mid=>.refl _
 | p::rp,mid=>by
  unfold Hfc
  split
  ·refine(Hfb c x rp (p::mid)).trans ?_
   rw [List.reverse_cons,List.append_assoc]
   refine List.Perm.append_left _ ?_
   exact List.Perm.swap p x mid
  ·exact .refl _
theorem J2a (c:α→α→Int):∀ (t d:List α),(H0f c d t).Perm (d++t)
 | [],d=>by rw [List.append_nil]; exact .refl _
 | x::t,d=>by
  unfold H0f
  refine(J2a c t _).trans ?_
  have h:=Hfb c x d.reverse []
  rw [List.reverse_reverse] at h
  refine(h.append_right t).trans ?_
  simp
theorem Yv (c:α→α→Int) (l:List α):(H1e c l).Perm l:=J2a c l []
structure Qe8 (c:α→α→Int):Prop where
 asym:∀ x y,c x y < 0→¬ c y x < 0
 ntrans:∀ x y z,¬ c y x < 0→¬ c z y < 0→¬ c z x < 0
abbrev J3b (c:α→α→Int) (x y:α):Prop:=¬ c y x < 0

theorem J2d {c:α→α→Int} (hc:Qe8 c) (x:α):∀ (rp mid:List α),(rp.reverse++mid).Pairwise (J3b c)→(∀ y∈mid,c x y < 0)→(Hfc c x rp mid).Pairwise (J3b c)
 | [],mid,h,hm=>by
  unfold Hfc
  exact List.pairwise_cons.2 ⟨fun y hy=>hc.asym _ _ (hm y hy),h⟩
 | p::rp,mid,h,hm=>by
  unfold Hfc
  split
  ·rename_i h0
   refine J2d hc x rp (p::mid) ?_ ?_
   ·rw [List.reverse_cons,List.append_assoc] at h; exact h
   ·intro y hy
    rcases Mi.1 hy with rfl | hy
    ·exact h0
    ·exact hm y hy
  ·rename_i h0
   rw [List.pairwise_append] at h ⊢
   refine⟨h.1,List.pairwise_cons.2 ⟨fun y hy=>hc.asym _ _ (hm y hy),h.2.1⟩,fun a ha b hb=>?_⟩
   rcases Mi.1 hb with rfl | hb
   ·have h2:J3b c a p:=by
     rw [List.reverse_cons,List.pairwise_append] at h
     rw [List.reverse_cons] at ha
     rcases Mf.1 ha with ha | ha
     ·exact h.1.2.2 a ha p (by simp)
     ·have:a=p:=by simpa using ha
      subst this
      intro h1
      exact hc.asym _ _ h1 h1
    exact hc.ntrans _ _ _ h2 h0
   ·exact h.2.2 a ha b hb
theorem H9b {c:α→α→Int} (hc:Qe8 c):∀ (t d:List α),d.Pairwise (J3b c)→(H0f c d t).Pairwise (J3b c)
 | [],_,h=>h
 | x::t,d,h=>by
  unfold H0f
  exact H9b hc t _ (J2d hc x _ _ (by rw [List.reverse_reverse,List.append_nil]; exact h) (fun y hy=>by cases hy))
theorem Ze {c:α→α→Int} (hc:Qe8 c) (l:List α):(H1e c l).Pairwise (J3b c):=H9b hc l [] .nil
theorem H3b {β:Type} {l:List α} {i:Int} {k:α→Option β} {m:Nat} {x:α} (hi:i=(m:Int)) (hx:l[m]? = some x):Jz l i k=k x:=by
 subst hi
 unfold Jz
 rw [Kw (by omega:(0:Int)≤m),cond_true,show (m:Int).toNat=m by omega,hx]
 rfl

end isort

open Go.RowKit Go.Sort

theorem Q04 {α:Type} {c:α→α→Int} (hc:Qe8 c):SWO (ltOf c) where
 irrefl x:=by
  show decide (c x x < 0)=false
  exact Kx (fun h=>hc.asym x x h h)
 trans x y z h1 h2:=by
  have h1:c x y < 0:=Ku h1
  have h2:c y z < 0:=Ku h2
  refine Kw (Classical.byContradiction fun h=>?_)
  exact hc.ntrans y z x (hc.asym y z h2) h h1
 ntrans x y z h1 h2:=by
  have h1:¬ c x y < 0:=Kv h1
  have h2:¬ c y z < 0:=Kv h2
  exact Kx (hc.ntrans z y x h2 h1)
theorem Qca {α:Type} [Inhabited α] {cmp:α→α→Option Int} {c:α→α→Int} (hc:Qe8 c) (h0:∀ a b,cmp a b=some (c a b)) {xs:List α} (hu:∀ a∈xs,∀ b∈xs,¬ c a b < 0→¬ c b a < 0→a=b) (hl:xs.length < 4611686018427387904):H98 cmp xs=some (H1e c xs):=by
 rw [Q53 c h0 (Q04 hc) hl]
 obtain⟨hp,h5,hs⟩:=H5b c (Q04 hc) xs
 have h3:(Ye c xs).Perm (H1e c xs):=hp.trans (Yv c xs).symm
 have h1:(Ye c xs).Pairwise (J3b c):=List.pairwise_iff_getElem.2 (fun i j hi hj h4=>Kv (hs i j h4 hj))
 have h2:=Ze hc xs
 congr 1
 exact List.Perm.eq_of_pairwise (le:=J3b c) (fun a b ha hb h1 h2=>hu a (hp.mem_iff.1 ha) b ((Yv c xs).mem_iff.1 hb) h2 h1) h1 h2 h3
def G36 (a b:Int):Int:=bif decide (a < b) then -1 else bif decide (b < a) then 1 else 0
theorem R0a (a b:Int):Qq a b=some (G36 a b):=by
 have h1:decide (a≠a)=false:=by simp
 have h2:decide (b≠b)=false:=by simp
 simp only [Qq,Zt,bnd,h1,h2,cond_false]
 unfold G36
 cases decide (a < b) <;> cases decide (b < a) <;> rfl
theorem Rf3 (a b:Int):Z5 a b=some (G36 a b):=by
 have h1:decide (a≠a)=false:=by simp
 have h2:decide (b≠b)=false:=by simp
 simp only [Z5,G05,bnd,h1,h2,cond_false]
 unfold G36
 cases decide (a < b) <;> cases decide (b < a) <;> rfl
def orI:List Int→Int
 | []=>0
 | x::r=>bif decide (x≠0) then x else orI r
theorem Rf4 (l:List Int):G4b l=some (orI l):=by
 unfold G4b
 have key:∀ (l:List Int) (i:Nat),each (fun(y19:Int) (_:Nat) (_:Unit) nx19=>bif decide (y19≠0) then some y19 else nx19 ()) (fun(_:Unit)=>some (0:Int)) l i ()=some (orI l):=by
  intro l
  induction l with
  | nil=>intro i; rfl
  | cons x r ih=>
   intro i
   rw [each,orI]
   cases decide (x≠0) with
   | true=>rfl
   | false=>exact ih _
 exact key l 0
def G52 (a b:Slot):Int:=orI [G36 a.G5 b.G5,G36 a.Tier b.Tier,G36 a.Half b.Half]
theorem Q59 (a b:Slot):G15 a b=some (G52 a b):=by
 simp only [G15,R0a,Rf3,Rf4,bnd]; rfl

structure Cmp {α:Type} (c:α→α→Int):Prop where
 anti:∀ x y,c y x = - c x y
 trans:∀ x y z,c x y≤0→c y z≤0→c x z≤0
theorem Cmp.ordc {α:Type} {c:α→α→Int} (h:Cmp c):Qe8 c:=
 ⟨fun x y h0 h4=>by have:=h.anti x y; omega,fun x y z h1 h2 h3=>by
  have a1:=h.anti x y
  have a2:=h.anti y z
  have a3:=h.anti x z
  have:=h.trans x y z (by omega) (by omega)
  omega⟩
theorem Cmp.strict {α:Type} {c:α→α→Int} (h:Cmp c) {x y z:α} (h1:c x y < 0) (h2:c y z≤0):c x z < 0:=by
 have t:=h.trans x y z (by omega) h2
 rcases Int.lt_or_eq_of_le t with h' | h'
 ·exact h'
 ·have a:=h.anti x z
  have:=h.trans y z x h2 (by omega)
  have b:=h.anti x y
  omega
theorem Cmp.strict2 {α:Type} {c:α→α→Int} (h:Cmp c) {x y z:α} (h1:c x y≤0) (h2:c y z < 0):c x z < 0:=by
 have t:=h.trans x y z h1 (by omega)
 rcases Int.lt_or_eq_of_le t with h' | h'
 ·exact h'
 ·have a:=h.anti x z
  have:=h.trans z x y (by omega) h1
  have b:=h.anti y z
  omega
def J3a {α:Type} (c d:α→α→Int) (x y:α):Int:=bif decide (c x y≠0) then c x y else d x y
theorem Cmp.lex {α:Type} {c d:α→α→Int} (hc:Cmp c) (hd:Cmp d):Cmp (J3a c d):=by
 refine⟨fun x y=>?_,fun x y z h1 h2=>?_⟩
 ·unfold J3a
  have a:=hc.anti x y
  have b:=hd.anti x y
  by_cases h:c x y=0
  ·have h':c y x=0:=by omega
   simp [h,h',b]
  ·have h':c y x≠0:=by omega
   simp [h,h',a]
 ·unfold J3a at h1 h2 ⊢
  by_cases e1:c x y=0
  ·by_cases e2:c y z=0
   ·have t1:=hc.trans x y z (by omega) (by omega)
    have t2:=hc.trans z y x (by have:=hc.anti y z; omega) (by have:=hc.anti x y; omega)
    have a:=hc.anti x z
    have e3:c x z=0:=by omega
    simp [e1] at h1
    simp [e2] at h2
    simp [e3]
    exact hd.trans x y z h1 h2
   ·simp [e2] at h2
    have:=hc.strict2 (x:=x) (y:=y) (z:=z) (by omega) (by omega)
    have e3:c x z≠0:=by omega
    simp [e3]; omega
  ·simp [e1] at h1
   by_cases e2:c y z=0
   ·have:=hc.strict (x:=x) (y:=y) (z:=z) (by omega) (by omega)
    have e3:c x z≠0:=by omega
    simp [e3]; omega
   ·simp [e2] at h2
    have:=hc.strict (x:=x) (y:=y) (z:=z) (by omega) (by omega)
    have e3:c x z≠0:=by omega
    simp [e3]; omega
theorem Je4 {α:Type} {c d:α→α→Int} {x y:α}:J3a c d x y=0 ↔ c x y=0∧d x y=0:=by
 unfold J3a
 by_cases h:c x y=0 <;> simp [h]
theorem H03 {a b:Int}:G36 a b < 0 ↔ a < b:=by
 unfold G36
 by_cases h:a < b
 ·simp [h]
 ·by_cases h2:b < a <;> simp [h,h2]
theorem H20 {a b:Int}:G36 a b=0 ↔ a=b:=by
 unfold G36
 by_cases h:a < b
 ·simp [h]; omega
 ·by_cases h2:b < a
  ·simp [h,h2]; omega
  ·simp [h,h2]; omega
theorem J4c {a b:Int}:G36 a b≤0 ↔ a≤b:=by
 unfold G36
 by_cases h:a < b
 ·simp [h]; omega
 ·by_cases h2:b < a
  ·simp [h,h2]
  ·simp [h,h2]; omega
theorem He0 {α:Type} (f:α→Int):Cmp (fun x y:α=>G36 (f x) (f y)):=
 ⟨fun x y=>by
  show G36 (f y) (f x) = - G36 (f x) (f y)
  unfold G36
  by_cases h:f x < f y
  ·have:¬ f y < f x:=by omega
   simp [h,this]
  ·by_cases h2:f y < f x <;> simp [h,h2],fun x y z h1 h2=>J4c.2 (by have:=J4c.1 h1; have:=J4c.1 h2; omega)⟩
theorem J48 (a b:Slot):G52 a b=J3a (fun x y:Slot=>G36 x.G5 y.G5) (J3a (fun x y:Slot=>G36 x.Tier y.Tier) (fun x y:Slot=>G36 x.Half y.Half)) a b:=by
 unfold G52 J3a
 simp only [orI]
 cases decide (G36 a.G5 b.G5≠0) with
 | true=>rfl
 | false=>
  cases decide (G36 a.Tier b.Tier≠0) with
  | true=>rfl
  | false=>
   simp only [cond_false]
   by_cases h:G36 a.Half b.Half=0 <;> simp [h]
theorem H1c:Cmp G52:=by
 have h:=(He0 (fun x:Slot=>x.G5)).lex ((He0 (fun x:Slot=>x.Tier)).lex (He0 (fun x:Slot=>x.Half)))
 have e:G52=J3a (fun x y:Slot=>G36 x.G5 y.G5) (J3a (fun x y:Slot=>G36 x.Tier y.Tier) (fun x y:Slot=>G36 x.Half y.Half)):=by funext a b; exact J48 a b
 rw [e]; exact h
theorem Jd7 {a b:Slot}:G52 a b=0 ↔ a=b:=by
 rw [J48,Je4,Je4]
 show G36 a.G5 b.G5=0∧G36 a.Tier b.Tier=0∧G36 a.Half b.Half=0 ↔ a=b
 rw [H20,H20,H20]
 cases a; cases b; simp
def Ya:List G1→List G1→Int
 | [],[]=>0
 | [],_::_ => -1
 | _::_,[]=>1
 | x::a,y::b=>bif decide (G52 x.Slot y.Slot≠0) then G52 x.Slot y.Slot else Ya a b
theorem Je3:∀ a b:List G1,Ya b a = - Ya a b
 | [],[]=>rfl
 | [],_::_=>rfl
 | _::_,[]=>rfl
 | x::a,y::b=>by
  have h1:=H1c.anti x.Slot y.Slot
  have h2:=Je3 a b
  unfold Ya
  by_cases h:G52 x.Slot y.Slot=0
  ·have h':G52 y.Slot x.Slot=0:=by omega
   simp [h,h',h2]
  ·have h':G52 y.Slot x.Slot≠0:=by omega
   simp [h,h',h1]
theorem J83:∀ a b c:List G1,Ya a b≤0→Ya b c≤0→Ya a c≤0
 | [],_,[],_,_=>Int.le_refl _
 | [],_,_::_,_,_=>by simp [Ya]
 | _::_,[],_,h,_=>by simp [Ya] at h
 | _::_,_::_,[],_,h=>by simp [Ya] at h
 | x::a,y::b,z::c,h1,h2=>by
  have ih:=J83 a b c
  unfold Ya at h1 h2 ⊢
  by_cases e1:G52 x.Slot y.Slot=0
  ·have exy:=Jd7.1 e1
   simp [e1] at h1
   by_cases e2:G52 y.Slot z.Slot=0
   ·have e3:G52 x.Slot z.Slot=0:=by rw [exy]; exact e2
    simp [e2] at h2
    simp [e3]; exact ih h1 h2
   ·simp [e2] at h2
    have e3:G52 x.Slot z.Slot=G52 y.Slot z.Slot:=by rw [exy]
    simp [e3,e2]; exact h2
  ·simp [e1] at h1
   have h0:G52 x.Slot z.Slot < 0:=H1c.strict (y:=y.Slot) (by omega) (by
    by_cases e2:G52 y.Slot z.Slot=0
    ·omega
    ·simp [e2] at h2; exact h2)
   have e3:G52 x.Slot z.Slot≠0:=by omega
   simp [e3]; omega
theorem G02:Cmp Ya:=⟨Je3,J83⟩
theorem Hf9:∀ {a b:List G1},Ya a b=0→a.map (·.Slot)=b.map (·.Slot)
 | [],[],_=>rfl
 | [],_::_,h=>by simp [Ya] at h
 | _::_,[],h=>by simp [Ya] at h
 | x::a,y::b,h=>by
  unfold Ya at h
  by_cases e:G52 x.Slot y.Slot=0
  ·simp [e] at h
   rw [List.map_cons,List.map_cons,Jd7.1 e,Hf9 h]
  ·simp [e] at h
theorem H67 (a b:List G1):Rw a b=some (Ya a b):=by
 have key:∀ (q:List G1) (n:Nat),each (fun(y38:G1) i38 (_:Unit) nx38=>
   bif decide ((b.length:Int)≤(i38:Int)) then (some (1:Int)) else
   (Jz b (i38:Int) fun y47=>bnd (Rr y38 y47) fun r50=>bif decide (r50≠0) then (some r50) else (nx38 ())))
  (fun(_:Unit)=>bif decide (((n+q.length:Nat):Int) < (b.length:Int)) then (some (-1)) else (some 0)) q n ()=if b.length < n then (if q=[] then some 0 else some 1) else some (Ya q (b.drop n)):=by
  intro q
  induction q with
  | nil=>
   intro n
   simp only [each,List.length_nil,Nat.add_zero]
   by_cases h:n < b.length
   ·rw [Kw (by omega),cond_true,if_neg (by omega)]
    rw [List.drop_eq_getElem_cons h]; rfl
   ·rw [Kx (by omega),cond_false]
    by_cases h':b.length < n
    ·rw [if_pos h']; rfl
    ·rw [if_neg h',List.drop_of_length_le (by omega)]; rfl
  | cons x q ih=>
   intro n
   rw [each]
   by_cases h:n < b.length
   ·rw [Kx (by omega),cond_false,if_neg (by omega),H3b (m:=n) rfl (Kz h),List.drop_eq_getElem_cons h]
    have hs:Rr x b[n]=some (G52 x.Slot b[n].Slot):=by unfold Rr; rw [Q59]; rfl
    rw [hs,Gb4]
    unfold Ya
    cases hd:decide (G52 x.Slot b[n].Slot≠0) with
    | true=>rfl
    | false=>
     rw [cond_false,cond_false]
     have:=ih (n+1)
     rw [if_neg (by omega)] at this
     rw [show n+(x::q).length=n+1+q.length by simp; omega]
     exact this
   ·rw [Kw (by omega),cond_true]
    by_cases h':b.length < n
    ·rw [if_pos h',if_neg (by simp)]
    ·rw [if_neg h',List.drop_of_length_le (by omega)]; rfl
 unfold Rw R8
 have:=key a 0
 rw [if_neg (by omega),List.drop_zero,Nat.zero_add] at this
 exact congrArg (fun o:Option Int=>bnd o fun r3=>some r3) this

def Hf6 (a b:G1):Prop:=a.Slot.G5 < b.Slot.G5∨(a.Slot.G5=b.Slot.G5∧a.Slot.Tier < b.Slot.Tier)
theorem Q69 (hs:List Int) {c:Nat} (hc:c < hs.length) (v:Int) (c':Nat):(hs.set c v).getD c' 0=if c'=c then v else hs.getD c' 0:=by
 by_cases h:c'=c
 ·subst h; simp [List.getD,hc]
 ·rw [if_neg h]
  simp only [List.getD,List.getElem?_set_ne (Ne.symm h)]
theorem Qd1 {ts hs:List Int} {c:Nat} (h:shut ts hs c=false):hs.getD c 0 < ts.getD c 0∧∀ c',c < c'→hs.getD c' 0≤0:=by
 unfold shut at h
 simp only [Mm,decide_eq_false_iff_not,List.any_eq_false,Md] at h
 refine⟨by omega,fun c' h0=>?_⟩
 rcases Ks c' hs.length with hl | hl
 ·have hm:hs[c']∈hs.drop (c+1):=by
   refine List.mem_iff_getElem.2 ⟨c' - (c+1),by simp; omega,?_⟩
   simp only [List.getElem_drop]
   congr 1; omega
  have:=h.1 _ hm
  simp only [List.getD,Kz hl,Option.getD_some]; omega
 ·simp [List.getD,List.getElem?_eq_none hl]
theorem G9b (ts:List Int) (F:Nat) (ids hs:List Int):G27 ts (F+1) ids hs=bif ids.isEmpty then [[]] else
   (List.range ts.length).flatMap fun c=>bif shut ts hs c then [] else
    (List.range ids.length).flatMap fun i=>(G27 ts F (ids.eraseIdx i) (hs.set c (hs.getD c 0+1))).map fun r=>(⟨ids.getD i 0,⟨(c:Int),hs.getD c 0,0⟩⟩:G1)::r:=rfl
theorem J8c {α:Type} {l:List α} {i:Nat} (h:i < l.length):(l[i]::l.eraseIdx i).Perm l:=by
 rw [List.eraseIdx_eq_take_drop_succ]
 have h1:=List.perm_middle (a:=l[i]) (l₁:=l.take i) (l₂:=l.drop (i+1))
 rw [← List.drop_eq_getElem_cons h,List.take_append_drop] at h1
 exact h1.symm
theorem J80 {ts:List Int} {F:Nat} {ids hs:List Int} {r:List G1}:r∈G27 ts (F+1) ids hs ↔ (ids=[]∧r=[])∨(ids≠[]∧∃ c i q,c < ts.length∧shut ts hs c=false∧i < ids.length∧q∈G27 ts F (ids.eraseIdx i) (hs.set c (hs.getD c 0+1))∧r=(⟨ids.getD i 0,⟨(c:Int),hs.getD c 0,0⟩⟩:G1)::q):=by
 rw [G9b]
 cases ids with
 | nil=>simp
 | cons a l=>
  simp only [List.isEmpty_cons,cond_false,List.mem_flatMap,List.mem_range,reduceCtorEq,false_and,false_or,ne_eq,not_false_eq_true,true_and]
  constructor
  ·rintro⟨c,hc,hr⟩
   cases h0:shut ts hs c with
   | true=>rw [h0] at hr; simp at hr
   | false=>
    rw [h0] at hr
    simp only [cond_false,List.mem_flatMap,List.mem_range,Mg] at hr
    obtain⟨i,hi,q,hq,rfl⟩:=hr
    exact⟨c,i,q,hc,h0,hi,hq,rfl⟩
  ·rintro⟨c,i,q,hc,h0,hi,hq,rfl⟩
   refine⟨c,hc,?_⟩
   rw [h0]
   simp only [cond_false,List.mem_flatMap,List.mem_range,Mg]
   exact⟨i,hi,q,hq,rfl⟩

structure Q78 (ts hs:List Int) (l:List G1):Prop where
 place:∀ x∈l,x.Slot.Half=0∧∃ c:Nat,x.Slot.G5=(c:Int)∧c < ts.length∧hs.getD c 0≤x.Slot.Tier∧x.Slot.Tier < ts.getD c 0∧∀ c',c < c'→hs.getD c' 0≤0
 held:∀ x∈l,(∀ c:Nat,x.Slot.G5=(c:Int)→x.Slot.Tier≤hs.getD c 0)∨∃ y∈l,y.Slot=⟨x.Slot.G5,x.Slot.Tier - 1,0⟩
theorem Hb5 {ts:List Int}:∀ {F:Nat} {ids hs:List Int} {r:List G1},hs.length=ts.length→(∀ h∈hs,0≤h)→r∈G27 ts F ids hs→(r.map (·.Box)).Perm ids∧Q78 ts hs r∧r.Pairwise Hf6
 | 0,_,_,_,_,_,h=>by simp [G27] at h
 | F+1,ids,hs,r,hl,hn,h=>by
  rcases J80.1 h with ⟨rfl,rfl⟩ | ⟨h8,c,i,q,hc,h2,hi,hq,rfl⟩
  ·exact⟨List.Perm.refl _,⟨fun x hx=>(M2 hx).elim,fun x hx=>(M2 hx).elim⟩,.nil⟩
  ·have h1:c < hs.length:=by omega
   have hh:hs.getD c 0=hs[c]:=by simp [List.getD,h1]
   have h0:0≤hs.getD c 0:=by rw [hh]; exact hn _ (List.getElem_mem h1)
   obtain⟨s1,s2⟩:=Qd1 h2
   obtain⟨p1,p2,p3⟩:=Hb5 (F:=F) (by rw [List.length_set]; exact hl) (fun h hm=>by
    rcases List.mem_or_eq_of_mem_set hm with hm | rfl
    ·exact hn h hm
    ·omega) hq
   have hid:ids.getD i 0=ids[i]:=by simp [List.getD,hi]
   have gs:=Q69 hs h1 (hs.getD c 0+1)
   -- the later ones
   have late:∀ y∈q,Hf6 ⟨ids.getD i 0,⟨(c:Int),hs.getD c 0,0⟩⟩ y:=fun y hy=>by
    obtain⟨_,cy,e1,e2,e3,e4,e5⟩:=p2.place y hy
    rcases Nat.lt_trichotomy cy c with h3 | rfl | h9
    ·have:=e5 c h3
     rw [gs,if_pos rfl] at this; omega
    ·rw [gs,if_pos rfl] at e3
     exact .inr ⟨e1.symm,by show hs.getD cy 0 < y.Slot.Tier; omega⟩
    ·exact .inl (by show (c:Int) < y.Slot.G5; omega)
   refine⟨?_,⟨fun x hx=>?_,fun x hx=>?_⟩,List.pairwise_cons.2 ⟨late,p3⟩⟩
   ·rw [List.map_cons,hid]
    exact(p1.cons _).trans (J8c hi)
   ·rcases Mi.1 hx with rfl | hx
    ·exact⟨rfl,c,rfl,hc,Int.le_refl _,s1,s2⟩
    ·obtain⟨e0,cy,e1,e2,e3,e4,e5⟩:=p2.place x hx
     refine⟨e0,cy,e1,e2,?_,e4,fun c' h4=>?_⟩
     ·rw [gs] at e3
      split at e3
      ·next h=>subst h; omega
      ·exact e3
     ·have:=e5 c' h4
      rw [gs] at this
      split at this
      ·next h=>subst h; omega
      ·exact this
   ·rcases Mi.1 hx with rfl | hx
    ·refine .inl fun c2 e=>?_
     have e:(c:Int)=(c2:Int):=e
     have:c2=c:=by omega
     subst this
     exact Int.le_refl _
    ·obtain⟨e0,cy,e1,e2,e3,e4,e5⟩:=p2.place x hx
     rcases p2.held x hx with h5 | ⟨y,hy,h6⟩
     ·have:=h5 cy e1
      rw [gs] at this e3
      by_cases h:cy=c
      ·subst h
       rw [if_pos rfl] at this e3
       have h7:hs.getD cy 0=x.Slot.Tier - 1:=by omega
       exact .inr ⟨_,List.mem_cons_self ..,by rw [e1,← h7]⟩
      ·rw [if_neg h] at this
       refine .inl fun c2 e=>?_
       have:c2=cy:=by omega
       subst this; omega
     ·exact .inr ⟨y,List.mem_cons_of_mem _ hy,h6⟩
open Go.RowKit Go.Sort

theorem Q11 {α β:Type} {f:α→List β} {B:Nat}:∀ {l:List α},(∀ a∈l,(f a).length≤B)→(l.flatMap f).length≤l.length*B
 | [],_=>by simp
 | a::l,h=>by
  have h1:=h a (List.mem_cons_self ..)
  have h2:=Q11 (l:=l) (fun b hb=>h b (List.mem_cons_of_mem _ hb))
  rw [List.flatMap_cons,Ma,M6,Nat.add_mul,Nat.one_mul]
  omega
theorem Q13 {ts:List Int} {m:Nat} (hm:1≤ts.length*m):∀ {F:Nat} {ids hs:List Int},ids.length≤m→(G27 ts F ids hs).length≤(ts.length*m) ^ ids.length
 | 0,ids,hs,_=>by simp [G27]
 | F+1,ids,hs,h=>by
  rw [G9b]
  cases ids with
  | nil=>simp
  | cons a l=>
   simp only [List.isEmpty_cons,cond_false]
   refine Nat.le_trans (Q11 (B:=m*(ts.length*m) ^ l.length) fun c _=>?_) ?_
   ·cases shut ts hs c with
    | true=>simp
    | false=>
     simp only [cond_false]
     refine Nat.le_trans (Q11 (B:=(ts.length*m) ^ l.length) fun i hi=>?_) (by rw [List.length_range]; exact Nat.mul_le_mul_right _ h)
     rw [Me]
     have hl:((a::l).eraseIdx i).length=l.length:=by rw [List.length_eraseIdx_of_lt (List.mem_range.1 hi)]; simp
     have:=Q13 hm (F:=F) (ids:=(a::l).eraseIdx i) (hs:=hs.set c (hs.getD c 0+1)) (by rw [hl]; simp at h; omega)
     rwa [hl] at this
   ·rw [List.length_range,M6,Nat.pow_succ,Nat.mul_comm _ (ts.length*m),Nat.mul_assoc]
    exact M3
theorem Hb6 {ts:List Int}:∀ {F:Nat} {ids hs:List Int},hs.length=ts.length→(∀ h∈hs,0≤h)→ids.Nodup→(G27 ts F ids hs).Pairwise (fun a b=>¬ a.Perm b)
 | 0,_,_,_,_,_=>.nil
 | F+1,ids,hs,hl,hn,hd=>by
  have sound:=fun r (h:r∈G27 ts (F+1) ids hs)=>Hb5 hl hn h
  rw [G9b] at sound ⊢
  cases h8:ids.isEmpty with
  | true=>simp
  | false=>
   rw [h8,cond_false] at sound
   rw [cond_false]
   have head:∀ c,c < ts.length→∀ r,(r∈bif shut ts hs c then [] else (List.range ids.length).flatMap fun i=>(G27 ts F (ids.eraseIdx i) (hs.set c (hs.getD c 0+1))).map fun r=>(⟨ids.getD i 0,⟨(c:Int),hs.getD c 0,0⟩⟩:G1)::r)→∃ x q,r=x::q∧x.Slot=⟨(c:Int),hs.getD c 0,0⟩∧∀ y∈q,Hf6 x y:=fun c hc r hr=>by
    have h9:=(sound r (List.mem_flatMap.2 ⟨c,List.mem_range.2 hc,hr⟩)).2.2
    cases h0:shut ts hs c with
    | true=>rw [h0] at hr; simp at hr
    | false=>
     rw [h0] at hr
     simp only [cond_false,List.mem_flatMap,List.mem_range,Mg] at hr
     obtain⟨i,hi,q,hq,rfl⟩:=hr
     exact⟨_,q,rfl,rfl,(List.pairwise_cons.1 h9).1⟩
   refine List.pairwise_flatMap.2 ⟨fun c hc=>?_,(List.pairwise_lt_range).imp_of_mem fun {c1 c2} h1 h2 h5 a ha b hb hp=>?_⟩
   ·have a0:=List.mem_range.1 hc
    have h6:=head c a0
    cases h0:shut ts hs c with
    | true=>exact .nil
    | false=>
     rw [h0,cond_false] at h6
     rw [cond_false]
     refine List.pairwise_flatMap.2 ⟨fun i hi=>List.pairwise_map.2 ?_,(List.pairwise_lt_range).imp_of_mem fun {i1 i2} h1 h2 h5 a ha b hb hp=>?_⟩
     ·have a1:=List.mem_range.1 hi
      have h7:c < hs.length:=by omega
      refine(Hb6 (F:=F) (ids:=ids.eraseIdx i) (hs:=hs.set c (hs.getD c 0+1)) (by rw [List.length_set]; exact hl) (fun h hm=>by
       rcases List.mem_or_eq_of_mem_set hm with hm | rfl
       ·exact hn h hm
       ·have:hs.getD c 0=hs[c]:=by simp [List.getD,h7]
        have:=hn _ (List.getElem_mem h7)
        omega) (hd.sublist (List.eraseIdx_sublist ..))).imp fun h hp=>h ((List.perm_cons _).1 hp)
     ·have g1:=List.mem_range.1 h1
      have g2:=List.mem_range.1 h2
      obtain⟨x,q,e,hx,h3⟩:=h6 a (List.mem_flatMap.2 ⟨i1,h1,ha⟩)
      obtain⟨q1,_,rfl⟩:=Mg.1 ha
      obtain⟨q2,_,rfl⟩:=Mg.1 hb
      injection e with e1 e2
      subst e1
      subst e2
      have hm:(⟨ids.getD i2 0,⟨(c:Int),hs.getD c 0,0⟩⟩:G1)∈(⟨ids.getD i1 0,⟨(c:Int),hs.getD c 0,0⟩⟩:G1)::q1:=hp.mem_iff.2 (List.mem_cons_self ..)
      rcases Mi.1 hm with e | hm
      ·injection e with e _
       have n1:ids.getD i1 0=ids[i1]:=by simp [List.getD,g1]
       have n2:ids.getD i2 0=ids[i2]:=by simp [List.getD,g2]
       rw [n1,n2] at e
       have:=(List.pairwise_iff_getElem.1 hd) i1 i2 g1 g2 h5
       exact this e.symm
      ·have:=h3 _ hm
       rcases this with h | ⟨_,h⟩
       ·exact Int.lt_irrefl _ h
       ·exact Int.lt_irrefl _ h
   ·obtain⟨x,q,rfl,hx,h3⟩:=head c1 (List.mem_range.1 h1) a ha
    obtain⟨y,p,rfl,hy,h4⟩:=head c2 (List.mem_range.1 h2) b hb
    have hm:x∈y::p:=hp.mem_iff.1 (List.mem_cons_self ..)
    rcases Mi.1 hm with e | hm
    ·rw [e,hy] at hx
     injection hx with h _
     omega
    ·have:=h4 _ hm
     unfold Hf6 at this
     rw [hx,hy] at this
     simp only at this
     omega

def Rb2 (a b:G1):Int:=G36 a.Box b.Box
theorem J92:Cmp Rb2:=He0 (fun x:G1=>x.Box)
theorem Qc6 (a b:G1):Y5 a b=some (Rb2 a b):=by unfold Y5; rw [R0a]; rfl
def canon (l:List G1):List G1:=H1e Rb2 l
theorem Hd1 {l:List G1} (h:(l.map (·.Box)).Nodup):∀ a∈l,∀ b∈l,a.Box=b.Box→a=b:=fun a ha b hb e=>by
 obtain⟨i,hi,rfl⟩:=List.mem_iff_getElem.1 ha
 obtain⟨j,hj,rfl⟩:=List.mem_iff_getElem.1 hb
 have:=List.pairwise_iff_getElem.1 h
 rcases Nat.lt_trichotomy i j with h0 | rfl | h1
 ·exact(this i j (by simpa using hi) (by simpa using hj) h0 (by simpa using e)).elim
 ·rfl
 ·exact(this j i (by simpa using hj) (by simpa using hi) h1 (by simpa using e.symm)).elim
theorem J1d {l:List G1} (h:(l.map (·.Box)).Nodup) (hl:l.length≤1000):H98 (fun z0 z1=>Y5 z0 z1) l=some (canon l):=
 Qca J92.ordc Qc6 (fun a ha b hb h1 h2=>Hd1 h a ha b hb (by
  have e1:¬ a.Box < b.Box:=fun h=>h1 (H03.2 h)
  have e2:¬ b.Box < a.Box:=fun h=>h2 (H03.2 h)
  omega)) (by omega)
theorem G0c (l:List G1):(canon l).Perm l:=Yv _ _
theorem Gd8 {l:List G1} {ids:List Int} (hp:(l.map (·.Box)).Perm ids) (hs:ids.Pairwise (· < ·)):(canon l).map (·.Box)=ids:=by
 have h1:((canon l).map (·.Box)).Pairwise (fun a b:Int=>a≤b):=List.pairwise_map.2 ((Ze J92.ordc l).imp fun {a b} h=>by
  have:¬ b.Box < a.Box:=fun h'=>h (H03.2 h')
  omega)
 exact List.Perm.eq_of_pairwise (le:=fun a b:Int=>a≤b) (fun a b _ _ h1 h2=>Int.le_antisymm h1 h2) h1 (hs.imp fun h=>Int.le_of_lt h) (((G0c l).map _).trans hp)
open Go.RowKit Go.Sort

theorem H5d (n c:Nat):(List.replicate n (0:Int)).getD c 0=0:=by
 simp only [List.getD,List.getElem?_replicate]; split <;> rfl
theorem Q05:∀ {a b:List G1},a.map (·.Box)=b.map (·.Box)→a.map (·.Slot)=b.map (·.Slot)→a=b
 | [],[],_,_=>rfl
 | [],_::_,h,_=>by simp at h
 | _::_,[],h,_=>by simp at h
 | x::a,y::b,h1,h2=>by
  simp only [List.map_cons,List.cons.injEq] at h1 h2
  rw [Q05 h1.2 h2.2]
  obtain⟨bx,sx⟩:=x
  obtain⟨by_,sy⟩:=y
  simp only at h1 h2
  rw [h1.1,h2.1]
def Y9 (s:Ge):List Int:=s.Columns.map (·.Tiers)
def G26 (F:Nat) (s:Ge) (ids:List Int):List (List G1):=G27 (Y9 s) F ids (List.replicate s.Columns.length 0)
structure Whole (boxes:List Box) (ids:List Int):Prop where
 sorted:ids.Pairwise (· < ·)
 size:∀ id∈ids,∃ b,G5c boxes id=some b∧b.Size=40
theorem Gda {F:Nat} {s:Ge} {ids:List Int} {r:List G1} (h:r∈G26 F s ids):(r.map (·.Box)).Perm ids∧Q78 (Y9 s) (List.replicate s.Columns.length 0) r∧r.Pairwise Hf6:=
 Hb5 (by unfold Y9; simp) (fun h hh=>by rw [List.mem_replicate] at hh; omega) h
end Go.Proofs.YtibhpogonkdiaaaGreat
