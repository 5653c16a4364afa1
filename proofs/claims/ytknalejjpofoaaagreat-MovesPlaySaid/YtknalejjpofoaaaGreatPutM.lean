/-
 What is reached for,of the states that the chapter's statements make. What can be put,taken,opened and closed. What Free,Take,Open,Close and Put return,of states that are right.
-/
import Derived.Test.YtknalejjpofoaaaGreatBuiltB
set_option maxRecDepth 100000
set_option linter.unusedVariables false
namespace Go.Proofs.YtknalejjpofoaaaGreat
open Go.RowKit
structure Jd1 (s:Gw) (boxes:List Gd) (l:List Stowed):Prop where
 ship:LimOk s
 right:Ri s boxes l
 len:l.length≤10
theorem Jd1.colIn {s:Gw} {boxes:List Gd} {l:List Stowed} (h:Jd1 s boxes l) {x:Stowed} (hx:x∈l):H64 s x.Slot:=by
 obtain⟨b,_,h1,_⟩:=h.right.each x hx
 exact Ga0 h1
theorem above_at {s:Gw} {boxes:List Gd} {l:List Stowed} (h:Jd1 s boxes l) {x:Stowed} (hx:x∈l):G7a l x.Gd=some (H0c l x.Slot,0):=by
 have hl:=h.len
 rw [stow_above l x.Gd (by omega)]
 obtain⟨x0,hf⟩:∃ x0,Hd1 l x.Gd=some x0:=by
  cases hq:Hd1 l x.Gd with
  | some x0=>exact⟨x0,rfl⟩
  | none=>exact absurd (decide_eq_true (rfl:x.Gd=x.Gd)) (by have:=List.find?_eq_none.1 hq x hx; simp at this)
 have h1:=List.mem_of_find?_eq_some hf
 have h2:x0.Gd=x.Gd:=of_decide_eq_true (List.find?_some (p:=fun z:Stowed=>decide (z.Gd=x.Gd)) hf)
 have h3:x0=x:=Haa h.right.sorted h1 hx h2
 subst h3
 unfold aboveR
 rw [hf]
theorem J2b {n m:Nat} (h:n+m≤1000):decide ((n+m)*8≤140737488355328∧n+m≤maxLen)=true:=decide_eq_true ⟨by omega,by simp only [maxLen]; omega⟩
end Go.Proofs.YtknalejjpofoaaaGreat
set_option maxRecDepth 100000
set_option linter.unusedVariables false
namespace Go.Proofs.YtknalejjpofoaaaGreat
open Go.RowKit

theorem wp_loop {β σ:Type} {Q:β→Prop} (I:σ→Prop) (μ:σ→Nat) {b:(σ→Option β)→σ→Option β} {F:Nat} {s:σ} (h0:I s) (hF:μ s < F)
    (hb:∀ s nx,I s→(∀ s',I s'→μ s' < μ s→Wp (nx s') Q)→Wp (b nx s) Q):Wp (loop b F s) Q:=by
  induction F generalizing s with
  | zero=>omega
  | succ F ih=>
    rw [loop]
    exact hb s _ h0 (fun s' h1 h2=>ih h1 (by omega))
structure Ys (s:Gw) (o:List Int):Prop where
  mem:∀ y∈o,0≤y∧y < (s.Covers.length:Int)
  sorted:o.Pairwise (· < ·)
theorem openR_nil {s:Gw}:Ys s []:=⟨fun y hy=>(List.not_mem_nil hy).elim,List.Pairwise.nil⟩
theorem Ys.len {s:Gw} {o:List Int} (h:Ys s o):o.length≤s.Covers.length:=by
  have hn:o.Nodup:=Z4 h.sorted
  have:=hn.length_le_of_subset (l₂:=(List.range s.Covers.length).map (fun n:Nat=>(n:Int))) (fun a ha=>by
    obtain⟨h1,h2⟩:=h.mem a ha
    exact List.mem_map.2 ⟨a.toNat,List.mem_range.2 (by omega),by omega⟩)
  simpa using this
theorem checked_spec {s:Gw} (hs:Small s) (boxes:List Gd) (l:List Stowed) (o:List Int) (hl:l.length≤1000000):Wp (Yj s boxes l o) (fun r=>r=true ↔ Ys s o∧Ri s boxes l):=by
  unfold Yj
  refine J8 (fun pre _=>Ys s pre) openR_nil (fun pre y post u nx e hI hnx=>?_) (fun u hI=>?_)
  · have no:¬ Ys s o→Wp (some false) (fun r=>r=true ↔ Ys s o∧Ri s boxes l):=fun h=>Gn (H31 fun hh=>h hh.1)
    by_cases hy:y < 0∨(s.Covers.length:Int)≤y
    · have hc:(decide (y < 0)||decide ((s.Covers.length:Int)≤y))=true:=by simpa using hy
      rw [hc]
      refine H4 (Gn (H4 (Gn (H7 (fun _=>no fun h=>?_) (fun h=>by cases h)))))
      have:=h.mem y (by rw [e]; simp)
      omega
    have hc:(decide (y < 0)||decide ((s.Covers.length:Int)≤y))=false:=by
      rw [Bool.or_eq_false_iff]; exact⟨decide_eq_false (by omega),decide_eq_false (by omega)⟩
    rw [hc]
    simp only [Bool.not_false,Bool.true_and,Bool.false_or]
    have hyok:0≤y∧y < (s.Covers.length:Int):=by omega
    have hprev:Wp (bif decide (0 < (pre.length:Int)) then Rc ((pre.length:Int) - 1) some else some 0) (fun v=>Wp (bif decide (0 < (pre.length:Int)) then Q9 o v some else some default) (fun p=>(decide (0 < (pre.length:Int))&&decide (y≤p))=false→Ys s (pre++[y]))∧Wp (bif decide (0 < (pre.length:Int)) then Q9 o v some else some default) (fun p=>(decide (0 < (pre.length:Int))&&decide (y≤p))=true→¬ Ys s o)):=by
      by_cases hp:0 < pre.length
      · obtain⟨p,hp1,hp2,hp3⟩:=prev_at e hp
        rw [decide_eq_true (show 0 < (pre.length:Int) by omega)]
        simp only [cond_true,Bool.true_and]
        have:pre.length < 1+s.Covers.length:=by have:=hI.len; omega
        have:=hs.covs
        refine Qb ⟨by omega,by omega⟩ (Gn ⟨Y9 (m:=pre.length - 1) (by omega) hp1 (Gn fun h=>?_),Y9 (m:=pre.length - 1) (by omega) hp1 (Gn fun h hh=>?_)⟩)
        · have hlt:p < y:=by have:=of_decide_eq_false h; omega
          exact⟨H1f hI.mem hyok,pw_snoc hI.sorted (Hc8 hI.sorted hp2 hlt)⟩
        · have h:=of_decide_eq_true h
          have hso:=hh.sorted
          rw [e] at hso
          have:=Gbd hso p hp3
          omega
      · have h0:pre=[]:=List.eq_nil_of_length_eq_zero (by omega)
        subst h0
        exact Gn ⟨Gn fun _=>⟨fun z hz=>(List.mem_singleton.1 hz) ▸ hyok,List.pairwise_singleton ..⟩,Gn fun h=>Bool.noConfusion h⟩
    refine H4 (wp_mono hprev (fun v hv=>?_))
    obtain⟨p,hp,h1⟩:=hv.1
    obtain⟨p',hp',h2⟩:=hv.2
    rw [hp] at hp'; cases hp'
    rw [hp]
    refine H4 (Gn (H7 (fun h=>no (h2 h)) (fun h=>hnx _ (h1 h))))
  · exact H4 (wp_mono (G62 hs.right hs.tier hl) (fun r hr=>Gn (hr.trans ⟨fun h=>⟨hI,h⟩,fun h=>h.2⟩)))
theorem cmp_less (x y:Int):G6f x y=some (decide (x < y)):=by
  unfold G6f Yu
  rw [decide_eq_false (show ¬ (x≠x) from fun h=>h rfl)]
  rfl
theorem shr1 (z:Int) (h0:0≤z) (h1:z≤2000):G81 .u64 (IntKind.u64.wrap z) 1=z / 2:=by
  have e:IntKind.u64.wrap z=z:=by
    simp only [IntKind.wrap,IntKind.signed,IntKind.bits]
    simp
    omega
  rw [e]
  unfold G81
  rw [show min 1 IntKind.u64.bits=1 from rfl,Int.fdiv_eq_ediv_of_nonneg _ (by decide)]
  rfl
theorem J9d {F:Nat} {o:List Int} {t:Int} (ho:o.Pairwise (· < ·)) (hl:o.length≤1000) (hF:o.length < F) :
    Wp (Qt F o t) (fun r=>∃ n:Nat,r.1=(n:Int)∧n≤o.length∧(∀ a∈o.take n,a < t)∧(∀ a∈o.drop n,t≤a)∧(r.2=true ↔ o[n]? = some t)):=by
  unfold Qt
  have hpw:=List.pairwise_iff_getElem.1 ho
  refine wp_loop (fun st=>∃ i j:Nat,st=((i:Int),(j:Int))∧i≤j∧j≤o.length∧(∀ a∈o.take i,a < t)∧(∀ a∈o.drop j,t≤a)) (fun st=>(st.2 - st.1).toNat) ⟨0,o.length,rfl,Nat.zero_le _,Nat.le_refl _,by simp,by simp⟩ (by show ((o.length:Int) - 0).toNat < F; omega) (fun st nx hI hnx=>?_)
  obtain⟨i,j,rfl,h1,h2,h3,h4⟩:=hI
  refine H7 (fun h=>?_) (fun h=>?_)
  · have h:=of_decide_eq_true h
    refine Qb ⟨by omega,by omega⟩ ?_
    rw [shr1 _ (by omega) (by omega)]
    have hm:((i:Int)+(j:Int)) / 2=(((i+j) / 2:Nat):Int):=by omega
    rw [hm]
    have hk1:i≤(i+j) / 2:=by omega
    have hk2:(i+j) / 2 < j:=by omega
    generalize (i+j) / 2=k at hk1 hk2
    have hg:o[k]? = some (o[k]'(by omega)):=List.getElem?_eq_getElem (by omega)
    refine Qb ⟨by omega,by omega⟩ (Y9 rfl hg (Gu (cmp_less _ _) (H7 (fun hh=>Qb ⟨by omega,by omega⟩ (hnx _ ⟨k+1,j,by simp,by omega,h2,fun a ha=>?_,h4⟩ (by simp only; omega))) (fun hh=>hnx _ ⟨i,k,rfl,hk1,by omega,h3,fun a ha=>?_⟩ (by simp only; omega)))))
    · have hh:=of_decide_eq_true hh
      obtain⟨q,hq,rfl⟩:=List.mem_iff_getElem.1 ha
      rw [List.length_take] at hq
      rw [List.getElem_take]
      rcases Nat.lt_or_ge q k with g | g
      · have:=hpw q k (by omega) (by omega) g; omega
      · have:q=k:=by omega
        subst this; exact hh
    · have hh:=of_decide_eq_false hh
      obtain⟨q,hq,rfl⟩:=List.mem_iff_getElem.1 ha
      rw [List.length_drop] at hq
      rw [List.getElem_drop]
      rcases Nat.eq_zero_or_pos q with g | g
      · subst g; simp only [Nat.add_zero]; omega
      · have:=hpw k (k+q) (by omega) (by omega) (by omega); omega
  · have h:=of_decide_eq_false h
    have hij:i=j:=by omega
    subst hij
    by_cases hlt:i < o.length
    · have hg:o[i]? = some o[i]:=List.getElem?_eq_getElem hlt
      rw [decide_eq_true (show (i:Int) < (o.length:Int) by omega)]
      simp only [cond_true,Bool.true_and]
      refine H4 (Y9 rfl hg (Gn ?_))
      by_cases he:o[i]=t
      · rw [decide_eq_true he]
        exact H4 (Gn (H4 (Gn (H4 (Gn (Gn ⟨i,rfl,h2,h3,h4,by simp [hg,he]⟩))))))
      · rw [decide_eq_false he]
        simp only [Bool.not_false,cond_true,Bool.true_and]
        refine H4 (Y9 rfl hg (Gn ?_))
        unfold G0f
        rw [decide_eq_false (show ¬ (o[i]≠o[i]) from fun h=>h rfl)]
        exact H4 (Gn (H4 (Gn (Gn ⟨i,rfl,h2,h3,h4,by simp [hg,he]⟩))))
    · rw [decide_eq_false (show ¬ ((i:Int) < (o.length:Int)) by omega)]
      exact H4 (Gn (H4 (Gn (H4 (Gn (H4 (Gn (Gn ⟨i,rfl,h2,h3,h4,by simp [List.getElem?_eq_none (show o.length≤i by omega)]⟩))))))))
end Go.Proofs.YtknalejjpofoaaaGreat
set_option maxRecDepth 100000
set_option linter.unusedVariables false
namespace Go.Proofs.YtknalejjpofoaaaGreat
open Go.RowKit

theorem wp_dec {m:Option Bool} {p:Prop} [Decidable p] (h:Wp m (fun r=>r=true ↔ p)):m=some (decide p):=by
  obtain⟨r,hr,h⟩:=h
  rw [hr]
  congr 1
  cases r with
  | false=>exact(decide_eq_false (fun hp=>by have:=h.2 hp; cases this)).symm
  | true=>exact(decide_eq_true (h.1 rfl)).symm
instance (a b:Slot):Decidable (H5f a b):=by unfold H5f Ge6; infer_instance
def Hdc (s:Gw) (o:List Int) (x:Slot):Prop:=∃ (m:Nat) (c:G4),x.G4=(m:Int)∧s.Columns[m]? = some c∧c.Deck=false∧0≤Jt s c∧Jt s c ∉ o
theorem find_at {l:List Stowed} (hs:l.Pairwise (fun a b=>a.Gd < b.Gd)) {x:Stowed} (hx:x∈l):∃ q:Nat,G20 l x.Gd=some (q:Int)∧l[q]? = some x:=by
  rw [Q04]
  rcases G49 (fun z:Stowed=>decide (z.Gd=x.Gd)) l with ⟨_,h2,_⟩ | ⟨q,x1,h1,h2,h3,_⟩
  · have:=h2 x hx; rw [decide_eq_true rfl] at this; cases this
  have hx1:x1=x:=Haa hs (List.mem_of_getElem? h2) hx (of_decide_eq_true h3)
  subst hx1
  exact⟨q,by rw [h1],h2⟩
theorem find_no {l:List Stowed} {id:Int} (hx:id ∉ l.map (·.Gd)):G20 l id=some (-1):=by
  rw [Q04]
  rcases G49 (fun z:Stowed=>decide (z.Gd=id)) l with ⟨h1,_,_⟩ | ⟨q,x1,h1,h2,h3,_⟩
  · rw [h1]
  · exact(hx (List.mem_map.2 ⟨x1,List.mem_of_getElem? h2,of_decide_eq_true h3⟩)).elim
theorem Ha7 {o:List Int} {v:Int}:o.any (fun y=>decide (v=y))=true ↔ v∈o:=by
  rw [List.any_eq_true]
  exact⟨fun⟨y,hy,e⟩=>of_decide_eq_true e ▸ hy,fun h=>⟨v,h,decide_eq_true rfl⟩⟩
theorem contains_no {o:List Int} {v:Int}:o.any (fun y=>decide (v=y))=false ↔ v ∉ o:=by
  rw [← Bool.not_eq_true,Ha7]
theorem Jd1.checked {s:Gw} {boxes:List Gd} {l:List Stowed} (h:Jd1 s boxes l) {o:List Int} (hO:Ys s o):Yj s boxes l o=some true:=by
  have hl:=h.len
  exact Yq (wp_mono (checked_spec (Gda h.ship) boxes l o (by omega)) (fun r hr=>hr.2 ⟨hO,h.right⟩))
theorem free_spec {s:Gw} {boxes:List Gd} {l:List Stowed} {o:List Int} (h:Jd1 s boxes l) (hO:Ys s o) {x:Stowed} (hx:x∈l) :
    Wp (Gad s boxes l o x.Gd) (fun r=>(r=90∧H0c l x.Slot≠[])∨(r=91∧H0c l x.Slot=[]∧Hdc s o x.Slot)∨(r=0∧H0c l x.Slot=[]∧¬ Hdc s o x.Slot)):=by
  have hs:=Gda h.ship
  unfold Gad
  refine Gu (h.checked hO) (H7 (fun h=>by cases h) (fun _=>Gu (above_at h hx) (H7 (fun h=>(of_decide_eq_true h rfl).elim) (fun _=>H7 (fun h=>Gn (.inl ⟨rfl,fun e=>?_⟩)) (fun h0=>?_)))))
  · rw [e] at h; exact absurd (of_decide_eq_true h) (by simp)
  have h0:H0c l x.Slot=[]:=List.eq_nil_of_length_eq_zero (by have:=of_decide_eq_false h0; simp only at this; omega)
  obtain⟨q,hq1,hq2⟩:=find_at h.right.sorted hx
  obtain⟨m,c,hm,hc⟩:=h.colIn hx
  refine Gu hq1 (Y9 rfl hq2 ?_)
  rw [hm]
  refine Gu (stow_hatch hc (fun x hx=>by have:=hs.rows x hx; omega) (by have:=hs.covs; omega)) ?_
  have hcl:Hdc s o x.Slot ↔ (c.Deck=false∧0≤Jt s c∧Jt s c ∉ o):=by
    constructor
    · rintro⟨m',c',e1,e2,e3,e4,e5⟩
      have:m'=m:=by omega
      subst this
      rw [hc] at e2; cases e2
      exact⟨e3,e4,e5⟩
    · rintro⟨e3,e4,e5⟩
      exact⟨m,c,hm,hc,e3,e4,e5⟩
  by_cases hd:c.Deck=true
  · rw [if_pos hd]
    exact H4 (Gn (H7 (fun h=>by cases h) (fun _=>Gn (.inr (.inr ⟨rfl,h0,fun hh=>by rw [(hcl.1 hh).1] at hd; cases hd⟩)))))
  rw [if_neg hd]
  have hd:c.Deck=false:=by simpa using hd
  by_cases hk:0≤Jt s c
  · rw [decide_eq_true hk]
    simp only [cond_true,Bool.true_and]
    refine Gu (Ha6 _ _) (H7 (fun h=>Gn (.inr (.inl ⟨rfl,h0,hcl.2 ⟨hd,hk,contains_no.1 (by simpa using h)⟩⟩))) (fun h=>Gn (.inr (.inr ⟨rfl,h0,fun hh=>(hcl.1 hh).2.2 (Ha7.1 (by simpa using h))⟩))))
  · rw [decide_eq_false hk]
    exact H4 (Gn (H7 (fun h=>by cases h) (fun _=>Gn (.inr (.inr ⟨rfl,h0,fun hh=>hk (hcl.1 hh).2.1⟩)))))
theorem take_spec {s:Gw} {boxes:List Gd} {l:List Stowed} {o:List Int} (h:Jd1 s boxes l) {x:Stowed} (hx:x∈l) {v:Int} (hv:Gad s boxes l o x.Gd=some v) :
    Wp (Gfa s boxes l o x.Gd) (fun r=>r.2=v∧(v=0→∃ pre post,l=pre++x::post∧r.1=pre++post)):=by
  unfold Gfa
  refine Gu hv (H7 (fun h=>Gn ⟨rfl,fun e=>(of_decide_eq_true h e).elim⟩) (fun h0=>?_))
  have h0:v=0:=by have:=of_decide_eq_false h0; omega
  obtain⟨q,hq1,hq2⟩:=find_at h.right.sorted hx
  refine Gu hq1 ?_
  have hlt:=(List.getElem?_eq_some_iff.1 hq2).1
  have hl:=h.len
  have e:Ru l (q:Int)=some (l.eraseIdx q):=by
    unfold Ru
    rw [decide_eq_true (show (0:Int)≤(q:Int) by omega),decide_eq_true (show (q:Int) < (l.length:Int) by omega),decide_eq_true (show l.length≤100000 by omega),show ((q:Int)).toNat=q by omega]
    rfl
  refine Gu e (Gn ⟨h0.symm,fun _=>⟨l.take q,l.drop (q+1),?_,?_⟩⟩)
  · have hg:l[q]=x:=Option.some.inj ((List.getElem?_eq_getElem hlt).symm.trans hq2)
    have:=List.take_append_drop q l
    rw [List.drop_eq_getElem_cons hlt,hg] at this
    exact this.symm
  · exact List.eraseIdx_eq_take_drop_succ l q
def Q29 (s:Gw) (l:List Stowed) (k:Int):Prop:=∀ y∈l,∀ (m:Nat) (c:G4),y.Slot.G4=(m:Int)→s.Columns[m]? = some c→c.Deck=true→Jt s c≠k
theorem open_spec {F:Nat} {s:Gw} {boxes:List Gd} {l:List Stowed} {o:List Int} (h:Jd1 s boxes l) (hO:Ys s o) (hF:20≤F) {k:Nat} (hk:k < s.Covers.length) :
    Wp (Gfb F s boxes l o (k:Int)) (fun r=>(¬ Q29 s l (k:Int)∧r=([],95))∨(Q29 s l (k:Int)∧r.2=0∧Ys s r.1∧∀ a,a∈r.1 ↔ a∈o∨a=(k:Int))):=by
  have hs:=Gda h.ship
  have hl:=h.len
  have hcl:=h.ship.covs.len
  have hol:=hO.len
  unfold Gfb
  refine Gu (h.checked hO) (H7 (fun h=>by cases h) (fun _=>H7 (fun h=>?_) (fun _=>?_)))
  · simp only [Bool.or_eq_true,decide_eq_true_eq] at h; omega
  refine H4 (wp_mono (stow_upon (lim_ship h.ship) hk (fun x hx=>by have:=hs.rows x hx; omega) (by omega)) (fun up hup=>H7 (fun hh=>Gn (.inl ⟨fun h0=>?_,rfl⟩)) (fun hh=>?_)))
  · have hh:=of_decide_eq_true hh
    obtain⟨a,ha⟩:∃ a,a∈up:=by
      cases up with
      | nil=>simp at hh
      | cons a r=>exact⟨a,by simp⟩
    obtain⟨y,hy,_,m,c,e1,e2,e3,e4⟩:=(hup a).1 ha
    exact h0 y hy m c e1 e2 e3 e4
  have hno:Q29 s l (k:Int):=fun y hy m c e1 e2 e3 e4=>by
    have:=(hup y.Gd).2 ⟨y,hy,rfl,m,c,e1,e2,e3,e4⟩
    have hh:=of_decide_eq_false hh
    have:up≠[]:=fun e=>by rw [e] at this; cases this
    have:=List.length_pos_iff.2 this
    omega
  refine H4 (wp_mono (J9d hO.sorted (by omega) (by omega)) (fun r hr=>?_))
  obtain⟨n,h1,h2,h3,h4,h5⟩:=hr
  refine H7 (fun hf=>?_) (fun hf=>?_)
  · have hin:(k:Int)∈o:=List.mem_of_getElem? (h5.1 hf)
    have e:Q3 o=some o:=by
      unfold Q3
      refine Hf1 (fun b hb=>?_)
      cases b with
      | true=>rw [hb rfl]; rfl
      | false=>
        show need _ _=_
        unfold need
        rw [J2b (by simp only [List.length_nil]; omega)]
        rfl
    exact Gu e (Gn (.inr ⟨hno,rfl,hO,fun a=>⟨.inl,fun hh=>hh.elim id (fun e=>e ▸ hin)⟩⟩))
  · have hf:¬ o[n]? = some (k:Int):=fun e=>by rw [h5.2 e] at hf; cases hf
    have e:G51 o r.1 (k:Int)=some (o.take n++(k:Int)::o.drop n):=by
      unfold G51
      rw [h1,decide_eq_true (show (0:Int)≤(n:Int) by omega),decide_eq_true (show (n:Int)≤(o.length:Int) by omega),decide_eq_true (show o.length≤100000 by omega),show ((n:Int)).toNat=n by omega]
      rfl
    have hmem:∀ a,a∈o.take n++(k:Int)::o.drop n ↔ a∈o∨a=(k:Int):=fun a=>by
      have:a∈o ↔ a∈o.take n∨a∈o.drop n:=by rw [← List.mem_append,List.take_append_drop]
      rw [this,List.mem_append,List.mem_cons]
      constructor
      · rintro(h | h | h)
        · exact .inl (.inl h)
        · exact .inr h
        · exact .inl (.inr h)
      · rintro((h | h) | h)
        · exact .inl h
        · exact .inr (.inr h)
        · exact .inr (.inl h)
    refine Gu e (Gn (.inr ⟨hno,rfl,⟨fun a ha=>?_,?_⟩,hmem⟩))
    · rcases (hmem a).1 ha with h | h
      · exact hO.mem a h
      · omega
    · have hso:=hO.sorted
      rw [← List.take_append_drop n o,List.pairwise_append] at hso
      refine List.pairwise_append.2 ⟨hso.1,List.pairwise_cons.2 ⟨fun a ha=>?_,hso.2.1⟩,fun a ha b hb=>?_⟩
      · have h6:=h4 a ha
        have:a≠(k:Int):=fun e=>by
          subst e
          obtain⟨j,hj,e2⟩:=List.mem_iff_getElem.1 ha
          rw [List.length_drop] at hj
          rw [List.getElem_drop] at e2
          have hp:=List.pairwise_iff_getElem.1 hO.sorted
          rcases Nat.eq_zero_or_pos j with g | g
          · subst g
            exact hf (by rw [← e2]; simp [List.getElem?_eq_getElem (show n < o.length by omega)])
          · have g1:=hp n (n+j) (by omega) (by omega) (by omega)
            have g2:=h4 o[n] (List.mem_iff_getElem.2 ⟨0,by rw [List.length_drop]; omega,by rw [List.getElem_drop]; simp⟩)
            omega
        omega
      · rcases List.mem_cons.1 hb with rfl | hb
        · exact h3 a ha
        · exact hso.2.2 a ha b hb
end Go.Proofs.YtknalejjpofoaaaGreat
