/-
 Small laws that the texts of BoundTells share. How many bx of some groups have to be left out,in plain word
-/
import Derived.Test.YthkihfoleenlmaaGreatWp
import Derived.Test.YthkihfoleenlmaaGreatLentF
set_option maxRecDepth 100000
set_option linter.unusedVariables false
namespace Go.Proofs.YthkihfoleenlmaaGreat
open Go.RowKit

theorem wp_loop {β σ:Type} {Q:β→Prop} (I:σ→Prop) (μ:σ→Nat) {b:(σ→Option β)→σ→Option β} {F:Nat} {s:σ} (h0:I s) (hF:μ s < F)
    (hb:∀ s nx,I s→(∀ s',I s'→μ s' < μ s→Wp (nx s') Q)→Wp (b nx s) Q):Wp (loop b F s) Q:=by
  induction F generalizing s with
  | zero=>omega
  | succ F ih=>
    rw [loop]
    exact hb s _ h0 (fun s' h1 h2=>ih h1 (by omega))
theorem mH {n k:Nat} (hn:n≤1000001) (hk:k≤1000):decide (n*k≤140737488355328∧n≤maxLen)=true:=by
  have h:n*k≤1000001*1000:=Nat.mul_le_mul hn hk
  have h2:n≤maxLen:=Nat.le_trans hn (by decide)
  exact Nr ⟨by omega,h2⟩
theorem yL {α β:Type} {x:α} {k:α→Option β}:bnd (some x) k=k x:=rfl
def YG {α:Type} (p:α→Bool) (l:List α):Int:=match l.findIdx? p with
  | some j=>(j:Int)
  | none => -1
theorem yH {α:Type} {p:α→Bool} {f:α→Option Bool} {xs:List α} (hf:∀ x∈xs,f x=some (p x)) :
    each (fun y i (_:Unit) nx=>bnd (f y) fun r=>bif r then some (i:Int) else nx ()) (fun _=>some (-1)) xs 0 ()=some (YG p xs):=by
  have key:∀ (xs:List α),(∀ x∈xs,f x=some (p x))→∀ i:Nat,each (fun y i (_:Unit) nx=>bnd (f y) fun r=>bif r then some (i:Int) else nx ()) (fun _=>some (-1)) xs i ()=some (match xs.findIdx? p with
    | some j=>((i+j:Nat):Int)
    | none => -1):=by
    intro xs
    induction xs with
    | nil=>intro _ i; rfl
    | cons x xs ih=>
      intro hf i
      rw [each,hf x (List.mem_cons_self ..),yL,List.findIdx?_cons]
      cases p x with
      | true=>simp
      | false=>
        simp only [cond_false]
        rw [ih (fun y hy=>hf y (List.mem_cons_of_mem _ hy)) (i+1)]
        cases xs.findIdx? p with
        | none=>simp
        | some j=>show some (((i+1+j:Nat)):Int)=some (((i+(j+1):Nat)):Int); rw [show i+1+j=i+(j+1) by omega]
  rw [key xs hf 0]
  unfold YG
  cases xs.findIdx? p <;> simp
theorem wW {α:Type} (p:α→Bool) (l:List α):(YG p l = -1∧(∀ x∈l,p x=false)∧l.find? p=none)∨∃ (m:Nat) (x:α),YG p l=(m:Int)∧l[m]? = some x∧p x=true∧l.find? p=some x:=by
  unfold YG
  cases h:l.findIdx? p with
  | none=>
    have:=List.findIdx?_eq_none_iff.1 h
    exact .inl ⟨rfl,this,List.find?_eq_none.2 (fun x hx=>by rw [this x hx]; simp)⟩
  | some j=>
    obtain⟨hj,h1,h2⟩:=List.findIdx?_eq_some_iff_getElem.1 h
    refine .inr ⟨j,l[j],rfl,by simp [hj],h1,?_⟩
    refine List.find?_eq_some_iff_getElem.2 ⟨h1,j,hj,rfl,fun k hk=>?_⟩
    simpa using h2 k hk
theorem JM {α:Type} {p:α→Bool} {l:List α}:decide (0≤YG p l)=l.any p:=by
  rcases wW p l with ⟨h1,h2,_⟩ | ⟨m,x,h1,h2,h3,_⟩
  · rw [h1]
    refine Eq.symm (List.any_eq_false.2 fun x hx=>?_)
    rw [h2 x hx]; exact Bool.false_ne_true
  · rw [h1,Nr (by omega)]
    exact(List.any_eq_true.2 ⟨x,Nw h2,h3⟩).symm

structure Zi (c:G1):Prop where
  whole:0≤c.Whole∧c.Whole≤12
  half:0≤c.Half∧c.Half≤12

structure JU (T:Int) (c:G1) (h v:Int):Prop where
  att:v=c.Whole+c.Half∨∃ w,0≤w∧w≤c.Whole∧w≤T*(h / 2)∧v=c.Whole - w+c.Half - min c.Half (T*h - 2*w)
  top:v≤c.Whole+c.Half
  least:∀ w,0≤w→w≤c.Whole→w≤T*(h / 2)→v≤c.Whole - w+c.Half - min c.Half (T*h - 2*w)

theorem G52 {T h a b:Int} (h1:0≤T∧T≤a) (h2:0≤h∧h≤b):0≤T*h∧T*h≤a*b:=
  ⟨Int.mul_nonneg h1.1 h2.1,Int.mul_le_mul h1.2 h2.2 h2.1 (by omega)⟩

theorem Hb9 {F:Nat} {c:G1} {T h:Int} (hc:Zi c) (hT:0≤T∧T≤20) (hh:0≤h∧h≤40) (hF:60≤F):Wp (fP F c T h) (JU T c h):=by
  unfold fP
  obtain⟨⟨w1,w2⟩,⟨v1,v2⟩⟩:=hc
  have hA:=G52 (b:=20) hT (⟨by omega,by omega⟩:0≤h / 2∧h / 2≤20)
  have hB:=G52 hT hh
  have hq:h.tdiv 2=h / 2:=Int.tdiv_eq_ediv_of_nonneg hh.1
  refine Ji ⟨by omega,by omega⟩ ?_
  refine wp_loop (fun s:Int×Int=>0≤s.2∧s.2≤c.Whole+1∧(s.1=c.Whole+c.Half∨∃ w,0≤w∧w≤c.Whole∧w≤T*(h / 2)∧s.1=c.Whole - w+c.Half - min c.Half (T*h - 2*w))∧s.1≤c.Whole+c.Half ∧
      ∀ w,0≤w→w < s.2→w≤c.Whole→w≤T*(h / 2)→s.1≤c.Whole - w+c.Half - min c.Half (T*h - 2*w))
    (fun s=>(c.Whole+1 - s.2).toNat) ⟨by omega,by show (0:Int)≤c.Whole+1; omega,.inl rfl,Int.le_refl _,fun w h1 h2=>by simp only at h2; omega⟩ (by simp only; omega) (fun s nx hI h5=>?_)
  obtain⟨i1,i2,i3,i4,i5⟩:=hI
  refine Jp (Ha8 (by omega) (by omega) ?_)
  rw [hq]
  refine Ji ⟨by omega,by omega⟩ (J8 (fun h0=>?_) (fun h0=>H4 ⟨i3,i4,fun w h1 h2 h3=>i5 w h1 ?_ h2 h3⟩))
  · have h0:=Np h0
    refine Ji ⟨by omega,by omega⟩ (Ji ⟨by omega,by omega⟩ (Ji ⟨by omega,by omega⟩ (Ji ⟨by omega,by omega⟩ (Ji ⟨by omega,by omega⟩ (Ji ⟨by omega,by omega⟩ (Ji ⟨by omega,by omega⟩ ?_))))))
    refine h5 _ ⟨by simp only; omega,by simp only; omega,?_,by simp only; omega,fun w h1 h2 h3 h4=>?_⟩ (by simp only; omega)
    · simp only
      rcases Int.le_total s.1 (c.Whole - s.2+c.Half - min c.Half (T*h - 2*s.2)) with hm | hm
      · rw [Int.min_eq_left hm]; exact i3
      · rw [Int.min_eq_right hm]; exact .inr ⟨s.2,i1,by omega,by omega,rfl⟩
    · simp only at h2 ⊢
      by_cases e:w=s.2
      · subst e; omega
      · have:=i5 w h1 (by omega) h3 h4
        omega
  · have:=Nq h0
    omega

def iD (F:Nat) (T:Int) (c:G1) (h:Nat):Int:=(fP F c T (h:Int)).getD 0
theorem kS {F:Nat} {c:G1} {T:Int} {h:Nat} (hc:Zi c) (hT:0≤T∧T≤20) (hh:h≤40) (hF:60≤F):fP F c T (h:Int)=some (iD F T c h)∧JU T c (h:Int) (iD F T c h):=by
  obtain⟨v,e,hv⟩:=Hb9 (h:=(h:Int)) hc hT ⟨by omega,by omega⟩ hF
  unfold iD
  rw [e]
  exact⟨rfl,hv⟩
theorem JU.nonneg {T:Int} {c:G1} {h v:Int} (hc:Zi c) (i:JU T c h v):0≤v:=by
  obtain⟨⟨w1,w2⟩,⟨v1,v2⟩⟩:=hc
  rcases i.att with e | ⟨w,h1,h2,h3,e⟩ <;> omega
theorem JU.mono {T T':Int} {c:G1} {h v v':Int} (hT:T≤T') (hh:0≤h) (i:JU T c h v) (i':JU T' c h v'):v'≤v:=by
  rcases i.att with e | ⟨w,h1,h2,h3,e⟩
  · rw [e]; exact i'.top
  · have hA:T*(h / 2)≤T'*(h / 2):=Int.mul_le_mul_of_nonneg_right hT (by omega)
    have hB:T*h≤T'*h:=Int.mul_le_mul_of_nonneg_right hT hh
    have:=i'.least w h1 h2 (by omega)
    omega

def jD (ps:List (G1×Nat)):Nat:=(ps.map (·.2)).sum
def aP (F:Nat) (T:Int) (ps:List (G1×Nat)):Int:=(ps.map (fun p=>iD F T p.1 p.2)).sum
structure fY (F:Nat) (T:Int) (l:List G1) (a:Nat) (v:Int):Prop where
  att:∃ ps:List (G1×Nat),ps.map (·.1)=l∧jD ps≤a∧aP F T ps=v
  least:∀ ps:List (G1×Nat),ps.map (·.1)=l→jD ps≤a→v≤aP F T ps
section
variable {F:Nat} {T T':Int} {l l1 l2:List G1} {a a':Nat} {v v':Int} {c:G1}
theorem pI (p q:List (G1×Nat)):jD (p++q)=jD p+jD q:=by unfold jD; simp
theorem pO (p q:List (G1×Nat)):aP F T (p++q)=aP F T p+aP F T q:=by unfold aP; simp
theorem G76:∀ {ps:List (G1×Nat)} {p:G1×Nat},p∈ps→p.2≤jD ps
  | q::ps,p,h=>by
    have e:jD (q::ps)=q.2+jD ps:=by simp [jD]
    rcases Pd.1 h with rfl | h
    · omega
    · have:=G76 h; omega
theorem G3c:∀ (ps:List (G1×Nat)),(∀ p∈ps,iD F T' p.1 p.2≤iD F T p.1 p.2)→aP F T' ps≤aP F T ps
  | [],_=>Int.le_refl _
  | p::ps,h=>by
    have e1:aP F T' (p::ps)=iD F T' p.1 p.2+aP F T' ps:=by simp [aP]
    have e2:aP F T (p::ps)=iD F T p.1 p.2+aP F T ps:=by simp [aP]
    have h1:=h p (List.mem_cons_self ..)
    have h2:=G3c ps (fun q hq=>h q (List.mem_cons_of_mem _ hq))
    omega
theorem fY.anti (h:fY F T l a v) (h':fY F T l a' v') (ha:a≤a'):v'≤v:=by
  obtain⟨ps,e1,e2,e3⟩:=h.att
  rw [← e3]
  exact h'.least ps e1 (by omega)
theorem fY.wide (hl:∀ c∈l,Zi c) (hT:0≤T) (h0:T≤T') (h1:T'≤20) (ha:a≤a') (hb:a≤40) (hF:60≤F) (h:fY F T l a v) (h':fY F T' l a' v'):v'≤v:=by
  obtain⟨ps,e1,e2,e3⟩:=h.att
  refine Int.le_trans (h'.least ps e1 (by omega)) ?_
  rw [← e3]
  refine G3c ps (fun p hp=>?_)
  have hc:=hl p.1 (e1 ▸ Pb.2 ⟨p,hp,rfl⟩)
  have hw:=G76 hp
  exact JU.mono h0 (by omega) (kS hc ⟨hT,by omega⟩ (by omega) hF).2 (kS hc ⟨by omega,h1⟩ (by omega) hF).2
theorem fY.step {lv:Nat→Int} {H:Nat} {x:Int} (hl:∀ a≤H,fY F T l a (lv a)) (ha:a≤H) (h1:∃ h≤a,x=lv (a - h)+iD F T c h) (h2:∀ h≤a,x≤lv (a - h)+iD F T c h):fY F T (l++[c]) a x:=by
  refine⟨?_,fun ps e1 e2=>?_⟩
  · obtain⟨h,hh,e⟩:=h1
    obtain⟨ps,e1,e2,e3⟩:=(hl (a - h) (by omega)).att
    refine⟨ps++[(c,h)],by rw [List.map_append,e1]; rfl,?_,?_⟩
    · rw [pI]; simp [jD] at e2 ⊢; omega
    · rw [pO,e3,e]; simp [aP]
  · obtain⟨p1,p2,rfl,q1,q2⟩:=List.map_eq_append_iff.1 e1
    cases p2 with
    | nil=>cases q2
    | cons p p3=>
      simp only [List.map_cons,List.cons.injEq,List.map_eq_nil_iff] at q2
      obtain⟨rfl,rfl⟩:=q2
      rw [pI,show jD [p]=p.2 by simp [jD]] at e2
      rw [pO,show aP F T [p]=iD F T p.1 p.2 by simp [aP]]
      have g1:=(hl (a - p.2) (by omega)).least p1 q1 (by omega)
      have g2:=h2 p.2 (by omega)
      omega
end

def Good (lv ov:Nat→Int) (k a:Nat) (x:Int):Prop:=(x = -1∧k=0)∨(0 < k∧0≤x∧(∃ h≤a,x=lv (a - h)+ov h)∧∀ h < k,h≤a→x≤lv (a - h)+ov h)

theorem H91 {F:Nat} {c:G1} {T:Int} {H:Nat} {L:List Int} (lv:Nat→Int) (hc:Zi c) (hT:0≤T∧T≤20) (hH:H≤40) (hF:60≤F)
    (a9:Qq F [(-1)] ((H:Int)+1)=some (List.replicate (H+1) (-1))) (hL:∀ a≤H,L[a]? = some (lv a)) (hb:∀ a≤H,0≤lv a∧lv a≤100000) (a4:∀ a b,a≤b→b≤H→lv b≤lv a) :
    Wp (eN F c (H:Int) T L) (fun N=>N.length=H+1∧∀ a≤H,∃ x,N[a]? = some x∧(∃ h≤a,x=lv (a - h)+iD F T c h)∧∀ h≤a,x≤lv (a - h)+iD F T c h):=by
  unfold eN
  have a5:∀ h≤H,0≤iD F T c h∧iD F T c h≤24:=fun h hh=>by
    have i:=(kS (h:=h) hc hT (by omega) hF).2
    have:=i.top
    have h1:=hc.whole
    have h2:=hc.half
    exact⟨i.nonneg hc,by omega⟩
  refine Ji ⟨by omega,by omega⟩ (Hh a9 ?_)
  refine lW (fun N=>N.length=H+1∧∀ a≤H,∃ x,N[a]? = some x∧(∃ h≤a,x=lv (a - h)+iD F T c h)∧∀ h≤a,x≤lv (a - h)+iD F T c h) (fun K hK=>?_) (fun N hN=>H4 hN)
  refine wp_loop (fun s:Int×List Int=>∃ k:Nat,s.1=(k:Int)∧k≤H+1∧s.2.length=H+1∧∀ a≤H,∃ x,s.2[a]? = some x∧Good lv (iD F T c) k a x) (fun s=>H+1 - s.1.toNat)
    ⟨0,rfl,by omega,by simp,fun a ha=>⟨-1,by show (List.replicate (H+1) (-1:Int))[a]? = _; rw [List.getElem?_replicate,if_pos (by omega)],.inl ⟨rfl,rfl⟩⟩⟩ (by simp only; omega) (fun s nx hI b1=>?_)
  obtain⟨k,hk,b5,h8,hN⟩:=hI
  rw [hk]
  refine J8 (fun h=>?_) (fun h=>hK _ ⟨h8,fun a ha=>?_⟩)
  · have b2:k≤H:=by have:=Np h; omega
    refine Hh (kS hc hT (by omega) hF).1 ?_
    have b6:=a5 k b2
    refine wp_loop (fun s:Int×List Int=>∃ m:Nat,s.1=(m:Int)∧k≤m∧m≤H+1∧s.2.length=H+1∧∀ a≤H,∃ x,s.2[a]? = some x∧Good lv (iD F T c) (if k≤a∧a < m then k+1 else k) a x) (fun s=>H+1 - s.1.toNat)
      ⟨k,rfl,Ny,by omega,h8,fun a ha=>by
        obtain⟨x,h1,h2⟩:=hN a ha
        exact⟨x,h1,by rw [if_neg (by omega)]; exact h2⟩⟩ (by simp only; omega) (fun s2 nx2 hJ b0=>?_)
    obtain⟨m,hm,h9,b7,h4,a0⟩:=hJ
    rw [hm]
    refine J8 (fun h=>?_) (fun h=>?_)
    · have b3:m≤H:=by have:=Np h; omega
      obtain⟨x,hx,hg⟩:=a0 m b3
      rw [if_neg (by omega)] at hg
      have b8:=hb (m - k) (by omega)
      have h5:∀ {N:List Int} {y:Int},N[m]? = some y→(∀ a,a≠m→N[a]? = s2.2[a]?)→Good lv (iD F T c) (k+1) m y→∀ a≤H,∃ x,N[a]? = some x∧Good lv (iD F T c) (if k≤a∧a < m+1 then k+1 else k) a x:=fun {N y} e1 e2 g a ha=>by
        by_cases e:a=m
        · subst e; exact⟨y,e1,by rw [if_pos ⟨h9,by omega⟩]; exact g⟩
        · obtain⟨x,h1,h2⟩:=a0 a ha
          refine⟨x,by rw [e2 a e]; exact h1,?_⟩
          by_cases a1:k≤a∧a < m
          · rw [if_pos ⟨a1.1,by omega⟩]; rw [if_pos a1] at h2; exact h2
          · rw [if_neg (by omega)]; rw [if_neg a1] at h2; exact h2
      have h6:(s2.2.set (m:Int).toNat (lv (m - k)+iD F T c k))[m]? = some (lv (m - k)+iD F T c k):=by
        rw [show ((m:Int)).toNat=m by omega,List.getElem?_set,if_pos rfl,if_pos (by omega)]
      have h7:∀ a,a≠m→(s2.2.set (m:Int).toNat (lv (m - k)+iD F T c k))[a]? = s2.2[a]? := fun a e=>by
        rw [show ((m:Int)).toNat=m by omega,List.getElem?_set,if_neg (Ne.symm e)]
      refine lW (fun N=>N.length=H+1∧∀ a≤H,∃ x,N[a]? = some x∧Good lv (iD F T c) (if k≤a∧a < m+1 then k+1 else k) a x) (fun K' a2=>?_)
        (fun N hN=>Ji ⟨by omega,by omega⟩ (b0 _ ⟨m+1,by simp,by omega,by omega,hN.1,hN.2⟩ (by simp only [hm]; omega)))
      refine Ji ⟨by omega,by omega⟩ (Qs (m:=m - k) (by omega) (hL _ (by omega)) (Ji ⟨by omega,by omega⟩ (Qs rfl hx ?_)))
      by_cases a6:x < 0
      · rw [Nr a6]
        simp only [Bool.not_true,cond_false,Bool.true_or,cond_true]
        refine Jp (H4 (Qs rfl hx (a2 _ ⟨by rw [List.length_set]; exact h4,h5 h6 h7 (.inr ⟨by omega,by omega,⟨k,h9,rfl⟩,fun q h1 h2=>?_⟩)⟩)))
        rcases hg with ⟨_,e0⟩ | ⟨_,h3,_⟩
        · have:q=k:=by omega
          subst this; exact Int.le_refl _
        · omega
      · rw [Ns a6]
        simp only [Bool.not_false,cond_true,Bool.false_or]
        rcases hg with ⟨h3,_⟩ | ⟨g1,g2,g3,g4⟩
        · omega
        refine Jp (Qs rfl hx (H4 (J8 (fun a3=>Qs rfl hx (a2 _ ⟨by rw [List.length_set]; exact h4,h5 h6 h7 (.inr ⟨by omega,by omega,⟨k,h9,rfl⟩,fun h h1 h2=>?_⟩)⟩)) (fun a3=>a2 _ ⟨h4,h5 hx (fun _ _=>rfl) (.inr ⟨by omega,g2,g3,fun h h1 h2=>?_⟩)⟩))))
        · have:=Np a3
          by_cases e:h=k
          · subst e; exact Int.le_refl _
          · have:=g4 h (by omega) h2; omega
        · have:=Nq a3
          by_cases e:h=k
          · subst e; omega
          · exact g4 h (by omega) h2
    · have b9:m=H+1:=by have:=Nq h; omega
      have a7:∀ a≤H,∃ x,s2.2[a]? = some x∧Good lv (iD F T c) (k+1) a x:=fun a ha=>by
        obtain⟨x,hx,hg⟩:=a0 a ha
        refine⟨x,hx,?_⟩
        by_cases a8:k≤a
        · rw [if_pos ⟨a8,by omega⟩] at hg; exact hg
        · rw [if_neg (fun h=>a8 h.1)] at hg
          rcases hg with ⟨_,rfl⟩ | ⟨g1,g2,g3,g4⟩
          · omega
          · exact .inr ⟨by omega,g2,g3,fun h h1 h2=>g4 h (by omega) h2⟩
      refine J8 (fun hz=>hK _ ⟨h4,fun a ha=>?_⟩) (fun _=>Ji ⟨by omega,by omega⟩ (b1 _ ⟨k+1,by simp,by omega,h4,a7⟩ (by simp only [hk]; omega)))
      have h0:=Np hz
      obtain⟨x,hx,hg⟩:=a7 a ha
      rcases hg with ⟨_,h3⟩ | ⟨g1,g2,g3,g4⟩
      · omega
      · refine⟨x,hx,g3,fun h hh=>?_⟩
        by_cases b4:h < k+1
        · exact g4 h b4 hh
        · have e1:=g4 k (by omega) (by omega)
          have e2:=a4 (a - h) (a - k) (by omega) (by omega)
          have e3:=(a5 h (by omega)).1
          omega
  · obtain⟨x,hx,hg⟩:=hN a ha
    have:=Nq h
    rcases hg with ⟨_,h3⟩ | ⟨g1,g2,g3,g4⟩
    · omega
    · exact⟨x,hx,g3,fun h hh=>g4 h (by omega) hh⟩

theorem H3d {F:Nat} {s:H2} {l:List G1} {T:Int} {H:Nat} (h6:aR s=some T) (hT:0≤T∧T≤20) (a0:H=2*s.Columns.length) (hH:H≤40)
    (h7:Qq F [(-1)] ((H:Int)+1)=some (List.replicate (H+1) (-1))) (hl:∀ c∈l,Zi c) (h5:l.length≤20) (hF:60≤F):Wp (aI F s l) (fun v=>fY F T l H v∧0≤v∧v≤480):=by
  unfold aI
  refine Hh h6 (Ji ⟨by omega,by omega⟩ (Ji ⟨by omega,by omega⟩ ?_))
  have e4:2*(s.Columns.length:Int)=(H:Int):=by omega
  rw [e4]
  refine Hh (x:=H+1) (by
    unfold iM
    rw [Nr (by omega),cond_true]
    congr 1) (Z0 (Nr (by simp only [maxLen]; omega)) ?_)
  refine Rv (fun pre st=>st.length=H+1∧∃ lv:Nat→Int,∀ a≤H,st[a]? = some (lv a)∧fY F T pre a (lv a)∧0≤lv a∧lv a≤24*pre.length)
    ⟨by simp,fun _=>0,fun a ha=>⟨by rw [List.getElem?_replicate,if_pos (by omega)],⟨⟨[],rfl,by simp [jD],rfl⟩,fun ps e1 _=>by
      rw [List.map_eq_nil_iff.1 e1]; exact Int.le_refl _⟩,Int.le_refl _,by simp⟩⟩ (fun pre y post st nx e hI h8=>?_) (fun st hI=>?_)
  · obtain⟨hn,lv,h0⟩:=hI
    have hy:Zi y:=hl y (by rw [e]; simp)
    have hp:pre.length < 20:=by rw [e] at h5; simp only [P5,P1] at h5; omega
    refine Jp (wp_mono (H91 lv hy hT hH hF h7 (fun a ha=>(h0 a ha).1) (fun a ha=>⟨(h0 a ha).2.2.1,by have:=(h0 a ha).2.2.2; omega⟩) (fun a b h9 hb=>(h0 a (by omega)).2.1.anti (h0 b hb).2.1 h9)) (fun N hN=>h8 _ ⟨hN.1,fun a=>(N[a]?).getD 0,fun a ha=>?_⟩))
    obtain⟨x,hx,g1,g2⟩:=hN.2 a ha
    show N[a]? = some ((N[a]?).getD 0)∧fY F T (pre++[y]) a ((N[a]?).getD 0)∧0≤(N[a]?).getD 0∧(N[a]?).getD 0≤24*((pre++[y]).length:Int)
    rw [hx]
    show some x=some x∧fY F T (pre++[y]) a x∧0≤x∧x≤24*((pre++[y]).length:Int)
    refine⟨rfl,fY.step (fun a ha=>(h0 a ha).2.1) ha g1 g2,?_,?_⟩
    · obtain⟨h,hh,e⟩:=g1
      have:=(h0 (a - h) (by omega)).2.2.1
      have:=(kS (h:=h) hy hT (by omega) hF).2.nonneg hy
      show 0≤x
      omega
    · have e1:=g2 0 (by omega)
      have e2:=(h0 (a - 0) (by omega)).2.2.2
      have e3:=(kS (h:=0) hy hT (by omega) hF).2.top
      obtain⟨⟨_,w2⟩,⟨_,v2⟩⟩:=hy
      show x≤_
      rw [P5,P6]
      omega
  · obtain⟨hn,lv,h0⟩:=hI
    obtain⟨h1,h2,h3,h4⟩:=h0 H (Ny)
    exact Qs rfl h1 (H4 ⟨h2,h3,by omega⟩)
end Go.Proofs.YthkihfoleenlmaaGreat
