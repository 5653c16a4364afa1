/-
 What can be put,taken,opened and closed. What Free,Take,Open,Close and Put return,of states that are right. What Put returns,and that states stay right. States with a box more or less are right. What the functions of the chapter on blocked boxes return,of the states that its statements make. What Fewest returns,of any state that is right. BlockFewest: what the reference's functions return. BlockFewest: what the reference's Put tells,of a state that is right. BlockFewest: the reference's Fewest tells the same. The examples of the chapter. BlockFewest: the law. BlockFewest: the law's plain mathematics.
-/
import Derived.Test.YthcpolfodgjekaaGreatMoreRg
import Derived.Test.YthcpolfodgjekaaGreatXQ
import Derived.Test.YthcpolfodgjekaaGreatXP
set_option maxRecDepth 100000
set_option linter.unusedVariables false
namespace Go.Proofs.YthcpolfodgjekaaGreat
open Go.RowKit

structure H8b (s:H0) (o:List Int):Prop where
 mem:∀ y∈o,0≤y∧y < (s.Covers.length:Int)
 sorted:o.Pairwise (· < ·)
theorem J18 {s:H0}:H8b s []:=⟨fun y hy=>(Km hy).elim,List.Pairwise.nil⟩
theorem H8b.len {s:H0} {o:List Int} (h:H8b s o):o.length≤s.Covers.length:=by
 have hn:o.Nodup:=H3a h.sorted
 have:=hn.length_le_of_subset (l₂:=(List.range s.Covers.length).map (fun n:Nat=>(n:Int))) (fun a ha=>by
  obtain⟨h1,h2⟩:=h.mem a ha
  exact Ku.2 ⟨a.toNat,List.mem_range.2 (by omega),by omega⟩)
 simpa using this
theorem Qcd {s:H0} (hs:Small s) (boxes:List Box) (l:List Stowed) (o:List Int) (hl:l.length≤1000000):Wp (Yy s boxes l o) (fun r=>r=true ↔ H8b s o∧G66 s boxes l):=by
 unfold Yy
 refine Jo (fun pre _=>H8b s pre) J18 (fun pre y post u nx e hI hnx=>?_) (fun u hI=>?_)
 ·have no:¬ H8b s o→Wp (some false) (fun r=>r=true ↔ H8b s o∧G66 s boxes l):=fun h=>Gk (Y4 fun hh=>h hh.1)
  by_cases hy:y < 0∨(s.Covers.length:Int)≤y
  ·have hc:(decide (y < 0)||decide ((s.Covers.length:Int)≤y))=true:=by simpa using hy
   rw [hc]
   refine H8 (Gk (H8 (Gk (He (fun _=>no fun h=>?_) (fun h=>by cases h)))))
   have:=h.mem y (by rw [e]; simp)
   omega
  have hc:(decide (y < 0)||decide ((s.Covers.length:Int)≤y))=false:=by
   rw [Kz]; exact⟨Kg (by omega),Kg (by omega)⟩
  rw [hc]
  simp only [Bool.not_false,Bool.true_and,Bool.false_or]
  have hyok:0≤y∧y < (s.Covers.length:Int):=by omega
  have hprev:Wp (bif decide (0 < (pre.length:Int)) then chk ((pre.length:Int) - 1) some else some 0) (fun v=>Wp (bif decide (0 < (pre.length:Int)) then Qm o v some else some default) (fun p=>(decide (0 < (pre.length:Int))&&decide (y≤p))=false→H8b s (pre++[y]))∧Wp (bif decide (0 < (pre.length:Int)) then Qm o v some else some default) (fun p=>(decide (0 < (pre.length:Int))&&decide (y≤p))=true→¬ H8b s o)):=by
   by_cases hp:0 < pre.length
   ·obtain⟨p,hp1,hp2,hp3⟩:=J71 e hp
    rw [Kf (show 0 < (pre.length:Int) by omega)]
    simp only [cond_true,Bool.true_and]
    have:pre.length < 1+s.Covers.length:=by have:=hI.len; omega
    have:=hs.covs
    refine Zb ⟨by omega,by omega⟩ (Gk ⟨Yh (m:=pre.length - 1) (by omega) hp1 (Gk fun h=>?_),Yh (m:=pre.length - 1) (by omega) hp1 (Gk fun h hh=>?_)⟩)
    ·have hlt:p < y:=by have:=Ke h; omega
     exact⟨Jp hI.mem hyok,H19 hI.sorted (H1e hI.sorted hp2 hlt)⟩
    ·have h:=Kd h
     have hso:=hh.sorted
     rw [e] at hso
     have:=H3b hso p hp3
     omega
   ·have h0:pre=[]:=List.eq_nil_of_length_eq_zero (by omega)
    subst h0
    exact Gk ⟨Gk fun _=>⟨fun z hz=>(Kv.1 hz) ▸ hyok,List.pairwise_singleton ..⟩,Gk fun h=>Bool.noConfusion h⟩
  refine H8 (wp_mono hprev (fun v hv=>?_))
  obtain⟨p,hp,h1⟩:=hv.1
  obtain⟨p',hp',h2⟩:=hv.2
  rw [hp] at hp'; cases hp'
  rw [hp]
  refine H8 (Gk (He (fun h=>no (h2 h)) (fun h=>hnx _ (h1 h))))
 ·exact H8 (wp_mono (J4a hs.right hs.tier hl) (fun r hr=>Gk (hr.trans ⟨fun h=>⟨hI,h⟩,fun h=>h.2⟩)))
theorem Y2f (x y:Int):Ga7 x y=some (decide (x < y)):=by
 unfold Ga7 G81
 rw [Kg (show ¬ (x≠x) from fun h=>h rfl)]
 rfl
theorem shr1 (z:Int) (h0:0≤z) (h1:z≤2000):Y12 .u64 (IntKind.u64.wrap z) 1=z / 2:=by
 have e:IntKind.u64.wrap z=z:=by
  simp only [IntKind.wrap,IntKind.signed,IntKind.bits]
  simp
  omega
 rw [e]
 unfold Y12
 rw [show min 1 IntKind.u64.bits=1 from rfl,Int.fdiv_eq_ediv_of_nonneg _ (by decide)]
 rfl
theorem R1b {F:Nat} {o:List Int} {t:Int} (ho:o.Pairwise (· < ·)) (hl:o.length≤1000) (hF:o.length < F) :
  Wp (Za F o t) (fun r=>∃ n:Nat,r.1=(n:Int)∧n≤o.length∧(∀ a∈o.take n,a < t)∧(∀ a∈o.drop n,t≤a)∧(r.2=true ↔ o[n]? = some t)):=by
 unfold Za
 have hpw:=List.pairwise_iff_getElem.1 ho
 refine wp_loop (fun st=>∃ i j:Nat,st=((i:Int),(j:Int))∧i≤j∧j≤o.length∧(∀ a∈o.take i,a < t)∧(∀ a∈o.drop j,t≤a)) (fun st=>(st.2 - st.1).toNat) ⟨0,o.length,rfl,Nat.zero_le _,Kn,by simp,by simp⟩ (by show ((o.length:Int) - 0).toNat < F; omega) (fun st nx hI hnx=>?_)
 obtain⟨i,j,rfl,h1,h2,h3,h4⟩:=hI
 refine He (fun h=>?_) (fun h=>?_)
 ·have h:=Kd h
  refine Zb ⟨by omega,by omega⟩ ?_
  rw [shr1 _ (by omega) (by omega)]
  have hm:((i:Int)+(j:Int)) / 2=(((i+j) / 2:Nat):Int):=by omega
  rw [hm]
  have hk1:i≤(i+j) / 2:=by omega
  have hk2:(i+j) / 2 < j:=by omega
  generalize (i+j) / 2=k at hk1 hk2
  have hg:o[k]? = some (o[k]'(by omega)):=Ki (by omega)
  refine Zb ⟨by omega,by omega⟩ (Yh rfl hg (Gu (Y2f _ _) (He (fun hh=>Zb ⟨by omega,by omega⟩ (hnx _ ⟨k+1,j,by simp,by omega,h2,fun a ha=>?_,h4⟩ (by simp only; omega))) (fun hh=>hnx _ ⟨i,k,rfl,hk1,by omega,h3,fun a ha=>?_⟩ (by simp only; omega)))))
  ·have hh:=Kd hh
   obtain⟨q,hq,rfl⟩:=List.mem_iff_getElem.1 ha
   rw [List.length_take] at hq
   rw [List.getElem_take]
   rcases Nat.lt_or_ge q k with g | g
   ·have:=hpw q k (by omega) (by omega) g; omega
   ·have:q=k:=by omega
    subst this; exact hh
  ·have hh:=Ke hh
   obtain⟨q,hq,rfl⟩:=List.mem_iff_getElem.1 ha
   rw [List.length_drop] at hq
   rw [List.getElem_drop]
   rcases Nat.eq_zero_or_pos q with g | g
   ·subst g; simp only [Nat.add_zero]; omega
   ·have:=hpw k (k+q) (by omega) (by omega) (by omega); omega
 ·have h:=Ke h
  have hij:i=j:=by omega
  subst hij
  by_cases hlt:i < o.length
  ·have hg:o[i]? = some o[i]:=Ki hlt
   rw [Kf (show (i:Int) < (o.length:Int) by omega)]
   simp only [cond_true,Bool.true_and]
   refine H8 (Yh rfl hg (Gk ?_))
   by_cases he:o[i]=t
   ·rw [Kf he]
    exact H8 (Gk (H8 (Gk (H8 (Gk (Gk ⟨i,rfl,h2,h3,h4,by simp [hg,he]⟩))))))
   ·rw [Kg he]
    simp only [Bool.not_false,cond_true,Bool.true_and]
    refine H8 (Yh rfl hg (Gk ?_))
    unfold G4f
    rw [Kg (show ¬ (o[i]≠o[i]) from fun h=>h rfl)]
    exact H8 (Gk (H8 (Gk (Gk ⟨i,rfl,h2,h3,h4,by simp [hg,he]⟩))))
  ·rw [Kg (show ¬ ((i:Int) < (o.length:Int)) by omega)]
   exact H8 (Gk (H8 (Gk (H8 (Gk (H8 (Gk (Gk ⟨i,rfl,h2,h3,h4,by simp [List.getElem?_eq_none (show o.length≤i by omega)]⟩))))))))
theorem Y80 {m:Option Bool} {p:Prop} [Decidable p] (h:Wp m (fun r=>r=true ↔ p)):m=some (decide p):=by
 obtain⟨r,hr,h⟩:=h
 rw [hr]
 congr 1
 cases r with
 | false=>exact(Kg (fun hp=>by have:=h.2 hp; cases this)).symm
 | true=>exact(Kf (h.1 rfl)).symm
instance (a b:Slot):Decidable (Gc2 a b):=by unfold Gc2 G8c; infer_instance
theorem Y56 {l:List Stowed} {id:Int} (hx:id ∉ l.map (·.Box)):G31 l id=some (-1):=by
 rw [Hf1]
 rcases G4b (fun z:Stowed=>decide (z.Box=id)) l with ⟨h1,_,_⟩ | ⟨q,x1,h1,h2,h3,_⟩
 ·rw [h1]
 ·exact(hx (Ku.2 ⟨x1,Kk h2,Kd h3⟩)).elim
theorem Hc9 {o:List Int} {v:Int}:o.any (fun y=>decide (v=y))=true ↔ v∈o:=by
 rw [List.any_eq_true]
 exact⟨fun⟨y,hy,e⟩=>Kd e ▸ hy,fun h=>⟨v,h,Kf rfl⟩⟩
theorem Sta.checked {s:H0} {boxes:List Box} {l:List Stowed} (h:Sta s boxes l) {o:List Int} (hO:H8b s o):Yy s boxes l o=some true:=by
 have hl:=h.len
 exact Zd (wp_mono (Qcd (G38 h.ship) boxes l o (by omega)) (fun r hr=>hr.2 ⟨hO,h.right⟩))
def J82 (s:H0) (l:List Stowed) (k:Int):Prop:=∀ y∈l,∀ (m:Nat) (c:G3),y.Slot.G3=(m:Int)→s.Columns[m]? = some c→c.Deck=true→Jj s c≠k
theorem Ree {F:Nat} {s:H0} {boxes:List Box} {l:List Stowed} {o:List Int} (h:Sta s boxes l) (hO:H8b s o) (hF:20≤F) {k:Nat} (hk:k < s.Covers.length) :
  Wp (Ge0 F s boxes l o (k:Int)) (fun r=>(¬ J82 s l (k:Int)∧r=([],95))∨(J82 s l (k:Int)∧r.2=0∧H8b s r.1∧∀ a,a∈r.1 ↔ a∈o∨a=(k:Int))):=by
 have hs:=G38 h.ship
 have hl:=h.len
 have hcl:=h.ship.covs.len
 have hol:=hO.len
 unfold Ge0
 refine Gu (h.checked hO) (He (fun h=>by cases h) (fun _=>He (fun h=>?_) (fun _=>?_)))
 ·simp only [Ky,Kr] at h; omega
 refine H8 (wp_mono (Q93 (Hf8 h.ship) hk (fun x hx=>by have:=hs.rows x hx; omega) (by omega)) (fun up hup=>He (fun hh=>Gk (.inl ⟨fun h0=>?_,rfl⟩)) (fun hh=>?_)))
 ·have hh:=Kd hh
  obtain⟨a,ha⟩:∃ a,a∈up:=by
   cases up with
   | nil=>simp at hh
   | cons a r=>exact⟨a,by simp⟩
  obtain⟨y,hy,_,m,c,e1,e2,e3,e4⟩:=(hup a).1 ha
  exact h0 y hy m c e1 e2 e3 e4
 have hno:J82 s l (k:Int):=fun y hy m c e1 e2 e3 e4=>by
  have:=(hup y.Box).2 ⟨y,hy,rfl,m,c,e1,e2,e3,e4⟩
  have hh:=Ke hh
  have:up≠[]:=fun e=>by rw [e] at this; cases this
  have:=List.length_pos_iff.2 this
  omega
 refine H8 (wp_mono (R1b hO.sorted (by omega) (by omega)) (fun r hr=>?_))
 obtain⟨n,h1,h2,h3,h4,h5⟩:=hr
 refine He (fun hf=>?_) (fun hf=>?_)
 ·have hin:(k:Int)∈o:=Kk (h5.1 hf)
  have e:Y3 o=some o:=by
   unfold Y3
   refine J99 (fun b hb=>?_)
   cases b with
   | true=>rw [hb rfl]; rfl
   | false=>
    show need _ _=_
    unfold need
    rw [Y14 (by simp only [List.length_nil]; omega)]
    rfl
  exact Gu e (Gk (.inr ⟨hno,rfl,hO,fun a=>⟨.inl,fun hh=>hh.elim id (fun e=>e ▸ hin)⟩⟩))
 ·have hf:¬ o[n]? = some (k:Int):=fun e=>by rw [h5.2 e] at hf; cases hf
  have e:G7d o r.1 (k:Int)=some (o.take n++(k:Int)::o.drop n):=by
   unfold G7d
   rw [h1,Kf (show (0:Int)≤(n:Int) by omega),Kf (show (n:Int)≤(o.length:Int) by omega),Kf (show o.length≤100000 by omega),show ((n:Int)).toNat=n by omega]
   rfl
  have hmem:∀ a,a∈o.take n++(k:Int)::o.drop n ↔ a∈o∨a=(k:Int):=fun a=>by
   have:a∈o ↔ a∈o.take n∨a∈o.drop n:=by rw [← Kt,List.take_append_drop]
   rw [this,Kt,Kw]
   constructor
   ·rintro(h | h | h)
    ·exact .inl (.inl h)
    ·exact .inr h
    ·exact .inl (.inr h)
   ·rintro((h | h) | h)
    ·exact .inl h
    ·exact .inr (.inr h)
    ·exact .inr (.inl h)
  refine Gu e (Gk (.inr ⟨hno,rfl,⟨fun a ha=>?_,?_⟩,hmem⟩))
  ·rcases (hmem a).1 ha with h | h
   ·exact hO.mem a h
   ·omega
  ·have hso:=hO.sorted
   rw [← List.take_append_drop n o,List.pairwise_append] at hso
   refine List.pairwise_append.2 ⟨hso.1,List.pairwise_cons.2 ⟨fun a ha=>?_,hso.2.1⟩,fun a ha b hb=>?_⟩
   ·have h6:=h4 a ha
    have:a≠(k:Int):=fun e=>by
     subst e
     obtain⟨j,hj,e2⟩:=List.mem_iff_getElem.1 ha
     rw [List.length_drop] at hj
     rw [List.getElem_drop] at e2
     have hp:=List.pairwise_iff_getElem.1 hO.sorted
     rcases Nat.eq_zero_or_pos j with g | g
     ·subst g
      exact hf (by rw [← e2]; simp [Ki (show n < o.length by omega)])
     ·have g1:=hp n (n+j) (by omega) (by omega) (by omega)
      have g2:=h4 o[n] (List.mem_iff_getElem.2 ⟨0,by rw [List.length_drop]; omega,by rw [List.getElem_drop]; simp⟩)
      omega
    omega
   ·rcases Kw.1 hb with rfl | hb
    ·exact h3 a ha
    ·exact hso.2.2 a ha b hb
theorem R37 {boxes:List Box} {m half n:Int} {x:Stowed}:H22 boxes m half n x=n+H22 boxes m half 0 x:=by
 unfold H22
 split
 ·cases Yj boxes x.Box with
  | some b=>simp only; omega
  | none=>simp
 ·simp
theorem Q3b {boxes:List Box} {m half:Int}:∀ (l:List Stowed) (n:Int),l.foldl (H22 boxes m half) n=n+l.foldl (H22 boxes m half) 0:=by
 intro l
 induction l with
 | nil=>intro n; simp
 | cons x r ih=>
  intro n
  rw [List.foldl_cons,List.foldl_cons,ih (H22 boxes m half n x),ih (H22 boxes m half 0 x),R37 (n:=n)]
  omega
theorem Hc5 {boxes:List Box} {m half:Int} (pre post:List Stowed) (x:Stowed):G5e boxes (pre++x::post) m half=G5e boxes (pre++post) m half+H22 boxes m half 0 x:=by
 unfold G5e
 rw [List.foldl_append,List.foldl_cons,List.foldl_append,Q3b post (H22 boxes m half _ x),Q3b post (List.foldl _ 0 pre),R37]
 omega
theorem Q4a {boxes:List Box} {m half n:Int} {x:Stowed} (h:x.Slot.G3≠m):H22 boxes m half n x=n:=by
 unfold H22
 rw [if_neg (fun hh=>h hh.1)]
def Hd8 (l:List Stowed) (x:Stowed) (r:List Stowed):Prop:=∃ pre post,l=pre++post∧r=pre++x::post∧(∀ y∈pre,y.Box < x.Box)∧(∀ y,post.head? = some y→x.Box≤y.Box)
theorem R1f {F:Nat} {p:Hz} (hl:p.l.length≤1000) (hF:p.l.length < F):Wp (Zk F p) (Hd8 p.l p.x):=by
 unfold Zk
 refine wp_loop (fun n=>∃ k:Nat,n=(k:Int)∧k≤p.l.length∧∀ y∈p.l.take k,y.Box < p.x.Box) (fun n=>((p.l.length:Int) - n).toNat) ⟨0,rfl,Nat.zero_le _,fun y hy=>by rw [List.take_zero] at hy; cases hy⟩ (by show ((p.l.length:Int) - 0).toNat < F; omega) (fun n nx hI hnx=>?_)
 obtain⟨k,rfl,h1,h2⟩:=hI
 have done:(∀ y,(p.l.drop k).head? = some y→p.x.Box≤y.Box)→Wp (bnd (Zh p.l (k:Int) p.x) fun r16=>some r16) (Hd8 p.l p.x):=fun h3=>by
  have e:Zh p.l (k:Int) p.x=some (p.l.take k++p.x::p.l.drop k):=by
   unfold Zh
   rw [Kf (show (0:Int)≤(k:Int) by omega),Kf (show (k:Int)≤(p.l.length:Int) by omega),Kf (show p.l.length≤100000 by omega),show ((k:Int)).toNat=k by omega]
   rfl
  exact Gu e (Gk ⟨p.l.take k,p.l.drop k,(List.take_append_drop k p.l).symm,rfl,h2,h3⟩)
 by_cases hk:k < p.l.length
 ·have hg:p.l[k]? = some p.l[k]:=Ki hk
  rw [Kf (show (k:Int) < (p.l.length:Int) by omega)]
  simp only [cond_true,Bool.true_and]
  refine H8 (Yh rfl hg (Gk (He (fun h=>Zb ⟨by omega,by omega⟩ (hnx _ ⟨k+1,by simp,by omega,fun y hy=>?_⟩ (by omega))) (fun h=>done fun y hy=>?_))))
  ·rw [List.take_succ_eq_append_getElem hk] at hy
   rcases Kt.1 hy with hy | hy
   ·exact h2 y hy
   ·rw [Kv] at hy; subst hy
    exact Kd h
  ·rw [List.head?_drop,hg] at hy
   cases hy
   have:=Ke h
   omega
 ·rw [Kg (show ¬ ((k:Int) < (p.l.length:Int)) by omega)]
  refine H8 (Gk (He (fun h=>by cases h) (fun _=>done fun y hy=>?_)))
  rw [List.head?_drop,List.getElem?_eq_none (by omega)] at hy
  cases hy
def Ha3 (s:H0) (o:List Int) (x:Slot):Prop:=∃ (m:Nat) (c:G3),x.G3=(m:Int)∧s.Columns[m]? = some c∧0≤Jj s c∧(c.Deck=true ↔ Jj s c∈o)
def R3b (l:List Stowed) (x:Slot):Prop:=∃ y∈l,Gc2 x y.Slot
def R9f (s:H0) (boxes:List Box) (q:List Stowed) (x:Slot):Prop:=∀ (m:Nat) (c:G3),x.G3=(m:Int)→s.Columns[m]? = some c→H74 boxes q m c
def Qd2 (s:H0) (boxes:List Box) (l:List Stowed) (o:List Int) (x:Stowed) (size:Int) (r:List Stowed×Int):Prop:=
 (¬ Zt s x.Slot size∧r=([],97))∨(Zt s x.Slot size∧((Ha3 s o x.Slot∧r=([],91))∨(¬ Ha3 s o x.Slot∧((R3b l x.Slot∧r=([],92))∨(¬ R3b l x.Slot∧((¬ H2a x.Slot (l.map (·.Slot))∧r=([],93))∨(H2a x.Slot (l.map (·.Slot))∧∃ q,Hd8 l x q∧((¬ R9f s boxes q x.Slot∧r=([],94))∨(R9f s boxes q x.Slot∧r=(q,0))))))))))
theorem Re0 {s:H0} {boxes:List Box} {l:List Stowed} {o:List Int} (h:Sta s boxes l) {x:Stowed} {size:Int} (hx:Zt s x.Slot size):Wp (G40 (Hz.mk s boxes l o x)) (fun r=>r=true ↔ Ha3 s o x.Slot):=by
 have hs:=G38 h.ship
 obtain⟨m,c,hm,hc,_⟩:=hx.col
 have hcl:Ha3 s o x.Slot ↔ (0≤Jj s c∧(c.Deck=true ↔ Jj s c∈o)):=by
  constructor
  ·rintro⟨m',c',e1,e2,e3⟩
   have:m'=m:=by omega
   subst this
   rw [hc] at e2; cases e2
   exact e3
  ·exact fun e=>⟨m,c,hm,hc,e⟩
 unfold G40
 show Wp (bnd (G10 s x.Slot.G3) _) _
 rw [hm]
 refine Gu (Hbc hc (fun x hx=>by have:=hs.rows x hx; omega) (by have:=hs.covs; omega)) ?_
 by_cases hk:0≤Jj s c
 ·rw [Kf hk]
  simp only [cond_true,Bool.true_and]
  refine H8 (Yh rfl hc (Gk (Gu (Hc8 _ _) (Gk ?_))))
  rw [hcl,beq_iff_eq,Bool.eq_iff_iff,Hc9]
  exact⟨fun h=>⟨hk,h⟩,fun h=>h.2⟩
 ·rw [Kg hk]
  refine H8 (Gk (H8 (Gk (Gk (Y4 fun hh=>hk (hcl.1 hh).1)))))
theorem Y26 {s:H0} {boxes:List Box} {l:List Stowed} {o:List Int} {x:Stowed}:Wp (G4e (Hz.mk s boxes l o x)) (fun r=>r=true ↔ R3b l x.Slot):=by
 have h:=H65 (p:=fun y:Stowed=>decide (Gc2 x.Slot y.Slot)) (f:=fun z0=>Yx z0 (Hz.mk s boxes l o x)) (xs:=l) (fun y _=>by
  unfold Yx
  exact Zd (Gu (Y80 (Q96 x.Slot y.Slot)) (Gk rfl)))
 have e:R0 l (fun z0=>Yx z0 (Hz.mk s boxes l o x))=some (Hc4 (fun y:Stowed=>decide (Gc2 x.Slot y.Slot)) l):=h
 unfold G4e Qp
 refine H8 (Gu e (Gk (Gk ?_)))
 rw [G9a,List.any_eq_true]
 exact⟨fun⟨y,hy,h⟩=>⟨y,hy,Kd h⟩,fun⟨y,hy,h⟩=>⟨y,hy,Kf h⟩⟩
theorem Y1a {F:Nat} {s:H0} {boxes:List Box} {l:List Stowed} {o:List Int} (h:Sta s boxes l) (hO:H8b s o) (hF:20≤F) {x:Stowed} {b:Box} (hb:Yj boxes x.Box=some b) (hz:b.Size=20∨b.Size=40) (hx:x.Box ∉ l.map (·.Box)) :
  Wp (Ga5 F s boxes l o x) (Qd2 s boxes l o x b.Size):=by
 have hs:=G38 h.ship
 have hl:=h.len
 unfold Ga5
 refine Gu (h.checked hO) (He (fun h=>by cases h) (fun _=>Gu (Gd6 boxes x.Box) ?_))
 rw [hb]
 refine He (fun hh=>?_) (fun _=>Gu (Y56 hx) (He (fun hh=>by simp at hh) (fun _=>?_)))
 ·simp only [Bool.not_true,Bool.false_or,Kq,Kr] at hh
  omega
 refine H8 (wp_mono (Q20 s x.Slot b.Size) (fun r15 h15=>He (fun hh=>Gk (.inl ⟨fun hk=>?_,rfl⟩)) (fun hh=>?_)))
 ·rw [h15.2 hk] at hh; cases hh
 have hslot:Zt s x.Slot b.Size:=h15.1 (by simpa using hh)
 have htier : -1000000≤x.Slot.Tier∧x.Slot.Tier≤1000000:=by
  obtain⟨m,c,_,hc,ht⟩:=hslot.col
  have:=hs.tiers c (Kk hc)
  have:=hslot.tier
  omega
 obtain⟨q,hq,hins⟩:=R1f (F:=F) (p:=Hz.mk s boxes l o x) (by show l.length≤1000; omega) (by show l.length < F; omega)
 have hql:q.length≤1000000:=by
  obtain⟨pre,post,e1,e2,_⟩:=hins
  have:l=pre++post:=e1
  rw [e2]
  have h2:=congrArg List.length this
  simp only [Ko,List.length_cons] at h2 ⊢
  omega
 refine R6 (by decide) ?_
 rw [show (4:Int).toNat=4 from rfl]
 refine Haf (fun i _=>(1≤i→¬ Ha3 s o x.Slot)∧(2≤i→¬ R3b l x.Slot)∧(3≤i→H2a x.Slot (l.map (·.Slot)))∧(4≤i→R9f s boxes q x.Slot)) ⟨fun h=>by omega,fun h=>by omega,fun h=>by omega,fun h=>by omega⟩ (fun i u nx hi hI hnx=>?_) (fun u hI=>?_)
 ·obtain⟨i1,i2,i3,i4⟩:=hI
  refine Gbe (fun _=>(1≤i+1→¬ Ha3 s o x.Slot)∧(2≤i+1→¬ R3b l x.Slot)∧(3≤i+1→H2a x.Slot (l.map (·.Slot)))∧(4≤i+1→R9f s boxes q x.Slot)) (fun K hK=>?_) (fun j hj=>hnx _ hj)
  refine He (fun h0=>?_) (fun h0=>He (fun h1=>?_) (fun h1=>He (fun h2=>?_) (fun h2=>He (fun h3=>?_) (fun h3=>?_))))
  ·have h0:=Kd h0
   refine H8 (wp_mono (Re0 h hslot) (fun r hr=>He (fun hh=>Zb ⟨by omega,by omega⟩ (Gk (.inr ⟨hslot,.inl ⟨hr.1 hh,?_⟩⟩))) (fun hh=>hK _ ⟨fun _ hk=>?_,fun h=>by omega,fun h=>by omega,fun h=>by omega⟩)))
   ·rw [h0]; rfl
   ·rw [hr.2 hk] at hh; cases hh
  ·have h0:=Ke h0
   have h1:=Kd h1
   refine H8 (wp_mono Y26 (fun r hr=>He (fun hh=>Zb ⟨by omega,by omega⟩ (Gk (.inr ⟨hslot,.inr ⟨i1 (by omega),.inl ⟨hr.1 hh,?_⟩⟩⟩))) (fun hh=>hK _ ⟨fun _=>i1 (by omega),fun _ hk=>?_,fun h=>by omega,fun h=>by omega⟩)))
   ·rw [h1]; rfl
   ·rw [hr.2 hk] at hh; cases hh
  ·have h2:=Kd h2
   unfold G61
   refine H8 (Gu (Q1e l (by omega)) (H8 (wp_mono (Q97 x.Slot (l.map (·.Slot)) htier) (fun r hr=>Gk (He (fun hh=>Zb ⟨by omega,by omega⟩ (Gk (.inr ⟨hslot,.inr ⟨i1 (by omega),.inr ⟨i2 (by omega),.inl ⟨fun hk=>?_,?_⟩⟩⟩⟩))) (fun hh=>hK _ ⟨fun _=>i1 (by omega),fun _=>i2 (by omega),fun _=>hr.1 (by simpa using hh),fun h=>by omega⟩))))))
   ·rw [hr.2 hk] at hh; cases hh
   ·rw [h2]; rfl
  ·have h3:=Kd h3
   obtain⟨m,c,hm,hc,_⟩:=hslot.col
   have hfc:R9f s boxes q x.Slot ↔ H74 boxes q m c:=by
    refine⟨fun hf=>hf m c hm hc,fun hf m' c' e1 e2=>?_⟩
    have:m'=m:=by omega
    subst this
    rw [hc] at e2; cases e2
    exact hf
   unfold G6d
   refine H8 (Gu hq ?_)
   show Wp (bnd (Ga3 s boxes q x.Slot.G3) _) _
   rw [hm]
   refine H8 (wp_mono (Q94 hc hql) (fun r hr=>Gk (He (fun hh=>Zb ⟨by omega,by omega⟩ (Gk (.inr ⟨hslot,.inr ⟨i1 (by omega),.inr ⟨i2 (by omega),.inr ⟨i3 (by omega),q,hins,.inl ⟨fun hk=>?_,?_⟩⟩⟩⟩⟩))) (fun hh=>hK _ ⟨fun _=>i1 (by omega),fun _=>i2 (by omega),fun _=>i3 (by omega),fun _=>hfc.2 (hr.1 (by simpa using hh))⟩))))
   ·rw [hr.2 (hfc.1 hk)] at hh; cases hh
   ·rw [h3]; rfl
  ·have a0:=Ke h0
   have a1:=Ke h1
   have a2:=Ke h2
   have a3:=Ke h3
   omega
 ·obtain⟨i1,i2,i3,i4⟩:=hI
  exact Gu hq (Gk (.inr ⟨hslot,.inr ⟨i1 (by omega),.inr ⟨i2 (by omega),.inr ⟨i3 (by omega),q,hins,.inr ⟨i4 (by omega),rfl⟩⟩⟩⟩⟩))
theorem Jcd {a b:Int} (h:G8c a b):G8c b a:=by
 unfold G8c at h ⊢
 omega
theorem J9c {a b:Slot} (h:Gc2 a b):Gc2 b a:=⟨h.1.symm,h.2.1.symm,Jcd h.2.2⟩
theorem H63 {l q:List Stowed} {x:Stowed} (h:Hd8 l x q):q.Perm (x::l):=by
 obtain⟨pre,post,rfl,rfl,_⟩:=h
 exact List.perm_middle
theorem Hc3 {l q:List Stowed} {x:Stowed} (h:Hd8 l x q) (hs:l.Pairwise (fun a b=>a.Box < b.Box)) (hx:x.Box ∉ l.map (·.Box)):q.Pairwise (fun a b=>a.Box < b.Box):=by
 obtain⟨pre,post,rfl,rfl,h1,h2⟩:=h
 obtain⟨s1,s2,s3⟩:=List.pairwise_append.1 hs
 refine List.pairwise_append.2 ⟨s1,List.pairwise_cons.2 ⟨fun y hy=>?_,s2⟩,fun a ha b hb=>?_⟩
 ·have hne:x.Box≠y.Box:=fun e=>hx (Ku.2 ⟨y,Kt.2 (.inr hy),e.symm⟩)
  cases post with
  | nil=>cases hy
  | cons z r=>
   have h3:=h2 z rfl
   rcases Kw.1 hy with rfl | hy
   ·omega
   ·have:=(List.pairwise_cons.1 s2).1 y hy
    omega
 ·rcases Kw.1 hb with rfl | hb
  ·exact h1 a ha
  ·exact s3 a ha b hb
theorem Jd6 {a b:List Stowed} (hp:a.Perm b) (ha:a.Pairwise (fun x y=>x.Box < y.Box)) (hb:b.Pairwise (fun x y=>x.Box < y.Box)):a=b:=
 List.Perm.eq_of_pairwise (le:=fun x y:Stowed=>x.Box < y.Box) (fun x y _ _ h1 h2=>by omega) ha hb hp
theorem Qaa {l q:List Slot} {x:Slot} (h:H2a x l) (hs:∀ y∈l,y∈q):H2a x q:=by
 rcases h with h | h | ⟨h0,h1,h2⟩
 ·exact .inl h
 ·exact .inr (.inl (hs _ h))
 ·exact .inr (.inr ⟨h0,hs _ h1,hs _ h2⟩)
theorem Re6 {s:H0} {boxes:List Box} {l q:List Stowed} {x:Stowed} {b:Box} (h:G66 s boxes l) (hb:Yj boxes x.Box=some b) (hslot:Zt s x.Slot b.Size) (hmet:¬ R3b l x.Slot) (hheld:H2a x.Slot (l.map (·.Slot))) (hins:Hd8 l x q) (hx:x.Box ∉ l.map (·.Box)) (hfit:R9f s boxes q x.Slot):G66 s boxes q:=by
 have hp:=H63 hins
 have hmem:∀ y,y∈q ↔ y=x∨y∈l:=fun y=>by rw [hp.mem_iff,Kw]
 have hsl:∀ y∈l.map (·.Slot),y∈q.map (·.Slot):=fun y hy=>by
  obtain⟨z,hz,e⟩:=Ku.1 hy
  exact Ku.2 ⟨z,(hmem z).2 (.inr hz),e⟩
 refine⟨fun y hy=>?_,Hc3 hins h.sorted hx,?_,fun m c hc=>?_⟩
 ·rcases (hmem y).1 hy with rfl | hy
  ·exact⟨b,hb,hslot,Qaa hheld hsl⟩
  ·obtain⟨b',h1,h2,h3⟩:=h.each y hy
   exact⟨b',h1,h2,Qaa h3 hsl⟩
 ·have ha:=h.apart
  obtain⟨pre,post,rfl,rfl,_⟩:=hins
  obtain⟨s1,s2,s3⟩:=List.pairwise_append.1 ha
  refine List.pairwise_append.2 ⟨s1,List.pairwise_cons.2 ⟨fun y hy hm=>hmet ⟨y,Kt.2 (.inr hy),J9c hm⟩,s2⟩,fun a ha b hb=>?_⟩
  rcases Kw.1 hb with rfl | hb
  ·exact fun hm=>hmet ⟨a,Kt.2 (.inl ha),hm⟩
  ·exact s3 a ha b hb
 ·by_cases he:x.Slot.G3=(m:Int)
  ·exact hfit m c he hc
  ·have:=h.fits m c hc
   obtain⟨pre,post,rfl,rfl,_⟩:=hins
   unfold H74 at this ⊢
   rw [Hc5,Hc5,Q4a he,Q4a he,Int.add_zero,Int.add_zero]
   exact this
/-! ### Boxes with a call at which they leave -/
/-! ### Who is in the way -/
def G7b (boxes:List Box) (id:Int):Int:=match Yj boxes id with
 | some b=>b.Discharge
 | none=>0
theorem J22 (boxes:List Box) (id:Int):Jx boxes id=some (G7b boxes id):=by
 unfold Jx G7b
 rw [Gd6]
 cases Yj boxes id <;> rfl
def RcS (s:H0) (l:List Stowed) (ids:List Int) (b:Int):Prop:=∀ C:Int→Prop,(∀ a b,C a→Pl s l a b→C b)→(∀ a∈ids,C a)→C b
theorem G89.iff {s:H0} {l:List Stowed} {ids r:List Int} (h:G89 s l ids r) {b:Int}:b∈r ↔ RcS s l ids b:=
 ⟨fun hb C h1 h2=>h.least C h1 h2 b hb,fun hb=>hb (·∈r) (fun a b ha hp=>h.closed a ha b hp) h.seeds⟩
open Classical in
noncomputable def J57 (s:H0) (boxes:List Box) (l:List Stowed) (id:Int):List Int:=
 (l.filter (fun x=>decide (x.Box≠id∧G7b boxes x.Box < G7b boxes id∧RcS s l [x.Box] id))).map (·.Box)
theorem Sta.rightM {s:H0} {boxes:List Box} {l:List Stowed} (h:Sta s boxes l):Yk s boxes l=some true:=by
 have hl:=h.len
 exact Zd (wp_mono (J4a (G38 h.ship).right (G38 h.ship).tier (by omega)) (fun r hr=>hr.2 h.right))
theorem Q48 (l:List Stowed) (id:Int):H0f l id=some (decide (id∈l.map (·.Box))):=by
 have h:=H65 (p:=fun y:Stowed=>decide (y.Box=id)) (f:=fun z0=>Gb4 z0 id) (xs:=l) (fun y _=>rfl)
 have e:R0 l (fun z0=>Gb4 z0 id)=some (Hc4 (fun y:Stowed=>decide (y.Box=id)) l):=h
 unfold H0f Qp
 refine Zd (H8 (Gu e (Gk (Gk ?_))))
 rw [G9a,Bool.eq_iff_iff,List.any_eq_true,Kr,Ku]
 exact⟨fun⟨y,hy,h⟩=>⟨y,hy,Kd h⟩,fun⟨y,hy,h⟩=>⟨y,hy,Kf h⟩⟩
theorem Q47 {F:Nat} {s:H0} {boxes:List Box} {l:List Stowed} (h:Sta s boxes l) (hF:40≤F) {x:Stowed} (hx:x∈l) (d id:Int) :
  Wp (G3a F x.Box s boxes l d id) (fun r=>r=true ↔ G7b boxes x.Box < d∧RcS s l [x.Box] id):=by
 unfold G3a
 refine H8 (wp_mono (h.reach hF (fun a ha=>by rw [Kv] at ha; rw [ha]; exact Ku.2 ⟨x,hx,rfl⟩)) (fun r hr=>Gu (J22 boxes x.Box) ?_))
 by_cases hd:G7b boxes x.Box < d
 ·rw [Kf hd]
  simp only [cond_true,Bool.true_and]
  refine Gu (Hc8 _ _) (Gk ?_)
  rw [Hc9,hr.2.iff]
  exact⟨fun h=>⟨hd,h⟩,fun h=>h.2⟩
 ·rw [Kg hd]
  exact H8 (Gk (Gk (Y4 fun h=>hd h.1)))
theorem J7f {F:Nat} {s:H0} {boxes:List Box} {l:List Stowed} (h:Sta s boxes l) (hF:40≤F) (id:Int):G57 F s boxes l id=some (J57 s boxes l id):=by
 have hl:=h.len
 refine Zd ?_
 unfold G57
 refine Gu (J22 boxes id) ?_
 unfold J57
 classical
 refine Jo (fun pre r=>r=(pre.filter (fun x=>decide (x.Box≠id∧G7b boxes x.Box < G7b boxes id∧RcS s l [x.Box] id))).map (·.Box)) rfl (fun pre y post r nx e hI hnx=>?_) (fun r hI=>Gk hI)
 have hy:y∈l:=by rw [e]; simp
 have hpl:pre.length < l.length:=by rw [e]; simp
 have hrl:r.length≤pre.length:=by rw [hI,Ks]; exact List.length_filter_le _ _
 have key:∀ b:Bool,(b=true ↔ y.Box≠id∧G7b boxes y.Box < G7b boxes id∧RcS s l [y.Box] id)→(pre++[y]).filter (fun x=>decide (x.Box≠id∧G7b boxes x.Box < G7b boxes id∧RcS s l [x.Box] id))=pre.filter (fun x=>decide (x.Box≠id∧G7b boxes x.Box < G7b boxes id∧RcS s l [x.Box] id))++(if b=true then [y] else []):=fun b hb=>by
  rw [List.filter_append]
  congr 1
  by_cases hbt:b=true
  ·rw [if_pos hbt,List.filter_cons,if_pos (Kf (hb.1 hbt))]; rfl
  ·rw [if_neg hbt,List.filter_cons,if_neg (fun hh=>hbt (hb.2 (Kd hh)))]; rfl
 refine Gbe (fun j=>j=((pre++[y]).filter (fun x=>decide (x.Box≠id∧G7b boxes x.Box < G7b boxes id∧RcS s l [x.Box] id))).map (·.Box)) (fun K hK=>?_) (fun j hj=>hnx _ hj)
 have hr:Wp (bif decide (y.Box≠id) then G3a F y.Box s boxes l (G7b boxes id) id else some default) (fun b=>((decide (y.Box≠id))&&b)=true ↔ y.Box≠id∧G7b boxes y.Box < G7b boxes id∧RcS s l [y.Box] id):=by
  by_cases hne:y.Box≠id
  ·rw [Kf hne]
   simp only [cond_true,Bool.true_and]
   exact wp_mono (Q47 h hF hy _ _) (fun b hb=>by rw [hb]; exact⟨fun h=>⟨hne,h⟩,fun h=>h.2⟩)
  ·rw [Kg hne]
   exact Gk (Y4 fun h=>hne h.1)
 refine H8 (wp_mono hr (fun b hb=>He (fun hh=>R6 (Y14 (by rw [Kp]; omega)) (hK _ ?_)) (fun hh=>hK _ ?_)))
 ·rw [key _ hb,if_pos hh,List.map_append,hI]; rfl
 ·rw [key _ hb,if_neg (by rw [hh]; decide),List.append_nil,hI]

def Gee (a b:Slot):Prop:=a.G3 < b.G3∨(a.G3=b.G3∧(a.Tier < b.Tier∨(a.Tier=b.Tier∧a.Half < b.Half)))
theorem Q37 (size:Int):(G5f size).Pairwise (· < ·):=by
 unfold G5f
 split
 ·simp
 ·split <;> simp
theorem Rde {s:H0} (hs:Small s) (size:Int):Wp (Gf2 s size) (fun r=>r.length≤200*s.Columns.length∧(∀ x,x∈r ↔ Zt s x size)∧r.Pairwise Gee):=by
 unfold Gf2
 have hhl:(G5f size).length≤2:=by
  unfold G5f
  split
  ·simp
  ·split <;> simp
 refine Jo (fun pre r=>r.length≤200*pre.length∧(∀ x,x∈r ↔ Zt s x size∧x.G3 < (pre.length:Int))∧r.Pairwise Gee) ⟨by simp,fun x=>⟨fun h=>(Km h).elim,fun⟨h,h2⟩=>?_⟩,List.Pairwise.nil⟩ (fun pre c post r nx e hI hnx=>?_) (fun r hI=>Gk ⟨hI.1,fun x=>?_,hI.2.2⟩)
 ·obtain⟨m,c,hm,_⟩:=h.col
  have h2:x.G3 < (0:Int):=h2
  omega
 rotate_left
 ·rw [hI.2.1]
  refine⟨fun h=>h.1,fun h=>⟨h,?_⟩⟩
  obtain⟨m,c,hm,hc,_⟩:=h.col
  have:=(Kh hc).1
  omega
 obtain⟨h1,h2,h3⟩:=hI
 have hc:s.Columns[pre.length]? = some c:=by rw [e]; simp
 have ht:=hs.tiers c (Kk hc)
 refine R6 (Kf (by omega)) ?_
 have htn:(max c.Tiers 0).toNat≤100:=by omega
 refine Haf (fun i r'=>r'.length≤r.length+2*i∧(∀ x,x∈r' ↔ Zt s x size∧(x.G3 < (pre.length:Int)∨(x.G3=(pre.length:Int)∧x.Tier < (i:Int))))∧r'.Pairwise Gee) ⟨by simp,fun x=>?_,h3⟩ (fun i r' nx2 hi hI hnx2=>?_) (fun r' hI=>hnx _ ⟨?_,fun x=>?_,hI.2.2⟩)
 ·rw [h2]
  constructor
  ·exact fun h=>⟨h.1,.inl h.2⟩
  ·rintro⟨h,hh | ⟨_,hh⟩⟩
   ·exact⟨h,hh⟩
   ·have:=h.tier
    omega
 ·obtain⟨i1,i2,i3⟩:=hI
  refine Gu (Jcb size) ?_
  refine Jo (fun pr r2=>r2.length=r'.length+pr.length∧(∀ x,x∈r2 ↔ x∈r'∨(x.G3=(pre.length:Int)∧x.Tier=(i:Int)∧x.Half∈pr))∧r2.Pairwise Gee) ⟨by simp,fun x=>⟨.inl,fun h=>h.elim id (fun h=>(Km h.2.2).elim)⟩,i3⟩ (fun pr h post2 r2 nx3 e2 hI2 hnx3=>hnx3 _ ⟨?_,fun x=>?_,?_⟩) (fun r2 hI2=>hnx2 _ ⟨by have:=hI2.1; omega,fun x=>?_,hI2.2.2⟩)
  ·simp only [Ko,Kp]; have:=hI2.1; omega
  ·rw [Kt,hI2.2.1,Kv,Kt,Kv]
   constructor
   ·rintro((h | ⟨a,b,c⟩) | rfl)
    ·exact .inl h
    ·exact .inr ⟨a,b,.inl c⟩
    ·exact .inr ⟨rfl,rfl,.inr rfl⟩
   ·rintro(h | ⟨a,b,c | c⟩)
    ·exact .inl (.inl h)
    ·exact .inl (.inr ⟨a,b,c⟩)
    ·exact .inr (by cases x; simp_all)
  ·refine H19 hI2.2.2 fun a hm=>?_
   rcases (hI2.2.1 _).1 hm with hh | ⟨q1,q2,hh⟩
   ·obtain⟨_,hh | ⟨g1,hh⟩⟩:=(i2 _).1 hh
    ·exact .inl hh
    ·exact .inr ⟨g1,.inl hh⟩
   ·have hn:=Q37 size
    rw [e2] at hn
    exact .inr ⟨q1,.inr ⟨q2,(List.pairwise_append.1 hn).2.2 _ hh h (by simp)⟩⟩
  ·rw [hI2.2.1,i2]
   constructor
   ·rintro(⟨a,b⟩ | ⟨a,b,c0⟩)
    ·exact⟨a,by omega⟩
    ·refine⟨⟨⟨pre.length,c,a,hc,?_⟩,by omega,c0⟩,.inr ⟨a,by omega⟩⟩
     omega
   ·rintro⟨a,b⟩
    by_cases hh:x.G3=(pre.length:Int)∧x.Tier=(i:Int)
    ·exact .inr ⟨hh.1,hh.2,a.half⟩
    ·exact .inl ⟨a,by omega⟩
 ·have:=hI.1
  simp only [Ko,Kp]; omega
 ·rw [hI.2.1]
  have hpl:((pre++[c]).length:Int)=(pre.length:Int)+1:=by simp
  rw [hpl]
  constructor
  ·rintro⟨a,b⟩
   exact⟨a,by omega⟩
  ·rintro⟨a,b⟩
   refine⟨a,?_⟩
   obtain⟨m,c',hm,hc',htt⟩:=a.col
   by_cases hh:x.G3=(pre.length:Int)
   ·have:m=pre.length:=by omega
    subst this
    rw [hc] at hc'; cases hc'
    have:=a.tier
    exact .inr ⟨hh,by omega⟩
   ·exact .inl (by omega)
theorem J69 {s:H0} (hs:Small s) (size:Int):Wp (H0d s size) (fun r=>r.length≤200*s.Columns.length∧(∀ x,x∈r ↔ Zt s x size)∧r.Pairwise Gee):=by
 unfold H0d
 refine Gu (show H46 s size=some () from rfl) ?_
 refine H8 (wp_mono (Rde hs size) (fun ys hys=>?_))
 have hc:=hs.cols
 refine Jo (fun pre r=>r=pre) rfl (fun pre y post r nx e hI hnx=>?_) (fun r hI=>by subst hI; exact Gk hys)
 subst hI
 have hl:r.length < ys.length:=by rw [e]; simp
 exact R6 (J70 (by rw [Kp]; have:=hys.1; omega) (by omega)) (hnx _ rfl)

open Classical in
noncomputable def J50 (s:H0) (l:List Stowed) (y:Slot):List Int:=match s.Columns[y.G3.toNat]? with
 | some c=>if 0≤Jj s c∧c.Deck=false∧J82 s l (Jj s c) then [Jj s c] else []
 | none=>[]
theorem Q44 {s:H0} {c:G3} (h:0≤Jj s c):∃ k:Nat,Jj s c=(k:Int)∧k < s.Covers.length:=by
 unfold Jj at h ⊢
 rcases G4b (fun x=>Gf1 x c) s.Covers with ⟨h1,_⟩ | ⟨m,x,h1,h2,_⟩
 ·rw [h1] at h; omega
 ·exact⟨m,h1,(Kh h2).1⟩
theorem Y4e {s:H0} {l:List Stowed} (y:Slot):H8b s (J50 s l y):=by
 unfold J50
 split
 ·split
  ·rename_i c _ h
   obtain⟨k,e,hk⟩:=Q44 h.1
   exact⟨fun z hz=>by rw [Kv] at hz; omega,List.pairwise_singleton ..⟩
  ·exact J18
 ·exact J18
noncomputable def Zg (F:Nat) (s:H0) (boxes:List Box) (l:List Stowed) (id:Int) (y:Slot):List Stowed×Int:=(Ga5 F s boxes l (J50 s l y) (Stowed.mk id y)).getD ([],1)
theorem Jeb {F:Nat} {s:H0} {boxes:List Box} {l:List Stowed} (h:Sta s boxes l) (hF:20≤F) {id:Int} {b:Box} (hb:Yj boxes id=some b) (hz:b.Size=20∨b.Size=40) (hx:id ∉ l.map (·.Box)) (y:Slot) :
  Ga5 F s boxes l (J50 s l y) (Stowed.mk id y)=some (Zg F s boxes l id y)∧Qd2 s boxes l (J50 s l y) (Stowed.mk id y) b.Size (Zg F s boxes l id y):=by
 obtain⟨r,h1,h2⟩:=Y1a (F:=F) h (Y4e (s:=s) (l:=l) y) hF (x:=Stowed.mk id y) hb hz hx
 have e:Zg F s boxes l id y=r:=by unfold Zg; rw [h1]; rfl
 rw [e]
 exact⟨h1,h2⟩
theorem Y1b {s:H0} {boxes:List Box} {l:List Stowed} {o:List Int} {x:Stowed} {b:Box} {r:List Stowed×Int} (h:Sta s boxes l) (hl:l.length≤9) (hb:Yj boxes x.Box=some b) (hx:x.Box ∉ l.map (·.Box)) (hr:Qd2 s boxes l o x b.Size r) (h0:r.2=0) :
  Zt s x.Slot b.Size∧¬ Ha3 s o x.Slot∧Hd8 l x r.1∧Sta s boxes r.1:=by
 rcases hr with ⟨_,e⟩ | ⟨g0,⟨_,e⟩ | ⟨g1,⟨_,e⟩ | ⟨g2,⟨_,e⟩ | ⟨g3,q,hins,⟨_,e⟩ | ⟨g4,e⟩⟩⟩⟩⟩
 ·rw [e] at h0; exact absurd h0 (by decide)
 ·rw [e] at h0; exact absurd h0 (by decide)
 ·rw [e] at h0; exact absurd h0 (by decide)
 ·rw [e] at h0; exact absurd h0 (by decide)
 ·rw [e] at h0; exact absurd h0 (by decide)
 ·rw [e]
  have hlen:q.length=l.length+1:=by
   have:=(H63 hins).length_eq
   simpa using this
  exact⟨g0,g1,hins,h.ship,Re6 h.right hb g0 g2 g3 hins hx g4,by show q.length≤10; omega⟩
theorem Rec {F:Nat} {s:H0} {boxes:List Box} {l:List Stowed} (h:Sta s boxes l) (hF:20≤F) {b:Box} (hb:Yj boxes b.ID=some b) (hz:b.Size=20∨b.Size=40) (hx:b.ID ∉ l.map (·.Box)) :
  Wp (Gf3 F s b boxes l) (fun ys=>∃ all:List Slot,all.length≤200*s.Columns.length∧(∀ x,x∈all ↔ Zt s x b.Size)∧all.Pairwise Gee∧ys=(all.filter (fun y=>decide ((Zg F s boxes l b.ID y).2=0))).map (fun y=>(y,(Zg F s boxes l b.ID y).1))):=by
 have hs:=G38 h.ship
 unfold Gf3
 refine H8 (wp_mono (J69 hs b.Size) (fun all hall=>?_))
 obtain⟨a1,a2,a3⟩:=hall
 refine Jo (fun pre ys=>ys=(pre.filter (fun y=>decide ((Zg F s boxes l b.ID y).2=0))).map (fun y=>(y,(Zg F s boxes l b.ID y).1))) rfl (fun pre y post ys nx e hI hnx=>?_) (fun ys hI=>Gk ⟨all,a1,a2,a3,hI⟩)
 have hy:Zt s y b.Size:=(a2 y).1 (by rw [e]; simp)
 obtain⟨m,c,hm,hc,_⟩:=hy.col
 refine Gbe (fun o=>o=J50 s l y) (fun K hK=>?_) (fun o ho=>?_)
 ·have ho:J50 s l y=open Classical in (if 0≤Jj s c∧c.Deck=false∧J82 s l (Jj s c) then [Jj s c] else []):=by
   unfold J50
   rw [show y.G3.toNat=m by omega,hc]
  rw [hm]
  refine Gu (Hbc hc (fun x hx=>by have:=hs.rows x hx; omega) (by have:=hs.covs; omega)) ?_
  by_cases hk:0≤Jj s c
  ·rw [Kf hk]
   simp only [cond_true,Bool.true_and]
   refine H8 (Yh rfl hc (Gk (He (fun hd=>?_) (fun hd=>hK _ ?_))))
   ·obtain⟨k,ek,hkl⟩:=Q44 hk
    have hd:c.Deck=false:=by simpa using hd
    rw [ek]
    refine H8 (wp_mono (Ree h J18 (by omega) hkl) (fun r hr=>hK _ ?_))
    rw [ho]
    rcases hr with ⟨hu,rfl⟩ | ⟨hu,_,hro,hrm⟩
    ·rw [if_neg (fun hh=>hu (ek ▸ hh.2.2))]
    ·rw [if_pos ⟨hk,hd,ek ▸ hu⟩,ek]
     exact J7c hro.sorted (List.pairwise_singleton ..) (fun a=>by rw [hrm a]; simp)
   ·rw [ho,if_neg (fun hh=>by rw [hh.2.1] at hd; cases hd)]
  ·rw [Kg hk]
   refine H8 (Gk (He (fun hd=>by cases hd) (fun _=>hK _ ?_)))
   rw [ho,if_neg (fun hh=>hk hh.1)]
 ·subst ho
  obtain⟨e1,_⟩:=Jeb h hF hb hz hx y
  refine Gu e1 (He (fun h0=>hnx _ ?_) (fun h0=>hnx _ ?_))
  ·rw [List.filter_append,List.map_append,hI,List.filter_cons,if_pos h0]; rfl
  ·rw [List.filter_append,List.map_append,hI,List.filter_cons,if_neg (by rw [h0]; decide)]; simp
noncomputable def Gbc (s:H0) (boxes:List Box) (q:List Stowed) (id:Int):Int:=((J57 s boxes q id).length:Int)
def Y02 (F:Nat) (s:H0) (boxes:List Box) (l:List Stowed) (id size:Int) (r:List Slot×Int×Int):Prop:=
 ∃ ok:List Slot,ok.length≤200*s.Columns.length∧ok.Pairwise Gee∧(∀ y,y∈ok ↔ Zt s y size∧(Zg F s boxes l id y).2=0) ∧
  ((ok=[]∧r=([],0,4))∨(r.1≠[]∧r.1=ok.filter (fun y=>decide (Gbc s boxes (Zg F s boxes l id y).1 id=r.2.1))∧r.2.2=0∧∀ y∈ok,r.2.1≤Gbc s boxes (Zg F s boxes l id y).1 id))
theorem R44 {F:Nat} {s:H0} {boxes:List Box} {l:List Stowed} (h:Sta s boxes l) (hl:l.length≤9) (hF:40≤F) {id:Int} {b:Box} (hb:Yj boxes id=some b) (hz:b.Size=20∨b.Size=40) (hx:id ∉ l.map (·.Box)) :
  Wp (Yz F s boxes l id) (Y02 F s boxes l id b.Size):=by
 have hid:b.ID=id:=Kd (List.find?_some (p:=fun b:Box=>decide (b.ID=id)) hb)
 have hs:=G38 h.ship
 have hcols:=hs.cols
 unfold Yz
 refine Gu h.rightM (He (fun h=>by cases h) (fun _=>Gu (Gd6 boxes id) ?_))
 rw [hb]
 refine He (fun hh=>?_) (fun _=>Gu (Q48 l id) ?_)
 ·simp only [Bool.not_true,Bool.false_or,Kq,Kr] at hh
  omega
 rw [Kg hx]
 refine He (fun h=>by cases h) (fun _=>Gu (show H4b s boxes l _=some () from rfl) ?_)
 refine H8 (wp_mono (Rec h (by omega) (by rw [hid]; exact hb) hz (by rw [hid]; exact hx)) (fun ys hys=>?_))
 obtain⟨all,a1,a2,a3,rfl⟩:=hys
 rw [hid]
 have hok:∀ y,y∈all.filter (fun y=>decide ((Zg F s boxes l id y).2=0)) ↔ Zt s y b.Size∧(Zg F s boxes l id y).2=0:=fun y=>by
  rw [Kx,a2,Kr]
 have hokl:(all.filter (fun y=>decide ((Zg F s boxes l id y).2=0))).length≤200*s.Columns.length:=Nat.le_trans (List.length_filter_le _ _) a1
 have hokn:=a3.sublist (List.filter_sublist (p:=fun y=>decide ((Zg F s boxes l id y).2=0)))
 generalize all.filter (fun y=>decide ((Zg F s boxes l id y).2=0))=ok at hok hokl hokn
 refine Jo (fun pre t=>(pre=[]→t.1=[])∧(pre≠[]→t.1≠[]∧t.1=(pre.filter (fun p=>decide (Gbc s boxes p.2 id=t.2.1))).map (·.1)∧∀ p∈pre,t.2.1≤Gbc s boxes p.2 id)) ⟨fun _=>rfl,fun h=>(h rfl).elim⟩ (fun pre y post t nx e hI hnx=>?_) (fun t hI=>?_)
 ·obtain⟨i1,i2⟩:=hI
  have hym:y∈ok.map (fun y=>(y,(Zg F s boxes l id y).1)):=by rw [e]; simp
  have hpl:pre.length < ok.length:=by
   have:=congrArg List.length e
   simp only [Ks,Ko,List.length_cons] at this
   omega
  have htl:t.1.length≤pre.length:=by
   by_cases hp:pre=[]
   ·rw [i1 hp]; simp
   ·rw [(i2 hp).2.1,Ks]; exact List.length_filter_le _ _
  obtain⟨y0,hy0,rfl⟩:=Ku.1 hym
  obtain⟨g1,g2⟩:=(hok y0).1 hy0
  obtain⟨_,hput⟩:=Jeb h (by omega:20≤F) hb hz hx y0
  have hSt:=(Y1b h hl (x:=Stowed.mk id y0) hb hx hput g2).2.2.2
  refine Gu (J7f hSt hF id) ?_
  have hne:pre++[(y0,(Zg F s boxes l id y0).1)]≠[]:=by simp
  refine Gbe (fun j=>(j.2.1=Gbc s boxes (Zg F s boxes l id y0).1 id∧j.2.2=[]∧∀ p∈pre,Gbc s boxes (Zg F s boxes l id y0).1 id < Gbc s boxes p.2 id)∨(pre≠[]∧j.2.1=t.2.1∧j.2.2=t.1∧t.2.1≤Gbc s boxes (Zg F s boxes l id y0).1 id)) (fun K hK=>He (fun hc=>hK _ (.inl ⟨rfl,rfl,fun p hp=>?_⟩)) (fun hc=>hK _ (.inr ?_))) (fun j hj=>?_)
  ·have hpn:pre≠[]:=fun e=>by rw [e] at hp; cases hp
   obtain⟨k1,_,k3⟩:=i2 hpn
   have:=k3 p hp
   simp only [Ky,Kr] at hc
   rcases hc with hc | hc
   ·exact(k1 (List.eq_nil_of_length_eq_zero (by omega))).elim
   ·show Gbc s boxes _ id < _
    unfold Gbc at this ⊢
    omega
  ·simp only [Kz,decide_eq_false_iff_not] at hc
   have hpn:pre≠[]:=fun e=>hc.1 (by rw [i1 e]; rfl)
   exact⟨hpn,rfl,rfl,by unfold Gbc; omega⟩
  ·have hjl:j.2.2.length≤pre.length:=by
    rcases hj with ⟨_,e,_⟩ | ⟨_,_,e,_⟩
    ·rw [e]; simp
    ·rw [e]; exact htl
   refine He (fun hc=>R6 (J70 (by rw [Kp]; omega) (by omega)) (hnx _ ⟨fun h=>(hne h).elim,fun _=>?_⟩)) (fun hc=>hnx _ ⟨fun h=>(hne h).elim,fun _=>?_⟩)
   ·have hc:Gbc s boxes (Zg F s boxes l id y0).1 id=j.2.1:=Kd hc
    refine⟨by simp,?_,?_⟩
    ·show j.2.2++[y0]=((pre++[(y0,(Zg F s boxes l id y0).1)]).filter (fun p=>decide (Gbc s boxes p.2 id=j.2.1))).map (·.1)
     rw [List.filter_append,List.map_append,List.filter_cons,if_pos (Kf hc)]
     refine congrArg (·++[y0]) ?_
     rcases hj with ⟨j1,j2,j3⟩ | ⟨j0,j1,j2,j3⟩
     ·have:pre.filter (fun p=>decide (Gbc s boxes p.2 id=j.2.1))=[]:=List.filter_eq_nil_iff.2 fun p hp hh=>by
       have:=j3 p hp
       have:=Kd hh
       omega
      rw [j2,this]; rfl
     ·rw [j2,j1]; exact(i2 j0).2.1
    ·show ∀ p∈pre++[(y0,(Zg F s boxes l id y0).1)],j.2.1≤Gbc s boxes p.2 id
     refine Jp (P:=fun p:Slot×List Stowed=>j.2.1≤Gbc s boxes p.2 id) (fun p hp=>?_) (Int.le_of_eq hc.symm)
     rcases hj with ⟨j1,j2,j3⟩ | ⟨j0,j1,j2,j3⟩
     ·have:=j3 p hp; omega
     ·rw [j1]; exact(i2 j0).2.2 p hp
   ·have hc:¬ Gbc s boxes (Zg F s boxes l id y0).1 id=j.2.1:=Ke hc
    rcases hj with ⟨j1,j2,j3⟩ | ⟨j0,j1,j2,j3⟩
    ·exact(hc j1.symm).elim
    obtain⟨k1,k2,k3⟩:=i2 j0
    refine⟨by rw [j2]; exact k1,?_,?_⟩
    ·show j.2.2=((pre++[(y0,(Zg F s boxes l id y0).1)]).filter (fun p=>decide (Gbc s boxes p.2 id=j.2.1))).map (·.1)
     rw [List.filter_append,List.map_append,List.filter_cons,if_neg (fun hh=>hc (Kd hh)),j2,j1]
     simpa using k2
    ·show ∀ p∈pre++[(y0,(Zg F s boxes l id y0).1)],j.2.1≤Gbc s boxes p.2 id
     refine Jp (P:=fun p:Slot×List Stowed=>j.2.1≤Gbc s boxes p.2 id) (fun p hp=>?_) (by show j.2.1≤Gbc s boxes (Zg F s boxes l id y0).1 id; omega)
     rw [j1]; exact k3 p hp
 ·obtain⟨i1,i2⟩:=hI
  by_cases hn:ok=[]
  ·subst hn
   rw [i1 rfl]
   exact He (fun _=>Gk ⟨[],hokl,hokn,hok,.inl ⟨rfl,rfl⟩⟩) (fun h=>absurd h (by decide))
  ·obtain⟨k1,k2,k3⟩:=i2 (by simpa using hn)
   have hpos:=List.length_pos_iff.2 k1
   refine He (fun h=>?_) (fun _=>Gk ⟨ok,hokl,hokn,hok,.inr ⟨k1,?_,rfl,fun y hy=>?_⟩⟩)
   ·have:=Kd h; omega
   ·show t.1=_
    rw [k2,List.filter_map,List.map_map]
    simp only [Function.comp_def,List.map_id']
   ·exact k3 _ (Ku.2 ⟨y,hy,rfl⟩)

theorem Q38 {size h:Int} (hh:h∈G5f size):0≤h∧h < 3:=by
 unfold G5f at hh
 split at hh
 ·simp at hh; omega
 ·split at hh
  ·simp at hh; omega
  ·simp at hh
theorem Y19 {F:Nat} {s:H0} (hs:Small s) (hF:4≤F) (size:Int):Wp (G30 F s size) (fun r=>r.length≤300*s.Columns.length∧(∀ x,x∈r ↔ Zt s x size)∧r.Pairwise Gee):=by
 unfold G30
 have hhl:(G5f size).length≤2:=by
  unfold G5f
  split
  ·simp
  ·split <;> simp
 refine Jo (fun pre r=>r.length≤300*pre.length∧(∀ x,x∈r ↔ Zt s x size∧x.G3 < (pre.length:Int))∧r.Pairwise Gee) ⟨by simp,fun x=>⟨fun h=>(Km h).elim,fun⟨h,h2⟩=>?_⟩,List.Pairwise.nil⟩ (fun pre c post r nx e hI hnx=>?_) (fun r hI=>Gk ⟨hI.1,fun x=>?_,hI.2.2⟩)
 ·obtain⟨m,c,hm,_⟩:=h.col
  have h2:x.G3 < (0:Int):=h2
  omega
 rotate_left
 ·rw [hI.2.1]
  refine⟨fun h=>h.1,fun h=>⟨h,?_⟩⟩
  obtain⟨m,c,hm,hc,_⟩:=h.col
  have:=(Kh hc).1
  omega
 obtain⟨h1,h2,h3⟩:=hI
 have hc:s.Columns[pre.length]? = some c:=by rw [e]; simp
 have hpl0:pre.length < s.Columns.length:=by rw [e]; simp
 have hcl:=hs.cols
 have ht:=hs.tiers c (Kk hc)
 refine R6 (Kf (by omega)) ?_
 have htn:(c.Tiers).toNat≤100:=by omega
 refine Haf (fun i r'=>r'.length≤r.length+3*i∧(∀ x,x∈r' ↔ Zt s x size∧(x.G3 < (pre.length:Int)∨(x.G3=(pre.length:Int)∧x.Tier < (i:Int))))∧r'.Pairwise Gee) ⟨by simp,fun x=>?_,h3⟩ (fun i r' nx2 hi hI hnx2=>?_) (fun r' hI=>hnx _ ⟨?_,fun x=>?_,hI.2.2⟩)
 ·rw [h2]
  constructor
  ·exact fun h=>⟨h.1,.inl h.2⟩
  ·rintro⟨h,hh | ⟨_,hh⟩⟩
   ·exact⟨h,hh⟩
   ·have:=h.tier
    omega
 ·obtain⟨i1,i2,i3⟩:=hI
  refine wp_loop (fun st:List Slot×Int=>∃ k:Nat,st.2=(k:Int)∧k≤3∧st.1.length≤r'.length+k∧(∀ x,x∈st.1 ↔ x∈r'∨(x.G3=(pre.length:Int)∧x.Tier=(i:Int)∧x.Half∈G5f size∧x.Half < (k:Int)))∧st.1.Pairwise Gee) (fun st=>(3 - st.2).toNat) ⟨0,rfl,by omega,Kn,fun x=>⟨.inl,fun h=>h.elim _root_.id (fun h=>by have:=Q38 h.2.2.1; omega)⟩,i3⟩ (by show ((3:Int) - 0).toNat < F; omega) (fun st nx3 hJ hnx3=>?_)
  obtain⟨r2,h0⟩:=st
  obtain⟨k,hk,k1,k2,k3,k4⟩:=hJ
  have hk:h0=(k:Int):=hk
  subst hk
  dsimp only at k2 k3 k4 ⊢
  refine He (fun hh=>?_) (fun hh=>?_)
  ·have hh:=Kd hh
   refine Gbe (fun j=>j.length≤r'.length+(k+1)∧(∀ x,x∈j ↔ x∈r'∨(x.G3=(pre.length:Int)∧x.Tier=(i:Int)∧x.Half∈G5f size∧x.Half < ((k+1:Nat):Int)))∧j.Pairwise Gee) (fun K hK=>?_) (fun j hj=>?_)
   ·refine H8 (wp_mono (Q28 s (Slot.mk (pre.length:Int) (i:Int) (k:Int)) size) (fun v hv=>He (fun hv1=>?_) (fun hv0=>?_)))
    ·have hso:=hv.1 hv1
     refine R6 (J70 (by rw [Kp]; omega) (by omega)) (hK _ ⟨by rw [Ko,Kp]; omega,fun x=>?_,H19 k4 (fun a ha=>?_)⟩)
     ·rw [Kt,k3,Kv]
      constructor
      ·rintro((h | ⟨a,b,c,d⟩) | rfl)
       ·exact .inl h
       ·exact .inr ⟨a,b,c,by omega⟩
       ·exact .inr ⟨rfl,rfl,hso.half,by show (k:Int) < _; omega⟩
      ·rintro(h | ⟨a,b,c,d⟩)
       ·exact .inl (.inl h)
       ·by_cases hx:x.Half=(k:Int)
        ·exact .inr (by cases x; simp_all)
        ·exact .inl (.inr ⟨a,b,c,by omega⟩)
     ·rcases (k3 a).1 ha with hh | ⟨q1,q2,q3,q4⟩
      ·obtain⟨_,hh | ⟨g1,hh⟩⟩:=(i2 _).1 hh
       ·exact .inl hh
       ·exact .inr ⟨g1,.inl hh⟩
      ·exact .inr ⟨q1,.inr ⟨q2,q4⟩⟩
    ·refine hK _ ⟨by omega,fun x=>?_,k4⟩
     rw [k3]
     constructor
     ·rintro(h | ⟨a,b,c,d⟩)
      ·exact .inl h
      ·exact .inr ⟨a,b,c,by omega⟩
     ·rintro(h | ⟨a,b,d,g⟩)
      ·exact .inl h
      ·by_cases hx:x.Half=(k:Int)
       ·have hso:Zt s (Slot.mk (pre.length:Int) (i:Int) (k:Int)) size:=⟨⟨pre.length,c,rfl,hc,by show (i:Int) < c.Tiers; omega⟩,by show (0:Int)≤(i:Int); omega,by rw [hx] at d; exact d⟩
        rw [hv.2 hso] at hv0; cases hv0
       ·exact .inr ⟨a,b,d,by omega⟩
   ·have hw:IntKind.u8.wrap ((k:Int)+1)=((k+1:Nat):Int):=by
     simp only [IntKind.wrap,IntKind.signed,IntKind.bits]
     simp
     omega
    rw [hw]
    exact hnx3 _ ⟨k+1,rfl,by omega,hj.1,hj.2.1,hj.2.2⟩ (by show ((3:Int) - ((k+1:Nat):Int)).toNat < ((3:Int) - (k:Int)).toNat; omega)
  ·have hh:=Ke hh
   refine hnx2 _ ⟨by omega,fun x=>?_,k4⟩
   rw [k3,i2]
   constructor
   ·rintro(⟨a,b⟩ | ⟨a,b,c0,_⟩)
    ·exact⟨a,by omega⟩
    ·refine⟨⟨⟨pre.length,c,a,hc,?_⟩,by omega,c0⟩,.inr ⟨a,by omega⟩⟩
     omega
   ·rintro⟨a,b⟩
    by_cases hh:x.G3=(pre.length:Int)∧x.Tier=(i:Int)
    ·exact .inr ⟨hh.1,hh.2,a.half,by have:=Q38 a.half; omega⟩
    ·exact .inl ⟨a,by omega⟩
 ·have:=hI.1
  simp only [Ko,Kp]; omega
 ·rw [hI.2.1]
  have hpl:((pre++[c]).length:Int)=(pre.length:Int)+1:=by simp
  rw [hpl]
  constructor
  ·rintro⟨a,b⟩
   exact⟨a,by omega⟩
  ·rintro⟨a,b⟩
   refine⟨a,?_⟩
   obtain⟨m,c',hm,hc',htt⟩:=a.col
   by_cases hh:x.G3=(pre.length:Int)
   ·have:m=pre.length:=by omega
    subst this
    rw [hc] at hc'; cases hc'
    have:=a.tier
    exact .inr ⟨hh,by omega⟩
   ·exact .inl (by omega)
theorem Q98 {a:Slot} (h:Gee a a):False:=by unfold Gee at h; omega
theorem R19 {a b:List Slot} (ha:a.Pairwise Gee) (hb:b.Pairwise Gee) (h:∀ x,x∈a ↔ x∈b):a=b:=
 List.Perm.eq_of_pairwise (le:=Gee) (fun x y _ _ h1 h2=>by unfold Gee at h1 h2; omega) ha hb ((List.perm_ext_iff_of_nodup (ha.imp (fun {x y} h e=>by subst e; exact Q98 h)) (hb.imp (fun {x y} h e=>by subst e; exact Q98 h))).2 h)
theorem Q2a (o:List Int) (v:Int):Qa o v=some (decide (v∈o)):=by
 refine Zd ?_
 unfold Qa
 refine Jo (fun pre _=>v ∉ pre) (fun h=>(Km h).elim) (fun pre y post u nx e hI hnx=>He (fun h=>Gk ?_) (fun h=>hnx _ ?_)) (fun u hI=>Gk (Kg hI).symm)
 ·have h:=Kd h
  exact(Kf (by rw [e,h]; simp)).symm
 ·have h:=Ke h
  rw [Kt,Kv]
  exact fun hh=>hh.elim hI (fun e=>h e.symm)

theorem Q29 {F:Nat} {s:H0} {boxes:List Box} {l:List Stowed} (h:Sta s boxes l) (hbx:∀ b∈boxes,0≤b.Size∧b.Size≤255):Q7 F s boxes l=some true:=by
 have hl:=h.len
 have hs:=G38 h.ship
 obtain⟨b,h1,h2⟩:=Q27 (F:=F) (boxes:=boxes) (l:=l) (J9e h.ship) (fun x hx=>by have:=hs.rows x hx; omega) hbx (by omega)
 rw [h1,h2.2 ⟨Hf8 h.ship,h.right⟩]
theorem Rae {F:Nat} {s:H0} {boxes:List Box} {l:List Stowed} (h:Sta s boxes l) (hbx:∀ b∈boxes,0≤b.Size∧b.Size≤255) {o:List Int} (ho:o=[]∨∃ k:Nat,k < s.Covers.length∧o=[(k:Int)]):Qr F s boxes l o=some true:=by
 have hr:=Q29 (F:=F) h hbx
 refine Zd ?_
 unfold Qr
 rcases ho with rfl | ⟨k,hk,rfl⟩
 ·exact Gu hr (Gk rfl)
 ·refine Jo (fun pre _=>True) trivial (fun pre y post u nx e hI hnx=>?_) (fun u _=>Gu hr (Gk rfl))
  cases pre with
  | cons a r=>simp at e
  | nil=>
   simp only [List.nil_append,List.cons.injEq] at e
   obtain⟨rfl,rfl⟩:=e
   have c:(decide ((k:Int) < 0)||decide ((s.Covers.length:Int)≤(k:Int)))=false:=by
    rw [Kz]; exact⟨Kg (by omega),Kg (by omega)⟩
   have z:decide (0 < (([]:List Int).length:Int))=false:=rfl
   rw [c,z]
   simp only [Bool.not_false,Bool.and_false,cond_false,Bool.false_and,Bool.or_self]
   exact H8 (Gk (H8 (Gk (hnx _ trivial))))
theorem R34 {β:Type} {Q:β→Prop} {k x:Int} {o:List Int} {s:H0} {m:Nat} {c:G3} {A B:Option β} (hm:x=(m:Int)) (hc:s.Columns[m]? = some c) (ha:(0≤k∧(c.Deck=true ↔ k∈o))→Wp A Q) (hb:¬ (0≤k∧(c.Deck=true ↔ k∈o))→Wp B Q) :
  Wp (bnd (bif decide (0≤k) then Qm s.Columns x some else some default) fun y24=>
   bnd (bif ((decide (0≤k))&&y24.Deck) then Qa o k else some default) fun r25=>
   bnd (bif ((!(((decide (0≤k))&&y24.Deck)&&r25))&&(decide (0≤k))) then Qm s.Columns x some else some default) fun y26=>
   bnd (bif ((!(((decide (0≤k))&&y24.Deck)&&r25))&&((decide (0≤k))&&(!y26.Deck))) then Qa o k else some default) fun r27=>
   bif ((((decide (0≤k))&&y24.Deck)&&r25)||(((decide (0≤k))&&(!y26.Deck))&&(!r27))) then A else B) Q:=by
 subst hm
 by_cases hk:0≤k
 ·rw [Kf hk,Z2 hc,Q2a]
  simp only [cond_true,Bool.true_and,G9b]
  cases hd:c.Deck with
  | true=>
   by_cases ho:k∈o
   ·rw [Kf ho]
    simp only [cond_true,cond_false,Bool.true_and,Bool.and_true,Bool.not_true,Bool.false_and,G9b,Bool.true_or]
    exact ha ⟨hk,fun _=>ho,fun _=>hd⟩
   ·rw [Kg ho]
    simp only [cond_true,cond_false,Bool.true_and,Bool.and_true,Bool.not_true,Bool.not_false,Bool.false_and,Bool.and_false,G9b,Bool.false_or,hd]
    exact hb (fun h=>ho (h.2.1 hd))
  | false=>
   by_cases ho:k∈o
   ·rw [Kf ho]
    simp only [cond_true,cond_false,Bool.true_and,Bool.and_true,Bool.not_true,Bool.not_false,Bool.false_and,Bool.and_false,G9b,Bool.false_or,hd]
    exact hb (fun h=>by have:=h.2.2 ho; rw [hd] at this; cases this)
   ·rw [Kg ho]
    simp only [cond_true,cond_false,Bool.true_and,Bool.and_true,Bool.not_true,Bool.not_false,Bool.false_and,Bool.and_false,G9b,Bool.false_or,hd]
    exact ha ⟨hk,fun h=>(by rw [hd] at h; cases h),fun h=>(ho h).elim⟩
 ·rw [Kg hk]
  simp only [cond_false,G9b,Bool.false_and,Bool.and_false,Bool.or_self]
  exact hb (fun h=>hk h.1)
theorem Qc2 {st:List Stowed} {y:Stowed} (h:st.length≤1000):decide ((st.length+[y].length)*32≤140737488355328∧st.length+[y].length≤maxLen)=true:=by
 refine Kf ⟨?_,?_⟩
 ·rw [Kp]; omega
 ·rw [Kp]; simp only [maxLen]; omega
theorem Q9f {F:Nat} {s:H0} {boxes:List Box} {l:List Stowed} {o:List Int} (h:Sta s boxes l) (hC:Qr F s boxes l o=some true) {x:Stowed} {b:Box} (hb:Yj boxes x.Box=some b) (hz:b.Size=20∨b.Size=40) (hx:x.Box ∉ l.map (·.Box)) :
  Wp (Yu F s boxes l o x) (Qd2 s boxes l o x b.Size):=by
 have hs:=G38 h.ship
 have hl:=h.len
 unfold Yu
 refine Gu hC (He (fun h=>by cases h) (fun _=>Gu (H1f boxes x.Box) ?_))
 rw [hb]
 refine He (fun hh=>?_) (fun _=>Gu (Q2d l x.Box) (He (fun hh=>?_) (fun _=>Zb ⟨by show (-9223372036854775808:Int)≤b.Size; omega,by show b.Size≤9223372036854775807; omega⟩ ?_)))
 ·simp only [Bool.not_true,Bool.false_or,Kq,Kr] at hh
  omega
 ·rw [G9a,List.any_eq_true] at hh
  obtain⟨y,hy,e⟩:=hh
  exact(hx (Ku.2 ⟨y,hy,Kd e⟩)).elim
 refine H8 (wp_mono (Q28 s x.Slot b.Size) (fun r18 h18=>He (fun hh=>Gk (.inl ⟨fun hk=>?_,rfl⟩)) (fun hh=>?_)))
 ·rw [h18.2 hk] at hh; cases hh
 have hslot:Zt s x.Slot b.Size:=h18.1 (by simpa using hh)
 have htier : -1000000≤x.Slot.Tier∧x.Slot.Tier≤1000000:=by
  obtain⟨m,c,_,hc,ht⟩:=hslot.col
  have:=hs.tiers c (Kk hc)
  have:=hslot.tier
  omega
 obtain⟨m,c,hm,hc,_⟩:=hslot.col
 have hcl:Ha3 s o x.Slot ↔ (0≤Jj s c∧(c.Deck=true ↔ Jj s c∈o)):=by
  constructor
  ·rintro⟨m',c',e1,e2,e3⟩
   have:m'=m:=by omega
   subst this
   rw [hc] at e2; cases e2
   exact e3
  ·exact fun e=>⟨m,c,hm,hc,e⟩
 have hcv:Q5 s x.Slot.G3=some (Jj s c):=by rw [hm]; exact J15 hc
 refine Gu hcv (R34 hm hc (fun hk=>Gk (.inr ⟨hslot,.inl ⟨hcl.2 hk,rfl⟩⟩)) (fun hk=>?_))
 have hns:¬ Ha3 s o x.Slot:=fun hh=>hk (hcl.1 hh)
 refine Jo (fun pre _=>∀ y∈pre,¬ Gc2 x.Slot y.Slot) (fun y hy=>(Km hy).elim) (fun pre y post u nx e hI hnx=>H8 (wp_mono (R21 y.Slot x.Slot) (fun r hr=>He (fun hh=>Gk (.inr ⟨hslot,.inr ⟨hns,.inl ⟨⟨y,by rw [e]; simp,J9c (hr.1 hh)⟩,rfl⟩⟩⟩)) (fun hh=>hnx _ (Jp (P:=fun y:Stowed=>¬ Gc2 x.Slot y.Slot) hI (fun hm=>by rw [hr.2 (J9c hm)] at hh; cases hh)))))) (fun u hI=>?_)
 have hmet:¬ R3b l x.Slot:=fun⟨y,hy,hm⟩=>hI y hy hm
 refine Gu (Q9e l (by omega)) (H8 (wp_mono (R23 x.Slot (l.map (·.Slot)) htier) (fun r hr=>He (fun hh=>Gk (.inr ⟨hslot,.inr ⟨hns,.inr ⟨hmet,.inl ⟨fun hk=>?_,rfl⟩⟩⟩⟩)) (fun hh=>?_))))
 ·rw [hr.2 hk] at hh; cases hh
 have hheld:=hr.1 (by simpa using hh)
 have hne:∀ y∈l,y.Box≠x.Box:=fun y hy e=>hx (Ku.2 ⟨y,hy,e⟩)
 refine Jo (fun pre st=>st.1.length≤pre.length+1∧((st.2=false∧st.1=pre∧∀ y∈pre,y.Box < x.Box)∨(st.2=true∧∃ a d,pre=a++d∧st.1=a++x::d∧(∀ y∈a,y.Box < x.Box)∧∃ z,d.head? = some z∧x.Box < z.Box))) ⟨by simp,.inl ⟨rfl,rfl,fun y hy=>(Km hy).elim⟩⟩ (fun pre y post st nx e hI hnx=>?_) (fun st hI=>?_)
 ·obtain⟨q,t⟩:=st
  obtain⟨i0,hI⟩:=hI
  dsimp only at i0 hI ⊢
  have hyl:y∈l:=by rw [e]; simp
  have hpl:pre.length < l.length:=by rw [e]; simp
  have hyne:=hne y hyl
  refine Gbe (fun j=>j.1.length≤pre.length+1∧((j.2=false∧j.1=pre∧(∀ y∈pre,y.Box < x.Box)∧y.Box < x.Box)∨(j.2=true∧∃ a d,pre=a++d∧j.1=a++x::d∧(∀ y∈a,y.Box < x.Box)∧((d=[]∧x.Box < y.Box)∨∃ z,d.head? = some z∧x.Box < z.Box)))) (fun K hK=>He (fun hc=>?_) (fun hc=>hK _ ?_)) (fun j hj=>?_)
  ·simp only [Kq,Bool.not_eq_true',Kr] at hc
   rcases hI with ⟨a1,a2,a3⟩ | ⟨a1,_⟩
   ·refine R6 (Qc2 (by omega)) (hK _ ⟨?_,.inr ⟨rfl,pre,[],(List.append_nil pre).symm,by rw [a2],a3,.inl ⟨rfl,hc.2⟩⟩⟩)
    show (q++[x]).length≤_
    rw [a2]; simp
   ·rw [hc.1] at a1; cases a1
  ·refine⟨i0,?_⟩
   rcases hI with ⟨a1,a2,a3⟩ | ⟨a1,a,d,e1,e2,e3,e4⟩
   ·refine .inl ⟨a1,a2,a3,?_⟩
    rw [a1] at hc
    have:¬ x.Box < y.Box:=by simpa using hc
    omega
   ·exact .inr ⟨a1,a,d,e1,e2,e3,.inr e4⟩
  ·obtain⟨q2,t2⟩:=j
   obtain⟨j0,hj⟩:=hj
   dsimp only at j0 hj ⊢
   refine R6 (Qc2 (by omega)) (hnx _ ⟨?_,?_⟩)
   ·show (q2++[y]).length≤_
    simp only [Ko,Kp]; omega
   ·rcases hj with ⟨a1,a2,a3,a4⟩ | ⟨a1,a,d,e1,e2,e3,e4⟩
    ·exact .inl ⟨a1,by show q2++[y]=_; rw [a2],Jp (P:=fun y:Stowed=>y.Box < x.Box) a3 a4⟩
    ·refine .inr ⟨a1,a,d++[y],by rw [e1,List.append_assoc],by show q2++[y]=_; rw [e2]; simp,e3,?_⟩
     rcases e4 with ⟨rfl,h⟩ | ⟨z,hz,h⟩
     ·exact⟨y,rfl,h⟩
     ·refine⟨z,?_,h⟩
      cases d with
      | nil=>cases hz
      | cons w r=>exact hz
 ·obtain⟨q,t⟩:=st
  obtain⟨i0,hI⟩:=hI
  dsimp only at i0 hI ⊢
  refine Gbe (fun j=>Hd8 l x j) (fun K hK=>He (fun hc=>?_) (fun hc=>hK _ ?_)) (fun j hins=>?_)
  ·rcases hI with ⟨a1,a2,a3⟩ | ⟨a1,_⟩
   ·exact R6 (Qc2 (by omega)) (hK _ ⟨l,[],(List.append_nil l).symm,by rw [a2],a3,fun y hy=>by cases hy⟩)
   ·rw [a1] at hc; cases hc
  ·rcases hI with ⟨a1,a2,a3⟩ | ⟨a1,a,d,e1,e2,e3,z,e4,e5⟩
   ·rw [a1] at hc; cases hc
   ·exact⟨a,d,e1,e2,e3,fun y hy=>by rw [e4] at hy; cases hy; omega⟩
  ·have hql:j.length≤1000000:=by
    have:=(H63 hins).length_eq
    simp only [List.length_cons] at this
    omega
   have hhc:0≤c.Height:=by
    have:=((Hf8 h.ship).col c (Kk hc)).place
    omega
   have hfc:R9f s boxes j x.Slot ↔ H74 boxes j m c:=by
    refine⟨fun hf=>hf m c hm hc,fun hf m' c' e1 e2=>?_⟩
    have:m'=m:=by omega
    subst this
    rw [hc] at e2; cases e2
    exact hf
   have hhi:Wp (Yf s boxes j x.Slot.G3) (fun r=>r=true ↔ ¬ H74 boxes j m c):=by rw [hm]; exact R22 hc hhc hql
   refine H8 (wp_mono hhi (fun r hr=>He (fun hh=>Gk (.inr ⟨hslot,.inr ⟨hns,.inr ⟨hmet,.inr ⟨hheld,j,hins,.inl ⟨fun hk=>hr.1 hh (hfc.1 hk),rfl⟩⟩⟩⟩⟩)) (fun hh=>Gk (.inr ⟨hslot,.inr ⟨hns,.inr ⟨hmet,.inr ⟨hheld,j,hins,.inr ⟨hfc.2 ?_,rfl⟩⟩⟩⟩⟩))))
   by_cases hf:H74 boxes j m c
   ·exact hf
   ·rw [hr.2 hf] at hh; cases hh
theorem Qd2.eq {s:H0} {boxes:List Box} {l:List Stowed} {o:List Int} {x:Stowed} {size:Int} {r r':List Stowed×Int} (hs:l.Pairwise (fun a b=>a.Box < b.Box)) (hx:x.Box ∉ l.map (·.Box)) (h:Qd2 s boxes l o x size r) (h':Qd2 s boxes l o x size r'):r=r':=by
 have hi:∀ {q q':List Stowed},Hd8 l x q→Hd8 l x q'→q=q':=fun h1 h2=>Jd6 ((H63 h1).trans (H63 h2).symm) (Hc3 h1 hs hx) (Hc3 h2 hs hx)
 rcases h with ⟨a,e⟩ | ⟨a,⟨b,e⟩ | ⟨b,⟨d,e⟩ | ⟨d,⟨g,e⟩ | ⟨g,q,i,⟨j,e⟩ | ⟨j,e⟩⟩⟩⟩⟩ <;> rcases h' with ⟨a',e'⟩ | ⟨a',⟨b',e'⟩ | ⟨b',⟨d',e'⟩ | ⟨d',⟨g',e'⟩ | ⟨g',q',i',⟨j',e'⟩ | ⟨j',e'⟩⟩⟩⟩⟩ <;> first | (rw [e,e']; done) | contradiction | (have hq:=hi i i'; subst hq; first | (rw [e,e']; done) | contradiction)

theorem R86 {F:Nat} {s:H0} {boxes:List Box} {l:List Stowed} (h:Sta s boxes l) (hC:Qr F s boxes l []=some true) {k:Nat} (hk:k < s.Covers.length) :
  Wp (G19 F s boxes l [] (k:Int)) (fun r=>r.2=0 ↔ J82 s l (k:Int)):=by
 have hs:=G38 h.ship
 have hcv:=hs.covs
 unfold G19
 refine Gu hC (He (fun h=>by cases h) (fun _=>He (fun h=>?_) (fun _=>?_)))
 ·simp only [Ky,Kr] at h; omega
 refine Jo (fun pre _=>J82 s pre (k:Int)) (fun y hy=>(Km hy).elim) (fun pre y post u nx e hI hnx=>?_) (fun u hI=>?_)
 ·have hy:y∈l:=by rw [e]; simp
  obtain⟨m,c,hm,hc⟩:=h.colIn hy
  have hu:R9 s y.Slot.G3 (k:Int)=some (c.Deck&&decide (Jj s c=(k:Int))):=by rw [hm]; exact Q9d hc
  refine Gu hu (He (fun hh=>Gk ⟨fun h0=>absurd h0 (by decide),fun h0=>?_⟩) (fun hh=>hnx _ ?_))
  ·simp only [Kq,Kr] at hh
   exact(h0 y hy m c hm hc hh.1 hh.2).elim
  ·refine Jp (P:=fun y:Stowed=>∀ (m:Nat) (c:G3),y.Slot.G3=(m:Int)→s.Columns[m]? = some c→c.Deck=true→Jj s c≠(k:Int)) hI (fun m' c' e1 e2 e3 e4=>?_)
   have:m'=m:=by omega
   subst this
   rw [hc] at e2; cases e2
   rw [e3,Kf e4] at hh; cases hh
 ·refine Jo (fun pre q=>q.length≤pre.length) (Kn) (fun pre y post q nx e hJ hnx=>?_) (fun q hJ=>Gk ⟨fun _=>hI,fun _=>rfl⟩)
  have hpl:pre.length < s.Covers.length:=by rw [e]; simp
  refine Gbe (fun q=>q.length≤(pre++[y]).length) (fun K hK=>?_) (fun j hj=>hnx _ hj)
  have hb:Wp (bif (!(decide ((pre.length:Int)=(k:Int)))) then Qa [] (pre.length:Int) else some default) (fun _=>True):=by
   rw [Q2a]
   exact He (fun _=>Gk trivial) (fun _=>Gk trivial)
  refine H8 (wp_mono hb (fun r _=>He (fun hh=>R6 (R1e (by omega)) (hK _ ?_)) (fun hh=>hK _ ?_)))
  ·simp only [Ko,Kp]; omega
  ·simp only [Ko,Kp]; omega
theorem Re9 {F:Nat} {s:H0} {boxes:List Box} {l:List Stowed} (h:Sta s boxes l) (hbx:∀ b∈boxes,0≤b.Size∧b.Size≤255) (hF:20≤F) {id:Int} {b:Box} (hb:Yj boxes id=some b) (hz:b.Size=20∨b.Size=40) (hx:id ∉ l.map (·.Box)) {y:Slot} (hy:Zt s y b.Size) :
  Wp (G2f F s boxes l (Stowed.mk id y)) (fun r=>(r.2=0 ↔ (Zg F s boxes l id y).2=0)∧(r.2=0→r.1=(Zg F s boxes l id y).1)):=by
 obtain⟨_,hput⟩:=Jeb h hF hb hz hx y
 obtain⟨m,c,hm,hc,_⟩:=hy.col
 have hsort:=h.right.sorted
 have hC0:=Rae (F:=F) h hbx (o:=[]) (.inl rfl)
 have ho:J50 s l y=open Classical in (if 0≤Jj s c∧c.Deck=false∧J82 s l (Jj s c) then [Jj s c] else []):=by
  unfold J50
  rw [show y.G3.toNat=m by omega,hc]
 have hcv:Q5 s y.G3=some (Jj s c):=by rw [hm]; exact J15 hc
 -- nothing open
 have hnil:J50 s l y=[]→Wp (bnd (Yu F s boxes l [] (Stowed.mk id y)) fun r8=>some (r8.1,r8.2)) (fun r=>(r.2=0 ↔ (Zg F s boxes l id y).2=0)∧(r.2=0→r.1=(Zg F s boxes l id y).1)):=fun hn=>by
  rw [hn] at hput
  refine H8 (wp_mono (Q9f (x:=Stowed.mk id y) h hC0 hb hz hx) (fun r hr=>Gk ?_))
  have e:=Qd2.eq hsort (x:=Stowed.mk id y) hx hr hput
  rw [← e]
  exact⟨Iff.rfl,fun _=>rfl⟩
 unfold G2f
 refine Gu hcv ?_
 by_cases hk:0≤Jj s c
 ·rw [Kg (show ¬ Jj s c < 0 by omega)]
  simp only [Bool.not_false,cond_true,Bool.false_or]
  refine H8 (Yh hm hc (Gk ?_))
  cases hd:c.Deck with
  | true=>exact hnil (by rw [ho,if_neg (fun hh=>by rw [hh.2.1] at hd; cases hd)])
  | false=>
   rw [cond_false]
   obtain⟨k,ek,hkl⟩:=Q44 hk
   rw [ek]
   refine H8 (wp_mono (R86 h hC0 hkl) (fun r hr=>He (fun hh=>Gk ?_) (fun hh=>?_)))
   ·have hh:=Kd hh
    have hn:J50 s l y=[]:=by rw [ho,if_neg (fun q=>hh (hr.2 (ek ▸ q.2.2)))]
    rw [hn] at hput
    have hsh:Ha3 s [] y:=⟨m,c,hm,hc,hk,fun h=>(by rw [hd] at h; cases h),fun h=>(Km h).elim⟩
    have h91:(Zg F s boxes l id y).2=91:=by
     rcases hput with ⟨a,_⟩ | ⟨_,⟨_,e⟩ | ⟨a,_⟩⟩
     ·exact(a hy).elim
     ·rw [e]
     ·exact(a hsh).elim
    rw [h91]
    exact⟨⟨fun h=>(hh h).elim,fun h=>absurd h (by decide)⟩,fun h=>(hh h).elim⟩
   ·have hh:r.2=0:=by
     have:=Ke hh
     omega
    have hn:J50 s l y=[(k:Int)]:=by rw [ho,if_pos ⟨hk,hd,by rw [ek]; exact hr.1 hh⟩,ek]
    rw [hn] at hput
    refine H8 (wp_mono (Q9f (x:=Stowed.mk id y) h (Rae (F:=F) h hbx (.inr ⟨k,hkl,rfl⟩)) hb hz hx) (fun r hr=>Gk ?_))
    have e:=Qd2.eq hsort (x:=Stowed.mk id y) hx hr hput
    rw [← e]
    exact⟨Iff.rfl,fun _=>rfl⟩
 ·rw [Kf (show Jj s c < 0 by omega)]
  simp only [Bool.not_true,cond_false,Bool.true_or,cond_true]
  exact H8 (Gk (hnil (by rw [ho,if_neg (fun hh=>hk hh.1)])))
theorem Rad (boxes:List Box) (id:Int):Jq boxes id=some (G7b boxes id):=by
 unfold Jq G7b
 rw [H1f]
 cases Yj boxes id <;> rfl
theorem Sta.refR {F:Nat} {s:H0} {boxes:List Box} {l:List Stowed} {ids:List Int} (h:Sta s boxes l) (hbx:∀ b∈boxes,0≤b.Size∧b.Size≤255) (hF:40≤F) (hi:∀ a∈ids,a∈l.map (·.Box)):Wp (Rz F s boxes l ids) (fun r=>r.2=0∧G89 s l ids r.1):=by
 have hl:=h.len
 have hs:=G38 h.ship
 refine wp_mono (Re8 (F:=F) (ids:=ids) (boxes:=boxes) (l:=l) (J9e h.ship) (fun x hx=>by have:=hs.rows x hx; omega) (by have:=hs.covs; omega) hbx (by omega) (by omega)) (fun r hr=>?_)
 rcases hr with ⟨h1,_⟩ | ⟨_,_,⟨h1,_⟩ | ⟨_,h2,h3⟩⟩
 ·exact(h1 ⟨Hf8 h.ship,h.right⟩).elim
 ·exact(h1 hi).elim
 ·exact⟨h2,h3⟩
theorem Y49 {F:Nat} {s:H0} {boxes:List Box} {l:List Stowed} (h:Sta s boxes l) (hbx:∀ b∈boxes,0≤b.Size∧b.Size≤255) (hF:40≤F) {x:Stowed} (hx:x∈l) (id:Int) :
  Wp (G2e F s boxes l id x.Box) (fun r=>r=true ↔ x.Box≠id∧G7b boxes x.Box < G7b boxes id∧RcS s l [x.Box] id):=by
 unfold G2e
 refine Gu (Rad boxes id) (Gu (Rad boxes x.Box) (He (fun hh=>Gk (Y4 fun hc=>?_)) (fun hh=>?_)))
 ·have:=Kd hh
  have:=hc.2.1
  omega
 have hh:=Ke hh
 refine H8 (wp_mono (h.refR hbx hF (fun a ha=>by rw [Kv] at ha; rw [ha]; exact Ku.2 ⟨x,hx,rfl⟩)) (fun r hr=>?_))
 refine Jo (fun pre _=>id ∉ pre) (fun h=>(Km h).elim) (fun pre y post u nx e hI hnx=>He (fun hq=>Gk ?_) (fun hq=>hnx _ ?_)) (fun u hI=>Gk (Y4 fun hc=>hI (hr.2.iff.2 hc.2.2)))
 ·have hq:=Kd hq
  have hm:id∈r.1:=by rw [e,hq]; simp
  exact⟨fun _=>⟨fun e=>by rw [e] at hh; omega,by omega,hr.2.iff.1 hm⟩,fun _=>rfl⟩
 ·have hq:=Ke hq
  rw [Kt,Kv]
  exact fun hh=>hh.elim hI (fun e=>hq e.symm)
theorem R24 {F:Nat} {s:H0} {boxes:List Box} {l:List Stowed} (h:Sta s boxes l) (hbx:∀ b∈boxes,0≤b.Size∧b.Size≤255) (hF:40≤F) (id:Int):R3 F s boxes l id=some (J57 s boxes l id):=by
 have hl:=h.len
 refine Zd ?_
 unfold R3 J57
 classical
 refine Hfe (p:=fun x:Stowed=>decide (x.Box≠id∧G7b boxes x.Box < G7b boxes id∧RcS s l [x.Box] id)) (f:=(·.Box)) (by omega) (fun y i st nx hy hst ht hf=>?_) (Gk rfl)
 refine Gbe (fun j=>j=if (y.Box≠id∧G7b boxes y.Box < G7b boxes id∧RcS s l [y.Box] id) then st++[y.Box] else st) (fun K hK=>H8 (wp_mono (Y49 h hbx hF hy id) (fun r hr=>He (fun hh=>R6 (R1e hst) (hK _ ?_)) (fun hh=>hK _ ?_)))) (fun j hj=>?_)
 ·rw [if_pos (hr.1 hh)]
 ·rw [if_neg (fun hc=>by rw [hr.2 hc] at hh; cases hh)]
 ·by_cases hc:y.Box≠id∧G7b boxes y.Box < G7b boxes id∧RcS s l [y.Box] id
  ·rw [hj,if_pos hc]; exact ht (Kf hc)
  ·rw [hj,if_neg hc]; exact hf (Kg hc)
theorem Y5a:R1 60=some true:=by kernel_rfl

theorem Y02.eq {F:Nat} {s:H0} {boxes:List Box} {l:List Stowed} {id size:Int} {r r':List Slot×Int×Int} (h:Y02 F s boxes l id size r) (h':Y02 F s boxes l id size r'):r=r':=by
 obtain⟨ok,_,o2,o3,h⟩:=h
 obtain⟨ok',_,p2,p3,h'⟩:=h'
 have e:ok=ok':=R19 o2 p2 (fun x=>by rw [o3,p3])
 subst e
 rcases h with ⟨a,e⟩ | ⟨a,b,c,d⟩ <;> rcases h' with ⟨a',e'⟩ | ⟨a',b',c',d'⟩
 ·rw [e,e']
 ·rw [a] at b'
  exact(a' b').elim
 ·rw [a'] at b
  exact(a b).elim
 ·obtain⟨y,hy⟩:=List.exists_mem_of_ne_nil _ a
  obtain⟨y',hy'⟩:=List.exists_mem_of_ne_nil _ a'
  rw [b] at hy
  rw [b'] at hy'
  obtain⟨k1,k2⟩:=Kx.1 hy
  obtain⟨k1',k2'⟩:=Kx.1 hy'
  have k2:=Kd k2
  have k2':=Kd k2'
  have d1:=d y' k1'
  have d2:=d' y k1
  have em:r.2.1=r'.2.1:=by omega
  refine Prod.ext ?_ (Prod.ext em (c.trans c'.symm))
  rw [b,b',em]
theorem R35 {cv:Slot→Int} {cs cs':List Int} {pre:List Slot} {y:Slot} (i2:∀ (j:Nat) z,pre[j]? = some z→cs[j]? = some (cv z)) (h:∀ j:Nat,j≠pre.length→cs'[j]? = cs[j]?) (h':cs'[pre.length]? = some (cv y)):∀ (j:Nat) z,(pre++[y])[j]? = some z→cs'[j]? = some (cv z):=by
 intro j z hz
 by_cases e:j=pre.length
 ·subst e
  rw [List.getElem?_append_right (Kn),Nat.sub_self] at hz
  have hz:y=z:=by simpa using hz
  rw [← hz]; exact h'
 ·have hj:=(Kh hz).1
  rw [Ko,Kp] at hj
  rw [List.getElem?_append_left (by omega)] at hz
  rw [h j e]
  exact i2 j z hz
theorem Y47 {st:List Slot} {y:Slot} (h:st.length≤1000000):decide ((st.length+[y].length)*24≤140737488355328∧st.length+[y].length≤maxLen)=true:=by
 refine Kf ⟨?_,?_⟩
 ·rw [Kp]; omega
 ·rw [Kp]; simp only [maxLen]; omega
noncomputable def cvI (F:Nat) (s:H0) (boxes:List Box) (l:List Stowed) (id:Int) (y:Slot):Int:=if (Zg F s boxes l id y).2=0 then Gbc s boxes (Zg F s boxes l id y).1 id else -1
theorem R87 {F:Nat} {s:H0} {boxes:List Box} {l:List Stowed} (h:Sta s boxes l) (hbx:∀ b∈boxes,0≤b.Size∧b.Size≤255) (hl:l.length≤9) (hF:40≤F) {id:Int} {b:Box} (hb:Yj boxes id=some b) (hz:b.Size=20∨b.Size=40) (hx:id ∉ l.map (·.Box)) :
  Wp (Q9 F s boxes l id) (Y02 F s boxes l id b.Size):=by
 have hs:=G38 h.ship
 have hcols:=hs.cols
 unfold Q9
 refine Gu (Q29 h hbx) (He (fun h=>by cases h) (fun _=>Gu (H1f boxes id) ?_))
 rw [hb]
 refine He (fun hh=>?_) (fun _=>Gu (Q2d l id) (He (fun hh=>?_) (fun _=>Zb ⟨by show (-9223372036854775808:Int)≤b.Size; omega,by show b.Size≤9223372036854775807; omega⟩ ?_)))
 ·simp only [Bool.not_true,Bool.false_or,Kq,Kr] at hh
  omega
 ·rw [G9a,List.any_eq_true] at hh
  obtain⟨y,hy,e⟩:=hh
  exact(hx (Ku.2 ⟨y,hy,Kd e⟩)).elim
 refine H8 (wp_mono (Y19 hs (by omega) b.Size) (fun all hall=>?_))
 obtain⟨a1,a2,a3⟩:=hall
 obtain⟨all0,_,c1,c2,c3⟩:=J69 hs b.Size
 have e0:all0=all:=R19 c3 a3 (fun x=>by rw [a2,c2])
 subst e0
 have hn:Gd7 (all0.length:Int)=some all0.length:=by
  unfold Gd7
  rw [Kf (by omega),cond_true]; rfl
 refine Gu hn (R6 (Kf ⟨by omega,by simp only [maxLen]; omega,by omega⟩) ?_)
 refine Jo (fun pre st=>st.2.length=all0.length∧(∀ (j:Nat) z,pre[j]? = some z→st.2[j]? = some (cvI F s boxes l id z))∧((st.1 = -1∧∀ y∈pre,(Zg F s boxes l id y).2≠0)∨(0≤st.1∧(∃ y∈pre,(Zg F s boxes l id y).2=0∧Gbc s boxes (Zg F s boxes l id y).1 id=st.1)∧∀ y∈pre,(Zg F s boxes l id y).2=0→st.1≤Gbc s boxes (Zg F s boxes l id y).1 id))) ⟨by simp,fun j z hz=>by simp at hz,.inl ⟨rfl,fun y hy=>(Km hy).elim⟩⟩ (fun pre y post st nx e hI hnx=>?_) (fun st hI=>?_)
 ·obtain⟨least,cs⟩:=st
  obtain⟨i1,i2,i3⟩:=hI
  dsimp only at i1 i2 i3 ⊢
  have hy:Zt s y b.Size:=(a2 y).1 (by rw [e]; simp)
  have hpl:pre.length < all0.length:=by rw [e]; simp
  have hcl:pre.length < cs.length:=by omega
  obtain⟨_,hput⟩:=Jeb h (by omega:20≤F) hb hz hx y
  refine Gbe (fun j=>j.2.length=all0.length∧(∀ (i:Nat) z,(pre++[y])[i]? = some z→j.2[i]? = some (cvI F s boxes l id z))∧((j.1 = -1∧∀ y'∈pre++[y],(Zg F s boxes l id y').2≠0)∨(0≤j.1∧(∃ y'∈pre++[y],(Zg F s boxes l id y').2=0∧Gbc s boxes (Zg F s boxes l id y').1 id=j.1)∧∀ y'∈pre++[y],(Zg F s boxes l id y').2=0→j.1≤Gbc s boxes (Zg F s boxes l id y').1 id))) (fun K hK=>?_) (fun j hj=>hnx _ hj)
  refine H8 (wp_mono (Re9 h hbx (by omega) hb hz hx hy) (fun r hr=>Yh rfl (Ki hcl) ?_))
  simp only [Int.toNat_natCast]
  by_cases h0:(Zg F s boxes l id y).2=0
  ·have hr0:r.2=0:=hr.1.2 h0
   have hSt:=(Y1b h hl (x:=Stowed.mk id y) hb hx hput h0).2.2.2
   rw [Kf hr0,cond_true,hr.2 hr0]
   refine Gu (R24 hSt hbx hF id) ?_
   have hcv:cvI F s boxes l id y=((J57 s boxes (Zg F s boxes l id y).1 id).length:Int):=by unfold cvI; rw [if_pos h0]; rfl
   have hcn:Gbc s boxes (Zg F s boxes l id y).1 id=((J57 s boxes (Zg F s boxes l id y).1 id).length:Int):=rfl
   generalize ((J57 s boxes (Zg F s boxes l id y).1 id).length:Int)=n at hcv hcn
   have n0:0≤n:=by rw [← hcn]; unfold Gbc; omega
   have g1:(cs.set pre.length (-1))[pre.length]? = some (-1):=List.getElem?_set_self hcl
   have g2:((cs.set pre.length (-1)).set pre.length n)[pre.length]? = some n:=List.getElem?_set_self (by rw [List.length_set]; exact hcl)
   have q1:((cs.set pre.length (-1)).set pre.length n).length=all0.length:=by rw [List.length_set,List.length_set]; exact i1
   have q2:=R35 (cv:=cvI F s boxes l id) (cs':=(cs.set pre.length (-1)).set pre.length n) (y:=y) i2 (fun j hj=>by rw [List.getElem?_set_ne (fun e=>hj e.symm),List.getElem?_set_ne (fun e=>hj e.symm)]) (by rw [hcv]; exact g2)
   refine Yh rfl g1 ?_
   by_cases hle:least < 0
   ·rw [Kf hle]
    simp only [Bool.not_true,cond_false,Bool.true_or,cond_true]
    refine H8 (Gk (Yh rfl g2 (hK _ ⟨q1,q2,.inr ⟨n0,⟨y,by simp,h0,hcn⟩,Jp (P:=fun y':Slot=>(Zg F s boxes l id y').2=0→n≤Gbc s boxes (Zg F s boxes l id y').1 id) (fun y' hy' h'=>?_) (fun _=>Int.le_of_eq hcn.symm)⟩⟩)))
    rcases i3 with ⟨_,k⟩ | ⟨k,_⟩
    ·exact(k y' hy' h').elim
    ·omega
   ·rw [Kg hle]
    simp only [Bool.not_false,cond_true,Bool.false_or]
    rcases i3 with ⟨k,_⟩ | ⟨k1,⟨z,hz1,hz2,hz3⟩,k3⟩
    ·omega
    refine H8 (Yh rfl g2 (Gk (He (fun hlt=>Yh rfl g2 (hK _ ⟨q1,q2,.inr ⟨n0,⟨y,by simp,h0,hcn⟩,Jp (P:=fun y':Slot=>(Zg F s boxes l id y').2=0→n≤Gbc s boxes (Zg F s boxes l id y').1 id) (fun y' hy' h'=>?_) (fun _=>Int.le_of_eq hcn.symm)⟩⟩)) (fun hlt=>hK _ ⟨q1,q2,.inr ⟨k1,⟨z,Kt.2 (.inl hz1),hz2,hz3⟩,Jp (P:=fun y':Slot=>(Zg F s boxes l id y').2=0→least≤Gbc s boxes (Zg F s boxes l id y').1 id) k3 (fun _=>?_)⟩⟩))))
    ·have:=k3 y' hy' h'
     have:=Kd hlt
     omega
    ·have:=Ke hlt
     omega
  ·rw [Kg (fun q=>h0 (hr.1.1 q)),cond_false]
   refine hK _ ⟨by rw [List.length_set]; exact i1,R35 (cv:=cvI F s boxes l id) i2 (fun j hj=>by rw [List.getElem?_set_ne (fun e=>hj e.symm)]) (by unfold cvI; rw [if_neg h0]; exact List.getElem?_set_self hcl),?_⟩
   rcases i3 with ⟨k1,k2⟩ | ⟨k1,⟨z,hz1,hz2,hz3⟩,k3⟩
   ·exact .inl ⟨k1,Jp (P:=fun y':Slot=>(Zg F s boxes l id y').2≠0) k2 h0⟩
   ·exact .inr ⟨k1,⟨z,Kt.2 (.inl hz1),hz2,hz3⟩,Jp (P:=fun y':Slot=>(Zg F s boxes l id y').2=0→least≤Gbc s boxes (Zg F s boxes l id y').1 id) k3 (fun q=>(h0 q).elim)⟩
 ·obtain⟨least,cs⟩:=st
  obtain⟨i1,i2,i3⟩:=hI
  dsimp only at i1 i2 i3 ⊢
  have hokl:(all0.filter (fun y=>decide ((Zg F s boxes l id y).2=0))).length≤200*s.Columns.length:=Nat.le_trans (List.length_filter_le _ _) c1
  have hokn:(all0.filter (fun y=>decide ((Zg F s boxes l id y).2=0))).Pairwise Gee:=a3.sublist List.filter_sublist
  have hok:∀ y,y∈all0.filter (fun y=>decide ((Zg F s boxes l id y).2=0)) ↔ Zt s y b.Size∧(Zg F s boxes l id y).2=0:=fun y=>by
   rw [Kx,a2,Kr]
  refine He (fun hneg=>Gk ⟨_,hokl,hokn,hok,.inl ⟨?_,rfl⟩⟩) (fun hpos=>?_)
  ·have hneg:=Kd hneg
   rcases i3 with ⟨_,k⟩ | ⟨k,_⟩
   ·exact List.filter_eq_nil_iff.2 fun y hy hh=>k y hy (Kd hh)
   ·omega
  ·have hpos:=Ke hpos
   rcases i3 with ⟨k,_⟩ | ⟨k1,⟨z,hz1,hz2,hz3⟩,k3⟩
   ·omega
   refine Jo (fun pre q=>q=pre.filter (fun y=>decide (cvI F s boxes l id y=least))) rfl (fun pre y post q nx e hJ hnx=>?_) (fun q hJ=>Gk ⟨_,hokl,hokn,hok,.inr ⟨?_,?_,rfl,fun y hy=>?_⟩⟩)
   ·have hpl:pre.length < all0.length:=by rw [e]; simp
    have hql:q.length≤pre.length:=by rw [hJ]; exact List.length_filter_le _ _
    refine Gbe (fun q=>q=(pre++[y]).filter (fun y=>decide (cvI F s boxes l id y=least))) (fun K hK=>Yh rfl (i2 pre.length y (by rw [e]; simp)) (He (fun hh=>R6 (Y47 (by omega)) (hK _ ?_)) (fun hh=>hK _ ?_))) (fun j hj=>hnx _ hj)
    ·rw [List.filter_append,List.filter_cons,if_pos hh,hJ]; rfl
    ·rw [List.filter_append,List.filter_cons,if_neg (by rw [hh]; decide),hJ]; simp
   ·show q≠[]
    intro hq
    rw [hJ,List.filter_eq_nil_iff] at hq
    exact hq z hz1 (Kf (by unfold cvI; rw [if_pos hz2]; exact hz3))
   ·show q=_
    rw [hJ,List.filter_filter]
    refine List.filter_congr fun y _=>?_
    show decide (cvI F s boxes l id y=least)=(decide (Gbc s boxes (Zg F s boxes l id y).1 id=least)&&decide ((Zg F s boxes l id y).2=0))
    unfold cvI
    by_cases h0:(Zg F s boxes l id y).2=0
    ·rw [if_pos h0,Kf h0,Bool.and_true]
    ·rw [if_neg h0,Kg h0,Bool.and_false]
     exact Kg (by omega)
   ·show least≤_
    obtain⟨hy1,hy2⟩:=Kx.1 hy
    exact k3 y hy1 (Kd hy2)

theorem Q50 (a:List Slot):Y8 a a=some true:=by
 unfold Y8
 exact Hbe (fun i y nx h=>by rw [Z2 h]; simp)
structure Y7a (s:H0) (l:List Stowed):Prop where
 cols:s.Columns.length≤12
 covs:s.Covers.length≤12
 tiers:∀ c∈s.Columns,c.Tiers≤10
 rows:∀ x∈s.Covers,x.Rows.length≤12
theorem R95 (s:H0) (boxes:List Box) (l:List Stowed):Wp (Zy s boxes l) (fun r=>r=true→Y7a s l):=by
 unfold Zy
 refine He (fun h=>Gk (fun h=>Bool.noConfusion h)) (fun h=>?_)
 simp only [Kz,decide_eq_false_iff_not] at h
 obtain⟨⟨⟨h1,h2⟩,h3⟩,h4⟩:=h
 refine Jo (fun pre _=>∀ c∈pre,c.Tiers≤10) (fun c hc=>(Km hc).elim) (fun pre y post u nx e hI hnx=>He (fun h=>Gk (fun h=>Bool.noConfusion h)) (fun h=>hnx _ (Jp (P:=fun c:G3=>c.Tiers≤10) hI ?_))) (fun u hI=>?_)
 ·simp only [Kz,decide_eq_false_iff_not] at h; omega
 refine Jo (fun pre _=>∀ x∈pre,x.Rows.length≤12) (fun c hc=>(Km hc).elim) (fun pre y post u nx e hI hnx=>He (fun h=>Gk (fun h=>Bool.noConfusion h)) (fun h=>hnx _ (Jp (P:=fun x:G8=>x.Rows.length≤12) hI ?_))) (fun u hI2=>Gk (fun _=>⟨by omega,by omega,hI,hI2⟩))
 simp only [decide_eq_false_iff_not] at h; omega
theorem R31 {F:Nat} {s:H0} {boxes:List Box} {l:List Stowed} (hf:Y7a s l) (hp:∀ c∈s.Columns,c.Plugs.length≤1048576) (hbx:∀ b∈boxes,0≤b.Size∧b.Size≤255) (hl:l.length≤7) (hF:40≤F) (id:Int):∃ v,Yz F s boxes l id=some v∧Q9 F s boxes l id=some v:=by
 have hrw:∀ x∈s.Covers,x.Rows.length≤1048576:=fun x hx=>by have:=hf.rows x hx; omega
 obtain⟨a,ha,ha'⟩:=Qa0 (boxes:=boxes) (l:=l) hp hrw (by omega)
 obtain⟨b,hb,hb'⟩:=Q27 (F:=F) (boxes:=boxes) (l:=l) hp hrw hbx (by omega)
 have e:a=b:=by
  have:=ha'.trans hb'.symm
  cases a <;> cases b <;> simp_all
 subst e
 cases a with
 | false=>exact⟨([],0,2),by unfold Yz; rw [ha]; rfl,by unfold Q9; rw [hb]; rfl⟩
 | true=>
  obtain⟨hS,hR⟩:=ha'.1 rfl
  obtain⟨c,hc,hc'⟩:=Q22 s hp hrw
  rw [hc'.2 hS] at hc
  have hSm:Small s:=⟨hc,⟨hS.num.1,by have:=hf.cols; omega⟩,fun c hc=>by have:=hf.tiers c hc; omega,by have:=hf.covs; omega,fun x hx=>by have:=hf.rows x hx; omega⟩
  have hSt:Sta s boxes l:=⟨⟨hSm,hS,hp,⟨hf.covs⟩⟩,hR,by omega⟩
  cases hfb:Yj boxes id with
  | none=>
   refine⟨([],0,6),Zd ?_,Zd ?_⟩
   ·unfold Yz
    refine Gu ha (He (fun h=>by cases h) (fun _=>Gu (Gd6 boxes id) ?_))
    rw [hfb]
    exact He (fun _=>Gk rfl) (fun h=>by simp at h)
   ·unfold Q9
    refine Gu hb (He (fun h=>by cases h) (fun _=>Gu (H1f boxes id) ?_))
    rw [hfb]
    exact He (fun _=>Gk rfl) (fun h=>by simp at h)
  | some bx=>
   by_cases hz:bx.Size=20∨bx.Size=40
   ·by_cases hx:id∈l.map (·.Box)
    ·refine⟨([],0,96),Zd ?_,Zd ?_⟩
     ·unfold Yz
      refine Gu ha (He (fun h=>by cases h) (fun _=>Gu (Gd6 boxes id) ?_))
      rw [hfb]
      refine He (fun hh=>?_) (fun _=>Gu (Q48 l id) (He (fun _=>Gk rfl) (fun hh=>?_)))
      ·simp only [Bool.not_true,Bool.false_or,Kq,Kr] at hh
       omega
      ·rw [Kf hx] at hh; cases hh
     ·unfold Q9
      refine Gu hb (He (fun h=>by cases h) (fun _=>Gu (H1f boxes id) ?_))
      rw [hfb]
      refine He (fun hh=>?_) (fun _=>Gu (Q2d l id) (He (fun _=>Gk rfl) (fun hh=>?_)))
      ·simp only [Bool.not_true,Bool.false_or,Kq,Kr] at hh
       omega
      ·obtain⟨x,hxl,e⟩:=Ku.1 hx
       rw [G9a,List.any_eq_false] at hh
       exact(hh x hxl (Kf e)).elim
    ·obtain⟨r,h1,h2⟩:=R44 hSt (by omega) hF hfb hz hx
     obtain⟨r',h1',h2'⟩:=R87 hSt hbx (by omega) hF hfb hz hx
     rw [Y02.eq h2 h2'] at h1
     exact⟨r',h1,h1'⟩
   ·have hz1:¬ bx.Size=20:=fun h=>hz (.inl h)
    have hz2:¬ bx.Size=40:=fun h=>hz (.inr h)
    refine⟨([],0,6),Zd ?_,Zd ?_⟩
    ·unfold Yz
     refine Gu ha (He (fun h=>by cases h) (fun _=>Gu (Gd6 boxes id) ?_))
     rw [hfb]
     exact He (fun _=>Gk rfl) (fun h=>by simp [hz1,hz2] at h)
    ·unfold Q9
     refine Gu hb (He (fun h=>by cases h) (fun _=>Gu (H1f boxes id) ?_))
     rw [hfb]
     exact He (fun _=>Gk rfl) (fun h=>by simp [hz1,hz2] at h)
theorem R90 {F:Nat} (hF:40≤F) (hA:R1 F=some true) (s:H0) (boxes:List Box) (l:List Stowed) (id:Int) (hs:J23 s) (hb:∀ b∈boxes,0≤b.Size∧b.Size≤255) (l1:boxes.length≤1048576) (l2:l.length≤1048576):Y5 F s boxes l id=some true:=by
 refine Zd ?_
 unfold Y5
 refine H8 (wp_mono (R95 s boxes l) (fun r4 h4=>He (fun _=>Gu hA (Gk rfl)) (fun h=>?_)))
 simp only [Kz,decide_eq_false_iff_not] at h
 have hf:=h4 (by simpa using h.1)
 refine Gu (R3d hs) (Gu (Qd7 l1) (Gu (Q5e l2) ?_))
 rw [Y1d]
 obtain⟨v,hv1,hv2⟩:=R31 hf hs.plugs hb (by omega) hF id
 refine Gu hv1 (Gu hv2 (Gu (Q50 v.1) ?_))
 have c1:decide (v.2.1=v.2.1)=true:=Kf rfl
 have c2:decide (v.2.2=v.2.2)=true:=Kf rfl
 rw [c1,c2]
 simp only [Bool.and_self,cond_true]
 rw [R40 hs,J29,Bool.and_self,cond_true,Qda l1,J29,Bool.and_self,cond_true,Q60 l2,J29,Bool.and_self,cond_true,hA,J29]
 exact Gk rfl
theorem Rf3 (s:H0) (boxes:List Box) (l:List Stowed) (id:Int) (hs:J23 s) (hb:∀ b∈boxes,0≤b.Size∧b.Size≤255) (l1:boxes.length≤1048576) (l2:l.length≤1048576):Y5 60 s boxes l id=some true:=
 R90 (by omega) Y5a s boxes l id hs hb l1 l2
end Go.Proofs.YthcpolfodgjekaaGreat
