/-
 What moves.part and moves.Tasks return: lists in order.
-/
import Derived.Test.YteogacmpgdpjlaaGreatXS
import Derived.Test.YteogacmpgdpjlaaGreatWp
import Derived.Test.YteogacmpgdpjlaaGreatWp
set_option maxRecDepth 100000
set_option linter.unusedVariables false
namespace Go.Proofs.YteogacmpgdpjlaaGreat
open Go.RowKit Go.Sort

theorem swo_of {α:Type} {c:α→α→Int} (hc:Q50 c):SWO (ltOf c) where
 irrefl x:=by
  show decide (c x x < 0)=false
  exact decide_eq_false (fun h=>hc.asym x x h h)
 trans x y z h1 h2:=by
  have h1:c x y < 0:=of_decide_eq_true h1
  have h2:c y z < 0:=of_decide_eq_true h2
  refine decide_eq_true (Classical.byContradiction fun h=>?_)
  exact hc.ntrans y z x (hc.asym y z h2) h h1
 ntrans x y z h1 h2:=by
  have h1:¬ c x y < 0:=of_decide_eq_false h1
  have h2:¬ c y z < 0:=of_decide_eq_false h2
  exact decide_eq_false (hc.ntrans z y x h2 h1)
/-- A sort by an order that tells all apart. -/
theorem Q2d {α:Type} [Inhabited α] {cmp:α→α→Option Int} {c:α→α→Int} (hc:Q50 c) (hcmp:∀ a b,cmp a b=some (c a b)) {xs:List α} (hu:∀ a∈xs,∀ b∈xs,¬ c a b < 0→¬ c b a < 0→a=b) (hl:xs.length < 4611686018427387904):Jcf cmp xs=some (Gb5 c xs):=by
 rw [sortM_eq c hcmp (swo_of hc) hl]
 obtain⟨hp,hlen,hs⟩:=Jd0 c (swo_of hc) xs
 have hpq:(G2f c xs).Perm (Gb5 c xs):=hp.trans (G95 c xs).symm
 have h1:(G2f c xs).Pairwise (leOf c):=List.pairwise_iff_getElem.2 (fun i j hi hj hij=>of_decide_eq_false (hs i j hij hj))
 have h2:=Ga3 hc xs
 congr 1
 exact List.Perm.eq_of_pairwise (le:=leOf c) (fun a b ha hb h1 h2=>hu a (hp.mem_iff.1 ha) b ((G95 c xs).mem_iff.1 hb) h2 h1) h1 h2 hpq
def H9e (a b:Int):Int:=bif decide (a < b) then -1 else bif decide (b < a) then 1 else 0
theorem J8e (a b:Int):Qj a b=some (H9e a b):=by
 have h1:decide (a≠a)=false:=by simp
 have h2:decide (b≠b)=false:=by simp
 simp only [Qj,G8c,bnd,h1,h2,cond_false]
 unfold H9e
 cases decide (a < b) <;> cases decide (b < a) <;> rfl
theorem cmp_u8 (a b:Int):G42 a b=some (H9e a b):=by
 have h1:decide (a≠a)=false:=by simp
 have h2:decide (b≠b)=false:=by simp
 simp only [G42,G66,bnd,h1,h2,cond_false]
 unfold H9e
 cases decide (a < b) <;> cases decide (b < a) <;> rfl
def orI:List Int→Int
 | []=>0
 | x::r=>bif decide (x≠0) then x else orI r
theorem cmp_or (l:List Int):G80 l=some (orI l):=by
 unfold G80
 have key:∀ (l:List Int) (i:Nat),each (fun(y19:Int) (_:Nat) (_:Unit) nx19=>bif decide (y19≠0) then some y19 else nx19 ()) (fun(_:Unit)=>some (0:Int)) l i ()=some (orI l):=by
  intro l
  induction l with
  | nil=>intro i; rfl
  | cons x r ih=>
   intro i
   rw [each,orI]
   cases decide (x≠0) with
   | true=>rfl
   | false=>exact ih _
 exact key l 0
def scmp (a b:Slot):Int:=orI [H9e a.G4 b.G4,H9e a.Tier b.Tier,H9e a.Half b.Half]
theorem slot_cmp (a b:Slot):Gaa a b=some (scmp a b):=by
 simp only [Gaa,J8e,cmp_u8,cmp_or,bnd]; rfl
def Ga2 (a b:G6):Int:=orI [H9e a.Slot.Tier b.Slot.Tier,scmp a.Slot b.Slot]
theorem part_cmp (a b:G6):G34 a b=some (Ga2 a b):=by
 simp only [G34,J8e,slot_cmp,cmp_or,bnd]; rfl
def J5d (a b:Hh):Int:=orI [H9e a.Phase b.Phase,H9e a.Bay b.Bay]
theorem task_cmp (a b:Hh):G3f a b=some (J5d a b):=by
 simp only [G3f,J8e,cmp_or,bnd]; rfl
theorem G99 {a b:Int}:H9e a b < 0 ↔ a < b:=by
 unfold H9e
 by_cases h:a < b
 ·simp [h]
 ·by_cases h2:b < a <;> simp [h,h2]
theorem H11 {a b:Int}:H9e a b=0 ↔ a=b:=by
 unfold H9e
 by_cases h:a < b
 ·simp [h]; omega
 ·by_cases h2:b < a
  ·simp [h,h2]; omega
  ·simp [h,h2]; omega
theorem He0 (a:Int) (r:List Int):orI (a::r) < 0 ↔ a < 0∨(a=0∧orI r < 0):=by
 rw [orI]
 by_cases h:a=0
 ·simp [h]
 ·simp [h]
theorem Hd7 (a b:Hh):J5d a b < 0 ↔ a.Phase < b.Phase∨(a.Phase=b.Phase∧a.Bay < b.Bay):=by
 unfold J5d
 rw [He0,He0,G99,H11,G99,H11]
 simp [orI]
theorem H54:Q50 J5d where
 asym x y:=by rw [Hd7,Hd7]; omega
 ntrans x y z:=by rw [Hd7,Hd7,Hd7]; omega

theorem Jfa (a b:Slot):scmp a b < 0 ↔ a.G4 < b.G4∨(a.G4=b.G4∧(a.Tier < b.Tier∨(a.Tier=b.Tier∧a.Half < b.Half))):=by
 unfold scmp
 rw [He0,He0,He0,G99,H11,G99,H11,G99,H11]
 simp [orI]
theorem Gb2 (a b:G6):Ga2 a b < 0 ↔ a.Slot.Tier < b.Slot.Tier∨(a.Slot.Tier=b.Slot.Tier∧(a.Slot.G4 < b.Slot.G4∨(a.Slot.G4=b.Slot.G4∧a.Slot.Half < b.Slot.Half))):=by
 unfold Ga2
 rw [He0,He0,G99,H11,Jfa]
 simp only [orI,Int.lt_irrefl,and_false,or_false]
 omega
theorem J63:Q50 Ga2 where
 asym x y:=by rw [Gb2,Gb2]; omega
 ntrans x y z:=by rw [Gb2,Gb2,Gb2]; omega
/-- The column of a stowed box. -/
def Ga5 (s:H8) (x:G6):Option G4:=bif decide (0≤x.Slot.G4) then s.Columns[x.Slot.G4.toNat]? else none
def Qw (s:H8) (lifted:List Int) (bay:Int) (deck:Bool) (x:G6):Bool:=match Ga5 s x with
 | some c=>(decide (c.Bay=bay)&&(c.Deck==deck))&&lifted.any (fun y=>decide (x.H2=y))
 | none=>false
/-- The lifted boxes of a state in a bay, on deck or in the hold, from below. -/
def G45 (s:H8) (l:List G6) (lifted:List Int) (bay:Int) (deck:Bool):Option (List G6):=
 bif (l.all (fun x=>(Ga5 s x).isSome)&&decide (l.length≤1000))&&decide ((l.filter (Qw s lifted bay deck)).Pairwise (fun a b=>Ga2 a b < 0∨Ga2 b a < 0)) then
 some (Gb5 Ga2 (l.filter (Qw s lifted bay deck)))
 else none
theorem containsI (l:List Int) (v:Int):Zd l v=some (l.any (fun y=>decide (v=y))):=by
 unfold Zd G23
 have key:∀ (l:List Int) (i:Nat),∃ j:Int,each (fun(y:Int) (i:Nat) (_:Unit) nx=>bif decide (v=y) then some (i:Int) else nx ()) (fun(_:Unit)=>some (-1:Int)) l i ()=some j∧decide (0≤j)=l.any (fun y=>decide (v=y)):=by
  intro l
  induction l with
  | nil=>intro i; exact⟨-1,rfl,rfl⟩
  | cons x r ih=>
   intro i
   rw [each,List.any_cons]
   cases decide (v=x) with
   | true=>exact⟨(i:Int),rfl,decide_eq_true (by omega)⟩
   | false=>exact ih (i+1)
 obtain⟨j,e1,e2⟩:=key l 0
 have e1':G23 l v=some j:=e1
 unfold G23 at e1'
 rw [e1']
 show some (decide (0≤j))=_
 rw [e2]
theorem part_of_S {s:H8} {l:List G6} {lifted:List Int} {bay:Int} {deck:Bool} {r:List G6} (h:G45 s l lifted bay deck=some r):Gb7 s l lifted bay deck=some r:=by
 unfold G45 at h
 cases hc:((l.all (fun x=>(Ga5 s x).isSome)&&decide (l.length≤1000))&&decide ((l.filter (Qw s lifted bay deck)).Pairwise (fun a b=>Ga2 a b < 0∨Ga2 b a < 0))) with
 | false=>rw [hc,cond_false] at h; cases h
 | true=>
  rw [hc,cond_true] at h
  simp only [Bool.and_eq_true,decide_eq_true_eq] at hc
  obtain⟨⟨h1,h2⟩,h3⟩:=hc
  refine G38 ?_
  unfold Gb7
  refine Q3 (fun pre st=>st=pre.filter (Qw s lifted bay deck)) rfl (fun pre y post st nx e hI hnx=>?_) (fun st hI=>?_)
  ·subst hI
   have hpl:pre.length < l.length:=by rw [e]; simp
   have hfl:(pre.filter (Qw s lifted bay deck)).length≤pre.length:=List.length_filter_le _ _
   have hy:=List.all_eq_true.1 h1 y (by rw [e]; simp)
   refine G82 (fun j=>j=(pre++[y]).filter (Qw s lifted bay deck)) (fun K hK=>?_) (fun j hj=>hnx _ hj)
   cases hcol:Ga5 s y with
   | none=>rw [hcol] at hy; cases hy
   | some c=>
    have hin:Qw s lifted bay deck y=((decide (c.Bay=bay)&&(c.Deck==deck))&&lifted.any (fun z=>decide (y.H2=z))):=by unfold Qw; rw [hcol]
    unfold Ga5 at hcol
    by_cases h0:0≤y.Slot.G4
    ·rw [decide_eq_true h0,cond_true] at hcol
     refine G43 (m:=y.Slot.G4.toNat) (by omega) hcol ?_
     have hk:∀ r58:Bool,((decide (c.Bay=bay)&&(c.Deck==deck))&&r58)=Qw s lifted bay deck y→Wp (bif ((decide (c.Bay=bay)&&(c.Deck==deck))&&r58) then (need (decide (((pre.filter (Qw s lifted bay deck)).length+[y].length)*32≤140737488355328∧(pre.filter (Qw s lifted bay deck)).length+[y].length≤maxLen)) <| K (pre.filter (Qw s lifted bay deck)++[y])) else K (pre.filter (Qw s lifted bay deck))) (fun r_=>r_=r):=fun r58 he=>by
      refine Hm (fun ht=>Qy (decide_eq_true ⟨?_,?_⟩) (hK _ ?_)) (fun hf=>hK _ ?_)
      ·rw [List.length_singleton]; omega
      ·rw [List.length_singleton]; unfold maxLen; omega
      ·rw [List.filter_append,List.filter_cons,← he,ht]; rfl
      ·rw [List.filter_append,List.filter_cons,← he,hf]; simp
     cases hd:(decide (c.Bay=bay)&&(c.Deck==deck)) with
     | true=>
      rw [cond_true]
      refine Gy (containsI lifted y.H2) ?_
      have:=hk (lifted.any (fun z=>decide (y.H2=z))) hin.symm
      rw [hd] at this
      exact this
     | false=>
      rw [cond_false]
      refine H5 (Gn ?_)
      have:=hk default (by rw [hin,hd]; rfl)
      rw [hd] at this
      exact this
    ·rw [decide_eq_false h0,cond_false] at hcol; cases hcol
  ·subst hI
   have hfl:(l.filter (Qw s lifted bay deck)).length≤l.length:=List.length_filter_le _ _
   have hu:∀ a∈l.filter (Qw s lifted bay deck),∀ b∈l.filter (Qw s lifted bay deck),¬ Ga2 a b < 0→¬ Ga2 b a < 0→a=b:=fun a ha b hb n1 n2=>by
    obtain⟨i,hi,rfl⟩:=List.mem_iff_getElem.1 ha
    obtain⟨j,hj,rfl⟩:=List.mem_iff_getElem.1 hb
    have hp:=List.pairwise_iff_getElem.1 h3
    rcases Nat.lt_trichotomy i j with g | g | g
    ·exact((hp i j hi hj g).elim n1 n2).elim
    ·subst g; rfl
    ·exact((hp j i hj hi g).elim n2 n1).elim
   have hs:Zr (l.filter (Qw s lifted bay deck)) (fun z0 z1=>G34 z0 z1)=some (Gb5 Ga2 (l.filter (Qw s lifted bay deck))):=by
    unfold Zr
    rw [Q2d J63 part_cmp hu (by omega)]
    rfl
   exact Gy hs (Gn (Option.some.inj h))
def H66:=PLift.up (fun s l lifted bay deck r h=>Q57 s l lifted bay deck r (part_of_S h))
def J1f:=PLift.up (fun s l lifted bay deck r h=>Q58 s l lifted bay deck r (part_of_S h))
theorem need_tt {β:Type} {k:Option β}:need true k=k:=rfl
theorem J7f {κ ν β:Type} {kx:List ν→Option β}:∀ (q:List (κ×ν)) (s:List ν),((s.length+q.length)*32≤140737488355328∧s.length+q.length≤maxLen) →
  J81 (fun(x:κ×ν) (s:List ν) nx=>need (decide ((s.length+[x.2].length)*32≤140737488355328∧s.length+[x.2].length≤maxLen)) <| nx (s++[x.2])) kx q s=kx (s++q.map (·.2))
 | [],s,_=>by simp [J81]
 | x::q,s,h=>by
  rw [List.length_cons] at h
  have hd:decide ((s.length+[x.2].length)*32≤140737488355328∧s.length+[x.2].length≤maxLen)=true:=by
   rw [decide_eq_true_eq,List.length_singleton]; omega
  rw [J81,hd]
  simp only [need_tt]
  rw [J7f q (s++[x.2]) (by rw [List.length_append,List.length_singleton]; omega)]
  simp
theorem rel_eachI {α σ R:Type} {r:R} (I:σ→Prop) {b:α→Nat→σ→(σ→Option Prop)→Option Prop} {b':α→Nat→σ→(σ→Option R)→Option R} {kx:σ→Option Prop} {kx':σ→Option R}
  (h:∀ x i s nx nx',I s→(∀ s,I s→J20 r (nx s) (nx' s))→J20 r (b x i s nx) (b' x i s nx')) (hk:∀ s,I s→J20 r (kx s) (kx' s)):∀ {xs:List α} {i:Nat} {s:σ},I s→J20 r (each b kx xs i s) (each b' kx' xs i s)
 | [],_,s,hs=>hk s hs
 | x::_,i,s,hs=>h x i s _ _ hs (fun _ h2=>rel_eachI I h hk h2)

/-- The work of each bay and phase, in order. -/
def G2a (s:H8) (l:List Move):Option ((List Hh)×Int):=
 bnd (G29 s) fun r4=>
 bif (!r4) then
 (some ([],2))
 else
 (each (fun y189 _ (s189:(Hp J8 Hh)) nx189=>
   jp (fun kj196=>
    bif ((decide (y189.Kind < 1))||(decide (4 < y189.Kind))) then
    (kj196 ((decide (y189.Kind < 1))||(decide (4 < y189.Kind))))
    else
    (bif (((decide (y189.Kind=1))||(decide (y189.Kind=4)))&&((decide (y189.Ge < 0))||(decide ((s.Covers.length:Int)≤y189.Ge)))) then
     (kj196 (((decide (y189.Kind=1))||(decide (y189.Kind=4)))&&((decide (y189.Ge < 0))||(decide ((s.Covers.length:Int)≤y189.Ge)))))
     else
     (kj196 ((!((decide (y189.Kind=1))||(decide (y189.Kind=4))))&&((decide (y189.Slot.G4 < 0))||(decide ((s.Columns.length:Int)≤y189.Slot.G4))))))) fun(j196:Bool)=>
   bif j196 then
   (some ([],2))
   else
   (jp (fun kj201=>
     bif decide (3≤y189.Kind) then
     (kj201 2)
     else
     (kj201 1)) fun(j201:Int)=>
    jp (fun kj203=>
     bif ((decide (y189.Kind=1))||(decide (y189.Kind=4))) then
     (Jc s.Covers y189.Ge fun y205=>
      kj203 y205.Bay)
     else
     (Jc s.Columns y189.Slot.G4 fun y207=>
      kj203 y207.Bay)) fun(j203:Int)=>
    bnd (some (Hp.get s189 (J8.mk j201 j203) (Hh.mk 0 0 0 0))) fun v211=>
    bnd (some (Hp.get s189 (J8.mk j201 j203) (Hh.mk 0 0 0 0))) fun v212=>
    jp (fun kj213=>
     bif ((decide (y189.Kind=1))||(decide (y189.Kind=4))) then
     (Yn (v212.Covers+1) fun v215=>
      kj213 (v211.Lifts,v215))
     else
     (Yn (v211.Lifts+1) fun v216=>
      kj213 (v216,v212.Covers))) fun(j213:Int×Int)=>
    nx189 (Hp.put s189 (J8.mk j201 j203) (Hh.mk j203 j201 j213.1 j213.2))))
  (fun(s189:(Hp J8 Hh))=>
   need (decide ((Hp.l s189).length≤100000)) <| some (Gb5 J5d ((Hp.l s189).map (·.2)),0)) l 0 (Hp.empty:Hp J8 Hh))

/-- The value of each entry bears its key. -/
def TInv (s:Hp J8 Hh):Prop:=∀ e∈Hp.l s,e.1=J8.mk e.2.Phase e.2.Bay
theorem mput_mem {κ ν:Type} [DecidableEq κ] {a:κ} {v:ν} {l:List (κ×ν)} {e:κ×ν} (h:e∈H04 l a v):e=(a,v)∨e∈l:=by
 unfold H04 at h
 split at h
 ·obtain⟨p,hp,rfl⟩:=List.mem_map.1 h
  by_cases hpa:p.1=a
  ·rw [if_pos hpa]; exact .inl rfl
  ·rw [if_neg hpa]; exact .inr hp
 ·rcases List.mem_append.1 h with h | h
  ·exact .inr h
  ·exact .inl (List.mem_singleton.1 h)
theorem TInv.put {s:Hp J8 Hh} (h:TInv s) (p b x y:Int):TInv (Hp.put s (J8.mk p b) (Hh.mk b p x y)):=fun e he=>by
 rcases mput_mem (l:=Hp.l s) he with rfl | he
 ·rfl
 ·exact h e he
theorem nodup_key {κ ν:Type} {e f:κ×ν} (hk:e.1=f.1):∀ (l:List (κ×ν)),(l.map (·.1)).Nodup→e∈l→f∈l→e=f:=by
 intro l
 induction l with
 | nil=>intro _ h; simp at h
 | cons x r ih=>
  intro hn he hf
  rw [List.map_cons,List.nodup_cons] at hn
  rcases List.mem_cons.1 he with he1 | he1
  ·rcases List.mem_cons.1 hf with hf1 | hf1
   ·rw [he1,hf1]
   ·exact absurd (List.mem_map.2 ⟨f,hf1,by rw [← hk,he1]⟩) hn.1
  ·rcases List.mem_cons.1 hf with hf1 | hf1
   ·exact absurd (List.mem_map.2 ⟨e,he1,by rw [hk,hf1]⟩) hn.1
   ·exact ih hn.2 he1 hf1
theorem TInv.unique {s:Hp J8 Hh} (h:TInv s):∀ a∈(Hp.l s).map (·.2),∀ b∈(Hp.l s).map (·.2),¬ J5d a b < 0→¬ J5d b a < 0→a=b:=by
 intro a ha b hb hab hba
 rw [Hd7] at hab hba
 obtain⟨e,he,rfl⟩:=List.mem_map.1 ha
 obtain⟨f,hf,rfl⟩:=List.mem_map.1 hb
 have hk:e.1=f.1:=by
  rw [h e he,h f hf]
  have h1:e.2.Phase=f.2.Phase:=by omega
  have h2:e.2.Bay=f.2.Bay:=by omega
  rw [h1,h2]
 rw [nodup_key hk _ s.nd he hf]

theorem J92 (s:H8) (l:List Move) (r:(List Hh)×Int):J20 r (Gd4 s l (fun r_=>r_=r)) (G2a s l):=by
 unfold Gd4 G2a
 refine H41 (fun r4=>G7d (fun _=>Haf) (fun _=>?_))
 refine rel_eachI TInv (fun y i m nx nx' hm hnx=>?_) (fun m hm=>?_) (fun e he=>by cases he)
 ·refine Q30 (fun K K' hK=>G7d (fun _=>hK _) (fun _=>G7d (fun _=>hK _) (fun _=>hK _))) (fun j=>G7d (fun _=>Haf) (fun _=>?_))
  refine Q30 (fun K K' hK=>G7d (fun _=>hK _) (fun _=>hK _)) (fun j1=>?_)
  refine Q30 (fun K K' hK=>G7d (fun _=>rel_gidx (fun _=>hK _)) (fun _=>rel_gidx (fun _=>hK _))) (fun j2=>?_)
  refine H41 (fun v=>H41 (fun v2=>?_))
  refine Q30 (fun K K' hK=>G7d (fun _=>Jfc (fun _=>hK _)) (fun _=>Jfc (fun _=>hK _))) (fun j3=>hnx _ (hm.put _ _ _ _))
 ·intro h
  obtain⟨hd,h⟩:=Hz h
  have hd:=of_decide_eq_true hd
  refine⟨_,rfl,fun q hq=>?_⟩
  have hl:=hq.length_eq
  rw [J7f q [] (by simp only [List.length_nil,Nat.zero_add,hl]; constructor <;> (try unfold maxLen) <;> omega)]
  rw [List.nil_append]
  unfold G14
  rw [Q2d H54 task_cmp (fun a ha b hb=>hm.unique a ((hq.map _).mem_iff.1 ha) b ((hq.map _).mem_iff.1 hb)) (by rw [List.length_map]; omega)]
  refine⟨_,rfl,?_⟩
  rw [Jd9 H54 hm.unique (hq.map _)]
  exact Option.some.inj h
def Hec:=PLift.up (Jf7 G2a (fun s l r h=>J92 s l r h))
end Go.Proofs.YteogacmpgdpjlaaGreat
