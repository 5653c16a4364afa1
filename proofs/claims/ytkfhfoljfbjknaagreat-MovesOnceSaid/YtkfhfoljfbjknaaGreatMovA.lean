/-
 The moves of a call,as a list that is told outright.
-/
import Derived.Test.YtkfhfoljfbjknaaGreatPlanO
import Derived.Test.YtkfhfoljfbjknaaGreatSpecT
set_option maxRecDepth 100000
namespace Go.Proofs.YtkfhfoljfbjknaaGreat
open Go.RowKit

/-- The column of a slot that has one. -/
def colAt (s:Gz) (x:Slot):G5:=(s.Columns[x.G5.toNat]?).getD default
theorem colAt_of {s:Gz} {x:Slot} {m:Nat} {c:G5} (h1:x.G5=(m:Int)) (h2:s.Columns[m]? = some c):colAt s x=c:=by
 unfold colAt
 rw [h1,show (m:Int).toNat=m by omega,h2]; rfl
def inPart (s:Gz) (lifted:List Int) (bay:Int) (deck:Bool) (x:G2):Bool:=(decide ((colAt s x.Slot).Bay=bay)&&((colAt s x.Slot).Deck==deck))&&lifted.any (fun y=>decide (x.Gp=y))
/-- The lifted boxes of a state in a bay, from below. -/
def partL (s:Gz) (l:List G2) (lifted:List Int) (bay:Int) (deck:Bool):List G2:=isrt pcmp (l.filter (inPart s lifted bay deck))
theorem containsI (l:List Int) (v:Int):Q2 l v=some (l.any (fun y=>decide (v=y))):=by
 unfold Q2
 have h:M_slices_Index_int l v=some (idxI (fun y=>decide (v=y)) l):=by
  unfold M_slices_Index_int
  exact each_idx (f:=fun y=>some (decide (v=y))) (fun x _=>rfl)
 rw [h]
 simp only [bnd_some]
 rw [idxI_nonneg]
theorem filter_len {α:Type} {p:α→Bool} {l:List α} {n:Nat} (h:l.length≤n):(l.filter p).length≤n:=Nat.le_trans (List.length_filter_le _ _) h
theorem part_eq {s:Gz} {l:List G2} {lifted:List Int} {bay:Int} {deck:Bool} {F:Nat} (hF:60≤F) (hc:∀ x∈l,ColIn s x.Slot) (hl:l.length≤12) :
  M_moves_part F s l lifted bay deck=some (partL s l lifted bay deck):=by
 refine wp_eq ?_
 unfold M_moves_part
 refine J3 (fun pre st=>st=pre.filter (inPart s lifted bay deck)) rfl (fun pre x post st nx e hst hnx=>?_) (fun st hst=>?_)
 ·subst hst
  obtain⟨m,c,h1,h2⟩:=hc x (by rw [e]; simp)
  have hcol:=colAt_of h1 h2
  have hp:pre.length≤12:=by rw [e] at hl; simp at hl; omega
  refine wp_jp (fun j=>j=(pre++[x]).filter (inPart s lifted bay deck)) (fun K hK=>wp_gidx h1 h2 ?_) (fun j hj=>hnx _ hj)
  have hin:Wp (bif ((decide (c.Bay=bay))&&(c.Deck==deck)) then Q2 lifted x.Gp else some default) (fun r58=>(((decide (c.Bay=bay))&&(c.Deck==deck))&&r58)=inPart s lifted bay deck x):=by
   unfold inPart
   rw [hcol]
   cases ((decide (c.Bay=bay))&&(c.Deck==deck)) with
   | true=>exact⟨_,containsI _ _,rfl⟩
   | false=>exact⟨_,rfl,rfl⟩
  refine He (wp_mono hin (fun r58 h58=>?_))
  rw [h58]
  have hpl:(pre.filter (inPart s lifted bay deck)).length≤12:=filter_len hp
  refine Hw (fun h=>Qe (room_ok (by rw [List.length_singleton]; omega) (by omega)) (hK _ ?_)) (fun h=>hK _ ?_)
  ·rw [filter_snoc,h]; rfl
  ·rw [filter_snoc,h]; simp
 ·subst hst
  unfold M_moves_sorted_apiStowed
  rw [sort_stowed (c:=pcmp) (fun a b=>part_cmp a b) (by omega) (filter_len hl)]
  exact Gt rfl
theorem partL_mem {s:Gz} {l:List G2} {lifted:List Int} {bay:Int} {deck:Bool} {x:G2}:x∈partL s l lifted bay deck ↔ x∈l∧inPart s lifted bay deck x=true:=by
 unfold partL
 rw [isrt_mem,List.mem_filter]
theorem partL_len {s:Gz} {l:List G2} {lifted:List Int} {bay:Int} {deck:Bool}:(partL s l lifted bay deck).length≤l.length:=by
 unfold partL
 rw [isrt_length]; exact List.length_filter_le _ _
theorem inPart_iff {s:Gz} {lifted:List Int} {bay:Int} {deck:Bool} {x:G2}:inPart s lifted bay deck x=true ↔ (colAt s x.Slot).Bay=bay∧(colAt s x.Slot).Deck=deck∧x.Gp∈lifted:=by
 unfold inPart
 simp only [Bool.and_eq_true,decide_eq_true_eq,beq_iff_eq,List.any_eq_true]
 constructor
 ·rintro⟨⟨h1,h2⟩,y,hy,rfl⟩; exact⟨h1,h2,hy⟩
 ·rintro⟨h1,h2,h3⟩; exact⟨⟨h1,h2⟩,_,h3,rfl⟩
theorem above_eq {l:List G2} {F:Nat} (hF:60≤F) (hl:l.length≤12):M_moves_fromAbove F l=some (isrt acmp l):=by
 unfold M_moves_fromAbove
 rw [sort_stable (c:=acmp) (fun a b=>above_cmp a b) (by omega) hl]
 rfl

/-- A number at the end, if it is not negative and new. -/
def addNew (u:List Int) (k:Int):List Int:=bif decide (0≤k)&&!(u.any (fun y=>decide (k=y))) then u++[k] else u
theorem addNew_mem {u:List Int} {k a:Int}:a∈addNew u k ↔ a∈u∨(a=k∧0≤k):=by
 unfold addNew
 by_cases h:0≤k
 ·rw [decide_eq_true h,Bool.true_and]
  cases hu:u.any (fun y=>decide (k=y)) with
  | true=>
   obtain⟨y,hy,he⟩:=List.any_eq_true.1 hu
   have he:=of_decide_eq_true he
   simp only [Bool.not_true,cond_false]
   exact⟨.inl,fun h1=>h1.elim _root_.id (fun h2=>by rw [h2.1,he]; exact hy)⟩
  | false=>
   simp only [Bool.not_false,cond_true,List.mem_append,List.mem_singleton]
   exact⟨fun h1=>h1.elim .inl (fun h2=>.inr ⟨h2,h⟩),fun h1=>h1.elim .inl (fun h2=>.inr h2.1)⟩
 ·rw [decide_eq_false h,Bool.false_and]
  simp only [cond_false]
  exact⟨.inl,fun h1=>h1.elim _root_.id (fun h2=>absurd h2.2 h)⟩
theorem addNew_nodup {u:List Int} {k:Int} (h:u.Nodup):(addNew u k).Nodup:=by
 unfold addNew
 cases hc:decide (0≤k)&&!(u.any (fun y=>decide (k=y))) with
 | false=>exact h
 | true=>
  rw [Bool.and_eq_true,Bool.not_eq_true'] at hc
  rw [cond_true,List.nodup_append]
  refine⟨h,by simp,fun a ha b hb=>?_⟩
  rw [List.mem_singleton] at hb; subst hb
  have:=List.any_eq_false.1 hc.2 a ha
  intro e
  exact this (decide_eq_true e.symm)
/-- The cover of a slot. -/
def covOf (s:Gz) (x:G2):Int:=coverOf s (colAt s x.Slot)
def neededU (s:Gz) (before after:List G2) (lifted:List Int) (bay:Int):List Int:=((partL s before lifted bay false++partL s after lifted bay false).map (covOf s)).foldl addNew []
/-- The covers of a bay that are needed. -/
def neededL (s:Gz) (before after:List G2) (lifted:List Int) (bay:Int):List Int:=isrt cmpI (neededU s before after lifted bay)
theorem foldNew_mem {a:Int}:∀ (l u:List Int),a∈l.foldl addNew u ↔ a∈u∨(a∈l∧0≤a)
 | [],u=>by simp
 | k::l,u=>by
  rw [List.foldl_cons,foldNew_mem l,addNew_mem,List.mem_cons]
  constructor
  ·rintro((h | ⟨rfl,h⟩) | h)
   ·exact .inl h
   ·exact .inr ⟨.inl rfl,h⟩
   ·exact .inr ⟨.inr h.1,h.2⟩
  ·rintro(h | ⟨rfl | h,h2⟩)
   ·exact .inl (.inl h)
   ·exact .inl (.inr ⟨rfl,h2⟩)
   ·exact .inr ⟨h,h2⟩
theorem foldNew_nodup:∀ (l u:List Int),u.Nodup→(l.foldl addNew u).Nodup
 | [],_,h=>h
 | _::l,_,h=>foldNew_nodup l _ (addNew_nodup h)
theorem neededU_mem {s:Gz} {before after:List G2} {lifted:List Int} {bay a:Int}:a∈neededU s before after lifted bay ↔ 0≤a∧∃ x,(x∈before∨x∈after)∧inPart s lifted bay false x=true∧covOf s x=a:=by
 unfold neededU
 rw [foldNew_mem,List.mem_map]
 constructor
 ·rintro(h | ⟨⟨x,hx,e⟩,h⟩)
  ·exact(List.not_mem_nil h).elim
  ·rw [List.mem_append,partL_mem,partL_mem] at hx
   rcases hx with g | g
   ·exact⟨h,x,.inl g.1,g.2,e⟩
   ·exact⟨h,x,.inr g.1,g.2,e⟩
 ·rintro⟨h,x,hx,hp,e⟩
  refine .inr ⟨⟨x,?_,e⟩,h⟩
  rw [List.mem_append,partL_mem,partL_mem]
  exact hx.elim (fun h=>.inl ⟨h,hp⟩) (fun h=>.inr ⟨h,hp⟩)
theorem neededL_mem {s:Gz} {before after:List G2} {lifted:List Int} {bay a:Int}:a∈neededL s before after lifted bay ↔ 0≤a∧∃ x,(x∈before∨x∈after)∧inPart s lifted bay false x=true∧covOf s x=a:=by
 unfold neededL
 rw [isrt_mem,neededU_mem]
theorem coverOf_lt {s:Gz} {c:G5}:coverOf s c < (s.Covers.length:Int):=by
 unfold coverOf
 rcases idxI_cases (fun x=>covB x c) s.Covers with ⟨h,_⟩ | ⟨m,x,h,h2,_⟩
 ·rw [h]; omega
 ·have:=(List.getElem?_eq_some_iff.1 h2).1
  rw [h]; omega
theorem neededU_nodup {s:Gz} {before after:List G2} {lifted:List Int} {bay:Int}:(neededU s before after lifted bay).Nodup:=foldNew_nodup _ _ List.nodup_nil
theorem neededU_len {s:Gz} {before after:List G2} {lifted:List Int} {bay:Int}:(neededU s before after lifted bay).length≤s.Covers.length:=by
 have h:=pigeon s.Covers.length ((neededU s before after lifted bay).map (·.toNat)) ?_ ?_
 ·rwa [List.length_map] at h
 ·refine List.pairwise_map.2 (List.Pairwise.imp_of_mem (fun {a b} ha hb hab=>?_) neededU_nodup)
  have h1:=(neededU_mem.1 ha).1
  have h2:=(neededU_mem.1 hb).1
  intro e
  exact hab (by omega)
 ·intro x hx
  obtain⟨a,ha,rfl⟩:=List.mem_map.1 hx
  obtain⟨h1,y,_,_,e⟩:=neededU_mem.1 ha
  have:=coverOf_lt (s:=s) (c:=colAt s y.Slot)
  unfold covOf at e
  rw [e] at this
  omega
theorem neededL_len {s:Gz} {before after:List G2} {lifted:List Int} {bay:Int}:(neededL s before after lifted bay).length≤s.Covers.length:=by
 unfold neededL
 rw [isrt_length]; exact neededU_len
theorem neededL_nodup {s:Gz} {before after:List G2} {lifted:List Int} {bay:Int}:(neededL s before after lifted bay).Nodup:=by
 unfold neededL
 exact(isrt_perm _ _).nodup_iff.2 neededU_nodup
theorem foldNew_len:∀ (l u:List Int),(l.foldl addNew u).length≤u.length+l.length
 | [],u=>by simp
 | k::l,u=>by
  rw [List.foldl_cons,List.length_cons]
  have:=foldNew_len l (addNew u k)
  have h:(addNew u k).length≤u.length+1:=by
   unfold addNew
   cases decide (0≤k)&&!(u.any (fun y=>decide (k=y))) <;> simp
  omega
/-- Ships as they are built here. -/
structure ShipFew (s:Gz):Prop where
 covs:s.Covers.length≤10
 rows:∀ x∈s.Covers,x.Rows.length≤1000000
theorem needed_eq {s:Gz} {before after:List G2} {lifted:List Int} {bay:Int} {F:Nat} (hF:60≤F) (hs:ShipFew s) (hb:∀ x∈before,ColIn s x.Slot) (ha:∀ x∈after,ColIn s x.Slot) (lb:before.length≤12) (la:after.length≤12) :
  M_moves_needed F s before after lifted bay=some (neededL s before after lifted bay):=by
 refine wp_eq ?_
 unfold M_moves_needed
 have one:∀ (l:List G2) (u:List Int) (nx:List Int→Option (List Int)) (Q:List Int→Prop),(∀ x∈l,ColIn s x.Slot)→l.length≤12→u.length≤100→Wp (nx ((l.map (covOf s)).foldl addNew u)) Q →
   Wp (each (fun y52 i52 (s52:(List Int)) nx52=>
   jp (fun kj55=>
    bnd (M_ship_CoverOf s y52.Slot.G5) fun r58=>
    bnd (bif decide (0≤r58) then Q2 s52 r58 else some default) fun r60=>
    bif ((decide (0≤r58))&&(!r60)) then
    (need (decide ((s52.length+[r58].length)*8≤140737488355328∧s52.length+[r58].length≤maxLen)) <|
     kj55 (s52++[r58]))
    else
    (kj55 s52)) fun(j55:(List Int))=>
   nx52 j55)
  (fun(s52:(List Int))=>
   nx s52) l 0 u) Q:=by
  intro l u nx Q hcol hl hu hQ
  refine J3 (fun pre st=>st=(pre.map (covOf s)).foldl addNew u) rfl (fun pre x post st nx2 e hst hnx=>?_) (fun st hst=>by rw [hst]; exact hQ)
  subst hst
  obtain⟨m,c,h1,h2⟩:=hcol x (by rw [e]; simp)
  have hp:pre.length≤12:=by rw [e] at hl; simp at hl; omega
  have hlen:=foldNew_len (pre.map (covOf s)) u
  rw [List.length_map] at hlen
  have hk:covOf s x=coverOf s c:=by unfold covOf; rw [colAt_of h1 h2]
  refine wp_jp (fun j=>j=((pre++[x]).map (covOf s)).foldl addNew u) (fun K hK=>?_) (fun j hj=>hnx _ hj)
  rw [h1]
  refine Gw (ship_coverOf h2 hs.rows (by have:=hs.covs; omega)) ?_
  rw [List.map_append,List.foldl_append] at hK
  simp only [List.map_cons,List.map_nil,List.foldl_cons,List.foldl_nil] at hK
  rw [hk] at hK
  generalize (pre.map (covOf s)).foldl addNew u=w at hK hlen
  have hin:Wp (bif decide (0≤coverOf s c) then Q2 w (coverOf s c) else some default) (fun r60=>((decide (0≤coverOf s c))&&(!r60))=(decide (0≤coverOf s c)&&!(w.any (fun y=>decide (coverOf s c=y))))):=by
   cases decide (0≤coverOf s c) with
   | true=>exact⟨_,containsI _ _,rfl⟩
   | false=>exact⟨_,rfl,rfl⟩
  refine He (wp_mono hin (fun r60 h60=>?_))
  rw [h60]
  unfold addNew at hK
  refine Hw (fun h=>Qe (room_ok (by rw [List.length_singleton]; omega) (by omega)) (hK _ ?_)) (fun h=>hK _ ?_)
  ·rw [h]; rfl
  ·rw [h]; rfl
 have hfin:((partL s after lifted bay false).map (covOf s)).foldl addNew (((partL s before lifted bay false).map (covOf s)).foldl addNew [])=neededU s before after lifted bay:=by
  unfold neededU
  rw [List.map_append,List.foldl_append]
 have hb':∀ x∈partL s before lifted bay false,ColIn s x.Slot:=fun x hx=>hb x (partL_mem.1 hx).1
 have ha':∀ x∈partL s after lifted bay false,ColIn s x.Slot:=fun x hx=>ha x (partL_mem.1 hx).1
 have lb':(partL s before lifted bay false).length≤12:=Nat.le_trans partL_len lb
 have la':(partL s after lifted bay false).length≤12:=Nat.le_trans partL_len la
 rw [each]
 refine Gw (part_eq hF hb lb) (one _ _ _ _ hb' lb' (by simp) ?_)
 rw [each]
 refine Gw (part_eq hF ha la) (one _ _ _ _ ha' la' ?_ ?_)
 ·have:=foldNew_len ((partL s before lifted bay false).map (covOf s)) []
  rw [List.length_map] at this
  simp only [List.length_nil] at this
  omega
 ·rw [each,hfin]
  unfold M_moves_sorted_int
  rw [sort_int (c:=cmpI) (fun a b=>cmp_int a b) (by omega) (by have:=neededU_len (s:=s) (before:=before) (after:=after) (lifted:=lifted) (bay:=bay); have:=hs.covs; omega)]
  exact Gt rfl

def mvS (kind:Int) (x:G2):Move:=Move.mk kind x.Gp x.Slot 0
def mvC (kind:Int) (k:Int):Move:=Move.mk kind 0 (Slot.mk 0 0 0) k
theorem call_1 (kind:Int) (l:List G2) (p:List Move) (hl:l.length≤12) (hp:p.length≤100000):M_moves_call_1 kind l p=some (p++l.map (mvS kind)):=by
 refine wp_eq ?_
 unfold M_moves_call_1
 refine J3 (fun pre st=>st=p++pre.map (mvS kind)) (by simp) (fun pre x post st nx e hst hnx=>?_) (fun st hst=>Gt hst)
 subst hst
 have hq:pre.length≤12:=by rw [e] at hl; simp at hl; omega
 refine Qe (room_ok (by rw [List.length_singleton,List.length_append,List.length_map]; omega) (by omega)) (hnx _ ?_)
 rw [List.map_append,List.append_assoc]; rfl
theorem call_2 (kind:Int) (l:List Int) (p:List Move) (hl:l.length≤12) (hp:p.length≤100000):M_moves_call_2 kind l p=some (p++l.map (mvC kind)):=by
 refine wp_eq ?_
 unfold M_moves_call_2
 refine J3 (fun pre st=>st=p++pre.map (mvC kind)) (by simp) (fun pre x post st nx e hst hnx=>?_) (fun st hst=>Gt hst)
 subst hst
 have hq:pre.length≤12:=by rw [e] at hl; simp at hl; omega
 refine Qe (room_ok (by rw [List.length_singleton,List.length_append,List.length_map]; omega) (by omega)) (hnx _ ?_)
 rw [List.map_append,List.append_assoc]; rfl
/-- The moves of a bay, out and in. -/
def outBay (s:Gz) (before after:List G2) (lifted:List Int) (bay:Int):List Move:=
 (isrt acmp (partL s before lifted bay true)).map (mvS 2)++(neededL s before after lifted bay).map (mvC 1)++(isrt acmp (partL s before lifted bay false)).map (mvS 2)
def inBay (s:Gz) (before after:List G2) (lifted:List Int) (bay:Int):List Move:=
 (partL s after lifted bay false).map (mvS 3)++(neededL s before after lifted bay).map (mvC 4)++(partL s after lifted bay true).map (mvS 3)
def outs (s:Gz) (before after:List G2) (lifted:List Int) (n:Nat):List Move:=(List.range n).flatMap (fun b:Nat=>outBay s before after lifted (b:Int))
def ins (s:Gz) (before after:List G2) (lifted:List Int) (n:Nat):List Move:=(List.range n).flatMap (fun b:Nat=>inBay s before after lifted (b:Int))
def callL (s:Gz) (before after:List G2) (lifted:List Int):List Move:=outs s before after lifted 40++ins s before after lifted 40
theorem outs_succ {s:Gz} {before after:List G2} {lifted:List Int} (n:Nat):outs s before after lifted (n+1)=outs s before after lifted n++outBay s before after lifted (n:Int):=by
 unfold outs
 rw [List.range_succ,List.flatMap_append]; simp
theorem ins_succ {s:Gz} {before after:List G2} {lifted:List Int} (n:Nat):ins s before after lifted (n+1)=ins s before after lifted n++inBay s before after lifted (n:Int):=by
 unfold ins
 rw [List.range_succ,List.flatMap_append]; simp
section
variable {s:Gz} {before after:List G2} {lifted:List Int}
theorem outBay_len (hs:ShipFew s) (lb:before.length≤12) {bay:Int}:(outBay s before after lifted bay).length≤40:=by
 have h1:=partL_len (s:=s) (l:=before) (lifted:=lifted) (bay:=bay) (deck:=true)
 have h2:=partL_len (s:=s) (l:=before) (lifted:=lifted) (bay:=bay) (deck:=false)
 have h3:=neededL_len (s:=s) (before:=before) (after:=after) (lifted:=lifted) (bay:=bay)
 have h4:=hs.covs
 unfold outBay
 simp only [List.length_append,List.length_map,isrt_length]
 omega
theorem inBay_len (hs:ShipFew s) (la:after.length≤12) {bay:Int}:(inBay s before after lifted bay).length≤40:=by
 have h1:=partL_len (s:=s) (l:=after) (lifted:=lifted) (bay:=bay) (deck:=true)
 have h2:=partL_len (s:=s) (l:=after) (lifted:=lifted) (bay:=bay) (deck:=false)
 have h3:=neededL_len (s:=s) (before:=before) (after:=after) (lifted:=lifted) (bay:=bay)
 have h4:=hs.covs
 unfold inBay
 simp only [List.length_append,List.length_map]
 omega
theorem outs_len (hs:ShipFew s) (lb:before.length≤12):∀ n:Nat,(outs s before after lifted n).length≤40*n
 | 0=>by simp [outs]
 | n+1=>by
  have h1:=outs_len hs lb n
  have h2:=outBay_len (after:=after) (lifted:=lifted) hs lb (bay:=(n:Int))
  rw [outs_succ,List.length_append]; omega
theorem ins_len (hs:ShipFew s) (la:after.length≤12):∀ n:Nat,(ins s before after lifted n).length≤40*n
 | 0=>by simp [ins]
 | n+1=>by
  have h1:=ins_len hs la n
  have h2:=inBay_len (before:=before) (lifted:=lifted) hs la (bay:=(n:Int))
  rw [ins_succ,List.length_append]; omega
theorem call_eq {F:Nat} (hF:60≤F) (hs:ShipFew s) (hb:∀ x∈before,ColIn s x.Slot) (ha:∀ x∈after,ColIn s x.Slot) (lb:before.length≤12) (la:after.length≤12) :
  M_moves_call F s before after lifted=some (callL s before after lifted):=by
 refine wp_eq ?_
 unfold M_moves_call
 have pl:∀ {l:List G2} {bay:Int} {deck:Bool},l.length≤12→(partL s l lifted bay deck).length≤12:=fun h=>Nat.le_trans partL_len h
 have nl:∀ {bay:Int},(neededL s before after lifted bay).length≤12:=Nat.le_trans neededL_len (by have:=hs.covs; omega)
 refine Qe rfl (wp_upto (fun i st=>st=outs s before after lifted i) (by simp [outs]) (fun i st nx hi hst hnx=>?_) (fun st hst=>Qe rfl (wp_upto (fun i st=>st=outs s before after lifted 40++ins s before after lifted i) (by rw [hst]; simp [ins]) (fun i st nx hi hst hnx=>?_) (fun st hst=>Gt hst))))
 ·subst hst
  have hlen:=outs_len (after:=after) (lifted:=lifted) hs lb i
  have hi40:i < 40:=hi
  refine Gw (part_eq hF hb lb) (Gw (above_eq hF (pl lb)) (Gw (call_1 _ _ _ (by rw [isrt_length]; exact pl lb) (by omega)) ?_))
  refine Gw (needed_eq hF hs hb ha lb la) (Gw (call_2 _ _ _ nl ?_) ?_)
  ·rw [List.length_append,List.length_map,isrt_length]; have:=pl lb (bay:=(i:Int)) (deck:=true); omega
  refine Gw (part_eq hF hb lb) (Gw (above_eq hF (pl lb)) (Gw (call_1 _ _ _ (by rw [isrt_length]; exact pl lb) ?_) (hnx _ ?_)))
  ·rw [List.length_append,List.length_append,List.length_map,List.length_map,isrt_length]; have:=pl lb (bay:=(i:Int)) (deck:=true); have:=nl (bay:=(i:Int)); omega
  ·rw [outs_succ]
   unfold outBay
   simp only [List.append_assoc]
 ·subst hst
  have hlen:=outs_len (after:=after) (lifted:=lifted) hs lb 40
  have hlen2:=ins_len (before:=before) (lifted:=lifted) hs la i
  have hi40:i < 40:=hi
  have hsum:(outs s before after lifted 40++ins s before after lifted i).length≤5000:=by rw [List.length_append]; omega
  generalize hg:outs s before after lifted 40++ins s before after lifted i=g at hsum hnx ⊢
  refine Gw (part_eq hF ha la) (Gw (call_1 _ _ _ (pl la) (by omega)) ?_)
  refine Gw (needed_eq hF hs hb ha lb la) (Gw (call_2 _ _ _ nl ?_) ?_)
  ·rw [List.length_append,List.length_map]; have:=pl la (bay:=(i:Int)) (deck:=false); omega
  refine Gw (part_eq hF ha la) (Gw (call_1 _ _ _ (pl la) ?_) (hnx _ ?_))
  ·rw [List.length_append,List.length_append,List.length_map,List.length_map]; have:=pl la (bay:=(i:Int)) (deck:=false); have:=nl (bay:=(i:Int)); omega
  ·rw [ins_succ,← List.append_assoc (outs s before after lifted 40),hg]
   unfold inBay
   simp only [List.append_assoc]
theorem callL_len (hs:ShipFew s) (lb:before.length≤12) (la:after.length≤12):(callL s before after lifted).length≤4000:=by
 have h1:=outs_len (after:=after) (lifted:=lifted) hs lb 40
 have h2:=ins_len (before:=before) (lifted:=lifted) hs la 40
 unfold callL
 rw [List.length_append]; omega
end
end Go.Proofs.YtkfhfoljfbjknaaGreat
