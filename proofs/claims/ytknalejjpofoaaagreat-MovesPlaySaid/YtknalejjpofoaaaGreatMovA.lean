/-
 The moves of a call,as a list that is told outright.
-/
import Derived.Test.YtknalejjpofoaaaGreatPlanV
set_option maxRecDepth 100000
namespace Go.Proofs.YtknalejjpofoaaaGreat
open Go.RowKit

def Zv (s:Gw) (x:Slot):G4:=(s.Columns[x.G4.toNat]?).getD default
theorem Gf7 {s:Gw} {x:Slot} {m:Nat} {c:G4} (h1:x.G4=(m:Int)) (h2:s.Columns[m]? = some c):Zv s x=c:=by
 unfold Zv
 rw [h1,show (m:Int).toNat=m by omega,h2]; rfl
def H3a (s:Gw) (lifted:List Int) (bay:Int) (deck:Bool) (x:Stowed):Bool:=(decide ((Zv s x.Slot).Bay=bay)&&((Zv s x.Slot).Deck==deck))&&lifted.any (fun y=>decide (x.Gd=y))
def Z2 (s:Gw) (l:List Stowed) (lifted:List Int) (bay:Int) (deck:Bool):List Stowed:=Gce pcmp (l.filter (H3a s lifted bay deck))
theorem containsI (l:List Int) (v:Int):Jb l v=some (l.any (fun y=>decide (v=y))):=by
 unfold Jb
 have h:Ra l v=some (J34 (fun y=>decide (v=y)) l):=by
  unfold Ra
  exact H3b (f:=fun y=>some (decide (v=y))) (fun x _=>rfl)
 rw [h]
 simp only [H3c]
 rw [H5a]
theorem Q1e {α:Type} {p:α→Bool} {l:List α} {n:Nat} (h:l.length≤n):(l.filter p).length≤n:=Nat.le_trans (List.length_filter_le _ _) h
theorem Hf0 {s:Gw} {l:List Stowed} {lifted:List Int} {bay:Int} {deck:Bool} {F:Nat} (hF:60≤F) (hc:∀ x∈l,H64 s x.Slot) (hl:l.length≤12) :
  Zb F s l lifted bay deck=some (Z2 s l lifted bay deck):=by
 refine Yq ?_
 unfold Zb
 refine J8 (fun pre st=>st=pre.filter (H3a s lifted bay deck)) rfl (fun pre x post st nx e hst hnx=>?_) (fun st hst=>?_)
 ·subst hst
  obtain⟨m,c,h1,h2⟩:=hc x (by rw [e]; simp)
  have hcol:=Gf7 h1 h2
  have hp:pre.length≤12:=by rw [e] at hl; simp at hl; omega
  refine Zt (fun j=>j=(pre++[x]).filter (H3a s lifted bay deck)) (fun K hK=>Y9 h1 h2 ?_) (fun j hj=>hnx _ hj)
  have hin:Wp (bif ((decide (c.Bay=bay))&&(c.Deck==deck)) then Jb lifted x.Gd else some default) (fun r58=>(((decide (c.Bay=bay))&&(c.Deck==deck))&&r58)=H3a s lifted bay deck x):=by
   unfold H3a
   rw [hcol]
   cases ((decide (c.Bay=bay))&&(c.Deck==deck)) with
   | true=>exact⟨_,containsI _ _,rfl⟩
   | false=>exact⟨_,rfl,rfl⟩
  refine H4 (wp_mono hin (fun r58 h58=>?_))
  rw [h58]
  have hpl:(pre.filter (H3a s lifted bay deck)).length≤12:=Q1e hp
  refine H7 (fun h=>Q8 (Z5 (by rw [List.length_singleton]; omega) (by omega)) (hK _ ?_)) (fun h=>hK _ ?_)
  ·rw [G06,h]; rfl
  ·rw [G06,h]; simp
 ·subst hst
  unfold Za
  rw [sort_stowed (c:=pcmp) (fun a b=>part_cmp a b) (by omega) (Q1e hl)]
  exact Gn rfl
theorem Ga9 {s:Gw} {l:List Stowed} {lifted:List Int} {bay:Int} {deck:Bool} {x:Stowed}:x∈Z2 s l lifted bay deck ↔ x∈l∧H3a s lifted bay deck x=true:=by
 unfold Z2
 rw [H36,List.mem_filter]
theorem Gd8 {s:Gw} {l:List Stowed} {lifted:List Int} {bay:Int} {deck:Bool}:(Z2 s l lifted bay deck).length≤l.length:=by
 unfold Z2
 rw [G63]; exact List.length_filter_le _ _
theorem H39 {s:Gw} {lifted:List Int} {bay:Int} {deck:Bool} {x:Stowed}:H3a s lifted bay deck x=true ↔ (Zv s x.Slot).Bay=bay∧(Zv s x.Slot).Deck=deck∧x.Gd∈lifted:=by
 unfold H3a
 simp only [Bool.and_eq_true,decide_eq_true_eq,beq_iff_eq,List.any_eq_true]
 constructor
 ·rintro⟨⟨h1,h2⟩,y,hy,rfl⟩; exact⟨h1,h2,hy⟩
 ·rintro⟨h1,h2,h3⟩; exact⟨⟨h1,h2⟩,_,h3,rfl⟩
theorem above_eq {l:List Stowed} {F:Nat} (hF:60≤F) (hl:l.length≤12):Zm F l=some (Gce J04 l):=by
 unfold Zm
 rw [sort_stable (c:=J04) (fun a b=>above_cmp a b) (by omega) hl]
 rfl

def G5b (u:List Int) (k:Int):List Int:=bif decide (0≤k)&&!(u.any (fun y=>decide (k=y))) then u++[k] else u
theorem addNew_mem {u:List Int} {k a:Int}:a∈G5b u k ↔ a∈u∨(a=k∧0≤k):=by
 unfold G5b
 by_cases h:0≤k
 ·rw [decide_eq_true h,Bool.true_and]
  cases hu:u.any (fun y=>decide (k=y)) with
  | true=>
   obtain⟨y,hy,he⟩:=List.any_eq_true.1 hu
   have he:=of_decide_eq_true he
   simp only [Bool.not_true,cond_false]
   exact⟨.inl,fun h1=>h1.elim _root_.id (fun h2=>by rw [h2.1,he]; exact hy)⟩
  | false=>
   simp only [Bool.not_false,cond_true,List.mem_append,List.mem_singleton]
   exact⟨fun h1=>h1.elim .inl (fun h2=>.inr ⟨h2,h⟩),fun h1=>h1.elim .inl (fun h2=>.inr h2.1)⟩
 ·rw [decide_eq_false h,Bool.false_and]
  simp only [cond_false]
  exact⟨.inl,fun h1=>h1.elim _root_.id (fun h2=>absurd h2.2 h)⟩
theorem addNew_nodup {u:List Int} {k:Int} (h:u.Nodup):(G5b u k).Nodup:=by
 unfold G5b
 cases hc:decide (0≤k)&&!(u.any (fun y=>decide (k=y))) with
 | false=>exact h
 | true=>
  rw [Bool.and_eq_true,Bool.not_eq_true'] at hc
  rw [cond_true,List.nodup_append]
  refine⟨h,by simp,fun a ha b hb=>?_⟩
  rw [List.mem_singleton] at hb; subst hb
  have:=List.any_eq_false.1 hc.2 a ha
  intro e
  exact this (decide_eq_true e.symm)
def Gbe (s:Gw) (x:Stowed):Int:=Jt s (Zv s x.Slot)
def H58 (s:Gw) (before after:List Stowed) (lifted:List Int) (bay:Int):List Int:=((Z2 s before lifted bay false++Z2 s after lifted bay false).map (Gbe s)).foldl G5b []
def G5c (s:Gw) (before after:List Stowed) (lifted:List Int) (bay:Int):List Int:=Gce Hd5 (H58 s before after lifted bay)
theorem Jae {a:Int}:∀ (l u:List Int),a∈l.foldl G5b u ↔ a∈u∨(a∈l∧0≤a)
 | [],u=>by simp
 | k::l,u=>by
  rw [List.foldl_cons,Jae l,addNew_mem,List.mem_cons]
  constructor
  ·rintro((h | ⟨rfl,h⟩) | h)
   ·exact .inl h
   ·exact .inr ⟨.inl rfl,h⟩
   ·exact .inr ⟨.inr h.1,h.2⟩
  ·rintro(h | ⟨rfl | h,h2⟩)
   ·exact .inl (.inl h)
   ·exact .inl (.inr ⟨rfl,h2⟩)
   ·exact .inr ⟨h,h2⟩
theorem J14:∀ (l u:List Int),u.Nodup→(l.foldl G5b u).Nodup
 | [],_,h=>h
 | _::l,_,h=>J14 l _ (addNew_nodup h)
theorem H57 {s:Gw} {before after:List Stowed} {lifted:List Int} {bay a:Int}:a∈H58 s before after lifted bay ↔ 0≤a∧∃ x,(x∈before∨x∈after)∧H3a s lifted bay false x=true∧Gbe s x=a:=by
 unfold H58
 rw [Jae,List.mem_map]
 constructor
 ·rintro(h | ⟨⟨x,hx,e⟩,h⟩)
  ·exact(List.not_mem_nil h).elim
  ·rw [List.mem_append,Ga9,Ga9] at hx
   rcases hx with g | g
   ·exact⟨h,x,.inl g.1,g.2,e⟩
   ·exact⟨h,x,.inr g.1,g.2,e⟩
 ·rintro⟨h,x,hx,hp,e⟩
  refine .inr ⟨⟨x,?_,e⟩,h⟩
  rw [List.mem_append,Ga9,Ga9]
  exact hx.elim (fun h=>.inl ⟨h,hp⟩) (fun h=>.inr ⟨h,hp⟩)
theorem Ja3 {s:Gw} {before after:List Stowed} {lifted:List Int} {bay a:Int}:a∈G5c s before after lifted bay ↔ 0≤a∧∃ x,(x∈before∨x∈after)∧H3a s lifted bay false x=true∧Gbe s x=a:=by
 unfold G5c
 rw [H36,H57]
theorem coverOf_lt {s:Gw} {c:G4}:Jt s c < (s.Covers.length:Int):=by
 unfold Jt
 rcases G49 (fun x=>Gdd x c) s.Covers with ⟨h,_⟩ | ⟨m,x,h,h2,_⟩
 ·rw [h]; omega
 ·have:=(List.getElem?_eq_some_iff.1 h2).1
  rw [h]; omega
theorem J10 {s:Gw} {before after:List Stowed} {lifted:List Int} {bay:Int}:(H58 s before after lifted bay).Nodup:=J14 _ _ List.nodup_nil
theorem Ja2 {s:Gw} {before after:List Stowed} {lifted:List Int} {bay:Int}:(H58 s before after lifted bay).length≤s.Covers.length:=by
 have h:=pigeon s.Covers.length ((H58 s before after lifted bay).map (·.toNat)) ?_ ?_
 ·rwa [List.length_map] at h
 ·refine List.pairwise_map.2 (List.Pairwise.imp_of_mem (fun {a b} ha hb hab=>?_) J10)
  have h1:=(H57.1 ha).1
  have h2:=(H57.1 hb).1
  intro e
  exact hab (by omega)
 ·intro x hx
  obtain⟨a,ha,rfl⟩:=List.mem_map.1 hx
  obtain⟨h1,y,_,_,e⟩:=H57.1 ha
  have:=coverOf_lt (s:=s) (c:=Zv s y.Slot)
  unfold Gbe at e
  rw [e] at this
  omega
theorem Hcb {s:Gw} {before after:List Stowed} {lifted:List Int} {bay:Int}:(G5c s before after lifted bay).length≤s.Covers.length:=by
 unfold G5c
 rw [G63]; exact Ja2
theorem J11 {s:Gw} {before after:List Stowed} {lifted:List Int} {bay:Int}:(G5c s before after lifted bay).Nodup:=by
 unfold G5c
 exact(Gdb _ _).nodup_iff.2 J10
theorem Hd0:∀ (l u:List Int),(l.foldl G5b u).length≤u.length+l.length
 | [],u=>by simp
 | k::l,u=>by
  rw [List.foldl_cons,List.length_cons]
  have:=Hd0 l (G5b u k)
  have h:(G5b u k).length≤u.length+1:=by
   unfold G5b
   cases decide (0≤k)&&!(u.any (fun y=>decide (k=y))) <;> simp
  omega
structure Ge9 (s:Gw):Prop where
 covs:s.Covers.length≤10
 rows:∀ x∈s.Covers,x.Rows.length≤1000000
theorem needed_eq {s:Gw} {before after:List Stowed} {lifted:List Int} {bay:Int} {F:Nat} (hF:60≤F) (hs:Ge9 s) (hb:∀ x∈before,H64 s x.Slot) (ha:∀ x∈after,H64 s x.Slot) (lb:before.length≤12) (la:after.length≤12) :
  G3c F s before after lifted bay=some (G5c s before after lifted bay):=by
 refine Yq ?_
 unfold G3c
 have one:∀ (l:List Stowed) (u:List Int) (nx:List Int→Option (List Int)) (Q:List Int→Prop),(∀ x∈l,H64 s x.Slot)→l.length≤12→u.length≤100→Wp (nx ((l.map (Gbe s)).foldl G5b u)) Q →
   Wp (each (fun y52 i52 (s52:(List Int)) nx52=>
   jp (fun kj55=>
    bnd (Qv s y52.Slot.G4) fun r58=>
    bnd (bif decide (0≤r58) then Jb s52 r58 else some default) fun r60=>
    bif ((decide (0≤r58))&&(!r60)) then
    (need (decide ((s52.length+[r58].length)*8≤140737488355328∧s52.length+[r58].length≤maxLen)) <|
     kj55 (s52++[r58]))
    else
    (kj55 s52)) fun(j55:(List Int))=>
   nx52 j55)
  (fun(s52:(List Int))=>
   nx s52) l 0 u) Q:=by
  intro l u nx Q hcol hl hu hQ
  refine J8 (fun pre st=>st=(pre.map (Gbe s)).foldl G5b u) rfl (fun pre x post st nx2 e hst hnx=>?_) (fun st hst=>by rw [hst]; exact hQ)
  subst hst
  obtain⟨m,c,h1,h2⟩:=hcol x (by rw [e]; simp)
  have hp:pre.length≤12:=by rw [e] at hl; simp at hl; omega
  have hlen:=Hd0 (pre.map (Gbe s)) u
  rw [List.length_map] at hlen
  have hk:Gbe s x=Jt s c:=by unfold Gbe; rw [Gf7 h1 h2]
  refine Zt (fun j=>j=((pre++[x]).map (Gbe s)).foldl G5b u) (fun K hK=>?_) (fun j hj=>hnx _ hj)
  rw [h1]
  refine Gu (G75 h2 hs.rows (by have:=hs.covs; omega)) ?_
  rw [List.map_append,List.foldl_append] at hK
  simp only [List.map_cons,List.map_nil,List.foldl_cons,List.foldl_nil] at hK
  rw [hk] at hK
  generalize (pre.map (Gbe s)).foldl G5b u=w at hK hlen
  have hin:Wp (bif decide (0≤Jt s c) then Jb w (Jt s c) else some default) (fun r60=>((decide (0≤Jt s c))&&(!r60))=(decide (0≤Jt s c)&&!(w.any (fun y=>decide (Jt s c=y))))):=by
   cases decide (0≤Jt s c) with
   | true=>exact⟨_,containsI _ _,rfl⟩
   | false=>exact⟨_,rfl,rfl⟩
  refine H4 (wp_mono hin (fun r60 h60=>?_))
  rw [h60]
  unfold G5b at hK
  refine H7 (fun h=>Q8 (Z5 (by rw [List.length_singleton]; omega) (by omega)) (hK _ ?_)) (fun h=>hK _ ?_)
  ·rw [h]; rfl
  ·rw [h]; rfl
 have hfin:((Z2 s after lifted bay false).map (Gbe s)).foldl G5b (((Z2 s before lifted bay false).map (Gbe s)).foldl G5b [])=H58 s before after lifted bay:=by
  unfold H58
  rw [List.map_append,List.foldl_append]
 have hb':∀ x∈Z2 s before lifted bay false,H64 s x.Slot:=fun x hx=>hb x (Ga9.1 hx).1
 have ha':∀ x∈Z2 s after lifted bay false,H64 s x.Slot:=fun x hx=>ha x (Ga9.1 hx).1
 have lb':(Z2 s before lifted bay false).length≤12:=Nat.le_trans Gd8 lb
 have la':(Z2 s after lifted bay false).length≤12:=Nat.le_trans Gd8 la
 rw [each]
 refine Gu (Hf0 hF hb lb) (one _ _ _ _ hb' lb' (by simp) ?_)
 rw [each]
 refine Gu (Hf0 hF ha la) (one _ _ _ _ ha' la' ?_ ?_)
 ·have:=Hd0 ((Z2 s before lifted bay false).map (Gbe s)) []
  rw [List.length_map] at this
  simp only [List.length_nil] at this
  omega
 ·rw [each,hfin]
  unfold G4c
  rw [sort_int (c:=Hd5) (fun a b=>J5e a b) (by omega) (by have:=Ja2 (s:=s) (before:=before) (after:=after) (lifted:=lifted) (bay:=bay); have:=hs.covs; omega)]
  exact Gn rfl

def mvS (kind:Int) (x:Stowed):Move:=Move.mk kind x.Gd x.Slot 0
def mvC (kind:Int) (k:Int):Move:=Move.mk kind 0 (Slot.mk 0 0 0) k
theorem call_1 (kind:Int) (l:List Stowed) (p:List Move) (hl:l.length≤12) (hp:p.length≤100000):Zh kind l p=some (p++l.map (mvS kind)):=by
 refine Yq ?_
 unfold Zh
 refine J8 (fun pre st=>st=p++pre.map (mvS kind)) (by simp) (fun pre x post st nx e hst hnx=>?_) (fun st hst=>Gn hst)
 subst hst
 have hq:pre.length≤12:=by rw [e] at hl; simp at hl; omega
 refine Q8 (Z5 (by rw [List.length_singleton,List.length_append,List.length_map]; omega) (by omega)) (hnx _ ?_)
 rw [List.map_append,List.append_assoc]; rfl
theorem call_2 (kind:Int) (l:List Int) (p:List Move) (hl:l.length≤12) (hp:p.length≤100000):G3d kind l p=some (p++l.map (mvC kind)):=by
 refine Yq ?_
 unfold G3d
 refine J8 (fun pre st=>st=p++pre.map (mvC kind)) (by simp) (fun pre x post st nx e hst hnx=>?_) (fun st hst=>Gn hst)
 subst hst
 have hq:pre.length≤12:=by rw [e] at hl; simp at hl; omega
 refine Q8 (Z5 (by rw [List.length_singleton,List.length_append,List.length_map]; omega) (by omega)) (hnx _ ?_)
 rw [List.map_append,List.append_assoc]; rfl
def Hca (s:Gw) (before after:List Stowed) (lifted:List Int) (bay:Int):List Move:=
 (Gce J04 (Z2 s before lifted bay true)).map (mvS 2)++(G5c s before after lifted bay).map (mvC 1)++(Gce J04 (Z2 s before lifted bay false)).map (mvS 2)
def Jab (s:Gw) (before after:List Stowed) (lifted:List Int) (bay:Int):List Move:=
 (Z2 s after lifted bay false).map (mvS 3)++(G5c s before after lifted bay).map (mvC 4)++(Z2 s after lifted bay true).map (mvS 3)
def outs (s:Gw) (before after:List Stowed) (lifted:List Int) (n:Nat):List Move:=(List.range n).flatMap (fun b:Nat=>Hca s before after lifted (b:Int))
def ins (s:Gw) (before after:List Stowed) (lifted:List Int) (n:Nat):List Move:=(List.range n).flatMap (fun b:Nat=>Jab s before after lifted (b:Int))
def J15 (s:Gw) (before after:List Stowed) (lifted:List Int):List Move:=outs s before after lifted 40++ins s before after lifted 40
theorem J78 {s:Gw} {before after:List Stowed} {lifted:List Int} (n:Nat):outs s before after lifted (n+1)=outs s before after lifted n++Hca s before after lifted (n:Int):=by
 unfold outs
 rw [List.range_succ,List.flatMap_append]; simp
theorem Q17 {s:Gw} {before after:List Stowed} {lifted:List Int} (n:Nat):ins s before after lifted (n+1)=ins s before after lifted n++Jab s before after lifted (n:Int):=by
 unfold ins
 rw [List.range_succ,List.flatMap_append]; simp
section
variable {s:Gw} {before after:List Stowed} {lifted:List Int}
theorem outBay_len (hs:Ge9 s) (lb:before.length≤12) {bay:Int}:(Hca s before after lifted bay).length≤40:=by
 have h1:=Gd8 (s:=s) (l:=before) (lifted:=lifted) (bay:=bay) (deck:=true)
 have h2:=Gd8 (s:=s) (l:=before) (lifted:=lifted) (bay:=bay) (deck:=false)
 have h3:=Hcb (s:=s) (before:=before) (after:=after) (lifted:=lifted) (bay:=bay)
 have h4:=hs.covs
 unfold Hca
 simp only [List.length_append,List.length_map,G63]
 omega
theorem inBay_len (hs:Ge9 s) (la:after.length≤12) {bay:Int}:(Jab s before after lifted bay).length≤40:=by
 have h1:=Gd8 (s:=s) (l:=after) (lifted:=lifted) (bay:=bay) (deck:=true)
 have h2:=Gd8 (s:=s) (l:=after) (lifted:=lifted) (bay:=bay) (deck:=false)
 have h3:=Hcb (s:=s) (before:=before) (after:=after) (lifted:=lifted) (bay:=bay)
 have h4:=hs.covs
 unfold Jab
 simp only [List.length_append,List.length_map]
 omega
theorem J51 (hs:Ge9 s) (lb:before.length≤12):∀ n:Nat,(outs s before after lifted n).length≤40*n
 | 0=>by simp [outs]
 | n+1=>by
  have h1:=J51 hs lb n
  have h2:=outBay_len (after:=after) (lifted:=lifted) hs lb (bay:=(n:Int))
  rw [J78,List.length_append]; omega
theorem ins_len (hs:Ge9 s) (la:after.length≤12):∀ n:Nat,(ins s before after lifted n).length≤40*n
 | 0=>by simp [ins]
 | n+1=>by
  have h1:=ins_len hs la n
  have h2:=inBay_len (before:=before) (lifted:=lifted) hs la (bay:=(n:Int))
  rw [Q17,List.length_append]; omega
theorem call_eq {F:Nat} (hF:60≤F) (hs:Ge9 s) (hb:∀ x∈before,H64 s x.Slot) (ha:∀ x∈after,H64 s x.Slot) (lb:before.length≤12) (la:after.length≤12) :
  Gc9 F s before after lifted=some (J15 s before after lifted):=by
 refine Yq ?_
 unfold Gc9
 have pl:∀ {l:List Stowed} {bay:Int} {deck:Bool},l.length≤12→(Z2 s l lifted bay deck).length≤12:=fun h=>Nat.le_trans Gd8 h
 have nl:∀ {bay:Int},(G5c s before after lifted bay).length≤12:=Nat.le_trans Hcb (by have:=hs.covs; omega)
 refine Q8 rfl (H51 (fun i st=>st=outs s before after lifted i) (by simp [outs]) (fun i st nx hi hst hnx=>?_) (fun st hst=>Q8 rfl (H51 (fun i st=>st=outs s before after lifted 40++ins s before after lifted i) (by rw [hst]; simp [ins]) (fun i st nx hi hst hnx=>?_) (fun st hst=>Gn hst))))
 ·subst hst
  have hlen:=J51 (after:=after) (lifted:=lifted) hs lb i
  have hi40:i < 40:=hi
  refine Gu (Hf0 hF hb lb) (Gu (above_eq hF (pl lb)) (Gu (call_1 _ _ _ (by rw [G63]; exact pl lb) (by omega)) ?_))
  refine Gu (needed_eq hF hs hb ha lb la) (Gu (call_2 _ _ _ nl ?_) ?_)
  ·rw [List.length_append,List.length_map,G63]; have:=pl lb (bay:=(i:Int)) (deck:=true); omega
  refine Gu (Hf0 hF hb lb) (Gu (above_eq hF (pl lb)) (Gu (call_1 _ _ _ (by rw [G63]; exact pl lb) ?_) (hnx _ ?_)))
  ·rw [List.length_append,List.length_append,List.length_map,List.length_map,G63]; have:=pl lb (bay:=(i:Int)) (deck:=true); have:=nl (bay:=(i:Int)); omega
  ·rw [J78]
   unfold Hca
   simp only [List.append_assoc]
 ·subst hst
  have hlen:=J51 (after:=after) (lifted:=lifted) hs lb 40
  have hlen2:=ins_len (before:=before) (lifted:=lifted) hs la i
  have hi40:i < 40:=hi
  have hsum:(outs s before after lifted 40++ins s before after lifted i).length≤5000:=by rw [List.length_append]; omega
  generalize hg:outs s before after lifted 40++ins s before after lifted i=g at hsum hnx ⊢
  refine Gu (Hf0 hF ha la) (Gu (call_1 _ _ _ (pl la) (by omega)) ?_)
  refine Gu (needed_eq hF hs hb ha lb la) (Gu (call_2 _ _ _ nl ?_) ?_)
  ·rw [List.length_append,List.length_map]; have:=pl la (bay:=(i:Int)) (deck:=false); omega
  refine Gu (Hf0 hF ha la) (Gu (call_1 _ _ _ (pl la) ?_) (hnx _ ?_))
  ·rw [List.length_append,List.length_append,List.length_map,List.length_map]; have:=pl la (bay:=(i:Int)) (deck:=false); have:=nl (bay:=(i:Int)); omega
  ·rw [Q17,← List.append_assoc (outs s before after lifted 40),hg]
   unfold Jab
   simp only [List.append_assoc]
end
end Go.Proofs.YtknalejjpofoaaaGreat
