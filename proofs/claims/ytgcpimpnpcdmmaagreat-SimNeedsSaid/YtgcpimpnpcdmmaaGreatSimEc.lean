/-
 The moves of a call,aQ a list that is told outright. What a simulator's maps hold,and what the methods that only What a move needs,what it brings about,and that it can be un What doing a move does: What putting a box does,and doing any move. How a simulator begins,and what the chapter's statements mak
-/
import Derived.Test.YtgcpimpnpcdmmaaGreatSpecT
import Derived.Test.YtgcpimpnpcdmmaaGreatPutB
set_option maxRecDepth 100000
namespace Go.Proofs.YtgcpimpnpcdmmaaGreat
open Go.RowKit
def G26 (s:Gj) (x:Slot):G3:=(s.Columns[x.G3.toNat]?).getD default
theorem H61 {s:Gj} {x:Slot} {m:Nat} {c:G3} (h1:x.G3=(m:Int)) (h2:s.Columns[m]? = some c):G26 s x=c:=by
 unfold G26
 rw [h1,show (m:Int).toNat=m by omega,h2]; rfl
def Ha1 (s:Gj) (lf:List Int) (bay:Int) (deck:Bool) (x:G1):Bool:=(decide ((G26 s x.Slot).Bay=bay)&&((G26 s x.Slot).Deck==deck))&&lf.any (fun y=>decide (x.Box=y))
def G01 (s:Gj) (l:List G1) (lf:List Int) (bay:Int) (deck:Bool):List G1:=H6c Rd1 (l.filter (Ha1 s lf bay deck))
theorem R51 (l:List Int) (v:Int):Jx l v=some (l.any (fun y=>decide (v=y))):=by
 unfold Jx
 have h:Y8 l v=some (J60 (fun y=>decide (v=y)) l):=by
  unfold Y8
  exact Ha4 (f:=fun y=>some (decide (v=y))) (fun x _=>rfl)
 rw [h]
 simp only [Ha5]
 rw [H5f]
theorem Qea {α:Type} {p:α→Bool} {l:List α} {n:Nat} (h:l.length≤n):(l.filter p).length≤n:=Nat.le_trans (Ky _ _) h
theorem J7c {s:Gj} {l:List G1} {lf:List Int} {bay:Int} {deck:Bool} {F:Nat} (hF:60≤F) (hc:∀ x∈l,Hd3 s x.Slot) (hl:l.length≤12) :
  Zq F s l lf bay deck=some (G01 s l lf bay deck):=by
 refine G60 ?_
 unfold Zq
 refine Jo (fun pre st=>st=pre.filter (Ha1 s lf bay deck)) rfl (fun pre x post st nx e h0 h4=>?_) (fun st h0=>?_)
 ·subst h0
  obtain⟨m,c,h1,h2⟩:=hc x (by rw [e]; simp)
  have h3:=H61 h1 h2
  have hp:pre.length≤12:=by rw [e] at hl; simp at hl; omega
  refine G00 (fun j=>j=(pre++[x]).filter (Ha1 s lf bay deck)) (fun K hK=>Yh h1 h2 ?_) (fun j hj=>h4 _ hj)
  have h5:Wp (bif ((decide (c.Bay=bay))&&(c.Deck==deck)) then Jx lf x.Box else some default) (fun r58=>(((decide (c.Bay=bay))&&(c.Deck==deck))&&r58)=Ha1 s lf bay deck x):=by
   unfold Ha1
   rw [h3]
   cases ((decide (c.Bay=bay))&&(c.Deck==deck)) with
   | true=>exact⟨_,R51 _ _,rfl⟩
   | false=>exact⟨_,rfl,rfl⟩
  refine H4 (wp_mono h5 (fun r58 h6=>?_))
  rw [h6]
  have h7:(pre.filter (Ha1 s lf bay deck)).length≤12:=Qea hp
  refine Hu (fun h=>Rj (G12 (by rw [Mj]; omega) (by omega)) (hK _ ?_)) (fun h=>hK _ ?_)
  ·rw [G76,h]; rfl
  ·rw [G76,h]; simp
 ·subst h0
  unfold G09
  rw [Rc7 (c:=Rd1) (fun a b=>Z00 a b) (by omega) (Qea hl)]
  exact Gn rfl
theorem Gfb {s:Gj} {l:List G1} {lf:List Int} {bay:Int} {deck:Bool} {x:G1}:x∈G01 s l lf bay deck ↔ x∈l∧Ha1 s lf bay deck x=true:=by
 unfold G01
 rw [H9e,Ms]
theorem H34 {s:Gj} {l:List G1} {lf:List Int} {bay:Int} {deck:Bool}:(G01 s l lf bay deck).length≤l.length:=by
 unfold G01
 rw [Gab]; exact Ky _ _
theorem Ha0 {s:Gj} {lf:List Int} {bay:Int} {deck:Bool} {x:G1}:Ha1 s lf bay deck x=true ↔ (G26 s x.Slot).Bay=bay∧(G26 s x.Slot).Deck=deck∧x.Box∈lf:=by
 unfold Ha1
 simp only [Mk,Mm,beq_iff_eq,List.any_eq_true]
 constructor
 ·rintro⟨⟨h1,h2⟩,y,hy,rfl⟩; exact⟨h1,h2,hy⟩
 ·rintro⟨h1,h2,h3⟩; exact⟨⟨h1,h2⟩,_,h3,rfl⟩
theorem Rf3 {l:List G1} {F:Nat} (hF:60≤F) (hl:l.length≤12):G16 F l=some (H6c J95 l):=by
 unfold G16
 rw [Rc8 (c:=J95) (fun a b=>Yda a b) (by omega) hl]
 rfl
def G99 (u:List Int) (k:Int):List Int:=bif decide (0≤k)&&!(u.any (fun y=>decide (k=y))) then u++[k] else u
theorem Y6c {u:List Int} {k a:Int}:a∈G99 u k ↔ a∈u∨(a=k∧0≤k):=by
 unfold G99
 by_cases h:0≤k
 ·rw [M4 h,Bool.true_and]
  cases hu:u.any (fun y=>decide (k=y)) with
  | true=>
   obtain⟨y,hy,he⟩:=List.any_eq_true.1 hu
   have he:=M2 he
   simp only [Bool.not_true,cond_false]
   exact⟨.inl,fun h1=>h1.elim _root_.id (fun h2=>by rw [h2.1,he]; exact hy)⟩
  | false=>
   simp only [Bool.not_false,cond_true,Mo,Mq]
   exact⟨fun h1=>h1.elim .inl (fun h2=>.inr ⟨h2,h⟩),fun h1=>h1.elim .inl (fun h2=>.inr h2.1)⟩
 ·rw [M5 h,Bool.false_and]
  simp only [cond_false]
  exact⟨.inl,fun h1=>h1.elim _root_.id (fun h2=>absurd h2.2 h)⟩
theorem R83 {u:List Int} {k:Int} (h:u.Nodup):(G99 u k).Nodup:=by
 unfold G99
 cases hc:decide (0≤k)&&!(u.any (fun y=>decide (k=y))) with
 | false=>exact h
 | true=>
  rw [Mk,Bool.not_eq_true'] at hc
  rw [cond_true,List.nodup_append]
  refine⟨h,by simp,fun a ha b hb=>?_⟩
  rw [Mq] at hb; subst hb
  have:=List.any_eq_false.1 hc.2 a ha
  intro e
  exact this (M4 e.symm)
def H16 (s:Gj) (x:G1):Int:=Jy s (G26 s x.Slot)
def Hc8 (s:Gj) (bf af:List G1) (lf:List Int) (bay:Int):List Int:=((G01 s bf lf bay false++G01 s af lf bay false).map (H16 s)).foldl G99 []
def G9d (s:Gj) (bf af:List G1) (lf:List Int) (bay:Int):List Int:=H6c J63 (Hc8 s bf af lf bay)
theorem Q6b {a:Int}:∀ (l u:List Int),a∈l.foldl G99 u ↔ a∈u∨(a∈l∧0≤a)
 | [],u=>by simp
 | k::l,u=>by
  rw [List.foldl_cons,Q6b l,Y6c,Mr]
  constructor
  ·rintro((h | ⟨rfl,h⟩) | h)
   ·exact .inl h
   ·exact .inr ⟨.inl rfl,h⟩
   ·exact .inr ⟨.inr h.1,h.2⟩
  ·rintro(h | ⟨rfl | h,h2⟩)
   ·exact .inl (.inl h)
   ·exact .inl (.inr ⟨rfl,h2⟩)
   ·exact .inr ⟨h,h2⟩
theorem Ja3:∀ (l u:List Int),u.Nodup→(l.foldl G99 u).Nodup
 | [],_,h=>h
 | _::l,_,h=>Ja3 l _ (R83 h)
theorem Hc7 {s:Gj} {bf af:List G1} {lf:List Int} {bay a:Int}:a∈Hc8 s bf af lf bay ↔ 0≤a∧∃ x,(x∈bf∨x∈af)∧Ha1 s lf bay false x=true∧H16 s x=a:=by
 unfold Hc8
 rw [Q6b,Mp]
 constructor
 ·rintro(h | ⟨⟨x,hx,e⟩,h⟩)
  ·exact(Ma h).elim
  ·rw [Mo,Gfb,Gfb] at hx
   rcases hx with g | g
   ·exact⟨h,x,.inl g.1,g.2,e⟩
   ·exact⟨h,x,.inr g.1,g.2,e⟩
 ·rintro⟨h,x,hx,hp,e⟩
  refine .inr ⟨⟨x,?_,e⟩,h⟩
  rw [Mo,Gfb,Gfb]
  exact hx.elim (fun h=>.inl ⟨h,hp⟩) (fun h=>.inr ⟨h,hp⟩)
theorem Q5e {s:Gj} {bf af:List G1} {lf:List Int} {bay a:Int}:a∈G9d s bf af lf bay ↔ 0≤a∧∃ x,(x∈bf∨x∈af)∧Ha1 s lf bay false x=true∧H16 s x=a:=by
 unfold G9d
 rw [H9e,Hc7]
theorem Y68 {s:Gj} {c:G3}:Jy s c < (s.Covers.length:Int):=by
 unfold Jy
 rcases H3b (fun x=>Hf4 x c) s.Covers with ⟨h,_⟩ | ⟨m,x,h,h2,_⟩
 ·rw [h]; omega
 ·have:=(M6 h2).1
  rw [h]; omega
theorem J9f {s:Gj} {bf af:List G1} {lf:List Int} {bay:Int}:(Hc8 s bf af lf bay).Nodup:=Ja3 _ _ List.nodup_nil
theorem Q5d {s:Gj} {bf af:List G1} {lf:List Int} {bay:Int}:(Hc8 s bf af lf bay).length≤s.Covers.length:=by
 have h:=Yfe s.Covers.length ((Hc8 s bf af lf bay).map (·.toNat)) ?_ ?_
 ·rwa [Mn] at h
 ·refine List.pairwise_map.2 (List.Pairwise.imp_of_mem (fun {a b} ha hb h0=>?_) J9f)
  have h1:=(Hc7.1 ha).1
  have h2:=(Hc7.1 hb).1
  intro e
  exact h0 (by omega)
 ·intro x hx
  obtain⟨a,ha,rfl⟩:=Mp.1 hx
  obtain⟨h1,y,_,_,e⟩:=Hc7.1 ha
  have:=Y68 (s:=s) (c:=G26 s y.Slot)
  unfold H16 at e
  rw [e] at this
  omega
theorem J5a {s:Gj} {bf af:List G1} {lf:List Int} {bay:Int}:(G9d s bf af lf bay).length≤s.Covers.length:=by
 unfold G9d
 rw [Gab]; exact Q5d
theorem Ja0 {s:Gj} {bf af:List G1} {lf:List Int} {bay:Int}:(G9d s bf af lf bay).Nodup:=by
 unfold G9d
 exact(H39 _ _).nodup_iff.2 J9f
theorem J62:∀ (l u:List Int),(l.foldl G99 u).length≤u.length+l.length
 | [],u=>by simp
 | k::l,u=>by
  rw [List.foldl_cons,Me]
  have:=J62 l (G99 u k)
  have h:(G99 u k).length≤u.length+1:=by
   unfold G99
   cases decide (0≤k)&&!(u.any (fun y=>decide (k=y))) <;> simp
  omega
structure H7d (s:Gj):Prop where
 covs:s.Covers.length≤10
 rows:∀ x∈s.Covers,x.Rows.length≤1000000
theorem R3d {s:Gj} {bf af:List G1} {lf:List Int} {bay:Int} {F:Nat} (hF:60≤F) (hs:H7d s) (hb:∀ x∈bf,Hd3 s x.Slot) (ha:∀ x∈af,Hd3 s x.Slot) (lb:bf.length≤12) (la:af.length≤12) :
  G71 F s bf af lf bay=some (G9d s bf af lf bay):=by
 refine G60 ?_
 unfold G71
 have one:∀ (l:List G1) (u:List Int) (nx:List Int→Option (List Int)) (Q:List Int→Prop),(∀ x∈l,Hd3 s x.Slot)→l.length≤12→u.length≤100→Wp (nx ((l.map (H16 s)).foldl G99 u)) Q →
   Wp (each (fun y52 i52 (s52:(List Int)) nx52=>
   jp (fun kj55=>
    bnd (Rh s y52.Slot.G3) fun r58=>
    bnd (bif decide (0≤r58) then Jx s52 r58 else some default) fun r60=>
    bif ((decide (0≤r58))&&(!r60)) then
    (need (decide ((s52.length+[r58].length)*8≤140737488355328∧s52.length+[r58].length≤maxLen)) <|
     kj55 (s52++[r58]))
    else
    (kj55 s52)) fun(j55:(List Int))=>
   nx52 j55)
  (fun(s52:(List Int))=>
   nx s52) l 0 u) Q:=by
  intro l u nx Q h4 hl hu hQ
  refine Jo (fun pre st=>st=(pre.map (H16 s)).foldl G99 u) rfl (fun pre x post st nx2 e h0 h6=>?_) (fun st h0=>by rw [h0]; exact hQ)
  subst h0
  obtain⟨m,c,h1,h2⟩:=h4 x (by rw [e]; simp)
  have hp:pre.length≤12:=by rw [e] at hl; simp at hl; omega
  have h3:=J62 (pre.map (H16 s)) u
  rw [Mn] at h3
  have hk:H16 s x=Jy s c:=by unfold H16; rw [H61 h1 h2]
  refine G00 (fun j=>j=((pre++[x]).map (H16 s)).foldl G99 u) (fun K hK=>?_) (fun j hj=>h6 _ hj)
  rw [h1]
  refine Gt (H0f h2 hs.rows (by have:=hs.covs; omega)) ?_
  rw [List.map_append,List.foldl_append] at hK
  simp only [List.map_cons,List.map_nil,List.foldl_cons,List.foldl_nil] at hK
  rw [hk] at hK
  generalize (pre.map (H16 s)).foldl G99 u=w at hK h3
  have h7:Wp (bif decide (0≤Jy s c) then Jx w (Jy s c) else some default) (fun r60=>((decide (0≤Jy s c))&&(!r60))=(decide (0≤Jy s c)&&!(w.any (fun y=>decide (Jy s c=y))))):=by
   cases decide (0≤Jy s c) with
   | true=>exact⟨_,R51 _ _,rfl⟩
   | false=>exact⟨_,rfl,rfl⟩
  refine H4 (wp_mono h7 (fun r60 h8=>?_))
  rw [h8]
  unfold G99 at hK
  refine Hu (fun h=>Rj (G12 (by rw [Mj]; omega) (by omega)) (hK _ ?_)) (fun h=>hK _ ?_)
  ·rw [h]; rfl
  ·rw [h]; rfl
 have h5:((G01 s af lf bay false).map (H16 s)).foldl G99 (((G01 s bf lf bay false).map (H16 s)).foldl G99 [])=Hc8 s bf af lf bay:=by
  unfold Hc8
  rw [List.map_append,List.foldl_append]
 have h9:∀ x∈G01 s bf lf bay false,Hd3 s x.Slot:=fun x hx=>hb x (Gfb.1 hx).1
 have a0:∀ x∈G01 s af lf bay false,Hd3 s x.Slot:=fun x hx=>ha x (Gfb.1 hx).1
 have lb':(G01 s bf lf bay false).length≤12:=Nat.le_trans H34 lb
 have la':(G01 s af lf bay false).length≤12:=Nat.le_trans H34 la
 rw [each]
 refine Gt (J7c hF hb lb) (one _ _ _ _ h9 lb' (by simp) ?_)
 rw [each]
 refine Gt (J7c hF ha la) (one _ _ _ _ a0 la' ?_ ?_)
 ·have:=J62 ((G01 s bf lf bay false).map (H16 s)) []
  rw [Mn] at this
  simp only [List.length_nil] at this
  omega
 ·rw [each,h5]
  unfold G80
  rw [Yf5 (c:=J63) (fun a b=>Jf5 a b) (by omega) (by have:=Q5d (s:=s) (bf:=bf) (af:=af) (lf:=lf) (bay:=bay); have:=hs.covs; omega)]
  exact Gn rfl
def mvS (kind:Int) (x:G1):Move:=Move.mk kind x.Box x.Slot 0
def mvC (kind:Int) (k:Int):Move:=Move.mk kind 0 (Slot.mk 0 0 0) k
theorem R7f (kind:Int) (l:List G1) (p:List Move) (hl:l.length≤12) (hp:p.length≤100000):G0f kind l p=some (p++l.map (mvS kind)):=by
 refine G60 ?_
 unfold G0f
 refine Jo (fun pre st=>st=p++pre.map (mvS kind)) (by simp) (fun pre x post st nx e h0 h1=>?_) (fun st h0=>Gn h0)
 subst h0
 have hq:pre.length≤12:=by rw [e] at hl; simp at hl; omega
 refine Rj (G12 (by rw [Mj,Mi,Mn]; omega) (by omega)) (h1 _ ?_)
 rw [List.map_append,List.append_assoc]; rfl
theorem Z1d (kind:Int) (l:List Int) (p:List Move) (hl:l.length≤12) (hp:p.length≤100000):G72 kind l p=some (p++l.map (mvC kind)):=by
 refine G60 ?_
 unfold G72
 refine Jo (fun pre st=>st=p++pre.map (mvC kind)) (by simp) (fun pre x post st nx e h0 h1=>?_) (fun st h0=>Gn h0)
 subst h0
 have hq:pre.length≤12:=by rw [e] at hl; simp at hl; omega
 refine Rj (G12 (by rw [Mj,Mi,Mn]; omega) (by omega)) (h1 _ ?_)
 rw [List.map_append,List.append_assoc]; rfl
def J58 (s:Gj) (bf af:List G1) (lf:List Int) (bay:Int):List Move:=
 (H6c J95 (G01 s bf lf bay true)).map (mvS 2)++(G9d s bf af lf bay).map (mvC 1)++(H6c J95 (G01 s bf lf bay false)).map (mvS 2)
def Q67 (s:Gj) (bf af:List G1) (lf:List Int) (bay:Int):List Move:=
 (G01 s af lf bay false).map (mvS 3)++(G9d s bf af lf bay).map (mvC 4)++(G01 s af lf bay true).map (mvS 3)
def outs (s:Gj) (bf af:List G1) (lf:List Int) (n:Nat):List Move:=(List.range n).flatMap (fun b:Nat=>J58 s bf af lf (b:Int))
def ins (s:Gj) (bf af:List G1) (lf:List Int) (n:Nat):List Move:=(List.range n).flatMap (fun b:Nat=>Q67 s bf af lf (b:Int))
def Hf6 (s:Gj) (bf af:List G1) (lf:List Int):List Move:=outs s bf af lf 40++ins s bf af lf 40
theorem Q21 {s:Gj} {bf af:List G1} {lf:List Int} (n:Nat):outs s bf af lf (n+1)=outs s bf af lf n++J58 s bf af lf (n:Int):=by
 unfold outs
 rw [List.range_succ,List.flatMap_append]; simp
theorem Qde {s:Gj} {bf af:List G1} {lf:List Int} (n:Nat):ins s bf af lf (n+1)=ins s bf af lf n++Q67 s bf af lf (n:Int):=by
 unfold ins
 rw [List.range_succ,List.flatMap_append]; simp
section
variable {s:Gj} {bf af:List G1} {lf:List Int}
theorem Y55 (hs:H7d s) (lb:bf.length≤12) {bay:Int}:(J58 s bf af lf bay).length≤40:=by
 have h1:=H34 (s:=s) (l:=bf) (lf:=lf) (bay:=bay) (deck:=true)
 have h2:=H34 (s:=s) (l:=bf) (lf:=lf) (bay:=bay) (deck:=false)
 have h3:=J5a (s:=s) (bf:=bf) (af:=af) (lf:=lf) (bay:=bay)
 have h4:=hs.covs
 unfold J58
 simp only [Mi,Mn,Gab]
 omega
theorem Yca (hs:H7d s) (la:af.length≤12) {bay:Int}:(Q67 s bf af lf bay).length≤40:=by
 have h1:=H34 (s:=s) (l:=af) (lf:=lf) (bay:=bay) (deck:=true)
 have h2:=H34 (s:=s) (l:=af) (lf:=lf) (bay:=bay) (deck:=false)
 have h3:=J5a (s:=s) (bf:=bf) (af:=af) (lf:=lf) (bay:=bay)
 have h4:=hs.covs
 unfold Q67
 simp only [Mi,Mn]
 omega
theorem Je8 (hs:H7d s) (lb:bf.length≤12):∀ n:Nat,(outs s bf af lf n).length≤40*n
 | 0=>by simp [outs]
 | n+1=>by
  have h1:=Je8 hs lb n
  have h2:=Y55 (af:=af) (lf:=lf) hs lb (bay:=(n:Int))
  rw [Q21,Mi]; omega
theorem R74 (hs:H7d s) (la:af.length≤12):∀ n:Nat,(ins s bf af lf n).length≤40*n
 | 0=>by simp [ins]
 | n+1=>by
  have h1:=R74 hs la n
  have h2:=Yca (bf:=bf) (lf:=lf) hs la (bay:=(n:Int))
  rw [Qde,Mi]; omega
theorem Z68 {F:Nat} (hF:60≤F) (hs:H7d s) (hb:∀ x∈bf,Hd3 s x.Slot) (ha:∀ x∈af,Hd3 s x.Slot) (lb:bf.length≤12) (la:af.length≤12) :
  H1e F s bf af lf=some (Hf6 s bf af lf):=by
 refine G60 ?_
 unfold H1e
 have pl:∀ {l:List G1} {bay:Int} {deck:Bool},l.length≤12→(G01 s l lf bay deck).length≤12:=fun h=>Nat.le_trans H34 h
 have nl:∀ {bay:Int},(G9d s bf af lf bay).length≤12:=Nat.le_trans J5a (by have:=hs.covs; omega)
 refine Rj rfl (J04 (fun i st=>st=outs s bf af lf i) (by simp [outs]) (fun i st nx hi h0 h1=>?_) (fun st h0=>Rj rfl (J04 (fun i st=>st=outs s bf af lf 40++ins s bf af lf i) (by rw [h0]; simp [ins]) (fun i st nx hi h0 h1=>?_) (fun st h0=>Gn h0))))
 ·subst h0
  have h2:=Je8 (af:=af) (lf:=lf) hs lb i
  have h3:i < 40:=hi
  refine Gt (J7c hF hb lb) (Gt (Rf3 hF (pl lb)) (Gt (R7f _ _ _ (by rw [Gab]; exact pl lb) (by omega)) ?_))
  refine Gt (R3d hF hs hb ha lb la) (Gt (Z1d _ _ _ nl ?_) ?_)
  ·rw [Mi,Mn,Gab]; have:=pl lb (bay:=(i:Int)) (deck:=true); omega
  refine Gt (J7c hF hb lb) (Gt (Rf3 hF (pl lb)) (Gt (R7f _ _ _ (by rw [Gab]; exact pl lb) ?_) (h1 _ ?_)))
  ·rw [Mi,Mi,Mn,Mn,Gab]; have:=pl lb (bay:=(i:Int)) (deck:=true); have:=nl (bay:=(i:Int)); omega
  ·rw [Q21]
   unfold J58
   simp only [List.append_assoc]
 ·subst h0
  have h2:=Je8 (af:=af) (lf:=lf) hs lb 40
  have h5:=R74 (bf:=bf) (lf:=lf) hs la i
  have h3:i < 40:=hi
  have h4:(outs s bf af lf 40++ins s bf af lf i).length≤5000:=by rw [Mi]; omega
  generalize hg:outs s bf af lf 40++ins s bf af lf i=g at h4 h1 ⊢
  refine Gt (J7c hF ha la) (Gt (R7f _ _ _ (pl la) (by omega)) ?_)
  refine Gt (R3d hF hs hb ha lb la) (Gt (Z1d _ _ _ nl ?_) ?_)
  ·rw [Mi,Mn]; have:=pl la (bay:=(i:Int)) (deck:=false); omega
  refine Gt (J7c hF ha la) (Gt (R7f _ _ _ (pl la) ?_) (h1 _ ?_))
  ·rw [Mi,Mi,Mn,Mn]; have:=pl la (bay:=(i:Int)) (deck:=false); have:=nl (bay:=(i:Int)); omega
  ·rw [Qde,← List.append_assoc (outs s bf af lf 40),hg]
   unfold Q67
   simp only [List.append_assoc]
theorem Yd8 (hs:H7d s) (lb:bf.length≤12) (la:af.length≤12):(Hf6 s bf af lf).length≤4000:=by
 have h1:=Je8 (af:=af) (lf:=lf) hs lb 40
 have h2:=R74 (bf:=bf) (lf:=lf) hs la 40
 unfold Hf6
 rw [Mi]; omega
end
set_option linter.unusedVariables false
section
variable {κ ν:Type} [DecidableEq κ]
theorem Z06 {l:List (κ×ν)} (hn:(l.map (·.1)).Nodup) {a:κ} {v:ν}:G3f l a=some v ↔ (a,v)∈l:=by
 constructor
 ·intro h
  unfold G3f at h
  obtain⟨p,hp,rfl⟩:=Option.map_eq_some_iff.1 h
  have h1:=List.mem_of_find?_eq_some hp
  have h2:p.1=a:=by simpa using List.find?_some hp
  subst h2
  exact h1
 ·intro h
  obtain⟨j,hj⟩:=List.mem_iff_getElem?.1 h
  exact(J1f hn hj).1
theorem R5f (m:Gw κ ν) {a:κ} {v:ν}:G3f (Gw.Hd m) a=some v ↔ (a,v)∈Gw.Hd m:=Z06 m.nd
theorem Yef (m:Gw κ ν) {a:κ}:Gw.has m a=true ↔ ∃ v,(a,v)∈Gw.Hd m:=by
 unfold Gw.has
 rw [Qd3,Mp]
 exact⟨fun⟨p,hp,e⟩=>⟨p.2,by subst e; exact hp⟩,fun⟨v,hv⟩=>⟨(a,v),hv,rfl⟩⟩
theorem J45 (m:Gw κ ν) {a:κ} {v z:ν} (h:(a,v)∈Gw.Hd m):Gw.get m a z=v:=by
 unfold Gw.get
 rw [(R5f m).2 h]; rfl
theorem Y7e (m:Gw κ ν) {a:κ} {z:ν} (h:∀ v,(a,v) ∉ Gw.Hd m):Gw.get m a z=z:=by
 unfold Gw.get
 cases hq:G3f (Gw.Hd m) a with
 | none=>rfl
 | some v=>exact(h v ((R5f m).1 hq)).elim
theorem Q8d (m:Gw κ ν) {a b:κ} {v w:ν}:(b,w)∈Gw.Hd (Gw.put m a v) ↔ (b=a∧w=v)∨(b≠a∧(b,w)∈Gw.Hd m):=by
 rw [← R5f]
 have e:Gw.Hd (Gw.put m a v)=H06 (Gw.Hd m) a v:=R29 m.l a v
 rw [e,Heb]
 by_cases h:a=b
 ·subst h
  rw [if_pos rfl]
  constructor
  ·intro h; cases h; exact .inl ⟨rfl,rfl⟩
  ·rintro(⟨_,rfl⟩ | ⟨h,_⟩)
   ·rfl
   ·exact(h rfl).elim
 ·rw [if_neg h,R5f]
  exact⟨fun g=>.inr ⟨fun e=>h e.symm,g⟩,fun g=>g.elim (fun g=>(h g.1.symm).elim) (·.2)⟩
theorem Y0a (m:Gw κ ν) {a b:κ} {w:ν}:(b,w)∈Gw.Hd (Gw.del m a) ↔ b≠a∧(b,w)∈Gw.Hd m:=by
 have e:Gw.Hd (Gw.del m a)=(Gw.Hd m).filter (fun p=>decide (p.1≠a)):=R2e m.l a
 rw [e,Ms,Mm]
 exact⟨fun h=>⟨h.2,h.1⟩,fun h=>⟨h.2,h.1⟩⟩
omit [DecidableEq κ] in
theorem Q8e {a:κ} {v:ν}:(a,v) ∉ Gw.Hd (Gw.empty:Gw κ ν):=fun h=>by cases h
end
structure St where
 l:List G1
 o:List Int
 a:List Int
structure Good (s:Gj) (boxes:List Box) (t:St):Prop where
 ship:Ja8 s
 right:Re s boxes t.l
 opn:Ga0 s t.o
 free:∀ k∈t.o,Q70 s t.l k
 box:∀ i∈t.a,∃ b,Qj boxes i=some b∧(b.Size=20∨b.Size=40)
 asc:t.a.Pairwise (· < ·)
 disj:∀ i∈t.a,i ∉ t.l.map (·.Box)
 num:t.l.length+t.a.length≤10
structure H72 (s:Gj) (boxes:List Box) (m:Ge) (t:St):Prop where
 cols:m.ship.Columns=s.Columns
 covs:m.ship.Covers=s.Covers
 on:∀ x b,(x,b)∈Gw.Hd m.on ↔ (⟨b.ID,x⟩:G1)∈t.l∧Qj boxes b.ID=some b
 quay:∀ i b,(i,b)∈Gw.Hd m.quay ↔ i∈t.a∧Qj boxes i=some b
 opn:∀ k v,(k,v)∈Gw.Hd m.open_ ↔ k∈t.o∧v=1
theorem G9e {boxes:List Box} {i:Int} {b:Box} (h:Qj boxes i=some b):b.ID=i:=M2 (List.find?_some (p:=fun b:Box=>decide (b.ID=i)) h)
theorem Good.sta {s:Gj} {boxes:List Box} {t:St} (h:Good s boxes t):Sta s boxes t.l:=⟨h.ship,h.right,by have:=h.num; omega⟩
theorem J59 {l:List G1} (h:l.Pairwise (fun a b=>a.Box < b.Box)):(l.map (·.Box)).Nodup:=Yk (List.pairwise_map.2 h)
theorem Jbf {l:List G1} (h:l.Pairwise (fun a b=>a.Box < b.Box)):l.Nodup:=h.imp (fun {a b} h0 e=>by subst e; omega)
section
variable {s:Gj} {boxes:List Box} {m:Ge} {t:St}
theorem Q86 (hG:Good s boxes t) (hR:H72 s boxes m t):(onB m).Perm t.l:=by
 refine(List.perm_ext_iff_of_nodup ?_ (Jbf hG.right.sorted)).2 fun x=>?_
 ·have h:((Gw.Hd m.on).map (·.1)).Nodup:=m.on.nd
  unfold onB
  refine List.pairwise_map.2 ((List.pairwise_map.1 h).imp fun {p q} h0 e=>h0 ?_)
  exact congrArg G1.Slot e
 ·unfold onB
  rw [Mp]
  constructor
  ·rintro⟨⟨y,b⟩,hp,rfl⟩
   exact((hR.on y b).1 hp).1
  ·intro hx
   obtain⟨b,hb,_⟩:=hG.right.each x hx
   have e:=G9e hb
   refine⟨(x.Slot,b),(hR.on x.Slot b).2 ⟨by rw [e]; exact hx,by rw [e]; exact hb⟩,?_⟩
   show G1.mk b.ID x.Slot=x
   rw [e]
theorem Rc6 (hG:Good s boxes t) (hR:H72 s boxes m t):Ye m=some t.l:=by
 have hp:=Q86 hG hR
 have hl:t.l.length≤10:=by have:=hG.num; omega
 have h0:=hp.length_eq
 have hn:((onB m).map (·.Box)).Nodup:=(hp.map _).nodup_iff.2 (J59 hG.right.sorted)
 unfold Ye
 rw [M4 (show (onB m).length*32≤140737488355328∧(onB m).length≤maxLen∧((onB m).map (·.Box)).Nodup from ⟨by omega,by simp only [maxLen]; omega,hn⟩),Qd2]
 refine congrArg some (Qc0 ((J17 _).trans hp) (J59 hG.right.sorted) (J16 _) (hG.right.sorted.imp fun h=>by omega))
theorem Q50 {seq:List (Option Int)} {a:List Int} (hn:(seq.filterMap id).Nodup) (ha:a.Pairwise (· < ·)) (hl:a.length≤1000) (h:∀ i,i∈seq.filterMap id ↔ i∈a):Yr seq=some a:=by
 have hp:(seq.filterMap id).Perm a:=(List.perm_ext_iff_of_nodup hn (Yk ha)).2 h
 have h0:=hp.length_eq
 unfold Yr
 rw [M4 (show (seq.filterMap id).length*8≤140737488355328∧(seq.filterMap id).length≤maxLen from ⟨by omega,by simp only [maxLen]; omega⟩),Qd2,sorted_perm hp]
 unfold Ga7
 rw [M4 (show a.length < 4611686018427387904 by omega),cond_true]
 exact congrArg some (List.Perm.eq_of_pairwise (le:=fun a b:Int=>a≤b) (fun a b _ _ h1 h2=>by omega) (Gc1 a) (ha.imp fun h=>by omega) (Ga6 a))
theorem Y8b (hG:Good s boxes t) (hR:H72 s boxes m t):Ya m=some t.o:=by
 unfold Ya
 have hn:((Gw.Hd m.open_).map (·.1)).Nodup:=m.open_.nd
 have hl:=hG.opn.len
 have hc:=hG.ship.covs.len
 refine G60 (H4 (Gn (Gt (Q50 (a:=t.o) (by rw [Hef]; exact hn) hG.opn.sorted (by omega) (fun i=>?_)) (Gn rfl))))
 rw [Hef,Mp]
 constructor
 ·rintro⟨⟨j,v⟩,hp,rfl⟩
  exact((hR.opn j v).1 hp).1
 ·intro hi
  exact⟨(i,1),(hR.opn i 1).2 ⟨hi,rfl⟩,rfl⟩
theorem Zaa (hG:Good s boxes t) (hR:H72 s boxes m t) {is:Slot→Option Bool} {p:Slot→Bool} (h:∀ y∈t.l,is y.Slot=some (p y.Slot)):G07 m is=some (t.l.any fun y=>p y.Slot):=by
 have hp:=Q86 hG hR
 have h0:∀ q∈Gw.Hd m.on,is q.1=some (p q.1):=fun q hq=>h (Q19 q) (hp.mem_iff.1 (Mp.2 ⟨q,hq,rfl⟩))
 unfold G07
 have h1:(Gw.Hd m.on).all (fun p=>(is p.1).isSome)=true:=List.all_eq_true.2 fun q hq=>by rw [h0 q hq]; rfl
 rw [h1,cond_true,← Rf0 hp]
 refine congrArg some ?_
 unfold onB
 rw [List.any_map,Bool.eq_iff_iff,List.any_eq_true,List.any_eq_true]
 exact⟨fun⟨q,hq,e⟩=>⟨q,hq,by rw [h0 q hq] at e; exact e⟩,fun⟨q,hq,e⟩=>⟨q,hq,by rw [h0 q hq]; exact e⟩⟩
theorem G49 {c half:Int} (x:G1) (l:List G1):Y4 boxes (x::l) c half=Gf1 boxes c half 0 x+Y4 boxes l c half:=by
 unfold Y4
 rw [List.foldl_cons,Ha2]
theorem Q69 {c half:Int} {a b:List G1} (h:a.Perm b):Y4 boxes a c half=Y4 boxes b c half:=by
 induction h with
 | nil=>rfl
 | cons x _ ih=>rw [G49,G49,ih]
 | swap x y l=>rw [G49,G49,G49,G49]; omega
 | trans _ _ h1 h2=>exact h1.trans h2
theorem R4b {c half:Int}:∀ l:List G1,0≤Y4 boxes l c half∧Y4 boxes l c half≤2896*(l.length:Int)
 | []=>⟨Int.le_refl _,by show (0:Int)≤_; simp⟩
 | x::l=>by
  have ih:=R4b (c:=c) (half:=half) l
  have h:=Jf7 (boxes:=boxes) (column:=c) (half:=half) (n:=0) (x:=x)
  rw [G49,Me]
  omega
theorem Rc5 (b:Box):hgt b=H95 b:=by
 unfold hgt H95
 cases b.High <;> rfl
theorem Ya0 {c half:Int} {x:G1} {b:Box} (h:Qj boxes x.Box=some b):Gf1 boxes c half 0 x=if x.Slot.G3=c∧(x.Slot.Half=half∨x.Slot.Half=0) then H95 b else 0:=by
 unfold Gf1
 rw [h]
 split
 ·exact Int.zero_add _
 ·rfl
theorem Y98 {c half:Int}:∀ es:List (Slot×Box),(∀ p∈es,Qj boxes p.2.ID=some p.2)→J20 c half es=Y4 boxes (es.map Q19) c half
 | [],_=>rfl
 | p::r,h=>by
  rw [List.map_cons,G49,Ya0 (x:=Q19 p) (b:=p.2) (h p (by simp)),← Y98 r (fun q hq=>h q (List.mem_cons_of_mem _ hq)),J20]
  congr 1
  show _=if p.1.G3=c∧(p.1.Half=half∨p.1.Half=0) then H95 p.2 else 0
  unfold R76
  by_cases hc:p.1.G3=c∧(p.1.Half=half∨p.1.Half=0)
  ·rw [if_pos hc,← Rc5]
   have:(decide (p.1.G3=c)&&(decide (p.1.Half=0)||decide (p.1.Half=half)))=true:=by
    simp only [Mk,Mt,Mm]
    exact⟨hc.1,hc.2.symm⟩
   rw [this]; rfl
  ·rw [if_neg hc]
   have:(decide (p.1.G3=c)&&(decide (p.1.Half=0)||decide (p.1.Half=half)))=false:=by
    rw [← Bool.not_eq_true]
    simp only [Mk,Mt,Mm]
    exact fun g=>hc ⟨g.1,g.2.symm⟩
   rw [this]; rfl
theorem Y97 (hG:Good s boxes t) (hR:H72 s boxes m t) (x:Slot) (b:Box) (half:Int):G38 m x b half=some ((if x.Half=half∨x.Half=0 then H95 b else 0)+Y4 boxes t.l x.G3 half):=by
 have hp:=Q86 hG hR
 have e:J20 x.G3 half (Gw.Hd m.on)=Y4 boxes t.l x.G3 half:=by
  rw [Y98 (boxes:=boxes) _ (fun p hp=>((hR.on p.1 p.2).1 hp).2)]
  exact Q69 hp
 have e2:(bif (decide (x.Half=0)||decide (x.Half=half)) then hgt b else 0)=(if x.Half=half∨x.Half=0 then H95 b else 0):=by
  by_cases hc:x.Half=half∨x.Half=0
  ·rw [if_pos hc,← Rc5]
   have:(decide (x.Half=0)||decide (x.Half=half))=true:=by
    simp only [Mt,Mm]; exact hc.symm
   rw [this]; rfl
  ·rw [if_neg hc]
   have:(decide (x.Half=0)||decide (x.Half=half))=false:=by
    rw [← Bool.not_eq_true]
    simp only [Mt,Mm]; exact fun g=>hc g.symm
   rw [this]; rfl
 have hb:=(R4b (boxes:=boxes) (c:=x.G3) (half:=half) t.l).2
 have hl:t.l.length≤10:=by have:=hG.num; omega
 unfold G38
 rw [e,e2]
 have ht:H95 b≤2896:=by unfold H95; split <;> omega
 rw [M4 (show (if x.Half=half∨x.Half=0 then H95 b else 0)+Y4 boxes t.l x.G3 half≤9223372036854775807 by split <;> omega),cond_true]
theorem R33 (hG:Good s boxes t) (hR:H72 s boxes m t) {i:Nat} {c:G3} (hc:s.Columns[i]? = some c):Rh m.ship (i:Int)=some (Jy s c):=by
 have hs:=J80 hG.ship
 have e:=H0f (s:=m.ship) (c:=c) (m:=i) (by rw [hR.cols]; exact hc) (fun x hx=>by rw [hR.covs] at hx; have:=hs.rows x hx; omega) (by rw [hR.covs]; have:=hs.covs; omega)
 unfold Jy at e ⊢
 rw [hR.covs] at e
 exact e
theorem R69 (hR:H72 s boxes m t) (k:Int):decide (0 < Gw.get m.open_ k 0)=decide (k∈t.o):=by
 by_cases h:k∈t.o
 ·rw [J45 m.open_ ((hR.opn k 1).2 ⟨h,rfl⟩),M4 h]; rfl
 ·rw [Y7e m.open_ (fun v hv=>h ((hR.opn k v).1 hv).1),M5 h]; rfl
theorem Rcc (hG:Good s boxes t) (hR:H72 s boxes m t) {x:Slot} {i:Nat} {c:G3} (hx:x.G3=(i:Int)) (hc:s.Columns[i]? = some c):Wp (G6d m x) (fun r=>r=true ↔ J33 s t.o x):=by
 have h0:J33 s t.o x ↔ (0≤Jy s c∧(c.Deck=true ↔ Jy s c∈t.o)):=by
  constructor
  ·rintro⟨m',c',e1,e2,e3⟩
   have:m'=i:=by omega
   subst this
   rw [hc] at e2; cases e2
   exact e3
  ·exact fun e=>⟨i,c,hx,hc,e⟩
 unfold G6d
 rw [hx]
 refine Gt (R33 hG hR hc) ?_
 by_cases hk:0≤Jy s c
 ·rw [M4 hk]
  simp only [cond_true,Bool.true_and]
  refine H4 (Gn (H4 (Yh rfl (show m.ship.Columns[i]? = some c by rw [hR.cols]; exact hc) (Gn (Gn ?_)))))
  rw [R69 hR,h0,beq_iff_eq,Bool.eq_iff_iff,Mm]
  exact⟨fun h=>⟨hk,h.symm⟩,fun h=>h.2.symm⟩
 ·rw [M5 hk]
  refine H4 (Gn (H4 (Gn (Gn (Hdc fun hh=>hk (h0.1 hh).1)))))
end
def H14 (k:Int) (l:List Int):List Int:=l.filter (fun z=>decide (z < k))++k::l.filter (fun z=>decide (k < z))
def H6d (k:Int) (l:List Int):List Int:=l.filter (fun z=>decide (z≠k))
def H26 (y:G1) (l:List G1):List G1:=l.filter (fun z=>decide (z.Box < y.Box))++y::l.filter (fun z=>decide (y.Box < z.Box))
def H27 (k:Int) (l:List G1):List G1:=l.filter (fun z=>decide (z.Box≠k))
theorem G25 {k:Int} {l:List Int} {i:Int}:i∈H6d k l ↔ i∈l∧i≠k:=by unfold H6d; rw [Ms,Mm]
theorem G24 {k:Int} {l:List Int} {i:Int}:i∈H14 k l ↔ i=k∨i∈l:=by
 unfold H14
 rw [Mo,Mr,Ms,Ms,Mm,Mm]
 constructor
 ·rintro(h | h | h)
  ·exact .inr h.1
  ·exact .inl h
  ·exact .inr h.1
 ·rintro(h | h)
  ·exact .inr (.inl h)
  ·rcases Int.lt_trichotomy i k with g | g | g
   ·exact .inl ⟨h,g⟩
   ·exact .inr (.inl g)
   ·exact .inr (.inr ⟨h,g⟩)
theorem Hf0 {k:Int} {l:List Int} (h:l.Pairwise (· < ·)):(H14 k l).Pairwise (· < ·):=by
 unfold H14
 refine List.pairwise_append.2 ⟨h.filter _,List.pairwise_cons.2 ⟨fun a ha=>M2 (Ms.1 ha).2,h.filter _⟩,fun a ha b hb=>?_⟩
 have h1:=M2 (Ms.1 ha).2
 rcases Mr.1 hb with rfl | hb
 ·exact h1
 ·have h2:=M2 (Ms.1 hb).2
  omega
theorem Hf3 {k:Int} {l:List Int} (h:l.Pairwise (· < ·)):(H6d k l).Pairwise (· < ·):=h.filter _
theorem Re2 {k:Int} {l:List Int} (h:l.Pairwise (· < ·)) (hk:k ∉ l):(H14 k l).length=l.length+1:=by
 have hp:(H14 k l).Perm (k::l):=(List.perm_ext_iff_of_nodup (Yk (Hf0 h)) (List.nodup_cons.2 ⟨hk,Yk h⟩)).2 fun i=>by rw [G24,Mr]
 rw [hp.length_eq,Me]
theorem Qdf {k:Int} {l:List Int} (h:l.Pairwise (· < ·)) (hk:k∈l):H14 k (H6d k l)=l:=
 G7e (Hf0 (Hf3 h)) h fun i=>by
  rw [G24,G25]
  constructor
  ·rintro(e | e)
   ·exact e ▸ hk
   ·exact e.1
  ·intro g
   by_cases e:i=k
   ·exact .inl e
   ·exact .inr ⟨g,e⟩
theorem Z14 {k:Int} {l:List Int} (h:l.Pairwise (· < ·)) (hk:k∈l):(H6d k l).length+1=l.length:=by
 have:=Re2 (k:=k) (Hf3 (k:=k) h) (fun g=>(G25.1 g).2 rfl)
 rw [Qdf h hk] at this
 omega
theorem Jeb {k:Int} {l:List G1} {y:G1}:y∈H27 k l ↔ y∈l∧y.Box≠k:=by unfold H27; rw [Ms,Mm]
theorem Yf4 {l:List G1} (hs:l.Pairwise (fun a b=>a.Box < b.Box)) {k:Int} (hk:k ∉ l.map (·.Box)):l=l.filter (fun z=>decide (z.Box < k))++l.filter (fun z=>decide (k < z.Box)):=by
 have e:l.filter (fun z=>decide (k < z.Box))=l.filter (fun z=>!decide (z.Box < k)):=List.filter_congr fun z hz=>by
  have:z.Box≠k:=fun e=>hk (Mp.2 ⟨z,hz,e⟩)
  by_cases h:z.Box < k
  ·rw [M4 h,M5 (by omega)]; rfl
  ·rw [M5 h,M4 (by omega)]; rfl
 refine Gfe ?_ hs ?_
 ·rw [e]; exact(List.filter_append_perm _ _).symm
 ·refine List.pairwise_append.2 ⟨hs.filter _,hs.filter _,fun a ha b hb=>?_⟩
  have h1:=M2 (Ms.1 ha).2
  have h2:=M2 (Ms.1 hb).2
  omega
theorem H4c {l:List G1} (hs:l.Pairwise (fun a b=>a.Box < b.Box)) {y:G1} (hk:y.Box ∉ l.map (·.Box)):Ja9 l y (H26 y l):=by
 refine⟨_,_,Yf4 hs hk,rfl,fun z hz=>M2 (Ms.1 hz).2,fun z hz=>?_⟩
 have:=M2 (Ms.1 (List.mem_of_mem_head? (Option.mem_def.2 hz))).2
 omega
theorem J89 {pre post:List G1} {y:G1} (hs:(pre++y::post).Pairwise (fun a b=>a.Box < b.Box)):H27 y.Box (pre++y::post)=pre++post:=by
 obtain⟨s1,s2,s3⟩:=List.pairwise_append.1 hs
 unfold H27
 rw [List.filter_append,List.filter_cons_of_neg (by simp)]
 congr 1
 ·refine List.filter_eq_self.2 fun z hz=>M4 ?_
  have:=s3 z hz y (List.mem_cons_self ..)
  omega
 ·refine List.filter_eq_self.2 fun z hz=>M4 ?_
  have:=(List.pairwise_cons.1 s2).1 z hz
  omega
theorem Y90 {l:List G1} (hs:l.Pairwise (fun a b=>a.Box < b.Box)) (k:Int):k ∉ (H27 k l).map (·.Box):=fun h=>by
 obtain⟨z,hz,e⟩:=Mp.1 h
 exact(Jeb.1 hz).2 e
def Q0a (s:Gj) (t:St) (x:Move):Prop:=x.Box=0∧x.Slot=⟨0,0,0⟩∧0≤x.G9∧x.G9 < (s.Covers.length:Int)∧x.G9 ∉ t.o∧Q70 s t.l x.G9
def Q09 (s:Gj) (t:St) (x:Move):Prop:=x.Box=0∧x.Slot=⟨0,0,0⟩∧0≤x.G9∧x.G9 < (s.Covers.length:Int)∧x.G9∈t.o
def R10 (s:Gj) (t:St) (x:Move):Prop:=x.G9=0∧(⟨x.Box,x.Slot⟩:G1)∈t.l∧H5a t.l x.Slot=[]∧¬ Jc8 s t.o x.Slot
def Rfc (s:Gj) (boxes:List Box) (t:St) (x:Move):Prop:=x.G9=0∧x.Box∈t.a∧∃ b,Qj boxes x.Box=some b∧G9a s x.Slot b.Size∧¬ J33 s t.o x.Slot∧¬ Rf6 t.l x.Slot∧H78 x.Slot (t.l.map (·.Slot))∧Rf9 s boxes (H26 ⟨x.Box,x.Slot⟩ t.l) x.Slot
def Can (s:Gj) (boxes:List Box) (t:St) (x:Move):Prop:=(x.Kind=1∧Q0a s t x)∨(x.Kind=4∧Q09 s t x)∨(x.Kind=2∧R10 s t x)∨(x.Kind=3∧Rfc s boxes t x)
def nxt (t:St) (x:Move):St:=
 if x.Kind=1 then ⟨t.l,H14 x.G9 t.o,t.a⟩ else if x.Kind=4 then ⟨t.l,H6d x.G9 t.o,t.a⟩
 else if x.Kind=2 then ⟨H27 x.Box t.l,t.o,H14 x.Box t.a⟩ else ⟨H26 ⟨x.Box,x.Slot⟩ t.l,t.o,H6d x.Box t.a⟩
def G3e (x:Move):Int:=if x.Kind=2∨x.Kind=3 then 1 else 0
section
variable {s:Gj} {boxes:List Box} {t:St} {x:Move}
theorem Rd6 (h:x.Kind=1):nxt t x=⟨t.l,H14 x.G9 t.o,t.a⟩:=by unfold nxt; rw [if_pos h]
theorem Rd3 (h:x.Kind=4):nxt t x=⟨t.l,H6d x.G9 t.o,t.a⟩:=by unfold nxt; rw [if_neg (by omega),if_pos h]
theorem Rd5 (h:x.Kind=2):nxt t x=⟨H27 x.Box t.l,t.o,H14 x.Box t.a⟩:=by unfold nxt; rw [if_neg (by omega),if_neg (by omega),if_pos h]
theorem Rd4 (h:x.Kind=3):nxt t x=⟨H26 ⟨x.Box,x.Slot⟩ t.l,t.o,H6d x.Box t.a⟩:=by unfold nxt; rw [if_neg (by omega),if_neg (by omega),if_neg (by omega)]
theorem Yaf {l l':List G1} {k:Int} (h:Q70 s l k) (hs:∀ y∈l',y∈l):Q70 s l' k:=fun y hy=>h y (hs y hy)
theorem Can.step (hG:Good s boxes t) (h:Can s boxes t x):Good s boxes (nxt t x):=by
 have h9:=hG.right.sorted
 rcases h with ⟨hk,h1,h2,h3,h4,h5,h6⟩ | ⟨hk,h1,h2,h3,h4,h5⟩ | ⟨hk,h1,h2,h3,h4⟩ | ⟨hk,h1,h2,b,h3,h4,h5,h6,h7,h8⟩
 ·rw [Rd6 hk]
  refine⟨hG.ship,hG.right,⟨fun k h0=>?_,Hf0 hG.opn.sorted⟩,fun k h0=>?_,hG.box,hG.asc,hG.disj,hG.num⟩
  ·rcases G24.1 h0 with rfl | h0
   ·exact⟨h3,h4⟩
   ·exact hG.opn.mem k h0
  ·rcases G24.1 h0 with rfl | h0
   ·exact h6
   ·exact hG.free k h0
 ·rw [Rd3 hk]
  exact⟨hG.ship,hG.right,⟨fun k h0=>hG.opn.mem k (G25.1 h0).1,Hf3 hG.opn.sorted⟩,fun k h0=>hG.free k (G25.1 h0).1,hG.box,hG.asc,hG.disj,hG.num⟩
 ·rw [Rd5 hk]
  have a0:x.Box ∉ t.a:=fun h=>hG.disj _ h (Mp.2 ⟨_,h2,rfl⟩)
  obtain⟨pre,post,e⟩:=List.append_of_mem h2
  have hd:H27 x.Box t.l=pre++post:=by rw [e] at h9 ⊢; exact J89 h9
  have hr:Re s boxes (H27 x.Box t.l):=by rw [hd]; exact Qca (by rw [← e]; exact hG.right) (by rw [← e]; exact h3)
  have a1:∀ y∈H27 x.Box t.l,y∈t.l:=fun y hy=>(Jeb.1 hy).1
  refine⟨hG.ship,hr,hG.opn,fun k h0=>Yaf (hG.free k h0) a1,fun i hi=>?_,Hf0 hG.asc,fun i hi hm=>?_,?_⟩
  ·rcases G24.1 hi with rfl | hi
   ·obtain⟨b,g1,g2,_⟩:=hG.right.each _ h2
    exact⟨b,g1,Y82 g2⟩
   ·exact hG.box i hi
  ·rcases G24.1 hi with rfl | hi
   ·exact Y90 h9 _ hm
   ·obtain⟨z,hz,ez⟩:=Mp.1 hm
    exact hG.disj i hi (Mp.2 ⟨z,a1 z hz,ez⟩)
  ·have hn:=hG.num
   show (H27 x.Box t.l).length+(H14 x.Box t.a).length≤_
   rw [Re2 hG.asc a0,hd]
   rw [e] at hn
   simp only [Mi,Me] at hn ⊢
   omega
 ·rw [Rd4 hk]
  have a0:x.Box ∉ t.l.map (·.Box):=hG.disj _ h2
  have a2:=H4c h9 (y:=⟨x.Box,x.Slot⟩) a0
  have hp:=G37 a2
  have hr:=Q1e hG.right h3 h4 h6 h7 a2 a0 h8
  have a3:∀ y,y∈H26 ⟨x.Box,x.Slot⟩ t.l ↔ y=⟨x.Box,x.Slot⟩∨y∈t.l:=fun y=>by rw [hp.mem_iff,Mr]
  refine⟨hG.ship,hr,hG.opn,fun k h0 y hy m c hm hc hd he=>?_,fun i hi=>hG.box i (G25.1 hi).1,Hf3 hG.asc,fun i hi hm=>?_,?_⟩
  ·rcases (a3 y).1 hy with rfl | hy
   ·refine h5 ⟨m,c,hm,hc,?_,⟨fun _=>by rw [he]; exact h0,fun _=>hd⟩⟩
    have:=(hG.opn.mem k h0).1
    omega
   ·exact hG.free k h0 y hy m c hm hc hd he
  ·obtain⟨z,hz,ez⟩:=Mp.1 hm
   rcases (a3 z).1 hz with rfl | hz
   ·exact(G25.1 hi).2 ez.symm
   ·exact hG.disj i (G25.1 hi).1 (Mp.2 ⟨z,hz,ez⟩)
  ·have hn:=hG.num
   have:=Z14 hG.asc h2
   show (H26 ⟨x.Box,x.Slot⟩ t.l).length+(H6d x.Box t.a).length≤_
   rw [hp.length_eq,Me]
   omega
end
theorem Z9 {v:Option Bool} {P:Prop} {e:Int} {rest:List (Option Bool×Int)} {Q:Int→Prop} (hv:Wp v (fun r=>r=true ↔ P)) (h1:P→Wp (H4e rest) Q) (h2:¬ P→Q e):Wp (H4e ((v,e)::rest)) Q:=by
 obtain⟨r,rfl,hr⟩:=hv
 cases r with
 | true=>exact h1 (hr.1 rfl)
 | false=>exact⟨e,rfl,h2 (fun hp=>by have:=hr.2 hp; cases this)⟩
theorem J06 {Q:Int→Prop} (h:Q 0):Wp (H4e []) Q:=⟨0,rfl,h⟩
def Rfb (s:Gj) (boxes:List Box) (m:Ge) (t:St) (x:Move) (r:Int×Ge):Prop:=
 (Can s boxes t x∧r.1=0∧H72 s boxes r.2 (nxt t x)∧r.2.lifts=m.lifts+G3e x)∨(¬ Can s boxes t x∧r.1≠0∧r.2=m)
section
variable {s:Gj} {boxes:List Box} {m:Ge} {t:St} {x:Move}
open Classical in
theorem Qf3 (hG:Good s boxes t) (hR:H72 s boxes m t) {is:Slot→Option Bool} {P:Slot→Prop} (h:∀ y∈t.l,Wp (is y.Slot) (fun r=>r=true ↔ P y.Slot)):Wp (G07 m is) (fun r=>r=true ↔ ∃ y∈t.l,P y.Slot):=by
 refine⟨_,Zaa hG hR (p:=fun y=>decide (P y)) (fun y hy=>Z96 (h y hy)),?_⟩
 show (t.l.any _=true) ↔ _
 rw [List.any_eq_true]
 exact⟨fun⟨y,hy,e⟩=>⟨y,hy,M2 e⟩,fun⟨y,hy,e⟩=>⟨y,hy,M4 e⟩⟩
theorem R7e {s:Gj} {z:Int} {i j:Nat} {c d:G3} (h1:z=(i:Int)) (h2:z=(j:Int)) (hc:s.Columns[i]? = some c) (hd:s.Columns[j]? = some d):d=c:=by
 have:j=i:=by omega
 subst this
 rw [hc] at hd
 cases hd; rfl
theorem R28 (hG:Good s boxes t) (hR:H72 s boxes m t) (b:Bool) (y:Move):Wp (G15 b m y) (fun r=>r=true ↔ (b=true→Q70 s t.l y.G9)):=by
 unfold G15
 cases b with
 | false=>exact H4 (Gn (Gn ⟨fun _ h=>(by cases h),fun _=>rfl⟩))
 | true=>
  simp only [Bool.not_true,Bool.not_false,cond_true]
  refine H4 (wp_mono (Qf3 hG hR (P:=fun z=>∃ (i:Nat) (c:G3),z.G3=(i:Int)∧s.Columns[i]? = some c∧c.Deck=true∧Jy s c=y.G9) (fun z hz=>?_)) (fun r hr=>Gn ?_))
  ·obtain⟨i,c,hi,hc⟩:=hG.sta.colIn hz
   have h0:(∃ (i:Nat) (c:G3),z.Slot.G3=(i:Int)∧s.Columns[i]? = some c∧c.Deck=true∧Jy s c=y.G9) ↔ (c.Deck=true∧Jy s c=y.G9):=by
    constructor
    ·rintro⟨j,d,h1,h2,h3⟩
     have:=R7e hi h1 hc h2
     subst this
     exact h3
    ·exact fun h=>⟨i,c,hi,hc,h⟩
   unfold G27
   rw [hi] at h0 ⊢
   refine Yh rfl (show m.ship.Columns[i]? = some c by rw [hR.cols]; exact hc) ?_
   rw [h0]
   cases hd:c.Deck with
   | false=>exact H4 (Gn (Gn ⟨fun h=>(by cases h),fun h=>(by cases h.1)⟩))
   | true=>exact Gt (R33 hG hR hc) (Gn ⟨fun h=>⟨rfl,M2 h⟩,fun h=>M4 h.2⟩)
  ·show ((false||!r)=true) ↔ _
   rw [Bool.false_or,Bool.not_eq_true',← Bool.not_eq_true,hr]
   constructor
   ·exact fun h _ z hz i c h1 h2 h3 h4=>h ⟨z,hz,i,c,h1,h2,h3,h4⟩
   ·rintro h ⟨z,hz,i,c,h1,h2,h3,h4⟩
    exact h trivial z hz i c h1 h2 h3 h4
theorem Qda (hR:H72 s boxes m t):Wp (Z8 ((((decide (x.Box=0))&&(decide (x.Slot=(Slot.mk 0 0 0))))&&(decide (0≤x.G9)))&&(decide (x.G9 < (m.ship.Covers.length:Int))))) (fun r=>r=true ↔ (x.Box=0∧x.Slot=⟨0,0,0⟩∧0≤x.G9∧x.G9 < (s.Covers.length:Int))):=by
 refine Gn ?_
 rw [hR.covs]
 simp only [Mk,Mm,and_assoc]
theorem Y67 (hG:Good s boxes t) (hR:H72 s boxes m t) (hk:x.Kind=1):Wp (G1b m x) (Rfb s boxes m t x):=by
 have h4:Can s boxes t x ↔ Q0a s t x:=by
  constructor
  ·rintro(h | h | h | h)
   ·exact h.2
   all_goals exact absurd h.1 (by omega)
  ·exact fun h=>.inl ⟨hk,h⟩
 unfold G1b
 refine Gt rfl (Gt rfl (Gt rfl (H4 (wp_mono (Q':=fun r=>(r=0∧Q0a s t x)∨(r≠0∧¬ Q0a s t x)) ?_ (fun r8 h8=>?_)))))
 ·rw [R69 hR,M4 hk]
  refine Z9 (Qda hR) (fun h1=>?_) (fun h1=>.inr ⟨by decide,fun h=>h1 ⟨h.1,h.2.1,h.2.2.1,h.2.2.2.1⟩⟩)
  refine Z9 (P:=x.G9 ∉ t.o) (Gn ?_) (fun h2=>?_) (fun h2=>.inr ⟨by decide,fun h=>h2 h.2.2.2.2.1⟩)
  ·simp
  refine Z9 (R28 hG hR true _) (fun h3=>J06 (.inl ⟨rfl,h1.1,h1.2.1,h1.2.2.1,h1.2.2.2,h2,h3 rfl⟩)) (fun h3=>.inr ⟨by decide,fun h=>h3 fun _=>h.2.2.2.2.2⟩)
 ·refine Hu (fun h=>Gn (.inr ?_)) (fun h=>?_)
  ·have h0:=M2 h
   rcases h8 with ⟨e,_⟩ | ⟨e,h8⟩
   ·exact(h0 e).elim
   ·exact⟨fun g=>h8 (h4.1 g),e,rfl⟩
  ·have h0:r8=0:=by have:=M3 h; omega
   have h8:Q0a s t x:=h8.elim (·.2) (fun h=>(h.1 h0).elim)
   have hz:Gw.get m.open_ x.G9 0=0:=Y7e _ (fun v hv=>h8.2.2.2.2.1 ((hR.opn _ v).1 hv).1)
   refine G00 (fun j=>j=Ge.mk m.ship m.on m.quay (Gw.put m.open_ x.G9 1) m.lifts) (fun K hK=>Hu (fun _=>?_) (fun h=>absurd hk (M3 h))) (fun j hj=>Gn (.inl ⟨h4.2 h8,rfl,?_,?_⟩))
   ·refine Gt rfl (Qo (by rw [hz]; omega) (hK _ (by rw [hz]; rfl)))
   ·subst hj
    rw [Rd6 hk]
    refine⟨hR.cols,hR.covs,hR.on,hR.quay,fun k v=>?_⟩
    show (k,v)∈Gw.Hd (Gw.put m.open_ x.G9 1) ↔ k∈H14 x.G9 t.o∧v=1
    rw [Q8d,G24,hR.opn]
    constructor
    ·rintro(h | h)
     ·exact⟨.inl h.1,h.2⟩
     ·exact⟨.inr h.2.1,h.2.2⟩
    ·rintro⟨h | h,e⟩
     ·exact .inl ⟨h,e⟩
     ·exact .inr ⟨fun e2=>h8.2.2.2.2.1 (e2 ▸ h),h,e⟩
   ·subst hj
    show m.lifts=m.lifts+G3e x
    unfold G3e
    rw [if_neg (by omega)]; omega
theorem Y66 (hG:Good s boxes t) (hR:H72 s boxes m t) (hk:x.Kind=4):Wp (G1b m x) (Rfb s boxes m t x):=by
 have h4:Can s boxes t x ↔ Q09 s t x:=by
  constructor
  ·rintro(h | h | h | h)
   ·exact absurd h.1 (by omega)
   ·exact h.2
   all_goals exact absurd h.1 (by omega)
  ·exact fun h=>.inr (.inl ⟨hk,h⟩)
 unfold G1b
 refine Gt rfl (Gt rfl (Gt rfl (H4 (wp_mono (Q':=fun r=>(r=0∧Q09 s t x)∨(r≠0∧¬ Q09 s t x)) ?_ (fun r8 h8=>?_)))))
 ·rw [R69 hR,M5 (show ¬ x.Kind=1 by omega)]
  refine Z9 (Qda hR) (fun h1=>?_) (fun h1=>.inr ⟨by decide,fun h=>h1 ⟨h.1,h.2.1,h.2.2.1,h.2.2.2.1⟩⟩)
  refine Z9 (P:=x.G9∈t.o) (Gn ?_) (fun h2=>?_) (fun h2=>.inr ⟨by decide,fun h=>h2 h.2.2.2.2⟩)
  ·simp
  refine Z9 (R28 hG hR false _) (fun h3=>J06 (.inl ⟨rfl,h1.1,h1.2.1,h1.2.2.1,h1.2.2.2,h2⟩)) (fun h3=>(h3 (fun h=>by cases h)).elim)
 ·refine Hu (fun h=>Gn (.inr ?_)) (fun h=>?_)
  ·have h0:=M2 h
   rcases h8 with ⟨e,_⟩ | ⟨e,h8⟩
   ·exact(h0 e).elim
   ·exact⟨fun g=>h8 (h4.1 g),e,rfl⟩
  ·have h0:r8=0:=by have:=M3 h; omega
   have h8:Q09 s t x:=h8.elim (·.2) (fun h=>(h.1 h0).elim)
   refine G00 (fun j=>j=Ge.mk m.ship m.on m.quay (Gw.del m.open_ x.G9) m.lifts) (fun K hK=>Hu (fun h=>absurd (M2 h) (by omega)) (fun _=>hK _ rfl)) (fun j hj=>Gn (.inl ⟨h4.2 h8,rfl,?_,?_⟩))
   ·subst hj
    rw [Rd3 hk]
    refine⟨hR.cols,hR.covs,hR.on,hR.quay,fun k v=>?_⟩
    show (k,v)∈Gw.Hd (Gw.del m.open_ x.G9) ↔ k∈H6d x.G9 t.o∧v=1
    rw [Y0a,G25,hR.opn]
    exact⟨fun h=>⟨⟨h.2.1,h.1⟩,h.2.2⟩,fun h=>⟨h.1.2,h.1.1,h.2⟩⟩
   ·subst hj
    show m.lifts=m.lifts+G3e x
    unfold G3e
    rw [if_neg (by omega)]; omega
theorem Yf7 (hG:Good s boxes t) (hR:H72 s boxes m t) {y z:G1} (hy:y∈t.l) (hz:z∈t.l) (e:y.Slot=z.Slot):y=z:=by
 obtain⟨b,hb,_⟩:=hG.right.each y hy
 obtain⟨d,hd,_⟩:=hG.right.each z hz
 have h1:=(hR.on y.Slot b).2 ⟨by rw [G9e hb]; exact hy,by rw [G9e hb]; exact hb⟩
 have h2:=(hR.on z.Slot d).2 ⟨by rw [G9e hd]; exact hz,by rw [G9e hd]; exact hd⟩
 rw [e] at h1
 have h3:b=d:=(J45 m.on (z:=default) h1).symm.trans (J45 m.on (z:=default) h2)
 exact Hcb hG.right.sorted hy hz (by rw [← G9e hb,← G9e hd,h3])
theorem Z01 (hG:Good s boxes t) (hR:H72 s boxes m t) (hk:x.Kind=2) (hl:0≤m.lifts∧m.lifts≤1000000):Wp (Ge0 m x) (Rfb s boxes m t x):=by
 have h6:Can s boxes t x ↔ R10 s t x:=by
  constructor
  ·rintro(h | h | h | h)
   ·exact absurd h.1 (by omega)
   ·exact absurd h.1 (by omega)
   ·exact h.2
   ·exact absurd h.1 (by omega)
  ·exact fun h=>.inr (.inr (.inl ⟨hk,h⟩))
 unfold Ge0
 have h8:((Gw.has m.on x.Slot)&&(decide ((Gw.get m.on x.Slot (Box.mk 0 ByteArray.empty 0 false 0 0 0 0 false)).ID=x.Box)))=true ↔ (⟨x.Box,x.Slot⟩:G1)∈t.l:=by
  rw [Mk,Yef,Mm]
  constructor
  ·rintro⟨⟨b,hb⟩,h⟩
   rw [J45 m.on hb] at h
   rw [← h]
   exact((hR.on _ b).1 hb).1
  ·intro h
   obtain⟨b,hb,_⟩:=hG.right.each _ h
   have h5:Qj boxes x.Box=some b:=hb
   have h1:=(hR.on x.Slot b).2 ⟨by rw [G9e h5]; exact h,by rw [G9e h5]; exact h5⟩
   exact⟨⟨b,h1⟩,by rw [J45 m.on h1]; exact G9e h5⟩
 refine Gt rfl (Gt rfl (Gt rfl (H4 (wp_mono (Q':=fun r=>(r=0∧R10 s t x)∨(r≠0∧¬ R10 s t x)) ?_ (fun r7 h7=>?_)))))
 ·refine Z9 (P:=x.G9=0) (Gn (by rw [Mm])) (fun h1=>?_) (fun h1=>.inr ⟨by decide,fun h=>h1 h.1⟩)
  refine Z9 (Gn h8) (fun h2=>?_) (fun h2=>.inr ⟨by decide,fun h=>h2 h.2.1⟩)
  refine Z9 (P:=H5a t.l x.Slot=[]) ?_ (fun h3=>?_) (fun h3=>.inr ⟨by decide,fun h=>h3 h.2.2.1⟩)
  ·unfold G87
   refine H4 (wp_mono (Qf3 hG hR (P:=fun z=>H62 z x.Slot) (fun y hy=>?_)) (fun r hr=>Gn ?_))
   ·unfold G4e
    exact H4 (wp_mono (Q1a _ _) (fun r hr=>Gn hr))
   ·rw [Bool.not_eq_true',← Bool.not_eq_true,hr]
    constructor
    ·intro h
     refine List.eq_nil_iff_forall_not_mem.2 fun a ha=>?_
     obtain⟨z,hz,_,ho⟩:=Gfc.1 ha
     exact h ⟨z,hz,ho⟩
    ·rintro h ⟨z,hz,ho⟩
     have:=Gfc.2 ⟨z,hz,rfl,ho⟩
     rw [h] at this; cases this
  refine Z9 (P:=¬ Jc8 s t.o x.Slot) ?_ (fun h4=>J06 (.inl ⟨rfl,h1,h2,h3,h4⟩)) (fun h4=>.inr ⟨by decide,fun h=>h4 h.2.2.2⟩)
  obtain⟨i,c,hi,hc⟩:=hG.sta.colIn h2
  have hi:x.Slot.G3=(i:Int):=hi
  have h9:Jc8 s t.o x.Slot ↔ (c.Deck=false∧0≤Jy s c∧Jy s c ∉ t.o):=by
   constructor
   ·rintro⟨j,d,e1,e2,e3⟩
    have:=R7e hi e1 hc e2
    subst this
    exact e3
   ·exact fun e=>⟨i,c,hi,hc,e⟩
  have a0:J33 s t.o x.Slot ↔ (0≤Jy s c∧(c.Deck=true ↔ Jy s c∈t.o)):=by
   constructor
   ·rintro⟨j,d,e1,e2,e3⟩
    have:=R7e hi e1 hc e2
    subst this
    exact e3
   ·exact fun e=>⟨i,c,hi,hc,e⟩
  unfold G86
  show Wp (Qm m.ship.Columns x.Slot.G3 _) _
  refine Yh hi (show m.ship.Columns[i]? = some c by rw [hR.cols]; exact hc) ?_
  rw [h9]
  cases hd:c.Deck with
  | true=>exact H4 (Gn (Gn ⟨fun _ h=>(by cases h.1),fun _=>rfl⟩))
  | false=>
   refine H4 (wp_mono (Rcc hG hR hi hc) (fun r hr=>Gn ?_))
   show ((false||!r)=true) ↔ _
   rw [Bool.false_or,Bool.not_eq_true',← Bool.not_eq_true,hr,a0,hd]
   refine not_congr ⟨fun h=>⟨rfl,h.1,fun g=>by cases h.2.2 g⟩,fun h=>⟨h.2.1,⟨fun g=>(by cases g),fun g=>(h.2.2 g).elim⟩⟩⟩
 ·refine Hu (fun h=>Gn (.inr ?_)) (fun h=>?_)
  ·have h0:=M2 h
   rcases h7 with ⟨e,_⟩ | ⟨e,h7⟩
   ·exact(h0 e).elim
   ·exact⟨fun g=>h7 (h6.1 g),e,rfl⟩
  ·have h0:r7=0:=by have:=M3 h; omega
   have h7:R10 s t x:=h7.elim (·.2) (fun h=>(h.1 h0).elim)
   refine Qo (by omega) (Gn (.inl ⟨h6.2 h7,rfl,?_,?_⟩))
   ·obtain⟨h1,h2,h3,h4⟩:=h7
    obtain⟨b,hb,_⟩:=hG.right.each _ h2
    have hb:Qj boxes x.Box=some b:=hb
    have hid:=G9e hb
    have a1:=(hR.on x.Slot b).2 ⟨by rw [hid]; exact h2,by rw [hid]; exact hb⟩
    rw [Rd5 hk,J45 m.on a1]
    refine⟨hR.cols,hR.covs,fun y d=>?_,fun i d=>?_,hR.opn⟩
    ·show (y,d)∈Gw.Hd (Gw.del m.on x.Slot) ↔ (⟨d.ID,y⟩:G1)∈H27 x.Box t.l∧Qj boxes d.ID=some d
     rw [Y0a,Jeb,hR.on]
     constructor
     ·rintro⟨g1,g2,g3⟩
      refine⟨⟨g2,fun e=>g1 ?_⟩,g3⟩
      exact congrArg G1.Slot (Hcb hG.right.sorted g2 h2 e)
     ·rintro⟨⟨g1,g2⟩,g3⟩
      refine⟨fun e=>g2 ?_,g1,g3⟩
      exact congrArg G1.Box (Yf7 hG hR g1 h2 e)
    ·show (i,d)∈Gw.Hd (Gw.put m.quay b.ID b) ↔ i∈H14 x.Box t.a∧Qj boxes i=some d
     rw [Q8d,G24,hR.quay,hid]
     constructor
     ·rintro(⟨rfl,rfl⟩ | ⟨g1,g2,g3⟩)
      ·exact⟨.inl rfl,hb⟩
      ·exact⟨.inr g2,g3⟩
     ·rintro⟨g | g,g3⟩
      ·subst g
       exact .inl ⟨rfl,by rw [hb] at g3; cases g3; rfl⟩
      ·exact .inr ⟨fun e=>hG.disj i g (Mp.2 ⟨_,h2,e.symm⟩),g,g3⟩
   ·show m.lifts+1=m.lifts+G3e x
    unfold G3e
    rw [if_pos (.inl hk)]
end
section
variable {s:Gj} {boxes:List Box} {m:Ge} {t:St} {x:Move}
theorem Yfa (hR:H72 s boxes m t) (y:Slot) (size:Int):Wp (G7f m.ship y size) (fun r=>r=true ↔ G9a s y size):=by
 refine wp_mono (Qc2 m.ship y size) (fun r hr=>hr.trans ⟨fun h=>⟨?_,h.tier,h.half⟩,fun h=>⟨?_,h.tier,h.half⟩⟩)
 ·obtain⟨i,c,h1,h2,h3⟩:=h.col
  exact⟨i,c,h1,by rw [← hR.cols]; exact h2,h3⟩
 ·obtain⟨i,c,h1,h2,h3⟩:=h.col
  exact⟨i,c,h1,by rw [hR.cols]; exact h2,h3⟩
theorem Z5c (hG:Good s boxes t) (hR:H72 s boxes m t) (hk:x.Kind=3) (hl:0≤m.lifts∧m.lifts≤1000000):Wp (H1c m x) (Rfb s boxes m t x):=by
 have a1:Can s boxes t x ↔ Rfc s boxes t x:=by
  constructor
  ·rintro(h | h | h | h)
   ·exact absurd h.1 (by omega)
   ·exact absurd h.1 (by omega)
   ·exact absurd h.1 (by omega)
   ·exact h.2
  ·exact fun h=>.inr (.inr (.inr ⟨hk,h⟩))
 have a5:=J80 hG.ship
 unfold H1c
 have a6:Gw.has m.quay x.Box=true ↔ x.Box∈t.a:=by
  rw [Yef]
  constructor
  ·rintro⟨b,hb⟩
   exact((hR.quay _ b).1 hb).1
  ·intro h
   obtain⟨b,hb,_⟩:=hG.box _ h
   exact⟨b,(hR.quay _ b).2 ⟨h,hb⟩⟩
 refine Gt rfl (Gt rfl (Gt rfl (H4 (wp_mono (Q':=fun r=>(r=0∧Rfc s boxes t x)∨(r≠0∧¬ Rfc s boxes t x)) ?_ (fun r7 h7=>?_)))))
 ·refine Z9 (P:=x.G9=0) (Gn (by rw [Mm])) (fun h1=>?_) (fun h1=>.inr ⟨by decide,fun h=>h1 h.1⟩)
  refine Z9 (Gn a6) (fun h2=>?_) (fun h2=>.inr ⟨by decide,fun h=>h2 h.2.1⟩)
  obtain⟨b,hb,hz⟩:=hG.box _ h2
  rw [J45 m.quay ((hR.quay _ b).2 ⟨h2,hb⟩)]
  have a2:x.Box ∉ t.l.map (·.Box):=hG.disj _ h2
  refine Z9 (P:=G9a s x.Slot b.Size) ?_ (fun h3=>?_) (fun h3=>.inr ⟨by decide,fun⟨_,_,d,g1,g2,_⟩=>h3 (by rw [hb] at g1; cases g1; exact g2)⟩)
  ·unfold Gb9
   exact H4 (wp_mono (Yfa hR x.Slot b.Size) (fun r hr=>Gn hr))
  obtain⟨i,c,hi,hc,b0⟩:=h3.col
  have a7 : -1000000≤x.Slot.Tier∧x.Slot.Tier≤1000000:=by
   have:=a5.tiers c (M9 hc)
   have:=h3.tier
   omega
  refine Z9 (P:=¬ J33 s t.o x.Slot) ?_ (fun h4=>?_) (fun h4=>.inr ⟨by decide,fun⟨_,_,d,g1,g2,g3,_⟩=>h4 g3⟩)
  ·unfold Gb8
   refine H4 (wp_mono (Rcc hG hR (x:=x.Slot) hi hc) (fun r hr=>Gn ?_))
   rw [Bool.not_eq_true',← Bool.not_eq_true,hr]
  refine Z9 (P:=¬ Rf6 t.l x.Slot) ?_ (fun h5=>?_) (fun h5=>.inr ⟨by decide,fun⟨_,_,d,g1,g2,g3,g4,_⟩=>h5 g4⟩)
  ·unfold Gb7
   refine H4 (wp_mono (Qf3 hG hR (P:=fun z=>Hfb z x.Slot) (fun y hy=>?_)) (fun r hr=>Gn ?_))
   ·unfold G6e
    exact H4 (wp_mono (R31 _ _) (fun r hr=>Gn hr))
   ·rw [Bool.not_eq_true',← Bool.not_eq_true,hr]
    exact not_congr ⟨fun⟨y,hy,h⟩=>⟨y,hy,Hee h⟩,fun⟨y,hy,h⟩=>⟨y,hy,Hee h⟩⟩
  refine Z9 (P:=H78 x.Slot (t.l.map (·.Slot))) ?_ (fun h6=>?_) (fun h6=>.inr ⟨by decide,fun⟨_,_,d,g1,g2,g3,g4,g5,_⟩=>h6 g5⟩)
  ·have hp:=Q86 hG hR
   have a3:(Gw.keys m.on).filterMap id=(onB m).map (·.Slot):=by
    rw [Hef]; unfold onB; rw [List.map_map]; rfl
   have b1:(onB m).length≤10:=by rw [hp.length_eq]; have:=hG.num; omega
   unfold Gb6
   refine H4 (Gn (Gt (x:=(onB m).map (·.Slot)) ?_ (H4 (wp_mono (Q':=fun r=>r=true ↔ H78 x.Slot (t.l.map (·.Slot))) ?_ (fun r hr=>Gn hr)))))
   ·unfold G06
    rw [a3,M4 (show ((onB m).map (·.Slot)).length*24≤140737488355328∧((onB m).map (·.Slot)).length≤maxLen from ⟨by rw [Mn]; omega,by rw [Mn]; simp only [maxLen]; omega⟩),Qd2]
   ·unfold H6f
    rw [R48 (hp.map (·.Slot))]
    exact R32 x.Slot _ a7
  refine Z9 (P:=Rf9 s boxes (H26 ⟨x.Box,x.Slot⟩ t.l) x.Slot) ?_ (fun h7=>J06 (.inl ⟨rfl,h1,h2,b,hb,h3,h4,h5,h6,h7⟩)) (fun h7=>.inr ⟨by decide,fun⟨_,_,d,g1,g2,g3,g4,g5,g6⟩=>h7 g6⟩)
  have h9:=H4c hG.right.sorted (y:=⟨x.Box,x.Slot⟩) a2
  have a8:Rf9 s boxes (H26 ⟨x.Box,x.Slot⟩ t.l) x.Slot ↔ J3b boxes (H26 ⟨x.Box,x.Slot⟩ t.l) i c:=by
   refine⟨fun hf=>hf i c hi hc,fun hf j d e1 e2=>?_⟩
   have:j=i:=by omega
   subst this
   rw [hc] at e2; cases e2
   exact hf
  have hh:∀ half:Int,Y4 boxes (H26 ⟨x.Box,x.Slot⟩ t.l) (i:Int) half=(if x.Slot.Half=half∨x.Slot.Half=0 then H95 b else 0)+Y4 boxes t.l (i:Int) half:=fun half=>by
   rw [Q69 (G37 h9),G49,Ya0 (x:=⟨x.Box,x.Slot⟩) hb]
   congr 1
   by_cases a0:x.Slot.Half=half∨x.Slot.Half=0
   ·rw [if_pos a0,if_pos ⟨hi,a0⟩]
   ·rw [if_neg a0,if_neg (fun g=>a0 g.2)]
  unfold Gb5
  show Wp (Qm m.ship.Columns x.Slot.G3 _) _
  refine Yh hi (show m.ship.Columns[i]? = some c by rw [hR.cols]; exact hc) ?_
  rw [a8]
  unfold J3b
  by_cases hH:c.Height≤0
  ·rw [M4 hH]
   exact H4 (Gn (H4 (Gn (Gn ⟨fun _=>.inl hH,fun _=>rfl⟩))))
  ·rw [M5 hH]
   refine Gt (Y97 hG hR x.Slot b 1) (Gt (Y97 hG hR x.Slot b 2) (Gn ?_))
   rw [hi,← hh,← hh,Bool.false_or,Mm,Int.max_le]
   exact⟨fun h=>.inr h,fun h=>h.resolve_left hH⟩
 ·refine Hu (fun h=>Gn (.inr ?_)) (fun h=>?_)
  ·have h0:=M2 h
   rcases h7 with ⟨e,_⟩ | ⟨e,h7⟩
   ·exact(h0 e).elim
   ·exact⟨fun g=>h7 (a1.1 g),e,rfl⟩
  ·have h0:r7=0:=by have:=M3 h; omega
   have h7:Rfc s boxes t x:=h7.elim (·.2) (fun h=>(h.1 h0).elim)
   refine Qo (by omega) (Gn (.inl ⟨a1.2 h7,rfl,?_,?_⟩))
   ·obtain⟨h1,h2,b,hb,h3,h4,h5,h6,h8⟩:=h7
    have a2:x.Box ∉ t.l.map (·.Box):=hG.disj _ h2
    have h9:=H4c hG.right.sorted (y:=⟨x.Box,x.Slot⟩) a2
    have hid:=G9e hb
    have a9:=(hR.quay x.Box b).2 ⟨h2,hb⟩
    have a4:∀ y∈t.l,y.Slot≠x.Slot:=fun y hy e=>h5 ⟨y,hy,by rw [e]; exact⟨rfl,rfl,.inl rfl⟩⟩
    rw [Rd4 hk,J45 m.quay a9]
    refine⟨hR.cols,hR.covs,fun y d=>?_,fun i d=>?_,hR.opn⟩
    ·show (y,d)∈Gw.Hd (Gw.put m.on x.Slot b) ↔ (⟨d.ID,y⟩:G1)∈H26 ⟨x.Box,x.Slot⟩ t.l∧Qj boxes d.ID=some d
     rw [Q8d,(G37 h9).mem_iff,Mr,hR.on]
     constructor
     ·rintro(⟨rfl,rfl⟩ | ⟨g1,g2,g3⟩)
      ·exact⟨.inl (by rw [hid]),by rw [hid]; exact hb⟩
      ·exact⟨.inr g2,g3⟩
     ·rintro⟨g | g,g3⟩
      ·have e1:d.ID=x.Box:=congrArg G1.Box g
       have e2:y=x.Slot:=congrArg G1.Slot g
       refine .inl ⟨e2,?_⟩
       rw [e1,hb] at g3
       cases g3; rfl
      ·exact .inr ⟨a4 _ g,g,g3⟩
    ·show (i,d)∈Gw.Hd (Gw.del m.quay x.Box) ↔ i∈H6d x.Box t.a∧Qj boxes i=some d
     rw [Y0a,G25,hR.quay]
     exact⟨fun h=>⟨⟨h.2.1,h.1⟩,h.2.2⟩,fun h=>⟨h.1.2,h.1.1,h.2⟩⟩
   ·show m.lifts+1=m.lifts+G3e x
    unfold G3e
    rw [if_pos (.inr hk)]
theorem Z5f (hG:Good s boxes t) (hR:H72 s boxes m t) (hl:0≤m.lifts∧m.lifts≤1000000) (x:Move):Wp (G4f m x) (Rfb s boxes m t x):=by
 unfold G4f
 refine G00 (fun j=>j=true ↔ (x.Kind=1∨x.Kind=4)) (fun K hK=>Hu (fun h=>hK _ ?_) (fun h=>hK _ ?_)) (fun j hj=>?_)
 ·rw [h]; exact⟨fun _=>.inl (M2 h),fun _=>rfl⟩
 ·rw [Mm]
  exact⟨.inr,fun g=>g.resolve_left (M3 h)⟩
 refine Hu (fun h=>?_) (fun h=>Hu (fun h2=>?_) (fun h2=>Hu (fun h3=>?_) (fun h3=>Gn (.inr ⟨?_,by show (310:Int)≠0; decide,rfl⟩))))
 ·rcases hj.1 h with hk | hk
  ·exact H4 (wp_mono (Y67 hG hR hk) (fun r hr=>Gn hr))
  ·exact H4 (wp_mono (Y66 hG hR hk) (fun r hr=>Gn hr))
 ·exact H4 (wp_mono (Z01 hG hR (M2 h2) hl) (fun r hr=>Gn hr))
 ·exact H4 (wp_mono (Z5c hG hR (M2 h3) hl) (fun r hr=>Gn hr))
 ·have hn:¬ (x.Kind=1∨x.Kind=4):=fun g=>by rw [hj.2 g] at h; cases h
  have h2:=M3 h2
  have h3:=M3 h3
  rintro(g | g | g | g)
  ·exact hn (.inl g.1)
  ·exact hn (.inr g.1)
  ·exact h2 g.1
  ·exact h3 g.1
end
theorem Z5e {boxes:List Box} {i:Int} {b:Box} (h:Qj boxes i=some b):b∈boxes:=List.mem_of_find?_eq_some h
theorem Re9 {l:List G1} {f:G1→Option Bool} {p:G1→Bool} (h:∀ x∈l,f x=some (p x)):J7 l f=some (l.any p):=by
 have e:Qd l f=some (J60 p l):=Ha4 h
 unfold J7
 exact G60 (Gt e (Gn (by show decide (0≤J60 p l)=_; rw [H5f])))
theorem Y59 {α β:Type} [DecidableEq β] {xs:List α} {k:Bool→Option β} {r:Option β} (h:∀ b,(b=true→xs=[])→k b=r):Rd7 xs k=r:=by
 unfold Rd7
 cases xs with
 | nil=>rw [h true (fun _=>rfl),h false (fun e=>by cases e)]; simp
 | cons x l=>exact h false (fun e=>by cases e)
theorem J8c {α:Type} [DecidableEq α] {k:Nat} {s:List α} (h:s.length*k≤140737488355328∧s.length≤maxLen):(Rd7 s fun b4=>bif b4 then (some []) else (need (decide ((([]:List α).length+s.length)*k≤140737488355328∧([]:List α).length+s.length≤maxLen)) <| some (([]:List α)++s)))=some s:=by
 refine Y59 (fun b hb=>?_)
 cases b with
 | true=>rw [hb rfl]; rfl
 | false=>
  rw [cond_false,M4 (show (([]:List α).length+s.length)*k≤140737488355328∧([]:List α).length+s.length≤maxLen by rw [List.length_nil,Nat.zero_add]; exact h)]
  rfl
theorem Y86 {n k:Nat} (hn:n≤1000000) (hk:k≤1000):n*k≤140737488355328∧n≤maxLen:=
 ⟨Nat.le_trans (Nat.mul_le_mul hn hk) (by decide),by simp only [maxLen]; omega⟩
theorem Yd5 {s:List G3} (h:s.length≤1000000):Rq s=some s:=J8c (Y86 (k:=112) h (by decide))
theorem Yd4 {s:List G9} (h:s.length≤1000000):Y3 s=some s:=J8c (Y86 (k:=32) h (by decide))
theorem Yd3 {s:List Int} (h:s.length≤1000000):Z7 s=some s:=J8c (Y86 (k:=8) h (by decide))
def Qc3 (b:Box):Bool:=decide (b.Size=20)||decide (b.Size=40)
theorem Rcd (boxes:List Box) (i:Int):Gf3 boxes i=some (match Qj boxes i with
  | some b=>(b,Qc3 b)
  | none=>(Box.mk 0 ByteArray.empty 0 false 0 0 0 0 false,false)):=by
 unfold Gf3
 rw [Q18]
 cases Qj boxes i <;> rfl
theorem Y46 {β:Type} {Q:β→Prop} {boxes:List Box} {state:List G1} {ashore pre post:List Int} {y:Int} (e:ashore=pre++y::post) (ha:pre.length≤1000000) {A:Option β} {B:Box→Option β}
  (hA:(∀ b,Qj boxes y=some b→¬ (b.Size=20∨b.Size=40))∨(∃ p∈pre,y≤p)∨y∈state.map (·.Box)→Wp A Q)
  (hB:∀ b,Qj boxes y=some b→(b.Size=20∨b.Size=40)→Wp (B b) Q) :
  Wp (bnd (Gf3 boxes y) fun r162=>
     bnd (bif ((!(!r162.2))&&(decide (0 < (pre.length:Int)))) then chk ((pre.length:Int) - 1) some else some 0) fun v165=>
     bnd (bif ((!(!r162.2))&&(decide (0 < (pre.length:Int)))) then Qm ashore v165 some else some default) fun y166=>
     bnd (bif (!((!r162.2)||((decide (0 < (pre.length:Int)))&&(decide (y≤y166))))) then J7 state (fun z0=>G98 z0 y) else some default) fun r167=>
     bif (((!r162.2)||((decide (0 < (pre.length:Int)))&&(decide (y≤y166))))||r167) then A else B r162.1) Q:=by
 refine Gt (Rcd boxes y) ?_
 cases hf:Qj boxes y with
 | none=>
  have hA:=hA (.inl fun b hb=>by rw [hf] at hb; cases hb)
  exact H4 (Gn (H4 (Gn (H4 (Gn hA)))))
 | some b=>
  simp only
  by_cases hz:b.Size=20∨b.Size=40
  ·have h0:Qc3 b=true:=by unfold Qc3; simpa using hz
   rw [h0]
   simp only [Bool.not_true,Bool.not_false,Bool.true_and,Bool.false_or]
   have hc:=Re9 (l:=state) (f:=fun z0=>G98 z0 y) (p:=fun x=>decide (x.Box=y)) (fun x _=>rfl)
   have h5:(state.any fun x=>decide (x.Box=y))=true→y∈state.map (·.Box):=fun h=>by
    obtain⟨x,hx,e⟩:=List.any_eq_true.1 h
    exact Mp.2 ⟨x,hx,M2 e⟩
   by_cases hp:0 < (pre.length:Int)
   ·obtain⟨p,h1,h2,h3⟩:=R6d (l:=ashore) (y:=y) e (by omega)
    rw [M4 hp]
    simp only [cond_true,Bool.true_and]
    refine H4 (Qo (by omega) (Gn (H4 (Yh (show (pre.length:Int) - 1=((pre.length - 1:Nat):Int) by omega) h1 (Gn ?_)))))
    by_cases h4:y≤p
    ·rw [M4 h4]
     exact H4 (Gn (hA (.inr (.inl ⟨p,h3,h4⟩))))
    ·rw [M5 h4]
     refine Gt hc (Hu (fun h=>hA (.inr (.inr (h5 (by simpa using h))))) (fun _=>hB b hf hz))
   ·rw [M5 hp]
    refine H4 (Gn (H4 (Gn (Gt hc (Hu (fun h=>hA (.inr (.inr (h5 (by simpa using h))))) (fun _=>hB b hf hz))))))
  ·have h0:Qc3 b=false:=by unfold Qc3; simpa using hz
   rw [h0]
   have hA:=hA (.inl fun d hd=>by rw [hf] at hd; cases hd; exact hz)
   exact H4 (Gn (H4 (Gn (H4 (Gn hA)))))
theorem R68 {β:Type} {Q:β→Prop} {s:Gj} (hr:∀ x∈s.Covers,x.Rows.length≤1000000) {K:List G9→Option β} (hK:Wp (K s.Covers) Q) :
  Wp (each (fun y41 i41 (s41:(List G9)) nx41=>
   Qm s.Covers (i41:Int) fun y46=>
   bnd (Z7 y46.Rows) fun r48=>
   Qm s41 (i41:Int) fun y49=>
   nx41 (s41.set (i41:Int).toNat (G9.mk y49.Bay r48))) K s.Covers 0 s.Covers) Q:=by
 refine Jo (fun _ t=>t=s.Covers) rfl (fun pre y post t nx e hI h0=>?_) (fun t ht=>by rw [ht]; exact hK)
 subst hI
 have hy:s.Covers[pre.length]? = some y:=by rw [e]; simp
 refine Yh rfl hy (Gt (Yd3 (hr y (M9 hy))) (Yh rfl hy (h0 _ ?_)))
 apply List.ext_getElem?
 intro q
 rw [show ((pre.length:Int)).toNat=pre.length by omega,List.getElem?_set]
 split
 ·rename_i h
  subst h
  have:=(M6 hy).1
  rw [if_pos this,hy]
 ·rfl
theorem Y45 {s:Gj} {boxes:List Box} {l:List G1} {a:List Int} (hL:Ja8 s) (hr:Re s boxes l) (hl:l.length≤10) (h5:a.length≤1000)
  (h2:∀ i∈a,∃ b,Qj boxes i=some b∧(b.Size=20∨b.Size=40)) (h0:a.Pairwise (· < ·)) (h3:∀ i∈a,i ∉ l.map (·.Box)) :
  Wp (G4d s boxes l a) (fun r=>r.2=0∧H72 s boxes r.1 ⟨l,[],a⟩∧r.1.lifts=0):=by
 have hs:=J80 hL
 have h6:=hL.covs.len
 have h7:=hL.len
 unfold G4d
 refine H4 (wp_mono (Gec hs.right hs.tier (by omega)) (fun r4 h4=>Hu (fun h=>?_) (fun _=>?_)))
 ·rw [h4.2 hr] at h; cases h
 refine Gt (Yd5 (by omega)) (Gt (Yd4 (by omega)) (R68 (fun x hx=>by have:=hs.rows x hx; omega) ?_))
 refine Jo (fun pre (st:Gw Slot Box)=>∀ y b,(y,b)∈Gw.Hd st ↔ (⟨b.ID,y⟩:G1)∈pre∧Qj boxes b.ID=some b) (fun y b=>⟨fun h=>(Q8e h).elim,fun h=>by cases h.1⟩) (fun pre x post st nx e hI h1=>?_) (fun st hI=>?_)
 ·have hx:x∈l:=by rw [e]; simp
  obtain⟨d,hd,_⟩:=hr.each x hx
  refine Gt (Rcd boxes x.Box) ?_
  rw [hd]
  refine h1 _ (fun y b=>?_)
  have hid:=G9e hd
  show (y,b)∈Gw.Hd (Gw.put st x.Slot d) ↔ _
  rw [Q8d,hI,Mo,Mq]
  constructor
  ·rintro(⟨rfl,rfl⟩ | ⟨g1,g2,g3⟩)
   ·exact⟨.inr (by rw [hid]),by rw [hid]; exact hd⟩
   ·exact⟨.inl g2,g3⟩
  ·rintro⟨g | g,g3⟩
   ·refine .inr ⟨fun h=>?_,g,g3⟩
    have ha:=hr.apart
    rw [e] at ha
    exact H12 ha _ g (by rw [show (⟨b.ID,y⟩:G1).Slot=x.Slot from h]; exact⟨rfl,rfl,.inl rfl⟩)
   ·have e1:b.ID=x.Box:=congrArg G1.Box g
    refine .inl ⟨congrArg G1.Slot g,?_⟩
    rw [e1,hd] at g3
    cases g3; rfl
 ·refine Jo (fun pre (qt:Gw Int Box)=>∀ i b,(i,b)∈Gw.Hd qt ↔ i∈pre∧Qj boxes i=some b) (fun i b=>⟨fun h=>(Q8e h).elim,fun h=>by cases h.1⟩) (fun pre y post qt nx e hJ h1=>?_) (fun qt hJ=>?_)
  ·have hy:y∈a:=by rw [e]; simp
   refine Y46 e (by have:=congrArg List.length e; simp only [Mi] at this; omega) (fun h=>?_) (fun b hb _=>h1 _ (fun i d=>?_))
   ·rcases h with h | ⟨p,hp,h⟩ | h
    ·obtain⟨b,hb,hz⟩:=h2 y hy
     exact(h b hb hz).elim
    ·rw [e] at h0
     have:=H12 h0 p hp
     omega
    ·exact(h3 y hy h).elim
   ·show (i,d)∈Gw.Hd (Gw.put qt y b) ↔ _
    rw [Q8d,hJ,Mo,Mq]
    constructor
    ·rintro(⟨rfl,rfl⟩ | ⟨g1,g2,g3⟩)
     ·exact⟨.inr rfl,hb⟩
     ·exact⟨.inl g2,g3⟩
    ·rintro⟨g | g,g3⟩
     ·by_cases h:i=y
      ·subst h
       refine .inl ⟨rfl,?_⟩
       rw [hb] at g3
       cases g3; rfl
      ·exact .inr ⟨h,g,g3⟩
     ·subst g
      refine .inl ⟨rfl,?_⟩
      rw [hb] at g3
      cases g3; rfl
  ·exact Gn ⟨rfl,⟨rfl,rfl,hI,hJ,fun k v=>⟨fun h=>(Q8e h).elim,fun h=>by cases h.1⟩⟩,rfl⟩
end Go.Proofs.YtgcpimpnpcdmmaaGreat
