/-
 The moves of a call,aQ a list that is told outright. What a simulator's maps hold,and what the methods that only What a move needs,what it brings about,and that it can be un
-/
import Derived.Test.YtgcpimpnpcdmmaaGreatSpecT
import Derived.Test.YtgcpimpnpcdmmaaGreatPutB
set_option maxRecDepth 100000
namespace Go.Proofs.YtgcpimpnpcdmmaaGreat
open Go.RowKit
def Za (s:Gi) (x:Slot):G3:=(s.Columns[x.G3.toNat]?).getD default
theorem H10 {s:Gi} {x:Slot} {m:Nat} {c:G3} (h1:x.G3=(m:Int)) (h2:s.Columns[m]? = some c):Za s x=c:=by
 unfold Za
 rw [h1,show (m:Int).toNat=m by omega,h2]; rfl
def H31 (s:Gi) (lf:List Int) (bay:Int) (deck:Bool) (x:G1):Bool:=(decide ((Za s x.Slot).Bay=bay)&&((Za s x.Slot).Deck==deck))&&lf.any (fun y=>decide (x.Box=y))
def Yz (s:Gi) (l:List G1) (lf:List Int) (bay:Int) (deck:Bool):List G1:=H62 Rc7 (l.filter (H31 s lf bay deck))
theorem R44 (l:List Int) (v:Int):Je l v=some (l.any (fun y=>decide (v=y))):=by
 unfold Je
 have h:R7 l v=some (J2b (fun y=>decide (v=y)) l):=by
  unfold R7
  exact H55 (f:=fun y=>some (decide (v=y))) (fun x _=>rfl)
 rw [h]
 simp only [H94]
 rw [Gf8]
theorem Qda {α:Type} {p:α→Bool} {l:List α} {n:Nat} (h:l.length≤n):(l.filter p).length≤n:=Nat.le_trans (Ky _ _) h
theorem J65 {s:Gi} {l:List G1} {lf:List Int} {bay:Int} {deck:Bool} {F:Nat} (hF:60≤F) (hc:∀ x∈l,G2e s x.Slot) (hl:l.length≤12) :
  Zj F s l lf bay deck=some (Yz s l lf bay deck):=by
 refine G34 ?_
 unfold Zj
 refine Jj (fun pre st=>st=pre.filter (H31 s lf bay deck)) rfl (fun pre x post st nx e h0 h4=>?_) (fun st h0=>?_)
 ·subst h0
  obtain⟨m,c,h1,h2⟩:=hc x (by rw [e]; simp)
  have h3:=H10 h1 h2
  have hp:pre.length≤12:=by rw [e] at hl; simp at hl; omega
  refine Zr (fun j=>j=(pre++[x]).filter (H31 s lf bay deck)) (fun K hK=>Yq h1 h2 ?_) (fun j hj=>h4 _ hj)
  have h5:Wp (bif ((decide (c.Bay=bay))&&(c.Deck==deck)) then Je lf x.Box else some default) (fun r58=>(((decide (c.Bay=bay))&&(c.Deck==deck))&&r58)=H31 s lf bay deck x):=by
   unfold H31
   rw [h3]
   cases ((decide (c.Bay=bay))&&(c.Deck==deck)) with
   | true=>exact⟨_,R44 _ _,rfl⟩
   | false=>exact⟨_,rfl,rfl⟩
  refine H6 (wp_mono h5 (fun r58 h6=>?_))
  rw [h6]
  have h7:(pre.filter (H31 s lf bay deck)).length≤12:=Qda hp
  refine Hv (fun h=>Rx (G08 (by rw [Mi]; omega) (by omega)) (hK _ ?_)) (fun h=>hK _ ?_)
  ·rw [G65,h]; rfl
  ·rw [G65,h]; simp
 ·subst h0
  unfold G00
  rw [Rbd (c:=Rc7) (fun a b=>Yf3 a b) (by omega) (Qda hl)]
  exact Gp rfl
theorem Gf5 {s:Gi} {l:List G1} {lf:List Int} {bay:Int} {deck:Bool} {x:G1}:x∈Yz s l lf bay deck ↔ x∈l∧H31 s lf bay deck x=true:=by
 unfold Yz
 rw [H53,Mr]
theorem H2a {s:Gi} {l:List G1} {lf:List Int} {bay:Int} {deck:Bool}:(Yz s l lf bay deck).length≤l.length:=by
 unfold Yz
 rw [G9e]; exact Ky _ _
theorem H30 {s:Gi} {lf:List Int} {bay:Int} {deck:Bool} {x:G1}:H31 s lf bay deck x=true ↔ (Za s x.Slot).Bay=bay∧(Za s x.Slot).Deck=deck∧x.Box∈lf:=by
 unfold H31
 simp only [Mj,Mk,beq_iff_eq,List.any_eq_true]
 constructor
 ·rintro⟨⟨h1,h2⟩,y,hy,rfl⟩; exact⟨h1,h2,hy⟩
 ·rintro⟨h1,h2,h3⟩; exact⟨⟨h1,h2⟩,_,h3,rfl⟩
theorem Re9 {l:List G1} {F:Nat} (hF:60≤F) (hl:l.length≤12):G0d F l=some (H62 J80 l):=by
 unfold G0d
 rw [Rbe (c:=J80) (fun a b=>Ycd a b) (by omega) hl]
 rfl
def G90 (u:List Int) (k:Int):List Int:=bif decide (0≤k)&&!(u.any (fun y=>decide (k=y))) then u++[k] else u
theorem Y5f {u:List Int} {k a:Int}:a∈G90 u k ↔ a∈u∨(a=k∧0≤k):=by
 unfold G90
 by_cases h:0≤k
 ·rw [M3 h,Bool.true_and]
  cases hu:u.any (fun y=>decide (k=y)) with
  | true=>
   obtain⟨y,hy,he⟩:=List.any_eq_true.1 hu
   have he:=M1 he
   simp only [Bool.not_true,cond_false]
   exact⟨.inl,fun h1=>h1.elim _root_.id (fun h2=>by rw [h2.1,he]; exact hy)⟩
  | false=>
   simp only [Bool.not_false,cond_true,Mn,Mp]
   exact⟨fun h1=>h1.elim .inl (fun h2=>.inr ⟨h2,h⟩),fun h1=>h1.elim .inl (fun h2=>.inr h2.1)⟩
 ·rw [M4 h,Bool.false_and]
  simp only [cond_false]
  exact⟨.inl,fun h1=>h1.elim _root_.id (fun h2=>absurd h2.2 h)⟩
theorem R79 {u:List Int} {k:Int} (h:u.Nodup):(G90 u k).Nodup:=by
 unfold G90
 cases hc:decide (0≤k)&&!(u.any (fun y=>decide (k=y))) with
 | false=>exact h
 | true=>
  rw [Mj,Bool.not_eq_true'] at hc
  rw [cond_true,List.nodup_append]
  refine⟨h,by simp,fun a ha b hb=>?_⟩
  rw [Mp] at hb; subst hb
  have:=List.any_eq_false.1 hc.2 a ha
  intro e
  exact this (M3 e.symm)
def Gf9 (s:Gi) (x:G1):Int:=Jv s (Za s x.Slot)
def Hb7 (s:Gi) (bf af:List G1) (lf:List Int) (bay:Int):List Int:=((Yz s bf lf bay false++Yz s af lf bay false).map (Gf9 s)).foldl G90 []
def G0a (s:Gi) (bf af:List G1) (lf:List Int) (bay:Int):List Int:=H62 J4c (Hb7 s bf af lf bay)
theorem Q5c {a:Int}:∀ (l u:List Int),a∈l.foldl G90 u ↔ a∈u∨(a∈l∧0≤a)
 | [],u=>by simp
 | k::l,u=>by
  rw [List.foldl_cons,Q5c l,Y5f,Mq]
  constructor
  ·rintro((h | ⟨rfl,h⟩) | h)
   ·exact .inl h
   ·exact .inr ⟨.inl rfl,h⟩
   ·exact .inr ⟨.inr h.1,h.2⟩
  ·rintro(h | ⟨rfl | h,h2⟩)
   ·exact .inl (.inl h)
   ·exact .inl (.inr ⟨rfl,h2⟩)
   ·exact .inr ⟨h,h2⟩
theorem J8e:∀ (l u:List Int),u.Nodup→(l.foldl G90 u).Nodup
 | [],_,h=>h
 | _::l,_,h=>J8e l _ (R79 h)
theorem Hb6 {s:Gi} {bf af:List G1} {lf:List Int} {bay a:Int}:a∈Hb7 s bf af lf bay ↔ 0≤a∧∃ x,(x∈bf∨x∈af)∧H31 s lf bay false x=true∧Gf9 s x=a:=by
 unfold Hb7
 rw [Q5c,Mo]
 constructor
 ·rintro(h | ⟨⟨x,hx,e⟩,h⟩)
  ·exact(M9 h).elim
  ·rw [Mn,Gf5,Gf5] at hx
   rcases hx with g | g
   ·exact⟨h,x,.inl g.1,g.2,e⟩
   ·exact⟨h,x,.inr g.1,g.2,e⟩
 ·rintro⟨h,x,hx,hp,e⟩
  refine .inr ⟨⟨x,?_,e⟩,h⟩
  rw [Mn,Gf5,Gf5]
  exact hx.elim (fun h=>.inl ⟨h,hp⟩) (fun h=>.inr ⟨h,hp⟩)
theorem J44 {s:Gi} {bf af:List G1} {lf:List Int} {bay a:Int}:a∈G0a s bf af lf bay ↔ 0≤a∧∃ x,(x∈bf∨x∈af)∧H31 s lf bay false x=true∧Gf9 s x=a:=by
 unfold G0a
 rw [H53,Hb6]
theorem Y5b {s:Gi} {c:G3}:Jv s c < (s.Covers.length:Int):=by
 unfold Jv
 rcases Geb (fun x=>Ha7 x c) s.Covers with ⟨h,_⟩ | ⟨m,x,h,h2,_⟩
 ·rw [h]; omega
 ·have:=(M5 h2).1
  rw [h]; omega
theorem J8a {s:Gi} {bf af:List G1} {lf:List Int} {bay:Int}:(Hb7 s bf af lf bay).Nodup:=J8e _ _ List.nodup_nil
theorem Q4f {s:Gi} {bf af:List G1} {lf:List Int} {bay:Int}:(Hb7 s bf af lf bay).length≤s.Covers.length:=by
 have h:=Yf1 s.Covers.length ((Hb7 s bf af lf bay).map (·.toNat)) ?_ ?_
 ·rwa [Mm] at h
 ·refine List.pairwise_map.2 (List.Pairwise.imp_of_mem (fun {a b} ha hb h0=>?_) J8a)
  have h1:=(Hb6.1 ha).1
  have h2:=(Hb6.1 hb).1
  intro e
  exact h0 (by omega)
 ·intro x hx
  obtain⟨a,ha,rfl⟩:=Mo.1 hx
  obtain⟨h1,y,_,_,e⟩:=Hb6.1 ha
  have:=Y5b (s:=s) (c:=Za s y.Slot)
  unfold Gf9 at e
  rw [e] at this
  omega
theorem J45 {s:Gi} {bf af:List G1} {lf:List Int} {bay:Int}:(G0a s bf af lf bay).length≤s.Covers.length:=by
 unfold G0a
 rw [G9e]; exact Q4f
theorem Hcc {s:Gi} {bf af:List G1} {lf:List Int} {bay:Int}:(G0a s bf af lf bay).Nodup:=by
 unfold G0a
 exact(G8a _ _).nodup_iff.2 J8a
theorem J4a:∀ (l u:List Int),(l.foldl G90 u).length≤u.length+l.length
 | [],u=>by simp
 | k::l,u=>by
  rw [List.foldl_cons,Md]
  have:=J4a l (G90 u k)
  have h:(G90 u k).length≤u.length+1:=by
   unfold G90
   cases decide (0≤k)&&!(u.any (fun y=>decide (k=y))) <;> simp
  omega
structure H74 (s:Gi):Prop where
 covs:s.Covers.length≤10
 rows:∀ x∈s.Covers,x.Rows.length≤1000000
theorem R31 {s:Gi} {bf af:List G1} {lf:List Int} {bay:Int} {F:Nat} (hF:60≤F) (hs:H74 s) (hb:∀ x∈bf,G2e s x.Slot) (ha:∀ x∈af,G2e s x.Slot) (lb:bf.length≤12) (la:af.length≤12) :
  G60 F s bf af lf bay=some (G0a s bf af lf bay):=by
 refine G34 ?_
 unfold G60
 have one:∀ (l:List G1) (u:List Int) (nx:List Int→Option (List Int)) (Q:List Int→Prop),(∀ x∈l,G2e s x.Slot)→l.length≤12→u.length≤100→Wp (nx ((l.map (Gf9 s)).foldl G90 u)) Q →
   Wp (each (fun y52 i52 (s52:(List Int)) nx52=>
   jp (fun kj55=>
    bnd (Rb s y52.Slot.G3) fun r58=>
    bnd (bif decide (0≤r58) then Je s52 r58 else some default) fun r60=>
    bif ((decide (0≤r58))&&(!r60)) then
    (need (decide ((s52.length+[r58].length)*8≤140737488355328∧s52.length+[r58].length≤maxLen)) <|
     kj55 (s52++[r58]))
    else
    (kj55 s52)) fun(j55:(List Int))=>
   nx52 j55)
  (fun(s52:(List Int))=>
   nx s52) l 0 u) Q:=by
  intro l u nx Q h4 hl hu hQ
  refine Jj (fun pre st=>st=(pre.map (Gf9 s)).foldl G90 u) rfl (fun pre x post st nx2 e h0 h6=>?_) (fun st h0=>by rw [h0]; exact hQ)
  subst h0
  obtain⟨m,c,h1,h2⟩:=h4 x (by rw [e]; simp)
  have hp:pre.length≤12:=by rw [e] at hl; simp at hl; omega
  have h3:=J4a (pre.map (Gf9 s)) u
  rw [Mm] at h3
  have hk:Gf9 s x=Jv s c:=by unfold Gf9; rw [H10 h1 h2]
  refine Zr (fun j=>j=((pre++[x]).map (Gf9 s)).foldl G90 u) (fun K hK=>?_) (fun j hj=>h6 _ hj)
  rw [h1]
  refine Gt (H09 h2 hs.rows (by have:=hs.covs; omega)) ?_
  rw [List.map_append,List.foldl_append] at hK
  simp only [List.map_cons,List.map_nil,List.foldl_cons,List.foldl_nil] at hK
  rw [hk] at hK
  generalize (pre.map (Gf9 s)).foldl G90 u=w at hK h3
  have h7:Wp (bif decide (0≤Jv s c) then Je w (Jv s c) else some default) (fun r60=>((decide (0≤Jv s c))&&(!r60))=(decide (0≤Jv s c)&&!(w.any (fun y=>decide (Jv s c=y))))):=by
   cases decide (0≤Jv s c) with
   | true=>exact⟨_,R44 _ _,rfl⟩
   | false=>exact⟨_,rfl,rfl⟩
  refine H6 (wp_mono h7 (fun r60 h8=>?_))
  rw [h8]
  unfold G90 at hK
  refine Hv (fun h=>Rx (G08 (by rw [Mi]; omega) (by omega)) (hK _ ?_)) (fun h=>hK _ ?_)
  ·rw [h]; rfl
  ·rw [h]; rfl
 have h5:((Yz s af lf bay false).map (Gf9 s)).foldl G90 (((Yz s bf lf bay false).map (Gf9 s)).foldl G90 [])=Hb7 s bf af lf bay:=by
  unfold Hb7
  rw [List.map_append,List.foldl_append]
 have h9:∀ x∈Yz s bf lf bay false,G2e s x.Slot:=fun x hx=>hb x (Gf5.1 hx).1
 have a0:∀ x∈Yz s af lf bay false,G2e s x.Slot:=fun x hx=>ha x (Gf5.1 hx).1
 have lb':(Yz s bf lf bay false).length≤12:=Nat.le_trans H2a lb
 have la':(Yz s af lf bay false).length≤12:=Nat.le_trans H2a la
 rw [each]
 refine Gt (J65 hF hb lb) (one _ _ _ _ h9 lb' (by simp) ?_)
 rw [each]
 refine Gt (J65 hF ha la) (one _ _ _ _ a0 la' ?_ ?_)
 ·have:=J4a ((Yz s bf lf bay false).map (Gf9 s)) []
  rw [Mm] at this
  simp only [List.length_nil] at this
  omega
 ·rw [each,h5]
  unfold G74
  rw [Ye7 (c:=J4c) (fun a b=>Je5 a b) (by omega) (by have:=Q4f (s:=s) (bf:=bf) (af:=af) (lf:=lf) (bay:=bay); have:=hs.covs; omega)]
  exact Gp rfl
def mvS (kind:Int) (x:G1):Move:=Move.mk kind x.Box x.Slot 0
def mvC (kind:Int) (k:Int):Move:=Move.mk kind 0 (Slot.mk 0 0 0) k
theorem R75 (kind:Int) (l:List G1) (p:List Move) (hl:l.length≤12) (hp:p.length≤100000):G05 kind l p=some (p++l.map (mvS kind)):=by
 refine G34 ?_
 unfold G05
 refine Jj (fun pre st=>st=p++pre.map (mvS kind)) (by simp) (fun pre x post st nx e h0 h1=>?_) (fun st h0=>Gp h0)
 subst h0
 have hq:pre.length≤12:=by rw [e] at hl; simp at hl; omega
 refine Rx (G08 (by rw [Mi,Mh,Mm]; omega) (by omega)) (h1 _ ?_)
 rw [List.map_append,List.append_assoc]; rfl
theorem Z14 (kind:Int) (l:List Int) (p:List Move) (hl:l.length≤12) (hp:p.length≤100000):G61 kind l p=some (p++l.map (mvC kind)):=by
 refine G34 ?_
 unfold G61
 refine Jj (fun pre st=>st=p++pre.map (mvC kind)) (by simp) (fun pre x post st nx e h0 h1=>?_) (fun st h0=>Gp h0)
 subst h0
 have hq:pre.length≤12:=by rw [e] at hl; simp at hl; omega
 refine Rx (G08 (by rw [Mi,Mh,Mm]; omega) (by omega)) (h1 _ ?_)
 rw [List.map_append,List.append_assoc]; rfl
def Hca (s:Gi) (bf af:List G1) (lf:List Int) (bay:Int):List Move:=
 (H62 J80 (Yz s bf lf bay true)).map (mvS 2)++(G0a s bf af lf bay).map (mvC 1)++(H62 J80 (Yz s bf lf bay false)).map (mvS 2)
def J8d (s:Gi) (bf af:List G1) (lf:List Int) (bay:Int):List Move:=
 (Yz s af lf bay false).map (mvS 3)++(G0a s bf af lf bay).map (mvC 4)++(Yz s af lf bay true).map (mvS 3)
def outs (s:Gi) (bf af:List G1) (lf:List Int) (n:Nat):List Move:=(List.range n).flatMap (fun b:Nat=>Hca s bf af lf (b:Int))
def ins (s:Gi) (bf af:List G1) (lf:List Int) (n:Nat):List Move:=(List.range n).flatMap (fun b:Nat=>J8d s bf af lf (b:Int))
def G66 (s:Gi) (bf af:List G1) (lf:List Int):List Move:=outs s bf af lf 40++ins s bf af lf 40
theorem J66 {s:Gi} {bf af:List G1} {lf:List Int} (n:Nat):outs s bf af lf (n+1)=outs s bf af lf n++Hca s bf af lf (n:Int):=by
 unfold outs
 rw [List.range_succ,List.flatMap_append]; simp
theorem Jde {s:Gi} {bf af:List G1} {lf:List Int} (n:Nat):ins s bf af lf (n+1)=ins s bf af lf n++J8d s bf af lf (n:Int):=by
 unfold ins
 rw [List.range_succ,List.flatMap_append]; simp
section
variable {s:Gi} {bf af:List G1} {lf:List Int}
theorem Y48 (hs:H74 s) (lb:bf.length≤12) {bay:Int}:(Hca s bf af lf bay).length≤40:=by
 have h1:=H2a (s:=s) (l:=bf) (lf:=lf) (bay:=bay) (deck:=true)
 have h2:=H2a (s:=s) (l:=bf) (lf:=lf) (bay:=bay) (deck:=false)
 have h3:=J45 (s:=s) (bf:=bf) (af:=af) (lf:=lf) (bay:=bay)
 have h4:=hs.covs
 unfold Hca
 simp only [Mh,Mm,G9e]
 omega
theorem Ybb (hs:H74 s) (la:af.length≤12) {bay:Int}:(J8d s bf af lf bay).length≤40:=by
 have h1:=H2a (s:=s) (l:=af) (lf:=lf) (bay:=bay) (deck:=true)
 have h2:=H2a (s:=s) (l:=af) (lf:=lf) (bay:=bay) (deck:=false)
 have h3:=J45 (s:=s) (bf:=bf) (af:=af) (lf:=lf) (bay:=bay)
 have h4:=hs.covs
 unfold J8d
 simp only [Mh,Mm]
 omega
theorem Jd5 (hs:H74 s) (lb:bf.length≤12):∀ n:Nat,(outs s bf af lf n).length≤40*n
 | 0=>by simp [outs]
 | n+1=>by
  have h1:=Jd5 hs lb n
  have h2:=Y48 (af:=af) (lf:=lf) hs lb (bay:=(n:Int))
  rw [J66,Mh]; omega
theorem R69 (hs:H74 s) (la:af.length≤12):∀ n:Nat,(ins s bf af lf n).length≤40*n
 | 0=>by simp [ins]
 | n+1=>by
  have h1:=R69 hs la n
  have h2:=Ybb (bf:=bf) (lf:=lf) hs la (bay:=(n:Int))
  rw [Jde,Mh]; omega
theorem Z5f {F:Nat} (hF:60≤F) (hs:H74 s) (hb:∀ x∈bf,G2e s x.Slot) (ha:∀ x∈af,G2e s x.Slot) (lb:bf.length≤12) (la:af.length≤12) :
  H19 F s bf af lf=some (G66 s bf af lf):=by
 refine G34 ?_
 unfold H19
 have pl:∀ {l:List G1} {bay:Int} {deck:Bool},l.length≤12→(Yz s l lf bay deck).length≤12:=fun h=>Nat.le_trans H2a h
 have nl:∀ {bay:Int},(G0a s bf af lf bay).length≤12:=Nat.le_trans J45 (by have:=hs.covs; omega)
 refine Rx rfl (Hf3 (fun i st=>st=outs s bf af lf i) (by simp [outs]) (fun i st nx hi h0 h1=>?_) (fun st h0=>Rx rfl (Hf3 (fun i st=>st=outs s bf af lf 40++ins s bf af lf i) (by rw [h0]; simp [ins]) (fun i st nx hi h0 h1=>?_) (fun st h0=>Gp h0))))
 ·subst h0
  have h2:=Jd5 (af:=af) (lf:=lf) hs lb i
  have h3:i < 40:=hi
  refine Gt (J65 hF hb lb) (Gt (Re9 hF (pl lb)) (Gt (R75 _ _ _ (by rw [G9e]; exact pl lb) (by omega)) ?_))
  refine Gt (R31 hF hs hb ha lb la) (Gt (Z14 _ _ _ nl ?_) ?_)
  ·rw [Mh,Mm,G9e]; have:=pl lb (bay:=(i:Int)) (deck:=true); omega
  refine Gt (J65 hF hb lb) (Gt (Re9 hF (pl lb)) (Gt (R75 _ _ _ (by rw [G9e]; exact pl lb) ?_) (h1 _ ?_)))
  ·rw [Mh,Mh,Mm,Mm,G9e]; have:=pl lb (bay:=(i:Int)) (deck:=true); have:=nl (bay:=(i:Int)); omega
  ·rw [J66]
   unfold Hca
   simp only [List.append_assoc]
 ·subst h0
  have h2:=Jd5 (af:=af) (lf:=lf) hs lb 40
  have h5:=R69 (bf:=bf) (lf:=lf) hs la i
  have h3:i < 40:=hi
  have h4:(outs s bf af lf 40++ins s bf af lf i).length≤5000:=by rw [Mh]; omega
  generalize hg:outs s bf af lf 40++ins s bf af lf i=g at h4 h1 ⊢
  refine Gt (J65 hF ha la) (Gt (R75 _ _ _ (pl la) (by omega)) ?_)
  refine Gt (R31 hF hs hb ha lb la) (Gt (Z14 _ _ _ nl ?_) ?_)
  ·rw [Mh,Mm]; have:=pl la (bay:=(i:Int)) (deck:=false); omega
  refine Gt (J65 hF ha la) (Gt (R75 _ _ _ (pl la) ?_) (h1 _ ?_))
  ·rw [Mh,Mh,Mm,Mm]; have:=pl la (bay:=(i:Int)) (deck:=false); have:=nl (bay:=(i:Int)); omega
  ·rw [Jde,← List.append_assoc (outs s bf af lf 40),hg]
   unfold J8d
   simp only [List.append_assoc]
theorem Yca (hs:H74 s) (lb:bf.length≤12) (la:af.length≤12):(G66 s bf af lf).length≤4000:=by
 have h1:=Jd5 (af:=af) (lf:=lf) hs lb 40
 have h2:=R69 (bf:=bf) (lf:=lf) hs la 40
 unfold G66
 rw [Mh]; omega
end
set_option linter.unusedVariables false
section
variable {κ ν:Type} [DecidableEq κ]
theorem Yfe {l:List (κ×ν)} (hn:(l.map (·.1)).Nodup) {a:κ} {v:ν}:G30 l a=some v ↔ (a,v)∈l:=by
 constructor
 ·intro h
  unfold G30 at h
  obtain⟨p,hp,rfl⟩:=Option.map_eq_some_iff.1 h
  have h1:=List.mem_of_find?_eq_some hp
  have h2:p.1=a:=by simpa using List.find?_some hp
  subst h2
  exact h1
 ·intro h
  obtain⟨j,hj⟩:=List.mem_iff_getElem?.1 h
  exact(J0b hn hj).1
theorem R55 (m:Gv κ ν) {a:κ} {v:ν}:G30 (Gv.Hc m) a=some v ↔ (a,v)∈Gv.Hc m:=Yfe m.nd
theorem Ye1 (m:Gv κ ν) {a:κ}:Gv.has m a=true ↔ ∃ v,(a,v)∈Gv.Hc m:=by
 unfold Gv.has
 rw [Qc5,Mo]
 exact⟨fun⟨p,hp,e⟩=>⟨p.2,by subst e; exact hp⟩,fun⟨v,hv⟩=>⟨(a,v),hv,rfl⟩⟩
theorem J34 (m:Gv κ ν) {a:κ} {v z:ν} (h:(a,v)∈Gv.Hc m):Gv.get m a z=v:=by
 unfold Gv.get
 rw [(R55 m).2 h]; rfl
theorem Y6f (m:Gv κ ν) {a:κ} {z:ν} (h:∀ v,(a,v) ∉ Gv.Hc m):Gv.get m a z=z:=by
 unfold Gv.get
 cases hq:G30 (Gv.Hc m) a with
 | none=>rfl
 | some v=>exact(h v ((R55 m).1 hq)).elim
theorem Q7f (m:Gv κ ν) {a b:κ} {v w:ν}:(b,w)∈Gv.Hc (Gv.put m a v) ↔ (b=a∧w=v)∨(b≠a∧(b,w)∈Gv.Hc m):=by
 rw [← R55]
 have e:Gv.Hc (Gv.put m a v)=H02 (Gv.Hc m) a v:=R19 m.l a v
 rw [e,Hdd]
 by_cases h:a=b
 ·subst h
  rw [if_pos rfl]
  constructor
  ·intro h; cases h; exact .inl ⟨rfl,rfl⟩
  ·rintro(⟨_,rfl⟩ | ⟨h,_⟩)
   ·rfl
   ·exact(h rfl).elim
 ·rw [if_neg h,R55]
  exact⟨fun g=>.inr ⟨fun e=>h e.symm,g⟩,fun g=>g.elim (fun g=>(h g.1.symm).elim) (·.2)⟩
theorem Rfe (m:Gv κ ν) {a b:κ} {w:ν}:(b,w)∈Gv.Hc (Gv.del m a) ↔ b≠a∧(b,w)∈Gv.Hc m:=by
 have e:Gv.Hc (Gv.del m a)=(Gv.Hc m).filter (fun p=>decide (p.1≠a)):=R22 m.l a
 rw [e,Mr,Mk]
 exact⟨fun h=>⟨h.2,h.1⟩,fun h=>⟨h.2,h.1⟩⟩
omit [DecidableEq κ] in
theorem Q80 {a:κ} {v:ν}:(a,v) ∉ Gv.Hc (Gv.empty:Gv κ ν):=fun h=>by cases h
end
structure St where
 l:List G1
 o:List Int
 a:List Int
structure Good (s:Gi) (boxes:List Box) (t:St):Prop where
 ship:J93 s
 right:R6 s boxes t.l
 opn:G96 s t.o
 free:∀ k∈t.o,Q61 s t.l k
 box:∀ i∈t.a,∃ b,Qf boxes i=some b∧(b.Size=20∨b.Size=40)
 asc:t.a.Pairwise (· < ·)
 disj:∀ i∈t.a,i ∉ t.l.map (·.Box)
 num:t.l.length+t.a.length≤10
structure H57 (s:Gi) (boxes:List Box) (m:Gc) (t:St):Prop where
 cols:m.ship.Columns=s.Columns
 covs:m.ship.Covers=s.Covers
 on:∀ x b,(x,b)∈Gv.Hc m.on ↔ (⟨b.ID,x⟩:G1)∈t.l∧Qf boxes b.ID=some b
 quay:∀ i b,(i,b)∈Gv.Hc m.quay ↔ i∈t.a∧Qf boxes i=some b
 opn:∀ k v,(k,v)∈Gv.Hc m.open_ ↔ k∈t.o∧v=1
theorem G95 {boxes:List Box} {i:Int} {b:Box} (h:Qf boxes i=some b):b.ID=i:=M1 (List.find?_some (p:=fun b:Box=>decide (b.ID=i)) h)
theorem Good.sta {s:Gi} {boxes:List Box} {t:St} (h:Good s boxes t):Sta s boxes t.l:=⟨h.ship,h.right,by have:=h.num; omega⟩
theorem H4f {l:List G1} (h:l.Pairwise (fun a b=>a.Box < b.Box)):(l.map (·.Box)).Nodup:=Ro (List.pairwise_map.2 h)
theorem Y4b {l:List G1} (h:l.Pairwise (fun a b=>a.Box < b.Box)):l.Nodup:=h.imp (fun {a b} h0 e=>by subst e; omega)
section
variable {s:Gi} {boxes:List Box} {m:Gc} {t:St}
theorem Q78 (hG:Good s boxes t) (hR:H57 s boxes m t):(onB m).Perm t.l:=by
 refine(List.perm_ext_iff_of_nodup ?_ (Y4b hG.right.sorted)).2 fun x=>?_
 ·have h:((Gv.Hc m.on).map (·.1)).Nodup:=m.on.nd
  unfold onB
  refine List.pairwise_map.2 ((List.pairwise_map.1 h).imp fun {p q} h0 e=>h0 ?_)
  exact congrArg G1.Slot e
 ·unfold onB
  rw [Mo]
  constructor
  ·rintro⟨⟨y,b⟩,hp,rfl⟩
   exact((hR.on y b).1 hp).1
  ·intro hx
   obtain⟨b,hb,_⟩:=hG.right.each x hx
   have e:=G95 hb
   refine⟨(x.Slot,b),(hR.on x.Slot b).2 ⟨by rw [e]; exact hx,by rw [e]; exact hb⟩,?_⟩
   show G1.mk b.ID x.Slot=x
   rw [e]
theorem Za2 (hG:Good s boxes t) (hR:H57 s boxes m t) {is:Slot→Option Bool} {p:Slot→Bool} (h:∀ y∈t.l,is y.Slot=some (p y.Slot)):Zy m is=some (t.l.any fun y=>p y.Slot):=by
 have hp:=Q78 hG hR
 have h0:∀ q∈Gv.Hc m.on,is q.1=some (p q.1):=fun q hq=>h (Q07 q) (hp.mem_iff.1 (Mo.2 ⟨q,hq,rfl⟩))
 unfold Zy
 have h1:(Gv.Hc m.on).all (fun p=>(is p.1).isSome)=true:=List.all_eq_true.2 fun q hq=>by rw [h0 q hq]; rfl
 rw [h1,cond_true,← Re6 hp]
 refine congrArg some ?_
 unfold onB
 rw [List.any_map,Bool.eq_iff_iff,List.any_eq_true,List.any_eq_true]
 exact⟨fun⟨q,hq,e⟩=>⟨q,hq,by rw [h0 q hq] at e; exact e⟩,fun⟨q,hq,e⟩=>⟨q,hq,by rw [h0 q hq]; exact e⟩⟩
theorem G40 {c half:Int} (x:G1) (l:List G1):Ry boxes (x::l) c half=Gec boxes c half 0 x+Ry boxes l c half:=by
 unfold Ry
 rw [List.foldl_cons,H90]
theorem Q5a {c half:Int} {a b:List G1} (h:a.Perm b):Ry boxes a c half=Ry boxes b c half:=by
 induction h with
 | nil=>rfl
 | cons x _ ih=>rw [G40,G40,ih]
 | swap x y l=>rw [G40,G40,G40,G40]; omega
 | trans _ _ h1 h2=>exact h1.trans h2
theorem R3e {c half:Int}:∀ l:List G1,0≤Ry boxes l c half∧Ry boxes l c half≤2896*(l.length:Int)
 | []=>⟨Int.le_refl _,by show (0:Int)≤_; simp⟩
 | x::l=>by
  have ih:=R3e (c:=c) (half:=half) l
  have h:=Je8 (boxes:=boxes) (column:=c) (half:=half) (n:=0) (x:=x)
  rw [G40,Md]
  omega
theorem Rbc (b:Box):hgt b=H86 b:=by
 unfold hgt H86
 cases b.High <;> rfl
theorem Y90 {c half:Int} {x:G1} {b:Box} (h:Qf boxes x.Box=some b):Gec boxes c half 0 x=if x.Slot.G3=c∧(x.Slot.Half=half∨x.Slot.Half=0) then H86 b else 0:=by
 unfold Gec
 rw [h]
 split
 ·exact Int.zero_add _
 ·rfl
theorem Y87 {c half:Int}:∀ es:List (Slot×Box),(∀ p∈es,Qf boxes p.2.ID=some p.2)→J0c c half es=Ry boxes (es.map Q07) c half
 | [],_=>rfl
 | p::r,h=>by
  rw [List.map_cons,G40,Y90 (x:=Q07 p) (b:=p.2) (h p (by simp)),← Y87 r (fun q hq=>h q (List.mem_cons_of_mem _ hq)),J0c]
  congr 1
  show _=if p.1.G3=c∧(p.1.Half=half∨p.1.Half=0) then H86 p.2 else 0
  unfold R6b
  by_cases hc:p.1.G3=c∧(p.1.Half=half∨p.1.Half=0)
  ·rw [if_pos hc,← Rbc]
   have:(decide (p.1.G3=c)&&(decide (p.1.Half=0)||decide (p.1.Half=half)))=true:=by
    simp only [Mj,Ms,Mk]
    exact⟨hc.1,hc.2.symm⟩
   rw [this]; rfl
  ·rw [if_neg hc]
   have:(decide (p.1.G3=c)&&(decide (p.1.Half=0)||decide (p.1.Half=half)))=false:=by
    rw [← Bool.not_eq_true]
    simp only [Mj,Ms,Mk]
    exact fun g=>hc ⟨g.1,g.2.symm⟩
   rw [this]; rfl
theorem Y86 (hG:Good s boxes t) (hR:H57 s boxes m t) (x:Slot) (b:Box) (half:Int):G2a m x b half=some ((if x.Half=half∨x.Half=0 then H86 b else 0)+Ry boxes t.l x.G3 half):=by
 have hp:=Q78 hG hR
 have e:J0c x.G3 half (Gv.Hc m.on)=Ry boxes t.l x.G3 half:=by
  rw [Y87 (boxes:=boxes) _ (fun p hp=>((hR.on p.1 p.2).1 hp).2)]
  exact Q5a hp
 have e2:(bif (decide (x.Half=0)||decide (x.Half=half)) then hgt b else 0)=(if x.Half=half∨x.Half=0 then H86 b else 0):=by
  by_cases hc:x.Half=half∨x.Half=0
  ·rw [if_pos hc,← Rbc]
   have:(decide (x.Half=0)||decide (x.Half=half))=true:=by
    simp only [Ms,Mk]; exact hc.symm
   rw [this]; rfl
  ·rw [if_neg hc]
   have:(decide (x.Half=0)||decide (x.Half=half))=false:=by
    rw [← Bool.not_eq_true]
    simp only [Ms,Mk]; exact fun g=>hc g.symm
   rw [this]; rfl
 have hb:=(R3e (boxes:=boxes) (c:=x.G3) (half:=half) t.l).2
 have hl:t.l.length≤10:=by have:=hG.num; omega
 unfold G2a
 rw [e,e2]
 have ht:H86 b≤2896:=by unfold H86; split <;> omega
 rw [M3 (show (if x.Half=half∨x.Half=0 then H86 b else 0)+Ry boxes t.l x.G3 half≤9223372036854775807 by split <;> omega),cond_true]
theorem R27 (hG:Good s boxes t) (hR:H57 s boxes m t) {i:Nat} {c:G3} (hc:s.Columns[i]? = some c):Rb m.ship (i:Int)=some (Jv s c):=by
 have hs:=J6a hG.ship
 have e:=H09 (s:=m.ship) (c:=c) (m:=i) (by rw [hR.cols]; exact hc) (fun x hx=>by rw [hR.covs] at hx; have:=hs.rows x hx; omega) (by rw [hR.covs]; have:=hs.covs; omega)
 unfold Jv at e ⊢
 rw [hR.covs] at e
 exact e
theorem R5f (hR:H57 s boxes m t) (k:Int):decide (0 < Gv.get m.open_ k 0)=decide (k∈t.o):=by
 by_cases h:k∈t.o
 ·rw [J34 m.open_ ((hR.opn k 1).2 ⟨h,rfl⟩),M3 h]; rfl
 ·rw [Y6f m.open_ (fun v hv=>h ((hR.opn k v).1 hv).1),M4 h]; rfl
theorem Rc2 (hG:Good s boxes t) (hR:H57 s boxes m t) {x:Slot} {i:Nat} {c:G3} (hx:x.G3=(i:Int)) (hc:s.Columns[i]? = some c):Wp (G5c m x) (fun r=>r=true ↔ J20 s t.o x):=by
 have h0:J20 s t.o x ↔ (0≤Jv s c∧(c.Deck=true ↔ Jv s c∈t.o)):=by
  constructor
  ·rintro⟨m',c',e1,e2,e3⟩
   have:m'=i:=by omega
   subst this
   rw [hc] at e2; cases e2
   exact e3
  ·exact fun e=>⟨i,c,hx,hc,e⟩
 unfold G5c
 rw [hx]
 refine Gt (R27 hG hR hc) ?_
 by_cases hk:0≤Jv s c
 ·rw [M3 hk]
  simp only [cond_true,Bool.true_and]
  refine H6 (Gp (H6 (Yq rfl (show m.ship.Columns[i]? = some c by rw [hR.cols]; exact hc) (Gp (Gp ?_)))))
  rw [R5f hR,h0,beq_iff_eq,Bool.eq_iff_iff,Mk]
  exact⟨fun h=>⟨hk,h.symm⟩,fun h=>h.2.symm⟩
 ·rw [M4 hk]
  refine H6 (Gp (H6 (Gp (Gp (Hcb fun hh=>hk (h0.1 hh).1)))))
end
def H2f (k:Int) (l:List Int):List Int:=l.filter (fun z=>decide (z < k))++k::l.filter (fun z=>decide (k < z))
def H92 (k:Int) (l:List Int):List Int:=l.filter (fun z=>decide (z≠k))
def H2e (y:G1) (l:List G1):List G1:=l.filter (fun z=>decide (z.Box < y.Box))++y::l.filter (fun z=>decide (y.Box < z.Box))
def H33 (k:Int) (l:List G1):List G1:=l.filter (fun z=>decide (z.Box≠k))
theorem G3e {k:Int} {l:List Int} {i:Int}:i∈H92 k l ↔ i∈l∧i≠k:=by unfold H92; rw [Mr,Mk]
theorem G3d {k:Int} {l:List Int} {i:Int}:i∈H2f k l ↔ i=k∨i∈l:=by
 unfold H2f
 rw [Mn,Mq,Mr,Mr,Mk,Mk]
 constructor
 ·rintro(h | h | h)
  ·exact .inr h.1
  ·exact .inl h
  ·exact .inr h.1
 ·rintro(h | h)
  ·exact .inr (.inl h)
  ·rcases Int.lt_trichotomy i k with g | g | g
   ·exact .inl ⟨h,g⟩
   ·exact .inr (.inl g)
   ·exact .inr (.inr ⟨h,g⟩)
theorem He2 {k:Int} {l:List Int} (h:l.Pairwise (· < ·)):(H2f k l).Pairwise (· < ·):=by
 unfold H2f
 refine List.pairwise_append.2 ⟨h.filter _,List.pairwise_cons.2 ⟨fun a ha=>M1 (Mr.1 ha).2,h.filter _⟩,fun a ha b hb=>?_⟩
 have h1:=M1 (Mr.1 ha).2
 rcases Mq.1 hb with rfl | hb
 ·exact h1
 ·have h2:=M1 (Mr.1 hb).2
  omega
theorem He5 {k:Int} {l:List Int} (h:l.Pairwise (· < ·)):(H92 k l).Pairwise (· < ·):=h.filter _
theorem Rd6 {k:Int} {l:List Int} (h:l.Pairwise (· < ·)) (hk:k ∉ l):(H2f k l).length=l.length+1:=by
 have hp:(H2f k l).Perm (k::l):=(List.perm_ext_iff_of_nodup (Ro (He2 h)) (List.nodup_cons.2 ⟨hk,Ro h⟩)).2 fun i=>by rw [G3d,Mq]
 rw [hp.length_eq,Md]
theorem Rdc {k:Int} {l:List Int} (h:l.Pairwise (· < ·)) (hk:k ∉ l):H92 k (H2f k l)=l:=
 H0f (He5 (He2 h)) h fun i=>by
  rw [G3e,G3d]
  exact⟨fun g=>g.1.resolve_left g.2,fun g=>⟨.inr g,fun e=>hk (e ▸ g)⟩⟩
theorem Qd1 {k:Int} {l:List Int} (h:l.Pairwise (· < ·)) (hk:k∈l):H2f k (H92 k l)=l:=
 H0f (He2 (He5 h)) h fun i=>by
  rw [G3d,G3e]
  constructor
  ·rintro(e | e)
   ·exact e ▸ hk
   ·exact e.1
  ·intro g
   by_cases e:i=k
   ·exact .inl e
   ·exact .inr ⟨g,e⟩
theorem Z0c {k:Int} {l:List Int} (h:l.Pairwise (· < ·)) (hk:k∈l):(H92 k l).length+1=l.length:=by
 have:=Rd6 (k:=k) (He5 (k:=k) h) (fun g=>(G3e.1 g).2 rfl)
 rw [Qd1 h hk] at this
 omega
theorem Qc7 {k:Int} {l:List G1} {y:G1}:y∈H33 k l ↔ y∈l∧y.Box≠k:=by unfold H33; rw [Mr,Mk]
theorem Ye6 {l:List G1} (hs:l.Pairwise (fun a b=>a.Box < b.Box)) {k:Int} (hk:k ∉ l.map (·.Box)):l=l.filter (fun z=>decide (z.Box < k))++l.filter (fun z=>decide (k < z.Box)):=by
 have e:l.filter (fun z=>decide (k < z.Box))=l.filter (fun z=>!decide (z.Box < k)):=List.filter_congr fun z hz=>by
  have:z.Box≠k:=fun e=>hk (Mo.2 ⟨z,hz,e⟩)
  by_cases h:z.Box < k
  ·rw [M3 h,M4 (by omega)]; rfl
  ·rw [M4 h,M3 (by omega)]; rfl
 refine H54 ?_ hs ?_
 ·rw [e]; exact(List.filter_append_perm _ _).symm
 ·refine List.pairwise_append.2 ⟨hs.filter _,hs.filter _,fun a ha b hb=>?_⟩
  have h1:=M1 (Mr.1 ha).2
  have h2:=M1 (Mr.1 hb).2
  omega
theorem H72 {l:List G1} (hs:l.Pairwise (fun a b=>a.Box < b.Box)) {y:G1} (hk:y.Box ∉ l.map (·.Box)):J94 l y (H2e y l):=by
 refine⟨_,_,Ye6 hs hk,rfl,fun z hz=>M1 (Mr.1 hz).2,fun z hz=>?_⟩
 have:=M1 (Mr.1 (List.mem_of_mem_head? (Option.mem_def.2 hz))).2
 omega
theorem J73 {pre post:List G1} {y:G1} (hs:(pre++y::post).Pairwise (fun a b=>a.Box < b.Box)):H33 y.Box (pre++y::post)=pre++post:=by
 obtain⟨s1,s2,s3⟩:=List.pairwise_append.1 hs
 unfold H33
 rw [List.filter_append,List.filter_cons_of_neg (by simp)]
 congr 1
 ·refine List.filter_eq_self.2 fun z hz=>M3 ?_
  have:=s3 z hz y (List.mem_cons_self ..)
  omega
 ·refine List.filter_eq_self.2 fun z hz=>M3 ?_
  have:=(List.pairwise_cons.1 s2).1 z hz
  omega
theorem Z0b {l:List G1} (hs:l.Pairwise (fun a b=>a.Box < b.Box)) {y:G1} (hk:y.Box ∉ l.map (·.Box)):H33 y.Box (H2e y l)=l:=by
 have h:=H72 hs hk
 obtain⟨pre,post,e1,e2,_⟩:=id h
 have:=H2d h hs hk
 rw [e2] at this ⊢
 rw [J73 this,e1]
theorem Y7d {l:List G1} (hs:l.Pairwise (fun a b=>a.Box < b.Box)) (k:Int):k ∉ (H33 k l).map (·.Box):=fun h=>by
 obtain⟨z,hz,e⟩:=Mo.1 h
 exact(Qc7.1 hz).2 e
theorem Z05 {l:List G1} (hs:l.Pairwise (fun a b=>a.Box < b.Box)) {y:G1} (hy:y∈l):H2e y (H33 y.Box l)=l:=by
 have hd:(H33 y.Box l).Pairwise (fun a b=>a.Box < b.Box):=hs.filter _
 obtain⟨pre,post,rfl⟩:=List.append_of_mem hy
 rw [J73 hs] at hd ⊢
 have hn:y.Box ∉ (pre++post).map (·.Box):=by rw [← J73 hs]; exact Y7d hs _
 exact Z9a (l:=[]) (H72 hd hn) hs
def Jfb (s:Gi) (t:St) (x:Move):Prop:=x.Box=0∧x.Slot=⟨0,0,0⟩∧0≤x.G9∧x.G9 < (s.Covers.length:Int)∧x.G9 ∉ t.o∧Q61 s t.l x.G9
def Jfa (s:Gi) (t:St) (x:Move):Prop:=x.Box=0∧x.Slot=⟨0,0,0⟩∧0≤x.G9∧x.G9 < (s.Covers.length:Int)∧x.G9∈t.o
def R01 (s:Gi) (t:St) (x:Move):Prop:=x.G9=0∧(⟨x.Box,x.Slot⟩:G1)∈t.l∧H4e t.l x.Slot=[]∧¬ Jb5 s t.o x.Slot
def Rf2 (s:Gi) (boxes:List Box) (t:St) (x:Move):Prop:=x.G9=0∧x.Box∈t.a∧∃ b,Qf boxes x.Box=some b∧G91 s x.Slot b.Size∧¬ J20 s t.o x.Slot∧¬ Rec t.l x.Slot∧H6e x.Slot (t.l.map (·.Slot))∧Ref s boxes (H2e ⟨x.Box,x.Slot⟩ t.l) x.Slot
def Can (s:Gi) (boxes:List Box) (t:St) (x:Move):Prop:=(x.Kind=1∧Jfb s t x)∨(x.Kind=4∧Jfa s t x)∨(x.Kind=2∧R01 s t x)∨(x.Kind=3∧Rf2 s boxes t x)
def nxt (t:St) (x:Move):St:=
 if x.Kind=1 then ⟨t.l,H2f x.G9 t.o,t.a⟩ else if x.Kind=4 then ⟨t.l,H92 x.G9 t.o,t.a⟩
 else if x.Kind=2 then ⟨H33 x.Box t.l,t.o,H2f x.Box t.a⟩ else ⟨H2e ⟨x.Box,x.Slot⟩ t.l,t.o,H92 x.Box t.a⟩
def G64 (x:Move):Int:=if x.Kind=2∨x.Kind=3 then 1 else 0
def opp (x:Move):Move:=⟨5 - x.Kind,x.Box,x.Slot,x.G9⟩
section
variable {s:Gi} {boxes:List Box} {t:St} {x:Move}
theorem Yfa (h:x.Kind=1):nxt t x=⟨t.l,H2f x.G9 t.o,t.a⟩:=by unfold nxt; rw [if_pos h]
theorem Yf7 (h:x.Kind=4):nxt t x=⟨t.l,H92 x.G9 t.o,t.a⟩:=by unfold nxt; rw [if_neg (by omega),if_pos h]
theorem Yf9 (h:x.Kind=2):nxt t x=⟨H33 x.Box t.l,t.o,H2f x.Box t.a⟩:=by unfold nxt; rw [if_neg (by omega),if_neg (by omega),if_pos h]
theorem Yf8 (h:x.Kind=3):nxt t x=⟨H2e ⟨x.Box,x.Slot⟩ t.l,t.o,H92 x.Box t.a⟩:=by unfold nxt; rw [if_neg (by omega),if_neg (by omega),if_neg (by omega)]
theorem Y9e {l l':List G1} {k:Int} (h:Q61 s l k) (hs:∀ y∈l',y∈l):Q61 s l' k:=fun y hy=>h y (hs y hy)
theorem Can.step (hG:Good s boxes t) (h:Can s boxes t x):Good s boxes (nxt t x):=by
 have h9:=hG.right.sorted
 rcases h with ⟨hk,h1,h2,h3,h4,h5,h6⟩ | ⟨hk,h1,h2,h3,h4,h5⟩ | ⟨hk,h1,h2,h3,h4⟩ | ⟨hk,h1,h2,b,h3,h4,h5,h6,h7,h8⟩
 ·rw [Yfa hk]
  refine⟨hG.ship,hG.right,⟨fun k h0=>?_,He2 hG.opn.sorted⟩,fun k h0=>?_,hG.box,hG.asc,hG.disj,hG.num⟩
  ·rcases G3d.1 h0 with rfl | h0
   ·exact⟨h3,h4⟩
   ·exact hG.opn.mem k h0
  ·rcases G3d.1 h0 with rfl | h0
   ·exact h6
   ·exact hG.free k h0
 ·rw [Yf7 hk]
  exact⟨hG.ship,hG.right,⟨fun k h0=>hG.opn.mem k (G3e.1 h0).1,He5 hG.opn.sorted⟩,fun k h0=>hG.free k (G3e.1 h0).1,hG.box,hG.asc,hG.disj,hG.num⟩
 ·rw [Yf9 hk]
  have a0:x.Box ∉ t.a:=fun h=>hG.disj _ h (Mo.2 ⟨_,h2,rfl⟩)
  obtain⟨pre,post,e⟩:=List.append_of_mem h2
  have hd:H33 x.Box t.l=pre++post:=by rw [e] at h9 ⊢; exact J73 h9
  have hr:R6 s boxes (H33 x.Box t.l):=by rw [hd]; exact Qbe (by rw [← e]; exact hG.right) (by rw [← e]; exact h3)
  have a1:∀ y∈H33 x.Box t.l,y∈t.l:=fun y hy=>(Qc7.1 hy).1
  refine⟨hG.ship,hr,hG.opn,fun k h0=>Y9e (hG.free k h0) a1,fun i hi=>?_,He2 hG.asc,fun i hi hm=>?_,?_⟩
  ·rcases G3d.1 hi with rfl | hi
   ·obtain⟨b,g1,g2,_⟩:=hG.right.each _ h2
    exact⟨b,g1,Y73 g2⟩
   ·exact hG.box i hi
  ·rcases G3d.1 hi with rfl | hi
   ·exact Y7d h9 _ hm
   ·obtain⟨z,hz,ez⟩:=Mo.1 hm
    exact hG.disj i hi (Mo.2 ⟨z,a1 z hz,ez⟩)
  ·have hn:=hG.num
   show (H33 x.Box t.l).length+(H2f x.Box t.a).length≤_
   rw [Rd6 hG.asc a0,hd]
   rw [e] at hn
   simp only [Mh,Md] at hn ⊢
   omega
 ·rw [Yf8 hk]
  have a0:x.Box ∉ t.l.map (·.Box):=hG.disj _ h2
  have a2:=H72 h9 (y:=⟨x.Box,x.Slot⟩) a0
  have hp:=G3f a2
  have hr:=Q0c hG.right h3 h4 h6 h7 a2 a0 h8
  have a3:∀ y,y∈H2e ⟨x.Box,x.Slot⟩ t.l ↔ y=⟨x.Box,x.Slot⟩∨y∈t.l:=fun y=>by rw [hp.mem_iff,Mq]
  refine⟨hG.ship,hr,hG.opn,fun k h0 y hy m c hm hc hd he=>?_,fun i hi=>hG.box i (G3e.1 hi).1,He5 hG.asc,fun i hi hm=>?_,?_⟩
  ·rcases (a3 y).1 hy with rfl | hy
   ·refine h5 ⟨m,c,hm,hc,?_,⟨fun _=>by rw [he]; exact h0,fun _=>hd⟩⟩
    have:=(hG.opn.mem k h0).1
    omega
   ·exact hG.free k h0 y hy m c hm hc hd he
  ·obtain⟨z,hz,ez⟩:=Mo.1 hm
   rcases (a3 z).1 hz with rfl | hz
   ·exact(G3e.1 hi).2 ez.symm
   ·exact hG.disj i (G3e.1 hi).1 (Mo.2 ⟨z,hz,ez⟩)
  ·have hn:=hG.num
   have:=Z0c hG.asc h2
   show (H2e ⟨x.Box,x.Slot⟩ t.l).length+(H92 x.Box t.a).length≤_
   rw [hp.length_eq,Md]
   omega
theorem Can.back (hG:Good s boxes t) (h:Can s boxes t x):Can s boxes (nxt t x) (opp x)∧nxt (nxt t x) (opp x)=t:=by
 have h0:=hG.right.sorted
 rcases h with ⟨hk,h1,h2,h3,h4,h5,h6⟩ | ⟨hk,h1,h2,h3,h4,h5⟩ | ⟨hk,h1,h2,h3,h4⟩ | ⟨hk,h1,h2,b,h3,h4,h5,h6,h7,h8⟩
 ·rw [Yfa hk]
  have ho:(opp x).Kind=4:=by show 5 - x.Kind=4; omega
  refine⟨.inr (.inl ⟨ho,h1,h2,h3,h4,G3d.2 (.inl rfl)⟩),?_⟩
  rw [Yf7 ho]
  show (⟨t.l,H92 x.G9 (H2f x.G9 t.o),t.a⟩:St)=t
  rw [Rdc hG.opn.sorted h5]
 ·rw [Yf7 hk]
  have ho:(opp x).Kind=1:=by show 5 - x.Kind=1; omega
  refine⟨.inl ⟨ho,h1,h2,h3,h4,fun g=>(G3e.1 g).2 rfl,hG.free _ h5⟩,?_⟩
  rw [Yfa ho]
  show (⟨t.l,H2f x.G9 (H92 x.G9 t.o),t.a⟩:St)=t
  rw [Qd1 hG.opn.sorted h5]
 ·rw [Yf9 hk]
  have ho:(opp x).Kind=3:=by show 5 - x.Kind=3; omega
  have h9:x.Box ∉ t.a:=fun h=>hG.disj _ h (Mo.2 ⟨_,h2,rfl⟩)
  have a0:H2e ⟨x.Box,x.Slot⟩ (H33 x.Box t.l)=t.l:=Z05 h0 h2
  obtain⟨b,g1,g2,g3⟩:=hG.right.each _ h2
  obtain⟨pre,post,e⟩:=List.append_of_mem h2
  have hd:H33 x.Box t.l=pre++post:=by rw [e] at h0 ⊢; exact J73 h0
  refine⟨.inr (.inr (.inr ⟨ho,h1,G3d.2 (.inl rfl),b,g1,g2,Yfb (boxes:=boxes) hG.free h2 h4,?_,?_,?_⟩)),?_⟩
  ·show ¬ Rec (H33 x.Box t.l) x.Slot
   rintro⟨y,hy,hm⟩
   have ha:=hG.right.apart
   rw [hd] at hy
   rw [e] at ha
   obtain⟨a1,a2,a3⟩:=List.pairwise_append.1 ha
   rcases Mn.1 hy with hy | hy
   ·exact a3 y hy _ (List.mem_cons_self ..) hm
   ·exact(List.pairwise_cons.1 a2).1 y hy (He0 hm)
  ·show H6e x.Slot ((H33 x.Box t.l).map (·.Slot))
   rw [hd]
   exact R3d (x:=⟨x.Box,x.Slot⟩) over_self (by rw [← e]; exact g3)
  ·show Ref s boxes (H2e ⟨x.Box,x.Slot⟩ (H33 x.Box t.l)) x.Slot
   rw [a0]
   exact fun m c _ hc=>hG.right.fits m c hc
  ·rw [Yf8 ho]
   show (⟨H2e ⟨x.Box,x.Slot⟩ (H33 x.Box t.l),t.o,H92 x.Box (H2f x.Box t.a)⟩:St)=t
   rw [a0,Rdc hG.asc h9]
 ·rw [Yf8 hk]
  have ho:(opp x).Kind=2:=by show 5 - x.Kind=2; omega
  have h9:x.Box ∉ t.l.map (·.Box):=hG.disj _ h2
  have a4:=H72 h0 (y:=⟨x.Box,x.Slot⟩) h9
  refine⟨.inr (.inr (.inl ⟨ho,h1,(G3f a4).mem_iff.2 (List.mem_cons_self ..),Z4a hG.right h4 h6 a4,fun g=>h5 (Z43 g)⟩)),?_⟩
  rw [Yf9 ho]
  show (⟨H33 x.Box (H2e ⟨x.Box,x.Slot⟩ t.l),t.o,H2f x.Box (H92 x.Box t.a)⟩:St)=t
  rw [show H33 x.Box (H2e ⟨x.Box,x.Slot⟩ t.l)=t.l from Z0b (y:=⟨x.Box,x.Slot⟩) h0 h9,Qd1 hG.asc h2]
end
end Go.Proofs.YtgcpimpnpcdmmaaGreat
