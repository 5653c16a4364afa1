/-
 The ships that twistlocklaw07.Built makes,and that they are What slot.Right,stow.Find and stow.Right say,in plain words. What stow.Right says,in plain words. All ways to pile boxes up: The library's insertion sort,aQ the extractor's model has it
-/
import Derived.Test.YtibhpogonkdiaaaGreatXV
import Derived.Test.YtibhpogonkdiaaaGreatEnds
set_option linter.unusedVariables false
set_option linter.unusedSimpArgs false
set_option linter.unnecessarySimpa false
set_option maxRecDepth 100000
namespace Go.Proofs.YtibhpogonkdiaaaGreat
open Go.RowKit

theorem Rf {n k:Nat} (hn:n≤1000001) (hk:k≤1000):decide (n*k≤140737488355328∧n≤maxLen)=true:=by
 have h:n*k≤1000001*1000:=Nat.mul_le_mul hn hk
 have h2:n≤maxLen:=Nat.le_trans hn (by decide)
 exact Ku ⟨by omega,h2⟩
def Byte (z:Int):Prop:=0≤z∧z≤255
structure R71 (c:G4):Prop where
 bay:0≤c.Bay∧c.Bay≤4
 row:0≤c.Row∧c.Row≤4
 tiers:2≤c.Tiers∧c.Tiers≤5
 height:c.Height=0
 k20:c.Kilos20=500000000
 k40:c.Kilos40=500000000
 lash:c.Lash=0
 plugs:c.Plugs=[]
 x : -26000≤c.X∧c.X≤26000
 y : -5000≤c.Y∧c.Y≤5000
 z:0≤c.Z∧c.Z≤20000
def Ra3 (c:G4):Int×Int×Bool:=(c.Bay,c.Row,c.Deck)
structure Q44 (x:Gs):Prop where
 bay:0≤x.Bay∧x.Bay≤4
 rows:x.Rows=[0,1]∨x.Rows=[2,3,4]
def Q7c (x:Gs):Int×Bool:=(x.Bay,decide (x.Rows=[0,1]))
structure Ref (l:List G4):Prop where
 len:l.length≤12
 each:∀ c∈l,R71 c
 nodup:(l.map Ra3).Nodup
structure Y6e (l:List Gs):Prop where
 len:l.length≤10
 each:∀ x∈l,Q44 x
 nodup:(l.map Q7c).Nodup
structure H6f (s:Gb):Prop where
 some:1≤s.Columns.length
 cols:Ref s.Columns
 covs:Y6e s.Covers

theorem Jb8 {l:List Hi} (h:∀ x∈l,x.low≤x.n∧x.n≤x.high):G31 l=some true:=by
 refine G6f ?_
 unfold G31
 refine Jb (fun _ _=>True) trivial (fun pre x post s nx e _ h0=>Hy (fun hc=>?_) (fun _=>h0 _ trivial)) (fun s _=>Gy rfl)
 have:=h x (by rw [e]; simp)
 simp only [Mi,Mb] at hc
 omega
theorem Q68 {c:G4} (h:R71 c):Zv c=some true:=by
 obtain⟨h1,h2,h3,h4,h5,h6,h7,h8,h9,h0,a0⟩:=h
 unfold Zv
 rw [h8,each]
 rw [Jb8]
 ·rfl
 ·intro x hx
  simp only [Mg,M0,or_false] at hx
  rcases hx with rfl | rfl | rfl | rfl | rfl | rfl | rfl | rfl | rfl | rfl <;> simp only <;> omega

theorem R91 {κ ν:Type} [DecidableEq κ] {a:κ} {v:ν} {l:List (κ×ν)} {e:κ×ν} (h:e∈Ge7 l a v):e=(a,v)∨e∈l:=by
 unfold Ge7 at h
 split at h
 ·obtain⟨p,hp,rfl⟩:=Me.1 h
  split
  ·exact .inl rfl
  ·exact .inr hp
 ·rcases Md.1 h with h | h
  ·exact .inr h
  ·exact .inl (Mf.1 h)
structure Q72 {κ:Type} [DecidableEq κ] (ks:List κ) (m:Gt κ Int):Prop where
 get:∀ k,Gt.get m k 0=if k∈ks then 1 else 0
 le:∀ e∈Gt.l m,e.2≤1
theorem Q72.start {κ:Type} [DecidableEq κ]:Q72 ([]:List κ) (Gt.empty:Gt κ Int):=⟨fun k=>by simp [Gt.get,Gt.empty,G67],fun e he=>by simp [Gt.empty] at he⟩
theorem Q72.snoc {κ:Type} [DecidableEq κ] {ks:List κ} {m:Gt κ Int} (h:Q72 ks m) {k:κ} (hk:k ∉ ks) {v:Int} (hv:v=1):Q72 (ks++[k]) (Gt.put m k v):=by
 subst hv
 refine⟨fun j=>?_,fun e he=>?_⟩
 ·have:=h.get j
  unfold Gt.get Gt.put at *
  simp only [H01]
  by_cases hj:k=j
  ·subst hj; simp
  ·rw [if_neg hj,this]
   have:(j∈ks++[k]) ↔ j∈ks:=by
    rw [Md,Mf]
    exact⟨fun h=>h.elim id (fun e=>(hj e.symm).elim),.inl⟩
   simp only [this]
 ·rcases R91 he with rfl | he
  ·exact Int.le_refl _
  ·exact h.le e he

def dk (b:Bool):Int:=bif b then 1 else 0
def k3 (c:G4):H6:=⟨c.Bay,c.Row,dk c.Deck⟩
def x3 (x:Gs):List H6:=x.Rows.map fun r=>⟨x.Bay,r,2⟩
structure Re1 (s:Gb):Prop where
 some:1≤s.Columns.length∧s.Columns.length≤200∧s.Covers.length≤40
 col:∀ c∈s.Columns,Zv c=Option.some true
 cov:∀ x∈s.Covers,0≤x.Bay∧x.Bay < 40∧x.Rows≠[]∧(∀ r∈x.Rows,0≤r∧r≤30)∧x.Rows.Pairwise (· < ·)∧x.Rows.length≤1000000
 nodup:(s.Columns.map k3++s.Covers.flatMap x3).Nodup

theorem J60 {s:Gb} (h:Re1 s):Jg s=some true:=by
 obtain⟨⟨h1,h2,h3⟩,h7,h8,h6⟩:=h
 refine G6f ?_
 unfold Jg Gfb
 refine Hy (fun hc=>?_) (fun _=>?_)
 ·simp only [Mi,Mb] at hc
  omega
 have fresh:∀ (a b:List H6) (k:H6),s.Columns.map k3++s.Covers.flatMap x3=a++k::b→k ∉ a:=fun a b k e hk=>by
  rw [e] at h6
  exact(List.nodup_append.1 h6).2.2 k hk k (List.mem_cons_self ..) rfl
 refine Jb (fun pre m=>Q72 (pre.map k3) m) Q72.start (fun pre y post m nx e hm h0=>?_) (fun m hm=>?_)
 ·refine Yf (fun j=>j=dk y.Deck) (fun K hK=>Hy (fun h=>hK _ (by rw [h]; rfl)) (fun h=>hK _ (by rw [h]; rfl))) (fun j hj=>?_)
  subst hj
  have hf:k3 y ∉ pre.map k3:=fresh (pre.map k3) (post.map k3++s.Covers.flatMap x3) (k3 y) (by rw [e]; simp)
  have hg:=hm.get (k3 y)
  rw [if_neg hf] at hg
  refine Gw (x:=0) (congrArg some hg) (Jd ⟨by omega,by omega⟩ (Gw (h7 y (by rw [e]; simp)) (Hy (fun h=>by cases h) (fun _=>h0 _ ?_))))
  rw [List.map_append]
  exact hm.snoc hf rfl
 ·refine Jb (fun pre m=>Q72 (s.Columns.map k3++pre.flatMap x3) m) (by simpa using hm) (fun pre y post m nx e hm h0=>?_) (fun m hm=>?_)
  ·obtain⟨c1,c2,c3,c4,c5,c6⟩:=h8 y (by rw [e]; simp)
   refine Hy (fun hc=>?_) (fun _=>?_)
   ·simp only [Mi,Mb] at hc
    have:y.Rows.length≠0:=fun h=>c3 (List.length_eq_zero_iff.1 h)
    omega
   refine Jb (fun pr m=>Q72 (s.Columns.map k3++pre.flatMap x3++pr.map (fun r=>(⟨y.Bay,r,2⟩:H6))) m) (by simpa using hm) (fun pr r pos m nx' e' hm h4=>?_) (fun m hm=>h0 _ ?_)
   ·obtain⟨r1,r2⟩:=c4 r (by rw [e']; simp)
    have h9:pr.length < y.Rows.length:=by rw [e']; simp
    have h5:0 < pr.length→∃ p,y.Rows[pr.length - 1]? = some p∧p < r:=fun hp=>by
     refine⟨y.Rows[pr.length - 1],by simp,?_⟩
     have:=List.pairwise_iff_getElem.1 c5 (pr.length - 1) pr.length (by omega) h9 (by omega)
     have e2:y.Rows[pr.length]=r:=by simp [e']
     rw [e2] at this; exact this
    have a0:(decide (r < 0)||decide (30 < r))=false:=by simp; omega
    simp only [a0,Bool.not_false,Bool.true_and,Bool.false_or]
    by_cases hp:0 < pr.length
    ·obtain⟨p,a1,a2⟩:=h5 hp
     have hd:decide (0 < (pr.length:Int))=true:=Ku (by omega)
     rw [hd]
     simp only [cond_true]
     refine H8 (Jd ⟨by omega,by omega⟩ (Gy (H8 (Qs (m:=pr.length - 1) (by omega) a1 (Gy ?_)))))
     refine Hy (fun hc=>?_) (fun _=>?_)
     ·simp at hc; omega
     ·have hf:(⟨y.Bay,r,2⟩:H6) ∉ s.Columns.map k3++pre.flatMap x3++pr.map (fun r=>(⟨y.Bay,r,2⟩:H6)):=fresh _ (pos.map (fun r=>(⟨y.Bay,r,2⟩:H6))++post.flatMap x3) _ (by rw [e]; simp [x3,e'])
      have hg:=hm.get ⟨y.Bay,r,2⟩
      rw [if_neg hf] at hg
      refine Gw (x:=0) (congrArg some hg) (Jd ⟨by omega,by omega⟩ (h4 _ ?_))
      rw [List.map_append,← List.append_assoc]
      exact hm.snoc hf rfl
    ·have hd:decide (0 < (pr.length:Int))=false:=Kv (by omega)
     rw [hd]
     simp only [cond_false,Bool.false_and]
     refine H8 (Gy (H8 (Gy ?_)))
     ·have hf:(⟨y.Bay,r,2⟩:H6) ∉ s.Columns.map k3++pre.flatMap x3++pr.map (fun r=>(⟨y.Bay,r,2⟩:H6)):=fresh _ (pos.map (fun r=>(⟨y.Bay,r,2⟩:H6))++post.flatMap x3) _ (by rw [e]; simp [x3,e'])
      have hg:=hm.get ⟨y.Bay,r,2⟩
      rw [if_neg hf] at hg
      refine Gw (x:=0) (congrArg some hg) (Jd ⟨by omega,by omega⟩ (h4 _ ?_))
      rw [List.map_append,← List.append_assoc]
      exact hm.snoc hf rfl
   ·rw [List.flatMap_append,← List.append_assoc]
    simpa [x3] using hm
  ·rw [J06]
   refine Gy ?_
   have:(Gt.l m).any (fun x=>decide (1 < x.2))=false:=List.any_eq_false.2 (fun x hx=>by have:=hm.le x hx; simp; omega)
   rw [this]; rfl

theorem J1a {s:Gb} (h:H6f s):Re1 s:=by
 obtain⟨h1,⟨h2,h3,h4⟩,⟨h5,h6,h7⟩⟩:=h
 refine⟨⟨h1,by omega,by omega⟩,fun c hc=>Q68 (h3 c hc),fun x hx=>?_,?_⟩
 ·obtain⟨⟨b1,b2⟩,hr⟩:=h6 x hx
  rcases hr with h | h <;> rw [h] <;> refine⟨b1,by omega,by simp,by simp,by simp,by simp⟩
 ·refine List.nodup_append.2 ⟨?_,?_,?_⟩
  ·have a0:=List.pairwise_map.1 h4
   refine List.pairwise_map.2 (a0.imp (fun {a b} h0 e=>h0 ?_))
   simp only [k3,H6.mk.injEq] at e
   obtain⟨e1,e2,e3⟩:=e
   have e4:a.Deck=b.Deck:=by
    revert e3
    cases a.Deck <;> cases b.Deck <;> simp [dk]
   simp only [Ra3,e1,e2,e4]
  ·refine List.pairwise_flatMap.2 ⟨fun x hx=>?_,?_⟩
   ·refine List.pairwise_map.2 ?_
    rcases (h6 x hx).rows with h | h <;> rw [h] <;> simp
   ·have a1:=List.pairwise_map.1 h7
    have h9:s.Covers.Pairwise (fun a b=>Q7c a≠Q7c b∧Q44 a∧Q44 b):=
     List.pairwise_iff_getElem.2 (fun i j hi hj a2=>⟨List.pairwise_iff_getElem.1 a1 i j hi hj a2,h6 _ (List.getElem_mem hi),h6 _ (List.getElem_mem hj)⟩)
    refine h9.imp (fun {a b} h0 p hp q hq e=>?_)
    obtain⟨a3,ha,hb⟩:=h0
    obtain⟨r,hr,rfl⟩:=Me.1 hp
    obtain⟨r',h8,rfl⟩:=Me.1 hq
    simp only [H6.mk.injEq] at e
    obtain⟨e1,e2,_⟩:=e
    subst e2
    apply a3
    rcases ha.rows with h | h <;> rcases hb.rows with h' | h' <;> rw [h] at hr <;> rw [h'] at h8 <;> simp [Q7c,e1,h,h'] at hr h8 ⊢ <;> omega
  ·intro a ha b hb e
   obtain⟨c,_,rfl⟩:=Me.1 ha
   obtain⟨x,_,hx⟩:=List.mem_flatMap.1 hb
   obtain⟨r,_,rfl⟩:=Me.1 hx
   simp only [k3,H6.mk.injEq] at e
   have:=e.2.2
   revert this
   cases c.Deck <;> simp [dk]
theorem J72 {s:Gb} (h:H6f s):Jg s=some true:=J60 (J1a h)

theorem G42 {α β:Type} {x:α} {k:α→Option β}:bnd (some x) k=k x:=rfl
def J12 {α:Type} (p:α→Bool) (l:List α):Int:=match l.findIdx? p with
 | some j=>(j:Int)
 | none => -1
theorem H19 {α:Type} {p:α→Bool} {f:α→Option Bool} {xs:List α} (hf:∀ x∈xs,f x=some (p x)) :
  each (fun y i (_:Unit) nx=>bnd (f y) fun r=>bif r then some (i:Int) else nx ()) (fun _=>some (-1)) xs 0 ()=some (J12 p xs):=by
 have key:∀ (xs:List α),(∀ x∈xs,f x=some (p x))→∀ i:Nat,each (fun y i (_:Unit) nx=>bnd (f y) fun r=>bif r then some (i:Int) else nx ()) (fun _=>some (-1)) xs i ()=some (match xs.findIdx? p with
  | some j=>((i+j:Nat):Int)
  | none => -1):=by
  intro xs
  induction xs with
  | nil=>intro _ i; rfl
  | cons x xs ih=>
   intro hf i
   rw [each,hf x (List.mem_cons_self ..),G42,List.findIdx?_cons]
   cases p x with
   | true=>simp
   | false=>
    simp only [cond_false]
    rw [ih (fun y hy=>hf y (List.mem_cons_of_mem _ hy)) (i+1)]
    cases xs.findIdx? p with
    | none=>simp
    | some j=>show some (((i+1+j:Nat)):Int)=some (((i+(j+1):Nat)):Int); rw [show i+1+j=i+(j+1) by omega]
 rw [key xs hf 0]
 unfold J12
 cases xs.findIdx? p <;> simp
theorem He7 {α:Type} (p:α→Bool) (l:List α):(J12 p l = -1∧(∀ x∈l,p x=false)∧l.find? p=none)∨∃ (m:Nat) (x:α),J12 p l=(m:Int)∧l[m]? = some x∧p x=true∧l.find? p=some x:=by
 unfold J12
 cases h:l.findIdx? p with
 | none=>
  have:=List.findIdx?_eq_none_iff.1 h
  exact .inl ⟨rfl,this,List.find?_eq_none.2 (fun x hx=>by rw [this x hx]; simp)⟩
 | some j=>
  obtain⟨hj,h1,h2⟩:=List.findIdx?_eq_some_iff_getElem.1 h
  refine .inr ⟨j,l[j],rfl,by simp [hj],h1,?_⟩
  refine List.find?_eq_some_iff_getElem.2 ⟨h1,j,hj,rfl,fun k hk=>?_⟩
  simpa using h2 k hk
theorem Gd9 {α:Type} {p:α→Bool} {l:List α}:decide (0≤J12 p l)=l.any p:=by
 rcases He7 p l with ⟨h1,h2,_⟩ | ⟨m,x,h1,h2,h3,_⟩
 ·rw [h1]
  refine Eq.symm (List.any_eq_false.2 fun x hx=>?_)
  rw [h2 x hx]; exact Bool.false_ne_true
 ·rw [h1,Ku (by omega)]
  exact(List.any_eq_true.2 ⟨x,Kz h2,h3⟩).symm

def G81 (boxes:List Box) (id:Int):Option Box:=boxes.find? (fun b=>decide (b.ID=id))
theorem Haa (boxes:List Box) (id:Int):G36 boxes id=some (match G81 boxes id with
  | some b=>(b,true)
  | none=>(Box.mk 0 ByteArray.empty 0 false 0 0 0 0 false,false)):=by
 unfold G36
 have h:R5 boxes (fun z0=>G7a z0 id)=some (J12 (fun b:Box=>decide (b.ID=id)) boxes):=H19 (fun x _=>rfl)
 rw [h]
 simp only [G42]
 unfold G81
 rcases He7 (fun b:Box=>decide (b.ID=id)) boxes with ⟨h1,_,h3⟩ | ⟨m,x,h1,h2,_,h4⟩
 ·rw [h1,h3]; rfl
 ·rw [h1,h4,Kv (by omega),cond_false]
  unfold Q4
  rw [Ku (by omega),cond_true,show (m:Int).toNat=m by omega,h2]
  rfl
def Q61 (l:List G1) (id:Int):Option G1:=l.find? (fun x=>decide (x.Box=id))

def Gf7 (size:Int):List Int:=if size=40 then [0] else if size=20 then [1,2] else []
theorem H8a (size:Int):G24 size=some (Gf7 size):=by
 unfold G24 Gf7
 by_cases h:size=40
 ·simp [h]
 ·by_cases h2:size=20
  ·simp [h2]
  ·simp [h,h2]
theorem Ra1 (l:List Int) (v:Int):Y7 l v=some (l.any (fun y=>decide (v=y))):=by
 unfold Y7
 have h:Zc l v=some (J12 (fun y=>decide (v=y)) l):=by
  unfold Zc
  exact H19 (f:=fun y=>some (decide (v=y))) (fun x _=>rfl)
 rw [h]
 simp only [G42]
 rw [Gd9]
theorem Q67 (l:List Slot) (v:Slot):Rj l v=some (l.any (fun y=>decide (v=y))):=by
 unfold Rj
 have h:Yp l v=some (J12 (fun y=>decide (v=y)) l):=by
  unfold Yp
  exact H19 (f:=fun y=>some (decide (v=y))) (fun x _=>rfl)
 rw [h]
 simp only [G42]
 rw [Gd9]

structure H3d (s:Gb) (x:Slot) (size:Int):Prop where
 col:∃ (m:Nat) (c:G4),x.G4=(m:Int)∧s.Columns[m]? = some c∧x.Tier < c.Tiers
 tier:0≤x.Tier
 half:x.Half∈Gf7 size
theorem R29 (s:Gb) (x:Slot) (size:Int):Wp (Gb1 s x size) (fun r=>r=true ↔ H3d s x size):=by
 unfold Gb1
 by_cases h0:0≤x.G4∧x.G4 < (s.Columns.length:Int)
 ·by_cases h1:0≤x.Tier
  ·obtain⟨m,hm⟩:∃ m:Nat,x.G4=(m:Int):=⟨x.G4.toNat,by omega⟩
   have h3:m < s.Columns.length:=by omega
   have hc:s.Columns[m]? = some s.Columns[m]:=by simp [h3]
   have e:(((decide (0≤x.G4))&&(decide (x.G4 < (s.Columns.length:Int))))&&(decide (0≤x.Tier)))=true:=by simp [h0.1,h0.2,h1]
   simp only [e,cond_true,Bool.true_and]
   refine H8 (Qs hm hc (Gy ?_))
   by_cases h2:x.Tier < (s.Columns[m]).Tiers
   ·rw [Ku h2]
    simp only [cond_true]
    refine Gw (H8a size) (Gw (Ra1 _ _) (Gy ?_))
    rw [Bool.true_and,List.any_eq_true]
    constructor
    ·rintro⟨y,hy,he⟩
     have:=Ks he
     subst this
     exact⟨⟨m,_,hm,hc,h2⟩,h1,hy⟩
    ·exact fun h=>⟨_,h.half,by simp⟩
   ·rw [Kv h2]
    simp only [cond_false,Bool.false_and]
    refine H8 (Gy (H8 (Gy (Gy ⟨fun h=>(by cases h),fun h=>?_⟩))))
    obtain⟨m',c,g1,g2,g3⟩:=h.col
    have:m'=m:=by omega
    subst this
    rw [hc] at g2; cases g2
    exact(h2 g3).elim
  ·simp only [Kv h1,Bool.and_false,cond_false,Bool.false_and]
   exact H8 (Gy (H8 (Gy (H8 (Gy (Gy ⟨fun h=>(by cases h),fun h=>(h1 h.tier).elim⟩))))))
 ·have e:((decide (0≤x.G4))&&(decide (x.G4 < (s.Columns.length:Int))))=false:=by
   by_cases h:0≤x.G4
   ·have:¬ x.G4 < (s.Columns.length:Int):=fun g=>h0 ⟨h,g⟩
    simp [this]
   ·simp [h]
  simp only [e,Bool.false_and,cond_false]
  refine H8 (Gy (H8 (Gy (H8 (Gy (Gy ⟨fun h=>(by cases h),fun h=>?_⟩))))))
  obtain⟨m,c,g1,g2,_⟩:=h.col
  have:=(Kw g2).1
  exact(h0 (by omega)).elim

def below (l:List Slot) (x:Slot) (half:Int):Prop:=(⟨x.G4,x.Tier - 1,half⟩:Slot)∈l
def R6e (x:Slot) (l:List Slot):Prop:=x.Tier≤0∨below l x x.Half∨(x.Half=0∧below l x 1∧below l x 2)
theorem Hdf (half:Int) (l:List Slot) (x:Slot) (ht : -1000000≤x.Tier∧x.Tier≤1000000):Wp (G25 half l x) (fun r=>r=true ↔ below l x half):=by
 unfold G25
 refine Jd ⟨by omega,by omega⟩ (Gw (Q67 _ _) (Gy ?_))
 rw [List.any_eq_true]
 constructor
 ·rintro⟨y,hy,he⟩
  have:=Ks he
  subst this
  exact hy
 ·exact fun h=>⟨_,h,by simp⟩
theorem R88 (x:Slot) (l:List Slot) (ht : -1000000≤x.Tier∧x.Tier≤1000000):Wp (Gdf x l) (fun r=>r=true ↔ R6e x l):=by
 unfold Gdf R6e
 refine Hy (fun h=>Gy ⟨fun _=>.inl (Ks h),fun _=>rfl⟩) (fun h=>?_)
 have h0:=Kt h
 refine H8 (wp_mono (Hdf x.Half l x ht) (fun r7 h7=>?_))
 cases r7 with
 | true=>
  simp only [Bool.not_true,Bool.false_and,cond_false,Bool.true_or]
  exact H8 (Gy (H8 (Gy (Gy ⟨fun _=>.inr (.inl (h7.1 rfl)),fun _=>rfl⟩))))
 | false=>
  have h1:¬ below l x x.Half:=fun h=>by have:=h7.2 h; cases this
  simp only [Bool.not_false,Bool.true_and,Bool.false_or]
  by_cases hh:x.Half=0
  ·rw [Ku hh]
   simp only [cond_true,Bool.true_and]
   refine H8 (wp_mono (Hdf 1 l x ht) (fun r8 h8=>?_))
   cases r8 with
   | true=>
    simp only [cond_true,Bool.true_and]
    refine H8 (wp_mono (Hdf 2 l x ht) (fun r9 h9=>Gy ⟨fun h=>.inr (.inr ⟨hh,h8.1 rfl,h9.1 h⟩),fun h=>?_⟩))
    rcases h with h | h | ⟨_,_,h⟩
    ·exact(h0 h).elim
    ·exact(h1 h).elim
    ·exact h9.2 h
   | false=>
    simp only [cond_false,Bool.false_and]
    refine H8 (Gy (Gy ⟨fun h=>(by cases h),fun h=>?_⟩))
    rcases h with h | h | ⟨_,h,_⟩
    ·exact(h0 h).elim
    ·exact(h1 h).elim
    ·have:=h8.2 h; cases this
  ·rw [Kv hh]
   simp only [cond_false,Bool.false_and]
   refine H8 (Gy (H8 (Gy (Gy ⟨fun h=>(by cases h),fun h=>?_⟩))))
   rcases h with h | h | ⟨h,_⟩
   ·exact(h0 h).elim
   ·exact(h1 h).elim
   ·exact(hh h).elim

def J85 (a b:Int):Prop:=a=b∨a=0∨b=0
theorem J5e (a b:Int):Wp (G4e a b) (fun r=>r=true ↔ J85 a b):=by
 unfold G4e J85
 refine Gy ?_
 simp [or_assoc]
def Qd0 (a b:Slot):Prop:=a.G4=b.G4∧a.Tier=b.Tier∧J85 a.Half b.Half
theorem R87 (a b:Slot):Wp (Gde a b) (fun r=>r=true ↔ Qd0 a b):=by
 unfold Gde Qd0
 by_cases h:a.G4=b.G4∧a.Tier=b.Tier
 ·simp only [Ku h.1,Ku h.2,Bool.and_self,cond_true,Bool.true_and]
  exact H8 (wp_mono (J5e _ _) (fun r hr=>Gy ⟨fun e=>⟨h.1,h.2,hr.1 e⟩,fun e=>hr.2 e.2.2⟩))
 ·have e:(decide (a.G4=b.G4)&&decide (a.Tier=b.Tier))=false:=by
   by_cases h1:a.G4=b.G4
   ·have:¬ a.Tier=b.Tier:=fun h2=>h ⟨h1,h2⟩
    simp [this]
   ·simp [h1]
  simp only [e,cond_false,Bool.false_and]
  exact H8 (Gy (Gy ⟨fun e=>(by cases e),fun e=>(h ⟨e.1,e.2.1⟩).elim⟩))
def Qce (a b:Slot):Prop:=a.G4=b.G4∧b.Tier < a.Tier∧J85 a.Half b.Half
theorem Q22 (a b:Slot):Wp (Gdd a b) (fun r=>r=true ↔ Qce a b):=by
 unfold Gdd Qce
 by_cases h:a.G4=b.G4∧b.Tier < a.Tier
 ·simp only [Ku h.1,Ku h.2,Bool.and_self,cond_true,Bool.true_and]
  exact H8 (wp_mono (J5e _ _) (fun r hr=>Gy ⟨fun e=>⟨h.1,h.2,hr.1 e⟩,fun e=>hr.2 e.2.2⟩))
 ·have e:(decide (a.G4=b.G4)&&decide (b.Tier < a.Tier))=false:=by
   by_cases h1:a.G4=b.G4
   ·have:¬ b.Tier < a.Tier:=fun h2=>h ⟨h1,h2⟩
    simp [this]
   ·simp [h1]
  simp only [e,cond_false,Bool.false_and]
  exact H8 (Gy (Gy ⟨fun e=>(by cases e),fun e=>(h ⟨e.1,e.2.1⟩).elim⟩))

def Qa0 (b:Box):Int:=if b.High then 2896 else 2591
def J7b (boxes:List Box) (column half:Int) (n:Int) (x:G1):Int:=
 if x.Slot.G4=column∧(x.Slot.Half=half∨x.Slot.Half=0) then (match G81 boxes x.Box with | some b=>n+Qa0 b | none=>n) else n
def Hb5 (boxes:List Box) (l:List G1) (column half:Int):Int:=l.foldl (J7b boxes column half) 0
theorem Y1c {boxes:List Box} {column half n:Int} {x:G1}:n≤J7b boxes column half n x∧J7b boxes column half n x≤n+2896:=by
 unfold J7b Qa0
 split
 ·split
  ·split <;> omega
  ·omega
 ·omega
theorem J59 (boxes:List Box) (l:List G1) (column half:Int) (hl:l.length≤1000000):G4d boxes l column half=some (Hb5 boxes l column half):=by
 refine G6f ?_
 unfold G4d Hb5
 refine Jb (fun pre n=>n=pre.foldl (J7b boxes column half) 0∧0≤n∧n≤2896*pre.length) ⟨rfl,Int.le_refl _,by simp⟩ (fun pre y post n nx e hn h5=>?_) (fun n hn=>Gy hn.1)
 obtain⟨rfl,h1,h2⟩:=hn
 have hp:pre.length+1≤l.length:=by rw [e]; simp
 have ha:=Y1c (boxes:=boxes) (column:=column) (half:=half) (n:=pre.foldl (J7b boxes column half) 0) (x:=y)
 have h4:((pre++[y]).length:Int)=pre.length+1:=by simp
 generalize hg:pre.foldl (J7b boxes column half) 0=n at *
 refine Yf (fun j=>j=J7b boxes column half n y) (fun K hK=>?_) (fun j hj=>h5 _ ⟨by rw [hj,List.foldl_append,hg]; rfl,by omega,by rw [h4]; omega⟩)
 refine Hy (fun hc=>?_) (fun hc=>hK _ ?_)
 ·have h0:y.Slot.G4=column∧(y.Slot.Half=half∨y.Slot.Half=0):=by simpa using hc
  refine Gw (Haa boxes y.Box) ?_
  cases hf:G81 boxes y.Box with
  | none=>exact Hy (fun h=>by cases h) (fun _=>hK _ (by unfold J7b; rw [if_pos h0,hf]))
  | some b=>
   refine Hy (fun _=>?_) (fun h=>by cases h)
   have ht:Gdb b=some (Qa0 b):=by unfold Gdb Qa0; cases b.High <;> rfl
   have h3:J7b boxes column half n y=n+Qa0 b:=by unfold J7b; rw [if_pos h0,hf]
   refine Gw ht (Jd ?_ (hK _ h3.symm))
   rw [← h3]
   omega
 ·have h0:¬ (y.Slot.G4=column∧(y.Slot.Half=half∨y.Slot.Half=0)):=by simpa using hc
  unfold J7b; rw [if_neg h0]
def Qd4 (boxes:List Box) (l:List G1) (m:Nat) (c:G4):Prop:=c.Height≤0∨(Hb5 boxes l m 1≤c.Height∧Hb5 boxes l m 2≤c.Height)
theorem R80 {s:Gb} {boxes:List Box} {l:List G1} {m:Nat} {c:G4} (hc:s.Columns[m]? = some c) (hl:l.length≤1000000):Wp (Gdc s boxes l (m:Int)) (fun r=>r=true ↔ Qd4 boxes l m c):=by
 unfold Gdc Qd4
 refine Qs rfl hc ?_
 by_cases h:c.Height≤0
 ·simp only [Ku h,Bool.not_true,cond_false,Bool.false_and,Bool.true_or]
  exact H8 (Gy (H8 (Gy (Gy ⟨fun _=>.inl h,fun _=>rfl⟩))))
 ·simp only [Kv h,Bool.not_false,cond_true,Bool.true_and,Bool.false_or]
  refine Gw (J59 boxes l m 1 hl) ?_
  by_cases h1:Hb5 boxes l m 1≤c.Height
  ·rw [Ku h1]
   simp only [cond_true,Bool.true_and]
   exact Gw (J59 boxes l m 2 hl) (Gy ⟨fun e=>.inr ⟨h1,Ks e⟩,fun e=>Ku (e.elim (fun e=>(h e).elim) (·.2))⟩)
  ·rw [Kv h1]
   simp only [cond_false,Bool.false_and]
   exact H8 (Gy (Gy ⟨fun e=>(by cases e),fun e=>e.elim (fun e=>(h e).elim) (fun e=>(h1 e.1).elim)⟩))

theorem R1c (l:List G1) (hl:l.length≤1000000):Gae l=some (l.map (·.Slot)):=by
 refine G6f ?_
 unfold Gae
 refine Jb (fun pre s=>s=pre.map (·.Slot)) rfl (fun pre y post s nx e hs h0=>?_) (fun s hs=>Gy hs)
 subst hs
 have hp:pre.length+1≤l.length:=by rw [e]; simp
 exact Jq (Rf (by simp only [Mc,M9]; omega) (by omega)) (h0 _ (by simp))

structure Zj (s:Gb) (boxes:List Box) (l:List G1):Prop where
 each:∀ x∈l,∃ b,G81 boxes x.Box=some b∧H3d s x.Slot b.Size∧R6e x.Slot (l.map (·.Slot))
 sorted:l.Pairwise (fun a b=>a.Box < b.Box)
 apart:l.Pairwise (fun a b=>¬ Qd0 b.Slot a.Slot)
 fits:∀ m c,s.Columns[m]? = some c→Qd4 boxes l m c

theorem G75 {α:Type} {R:α→α→Prop} {l:List α} {x:α} (h:l.Pairwise R) (hx:∀ a∈l,R a x):(l++[x]).Pairwise R:=by
 rw [List.pairwise_append]
 refine⟨h,List.pairwise_singleton ..,fun a ha b hb=>?_⟩
 rw [Mf] at hb; subst hb
 exact hx a ha
theorem Gf6 {α:Type} {R:α→α→Prop} {pre post:List α} {y:α} (h:(pre++y::post).Pairwise R):∀ a∈pre,R a y:=fun a ha=>(List.pairwise_append.1 h).2.2 a ha y (List.mem_cons_self ..)

theorem G58 {s:Gb} {boxes:List Box} {l:List G1} (hr:Jg s=some true) (ht:∀ c∈s.Columns,c.Tiers≤1000000) (hl:l.length≤1000000):Wp (Q9 s boxes l) (fun r=>r=true ↔ Zj s boxes l):=by
 unfold Q9
 refine Gw hr (Hy (fun h=>by cases h) (fun _=>?_))
 refine Gw (R1c l hl) ?_
 refine Jb (fun pre _=>(∀ x∈pre,∃ b,G81 boxes x.Box=some b∧H3d s x.Slot b.Size∧R6e x.Slot (l.map (·.Slot)))∧pre.Pairwise (fun a b=>a.Box < b.Box)∧pre.Pairwise (fun a b=>¬ Qd0 b.Slot a.Slot))
  ⟨fun x hx=>(M0 hx).elim,List.Pairwise.nil,List.Pairwise.nil⟩ (fun pre y post u nx e hI h4=>?_) (fun u hI=>?_)
 ·obtain⟨i1,i2,i3⟩:=hI
  have a8:pre.length < l.length:=by rw [e]; simp
  have hy:y∈l:=by rw [e]; simp
  have no:∀ {m:Option Bool},m=some false→¬ Zj s boxes l→Wp m (fun r=>r=true ↔ Zj s boxes l):=fun e h=>by subst e; exact Gy ⟨fun e=>(by cases e),fun e=>(h e).elim⟩
  refine Gw (Haa boxes y.Box) ?_
  cases hf:G81 boxes y.Box with
  | none=>
   simp only [Bool.not_false,Bool.not_true,Bool.false_and,cond_false,Bool.true_or,cond_true]
   refine H8 (Gy (H8 (Gy (H8 (Gy (H8 (Gy (no rfl fun h=>?_))))))))
   obtain⟨b,hb,_⟩:=h.each y hy
   rw [hf] at hb; cases hb
  | some b=>
   simp only [Bool.not_true,Bool.not_false,Bool.true_and,Bool.false_or]
   -- the order
   have h7:Wp (bif decide (0 < (pre.length:Int)) then chk ((pre.length:Int) - 1) some else some 0) (fun v=>Wp (bif decide (0 < (pre.length:Int)) then Q4 l v some else some default) (fun y20=>
     ((decide (0 < (pre.length:Int))&&decide (y.Box≤y20.Box))=true→¬ Zj s boxes l)∧((decide (0 < (pre.length:Int))&&decide (y.Box≤y20.Box))=false→∀ a∈pre,a.Box < y.Box))):=by
    rcases List.eq_nil_or_concat pre with hp | ⟨pre',z,hp⟩
    ·subst hp
     simp only [List.length_nil]
     exact Gy (Gy ⟨fun h=>by simp at h,fun _ a ha=>(M0 ha).elim⟩)
    ·have h2:pre=pre'++[z]:=by simpa using hp
     have a9:pre.length=pre'.length+1:=by rw [h2]; simp
     have hd:decide (0 < (pre.length:Int))=true:=Ku (by omega)
     have hz:l[pre'.length]? = some z:=by rw [e,h2]; simp
     rw [hd]
     simp only [cond_true,Bool.true_and]
     refine Jd ⟨by omega,by omega⟩ (Gy (Qs (m:=pre'.length) (by omega) hz (Gy ⟨fun h hR=>?_,fun h a ha=>?_⟩)))
     ·have:=Ks h
      have hs:=hR.sorted
      rw [e] at hs
      have:=Gf6 hs z (by rw [h2]; simp)
      omega
     ·have b0:¬ y.Box≤z.Box:=Kt h
      rw [h2] at ha
      rcases Md.1 ha with ha | ha
      ·have:=Gf6 (h2 ▸ i2:(pre'++z::[]).Pairwise _) a ha
       omega
      ·rw [Mf] at ha; subst ha; omega
   refine H8 (wp_mono h7 (fun v hv=>H8 (wp_mono hv (fun y20 a5=>?_))))
   obtain⟨n1,n2⟩:=a5
   generalize (decide (0 < (pre.length:Int))&&decide (y.Box≤y20.Box))=c at n1 n2
   cases c with
   | true=>
    simp only [Bool.not_true,cond_false,Bool.true_or,cond_true]
    exact H8 (Gy (H8 (Gy (no rfl (n1 rfl)))))
   | false=>
    simp only [Bool.not_false,cond_true,Bool.false_or]
    have h8:=n2 rfl
    refine H8 (wp_mono (R29 s y.Slot b.Size) (fun r21 a1=>?_))
    cases r21 with
    | false=>
     simp only [Bool.not_false,Bool.not_true,cond_false,Bool.true_or,cond_true]
     refine H8 (Gy (no rfl fun h=>?_))
     obtain⟨b',hb,hs,_⟩:=h.each y hy
     rw [hf] at hb; cases hb
     have:=a1.2 hs; cases this
    | true=>
     have h1:=a1.1 rfl
     simp only [Bool.not_true,Bool.not_false,cond_true,Bool.false_or]
     have h9 : -1000000≤y.Slot.Tier∧y.Slot.Tier≤1000000:=by
      obtain⟨m,c,_,hc,h3⟩:=h1.col
      have:=h1.tier
      have:=ht c (Kz hc)
      omega
     refine H8 (wp_mono (R88 y.Slot (l.map (·.Slot)) h9) (fun r22 a2=>?_))
     cases r22 with
     | false=>
      refine Hy (fun _=>no rfl fun h=>?_) (fun h=>by cases h)
      obtain⟨b',hb,_,hh⟩:=h.each y hy
      have:=a2.2 hh; cases this
     | true=>
      have a0:=a2.1 rfl
      refine Hy (fun h=>by cases h) (fun _=>?_)
      refine H8 (G56 (m:=pre.length) rfl (by rw [Mc]; omega) ?_)
      have a6:(l.map (·.Slot)).take pre.length=pre.map (·.Slot):=by rw [← List.map_take,e,List.take_left']; rfl
      rw [a6]
      refine Jb (fun pr _=>∀ a∈pr,¬ Qd0 y.Slot a) (fun a ha=>(M0 ha).elim) (fun pr a pos u nx2 e2 h5 a4=>?_) (fun u h5=>h4 _ ⟨fun x hx=>?_,G75 i2 h8,G75 i3 (fun a ha=>h5 a.Slot (Me.2 ⟨a,ha,rfl⟩))⟩)
      ·refine H8 (wp_mono (R87 y.Slot a) (fun r48 a3=>?_))
       refine Hy (fun h=>no rfl fun hR=>?_) (fun h=>a4 _ (fun a' h0=>?_))
       ·have hm:=a3.1 h
        have a7:a∈pre.map (·.Slot):=by rw [e2]; simp
        obtain⟨z,hz,rfl⟩:=Me.1 a7
        have ha:=hR.apart
        rw [e] at ha
        exact Gf6 ha z hz hm
       ·rcases Md.1 h0 with h0 | h0
        ·exact h5 a' h0
        ·rw [Mf] at h0; subst h0
         intro hm
         have:=a3.2 hm
         rw [this] at h; cases h
      ·rcases Md.1 hx with hx | hx
       ·exact i1 x hx
       ·rw [Mf] at hx; subst hx
        exact⟨b,hf,h1,a0⟩
 ·obtain⟨i1,i2,i3⟩:=hI
  refine Jb (fun pre _=>∀ m c,m < pre.length→s.Columns[m]? = some c→Qd4 boxes l m c) (fun m c h=>(Nat.not_lt_zero m h).elim) (fun pre y post u nx e hI h4=>?_) (fun u hI=>Gy ⟨fun _=>⟨i1,i2,i3,fun m c hc=>hI m c (Kw hc).1 hc⟩,fun _=>rfl⟩)
  have hc:s.Columns[pre.length]? = some y:=by rw [e]; simp
  refine H8 (wp_mono (R80 hc hl) (fun r hr=>?_))
  cases r with
  | false=>exact Hy (fun _=>Gy ⟨fun e=>(by cases e),fun h=>by have:=hr.2 (h.fits _ _ hc); cases this⟩) (fun h=>by cases h)
  | true=>
   refine Hy (fun h=>by cases h) (fun _=>h4 _ (fun m c hm h6=>?_))
   rw [M8,M9] at hm
   rcases Kq m pre.length with h | h
   ·exact hI m c h h6
   ·have:m=pre.length:=by omega
    subst this
    rw [hc] at h6; cases h6
    exact hr.1 rfl

def shut (ts hs:List Int) (c:Nat):Bool:=(hs.drop (c+1)).any (fun n=>decide (0 < n))||decide (ts.getD c 0≤hs.getD c 0)
def G41 (ts:List Int):Nat→List Int→List Int→List (List G1)
 | 0,_,_=>[]
 | F+1,ids,hs=>bif ids.isEmpty then [[]] else
   (List.range ts.length).flatMap fun c=>bif shut ts hs c then [] else
    (List.range ids.length).flatMap fun i=>(G41 ts F (ids.eraseIdx i) (hs.set c (hs.getD c 0+1))).map fun r=>(⟨ids.getD i 0,⟨(c:Int),hs.getD c 0,0⟩⟩:G1)::r
theorem Q37 {ts:List Int}:∀ {F:Nat} {ids hs:List Int} {r:List G1},ids.length < F→r∈G41 ts F ids hs→r.length=ids.length
 | F+1,ids,hs,r,hF,hr=>by
  unfold G41 at hr
  cases ids with
  | nil=>simp at hr; subst hr; rfl
  | cons a l=>
   simp only [List.isEmpty_cons,cond_false,List.mem_flatMap,List.mem_range] at hr
   obtain⟨c,hc,hr⟩:=hr
   cases h0:shut ts hs c with
   | true=>rw [h0] at hr; simp at hr
   | false=>
    rw [h0] at hr
    simp only [cond_false,List.mem_flatMap,List.mem_range,Me] at hr
    obtain⟨i,hi,q,hq,rfl⟩:=hr
    have hl:((a::l).eraseIdx i).length=l.length:=by rw [List.length_eraseIdx_of_lt (by simpa using hi)]; simp
    have:=Q37 (F:=F) (by rw [hl]; simp at hF; omega) hq
    rw [M4,this,hl,M4]
theorem Q66 (l:List Int) (p:Int→Bool) (f:Int→Option Bool) (hf:∀ x∈l,f x=some (p x)):R6 l f=some (l.any p):=by
 unfold R6 Zu
 rw [H19 hf,G42,Gd9]
theorem Jbb {α:Type} (f:Nat→List α) (n:Nat):(List.range (n+1)).flatMap f=(List.range n).flatMap f++f n:=by
 rw [List.range_succ,List.flatMap_append]; simp

theorem Q36 (s:Gb):∀ (F:Nat) (ids hs:List Int),hs.length=s.Columns.length→s.Columns.length≤1000→(∀ h∈hs,0≤h∧h+(ids.length:Int)≤1000)→ids.length < F→ids.length≤1000→G18 F ids s hs=some (G41 (s.Columns.map (·.Tiers)) F ids hs):=by
 intro F
 induction F with
 | zero=>intro ids hs h1 h2 h3 h4; omega
 | succ F ih=>
  intro ids hs h1 h2 h3 h4 h5
  show G1d (G18 F) ids s hs=_
  refine G6f ?_
  unfold G1d G41
  cases ids with
  | nil=>exact Gy rfl
  | cons a l=>
   obtain⟨ids,h0⟩:∃ ids,a::l=ids:=⟨_,rfl⟩
   have b0:ids.isEmpty=false:=by rw [← h0]; rfl
   have b5:0 < ids.length:=by rw [← h0]; simp
   rw [h0] at h3 h4 h5 ⊢
   rw [b0,cond_false]
   refine Hy (fun e=>by have:=Ks e; omega) (fun _=>?_)
   rw [Mc]
   refine Jb (fun pre s7=>s7=(List.range pre.length).flatMap fun c=>bif shut (s.Columns.map (·.Tiers)) hs c then [] else
    (List.range ids.length).flatMap fun i=>(G41 (s.Columns.map (·.Tiers)) F (ids.eraseIdx i) (hs.set c (hs.getD c 0+1))).map fun r=>(⟨ids.getD i 0,⟨(c:Int),hs.getD c 0,0⟩⟩:G1)::r)
    rfl (fun pre y post s7 nx e hI b1=>?_) (fun s7 hI=>Gy hI)
   have b6:pre.length < s.Columns.length:=by rw [e]; simp
   have hc:pre.length < hs.length:=by omega
   have a2:hs.getD pre.length 0=hs[pre.length]:=by simp [List.getD,hc]
   have b2:(s.Columns.map (·.Tiers)).getD pre.length 0=y.Tiers:=by
    have:s.Columns[pre.length]? = some y:=by rw [e]; simp
    simp [List.getD,this]
   have hh:=h3 _ (List.getElem_mem hc)
   refine Yf (fun s'=>s'=(List.range (pre++[y]).length).flatMap fun c=>bif shut (s.Columns.map (·.Tiers)) hs c then [] else
    (List.range ids.length).flatMap fun i=>(G41 (s.Columns.map (·.Tiers)) F (ids.eraseIdx i) (hs.set c (hs.getD c 0+1))).map fun r=>(⟨ids.getD i 0,⟨(c:Int),hs.getD c 0,0⟩⟩:G1)::r) (fun K hK=>?_) (fun s' b3=>b1 s' b3)
   rw [M8,M9] at hK
   simp only [Jbb] at hK
   refine H8 (G56 (m:=pre.length+1) rfl (by omega) ?_)
   refine Gw (Q66 _ (fun n=>decide (0 < n)) _ (fun x _=>rfl)) ?_
   have h6:shut (s.Columns.map (·.Tiers)) hs pre.length=((hs.drop (pre.length+1)).any (fun n=>decide (0 < n))||decide (y.Tiers≤hs[pre.length])):=by
    unfold shut; rw [a2,b2]
   have a3:shut (s.Columns.map (·.Tiers)) hs pre.length=true→Wp (K s7) (fun r=>r=(List.range s.Columns.length).flatMap fun c=>bif shut (s.Columns.map (·.Tiers)) hs c then [] else
    (List.range ids.length).flatMap fun i=>(G41 (s.Columns.map (·.Tiers)) F (ids.eraseIdx i) (hs.set c (hs.getD c 0+1))).map fun r=>(⟨ids.getD i 0,⟨(c:Int),hs.getD c 0,0⟩⟩:G1)::r):=fun h=>hK _ (by rw [h,cond_true,List.append_nil]; exact hI)
   cases h7:(hs.drop (pre.length+1)).any (fun n=>decide (0 < n)) with
   | true=>
    simp only [Bool.not_true,cond_false,Bool.true_or,cond_true]
    exact H8 (Gy (a3 (by rw [h6,h7]; rfl)))
   | false=>
    simp only [Bool.not_false,cond_true,Bool.false_or]
    refine H8 (Qs (m:=pre.length) rfl (Kx hc) (Gy ?_))
    refine Hy (fun ht=>a3 (by rw [h6,ht,Bool.or_true])) (fun ht=>?_)
    have a4:shut (s.Columns.map (·.Tiers)) hs pre.length=false:=by rw [h6,h7,ht]; rfl
    refine Jb (fun done s68=>s68=s7++(List.range done.length).flatMap fun i=>(G41 (s.Columns.map (·.Tiers)) F (ids.eraseIdx i) (hs.set pre.length (hs.getD pre.length 0+1))).map fun r=>(⟨ids.getD i 0,⟨(pre.length:Int),hs.getD pre.length 0,0⟩⟩:G1)::r)
     (by simp) (fun done y68 rest s68 nx2 e2 h8 a5=>?_) (fun s68 h8=>hK _ (by rw [h8,a4,cond_false,hI]))
    have b4:done.length < ids.length:=by rw [e2]; simp
    have a6:ids.getD done.length 0=y68:=by
     have:ids[done.length]? = some y68:=by rw [e2]; simp
     simp [List.getD,this]
    have h9:(ids.eraseIdx done.length).length=ids.length - 1:=List.length_eraseIdx_of_lt b4
    refine Qs (m:=pre.length) rfl (Kx hc) ?_
    refine Gw (J74 hs (by omega)) (Qs (m:=pre.length) rfl (Kx hc) (Jd ⟨by omega,by omega⟩ (Qs (m:=pre.length) rfl (Kx hc) ?_)))
    refine Gw (J74 ids (by omega)) ?_
    refine Gw (x:=ids.eraseIdx done.length) ?_ ?_
    ·unfold Zo
     rw [Ku (by omega:(0:Int)≤(done.length:Int)),Ku (by omega:(done.length:Int) < (ids.length:Int)),Ku (by push_cast; omega:((done.length+1:Nat):Int)=(done.length:Int)+1),Ku (by omega:ids.length≤100000)]
     simp
    refine Gw (x:=()) rfl ?_
    rw [Int.toNat_natCast]
    have a7:∀ h∈hs.set pre.length (hs[pre.length]+1),0≤h∧h+((ids.eraseIdx done.length).length:Int)≤1000:=fun h hm=>by
     rw [h9]
     rcases List.mem_or_eq_of_mem_set hm with hm | rfl
     ·have:=h3 h hm; omega
     ·omega
    have a8:=ih (ids.eraseIdx done.length) (hs.set pre.length (hs[pre.length]+1)) (by rw [List.length_set]; exact h1) h2 a7 (by omega) (by omega)
    refine Gw a8 ?_
    refine Jb (fun got s88=>s88=s68++got.map fun r=>(⟨y68,⟨(pre.length:Int),hs[pre.length],0⟩⟩:G1)::r) (by simp) (fun got y88 rest3 s88 nx3 e3 a0 a9=>?_) (fun s88 a0=>a5 _ ?_)
    ·have hm:y88∈G41 (s.Columns.map (·.Tiers)) F (ids.eraseIdx done.length) (hs.set pre.length (hs[pre.length]+1)):=by rw [e3]; simp
     have a1:=Q37 (by omega) hm
     refine Jq (Ku ⟨?_,?_⟩) (a9 _ ?_)
     ·rw [M9,a1,h9]; omega
     ·rw [M9,a1,h9]; exact Nat.le_trans (by omega:1+(ids.length - 1)≤1001) (by decide)
     ·rw [a0]; simp
    ·rw [a0,h8,M8,M9,Jbb,a6,a2,List.append_assoc]

section isort
variable {α:Type}
def J36 (c:α→α→Int) (x:α):List α→List α→List α
 | [],mid=>x::mid
 | p::rp,mid=>if c x p < 0 then J36 c x rp (p::mid) else (p::rp).reverse++x::mid
def H3b (c:α→α→Int):List α→List α→List α
 | d,[]=>d
 | d,x::t=>H3b c (J36 c x d.reverse []) t
def H49 (c:α→α→Int) (l:List α):List α:=H3b c [] l

theorem J35 (c:α→α→Int) (x:α):∀ (rp mid:List α),(J36 c x rp mid).Perm (rp.reverse++x::mid)
 | [],mid=>.refl _
 | p::rp,mid=>by
  unfold J36
  split
  ·refine(J35 c x rp (p::mid)).trans ?_
   rw [List.reverse_cons,List.append_assoc]
   refine List.Perm.append_left _ ?_
   exact List.Perm.swap p x mid
  ·exact .refl _
theorem J67 (c:α→α→Int):∀ (t d:List α),(H3b c d t).Perm (d++t)
 | [],d=>by rw [List.append_nil]; exact .refl _
 | x::t,d=>by
  unfold H3b
  refine(J67 c t _).trans ?_
  have h:=J35 c x d.reverse []
  rw [List.reverse_reverse] at h
  refine(h.append_right t).trans ?_
  simp
theorem Ze (c:α→α→Int) (l:List α):(H49 c l).Perm l:=J67 c l []
theorem Jcc {c:α→α→Int} {l:List α} {x:α}:x∈H49 c l ↔ x∈l:=(Ze c l).mem_iff
theorem J66 (c:α→α→Int) (l:List α):(H49 c l).length=l.length:=(Ze c l).length_eq

structure R42 (c:α→α→Int):Prop where
 asym:∀ x y,c x y < 0→¬ c y x < 0
 ntrans:∀ x y z,¬ c y x < 0→¬ c z y < 0→¬ c z x < 0
abbrev J79 (c:α→α→Int) (x y:α):Prop:=¬ c y x < 0

theorem J6a {c:α→α→Int} (hc:R42 c) (x:α):∀ (rp mid:List α),(rp.reverse++mid).Pairwise (J79 c)→(∀ y∈mid,c x y < 0)→(J36 c x rp mid).Pairwise (J79 c)
 | [],mid,h,hm=>by
  unfold J36
  exact List.pairwise_cons.2 ⟨fun y hy=>hc.asym _ _ (hm y hy),h⟩
 | p::rp,mid,h,hm=>by
  unfold J36
  split
  ·rename_i h0
   refine J6a hc x rp (p::mid) ?_ ?_
   ·rw [List.reverse_cons,List.append_assoc] at h; exact h
   ·intro y hy
    rcases Mg.1 hy with rfl | hy
    ·exact h0
    ·exact hm y hy
  ·rename_i h0
   rw [List.pairwise_append] at h ⊢
   refine⟨h.1,List.pairwise_cons.2 ⟨fun y hy=>hc.asym _ _ (hm y hy),h.2.1⟩,fun a ha b hb=>?_⟩
   rcases Mg.1 hb with rfl | hb
   ·have h2:J79 c a p:=by
     rw [List.reverse_cons,List.pairwise_append] at h
     rw [List.reverse_cons] at ha
     rcases Md.1 ha with ha | ha
     ·exact h.1.2.2 a ha p (by simp)
     ·have:a=p:=by simpa using ha
      subst this
      intro h1
      exact hc.asym _ _ h1 h1
    exact hc.ntrans _ _ _ h2 h0
   ·exact h.2.2 a ha b hb
theorem Hce {c:α→α→Int} (hc:R42 c):∀ (t d:List α),d.Pairwise (J79 c)→(H3b c d t).Pairwise (J79 c)
 | [],_,h=>h
 | x::t,d,h=>by
  unfold H3b
  exact Hce hc t _ (J6a hc x _ _ (by rw [List.reverse_reverse,List.append_nil]; exact h) (fun y hy=>by cases hy))
theorem Zz {c:α→α→Int} (hc:R42 c) (l:List α):(H49 c l).Pairwise (J79 c):=Hce hc l [] .nil
theorem H65 {β:Type} {l:List α} {i:Int} {k:α→Option β} {m:Nat} {x:α} (hi:i=(m:Int)) (hx:l[m]? = some x):Q4 l i k=k x:=by
 subst hi
 unfold Q4
 rw [Ku (by omega:(0:Int)≤m),cond_true,show (m:Int).toNat=m by omega,hx]
 rfl

end isort

end Go.Proofs.YtibhpogonkdiaaaGreat
