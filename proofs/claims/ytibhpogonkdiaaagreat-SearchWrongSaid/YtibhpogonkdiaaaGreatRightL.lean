/-
 The ships that twistlocklaw07.Built makes,and that they are What slot.Right,stow.Find and stow.Right say,in plain words.
-/
import Derived.Test.YtibhpogonkdiaaaGreatXV
set_option linter.unusedVariables false
set_option linter.unusedSimpArgs false
set_option linter.unnecessarySimpa false
set_option maxRecDepth 100000
namespace Go.Proofs.YtibhpogonkdiaaaGreat
open Go.RowKit

theorem G32 {n k:Nat} (hn:n≤1000001) (hk:k≤1000):decide (n*k≤140737488355328∧n≤maxLen)=true:=by
 have h:n*k≤1000001*1000:=Nat.mul_le_mul hn hk
 have h2:n≤maxLen:=Nat.le_trans hn (by decide)
 exact Kw ⟨by omega,h2⟩
def Byte (z:Int):Prop:=0≤z∧z≤255
structure H84 (p:H2):Prop where
 bay:Byte p.Bay
 row:Byte p.Row
 tiers:Byte p.Tiers

structure R17 (c:G5):Prop where
 bay:0≤c.Bay∧c.Bay≤4
 row:0≤c.Row∧c.Row≤4
 tiers:2≤c.Tiers∧c.Tiers≤5
 height:c.Height=0
 k20:c.Kilos20=500000000
 k40:c.Kilos40=500000000
 lash:c.Lash=0
 plugs:c.Plugs=[]
 x : -26000≤c.X∧c.X≤26000
 y : -5000≤c.Y∧c.Y≤5000
 z:0≤c.Z∧c.Z≤20000
def R42 (c:G5):Int×Int×Bool:=(c.Bay,c.Row,c.Deck)
def Gab (bay row:Int) (deck:Bool) (c:G5):Bool:=((decide (c.Bay=bay))&&(decide (c.Row=row)))&&(c.Deck==deck)
theorem Q70 {bay row:Int} {deck:Bool} {c:G5}:Gab bay row deck c=true ↔ R42 c=(bay,row,deck):=by
 simp [Gab,R42,and_assoc]
structure Jf7 (x:Gt):Prop where
 bay:0≤x.Bay∧x.Bay≤4
 rows:x.Rows=[0,1]∨x.Rows=[2,3,4]
def Q29 (x:Gt):Int×Bool:=(x.Bay,decide (x.Rows=[0,1]))
structure R88 (l:List G5):Prop where
 len:l.length≤12
 each:∀ c∈l,R17 c
 nodup:(l.map R42).Nodup
structure Y00 (l:List Gt):Prop where
 len:l.length≤10
 each:∀ x∈l,Jf7 x
 nodup:(l.map Q29).Nodup
structure H85 (s:Ge):Prop where
 some:1≤s.Columns.length
 cols:R88 s.Columns
 covs:Y00 s.Covers

theorem J90 {l:List G5} {wanted:G5→Option Bool} {p:G5→Bool} (hw:∀ x∈l,wanted x=some (p x)) (hl:l.length≤1000000):Ru l wanted=some (Hd8 p l):=by
 refine H46 ?_
 unfold Ru
 refine R4 (fun pre s=>s=Hd8 p pre) rfl (fun pre x post s nx e hs h0=>?_) (fun s hs=>H5 hs)
 subst hs
 have h1:pre.length+1≤l.length:=by rw [e]; simp
 refine G90 (fun j=>j=Hd8 p (pre++[x])) (fun K hK=>?_) (fun j hj=>h0 _ hj)
 refine Hh (hw x (by rw [e]; simp)) (Q6 (fun h=>Rk ?_ (hK _ ?_)) (fun h=>hK _ ?_))
 ·have:=Q67 p pre
  exact G32 (by rw [Mb]; omega) (by omega)
 ·rw [Je7,h]; rfl
 ·rw [Je7,h]; simp

theorem R3e {s:Ge} {bay row:Int} {deck:Bool} (hl:s.Columns.length≤1000000):Wp (Gbb s bay row deck) (fun r=>r.2=s.Columns.any (Gab bay row deck)):=by
 unfold Gbb
 refine Hh (J90 (p:=Gab bay row deck) (fun x _=>rfl) hl) (Q6 (fun h=>H5 ?_) (fun h=>?_))
 ·have h0:Hd8 (Gab bay row deck) s.Columns=[]:=by
   have:=Ku h
   exact List.length_eq_zero_iff.1 (by omega)
  refine Eq.symm (List.any_eq_false.2 (fun x hx=>?_))
  rw [Q66.1 h0 x hx]; exact Bool.false_ne_true
 ·have h0:Hd8 (Gab bay row deck) s.Columns≠[]:=by
   have:=Kv h
   intro e; rw [e] at this; exact this rfl
  have h1:∃ z,(Hd8 (Gab bay row deck) s.Columns)[0]? = some z:=by
   cases hh:Hd8 (Gab bay row deck) s.Columns with
   | nil=>exact(h0 hh).elim
   | cons z r=>exact⟨z,rfl⟩
  obtain⟨z,hz⟩:=h1
  refine Rb (m:=0) rfl hz (H5 ?_)
  refine Eq.symm ?_
  have:¬ ∀ x∈s.Columns,Gab bay row deck x=false:=fun h=>h0 (Q66.2 h)
  rw [List.any_eq_true]
  refine Classical.byContradiction fun hn=>this fun x hx=>?_
  cases hc:Gab bay row deck x with
  | false=>rfl
  | true=>exact(hn ⟨x,hx,hc⟩).elim

theorem J32 (l:List H2) (covers:Int) (hp:∀ p∈l,H84 p):Wp (R7 l covers) (fun s=>H85 s∧s.Columns.length≤max 1 l.length):=by
 unfold R7
 refine Ht (H1a (m:=min l.length 12) (by omega) (by omega) ?_)
 have h4:(l.take (min l.length 12)).length≤12:=by rw [List.length_take]; omega
 refine R4 (fun pre s=>∃ cols,s=([],0,0,0,0,[],[],[],0,0,0,0,cols)∧cols.length≤pre.length∧(∀ c∈cols,R17 c)∧(cols.map R42).Nodup)
  ⟨[],rfl,M3,fun c hc=>(M2 hc).elim,List.nodup_nil⟩ (fun pre y post s nx e hs h5=>?_) (fun s hs=>?_)
 ·obtain⟨cols,rfl,h1,h2,h3⟩:=hs
  have h7:pre.length+1≤12:=by rw [e] at h4; simp at h4; omega
  have hy:H84 y:=hp y (List.mem_of_mem_take (by rw [e]; simp:y∈l.take (min l.length 12)))
  obtain⟨⟨b1,b2⟩,⟨r1,r2⟩,⟨t1,t2⟩⟩:=hy
  refine G90 (fun j=>j.length≤(pre++[y]).length∧(∀ c∈j,R17 c)∧(j.map R42).Nodup) (fun K hK=>?_) (fun j hj=>h5 _ ⟨j,rfl,hj⟩)
  refine R3 ⟨by omega,by omega⟩ (Ht (Hec (by omega) ?_))
  refine R3 ⟨by omega,by omega⟩ (Ht (Hec (by omega) ?_))
  refine R3 ⟨by omega,by omega⟩ (Ht (Hec (by omega) ?_))
  have e1:y.Bay.tmod 5=y.Bay % 5:=Int.tmod_eq_emod_of_nonneg b1
  have e2:y.Row.tmod 5=y.Row % 5:=Int.tmod_eq_emod_of_nonneg r1
  have e3:y.Tiers.tmod 4=y.Tiers % 4:=Int.tmod_eq_emod_of_nonneg t1
  rw [e1,e2,e3]
  refine R3 ⟨by omega,by omega⟩ (R3 ⟨by omega,by omega⟩ (R3 ⟨by omega,by omega⟩ (R3 ⟨by omega,by omega⟩ (R3 ⟨by omega,by omega⟩ ?_))))
  refine G90 (fun z:Int=>0≤z∧z≤20000) (fun K' h0=>Q6 (fun _=>h0 _ ⟨by omega,by omega⟩) (fun _=>h0 _ ⟨by omega,by omega⟩)) (fun z hz=>?_)
  have hl:cols.length≤1000000:=by omega
  refine Ht (wp_mono (R3e hl) (fun r hr=>?_))
  refine Q6 (fun h=>Rk ?_ (hK _ ⟨?_,?_,?_⟩)) (fun h=>hK _ ⟨?_,h2,h3⟩)
  ·exact G32 (by rw [Mb]; show cols.length+1≤_; omega) (by omega)
  ·simp only [Ma,Mb]; omega
  ·intro c hc
   rcases Mf.1 hc with hc | hc
   ·exact h2 c hc
   ·rw [Mh] at hc; subst hc
    exact⟨⟨by simp only; omega,by simp only; omega⟩,⟨by simp only; omega,by simp only; omega⟩,⟨by simp only; omega,by simp only; omega⟩,rfl,rfl,rfl,rfl,rfl,⟨by simp only; omega,by simp only; omega⟩,⟨by simp only; omega,by simp only; omega⟩,hz⟩
  ·rw [List.map_append,List.nodup_append]
   refine⟨h3,by simp,fun a ha b hb=>?_⟩
   simp only [List.map_cons,List.map_nil,Mh] at hb
   subst hb
   obtain⟨c,hc,rfl⟩:=Mg.1 ha
   intro he
   have hf:r.2=false:=by simpa using h
   rw [hf] at hr
   have:=List.any_eq_false.1 hr.symm c hc
   exact this (Q70.2 he)
  ·simp only [Ma,Mb]; omega
 ·obtain⟨cols,rfl,h1,h2,h3⟩:=hs
  have h6:cols.length≤max 1 l.length:=by rw [List.length_take] at h1; omega
  have h1:cols.length≤12:=Nat.le_trans h1 h4
  refine G90 (fun j=>1≤j.length∧j.length≤max 1 l.length∧R88 j) (fun K hK=>Q6 (fun h=>hK _ ⟨M3,by simp only [Mb]; omega,?_⟩) (fun h=>hK _ ⟨?_,h6,⟨h1,h2,h3⟩⟩)) (fun cols' hc=>?_)
  ·refine⟨by simp,fun c hc=>?_,by simp⟩
   rw [Mh] at hc; subst hc
   exact⟨by simp,by simp,by simp,rfl,rfl,rfl,rfl,rfl,by simp,by simp,by simp⟩
  ·have:¬ ((cols.length:Int)=0):=Kv h
   show 1≤cols.length
   omega
  refine Rk (by decide) ?_
  have e5:(5:Int).toNat=5:=rfl
  rw [e5]
  refine Hc1 (fun i s=>∃ covs,s=(covs,0,0,0,0,[],[],[],0,0,0,0)∧covs.length≤2*i∧(∀ x∈covs,Jf7 x∧x.Bay < i)∧(covs.map Q29).Nodup)
   ⟨[],rfl,Nat.zero_le _,fun c hc=>(M2 hc).elim,List.nodup_nil⟩ (fun i s nx hi hs h5=>?_) (fun s hs=>?_)
  ·obtain⟨covs,rfl,g1,g2,g3⟩:=hs
   refine G90 (fun j:List Gt=>j.length≤2*(i+1)∧(∀ x∈j,Jf7 x∧x.Bay < (i+1:Nat))∧(j.map Q29).Nodup) (fun K hK=>?_) (fun j hj=>h5 _ ⟨j,rfl,hj⟩)
   refine G90 (fun j:List Gt=>j.length≤2*i+1∧(∀ x∈j,Jf7 x∧(x.Bay < i∨x=⟨i,[0,1]⟩))∧(j.map Q29).Nodup) (fun K' h0=>?_) (fun j hj=>?_)
   ·refine R3 ⟨by omega,by omega⟩ (Ht (H1a (m:=2*i) (by omega) (by omega) ?_))
    refine Q6 (fun h=>Rk ?_ (h0 _ ⟨?_,?_,?_⟩)) (fun h=>h0 _ ⟨(by show covs.length≤_; omega),fun x hx=>⟨(g2 x hx).1,.inl (g2 x hx).2⟩,g3⟩)
    ·exact G32 (by rw [Mb]; show covs.length+1≤_; omega) (by omega)
    ·simp only [Ma,Mb]; omega
    ·intro x hx
     rcases Mf.1 hx with hx | hx
     ·exact⟨(g2 x hx).1,.inl (g2 x hx).2⟩
     ·rw [Mh] at hx; subst hx
      exact⟨⟨⟨by simp only; omega,by simp only; omega⟩,.inl rfl⟩,.inr rfl⟩
    ·rw [List.map_append,List.nodup_append]
     refine⟨g3,by simp,fun a ha b hb=>?_⟩
     simp only [List.map_cons,List.map_nil,Mh] at hb
     subst hb
     obtain⟨c,hc,rfl⟩:=Mg.1 ha
     intro he
     have:=(g2 c hc).2
     have e2:c.Bay=i:=congrArg Prod.fst he
     omega
   ·obtain⟨q1,q2,q3⟩:=hj
    refine R3 ⟨by omega,by omega⟩ (R3 ⟨by omega,by omega⟩ (Ht (H1a (m:=2*i+1) (by omega) (by omega) ?_)))
    refine Q6 (fun h=>Rk ?_ (hK _ ⟨?_,?_,?_⟩)) (fun h=>hK _ ⟨by omega,fun x hx=>⟨(q2 x hx).1,?_⟩,q3⟩)
    ·exact G32 (by rw [Mb]; omega) (by omega)
    ·simp only [Ma,Mb]; omega
    ·intro x hx
     rcases Mf.1 hx with hx | hx
     ·refine⟨(q2 x hx).1,?_⟩
      rcases (q2 x hx).2 with h | h
      ·omega
      ·rw [h]; simp only; omega
     ·rw [Mh] at hx; subst hx
      exact⟨⟨⟨by simp only; omega,by simp only; omega⟩,.inr rfl⟩,by simp only; omega⟩
    ·rw [List.map_append,List.nodup_append]
     refine⟨q3,by simp,fun a ha b hb=>?_⟩
     simp only [List.map_cons,List.map_nil,Mh] at hb
     subst hb
     obtain⟨c,hc,rfl⟩:=Mg.1 ha
     intro he
     rcases (q2 c hc).2 with h | h
     ·have e2:c.Bay=i:=congrArg Prod.fst he
      omega
     ·rw [h] at he
      have e2:=congrArg Prod.snd he
      simp [Q29] at e2
    ·rcases (q2 x hx).2 with h | h
     ·omega
     ·rw [h]; simp only; omega
  ·obtain⟨covs,rfl,g1,g2,g3⟩:=hs
   exact H5 ⟨⟨hc.1,hc.2.2,⟨g1,fun x hx=>(g2 x hx).1,g3⟩⟩,hc.2.1⟩
theorem J78 {l:List Hf} (h:∀ x∈l,x.low≤x.n∧x.n≤x.high):G17 l=some true:=by
 refine H46 ?_
 unfold G17
 refine R4 (fun _ _=>True) trivial (fun pre x post s nx e _ h0=>Q6 (fun hc=>?_) (fun _=>h0 _ trivial)) (fun s _=>H5 rfl)
 have:=h x (by rw [e]; simp)
 simp only [Mk,Md] at hc
 omega
theorem Q18 {c:G5} (h:R17 c):Z9 c=some true:=by
 obtain⟨h1,h2,h3,h4,h5,h6,h7,h8,h9,h0,a0⟩:=h
 unfold Z9
 rw [h8,each]
 rw [J78]
 ·rfl
 ·intro x hx
  simp only [Mi,M2,or_false] at hx
  rcases hx with rfl | rfl | rfl | rfl | rfl | rfl | rfl | rfl | rfl | rfl <;> simp only <;> omega

theorem R34 {κ ν:Type} [DecidableEq κ] {a:κ} {v:ν} {l:List (κ×ν)} {e:κ×ν} (h:e∈Gce l a v):e=(a,v)∨e∈l:=by
 unfold Gce at h
 split at h
 ·obtain⟨p,hp,rfl⟩:=Mg.1 h
  split
  ·exact .inl rfl
  ·exact .inr hp
 ·rcases Mf.1 h with h | h
  ·exact .inr h
  ·exact .inl (Mh.1 h)
structure Q1f {κ:Type} [DecidableEq κ] (ks:List κ) (m:Gu κ Int):Prop where
 get:∀ k,Gu.get m k 0=if k∈ks then 1 else 0
 le:∀ e∈Gu.l m,e.2≤1
theorem Q1f.start {κ:Type} [DecidableEq κ]:Q1f ([]:List κ) (Gu.empty:Gu κ Int):=⟨fun k=>by simp [Gu.get,Gu.empty,G46],fun e he=>by simp [Gu.empty] at he⟩
theorem Q1f.snoc {κ:Type} [DecidableEq κ] {ks:List κ} {m:Gu κ Int} (h:Q1f ks m) {k:κ} (hk:k ∉ ks) {v:Int} (hv:v=1):Q1f (ks++[k]) (Gu.put m k v):=by
 subst hv
 refine⟨fun j=>?_,fun e he=>?_⟩
 ·have:=h.get j
  unfold Gu.get Gu.put at *
  simp only [H7f]
  by_cases hj:k=j
  ·subst hj; simp
  ·rw [if_neg hj,this]
   have:(j∈ks++[k]) ↔ j∈ks:=by
    rw [Mf,Mh]
    exact⟨fun h=>h.elim id (fun e=>(hj e.symm).elim),.inl⟩
   simp only [this]
 ·rcases R34 he with rfl | he
  ·exact Int.le_refl _
  ·exact h.le e he

def dk (b:Bool):Int:=bif b then 1 else 0
def k3 (c:G5):H4:=⟨c.Bay,c.Row,dk c.Deck⟩
def x3 (x:Gt):List H4:=x.Rows.map fun r=>⟨x.Bay,r,2⟩
structure R7a (s:Ge):Prop where
 some:1≤s.Columns.length∧s.Columns.length≤200∧s.Covers.length≤40
 col:∀ c∈s.Columns,Z9 c=Option.some true
 cov:∀ x∈s.Covers,0≤x.Bay∧x.Bay < 40∧x.Rows≠[]∧(∀ r∈x.Rows,0≤r∧r≤30)∧x.Rows.Pairwise (· < ·)∧x.Rows.length≤1000000
 nodup:(s.Columns.map k3++s.Covers.flatMap x3).Nodup

theorem J22 {s:Ge} (h:R7a s):Jm s=some true:=by
 obtain⟨⟨h1,h2,h3⟩,h7,h8,h6⟩:=h
 refine H46 ?_
 unfold Jm Gd3
 refine Q6 (fun hc=>?_) (fun _=>?_)
 ·simp only [Mk,Md] at hc
  omega
 have fresh:∀ (a b:List H4) (k:H4),s.Columns.map k3++s.Covers.flatMap x3=a++k::b→k ∉ a:=fun a b k e hk=>by
  rw [e] at h6
  exact(List.nodup_append.1 h6).2.2 k hk k (List.mem_cons_self ..) rfl
 refine R4 (fun pre m=>Q1f (pre.map k3) m) Q1f.start (fun pre y post m nx e hm h0=>?_) (fun m hm=>?_)
 ·refine G90 (fun j=>j=dk y.Deck) (fun K hK=>Q6 (fun h=>hK _ (by rw [h]; rfl)) (fun h=>hK _ (by rw [h]; rfl))) (fun j hj=>?_)
  subst hj
  have hf:k3 y ∉ pre.map k3:=fresh (pre.map k3) (post.map k3++s.Covers.flatMap x3) (k3 y) (by rw [e]; simp)
  have hg:=hm.get (k3 y)
  rw [if_neg hf] at hg
  refine Hh (x:=0) (congrArg some hg) (R3 ⟨by omega,by omega⟩ (Hh (h7 y (by rw [e]; simp)) (Q6 (fun h=>by cases h) (fun _=>h0 _ ?_))))
  rw [List.map_append]
  exact hm.snoc hf rfl
 ·refine R4 (fun pre m=>Q1f (s.Columns.map k3++pre.flatMap x3) m) (by simpa using hm) (fun pre y post m nx e hm h0=>?_) (fun m hm=>?_)
  ·obtain⟨c1,c2,c3,c4,c5,c6⟩:=h8 y (by rw [e]; simp)
   refine Q6 (fun hc=>?_) (fun _=>?_)
   ·simp only [Mk,Md] at hc
    have:y.Rows.length≠0:=fun h=>c3 (List.length_eq_zero_iff.1 h)
    omega
   refine R4 (fun pr m=>Q1f (s.Columns.map k3++pre.flatMap x3++pr.map (fun r=>(⟨y.Bay,r,2⟩:H4))) m) (by simpa using hm) (fun pr r pos m nx' e' hm h4=>?_) (fun m hm=>h0 _ ?_)
   ·obtain⟨r1,r2⟩:=c4 r (by rw [e']; simp)
    have h9:pr.length < y.Rows.length:=by rw [e']; simp
    have h5:0 < pr.length→∃ p,y.Rows[pr.length - 1]? = some p∧p < r:=fun hp=>by
     refine⟨y.Rows[pr.length - 1],by simp,?_⟩
     have:=List.pairwise_iff_getElem.1 c5 (pr.length - 1) pr.length (by omega) h9 (by omega)
     have e2:y.Rows[pr.length]=r:=by simp [e']
     rw [e2] at this; exact this
    have a0:(decide (r < 0)||decide (30 < r))=false:=by simp; omega
    simp only [a0,Bool.not_false,Bool.true_and,Bool.false_or]
    by_cases hp:0 < pr.length
    ·obtain⟨p,a1,a2⟩:=h5 hp
     have hd:decide (0 < (pr.length:Int))=true:=Kw (by omega)
     rw [hd]
     simp only [cond_true]
     refine Ht (R3 ⟨by omega,by omega⟩ (H5 (Ht (Rb (m:=pr.length - 1) (by omega) a1 (H5 ?_)))))
     refine Q6 (fun hc=>?_) (fun _=>?_)
     ·simp at hc; omega
     ·have hf:(⟨y.Bay,r,2⟩:H4) ∉ s.Columns.map k3++pre.flatMap x3++pr.map (fun r=>(⟨y.Bay,r,2⟩:H4)):=fresh _ (pos.map (fun r=>(⟨y.Bay,r,2⟩:H4))++post.flatMap x3) _ (by rw [e]; simp [x3,e'])
      have hg:=hm.get ⟨y.Bay,r,2⟩
      rw [if_neg hf] at hg
      refine Hh (x:=0) (congrArg some hg) (R3 ⟨by omega,by omega⟩ (h4 _ ?_))
      rw [List.map_append,← List.append_assoc]
      exact hm.snoc hf rfl
    ·have hd:decide (0 < (pr.length:Int))=false:=Kx (by omega)
     rw [hd]
     simp only [cond_false,Bool.false_and]
     refine Ht (H5 (Ht (H5 ?_)))
     ·have hf:(⟨y.Bay,r,2⟩:H4) ∉ s.Columns.map k3++pre.flatMap x3++pr.map (fun r=>(⟨y.Bay,r,2⟩:H4)):=fresh _ (pos.map (fun r=>(⟨y.Bay,r,2⟩:H4))++post.flatMap x3) _ (by rw [e]; simp [x3,e'])
      have hg:=hm.get ⟨y.Bay,r,2⟩
      rw [if_neg hf] at hg
      refine Hh (x:=0) (congrArg some hg) (R3 ⟨by omega,by omega⟩ (h4 _ ?_))
      rw [List.map_append,← List.append_assoc]
      exact hm.snoc hf rfl
   ·rw [List.flatMap_append,← List.append_assoc]
    simpa [x3] using hm
  ·rw [Hcd]
   refine H5 ?_
   have:(Gu.l m).any (fun x=>decide (1 < x.2))=false:=List.any_eq_false.2 (fun x hx=>by have:=hm.le x hx; simp; omega)
   rw [this]; rfl

theorem He2 {s:Ge} (h:H85 s):R7a s:=by
 obtain⟨h1,⟨h2,h3,h4⟩,⟨h5,h6,h7⟩⟩:=h
 refine⟨⟨h1,by omega,by omega⟩,fun c hc=>Q18 (h3 c hc),fun x hx=>?_,?_⟩
 ·obtain⟨⟨b1,b2⟩,hr⟩:=h6 x hx
  rcases hr with h | h <;> rw [h] <;> refine⟨b1,by omega,by simp,by simp,by simp,by simp⟩
 ·refine List.nodup_append.2 ⟨?_,?_,?_⟩
  ·have a0:=List.pairwise_map.1 h4
   refine List.pairwise_map.2 (a0.imp (fun {a b} h0 e=>h0 ?_))
   simp only [k3,H4.mk.injEq] at e
   obtain⟨e1,e2,e3⟩:=e
   have e4:a.Deck=b.Deck:=by
    revert e3
    cases a.Deck <;> cases b.Deck <;> simp [dk]
   simp only [R42,e1,e2,e4]
  ·refine List.pairwise_flatMap.2 ⟨fun x hx=>?_,?_⟩
   ·refine List.pairwise_map.2 ?_
    rcases (h6 x hx).rows with h | h <;> rw [h] <;> simp
   ·have a1:=List.pairwise_map.1 h7
    have h9:s.Covers.Pairwise (fun a b=>Q29 a≠Q29 b∧Jf7 a∧Jf7 b):=
     List.pairwise_iff_getElem.2 (fun i j hi hj a2=>⟨List.pairwise_iff_getElem.1 a1 i j hi hj a2,h6 _ (List.getElem_mem hi),h6 _ (List.getElem_mem hj)⟩)
    refine h9.imp (fun {a b} h0 p hp q hq e=>?_)
    obtain⟨a3,ha,hb⟩:=h0
    obtain⟨r,hr,rfl⟩:=Mg.1 hp
    obtain⟨r',h8,rfl⟩:=Mg.1 hq
    simp only [H4.mk.injEq] at e
    obtain⟨e1,e2,_⟩:=e
    subst e2
    apply a3
    rcases ha.rows with h | h <;> rcases hb.rows with h' | h' <;> rw [h] at hr <;> rw [h'] at h8 <;> simp [Q29,e1,h,h'] at hr h8 ⊢ <;> omega
  ·intro a ha b hb e
   obtain⟨c,_,rfl⟩:=Mg.1 ha
   obtain⟨x,_,hx⟩:=List.mem_flatMap.1 hb
   obtain⟨r,_,rfl⟩:=Mg.1 hx
   simp only [k3,H4.mk.injEq] at e
   have:=e.2.2
   revert this
   cases c.Deck <;> simp [dk]
theorem Q71 {s:Ge} (h:H85 s):Jm s=some true:=J22 (He2 h)

theorem Gb4 {α β:Type} {x:α} {k:α→Option β}:bnd (some x) k=k x:=rfl
def Q0f {α:Type} (p:α→Bool) (l:List α):Int:=match l.findIdx? p with
 | some j=>(j:Int)
 | none => -1
theorem Hdd {α:Type} {p:α→Bool} {f:α→Option Bool} {xs:List α} (hf:∀ x∈xs,f x=some (p x)) :
  each (fun y i (_:Unit) nx=>bnd (f y) fun r=>bif r then some (i:Int) else nx ()) (fun _=>some (-1)) xs 0 ()=some (Q0f p xs):=by
 have key:∀ (xs:List α),(∀ x∈xs,f x=some (p x))→∀ i:Nat,each (fun y i (_:Unit) nx=>bnd (f y) fun r=>bif r then some (i:Int) else nx ()) (fun _=>some (-1)) xs i ()=some (match xs.findIdx? p with
  | some j=>((i+j:Nat):Int)
  | none => -1):=by
  intro xs
  induction xs with
  | nil=>intro _ i; rfl
  | cons x xs ih=>
   intro hf i
   rw [each,hf x (List.mem_cons_self ..),Gb4,List.findIdx?_cons]
   cases p x with
   | true=>simp
   | false=>
    simp only [cond_false]
    rw [ih (fun y hy=>hf y (List.mem_cons_of_mem _ hy)) (i+1)]
    cases xs.findIdx? p with
    | none=>simp
    | some j=>show some (((i+1+j:Nat)):Int)=some (((i+(j+1):Nat)):Int); rw [show i+1+j=i+(j+1) by omega]
 rw [key xs hf 0]
 unfold Q0f
 cases xs.findIdx? p <;> simp
theorem J86 {α:Type} (p:α→Bool) (l:List α):(Q0f p l = -1∧(∀ x∈l,p x=false)∧l.find? p=none)∨∃ (m:Nat) (x:α),Q0f p l=(m:Int)∧l[m]? = some x∧p x=true∧l.find? p=some x:=by
 unfold Q0f
 cases h:l.findIdx? p with
 | none=>
  have:=List.findIdx?_eq_none_iff.1 h
  exact .inl ⟨rfl,this,List.find?_eq_none.2 (fun x hx=>by rw [this x hx]; simp)⟩
 | some j=>
  obtain⟨hj,h1,h2⟩:=List.findIdx?_eq_some_iff_getElem.1 h
  refine .inr ⟨j,l[j],rfl,by simp [hj],h1,?_⟩
  refine List.find?_eq_some_iff_getElem.2 ⟨h1,j,hj,rfl,fun k hk=>?_⟩
  simpa using h2 k hk
theorem H63 {α:Type} {p:α→Bool} {l:List α}:decide (0≤Q0f p l)=l.any p:=by
 rcases J86 p l with ⟨h1,h2,_⟩ | ⟨m,x,h1,h2,h3,_⟩
 ·rw [h1]
  refine Eq.symm (List.any_eq_false.2 fun x hx=>?_)
  rw [h2 x hx]; exact Bool.false_ne_true
 ·rw [h1,Kw (by omega)]
  exact(List.any_eq_true.2 ⟨x,M1 h2,h3⟩).symm

def G5c (boxes:List Box) (id:Int):Option Box:=boxes.find? (fun b=>decide (b.ID=id))
theorem H77 (boxes:List Box) (id:Int):G1a boxes id=some (match G5c boxes id with
  | some b=>(b,true)
  | none=>(Box.mk 0 ByteArray.empty 0 false 0 0 0 0 false,false)):=by
 unfold G1a
 have h:R9 boxes (fun z0=>G58 z0 id)=some (Q0f (fun b:Box=>decide (b.ID=id)) boxes):=Hdd (fun x _=>rfl)
 rw [h]
 simp only [Gb4]
 unfold G5c
 rcases J86 (fun b:Box=>decide (b.ID=id)) boxes with ⟨h1,_,h3⟩ | ⟨m,x,h1,h2,_,h4⟩
 ·rw [h1,h3]; rfl
 ·rw [h1,h4,Kx (by omega),cond_false]
  unfold Jz
  rw [Kw (by omega),cond_true,show (m:Int).toNat=m by omega,h2]
  rfl
def Hda (size:Int):List Int:=if size=40 then [0] else if size=20 then [1,2] else []
theorem J20 (size:Int):G0d size=some (Hda size):=by
 unfold G0d Hda
 by_cases h:size=40
 ·simp [h]
 ·by_cases h2:size=20
  ·simp [h2]
  ·simp [h,h2]
theorem R40 (l:List Int) (v:Int):Rt l v=some (l.any (fun y=>decide (v=y))):=by
 unfold Rt
 have h:Ys l v=some (Q0f (fun y=>decide (v=y)) l):=by
  unfold Ys
  exact Hdd (f:=fun y=>some (decide (v=y))) (fun x _=>rfl)
 rw [h]
 simp only [Gb4]
 rw [H63]
theorem Q17 (l:List Slot) (v:Slot):Ra l v=some (l.any (fun y=>decide (v=y))):=by
 unfold Ra
 have h:Y4 l v=some (Q0f (fun y=>decide (v=y)) l):=by
  unfold Y4
  exact Hdd (f:=fun y=>some (decide (v=y))) (fun x _=>rfl)
 rw [h]
 simp only [Gb4]
 rw [H63]

structure Q1e (s:Ge) (x:Slot) (size:Int):Prop where
 col:∃ (m:Nat) (c:G5),x.G5=(m:Int)∧s.Columns[m]? = some c∧x.Tier < c.Tiers
 tier:0≤x.Tier
 half:x.Half∈Hda size
theorem Qd0 (s:Ge) (x:Slot) (size:Int):Wp (G85 s x size) (fun r=>r=true ↔ Q1e s x size):=by
 unfold G85
 by_cases h0:0≤x.G5∧x.G5 < (s.Columns.length:Int)
 ·by_cases h1:0≤x.Tier
  ·obtain⟨m,hm⟩:∃ m:Nat,x.G5=(m:Int):=⟨x.G5.toNat,by omega⟩
   have h3:m < s.Columns.length:=by omega
   have hc:s.Columns[m]? = some s.Columns[m]:=by simp [h3]
   have e:(((decide (0≤x.G5))&&(decide (x.G5 < (s.Columns.length:Int))))&&(decide (0≤x.Tier)))=true:=by simp [h0.1,h0.2,h1]
   simp only [e,cond_true,Bool.true_and]
   refine Ht (Rb hm hc (H5 ?_))
   by_cases h2:x.Tier < (s.Columns[m]).Tiers
   ·rw [Kw h2]
    simp only [cond_true]
    refine Hh (J20 size) (Hh (R40 _ _) (H5 ?_))
    rw [Bool.true_and,List.any_eq_true]
    constructor
    ·rintro⟨y,hy,he⟩
     have:=Ku he
     subst this
     exact⟨⟨m,_,hm,hc,h2⟩,h1,hy⟩
    ·exact fun h=>⟨_,h.half,by simp⟩
   ·rw [Kx h2]
    simp only [cond_false,Bool.false_and]
    refine Ht (H5 (Ht (H5 (H5 ⟨fun h=>(by cases h),fun h=>?_⟩))))
    obtain⟨m',c,g1,g2,g3⟩:=h.col
    have:m'=m:=by omega
    subst this
    rw [hc] at g2; cases g2
    exact(h2 g3).elim
  ·simp only [Kx h1,Bool.and_false,cond_false,Bool.false_and]
   exact Ht (H5 (Ht (H5 (Ht (H5 (H5 ⟨fun h=>(by cases h),fun h=>(h1 h.tier).elim⟩))))))
 ·have e:((decide (0≤x.G5))&&(decide (x.G5 < (s.Columns.length:Int))))=false:=by
   by_cases h:0≤x.G5
   ·have:¬ x.G5 < (s.Columns.length:Int):=fun g=>h0 ⟨h,g⟩
    simp [this]
   ·simp [h]
  simp only [e,Bool.false_and,cond_false]
  refine Ht (H5 (Ht (H5 (Ht (H5 (H5 ⟨fun h=>(by cases h),fun h=>?_⟩))))))
  obtain⟨m,c,g1,g2,_⟩:=h.col
  have:=(Ky g2).1
  exact(h0 (by omega)).elim

def below (l:List Slot) (x:Slot) (half:Int):Prop:=(⟨x.G5,x.Tier - 1,half⟩:Slot)∈l
def R13 (x:Slot) (l:List Slot):Prop:=x.Tier≤0∨below l x x.Half∨(x.Half=0∧below l x 1∧below l x 2)
theorem Haa (half:Int) (l:List Slot) (x:Slot) (ht : -1000000≤x.Tier∧x.Tier≤1000000):Wp (G0e half l x) (fun r=>r=true ↔ below l x half):=by
 unfold G0e
 refine R3 ⟨by omega,by omega⟩ (Hh (Q17 _ _) (H5 ?_))
 rw [List.any_eq_true]
 constructor
 ·rintro⟨y,hy,he⟩
  have:=Ku he
  subst this
  exact hy
 ·exact fun h=>⟨_,h,by simp⟩
theorem R2d (x:Slot) (l:List Slot) (ht : -1000000≤x.Tier∧x.Tier≤1000000):Wp (Gb9 x l) (fun r=>r=true ↔ R13 x l):=by
 unfold Gb9 R13
 refine Q6 (fun h=>H5 ⟨fun _=>.inl (Ku h),fun _=>rfl⟩) (fun h=>?_)
 have h0:=Kv h
 refine Ht (wp_mono (Haa x.Half l x ht) (fun r7 h7=>?_))
 cases r7 with
 | true=>
  simp only [Bool.not_true,Bool.false_and,cond_false,Bool.true_or]
  exact Ht (H5 (Ht (H5 (H5 ⟨fun _=>.inr (.inl (h7.1 rfl)),fun _=>rfl⟩))))
 | false=>
  have h1:¬ below l x x.Half:=fun h=>by have:=h7.2 h; cases this
  simp only [Bool.not_false,Bool.true_and,Bool.false_or]
  by_cases hh:x.Half=0
  ·rw [Kw hh]
   simp only [cond_true,Bool.true_and]
   refine Ht (wp_mono (Haa 1 l x ht) (fun r8 h8=>?_))
   cases r8 with
   | true=>
    simp only [cond_true,Bool.true_and]
    refine Ht (wp_mono (Haa 2 l x ht) (fun r9 h9=>H5 ⟨fun h=>.inr (.inr ⟨hh,h8.1 rfl,h9.1 h⟩),fun h=>?_⟩))
    rcases h with h | h | ⟨_,_,h⟩
    ·exact(h0 h).elim
    ·exact(h1 h).elim
    ·exact h9.2 h
   | false=>
    simp only [cond_false,Bool.false_and]
    refine Ht (H5 (H5 ⟨fun h=>(by cases h),fun h=>?_⟩))
    rcases h with h | h | ⟨_,h,_⟩
    ·exact(h0 h).elim
    ·exact(h1 h).elim
    ·have:=h8.2 h; cases this
  ·rw [Kx hh]
   simp only [cond_false,Bool.false_and]
   refine Ht (H5 (Ht (H5 (H5 ⟨fun h=>(by cases h),fun h=>?_⟩))))
   rcases h with h | h | ⟨h,_⟩
   ·exact(h0 h).elim
   ·exact(h1 h).elim
   ·exact(hh h).elim

def J46 (a b:Int):Prop:=a=b∨a=0∨b=0
theorem J1f (a b:Int):Wp (G31 a b) (fun r=>r=true ↔ J46 a b):=by
 unfold G31 J46
 refine H5 ?_
 simp [or_assoc]
def Q7a (a b:Slot):Prop:=a.G5=b.G5∧a.Tier=b.Tier∧J46 a.Half b.Half
theorem R2c (a b:Slot):Wp (Gb8 a b) (fun r=>r=true ↔ Q7a a b):=by
 unfold Gb8 Q7a
 by_cases h:a.G5=b.G5∧a.Tier=b.Tier
 ·simp only [Kw h.1,Kw h.2,Bool.and_self,cond_true,Bool.true_and]
  exact Ht (wp_mono (J1f _ _) (fun r hr=>H5 ⟨fun e=>⟨h.1,h.2,hr.1 e⟩,fun e=>hr.2 e.2.2⟩))
 ·have e:(decide (a.G5=b.G5)&&decide (a.Tier=b.Tier))=false:=by
   by_cases h1:a.G5=b.G5
   ·have:¬ a.Tier=b.Tier:=fun h2=>h ⟨h1,h2⟩
    simp [this]
   ·simp [h1]
  simp only [e,cond_false,Bool.false_and]
  exact Ht (H5 (H5 ⟨fun e=>(by cases e),fun e=>(h ⟨e.1,e.2.1⟩).elim⟩))
def Q4c (b:Box):Int:=if b.High then 2896 else 2591
def J3d (boxes:List Box) (column half:Int) (n:Int) (x:G1):Int:=
 if x.Slot.G5=column∧(x.Slot.Half=half∨x.Slot.Half=0) then (match G5c boxes x.Box with | some b=>n+Q4c b | none=>n) else n
def Hd9 (boxes:List Box) (l:List G1) (column half:Int):Int:=l.foldl (J3d boxes column half) 0
theorem Rb4 {boxes:List Box} {column half n:Int} {x:G1}:n≤J3d boxes column half n x∧J3d boxes column half n x≤n+2896:=by
 unfold J3d Q4c
 split
 ·split
  ·split <;> omega
  ·omega
 ·omega
theorem J1b (boxes:List Box) (l:List G1) (column half:Int) (hl:l.length≤1000000):G30 boxes l column half=some (Hd9 boxes l column half):=by
 refine H46 ?_
 unfold G30 Hd9
 refine R4 (fun pre n=>n=pre.foldl (J3d boxes column half) 0∧0≤n∧n≤2896*pre.length) ⟨rfl,Int.le_refl _,by simp⟩ (fun pre y post n nx e hn h5=>?_) (fun n hn=>H5 hn.1)
 obtain⟨rfl,h1,h2⟩:=hn
 have hp:pre.length+1≤l.length:=by rw [e]; simp
 have ha:=Rb4 (boxes:=boxes) (column:=column) (half:=half) (n:=pre.foldl (J3d boxes column half) 0) (x:=y)
 have h4:((pre++[y]).length:Int)=pre.length+1:=by simp
 generalize hg:pre.foldl (J3d boxes column half) 0=n at *
 refine G90 (fun j=>j=J3d boxes column half n y) (fun K hK=>?_) (fun j hj=>h5 _ ⟨by rw [hj,List.foldl_append,hg]; rfl,by omega,by rw [h4]; omega⟩)
 refine Q6 (fun hc=>?_) (fun hc=>hK _ ?_)
 ·have h0:y.Slot.G5=column∧(y.Slot.Half=half∨y.Slot.Half=0):=by simpa using hc
  refine Hh (H77 boxes y.Box) ?_
  cases hf:G5c boxes y.Box with
  | none=>exact Q6 (fun h=>by cases h) (fun _=>hK _ (by unfold J3d; rw [if_pos h0,hf]))
  | some b=>
   refine Q6 (fun _=>?_) (fun h=>by cases h)
   have ht:Gb5 b=some (Q4c b):=by unfold Gb5 Q4c; cases b.High <;> rfl
   have h3:J3d boxes column half n y=n+Q4c b:=by unfold J3d; rw [if_pos h0,hf]
   refine Hh ht (R3 ?_ (hK _ h3.symm))
   rw [← h3]
   omega
 ·have h0:¬ (y.Slot.G5=column∧(y.Slot.Half=half∨y.Slot.Half=0)):=by simpa using hc
  unfold J3d; rw [if_neg h0]
def R14 (boxes:List Box) (l:List G1) (m:Nat) (c:G5):Prop:=c.Height≤0∨(Hd9 boxes l m 1≤c.Height∧Hd9 boxes l m 2≤c.Height)
theorem R27 {s:Ge} {boxes:List Box} {l:List G1} {m:Nat} {c:G5} (hc:s.Columns[m]? = some c) (hl:l.length≤1000000):Wp (Gb6 s boxes l (m:Int)) (fun r=>r=true ↔ R14 boxes l m c):=by
 unfold Gb6 R14
 refine Rb rfl hc ?_
 by_cases h:c.Height≤0
 ·simp only [Kw h,Bool.not_true,cond_false,Bool.false_and,Bool.true_or]
  exact Ht (H5 (Ht (H5 (H5 ⟨fun _=>.inl h,fun _=>rfl⟩))))
 ·simp only [Kx h,Bool.not_false,cond_true,Bool.true_and,Bool.false_or]
  refine Hh (J1b boxes l m 1 hl) ?_
  by_cases h1:Hd9 boxes l m 1≤c.Height
  ·rw [Kw h1]
   simp only [cond_true,Bool.true_and]
   exact Hh (J1b boxes l m 2 hl) (H5 ⟨fun e=>.inr ⟨h1,Ku e⟩,fun e=>Kw (e.elim (fun e=>(h e).elim) (·.2))⟩)
  ·rw [Kx h1]
   simp only [cond_false,Bool.false_and]
   exact Ht (H5 (H5 ⟨fun e=>(by cases e),fun e=>e.elim (fun e=>(h e).elim) (fun e=>(h1 e.1).elim)⟩))

theorem Qc4 (l:List G1) (hl:l.length≤1000000):G83 l=some (l.map (·.Slot)):=by
 refine H46 ?_
 unfold G83
 refine R4 (fun pre s=>s=pre.map (·.Slot)) rfl (fun pre y post s nx e hs h0=>?_) (fun s hs=>H5 hs)
 subst hs
 have hp:pre.length+1≤l.length:=by rw [e]; simp
 exact Rk (G32 (by simp only [Me,Mb]; omega) (by omega)) (h0 _ (by simp))
end Go.Proofs.YtibhpogonkdiaaaGreat
