/-
 The ships that twistlocklaw07.Built makes,and that they are What slot.Right,stow.Find and stow.Right say,in plain words. What stow.Right says,in plain words. All ways to pile boxes up: The library's insertion sort,aQ the extractor's model has it
-/
import Derived.Test.YtibhpogonkdiaaaGreatXV
import Derived.Test.YtibhpogonkdiaaaGreatExt
set_option linter.unusedVariables false
set_option linter.unusedSimpArgs false
set_option linter.unnecessarySimpa false
set_option maxRecDepth 100000
namespace Go.Proofs.YtibhpogonkdiaaaGreat
open Go.RowKit

theorem G92 {n k:Nat} (hn:n≤1000001) (hk:k≤1000):decide (n*k≤140737488355328∧n≤maxLen)=true:=by
 have h:n*k≤1000001*1000:=Nat.mul_le_mul hn hk
 have h2:n≤maxLen:=Nat.le_trans hn (by decide)
 exact Kv ⟨by omega,h2⟩
def Byte (z:Int):Prop:=0≤z∧z≤255
structure Hcf (p:H4):Prop where
 bay:Byte p.Bay
 row:Byte p.Row
 tiers:Byte p.Tiers

structure Qee (c:G6):Prop where
 bay:0≤c.Bay∧c.Bay≤4
 row:0≤c.Row∧c.Row≤4
 tiers:2≤c.Tiers∧c.Tiers≤5
 height:c.Height=0
 k20:c.Kilos20=500000000
 k40:c.Kilos40=500000000
 lash:c.Lash=0
 plugs:c.Plugs=[]
 x : -26000≤c.X∧c.X≤26000
 y : -5000≤c.Y∧c.Y≤5000
 z:0≤c.Z∧c.Z≤20000
def R15 (c:G6):Int×Int×Bool:=(c.Bay,c.Row,c.Deck)
def G98 (bay row:Int) (deck:Bool) (c:G6):Bool:=((decide (c.Bay=bay))&&(decide (c.Row=row)))&&(c.Deck==deck)
theorem Q51 {bay row:Int} {deck:Bool} {c:G6}:G98 bay row deck c=true ↔ R15 c=(bay,row,deck):=by
 simp [G98,R15,and_assoc]
structure Jde (x:Gx):Prop where
 bay:0≤x.Bay∧x.Bay≤4
 rows:x.Rows=[0,1]∨x.Rows=[2,3,4]
def Q0f (x:Gx):Int×Bool:=(x.Bay,decide (x.Rows=[0,1]))
structure R5b (l:List G6):Prop where
 len:l.length≤12
 each:∀ c∈l,Qee c
 nodup:(l.map R15).Nodup
structure Rd4 (l:List Gx):Prop where
 len:l.length≤10
 each:∀ x∈l,Jde x
 nodup:(l.map Q0f).Nodup
structure Hd6 (s:Gf):Prop where
 some:1≤s.Columns.length
 cols:R5b s.Columns
 covs:Rd4 s.Covers

theorem J77 {l:List G6} {wanted:G6→Option Bool} {p:G6→Bool} (hw:∀ x∈l,wanted x=some (p x)) (hl:l.length≤1000000):Rc l wanted=some (Hc4 p l):=by
 refine H41 ?_
 unfold Rc
 refine R1 (fun pre s=>s=Hc4 p pre) rfl (fun pre x post s nx e hs h0=>?_) (fun s hs=>Ha hs)
 subst hs
 have h1:pre.length+1≤l.length:=by rw [e]; simp
 refine Gb1 (fun j=>j=Hc4 p (pre++[x])) (fun K hK=>?_) (fun j hj=>h0 _ hj)
 refine J0 (hw x (by rw [e]; simp)) (Qm (fun h=>Yq ?_ (hK _ ?_)) (fun h=>hK _ ?_))
 ·have:=Q48 p pre
  exact G92 (by rw [Ma]; omega) (by omega)
 ·rw [Jce,h]; rfl
 ·rw [Jce,h]; simp

theorem R11 {s:Gf} {bay row:Int} {deck:Bool} (hl:s.Columns.length≤1000000):Wp (Ga6 s bay row deck) (fun r=>r.2=s.Columns.any (G98 bay row deck)):=by
 unfold Ga6
 refine J0 (J77 (p:=G98 bay row deck) (fun x _=>rfl) hl) (Qm (fun h=>Ha ?_) (fun h=>?_))
 ·have h0:Hc4 (G98 bay row deck) s.Columns=[]:=by
   have:=Kt h
   exact List.length_eq_zero_iff.1 (by omega)
  refine Eq.symm (List.any_eq_false.2 (fun x hx=>?_))
  rw [Q47.1 h0 x hx]; exact Bool.false_ne_true
 ·have h0:Hc4 (G98 bay row deck) s.Columns≠[]:=by
   have:=Ku h
   intro e; rw [e] at this; exact this rfl
  have h1:∃ z,(Hc4 (G98 bay row deck) s.Columns)[0]? = some z:=by
   cases hh:Hc4 (G98 bay row deck) s.Columns with
   | nil=>exact(h0 hh).elim
   | cons z r=>exact⟨z,rfl⟩
  obtain⟨z,hz⟩:=h1
  refine Zb (m:=0) rfl hz (Ha ?_)
  refine Eq.symm ?_
  have:¬ ∀ x∈s.Columns,G98 bay row deck x=false:=fun h=>h0 (Q47.2 h)
  rw [List.any_eq_true]
  refine Classical.byContradiction fun hn=>this fun x hx=>?_
  cases hc:G98 bay row deck x with
  | false=>rfl
  | true=>exact(hn ⟨x,hx,hc⟩).elim

theorem J1d (l:List H4) (covers:Int) (hp:∀ p∈l,Hcf p):Wp (Qv l covers) (fun s=>Hd6 s∧s.Columns.length≤max 1 l.length):=by
 unfold Qv
 refine J1 (H08 (m:=min l.length 12) (by omega) (by omega) ?_)
 have h4:(l.take (min l.length 12)).length≤12:=by rw [List.length_take]; omega
 refine R1 (fun pre s=>∃ cols,s=([],0,0,0,0,[],[],[],0,0,0,0,cols)∧cols.length≤pre.length∧(∀ c∈cols,Qee c)∧(cols.map R15).Nodup)
  ⟨[],rfl,M2,fun c hc=>(M1 hc).elim,List.nodup_nil⟩ (fun pre y post s nx e hs h5=>?_) (fun s hs=>?_)
 ·obtain⟨cols,rfl,h1,h2,h3⟩:=hs
  have h7:pre.length+1≤12:=by rw [e] at h4; simp at h4; omega
  have hy:Hcf y:=hp y (List.mem_of_mem_take (by rw [e]; simp:y∈l.take (min l.length 12)))
  obtain⟨⟨b1,b2⟩,⟨r1,r2⟩,⟨t1,t2⟩⟩:=hy
  refine Gb1 (fun j=>j.length≤(pre++[y]).length∧(∀ c∈j,Qee c)∧(j.map R15).Nodup) (fun K hK=>?_) (fun j hj=>h5 _ ⟨j,rfl,hj⟩)
  refine Rw ⟨by omega,by omega⟩ (J1 (Hda (by omega) ?_))
  refine Rw ⟨by omega,by omega⟩ (J1 (Hda (by omega) ?_))
  refine Rw ⟨by omega,by omega⟩ (J1 (Hda (by omega) ?_))
  have e1:y.Bay.tmod 5=y.Bay % 5:=Int.tmod_eq_emod_of_nonneg b1
  have e2:y.Row.tmod 5=y.Row % 5:=Int.tmod_eq_emod_of_nonneg r1
  have e3:y.Tiers.tmod 4=y.Tiers % 4:=Int.tmod_eq_emod_of_nonneg t1
  rw [e1,e2,e3]
  refine Rw ⟨by omega,by omega⟩ (Rw ⟨by omega,by omega⟩ (Rw ⟨by omega,by omega⟩ (Rw ⟨by omega,by omega⟩ (Rw ⟨by omega,by omega⟩ ?_))))
  refine Gb1 (fun z:Int=>0≤z∧z≤20000) (fun K' h0=>Qm (fun _=>h0 _ ⟨by omega,by omega⟩) (fun _=>h0 _ ⟨by omega,by omega⟩)) (fun z hz=>?_)
  have hl:cols.length≤1000000:=by omega
  refine J1 (wp_mono (R11 hl) (fun r hr=>?_))
  refine Qm (fun h=>Yq ?_ (hK _ ⟨?_,?_,?_⟩)) (fun h=>hK _ ⟨?_,h2,h3⟩)
  ·exact G92 (by rw [Ma]; show cols.length+1≤_; omega) (by omega)
  ·simp only [M9,Ma]; omega
  ·intro c hc
   rcases Me.1 hc with hc | hc
   ·exact h2 c hc
   ·rw [Mg] at hc; subst hc
    exact⟨⟨by simp only; omega,by simp only; omega⟩,⟨by simp only; omega,by simp only; omega⟩,⟨by simp only; omega,by simp only; omega⟩,rfl,rfl,rfl,rfl,rfl,⟨by simp only; omega,by simp only; omega⟩,⟨by simp only; omega,by simp only; omega⟩,hz⟩
  ·rw [List.map_append,List.nodup_append]
   refine⟨h3,by simp,fun a ha b hb=>?_⟩
   simp only [List.map_cons,List.map_nil,Mg] at hb
   subst hb
   obtain⟨c,hc,rfl⟩:=Mf.1 ha
   intro he
   have hf:r.2=false:=by simpa using h
   rw [hf] at hr
   have:=List.any_eq_false.1 hr.symm c hc
   exact this (Q51.2 he)
  ·simp only [M9,Ma]; omega
 ·obtain⟨cols,rfl,h1,h2,h3⟩:=hs
  have h6:cols.length≤max 1 l.length:=by rw [List.length_take] at h1; omega
  have h1:cols.length≤12:=Nat.le_trans h1 h4
  refine Gb1 (fun j=>1≤j.length∧j.length≤max 1 l.length∧R5b j) (fun K hK=>Qm (fun h=>hK _ ⟨M2,by simp only [Ma]; omega,?_⟩) (fun h=>hK _ ⟨?_,h6,⟨h1,h2,h3⟩⟩)) (fun cols' hc=>?_)
  ·refine⟨by simp,fun c hc=>?_,by simp⟩
   rw [Mg] at hc; subst hc
   exact⟨by simp,by simp,by simp,rfl,rfl,rfl,rfl,rfl,by simp,by simp,by simp⟩
  ·have:¬ ((cols.length:Int)=0):=Ku h
   show 1≤cols.length
   omega
  refine Yq (by decide) ?_
  have e5:(5:Int).toNat=5:=rfl
  rw [e5]
  refine Je2 (fun i s=>∃ covs,s=(covs,0,0,0,0,[],[],[],0,0,0,0)∧covs.length≤2*i∧(∀ x∈covs,Jde x∧x.Bay < i)∧(covs.map Q0f).Nodup)
   ⟨[],rfl,Nat.zero_le _,fun c hc=>(M1 hc).elim,List.nodup_nil⟩ (fun i s nx hi hs h5=>?_) (fun s hs=>?_)
  ·obtain⟨covs,rfl,g1,g2,g3⟩:=hs
   refine Gb1 (fun j:List Gx=>j.length≤2*(i+1)∧(∀ x∈j,Jde x∧x.Bay < (i+1:Nat))∧(j.map Q0f).Nodup) (fun K hK=>?_) (fun j hj=>h5 _ ⟨j,rfl,hj⟩)
   refine Gb1 (fun j:List Gx=>j.length≤2*i+1∧(∀ x∈j,Jde x∧(x.Bay < i∨x=⟨i,[0,1]⟩))∧(j.map Q0f).Nodup) (fun K' h0=>?_) (fun j hj=>?_)
   ·refine Rw ⟨by omega,by omega⟩ (J1 (H08 (m:=2*i) (by omega) (by omega) ?_))
    refine Qm (fun h=>Yq ?_ (h0 _ ⟨?_,?_,?_⟩)) (fun h=>h0 _ ⟨(by show covs.length≤_; omega),fun x hx=>⟨(g2 x hx).1,.inl (g2 x hx).2⟩,g3⟩)
    ·exact G92 (by rw [Ma]; show covs.length+1≤_; omega) (by omega)
    ·simp only [M9,Ma]; omega
    ·intro x hx
     rcases Me.1 hx with hx | hx
     ·exact⟨(g2 x hx).1,.inl (g2 x hx).2⟩
     ·rw [Mg] at hx; subst hx
      exact⟨⟨⟨by simp only; omega,by simp only; omega⟩,.inl rfl⟩,.inr rfl⟩
    ·rw [List.map_append,List.nodup_append]
     refine⟨g3,by simp,fun a ha b hb=>?_⟩
     simp only [List.map_cons,List.map_nil,Mg] at hb
     subst hb
     obtain⟨c,hc,rfl⟩:=Mf.1 ha
     intro he
     have:=(g2 c hc).2
     have e2:c.Bay=i:=congrArg Prod.fst he
     omega
   ·obtain⟨q1,q2,q3⟩:=hj
    refine Rw ⟨by omega,by omega⟩ (Rw ⟨by omega,by omega⟩ (J1 (H08 (m:=2*i+1) (by omega) (by omega) ?_)))
    refine Qm (fun h=>Yq ?_ (hK _ ⟨?_,?_,?_⟩)) (fun h=>hK _ ⟨by omega,fun x hx=>⟨(q2 x hx).1,?_⟩,q3⟩)
    ·exact G92 (by rw [Ma]; omega) (by omega)
    ·simp only [M9,Ma]; omega
    ·intro x hx
     rcases Me.1 hx with hx | hx
     ·refine⟨(q2 x hx).1,?_⟩
      rcases (q2 x hx).2 with h | h
      ·omega
      ·rw [h]; simp only; omega
     ·rw [Mg] at hx; subst hx
      exact⟨⟨⟨by simp only; omega,by simp only; omega⟩,.inr rfl⟩,by simp only; omega⟩
    ·rw [List.map_append,List.nodup_append]
     refine⟨q3,by simp,fun a ha b hb=>?_⟩
     simp only [List.map_cons,List.map_nil,Mg] at hb
     subst hb
     obtain⟨c,hc,rfl⟩:=Mf.1 ha
     intro he
     rcases (q2 c hc).2 with h | h
     ·have e2:c.Bay=i:=congrArg Prod.fst he
      omega
     ·rw [h] at he
      have e2:=congrArg Prod.snd he
      simp [Q0f] at e2
    ·rcases (q2 x hx).2 with h | h
     ·omega
     ·rw [h]; simp only; omega
  ·obtain⟨covs,rfl,g1,g2,g3⟩:=hs
   exact Ha ⟨⟨hc.1,hc.2.2,⟨g1,fun x hx=>(g2 x hx).1,g3⟩⟩,hc.2.1⟩
theorem Qb0 {l:List Hb} (h:∀ x∈l,x.low≤x.n∧x.n≤x.high):G09 l=some true:=by
 refine H41 ?_
 unfold G09
 refine R1 (fun _ _=>True) trivial (fun pre x post s nx e _ h0=>Qm (fun hc=>?_) (fun _=>h0 _ trivial)) (fun s _=>Ha rfl)
 have:=h x (by rw [e]; simp)
 simp only [Mj,Mc] at hc
 omega
theorem Jfe {c:G6} (h:Qee c):G13 c=some true:=by
 obtain⟨h1,h2,h3,h4,h5,h6,h7,h8,h9,h0,a0⟩:=h
 unfold G13
 rw [h8,each]
 rw [Qb0]
 ·rfl
 ·intro x hx
  simp only [Mh,M1,or_false] at hx
  rcases hx with rfl | rfl | rfl | rfl | rfl | rfl | rfl | rfl | rfl | rfl <;> simp only <;> omega

theorem R0a {κ ν:Type} [DecidableEq κ] {a:κ} {v:ν} {l:List (κ×ν)} {e:κ×ν} (h:e∈Gb9 l a v):e=(a,v)∨e∈l:=by
 unfold Gb9 at h
 split at h
 ·obtain⟨p,hp,rfl⟩:=Mf.1 h
  split
  ·exact .inl rfl
  ·exact .inr hp
 ·rcases Me.1 h with h | h
  ·exact .inr h
  ·exact .inl (Mg.1 h)
structure Q05 {κ:Type} [DecidableEq κ] (ks:List κ) (m:Gu κ Int):Prop where
 get:∀ k,Gu.get m k 0=if k∈ks then 1 else 0
 le:∀ e∈Gu.l m,e.2≤1
theorem Q05.start {κ:Type} [DecidableEq κ]:Q05 ([]:List κ) (Gu.empty:Gu κ Int):=⟨fun k=>by simp [Gu.get,Gu.empty,G39],fun e he=>by simp [Gu.empty] at he⟩
theorem Q05.snoc {κ:Type} [DecidableEq κ] {ks:List κ} {m:Gu κ Int} (h:Q05 ks m) {k:κ} (hk:k ∉ ks) {v:Int} (hv:v=1):Q05 (ks++[k]) (Gu.put m k v):=by
 subst hv
 refine⟨fun j=>?_,fun e he=>?_⟩
 ·have:=h.get j
  unfold Gu.get Gu.put at *
  simp only [Jc5]
  by_cases hj:k=j
  ·subst hj; simp
  ·rw [if_neg hj,this]
   have:(j∈ks++[k]) ↔ j∈ks:=by
    rw [Me,Mg]
    exact⟨fun h=>h.elim id (fun e=>(hj e.symm).elim),.inl⟩
   simp only [this]
 ·rcases R0a he with rfl | he
  ·exact Int.le_refl _
  ·exact h.le e he

def dk (b:Bool):Int:=bif b then 1 else 0
def k3 (c:G6):H1:=⟨c.Bay,c.Row,dk c.Deck⟩
def x3 (x:Gx):List H1:=x.Rows.map fun r=>⟨x.Bay,r,2⟩
structure R4d (s:Gf):Prop where
 some:1≤s.Columns.length∧s.Columns.length≤200∧s.Covers.length≤40
 col:∀ c∈s.Columns,G13 c=Option.some true
 cov:∀ x∈s.Covers,0≤x.Bay∧x.Bay < 40∧x.Rows≠[]∧(∀ r∈x.Rows,0≤r∧r≤30)∧x.Rows.Pairwise (· < ·)∧x.Rows.length≤1000000
 nodup:(s.Columns.map k3++s.Covers.flatMap x3).Nodup

theorem Q3d {s:Gf} (h:R4d s):Qu s=some true:=by
 obtain⟨⟨h1,h2,h3⟩,h7,h8,h6⟩:=h
 refine H41 ?_
 unfold Qu Gbe
 refine Qm (fun hc=>?_) (fun _=>?_)
 ·simp only [Mj,Mc] at hc
  omega
 have fresh:∀ (a b:List H1) (k:H1),s.Columns.map k3++s.Covers.flatMap x3=a++k::b→k ∉ a:=fun a b k e hk=>by
  rw [e] at h6
  exact(List.nodup_append.1 h6).2.2 k hk k (List.mem_cons_self ..) rfl
 refine R1 (fun pre m=>Q05 (pre.map k3) m) Q05.start (fun pre y post m nx e hm h0=>?_) (fun m hm=>?_)
 ·refine Gb1 (fun j=>j=dk y.Deck) (fun K hK=>Qm (fun h=>hK _ (by rw [h]; rfl)) (fun h=>hK _ (by rw [h]; rfl))) (fun j hj=>?_)
  subst hj
  have hf:k3 y ∉ pre.map k3:=fresh (pre.map k3) (post.map k3++s.Covers.flatMap x3) (k3 y) (by rw [e]; simp)
  have hg:=hm.get (k3 y)
  rw [if_neg hf] at hg
  refine J0 (x:=0) (congrArg some hg) (Rw ⟨by omega,by omega⟩ (J0 (h7 y (by rw [e]; simp)) (Qm (fun h=>by cases h) (fun _=>h0 _ ?_))))
  rw [List.map_append]
  exact hm.snoc hf rfl
 ·refine R1 (fun pre m=>Q05 (s.Columns.map k3++pre.flatMap x3) m) (by simpa using hm) (fun pre y post m nx e hm h0=>?_) (fun m hm=>?_)
  ·obtain⟨c1,c2,c3,c4,c5,c6⟩:=h8 y (by rw [e]; simp)
   refine Qm (fun hc=>?_) (fun _=>?_)
   ·simp only [Mj,Mc] at hc
    have:y.Rows.length≠0:=fun h=>c3 (List.length_eq_zero_iff.1 h)
    omega
   refine R1 (fun pr m=>Q05 (s.Columns.map k3++pre.flatMap x3++pr.map (fun r=>(⟨y.Bay,r,2⟩:H1))) m) (by simpa using hm) (fun pr r pos m nx' e' hm h4=>?_) (fun m hm=>h0 _ ?_)
   ·obtain⟨r1,r2⟩:=c4 r (by rw [e']; simp)
    have h9:pr.length < y.Rows.length:=by rw [e']; simp
    have h5:0 < pr.length→∃ p,y.Rows[pr.length - 1]? = some p∧p < r:=fun hp=>by
     refine⟨y.Rows[pr.length - 1],by simp,?_⟩
     have:=List.pairwise_iff_getElem.1 c5 (pr.length - 1) pr.length (by omega) h9 (by omega)
     have e2:y.Rows[pr.length]=r:=by simp [e']
     rw [e2] at this; exact this
    have a0:(decide (r < 0)||decide (30 < r))=false:=by simp; omega
    simp only [a0,Bool.not_false,Bool.true_and,Bool.false_or]
    by_cases hp:0 < pr.length
    ·obtain⟨p,a1,a2⟩:=h5 hp
     have hd:decide (0 < (pr.length:Int))=true:=Kv (by omega)
     rw [hd]
     simp only [cond_true]
     refine J1 (Rw ⟨by omega,by omega⟩ (Ha (J1 (Zb (m:=pr.length - 1) (by omega) a1 (Ha ?_)))))
     refine Qm (fun hc=>?_) (fun _=>?_)
     ·simp at hc; omega
     ·have hf:(⟨y.Bay,r,2⟩:H1) ∉ s.Columns.map k3++pre.flatMap x3++pr.map (fun r=>(⟨y.Bay,r,2⟩:H1)):=fresh _ (pos.map (fun r=>(⟨y.Bay,r,2⟩:H1))++post.flatMap x3) _ (by rw [e]; simp [x3,e'])
      have hg:=hm.get ⟨y.Bay,r,2⟩
      rw [if_neg hf] at hg
      refine J0 (x:=0) (congrArg some hg) (Rw ⟨by omega,by omega⟩ (h4 _ ?_))
      rw [List.map_append,← List.append_assoc]
      exact hm.snoc hf rfl
    ·have hd:decide (0 < (pr.length:Int))=false:=Kw (by omega)
     rw [hd]
     simp only [cond_false,Bool.false_and]
     refine J1 (Ha (J1 (Ha ?_)))
     ·have hf:(⟨y.Bay,r,2⟩:H1) ∉ s.Columns.map k3++pre.flatMap x3++pr.map (fun r=>(⟨y.Bay,r,2⟩:H1)):=fresh _ (pos.map (fun r=>(⟨y.Bay,r,2⟩:H1))++post.flatMap x3) _ (by rw [e]; simp [x3,e'])
      have hg:=hm.get ⟨y.Bay,r,2⟩
      rw [if_neg hf] at hg
      refine J0 (x:=0) (congrArg some hg) (Rw ⟨by omega,by omega⟩ (h4 _ ?_))
      rw [List.map_append,← List.append_assoc]
      exact hm.snoc hf rfl
   ·rw [List.flatMap_append,← List.append_assoc]
    simpa [x3] using hm
  ·rw [Hba]
   refine Ha ?_
   have:(Gu.l m).any (fun x=>decide (1 < x.2))=false:=List.any_eq_false.2 (fun x hx=>by have:=hm.le x hx; simp; omega)
   rw [this]; rfl

theorem Q01 {s:Gf} (h:Hd6 s):R4d s:=by
 obtain⟨h1,⟨h2,h3,h4⟩,⟨h5,h6,h7⟩⟩:=h
 refine⟨⟨h1,by omega,by omega⟩,fun c hc=>Jfe (h3 c hc),fun x hx=>?_,?_⟩
 ·obtain⟨⟨b1,b2⟩,hr⟩:=h6 x hx
  rcases hr with h | h <;> rw [h] <;> refine⟨b1,by omega,by simp,by simp,by simp,by simp⟩
 ·refine List.nodup_append.2 ⟨?_,?_,?_⟩
  ·have a0:=List.pairwise_map.1 h4
   refine List.pairwise_map.2 (a0.imp (fun {a b} h0 e=>h0 ?_))
   simp only [k3,H1.mk.injEq] at e
   obtain⟨e1,e2,e3⟩:=e
   have e4:a.Deck=b.Deck:=by
    revert e3
    cases a.Deck <;> cases b.Deck <;> simp [dk]
   simp only [R15,e1,e2,e4]
  ·refine List.pairwise_flatMap.2 ⟨fun x hx=>?_,?_⟩
   ·refine List.pairwise_map.2 ?_
    rcases (h6 x hx).rows with h | h <;> rw [h] <;> simp
   ·have a1:=List.pairwise_map.1 h7
    have h9:s.Covers.Pairwise (fun a b=>Q0f a≠Q0f b∧Jde a∧Jde b):=
     List.pairwise_iff_getElem.2 (fun i j hi hj a2=>⟨List.pairwise_iff_getElem.1 a1 i j hi hj a2,h6 _ (List.getElem_mem hi),h6 _ (List.getElem_mem hj)⟩)
    refine h9.imp (fun {a b} h0 p hp q hq e=>?_)
    obtain⟨a3,ha,hb⟩:=h0
    obtain⟨r,hr,rfl⟩:=Mf.1 hp
    obtain⟨r',h8,rfl⟩:=Mf.1 hq
    simp only [H1.mk.injEq] at e
    obtain⟨e1,e2,_⟩:=e
    subst e2
    apply a3
    rcases ha.rows with h | h <;> rcases hb.rows with h' | h' <;> rw [h] at hr <;> rw [h'] at h8 <;> simp [Q0f,e1,h,h'] at hr h8 ⊢ <;> omega
  ·intro a ha b hb e
   obtain⟨c,_,rfl⟩:=Mf.1 ha
   obtain⟨x,_,hx⟩:=List.mem_flatMap.1 hb
   obtain⟨r,_,rfl⟩:=Mf.1 hx
   simp only [k3,H1.mk.injEq] at e
   have:=e.2.2
   revert this
   cases c.Deck <;> simp [dk]
theorem Q52 {s:Gf} (h:Hd6 s):Qu s=some true:=Q3d (Q01 h)

theorem G9f {α β:Type} {x:α} {k:α→Option β}:bnd (some x) k=k x:=rfl
def Jf5 {α:Type} (p:α→Bool) (l:List α):Int:=match l.findIdx? p with
 | some j=>(j:Int)
 | none => -1
theorem Hc9 {α:Type} {p:α→Bool} {f:α→Option Bool} {xs:List α} (hf:∀ x∈xs,f x=some (p x)) :
  each (fun y i (_:Unit) nx=>bnd (f y) fun r=>bif r then some (i:Int) else nx ()) (fun _=>some (-1)) xs 0 ()=some (Jf5 p xs):=by
 have key:∀ (xs:List α),(∀ x∈xs,f x=some (p x))→∀ i:Nat,each (fun y i (_:Unit) nx=>bnd (f y) fun r=>bif r then some (i:Int) else nx ()) (fun _=>some (-1)) xs i ()=some (match xs.findIdx? p with
  | some j=>((i+j:Nat):Int)
  | none => -1):=by
  intro xs
  induction xs with
  | nil=>intro _ i; rfl
  | cons x xs ih=>
   intro hf i
   rw [each,hf x (List.mem_cons_self ..),G9f,List.findIdx?_cons]
   cases p x with
   | true=>simp
   | false=>
    simp only [cond_false]
    rw [ih (fun y hy=>hf y (List.mem_cons_of_mem _ hy)) (i+1)]
    cases xs.findIdx? p with
    | none=>simp
    | some j=>show some (((i+1+j:Nat)):Int)=some (((i+(j+1):Nat)):Int); rw [show i+1+j=i+(j+1) by omega]
 rw [key xs hf 0]
 unfold Jf5
 cases xs.findIdx? p <;> simp
theorem J6c {α:Type} (p:α→Bool) (l:List α):(Jf5 p l = -1∧(∀ x∈l,p x=false)∧l.find? p=none)∨∃ (m:Nat) (x:α),Jf5 p l=(m:Int)∧l[m]? = some x∧p x=true∧l.find? p=some x:=by
 unfold Jf5
 cases h:l.findIdx? p with
 | none=>
  have:=List.findIdx?_eq_none_iff.1 h
  exact .inl ⟨rfl,this,List.find?_eq_none.2 (fun x hx=>by rw [this x hx]; simp)⟩
 | some j=>
  obtain⟨hj,h1,h2⟩:=List.findIdx?_eq_some_iff_getElem.1 h
  refine .inr ⟨j,l[j],rfl,by simp [hj],h1,?_⟩
  refine List.find?_eq_some_iff_getElem.2 ⟨h1,j,hj,rfl,fun k hk=>?_⟩
  simpa using h2 k hk
theorem H53 {α:Type} {p:α→Bool} {l:List α}:decide (0≤Jf5 p l)=l.any p:=by
 rcases J6c p l with ⟨h1,h2,_⟩ | ⟨m,x,h1,h2,h3,_⟩
 ·rw [h1]
  refine Eq.symm (List.any_eq_false.2 fun x hx=>?_)
  rw [h2 x hx]; exact Bool.false_ne_true
 ·rw [h1,Kv (by omega)]
  exact(List.any_eq_true.2 ⟨x,M0 h2,h3⟩).symm

def G94 (boxes:List Box) (id:Int):Option Box:=boxes.find? (fun b=>decide (b.ID=id))
theorem He1 (boxes:List Box) (id:Int):G2f boxes id=some (match G94 boxes id with
  | some b=>(b,true)
  | none=>(Box.mk 0 ByteArray.empty 0 false 0 0 0 0 false,false)):=by
 unfold G2f
 have h:Qz boxes (fun z0=>G48 z0 id)=some (Jf5 (fun b:Box=>decide (b.ID=id)) boxes):=Hc9 (fun x _=>rfl)
 rw [h]
 simp only [G9f]
 unfold G94
 rcases J6c (fun b:Box=>decide (b.ID=id)) boxes with ⟨h1,_,h3⟩ | ⟨m,x,h1,h2,_,h4⟩
 ·rw [h1,h3]; rfl
 ·rw [h1,h4,Kw (by omega),cond_false]
  unfold Ju
  rw [Kv (by omega),cond_true,show (m:Int).toNat=m by omega,h2]
  rfl
def Hc6 (size:Int):List Int:=if size=40 then [0] else if size=20 then [1,2] else []
theorem J0d (size:Int):Zz size=some (Hc6 size):=by
 unfold Zz Hc6
 by_cases h:size=40
 ·simp [h]
 ·by_cases h2:size=20
  ·simp [h2]
  ·simp [h,h2]
theorem R13 (l:List Int) (v:Int):Rb l v=some (l.any (fun y=>decide (v=y))):=by
 unfold Rb
 have h:Yc l v=some (Jf5 (fun y=>decide (v=y)) l):=by
  unfold Yc
  exact Hc9 (f:=fun y=>some (decide (v=y))) (fun x _=>rfl)
 rw [h]
 simp only [G9f]
 rw [H53]
theorem Jfd (l:List Slot) (v:Slot):R0 l v=some (l.any (fun y=>decide (v=y))):=by
 unfold R0
 have h:Rr l v=some (Jf5 (fun y=>decide (v=y)) l):=by
  unfold Rr
  exact Hc9 (f:=fun y=>some (decide (v=y))) (fun x _=>rfl)
 rw [h]
 simp only [G9f]
 rw [H53]

structure Q04 (s:Gf) (x:Slot) (size:Int):Prop where
 col:∃ (m:Nat) (c:G6),x.G6=(m:Int)∧s.Columns[m]? = some c∧x.Tier < c.Tiers
 tier:0≤x.Tier
 half:x.Half∈Hc6 size
theorem Qad (s:Gf) (x:Slot) (size:Int):Wp (G74 s x size) (fun r=>r=true ↔ Q04 s x size):=by
 unfold G74
 by_cases h0:0≤x.G6∧x.G6 < (s.Columns.length:Int)
 ·by_cases h1:0≤x.Tier
  ·obtain⟨m,hm⟩:∃ m:Nat,x.G6=(m:Int):=⟨x.G6.toNat,by omega⟩
   have h3:m < s.Columns.length:=by omega
   have hc:s.Columns[m]? = some s.Columns[m]:=by simp [h3]
   have e:(((decide (0≤x.G6))&&(decide (x.G6 < (s.Columns.length:Int))))&&(decide (0≤x.Tier)))=true:=by simp [h0.1,h0.2,h1]
   simp only [e,cond_true,Bool.true_and]
   refine J1 (Zb hm hc (Ha ?_))
   by_cases h2:x.Tier < (s.Columns[m]).Tiers
   ·rw [Kv h2]
    simp only [cond_true]
    refine J0 (J0d size) (J0 (R13 _ _) (Ha ?_))
    rw [Bool.true_and,List.any_eq_true]
    constructor
    ·rintro⟨y,hy,he⟩
     have:=Kt he
     subst this
     exact⟨⟨m,_,hm,hc,h2⟩,h1,hy⟩
    ·exact fun h=>⟨_,h.half,by simp⟩
   ·rw [Kw h2]
    simp only [cond_false,Bool.false_and]
    refine J1 (Ha (J1 (Ha (Ha ⟨fun h=>(by cases h),fun h=>?_⟩))))
    obtain⟨m',c,g1,g2,g3⟩:=h.col
    have:m'=m:=by omega
    subst this
    rw [hc] at g2; cases g2
    exact(h2 g3).elim
  ·simp only [Kw h1,Bool.and_false,cond_false,Bool.false_and]
   exact J1 (Ha (J1 (Ha (J1 (Ha (Ha ⟨fun h=>(by cases h),fun h=>(h1 h.tier).elim⟩))))))
 ·have e:((decide (0≤x.G6))&&(decide (x.G6 < (s.Columns.length:Int))))=false:=by
   by_cases h:0≤x.G6
   ·have:¬ x.G6 < (s.Columns.length:Int):=fun g=>h0 ⟨h,g⟩
    simp [this]
   ·simp [h]
  simp only [e,Bool.false_and,cond_false]
  refine J1 (Ha (J1 (Ha (J1 (Ha (Ha ⟨fun h=>(by cases h),fun h=>?_⟩))))))
  obtain⟨m,c,g1,g2,_⟩:=h.col
  have:=(Kx g2).1
  exact(h0 (by omega)).elim

def below (l:List Slot) (x:Slot) (half:Int):Prop:=(⟨x.G6,x.Tier - 1,half⟩:Slot)∈l
def Qea (x:Slot) (l:List Slot):Prop:=x.Tier≤0∨below l x x.Half∨(x.Half=0∧below l x 1∧below l x 2)
theorem H97 (half:Int) (l:List Slot) (x:Slot) (ht : -1000000≤x.Tier∧x.Tier≤1000000):Wp (G00 half l x) (fun r=>r=true ↔ below l x half):=by
 unfold G00
 refine Rw ⟨by omega,by omega⟩ (J0 (Jfd _ _) (Ha ?_))
 rw [List.any_eq_true]
 constructor
 ·rintro⟨y,hy,he⟩
  have:=Kt he
  subst this
  exact hy
 ·exact fun h=>⟨_,h,by simp⟩
theorem R03 (x:Slot) (l:List Slot) (ht : -1000000≤x.Tier∧x.Tier≤1000000):Wp (Ga4 x l) (fun r=>r=true ↔ Qea x l):=by
 unfold Ga4 Qea
 refine Qm (fun h=>Ha ⟨fun _=>.inl (Kt h),fun _=>rfl⟩) (fun h=>?_)
 have h0:=Ku h
 refine J1 (wp_mono (H97 x.Half l x ht) (fun r7 h7=>?_))
 cases r7 with
 | true=>
  simp only [Bool.not_true,Bool.false_and,cond_false,Bool.true_or]
  exact J1 (Ha (J1 (Ha (Ha ⟨fun _=>.inr (.inl (h7.1 rfl)),fun _=>rfl⟩))))
 | false=>
  have h1:¬ below l x x.Half:=fun h=>by have:=h7.2 h; cases this
  simp only [Bool.not_false,Bool.true_and,Bool.false_or]
  by_cases hh:x.Half=0
  ·rw [Kv hh]
   simp only [cond_true,Bool.true_and]
   refine J1 (wp_mono (H97 1 l x ht) (fun r8 h8=>?_))
   cases r8 with
   | true=>
    simp only [cond_true,Bool.true_and]
    refine J1 (wp_mono (H97 2 l x ht) (fun r9 h9=>Ha ⟨fun h=>.inr (.inr ⟨hh,h8.1 rfl,h9.1 h⟩),fun h=>?_⟩))
    rcases h with h | h | ⟨_,_,h⟩
    ·exact(h0 h).elim
    ·exact(h1 h).elim
    ·exact h9.2 h
   | false=>
    simp only [cond_false,Bool.false_and]
    refine J1 (Ha (Ha ⟨fun h=>(by cases h),fun h=>?_⟩))
    rcases h with h | h | ⟨_,h,_⟩
    ·exact(h0 h).elim
    ·exact(h1 h).elim
    ·have:=h8.2 h; cases this
  ·rw [Kw hh]
   simp only [cond_false,Bool.false_and]
   refine J1 (Ha (J1 (Ha (Ha ⟨fun h=>(by cases h),fun h=>?_⟩))))
   rcases h with h | h | ⟨h,_⟩
   ·exact(h0 h).elim
   ·exact(h1 h).elim
   ·exact(hh h).elim

def J2f (a b:Int):Prop:=a=b∨a=0∨b=0
theorem J0c (a b:Int):Wp (G23 a b) (fun r=>r=true ↔ J2f a b):=by
 unfold G23 J2f
 refine Ha ?_
 simp [or_assoc]
def Q59 (a b:Slot):Prop:=a.G6=b.G6∧a.Tier=b.Tier∧J2f a.Half b.Half
theorem R02 (a b:Slot):Wp (Ga3 a b) (fun r=>r=true ↔ Q59 a b):=by
 unfold Ga3 Q59
 by_cases h:a.G6=b.G6∧a.Tier=b.Tier
 ·simp only [Kv h.1,Kv h.2,Bool.and_self,cond_true,Bool.true_and]
  exact J1 (wp_mono (J0c _ _) (fun r hr=>Ha ⟨fun e=>⟨h.1,h.2,hr.1 e⟩,fun e=>hr.2 e.2.2⟩))
 ·have e:(decide (a.G6=b.G6)&&decide (a.Tier=b.Tier))=false:=by
   by_cases h1:a.G6=b.G6
   ·have:¬ a.Tier=b.Tier:=fun h2=>h ⟨h1,h2⟩
    simp [this]
   ·simp [h1]
  simp only [e,cond_false,Bool.false_and]
  exact J1 (Ha (Ha ⟨fun e=>(by cases e),fun e=>(h ⟨e.1,e.2.1⟩).elim⟩))
def Q30 (b:Box):Int:=if b.High then 2896 else 2591
def J26 (boxes:List Box) (column half:Int) (n:Int) (x:G1):Int:=
 if x.Slot.G6=column∧(x.Slot.Half=half∨x.Slot.Half=0) then (match G94 boxes x.Box with | some b=>n+Q30 b | none=>n) else n
def Hc5 (boxes:List Box) (l:List G1) (column half:Int):Int:=l.foldl (J26 boxes column half) 0
theorem R89 {boxes:List Box} {column half n:Int} {x:G1}:n≤J26 boxes column half n x∧J26 boxes column half n x≤n+2896:=by
 unfold J26 Q30
 split
 ·split
  ·split <;> omega
  ·omega
 ·omega
theorem J08 (boxes:List Box) (l:List G1) (column half:Int) (hl:l.length≤1000000):G22 boxes l column half=some (Hc5 boxes l column half):=by
 refine H41 ?_
 unfold G22 Hc5
 refine R1 (fun pre n=>n=pre.foldl (J26 boxes column half) 0∧0≤n∧n≤2896*pre.length) ⟨rfl,Int.le_refl _,by simp⟩ (fun pre y post n nx e hn h5=>?_) (fun n hn=>Ha hn.1)
 obtain⟨rfl,h1,h2⟩:=hn
 have hp:pre.length+1≤l.length:=by rw [e]; simp
 have ha:=R89 (boxes:=boxes) (column:=column) (half:=half) (n:=pre.foldl (J26 boxes column half) 0) (x:=y)
 have h4:((pre++[y]).length:Int)=pre.length+1:=by simp
 generalize hg:pre.foldl (J26 boxes column half) 0=n at *
 refine Gb1 (fun j=>j=J26 boxes column half n y) (fun K hK=>?_) (fun j hj=>h5 _ ⟨by rw [hj,List.foldl_append,hg]; rfl,by omega,by rw [h4]; omega⟩)
 refine Qm (fun hc=>?_) (fun hc=>hK _ ?_)
 ·have h0:y.Slot.G6=column∧(y.Slot.Half=half∨y.Slot.Half=0):=by simpa using hc
  refine J0 (He1 boxes y.Box) ?_
  cases hf:G94 boxes y.Box with
  | none=>exact Qm (fun h=>by cases h) (fun _=>hK _ (by unfold J26; rw [if_pos h0,hf]))
  | some b=>
   refine Qm (fun _=>?_) (fun h=>by cases h)
   have ht:Ga0 b=some (Q30 b):=by unfold Ga0 Q30; cases b.High <;> rfl
   have h3:J26 boxes column half n y=n+Q30 b:=by unfold J26; rw [if_pos h0,hf]
   refine J0 ht (Rw ?_ (hK _ h3.symm))
   rw [← h3]
   omega
 ·have h0:¬ (y.Slot.G6=column∧(y.Slot.Half=half∨y.Slot.Half=0)):=by simpa using hc
  unfold J26; rw [if_neg h0]
def Qeb (boxes:List Box) (l:List G1) (m:Nat) (c:G6):Prop:=c.Height≤0∨(Hc5 boxes l m 1≤c.Height∧Hc5 boxes l m 2≤c.Height)
theorem Qff {s:Gf} {boxes:List Box} {l:List G1} {m:Nat} {c:G6} (hc:s.Columns[m]? = some c) (hl:l.length≤1000000):Wp (Ga1 s boxes l (m:Int)) (fun r=>r=true ↔ Qeb boxes l m c):=by
 unfold Ga1 Qeb
 refine Zb rfl hc ?_
 by_cases h:c.Height≤0
 ·simp only [Kv h,Bool.not_true,cond_false,Bool.false_and,Bool.true_or]
  exact J1 (Ha (J1 (Ha (Ha ⟨fun _=>.inl h,fun _=>rfl⟩))))
 ·simp only [Kw h,Bool.not_false,cond_true,Bool.true_and,Bool.false_or]
  refine J0 (J08 boxes l m 1 hl) ?_
  by_cases h1:Hc5 boxes l m 1≤c.Height
  ·rw [Kv h1]
   simp only [cond_true,Bool.true_and]
   exact J0 (J08 boxes l m 2 hl) (Ha ⟨fun e=>.inr ⟨h1,Kt e⟩,fun e=>Kv (e.elim (fun e=>(h e).elim) (·.2))⟩)
  ·rw [Kw h1]
   simp only [cond_false,Bool.false_and]
   exact J1 (Ha (Ha ⟨fun e=>(by cases e),fun e=>e.elim (fun e=>(h e).elim) (fun e=>(h1 e.1).elim)⟩))

theorem Qa3 (l:List G1) (hl:l.length≤1000000):G72 l=some (l.map (·.Slot)):=by
 refine H41 ?_
 unfold G72
 refine R1 (fun pre s=>s=pre.map (·.Slot)) rfl (fun pre y post s nx e hs h0=>?_) (fun s hs=>Ha hs)
 subst hs
 have hp:pre.length+1≤l.length:=by rw [e]; simp
 exact Yq (G92 (by simp only [Md,Ma]; omega) (by omega)) (h0 _ (by simp))

structure G52 (s:Gf) (boxes:List Box) (l:List G1):Prop where
 each:∀ x∈l,∃ b,G94 boxes x.Box=some b∧Q04 s x.Slot b.Size∧Qea x.Slot (l.map (·.Slot))
 sorted:l.Pairwise (fun a b=>a.Box < b.Box)
 apart:l.Pairwise (fun a b=>¬ Q59 b.Slot a.Slot)
 fits:∀ m c,s.Columns[m]? = some c→Qeb boxes l m c

theorem H84 {α:Type} {R:α→α→Prop} {l:List α} {x:α} (h:l.Pairwise R) (hx:∀ a∈l,R a x):(l++[x]).Pairwise R:=by
 rw [List.pairwise_append]
 refine⟨h,List.pairwise_singleton ..,fun a ha b hb=>?_⟩
 rw [Mg] at hb; subst hb
 exact hx a ha
theorem H26 {α:Type} {R:α→α→Prop} {pre post:List α} {y:α} (h:(pre++y::post).Pairwise R):∀ a∈pre,R a y:=fun a ha=>(List.pairwise_append.1 h).2.2 a ha y (List.mem_cons_self ..)

theorem H23 {s:Gf} {boxes:List Box} {l:List G1} (hr:Qu s=some true) (ht:∀ c∈s.Columns,c.Tiers≤1000000) (hl:l.length≤1000000):Wp (Qw s boxes l) (fun r=>r=true ↔ G52 s boxes l):=by
 unfold Qw
 refine J0 hr (Qm (fun h=>by cases h) (fun _=>?_))
 refine J0 (Qa3 l hl) ?_
 refine R1 (fun pre _=>(∀ x∈pre,∃ b,G94 boxes x.Box=some b∧Q04 s x.Slot b.Size∧Qea x.Slot (l.map (·.Slot)))∧pre.Pairwise (fun a b=>a.Box < b.Box)∧pre.Pairwise (fun a b=>¬ Q59 b.Slot a.Slot))
  ⟨fun x hx=>(M1 hx).elim,List.Pairwise.nil,List.Pairwise.nil⟩ (fun pre y post u nx e hI h4=>?_) (fun u hI=>?_)
 ·obtain⟨i1,i2,i3⟩:=hI
  have a8:pre.length < l.length:=by rw [e]; simp
  have hy:y∈l:=by rw [e]; simp
  have no:∀ {m:Option Bool},m=some false→¬ G52 s boxes l→Wp m (fun r=>r=true ↔ G52 s boxes l):=fun e h=>by subst e; exact Ha ⟨fun e=>(by cases e),fun e=>(h e).elim⟩
  refine J0 (He1 boxes y.Box) ?_
  cases hf:G94 boxes y.Box with
  | none=>
   simp only [Bool.not_false,Bool.not_true,Bool.false_and,cond_false,Bool.true_or,cond_true]
   refine J1 (Ha (J1 (Ha (J1 (Ha (J1 (Ha (no rfl fun h=>?_))))))))
   obtain⟨b,hb,_⟩:=h.each y hy
   rw [hf] at hb; cases hb
  | some b=>
   simp only [Bool.not_true,Bool.not_false,Bool.true_and,Bool.false_or]
   -- the order
   have h7:Wp (bif decide (0 < (pre.length:Int)) then chk ((pre.length:Int) - 1) some else some 0) (fun v=>Wp (bif decide (0 < (pre.length:Int)) then Ju l v some else some default) (fun y20=>
     ((decide (0 < (pre.length:Int))&&decide (y.Box≤y20.Box))=true→¬ G52 s boxes l)∧((decide (0 < (pre.length:Int))&&decide (y.Box≤y20.Box))=false→∀ a∈pre,a.Box < y.Box))):=by
    rcases List.eq_nil_or_concat pre with hp | ⟨pre',z,hp⟩
    ·subst hp
     simp only [List.length_nil]
     exact Ha (Ha ⟨fun h=>by simp at h,fun _ a ha=>(M1 ha).elim⟩)
    ·have h2:pre=pre'++[z]:=by simpa using hp
     have a9:pre.length=pre'.length+1:=by rw [h2]; simp
     have hd:decide (0 < (pre.length:Int))=true:=Kv (by omega)
     have hz:l[pre'.length]? = some z:=by rw [e,h2]; simp
     rw [hd]
     simp only [cond_true,Bool.true_and]
     refine Rw ⟨by omega,by omega⟩ (Ha (Zb (m:=pre'.length) (by omega) hz (Ha ⟨fun h hR=>?_,fun h a ha=>?_⟩)))
     ·have:=Kt h
      have hs:=hR.sorted
      rw [e] at hs
      have:=H26 hs z (by rw [h2]; simp)
      omega
     ·have b0:¬ y.Box≤z.Box:=Ku h
      rw [h2] at ha
      rcases Me.1 ha with ha | ha
      ·have:=H26 (h2 ▸ i2:(pre'++z::[]).Pairwise _) a ha
       omega
      ·rw [Mg] at ha; subst ha; omega
   refine J1 (wp_mono h7 (fun v hv=>J1 (wp_mono hv (fun y20 a5=>?_))))
   obtain⟨n1,n2⟩:=a5
   generalize (decide (0 < (pre.length:Int))&&decide (y.Box≤y20.Box))=c at n1 n2
   cases c with
   | true=>
    simp only [Bool.not_true,cond_false,Bool.true_or,cond_true]
    exact J1 (Ha (J1 (Ha (no rfl (n1 rfl)))))
   | false=>
    simp only [Bool.not_false,cond_true,Bool.false_or]
    have h8:=n2 rfl
    refine J1 (wp_mono (Qad s y.Slot b.Size) (fun r21 a1=>?_))
    cases r21 with
    | false=>
     simp only [Bool.not_false,Bool.not_true,cond_false,Bool.true_or,cond_true]
     refine J1 (Ha (no rfl fun h=>?_))
     obtain⟨b',hb,hs,_⟩:=h.each y hy
     rw [hf] at hb; cases hb
     have:=a1.2 hs; cases this
    | true=>
     have h1:=a1.1 rfl
     simp only [Bool.not_true,Bool.not_false,cond_true,Bool.false_or]
     have h9 : -1000000≤y.Slot.Tier∧y.Slot.Tier≤1000000:=by
      obtain⟨m,c,_,hc,h3⟩:=h1.col
      have:=h1.tier
      have:=ht c (M0 hc)
      omega
     refine J1 (wp_mono (R03 y.Slot (l.map (·.Slot)) h9) (fun r22 a2=>?_))
     cases r22 with
     | false=>
      refine Qm (fun _=>no rfl fun h=>?_) (fun h=>by cases h)
      obtain⟨b',hb,_,hh⟩:=h.each y hy
      have:=a2.2 hh; cases this
     | true=>
      have a0:=a2.1 rfl
      refine Qm (fun h=>by cases h) (fun _=>?_)
      refine J1 (H08 (m:=pre.length) rfl (by rw [Md]; omega) ?_)
      have a6:(l.map (·.Slot)).take pre.length=pre.map (·.Slot):=by rw [← List.map_take,e,List.take_left']; rfl
      rw [a6]
      refine R1 (fun pr _=>∀ a∈pr,¬ Q59 y.Slot a) (fun a ha=>(M1 ha).elim) (fun pr a pos u nx2 e2 h5 a4=>?_) (fun u h5=>h4 _ ⟨fun x hx=>?_,H84 i2 h8,H84 i3 (fun a ha=>h5 a.Slot (Mf.2 ⟨a,ha,rfl⟩))⟩)
      ·refine J1 (wp_mono (R02 y.Slot a) (fun r48 a3=>?_))
       refine Qm (fun h=>no rfl fun hR=>?_) (fun h=>a4 _ (fun a' h0=>?_))
       ·have hm:=a3.1 h
        have a7:a∈pre.map (·.Slot):=by rw [e2]; simp
        obtain⟨z,hz,rfl⟩:=Mf.1 a7
        have ha:=hR.apart
        rw [e] at ha
        exact H26 ha z hz hm
       ·rcases Me.1 h0 with h0 | h0
        ·exact h5 a' h0
        ·rw [Mg] at h0; subst h0
         intro hm
         have:=a3.2 hm
         rw [this] at h; cases h
      ·rcases Me.1 hx with hx | hx
       ·exact i1 x hx
       ·rw [Mg] at hx; subst hx
        exact⟨b,hf,h1,a0⟩
 ·obtain⟨i1,i2,i3⟩:=hI
  refine R1 (fun pre _=>∀ m c,m < pre.length→s.Columns[m]? = some c→Qeb boxes l m c) (fun m c h=>(Nat.not_lt_zero m h).elim) (fun pre y post u nx e hI h4=>?_) (fun u hI=>Ha ⟨fun _=>⟨i1,i2,i3,fun m c hc=>hI m c (Kx hc).1 hc⟩,fun _=>rfl⟩)
  have hc:s.Columns[pre.length]? = some y:=by rw [e]; simp
  refine J1 (wp_mono (Qff hc hl) (fun r hr=>?_))
  cases r with
  | false=>exact Qm (fun _=>Ha ⟨fun e=>(by cases e),fun h=>by have:=hr.2 (h.fits _ _ hc); cases this⟩) (fun h=>by cases h)
  | true=>
   refine Qm (fun h=>by cases h) (fun _=>h4 _ (fun m c hm h6=>?_))
   rw [M9,Ma] at hm
   rcases Kr m pre.length with h | h
   ·exact hI m c h h6
   ·have:m=pre.length:=by omega
    subst this
    rw [hc] at h6; cases h6
    exact hr.1 rfl

def shut (ts hs:List Int) (c:Nat):Bool:=(hs.drop (c+1)).any (fun n=>decide (0 < n))||decide (ts.getD c 0≤hs.getD c 0)
def G19 (ts:List Int):Nat→List Int→List Int→List (List G1)
 | 0,_,_=>[]
 | F+1,ids,hs=>bif ids.isEmpty then [[]] else
   (List.range ts.length).flatMap fun c=>bif shut ts hs c then [] else
    (List.range ids.length).flatMap fun i=>(G19 ts F (ids.eraseIdx i) (hs.set c (hs.getD c 0+1))).map fun r=>(⟨ids.getD i 0,⟨(c:Int),hs.getD c 0,0⟩⟩:G1)::r
theorem Jd1 {ts:List Int}:∀ {F:Nat} {ids hs:List Int} {r:List G1},ids.length < F→r∈G19 ts F ids hs→r.length=ids.length
 | F+1,ids,hs,r,hF,hr=>by
  unfold G19 at hr
  cases ids with
  | nil=>simp at hr; subst hr; rfl
  | cons a l=>
   simp only [List.isEmpty_cons,cond_false,List.mem_flatMap,List.mem_range] at hr
   obtain⟨c,hc,hr⟩:=hr
   cases h0:shut ts hs c with
   | true=>rw [h0] at hr; simp at hr
   | false=>
    rw [h0] at hr
    simp only [cond_false,List.mem_flatMap,List.mem_range,Mf] at hr
    obtain⟨i,hi,q,hq,rfl⟩:=hr
    have hl:((a::l).eraseIdx i).length=l.length:=by rw [List.length_eraseIdx_of_lt (by simpa using hi)]; simp
    have:=Jd1 (F:=F) (by rw [hl]; simp at hF; omega) hq
    rw [M5,this,hl,M5]
theorem Jfc (l:List Int) (p:Int→Bool) (f:Int→Option Bool) (hf:∀ x∈l,f x=some (p x)):Qk l f=some (l.any p):=by
 unfold Qk Ys
 rw [Hc9 hf,G9f,H53]
theorem J60 {α:Type} (f:Nat→List α) (n:Nat):(List.range (n+1)).flatMap f=(List.range n).flatMap f++f n:=by
 rw [List.range_succ,List.flatMap_append]; simp

theorem Jd0 (s:Gf):∀ (F:Nat) (ids hs:List Int),hs.length=s.Columns.length→s.Columns.length≤1000→(∀ h∈hs,0≤h∧h+(ids.length:Int)≤1000)→ids.length < F→ids.length≤1000→Zo F ids s hs=some (G19 (s.Columns.map (·.Tiers)) F ids hs):=by
 intro F
 induction F with
 | zero=>intro ids hs h1 h2 h3 h4; omega
 | succ F ih=>
  intro ids hs h1 h2 h3 h4 h5
  show Zt (Zo F) ids s hs=_
  refine H41 ?_
  unfold Zt G19
  cases ids with
  | nil=>exact Ha rfl
  | cons a l=>
   obtain⟨ids,h0⟩:∃ ids,a::l=ids:=⟨_,rfl⟩
   have b0:ids.isEmpty=false:=by rw [← h0]; rfl
   have b5:0 < ids.length:=by rw [← h0]; simp
   rw [h0] at h3 h4 h5 ⊢
   rw [b0,cond_false]
   refine Qm (fun e=>by have:=Kt e; omega) (fun _=>?_)
   rw [Md]
   refine R1 (fun pre s7=>s7=(List.range pre.length).flatMap fun c=>bif shut (s.Columns.map (·.Tiers)) hs c then [] else
    (List.range ids.length).flatMap fun i=>(G19 (s.Columns.map (·.Tiers)) F (ids.eraseIdx i) (hs.set c (hs.getD c 0+1))).map fun r=>(⟨ids.getD i 0,⟨(c:Int),hs.getD c 0,0⟩⟩:G1)::r)
    rfl (fun pre y post s7 nx e hI b1=>?_) (fun s7 hI=>Ha hI)
   have b6:pre.length < s.Columns.length:=by rw [e]; simp
   have hc:pre.length < hs.length:=by omega
   have a2:hs.getD pre.length 0=hs[pre.length]:=by simp [List.getD,hc]
   have b2:(s.Columns.map (·.Tiers)).getD pre.length 0=y.Tiers:=by
    have:s.Columns[pre.length]? = some y:=by rw [e]; simp
    simp [List.getD,this]
   have hh:=h3 _ (List.getElem_mem hc)
   refine Gb1 (fun s'=>s'=(List.range (pre++[y]).length).flatMap fun c=>bif shut (s.Columns.map (·.Tiers)) hs c then [] else
    (List.range ids.length).flatMap fun i=>(G19 (s.Columns.map (·.Tiers)) F (ids.eraseIdx i) (hs.set c (hs.getD c 0+1))).map fun r=>(⟨ids.getD i 0,⟨(c:Int),hs.getD c 0,0⟩⟩:G1)::r) (fun K hK=>?_) (fun s' b3=>b1 s' b3)
   rw [M9,Ma] at hK
   simp only [J60] at hK
   refine J1 (H08 (m:=pre.length+1) rfl (by omega) ?_)
   refine J0 (Jfc _ (fun n=>decide (0 < n)) _ (fun x _=>rfl)) ?_
   have h6:shut (s.Columns.map (·.Tiers)) hs pre.length=((hs.drop (pre.length+1)).any (fun n=>decide (0 < n))||decide (y.Tiers≤hs[pre.length])):=by
    unfold shut; rw [a2,b2]
   have a3:shut (s.Columns.map (·.Tiers)) hs pre.length=true→Wp (K s7) (fun r=>r=(List.range s.Columns.length).flatMap fun c=>bif shut (s.Columns.map (·.Tiers)) hs c then [] else
    (List.range ids.length).flatMap fun i=>(G19 (s.Columns.map (·.Tiers)) F (ids.eraseIdx i) (hs.set c (hs.getD c 0+1))).map fun r=>(⟨ids.getD i 0,⟨(c:Int),hs.getD c 0,0⟩⟩:G1)::r):=fun h=>hK _ (by rw [h,cond_true,List.append_nil]; exact hI)
   cases h7:(hs.drop (pre.length+1)).any (fun n=>decide (0 < n)) with
   | true=>
    simp only [Bool.not_true,cond_false,Bool.true_or,cond_true]
    exact J1 (Ha (a3 (by rw [h6,h7]; rfl)))
   | false=>
    simp only [Bool.not_false,cond_true,Bool.false_or]
    refine J1 (Zb (m:=pre.length) rfl (Ky hc) (Ha ?_))
    refine Qm (fun ht=>a3 (by rw [h6,ht,Bool.or_true])) (fun ht=>?_)
    have a4:shut (s.Columns.map (·.Tiers)) hs pre.length=false:=by rw [h6,h7,ht]; rfl
    refine R1 (fun done s68=>s68=s7++(List.range done.length).flatMap fun i=>(G19 (s.Columns.map (·.Tiers)) F (ids.eraseIdx i) (hs.set pre.length (hs.getD pre.length 0+1))).map fun r=>(⟨ids.getD i 0,⟨(pre.length:Int),hs.getD pre.length 0,0⟩⟩:G1)::r)
     (by simp) (fun done y68 rest s68 nx2 e2 h8 a5=>?_) (fun s68 h8=>hK _ (by rw [h8,a4,cond_false,hI]))
    have b4:done.length < ids.length:=by rw [e2]; simp
    have a6:ids.getD done.length 0=y68:=by
     have:ids[done.length]? = some y68:=by rw [e2]; simp
     simp [List.getD,this]
    have h9:(ids.eraseIdx done.length).length=ids.length - 1:=List.length_eraseIdx_of_lt b4
    refine Zb (m:=pre.length) rfl (Ky hc) ?_
    refine J0 (J1f hs (by omega)) (Zb (m:=pre.length) rfl (Ky hc) (Rw ⟨by omega,by omega⟩ (Zb (m:=pre.length) rfl (Ky hc) ?_)))
    refine J0 (J1f ids (by omega)) ?_
    refine J0 (x:=ids.eraseIdx done.length) ?_ ?_
    ·unfold Ym
     rw [Kv (by omega:(0:Int)≤(done.length:Int)),Kv (by omega:(done.length:Int) < (ids.length:Int)),Kv (by push_cast; omega:((done.length+1:Nat):Int)=(done.length:Int)+1),Kv (by omega:ids.length≤100000)]
     simp
    refine J0 (x:=()) rfl ?_
    rw [Int.toNat_natCast]
    have a7:∀ h∈hs.set pre.length (hs[pre.length]+1),0≤h∧h+((ids.eraseIdx done.length).length:Int)≤1000:=fun h hm=>by
     rw [h9]
     rcases List.mem_or_eq_of_mem_set hm with hm | rfl
     ·have:=h3 h hm; omega
     ·omega
    have a8:=ih (ids.eraseIdx done.length) (hs.set pre.length (hs[pre.length]+1)) (by rw [List.length_set]; exact h1) h2 a7 (by omega) (by omega)
    refine J0 a8 ?_
    refine R1 (fun got s88=>s88=s68++got.map fun r=>(⟨y68,⟨(pre.length:Int),hs[pre.length],0⟩⟩:G1)::r) (by simp) (fun got y88 rest3 s88 nx3 e3 a0 a9=>?_) (fun s88 a0=>a5 _ ?_)
    ·have hm:y88∈G19 (s.Columns.map (·.Tiers)) F (ids.eraseIdx done.length) (hs.set pre.length (hs[pre.length]+1)):=by rw [e3]; simp
     have a1:=Jd1 (by omega) hm
     refine Yq (Kv ⟨?_,?_⟩) (a9 _ ?_)
     ·rw [Ma,a1,h9]; omega
     ·rw [Ma,a1,h9]; exact Nat.le_trans (by omega:1+(ids.length - 1)≤1001) (by decide)
     ·rw [a0]; simp
    ·rw [a0,h8,M9,Ma,J60,a6,a2,List.append_assoc]

section isort
variable {α:Type}
def He8 (c:α→α→Int) (x:α):List α→List α→List α
 | [],mid=>x::mid
 | p::rp,mid=>if c x p < 0 then He8 c x rp (p::mid) else (p::rp).reverse++x::mid
def Gfb (c:α→α→Int):List α→List α→List α
 | d,[]=>d
 | d,x::t=>Gfb c (He8 c x d.reverse []) t
def H29 (c:α→α→Int) (l:List α):List α:=Gfb c [] l

theorem He7 (c:α→α→Int) (x:α):∀ (rp mid:List α),(He8 c x rp mid).Perm (rp.reverse++x::mid)
 | [],mid=>.refl _
 | p::rp,mid=>by
  unfold He8
  split
  ·refine(He7 c x rp (p::mid)).trans ?_
   rw [List.reverse_cons,List.append_assoc]
   refine List.Perm.append_left _ ?_
   exact List.Perm.swap p x mid
  ·exact .refl _
theorem J15 (c:α→α→Int):∀ (t d:List α),(Gfb c d t).Perm (d++t)
 | [],d=>by rw [List.append_nil]; exact .refl _
 | x::t,d=>by
  unfold Gfb
  refine(J15 c t _).trans ?_
  have h:=He7 c x d.reverse []
  rw [List.reverse_reverse] at h
  refine(h.append_right t).trans ?_
  simp
theorem Yf (c:α→α→Int) (l:List α):(H29 c l).Perm l:=J15 c l []
theorem J6b {c:α→α→Int} {l:List α} {x:α}:x∈H29 c l ↔ x∈l:=(Yf c l).mem_iff
theorem J14 (c:α→α→Int) (l:List α):(H29 c l).length=l.length:=(Yf c l).length_eq

structure Qc1 (c:α→α→Int):Prop where
 asym:∀ x y,c x y < 0→¬ c y x < 0
 ntrans:∀ x y z,¬ c y x < 0→¬ c z y < 0→¬ c z x < 0
abbrev J24 (c:α→α→Int) (x y:α):Prop:=¬ c y x < 0

theorem J18 {c:α→α→Int} (hc:Qc1 c) (x:α):∀ (rp mid:List α),(rp.reverse++mid).Pairwise (J24 c)→(∀ y∈mid,c x y < 0)→(He8 c x rp mid).Pairwise (J24 c)
 | [],mid,h,hm=>by
  unfold He8
  exact List.pairwise_cons.2 ⟨fun y hy=>hc.asym _ _ (hm y hy),h⟩
 | p::rp,mid,h,hm=>by
  unfold He8
  split
  ·rename_i h0
   refine J18 hc x rp (p::mid) ?_ ?_
   ·rw [List.reverse_cons,List.append_assoc] at h; exact h
   ·intro y hy
    rcases Mh.1 hy with rfl | hy
    ·exact h0
    ·exact hm y hy
  ·rename_i h0
   rw [List.pairwise_append] at h ⊢
   refine⟨h.1,List.pairwise_cons.2 ⟨fun y hy=>hc.asym _ _ (hm y hy),h.2.1⟩,fun a ha b hb=>?_⟩
   rcases Mh.1 hb with rfl | hb
   ·have h2:J24 c a p:=by
     rw [List.reverse_cons,List.pairwise_append] at h
     rw [List.reverse_cons] at ha
     rcases Me.1 ha with ha | ha
     ·exact h.1.2.2 a ha p (by simp)
     ·have:a=p:=by simpa using ha
      subst this
      intro h1
      exact hc.asym _ _ h1 h1
    exact hc.ntrans _ _ _ h2 h0
   ·exact h.2.2 a ha b hb
theorem H86 {c:α→α→Int} (hc:Qc1 c):∀ (t d:List α),d.Pairwise (J24 c)→(Gfb c d t).Pairwise (J24 c)
 | [],_,h=>h
 | x::t,d,h=>by
  unfold Gfb
  exact H86 hc t _ (J18 hc x _ _ (by rw [List.reverse_reverse,List.append_nil]; exact h) (fun y hy=>by cases hy))
theorem Yx {c:α→α→Int} (hc:Qc1 c) (l:List α):(H29 c l).Pairwise (J24 c):=H86 hc l [] .nil
theorem H2a {β:Type} {l:List α} {i:Int} {k:α→Option β} {m:Nat} {x:α} (hi:i=(m:Int)) (hx:l[m]? = some x):Ju l i k=k x:=by
 subst hi
 unfold Ju
 rw [Kv (by omega:(0:Int)≤m),cond_true,show (m:Int).toNat=m by omega,hx]
 rfl

end isort

end Go.Proofs.YtibhpogonkdiaaaGreat
