/-
 The ships that twistlocklaw07.Built makes,and that they are right.
-/
import Derived.Test.YteoeccjboahfgaaGreatXB
import Derived.Test.YteoeccjboahfgaaGreatWp
set_option maxRecDepth 100000
namespace Go.Proofs.YteoeccjboahfgaaGreat
open Go.RowKit

theorem Ro {n k:Nat} (hn:n≤1000001) (hk:k≤1000):decide (n*k≤140737488355328∧n≤maxLen)=true:=by
 have h:n*k≤1000001*1000:=Nat.mul_le_mul hn hk
 have h2:n≤maxLen:=Nat.le_trans hn (by decide)
 exact decide_eq_true ⟨by omega,h2⟩
/-- A number of eight bits. -/
def Byte (z:Int):Prop:=0≤z∧z≤255
structure J44 (p:Hm):Prop where
 bay:Byte p.Bay
 row:Byte p.Row
 tiers:Byte p.Tiers

structure ColOk (c:G9):Prop where
 bay:0≤c.Bay∧c.Bay≤4
 row:0≤c.Row∧c.Row≤4
 tiers:2≤c.Tiers∧c.Tiers≤5
 height:c.Height=0
 k20:c.Kilos20=500000000
 k40:c.Kilos40=500000000
 lash:c.Lash=0
 plugs:c.Plugs=[]
 x : -26000≤c.X∧c.X≤26000
 y : -5000≤c.Y∧c.Y≤5000
 z:0≤c.Z∧c.Z≤20000
def ckey (c:G9):Int×Int×Bool:=(c.Bay,c.Row,c.Deck)
def Ga4 (bay row:Int) (deck:Bool) (c:G9):Bool:=((decide (c.Bay=bay))&&(decide (c.Row=row)))&&(c.Deck==deck)
theorem colHere_iff {bay row:Int} {deck:Bool} {c:G9}:Ga4 bay row deck c=true ↔ ckey c=(bay,row,deck):=by
 simp [Ga4,ckey,and_assoc]
structure CovOk (x:Ge):Prop where
 bay:0≤x.Bay∧x.Bay≤4
 rows:x.Rows=[0,1]∨x.Rows=[2,3,4]
def xkey (x:Ge):Int×Bool:=(x.Bay,decide (x.Rows=[0,1]))
structure ColsOk (l:List G9):Prop where
 len:l.length≤12
 each:∀ c∈l,ColOk c
 nodup:(l.map ckey).Nodup
structure CovsOk (l:List Ge):Prop where
 len:l.length≤10
 each:∀ x∈l,CovOk x
 nodup:(l.map xkey).Nodup
structure J46 (s:Hc):Prop where
 some:1≤s.Columns.length
 cols:ColsOk s.Columns
 covs:CovsOk s.Covers

theorem J87 {l:List G9} {wanted:G9→Option Bool} {p:G9→Bool} (hw:∀ x∈l,wanted x=some (p x)) (hl:l.length≤1000000):Y0 l wanted=some (G97 p l):=by
 refine G4f ?_
 unfold Y0
 refine J6 (fun pre s=>s=G97 p pre) rfl (fun pre x post s nx e hs hnx=>?_) (fun s hs=>Gw hs)
 subst hs
 have hpl:pre.length+1≤l.length:=by rw [e]; simp
 refine Y6 (fun j=>j=G97 p (pre++[x])) (fun K hK=>?_) (fun j hj=>hnx _ hj)
 refine H6 (hw x (by rw [e]; simp)) (Hq (fun h=>Q1 ?_ (hK _ ?_)) (fun h=>hK _ ?_))
 ·have:=J28 p pre
  exact Ro (by rw [List.length_singleton]; omega) (by omega)
 ·rw [H89,h]; rfl
 ·rw [H89,h]; simp

theorem find_spec {s:Hc} {bay row:Int} {deck:Bool} (hl:s.Columns.length≤1000000):Wp (Gb3 s bay row deck) (fun r=>r.2=s.Columns.any (Ga4 bay row deck)):=by
 unfold Gb3
 refine H6 (J87 (p:=Ga4 bay row deck) (fun x _=>rfl) hl) (Hq (fun h=>Gw ?_) (fun h=>?_))
 ·have h0:G97 (Ga4 bay row deck) s.Columns=[]:=by
   have:=of_decide_eq_true h
   exact List.length_eq_zero_iff.1 (by omega)
  refine Eq.symm (List.any_eq_false.2 (fun x hx=>?_))
  rw [Hd6.1 h0 x hx]; exact Bool.false_ne_true
 ·have h0:G97 (Ga4 bay row deck) s.Columns≠[]:=by
   have:=of_decide_eq_false h
   intro e; rw [e] at this; exact this rfl
  have h1:∃ z,(G97 (Ga4 bay row deck) s.Columns)[0]? = some z:=by
   cases hh:G97 (Ga4 bay row deck) s.Columns with
   | nil=>exact(h0 hh).elim
   | cons z r=>exact⟨z,rfl⟩
  obtain⟨z,hz⟩:=h1
  refine Jq (m:=0) rfl hz (Gw ?_)
  refine Eq.symm ?_
  have:¬ ∀ x∈s.Columns,Ga4 bay row deck x=false:=fun h=>h0 (Hd6.2 h)
  rw [List.any_eq_true]
  refine Classical.byContradiction fun hn=>this fun x hx=>?_
  cases hc:Ga4 bay row deck x with
  | false=>rfl
  | true=>exact(hn ⟨x,hx,hc⟩).elim

theorem built_spec (l:List Hm) (covers:Int) (hp:∀ p∈l,J44 p):Wp (Yc l covers) J46:=by
 unfold Yc
 refine Hd (G3a (m:=min l.length 12) (by omega) (by omega) ?_)
 have hl12:(l.take (min l.length 12)).length≤12:=by rw [List.length_take]; omega
 refine J6 (fun pre s=>∃ cols,s=(cols,[],0,0,0,0,[],[],[],0,0,0,0)∧cols.length≤pre.length∧(∀ c∈cols,ColOk c)∧(cols.map ckey).Nodup)
  ⟨[],rfl,Nat.le_refl _,fun c hc=>(List.not_mem_nil hc).elim,List.nodup_nil⟩ (fun pre y post s nx e hs hnx=>?_) (fun s hs=>?_)
 ·obtain⟨cols,rfl,h1,h2,h3⟩:=hs
  have hlen:pre.length+1≤12:=by rw [e] at hl12; simp at hl12; omega
  have hy:J44 y:=hp y (List.mem_of_mem_take (by rw [e]; simp:y∈l.take (min l.length 12)))
  obtain⟨⟨b1,b2⟩,⟨r1,r2⟩,⟨t1,t2⟩⟩:=hy
  refine Y6 (fun j=>j.length≤(pre++[y]).length∧(∀ c∈j,ColOk c)∧(j.map ckey).Nodup) (fun K hK=>?_) (fun j hj=>hnx _ ⟨j,rfl,hj⟩)
  refine J1 ⟨by omega,by omega⟩ (Hd (H0e (by omega) ?_))
  refine J1 ⟨by omega,by omega⟩ (Hd (H0e (by omega) ?_))
  refine J1 ⟨by omega,by omega⟩ (Hd (H0e (by omega) ?_))
  have e1:y.Bay.tmod 5=y.Bay % 5:=Int.tmod_eq_emod_of_nonneg b1
  have e2:y.Row.tmod 5=y.Row % 5:=Int.tmod_eq_emod_of_nonneg r1
  have e3:y.Tiers.tmod 4=y.Tiers % 4:=Int.tmod_eq_emod_of_nonneg t1
  rw [e1,e2,e3]
  refine J1 ⟨by omega,by omega⟩ (J1 ⟨by omega,by omega⟩ (J1 ⟨by omega,by omega⟩ (J1 ⟨by omega,by omega⟩ (J1 ⟨by omega,by omega⟩ ?_))))
  refine Y6 (fun z:Int=>0≤z∧z≤20000) (fun K' hK'=>Hq (fun _=>hK' _ ⟨by omega,by omega⟩) (fun _=>hK' _ ⟨by omega,by omega⟩)) (fun z hz=>?_)
  have hl:cols.length≤1000000:=by omega
  refine Hd (wp_mono (find_spec hl) (fun r hr=>?_))
  refine Hq (fun h=>Q1 ?_ (hK _ ⟨?_,?_,?_⟩)) (fun h=>hK _ ⟨?_,h2,h3⟩)
  ·exact Ro (by rw [List.length_singleton]; show cols.length+1≤_; omega) (by omega)
  ·simp only [List.length_append,List.length_singleton]; omega
  ·intro c hc
   rcases List.mem_append.1 hc with hc | hc
   ·exact h2 c hc
   ·rw [List.mem_singleton] at hc; subst hc
    exact⟨⟨by simp only; omega,by simp only; omega⟩,⟨by simp only; omega,by simp only; omega⟩,⟨by simp only; omega,by simp only; omega⟩,rfl,rfl,rfl,rfl,rfl,⟨by simp only; omega,by simp only; omega⟩,⟨by simp only; omega,by simp only; omega⟩,hz⟩
  ·rw [List.map_append,List.nodup_append]
   refine⟨h3,by simp,fun a ha b hb=>?_⟩
   simp only [List.map_cons,List.map_nil,List.mem_singleton] at hb
   subst hb
   obtain⟨c,hc,rfl⟩:=List.mem_map.1 ha
   intro he
   have hf:r.2=false:=by simpa using h
   rw [hf] at hr
   have:=List.any_eq_false.1 hr.symm c hc
   exact this (colHere_iff.2 he)
  ·simp only [List.length_append,List.length_singleton]; omega
 ·obtain⟨cols,rfl,h1,h2,h3⟩:=hs
  have h1:cols.length≤12:=Nat.le_trans h1 hl12
  refine Y6 (fun j=>1≤j.length∧ColsOk j) (fun K hK=>Hq (fun h=>hK _ ⟨Nat.le_refl _,?_⟩) (fun h=>hK _ ⟨?_,⟨h1,h2,h3⟩⟩)) (fun cols' hc=>?_)
  ·refine⟨by simp,fun c hc=>?_,by simp⟩
   rw [List.mem_singleton] at hc; subst hc
   exact⟨by simp,by simp,by simp,rfl,rfl,rfl,rfl,rfl,by simp,by simp,by simp⟩
  ·have:¬ ((cols.length:Int)=0):=of_decide_eq_false h
   show 1≤cols.length
   omega
  refine Q1 (by decide) ?_
  have e5:(5:Int).toNat=5:=rfl
  rw [e5]
  refine H7b (fun i s=>∃ covs,s=(cols',covs,0,0,0,0,[],[],[],0,0,0,0)∧covs.length≤2*i∧(∀ x∈covs,CovOk x∧x.Bay < i)∧(covs.map xkey).Nodup)
   ⟨[],rfl,Nat.zero_le _,fun c hc=>(List.not_mem_nil hc).elim,List.nodup_nil⟩ (fun i s nx hi hs hnx=>?_) (fun s hs=>?_)
  ·obtain⟨covs,rfl,g1,g2,g3⟩:=hs
   refine Y6 (fun j:List Ge=>j.length≤2*(i+1)∧(∀ x∈j,CovOk x∧x.Bay < (i+1:Nat))∧(j.map xkey).Nodup) (fun K hK=>?_) (fun j hj=>hnx _ ⟨j,rfl,hj⟩)
   refine Y6 (fun j:List Ge=>j.length≤2*i+1∧(∀ x∈j,CovOk x∧(x.Bay < i∨x=⟨i,[0,1]⟩))∧(j.map xkey).Nodup) (fun K' hK'=>?_) (fun j hj=>?_)
   ·refine J1 ⟨by omega,by omega⟩ (Hd (G3a (m:=2*i) (by omega) (by omega) ?_))
    refine Hq (fun h=>Q1 ?_ (hK' _ ⟨?_,?_,?_⟩)) (fun h=>hK' _ ⟨(by show covs.length≤_; omega),fun x hx=>⟨(g2 x hx).1,.inl (g2 x hx).2⟩,g3⟩)
    ·exact Ro (by rw [List.length_singleton]; show covs.length+1≤_; omega) (by omega)
    ·simp only [List.length_append,List.length_singleton]; omega
    ·intro x hx
     rcases List.mem_append.1 hx with hx | hx
     ·exact⟨(g2 x hx).1,.inl (g2 x hx).2⟩
     ·rw [List.mem_singleton] at hx; subst hx
      exact⟨⟨⟨by simp only; omega,by simp only; omega⟩,.inl rfl⟩,.inr rfl⟩
    ·rw [List.map_append,List.nodup_append]
     refine⟨g3,by simp,fun a ha b hb=>?_⟩
     simp only [List.map_cons,List.map_nil,List.mem_singleton] at hb
     subst hb
     obtain⟨c,hc,rfl⟩:=List.mem_map.1 ha
     intro he
     have:=(g2 c hc).2
     have e2:c.Bay=i:=congrArg Prod.fst he
     omega
   ·obtain⟨q1,q2,q3⟩:=hj
    refine J1 ⟨by omega,by omega⟩ (J1 ⟨by omega,by omega⟩ (Hd (G3a (m:=2*i+1) (by omega) (by omega) ?_)))
    refine Hq (fun h=>Q1 ?_ (hK _ ⟨?_,?_,?_⟩)) (fun h=>hK _ ⟨by omega,fun x hx=>⟨(q2 x hx).1,?_⟩,q3⟩)
    ·exact Ro (by rw [List.length_singleton]; omega) (by omega)
    ·simp only [List.length_append,List.length_singleton]; omega
    ·intro x hx
     rcases List.mem_append.1 hx with hx | hx
     ·refine⟨(q2 x hx).1,?_⟩
      rcases (q2 x hx).2 with h | h
      ·omega
      ·rw [h]; simp only; omega
     ·rw [List.mem_singleton] at hx; subst hx
      exact⟨⟨⟨by simp only; omega,by simp only; omega⟩,.inr rfl⟩,by simp only; omega⟩
    ·rw [List.map_append,List.nodup_append]
     refine⟨q3,by simp,fun a ha b hb=>?_⟩
     simp only [List.map_cons,List.map_nil,List.mem_singleton] at hb
     subst hb
     obtain⟨c,hc,rfl⟩:=List.mem_map.1 ha
     intro he
     rcases (q2 c hc).2 with h | h
     ·have e2:c.Bay=i:=congrArg Prod.fst he
      omega
     ·rw [h] at he
      have e2:=congrArg Prod.snd he
      simp [xkey] at e2
    ·rcases (q2 x hx).2 with h | h
     ·omega
     ·rw [h]; simp only; omega
  ·obtain⟨covs,rfl,g1,g2,g3⟩:=hs
   exact Gw ⟨hc.1,hc.2,⟨g1,fun x hx=>(g2 x hx).1,g3⟩⟩

/-! ### Built ships are right -/
theorem right_1_ok {l:List Hj} (h:∀ x∈l,x.low≤x.n∧x.n≤x.high):G1a l=some true:=by
 refine G4f ?_
 unfold G1a
 refine J6 (fun _ _=>True) trivial (fun pre x post s nx e _ hnx=>Hq (fun hc=>?_) (fun _=>hnx _ trivial)) (fun s _=>Gw rfl)
 have:=h x (by rw [e]; simp)
 simp only [Bool.or_eq_true,decide_eq_true_eq] at hc
 omega
theorem column_right {c:G9} (h:ColOk c):G29 c=some true:=by
 obtain⟨h1,h2,h3,h4,h5,h6,h7,h8,h9,h10,h11⟩:=h
 unfold G29
 rw [h8,each]
 rw [right_1_ok]
 ·rfl
 ·intro x hx
  simp only [List.mem_cons,List.not_mem_nil,or_false] at hx
  rcases hx with rfl | rfl | rfl | rfl | rfl | rfl | rfl | rfl | rfl | rfl <;> simp only <;> omega

theorem mput_mem2 {κ ν:Type} [DecidableEq κ] {a:κ} {v:ν} {l:List (κ×ν)} {e:κ×ν} (h:e∈G4c l a v):e=(a,v)∨e∈l:=by
 unfold G4c at h
 split at h
 ·obtain⟨p,hp,rfl⟩:=List.mem_map.1 h
  split
  ·exact .inl rfl
  ·exact .inr hp
 ·rcases List.mem_append.1 h with h | h
  ·exact .inr h
  ·exact .inl (List.mem_singleton.1 h)
/-- What a map of counts holds when each of some keys came once. -/
structure MapI {κ:Type} [DecidableEq κ] (ks:List κ) (m:Gu κ Int):Prop where
 get:∀ k,Gu.get m k 0=if k∈ks then 1 else 0
 le:∀ e∈Gu.l m,e.2≤1
theorem MapI.start {κ:Type} [DecidableEq κ]:MapI ([]:List κ) (Gu.empty:Gu κ Int):=⟨fun k=>by simp [Gu.get,Gu.empty,G25],fun e he=>by simp [Gu.empty] at he⟩
theorem MapI.snoc {κ:Type} [DecidableEq κ] {ks:List κ} {m:Gu κ Int} (h:MapI ks m) {k:κ} (hk:k ∉ ks) {v:Int} (hv:v=1):MapI (ks++[k]) (Gu.put m k v):=by
 subst hv
 refine⟨fun j=>?_,fun e he=>?_⟩
 ·have:=h.get j
  unfold Gu.get Gu.put at *
  simp only [H20]
  by_cases hj:k=j
  ·subst hj; simp
  ·rw [if_neg hj,this]
   have:(j∈ks++[k]) ↔ j∈ks:=by
    rw [List.mem_append,List.mem_singleton]
    exact⟨fun h=>h.elim id (fun e=>(hj e.symm).elim),.inl⟩
   simp only [this]
 ·rcases mput_mem2 he with rfl | he
  ·exact Int.le_refl _
  ·exact h.le e he

def dk (b:Bool):Int:=bif b then 1 else 0
def k3 (c:G9):H8:=⟨c.Bay,c.Row,dk c.Deck⟩
def x3 (x:Ge):List H8:=x.Rows.map fun r=>⟨x.Bay,r,2⟩
structure ShipOk (s:Hc):Prop where
 some:1≤s.Columns.length∧s.Columns.length≤200∧s.Covers.length≤40
 col:∀ c∈s.Columns,G29 c=Option.some true
 cov:∀ x∈s.Covers,0≤x.Bay∧x.Bay < 40∧x.Rows≠[]∧(∀ r∈x.Rows,0≤r∧r≤30)∧x.Rows.Pairwise (· < ·)∧x.Rows.length≤1000000
 nodup:(s.Columns.map k3++s.Covers.flatMap x3).Nodup

theorem right_of_ok {s:Hc} (h:ShipOk s):Ya s=some true:=by
 obtain⟨⟨h1,h2,h3⟩,hcol,hcov,hnd⟩:=h
 refine G4f ?_
 unfold Ya Gd1
 refine Hq (fun hc=>?_) (fun _=>?_)
 ·simp only [Bool.or_eq_true,decide_eq_true_eq] at hc
  omega
 have fresh:∀ (a b:List H8) (k:H8),s.Columns.map k3++s.Covers.flatMap x3=a++k::b→k ∉ a:=fun a b k e hk=>by
  rw [e] at hnd
  exact(List.nodup_append.1 hnd).2.2 k hk k (List.mem_cons_self ..) rfl
 refine J6 (fun pre m=>MapI (pre.map k3) m) MapI.start (fun pre y post m nx e hm hnx=>?_) (fun m hm=>?_)
 ·refine Y6 (fun j=>j=dk y.Deck) (fun K hK=>Hq (fun h=>hK _ (by rw [h]; rfl)) (fun h=>hK _ (by rw [h]; rfl))) (fun j hj=>?_)
  subst hj
  have hf:k3 y ∉ pre.map k3:=fresh (pre.map k3) (post.map k3++s.Covers.flatMap x3) (k3 y) (by rw [e]; simp)
  have hg:=hm.get (k3 y)
  rw [if_neg hf] at hg
  refine H6 (x:=0) (congrArg some hg) (J1 ⟨by omega,by omega⟩ (H6 (hcol y (by rw [e]; simp)) (Hq (fun h=>by cases h) (fun _=>hnx _ ?_))))
  rw [List.map_append]
  exact hm.snoc hf rfl
 ·refine J6 (fun pre m=>MapI (s.Columns.map k3++pre.flatMap x3) m) (by simpa using hm) (fun pre y post m nx e hm hnx=>?_) (fun m hm=>?_)
  ·obtain⟨c1,c2,c3,c4,c5,c6⟩:=hcov y (by rw [e]; simp)
   refine Hq (fun hc=>?_) (fun _=>?_)
   ·simp only [Bool.or_eq_true,decide_eq_true_eq] at hc
    have:y.Rows.length≠0:=fun h=>c3 (List.length_eq_zero_iff.1 h)
    omega
   refine J6 (fun pr m=>MapI (s.Columns.map k3++pre.flatMap x3++pr.map (fun r=>(⟨y.Bay,r,2⟩:H8))) m) (by simpa using hm) (fun pr r pos m nx' e' hm hnx'=>?_) (fun m hm=>hnx _ ?_)
   ·obtain⟨r1,r2⟩:=c4 r (by rw [e']; simp)
    have hlen:pr.length < y.Rows.length:=by rw [e']; simp
    have hprev:0 < pr.length→∃ p,y.Rows[pr.length - 1]? = some p∧p < r:=fun hp=>by
     refine⟨y.Rows[pr.length - 1],by simp,?_⟩
     have:=List.pairwise_iff_getElem.1 c5 (pr.length - 1) pr.length (by omega) hlen (by omega)
     have e2:y.Rows[pr.length]=r:=by simp [e']
     rw [e2] at this; exact this
    have hok:(decide (r < 0)||decide (30 < r))=false:=by simp; omega
    simp only [hok,Bool.not_false,Bool.true_and,Bool.false_or]
    by_cases hp:0 < pr.length
    ·obtain⟨p,hp1,hp2⟩:=hprev hp
     have hd:decide (0 < (pr.length:Int))=true:=decide_eq_true (by omega)
     rw [hd]
     simp only [cond_true]
     refine Hd (J1 ⟨by omega,by omega⟩ (Gw (Hd (Jq (m:=pr.length - 1) (by omega) hp1 (Gw ?_)))))
     refine Hq (fun hc=>?_) (fun _=>?_)
     ·simp at hc; omega
     ·have hf:(⟨y.Bay,r,2⟩:H8) ∉ s.Columns.map k3++pre.flatMap x3++pr.map (fun r=>(⟨y.Bay,r,2⟩:H8)):=fresh _ (pos.map (fun r=>(⟨y.Bay,r,2⟩:H8))++post.flatMap x3) _ (by rw [e]; simp [x3,e'])
      have hg:=hm.get ⟨y.Bay,r,2⟩
      rw [if_neg hf] at hg
      refine H6 (x:=0) (congrArg some hg) (J1 ⟨by omega,by omega⟩ (hnx' _ ?_))
      rw [List.map_append,← List.append_assoc]
      exact hm.snoc hf rfl
    ·have hd:decide (0 < (pr.length:Int))=false:=decide_eq_false (by omega)
     rw [hd]
     simp only [cond_false,Bool.false_and]
     refine Hd (Gw (Hd (Gw ?_)))
     ·have hf:(⟨y.Bay,r,2⟩:H8) ∉ s.Columns.map k3++pre.flatMap x3++pr.map (fun r=>(⟨y.Bay,r,2⟩:H8)):=fresh _ (pos.map (fun r=>(⟨y.Bay,r,2⟩:H8))++post.flatMap x3) _ (by rw [e]; simp [x3,e'])
      have hg:=hm.get ⟨y.Bay,r,2⟩
      rw [if_neg hf] at hg
      refine H6 (x:=0) (congrArg some hg) (J1 ⟨by omega,by omega⟩ (hnx' _ ?_))
      rw [List.map_append,← List.append_assoc]
      exact hm.snoc hf rfl
   ·rw [List.flatMap_append,← List.append_assoc]
    simpa [x3] using hm
  ·rw [H60]
   refine Gw ?_
   have:(Gu.l m).any (fun x=>decide (1 < x.2))=false:=List.any_eq_false.2 (fun x hx=>by have:=hm.le x hx; simp; omega)
   rw [this]; rfl

theorem built_shipOk {s:Hc} (h:J46 s):ShipOk s:=by
 obtain⟨h1,⟨h2,h3,h4⟩,⟨h5,h6,h7⟩⟩:=h
 refine⟨⟨h1,by omega,by omega⟩,fun c hc=>column_right (h3 c hc),fun x hx=>?_,?_⟩
 ·obtain⟨⟨b1,b2⟩,hr⟩:=h6 x hx
  rcases hr with h | h <;> rw [h] <;> refine⟨b1,by omega,by simp,by simp,by simp,by simp⟩
 ·refine List.nodup_append.2 ⟨?_,?_,?_⟩
  ·have h4':=List.pairwise_map.1 h4
   refine List.pairwise_map.2 (h4'.imp (fun {a b} hab e=>hab ?_))
   simp only [k3,H8.mk.injEq] at e
   obtain⟨e1,e2,e3⟩:=e
   have e4:a.Deck=b.Deck:=by
    revert e3
    cases a.Deck <;> cases b.Deck <;> simp [dk]
   simp only [ckey,e1,e2,e4]
  ·refine List.pairwise_flatMap.2 ⟨fun x hx=>?_,?_⟩
   ·refine List.pairwise_map.2 ?_
    rcases (h6 x hx).rows with h | h <;> rw [h] <;> simp
   ·have h7':=List.pairwise_map.1 h7
    have hand:s.Covers.Pairwise (fun a b=>xkey a≠xkey b∧CovOk a∧CovOk b):=
     List.pairwise_iff_getElem.2 (fun i j hi hj hij=>⟨List.pairwise_iff_getElem.1 h7' i j hi hj hij,h6 _ (List.getElem_mem hi),h6 _ (List.getElem_mem hj)⟩)
    refine hand.imp (fun {a b} hab p hp q hq e=>?_)
    obtain⟨hne,ha,hb⟩:=hab
    obtain⟨r,hr,rfl⟩:=List.mem_map.1 hp
    obtain⟨r',hr',rfl⟩:=List.mem_map.1 hq
    simp only [H8.mk.injEq] at e
    obtain⟨e1,e2,_⟩:=e
    subst e2
    apply hne
    rcases ha.rows with h | h <;> rcases hb.rows with h' | h' <;> rw [h] at hr <;> rw [h'] at hr' <;> simp [xkey,e1,h,h'] at hr hr' ⊢ <;> omega
  ·intro a ha b hb e
   obtain⟨c,_,rfl⟩:=List.mem_map.1 ha
   obtain⟨x,_,hx⟩:=List.mem_flatMap.1 hb
   obtain⟨r,_,rfl⟩:=List.mem_map.1 hx
   simp only [k3,H8.mk.injEq] at e
   have:=e.2.2
   revert this
   cases c.Deck <;> simp [dk]
theorem built_right {s:Hc} (h:J46 s):Ya s=some true:=right_of_ok (built_shipOk h)
end Go.Proofs.YteoeccjboahfgaaGreat
