/-
 The ships that twistlocklaw09.limited makes,and the states that Loaded makes: they are right.
-/
import Derived.Test.YtapmanciffiibaaGreatMoreA
set_option linter.unusedSimpArgs false
set_option linter.unnecessarySimpa false
set_option maxRecDepth 100000
set_option linter.unusedVariables false
namespace Go.Proofs.YtapmanciffiibaaGreat
open Go.RowKit

/-- A number of eight bits. -/
def Byte (z:Int):Prop:=0≤z∧z≤255
structure H74 (p:H2):Prop where
 bay:Byte p.Bay
 row:Byte p.Row
 tiers:Byte p.Tiers

structure ColOk (c:G3):Prop where
 bay:0≤c.Bay∧c.Bay≤4
 row:0≤c.Row∧c.Row≤4
 tiers:2≤c.Tiers∧c.Tiers≤5
 height:c.Height=0
 k20:c.Kilos20=500000000
 k40:c.Kilos40=500000000
 lash:c.Lash=0
 plugs:c.Plugs=[]
 x : -26000≤c.X∧c.X≤26000
 y : -5000≤c.Y∧c.Y≤5000
 z:0≤c.Z∧c.Z≤20000
def Hba (c:G3):Int×Int×Bool:=(c.Bay,c.Row,c.Deck)
def G5e (bay row:Int) (deck:Bool) (c:G3):Bool:=((decide (c.Bay=bay))&&(decide (c.Row=row)))&&(c.Deck==deck)
theorem colHere_iff {bay row:Int} {deck:Bool} {c:G3}:G5e bay row deck c=true ↔ Hba c=(bay,row,deck):=by
 simp [G5e,Hba,and_assoc]
structure CovOk (x:G9):Prop where
 bay:0≤x.Bay∧x.Bay≤4
 rows:x.Rows=[0,1]∨x.Rows=[2,3,4]
def xkey (x:G9):Int×Bool:=(x.Bay,decide (x.Rows=[0,1]))
structure ColsOk (l:List G3):Prop where
 len:l.length≤12
 each:∀ c∈l,ColOk c
 nodup:(l.map Hba).Nodup
structure CovsOk (l:List G9):Prop where
 len:l.length≤10
 each:∀ x∈l,CovOk x
 nodup:(l.map xkey).Nodup
structure BuiltOk (s:Gu):Prop where
 some:1≤s.Columns.length
 cols:ColsOk s.Columns
 covs:CovsOk s.Covers

theorem J0a {l:List G3} {wanted:G3→Option Bool} {p:G3→Bool} (hw:∀ x∈l,wanted x=some (p x)) (hl:l.length≤1000000):Ji l wanted=some (Zx p l):=by
 refine G35 ?_
 unfold Ji
 refine Jp (fun pre s=>s=Zx p pre) rfl (fun pre x post s nx e hs hnx=>?_) (fun s hs=>Gf hs)
 subst hs
 have hpl:pre.length+1≤l.length:=by rw [e]; simp
 refine G26 (fun j=>j=Zx p (pre++[x])) (fun K hK=>?_) (fun j hj=>hnx _ hj)
 refine H3 (hw x (by rw [e]; simp)) (Ha (fun h=>Rw ?_ (hK _ ?_)) (fun h=>hK _ ?_))
 ·have:=Haa p pre
  exact G5b (by rw [List.length_singleton]; omega) (by omega)
 ·rw [H1d,h]; rfl
 ·rw [H1d,h]; simp

theorem find_spec {s:Gu} {bay row:Int} {deck:Bool} (hl:s.Columns.length≤1000000):Wp (G6c s bay row deck) (fun r=>r.2=s.Columns.any (G5e bay row deck)):=by
 unfold G6c
 refine H3 (J0a (p:=G5e bay row deck) (fun x _=>rfl) hl) (Ha (fun h=>Gf ?_) (fun h=>?_))
 ·have h0:Zx (G5e bay row deck) s.Columns=[]:=by
   have:=of_decide_eq_true h
   exact List.length_eq_zero_iff.1 (by omega)
  refine Eq.symm (List.any_eq_false.2 (fun x hx=>?_))
  rw [H6a.1 h0 x hx]; exact Bool.false_ne_true
 ·have h0:Zx (G5e bay row deck) s.Columns≠[]:=by
   have:=of_decide_eq_false h
   intro e; rw [e] at this; exact this rfl
  have h1:∃ z,(Zx (G5e bay row deck) s.Columns)[0]? = some z:=by
   cases hh:Zx (G5e bay row deck) s.Columns with
   | nil=>exact(h0 hh).elim
   | cons z r=>exact⟨z,rfl⟩
  obtain⟨z,hz⟩:=h1
  refine Rx (m:=0) rfl hz (Gf ?_)
  refine Eq.symm ?_
  have:¬ ∀ x∈s.Columns,G5e bay row deck x=false:=fun h=>h0 (H6a.2 h)
  rw [List.any_eq_true]
  refine Classical.byContradiction fun hn=>this fun x hx=>?_
  cases hc:G5e bay row deck x with
  | false=>rfl
  | true=>exact(hn ⟨x,hx,hc⟩).elim

theorem built_spec (l:List H2) (covers:Int) (hp:∀ p∈l,H74 p):Wp (Qy l covers) BuiltOk:=by
 unfold Qy
 refine Gz (G88 (m:=min l.length 12) (by omega) (by omega) ?_)
 have hl12:(l.take (min l.length 12)).length≤12:=by rw [List.length_take]; omega
 refine Jp (fun pre s=>∃ cols,s=([],0,0,0,0,[],[],[],0,0,0,0,cols)∧cols.length≤pre.length∧(∀ c∈cols,ColOk c)∧(cols.map Hba).Nodup)
  ⟨[],rfl,Nat.le_refl _,fun c hc=>(List.not_mem_nil hc).elim,List.nodup_nil⟩ (fun pre y post s nx e hs hnx=>?_) (fun s hs=>?_)
 ·obtain⟨cols,rfl,h1,h2,h3⟩:=hs
  have hlen:pre.length+1≤12:=by rw [e] at hl12; simp at hl12; omega
  have hy:H74 y:=hp y (List.mem_of_mem_take (by rw [e]; simp:y∈l.take (min l.length 12)))
  obtain⟨⟨b1,b2⟩,⟨r1,r2⟩,⟨t1,t2⟩⟩:=hy
  refine G26 (fun j=>j.length≤(pre++[y]).length∧(∀ c∈j,ColOk c)∧(j.map Hba).Nodup) (fun K hK=>?_) (fun j hj=>hnx _ ⟨j,rfl,hj⟩)
  refine Q8 ⟨by omega,by omega⟩ (Gz (Hc9 (by omega) ?_))
  refine Q8 ⟨by omega,by omega⟩ (Gz (Hc9 (by omega) ?_))
  refine Q8 ⟨by omega,by omega⟩ (Gz (Hc9 (by omega) ?_))
  have e1:y.Bay.tmod 5=y.Bay % 5:=Int.tmod_eq_emod_of_nonneg b1
  have e2:y.Row.tmod 5=y.Row % 5:=Int.tmod_eq_emod_of_nonneg r1
  have e3:y.Tiers.tmod 4=y.Tiers % 4:=Int.tmod_eq_emod_of_nonneg t1
  rw [e1,e2,e3]
  refine Q8 ⟨by omega,by omega⟩ (Q8 ⟨by omega,by omega⟩ (Q8 ⟨by omega,by omega⟩ (Q8 ⟨by omega,by omega⟩ (Q8 ⟨by omega,by omega⟩ ?_))))
  refine G26 (fun z:Int=>0≤z∧z≤20000) (fun K' hK'=>Ha (fun _=>hK' _ ⟨by omega,by omega⟩) (fun _=>hK' _ ⟨by omega,by omega⟩)) (fun z hz=>?_)
  have hl:cols.length≤1000000:=by omega
  refine Gz (wp_mono (find_spec hl) (fun r hr=>?_))
  refine Ha (fun h=>Rw ?_ (hK _ ⟨?_,?_,?_⟩)) (fun h=>hK _ ⟨?_,h2,h3⟩)
  ·exact G5b (by rw [List.length_singleton]; show cols.length+1≤_; omega) (by omega)
  ·simp only [List.length_append,List.length_singleton]; omega
  ·intro c hc
   rcases List.mem_append.1 hc with hc | hc
   ·exact h2 c hc
   ·rw [List.mem_singleton] at hc; subst hc
    exact⟨⟨by simp only; omega,by simp only; omega⟩,⟨by simp only; omega,by simp only; omega⟩,⟨by simp only; omega,by simp only; omega⟩,rfl,rfl,rfl,rfl,rfl,⟨by simp only; omega,by simp only; omega⟩,⟨by simp only; omega,by simp only; omega⟩,hz⟩
  ·rw [List.map_append,List.nodup_append]
   refine⟨h3,by simp,fun a ha b hb=>?_⟩
   simp only [List.map_cons,List.map_nil,List.mem_singleton] at hb
   subst hb
   obtain⟨c,hc,rfl⟩:=List.mem_map.1 ha
   intro he
   have hf:r.2=false:=by simpa using h
   rw [hf] at hr
   have:=List.any_eq_false.1 hr.symm c hc
   exact this (colHere_iff.2 he)
  ·simp only [List.length_append,List.length_singleton]; omega
 ·obtain⟨cols,rfl,h1,h2,h3⟩:=hs
  have h1:cols.length≤12:=Nat.le_trans h1 hl12
  refine G26 (fun j=>1≤j.length∧ColsOk j) (fun K hK=>Ha (fun h=>hK _ ⟨Nat.le_refl _,?_⟩) (fun h=>hK _ ⟨?_,⟨h1,h2,h3⟩⟩)) (fun cols' hc=>?_)
  ·refine⟨by simp,fun c hc=>?_,by simp⟩
   rw [List.mem_singleton] at hc; subst hc
   exact⟨by simp,by simp,by simp,rfl,rfl,rfl,rfl,rfl,by simp,by simp,by simp⟩
  ·have:¬ ((cols.length:Int)=0):=of_decide_eq_false h
   show 1≤cols.length
   omega
  refine Rw (by decide) ?_
  have e5:(5:Int).toNat=5:=rfl
  rw [e5]
  refine wp_upto (fun i s=>∃ covs,s=(covs,0,0,0,0,[],[],[],0,0,0,0)∧covs.length≤2*i∧(∀ x∈covs,CovOk x∧x.Bay < i)∧(covs.map xkey).Nodup)
   ⟨[],rfl,Nat.zero_le _,fun c hc=>(List.not_mem_nil hc).elim,List.nodup_nil⟩ (fun i s nx hi hs hnx=>?_) (fun s hs=>?_)
  ·obtain⟨covs,rfl,g1,g2,g3⟩:=hs
   refine G26 (fun j:List G9=>j.length≤2*(i+1)∧(∀ x∈j,CovOk x∧x.Bay < (i+1:Nat))∧(j.map xkey).Nodup) (fun K hK=>?_) (fun j hj=>hnx _ ⟨j,rfl,hj⟩)
   refine G26 (fun j:List G9=>j.length≤2*i+1∧(∀ x∈j,CovOk x∧(x.Bay < i∨x=⟨i,[0,1]⟩))∧(j.map xkey).Nodup) (fun K' hK'=>?_) (fun j hj=>?_)
   ·refine Q8 ⟨by omega,by omega⟩ (Gz (G88 (m:=2*i) (by omega) (by omega) ?_))
    refine Ha (fun h=>Rw ?_ (hK' _ ⟨?_,?_,?_⟩)) (fun h=>hK' _ ⟨(by show covs.length≤_; omega),fun x hx=>⟨(g2 x hx).1,.inl (g2 x hx).2⟩,g3⟩)
    ·exact G5b (by rw [List.length_singleton]; show covs.length+1≤_; omega) (by omega)
    ·simp only [List.length_append,List.length_singleton]; omega
    ·intro x hx
     rcases List.mem_append.1 hx with hx | hx
     ·exact⟨(g2 x hx).1,.inl (g2 x hx).2⟩
     ·rw [List.mem_singleton] at hx; subst hx
      exact⟨⟨⟨by simp only; omega,by simp only; omega⟩,.inl rfl⟩,.inr rfl⟩
    ·rw [List.map_append,List.nodup_append]
     refine⟨g3,by simp,fun a ha b hb=>?_⟩
     simp only [List.map_cons,List.map_nil,List.mem_singleton] at hb
     subst hb
     obtain⟨c,hc,rfl⟩:=List.mem_map.1 ha
     intro he
     have:=(g2 c hc).2
     have e2:c.Bay=i:=congrArg Prod.fst he
     omega
   ·obtain⟨q1,q2,q3⟩:=hj
    refine Q8 ⟨by omega,by omega⟩ (Q8 ⟨by omega,by omega⟩ (Gz (G88 (m:=2*i+1) (by omega) (by omega) ?_)))
    refine Ha (fun h=>Rw ?_ (hK _ ⟨?_,?_,?_⟩)) (fun h=>hK _ ⟨by omega,fun x hx=>⟨(q2 x hx).1,?_⟩,q3⟩)
    ·exact G5b (by rw [List.length_singleton]; omega) (by omega)
    ·simp only [List.length_append,List.length_singleton]; omega
    ·intro x hx
     rcases List.mem_append.1 hx with hx | hx
     ·refine⟨(q2 x hx).1,?_⟩
      rcases (q2 x hx).2 with h | h
      ·omega
      ·rw [h]; simp only; omega
     ·rw [List.mem_singleton] at hx; subst hx
      exact⟨⟨⟨by simp only; omega,by simp only; omega⟩,.inr rfl⟩,by simp only; omega⟩
    ·rw [List.map_append,List.nodup_append]
     refine⟨q3,by simp,fun a ha b hb=>?_⟩
     simp only [List.map_cons,List.map_nil,List.mem_singleton] at hb
     subst hb
     obtain⟨c,hc,rfl⟩:=List.mem_map.1 ha
     intro he
     rcases (q2 c hc).2 with h | h
     ·have e2:c.Bay=i:=congrArg Prod.fst he
      omega
     ·rw [h] at he
      have e2:=congrArg Prod.snd he
      simp [xkey] at e2
    ·rcases (q2 x hx).2 with h | h
     ·omega
     ·rw [h]; simp only; omega
  ·obtain⟨covs,rfl,g1,g2,g3⟩:=hs
   exact Gf ⟨hc.1,hc.2,⟨g1,fun x hx=>(g2 x hx).1,g3⟩⟩

theorem mput_mem2 {κ ν:Type} [DecidableEq κ] {a:κ} {v:ν} {l:List (κ×ν)} {e:κ×ν} (h:e∈G7c l a v):e=(a,v)∨e∈l:=by
 unfold G7c at h
 split at h
 ·obtain⟨p,hp,rfl⟩:=List.mem_map.1 h
  split
  ·exact .inl rfl
  ·exact .inr hp
 ·rcases List.mem_append.1 h with h | h
  ·exact .inr h
  ·exact .inl (List.mem_singleton.1 h)
/-- What a map of counts holds when each of some keys came once. -/
structure MapI {κ:Type} [DecidableEq κ] (ks:List κ) (m:H8 κ Int):Prop where
 get:∀ k,H8.get m k 0=if k∈ks then 1 else 0
 le:∀ e∈H8.l m,e.2≤1
theorem MapI.start {κ:Type} [DecidableEq κ]:MapI ([]:List κ) (H8.empty:H8 κ Int):=⟨fun k=>by simp [H8.get,H8.empty,Zq],fun e he=>by simp [H8.empty] at he⟩
theorem MapI.snoc {κ:Type} [DecidableEq κ] {ks:List κ} {m:H8 κ Int} (h:MapI ks m) {k:κ} (hk:k ∉ ks) {v:Int} (hv:v=1):MapI (ks++[k]) (H8.put m k v):=by
 subst hv
 refine⟨fun j=>?_,fun e he=>?_⟩
 ·have:=h.get j
  unfold H8.get H8.put at *
  simp only [H89]
  by_cases hj:k=j
  ·subst hj; simp
  ·rw [if_neg hj,this]
   have:(j∈ks++[k]) ↔ j∈ks:=by
    rw [List.mem_append,List.mem_singleton]
    exact⟨fun h=>h.elim id (fun e=>(hj e.symm).elim),.inl⟩
   simp only [this]
 ·rcases mput_mem2 he with rfl | he
  ·exact Int.le_refl _
  ·exact h.le e he


/-! ### Ships whose columns are limited in height now and then -/
def ColL (c:G3):Prop:=∃ (c0:G3) (h:Int),ColOk c0∧(h=0∨h=8000)∧c={ c0 with Height:=h }
structure LimOk (s:Gu):Prop where
 some:1≤s.Columns.length
 len:s.Columns.length≤12
 each:∀ c∈s.Columns,ColL c
 nodup:(s.Columns.map Hba).Nodup
 covs:CovsOk s.Covers
theorem limited_spec (l:List H2) (covers:Int) (hp:∀ p∈l,H74 p):Wp (Qm l covers) LimOk:=by
 unfold Qm
 refine Gz (wp_mono (built_spec l covers hp) (fun s hB=>?_))
 have hl:=hB.cols.len
 refine Jp (fun _ t=>t.length=s.Columns.length∧(∀ c∈t,ColL c)∧t.map Hba=s.Columns.map Hba) ⟨rfl,fun c hc=>⟨c,0,hB.cols.each c hc,.inl rfl,by rw [← (hB.cols.each c hc).height]⟩,rfl⟩ (fun pre y post t nx e hI hnx=>?_) (fun t hI=>Gf ?_)
 ·obtain⟨i1,i2,i3⟩:=hI
  have hpl:pre.length < s.Columns.length:=by rw [e]; simp
  refine G26 (fun t=>t.length=s.Columns.length∧(∀ c∈t,ColL c)∧t.map Hba=s.Columns.map Hba) (fun K hK=>?_) (fun j hj=>hnx _ hj)
  refine Gz (Hc9 (by omega) ?_)
  rw [Int.tmod_eq_emod_of_nonneg (by omega:(0:Int)≤(pre.length:Int))]
  refine Q8 ⟨by omega,by omega⟩ (Gz (G88 (m:=10+pre.length % 20) (by omega) (by omega) ?_))
  refine Ha (fun h=>?_) (fun _=>hK _ ⟨i1,i2,i3⟩)
  have hlt:pre.length < t.length:=by omega
  have hg:t[pre.length]? = some t[pre.length]:=List.getElem?_eq_getElem hlt
  refine Rx rfl hg (hK _ ?_)
  rw [show ((pre.length:Int)).toNat=pre.length by omega]
  refine⟨by simp [i1],fun c hc=>?_,?_⟩
  ·rcases List.mem_or_eq_of_mem_set hc with hc | rfl
   ·exact i2 c hc
   ·obtain⟨c0,h,h1,_,h4⟩:=i2 _ (List.getElem_mem hlt)
    exact⟨c0,8000,h1,.inr rfl,by rw [h4]⟩
  ·rw [← i3]
   refine List.ext_getElem? (fun j=>?_)
   rw [List.getElem?_map,List.getElem?_map,List.getElem?_set]
   by_cases hj:pre.length=j
   ·subst hj; rw [if_pos rfl,if_pos hlt,hg]; rfl
   ·rw [if_neg hj]
 ·obtain⟨i1,i2,i3⟩:=hI
  exact⟨by have:=hB.some; show 1≤t.length; omega,by show t.length≤12; omega,i2,by show (t.map Hba).Nodup; rw [i3]; exact hB.cols.nodup,hB.covs⟩
theorem lim_col {c:G3} (h:ColL c):ColR c:=by
 obtain⟨c0,z,⟨h1,h2,h3,_,h5,h6,h7,h8,h9,h10,h11⟩,g1,rfl⟩:=h
 refine⟨fun p hp=>?_,?_,⟨by show (0:Int)≤c0.Bay; omega,by show c0.Bay≤39; omega,by show (0:Int)≤c0.Row; omega,by show c0.Row≤30; omega,by show 1≤c0.Tiers; omega,by show c0.Tiers≤10; omega,by show (0:Int)≤z; omega,by show z≤40000; omega⟩,⟨by show (0:Int)≤c0.Kilos20; omega,by show c0.Kilos20≤500000000; omega,by show (0:Int)≤c0.Kilos40; omega,by show c0.Kilos40≤500000000; omega,by show (0:Int)≤c0.Lash; omega,by show c0.Lash≤1000000000000; omega⟩,⟨by show -500000≤c0.X; omega,by show c0.X≤500000; omega,by show -500000≤c0.Y; omega,by show c0.Y≤500000; omega,by show -500000≤c0.Z; omega,by show c0.Z≤500000; omega⟩⟩
 ·have hp:p∈c0.Plugs:=hp
  rw [h8] at hp; cases hp
 ·show c0.Plugs.Pairwise _
  rw [h8]; exact List.Pairwise.nil
theorem J00 {s:Gu} (h:LimOk s):H08 s:=by
 obtain⟨h1,h2,h3,h4,⟨h5,h6,h7⟩⟩:=h
 refine⟨⟨h1,by omega,by omega⟩,fun c hc=>lim_col (h3 c hc),fun x hx=>?_,?_⟩
 ·obtain⟨⟨b1,b2⟩,hr⟩:=h6 x hx
  rcases hr with h | h <;> refine⟨⟨b1,by omega⟩,by rw [h]; simp,by rw [h]; simp,by rw [h]; simp⟩
 ·refine List.nodup_append.2 ⟨?_,?_,?_⟩
  ·have h4':=List.pairwise_map.1 h4
   refine List.pairwise_map.2 (h4'.imp (fun {a b} hab e=>hab ?_))
   simp only [k3,H0.mk.injEq] at e
   obtain⟨e1,e2,e3⟩:=e
   have e4:a.Deck=b.Deck:=by
    revert e3
    cases a.Deck <;> cases b.Deck <;> simp [dk]
   simp only [Hba,e1,e2,e4]
  ·refine List.pairwise_flatMap.2 ⟨fun x hx=>?_,?_⟩
   ·refine List.pairwise_map.2 ?_
    rcases (h6 x hx).rows with h | h <;> rw [h] <;> simp
   ·have h7':=List.pairwise_map.1 h7
    have hand:s.Covers.Pairwise (fun a b=>xkey a≠xkey b∧CovOk a∧CovOk b):=
     List.pairwise_iff_getElem.2 (fun i j hi hj hij=>⟨List.pairwise_iff_getElem.1 h7' i j hi hj hij,h6 _ (List.getElem_mem hi),h6 _ (List.getElem_mem hj)⟩)
    refine hand.imp (fun {a b} hab p hp q hq e=>?_)
    obtain⟨hne,ha,hb⟩:=hab
    obtain⟨r,hr,rfl⟩:=List.mem_map.1 hp
    obtain⟨r',hr',rfl⟩:=List.mem_map.1 hq
    simp only [H0.mk.injEq] at e
    obtain⟨e1,e2,_⟩:=e
    subst e2
    apply hne
    rcases ha.rows with h | h <;> rcases hb.rows with h' | h' <;> rw [h] at hr <;> rw [h'] at hr' <;> simp [xkey,e1,h,h'] at hr hr' ⊢ <;> omega
  ·intro a ha b hb e
   obtain⟨c,_,rfl⟩:=List.mem_map.1 ha
   obtain⟨x,_,hx⟩:=List.mem_flatMap.1 hb
   obtain⟨r,_,rfl⟩:=List.mem_map.1 hx
   simp only [k3,H0.mk.injEq] at e
   have:=e.2.2
   revert this
   cases c.Deck <;> simp [dk]
theorem G4f {s:Gu} (h:LimOk s):Small s:=by
 have hcol:∀ c∈s.Columns,c.Plugs.length=0∧c.Tiers≤100:=fun c hc=>by
  obtain⟨c0,z,hc0,_,rfl⟩:=h.each c hc
  have:=hc0.tiers
  exact⟨by show c0.Plugs.length=0; rw [hc0.plugs]; rfl,by show c0.Tiers≤100; omega⟩
 have hrow:∀ x∈s.Covers,x.Rows.length≤1000:=fun x hx=>by
  rcases (h.covs.each x hx).rows with e | e <;> rw [e] <;> simp
 refine⟨G35 (wp_mono (Hf2 s (fun c hc=>by have:=(hcol c hc).1; omega) (fun x hx=>by have:=hrow x hx; omega)) (fun r hr=>hr.2 (J00 h))),⟨h.some,by have:=h.len; omega⟩,fun c hc=>(hcol c hc).2,by have:=h.covs.len; omega,hrow⟩
theorem lim_plugs {s:Gu} (h:LimOk s):∀ c∈s.Columns,c.Plugs.length≤1048576:=fun c hc=>by
 obtain⟨c0,z,hc0,_,rfl⟩:=h.each c hc
 show c0.Plugs.length≤1048576
 rw [hc0.plugs]; simp

theorem slots_spec {s:Gu} (hs:Small s) (size:Int):Wp (G3a s size) (fun r=>r.length≤200*s.Columns.length∧∀ x∈r,G51 s x size):=by
 unfold G3a
 have hhl:(H1e size).length≤2:=by
  unfold H1e
  split
  ·simp
  ·split <;> simp
 refine Jp (fun pre r=>r.length≤200*pre.length∧∀ x∈r,G51 s x size) ⟨by simp,fun x hx=>(List.not_mem_nil hx).elim⟩ (fun pre c post r nx e hI hnx=>?_) (fun r hI=>Gf hI)
 obtain⟨h1,h2⟩:=hI
 have hc:s.Columns[pre.length]? = some c:=by rw [e]; simp
 have ht:=hs.tiers c (List.mem_of_getElem? hc)
 refine Rw (decide_eq_true (by omega)) ?_
 have htn:(max c.Tiers 0).toNat≤100:=by omega
 refine wp_upto (fun i r'=>r'.length≤r.length+2*i∧∀ x∈r',G51 s x size) ⟨by simp,h2⟩ (fun i r' nx2 hi hI hnx2=>?_) (fun r' hI=>hnx _ ⟨?_,hI.2⟩)
 ·refine H3 (Ha0 size) ?_
  refine Jp (fun pr r2=>r2.length=r'.length+pr.length∧∀ x∈r2,G51 s x size) ⟨by simp,hI.2⟩ (fun pr h post2 r2 nx3 e2 hI2 hnx3=>hnx3 _ ⟨?_,fun x hx=>?_⟩) (fun r2 hI2=>hnx2 _ ⟨by have:=hI.1; have:=hI2.1; omega,hI2.2⟩)
  ·simp only [List.length_append,List.length_singleton]; have:=hI2.1; omega
  ·rcases List.mem_append.1 hx with hx | hx
   ·exact hI2.2 x hx
   ·rw [List.mem_singleton] at hx; subst hx
    exact⟨⟨pre.length,c,rfl,hc,by show (i:Int) < c.Tiers; omega⟩,by show (0:Int)≤i; omega,by show h∈H1e size; rw [e2]; simp⟩
 ·have:=hI.1
  simp only [List.length_append,List.length_singleton]; omega
theorem slot_all {s:Gu} (hs:Small s) (size:Int):Wp (G9e s size) (fun r=>r.length≤200*s.Columns.length∧∀ x∈r,G51 s x size):=by
 unfold G9e
 refine H3 (show G80 s size=some () from rfl) ?_
 refine Gz (wp_mono (slots_spec hs size) (fun ys hys=>?_))
 have hc:=hs.cols
 refine Jp (fun pre r=>r=pre) rfl (fun pre y post r nx e hI hnx=>?_) (fun r hI=>by subst hI; exact Gf hys)
 subst hI
 have hl:r.length < ys.length:=by rw [e]; simp
 exact Rw (G5b (by rw [List.length_singleton]; have:=hys.1; omega) (by omega)) (hnx _ rfl)

structure DropOk (d:Gy):Prop where
 column:Byte d.G3
 kilos:Byte d.Kilos
/-- What a box takes from its row. -/
def strip (d:Gy):Int×Bool×Bool:=(d.Kilos,d.Small,d.High)
def H40 (t:Int×Bool×Bool):Int×Bool:=bif t.2.1 then (20,false) else (40,t.2.2)
def boxOf (p:(Int×Bool×Bool)×Nat):Ga:=Ga.mk (5*((p.2+1:Nat):Int)) ByteArray.empty (H40 p.1).1 (H40 p.1).2 (1000+100*p.1.1) 0 1 0 false
def G16 (l:List Gy):List Ga:=(l.map strip).zipIdx.map boxOf
theorem Hb0 (l:List Gy) (d:Gy):G16 (l++[d])=G16 l++[boxOf (strip d,l.length)]:=by
 unfold G16
 rw [List.map_append,List.zipIdx_append,List.map_append,List.length_map]
 simp
theorem boxesL_len (l:List Gy):(G16 l).length=l.length:=by unfold G16; simp

theorem find_more {boxes:List Ga} {b b':Ga} {id:Int} (h:Yw boxes id=some b'):Yw (boxes++[b]) id=some b':=by
 unfold Yw at h ⊢
 rw [List.find?_append,h]
 rfl
theorem Hab {boxes:List Ga} {b:Ga} (m half:Int):∀ (l:List Stowed) (n:Int),(∀ x∈l,∃ b',Yw boxes x.Ga=some b')→l.foldl (G43 (boxes++[b]) m half) n=l.foldl (G43 boxes m half) n:=by
 intro l
 induction l with
 | nil=>intro n _; rfl
 | cons x r ih=>
  intro n h
  obtain⟨b',hb⟩:=h x (by simp)
  rw [List.foldl_cons,List.foldl_cons,show G43 (boxes++[b]) m half n x=G43 boxes m half n x by unfold G43; rw [find_more hb,hb]]
  exact ih _ (fun y hy=>h y (by simp [hy]))
theorem rightP_more {s:Gu} {boxes:List Ga} {b:Ga} {l:List Stowed} (h:Y5 s boxes l):Y5 s (boxes++[b]) l:=by
 have hf:∀ x∈l,∃ b',Yw boxes x.Ga=some b':=fun x hx=>by
  obtain⟨b',h1,_⟩:=h.each x hx
  exact⟨b',h1⟩
 refine⟨fun x hx=>?_,h.sorted,h.apart,fun m c hc=>?_⟩
 ·obtain⟨b',h1,h2⟩:=h.each x hx
  exact⟨b',find_more h1,h2⟩
 ·have:=h.fits m c hc
  unfold H78 G5d at this ⊢
  rw [Hab _ _ l 0 hf,Hab _ _ l 0 hf]
  exact this

theorem Loaded_spec {s:Gu} {l0:List Gy} (hs:Small s) (hl0:∀ d∈l0,DropOk d) :
  Wp (Qp s l0 9) (fun r=>r.1=G16 (l0.take (min l0.length 9))∧Y5 s r.1 r.2∧r.2.length≤9):=by
 unfold Qp
 have hcols:=hs.cols
 refine Gz (G88 (m:=min l0.length 9) (by omega) (by omega) ?_)
 have hlen:(l0.take (min l0.length 9)).length≤9:=by rw [List.length_take]; omega
 have hl:∀ d∈l0.take (min l0.length 9),DropOk d:=fun d hd=>hl0 d (List.mem_of_mem_take hd)
 generalize l0.take (min l0.length 9)=l at hlen hl
 refine wp_mono (Q':=fun r=>r.1=G16 l∧Y5 s (G16 l) r.2∧r.2.length≤l.length) ?_ (fun r hr=>⟨hr.1,by rw [hr.1]; exact hr.2.1,by omega⟩)
 refine Jp (fun pre st=>st.1=G16 pre∧Y5 s (G16 pre) st.2∧st.2.length≤pre.length) ⟨rfl,Hf6,Nat.le_refl _⟩ (fun pre y post st nx e hI hnx=>?_) (fun st hI=>Gf hI)
 obtain⟨h1,h2,h3⟩:=hI
 obtain⟨⟨c1,c2⟩,⟨k1,k2⟩⟩:=hl y (by rw [e]; simp)
 have hp:pre.length < 9:=by rw [e] at hlen; simp only [List.length_append,List.length_cons] at hlen; omega
 have hbl:=boxesL_len pre
 have hb1:st.1.length≤9:=by rw [h1]; omega
 refine G26 (fun j=>j.1=G16 (pre++[y])∧Y5 s (G16 (pre++[y])) j.2∧j.2.length≤(pre++[y]).length) (fun K hK=>?_) (fun j hj=>hnx _ hj)
 refine Q8 ⟨by omega,by omega⟩ (Q8 ⟨by omega,by omega⟩ (Q8 ⟨by omega,by omega⟩ (Q8 ⟨by omega,by omega⟩ ?_)))
 refine G26 (fun j17=>j17=H40 (strip y)) (fun K' hK'=>Ha (fun h=>hK' _ ?_) (fun h=>hK' _ ?_)) (fun j17 h17=>?_)
 ·unfold H40 strip; simp only [h,cond_true]
 ·unfold H40 strip; simp only [h,cond_false]
 subst h17
 have hbox:st.1++[Ga.mk (5*((pre.length+1:Nat):Int)) ByteArray.empty (H40 (strip y)).1 (H40 (strip y)).2 (1000+100*y.Kilos) 0 1 0 false]=G16 (pre++[y]):=by
  rw [Hb0,h1]; rfl
 rw [hbox]
 refine Rw (G5b (by rw [List.length_singleton]; omega) (by omega)) ?_
 refine Gz (wp_mono (slot_all hs _) (fun r22 h22=>?_))
 have hmore:Y5 s (G16 (pre++[y])) st.2:=by rw [Hb0]; exact rightP_more h2
 refine Jp (fun _ s49=>s49=st.2) rfl (fun pre2 x post2 s49 nx2 e2 hJ hnx2=>?_) (fun s49 hJ=>hK _ ⟨rfl,by rw [hJ]; exact hmore,by rw [hJ,List.length_append,List.length_singleton]; show st.2.length≤_; omega⟩)
 subst hJ
 simp only [List.nil_append]
 refine Rw (G5b (by simp only [List.length_nil]; omega) (by omega)) (Rw (G5b (by rw [List.length_singleton]; omega) (by omega)) (Q8 ⟨by omega,by omega⟩ (Gz (Hc9 (by omega) ?_))))
 by_cases hc:x.G3=y.G3.tmod (s.Columns.length:Int)
 ·rw [decide_eq_true hc]
  simp only [cond_true,Bool.true_and]
  refine Gz (wp_mono (Gda hs.right hs.tier (by simp only [List.length_append,List.length_singleton]; omega)) (fun v hv=>Ha (fun h=>hK _ ⟨rfl,hv.1 h,?_⟩) (fun h=>hnx2 _ rfl)))
  simp only [List.length_append,List.length_singleton]; omega
 ·rw [decide_eq_false hc]
  simp only [cond_false,Bool.false_and]
  exact Gz (Gf (hnx2 _ rfl))

end Go.Proofs.YtapmanciffiibaaGreat
