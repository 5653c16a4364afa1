/-
 The ships that twistlocklaw07.Built makes: they are right.
-/
import Derived.Test.YtknalejjpofoaaaGreatMoreA
set_option maxRecDepth 100000
set_option linter.unusedVariables false
namespace Go.Proofs.YtknalejjpofoaaaGreat
open Go.RowKit
def Byte (z:Int):Prop:=0≤z∧z≤255
structure Jd3 (p:Hp):Prop where
 bay:Byte p.Bay
 row:Byte p.Row
 tiers:Byte p.Tiers
structure ColOk (c:G4):Prop where
 bay:0≤c.Bay∧c.Bay≤4
 row:0≤c.Row∧c.Row≤4
 tiers:2≤c.Tiers∧c.Tiers≤5
 height:c.Height=0
 k20:c.Kilos20=500000000
 k40:c.Kilos40=500000000
 lash:c.Lash=0
 plugs:c.Plugs=[]
 x : -26000≤c.X∧c.X≤26000
 y : -5000≤c.Y∧c.Y≤5000
 z:0≤c.Z∧c.Z≤20000
def ckey (c:G4):Int×Int×Bool:=(c.Bay,c.Row,c.Deck)
def Ge7 (bay row:Int) (deck:Bool) (c:G4):Bool:=((decide (c.Bay=bay))&&(decide (c.Row=row)))&&(c.Deck==deck)
theorem colHere_iff {bay row:Int} {deck:Bool} {c:G4}:Ge7 bay row deck c=true ↔ ckey c=(bay,row,deck):=by
 simp [Ge7,ckey,and_assoc]
structure CovOk (x:G9):Prop where
 bay:0≤x.Bay∧x.Bay≤4
 rows:x.Rows=[0,1]∨x.Rows=[2,3,4]
def xkey (x:G9):Int×Bool:=(x.Bay,decide (x.Rows=[0,1]))
structure ColsOk (l:List G4):Prop where
 len:l.length≤12
 each:∀ c∈l,ColOk c
 nodup:(l.map ckey).Nodup
structure CovsOk (l:List G9):Prop where
 len:l.length≤10
 each:∀ x∈l,CovOk x
 nodup:(l.map xkey).Nodup
structure Jd6 (s:Gw):Prop where
 some:1≤s.Columns.length
 cols:ColsOk s.Columns
 covs:CovsOk s.Covers
theorem Q20 {l:List G4} {wanted:G4→Option Bool} {p:G4→Bool} (hw:∀ x∈l,wanted x=some (p x)) (hl:l.length≤1000000):Qp l wanted=some (G64 p l):=by
 refine Yq ?_
 unfold Qp
 refine J8 (fun pre s=>s=G64 p pre) rfl (fun pre x post s nx e hs hnx=>?_) (fun s hs=>Gn hs)
 subst hs
 have hpl:pre.length+1≤l.length:=by rw [e]; simp
 refine Zt (fun j=>j=G64 p (pre++[x])) (fun K hK=>?_) (fun j hj=>hnx _ hj)
 refine Gu (hw x (by rw [e]; simp)) (H7 (fun h=>Q8 ?_ (hK _ ?_)) (fun h=>hK _ ?_))
 ·have:=Jac p pre
  exact Z5 (by rw [List.length_singleton]; omega) (by omega)
 ·rw [Hf9,h]; rfl
 ·rw [Hf9,h]; simp
theorem find_spec {s:Gw} {bay row:Int} {deck:Bool} (hl:s.Columns.length≤1000000):Wp (H00 s bay row deck) (fun r=>r.2=s.Columns.any (Ge7 bay row deck)):=by
 unfold H00
 refine Gu (Q20 (p:=Ge7 bay row deck) (fun x _=>rfl) hl) (H7 (fun h=>Gn ?_) (fun h=>?_))
 ·have h0:G64 (Ge7 bay row deck) s.Columns=[]:=by
   have:=of_decide_eq_true h
   exact List.length_eq_zero_iff.1 (by omega)
  refine Eq.symm (List.any_eq_false.2 (fun x hx=>?_))
  rw [J59.1 h0 x hx]; exact Bool.false_ne_true
 ·have h0:G64 (Ge7 bay row deck) s.Columns≠[]:=by
   have:=of_decide_eq_false h
   intro e; rw [e] at this; exact this rfl
  have h1:∃ z,(G64 (Ge7 bay row deck) s.Columns)[0]? = some z:=by
   cases hh:G64 (Ge7 bay row deck) s.Columns with
   | nil=>exact(h0 hh).elim
   | cons z r=>exact⟨z,rfl⟩
  obtain⟨z,hz⟩:=h1
  refine Y9 (m:=0) rfl hz (Gn ?_)
  refine Eq.symm ?_
  have:¬ ∀ x∈s.Columns,Ge7 bay row deck x=false:=fun h=>h0 (J59.2 h)
  rw [List.any_eq_true]
  refine Classical.byContradiction fun hn=>this fun x hx=>?_
  cases hc:Ge7 bay row deck x with
  | false=>rfl
  | true=>exact(hn ⟨x,hx,hc⟩).elim
theorem built_spec (l:List Hp) (covers:Int) (hp:∀ p∈l,Jd3 p):Wp (Yi l covers) Jd6:=by
 unfold Yi
 refine H4 (Hbf (m:=min l.length 12) (by omega) (by omega) ?_)
 have hl12:(l.take (min l.length 12)).length≤12:=by rw [List.length_take]; omega
 refine J8 (fun pre s=>∃ cols,s=(cols,[],0,0,0,0,[],[],[],0,0,0,0)∧cols.length≤pre.length∧(∀ c∈cols,ColOk c)∧(cols.map ckey).Nodup)
  ⟨[],rfl,Nat.le_refl _,fun c hc=>(List.not_mem_nil hc).elim,List.nodup_nil⟩ (fun pre y post s nx e hs hnx=>?_) (fun s hs=>?_)
 ·obtain⟨cols,rfl,h1,h2,h3⟩:=hs
  have hlen:pre.length+1≤12:=by rw [e] at hl12; simp at hl12; omega
  have hy:Jd3 y:=hp y (List.mem_of_mem_take (by rw [e]; simp:y∈l.take (min l.length 12)))
  obtain⟨⟨b1,b2⟩,⟨r1,r2⟩,⟨t1,t2⟩⟩:=hy
  refine Zt (fun j=>j.length≤(pre++[y]).length∧(∀ c∈j,ColOk c)∧(j.map ckey).Nodup) (fun K hK=>?_) (fun j hj=>hnx _ ⟨j,rfl,hj⟩)
  refine Qb ⟨by omega,by omega⟩ (H4 (Hbe (by omega) ?_))
  refine Qb ⟨by omega,by omega⟩ (H4 (Hbe (by omega) ?_))
  refine Qb ⟨by omega,by omega⟩ (H4 (Hbe (by omega) ?_))
  have e1:y.Bay.tmod 5=y.Bay % 5:=Int.tmod_eq_emod_of_nonneg b1
  have e2:y.Row.tmod 5=y.Row % 5:=Int.tmod_eq_emod_of_nonneg r1
  have e3:y.Tiers.tmod 4=y.Tiers % 4:=Int.tmod_eq_emod_of_nonneg t1
  rw [e1,e2,e3]
  refine Qb ⟨by omega,by omega⟩ (Qb ⟨by omega,by omega⟩ (Qb ⟨by omega,by omega⟩ (Qb ⟨by omega,by omega⟩ (Qb ⟨by omega,by omega⟩ ?_))))
  refine Zt (fun z:Int=>0≤z∧z≤20000) (fun K' hK'=>H7 (fun _=>hK' _ ⟨by omega,by omega⟩) (fun _=>hK' _ ⟨by omega,by omega⟩)) (fun z hz=>?_)
  have hl:cols.length≤1000000:=by omega
  refine H4 (wp_mono (find_spec hl) (fun r hr=>?_))
  refine H7 (fun h=>Q8 ?_ (hK _ ⟨?_,?_,?_⟩)) (fun h=>hK _ ⟨?_,h2,h3⟩)
  ·exact Z5 (by rw [List.length_singleton]; show cols.length+1≤_; omega) (by omega)
  ·simp only [List.length_append,List.length_singleton]; omega
  ·intro c hc
   rcases List.mem_append.1 hc with hc | hc
   ·exact h2 c hc
   ·rw [List.mem_singleton] at hc; subst hc
    exact⟨⟨by simp only; omega,by simp only; omega⟩,⟨by simp only; omega,by simp only; omega⟩,⟨by simp only; omega,by simp only; omega⟩,rfl,rfl,rfl,rfl,rfl,⟨by simp only; omega,by simp only; omega⟩,⟨by simp only; omega,by simp only; omega⟩,hz⟩
  ·rw [List.map_append,List.nodup_append]
   refine⟨h3,by simp,fun a ha b hb=>?_⟩
   simp only [List.map_cons,List.map_nil,List.mem_singleton] at hb
   subst hb
   obtain⟨c,hc,rfl⟩:=List.mem_map.1 ha
   intro he
   have hf:r.2=false:=by simpa using h
   rw [hf] at hr
   have:=List.any_eq_false.1 hr.symm c hc
   exact this (colHere_iff.2 he)
  ·simp only [List.length_append,List.length_singleton]; omega
 ·obtain⟨cols,rfl,h1,h2,h3⟩:=hs
  have h1:cols.length≤12:=Nat.le_trans h1 hl12
  refine Zt (fun j=>1≤j.length∧ColsOk j) (fun K hK=>H7 (fun h=>hK _ ⟨Nat.le_refl _,?_⟩) (fun h=>hK _ ⟨?_,⟨h1,h2,h3⟩⟩)) (fun cols' hc=>?_)
  ·refine⟨by simp,fun c hc=>?_,by simp⟩
   rw [List.mem_singleton] at hc; subst hc
   exact⟨by simp,by simp,by simp,rfl,rfl,rfl,rfl,rfl,by simp,by simp,by simp⟩
  ·have:¬ ((cols.length:Int)=0):=of_decide_eq_false h
   show 1≤cols.length
   omega
  refine Q8 (by decide) ?_
  have e5:(5:Int).toNat=5:=rfl
  rw [e5]
  refine H51 (fun i s=>∃ covs,s=(cols',covs,0,0,0,0,[],[],[],0,0,0,0)∧covs.length≤2*i∧(∀ x∈covs,CovOk x∧x.Bay < i)∧(covs.map xkey).Nodup)
   ⟨[],rfl,Nat.zero_le _,fun c hc=>(List.not_mem_nil hc).elim,List.nodup_nil⟩ (fun i s nx hi hs hnx=>?_) (fun s hs=>?_)
  ·obtain⟨covs,rfl,g1,g2,g3⟩:=hs
   refine Zt (fun j:List G9=>j.length≤2*(i+1)∧(∀ x∈j,CovOk x∧x.Bay < (i+1:Nat))∧(j.map xkey).Nodup) (fun K hK=>?_) (fun j hj=>hnx _ ⟨j,rfl,hj⟩)
   refine Zt (fun j:List G9=>j.length≤2*i+1∧(∀ x∈j,CovOk x∧(x.Bay < i∨x=⟨i,[0,1]⟩))∧(j.map xkey).Nodup) (fun K' hK'=>?_) (fun j hj=>?_)
   ·refine Qb ⟨by omega,by omega⟩ (H4 (Hbf (m:=2*i) (by omega) (by omega) ?_))
    refine H7 (fun h=>Q8 ?_ (hK' _ ⟨?_,?_,?_⟩)) (fun h=>hK' _ ⟨(by show covs.length≤_; omega),fun x hx=>⟨(g2 x hx).1,.inl (g2 x hx).2⟩,g3⟩)
    ·exact Z5 (by rw [List.length_singleton]; show covs.length+1≤_; omega) (by omega)
    ·simp only [List.length_append,List.length_singleton]; omega
    ·intro x hx
     rcases List.mem_append.1 hx with hx | hx
     ·exact⟨(g2 x hx).1,.inl (g2 x hx).2⟩
     ·rw [List.mem_singleton] at hx; subst hx
      exact⟨⟨⟨by simp only; omega,by simp only; omega⟩,.inl rfl⟩,.inr rfl⟩
    ·rw [List.map_append,List.nodup_append]
     refine⟨g3,by simp,fun a ha b hb=>?_⟩
     simp only [List.map_cons,List.map_nil,List.mem_singleton] at hb
     subst hb
     obtain⟨c,hc,rfl⟩:=List.mem_map.1 ha
     intro he
     have:=(g2 c hc).2
     have e2:c.Bay=i:=congrArg Prod.fst he
     omega
   ·obtain⟨q1,q2,q3⟩:=hj
    refine Qb ⟨by omega,by omega⟩ (Qb ⟨by omega,by omega⟩ (H4 (Hbf (m:=2*i+1) (by omega) (by omega) ?_)))
    refine H7 (fun h=>Q8 ?_ (hK _ ⟨?_,?_,?_⟩)) (fun h=>hK _ ⟨by omega,fun x hx=>⟨(q2 x hx).1,?_⟩,q3⟩)
    ·exact Z5 (by rw [List.length_singleton]; omega) (by omega)
    ·simp only [List.length_append,List.length_singleton]; omega
    ·intro x hx
     rcases List.mem_append.1 hx with hx | hx
     ·refine⟨(q2 x hx).1,?_⟩
      rcases (q2 x hx).2 with h | h
      ·omega
      ·rw [h]; simp only; omega
     ·rw [List.mem_singleton] at hx; subst hx
      exact⟨⟨⟨by simp only; omega,by simp only; omega⟩,.inr rfl⟩,by simp only; omega⟩
    ·rw [List.map_append,List.nodup_append]
     refine⟨q3,by simp,fun a ha b hb=>?_⟩
     simp only [List.map_cons,List.map_nil,List.mem_singleton] at hb
     subst hb
     obtain⟨c,hc,rfl⟩:=List.mem_map.1 ha
     intro he
     rcases (q2 c hc).2 with h | h
     ·have e2:c.Bay=i:=congrArg Prod.fst he
      omega
     ·rw [h] at he
      have e2:=congrArg Prod.snd he
      simp [xkey] at e2
    ·rcases (q2 x hx).2 with h | h
     ·omega
     ·rw [h]; simp only; omega
  ·obtain⟨covs,rfl,g1,g2,g3⟩:=hs
   exact Gn ⟨hc.1,hc.2,⟨g1,fun x hx=>(g2 x hx).1,g3⟩⟩
theorem mput_mem2 {κ ν:Type} [DecidableEq κ] {a:κ} {v:ν} {l:List (κ×ν)} {e:κ×ν} (h:e∈Gf2 l a v):e=(a,v)∨e∈l:=by
 unfold Gf2 at h
 split at h
 ·obtain⟨p,hp,rfl⟩:=List.mem_map.1 h
  split
  ·exact .inl rfl
  ·exact .inr hp
 ·rcases List.mem_append.1 h with h | h
  ·exact .inr h
  ·exact .inl (List.mem_singleton.1 h)
structure MapI {κ:Type} [DecidableEq κ] (ks:List κ) (m:H0 κ Int):Prop where
 get:∀ k,H0.get m k 0=if k∈ks then 1 else 0
 le:∀ e∈H0.l m,e.2≤1
theorem MapI.start {κ:Type} [DecidableEq κ]:MapI ([]:List κ) (H0.empty:H0 κ Int):=⟨fun k=>by simp [H0.get,H0.empty,G5a],fun e he=>by simp [H0.empty] at he⟩
theorem MapI.snoc {κ:Type} [DecidableEq κ] {ks:List κ} {m:H0 κ Int} (h:MapI ks m) {k:κ} (hk:k ∉ ks) {v:Int} (hv:v=1):MapI (ks++[k]) (H0.put m k v):=by
 subst hv
 refine⟨fun j=>?_,fun e he=>?_⟩
 ·have:=h.get j
  unfold H0.get H0.put at *
  simp only [Hf3]
  by_cases hj:k=j
  ·subst hj; simp
  ·rw [if_neg hj,this]
   have:(j∈ks++[k]) ↔ j∈ks:=by
    rw [List.mem_append,List.mem_singleton]
    exact⟨fun h=>h.elim id (fun e=>(hj e.symm).elim),.inl⟩
   simp only [this]
 ·rcases mput_mem2 he with rfl | he
  ·exact Int.le_refl _
  ·exact h.le e he

/-! ### Ships whose columns are limited in height now and then -/
def ColL (c:G4):Prop:=∃ (c0:G4) (h:Int),ColOk c0∧(h=0∨h=8000)∧c={ c0 with Height:=h }
structure LimOk (s:Gw):Prop where
 some:1≤s.Columns.length
 len:s.Columns.length≤12
 each:∀ c∈s.Columns,ColL c
 nodup:(s.Columns.map ckey).Nodup
 covs:CovsOk s.Covers
theorem lim_col {c:G4} (h:ColL c):ColR c:=by
 obtain⟨c0,z,⟨h1,h2,h3,_,h5,h6,h7,h8,h9,h10,h11⟩,g1,rfl⟩:=h
 refine⟨fun p hp=>?_,?_,⟨by show (0:Int)≤c0.Bay; omega,by show c0.Bay≤39; omega,by show (0:Int)≤c0.Row; omega,by show c0.Row≤30; omega,by show 1≤c0.Tiers; omega,by show c0.Tiers≤10; omega,by show (0:Int)≤z; omega,by show z≤40000; omega⟩,⟨by show (0:Int)≤c0.Kilos20; omega,by show c0.Kilos20≤500000000; omega,by show (0:Int)≤c0.Kilos40; omega,by show c0.Kilos40≤500000000; omega,by show (0:Int)≤c0.Lash; omega,by show c0.Lash≤1000000000000; omega⟩,⟨by show -500000≤c0.X; omega,by show c0.X≤500000; omega,by show -500000≤c0.Y; omega,by show c0.Y≤500000; omega,by show -500000≤c0.Z; omega,by show c0.Z≤500000; omega⟩⟩
 ·have hp:p∈c0.Plugs:=hp
  rw [h8] at hp; cases hp
 ·show c0.Plugs.Pairwise _
  rw [h8]; exact List.Pairwise.nil
theorem lim_ship {s:Gw} (h:LimOk s):J16 s:=by
 obtain⟨h1,h2,h3,h4,⟨h5,h6,h7⟩⟩:=h
 refine⟨⟨h1,by omega,by omega⟩,fun c hc=>lim_col (h3 c hc),fun x hx=>?_,?_⟩
 ·obtain⟨⟨b1,b2⟩,hr⟩:=h6 x hx
  rcases hr with h | h <;> refine⟨⟨b1,by omega⟩,by rw [h]; simp,by rw [h]; simp,by rw [h]; simp⟩
 ·refine List.nodup_append.2 ⟨?_,?_,?_⟩
  ·have h4':=List.pairwise_map.1 h4
   refine List.pairwise_map.2 (h4'.imp (fun {a b} hab e=>hab ?_))
   simp only [k3,Hc.mk.injEq] at e
   obtain⟨e1,e2,e3⟩:=e
   have e4:a.Deck=b.Deck:=by
    revert e3
    cases a.Deck <;> cases b.Deck <;> simp [dk]
   simp only [ckey,e1,e2,e4]
  ·refine List.pairwise_flatMap.2 ⟨fun x hx=>?_,?_⟩
   ·refine List.pairwise_map.2 ?_
    rcases (h6 x hx).rows with h | h <;> rw [h] <;> simp
   ·have h7':=List.pairwise_map.1 h7
    have hand:s.Covers.Pairwise (fun a b=>xkey a≠xkey b∧CovOk a∧CovOk b):=
     List.pairwise_iff_getElem.2 (fun i j hi hj hij=>⟨List.pairwise_iff_getElem.1 h7' i j hi hj hij,h6 _ (List.getElem_mem hi),h6 _ (List.getElem_mem hj)⟩)
    refine hand.imp (fun {a b} hab p hp q hq e=>?_)
    obtain⟨hne,ha,hb⟩:=hab
    obtain⟨r,hr,rfl⟩:=List.mem_map.1 hp
    obtain⟨r',hr',rfl⟩:=List.mem_map.1 hq
    simp only [Hc.mk.injEq] at e
    obtain⟨e1,e2,_⟩:=e
    subst e2
    apply hne
    rcases ha.rows with h | h <;> rcases hb.rows with h' | h' <;> rw [h] at hr <;> rw [h'] at hr' <;> simp [xkey,e1,h,h'] at hr hr' ⊢ <;> omega
  ·intro a ha b hb e
   obtain⟨c,_,rfl⟩:=List.mem_map.1 ha
   obtain⟨x,_,hx⟩:=List.mem_flatMap.1 hb
   obtain⟨r,_,rfl⟩:=List.mem_map.1 hx
   simp only [k3,Hc.mk.injEq] at e
   have:=e.2.2
   revert this
   cases c.Deck <;> simp [dk]
theorem Gda {s:Gw} (h:LimOk s):Small s:=by
 have hcol:∀ c∈s.Columns,c.Plugs.length=0∧c.Tiers≤100:=fun c hc=>by
  obtain⟨c0,z,hc0,_,rfl⟩:=h.each c hc
  have:=hc0.tiers
  exact⟨by show c0.Plugs.length=0; rw [hc0.plugs]; rfl,by show c0.Tiers≤100; omega⟩
 have hrow:∀ x∈s.Covers,x.Rows.length≤1000:=fun x hx=>by
  rcases (h.covs.each x hx).rows with e | e <;> rw [e] <;> simp
 refine⟨Yq (wp_mono (Q06 s (fun c hc=>by have:=(hcol c hc).1; omega) (fun x hx=>by have:=hrow x hx; omega)) (fun r hr=>hr.2 (lim_ship h))),⟨h.some,by have:=h.len; omega⟩,fun c hc=>(hcol c hc).2,by have:=h.covs.len; omega,hrow⟩
theorem slots_spec {s:Gw} (hs:Small s) (size:Int):Wp (Gc0 s size) (fun r=>r.length≤200*s.Columns.length∧∀ x∈r,G65 s x size):=by
 unfold Gc0
 have hhl:(H5b size).length≤2:=by
  unfold H5b
  split
  ·simp
  ·split <;> simp
 refine J8 (fun pre r=>r.length≤200*pre.length∧∀ x∈r,G65 s x size) ⟨by simp,fun x hx=>(List.not_mem_nil hx).elim⟩ (fun pre c post r nx e hI hnx=>?_) (fun r hI=>Gn hI)
 obtain⟨h1,h2⟩:=hI
 have hc:s.Columns[pre.length]? = some c:=by rw [e]; simp
 have ht:=hs.tiers c (List.mem_of_getElem? hc)
 refine Q8 (decide_eq_true (by omega)) ?_
 have htn:(max c.Tiers 0).toNat≤100:=by omega
 refine H51 (fun i r'=>r'.length≤r.length+2*i∧∀ x∈r',G65 s x size) ⟨by simp,h2⟩ (fun i r' nx2 hi hI hnx2=>?_) (fun r' hI=>hnx _ ⟨?_,hI.2⟩)
 ·refine Gu (J9a size) ?_
  refine J8 (fun pr r2=>r2.length=r'.length+pr.length∧∀ x∈r2,G65 s x size) ⟨by simp,hI.2⟩ (fun pr h post2 r2 nx3 e2 hI2 hnx3=>hnx3 _ ⟨?_,fun x hx=>?_⟩) (fun r2 hI2=>hnx2 _ ⟨by have:=hI.1; have:=hI2.1; omega,hI2.2⟩)
  ·simp only [List.length_append,List.length_singleton]; have:=hI2.1; omega
  ·rcases List.mem_append.1 hx with hx | hx
   ·exact hI2.2 x hx
   ·rw [List.mem_singleton] at hx; subst hx
    exact⟨⟨pre.length,c,rfl,hc,by show (i:Int) < c.Tiers; omega⟩,by show (0:Int)≤i; omega,by show h∈H5b size; rw [e2]; simp⟩
 ·have:=hI.1
  simp only [List.length_append,List.length_singleton]; omega
theorem slot_all {s:Gw} (hs:Small s) (size:Int):Wp (H45 s size) (fun r=>r.length≤200*s.Columns.length∧∀ x∈r,G65 s x size):=by
 unfold H45
 refine Gu (show H15 s size=some () from rfl) ?_
 refine H4 (wp_mono (slots_spec hs size) (fun ys hys=>?_))
 have hc:=hs.cols
 refine J8 (fun pre r=>r=pre) rfl (fun pre y post r nx e hI hnx=>?_) (fun r hI=>by subst hI; exact Gn hys)
 subst hI
 have hl:r.length < ys.length:=by rw [e]; simp
 exact Q8 (Z5 (by rw [List.length_singleton]; have:=hys.1; omega) (by omega)) (hnx _ rfl)
end Go.Proofs.YtknalejjpofoaaaGreat
