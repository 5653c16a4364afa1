/-
 The ships that twistlocklaw07.Built makes: they are right.
-/
import Derived.Test.YtidpfkmbfgihlaaGreatMoreA
set_option maxRecDepth 100000
set_option linter.unusedVariables false
namespace Go.Proofs.YtidpfkmbfgihlaaGreat
open Go.RowKit

def Byte (z:Int):Prop:=0≤z∧z≤255
structure Jb0 (p:Ha):Prop where
 bay:Byte p.Bay
 row:Byte p.Row
 tiers:Byte p.Tiers

structure Y35 (c:G2):Prop where
 bay:0≤c.Bay∧c.Bay≤4
 row:0≤c.Row∧c.Row≤4
 tiers:2≤c.Tiers∧c.Tiers≤5
 height:c.Height=0
 k20:c.Kilos20=500000000
 k40:c.Kilos40=500000000
 lash:c.Lash=0
 plugs:c.Plugs=[]
 x : -26000≤c.X∧c.X≤26000
 y : -5000≤c.Y∧c.Y≤5000
 z:0≤c.Z∧c.Z≤20000
def Rfb (c:G2):Int×Int×Bool:=(c.Bay,c.Row,c.Deck)
def H1d (bay row:Int) (deck:Bool) (c:G2):Bool:=((decide (c.Bay=bay))&&(decide (c.Row=row)))&&(c.Deck==deck)
theorem R88 {bay row:Int} {deck:Bool} {c:G2}:H1d bay row deck c=true ↔ Rfb c=(bay,row,deck):=by
 simp [H1d,Rfb,and_assoc]
structure R0a (x:G8):Prop where
 bay:0≤x.Bay∧x.Bay≤4
 rows:x.Rows=[0,1]∨x.Rows=[2,3,4]
def R3f (x:G8):Int×Bool:=(x.Bay,decide (x.Rows=[0,1]))
structure Ya9 (l:List G2):Prop where
 len:l.length≤12
 each:∀ c∈l,Y35 c
 nodup:(l.map Rfb).Nodup
structure Ya8 (l:List G8):Prop where
 len:l.length≤10
 each:∀ x∈l,R0a x
 nodup:(l.map R3f).Nodup
structure Y36 (s:Gk):Prop where
 some:1≤s.Columns.length
 cols:Ya9 s.Columns
 covs:Ya8 s.Covers

theorem Q96 {l:List G2} {wanted:G2→Option Bool} {p:G2→Bool} (hw:∀ x∈l,wanted x=some (p x)) (hl:l.length≤1000000):Ra l wanted=some (G8e p l):=by
 refine G83 ?_
 unfold Ra
 refine Y3 (fun pre s=>s=G8e p pre) rfl (fun pre x post s nx e hs hnx=>?_) (fun s hs=>Gj hs)
 subst hs
 have hpl:pre.length+1≤l.length:=by rw [e]; simp
 refine G7c (fun j=>j=G8e p (pre++[x])) (fun K hK=>?_) (fun j hj=>hnx _ hj)
 refine H2 (hw x (by rw [e]; simp)) (Hr (fun h=>G06 ?_ (hK _ ?_)) (fun h=>hK _ ?_))
 ·have:=Q16 p pre
  exact Ga7 (by rw [List.length_singleton]; omega) (by omega)
 ·rw [J42,h]; rfl
 ·rw [J42,h]; simp

theorem Y5a {s:Gk} {bay row:Int} {deck:Bool} (hl:s.Columns.length≤1000000):Wp (H39 s bay row deck) (fun r=>r.2=s.Columns.any (H1d bay row deck)):=by
 unfold H39
 refine H2 (Q96 (p:=H1d bay row deck) (fun x _=>rfl) hl) (Hr (fun h=>Gj ?_) (fun h=>?_))
 ·have h0:G8e (H1d bay row deck) s.Columns=[]:=by
   have:=of_decide_eq_true h
   exact List.length_eq_zero_iff.1 (by omega)
  refine Eq.symm (List.any_eq_false.2 (fun x hx=>?_))
  rw [Ja5.1 h0 x hx]; exact Bool.false_ne_true
 ·have h0:G8e (H1d bay row deck) s.Columns≠[]:=by
   have:=of_decide_eq_false h
   intro e; rw [e] at this; exact this rfl
  have h1:∃ z,(G8e (H1d bay row deck) s.Columns)[0]? = some z:=by
   cases hh:G8e (H1d bay row deck) s.Columns with
   | nil=>exact(h0 hh).elim
   | cons z r=>exact⟨z,rfl⟩
  obtain⟨z,hz⟩:=h1
  refine Yg (m:=0) rfl hz (Gj ?_)
  refine Eq.symm ?_
  have:¬ ∀ x∈s.Columns,H1d bay row deck x=false:=fun h=>h0 (Ja5.2 h)
  rw [List.any_eq_true]
  refine Classical.byContradiction fun hn=>this fun x hx=>?_
  cases hc:H1d bay row deck x with
  | false=>rfl
  | true=>exact(hn ⟨x,hx,hc⟩).elim

theorem Rfc (l:List Ha) (covers:Int) (hp:∀ p∈l,Jb0 p):Wp (Zf l covers) Y36:=by
 unfold Zf
 refine H5 (Had (m:=min l.length 12) (by omega) (by omega) ?_)
 have hl12:(l.take (min l.length 12)).length≤12:=by rw [List.length_take]; omega
 refine Y3 (fun pre s=>∃ cols,s=(cols,[],0,0,0,0,[],[],[],0,0,0,0)∧cols.length≤pre.length∧(∀ c∈cols,Y35 c)∧(cols.map Rfb).Nodup)
  ⟨[],rfl,Nat.le_refl _,fun c hc=>(List.not_mem_nil hc).elim,List.nodup_nil⟩ (fun pre y post s nx e hs hnx=>?_) (fun s hs=>?_)
 ·obtain⟨cols,rfl,h1,h2,h3⟩:=hs
  have hlen:pre.length+1≤12:=by rw [e] at hl12; simp at hl12; omega
  have hy:Jb0 y:=hp y (List.mem_of_mem_take (by rw [e]; simp:y∈l.take (min l.length 12)))
  obtain⟨⟨b1,b2⟩,⟨r1,r2⟩,⟨t1,t2⟩⟩:=hy
  refine G7c (fun j=>j.length≤(pre++[y]).length∧(∀ c∈j,Y35 c)∧(j.map Rfb).Nodup) (fun K hK=>?_) (fun j hj=>hnx _ ⟨j,rfl,hj⟩)
  refine R1 ⟨by omega,by omega⟩ (H5 (H03 (by omega) ?_))
  refine R1 ⟨by omega,by omega⟩ (H5 (H03 (by omega) ?_))
  refine R1 ⟨by omega,by omega⟩ (H5 (H03 (by omega) ?_))
  have e1:y.Bay.tmod 5=y.Bay % 5:=Int.tmod_eq_emod_of_nonneg b1
  have e2:y.Row.tmod 5=y.Row % 5:=Int.tmod_eq_emod_of_nonneg r1
  have e3:y.Tiers.tmod 4=y.Tiers % 4:=Int.tmod_eq_emod_of_nonneg t1
  rw [e1,e2,e3]
  refine R1 ⟨by omega,by omega⟩ (R1 ⟨by omega,by omega⟩ (R1 ⟨by omega,by omega⟩ (R1 ⟨by omega,by omega⟩ (R1 ⟨by omega,by omega⟩ ?_))))
  refine G7c (fun z:Int=>0≤z∧z≤20000) (fun K' hK'=>Hr (fun _=>hK' _ ⟨by omega,by omega⟩) (fun _=>hK' _ ⟨by omega,by omega⟩)) (fun z hz=>?_)
  have hl:cols.length≤1000000:=by omega
  refine H5 (wp_mono (Y5a hl) (fun r hr=>?_))
  refine Hr (fun h=>G06 ?_ (hK _ ⟨?_,?_,?_⟩)) (fun h=>hK _ ⟨?_,h2,h3⟩)
  ·exact Ga7 (by rw [List.length_singleton]; show cols.length+1≤_; omega) (by omega)
  ·simp only [List.length_append,List.length_singleton]; omega
  ·intro c hc
   rcases List.mem_append.1 hc with hc | hc
   ·exact h2 c hc
   ·rw [List.mem_singleton] at hc; subst hc
    exact⟨⟨by simp only; omega,by simp only; omega⟩,⟨by simp only; omega,by simp only; omega⟩,⟨by simp only; omega,by simp only; omega⟩,rfl,rfl,rfl,rfl,rfl,⟨by simp only; omega,by simp only; omega⟩,⟨by simp only; omega,by simp only; omega⟩,hz⟩
  ·rw [List.map_append,List.nodup_append]
   refine⟨h3,by simp,fun a ha b hb=>?_⟩
   simp only [List.map_cons,List.map_nil,List.mem_singleton] at hb
   subst hb
   obtain⟨c,hc,rfl⟩:=List.mem_map.1 ha
   intro he
   have hf:r.2=false:=by simpa using h
   rw [hf] at hr
   have:=List.any_eq_false.1 hr.symm c hc
   exact this (R88.2 he)
  ·simp only [List.length_append,List.length_singleton]; omega
 ·obtain⟨cols,rfl,h1,h2,h3⟩:=hs
  have h1:cols.length≤12:=Nat.le_trans h1 hl12
  refine G7c (fun j=>1≤j.length∧Ya9 j) (fun K hK=>Hr (fun h=>hK _ ⟨Nat.le_refl _,?_⟩) (fun h=>hK _ ⟨?_,⟨h1,h2,h3⟩⟩)) (fun cols' hc=>?_)
  ·refine⟨by simp,fun c hc=>?_,by simp⟩
   rw [List.mem_singleton] at hc; subst hc
   exact⟨by simp,by simp,by simp,rfl,rfl,rfl,rfl,rfl,by simp,by simp,by simp⟩
  ·have:¬ ((cols.length:Int)=0):=of_decide_eq_false h
   show 1≤cols.length
   omega
  refine G06 (by decide) ?_
  have e5:(5:Int).toNat=5:=rfl
  rw [e5]
  refine R12 (fun i s=>∃ covs,s=(cols',covs,0,0,0,0,[],[],[],0,0,0,0)∧covs.length≤2*i∧(∀ x∈covs,R0a x∧x.Bay < i)∧(covs.map R3f).Nodup)
   ⟨[],rfl,Nat.zero_le _,fun c hc=>(List.not_mem_nil hc).elim,List.nodup_nil⟩ (fun i s nx hi hs hnx=>?_) (fun s hs=>?_)
  ·obtain⟨covs,rfl,g1,g2,g3⟩:=hs
   refine G7c (fun j:List G8=>j.length≤2*(i+1)∧(∀ x∈j,R0a x∧x.Bay < (i+1:Nat))∧(j.map R3f).Nodup) (fun K hK=>?_) (fun j hj=>hnx _ ⟨j,rfl,hj⟩)
   refine G7c (fun j:List G8=>j.length≤2*i+1∧(∀ x∈j,R0a x∧(x.Bay < i∨x=⟨i,[0,1]⟩))∧(j.map R3f).Nodup) (fun K' hK'=>?_) (fun j hj=>?_)
   ·refine R1 ⟨by omega,by omega⟩ (H5 (Had (m:=2*i) (by omega) (by omega) ?_))
    refine Hr (fun h=>G06 ?_ (hK' _ ⟨?_,?_,?_⟩)) (fun h=>hK' _ ⟨(by show covs.length≤_; omega),fun x hx=>⟨(g2 x hx).1,.inl (g2 x hx).2⟩,g3⟩)
    ·exact Ga7 (by rw [List.length_singleton]; show covs.length+1≤_; omega) (by omega)
    ·simp only [List.length_append,List.length_singleton]; omega
    ·intro x hx
     rcases List.mem_append.1 hx with hx | hx
     ·exact⟨(g2 x hx).1,.inl (g2 x hx).2⟩
     ·rw [List.mem_singleton] at hx; subst hx
      exact⟨⟨⟨by simp only; omega,by simp only; omega⟩,.inl rfl⟩,.inr rfl⟩
    ·rw [List.map_append,List.nodup_append]
     refine⟨g3,by simp,fun a ha b hb=>?_⟩
     simp only [List.map_cons,List.map_nil,List.mem_singleton] at hb
     subst hb
     obtain⟨c,hc,rfl⟩:=List.mem_map.1 ha
     intro he
     have:=(g2 c hc).2
     have e2:c.Bay=i:=congrArg Prod.fst he
     omega
   ·obtain⟨q1,q2,q3⟩:=hj
    refine R1 ⟨by omega,by omega⟩ (R1 ⟨by omega,by omega⟩ (H5 (Had (m:=2*i+1) (by omega) (by omega) ?_)))
    refine Hr (fun h=>G06 ?_ (hK _ ⟨?_,?_,?_⟩)) (fun h=>hK _ ⟨by omega,fun x hx=>⟨(q2 x hx).1,?_⟩,q3⟩)
    ·exact Ga7 (by rw [List.length_singleton]; omega) (by omega)
    ·simp only [List.length_append,List.length_singleton]; omega
    ·intro x hx
     rcases List.mem_append.1 hx with hx | hx
     ·refine⟨(q2 x hx).1,?_⟩
      rcases (q2 x hx).2 with h | h
      ·omega
      ·rw [h]; simp only; omega
     ·rw [List.mem_singleton] at hx; subst hx
      exact⟨⟨⟨by simp only; omega,by simp only; omega⟩,.inr rfl⟩,by simp only; omega⟩
    ·rw [List.map_append,List.nodup_append]
     refine⟨q3,by simp,fun a ha b hb=>?_⟩
     simp only [List.map_cons,List.map_nil,List.mem_singleton] at hb
     subst hb
     obtain⟨c,hc,rfl⟩:=List.mem_map.1 ha
     intro he
     rcases (q2 c hc).2 with h | h
     ·have e2:c.Bay=i:=congrArg Prod.fst he
      omega
     ·rw [h] at he
      have e2:=congrArg Prod.snd he
      simp [R3f] at e2
    ·rcases (q2 x hx).2 with h | h
     ·omega
     ·rw [h]; simp only; omega
  ·obtain⟨covs,rfl,g1,g2,g3⟩:=hs
   exact Gj ⟨hc.1,hc.2,⟨g1,fun x hx=>(g2 x hx).1,g3⟩⟩

theorem Y4f {κ ν:Type} [DecidableEq κ] {a:κ} {v:ν} {l:List (κ×ν)} {e:κ×ν} (h:e∈Gfc l a v):e=(a,v)∨e∈l:=by
 unfold Gfc at h
 split at h
 ·obtain⟨p,hp,rfl⟩:=List.mem_map.1 h
  split
  ·exact .inl rfl
  ·exact .inr hp
 ·rcases List.mem_append.1 h with h | h
  ·exact .inr h
  ·exact .inl (List.mem_singleton.1 h)
structure Ya0 {κ:Type} [DecidableEq κ] (ks:List κ) (m:Ju κ Int):Prop where
 get:∀ k,Ju.get m k 0=if k∈ks then 1 else 0
 le:∀ e∈Ju.l m,e.2≤1
theorem Ya0.start {κ:Type} [DecidableEq κ]:Ya0 ([]:List κ) (Ju.empty:Ju κ Int):=⟨fun k=>by simp [Ju.get,Ju.empty,G2a],fun e he=>by simp [Ju.empty] at he⟩
theorem Ya0.snoc {κ:Type} [DecidableEq κ] {ks:List κ} {m:Ju κ Int} (h:Ya0 ks m) {k:κ} (hk:k ∉ ks) {v:Int} (hv:v=1):Ya0 (ks++[k]) (Ju.put m k v):=by
 subst hv
 refine⟨fun j=>?_,fun e he=>?_⟩
 ·have:=h.get j
  unfold Ju.get Ju.put at *
  simp only [J3d]
  by_cases hj:k=j
  ·subst hj; simp
  ·rw [if_neg hj,this]
   have:(j∈ks++[k]) ↔ j∈ks:=by
    rw [List.mem_append,List.mem_singleton]
    exact⟨fun h=>h.elim id (fun e=>(hj e.symm).elim),.inl⟩
   simp only [this]
 ·rcases Y4f he with rfl | he
  ·exact Int.le_refl _
  ·exact h.le e he


/-! ### Ships whose columns are limited in height now and then -/
def ColL (c:G2):Prop:=∃ (c0:G2) (h:Int),Y35 c0∧(h=0∨h=8000)∧c={ c0 with Height:=h }
structure Qb5 (s:Gk):Prop where
 some:1≤s.Columns.length
 len:s.Columns.length≤12
 each:∀ c∈s.Columns,ColL c
 nodup:(s.Columns.map Rfb).Nodup
 covs:Ya8 s.Covers
theorem Ycd {c:G2} (h:ColL c):Ye4 c:=by
 obtain⟨c0,z,⟨h1,h2,h3,_,h5,h6,h7,h8,h9,h10,h11⟩,g1,rfl⟩:=h
 refine⟨fun p hp=>?_,?_,⟨by show (0:Int)≤c0.Bay; omega,by show c0.Bay≤39; omega,by show (0:Int)≤c0.Row; omega,by show c0.Row≤30; omega,by show 1≤c0.Tiers; omega,by show c0.Tiers≤10; omega,by show (0:Int)≤z; omega,by show z≤40000; omega⟩,⟨by show (0:Int)≤c0.Kilos20; omega,by show c0.Kilos20≤500000000; omega,by show (0:Int)≤c0.Kilos40; omega,by show c0.Kilos40≤500000000; omega,by show (0:Int)≤c0.Lash; omega,by show c0.Lash≤1000000000000; omega⟩,⟨by show -500000≤c0.X; omega,by show c0.X≤500000; omega,by show -500000≤c0.Y; omega,by show c0.Y≤500000; omega,by show -500000≤c0.Z; omega,by show c0.Z≤500000; omega⟩⟩
 ·have hp:p∈c0.Plugs:=hp
  rw [h8] at hp; cases hp
 ·show c0.Plugs.Pairwise _
  rw [h8]; exact List.Pairwise.nil
theorem R7c {s:Gk} (h:Qb5 s):J5b s:=by
 obtain⟨h1,h2,h3,h4,⟨h5,h6,h7⟩⟩:=h
 refine⟨⟨h1,by omega,by omega⟩,fun c hc=>Ycd (h3 c hc),fun x hx=>?_,?_⟩
 ·obtain⟨⟨b1,b2⟩,hr⟩:=h6 x hx
  rcases hr with h | h <;> refine⟨⟨b1,by omega⟩,by rw [h]; simp,by rw [h]; simp,by rw [h]; simp⟩
 ·refine List.nodup_append.2 ⟨?_,?_,?_⟩
  ·have h4':=List.pairwise_map.1 h4
   refine List.pairwise_map.2 (h4'.imp (fun {a b} hab e=>hab ?_))
   simp only [k3,Hg.mk.injEq] at e
   obtain⟨e1,e2,e3⟩:=e
   have e4:a.Deck=b.Deck:=by
    revert e3
    cases a.Deck <;> cases b.Deck <;> simp [dk]
   simp only [Rfb,e1,e2,e4]
  ·refine List.pairwise_flatMap.2 ⟨fun x hx=>?_,?_⟩
   ·refine List.pairwise_map.2 ?_
    rcases (h6 x hx).rows with h | h <;> rw [h] <;> simp
   ·have h7':=List.pairwise_map.1 h7
    have hand:s.Covers.Pairwise (fun a b=>R3f a≠R3f b∧R0a a∧R0a b):=
     List.pairwise_iff_getElem.2 (fun i j hi hj hij=>⟨List.pairwise_iff_getElem.1 h7' i j hi hj hij,h6 _ (List.getElem_mem hi),h6 _ (List.getElem_mem hj)⟩)
    refine hand.imp (fun {a b} hab p hp q hq e=>?_)
    obtain⟨hne,ha,hb⟩:=hab
    obtain⟨r,hr,rfl⟩:=List.mem_map.1 hp
    obtain⟨r',hr',rfl⟩:=List.mem_map.1 hq
    simp only [Hg.mk.injEq] at e
    obtain⟨e1,e2,_⟩:=e
    subst e2
    apply hne
    rcases ha.rows with h | h <;> rcases hb.rows with h' | h' <;> rw [h] at hr <;> rw [h'] at hr' <;> simp [R3f,e1,h,h'] at hr hr' ⊢ <;> omega
  ·intro a ha b hb e
   obtain⟨c,_,rfl⟩:=List.mem_map.1 ha
   obtain⟨x,_,hx⟩:=List.mem_flatMap.1 hb
   obtain⟨r,_,rfl⟩:=List.mem_map.1 hx
   simp only [k3,Hg.mk.injEq] at e
   have:=e.2.2
   revert this
   cases c.Deck <;> simp [dk]
theorem G76 {s:Gk} (h:Qb5 s):Small s:=by
 have hcol:∀ c∈s.Columns,c.Plugs.length=0∧c.Tiers≤100:=fun c hc=>by
  obtain⟨c0,z,hc0,_,rfl⟩:=h.each c hc
  have:=hc0.tiers
  exact⟨by show c0.Plugs.length=0; rw [hc0.plugs]; rfl,by show c0.Tiers≤100; omega⟩
 have hrow:∀ x∈s.Covers,x.Rows.length≤1000:=fun x hx=>by
  rcases (h.covs.each x hx).rows with e | e <;> rw [e] <;> simp
 refine⟨G83 (wp_mono (Q74 s (fun c hc=>by have:=(hcol c hc).1; omega) (fun x hx=>by have:=hrow x hx; omega)) (fun r hr=>hr.2 (R7c h))),⟨h.some,by have:=h.len; omega⟩,fun c hc=>(hcol c hc).2,by have:=h.covs.len; omega,hrow⟩
theorem Re1 {s:Gk} (hs:Small s) (size:Int):Wp (Gf3 s size) (fun r=>r.length≤200*s.Columns.length∧∀ x∈r,G62 s x size):=by
 unfold Gf3
 have hhl:(H98 size).length≤2:=by
  unfold H98
  split
  ·simp
  ·split <;> simp
 refine Y3 (fun pre r=>r.length≤200*pre.length∧∀ x∈r,G62 s x size) ⟨by simp,fun x hx=>(List.not_mem_nil hx).elim⟩ (fun pre c post r nx e hI hnx=>?_) (fun r hI=>Gj hI)
 obtain⟨h1,h2⟩:=hI
 have hc:s.Columns[pre.length]? = some c:=by rw [e]; simp
 have ht:=hs.tiers c (List.mem_of_getElem? hc)
 refine G06 (decide_eq_true (by omega)) ?_
 have htn:(max c.Tiers 0).toNat≤100:=by omega
 refine R12 (fun i r'=>r'.length≤r.length+2*i∧∀ x∈r',G62 s x size) ⟨by simp,h2⟩ (fun i r' nx2 hi hI hnx2=>?_) (fun r' hI=>hnx _ ⟨?_,hI.2⟩)
 ·refine H2 (Q0a size) ?_
  refine Y3 (fun pr r2=>r2.length=r'.length+pr.length∧∀ x∈r2,G62 s x size) ⟨by simp,hI.2⟩ (fun pr h post2 r2 nx3 e2 hI2 hnx3=>hnx3 _ ⟨?_,fun x hx=>?_⟩) (fun r2 hI2=>hnx2 _ ⟨by have:=hI.1; have:=hI2.1; omega,hI2.2⟩)
  ·simp only [List.length_append,List.length_singleton]; have:=hI2.1; omega
  ·rcases List.mem_append.1 hx with hx | hx
   ·exact hI2.2 x hx
   ·rw [List.mem_singleton] at hx; subst hx
    exact⟨⟨pre.length,c,rfl,hc,by show (i:Int) < c.Tiers; omega⟩,by show (0:Int)≤i; omega,by show h∈H98 size; rw [e2]; simp⟩
 ·have:=hI.1
  simp only [List.length_append,List.length_singleton]; omega
theorem Y7c {s:Gk} (hs:Small s) (size:Int):Wp (H7f s size) (fun r=>r.length≤200*s.Columns.length∧∀ x∈r,G62 s x size):=by
 unfold H7f
 refine H2 (show H51 s size=some () from rfl) ?_
 refine H5 (wp_mono (Re1 hs size) (fun ys hys=>?_))
 have hc:=hs.cols
 refine Y3 (fun pre r=>r=pre) rfl (fun pre y post r nx e hI hnx=>?_) (fun r hI=>by subst hI; exact Gj hys)
 subst hI
 have hl:r.length < ys.length:=by rw [e]; simp
 exact G06 (Ga7 (by rw [List.length_singleton]; have:=hys.1; omega) (by omega)) (hnx _ rfl)

structure Qbd (d:Gu):Prop where
 column:Byte d.G2
 kilos:Byte d.Kilos
def strip (d:Gu):Int×Bool×Bool:=(d.Kilos,d.Small,d.High)
def Ha4 (t:Int×Bool×Bool):Int×Bool:=bif t.2.1 then (20,false) else (40,t.2.2)
def Y98 (p:(Int×Bool×Bool)×Nat):Box:=Box.mk (5*((p.2+1:Nat):Int)) ByteArray.empty (Ha4 p.1).1 (Ha4 p.1).2 (1000+100*p.1.1) 0 1 0 false
def G90 (l:List Gu):List Box:=(l.map strip).zipIdx.map Y98
theorem Q1e (l:List Gu) (d:Gu):G90 (l++[d])=G90 l++[Y98 (strip d,l.length)]:=by
 unfold G90
 rw [List.map_append,List.zipIdx_append,List.map_append,List.length_map]
 simp
theorem Q98 (l:List Gu):(G90 l).length=l.length:=by unfold G90; simp

theorem Qfc {boxes:List Box} {b b':Box} {id:Int} (h:Qj boxes id=some b'):Qj (boxes++[b]) id=some b':=by
 unfold Qj at h ⊢
 rw [List.find?_append,h]
 rfl
theorem Q18 {boxes:List Box} {b:Box} (m half:Int):∀ (l:List Stowed) (n:Int),(∀ x∈l,∃ b',Qj boxes x.Box=some b')→l.foldl (Gd1 (boxes++[b]) m half) n=l.foldl (Gd1 boxes m half) n:=by
 intro l
 induction l with
 | nil=>intro n _; rfl
 | cons x r ih=>
  intro n h
  obtain⟨b',hb⟩:=h x (by simp)
  rw [List.foldl_cons,List.foldl_cons,show Gd1 (boxes++[b]) m half n x=Gd1 boxes m half n x by unfold Gd1; rw [Qfc hb,hb]]
  exact ih _ (fun y hy=>h y (by simp [hy]))
theorem R71 {s:Gk} {boxes:List Box} {b:Box} {l:List Stowed} (h:Yv s boxes l):Yv s (boxes++[b]) l:=by
 have hf:∀ x∈l,∃ b',Qj boxes x.Box=some b':=fun x hx=>by
  obtain⟨b',h1,_⟩:=h.each x hx
  exact⟨b',h1⟩
 refine⟨fun x hx=>?_,h.sorted,h.apart,fun m c hc=>?_⟩
 ·obtain⟨b',h1,h2⟩:=h.each x hx
  exact⟨b',Qfc h1,h2⟩
 ·have:=h.fits m c hc
  unfold J03 Ze at this ⊢
  rw [Q18 _ _ l 0 hf,Q18 _ _ l 0 hf]
  exact this

end Go.Proofs.YtidpfkmbfgihlaaGreat
