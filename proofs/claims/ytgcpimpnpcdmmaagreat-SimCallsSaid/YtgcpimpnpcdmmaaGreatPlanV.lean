/-
 The ships that twistlocklaw07.Built makes: What is reached for,of the states that the chapter's stateme What can be put,taken,opened and closed. What Free,Take,Open,Close and Put return,of states that are What Put returns,and that states stay right. States with a box more or less are right. The voyages that twistlocklaw23.Voyage makes,and what is lf
-/
import Derived.Test.YtgcpimpnpcdmmaaGreatMoreA
set_option maxRecDepth 100000
set_option linter.unusedVariables false
namespace Go.Proofs.YtgcpimpnpcdmmaaGreat
open Go.RowKit
def Byte (z:Int):Prop:=0≤z∧z≤255
structure Q5a (p:Hi):Prop where
 bay:Byte p.Bay
 row:Byte p.Row
 tiers:Byte p.Tiers
structure Y70 (c:G3):Prop where
 bay:0≤c.Bay∧c.Bay≤4
 row:0≤c.Row∧c.Row≤4
 tiers:2≤c.Tiers∧c.Tiers≤5
 height:c.Height=0
 k20:c.Kilos20=500000000
 k40:c.Kilos40=500000000
 lash:c.Lash=0
 plugs:c.Plugs=[]
 x : -26000≤c.X∧c.X≤26000
 y : -5000≤c.Y∧c.Y≤5000
 z:0≤c.Z∧c.Z≤20000
def Y38 (c:G3):Int×Int×Bool:=(c.Bay,c.Row,c.Deck)
def H34 (bay row:Int) (deck:Bool) (c:G3):Bool:=((decide (c.Bay=bay))&&(decide (c.Row=row)))&&(c.Deck==deck)
theorem Rba {bay row:Int} {deck:Bool} {c:G3}:H34 bay row deck c=true ↔ Y38 c=(bay,row,deck):=by
 simp [H34,Y38,and_assoc]
structure R30 (x:G9):Prop where
 bay:0≤x.Bay∧x.Bay≤4
 rows:x.Rows=[0,1]∨x.Rows=[2,3,4]
def R67 (x:G9):Int×Bool:=(x.Bay,decide (x.Rows=[0,1]))
structure Yff (l:List G3):Prop where
 len:l.length≤12
 each:∀ c∈l,Y70 c
 nodup:(l.map Y38).Nodup
structure Yfe (l:List G9):Prop where
 len:l.length≤10
 each:∀ x∈l,R30 x
 nodup:(l.map R67).Nodup
structure Hb2 (s:Gh):Prop where
 some:1≤s.Columns.length
 cols:Yff s.Columns
 covs:Yfe s.Covers
theorem Qc4 {l:List G3} {wanted:G3→Option Bool} {p:G3→Bool} (hw:∀ x∈l,wanted x=some (p x)) (hl:l.length≤1000000):Yy l wanted=some (Gfb p l):=by
 refine G28 ?_
 unfold Yy
 refine Jg (fun pre s=>s=Gfb p pre) rfl (fun pre x post s nx e hs h0=>?_) (fun s hs=>Gm hs)
 subst hs
 have h1:pre.length+1≤l.length:=by rw [e]; simp
 refine Zy (fun j=>j=Gfb p (pre++[x])) (fun K hK=>?_) (fun j hj=>h0 _ hj)
 refine Gt (hw x (by rw [e]; simp)) (Hs (fun h=>Rr ?_ (hK _ ?_)) (fun h=>hK _ ?_))
 ·have:=Q38 p pre
  exact Zz (by rw [Mi]; omega) (by omega)
 ·rw [J59,h]; rfl
 ·rw [J59,h]; simp
theorem Y9a {s:Gh} {bay row:Int} {deck:Bool} (hl:s.Columns.length≤1000000):Wp (H48 s bay row deck) (fun r=>r.2=s.Columns.any (H34 bay row deck)):=by
 unfold H48
 refine Gt (Qc4 (p:=H34 bay row deck) (fun x _=>rfl) hl) (Hs (fun h=>Gm ?_) (fun h=>?_))
 ·have h0:Gfb (H34 bay row deck) s.Columns=[]:=by
   have:=M1 h
   exact List.length_eq_zero_iff.1 (by omega)
  refine Eq.symm (List.any_eq_false.2 (fun x hx=>?_))
  rw [Jc1.1 h0 x hx]; exact Bool.false_ne_true
 ·have h0:Gfb (H34 bay row deck) s.Columns≠[]:=by
   have:=M2 h
   intro e; rw [e] at this; exact this rfl
  have h1:∃ z,(Gfb (H34 bay row deck) s.Columns)[0]? = some z:=by
   cases hh:Gfb (H34 bay row deck) s.Columns with
   | nil=>exact(h0 hh).elim
   | cons z r=>exact⟨z,rfl⟩
  obtain⟨z,hz⟩:=h1
  refine Zb (m:=0) rfl hz (Gm ?_)
  refine Eq.symm ?_
  have:¬ ∀ x∈s.Columns,H34 bay row deck x=false:=fun h=>h0 (Jc1.2 h)
  rw [List.any_eq_true]
  refine Classical.byContradiction fun hn=>this fun x hx=>?_
  cases hc:H34 bay row deck x with
  | false=>rfl
  | true=>exact(hn ⟨x,hx,hc⟩).elim
theorem Y39 (l:List Hi) (covers:Int) (hp:∀ p∈l,Q5a p):Wp (Z4 l covers) Hb2:=by
 unfold Z4
 refine H6 (J18 (m:=min l.length 12) (by omega) (by omega) ?_)
 have h4:(l.take (min l.length 12)).length≤12:=by rw [List.length_take]; omega
 refine Jg (fun pre s=>∃ cols,s=(cols,[],0,0,0,0,[],[],[],0,0,0,0)∧cols.length≤pre.length∧(∀ c∈cols,Y70 c)∧(cols.map Y38).Nodup)
  ⟨[],rfl,Ma,fun c hc=>(M9 hc).elim,List.nodup_nil⟩ (fun pre y post s nx e hs h5=>?_) (fun s hs=>?_)
 ·obtain⟨cols,rfl,h1,h2,h3⟩:=hs
  have h6:pre.length+1≤12:=by rw [e] at h4; simp at h4; omega
  have hy:Q5a y:=hp y (List.mem_of_mem_take (by rw [e]; simp:y∈l.take (min l.length 12)))
  obtain⟨⟨b1,b2⟩,⟨r1,r2⟩,⟨t1,t2⟩⟩:=hy
  refine Zy (fun j=>j.length≤(pre++[y]).length∧(∀ c∈j,Y70 c)∧(j.map Y38).Nodup) (fun K hK=>?_) (fun j hj=>h5 _ ⟨j,rfl,hj⟩)
  refine R2 ⟨by omega,by omega⟩ (H6 (J83 (by omega) ?_))
  refine R2 ⟨by omega,by omega⟩ (H6 (J83 (by omega) ?_))
  refine R2 ⟨by omega,by omega⟩ (H6 (J83 (by omega) ?_))
  have e1:y.Bay.tmod 5=y.Bay % 5:=Int.tmod_eq_emod_of_nonneg b1
  have e2:y.Row.tmod 5=y.Row % 5:=Int.tmod_eq_emod_of_nonneg r1
  have e3:y.Tiers.tmod 4=y.Tiers % 4:=Int.tmod_eq_emod_of_nonneg t1
  rw [e1,e2,e3]
  refine R2 ⟨by omega,by omega⟩ (R2 ⟨by omega,by omega⟩ (R2 ⟨by omega,by omega⟩ (R2 ⟨by omega,by omega⟩ (R2 ⟨by omega,by omega⟩ ?_))))
  refine Zy (fun z:Int=>0≤z∧z≤20000) (fun K' h0=>Hs (fun _=>h0 _ ⟨by omega,by omega⟩) (fun _=>h0 _ ⟨by omega,by omega⟩)) (fun z hz=>?_)
  have hl:cols.length≤1000000:=by omega
  refine H6 (wp_mono (Y9a hl) (fun r hr=>?_))
  refine Hs (fun h=>Rr ?_ (hK _ ⟨?_,?_,?_⟩)) (fun h=>hK _ ⟨?_,h2,h3⟩)
  ·exact Zz (by rw [Mi]; show cols.length+1≤_; omega) (by omega)
  ·simp only [Mh,Mi]; omega
  ·intro c hc
   rcases Mn.1 hc with hc | hc
   ·exact h2 c hc
   ·rw [Mp] at hc; subst hc
    exact⟨⟨by simp only; omega,by simp only; omega⟩,⟨by simp only; omega,by simp only; omega⟩,⟨by simp only; omega,by simp only; omega⟩,rfl,rfl,rfl,rfl,rfl,⟨by simp only; omega,by simp only; omega⟩,⟨by simp only; omega,by simp only; omega⟩,hz⟩
  ·rw [List.map_append,List.nodup_append]
   refine⟨h3,by simp,fun a ha b hb=>?_⟩
   simp only [List.map_cons,List.map_nil,Mp] at hb
   subst hb
   obtain⟨c,hc,rfl⟩:=Mo.1 ha
   intro he
   have hf:r.2=false:=by simpa using h
   rw [hf] at hr
   have:=List.any_eq_false.1 hr.symm c hc
   exact this (Rba.2 he)
  ·simp only [Mh,Mi]; omega
 ·obtain⟨cols,rfl,h1,h2,h3⟩:=hs
  have h1:cols.length≤12:=Nat.le_trans h1 h4
  refine Zy (fun j=>1≤j.length∧Yff j) (fun K hK=>Hs (fun h=>hK _ ⟨Ma,?_⟩) (fun h=>hK _ ⟨?_,⟨h1,h2,h3⟩⟩)) (fun cols' hc=>?_)
  ·refine⟨by simp,fun c hc=>?_,by simp⟩
   rw [Mp] at hc; subst hc
   exact⟨by simp,by simp,by simp,rfl,rfl,rfl,rfl,rfl,by simp,by simp,by simp⟩
  ·have:¬ ((cols.length:Int)=0):=M2 h
   show 1≤cols.length
   omega
  refine Rr (by decide) ?_
  have e5:(5:Int).toNat=5:=rfl
  rw [e5]
  refine He2 (fun i s=>∃ covs,s=(cols',covs,0,0,0,0,[],[],[],0,0,0,0)∧covs.length≤2*i∧(∀ x∈covs,R30 x∧x.Bay < i)∧(covs.map R67).Nodup)
   ⟨[],rfl,Nat.zero_le _,fun c hc=>(M9 hc).elim,List.nodup_nil⟩ (fun i s nx hi hs h5=>?_) (fun s hs=>?_)
  ·obtain⟨covs,rfl,g1,g2,g3⟩:=hs
   refine Zy (fun j:List G9=>j.length≤2*(i+1)∧(∀ x∈j,R30 x∧x.Bay < (i+1:Nat))∧(j.map R67).Nodup) (fun K hK=>?_) (fun j hj=>h5 _ ⟨j,rfl,hj⟩)
   refine Zy (fun j:List G9=>j.length≤2*i+1∧(∀ x∈j,R30 x∧(x.Bay < i∨x=⟨i,[0,1]⟩))∧(j.map R67).Nodup) (fun K' h0=>?_) (fun j hj=>?_)
   ·refine R2 ⟨by omega,by omega⟩ (H6 (J18 (m:=2*i) (by omega) (by omega) ?_))
    refine Hs (fun h=>Rr ?_ (h0 _ ⟨?_,?_,?_⟩)) (fun h=>h0 _ ⟨(by show covs.length≤_; omega),fun x hx=>⟨(g2 x hx).1,.inl (g2 x hx).2⟩,g3⟩)
    ·exact Zz (by rw [Mi]; show covs.length+1≤_; omega) (by omega)
    ·simp only [Mh,Mi]; omega
    ·intro x hx
     rcases Mn.1 hx with hx | hx
     ·exact⟨(g2 x hx).1,.inl (g2 x hx).2⟩
     ·rw [Mp] at hx; subst hx
      exact⟨⟨⟨by simp only; omega,by simp only; omega⟩,.inl rfl⟩,.inr rfl⟩
    ·rw [List.map_append,List.nodup_append]
     refine⟨g3,by simp,fun a ha b hb=>?_⟩
     simp only [List.map_cons,List.map_nil,Mp] at hb
     subst hb
     obtain⟨c,hc,rfl⟩:=Mo.1 ha
     intro he
     have:=(g2 c hc).2
     have e2:c.Bay=i:=congrArg Prod.fst he
     omega
   ·obtain⟨q1,q2,q3⟩:=hj
    refine R2 ⟨by omega,by omega⟩ (R2 ⟨by omega,by omega⟩ (H6 (J18 (m:=2*i+1) (by omega) (by omega) ?_)))
    refine Hs (fun h=>Rr ?_ (hK _ ⟨?_,?_,?_⟩)) (fun h=>hK _ ⟨by omega,fun x hx=>⟨(q2 x hx).1,?_⟩,q3⟩)
    ·exact Zz (by rw [Mi]; omega) (by omega)
    ·simp only [Mh,Mi]; omega
    ·intro x hx
     rcases Mn.1 hx with hx | hx
     ·refine⟨(q2 x hx).1,?_⟩
      rcases (q2 x hx).2 with h | h
      ·omega
      ·rw [h]; simp only; omega
     ·rw [Mp] at hx; subst hx
      exact⟨⟨⟨by simp only; omega,by simp only; omega⟩,.inr rfl⟩,by simp only; omega⟩
    ·rw [List.map_append,List.nodup_append]
     refine⟨q3,by simp,fun a ha b hb=>?_⟩
     simp only [List.map_cons,List.map_nil,Mp] at hb
     subst hb
     obtain⟨c,hc,rfl⟩:=Mo.1 ha
     intro he
     rcases (q2 c hc).2 with h | h
     ·have e2:c.Bay=i:=congrArg Prod.fst he
      omega
     ·rw [h] at he
      have e2:=congrArg Prod.snd he
      simp [R67] at e2
    ·rcases (q2 x hx).2 with h | h
     ·omega
     ·rw [h]; simp only; omega
  ·obtain⟨covs,rfl,g1,g2,g3⟩:=hs
   exact Gm ⟨hc.1,hc.2,⟨g1,fun x hx=>(g2 x hx).1,g3⟩⟩
/-! ### Ships whose columns are limited in height now and then -/
def ColL (c:G3):Prop:=∃ (c0:G3) (h:Int),Y70 c0∧(h=0∨h=8000)∧c={ c0 with Height:=h }
structure J7e (s:Gh):Prop where
 some:1≤s.Columns.length
 len:s.Columns.length≤12
 each:∀ c∈s.Columns,ColL c
 nodup:(s.Columns.map Y38).Nodup
 covs:Yfe s.Covers
theorem Z2a {c:G3} (h:ColL c):Z43 c:=by
 obtain⟨c0,z,⟨h1,h2,h3,_,h5,h6,h7,h8,h9,h0,h4⟩,g1,rfl⟩:=h
 refine⟨fun p hp=>?_,?_,⟨by show (0:Int)≤c0.Bay; omega,by show c0.Bay≤39; omega,by show (0:Int)≤c0.Row; omega,by show c0.Row≤30; omega,by show 1≤c0.Tiers; omega,by show c0.Tiers≤10; omega,by show (0:Int)≤z; omega,by show z≤40000; omega⟩,⟨by show (0:Int)≤c0.Kilos20; omega,by show c0.Kilos20≤500000000; omega,by show (0:Int)≤c0.Kilos40; omega,by show c0.Kilos40≤500000000; omega,by show (0:Int)≤c0.Lash; omega,by show c0.Lash≤1000000000000; omega⟩,⟨by show -500000≤c0.X; omega,by show c0.X≤500000; omega,by show -500000≤c0.Y; omega,by show c0.Y≤500000; omega,by show -500000≤c0.Z; omega,by show c0.Z≤500000; omega⟩⟩
 ·have hp:p∈c0.Plugs:=hp
  rw [h8] at hp; cases hp
 ·show c0.Plugs.Pairwise _
  rw [h8]; exact List.Pairwise.nil
theorem Ydc {s:Gh} (h:J7e s):Jc9 s:=by
 obtain⟨h1,h2,h3,h4,⟨h5,h6,h7⟩⟩:=h
 refine⟨⟨h1,by omega,by omega⟩,fun c hc=>Z2a (h3 c hc),fun x hx=>?_,?_⟩
 ·obtain⟨⟨b1,b2⟩,hr⟩:=h6 x hx
  rcases hr with h | h <;> refine⟨⟨b1,by omega⟩,by rw [h]; simp,by rw [h]; simp,by rw [h]; simp⟩
 ·refine List.nodup_append.2 ⟨?_,?_,?_⟩
  ·have a0:=List.pairwise_map.1 h4
   refine List.pairwise_map.2 (a0.imp (fun {a b} h0 e=>h0 ?_))
   simp only [k3,Hb.mk.injEq] at e
   obtain⟨e1,e2,e3⟩:=e
   have e4:a.Deck=b.Deck:=by
    revert e3
    cases a.Deck <;> cases b.Deck <;> simp [dk]
   simp only [Y38,e1,e2,e4]
  ·refine List.pairwise_flatMap.2 ⟨fun x hx=>?_,?_⟩
   ·refine List.pairwise_map.2 ?_
    rcases (h6 x hx).rows with h | h <;> rw [h] <;> simp
   ·have a1:=List.pairwise_map.1 h7
    have h9:s.Covers.Pairwise (fun a b=>R67 a≠R67 b∧R30 a∧R30 b):=
     List.pairwise_iff_getElem.2 (fun i j hi hj a2=>⟨List.pairwise_iff_getElem.1 a1 i j hi hj a2,h6 _ (List.getElem_mem hi),h6 _ (List.getElem_mem hj)⟩)
    refine h9.imp (fun {a b} h0 p hp q hq e=>?_)
    obtain⟨a3,ha,hb⟩:=h0
    obtain⟨r,hr,rfl⟩:=Mo.1 hp
    obtain⟨r',h8,rfl⟩:=Mo.1 hq
    simp only [Hb.mk.injEq] at e
    obtain⟨e1,e2,_⟩:=e
    subst e2
    apply a3
    rcases ha.rows with h | h <;> rcases hb.rows with h' | h' <;> rw [h] at hr <;> rw [h'] at h8 <;> simp [R67,e1,h,h'] at hr h8 ⊢ <;> omega
  ·intro a ha b hb e
   obtain⟨c,_,rfl⟩:=Mo.1 ha
   obtain⟨x,_,hx⟩:=List.mem_flatMap.1 hb
   obtain⟨r,_,rfl⟩:=Mo.1 hx
   simp only [k3,Hb.mk.injEq] at e
   have:=e.2.2
   revert this
   cases c.Deck <;> simp [dk]
theorem J56 {s:Gh} (h:J7e s):Small s:=by
 have h0:∀ c∈s.Columns,c.Plugs.length=0∧c.Tiers≤100:=fun c hc=>by
  obtain⟨c0,z,h2,_,rfl⟩:=h.each c hc
  have:=h2.tiers
  exact⟨by show c0.Plugs.length=0; rw [h2.plugs]; rfl,by show c0.Tiers≤100; omega⟩
 have h1:∀ x∈s.Covers,x.Rows.length≤1000:=fun x hx=>by
  rcases (h.covs.each x hx).rows with e | e <;> rw [e] <;> simp
 refine⟨G28 (wp_mono (Q9e s (fun c hc=>by have:=(h0 c hc).1; omega) (fun x hx=>by have:=h1 x hx; omega)) (fun r hr=>hr.2 (Ydc h))),⟨h.some,by have:=h.len; omega⟩,fun c hc=>(h0 c hc).2,by have:=h.covs.len; omega,h1⟩
theorem Y15 {s:Gh} (hs:Small s) (size:Int):Wp (Gff s size) (fun r=>r.length≤200*s.Columns.length∧∀ x∈r,G7b s x size):=by
 unfold Gff
 have h6:(Ha6 size).length≤2:=by
  unfold Ha6
  split
  ·simp
  ·split <;> simp
 refine Jg (fun pre r=>r.length≤200*pre.length∧∀ x∈r,G7b s x size) ⟨by simp,fun x hx=>(M9 hx).elim⟩ (fun pre c post r nx e hI h5=>?_) (fun r hI=>Gm hI)
 obtain⟨h1,h2⟩:=hI
 have hc:s.Columns[pre.length]? = some c:=by rw [e]; simp
 have ht:=hs.tiers c (M8 hc)
 refine Rr (M3 (by omega)) ?_
 have h7:(max c.Tiers 0).toNat≤100:=by omega
 refine He2 (fun i r'=>r'.length≤r.length+2*i∧∀ x∈r',G7b s x size) ⟨by simp,h2⟩ (fun i r' nx2 hi hI h3=>?_) (fun r' hI=>h5 _ ⟨?_,hI.2⟩)
 ·refine Gt (Q25 size) ?_
  refine Jg (fun pr r2=>r2.length=r'.length+pr.length∧∀ x∈r2,G7b s x size) ⟨by simp,hI.2⟩ (fun pr h post2 r2 nx3 e2 h0 h4=>h4 _ ⟨?_,fun x hx=>?_⟩) (fun r2 h0=>h3 _ ⟨by have:=hI.1; have:=h0.1; omega,h0.2⟩)
  ·simp only [Mh,Mi]; have:=h0.1; omega
  ·rcases Mn.1 hx with hx | hx
   ·exact h0.2 x hx
   ·rw [Mp] at hx; subst hx
    exact⟨⟨pre.length,c,rfl,hc,by show (i:Int) < c.Tiers; omega⟩,by show (0:Int)≤i; omega,by show h∈Ha6 size; rw [e2]; simp⟩
 ·have:=hI.1
  simp only [Mh,Mi]; omega
theorem Yc6 {s:Gh} (hs:Small s) (size:Int):Wp (H89 s size) (fun r=>r.length≤200*s.Columns.length∧∀ x∈r,G7b s x size):=by
 unfold H89
 refine Gt (show H63 s size=some () from rfl) ?_
 refine H6 (wp_mono (Y15 hs size) (fun ys h0=>?_))
 have hc:=hs.cols
 refine Jg (fun pre r=>r=pre) rfl (fun pre y post r nx e hI h1=>?_) (fun r hI=>by subst hI; exact Gm h0)
 subst hI
 have hl:r.length < ys.length:=by rw [e]; simp
 exact Rr (Zz (by rw [Mi]; have:=h0.1; omega) (by omega)) (h1 _ rfl)
theorem Gba.mem {s:Gh} {l:List G1} {ids r:List Int} (h:Gba s l ids r) (hi:∀ a∈ids,a∈l.map (·.Box)):∀ a∈r,a∈l.map (·.Box):=
 h.least (·∈l.map (·.Box)) (fun a b _ hp=>by
  obtain⟨x,_,_,y,hy,e,_⟩:=hp
  exact Mo.2 ⟨y,hy,e⟩) hi
theorem Gba.mono {s:Gh} {l:List G1} {ids ids' r r':List Int} (h:Gba s l ids r) (h':Gba s l ids' r') (hi:∀ a∈ids,a∈ids'):∀ a∈r,a∈r':=
 h.least (·∈r') (fun a b ha hp=>h'.closed a ha b hp) (fun a ha=>h'.seeds a (hi a ha))
theorem Gba.len {s:Gh} {l:List G1} {ids r:List Int} (h:Gba s l ids r) (hi:∀ a∈ids,a∈l.map (·.Box)):r.length≤l.length:=by
 have:=(Y5 h.sorted).length_le_of_subset (fun a ha=>h.mem hi a ha)
 simpa using this
structure Sta (s:Gh) (boxes:List Box) (l:List G1):Prop where
 ship:J7e s
 right:R5 s boxes l
 len:l.length≤10
theorem Sta.colIn {s:Gh} {boxes:List Box} {l:List G1} (h:Sta s boxes l) {x:G1} (hx:x∈l):Hb1 s x.Slot:=by
 obtain⟨b,_,h1,_⟩:=h.right.each x hx
 exact Gd6 h1
theorem wp_loop {β σ:Type} {Q:β→Prop} (I:σ→Prop) (μ:σ→Nat) {b:(σ→Option β)→σ→Option β} {F:Nat} {s:σ} (h0:I s) (hF:μ s < F)
    (hb:∀ s nx,I s→(∀ s',I s'→μ s' < μ s→Wp (nx s') Q)→Wp (b nx s) Q):Wp (loop b F s) Q:=by
  induction F generalizing s with
  | zero=>omega
  | succ F ih=>
    rw [loop]
    exact hb s _ h0 (fun s' h1 h2=>ih h1 (by omega))
structure G82 (s:Gh) (o:List Int):Prop where
  mem:∀ y∈o,0≤y∧y < (s.Covers.length:Int)
  sorted:o.Pairwise (· < ·)
theorem R10 {s:Gh}:G82 s []:=⟨fun y hy=>(M9 hy).elim,List.Pairwise.nil⟩
theorem G82.len {s:Gh} {o:List Int} (h:G82 s o):o.length≤s.Covers.length:=by
  have hn:o.Nodup:=Y5 h.sorted
  have:=hn.length_le_of_subset (l₂:=(List.range s.Covers.length).map (fun n:Nat=>(n:Int))) (fun a ha=>by
    obtain⟨h1,h2⟩:=h.mem a ha
    exact Mo.2 ⟨a.toNat,List.mem_range.2 (by omega),by omega⟩)
  simpa using this
theorem Z68 {m:Option Bool} {p:Prop} [Decidable p] (h:Wp m (fun r=>r=true ↔ p)):m=some (decide p):=by
  obtain⟨r,hr,h⟩:=h
  rw [hr]
  congr 1
  cases r with
  | false=>exact(M4 (fun hp=>by have:=h.2 hp; cases this)).symm
  | true=>exact(M3 (h.1 rfl)).symm
instance (a b:Slot):Decidable (Hd8 a b):=by unfold Hd8 H30; infer_instance
def J9b (s:Gh) (o:List Int) (x:Slot):Prop:=∃ (m:Nat) (c:G3),x.G3=(m:Int)∧s.Columns[m]? = some c∧c.Deck=false∧0≤Jt s c∧Jt s c ∉ o
def Q40 (s:Gh) (l:List G1) (k:Int):Prop:=∀ y∈l,∀ (m:Nat) (c:G3),y.Slot.G3=(m:Int)→s.Columns[m]? = some c→c.Deck=true→Jt s c≠k
theorem Rc1 {boxes:List Box} {m half n:Int} {x:G1}:Gd9 boxes m half n x=n+Gd9 boxes m half 0 x:=by
  unfold Gd9
  split
  · cases Qf boxes x.Box with
    | some b=>simp only; omega
    | none=>simp
  · simp
theorem H80 {boxes:List Box} {m half:Int}:∀ (l:List G1) (n:Int),l.foldl (Gd9 boxes m half) n=n+l.foldl (Gd9 boxes m half) 0:=by
  intro l
  induction l with
  | nil=>intro n; simp
  | cons x r ih=>
    intro n
    rw [List.foldl_cons,List.foldl_cons,ih (Gd9 boxes m half n x),ih (Gd9 boxes m half 0 x),Rc1 (n:=n)]
    omega
theorem Hf9 {boxes:List Box} {m half:Int} (pre post:List G1) (x:G1):Rs boxes (pre++x::post) m half=Rs boxes (pre++post) m half+Gd9 boxes m half 0 x:=by
  unfold Rs
  rw [List.foldl_append,List.foldl_cons,List.foldl_append,H80 post (Gd9 boxes m half _ x),H80 post (List.foldl _ 0 pre),Rc1]
  omega
theorem Qcc {boxes:List Box} {m half n:Int} {x:G1} (h:x.Slot.G3≠m):Gd9 boxes m half n x=n:=by
  unfold Gd9
  rw [if_neg (fun hh=>h hh.1)]
theorem G59 {l:List G1} {y:Slot} {half:Int} (h:below (l.map (·.Slot)) y half):∃ z∈l,z.Slot=⟨y.G3,y.Tier - 1,half⟩:=by
  obtain⟨z,hz,e⟩:=Mo.1 h
  exact⟨z,hz,e⟩
theorem R1f {pre post:List G1} {x:G1} {y:Slot} (hn:¬ H44 y x.Slot) (h:H5a y ((pre++x::post).map (·.Slot))):H5a y ((pre++post).map (·.Slot)):=by
  have key:∀ half,(half=y.Half∨y.Half=0)→below ((pre++x::post).map (·.Slot)) y half→below ((pre++post).map (·.Slot)) y half:=fun half hh hb=>by
    obtain⟨z,hz,e⟩:=G59 hb
    refine Mo.2 ⟨z,?_,e⟩
    have h3:z≠x:=fun e2=>hn (by
      subst e2
      rw [e]
      refine⟨rfl,by simp only; omega,?_⟩
      rcases hh with hh | hh
      · exact .inl hh.symm
      · exact .inr (.inl hh))
    simp only [Mn,Mq] at hz ⊢
    rcases hz with hz | hz | hz
    · exact .inl hz
    · exact(h3 hz).elim
    · exact .inr hz
  rcases h with h | h | ⟨h0,h1,h2⟩
  · exact .inl h
  · exact .inr (.inl (key _ (.inl rfl) h))
  · exact .inr (.inr ⟨h0,key _ (.inr h0) h1,key _ (.inr h0) h2⟩)
theorem R46 {pre post:List G1} {x y:G1} (h:y∈pre++post):y∈pre++x::post:=by
  simp only [Mn,Mq] at h ⊢
  rcases h with h | h
  · exact .inl h
  · exact .inr (.inr h)
theorem Qa3 {s:Gh} {boxes:List Box} {pre post:List G1} {x:G1} (h:R5 s boxes (pre++x::post)) (ho:H3c (pre++x::post) x.Slot=[]):R5 s boxes (pre++post):=by
  have h0:(pre++post).Sublist (pre++x::post):=List.Sublist.append_left (List.sublist_cons_self ..) _
  refine⟨fun y hy=>?_,h.sorted.sublist h0,h.apart.sublist h0,fun m c hc=>?_⟩
  · obtain⟨b,h1,h2,h3⟩:=h.each y (R46 hy)
    refine⟨b,h1,h2,R1f (fun hv=>?_) h3⟩
    have:y.Box∈H3c (pre++x::post) x.Slot:=Ge4.2 ⟨y,R46 hy,rfl,hv⟩
    rw [ho] at this; cases this
  · have:=h.fits m c hc
    unfold J10 at this ⊢
    rw [Hf9,Hf9] at this
    have a1:=(Jc8 (boxes:=boxes) (column:=(m:Int)) (half:=1) (n:=0) (x:=x)).1
    have a2:=(Jc8 (boxes:=boxes) (column:=(m:Int)) (half:=2) (n:=0) (x:=x)).1
    rcases this with h | ⟨h,h'⟩
    · exact .inl h
    · exact .inr ⟨by omega,by omega⟩
def J7f (l:List G1) (x:G1) (r:List G1):Prop:=∃ pre post,l=pre++post∧r=pre++x::post∧(∀ y∈pre,y.Box < x.Box)∧(∀ y,post.head? = some y→x.Box≤y.Box)
def J0a (s:Gh) (o:List Int) (x:Slot):Prop:=∃ (m:Nat) (c:G3),x.G3=(m:Int)∧s.Columns[m]? = some c∧0≤Jt s c∧(c.Deck=true ↔ Jt s c∈o)
def Rc5 (l:List G1) (x:Slot):Prop:=∃ y∈l,Hd8 x y.Slot
def Rc8 (s:Gh) (boxes:List Box) (q:List G1) (x:Slot):Prop:=∀ (m:Nat) (c:G3),x.G3=(m:Int)→s.Columns[m]? = some c→J10 boxes q m c
theorem Q27 {a b:Int} (h:H30 a b):H30 b a:=by
 unfold H30 at h ⊢
 omega
theorem Hce {a b:Slot} (h:Hd8 a b):Hd8 b a:=⟨h.1.symm,h.2.1.symm,Q27 h.2.2⟩
theorem over_self {a:Slot}:¬ H44 a a:=fun h=>by have:=h.2.1; omega
theorem G33 {l q:List G1} {x:G1} (h:J7f l x q):q.Perm (x::l):=by
 obtain⟨pre,post,rfl,rfl,_⟩:=h
 exact List.perm_middle
theorem H1e {l q:List G1} {x:G1} (h:J7f l x q) (hs:l.Pairwise (fun a b=>a.Box < b.Box)) (hx:x.Box ∉ l.map (·.Box)):q.Pairwise (fun a b=>a.Box < b.Box):=by
 obtain⟨pre,post,rfl,rfl,h1,h2⟩:=h
 obtain⟨s1,s2,s3⟩:=List.pairwise_append.1 hs
 refine List.pairwise_append.2 ⟨s1,List.pairwise_cons.2 ⟨fun y hy=>?_,s2⟩,fun a ha b hb=>?_⟩
 ·have h0:x.Box≠y.Box:=fun e=>hx (Mo.2 ⟨y,Mn.2 (.inr hy),e.symm⟩)
  cases post with
  | nil=>cases hy
  | cons z r=>
   have h3:=h2 z rfl
   rcases Mq.1 hy with rfl | hy
   ·omega
   ·have:=(List.pairwise_cons.1 s2).1 y hy
    omega
 ·rcases Mq.1 hb with rfl | hb
  ·exact h1 a ha
  ·exact s3 a ha b hb
theorem H41 {a b:List G1} (hp:a.Perm b) (ha:a.Pairwise (fun x y=>x.Box < y.Box)) (hb:b.Pairwise (fun x y=>x.Box < y.Box)):a=b:=
 List.Perm.eq_of_pairwise (le:=fun x y:G1=>x.Box < y.Box) (fun x y _ _ h1 h2=>by omega) ha hb hp
theorem Z72 {l q:List G1} {x:G1} {pre post:List G1} (h:J7f (pre++post) x q) (hs:(pre++x::post).Pairwise (fun a b=>a.Box < b.Box)):q=pre++x::post:=by
 have h0:(pre++post).Sublist (pre++x::post):=List.Sublist.append_left (List.sublist_cons_self ..) _
 obtain⟨s1,s2,s3⟩:=List.pairwise_append.1 hs
 refine H41 ((G33 h).trans List.perm_middle.symm) (H1e h (hs.sublist h0) (fun hm=>?_)) hs
 obtain⟨y,hy,e⟩:=Mo.1 hm
 rcases Mn.1 hy with hy | hy
 ·have:=s3 y hy x (List.mem_cons_self ..)
  omega
 ·have:=(List.pairwise_cons.1 s2).1 y hy
  omega
theorem R1e {l q:List Slot} {x:Slot} (h:H5a x l) (hs:∀ y∈l,y∈q):H5a x q:=by
 rcases h with h | h | ⟨h0,h1,h2⟩
 ·exact .inl h
 ·exact .inr (.inl (hs _ h))
 ·exact .inr (.inr ⟨h0,hs _ h1,hs _ h2⟩)
theorem Jeb {s:Gh} {boxes:List Box} {l q:List G1} {x:G1} {b:Box} (h:R5 s boxes l) (hb:Qf boxes x.Box=some b) (h6:G7b s x.Slot b.Size) (h4:¬ Rc5 l x.Slot) (h7:H5a x.Slot (l.map (·.Slot))) (h0:J7f l x q) (hx:x.Box ∉ l.map (·.Box)) (h9:Rc8 s boxes q x.Slot):R5 s boxes q:=by
 have hp:=G33 h0
 have h5:∀ y,y∈q ↔ y=x∨y∈l:=fun y=>by rw [hp.mem_iff,Mq]
 have h8:∀ y∈l.map (·.Slot),y∈q.map (·.Slot):=fun y hy=>by
  obtain⟨z,hz,e⟩:=Mo.1 hy
  exact Mo.2 ⟨z,(h5 z).2 (.inr hz),e⟩
 refine⟨fun y hy=>?_,H1e h0 h.sorted hx,?_,fun m c hc=>?_⟩
 ·rcases (h5 y).1 hy with rfl | hy
  ·exact⟨b,hb,h6,R1e h7 h8⟩
  ·obtain⟨b',h1,h2,h3⟩:=h.each y hy
   exact⟨b',h1,h2,R1e h3 h8⟩
 ·have ha:=h.apart
  obtain⟨pre,post,rfl,rfl,_⟩:=h0
  obtain⟨s1,s2,s3⟩:=List.pairwise_append.1 ha
  refine List.pairwise_append.2 ⟨s1,List.pairwise_cons.2 ⟨fun y hy hm=>h4 ⟨y,Mn.2 (.inr hy),Hce hm⟩,s2⟩,fun a ha b hb=>?_⟩
  rcases Mq.1 hb with rfl | hb
  ·exact fun hm=>h4 ⟨a,Mn.2 (.inl ha),hm⟩
  ·exact s3 a ha b hb
 ·by_cases he:x.Slot.G3=(m:Int)
  ·exact h9 m c he hc
  ·have:=h.fits m c hc
   obtain⟨pre,post,rfl,rfl,_⟩:=h0
   unfold J10 at this ⊢
   rw [Hf9,Hf9,Qcc he,Qcc he,Int.add_zero,Int.add_zero]
   exact this
theorem chain {s:Gh} {boxes:List Box} {l:List G1} (h:R5 s boxes l) {t:Int} (h0:0≤t):∀ (n:Nat) (z:G1),z∈l→z.Slot.Tier=t+(n:Int)+1 →
  (∃ w∈l,w.Slot=⟨z.Slot.G3,t,z.Slot.Half⟩)∨(z.Slot.Half=0∧(∃ w∈l,w.Slot=⟨z.Slot.G3,t,1⟩)∧∃ w∈l,w.Slot=⟨z.Slot.G3,t,2⟩):=by
 intro n
 induction n with
 | zero=>
  intro z hz ht
  obtain⟨_,_,_,hh⟩:=h.each z hz
  have e:z.Slot.Tier - 1=t:=by omega
  rcases hh with hh | hh | ⟨h3,h1,h2⟩
  ·omega
  ·obtain⟨w,hw,ew⟩:=G59 hh
   rw [e] at ew
   exact .inl ⟨w,hw,ew⟩
  ·obtain⟨w,hw,ew⟩:=G59 h1
   obtain⟨v,hv,ev⟩:=G59 h2
   rw [e] at ew ev
   exact .inr ⟨h3,⟨w,hw,ew⟩,⟨v,hv,ev⟩⟩
 | succ n ih=>
  intro z hz ht
  obtain⟨_,_,_,hh⟩:=h.each z hz
  have one:∀ w∈l,∀ half,w.Slot=⟨z.Slot.G3,z.Slot.Tier - 1,half⟩→half≠0→∃ v∈l,v.Slot=⟨z.Slot.G3,t,half⟩:=fun w hw half ew h4=>by
   have:=ih w hw (by rw [ew]; simp only; omega)
   rw [ew] at this
   rcases this with h | ⟨h,_⟩
   ·exact h
   ·exact(h4 h).elim
  rcases hh with hh | hh | ⟨h3,h1,h2⟩
  ·omega
  ·obtain⟨w,hw,ew⟩:=G59 hh
   have:=ih w hw (by rw [ew]; simp only; omega)
   rw [ew] at this
   exact this
  ·obtain⟨w,hw,ew⟩:=G59 h1
   obtain⟨v,hv,ev⟩:=G59 h2
   exact .inr ⟨h3,one w hw 1 ew (by decide),one v hv 2 ev (by decide)⟩
theorem Z25 {s:Gh} {boxes:List Box} {l q:List G1} {x:G1} {size:Int} (h:R5 s boxes l) (h0:G7b s x.Slot size) (h2:¬ Rc5 l x.Slot) (h3:J7f l x q):H3c q x.Slot=[]:=by
 refine List.eq_nil_iff_forall_not_mem.2 fun a ha=>?_
 obtain⟨z,hz,_,ho⟩:=Ge4.1 ha
 have h4:z∈l:=by
  rcases Mq.1 ((G33 h3).mem_iff.1 hz) with rfl | hz
  ·exact(over_self ho).elim
  ·exact hz
 obtain⟨o1,o2,o3⟩:=ho
 have ht:=h0.tier
 have h1:x.Slot.Half=0∨x.Slot.Half=1∨x.Slot.Half=2:=by
  have:=h0.half
  unfold Ha6 at this
  split at this
  ·have:x.Slot.Half=0:=by simpa using this
   exact .inl this
  ·split at this
   ·have:x.Slot.Half=1∨x.Slot.Half=2:=by simpa using this
    exact .inr this
   ·cases this
 have meet:∀ w∈l,∀ half,w.Slot=⟨z.Slot.G3,x.Slot.Tier,half⟩→H30 x.Slot.Half half→False:=fun w hw half ew h5=>h2 ⟨w,hw,by rw [ew]; exact⟨o1.symm,rfl,h5⟩⟩
 rcases chain h ht ((z.Slot.Tier - x.Slot.Tier - 1).toNat) z h4 (by omega) with ⟨w,hw,ew⟩ | ⟨_,⟨w,hw,ew⟩,⟨v,hv,ev⟩⟩
 ·exact meet w hw _ ew (Q27 o3)
 ·rcases h1 with e | e | e
  ·exact meet w hw _ ew (.inr (.inl e))
  ·exact meet w hw _ ew (.inl e)
  ·exact meet v hv _ ev (.inl e)
theorem Z1d {s:Gh} {o:List Int} {x:Slot} (h:J9b s o x):J0a s o x:=by
 obtain⟨m,c,h1,h2,h3,h4,h5⟩:=h
 exact⟨m,c,h1,h2,h4,⟨fun e=>absurd (h3.symm.trans e) Bool.false_ne_true,fun e=>(h5 e).elim⟩⟩
theorem Yd5 {s:Gh} {boxes:List Box} {l:List G1} {o:List Int} (hU:∀ k∈o,Q40 s l k) {x:G1} (hx:x∈l) (h:¬ J9b s o x.Slot):¬ J0a s o x.Slot:=by
 rintro⟨m,c,h1,h2,h3,h4⟩
 cases hd:c.Deck with
 | false=>exact h ⟨m,c,h1,h2,hd,h3,fun hm=>by have:=h4.2 hm; rw [hd] at this; cases this⟩
 | true=>exact hU _ (h4.1 hd) x hx m c h1 h2 hd rfl
theorem Y4f {s:Gh} {x:Slot} {size:Int} (h:G7b s x size):size=20∨size=40:=by
 have:=h.half
 unfold Ha6 at this
 split at this
 ·exact .inr (by assumption)
 ·split at this
  ·exact .inl (by assumption)
  ·cases this
section maps
variable {κ ν:Type} [DecidableEq κ]
theorem Qcb (a:κ) (z:ν):H8.get (H8.empty:H8 κ ν) a z=z:=rfl
theorem R55 (m:H8 κ ν) (a b:κ) (v z:ν):H8.get (H8.put m a v) b z=if a=b then v else H8.get m b z:=by
 unfold H8.get H8.put
 simp only [Hcb]
 split <;> rfl
end maps
def J78 (l:List G1) (x:G1):List G1:=l.filter (fun y=>decide (y.Box < x.Box))++[x]++l.filter (fun y=>decide (x.Box < y.Box))
theorem G57 {α:Type} (p:α→Bool) (l:List α) (x:α):(l++[x]).filter p=l.filter p++(if p x then [x] else []):=by
 rw [List.filter_append]
 by_cases h:p x <;> simp [h]
theorem Qb4 (l:List G1) (x:G1) (hl:l.length≤100000):Yd l x=some (J78 l x):=by
 refine G28 ?_
 unfold Yd J78
 refine Jg (fun pre s=>s=pre.filter (fun y=>decide (y.Box < x.Box))) rfl (fun pre y post s nx e hs h0=>?_) (fun s hs=>?_)
 ·subst hs
  have hp:pre.length+1≤l.length:=by rw [e]; simp
  have hf:=Ky (fun y:G1=>decide (y.Box < x.Box)) pre
  refine Zy (fun j=>j=(pre++[y]).filter (fun y=>decide (y.Box < x.Box))) (fun K hK=>Hs (fun h=>Rr (Zz (by rw [Mi]; omega) (by omega)) (hK _ ?_)) (fun h=>hK _ ?_)) (fun j hj=>h0 _ hj)
  ·rw [G57,h]; rfl
  ·rw [G57,h]; simp
 ·subst hs
  have hf:=Ky (fun y:G1=>decide (y.Box < x.Box)) l
  refine Rr (Zz (by rw [Mi]; omega) (by omega)) ?_
  refine Jg (fun pre s=>s=l.filter (fun y=>decide (y.Box < x.Box))++[x]++pre.filter (fun y=>decide (x.Box < y.Box))) (by simp) (fun pre y post s nx e hs h0=>?_) (fun s hs=>Gm hs)
  subst hs
  have hp:pre.length+1≤l.length:=by rw [e]; simp
  have hg:=Ky (fun y:G1=>decide (x.Box < y.Box)) pre
  refine Zy (fun j=>j=l.filter (fun y=>decide (y.Box < x.Box))++[x]++(pre++[y]).filter (fun y=>decide (x.Box < y.Box))) (fun K hK=>Hs (fun h=>Rr (Zz (by simp only [Mh,Mi]; omega) (by omega)) (hK _ ?_)) (fun h=>hK _ ?_)) (fun j hj=>h0 _ hj)
  ·rw [G57,h]; simp
  ·rw [G57,h]; simp
theorem J58 {l:List G1} {x y:G1}:y∈J78 l x ↔ y=x∨(y∈l∧y.Box≠x.Box):=by
 unfold J78
 simp only [Mn,Mr,Mp,Mk]
 constructor
 ·rintro((⟨h1,h2⟩ | h) | ⟨h1,h2⟩)
  ·exact .inr ⟨h1,by omega⟩
  ·exact .inl h
  ·exact .inr ⟨h1,by omega⟩
 ·rintro(h | ⟨h1,h2⟩)
  ·exact .inl (.inr h)
  ·rcases Int.lt_or_gt_of_ne h2 with h | h
   ·exact .inl (.inl ⟨h1,h⟩)
   ·exact .inr ⟨h1,h⟩
theorem R49 (l:List G1) (x:G1):(J78 l x).length≤2*l.length+1:=by
 unfold J78
 have h1:=Ky (fun y:G1=>decide (y.Box < x.Box)) l
 have h2:=Ky (fun y:G1=>decide (x.Box < y.Box)) l
 simp only [Mh,Mi]
 omega
def Y30 (l:List G1) (id:Int):Bool:=l.any (fun x=>decide (x.Box=id))
theorem Y2f {l:List G1} {id:Int}:Y30 l id=true ↔ id∈l.map (·.Box):=by
 unfold Y30
 rw [List.any_eq_true,Mo]
 constructor
 ·rintro⟨x,h1,h2⟩; exact⟨x,h1,M1 h2⟩
 ·rintro⟨x,h1,h2⟩; exact⟨x,h1,M3 h2⟩
theorem law23_holds (l : List G1) (id : Int) : M_twistlocklaw23_holds l id = some (Y30 l id) := by
 refine G28 ?_
 unfold M_twistlocklaw23_holds
 refine Jg (fun pre _=>∀ x∈pre,decide (x.Box=id)=false) (fun x hx=>(M9 hx).elim) (fun pre y post s nx e hI h0=>Hs (fun h=>Gm ?_) (fun h=>h0 _ (fun x hx=>?_))) (fun s hI=>Gm ?_)
 ·exact(List.any_eq_true.2 ⟨y,by rw [e]; simp,h⟩).symm
 ·rcases Mn.1 hx with hx | hx
  ·exact hI x hx
  ·rw [Mp] at hx; subst hx; exact h
 ·refine(List.any_eq_false.2 fun x hx=>?_).symm
  rw [hI x hx]; exact Bool.false_ne_true
def J62 (boxes:List Box) (k:Int):List Int:=(boxes.filter (abB k)).map (·.ID)
theorem Ge2 (l:List G1) (id:Int):G9e l id=some (Yr l id):=by
 unfold G9e
 have h:Qa l (fun z0=>Gc9 z0 id)=some (J36 (fun x:G1=>decide (x.Box=id)) l):=H82 (fun x _=>rfl)
 rw [h]
 simp only [H84]
 unfold Yr Qbe
 rcases H21 (fun x:G1=>decide (x.Box=id)) l with ⟨h1,_,h3⟩ | ⟨m,x,h1,h2,_,h4⟩
 ·rw [h1,h3]; rfl
 ·rw [h1,h4,M4 (by omega),cond_false]
  unfold Qy
  rw [M3 (by omega),cond_true,show (m:Int).toNat=m by omega,h2]
  rfl
theorem Qbf {l:List G1} {id:Int}:(Yr l id).2=true ↔ id∈l.map (·.Box):=by
 unfold Yr
 cases h:Qbe l id with
 | none=>
  refine⟨fun e=>(by cases e),fun e=>?_⟩
  obtain⟨x,hx,he⟩:=Mo.1 e
  have:=List.find?_eq_none.1 h x hx
  simp [he] at this
 | some x=>
  refine⟨fun _=>?_,fun _=>rfl⟩
  have h1:=List.mem_of_find?_eq_some h
  have h2:=M1 (List.find?_some (p:=fun x:G1=>decide (x.Box=id)) h)
  exact Mo.2 ⟨x,h1,h2⟩
theorem Hd2 {l:List G1} {id:Int} (h:(Yr l id).2=true):∃ x∈l,x.Box=id∧(Yr l id).1=x.Slot:=by
 unfold Yr at h ⊢
 cases hf:Qbe l id with
 | none=>rw [hf] at h; cases h
 | some x=>exact⟨x,List.mem_of_find?_eq_some hf,M1 (List.find?_some (p:=fun x:G1=>decide (x.Box=id)) hf),rfl⟩
theorem Jc0 {s:Gh} (h:Hb2 s):J7e s:=
 ⟨h.some,h.cols.len,fun c hc=>⟨c,0,h.cols.each c hc,.inl rfl,by rw [← (h.cols.each c hc).height]⟩,h.cols.nodup,h.covs⟩
theorem Q3e {s:Gh} (h:Hb2 s):Small s:=J56 (Jc0 h)
theorem Y50 (m:H8 Int Unit) (k:Int):G22 m k=some (if H8.has m k then (false,m) else (true,H8.put m k ())):=by
 unfold G22
 cases H8.has m k <;> rfl
structure J3f (s:Gh) (U:List Int) (states:List (List G1)):Prop where
 small:Small s
 each:∀ st∈states,∀ x∈st,x.Box∈U∧Hb1 s x.Slot
 len:U.length≤1000
structure Zc2 (calls:Int) (b:Box):Prop where
 id:5≤b.ID∧b.ID≤999999
 size:b.Size=40∨(b.Size=20∧b.High=false)
 load:0≤b.Load
 stay:b.Load < b.Discharge
 out:b.Discharge < calls
structure Gb1 (calls:Int) (boxes:List Box):Prop where
 num:1≤calls∧calls≤20
 len:boxes.length≤10
 each:∀ b∈boxes,Zc2 calls b
 sorted:boxes.Pairwise (fun a b=>a.ID < b.ID)
theorem Gb1.ids {calls:Int} {boxes:List Box} (h:Gb1 calls boxes):(boxes.map (·.ID)).Pairwise (· < ·):=List.pairwise_map.2 h.sorted
theorem Gb1.inj {calls:Int} {boxes:List Box} (h:Gb1 calls boxes) {a b:Box} (ha:a∈boxes) (hb:b∈boxes) (e:a.ID=b.ID):a=b:=by
 obtain⟨i,hi⟩:=List.mem_iff_getElem?.1 ha
 obtain⟨j,hj⟩:=List.mem_iff_getElem?.1 hb
 obtain⟨h2,h0⟩:=M5 hi
 obtain⟨h3,h1⟩:=M5 hj
 have hp:=List.pairwise_iff_getElem.1 h.sorted
 rcases Nat.lt_trichotomy i j with hl | hl | hl
 ·have:=hp i j h2 h3 hl
  rw [h0,h1] at this; omega
 ·subst hl; rw [← h0,← h1]
 ·have:=hp j i h3 h2 hl
  rw [h0,h1] at this; omega
structure Ha9 (s:Gh) (boxes:List Box) (k:Int) (l:List G1):Prop where
 right:R5 s boxes l
 ids:l.map (·.Box)=J62 boxes k
structure Jfc (s:Gh) (boxes:List Box) (calls:Int) (p:Hfe):Prop where
 len:(p.States.length:Int)=calls
 each:∀ (k:Nat) l,p.States[k]? = some l→Ha9 s boxes k l
theorem Y3c (boxes:List Box) (k:Int):(J62 boxes k).length≤boxes.length:=by
 unfold J62
 rw [Mm]
 exact Ky _ _
theorem Ha9.len {s:Gh} {boxes:List Box} {k:Int} {l:List G1} (h:Ha9 s boxes k l):l.length≤boxes.length:=by
 have:=congrArg List.length h.ids
 rw [Mm] at this
 rw [this]
 exact Y3c boxes k
theorem Y86 {s:Gh} {boxes:List Box} {bf af:List G1} (hs:Small s) (h1:R5 s boxes bf) (h2:R5 s boxes af) (l1:bf.length≤100) (l2:af.length≤100) :
  J3f s (bf.map (·.Box)++af.map (·.Box)) [bf,af]:=by
 refine⟨hs,fun st h0 x hx=>?_,by simp only [Mh,Mm]; omega⟩
 simp only [Mq,M9,or_false] at h0
 rcases h0 with rfl | rfl
 ·obtain⟨b,_,hb,_⟩:=h1.each x hx
  exact⟨Mn.2 (.inl (Mo.2 ⟨x,hx,rfl⟩)),Gd6 hb⟩
 ·obtain⟨b,_,hb,_⟩:=h2.each x hx
  exact⟨Mn.2 (.inr (Mo.2 ⟨x,hx,rfl⟩)),Gd6 hb⟩
theorem J3e.len {s:Gh} {boxes:List Box} {k:Int} {l:List G1} (h:J3e s boxes k l):l.length≤boxes.length:=by
 have h1:(l.map (·.Box)).Pairwise (· < ·):=List.pairwise_map.2 h.right.sorted
 have:=(Y5 h1).length_le_of_subset (l₂:=boxes.map (·.ID)) (fun a ha=>by
  obtain⟨x,hx,rfl⟩:=Mo.1 ha
  obtain⟨b,hb,e,_⟩:=h.mem x hx
  exact Mo.2 ⟨b,hb,e⟩)
 rw [Mm,Mm] at this
 exact this
theorem R69 {s:Gh} {boxes:List Box} {calls k:Int} {l:List G1} {b:Box} (x:Slot) (hs:Small s) (hb:Gb1 calls boxes) (h:J3e s boxes k l) (h1:b∈boxes) (h2:abB k b=true) :
  Wp (Yn s boxes (J78 l ⟨b.ID,x⟩)) (fun v=>v=true→J3e s boxes k (J78 l ⟨b.ID,x⟩)∧b.ID∈(J78 l ⟨b.ID,x⟩).map (·.Box)∧∀ a∈l.map (·.Box),a∈(J78 l ⟨b.ID,x⟩).map (·.Box)):=by
 have hl:=h.len
 have h3:=hb.len
 have h4:=R49 l ⟨b.ID,x⟩
 refine wp_mono (Gd5 hs.right hs.tier (by omega)) (fun v hv e=>⟨⟨hv.1 e,fun y hy=>?_⟩,Mo.2 ⟨_,J58.2 (.inl rfl),rfl⟩,fun a ha=>?_⟩)
 ·rcases J58.1 hy with rfl | ⟨hy,_⟩
  ·exact⟨b,h1,rfl,h2⟩
  ·exact h.mem y hy
 ·obtain⟨y,hy,rfl⟩:=Mo.1 ha
  by_cases h0:y.Box=b.ID
  ·exact Mo.2 ⟨_,J58.2 (.inl rfl),h0.symm⟩
  ·exact Mo.2 ⟨y,J58.2 (.inr ⟨hy,h0⟩),rfl⟩
theorem J3e.done {s:Gh} {boxes:List Box} {calls k:Int} {l:List G1} (hb:Gb1 calls boxes) (h:J3e s boxes k l) (h2:∀ b∈boxes,abB k b=true→b.ID∈l.map (·.Box)):Ha9 s boxes k l:=by
 refine⟨h.right,Gfc (List.pairwise_map.2 h.right.sorted) (List.pairwise_map.2 (hb.sorted.filter _)) (fun a=>?_)⟩
 unfold J62
 constructor
 ·intro ha
  obtain⟨x,hx,rfl⟩:=Mo.1 ha
  obtain⟨b,h0,e,h1⟩:=h.mem x hx
  exact Mo.2 ⟨b,Mr.2 ⟨h0,h1⟩,e⟩
 ·intro ha
  obtain⟨b,h0,rfl⟩:=Mo.1 ha
  obtain⟨h3,h1⟩:=Mr.1 h0
  exact h2 b h3 h1
theorem R68 {s:Gh} {boxes:List Box} {home:H8 Int Int} {calls:Int} {F:Nat} (hs:Small s) (hb:Gb1 calls boxes) (hh:∀ a,0≤H8.get home a 0∧H8.get home a 0≤1000) (hF:60≤F) :
  Wp (Yu F s boxes home calls) (fun r=>r.2.2=home∧(r.2.1=0→Jfc s boxes calls r.1)):=by
 unfold Yu
 have b4:=hb.num
 have b5:=hb.len
 have b3:=hs.cols
 refine Rr (M3 (by omega)) ?_
 refine He2 (fun i s6=>s6.1.length=i∧∀ (k:Nat) l,s6.1[k]? = some l→Ha9 s boxes k l) ⟨rfl,fun k l h=>by simp at h⟩ (fun i s6 nx hi hI a7=>?_) (fun s6 hI=>Gm ⟨rfl,fun _=>⟨by show (s6.1.length:Int)=calls; have:=hI.1; omega,hI.2⟩⟩)
 refine Rr (by decide) ?_
 refine He2 (fun _ l=>J3e s boxes i l) J3e.nil (fun t l nx2 ht hl a4=>?_) (fun l hl=>?_)
 ·refine Jg (fun _ l=>J3e s boxes i l) hl (fun pre y post l nx3 e hl h4=>?_) (fun l hl=>a4 _ hl)
  have hy:y∈boxes:=by rw [e]; simp
  refine Zy (fun j=>J3e s boxes i j) (fun K hK=>?_) (fun j hj=>h4 _ hj)
  refine Gt rfl (Hs (fun hc=>?_) (fun _=>hK _ hl))
  have h2:abB i y=true:=by
   simp only [Mj,Mk] at hc
   unfold abB
   rw [M3 (by omega),M3 hc.2]; rfl
  have a8:=hl.len
  exact Gt (Qb4 l _ (by omega)) (H6 (wp_mono (R69 _ hs hb hl hy h2) (fun r53 a9=>Hs (fun h=>hK _ (a9 h).1) (fun _=>hK _ hl))))
 ·refine Jg (fun pre l=>J3e s boxes i l∧∀ b∈pre,abB i b=true→b.ID∈l.map (·.Box)) ⟨hl,fun b hb=>(M9 hb).elim⟩ (fun pre y post l nx3 e h7 h4=>?_) (fun l h7=>?_)
  ·obtain⟨hl,h5⟩:=h7
   have hy:y∈boxes:=by rw [e]; simp
   have a8:=hl.len
   refine Zy (fun j=>J3e s boxes i j∧∀ b∈pre++[y],abB i b=true→b.ID∈j.map (·.Box)) (fun K hK=>?_) (fun j hj=>h4 _ hj)
   by_cases h2:abB i y=true
   ·have h8:=h2
    unfold abB at h8
    simp only [Mj,Mk] at h8
    rw [M4 (show ¬ (i:Int) < y.Load by omega),M4 (show ¬ y.Discharge≤(i:Int) by omega)]
    simp only [Bool.or_self,Bool.not_false,cond_true,Bool.false_or]
    refine Gt (law23_holds l y.ID) (Hs (fun h => hK _ ⟨hl, fun b h1 h3 => ?_⟩) (fun h => ?_))
    ·rcases Mn.1 h1 with h1 | h1
     ·exact h5 b h1 h3
     ·rw [Mp] at h1; subst h1
      exact Y2f.1 h
    ·refine wp_loop (fun st:List G1×Bool×Int=>J3e s boxes i st.1∧(∀ a∈l.map (·.Box),a∈st.1.map (·.Box))∧(st.2.1=true→y.ID∈st.1.map (·.Box))∧0≤st.2.2∧st.2.2≤(s.Columns.length:Int)) (fun st=>s.Columns.length+1 - st.2.2.toNat)
      ⟨hl,fun a ha=>ha,fun h=>(by cases h),Int.le_refl _,by simp⟩ (by show s.Columns.length+1 - 0 < F; omega) (fun st nx4 h9 h6=>?_)
     obtain⟨l1,done,turn⟩:=st
     obtain⟨i1,i2,i3,i4,i5⟩:=h9
     simp only at i1 i2 i3 i4 i5 ⊢
     refine Hs (fun hc=>?_) (fun hc=>?_)
     ·simp only [Mj,Mk,Bool.not_eq_true'] at hc
      obtain⟨c1,rfl⟩:=hc
      refine Zy (fun j=>J3e s boxes i j.1∧(∀ a∈l.map (·.Box),a∈j.1.map (·.Box))∧(j.2=true→y.ID∈j.1.map (·.Box))) (fun K' a3=>?_) (fun j hj=>?_)
      ·refine H6 (wp_mono (Yc6 hs y.Size) (fun r72 _=>?_))
       refine Jg (fun _ s99=>s99=(l1,false)) rfl (fun pre2 x post2 s99 nx5 e2 a0 a1=>?_) (fun s99 a0=>by subst a0; exact a3 _ ⟨i1,i2,fun h=>by cases h⟩)
       subst a0
       have b6:=i1.len
       refine Gt (Qb4 l1 _ (by omega)) (Gt rfl ?_)
       have hg:=hh y.ID
       refine R2 ⟨by omega,by omega⟩ (H6 (J83 (by omega) ?_))
       by_cases a2:x.G3=(H8.get home y.ID 0+turn).tmod (s.Columns.length:Int)
       ·rw [M3 a2]
        simp only [cond_true,Bool.true_and]
        refine H6 (wp_mono (R69 x hs hb i1 hy h2) (fun r110 a5=>Hs (fun h=>?_) (fun _=>a1 _ rfl)))
        obtain⟨g1,g2,g3⟩:=a5 h
        exact a3 _ ⟨g1,fun a ha=>g3 a (i2 a ha),fun _=>g2⟩
       ·rw [M4 a2]
        simp only [cond_false,Bool.false_and]
        exact H6 (Gm (a1 _ rfl))
      ·obtain⟨j1,j2,j3⟩:=hj
       refine R2 ⟨by omega,by omega⟩ (h6 _ ⟨j1,j2,j3,by show 0≤turn+1; omega,by show turn+1≤s.Columns.length; omega⟩ ?_)
       show s.Columns.length+1 - (turn+1).toNat < s.Columns.length+1 - turn.toNat
       omega
     ·refine Hs (fun hd=>Gm ⟨rfl,fun h0=>?_⟩) (fun hd=>hK _ ⟨i1,fun b h1 h3=>?_⟩)
      ·have:=(hb.each y hy).id
       have b7:y.ID=0:=h0
       omega
      ·rcases Mn.1 h1 with h1 | h1
       ·exact i2 _ (h5 b h1 h3)
       ·rw [Mp] at h1; subst h1
        exact i3 (by simpa using hd)
   ·have b0:J3e s boxes i l∧∀ b∈pre++[y],abB i b=true→b.ID∈l.map (·.Box):=⟨hl,fun b h1 h3=>by
     rcases Mn.1 h1 with h1 | h1
     ·exact h5 b h1 h3
     ·rw [Mp] at h1; subst h1; exact(h2 h3).elim⟩
    have b1:((decide ((i:Int) < y.Load))||(decide (y.Discharge≤(i:Int))))=true:=by
     unfold abB at h2
     simp only [Mj,Mk] at h2
     simp only [Ms,Mk]
     omega
    rw [b1]
    simp only [Bool.not_true,cond_false,Bool.true_or,cond_true]
    exact H6 (Gm (hK _ b0))
  ·obtain⟨hl,a6⟩:=h7
   have h9:=hl.done hb a6
   refine Jg (fun _ _=>True) trivial (fun pre y post m nx4 e _ h6=>h6 _ trivial) (fun m _=>?_)
   have b8:i < 20:=by omega
   refine Rr (Zz (by rw [Mi]; have:=hI.1; omega) (by omega)) (a7 _ ⟨by simp [hI.1],fun k l' hk=>?_⟩)
   rw [List.getElem?_append] at hk
   split at hk
   ·exact hI.2 k l' hk
   ·rename_i b9
    have b2:k - s6.1.length=0:=by
     have:=(M5 hk).1
     simp only [Mi] at this; omega
    rw [b2] at hk
    simp only [List.getElem?_cons_zero,Option.some.injEq] at hk
    subst hk
    have:k=i:=by have:=hI.1; omega
    subst this
    exact h9
structure R61 (x:Hc):Prop where
 column:Byte x.G3
 kilos:Byte x.Kilos
 load:Byte x.Load
 stay:Byte x.Stay
theorem Rc3 {s:Gh} {items:List Hc} {calls:Int} {F:Nat} (hs:Small s) (hi:∀ x∈items,R61 x) (hc:2≤calls∧calls≤6) (hF:60≤F) :
  Wp (Yv F s items calls 10) (fun r=>Gb1 calls r.1∧Jfc s r.1 calls r.2):=by
 unfold Yv
 have h9:=hs.cols
 refine H6 (J18 (m:=min items.length 10) (by omega) (by omega) ?_)
 have h4:(items.take (min items.length 10)).length≤10:=by rw [List.length_take]; omega
 refine Jg (fun pre st=>Gb1 calls st.1∧st.1.length=pre.length∧(∀ b∈st.1,b.ID≤5*(pre.length:Int))∧∀ a,0≤H8.get st.2 a 0∧H8.get st.2 a 0≤1000)
  ⟨⟨by omega,by simp,fun b hb=>(M9 hb).elim,List.Pairwise.nil⟩,rfl,fun b hb=>(M9 hb).elim,fun a=>by rw [Qcb]; omega⟩ (fun pre y post st nx e hI h2=>?_) (fun st hI=>?_)
 ·obtain⟨hb,h3,hid,h1⟩:=hI
  have hy:R61 y:=hi y (List.mem_of_mem_take (by rw [e]; simp:y∈items.take (min items.length 10)))
  obtain⟨⟨c1,c2⟩,⟨k1,k2⟩,⟨l1,l2⟩,⟨t1,t2⟩⟩:=hy
  have hp:pre.length < 10:=by rw [e] at h4; simp only [Mh,Md] at h4; omega
  refine R2 ⟨by omega,by omega⟩ (R2 ⟨by omega,by omega⟩ (R2 ⟨by omega,by omega⟩ (R2 ⟨by omega,by omega⟩ (R2 ⟨by omega,by omega⟩ (R2 ⟨by omega,by omega⟩ ?_)))))
  refine H6 (J83 (by omega) ?_)
  have eL:y.Load.tmod (calls - 1)=y.Load % (calls - 1):=Int.tmod_eq_emod_of_nonneg l1
  rw [eL]
  have rL:0≤y.Load % (calls - 1)∧y.Load % (calls - 1) < calls - 1:=⟨Int.emod_nonneg _ (by omega),Int.emod_lt_of_pos _ (by omega)⟩
  generalize y.Load % (calls - 1)=L at rL
  refine R2 ⟨by omega,by omega⟩ (R2 ⟨by omega,by omega⟩ (R2 ⟨by omega,by omega⟩ (R2 ⟨by omega,by omega⟩ ?_)))
  refine H6 (J83 (by omega) ?_)
  have eS:y.Stay.tmod (calls - 1 - L)=y.Stay % (calls - 1 - L):=Int.tmod_eq_emod_of_nonneg t1
  rw [eS]
  have rS:0≤y.Stay % (calls - 1 - L)∧y.Stay % (calls - 1 - L) < calls - 1 - L:=⟨Int.emod_nonneg _ (by omega),Int.emod_lt_of_pos _ (by omega)⟩
  generalize y.Stay % (calls - 1 - L)=T at rS
  refine R2 ⟨by omega,by omega⟩ ?_
  refine Zy (fun j:Int×Bool=>j.1=40∨(j.1=20∧j.2=false)) (fun K hK=>Hs (fun _=>hK _ (.inr ⟨rfl,rfl⟩)) (fun _=>hK _ (.inl rfl))) (fun j hj=>?_)
  refine R2 ⟨by omega,by omega⟩ (H6 (J83 (by omega) ?_))
  have eC:y.G3.tmod (s.Columns.length:Int)=y.G3 % (s.Columns.length:Int):=Int.tmod_eq_emod_of_nonneg c1
  rw [eC]
  have rC:0≤y.G3 % (s.Columns.length:Int)∧y.G3 % (s.Columns.length:Int) < s.Columns.length:=⟨Int.emod_nonneg _ (by omega),Int.emod_lt_of_pos _ (by omega)⟩
  generalize y.G3 % (s.Columns.length:Int)=C at rC
  refine Rr (Zz (by rw [Mi]; omega) (by omega)) (h2 _ ⟨⟨by omega,by simp only [Mh,Mi]; omega,fun b h0=>?_,?_⟩,by simp [h3],fun b h0=>?_,fun a=>?_⟩)
  ·rcases Mn.1 h0 with h0 | h0
   ·exact hb.each b h0
   ·rw [Mp] at h0; subst h0
    exact⟨⟨by simp only; omega,by simp only; omega⟩,hj,by simp only; omega,by simp only; omega,by simp only; omega⟩
  ·refine Hb9 hb.sorted (fun a ha=>?_)
   have:=hid a ha
   simp only
   omega
  ·rw [Mh,Mi]
   rcases Mn.1 h0 with h0 | h0
   ·have:=hid b h0; omega
   ·rw [Mp] at h0; subst h0
    simp only; omega
  ·rw [R55]
   split
   ·omega
   ·exact h1 a
 ·obtain⟨hb,h3,_,h1⟩:=hI
  have h7:=hb.len
  refine R2 ⟨by omega,by omega⟩ (Rr (M3 (by omega)) ?_)
  refine He2 (fun _ st=>Gb1 calls st.1∧∀ a,0≤H8.get st.2 a 0∧H8.get st.2 a 0≤1000) ⟨hb,h1⟩ (fun i st nx hi hI h2=>?_) (fun st _=>?_)
  ·obtain⟨hb,h1⟩:=hI
   refine H6 (wp_mono (R68 hs hb h1 hF) (fun r153 h5=>?_))
   obtain⟨g1,g2⟩:=h5
   refine Hs (fun h=>Gm ⟨hb,g2 (M1 h)⟩) (fun _=>?_)
   have h7:=hb.len
   refine Jg (fun pre l=>l=pre.filter (fun b=>decide (b.ID≠r153.2.1))) rfl (fun pre y post l nx2 e hl h6=>?_) (fun l hl=>?_)
   ·subst hl
    have hf:=Ky (fun b:Box=>decide (b.ID≠r153.2.1)) pre
    have hp:pre.length+1≤st.1.length:=by rw [e]; simp
    refine Zy (fun j=>j=(pre++[y]).filter (fun b=>decide (b.ID≠r153.2.1))) (fun K hK=>Hs (fun h=>Rr (Zz (by rw [Mi]; omega) (by omega)) (hK _ ?_)) (fun h=>hK _ ?_)) (fun j hj=>h6 _ hj)
    ·rw [G57,h]; rfl
    ·rw [G57,h]; simp
   ·subst hl
    refine h2 _ ⟨⟨hb.num,?_,fun b h0=>hb.each b (Mr.1 h0).1,hb.sorted.filter _⟩,by rw [g1]; exact h1⟩
    have:=Ky (fun b:Box=>decide (b.ID≠r153.2.1)) st.1
    show (st.1.filter (fun b=>decide (b.ID≠r153.2.1))).length≤10
    omega
  ·obtain⟨m,hm⟩:∃ m:Nat,calls=(m:Int):=⟨calls.toNat,by omega⟩
   have h8:Ra6 calls=some m:=by
    unfold Ra6
    rw [M3 (by omega),hm]
    rfl
   refine Gt h8 (Rr (M3 ⟨by omega,Nat.le_trans (show m≤6 by omega) (by decide),by omega⟩) (Gm ⟨⟨by omega,by simp,fun b hb=>(M9 hb).elim,List.Pairwise.nil⟩,by simp [hm],fun k l hk=>?_⟩))
   have:l=[]:=by
    have:=M8 hk
    exact List.eq_of_mem_replicate this
   subst this
   exact⟨J92,rfl⟩
section
variable {s:Gh} {U:List Int} {states:List (List G1)} {l l' l2:List Int} {id y:Int} {m m2:H8 Int Unit}
end
theorem Hcd {α:Type} {P:α→Prop} {l:List α} {x:α} (h1:∀ y∈l,P y) (h2:P x):∀ y∈l++[x],P y:=fun y hy=>by
 rcases Mn.1 hy with hy | hy
 ·exact h1 y hy
 ·exact Mp.1 hy ▸ h2
theorem Yf4 {s:Gh} {U:List Int} {states:List (List G1)} (hs:J3f s U states):∀ (F:Nat) (id:Int) (m:H8 Int Unit) (l:List Int),Gcc U m l→id∈U→U.length+1≤F+l.length →
  Wp (Y1 F id m l states s) (fun r=>Grown s U states l id r.1 r.2):=by
 intro F
 induction F with
 | zero=>intro id m l hi _ hF; have:=hi.le; omega
 | succ F ih=>
  intro id m l hi hid hF
  show Wp (G0a (Y1 F) F id m l states s) _
  unfold G0a
  refine Gt (Y50 m id) ?_
  rw [hi.has]
  by_cases h7:id∈l
  ·rw [if_pos (M3 h7)]
   exact Hs (fun _=>Gm ⟨hi,fun a ha=>ha,h7,fun a ha hn=>(hn ha).elim,fun C _ hl _ a ha=>hl a ha⟩) (fun h=>by cases h)
  rw [if_neg (by rw [M4 h7]; exact Bool.false_ne_true)]
  refine Hs (fun h=>by cases h) (fun _=>?_)
  have b3:=hi.le
  have b1:=hs.len
  have h1:=hi.snoc h7 hid
  have b2:=h1.le
  have b4:(l++[id]).length=l.length+1:=by simp
  refine Rr (Zz (by rw [Mi]; omega) (by omega)) ?_
  have again:∀ (y:G1) (st:List G1) (m':H8 Int Unit) (l':List Int),st∈states→y∈st→Rch s U states l id m' l'→Gc3 s states id y.Box →
    Wp (Y1 F y.Box m' l' states s) (fun r=>Rch s U states l id r.1 r.2∧(∀ a∈l',a∈r.2)∧y.Box∈r.2):=
   fun y st m' l' h2 h3 h4 h5=>wp_mono (ih y.Box m' l' h4.inv (hs.each st h2 y h3).1 (by
    have:=h1.nodup.length_le_of_subset (fun a ha=>h4.sub a ha)
    omega)) (fun r hr=>h4.step h5 hr)
  have a5:∀ {k:Nat} {c:G3},s.Columns[k]? = some c→R8 s (k:Int)=some (Jt s c):=fun hc=>Gf6 hc (fun x hx=>by have:=hs.small.rows x hx; omega) (by have:=hs.small.covs; omega)
  refine Jg (fun pre s7=>Rch s U states l id s7.1 s7.2∧∀ st∈pre,∀ b,R5b s states st id b→b∈s7.2) ⟨.start h1,fun st h=>(M9 h).elim⟩ (fun pre st post s7 nx e hI h8=>?_) (fun s7 hI=>Gm ?_)
  ·have h6:st∈states:=by rw [e]; simp
   obtain⟨hR,hD⟩:=hI
   refine Zy (fun j=>Rch s U states l id j.1 j.2∧(∀ a∈s7.2,a∈j.2)∧∀ b,R5b s states st id b→b∈j.2) (fun K hK=>?_) (fun j hj=>h8 _ ⟨hj.1,Hcd (fun st' h' b hb=>hj.2.1 _ (hD st' h' b hb)) hj.2.2⟩)
   refine Gt (Ge2 st id) (Hs (fun hf=>hK _ ⟨hR,fun a ha=>ha,fun b hb=>?_⟩) (fun hf=>?_))
   ·rw [hb.1] at hf; cases hf
   have a6:(Yr st id).2=true:=by simpa using hf
   obtain⟨x,hx,_,h9⟩:=Hd2 a6
   obtain⟨m0,c0,a7,a1⟩:=(hs.each st h6 x hx).2
   rw [h9]
   refine Zy (fun j17=>j17=if c0.Deck=true then -1 else Jt s c0) (fun K' h0=>Zb a7 a1 (Hs (fun hd=>?_) (fun hd=>h0 _ (by
    rw [if_pos (by simpa using hd)])))) (fun j17 a2=>?_)
   ·rw [a7]
    exact Gt (a5 a1) (h0 _ (by rw [if_neg (by simpa using hd)]))
   refine Jg (fun pre s56=>Rch s U states l id s56.1 s56.2∧(∀ a∈s7.2,a∈s56.2)∧∀ y∈pre,H44 y.Slot x.Slot→y.Box∈s56.2) ⟨hR,fun a ha=>ha,fun y h=>(M9 h).elim⟩ (fun pre y post s56 nx e hI h8=>?_) (fun s56 hI=>?_)
   ·have hy:y∈st:=by rw [e]; simp
    obtain⟨i1,i2,i3⟩:=hI
    refine Zy (fun j=>Rch s U states l id j.1 j.2∧(∀ a∈s56.2,a∈j.2)∧(H44 y.Slot x.Slot→y.Box∈j.2)) (fun K' h0=>?_) (fun j hj=>h8 _ ⟨hj.1,fun a ha=>hj.2.1 a (i2 a ha),Hcd (fun y' h' ho=>hj.2.1 _ (i3 y' h' ho)) hj.2.2⟩)
    refine H6 (wp_mono (Je7 y.Slot x.Slot) (fun r62 a9=>Hs (fun hr=>?_) (fun hr=>h0 _ ⟨i1,fun a ha=>ha,fun ho=>?_⟩)))
    ·exact H6 (wp_mono (again y st _ _ h6 hy i1 ⟨st,h6,a6,.inl ⟨y,hy,rfl,by rw [h9]; exact a9.1 hr⟩⟩) (fun r hr=>h0 _ ⟨hr.1,hr.2.1,fun _=>hr.2.2⟩))
    ·rw [a9.2 ho] at hr; cases hr
   ·obtain⟨i1,i2,i3⟩:=hI
    refine Jg (fun pre s65=>Rch s U states l id s65.1 s65.2∧(∀ a∈s56.2,a∈s65.2)∧∀ st2∈pre,∀ y∈st2,upon s x.Slot y.Slot→y.Box∈s65.2) ⟨i1,fun a ha=>ha,fun st2 h=>(M9 h).elim⟩ (fun pre st2 post s65 nx e hI h8=>?_) (fun s65 hI=>hK _ ⟨hI.1,fun a ha=>hI.2.1 a (i2 a ha),fun b hb=>?_⟩)
    ·obtain⟨j1,j2,j3⟩:=hI
     have a0:st2∈states:=by rw [e]; simp
     refine Jg (fun pre s107=>Rch s U states l id s107.1 s107.2∧(∀ a∈s65.2,a∈s107.2)∧∀ y∈pre,upon s x.Slot y.Slot→y.Box∈s107.2) ⟨j1,fun a ha=>ha,fun y h=>(M9 h).elim⟩ (fun pre y post s107 nx2 e hI b0=>?_) (fun s107 hI=>h8 _ ⟨hI.1,fun a ha=>hI.2.1 a (j2 a ha),Hcd (fun st' h' y hy hu=>hI.2.1 _ (j3 st' h' y hy hu)) hI.2.2⟩)
     obtain⟨k1,k2,k3⟩:=hI
     have hy:y∈st2:=by rw [e]; simp
     obtain⟨m1,c1,a8,a3⟩:=(hs.each st2 a0 y hy).2
     have a4:upon s x.Slot y.Slot ↔ (0≤j17∧c1.Deck=true∧Jt s c1=j17):=by
      constructor
      ·rintro⟨n0,d0,n1,d1,e1,e2,e3,e4,q1,q2,q3,q4⟩
       have e5:n0=m0:=by omega
       have e6:n1=m1:=by omega
       subst e5 e6
       rw [a1] at e2; cases e2
       rw [a3] at e4; cases e4
       rw [if_neg (by rw [q1]; exact Bool.false_ne_true)] at a2
       rw [a2]
       exact⟨q3,q2,q4⟩
      ·rintro⟨q1,q2,q3⟩
       by_cases hd:c0.Deck=true
       ·rw [if_pos hd] at a2; omega
       ·rw [if_neg hd] at a2
        exact⟨m0,c0,m1,c1,a7,a1,a8,a3,by simpa using hd,q2,by omega,by omega⟩
     refine Zy (fun j=>Rch s U states l id j.1 j.2∧(∀ a∈s107.2,a∈j.2)∧(upon s x.Slot y.Slot→y.Box∈j.2)) (fun K' h0=>?_) (fun j hj=>b0 _ ⟨hj.1,fun a ha=>hj.2.1 a (k2 a ha),Hcd (fun y' h' ho=>hj.2.1 _ (k3 y' h' ho)) hj.2.2⟩)
     by_cases hj:0≤j17
     ·rw [M3 hj]
      simp only [cond_true,Bool.true_and]
      refine H6 (Zb a8 a3 (Gm ?_))
      cases hd:c1.Deck with
      | true=>
       simp only [cond_true,Bool.true_and]
       rw [a8]
       refine Gt (a5 a3) (Hs (fun hc=>?_) (fun hc=>h0 _ ⟨k1,fun a ha=>ha,fun hu=>?_⟩))
       ·exact H6 (wp_mono (again y st2 _ _ a0 hy k1 ⟨st,h6,a6,.inr ⟨st2,a0,y,hy,rfl,by rw [h9]; exact a4.2 ⟨hj,hd,M1 hc⟩⟩⟩) (fun r hr=>h0 _ ⟨hr.1,hr.2.1,fun _=>hr.2.2⟩))
       ·exact(M2 hc (a4.1 hu).2.2).elim
      | false=>
       simp only [cond_false,Bool.false_and]
       exact H6 (Gm (h0 _ ⟨k1,fun a ha=>ha,fun hu=>by have:=(a4.1 hu).2.1; rw [hd] at this; cases this⟩))
     ·rw [M4 hj]
      simp only [cond_false,Bool.false_and]
      exact H6 (Gm (H6 (Gm (h0 _ ⟨k1,fun a ha=>ha,fun hu=>(hj (a4.1 hu).1).elim⟩))))
    ·rcases hb.2 with ⟨y,hy,rfl,ho⟩ | ⟨st2,h2,y,hy,rfl,hu⟩
     ·exact hI.2.1 _ (i3 y hy (by rw [← h9]; exact ho))
     ·exact hI.2.2 st2 h2 y hy (by rw [← h9]; exact hu)
  ·obtain⟨hR,hD⟩:=hI
   refine⟨hR.inv,fun a ha=>hR.sub a (Mn.2 (.inl ha)),hR.sub id (by simp),fun a ha hn b hb=>?_,hR.least⟩
   by_cases e:a=id
   ·subst e
    obtain⟨st,h6,hp⟩:=hb
    exact hD st h6 b hp
   ·exact hR.closed a ha hn e b hb
theorem J47.perm {s:Gh} {bf af:List G1} {l l':List Int} (h:J47 s bf af l) (hp:∀ a,a∈l' ↔ a∈l):J47 s bf af l':=
 ⟨fun st h0 y hy h1=>(hp _).2 (h.seeds st h0 y hy h1),fun a ha b hb=>(hp b).2 (h.closed a ((hp a).1 ha) b hb),fun C hc hl a ha=>h.least C hc hl a ((hp a).1 ha)⟩
theorem differ {p q:Slot×Bool}:((!(p.2==q.2))||(!decide (p.1=q.1)))=true ↔ p≠q:=by
 obtain⟨p1,p2⟩:=p
 obtain⟨q1,q2⟩:=q
 simp only [Ms,Bool.not_eq_true',beq_eq_false_iff_ne,decide_eq_false_iff_not,ne_eq,Prod.mk.injEq,not_and]
 constructor
 ·rintro(h | h) h1 h2
  ·exact h h2
  ·exact h h1
 ·intro h
  by_cases e:p1=q1
  ·exact .inl (h e)
  ·exact .inr e
theorem Rac {s:Gh} {U:List Int} {bf af:List G1} (hs:J3f s U [bf,af]) {F:Nat} (hF:U.length+1≤F) :
  Wp (Zp F s bf af) (fun r=>r.Pairwise (· < ·)∧(∀ a∈r,a∈U)∧J47 s bf af r):=by
 unfold Zp
 have go:∀ {m:H8 Int Unit} {l:List Int} {y:G1} {st:List G1} {m2:H8 Int Unit} {l2:List Int},st∈[bf,af]→y∈st→Yr bf y.Box≠Yr af y.Box →
   (Gcc U m l∧(∀ a∈l,∀ b,Gc3 s [bf,af] a b→b∈l)∧∀ C:Int→Prop,(∀ a b,C a→Gc3 s [bf,af] a b→C b)→(∀ st∈[bf,af],∀ y∈st,Yr bf y.Box≠Yr af y.Box→C y.Box)→∀ a∈l,C a) →
   Grown s U [bf,af] l y.Box m2 l2 →
   (Gcc U m2 l2∧(∀ a∈l2,∀ b,Gc3 s [bf,af] a b→b∈l2)∧∀ C:Int→Prop,(∀ a b,C a→Gc3 s [bf,af] a b→C b)→(∀ st∈[bf,af],∀ y∈st,Yr bf y.Box≠Yr af y.Box→C y.Box)→∀ a∈l2,C a):=
  fun {m l y st m2 l2} h3 hy h0 hI g=>⟨g.inv,fun a ha b hb=>by
   by_cases h4:a∈l
   ·exact g.sub b (hI.2.1 a h4 b hb)
   ·exact g.closed a ha h4 b hb,fun C hc hl=>g.least C hc (hI.2.2 C hc hl) (hl st h3 y hy h0)⟩
 refine Jg (fun pre s9=>(Gcc U s9.1 s9.2∧(∀ a∈s9.2,∀ b,Gc3 s [bf,af] a b→b∈s9.2)∧∀ C:Int→Prop,(∀ a b,C a→Gc3 s [bf,af] a b→C b)→(∀ st∈[bf,af],∀ y∈st,Yr bf y.Box≠Yr af y.Box→C y.Box)→∀ a∈s9.2,C a) ∧
   ∀ st∈pre,∀ y∈st,Yr bf y.Box≠Yr af y.Box→y.Box∈s9.2)
  ⟨⟨.start,fun a h=>(M9 h).elim,fun C _ _ a h=>(M9 h).elim⟩,fun st h=>(M9 h).elim⟩ (fun pre st post s9 nx e hI h6=>?_) (fun s9 hI=>?_)
 ·have h3:st∈[bf,af]:=by rw [e]; simp
  obtain⟨hA,hB⟩:=hI
  refine Jg (fun pre s59=>(Gcc U s59.1 s59.2∧(∀ a∈s59.2,∀ b,Gc3 s [bf,af] a b→b∈s59.2)∧∀ C:Int→Prop,(∀ a b,C a→Gc3 s [bf,af] a b→C b)→(∀ st∈[bf,af],∀ y∈st,Yr bf y.Box≠Yr af y.Box→C y.Box)→∀ a∈s59.2,C a) ∧
    (∀ a∈s9.2,a∈s59.2)∧∀ y∈pre,Yr bf y.Box≠Yr af y.Box→y.Box∈s59.2)
   ⟨hA,fun a ha=>ha,fun y h=>(M9 h).elim⟩ (fun pre y post s59 nx2 e hI h5=>?_) (fun s59 hI=>h6 _ ⟨hI.1,Hcd (fun st' h' y hy h0=>hI.2.1 _ (hB st' h' y hy h0)) hI.2.2⟩)
  have hy:y∈st:=by rw [e]; simp
  obtain⟨j1,j2,j3⟩:=hI
  refine Zy (fun j=>(Gcc U j.1 j.2∧(∀ a∈j.2,∀ b,Gc3 s [bf,af] a b→b∈j.2)∧∀ C:Int→Prop,(∀ a b,C a→Gc3 s [bf,af] a b→C b)→(∀ st∈[bf,af],∀ y∈st,Yr bf y.Box≠Yr af y.Box→C y.Box)→∀ a∈j.2,C a) ∧
    (∀ a∈s59.2,a∈j.2)∧(Yr bf y.Box≠Yr af y.Box→y.Box∈j.2)) (fun K hK=>?_) (fun j hj=>h5 _ ⟨hj.1,fun a ha=>hj.2.1 a (j2 a ha),Hcd (fun y' h' ho=>hj.2.1 _ (j3 y' h' ho)) hj.2.2⟩)
  refine Gt (Ge2 bf y.Box) (Gt (Ge2 af y.Box) (Hs (fun hd=>?_) (fun hd=>hK _ ⟨j1,fun a ha=>ha,fun h0=>?_⟩)))
  ·have h0:=differ.1 hd
   exact H6 (wp_mono (Yf4 hs F y.Box _ _ j1.1 (hs.each st h3 y hy).1 (by omega)) (fun r hr=>hK _ ⟨go h3 hy h0 j1 hr,hr.sub,fun _=>hr.has⟩))
  ·rw [differ.2 h0] at hd; cases hd
 ·obtain⟨⟨hA,hB,hC⟩,hD⟩:=hI
  have h1:=hA.le
  have h2:=hs.len
  have h7:G8a s9.2=some (Gbe s9.2):=by
   unfold G8a
   rw [M3 (show s9.2.length < 4611686018427387904 by omega)]
   rfl
  have hp:=G89 s9.2
  refine Gt h7 (Gm ⟨?_,fun a ha=>hA.sub a (hp.mem_iff.1 ha),J47.perm ⟨hD,hB,hC⟩ (fun a=>hp.mem_iff)⟩)
  have hn:(Gbe s9.2).Nodup:=hp.nodup_iff.2 hA.nodup
  exact(List.pairwise_and_iff.2 ⟨Ga6 s9.2,hn⟩).imp (fun {a b} h=>by have h1:=h.1; have h2:=h.2; omega)
section
variable {s:Gh} {boxes:List Box} {bf af:List G1} {r:List Int}
end
theorem Y2a {s:Gh} {boxes:List Box} {bf af:List G1} {F:Nat} (hs:Small s) (h1:R5 s boxes bf) (h2:R5 s boxes af) (l1:bf.length≤10) (l2:af.length≤10) (hF:60≤F) :
  Wp (Z3 F s boxes bf af) (fun r=>r.2=0∧r.1.Pairwise (· < ·)∧(∀ a∈r.1,a∈bf.map (·.Box)++af.map (·.Box))∧J47 s bf af r.1):=by
 unfold Z3
 refine H6 (wp_mono (Gd5 hs.right hs.tier (by omega)) (fun r4 h4=>?_))
 rw [h4.2 h1]
 simp only [Bool.not_true,Bool.not_false,cond_true,Bool.false_or]
 refine H6 (wp_mono (Gd5 hs.right hs.tier (by omega)) (fun r5 h5=>?_))
 rw [h5.2 h2]
 simp only [Bool.not_true,cond_false]
 exact H6 (wp_mono (Rac (Y86 hs h1 h2 (by omega) (by omega)) (by simp only [Mh,Mm]; omega)) (fun r hr=>Gm ⟨rfl,hr⟩))
end Go.Proofs.YtgcpimpnpcdmmaaGreat
