/-
 The ships that twistlocklaw07.Built makes: What is reached for,of the states that the chapter's stateme What can be put,taken,opened and closed. What Free,Take,Open,Close and Put return,of states that are What Put returns,and that states stay right. States with a box more or less are right.
-/
import Derived.Test.YtgcpimpnpcdmmaaGreatMoreA
set_option maxRecDepth 100000
set_option linter.unusedVariables false
namespace Go.Proofs.YtgcpimpnpcdmmaaGreat
open Go.RowKit
def Byte (z:Int):Prop:=0≤z∧z≤255
structure Q7a (p:Hd):Prop where
 bay:Byte p.Bay
 row:Byte p.Row
 tiers:Byte p.Tiers
structure Y98 (c:G3):Prop where
 bay:0≤c.Bay∧c.Bay≤4
 row:0≤c.Row∧c.Row≤4
 tiers:2≤c.Tiers∧c.Tiers≤5
 height:c.Height=0
 k20:c.Kilos20=500000000
 k40:c.Kilos40=500000000
 lash:c.Lash=0
 plugs:c.Plugs=[]
 x : -26000≤c.X∧c.X≤26000
 y : -5000≤c.Y∧c.Y≤5000
 z:0≤c.Z∧c.Z≤20000
def Y5c (c:G3):Int×Int×Bool:=(c.Bay,c.Row,c.Deck)
def H44 (bay row:Int) (deck:Bool) (c:G3):Bool:=((decide (c.Bay=bay))&&(decide (c.Row=row)))&&(c.Deck==deck)
theorem Re0 {bay row:Int} {deck:Bool} {c:G3}:H44 bay row deck c=true ↔ Y5c c=(bay,row,deck):=by
 simp [H44,Y5c,and_assoc]
structure R50 (x:G9):Prop where
 bay:0≤x.Bay∧x.Bay≤4
 rows:x.Rows=[0,1]∨x.Rows=[2,3,4]
def R89 (x:G9):Int×Bool:=(x.Bay,decide (x.Rows=[0,1]))
structure Z25 (l:List G3):Prop where
 len:l.length≤12
 each:∀ c∈l,Y98 c
 nodup:(l.map Y5c).Nodup
structure Z24 (l:List G9):Prop where
 len:l.length≤10
 each:∀ x∈l,R50 x
 nodup:(l.map R89).Nodup
structure G76 (s:Gi):Prop where
 some:1≤s.Columns.length
 cols:Z25 s.Columns
 covs:Z24 s.Covers
theorem Qdf {l:List G3} {wanted:G3→Option Bool} {p:G3→Bool} (hw:∀ x∈l,wanted x=some (p x)) (hl:l.length≤1000000):Z6 l wanted=some (H0e p l):=by
 refine G34 ?_
 unfold Z6
 refine Jj (fun pre s=>s=H0e p pre) rfl (fun pre x post s nx e hs h0=>?_) (fun s hs=>Gp hs)
 subst hs
 have h1:pre.length+1≤l.length:=by rw [e]; simp
 refine Zr (fun j=>j=H0e p (pre++[x])) (fun K hK=>?_) (fun j hj=>h0 _ hj)
 refine Gt (hw x (by rw [e]; simp)) (Hv (fun h=>Rx ?_ (hK _ ?_)) (fun h=>hK _ ?_))
 ·have:=Q59 p pre
  exact G08 (by rw [Mi]; omega) (by omega)
 ·rw [J6d,h]; rfl
 ·rw [J6d,h]; simp
theorem Ybf {s:Gi} {bay row:Int} {deck:Bool} (hl:s.Columns.length≤1000000):Wp (H5c s bay row deck) (fun r=>r.2=s.Columns.any (H44 bay row deck)):=by
 unfold H5c
 refine Gt (Qdf (p:=H44 bay row deck) (fun x _=>rfl) hl) (Hv (fun h=>Gp ?_) (fun h=>?_))
 ·have h0:H0e (H44 bay row deck) s.Columns=[]:=by
   have:=M1 h
   exact List.length_eq_zero_iff.1 (by omega)
  refine Eq.symm (List.any_eq_false.2 (fun x hx=>?_))
  rw [Jdf.1 h0 x hx]; exact Bool.false_ne_true
 ·have h0:H0e (H44 bay row deck) s.Columns≠[]:=by
   have:=M2 h
   intro e; rw [e] at this; exact this rfl
  have h1:∃ z,(H0e (H44 bay row deck) s.Columns)[0]? = some z:=by
   cases hh:H0e (H44 bay row deck) s.Columns with
   | nil=>exact(h0 hh).elim
   | cons z r=>exact⟨z,rfl⟩
  obtain⟨z,hz⟩:=h1
  refine Yq (m:=0) rfl hz (Gp ?_)
  refine Eq.symm ?_
  have:¬ ∀ x∈s.Columns,H44 bay row deck x=false:=fun h=>h0 (Jdf.2 h)
  rw [List.any_eq_true]
  refine Classical.byContradiction fun hn=>this fun x hx=>?_
  cases hc:H44 bay row deck x with
  | false=>rfl
  | true=>exact(hn ⟨x,hx,hc⟩).elim
theorem Y5d (l:List Hd) (covers:Int) (hp:∀ p∈l,Q7a p):Wp (Zh l covers) G76:=by
 unfold Zh
 refine H6 (J32 (m:=min l.length 12) (by omega) (by omega) ?_)
 have h4:(l.take (min l.length 12)).length≤12:=by rw [List.length_take]; omega
 refine Jj (fun pre s=>∃ cols,s=(cols,[],0,0,0,0,[],[],[],0,0,0,0)∧cols.length≤pre.length∧(∀ c∈cols,Y98 c)∧(cols.map Y5c).Nodup)
  ⟨[],rfl,Ma,fun c hc=>(M9 hc).elim,List.nodup_nil⟩ (fun pre y post s nx e hs h5=>?_) (fun s hs=>?_)
 ·obtain⟨cols,rfl,h1,h2,h3⟩:=hs
  have h6:pre.length+1≤12:=by rw [e] at h4; simp at h4; omega
  have hy:Q7a y:=hp y (List.mem_of_mem_take (by rw [e]; simp:y∈l.take (min l.length 12)))
  obtain⟨⟨b1,b2⟩,⟨r1,r2⟩,⟨t1,t2⟩⟩:=hy
  refine Zr (fun j=>j.length≤(pre++[y]).length∧(∀ c∈j,Y98 c)∧(j.map Y5c).Nodup) (fun K hK=>?_) (fun j hj=>h5 _ ⟨j,rfl,hj⟩)
  refine Qo ⟨by omega,by omega⟩ (H6 (J31 (by omega) ?_))
  refine Qo ⟨by omega,by omega⟩ (H6 (J31 (by omega) ?_))
  refine Qo ⟨by omega,by omega⟩ (H6 (J31 (by omega) ?_))
  have e1:y.Bay.tmod 5=y.Bay % 5:=Int.tmod_eq_emod_of_nonneg b1
  have e2:y.Row.tmod 5=y.Row % 5:=Int.tmod_eq_emod_of_nonneg r1
  have e3:y.Tiers.tmod 4=y.Tiers % 4:=Int.tmod_eq_emod_of_nonneg t1
  rw [e1,e2,e3]
  refine Qo ⟨by omega,by omega⟩ (Qo ⟨by omega,by omega⟩ (Qo ⟨by omega,by omega⟩ (Qo ⟨by omega,by omega⟩ (Qo ⟨by omega,by omega⟩ ?_))))
  refine Zr (fun z:Int=>0≤z∧z≤20000) (fun K' h0=>Hv (fun _=>h0 _ ⟨by omega,by omega⟩) (fun _=>h0 _ ⟨by omega,by omega⟩)) (fun z hz=>?_)
  have hl:cols.length≤1000000:=by omega
  refine H6 (wp_mono (Ybf hl) (fun r hr=>?_))
  refine Hv (fun h=>Rx ?_ (hK _ ⟨?_,?_,?_⟩)) (fun h=>hK _ ⟨?_,h2,h3⟩)
  ·exact G08 (by rw [Mi]; show cols.length+1≤_; omega) (by omega)
  ·simp only [Mh,Mi]; omega
  ·intro c hc
   rcases Mn.1 hc with hc | hc
   ·exact h2 c hc
   ·rw [Mp] at hc; subst hc
    exact⟨⟨by simp only; omega,by simp only; omega⟩,⟨by simp only; omega,by simp only; omega⟩,⟨by simp only; omega,by simp only; omega⟩,rfl,rfl,rfl,rfl,rfl,⟨by simp only; omega,by simp only; omega⟩,⟨by simp only; omega,by simp only; omega⟩,hz⟩
  ·rw [List.map_append,List.nodup_append]
   refine⟨h3,by simp,fun a ha b hb=>?_⟩
   simp only [List.map_cons,List.map_nil,Mp] at hb
   subst hb
   obtain⟨c,hc,rfl⟩:=Mo.1 ha
   intro he
   have hf:r.2=false:=by simpa using h
   rw [hf] at hr
   have:=List.any_eq_false.1 hr.symm c hc
   exact this (Re0.2 he)
  ·simp only [Mh,Mi]; omega
 ·obtain⟨cols,rfl,h1,h2,h3⟩:=hs
  have h1:cols.length≤12:=Nat.le_trans h1 h4
  refine Zr (fun j=>1≤j.length∧Z25 j) (fun K hK=>Hv (fun h=>hK _ ⟨Ma,?_⟩) (fun h=>hK _ ⟨?_,⟨h1,h2,h3⟩⟩)) (fun cols' hc=>?_)
  ·refine⟨by simp,fun c hc=>?_,by simp⟩
   rw [Mp] at hc; subst hc
   exact⟨by simp,by simp,by simp,rfl,rfl,rfl,rfl,rfl,by simp,by simp,by simp⟩
  ·have:¬ ((cols.length:Int)=0):=M2 h
   show 1≤cols.length
   omega
  refine Rx (by decide) ?_
  have e5:(5:Int).toNat=5:=rfl
  rw [e5]
  refine Hf3 (fun i s=>∃ covs,s=(cols',covs,0,0,0,0,[],[],[],0,0,0,0)∧covs.length≤2*i∧(∀ x∈covs,R50 x∧x.Bay < i)∧(covs.map R89).Nodup)
   ⟨[],rfl,Nat.zero_le _,fun c hc=>(M9 hc).elim,List.nodup_nil⟩ (fun i s nx hi hs h5=>?_) (fun s hs=>?_)
  ·obtain⟨covs,rfl,g1,g2,g3⟩:=hs
   refine Zr (fun j:List G9=>j.length≤2*(i+1)∧(∀ x∈j,R50 x∧x.Bay < (i+1:Nat))∧(j.map R89).Nodup) (fun K hK=>?_) (fun j hj=>h5 _ ⟨j,rfl,hj⟩)
   refine Zr (fun j:List G9=>j.length≤2*i+1∧(∀ x∈j,R50 x∧(x.Bay < i∨x=⟨i,[0,1]⟩))∧(j.map R89).Nodup) (fun K' h0=>?_) (fun j hj=>?_)
   ·refine Qo ⟨by omega,by omega⟩ (H6 (J32 (m:=2*i) (by omega) (by omega) ?_))
    refine Hv (fun h=>Rx ?_ (h0 _ ⟨?_,?_,?_⟩)) (fun h=>h0 _ ⟨(by show covs.length≤_; omega),fun x hx=>⟨(g2 x hx).1,.inl (g2 x hx).2⟩,g3⟩)
    ·exact G08 (by rw [Mi]; show covs.length+1≤_; omega) (by omega)
    ·simp only [Mh,Mi]; omega
    ·intro x hx
     rcases Mn.1 hx with hx | hx
     ·exact⟨(g2 x hx).1,.inl (g2 x hx).2⟩
     ·rw [Mp] at hx; subst hx
      exact⟨⟨⟨by simp only; omega,by simp only; omega⟩,.inl rfl⟩,.inr rfl⟩
    ·rw [List.map_append,List.nodup_append]
     refine⟨g3,by simp,fun a ha b hb=>?_⟩
     simp only [List.map_cons,List.map_nil,Mp] at hb
     subst hb
     obtain⟨c,hc,rfl⟩:=Mo.1 ha
     intro he
     have:=(g2 c hc).2
     have e2:c.Bay=i:=congrArg Prod.fst he
     omega
   ·obtain⟨q1,q2,q3⟩:=hj
    refine Qo ⟨by omega,by omega⟩ (Qo ⟨by omega,by omega⟩ (H6 (J32 (m:=2*i+1) (by omega) (by omega) ?_)))
    refine Hv (fun h=>Rx ?_ (hK _ ⟨?_,?_,?_⟩)) (fun h=>hK _ ⟨by omega,fun x hx=>⟨(q2 x hx).1,?_⟩,q3⟩)
    ·exact G08 (by rw [Mi]; omega) (by omega)
    ·simp only [Mh,Mi]; omega
    ·intro x hx
     rcases Mn.1 hx with hx | hx
     ·refine⟨(q2 x hx).1,?_⟩
      rcases (q2 x hx).2 with h | h
      ·omega
      ·rw [h]; simp only; omega
     ·rw [Mp] at hx; subst hx
      exact⟨⟨⟨by simp only; omega,by simp only; omega⟩,.inr rfl⟩,by simp only; omega⟩
    ·rw [List.map_append,List.nodup_append]
     refine⟨q3,by simp,fun a ha b hb=>?_⟩
     simp only [List.map_cons,List.map_nil,Mp] at hb
     subst hb
     obtain⟨c,hc,rfl⟩:=Mo.1 ha
     intro he
     rcases (q2 c hc).2 with h | h
     ·have e2:c.Bay=i:=congrArg Prod.fst he
      omega
     ·rw [h] at he
      have e2:=congrArg Prod.snd he
      simp [R89] at e2
    ·rcases (q2 x hx).2 with h | h
     ·omega
     ·rw [h]; simp only; omega
  ·obtain⟨covs,rfl,g1,g2,g3⟩:=hs
   exact Gp ⟨hc.1,hc.2,⟨g1,fun x hx=>(g2 x hx).1,g3⟩⟩
/-! ### Ships whose columns are limited in height now and then -/
def ColL (c:G3):Prop:=∃ (c0:G3) (h:Int),Y98 c0∧(h=0∨h=8000)∧c={ c0 with Height:=h }
structure J93 (s:Gi):Prop where
 some:1≤s.Columns.length
 len:s.Columns.length≤12
 each:∀ c∈s.Columns,ColL c
 nodup:(s.Columns.map Y5c).Nodup
 covs:Z24 s.Covers
theorem Z50 {c:G3} (h:ColL c):Z69 c:=by
 obtain⟨c0,z,⟨h1,h2,h3,_,h5,h6,h7,h8,h9,h0,h4⟩,g1,rfl⟩:=h
 refine⟨fun p hp=>?_,?_,⟨by show (0:Int)≤c0.Bay; omega,by show c0.Bay≤39; omega,by show (0:Int)≤c0.Row; omega,by show c0.Row≤30; omega,by show 1≤c0.Tiers; omega,by show c0.Tiers≤10; omega,by show (0:Int)≤z; omega,by show z≤40000; omega⟩,⟨by show (0:Int)≤c0.Kilos20; omega,by show c0.Kilos20≤500000000; omega,by show (0:Int)≤c0.Kilos40; omega,by show c0.Kilos40≤500000000; omega,by show (0:Int)≤c0.Lash; omega,by show c0.Lash≤1000000000000; omega⟩,⟨by show -500000≤c0.X; omega,by show c0.X≤500000; omega,by show -500000≤c0.Y; omega,by show c0.Y≤500000; omega,by show -500000≤c0.Z; omega,by show c0.Z≤500000; omega⟩⟩
 ·have hp:p∈c0.Plugs:=hp
  rw [h8] at hp; cases hp
 ·show c0.Plugs.Pairwise _
  rw [h8]; exact List.Pairwise.nil
theorem Z02 {s:Gi} (h:J93 s):Je9 s:=by
 obtain⟨h1,h2,h3,h4,⟨h5,h6,h7⟩⟩:=h
 refine⟨⟨h1,by omega,by omega⟩,fun c hc=>Z50 (h3 c hc),fun x hx=>?_,?_⟩
 ·obtain⟨⟨b1,b2⟩,hr⟩:=h6 x hx
  rcases hr with h | h <;> refine⟨⟨b1,by omega⟩,by rw [h]; simp,by rw [h]; simp,by rw [h]; simp⟩
 ·refine List.nodup_append.2 ⟨?_,?_,?_⟩
  ·have a0:=List.pairwise_map.1 h4
   refine List.pairwise_map.2 (a0.imp (fun {a b} h0 e=>h0 ?_))
   simp only [k3,Hf.mk.injEq] at e
   obtain⟨e1,e2,e3⟩:=e
   have e4:a.Deck=b.Deck:=by
    revert e3
    cases a.Deck <;> cases b.Deck <;> simp [dk]
   simp only [Y5c,e1,e2,e4]
  ·refine List.pairwise_flatMap.2 ⟨fun x hx=>?_,?_⟩
   ·refine List.pairwise_map.2 ?_
    rcases (h6 x hx).rows with h | h <;> rw [h] <;> simp
   ·have a1:=List.pairwise_map.1 h7
    have h9:s.Covers.Pairwise (fun a b=>R89 a≠R89 b∧R50 a∧R50 b):=
     List.pairwise_iff_getElem.2 (fun i j hi hj a2=>⟨List.pairwise_iff_getElem.1 a1 i j hi hj a2,h6 _ (List.getElem_mem hi),h6 _ (List.getElem_mem hj)⟩)
    refine h9.imp (fun {a b} h0 p hp q hq e=>?_)
    obtain⟨a3,ha,hb⟩:=h0
    obtain⟨r,hr,rfl⟩:=Mo.1 hp
    obtain⟨r',h8,rfl⟩:=Mo.1 hq
    simp only [Hf.mk.injEq] at e
    obtain⟨e1,e2,_⟩:=e
    subst e2
    apply a3
    rcases ha.rows with h | h <;> rcases hb.rows with h' | h' <;> rw [h] at hr <;> rw [h'] at h8 <;> simp [R89,e1,h,h'] at hr h8 ⊢ <;> omega
  ·intro a ha b hb e
   obtain⟨c,_,rfl⟩:=Mo.1 ha
   obtain⟨x,_,hx⟩:=List.mem_flatMap.1 hb
   obtain⟨r,_,rfl⟩:=Mo.1 hx
   simp only [k3,Hf.mk.injEq] at e
   have:=e.2.2
   revert this
   cases c.Deck <;> simp [dk]
theorem J6a {s:Gi} (h:J93 s):Small s:=by
 have h0:∀ c∈s.Columns,c.Plugs.length=0∧c.Tiers≤100:=fun c hc=>by
  obtain⟨c0,z,h2,_,rfl⟩:=h.each c hc
  have:=h2.tiers
  exact⟨by show c0.Plugs.length=0; rw [h2.plugs]; rfl,by show c0.Tiers≤100; omega⟩
 have h1:∀ x∈s.Covers,x.Rows.length≤1000:=fun x hx=>by
  rcases (h.covs.each x hx).rows with e | e <;> rw [e] <;> simp
 refine⟨G34 (wp_mono (Qb9 s (fun c hc=>by have:=(h0 c hc).1; omega) (fun x hx=>by have:=h1 x hx; omega)) (fun r hr=>hr.2 (Z02 h))),⟨h.some,by have:=h.len; omega⟩,fun c hc=>(h0 c hc).2,by have:=h.covs.len; omega,h1⟩
theorem Y3d {s:Gi} (hs:Small s) (size:Int):Wp (H12 s size) (fun r=>r.length≤200*s.Columns.length∧∀ x∈r,G91 s x size):=by
 unfold H12
 have h6:(Hba size).length≤2:=by
  unfold Hba
  split
  ·simp
  ·split <;> simp
 refine Jj (fun pre r=>r.length≤200*pre.length∧∀ x∈r,G91 s x size) ⟨by simp,fun x hx=>(M9 hx).elim⟩ (fun pre c post r nx e hI h5=>?_) (fun r hI=>Gp hI)
 obtain⟨h1,h2⟩:=hI
 have hc:s.Columns[pre.length]? = some c:=by rw [e]; simp
 have ht:=hs.tiers c (M8 hc)
 refine Rx (M3 (by omega)) ?_
 have h7:(max c.Tiers 0).toNat≤100:=by omega
 refine Hf3 (fun i r'=>r'.length≤r.length+2*i∧∀ x∈r',G91 s x size) ⟨by simp,h2⟩ (fun i r' nx2 hi hI h3=>?_) (fun r' hI=>h5 _ ⟨?_,hI.2⟩)
 ·refine Gt (Q46 size) ?_
  refine Jj (fun pr r2=>r2.length=r'.length+pr.length∧∀ x∈r2,G91 s x size) ⟨by simp,hI.2⟩ (fun pr h post2 r2 nx3 e2 h0 h4=>h4 _ ⟨?_,fun x hx=>?_⟩) (fun r2 h0=>h3 _ ⟨by have:=hI.1; have:=h0.1; omega,h0.2⟩)
  ·simp only [Mh,Mi]; have:=h0.1; omega
  ·rcases Mn.1 hx with hx | hx
   ·exact h0.2 x hx
   ·rw [Mp] at hx; subst hx
    exact⟨⟨pre.length,c,rfl,hc,by show (i:Int) < c.Tiers; omega⟩,by show (0:Int)≤i; omega,by show h∈Hba size; rw [e2]; simp⟩
 ·have:=hI.1
  simp only [Mh,Mi]; omega
theorem Yeb {s:Gi} (hs:Small s) (size:Int):Wp (H99 s size) (fun r=>r.length≤200*s.Columns.length∧∀ x∈r,G91 s x size):=by
 unfold H99
 refine Gt (show H76 s size=some () from rfl) ?_
 refine H6 (wp_mono (Y3d hs size) (fun ys h0=>?_))
 have hc:=hs.cols
 refine Jj (fun pre r=>r=pre) rfl (fun pre y post r nx e hI h1=>?_) (fun r hI=>by subst hI; exact Gp h0)
 subst hI
 have hl:r.length < ys.length:=by rw [e]; simp
 exact Rx (G08 (by rw [Mi]; have:=h0.1; omega) (by omega)) (h1 _ rfl)
theorem Gcc.mem {s:Gi} {l:List G1} {ids r:List Int} (h:Gcc s l ids r) (hi:∀ a∈ids,a∈l.map (·.Box)):∀ a∈r,a∈l.map (·.Box):=
 h.least (·∈l.map (·.Box)) (fun a b _ hp=>by
  obtain⟨x,_,_,y,hy,e,_⟩:=hp
  exact Mo.2 ⟨y,hy,e⟩) hi
theorem Gcc.mono {s:Gi} {l:List G1} {ids ids' r r':List Int} (h:Gcc s l ids r) (h':Gcc s l ids' r') (hi:∀ a∈ids,a∈ids'):∀ a∈r,a∈r':=
 h.least (·∈r') (fun a b ha hp=>h'.closed a ha b hp) (fun a ha=>h'.seeds a (hi a ha))
theorem Gcc.len {s:Gi} {l:List G1} {ids r:List Int} (h:Gcc s l ids r) (hi:∀ a∈ids,a∈l.map (·.Box)):r.length≤l.length:=by
 have:=(Ro h.sorted).length_le_of_subset (fun a ha=>h.mem hi a ha)
 simpa using this
structure Sta (s:Gi) (boxes:List Box) (l:List G1):Prop where
 ship:J93 s
 right:R6 s boxes l
 len:l.length≤10
theorem Sta.colIn {s:Gi} {boxes:List Box} {l:List G1} (h:Sta s boxes l) {x:G1} (hx:x∈l):G2e s x.Slot:=by
 obtain⟨b,_,h1,_⟩:=h.right.each x hx
 exact Ge8 h1
theorem wp_loop {β σ:Type} {Q:β→Prop} (I:σ→Prop) (μ:σ→Nat) {b:(σ→Option β)→σ→Option β} {F:Nat} {s:σ} (h0:I s) (hF:μ s < F)
    (hb:∀ s nx,I s→(∀ s',I s'→μ s' < μ s→Wp (nx s') Q)→Wp (b nx s) Q):Wp (loop b F s) Q:=by
  induction F generalizing s with
  | zero=>omega
  | succ F ih=>
    rw [loop]
    exact hb s _ h0 (fun s' h1 h2=>ih h1 (by omega))
structure G96 (s:Gi) (o:List Int):Prop where
  mem:∀ y∈o,0≤y∧y < (s.Covers.length:Int)
  sorted:o.Pairwise (· < ·)
theorem R2f {s:Gi}:G96 s []:=⟨fun y hy=>(M9 hy).elim,List.Pairwise.nil⟩
theorem G96.len {s:Gi} {o:List Int} (h:G96 s o):o.length≤s.Covers.length:=by
  have hn:o.Nodup:=Ro h.sorted
  have:=hn.length_le_of_subset (l₂:=(List.range s.Covers.length).map (fun n:Nat=>(n:Int))) (fun a ha=>by
    obtain⟨h1,h2⟩:=h.mem a ha
    exact Mo.2 ⟨a.toNat,List.mem_range.2 (by omega),by omega⟩)
  simpa using this
theorem Z90 {m:Option Bool} {p:Prop} [Decidable p] (h:Wp m (fun r=>r=true ↔ p)):m=some (decide p):=by
  obtain⟨r,hr,h⟩:=h
  rw [hr]
  congr 1
  cases r with
  | false=>exact(M4 (fun hp=>by have:=h.2 hp; cases this)).symm
  | true=>exact(M3 (h.1 rfl)).symm
instance (a b:Slot):Decidable (He9 a b):=by unfold He9 H40; infer_instance
def Jb5 (s:Gi) (o:List Int) (x:Slot):Prop:=∃ (m:Nat) (c:G3),x.G3=(m:Int)∧s.Columns[m]? = some c∧c.Deck=false∧0≤Jv s c∧Jv s c ∉ o
def Q61 (s:Gi) (l:List G1) (k:Int):Prop:=∀ y∈l,∀ (m:Nat) (c:G3),y.Slot.G3=(m:Int)→s.Columns[m]? = some c→c.Deck=true→Jv s c≠k
theorem Re8 {boxes:List Box} {m half n:Int} {x:G1}:Gec boxes m half n x=n+Gec boxes m half 0 x:=by
  unfold Gec
  split
  · cases Qf boxes x.Box with
    | some b=>simp only; omega
    | none=>simp
  · simp
theorem H90 {boxes:List Box} {m half:Int}:∀ (l:List G1) (n:Int),l.foldl (Gec boxes m half) n=n+l.foldl (Gec boxes m half) 0:=by
  intro l
  induction l with
  | nil=>intro n; simp
  | cons x r ih=>
    intro n
    rw [List.foldl_cons,List.foldl_cons,ih (Gec boxes m half n x),ih (Gec boxes m half 0 x),Re8 (n:=n)]
    omega
theorem J0d {boxes:List Box} {m half:Int} (pre post:List G1) (x:G1):Ry boxes (pre++x::post) m half=Ry boxes (pre++post) m half+Gec boxes m half 0 x:=by
  unfold Ry
  rw [List.foldl_append,List.foldl_cons,List.foldl_append,H90 post (Gec boxes m half _ x),H90 post (List.foldl _ 0 pre),Re8]
  omega
theorem Qe6 {boxes:List Box} {m half n:Int} {x:G1} (h:x.Slot.G3≠m):Gec boxes m half n x=n:=by
  unfold Gec
  rw [if_neg (fun hh=>h hh.1)]
theorem G68 {l:List G1} {y:Slot} {half:Int} (h:below (l.map (·.Slot)) y half):∃ z∈l,z.Slot=⟨y.G3,y.Tier - 1,half⟩:=by
  obtain⟨z,hz,e⟩:=Mo.1 h
  exact⟨z,hz,e⟩
theorem R3d {pre post:List G1} {x:G1} {y:Slot} (hn:¬ H58 y x.Slot) (h:H6e y ((pre++x::post).map (·.Slot))):H6e y ((pre++post).map (·.Slot)):=by
  have key:∀ half,(half=y.Half∨y.Half=0)→below ((pre++x::post).map (·.Slot)) y half→below ((pre++post).map (·.Slot)) y half:=fun half hh hb=>by
    obtain⟨z,hz,e⟩:=G68 hb
    refine Mo.2 ⟨z,?_,e⟩
    have h3:z≠x:=fun e2=>hn (by
      subst e2
      rw [e]
      refine⟨rfl,by simp only; omega,?_⟩
      rcases hh with hh | hh
      · exact .inl hh.symm
      · exact .inr (.inl hh))
    simp only [Mn,Mq] at hz ⊢
    rcases hz with hz | hz | hz
    · exact .inl hz
    · exact(h3 hz).elim
    · exact .inr hz
  rcases h with h | h | ⟨h0,h1,h2⟩
  · exact .inl h
  · exact .inr (.inl (key _ (.inl rfl) h))
  · exact .inr (.inr ⟨h0,key _ (.inr h0) h1,key _ (.inr h0) h2⟩)
theorem R67 {pre post:List G1} {x y:G1} (h:y∈pre++post):y∈pre++x::post:=by
  simp only [Mn,Mq] at h ⊢
  rcases h with h | h
  · exact .inl h
  · exact .inr (.inr h)
theorem Qbe {s:Gi} {boxes:List Box} {pre post:List G1} {x:G1} (h:R6 s boxes (pre++x::post)) (ho:H4e (pre++x::post) x.Slot=[]):R6 s boxes (pre++post):=by
  have h0:(pre++post).Sublist (pre++x::post):=List.Sublist.append_left (List.sublist_cons_self ..) _
  refine⟨fun y hy=>?_,h.sorted.sublist h0,h.apart.sublist h0,fun m c hc=>?_⟩
  · obtain⟨b,h1,h2,h3⟩:=h.each y (R67 hy)
    refine⟨b,h1,h2,R3d (fun hv=>?_) h3⟩
    have:y.Box∈H4e (pre++x::post) x.Slot:=Gf6.2 ⟨y,R67 hy,rfl,hv⟩
    rw [ho] at this; cases this
  · have:=h.fits m c hc
    unfold J27 at this ⊢
    rw [J0d,J0d] at this
    have a1:=(Je8 (boxes:=boxes) (column:=(m:Int)) (half:=1) (n:=0) (x:=x)).1
    have a2:=(Je8 (boxes:=boxes) (column:=(m:Int)) (half:=2) (n:=0) (x:=x)).1
    rcases this with h | ⟨h,h'⟩
    · exact .inl h
    · exact .inr ⟨by omega,by omega⟩
def J94 (l:List G1) (x:G1) (r:List G1):Prop:=∃ pre post,l=pre++post∧r=pre++x::post∧(∀ y∈pre,y.Box < x.Box)∧(∀ y,post.head? = some y→x.Box≤y.Box)
def J20 (s:Gi) (o:List Int) (x:Slot):Prop:=∃ (m:Nat) (c:G3),x.G3=(m:Int)∧s.Columns[m]? = some c∧0≤Jv s c∧(c.Deck=true ↔ Jv s c∈o)
def Rec (l:List G1) (x:Slot):Prop:=∃ y∈l,He9 x y.Slot
def Ref (s:Gi) (boxes:List Box) (q:List G1) (x:Slot):Prop:=∀ (m:Nat) (c:G3),x.G3=(m:Int)→s.Columns[m]? = some c→J27 boxes q m c
theorem Q48 {a b:Int} (h:H40 a b):H40 b a:=by
 unfold H40 at h ⊢
 omega
theorem He0 {a b:Slot} (h:He9 a b):He9 b a:=⟨h.1.symm,h.2.1.symm,Q48 h.2.2⟩
theorem over_self {a:Slot}:¬ H58 a a:=fun h=>by have:=h.2.1; omega
theorem G3f {l q:List G1} {x:G1} (h:J94 l x q):q.Perm (x::l):=by
 obtain⟨pre,post,rfl,rfl,_⟩:=h
 exact List.perm_middle
theorem H2d {l q:List G1} {x:G1} (h:J94 l x q) (hs:l.Pairwise (fun a b=>a.Box < b.Box)) (hx:x.Box ∉ l.map (·.Box)):q.Pairwise (fun a b=>a.Box < b.Box):=by
 obtain⟨pre,post,rfl,rfl,h1,h2⟩:=h
 obtain⟨s1,s2,s3⟩:=List.pairwise_append.1 hs
 refine List.pairwise_append.2 ⟨s1,List.pairwise_cons.2 ⟨fun y hy=>?_,s2⟩,fun a ha b hb=>?_⟩
 ·have h0:x.Box≠y.Box:=fun e=>hx (Mo.2 ⟨y,Mn.2 (.inr hy),e.symm⟩)
  cases post with
  | nil=>cases hy
  | cons z r=>
   have h3:=h2 z rfl
   rcases Mq.1 hy with rfl | hy
   ·omega
   ·have:=(List.pairwise_cons.1 s2).1 y hy
    omega
 ·rcases Mq.1 hb with rfl | hb
  ·exact h1 a ha
  ·exact s3 a ha b hb
theorem H54 {a b:List G1} (hp:a.Perm b) (ha:a.Pairwise (fun x y=>x.Box < y.Box)) (hb:b.Pairwise (fun x y=>x.Box < y.Box)):a=b:=
 List.Perm.eq_of_pairwise (le:=fun x y:G1=>x.Box < y.Box) (fun x y _ _ h1 h2=>by omega) ha hb hp
theorem Z9a {l q:List G1} {x:G1} {pre post:List G1} (h:J94 (pre++post) x q) (hs:(pre++x::post).Pairwise (fun a b=>a.Box < b.Box)):q=pre++x::post:=by
 have h0:(pre++post).Sublist (pre++x::post):=List.Sublist.append_left (List.sublist_cons_self ..) _
 obtain⟨s1,s2,s3⟩:=List.pairwise_append.1 hs
 refine H54 ((G3f h).trans List.perm_middle.symm) (H2d h (hs.sublist h0) (fun hm=>?_)) hs
 obtain⟨y,hy,e⟩:=Mo.1 hm
 rcases Mn.1 hy with hy | hy
 ·have:=s3 y hy x (List.mem_cons_self ..)
  omega
 ·have:=(List.pairwise_cons.1 s2).1 y hy
  omega
theorem R3c {l q:List Slot} {x:Slot} (h:H6e x l) (hs:∀ y∈l,y∈q):H6e x q:=by
 rcases h with h | h | ⟨h0,h1,h2⟩
 ·exact .inl h
 ·exact .inr (.inl (hs _ h))
 ·exact .inr (.inr ⟨h0,hs _ h1,hs _ h2⟩)
theorem Q0c {s:Gi} {boxes:List Box} {l q:List G1} {x:G1} {b:Box} (h:R6 s boxes l) (hb:Qf boxes x.Box=some b) (h6:G91 s x.Slot b.Size) (h4:¬ Rec l x.Slot) (h7:H6e x.Slot (l.map (·.Slot))) (h0:J94 l x q) (hx:x.Box ∉ l.map (·.Box)) (h9:Ref s boxes q x.Slot):R6 s boxes q:=by
 have hp:=G3f h0
 have h5:∀ y,y∈q ↔ y=x∨y∈l:=fun y=>by rw [hp.mem_iff,Mq]
 have h8:∀ y∈l.map (·.Slot),y∈q.map (·.Slot):=fun y hy=>by
  obtain⟨z,hz,e⟩:=Mo.1 hy
  exact Mo.2 ⟨z,(h5 z).2 (.inr hz),e⟩
 refine⟨fun y hy=>?_,H2d h0 h.sorted hx,?_,fun m c hc=>?_⟩
 ·rcases (h5 y).1 hy with rfl | hy
  ·exact⟨b,hb,h6,R3c h7 h8⟩
  ·obtain⟨b',h1,h2,h3⟩:=h.each y hy
   exact⟨b',h1,h2,R3c h3 h8⟩
 ·have ha:=h.apart
  obtain⟨pre,post,rfl,rfl,_⟩:=h0
  obtain⟨s1,s2,s3⟩:=List.pairwise_append.1 ha
  refine List.pairwise_append.2 ⟨s1,List.pairwise_cons.2 ⟨fun y hy hm=>h4 ⟨y,Mn.2 (.inr hy),He0 hm⟩,s2⟩,fun a ha b hb=>?_⟩
  rcases Mq.1 hb with rfl | hb
  ·exact fun hm=>h4 ⟨a,Mn.2 (.inl ha),hm⟩
  ·exact s3 a ha b hb
 ·by_cases he:x.Slot.G3=(m:Int)
  ·exact h9 m c he hc
  ·have:=h.fits m c hc
   obtain⟨pre,post,rfl,rfl,_⟩:=h0
   unfold J27 at this ⊢
   rw [J0d,J0d,Qe6 he,Qe6 he,Int.add_zero,Int.add_zero]
   exact this
theorem chain {s:Gi} {boxes:List Box} {l:List G1} (h:R6 s boxes l) {t:Int} (h0:0≤t):∀ (n:Nat) (z:G1),z∈l→z.Slot.Tier=t+(n:Int)+1 →
  (∃ w∈l,w.Slot=⟨z.Slot.G3,t,z.Slot.Half⟩)∨(z.Slot.Half=0∧(∃ w∈l,w.Slot=⟨z.Slot.G3,t,1⟩)∧∃ w∈l,w.Slot=⟨z.Slot.G3,t,2⟩):=by
 intro n
 induction n with
 | zero=>
  intro z hz ht
  obtain⟨_,_,_,hh⟩:=h.each z hz
  have e:z.Slot.Tier - 1=t:=by omega
  rcases hh with hh | hh | ⟨h3,h1,h2⟩
  ·omega
  ·obtain⟨w,hw,ew⟩:=G68 hh
   rw [e] at ew
   exact .inl ⟨w,hw,ew⟩
  ·obtain⟨w,hw,ew⟩:=G68 h1
   obtain⟨v,hv,ev⟩:=G68 h2
   rw [e] at ew ev
   exact .inr ⟨h3,⟨w,hw,ew⟩,⟨v,hv,ev⟩⟩
 | succ n ih=>
  intro z hz ht
  obtain⟨_,_,_,hh⟩:=h.each z hz
  have one:∀ w∈l,∀ half,w.Slot=⟨z.Slot.G3,z.Slot.Tier - 1,half⟩→half≠0→∃ v∈l,v.Slot=⟨z.Slot.G3,t,half⟩:=fun w hw half ew h4=>by
   have:=ih w hw (by rw [ew]; simp only; omega)
   rw [ew] at this
   rcases this with h | ⟨h,_⟩
   ·exact h
   ·exact(h4 h).elim
  rcases hh with hh | hh | ⟨h3,h1,h2⟩
  ·omega
  ·obtain⟨w,hw,ew⟩:=G68 hh
   have:=ih w hw (by rw [ew]; simp only; omega)
   rw [ew] at this
   exact this
  ·obtain⟨w,hw,ew⟩:=G68 h1
   obtain⟨v,hv,ev⟩:=G68 h2
   exact .inr ⟨h3,one w hw 1 ew (by decide),one v hv 2 ev (by decide)⟩
theorem Z4a {s:Gi} {boxes:List Box} {l q:List G1} {x:G1} {size:Int} (h:R6 s boxes l) (h0:G91 s x.Slot size) (h2:¬ Rec l x.Slot) (h3:J94 l x q):H4e q x.Slot=[]:=by
 refine List.eq_nil_iff_forall_not_mem.2 fun a ha=>?_
 obtain⟨z,hz,_,ho⟩:=Gf6.1 ha
 have h4:z∈l:=by
  rcases Mq.1 ((G3f h3).mem_iff.1 hz) with rfl | hz
  ·exact(over_self ho).elim
  ·exact hz
 obtain⟨o1,o2,o3⟩:=ho
 have ht:=h0.tier
 have h1:x.Slot.Half=0∨x.Slot.Half=1∨x.Slot.Half=2:=by
  have:=h0.half
  unfold Hba at this
  split at this
  ·have:x.Slot.Half=0:=by simpa using this
   exact .inl this
  ·split at this
   ·have:x.Slot.Half=1∨x.Slot.Half=2:=by simpa using this
    exact .inr this
   ·cases this
 have meet:∀ w∈l,∀ half,w.Slot=⟨z.Slot.G3,x.Slot.Tier,half⟩→H40 x.Slot.Half half→False:=fun w hw half ew h5=>h2 ⟨w,hw,by rw [ew]; exact⟨o1.symm,rfl,h5⟩⟩
 rcases chain h ht ((z.Slot.Tier - x.Slot.Tier - 1).toNat) z h4 (by omega) with ⟨w,hw,ew⟩ | ⟨_,⟨w,hw,ew⟩,⟨v,hv,ev⟩⟩
 ·exact meet w hw _ ew (Q48 o3)
 ·rcases h1 with e | e | e
  ·exact meet w hw _ ew (.inr (.inl e))
  ·exact meet w hw _ ew (.inl e)
  ·exact meet v hv _ ev (.inl e)
theorem Z43 {s:Gi} {o:List Int} {x:Slot} (h:Jb5 s o x):J20 s o x:=by
 obtain⟨m,c,h1,h2,h3,h4,h5⟩:=h
 exact⟨m,c,h1,h2,h4,⟨fun e=>absurd (h3.symm.trans e) Bool.false_ne_true,fun e=>(h5 e).elim⟩⟩
theorem Yfb {s:Gi} {boxes:List Box} {l:List G1} {o:List Int} (hU:∀ k∈o,Q61 s l k) {x:G1} (hx:x∈l) (h:¬ Jb5 s o x.Slot):¬ J20 s o x.Slot:=by
 rintro⟨m,c,h1,h2,h3,h4⟩
 cases hd:c.Deck with
 | false=>exact h ⟨m,c,h1,h2,hd,h3,fun hm=>by have:=h4.2 hm; rw [hd] at this; cases this⟩
 | true=>exact hU _ (h4.1 hd) x hx m c h1 h2 hd rfl
theorem Y73 {s:Gi} {x:Slot} {size:Int} (h:G91 s x size):size=20∨size=40:=by
 have:=h.half
 unfold Hba at this
 split at this
 ·exact .inr (by assumption)
 ·split at this
  ·exact .inl (by assumption)
  ·cases this
end Go.Proofs.YtgcpimpnpcdmmaaGreat
