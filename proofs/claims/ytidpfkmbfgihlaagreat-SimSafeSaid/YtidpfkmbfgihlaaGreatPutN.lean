/-
 The ships that twistlocklaw07.Built makes: What is reached for,of the states that the chapter's stateme What can be put,taken,opened and closed. What Free,Take,Open,Close and Put return,of states that are What Put returns,and that states stay right.
-/
import Derived.Test.YtidpfkmbfgihlaaGreatMoreA
set_option maxRecDepth 100000
set_option linter.unusedVariables false
namespace Go.Proofs.YtidpfkmbfgihlaaGreat
open Go.RowKit

def Byte (z:Int):Prop:=0≤z∧z≤255
structure Hf4 (p:H8):Prop where
 bay:Byte p.Bay
 row:Byte p.Row
 tiers:Byte p.Tiers

structure Y44 (c:G2):Prop where
 bay:0≤c.Bay∧c.Bay≤4
 row:0≤c.Row∧c.Row≤4
 tiers:2≤c.Tiers∧c.Tiers≤5
 height:c.Height=0
 k20:c.Kilos20=500000000
 k40:c.Kilos40=500000000
 lash:c.Lash=0
 plugs:c.Plugs=[]
 x : -26000≤c.X∧c.X≤26000
 y : -5000≤c.Y∧c.Y≤5000
 z:0≤c.Z∧c.Z≤20000
def Y0b (c:G2):Int×Int×Bool:=(c.Bay,c.Row,c.Deck)
def H23 (bay row:Int) (deck:Bool) (c:G2):Bool:=((decide (c.Bay=bay))&&(decide (c.Row=row)))&&(c.Deck==deck)
theorem R97 {bay row:Int} {deck:Bool} {c:G2}:H23 bay row deck c=true ↔ Y0b c=(bay,row,deck):=by
 simp [H23,Y0b,and_assoc]
structure R18 (x:G8):Prop where
 bay:0≤x.Bay∧x.Bay≤4
 rows:x.Rows=[0,1]∨x.Rows=[2,3,4]
def R4d (x:G8):Int×Bool:=(x.Bay,decide (x.Rows=[0,1]))
structure Ybf (l:List G2):Prop where
 len:l.length≤12
 each:∀ c∈l,Y44 c
 nodup:(l.map Y0b).Nodup
structure Ybe (l:List G8):Prop where
 len:l.length≤10
 each:∀ x∈l,R18 x
 nodup:(l.map R4d).Nodup
structure Y45 (s:Gk):Prop where
 some:1≤s.Columns.length
 cols:Ybf s.Columns
 covs:Ybe s.Covers

theorem Qa2 {l:List G2} {wanted:G2→Option Bool} {p:G2→Bool} (hw:∀ x∈l,wanted x=some (p x)) (hl:l.length≤1000000):Rb l wanted=some (G92 p l):=by
 refine G30 ?_
 unfold Rb
 refine Rc (fun pre s=>s=G92 p pre) rfl (fun pre x post s nx e hs h0=>?_) (fun s hs=>Gg hs)
 subst hs
 have h1:pre.length+1≤l.length:=by rw [e]; simp
 refine G51 (fun j=>j=G92 p (pre++[x])) (fun K hK=>?_) (fun j hj=>h0 _ hj)
 refine Gs (hw x (by rw [e]; simp)) (He (fun h=>G00 ?_ (hK _ ?_)) (fun h=>hK _ ?_))
 ·have:=Q23 p pre
  exact G82 (by rw [Mg]; omega) (by omega)
 ·rw [J46,h]; rfl
 ·rw [J46,h]; simp

theorem Y6c {s:Gk} {bay row:Int} {deck:Bool} (hl:s.Columns.length≤1000000):Wp (H3d s bay row deck) (fun r=>r.2=s.Columns.any (H23 bay row deck)):=by
 unfold H3d
 refine Gs (Qa2 (p:=H23 bay row deck) (fun x _=>rfl) hl) (He (fun h=>Gg ?_) (fun h=>?_))
 ·have h0:G92 (H23 bay row deck) s.Columns=[]:=by
   have:=Kz h
   exact List.length_eq_zero_iff.1 (by omega)
  refine Eq.symm (List.any_eq_false.2 (fun x hx=>?_))
  rw [Jb2.1 h0 x hx]; exact Bool.false_ne_true
 ·have h0:G92 (H23 bay row deck) s.Columns≠[]:=by
   have:=M0 h
   intro e; rw [e] at this; exact this rfl
  have h1:∃ z,(G92 (H23 bay row deck) s.Columns)[0]? = some z:=by
   cases hh:G92 (H23 bay row deck) s.Columns with
   | nil=>exact(h0 hh).elim
   | cons z r=>exact⟨z,rfl⟩
  obtain⟨z,hz⟩:=h1
  refine Ya (m:=0) rfl hz (Gg ?_)
  refine Eq.symm ?_
  have:¬ ∀ x∈s.Columns,H23 bay row deck x=false:=fun h=>h0 (Jb2.2 h)
  rw [List.any_eq_true]
  refine Classical.byContradiction fun hn=>this fun x hx=>?_
  cases hc:H23 bay row deck x with
  | false=>rfl
  | true=>exact(hn ⟨x,hx,hc⟩).elim

theorem Y0c (l:List H8) (covers:Int) (hp:∀ p∈l,Hf4 p):Wp (Zj l covers) Y45:=by
 unfold Zj
 refine Gy (H67 (m:=min l.length 12) (by omega) (by omega) ?_)
 have h4:(l.take (min l.length 12)).length≤12:=by rw [List.length_take]; omega
 refine Rc (fun pre s=>∃ cols,s=(cols,[],0,0,0,0,[],[],[],0,0,0,0)∧cols.length≤pre.length∧(∀ c∈cols,Y44 c)∧(cols.map Y0b).Nodup)
  ⟨[],rfl,M8,fun c hc=>(M7 hc).elim,List.nodup_nil⟩ (fun pre y post s nx e hs h5=>?_) (fun s hs=>?_)
 ·obtain⟨cols,rfl,h1,h2,h3⟩:=hs
  have h6:pre.length+1≤12:=by rw [e] at h4; simp at h4; omega
  have hy:Hf4 y:=hp y (List.mem_of_mem_take (by rw [e]; simp:y∈l.take (min l.length 12)))
  obtain⟨⟨b1,b2⟩,⟨r1,r2⟩,⟨t1,t2⟩⟩:=hy
  refine G51 (fun j=>j.length≤(pre++[y]).length∧(∀ c∈j,Y44 c)∧(j.map Y0b).Nodup) (fun K hK=>?_) (fun j hj=>h5 _ ⟨j,rfl,hj⟩)
  refine Qy ⟨by omega,by omega⟩ (Gy (H09 (by omega) ?_))
  refine Qy ⟨by omega,by omega⟩ (Gy (H09 (by omega) ?_))
  refine Qy ⟨by omega,by omega⟩ (Gy (H09 (by omega) ?_))
  have e1:y.Bay.tmod 5=y.Bay % 5:=Int.tmod_eq_emod_of_nonneg b1
  have e2:y.Row.tmod 5=y.Row % 5:=Int.tmod_eq_emod_of_nonneg r1
  have e3:y.Tiers.tmod 4=y.Tiers % 4:=Int.tmod_eq_emod_of_nonneg t1
  rw [e1,e2,e3]
  refine Qy ⟨by omega,by omega⟩ (Qy ⟨by omega,by omega⟩ (Qy ⟨by omega,by omega⟩ (Qy ⟨by omega,by omega⟩ (Qy ⟨by omega,by omega⟩ ?_))))
  refine G51 (fun z:Int=>0≤z∧z≤20000) (fun K' h0=>He (fun _=>h0 _ ⟨by omega,by omega⟩) (fun _=>h0 _ ⟨by omega,by omega⟩)) (fun z hz=>?_)
  have hl:cols.length≤1000000:=by omega
  refine Gy (wp_mono (Y6c hl) (fun r hr=>?_))
  refine He (fun h=>G00 ?_ (hK _ ⟨?_,?_,?_⟩)) (fun h=>hK _ ⟨?_,h2,h3⟩)
  ·exact G82 (by rw [Mg]; show cols.length+1≤_; omega) (by omega)
  ·simp only [Mf,Mg]; omega
  ·intro c hc
   rcases Mk.1 hc with hc | hc
   ·exact h2 c hc
   ·rw [Mn] at hc; subst hc
    exact⟨⟨by simp only; omega,by simp only; omega⟩,⟨by simp only; omega,by simp only; omega⟩,⟨by simp only; omega,by simp only; omega⟩,rfl,rfl,rfl,rfl,rfl,⟨by simp only; omega,by simp only; omega⟩,⟨by simp only; omega,by simp only; omega⟩,hz⟩
  ·rw [List.map_append,List.nodup_append]
   refine⟨h3,by simp,fun a ha b hb=>?_⟩
   simp only [List.map_cons,List.map_nil,Mn] at hb
   subst hb
   obtain⟨c,hc,rfl⟩:=Mm.1 ha
   intro he
   have hf:r.2=false:=by simpa using h
   rw [hf] at hr
   have:=List.any_eq_false.1 hr.symm c hc
   exact this (R97.2 he)
  ·simp only [Mf,Mg]; omega
 ·obtain⟨cols,rfl,h1,h2,h3⟩:=hs
  have h1:cols.length≤12:=Nat.le_trans h1 h4
  refine G51 (fun j=>1≤j.length∧Ybf j) (fun K hK=>He (fun h=>hK _ ⟨M8,?_⟩) (fun h=>hK _ ⟨?_,⟨h1,h2,h3⟩⟩)) (fun cols' hc=>?_)
  ·refine⟨by simp,fun c hc=>?_,by simp⟩
   rw [Mn] at hc; subst hc
   exact⟨by simp,by simp,by simp,rfl,rfl,rfl,rfl,rfl,by simp,by simp,by simp⟩
  ·have:¬ ((cols.length:Int)=0):=M0 h
   show 1≤cols.length
   omega
  refine G00 (by decide) ?_
  have e5:(5:Int).toNat=5:=rfl
  rw [e5]
  refine R20 (fun i s=>∃ covs,s=(cols',covs,0,0,0,0,[],[],[],0,0,0,0)∧covs.length≤2*i∧(∀ x∈covs,R18 x∧x.Bay < i)∧(covs.map R4d).Nodup)
   ⟨[],rfl,Nat.zero_le _,fun c hc=>(M7 hc).elim,List.nodup_nil⟩ (fun i s nx hi hs h5=>?_) (fun s hs=>?_)
  ·obtain⟨covs,rfl,g1,g2,g3⟩:=hs
   refine G51 (fun j:List G8=>j.length≤2*(i+1)∧(∀ x∈j,R18 x∧x.Bay < (i+1:Nat))∧(j.map R4d).Nodup) (fun K hK=>?_) (fun j hj=>h5 _ ⟨j,rfl,hj⟩)
   refine G51 (fun j:List G8=>j.length≤2*i+1∧(∀ x∈j,R18 x∧(x.Bay < i∨x=⟨i,[0,1]⟩))∧(j.map R4d).Nodup) (fun K' h0=>?_) (fun j hj=>?_)
   ·refine Qy ⟨by omega,by omega⟩ (Gy (H67 (m:=2*i) (by omega) (by omega) ?_))
    refine He (fun h=>G00 ?_ (h0 _ ⟨?_,?_,?_⟩)) (fun h=>h0 _ ⟨(by show covs.length≤_; omega),fun x hx=>⟨(g2 x hx).1,.inl (g2 x hx).2⟩,g3⟩)
    ·exact G82 (by rw [Mg]; show covs.length+1≤_; omega) (by omega)
    ·simp only [Mf,Mg]; omega
    ·intro x hx
     rcases Mk.1 hx with hx | hx
     ·exact⟨(g2 x hx).1,.inl (g2 x hx).2⟩
     ·rw [Mn] at hx; subst hx
      exact⟨⟨⟨by simp only; omega,by simp only; omega⟩,.inl rfl⟩,.inr rfl⟩
    ·rw [List.map_append,List.nodup_append]
     refine⟨g3,by simp,fun a ha b hb=>?_⟩
     simp only [List.map_cons,List.map_nil,Mn] at hb
     subst hb
     obtain⟨c,hc,rfl⟩:=Mm.1 ha
     intro he
     have:=(g2 c hc).2
     have e2:c.Bay=i:=congrArg Prod.fst he
     omega
   ·obtain⟨q1,q2,q3⟩:=hj
    refine Qy ⟨by omega,by omega⟩ (Qy ⟨by omega,by omega⟩ (Gy (H67 (m:=2*i+1) (by omega) (by omega) ?_)))
    refine He (fun h=>G00 ?_ (hK _ ⟨?_,?_,?_⟩)) (fun h=>hK _ ⟨by omega,fun x hx=>⟨(q2 x hx).1,?_⟩,q3⟩)
    ·exact G82 (by rw [Mg]; omega) (by omega)
    ·simp only [Mf,Mg]; omega
    ·intro x hx
     rcases Mk.1 hx with hx | hx
     ·refine⟨(q2 x hx).1,?_⟩
      rcases (q2 x hx).2 with h | h
      ·omega
      ·rw [h]; simp only; omega
     ·rw [Mn] at hx; subst hx
      exact⟨⟨⟨by simp only; omega,by simp only; omega⟩,.inr rfl⟩,by simp only; omega⟩
    ·rw [List.map_append,List.nodup_append]
     refine⟨q3,by simp,fun a ha b hb=>?_⟩
     simp only [List.map_cons,List.map_nil,Mn] at hb
     subst hb
     obtain⟨c,hc,rfl⟩:=Mm.1 ha
     intro he
     rcases (q2 c hc).2 with h | h
     ·have e2:c.Bay=i:=congrArg Prod.fst he
      omega
     ·rw [h] at he
      have e2:=congrArg Prod.snd he
      simp [R4d] at e2
    ·rcases (q2 x hx).2 with h | h
     ·omega
     ·rw [h]; simp only; omega
  ·obtain⟨covs,rfl,g1,g2,g3⟩:=hs
   exact Gg ⟨hc.1,hc.2,⟨g1,fun x hx=>(g2 x hx).1,g3⟩⟩

/-! ### Ships whose columns are limited in height now and then -/
def ColL (c:G2):Prop:=∃ (c0:G2) (h:Int),Y44 c0∧(h=0∨h=8000)∧c={ c0 with Height:=h }
structure Qc1 (s:Gk):Prop where
 some:1≤s.Columns.length
 len:s.Columns.length≤12
 each:∀ c∈s.Columns,ColL c
 nodup:(s.Columns.map Y0b).Nodup
 covs:Ybe s.Covers
theorem Yde {c:G2} (h:ColL c):Yf5 c:=by
 obtain⟨c0,z,⟨h1,h2,h3,_,h5,h6,h7,h8,h9,h0,h4⟩,g1,rfl⟩:=h
 refine⟨fun p hp=>?_,?_,⟨by show (0:Int)≤c0.Bay; omega,by show c0.Bay≤39; omega,by show (0:Int)≤c0.Row; omega,by show c0.Row≤30; omega,by show 1≤c0.Tiers; omega,by show c0.Tiers≤10; omega,by show (0:Int)≤z; omega,by show z≤40000; omega⟩,⟨by show (0:Int)≤c0.Kilos20; omega,by show c0.Kilos20≤500000000; omega,by show (0:Int)≤c0.Kilos40; omega,by show c0.Kilos40≤500000000; omega,by show (0:Int)≤c0.Lash; omega,by show c0.Lash≤1000000000000; omega⟩,⟨by show -500000≤c0.X; omega,by show c0.X≤500000; omega,by show -500000≤c0.Y; omega,by show c0.Y≤500000; omega,by show -500000≤c0.Z; omega,by show c0.Z≤500000; omega⟩⟩
 ·have hp:p∈c0.Plugs:=hp
  rw [h8] at hp; cases hp
 ·show c0.Plugs.Pairwise _
  rw [h8]; exact List.Pairwise.nil
theorem R89 {s:Gk} (h:Qc1 s):J63 s:=by
 obtain⟨h1,h2,h3,h4,⟨h5,h6,h7⟩⟩:=h
 refine⟨⟨h1,by omega,by omega⟩,fun c hc=>Yde (h3 c hc),fun x hx=>?_,?_⟩
 ·obtain⟨⟨b1,b2⟩,hr⟩:=h6 x hx
  rcases hr with h | h <;> refine⟨⟨b1,by omega⟩,by rw [h]; simp,by rw [h]; simp,by rw [h]; simp⟩
 ·refine List.nodup_append.2 ⟨?_,?_,?_⟩
  ·have a0:=List.pairwise_map.1 h4
   refine List.pairwise_map.2 (a0.imp (fun {a b} h0 e=>h0 ?_))
   simp only [k3,Hh.mk.injEq] at e
   obtain⟨e1,e2,e3⟩:=e
   have e4:a.Deck=b.Deck:=by
    revert e3
    cases a.Deck <;> cases b.Deck <;> simp [dk]
   simp only [Y0b,e1,e2,e4]
  ·refine List.pairwise_flatMap.2 ⟨fun x hx=>?_,?_⟩
   ·refine List.pairwise_map.2 ?_
    rcases (h6 x hx).rows with h | h <;> rw [h] <;> simp
   ·have a1:=List.pairwise_map.1 h7
    have h9:s.Covers.Pairwise (fun a b=>R4d a≠R4d b∧R18 a∧R18 b):=
     List.pairwise_iff_getElem.2 (fun i j hi hj a2=>⟨List.pairwise_iff_getElem.1 a1 i j hi hj a2,h6 _ (List.getElem_mem hi),h6 _ (List.getElem_mem hj)⟩)
    refine h9.imp (fun {a b} h0 p hp q hq e=>?_)
    obtain⟨a3,ha,hb⟩:=h0
    obtain⟨r,hr,rfl⟩:=Mm.1 hp
    obtain⟨r',h8,rfl⟩:=Mm.1 hq
    simp only [Hh.mk.injEq] at e
    obtain⟨e1,e2,_⟩:=e
    subst e2
    apply a3
    rcases ha.rows with h | h <;> rcases hb.rows with h' | h' <;> rw [h] at hr <;> rw [h'] at h8 <;> simp [R4d,e1,h,h'] at hr h8 ⊢ <;> omega
  ·intro a ha b hb e
   obtain⟨c,_,rfl⟩:=Mm.1 ha
   obtain⟨x,_,hx⟩:=List.mem_flatMap.1 hb
   obtain⟨r,_,rfl⟩:=Mm.1 hx
   simp only [k3,Hh.mk.injEq] at e
   have:=e.2.2
   revert this
   cases c.Deck <;> simp [dk]
theorem G27 {s:Gk} (h:Qc1 s):Small s:=by
 have h0:∀ c∈s.Columns,c.Plugs.length=0∧c.Tiers≤100:=fun c hc=>by
  obtain⟨c0,z,h2,_,rfl⟩:=h.each c hc
  have:=h2.tiers
  exact⟨by show c0.Plugs.length=0; rw [h2.plugs]; rfl,by show c0.Tiers≤100; omega⟩
 have h1:∀ x∈s.Covers,x.Rows.length≤1000:=fun x hx=>by
  rcases (h.covs.each x hx).rows with e | e <;> rw [e] <;> simp
 refine⟨G30 (wp_mono (Q80 s (fun c hc=>by have:=(h0 c hc).1; omega) (fun x hx=>by have:=h1 x hx; omega)) (fun r hr=>hr.2 (R89 h))),⟨h.some,by have:=h.len; omega⟩,fun c hc=>(h0 c hc).2,by have:=h.covs.len; omega,h1⟩
theorem Ref {s:Gk} (hs:Small s) (size:Int):Wp (Gf7 s size) (fun r=>r.length≤200*s.Columns.length∧∀ x∈r,G69 s x size):=by
 unfold Gf7
 have h6:(H9f size).length≤2:=by
  unfold H9f
  split
  ·simp
  ·split <;> simp
 refine Rc (fun pre r=>r.length≤200*pre.length∧∀ x∈r,G69 s x size) ⟨by simp,fun x hx=>(M7 hx).elim⟩ (fun pre c post r nx e hI h5=>?_) (fun r hI=>Gg hI)
 obtain⟨h1,h2⟩:=hI
 have hc:s.Columns[pre.length]? = some c:=by rw [e]; simp
 have ht:=hs.tiers c (M6 hc)
 refine G00 (M1 (by omega)) ?_
 have h7:(max c.Tiers 0).toNat≤100:=by omega
 refine R20 (fun i r'=>r'.length≤r.length+2*i∧∀ x∈r',G69 s x size) ⟨by simp,h2⟩ (fun i r' nx2 hi hI h3=>?_) (fun r' hI=>h5 _ ⟨?_,hI.2⟩)
 ·refine Gs (Q16 size) ?_
  refine Rc (fun pr r2=>r2.length=r'.length+pr.length∧∀ x∈r2,G69 s x size) ⟨by simp,hI.2⟩ (fun pr h post2 r2 nx3 e2 h0 h4=>h4 _ ⟨?_,fun x hx=>?_⟩) (fun r2 h0=>h3 _ ⟨by have:=hI.1; have:=h0.1; omega,h0.2⟩)
  ·simp only [Mf,Mg]; have:=h0.1; omega
  ·rcases Mk.1 hx with hx | hx
   ·exact h0.2 x hx
   ·rw [Mn] at hx; subst hx
    exact⟨⟨pre.length,c,rfl,hc,by show (i:Int) < c.Tiers; omega⟩,by show (0:Int)≤i; omega,by show h∈H9f size; rw [e2]; simp⟩
 ·have:=hI.1
  simp only [Mf,Mg]; omega
theorem Y8d {s:Gk} (hs:Small s) (size:Int):Wp (H87 s size) (fun r=>r.length≤200*s.Columns.length∧∀ x∈r,G69 s x size):=by
 unfold H87
 refine Gs (show H59 s size=some () from rfl) ?_
 refine Gy (wp_mono (Ref hs size) (fun ys h0=>?_))
 have hc:=hs.cols
 refine Rc (fun pre r=>r=pre) rfl (fun pre y post r nx e hI h1=>?_) (fun r hI=>by subst hI; exact Gg h0)
 subst hI
 have hl:r.length < ys.length:=by rw [e]; simp
 exact G00 (G82 (by rw [Mg]; have:=h0.1; omega) (by omega)) (h1 _ rfl)

structure J8c (d:Gv):Prop where
 column:Byte d.G2
 kilos:Byte d.Kilos
def strip (d:Gv):Int×Bool×Bool:=(d.Kilos,d.Small,d.High)
def Hab (t:Int×Bool×Bool):Int×Bool:=bif t.2.1 then (20,false) else (40,t.2.2)
def Yae (p:(Int×Bool×Bool)×Nat):Box:=Box.mk (5*((p.2+1:Nat):Int)) ByteArray.empty (Hab p.1).1 (Hab p.1).2 (1000+100*p.1.1) 0 1 0 false
def G94 (l:List Gv):List Box:=(l.map strip).zipIdx.map Yae
theorem Q2a (l:List Gv) (d:Gv):G94 (l++[d])=G94 l++[Yae (strip d,l.length)]:=by
 unfold G94
 rw [List.map_append,List.zipIdx_append,List.map_append,Mj]
 simp
theorem Qa4 (l:List Gv):(G94 l).length=l.length:=by unfold G94; simp

theorem R09 {boxes:List Box} {b b':Box} {id:Int} (h:Qj boxes id=some b'):Qj (boxes++[b]) id=some b':=by
 unfold Qj at h ⊢
 rw [List.find?_append,h]
 rfl
theorem Q25 {boxes:List Box} {b:Box} (m half:Int):∀ (l:List Stowed) (n:Int),(∀ x∈l,∃ b',Qj boxes x.Box=some b')→l.foldl (Gd5 (boxes++[b]) m half) n=l.foldl (Gd5 boxes m half) n:=by
 intro l
 induction l with
 | nil=>intro n _; rfl
 | cons x r ih=>
  intro n h
  obtain⟨b',hb⟩:=h x (by simp)
  rw [List.foldl_cons,List.foldl_cons,show Gd5 (boxes++[b]) m half n x=Gd5 boxes m half n x by unfold Gd5; rw [R09 hb,hb]]
  exact ih _ (fun y hy=>h y (by simp [hy]))
theorem R7d {s:Gk} {boxes:List Box} {b:Box} {l:List Stowed} (h:Yz s boxes l):Yz s (boxes++[b]) l:=by
 have hf:∀ x∈l,∃ b',Qj boxes x.Box=some b':=fun x hx=>by
  obtain⟨b',h1,_⟩:=h.each x hx
  exact⟨b',h1⟩
 refine⟨fun x hx=>?_,h.sorted,h.apart,fun m c hc=>?_⟩
 ·obtain⟨b',h1,h2⟩:=h.each x hx
  exact⟨b',R09 h1,h2⟩
 ·have:=h.fits m c hc
  unfold J08 Zi at this ⊢
  rw [Q25 _ _ l 0 hf,Q25 _ _ l 0 hf]
  exact this

theorem Jdb (l:List Int):Qu l l=some true:=by
 refine G30 ?_
 unfold Qu
 refine He (fun h=>((Kz h) rfl).elim) (fun _=>?_)
 refine Rc (fun _ _=>True) trivial (fun pre y post u nx e _ h0=>?_) (fun u _=>Gg rfl)
 refine Ya rfl (by rw [e]; simp) (He (fun h=>((Kz h) rfl).elim) (fun _=>h0 _ trivial))

structure Sta (s:Gk) (boxes:List Box) (l:List Stowed):Prop where
 ship:Qc1 s
 right:Yz s boxes l
 len:l.length≤10
theorem Sta.colIn {s:Gk} {boxes:List Box} {l:List Stowed} (h:Sta s boxes l) {x:Stowed} (hx:x∈l):Yc0 s x.Slot:=by
 obtain⟨b,_,h1,_⟩:=h.right.each x hx
 exact Q7e h1
theorem Yb2 {s:Gk} {boxes:List Box} {l:List Stowed} (h:Sta s boxes l) {x:Stowed} (hx:x∈l):Gb4 l x.Box=some (H75 l x.Slot,0):=by
 have hl:=h.len
 rw [Re9 l x.Box (by omega)]
 obtain⟨x0,hf⟩:∃ x0,Q9d l x.Box=some x0:=by
  cases hq:Q9d l x.Box with
  | some x0=>exact⟨x0,rfl⟩
  | none=>exact absurd (M1 (rfl:x.Box=x.Box)) (by have:=List.find?_eq_none.1 hq x hx; simp at this)
 have h1:=List.mem_of_find?_eq_some hf
 have h2:x0.Box=x.Box:=Kz (List.find?_some (p:=fun z:Stowed=>decide (z.Box=x.Box)) hf)
 have h3:x0=x:=Jb6 h.right.sorted h1 hx h2
 subst h3
 unfold Y0d
 rw [hf]
theorem Z19 {n m:Nat} (h:n+m≤1000):decide ((n+m)*8≤140737488355328∧n+m≤maxLen)=true:=M1 ⟨by omega,by simp only [maxLen]; omega⟩

theorem wp_loop {β σ:Type} {Q:β→Prop} (I:σ→Prop) (μ:σ→Nat) {b:(σ→Option β)→σ→Option β} {F:Nat} {s:σ} (h0:I s) (hF:μ s < F)
    (hb:∀ s nx,I s→(∀ s',I s'→μ s' < μ s→Wp (nx s') Q)→Wp (b nx s) Q):Wp (loop b F s) Q:=by
  induction F generalizing s with
  | zero=>omega
  | succ F ih=>
    rw [loop]
    exact hb s _ h0 (fun s' h1 h2=>ih h1 (by omega))
structure Gf9 (s:Gk) (o:List Int):Prop where
  mem:∀ y∈o,0≤y∧y < (s.Covers.length:Int)
  sorted:o.Pairwise (· < ·)
theorem Qfa {s:Gk}:Gf9 s []:=⟨fun y hy=>(M7 hy).elim,List.Pairwise.nil⟩
theorem Gf9.len {s:Gk} {o:List Int} (h:Gf9 s o):o.length≤s.Covers.length:=by
  have hn:o.Nodup:=G36 h.sorted
  have:=hn.length_le_of_subset (l₂:=(List.range s.Covers.length).map (fun n:Nat=>(n:Int))) (fun a ha=>by
    obtain⟨h1,h2⟩:=h.mem a ha
    exact Mm.2 ⟨a.toNat,List.mem_range.2 (by omega),by omega⟩)
  simpa using this
theorem R3d {s:Gk} (hs:Small s) (boxes:List Box) (l:List Stowed) (o:List Int) (hl:l.length≤1000000):Wp (Zk s boxes l o) (fun r=>r=true ↔ Gf9 s o∧Yz s boxes l):=by
  unfold Zk
  refine Rc (fun pre _=>Gf9 s pre) Qfa (fun pre y post u nx e hI h8=>?_) (fun u hI=>?_)
  · have no:¬ Gf9 s o→Wp (some false) (fun r=>r=true ↔ Gf9 s o∧Yz s boxes l):=fun h=>Gg (H42 fun hh=>h hh.1)
    by_cases hy:y < 0∨(s.Covers.length:Int)≤y
    · have hc:(decide (y < 0)||decide ((s.Covers.length:Int)≤y))=true:=by simpa using hy
      rw [hc]
      refine Gy (Gg (Gy (Gg (He (fun _=>no fun h=>?_) (fun h=>by cases h)))))
      have:=h.mem y (by rw [e]; simp)
      omega
    have hc:(decide (y < 0)||decide ((s.Covers.length:Int)≤y))=false:=by
      rw [Mr]; exact⟨M2 (by omega),M2 (by omega)⟩
    rw [hc]
    simp only [Bool.not_false,Bool.true_and,Bool.false_or]
    have h3:0≤y∧y < (s.Covers.length:Int):=by omega
    have h4:Wp (bif decide (0 < (pre.length:Int)) then chk ((pre.length:Int) - 1) some else some 0) (fun v=>Wp (bif decide (0 < (pre.length:Int)) then Z3 o v some else some default) (fun p=>(decide (0 < (pre.length:Int))&&decide (y≤p))=false→Gf9 s (pre++[y]))∧Wp (bif decide (0 < (pre.length:Int)) then Z3 o v some else some default) (fun p=>(decide (0 < (pre.length:Int))&&decide (y≤p))=true→¬ Gf9 s o)):=by
      by_cases hp:0 < pre.length
      · obtain⟨p,h5,h9,a0⟩:=Q41 e hp
        rw [M1 (show 0 < (pre.length:Int) by omega)]
        simp only [cond_true,Bool.true_and]
        have:pre.length < 1+s.Covers.length:=by have:=hI.len; omega
        have:=hs.covs
        refine Qy ⟨by omega,by omega⟩ (Gg ⟨Ya (m:=pre.length - 1) (by omega) h5 (Gg fun h=>?_),Ya (m:=pre.length - 1) (by omega) h5 (Gg fun h hh=>?_)⟩)
        · have a1:p < y:=by have:=M0 h; omega
          exact⟨H64 hI.mem h3,R2d hI.sorted (J1c hI.sorted h9 a1)⟩
        · have h:=Kz h
          have h6:=hh.sorted
          rw [e] at h6
          have:=Gad h6 p a0
          omega
      · have h0:pre=[]:=Ku (by omega)
        subst h0
        exact Gg ⟨Gg fun _=>⟨fun z hz=>(Mn.1 hz) ▸ h3,List.pairwise_singleton ..⟩,Gg fun h=>Bool.noConfusion h⟩
    refine Gy (wp_mono h4 (fun v hv=>?_))
    obtain⟨p,hp,h1⟩:=hv.1
    obtain⟨p',h7,h2⟩:=hv.2
    rw [hp] at h7; cases h7
    rw [hp]
    refine Gy (Gg (He (fun h=>no (h2 h)) (fun h=>h8 _ (h1 h))))
  · exact Gy (wp_mono (H0f hs.right hs.tier hl) (fun r hr=>Gg (hr.trans ⟨fun h=>⟨hI,h⟩,fun h=>h.2⟩)))
theorem Yaa (x y:Int):Ga6 x y=some (decide (x < y)):=by
  unfold Ga6 Zp
  rw [M2 (show ¬ (x≠x) from fun h=>h rfl)]
  rfl
theorem shr1 (z:Int) (h0:0≤z) (h1:z≤2000):Jd9 .u64 (IntKind.u64.wrap z) 1=z / 2:=by
  have e:IntKind.u64.wrap z=z:=by
    simp only [IntKind.wrap,IntKind.signed,IntKind.bits]
    simp
    omega
  rw [e]
  unfold Jd9
  rw [show min 1 IntKind.u64.bits=1 from rfl,Int.fdiv_eq_ediv_of_nonneg _ (by decide)]
  rfl
theorem Q1a {F:Nat} {o:List Int} {t:Int} (ho:o.Pairwise (· < ·)) (hl:o.length≤1000) (hF:o.length < F) :
    Wp (Rq F o t) (fun r=>∃ n:Nat,r.1=(n:Int)∧n≤o.length∧(∀ a∈o.take n,a < t)∧(∀ a∈o.drop n,t≤a)∧(r.2=true ↔ o[n]? = some t)):=by
  unfold Rq
  have h0:=List.pairwise_iff_getElem.1 ho
  refine wp_loop (fun st=>∃ i j:Nat,st=((i:Int),(j:Int))∧i≤j∧j≤o.length∧(∀ a∈o.take i,a < t)∧(∀ a∈o.drop j,t≤a)) (fun st=>(st.2 - st.1).toNat) ⟨0,o.length,rfl,Nat.zero_le _,M8,by simp,by simp⟩ (by show ((o.length:Int) - 0).toNat < F; omega) (fun st nx hI h5=>?_)
  obtain⟨i,j,rfl,h1,h2,h3,h4⟩:=hI
  refine He (fun h=>?_) (fun h=>?_)
  · have h:=Kz h
    refine Qy ⟨by omega,by omega⟩ ?_
    rw [shr1 _ (by omega) (by omega)]
    have hm:((i:Int)+(j:Int)) / 2=(((i+j) / 2:Nat):Int):=by omega
    rw [hm]
    have h6:i≤(i+j) / 2:=by omega
    have h7:(i+j) / 2 < j:=by omega
    generalize (i+j) / 2=k at h6 h7
    have hg:o[k]? = some (o[k]'(by omega)):=M4 (by omega)
    refine Qy ⟨by omega,by omega⟩ (Ya rfl hg (Gs (Yaa _ _) (He (fun hh=>Qy ⟨by omega,by omega⟩ (h5 _ ⟨k+1,j,by simp,by omega,h2,fun a ha=>?_,h4⟩ (by simp only; omega))) (fun hh=>h5 _ ⟨i,k,rfl,h6,by omega,h3,fun a ha=>?_⟩ (by simp only; omega)))))
    · have hh:=Kz hh
      obtain⟨q,hq,rfl⟩:=List.mem_iff_getElem.1 ha
      rw [List.length_take] at hq
      rw [List.getElem_take]
      rcases Kx q k with g | g
      · have:=h0 q k (by omega) (by omega) g; omega
      · have:q=k:=by omega
        subst this; exact hh
    · have hh:=M0 hh
      obtain⟨q,hq,rfl⟩:=List.mem_iff_getElem.1 ha
      rw [List.length_drop] at hq
      rw [List.getElem_drop]
      rcases Nat.eq_zero_or_pos q with g | g
      · subst g; simp only [Nat.add_zero]; omega
      · have:=h0 k (k+q) (by omega) (by omega) (by omega); omega
  · have h:=M0 h
    have h8:i=j:=by omega
    subst h8
    by_cases h9:i < o.length
    · have hg:o[i]? = some o[i]:=M4 h9
      rw [M1 (show (i:Int) < (o.length:Int) by omega)]
      simp only [cond_true,Bool.true_and]
      refine Gy (Ya rfl hg (Gg ?_))
      by_cases he:o[i]=t
      · rw [M1 he]
        exact Gy (Gg (Gy (Gg (Gy (Gg (Gg ⟨i,rfl,h2,h3,h4,by simp [hg,he]⟩))))))
      · rw [M2 he]
        simp only [Bool.not_false,cond_true,Bool.true_and]
        refine Gy (Ya rfl hg (Gg ?_))
        unfold G2d
        rw [M2 (show ¬ (o[i]≠o[i]) from fun h=>h rfl)]
        exact Gy (Gg (Gy (Gg (Gg ⟨i,rfl,h2,h3,h4,by simp [hg,he]⟩))))
    · rw [M2 (show ¬ ((i:Int) < (o.length:Int)) by omega)]
      exact Gy (Gg (Gy (Gg (Gy (Gg (Gy (Gg (Gg ⟨i,rfl,h2,h3,h4,by simp [List.getElem?_eq_none (show o.length≤i by omega)]⟩))))))))

theorem Y82 {m:Option Bool} {p:Prop} [Decidable p] (h:Wp m (fun r=>r=true ↔ p)):m=some (decide p):=by
  obtain⟨r,hr,h⟩:=h
  rw [hr]
  congr 1
  cases r with
  | false=>exact(M2 (fun hp=>by have:=h.2 hp; cases this)).symm
  | true=>exact(M1 (h.1 rfl)).symm
instance (a b:Slot):Decidable (Hc7 a b):=by unfold Hc7 H20; infer_instance
def Hf3 (s:Gk) (o:List Int) (x:Slot):Prop:=∃ (m:Nat) (c:G2),x.G2=(m:Int)∧s.Columns[m]? = some c∧c.Deck=false∧0≤R4 s c∧R4 s c ∉ o
theorem Y35 {l:List Stowed} (hs:l.Pairwise (fun a b=>a.Box < b.Box)) {x:Stowed} (hx:x∈l):∃ q:Nat,G3e l x.Box=some (q:Int)∧l[q]? = some x:=by
  rw [Q79]
  rcases H14 (fun z:Stowed=>decide (z.Box=x.Box)) l with ⟨_,h2,_⟩ | ⟨q,x1,h1,h2,h3,_⟩
  · have:=h2 x hx; rw [M1 rfl] at this; cases this
  have h0:x1=x:=Jb6 hs (M6 h2) hx (Kz h3)
  subst h0
  exact⟨q,by rw [h1],h2⟩
theorem Ye3 {l:List Stowed} {id:Int} (hx:id ∉ l.map (·.Box)):G3e l id=some (-1):=by
  rw [Q79]
  rcases H14 (fun z:Stowed=>decide (z.Box=id)) l with ⟨h1,_,_⟩ | ⟨q,x1,h1,h2,h3,_⟩
  · rw [h1]
  · exact(hx (Mm.2 ⟨x1,M6 h2,Kz h3⟩)).elim
theorem H56 {o:List Int} {v:Int}:o.any (fun y=>decide (v=y))=true ↔ v∈o:=by
  rw [List.any_eq_true]
  exact⟨fun⟨y,hy,e⟩=>Kz e ▸ hy,fun h=>⟨v,h,M1 rfl⟩⟩
theorem R95 {o:List Int} {v:Int}:o.any (fun y=>decide (v=y))=false ↔ v ∉ o:=by
  rw [← Bool.not_eq_true,H56]
theorem Sta.checked {s:Gk} {boxes:List Box} {l:List Stowed} (h:Sta s boxes l) {o:List Int} (hO:Gf9 s o):Zk s boxes l o=some true:=by
  have hl:=h.len
  exact G30 (wp_mono (R3d (G27 h.ship) boxes l o (by omega)) (fun r hr=>hr.2 ⟨hO,h.right⟩))
theorem free_spec {s:Gk} {boxes:List Box} {l:List Stowed} {o:List Int} (h:Sta s boxes l) (hO:Gf9 s o) {x:Stowed} (hx:x∈l) :
    Wp (Ge6 s boxes l o x.Box) (fun r=>(r=90∧H75 l x.Slot≠[])∨(r=91∧H75 l x.Slot=[]∧Hf3 s o x.Slot)∨(r=0∧H75 l x.Slot=[]∧¬ Hf3 s o x.Slot)):=by
  have hs:=G27 h.ship
  unfold Ge6
  refine Gs (h.checked hO) (He (fun h=>by cases h) (fun _=>Gs (Yb2 h hx) (He (fun h=>(Kz h rfl).elim) (fun _=>He (fun h=>Gg (.inl ⟨rfl,fun e=>?_⟩)) (fun h0=>?_)))))
  · rw [e] at h; exact absurd (Kz h) (by simp)
  have h0:H75 l x.Slot=[]:=Ku (by have:=M0 h0; simp only at this; omega)
  obtain⟨q,h2,h3⟩:=Y35 h.right.sorted hx
  obtain⟨m,c,hm,hc⟩:=h.colIn hx
  refine Gs h2 (Ya rfl h3 ?_)
  rw [hm]
  refine Gs (Re8 hc (fun x hx=>by have:=hs.rows x hx; omega) (by have:=hs.covs; omega)) ?_
  have h1:Hf3 s o x.Slot ↔ (c.Deck=false∧0≤R4 s c∧R4 s c ∉ o):=by
    constructor
    · rintro⟨m',c',e1,e2,e3,e4,e5⟩
      have:m'=m:=by omega
      subst this
      rw [hc] at e2; cases e2
      exact⟨e3,e4,e5⟩
    · rintro⟨e3,e4,e5⟩
      exact⟨m,c,hm,hc,e3,e4,e5⟩
  by_cases hd:c.Deck=true
  · rw [if_pos hd]
    exact Gy (Gg (He (fun h=>by cases h) (fun _=>Gg (.inr (.inr ⟨rfl,h0,fun hh=>by rw [(h1.1 hh).1] at hd; cases hd⟩)))))
  rw [if_neg hd]
  have hd:c.Deck=false:=by simpa using hd
  by_cases hk:0≤R4 s c
  · rw [M1 hk]
    simp only [cond_true,Bool.true_and]
    refine Gs (H55 _ _) (He (fun h=>Gg (.inr (.inl ⟨rfl,h0,h1.2 ⟨hd,hk,R95.1 (by simpa using h)⟩⟩))) (fun h=>Gg (.inr (.inr ⟨rfl,h0,fun hh=>(h1.1 hh).2.2 (H56.1 (by simpa using h))⟩))))
  · rw [M2 hk]
    exact Gy (Gg (He (fun h=>by cases h) (fun _=>Gg (.inr (.inr ⟨rfl,h0,fun hh=>hk (h1.1 hh).2.1⟩)))))
theorem Y52 {s:Gk} {boxes:List Box} {l:List Stowed} {o:List Int} (h:Sta s boxes l) {x:Stowed} (hx:x∈l) {v:Int} (hv:Ge6 s boxes l o x.Box=some v) :
    Wp (G98 s boxes l o x.Box) (fun r=>r.2=v∧(v=0→∃ pre post,l=pre++x::post∧r.1=pre++post)):=by
  unfold G98
  refine Gs hv (He (fun h=>Gg ⟨rfl,fun e=>(Kz h e).elim⟩) (fun h0=>?_))
  have h0:v=0:=by have:=M0 h0; omega
  obtain⟨q,h3,h1⟩:=Y35 h.right.sorted hx
  refine Gs h3 ?_
  have h2:=(M3 h1).1
  have hl:=h.len
  have e:Y2 l (q:Int)=some (l.eraseIdx q):=by
    unfold Y2
    rw [M1 (show (0:Int)≤(q:Int) by omega),M1 (show (q:Int) < (l.length:Int) by omega),M1 (show l.length≤100000 by omega),show ((q:Int)).toNat=q by omega]
    rfl
  refine Gs e (Gg ⟨h0.symm,fun _=>⟨l.take q,l.drop (q+1),?_,?_⟩⟩)
  · have hg:l[q]=x:=M5 ((M4 h2).symm.trans h1)
    have:=List.take_append_drop q l
    rw [List.drop_eq_getElem_cons h2,hg] at this
    exact this.symm
  · exact List.eraseIdx_eq_take_drop_succ l q
def J62 (s:Gk) (l:List Stowed) (k:Int):Prop:=∀ y∈l,∀ (m:Nat) (c:G2),y.Slot.G2=(m:Int)→s.Columns[m]? = some c→c.Deck=true→R4 s c≠k
theorem Y61 {F:Nat} {s:Gk} {boxes:List Box} {l:List Stowed} {o:List Int} (h:Sta s boxes l) (hO:Gf9 s o) (hF:20≤F) {k:Nat} (hk:k < s.Covers.length) :
    Wp (G3f F s boxes l o (k:Int)) (fun r=>(¬ J62 s l (k:Int)∧r=([],95))∨(J62 s l (k:Int)∧r.2=0∧Gf9 s r.1∧∀ a,a∈r.1 ↔ a∈o∨a=(k:Int))):=by
  have hs:=G27 h.ship
  have hl:=h.len
  have a2:=h.ship.covs.len
  have a3:=hO.len
  unfold G3f
  refine Gs (h.checked hO) (He (fun h=>by cases h) (fun _=>He (fun h=>?_) (fun _=>?_)))
  · simp only [Mq,Mi] at h; omega
  refine Gy (wp_mono (Y53 (R89 h.ship) hk (fun x hx=>by have:=hs.rows x hx; omega) (by omega)) (fun up h9=>He (fun hh=>Gg (.inl ⟨fun h0=>?_,rfl⟩)) (fun hh=>?_)))
  · have hh:=Kz hh
    obtain⟨a,ha⟩:∃ a,a∈up:=by
      cases up with
      | nil=>simp at hh
      | cons a r=>exact⟨a,by simp⟩
    obtain⟨y,hy,_,m,c,e1,e2,e3,e4⟩:=(h9 a).1 ha
    exact h0 y hy m c e1 e2 e3 e4
  have a0:J62 s l (k:Int):=fun y hy m c e1 e2 e3 e4=>by
    have:=(h9 y.Box).2 ⟨y,hy,rfl,m,c,e1,e2,e3,e4⟩
    have hh:=M0 hh
    have:up≠[]:=fun e=>by rw [e] at this; cases this
    have:=List.length_pos_iff.2 this
    omega
  refine Gy (wp_mono (Q1a hO.sorted (by omega) (by omega)) (fun r hr=>?_))
  obtain⟨n,h1,h2,h3,h4,h5⟩:=hr
  refine He (fun hf=>?_) (fun hf=>?_)
  · have a1:(k:Int)∈o:=M6 (h5.1 hf)
    have e:Q4 o=some o:=by
      unfold Q4
      refine J3f (fun b hb=>?_)
      cases b with
      | true=>rw [hb rfl]; rfl
      | false=>
        show need _ _=_
        unfold need
        rw [Z19 (by simp only [List.length_nil]; omega)]
        rfl
    exact Gs e (Gg (.inr ⟨a0,rfl,hO,fun a=>⟨.inl,fun hh=>hh.elim id (fun e=>e ▸ a1)⟩⟩))
  · have hf:¬ o[n]? = some (k:Int):=fun e=>by rw [h5.2 e] at hf; cases hf
    have e:G34 o r.1 (k:Int)=some (o.take n++(k:Int)::o.drop n):=by
      unfold G34
      rw [h1,M1 (show (0:Int)≤(n:Int) by omega),M1 (show (n:Int)≤(o.length:Int) by omega),M1 (show o.length≤100000 by omega),show ((n:Int)).toNat=n by omega]
      rfl
    have h8:∀ a,a∈o.take n++(k:Int)::o.drop n ↔ a∈o∨a=(k:Int):=fun a=>by
      have:a∈o ↔ a∈o.take n∨a∈o.drop n:=by rw [← Mk,List.take_append_drop]
      rw [this,Mk,Mo]
      constructor
      · rintro(h | h | h)
        · exact .inl (.inl h)
        · exact .inr h
        · exact .inl (.inr h)
      · rintro((h | h) | h)
        · exact .inl h
        · exact .inr (.inr h)
        · exact .inr (.inl h)
    refine Gs e (Gg (.inr ⟨a0,rfl,⟨fun a ha=>?_,?_⟩,h8⟩))
    · rcases (h8 a).1 ha with h | h
      · exact hO.mem a h
      · omega
    · have h7:=hO.sorted
      rw [← List.take_append_drop n o,List.pairwise_append] at h7
      refine List.pairwise_append.2 ⟨h7.1,List.pairwise_cons.2 ⟨fun a ha=>?_,h7.2.1⟩,fun a ha b hb=>?_⟩
      · have h6:=h4 a ha
        have:a≠(k:Int):=fun e=>by
          subst e
          obtain⟨j,hj,e2⟩:=List.mem_iff_getElem.1 ha
          rw [List.length_drop] at hj
          rw [List.getElem_drop] at e2
          have hp:=List.pairwise_iff_getElem.1 hO.sorted
          rcases Nat.eq_zero_or_pos j with g | g
          · subst g
            exact hf (by rw [← e2]; simp [M4 (show n < o.length by omega)])
          · have g1:=hp n (n+j) (by omega) (by omega) (by omega)
            have g2:=h4 o[n] (List.mem_iff_getElem.2 ⟨0,by rw [List.length_drop]; omega,by rw [List.getElem_drop]; simp⟩)
            omega
        omega
      · rcases Mo.1 hb with rfl | hb
        · exact h3 a ha
        · exact h7.2.2 a ha b hb

theorem R9c {boxes:List Box} {m half n:Int} {x:Stowed}:Gd5 boxes m half n x=n+Gd5 boxes m half 0 x:=by
  unfold Gd5
  split
  · cases Qj boxes x.Box with
    | some b=>simp only; omega
    | none=>simp
  · simp
theorem J80 {boxes:List Box} {m half:Int}:∀ (l:List Stowed) (n:Int),l.foldl (Gd5 boxes m half) n=n+l.foldl (Gd5 boxes m half) 0:=by
  intro l
  induction l with
  | nil=>intro n; simp
  | cons x r ih=>
    intro n
    rw [List.foldl_cons,List.foldl_cons,ih (Gd5 boxes m half n x),ih (Gd5 boxes m half 0 x),R9c (n:=n)]
    omega
theorem Hf0 {boxes:List Box} {m half:Int} (pre post:List Stowed) (x:Stowed):Zi boxes (pre++x::post) m half=Zi boxes (pre++post) m half+Gd5 boxes m half 0 x:=by
  unfold Zi
  rw [List.foldl_append,List.foldl_cons,List.foldl_append,J80 post (Gd5 boxes m half _ x),J80 post (List.foldl _ 0 pre),R9c]
  omega
theorem Qaa {boxes:List Box} {m half n:Int} {x:Stowed} (h:x.Slot.G2≠m):Gd5 boxes m half n x=n:=by
  unfold Gd5
  rw [if_neg (fun hh=>h hh.1)]
theorem G95 {l:List Stowed} {y:Slot} {half:Int} (h:below (l.map (·.Slot)) y half):∃ z∈l,z.Slot=⟨y.G2,y.Tier - 1,half⟩:=by
  obtain⟨z,hz,e⟩:=Mm.1 h
  exact⟨z,hz,e⟩
theorem Je4 {pre post:List Stowed} {x:Stowed} {y:Slot} (hn:¬ Ha3 y x.Slot) (h:H3f y ((pre++x::post).map (·.Slot))):H3f y ((pre++post).map (·.Slot)):=by
  have key:∀ half,(half=y.Half∨y.Half=0)→below ((pre++x::post).map (·.Slot)) y half→below ((pre++post).map (·.Slot)) y half:=fun half hh hb=>by
    obtain⟨z,hz,e⟩:=G95 hb
    refine Mm.2 ⟨z,?_,e⟩
    have h3:z≠x:=fun e2=>hn (by
      subst e2
      rw [e]
      refine⟨rfl,by simp only; omega,?_⟩
      rcases hh with hh | hh
      · exact .inl hh.symm
      · exact .inr (.inl hh))
    simp only [Mk,Mo] at hz ⊢
    rcases hz with hz | hz | hz
    · exact .inl hz
    · exact(h3 hz).elim
    · exact .inr hz
  rcases h with h | h | ⟨h0,h1,h2⟩
  · exact .inl h
  · exact .inr (.inl (key _ (.inl rfl) h))
  · exact .inr (.inr ⟨h0,key _ (.inr h0) h1,key _ (.inr h0) h2⟩)
theorem Y2c {pre post:List Stowed} {x y:Stowed} (h:y∈pre++post):y∈pre++x::post:=by
  simp only [Mk,Mo] at h ⊢
  rcases h with h | h
  · exact .inl h
  · exact .inr (.inr h)
theorem Q85 {s:Gk} {boxes:List Box} {pre post:List Stowed} {x:Stowed} (h:Yz s boxes (pre++x::post)) (ho:H75 (pre++x::post) x.Slot=[]):Yz s boxes (pre++post):=by
  have h0:(pre++post).Sublist (pre++x::post):=List.Sublist.append_left (List.sublist_cons_self ..) _
  refine⟨fun y hy=>?_,h.sorted.sublist h0,h.apart.sublist h0,fun m c hc=>?_⟩
  · obtain⟨b,h1,h2,h3⟩:=h.each y (Y2c hy)
    refine⟨b,h1,h2,Je4 (fun hv=>?_) h3⟩
    have:y.Box∈H75 (pre++x::post) x.Slot:=Hbb.2 ⟨y,Y2c hy,rfl,hv⟩
    rw [ho] at this; cases this
  · have:=h.fits m c hc
    unfold J08 at this ⊢
    rw [Hf0,Hf0] at this
    have a1:=(Q43 (boxes:=boxes) (column:=(m:Int)) (half:=1) (n:=0) (x:=x)).1
    have a2:=(Q43 (boxes:=boxes) (column:=(m:Int)) (half:=2) (n:=0) (x:=x)).1
    rcases this with h | ⟨h,h'⟩
    · exact .inl h
    · exact .inr ⟨by omega,by omega⟩
def J67 (l:List Stowed) (x:Stowed) (r:List Stowed):Prop:=∃ pre post,l=pre++post∧r=pre++x::post∧(∀ y∈pre,y.Box < x.Box)∧(∀ y,post.head? = some y→x.Box≤y.Box)
theorem R7e {F:Nat} {p:Gw} (hl:p.l.length≤1000) (hF:p.l.length < F):Wp (Yu F p) (J67 p.l p.x):=by
  unfold Yu
  refine wp_loop (fun n=>∃ k:Nat,n=(k:Int)∧k≤p.l.length∧∀ y∈p.l.take k,y.Box < p.x.Box) (fun n=>((p.l.length:Int) - n).toNat) ⟨0,rfl,Nat.zero_le _,fun y hy=>by rw [List.take_zero] at hy; cases hy⟩ (by show ((p.l.length:Int) - 0).toNat < F; omega) (fun n nx hI h0=>?_)
  obtain⟨k,rfl,h1,h2⟩:=hI
  have done:(∀ y,(p.l.drop k).head? = some y→p.x.Box≤y.Box)→Wp (bnd (Y5 p.l (k:Int) p.x) fun r16=>some r16) (J67 p.l p.x):=fun h3=>by
    have e:Y5 p.l (k:Int) p.x=some (p.l.take k++p.x::p.l.drop k):=by
      unfold Y5
      rw [M1 (show (0:Int)≤(k:Int) by omega),M1 (show (k:Int)≤(p.l.length:Int) by omega),M1 (show p.l.length≤100000 by omega),show ((k:Int)).toNat=k by omega]
      rfl
    exact Gs e (Gg ⟨p.l.take k,p.l.drop k,(List.take_append_drop k p.l).symm,rfl,h2,h3⟩)
  by_cases hk:k < p.l.length
  · have hg:p.l[k]? = some p.l[k]:=M4 hk
    rw [M1 (show (k:Int) < (p.l.length:Int) by omega)]
    simp only [cond_true,Bool.true_and]
    refine Gy (Ya rfl hg (Gg (He (fun h=>Qy ⟨by omega,by omega⟩ (h0 _ ⟨k+1,by simp,by omega,fun y hy=>?_⟩ (by omega))) (fun h=>done fun y hy=>?_))))
    · rw [List.take_succ_eq_append_getElem hk] at hy
      rcases Mk.1 hy with hy | hy
      · exact h2 y hy
      · rw [Mn] at hy; subst hy
        exact Kz h
    · rw [List.head?_drop,hg] at hy
      cases hy
      have:=M0 h
      omega
  · rw [M2 (show ¬ ((k:Int) < (p.l.length:Int)) by omega)]
    refine Gy (Gg (He (fun h=>by cases h) (fun _=>done fun y hy=>?_)))
    rw [List.head?_drop,List.getElem?_eq_none (by omega)] at hy
    cases hy
def Hc3 (s:Gk) (o:List Int) (x:Slot):Prop:=∃ (m:Nat) (c:G2),x.G2=(m:Int)∧s.Columns[m]? = some c∧0≤R4 s c∧(c.Deck=true ↔ R4 s c∈o)
def Qde (l:List Stowed) (x:Slot):Prop:=∃ y∈l,Hc7 x y.Slot
def Qe7 (s:Gk) (boxes:List Box) (q:List Stowed) (x:Slot):Prop:=∀ (m:Nat) (c:G2),x.G2=(m:Int)→s.Columns[m]? = some c→J08 boxes q m c
def PutR (s:Gk) (boxes:List Box) (l:List Stowed) (o:List Int) (x:Stowed) (size:Int) (r:List Stowed×Int):Prop:=
  (¬ G69 s x.Slot size∧r=([],97))∨(G69 s x.Slot size∧((Hc3 s o x.Slot∧r=([],91))∨(¬ Hc3 s o x.Slot∧((Qde l x.Slot∧r=([],92))∨(¬ Qde l x.Slot∧((¬ H3f x.Slot (l.map (·.Slot))∧r=([],93))∨(H3f x.Slot (l.map (·.Slot))∧∃ q,J67 l x q∧((¬ Qe7 s boxes q x.Slot∧r=([],94))∨(Qe7 s boxes q x.Slot∧r=(q,0))))))))))
theorem Y55 {s:Gk} {boxes:List Box} {l:List Stowed} {o:List Int} (h:Sta s boxes l) {x:Stowed} {size:Int} (hx:G69 s x.Slot size):Wp (G19 (Gw.mk s boxes l o x)) (fun r=>r=true ↔ Hc3 s o x.Slot):=by
  have hs:=G27 h.ship
  obtain⟨m,c,hm,hc,_⟩:=hx.col
  have h0:Hc3 s o x.Slot ↔ (0≤R4 s c∧(c.Deck=true ↔ R4 s c∈o)):=by
    constructor
    · rintro⟨m',c',e1,e2,e3⟩
      have:m'=m:=by omega
      subst this
      rw [hc] at e2; cases e2
      exact e3
    · exact fun e=>⟨m,c,hm,hc,e⟩
  unfold G19
  show Wp (bnd (Yg s x.Slot.G2) _) _
  rw [hm]
  refine Gs (H53 hc (fun x hx=>by have:=hs.rows x hx; omega) (by have:=hs.covs; omega)) ?_
  by_cases hk:0≤R4 s c
  · rw [M1 hk]
    simp only [cond_true,Bool.true_and]
    refine Gy (Ya rfl hc (Gg (Gs (H55 _ _) (Gg ?_))))
    rw [h0,beq_iff_eq,Bool.eq_iff_iff,H56]
    exact⟨fun h=>⟨hk,h⟩,fun h=>h.2⟩
  · rw [M2 hk]
    refine Gy (Gg (Gy (Gg (Gg (H42 fun hh=>hk (h0.1 hh).1)))))
theorem Y9d {s:Gk} {boxes:List Box} {l:List Stowed} {o:List Int} {x:Stowed}:Wp (G2c (Gw.mk s boxes l o x)) (fun r=>r=true ↔ Qde l x.Slot):=by
  have h:=H7d (p:=fun y:Stowed=>decide (Hc7 x.Slot y.Slot)) (f:=fun z0=>Yd z0 (Gw.mk s boxes l o x)) (xs:=l) (fun y _=>by
    unfold Yd
    exact G30 (Gs (Y82 (Jd6 x.Slot y.Slot)) (Gg rfl)))
  have e:R1 l (fun z0=>Yd z0 (Gw.mk s boxes l o x))=some (J54 (fun y:Stowed=>decide (Hc7 x.Slot y.Slot)) l):=h
  unfold G2c Hy
  refine Gy (Gs e (Gg (Gg ?_)))
  rw [H2e,List.any_eq_true]
  exact⟨fun⟨y,hy,h⟩=>⟨y,hy,Kz h⟩,fun⟨y,hy,h⟩=>⟨y,hy,M1 h⟩⟩
theorem R81 {F:Nat} {s:Gk} {boxes:List Box} {l:List Stowed} {o:List Int} (h:Sta s boxes l) (hO:Gf9 s o) (hF:20≤F) {x:Stowed} {b:Box} (hb:Qj boxes x.Box=some b) (hz:b.Size=20∨b.Size=40) (hx:x.Box ∉ l.map (·.Box)) :
    Wp (G99 F s boxes l o x) (PutR s boxes l o x b.Size):=by
  have hs:=G27 h.ship
  have hl:=h.len
  unfold G99
  refine Gs (h.checked hO) (He (fun h=>by cases h) (fun _=>Gs (Hb7 boxes x.Box) ?_))
  rw [hb]
  refine He (fun hh=>?_) (fun _=>Gs (Ye3 hx) (He (fun hh=>by simp at hh) (fun _=>?_)))
  · simp only [Bool.not_true,Bool.false_or,Mh,Mi] at hh
    omega
  refine Gy (wp_mono (J76 s x.Slot b.Size) (fun r15 h7=>He (fun hh=>Gg (.inl ⟨fun hk=>?_,rfl⟩)) (fun hh=>?_)))
  · rw [h7.2 hk] at hh; cases hh
  have h4:G69 s x.Slot b.Size:=h7.1 (by simpa using hh)
  have h6 : -1000000≤x.Slot.Tier∧x.Slot.Tier≤1000000:=by
    obtain⟨m,c,_,hc,ht⟩:=h4.col
    have:=hs.tiers c (M6 hc)
    have:=h4.tier
    omega
  obtain⟨q,hq,h5⟩:=R7e (F:=F) (p:=Gw.mk s boxes l o x) (by show l.length≤1000; omega) (by show l.length < F; omega)
  have h9:q.length≤1000000:=by
    obtain⟨pre,post,e1,e2,_⟩:=h5
    have:l=pre++post:=e1
    rw [e2]
    have h2:=congrArg List.length this
    simp only [Mf,Mb] at h2 ⊢
    omega
  refine G00 (by decide) ?_
  rw [show (4:Int).toNat=4 from rfl]
  refine R20 (fun i _=>(1≤i→¬ Hc3 s o x.Slot)∧(2≤i→¬ Qde l x.Slot)∧(3≤i→H3f x.Slot (l.map (·.Slot)))∧(4≤i→Qe7 s boxes q x.Slot)) ⟨fun h=>by omega,fun h=>by omega,fun h=>by omega,fun h=>by omega⟩ (fun i u nx hi hI a4=>?_) (fun u hI=>?_)
  · obtain⟨i1,i2,i3,i4⟩:=hI
    refine G51 (fun _=>(1≤i+1→¬ Hc3 s o x.Slot)∧(2≤i+1→¬ Qde l x.Slot)∧(3≤i+1→H3f x.Slot (l.map (·.Slot)))∧(4≤i+1→Qe7 s boxes q x.Slot)) (fun K hK=>?_) (fun j hj=>a4 _ hj)
    refine He (fun h0=>?_) (fun h0=>He (fun h1=>?_) (fun h1=>He (fun h2=>?_) (fun h2=>He (fun h3=>?_) (fun h3=>?_))))
    · have h0:=Kz h0
      refine Gy (wp_mono (Y55 h h4) (fun r hr=>He (fun hh=>Qy ⟨by omega,by omega⟩ (Gg (.inr ⟨h4,.inl ⟨hr.1 hh,?_⟩⟩))) (fun hh=>hK _ ⟨fun _ hk=>?_,fun h=>by omega,fun h=>by omega,fun h=>by omega⟩)))
      · rw [h0]; rfl
      · rw [hr.2 hk] at hh; cases hh
    · have h0:=M0 h0
      have h1:=Kz h1
      refine Gy (wp_mono Y9d (fun r hr=>He (fun hh=>Qy ⟨by omega,by omega⟩ (Gg (.inr ⟨h4,.inr ⟨i1 (by omega),.inl ⟨hr.1 hh,?_⟩⟩⟩))) (fun hh=>hK _ ⟨fun _=>i1 (by omega),fun _ hk=>?_,fun h=>by omega,fun h=>by omega⟩)))
      · rw [h1]; rfl
      · rw [hr.2 hk] at hh; cases hh
    · have h2:=Kz h2
      unfold G3d
      refine Gy (Gs (Q78 l (by omega)) (Gy (wp_mono (Jd7 x.Slot (l.map (·.Slot)) h6) (fun r hr=>Gg (He (fun hh=>Qy ⟨by omega,by omega⟩ (Gg (.inr ⟨h4,.inr ⟨i1 (by omega),.inr ⟨i2 (by omega),.inl ⟨fun hk=>?_,?_⟩⟩⟩⟩))) (fun hh=>hK _ ⟨fun _=>i1 (by omega),fun _=>i2 (by omega),fun _=>hr.1 (by simpa using hh),fun h=>by omega⟩))))))
      · rw [hr.2 hk] at hh; cases hh
      · rw [h2]; rfl
    · have h3:=Kz h3
      obtain⟨m,c,hm,hc,_⟩:=h4.col
      have h8:Qe7 s boxes q x.Slot ↔ J08 boxes q m c:=by
        refine⟨fun hf=>hf m c hm hc,fun hf m' c' e1 e2=>?_⟩
        have:m'=m:=by omega
        subst this
        rw [hc] at e2; cases e2
        exact hf
      unfold G50
      refine Gy (Gs hq ?_)
      show Wp (bnd (G97 s boxes q x.Slot.G2) _) _
      rw [hm]
      refine Gy (wp_mono (Qf1 hc h9) (fun r hr=>Gg (He (fun hh=>Qy ⟨by omega,by omega⟩ (Gg (.inr ⟨h4,.inr ⟨i1 (by omega),.inr ⟨i2 (by omega),.inr ⟨i3 (by omega),q,h5,.inl ⟨fun hk=>?_,?_⟩⟩⟩⟩⟩))) (fun hh=>hK _ ⟨fun _=>i1 (by omega),fun _=>i2 (by omega),fun _=>i3 (by omega),fun _=>h8.2 (hr.1 (by simpa using hh))⟩))))
      · rw [hr.2 (h8.1 hk)] at hh; cases hh
      · rw [h3]; rfl
    · have a0:=M0 h0
      have a1:=M0 h1
      have a2:=M0 h2
      have a3:=M0 h3
      omega
  · obtain⟨i1,i2,i3,i4⟩:=hI
    exact Gs hq (Gg (.inr ⟨h4,.inr ⟨i1 (by omega),.inr ⟨i2 (by omega),.inr ⟨i3 (by omega),q,h5,.inr ⟨i4 (by omega),rfl⟩⟩⟩⟩⟩))
end Go.Proofs.YtidpfkmbfgihlaaGreat
