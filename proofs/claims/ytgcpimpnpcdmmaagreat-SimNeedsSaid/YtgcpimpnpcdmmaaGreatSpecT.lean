/-
 The voyages that twistlocklaw23.Voyage makes,and what is lf Between two states of a plan: What is open behind a cover's closing. The library's insertion sort,aQ the extractor's model has it What moves.Tasks returns:
-/
import Derived.Test.YtgcpimpnpcdmmaaGreatPutB
import Derived.Test.YtgcpimpnpcdmmaaGreatVec
import Derived.Test.YtgcpimpnpcdmmaaGreatXM
set_option maxRecDepth 100000
set_option linter.unusedVariables false
namespace Go.Proofs.YtgcpimpnpcdmmaaGreat
open Go.RowKit
section maps
variable {κ ν:Type} [DecidableEq κ]
theorem Qf5 (a:κ) (z:ν):Ha.get (Ha.empty:Ha κ ν) a z=z:=rfl
theorem R81 (m:Ha κ ν) (a b:κ) (v z:ν):Ha.get (Ha.put m a v) b z=if a=b then v else Ha.get m b z:=by
 unfold Ha.get Ha.put
 simp only [Heb]
 split <;> rfl
end maps
def Ja2 (l:List G1) (x:G1):List G1:=l.filter (fun y=>decide (y.Box < x.Box))++[x]++l.filter (fun y=>decide (x.Box < y.Box))
theorem G76 {α:Type} (p:α→Bool) (l:List α) (x:α):(l++[x]).filter p=l.filter p++(if p x then [x] else []):=by
 rw [List.filter_append]
 by_cases h:p x <;> simp [h]
theorem Qdc (l:List G1) (x:G1) (hl:l.length≤100000):Ys l x=some (Ja2 l x):=by
 refine G60 ?_
 unfold Ys Ja2
 refine Jo (fun pre s=>s=pre.filter (fun y=>decide (y.Box < x.Box))) rfl (fun pre y post s nx e hs h0=>?_) (fun s hs=>?_)
 ·subst hs
  have hp:pre.length+1≤l.length:=by rw [e]; simp
  have hf:=Ky (fun y:G1=>decide (y.Box < x.Box)) pre
  refine G00 (fun j=>j=(pre++[y]).filter (fun y=>decide (y.Box < x.Box))) (fun K hK=>Hu (fun h=>Rj (G12 (by rw [Mj]; omega) (by omega)) (hK _ ?_)) (fun h=>hK _ ?_)) (fun j hj=>h0 _ hj)
  ·rw [G76,h]; rfl
  ·rw [G76,h]; simp
 ·subst hs
  have hf:=Ky (fun y:G1=>decide (y.Box < x.Box)) l
  refine Rj (G12 (by rw [Mj]; omega) (by omega)) ?_
  refine Jo (fun pre s=>s=l.filter (fun y=>decide (y.Box < x.Box))++[x]++pre.filter (fun y=>decide (x.Box < y.Box))) (by simp) (fun pre y post s nx e hs h0=>?_) (fun s hs=>Gn hs)
  subst hs
  have hp:pre.length+1≤l.length:=by rw [e]; simp
  have hg:=Ky (fun y:G1=>decide (x.Box < y.Box)) pre
  refine G00 (fun j=>j=l.filter (fun y=>decide (y.Box < x.Box))++[x]++(pre++[y]).filter (fun y=>decide (x.Box < y.Box))) (fun K hK=>Hu (fun h=>Rj (G12 (by simp only [Mi,Mj]; omega) (by omega)) (hK _ ?_)) (fun h=>hK _ ?_)) (fun j hj=>h0 _ hj)
  ·rw [G76,h]; simp
  ·rw [G76,h]; simp
theorem J82 {l:List G1} {x y:G1}:y∈Ja2 l x ↔ y=x∨(y∈l∧y.Box≠x.Box):=by
 unfold Ja2
 simp only [Mo,Ms,Mq,Mm]
 constructor
 ·rintro((⟨h1,h2⟩ | h) | ⟨h1,h2⟩)
  ·exact .inr ⟨h1,by omega⟩
  ·exact .inl h
  ·exact .inr ⟨h1,by omega⟩
 ·rintro(h | ⟨h1,h2⟩)
  ·exact .inl (.inr h)
  ·rcases Int.lt_or_gt_of_ne h2 with h | h
   ·exact .inl (.inl ⟨h1,h⟩)
   ·exact .inr ⟨h1,h⟩
theorem R75 (l:List G1) (x:G1):(Ja2 l x).length≤2*l.length+1:=by
 unfold Ja2
 have h1:=Ky (fun y:G1=>decide (y.Box < x.Box)) l
 have h2:=Ky (fun y:G1=>decide (x.Box < y.Box)) l
 simp only [Mi,Mj]
 omega
def Y61 (l:List G1) (id:Int):Bool:=l.any (fun x=>decide (x.Box=id))
theorem Y60 {l:List G1} {id:Int}:Y61 l id=true ↔ id∈l.map (·.Box):=by
 unfold Y61
 rw [List.any_eq_true,Mp]
 constructor
 ·rintro⟨x,h1,h2⟩; exact⟨x,h1,M2 h2⟩
 ·rintro⟨x,h1,h2⟩; exact⟨x,h1,M4 h2⟩
theorem law23_holds (l : List G1) (id : Int) : M_twistlocklaw23_holds l id = some (Y61 l id) := by
 refine G60 ?_
 unfold M_twistlocklaw23_holds
 refine Jo (fun pre _=>∀ x∈pre,decide (x.Box=id)=false) (fun x hx=>(Ma hx).elim) (fun pre y post s nx e hI h0=>Hu (fun h=>Gn ?_) (fun h=>h0 _ (fun x hx=>?_))) (fun s hI=>Gn ?_)
 ·exact(List.any_eq_true.2 ⟨y,by rw [e]; simp,h⟩).symm
 ·rcases Mo.1 hx with hx | hx
  ·exact hI x hx
  ·rw [Mq] at hx; subst hx; exact h
 ·refine(List.any_eq_false.2 fun x hx=>?_).symm
  rw [hI x hx]; exact Bool.false_ne_true
def J8d (boxes:List Box) (k:Int):List Int:=(boxes.filter (abB k)).map (·.ID)
theorem Gfa (l:List G1) (id:Int):Gbb l id=some (Za l id):=by
 unfold Gbb
 have h:Qd l (fun z0=>Ge2 z0 id)=some (J60 (fun x:G1=>decide (x.Box=id)) l):=Ha4 (fun x _=>rfl)
 rw [h]
 simp only [Ha5]
 unfold Za Qe8
 rcases H3b (fun x:G1=>decide (x.Box=id)) l with ⟨h1,_,h3⟩ | ⟨m,x,h1,h2,_,h4⟩
 ·rw [h1,h3]; rfl
 ·rw [h1,h4,M5 (by omega),cond_false]
  unfold Qm
  rw [M4 (by omega),cond_true,show (m:Int).toNat=m by omega,h2]
  rfl
theorem Qe9 {l:List G1} {id:Int}:(Za l id).2=true ↔ id∈l.map (·.Box):=by
 unfold Za
 cases h:Qe8 l id with
 | none=>
  refine⟨fun e=>(by cases e),fun e=>?_⟩
  obtain⟨x,hx,he⟩:=Mp.1 e
  have:=List.find?_eq_none.1 h x hx
  simp [he] at this
 | some x=>
  refine⟨fun _=>?_,fun _=>rfl⟩
  have h1:=List.mem_of_find?_eq_some h
  have h2:=M2 (List.find?_some (p:=fun x:G1=>decide (x.Box=id)) h)
  exact Mp.2 ⟨x,h1,h2⟩
theorem Hf2 {l:List G1} {id:Int} (h:(Za l id).2=true):∃ x∈l,x.Box=id∧(Za l id).1=x.Slot:=by
 unfold Za at h ⊢
 cases hf:Qe8 l id with
 | none=>rw [hf] at h; cases h
 | some x=>exact⟨x,List.mem_of_find?_eq_some hf,M2 (List.find?_some (p:=fun x:G1=>decide (x.Box=id)) hf),rfl⟩
theorem Jef {s:Gj} (h:Hd4 s):Ja8 s:=
 ⟨h.some,h.cols.len,fun c hc=>⟨c,0,h.cols.each c hc,.inl rfl,by rw [← (h.cols.each c hc).height]⟩,h.cols.nodup,h.covs⟩
theorem Q6e {s:Gj} (h:Hd4 s):Small s:=J80 (Jef h)
theorem Y83 (m:Ha Int Unit) (k:Int):G39 m k=some (if Ha.has m k then (false,m) else (true,Ha.put m k ())):=by
 unfold G39
 cases Ha.has m k <;> rfl
structure J69 (s:Gj) (U:List Int) (states:List (List G1)):Prop where
 small:Small s
 each:∀ st∈states,∀ x∈st,x.Box∈U∧Hd3 s x.Slot
 len:U.length≤1000
structure Zf3 (calls:Int) (b:Box):Prop where
 id:5≤b.ID∧b.ID≤999999
 size:b.Size=40∨(b.Size=20∧b.High=false)
 load:0≤b.Load
 stay:b.Load < b.Discharge
 out:b.Discharge < calls
structure Gcb (calls:Int) (boxes:List Box):Prop where
 num:1≤calls∧calls≤20
 len:boxes.length≤10
 each:∀ b∈boxes,Zf3 calls b
 sorted:boxes.Pairwise (fun a b=>a.ID < b.ID)
structure Hcd (s:Gj) (boxes:List Box) (k:Int) (l:List G1):Prop where
 right:Re s boxes l
 ids:l.map (·.Box)=J8d boxes k
structure Q2e (s:Gj) (boxes:List Box) (calls:Int) (p:J26):Prop where
 len:(p.States.length:Int)=calls
 each:∀ (k:Nat) l,p.States[k]? = some l→Hcd s boxes k l
theorem Y6d (boxes:List Box) (k:Int):(J8d boxes k).length≤boxes.length:=by
 unfold J8d
 rw [Mn]
 exact Ky _ _
theorem Hcd.len {s:Gj} {boxes:List Box} {k:Int} {l:List G1} (h:Hcd s boxes k l):l.length≤boxes.length:=by
 have:=congrArg List.length h.ids
 rw [Mn] at this
 rw [this]
 exact Y6d boxes k
theorem Ybb {s:Gj} {boxes:List Box} {bf af:List G1} (hs:Small s) (h1:Re s boxes bf) (h2:Re s boxes af) (l1:bf.length≤100) (l2:af.length≤100) :
  J69 s (bf.map (·.Box)++af.map (·.Box)) [bf,af]:=by
 refine⟨hs,fun st h0 x hx=>?_,by simp only [Mi,Mn]; omega⟩
 simp only [Mr,Ma,or_false] at h0
 rcases h0 with rfl | rfl
 ·obtain⟨b,_,hb,_⟩:=h1.each x hx
  exact⟨Mo.2 (.inl (Mp.2 ⟨x,hx,rfl⟩)),Ged hb⟩
 ·obtain⟨b,_,hb,_⟩:=h2.each x hx
  exact⟨Mo.2 (.inr (Mp.2 ⟨x,hx,rfl⟩)),Ged hb⟩
theorem J68.len {s:Gj} {boxes:List Box} {k:Int} {l:List G1} (h:J68 s boxes k l):l.length≤boxes.length:=by
 have h1:(l.map (·.Box)).Pairwise (· < ·):=List.pairwise_map.2 h.right.sorted
 have:=(Yk h1).length_le_of_subset (l₂:=boxes.map (·.ID)) (fun a ha=>by
  obtain⟨x,hx,rfl⟩:=Mp.1 ha
  obtain⟨b,hb,e,_⟩:=h.mem x hx
  exact Mp.2 ⟨b,hb,e⟩)
 rw [Mn,Mn] at this
 exact this
theorem R94 {s:Gj} {boxes:List Box} {calls k:Int} {l:List G1} {b:Box} (x:Slot) (hs:Small s) (hb:Gcb calls boxes) (h:J68 s boxes k l) (h1:b∈boxes) (h2:abB k b=true) :
  Wp (Z6 s boxes (Ja2 l ⟨b.ID,x⟩)) (fun v=>v=true→J68 s boxes k (Ja2 l ⟨b.ID,x⟩)∧b.ID∈(Ja2 l ⟨b.ID,x⟩).map (·.Box)∧∀ a∈l.map (·.Box),a∈(Ja2 l ⟨b.ID,x⟩).map (·.Box)):=by
 have hl:=h.len
 have h3:=hb.len
 have h4:=R75 l ⟨b.ID,x⟩
 refine wp_mono (Gec hs.right hs.tier (by omega)) (fun v hv e=>⟨⟨hv.1 e,fun y hy=>?_⟩,Mp.2 ⟨_,J82.2 (.inl rfl),rfl⟩,fun a ha=>?_⟩)
 ·rcases J82.1 hy with rfl | ⟨hy,_⟩
  ·exact⟨b,h1,rfl,h2⟩
  ·exact h.mem y hy
 ·obtain⟨y,hy,rfl⟩:=Mp.1 ha
  by_cases h0:y.Box=b.ID
  ·exact Mp.2 ⟨_,J82.2 (.inl rfl),h0.symm⟩
  ·exact Mp.2 ⟨y,J82.2 (.inr ⟨hy,h0⟩),rfl⟩
theorem J68.done {s:Gj} {boxes:List Box} {calls k:Int} {l:List G1} (hb:Gcb calls boxes) (h:J68 s boxes k l) (h2:∀ b∈boxes,abB k b=true→b.ID∈l.map (·.Box)):Hcd s boxes k l:=by
 refine⟨h.right,G7e (List.pairwise_map.2 h.right.sorted) (List.pairwise_map.2 (hb.sorted.filter _)) (fun a=>?_)⟩
 unfold J8d
 constructor
 ·intro ha
  obtain⟨x,hx,rfl⟩:=Mp.1 ha
  obtain⟨b,h0,e,h1⟩:=h.mem x hx
  exact Mp.2 ⟨b,Ms.2 ⟨h0,h1⟩,e⟩
 ·intro ha
  obtain⟨b,h0,rfl⟩:=Mp.1 ha
  obtain⟨h3,h1⟩:=Ms.1 h0
  exact h2 b h3 h1
theorem R92 {s:Gj} {boxes:List Box} {home:Ha Int Int} {calls:Int} {F:Nat} (hs:Small s) (hb:Gcb calls boxes) (hh:∀ a,0≤Ha.get home a 0∧Ha.get home a 0≤1000) (hF:60≤F) :
  Wp (Zc F s boxes home calls) (fun r=>r.2.2=home∧(r.2.1=0→Q2e s boxes calls r.1)):=by
 unfold Zc
 have b4:=hb.num
 have b5:=hb.len
 have b3:=hs.cols
 refine Rj (M4 (by omega)) ?_
 refine J04 (fun i s6=>s6.1.length=i∧∀ (k:Nat) l,s6.1[k]? = some l→Hcd s boxes k l) ⟨rfl,fun k l h=>by simp at h⟩ (fun i s6 nx hi hI a7=>?_) (fun s6 hI=>Gn ⟨rfl,fun _=>⟨by show (s6.1.length:Int)=calls; have:=hI.1; omega,hI.2⟩⟩)
 refine Rj (by decide) ?_
 refine J04 (fun _ l=>J68 s boxes i l) J68.nil (fun t l nx2 ht hl a4=>?_) (fun l hl=>?_)
 ·refine Jo (fun _ l=>J68 s boxes i l) hl (fun pre y post l nx3 e hl h4=>?_) (fun l hl=>a4 _ hl)
  have hy:y∈boxes:=by rw [e]; simp
  refine G00 (fun j=>J68 s boxes i j) (fun K hK=>?_) (fun j hj=>h4 _ hj)
  refine Gt rfl (Hu (fun hc=>?_) (fun _=>hK _ hl))
  have h2:abB i y=true:=by
   simp only [Mk,Mm] at hc
   unfold abB
   rw [M4 (by omega),M4 hc.2]; rfl
  have a8:=hl.len
  exact Gt (Qdc l _ (by omega)) (H4 (wp_mono (R94 _ hs hb hl hy h2) (fun r53 a9=>Hu (fun h=>hK _ (a9 h).1) (fun _=>hK _ hl))))
 ·refine Jo (fun pre l=>J68 s boxes i l∧∀ b∈pre,abB i b=true→b.ID∈l.map (·.Box)) ⟨hl,fun b hb=>(Ma hb).elim⟩ (fun pre y post l nx3 e h7 h4=>?_) (fun l h7=>?_)
  ·obtain⟨hl,h5⟩:=h7
   have hy:y∈boxes:=by rw [e]; simp
   have a8:=hl.len
   refine G00 (fun j=>J68 s boxes i j∧∀ b∈pre++[y],abB i b=true→b.ID∈j.map (·.Box)) (fun K hK=>?_) (fun j hj=>h4 _ hj)
   by_cases h2:abB i y=true
   ·have h8:=h2
    unfold abB at h8
    simp only [Mk,Mm] at h8
    rw [M5 (show ¬ (i:Int) < y.Load by omega),M5 (show ¬ y.Discharge≤(i:Int) by omega)]
    simp only [Bool.or_self,Bool.not_false,cond_true,Bool.false_or]
    refine Gt (law23_holds l y.ID) (Hu (fun h => hK _ ⟨hl, fun b h1 h3 => ?_⟩) (fun h => ?_))
    ·rcases Mo.1 h1 with h1 | h1
     ·exact h5 b h1 h3
     ·rw [Mq] at h1; subst h1
      exact Y60.1 h
    ·refine wp_loop (fun st:List G1×Bool×Int=>J68 s boxes i st.1∧(∀ a∈l.map (·.Box),a∈st.1.map (·.Box))∧(st.2.1=true→y.ID∈st.1.map (·.Box))∧0≤st.2.2∧st.2.2≤(s.Columns.length:Int)) (fun st=>s.Columns.length+1 - st.2.2.toNat)
      ⟨hl,fun a ha=>ha,fun h=>(by cases h),Int.le_refl _,by simp⟩ (by show s.Columns.length+1 - 0 < F; omega) (fun st nx4 h9 h6=>?_)
     obtain⟨l1,done,turn⟩:=st
     obtain⟨i1,i2,i3,i4,i5⟩:=h9
     simp only at i1 i2 i3 i4 i5 ⊢
     refine Hu (fun hc=>?_) (fun hc=>?_)
     ·simp only [Mk,Mm,Bool.not_eq_true'] at hc
      obtain⟨c1,rfl⟩:=hc
      refine G00 (fun j=>J68 s boxes i j.1∧(∀ a∈l.map (·.Box),a∈j.1.map (·.Box))∧(j.2=true→y.ID∈j.1.map (·.Box))) (fun K' a3=>?_) (fun j hj=>?_)
      ·refine H4 (wp_mono (Yf9 hs y.Size) (fun r72 _=>?_))
       refine Jo (fun _ s99=>s99=(l1,false)) rfl (fun pre2 x post2 s99 nx5 e2 a0 a1=>?_) (fun s99 a0=>by subst a0; exact a3 _ ⟨i1,i2,fun h=>by cases h⟩)
       subst a0
       have b6:=i1.len
       refine Gt (Qdc l1 _ (by omega)) (Gt rfl ?_)
       have hg:=hh y.ID
       refine Qo ⟨by omega,by omega⟩ (H4 (J05 (by omega) ?_))
       by_cases a2:x.G3=(Ha.get home y.ID 0+turn).tmod (s.Columns.length:Int)
       ·rw [M4 a2]
        simp only [cond_true,Bool.true_and]
        refine H4 (wp_mono (R94 x hs hb i1 hy h2) (fun r110 a5=>Hu (fun h=>?_) (fun _=>a1 _ rfl)))
        obtain⟨g1,g2,g3⟩:=a5 h
        exact a3 _ ⟨g1,fun a ha=>g3 a (i2 a ha),fun _=>g2⟩
       ·rw [M5 a2]
        simp only [cond_false,Bool.false_and]
        exact H4 (Gn (a1 _ rfl))
      ·obtain⟨j1,j2,j3⟩:=hj
       refine Qo ⟨by omega,by omega⟩ (h6 _ ⟨j1,j2,j3,by show 0≤turn+1; omega,by show turn+1≤s.Columns.length; omega⟩ ?_)
       show s.Columns.length+1 - (turn+1).toNat < s.Columns.length+1 - turn.toNat
       omega
     ·refine Hu (fun hd=>Gn ⟨rfl,fun h0=>?_⟩) (fun hd=>hK _ ⟨i1,fun b h1 h3=>?_⟩)
      ·have:=(hb.each y hy).id
       have b7:y.ID=0:=h0
       omega
      ·rcases Mo.1 h1 with h1 | h1
       ·exact i2 _ (h5 b h1 h3)
       ·rw [Mq] at h1; subst h1
        exact i3 (by simpa using hd)
   ·have b0:J68 s boxes i l∧∀ b∈pre++[y],abB i b=true→b.ID∈l.map (·.Box):=⟨hl,fun b h1 h3=>by
     rcases Mo.1 h1 with h1 | h1
     ·exact h5 b h1 h3
     ·rw [Mq] at h1; subst h1; exact(h2 h3).elim⟩
    have b1:((decide ((i:Int) < y.Load))||(decide (y.Discharge≤(i:Int))))=true:=by
     unfold abB at h2
     simp only [Mk,Mm] at h2
     simp only [Mt,Mm]
     omega
    rw [b1]
    simp only [Bool.not_true,cond_false,Bool.true_or,cond_true]
    exact H4 (Gn (hK _ b0))
  ·obtain⟨hl,a6⟩:=h7
   have h9:=hl.done hb a6
   refine Jo (fun _ _=>True) trivial (fun pre y post m nx4 e _ h6=>h6 _ trivial) (fun m _=>?_)
   have b8:i < 20:=by omega
   refine Rj (G12 (by rw [Mj]; have:=hI.1; omega) (by omega)) (a7 _ ⟨by simp [hI.1],fun k l' hk=>?_⟩)
   rw [List.getElem?_append] at hk
   split at hk
   ·exact hI.2 k l' hk
   ·rename_i b9
    have b2:k - s6.1.length=0:=by
     have:=(M6 hk).1
     simp only [Mj] at this; omega
    rw [b2] at hk
    simp only [List.getElem?_cons_zero,Option.some.injEq] at hk
    subst hk
    have:k=i:=by have:=hI.1; omega
    subst this
    exact h9
structure R8d (x:H8):Prop where
 column:Byte x.G3
 kilos:Byte x.Kilos
 load:Byte x.Load
 stay:Byte x.Stay
theorem Rf4 {s:Gj} {items:List H8} {calls:Int} {F:Nat} (hs:Small s) (hi:∀ x∈items,R8d x) (hc:2≤calls∧calls≤6) (hF:60≤F) :
  Wp (Zd F s items calls 10) (fun r=>Gcb calls r.1∧Q2e s r.1 calls r.2):=by
 unfold Zd
 have h9:=hs.cols
 refine H4 (H87 (m:=min items.length 10) (by omega) (by omega) ?_)
 have h4:(items.take (min items.length 10)).length≤10:=by rw [List.length_take]; omega
 refine Jo (fun pre st=>Gcb calls st.1∧st.1.length=pre.length∧(∀ b∈st.1,b.ID≤5*(pre.length:Int))∧∀ a,0≤Ha.get st.2 a 0∧Ha.get st.2 a 0≤1000)
  ⟨⟨by omega,by simp,fun b hb=>(Ma hb).elim,List.Pairwise.nil⟩,rfl,fun b hb=>(Ma hb).elim,fun a=>by rw [Qf5]; omega⟩ (fun pre y post st nx e hI h2=>?_) (fun st hI=>?_)
 ·obtain⟨hb,h3,hid,h1⟩:=hI
  have hy:R8d y:=hi y (List.mem_of_mem_take (by rw [e]; simp:y∈items.take (min items.length 10)))
  obtain⟨⟨c1,c2⟩,⟨k1,k2⟩,⟨l1,l2⟩,⟨t1,t2⟩⟩:=hy
  have hp:pre.length < 10:=by rw [e] at h4; simp only [Mi,Me] at h4; omega
  refine Qo ⟨by omega,by omega⟩ (Qo ⟨by omega,by omega⟩ (Qo ⟨by omega,by omega⟩ (Qo ⟨by omega,by omega⟩ (Qo ⟨by omega,by omega⟩ (Qo ⟨by omega,by omega⟩ ?_)))))
  refine H4 (J05 (by omega) ?_)
  have eL:y.Load.tmod (calls - 1)=y.Load % (calls - 1):=Int.tmod_eq_emod_of_nonneg l1
  rw [eL]
  have rL:0≤y.Load % (calls - 1)∧y.Load % (calls - 1) < calls - 1:=⟨Int.emod_nonneg _ (by omega),Int.emod_lt_of_pos _ (by omega)⟩
  generalize y.Load % (calls - 1)=L at rL
  refine Qo ⟨by omega,by omega⟩ (Qo ⟨by omega,by omega⟩ (Qo ⟨by omega,by omega⟩ (Qo ⟨by omega,by omega⟩ ?_)))
  refine H4 (J05 (by omega) ?_)
  have eS:y.Stay.tmod (calls - 1 - L)=y.Stay % (calls - 1 - L):=Int.tmod_eq_emod_of_nonneg t1
  rw [eS]
  have rS:0≤y.Stay % (calls - 1 - L)∧y.Stay % (calls - 1 - L) < calls - 1 - L:=⟨Int.emod_nonneg _ (by omega),Int.emod_lt_of_pos _ (by omega)⟩
  generalize y.Stay % (calls - 1 - L)=T at rS
  refine Qo ⟨by omega,by omega⟩ ?_
  refine G00 (fun j:Int×Bool=>j.1=40∨(j.1=20∧j.2=false)) (fun K hK=>Hu (fun _=>hK _ (.inr ⟨rfl,rfl⟩)) (fun _=>hK _ (.inl rfl))) (fun j hj=>?_)
  refine Qo ⟨by omega,by omega⟩ (H4 (J05 (by omega) ?_))
  have eC:y.G3.tmod (s.Columns.length:Int)=y.G3 % (s.Columns.length:Int):=Int.tmod_eq_emod_of_nonneg c1
  rw [eC]
  have rC:0≤y.G3 % (s.Columns.length:Int)∧y.G3 % (s.Columns.length:Int) < s.Columns.length:=⟨Int.emod_nonneg _ (by omega),Int.emod_lt_of_pos _ (by omega)⟩
  generalize y.G3 % (s.Columns.length:Int)=C at rC
  refine Rj (G12 (by rw [Mj]; omega) (by omega)) (h2 _ ⟨⟨by omega,by simp only [Mi,Mj]; omega,fun b h0=>?_,?_⟩,by simp [h3],fun b h0=>?_,fun a=>?_⟩)
  ·rcases Mo.1 h0 with h0 | h0
   ·exact hb.each b h0
   ·rw [Mq] at h0; subst h0
    exact⟨⟨by simp only; omega,by simp only; omega⟩,hj,by simp only; omega,by simp only; omega,by simp only; omega⟩
  ·refine Hdb hb.sorted (fun a ha=>?_)
   have:=hid a ha
   simp only
   omega
  ·rw [Mi,Mj]
   rcases Mo.1 h0 with h0 | h0
   ·have:=hid b h0; omega
   ·rw [Mq] at h0; subst h0
    simp only; omega
  ·rw [R81]
   split
   ·omega
   ·exact h1 a
 ·obtain⟨hb,h3,_,h1⟩:=hI
  have h7:=hb.len
  refine Qo ⟨by omega,by omega⟩ (Rj (M4 (by omega)) ?_)
  refine J04 (fun _ st=>Gcb calls st.1∧∀ a,0≤Ha.get st.2 a 0∧Ha.get st.2 a 0≤1000) ⟨hb,h1⟩ (fun i st nx hi hI h2=>?_) (fun st _=>?_)
  ·obtain⟨hb,h1⟩:=hI
   refine H4 (wp_mono (R92 hs hb h1 hF) (fun r153 h5=>?_))
   obtain⟨g1,g2⟩:=h5
   refine Hu (fun h=>Gn ⟨hb,g2 (M2 h)⟩) (fun _=>?_)
   have h7:=hb.len
   refine Jo (fun pre l=>l=pre.filter (fun b=>decide (b.ID≠r153.2.1))) rfl (fun pre y post l nx2 e hl h6=>?_) (fun l hl=>?_)
   ·subst hl
    have hf:=Ky (fun b:Box=>decide (b.ID≠r153.2.1)) pre
    have hp:pre.length+1≤st.1.length:=by rw [e]; simp
    refine G00 (fun j=>j=(pre++[y]).filter (fun b=>decide (b.ID≠r153.2.1))) (fun K hK=>Hu (fun h=>Rj (G12 (by rw [Mj]; omega) (by omega)) (hK _ ?_)) (fun h=>hK _ ?_)) (fun j hj=>h6 _ hj)
    ·rw [G76,h]; rfl
    ·rw [G76,h]; simp
   ·subst hl
    refine h2 _ ⟨⟨hb.num,?_,fun b h0=>hb.each b (Ms.1 h0).1,hb.sorted.filter _⟩,by rw [g1]; exact h1⟩
    have:=Ky (fun b:Box=>decide (b.ID≠r153.2.1)) st.1
    show (st.1.filter (fun b=>decide (b.ID≠r153.2.1))).length≤10
    omega
  ·obtain⟨m,hm⟩:∃ m:Nat,calls=(m:Int):=⟨calls.toNat,by omega⟩
   have h8:Rd8 calls=some m:=by
    unfold Rd8
    rw [M4 (by omega),hm]
    rfl
   refine Gt h8 (Rj (M4 ⟨by omega,Nat.le_trans (show m≤6 by omega) (by decide),by omega⟩) (Gn ⟨⟨by omega,by simp,fun b hb=>(Ma hb).elim,List.Pairwise.nil⟩,by simp [hm],fun k l hk=>?_⟩))
   have:l=[]:=by
    have:=M9 hk
    exact List.eq_of_mem_replicate this
   subst this
   exact⟨Jbd,rfl⟩
section
variable {s:Gj} {U:List Int} {states:List (List G1)} {l l' l2:List Int} {id y:Int} {m m2:Ha Int Unit}
end
theorem Hed {α:Type} {P:α→Prop} {l:List α} {x:α} (h1:∀ y∈l,P y) (h2:P x):∀ y∈l++[x],P y:=fun y hy=>by
 rcases Mo.1 hy with hy | hy
 ·exact h1 y hy
 ·exact Mq.1 hy ▸ h2
theorem Z23 {s:Gj} {U:List Int} {states:List (List G1)} (hs:J69 s U states):∀ (F:Nat) (id:Int) (m:Ha Int Unit) (l:List Int),Ge4 U m l→id∈U→U.length+1≤F+l.length →
  Wp (Yf F id m l states s) (fun r=>Grown s U states l id r.1 r.2):=by
 intro F
 induction F with
 | zero=>intro id m l hi _ hF; have:=hi.le; omega
 | succ F ih=>
  intro id m l hi hid hF
  show Wp (G1e (Yf F) F id m l states s) _
  unfold G1e
  refine Gt (Y83 m id) ?_
  rw [hi.has]
  by_cases h7:id∈l
  ·rw [if_pos (M4 h7)]
   exact Hu (fun _=>Gn ⟨hi,fun a ha=>ha,h7,fun a ha hn=>(hn ha).elim,fun C _ hl _ a ha=>hl a ha⟩) (fun h=>by cases h)
  rw [if_neg (by rw [M5 h7]; exact Bool.false_ne_true)]
  refine Hu (fun h=>by cases h) (fun _=>?_)
  have b3:=hi.le
  have b1:=hs.len
  have h1:=hi.snoc h7 hid
  have b2:=h1.le
  have b4:(l++[id]).length=l.length+1:=by simp
  refine Rj (G12 (by rw [Mj]; omega) (by omega)) ?_
  have again:∀ (y:G1) (st:List G1) (m':Ha Int Unit) (l':List Int),st∈states→y∈st→Rch s U states l id m' l'→Gdb s states id y.Box →
    Wp (Yf F y.Box m' l' states s) (fun r=>Rch s U states l id r.1 r.2∧(∀ a∈l',a∈r.2)∧y.Box∈r.2):=
   fun y st m' l' h2 h3 h4 h5=>wp_mono (ih y.Box m' l' h4.inv (hs.each st h2 y h3).1 (by
    have:=h1.nodup.length_le_of_subset (fun a ha=>h4.sub a ha)
    omega)) (fun r hr=>h4.step h5 hr)
  have a5:∀ {k:Nat} {c:G3},s.Columns[k]? = some c→Rh s (k:Int)=some (Jy s c):=fun hc=>H0f hc (fun x hx=>by have:=hs.small.rows x hx; omega) (by have:=hs.small.covs; omega)
  refine Jo (fun pre s7=>Rch s U states l id s7.1 s7.2∧∀ st∈pre,∀ b,R87 s states st id b→b∈s7.2) ⟨.start h1,fun st h=>(Ma h).elim⟩ (fun pre st post s7 nx e hI h8=>?_) (fun s7 hI=>Gn ?_)
  ·have h6:st∈states:=by rw [e]; simp
   obtain⟨hR,hD⟩:=hI
   refine G00 (fun j=>Rch s U states l id j.1 j.2∧(∀ a∈s7.2,a∈j.2)∧∀ b,R87 s states st id b→b∈j.2) (fun K hK=>?_) (fun j hj=>h8 _ ⟨hj.1,Hed (fun st' h' b hb=>hj.2.1 _ (hD st' h' b hb)) hj.2.2⟩)
   refine Gt (Gfa st id) (Hu (fun hf=>hK _ ⟨hR,fun a ha=>ha,fun b hb=>?_⟩) (fun hf=>?_))
   ·rw [hb.1] at hf; cases hf
   have a6:(Za st id).2=true:=by simpa using hf
   obtain⟨x,hx,_,h9⟩:=Hf2 a6
   obtain⟨m0,c0,a7,a1⟩:=(hs.each st h6 x hx).2
   rw [h9]
   refine G00 (fun j17=>j17=if c0.Deck=true then -1 else Jy s c0) (fun K' h0=>Yh a7 a1 (Hu (fun hd=>?_) (fun hd=>h0 _ (by
    rw [if_pos (by simpa using hd)])))) (fun j17 a2=>?_)
   ·rw [a7]
    exact Gt (a5 a1) (h0 _ (by rw [if_neg (by simpa using hd)]))
   refine Jo (fun pre s56=>Rch s U states l id s56.1 s56.2∧(∀ a∈s7.2,a∈s56.2)∧∀ y∈pre,H62 y.Slot x.Slot→y.Box∈s56.2) ⟨hR,fun a ha=>ha,fun y h=>(Ma h).elim⟩ (fun pre y post s56 nx e hI h8=>?_) (fun s56 hI=>?_)
   ·have hy:y∈st:=by rw [e]; simp
    obtain⟨i1,i2,i3⟩:=hI
    refine G00 (fun j=>Rch s U states l id j.1 j.2∧(∀ a∈s56.2,a∈j.2)∧(H62 y.Slot x.Slot→y.Box∈j.2)) (fun K' h0=>?_) (fun j hj=>h8 _ ⟨hj.1,fun a ha=>hj.2.1 a (i2 a ha),Hed (fun y' h' ho=>hj.2.1 _ (i3 y' h' ho)) hj.2.2⟩)
    refine H4 (wp_mono (Q1a y.Slot x.Slot) (fun r62 a9=>Hu (fun hr=>?_) (fun hr=>h0 _ ⟨i1,fun a ha=>ha,fun ho=>?_⟩)))
    ·exact H4 (wp_mono (again y st _ _ h6 hy i1 ⟨st,h6,a6,.inl ⟨y,hy,rfl,by rw [h9]; exact a9.1 hr⟩⟩) (fun r hr=>h0 _ ⟨hr.1,hr.2.1,fun _=>hr.2.2⟩))
    ·rw [a9.2 ho] at hr; cases hr
   ·obtain⟨i1,i2,i3⟩:=hI
    refine Jo (fun pre s65=>Rch s U states l id s65.1 s65.2∧(∀ a∈s56.2,a∈s65.2)∧∀ st2∈pre,∀ y∈st2,upon s x.Slot y.Slot→y.Box∈s65.2) ⟨i1,fun a ha=>ha,fun st2 h=>(Ma h).elim⟩ (fun pre st2 post s65 nx e hI h8=>?_) (fun s65 hI=>hK _ ⟨hI.1,fun a ha=>hI.2.1 a (i2 a ha),fun b hb=>?_⟩)
    ·obtain⟨j1,j2,j3⟩:=hI
     have a0:st2∈states:=by rw [e]; simp
     refine Jo (fun pre s107=>Rch s U states l id s107.1 s107.2∧(∀ a∈s65.2,a∈s107.2)∧∀ y∈pre,upon s x.Slot y.Slot→y.Box∈s107.2) ⟨j1,fun a ha=>ha,fun y h=>(Ma h).elim⟩ (fun pre y post s107 nx2 e hI b0=>?_) (fun s107 hI=>h8 _ ⟨hI.1,fun a ha=>hI.2.1 a (j2 a ha),Hed (fun st' h' y hy hu=>hI.2.1 _ (j3 st' h' y hy hu)) hI.2.2⟩)
     obtain⟨k1,k2,k3⟩:=hI
     have hy:y∈st2:=by rw [e]; simp
     obtain⟨m1,c1,a8,a3⟩:=(hs.each st2 a0 y hy).2
     have a4:upon s x.Slot y.Slot ↔ (0≤j17∧c1.Deck=true∧Jy s c1=j17):=by
      constructor
      ·rintro⟨n0,d0,n1,d1,e1,e2,e3,e4,q1,q2,q3,q4⟩
       have e5:n0=m0:=by omega
       have e6:n1=m1:=by omega
       subst e5 e6
       rw [a1] at e2; cases e2
       rw [a3] at e4; cases e4
       rw [if_neg (by rw [q1]; exact Bool.false_ne_true)] at a2
       rw [a2]
       exact⟨q3,q2,q4⟩
      ·rintro⟨q1,q2,q3⟩
       by_cases hd:c0.Deck=true
       ·rw [if_pos hd] at a2; omega
       ·rw [if_neg hd] at a2
        exact⟨m0,c0,m1,c1,a7,a1,a8,a3,by simpa using hd,q2,by omega,by omega⟩
     refine G00 (fun j=>Rch s U states l id j.1 j.2∧(∀ a∈s107.2,a∈j.2)∧(upon s x.Slot y.Slot→y.Box∈j.2)) (fun K' h0=>?_) (fun j hj=>b0 _ ⟨hj.1,fun a ha=>hj.2.1 a (k2 a ha),Hed (fun y' h' ho=>hj.2.1 _ (k3 y' h' ho)) hj.2.2⟩)
     by_cases hj:0≤j17
     ·rw [M4 hj]
      simp only [cond_true,Bool.true_and]
      refine H4 (Yh a8 a3 (Gn ?_))
      cases hd:c1.Deck with
      | true=>
       simp only [cond_true,Bool.true_and]
       rw [a8]
       refine Gt (a5 a3) (Hu (fun hc=>?_) (fun hc=>h0 _ ⟨k1,fun a ha=>ha,fun hu=>?_⟩))
       ·exact H4 (wp_mono (again y st2 _ _ a0 hy k1 ⟨st,h6,a6,.inr ⟨st2,a0,y,hy,rfl,by rw [h9]; exact a4.2 ⟨hj,hd,M2 hc⟩⟩⟩) (fun r hr=>h0 _ ⟨hr.1,hr.2.1,fun _=>hr.2.2⟩))
       ·exact(M3 hc (a4.1 hu).2.2).elim
      | false=>
       simp only [cond_false,Bool.false_and]
       exact H4 (Gn (h0 _ ⟨k1,fun a ha=>ha,fun hu=>by have:=(a4.1 hu).2.1; rw [hd] at this; cases this⟩))
     ·rw [M5 hj]
      simp only [cond_false,Bool.false_and]
      exact H4 (Gn (H4 (Gn (h0 _ ⟨k1,fun a ha=>ha,fun hu=>(hj (a4.1 hu).1).elim⟩))))
    ·rcases hb.2 with ⟨y,hy,rfl,ho⟩ | ⟨st2,h2,y,hy,rfl,hu⟩
     ·exact hI.2.1 _ (i3 y hy (by rw [← h9]; exact ho))
     ·exact hI.2.2 st2 h2 y hy (by rw [← h9]; exact hu)
  ·obtain⟨hR,hD⟩:=hI
   refine⟨hR.inv,fun a ha=>hR.sub a (Mo.2 (.inl ha)),hR.sub id (by simp),fun a ha hn b hb=>?_,hR.least⟩
   by_cases e:a=id
   ·subst e
    obtain⟨st,h6,hp⟩:=hb
    exact hD st h6 b hp
   ·exact hR.closed a ha hn e b hb
theorem J70.perm {s:Gj} {bf af:List G1} {l l':List Int} (h:J70 s bf af l) (hp:∀ a,a∈l' ↔ a∈l):J70 s bf af l':=
 ⟨fun st h0 y hy h1=>(hp _).2 (h.seeds st h0 y hy h1),fun a ha b hb=>(hp b).2 (h.closed a ((hp a).1 ha) b hb),fun C hc hl a ha=>h.least C hc hl a ((hp a).1 ha)⟩
theorem differ {p q:Slot×Bool}:((!(p.2==q.2))||(!decide (p.1=q.1)))=true ↔ p≠q:=by
 obtain⟨p1,p2⟩:=p
 obtain⟨q1,q2⟩:=q
 simp only [Mt,Bool.not_eq_true',beq_eq_false_iff_ne,decide_eq_false_iff_not,ne_eq,Prod.mk.injEq,not_and]
 constructor
 ·rintro(h | h) h1 h2
  ·exact h h2
  ·exact h h1
 ·intro h
  by_cases e:p1=q1
  ·exact .inl (h e)
  ·exact .inr e
theorem Rde {s:Gj} {U:List Int} {bf af:List G1} (hs:J69 s U [bf,af]) {F:Nat} (hF:U.length+1≤F) :
  Wp (G08 F s bf af) (fun r=>r.Pairwise (· < ·)∧(∀ a∈r,a∈U)∧J70 s bf af r):=by
 unfold G08
 have go:∀ {m:Ha Int Unit} {l:List Int} {y:G1} {st:List G1} {m2:Ha Int Unit} {l2:List Int},st∈[bf,af]→y∈st→Za bf y.Box≠Za af y.Box →
   (Ge4 U m l∧(∀ a∈l,∀ b,Gdb s [bf,af] a b→b∈l)∧∀ C:Int→Prop,(∀ a b,C a→Gdb s [bf,af] a b→C b)→(∀ st∈[bf,af],∀ y∈st,Za bf y.Box≠Za af y.Box→C y.Box)→∀ a∈l,C a) →
   Grown s U [bf,af] l y.Box m2 l2 →
   (Ge4 U m2 l2∧(∀ a∈l2,∀ b,Gdb s [bf,af] a b→b∈l2)∧∀ C:Int→Prop,(∀ a b,C a→Gdb s [bf,af] a b→C b)→(∀ st∈[bf,af],∀ y∈st,Za bf y.Box≠Za af y.Box→C y.Box)→∀ a∈l2,C a):=
  fun {m l y st m2 l2} h3 hy h0 hI g=>⟨g.inv,fun a ha b hb=>by
   by_cases h4:a∈l
   ·exact g.sub b (hI.2.1 a h4 b hb)
   ·exact g.closed a ha h4 b hb,fun C hc hl=>g.least C hc (hI.2.2 C hc hl) (hl st h3 y hy h0)⟩
 refine Jo (fun pre s9=>(Ge4 U s9.1 s9.2∧(∀ a∈s9.2,∀ b,Gdb s [bf,af] a b→b∈s9.2)∧∀ C:Int→Prop,(∀ a b,C a→Gdb s [bf,af] a b→C b)→(∀ st∈[bf,af],∀ y∈st,Za bf y.Box≠Za af y.Box→C y.Box)→∀ a∈s9.2,C a) ∧
   ∀ st∈pre,∀ y∈st,Za bf y.Box≠Za af y.Box→y.Box∈s9.2)
  ⟨⟨.start,fun a h=>(Ma h).elim,fun C _ _ a h=>(Ma h).elim⟩,fun st h=>(Ma h).elim⟩ (fun pre st post s9 nx e hI h6=>?_) (fun s9 hI=>?_)
 ·have h3:st∈[bf,af]:=by rw [e]; simp
  obtain⟨hA,hB⟩:=hI
  refine Jo (fun pre s59=>(Ge4 U s59.1 s59.2∧(∀ a∈s59.2,∀ b,Gdb s [bf,af] a b→b∈s59.2)∧∀ C:Int→Prop,(∀ a b,C a→Gdb s [bf,af] a b→C b)→(∀ st∈[bf,af],∀ y∈st,Za bf y.Box≠Za af y.Box→C y.Box)→∀ a∈s59.2,C a) ∧
    (∀ a∈s9.2,a∈s59.2)∧∀ y∈pre,Za bf y.Box≠Za af y.Box→y.Box∈s59.2)
   ⟨hA,fun a ha=>ha,fun y h=>(Ma h).elim⟩ (fun pre y post s59 nx2 e hI h5=>?_) (fun s59 hI=>h6 _ ⟨hI.1,Hed (fun st' h' y hy h0=>hI.2.1 _ (hB st' h' y hy h0)) hI.2.2⟩)
  have hy:y∈st:=by rw [e]; simp
  obtain⟨j1,j2,j3⟩:=hI
  refine G00 (fun j=>(Ge4 U j.1 j.2∧(∀ a∈j.2,∀ b,Gdb s [bf,af] a b→b∈j.2)∧∀ C:Int→Prop,(∀ a b,C a→Gdb s [bf,af] a b→C b)→(∀ st∈[bf,af],∀ y∈st,Za bf y.Box≠Za af y.Box→C y.Box)→∀ a∈j.2,C a) ∧
    (∀ a∈s59.2,a∈j.2)∧(Za bf y.Box≠Za af y.Box→y.Box∈j.2)) (fun K hK=>?_) (fun j hj=>h5 _ ⟨hj.1,fun a ha=>hj.2.1 a (j2 a ha),Hed (fun y' h' ho=>hj.2.1 _ (j3 y' h' ho)) hj.2.2⟩)
  refine Gt (Gfa bf y.Box) (Gt (Gfa af y.Box) (Hu (fun hd=>?_) (fun hd=>hK _ ⟨j1,fun a ha=>ha,fun h0=>?_⟩)))
  ·have h0:=differ.1 hd
   exact H4 (wp_mono (Z23 hs F y.Box _ _ j1.1 (hs.each st h3 y hy).1 (by omega)) (fun r hr=>hK _ ⟨go h3 hy h0 j1 hr,hr.sub,fun _=>hr.has⟩))
  ·rw [differ.2 h0] at hd; cases hd
 ·obtain⟨⟨hA,hB,hC⟩,hD⟩:=hI
  have h1:=hA.le
  have h2:=hs.len
  have h7:Ga7 s9.2=some (Gd6 s9.2):=by
   unfold Ga7
   rw [M4 (show s9.2.length < 4611686018427387904 by omega)]
   rfl
  have hp:=Ga6 s9.2
  refine Gt h7 (Gn ⟨?_,fun a ha=>hA.sub a (hp.mem_iff.1 ha),J70.perm ⟨hD,hB,hC⟩ (fun a=>hp.mem_iff)⟩)
  have hn:(Gd6 s9.2).Nodup:=hp.nodup_iff.2 hA.nodup
  exact(List.pairwise_and_iff.2 ⟨Gc1 s9.2,hn⟩).imp (fun {a b} h=>by have h1:=h.1; have h2:=h.2; omega)
section
variable {s:Gj} {boxes:List Box} {bf af:List G1} {r:List Int}
end
theorem Y5b {s:Gj} {boxes:List Box} {bf af:List G1} {F:Nat} (hs:Small s) (h1:Re s boxes bf) (h2:Re s boxes af) (l1:bf.length≤10) (l2:af.length≤10) (hF:60≤F) :
  Wp (Z0 F s boxes bf af) (fun r=>r.2=0∧r.1.Pairwise (· < ·)∧(∀ a∈r.1,a∈bf.map (·.Box)++af.map (·.Box))∧J70 s bf af r.1):=by
 unfold Z0
 refine H4 (wp_mono (Gec hs.right hs.tier (by omega)) (fun r4 h4=>?_))
 rw [h4.2 h1]
 simp only [Bool.not_true,Bool.not_false,cond_true,Bool.false_or]
 refine H4 (wp_mono (Gec hs.right hs.tier (by omega)) (fun r5 h5=>?_))
 rw [h5.2 h2]
 simp only [Bool.not_true,cond_false]
 exact H4 (wp_mono (Rde (Ybb hs h1 h2 (by omega) (by omega)) (by simp only [Mi,Mn]; omega)) (fun r hr=>Gn ⟨rfl,hr⟩))
theorem Qe1 {boxes:List Box} {m half:Int} (p:G1→Bool):∀ (l:List G1),Y4 boxes (l.filter p) m half≤Y4 boxes l m half:=by
 intro l
 induction l with
 | nil=>exact Int.le_refl _
 | cons x r ih=>
  unfold Y4 at *
  have h0:=(Jf7 (boxes:=boxes) (column:=m) (half:=half) (n:=0) (x:=x)).1
  rw [List.foldl_cons,Ha2 r]
  rw [List.filter_cons]
  split
  ·rw [List.foldl_cons,Ha2 (r.filter p)]
   omega
  ·omega
theorem G77 {l:List G1} (h:l.Pairwise (fun a b=>a.Box < b.Box)):l.Nodup:=h.imp (fun {a b} h e=>by subst e; omega)
theorem Y42 {l q:List G1} (hl:l.Pairwise (fun a b=>a.Box < b.Box)) (hq:q.Pairwise (fun a b=>a.Box < b.Box)) (hs:∀ y∈q,y∈l):q=l.filter (fun y=>decide (y∈q)):=by
 refine Gfe ((List.perm_ext_iff_of_nodup (G77 hq) ((G77 hl).sublist List.filter_sublist)).2 fun y=>?_) hq (hl.sublist List.filter_sublist)
 rw [Ms,Mm]
 exact⟨fun h=>⟨hs y h,h⟩,fun h=>h.2⟩
theorem Qbd {boxes:List Box} {m half:Int} {l q:List G1} (hl:l.Pairwise (fun a b=>a.Box < b.Box)) (hq:q.Pairwise (fun a b=>a.Box < b.Box)) (hs:∀ y∈q,y∈l):Y4 boxes q m half≤Y4 boxes l m half:=by
 rw [Y42 hl hq hs]
 exact Qe1 _ l
theorem Y54 {l:List G1} (h:l.Pairwise (fun a b=>¬ Hfb b.Slot a.Slot)) {x y:G1} (hx:x∈l) (hy:y∈l) (h4:x≠y):¬ Hfb x.Slot y.Slot:=by
 induction l with
 | nil=>cases hx
 | cons z r ih=>
  obtain⟨h1,h2⟩:=List.pairwise_cons.1 h
  rcases Mr.1 hx with e1 | h0 <;> rcases Mr.1 hy with e2 | h3
  ·exact(h4 (e1.trans e2.symm)).elim
  ·subst e1; exact fun hm=>h1 y h3 (Hee hm)
  ·subst e2; exact h1 x h0
  ·exact ih h2 h0 h3
structure G32 (s:Gj) (boxes:List Box) (bf af:List G1) (set:List Int):Prop where
 ship:Ja8 s
 bef:Re s boxes bf
 aft:Re s boxes af
 lb:bf.length≤10
 la:af.length≤10
 least:J70 s bf af set
section
variable {s:Gj} {boxes:List Box} {bf af l:List G1} {set:List Int}
theorem G84 (hs:l.Pairwise (fun a b=>a.Box < b.Box)) {x:G1} (hx:x∈l):Za l x.Box=(x.Slot,true):=by
 have h1:(Za l x.Box).2=true:=Qe9.2 (Mp.2 ⟨x,hx,rfl⟩)
 obtain⟨y,hy,e1,e2⟩:=Hf2 h1
 have:=Hcb hs hy hx e1
 subst this
 exact Prod.ext e2 h1
theorem G32.stays (h:G32 s boxes bf af set) {x:G1} (hx:x∈bf) (hn:x.Box ∉ set):x∈af:=by
 have he:Za bf x.Box=Za af x.Box:=Classical.byContradiction fun e=>hn (h.least.seeds bf (by simp) x hx e)
 rw [G84 h.bef.sorted hx] at he
 obtain⟨y,hy,e1,e2⟩:=Hf2 (l:=af) (id:=x.Box) (by rw [← he])
 rw [← he] at e2
 have:y=x:=by
  cases y; cases x
  simp only at e1 e2
  subst e1 e2
  rfl
 exact this ▸ hy
theorem G32.stays2 (h:G32 s boxes bf af set) {x:G1} (hx:x∈af) (hn:x.Box ∉ set):x∈bf:=by
 have he:Za bf x.Box=Za af x.Box:=Classical.byContradiction fun e=>hn (h.least.seeds af (by simp) x hx e)
 rw [G84 h.aft.sorted hx] at he
 obtain⟨y,hy,e1,e2⟩:=Hf2 (l:=bf) (id:=x.Box) (by rw [he])
 rw [he] at e2
 have:y=x:=by
  cases y; cases x
  simp only at e1 e2
  subst e1 e2
  rfl
 exact this ▸ hy
theorem G32.over (h:G32 s boxes bf af set) {x y:G1} (hx:x∈bf) (hy:y∈bf) (hm:x.Box∈set) (ho:H62 y.Slot x.Slot):y.Box∈set:=
 h.least.closed x.Box hm y.Box ⟨bf,by simp,by rw [G84 h.bef.sorted hx],.inl ⟨y,hy,rfl,by rw [G84 h.bef.sorted hx]; exact ho⟩⟩
theorem G32.upon (h:G32 s boxes bf af set) {x y:G1} (hx:x∈bf∨x∈af) (hy:y∈bf∨y∈af) (hm:x.Box∈set) (ho:upon s x.Slot y.Slot):y.Box∈set:=by
 have h0:∃ st2∈[bf,af],y∈st2:=by
  rcases hy with hy | hy
  ·exact⟨bf,by simp,hy⟩
  ·exact⟨af,by simp,hy⟩
 obtain⟨st2,h2,h0⟩:=h0
 rcases hx with hx | hx
 ·exact h.least.closed x.Box hm y.Box ⟨bf,by simp,by rw [G84 h.bef.sorted hx],.inr ⟨st2,h2,y,h0,rfl,by rw [G84 h.bef.sorted hx]; exact ho⟩⟩
 ·exact h.least.closed x.Box hm y.Box ⟨af,by simp,by rw [G84 h.aft.sorted hx],.inr ⟨st2,h2,y,h0,rfl,by rw [G84 h.aft.sorted hx]; exact ho⟩⟩
structure R84 (s:Gj) (boxes:List Box) (bf:List G1) (set:List Int) (l:List G1):Prop where
 sta:Sta s boxes l
 sub:∀ x∈l,x∈bf
 keep:∀ x∈bf,x.Box ∉ set→x∈l
structure Y6e (s:Gj) (boxes:List Box) (af:List G1) (set:List Int) (l:List G1):Prop where
 sta:Sta s boxes l
 sub:∀ x∈l,x∈af
 keep:∀ x∈af,x.Box ∉ set→x∈l
theorem G32.start (h:G32 s boxes bf af set):R84 s boxes bf set bf:=⟨⟨h.ship,h.bef,by have:=h.lb; omega⟩,fun _ hx=>hx,fun _ hx _=>hx⟩
theorem R84.take (h:R84 s boxes bf set l) {pre post:List G1} {x:G1} (e:l=pre++x::post) (hx:x.Box∈set) (ho:H5a l x.Slot=[]):R84 s boxes bf set (pre++post):=by
 subst e
 have h0:(pre++x::post).length=(pre++post).length+1:=by simp only [Mi,Me]; omega
 refine⟨⟨h.sta.ship,Qca h.sta.right ho,by have:=h.sta.len; omega⟩,fun z hz=>h.sub z (R71 hz),fun z hz hn=>?_⟩
 have:=h.keep z hz hn
 simp only [Mo,Mr] at this ⊢
 rcases this with hz | rfl | hz
 ·exact .inl hz
 ·exact(hn hx).elim
 ·exact .inr hz
theorem R84.turn (h:G32 s boxes bf af set) (h1:R84 s boxes bf set l) (hd:∀ x∈l,x.Box ∉ set):Y6e s boxes af set l:=
 ⟨h1.sta,fun x hx=>h.stays (h1.sub x hx) (hd x hx),fun x hx hn=>h1.keep x (h.stays2 hx hn) hn⟩
theorem Y6e.done (h:G32 s boxes bf af set) (h2:Y6e s boxes af set l) (hd:∀ x∈af,x.Box∈set→x∈l):l=af:=by
 refine Gfe ((List.perm_ext_iff_of_nodup (G77 h2.sta.right.sorted) (G77 h.aft.sorted)).2 fun y=>⟨h2.sub y,fun hy=>?_⟩) h2.sta.right.sorted h.aft.sorted
 by_cases hm:y.Box∈set
 ·exact hd y hy hm
 ·exact h2.keep y hy hm
end
section
variable {s:Gj} {boxes:List Box} {bf af:List G1} {set:List Int}
end
section isort
variable {α:Type}
def Z0c [Inhabited α] (F:Nat) (data:List α) (a:Int) (b:Int) (cmp:α→α→Option Int):Option (List α):=
 chk (a+1) fun v2=>
 loop (fun nx3 (s3:Int×(List α))=>
  bif decide (s3.1 < b) then
  (loop (fun nx58 (s58:Int×(List α))=>
    bnd (bif decide (a < s58.1) then Qm s58.2 s58.1 some else some default) fun y61=>
    bnd (bif decide (a < s58.1) then chk (s58.1 - 1) some else some 0) fun v62=>
    bnd (bif decide (a < s58.1) then Qm s58.2 v62 some else some default) fun y63=>
    bnd (bif decide (a < s58.1) then cmp y61 y63 else some default) fun r64=>
    bif ((decide (a < s58.1))&&(decide (r64 < 0))) then
    (chk (s58.1 - 1) fun v66=>
     chk (s58.1 - 1) fun v67=>
     Qm s58.2 v67 fun y68=>
     Qm s58.2 s58.1 fun y69=>
     Qm s58.2 s58.1 fun y70=>
     Qm (s58.2.set s58.1.toNat y68) v66 fun y71=>
     chk (s58.1 - 1) fun v72=>
     nx58 (v72,((s58.2.set s58.1.toNat y68).set v66.toNat y69)))
    else
    (chk (s3.1+1) fun v73=>
     nx3 (v73,s58.2))) F (s3.1,s3.2))
  else
  (some s3.2)) F (v2,data)
def Q28 (c:α→α→Int) (x:α):List α→List α→List α
 | [],mid=>x::mid
 | p::rp,mid=>if c x p < 0 then Q28 c x rp (p::mid) else (p::rp).reverse++x::mid
def Hdd (c:α→α→Int):List α→List α→List α
 | d,[]=>d
 | d,x::t=>Hdd c (Q28 c x d.reverse []) t
def H6c (c:α→α→Int) (l:List α):List α:=Hdd c [] l
theorem Q27 (c:α→α→Int) (x:α):∀ (rp mid:List α),(Q28 c x rp mid).Perm (rp.reverse++x::mid)
 | [],mid=>.refl _
 | p::rp,mid=>by
  unfold Q28
  split
  ·refine(Q27 c x rp (p::mid)).trans ?_
   rw [List.reverse_cons,List.append_assoc]
   refine List.Perm.append_left _ ?_
   exact List.Perm.swap p x mid
  ·exact .refl _
theorem Re0 (c:α→α→Int) (x:α) (rp mid:List α):(Q28 c x rp mid).length=rp.length+1+mid.length:=by
 rw [(Q27 c x rp mid).length_eq]; simp; omega
theorem Q62 (c:α→α→Int):∀ (t d:List α),(Hdd c d t).Perm (d++t)
 | [],d=>by rw [List.append_nil]; exact .refl _
 | x::t,d=>by
  unfold Hdd
  refine(Q62 c t _).trans ?_
  have h:=Q27 c x d.reverse []
  rw [List.reverse_reverse] at h
  refine(h.append_right t).trans ?_
  simp
theorem H39 (c:α→α→Int) (l:List α):(H6c c l).Perm l:=Q62 c l []
theorem H9e {c:α→α→Int} {l:List α} {x:α}:x∈H6c c l ↔ x∈l:=(H39 c l).mem_iff
theorem Gab (c:α→α→Int) (l:List α):(H6c c l).length=l.length:=(H39 c l).length_eq
structure Ydc (c:α→α→Int):Prop where
 asym:∀ x y,c x y < 0→¬ c y x < 0
 ntrans:∀ x y z,¬ c y x < 0→¬ c z y < 0→¬ c z x < 0
abbrev Q75 (c:α→α→Int) (x y:α):Prop:=¬ c y x < 0
theorem Q65 {c:α→α→Int} (hc:Ydc c) (x:α):∀ (rp mid:List α),(rp.reverse++mid).Pairwise (Q75 c)→(∀ y∈mid,c x y < 0)→(Q28 c x rp mid).Pairwise (Q75 c)
 | [],mid,h,hm=>by
  unfold Q28
  exact List.pairwise_cons.2 ⟨fun y hy=>hc.asym _ _ (hm y hy),h⟩
 | p::rp,mid,h,hm=>by
  unfold Q28
  split
  ·rename_i h0
   refine Q65 hc x rp (p::mid) ?_ ?_
   ·rw [List.reverse_cons,List.append_assoc] at h; exact h
   ·intro y hy
    rcases Mr.1 hy with rfl | hy
    ·exact h0
    ·exact hm y hy
  ·rename_i h0
   rw [List.pairwise_append] at h ⊢
   refine⟨h.1,List.pairwise_cons.2 ⟨fun y hy=>hc.asym _ _ (hm y hy),h.2.1⟩,fun a ha b hb=>?_⟩
   rcases Mr.1 hb with rfl | hb
   ·have h2:Q75 c a p:=by
     rw [List.reverse_cons,List.pairwise_append] at h
     rw [List.reverse_cons] at ha
     rcases Mo.1 ha with ha | ha
     ·exact h.1.2.2 a ha p (by simp)
     ·have:a=p:=by simpa using ha
      subst this
      intro h1
      exact hc.asym _ _ h1 h1
    exact hc.ntrans _ _ _ h2 h0
   ·exact h.2.2 a ha b hb
theorem Ja1 {c:α→α→Int} (hc:Ydc c):∀ (t d:List α),d.Pairwise (Q75 c)→(Hdd c d t).Pairwise (Q75 c)
 | [],_,h=>h
 | x::t,d,h=>by
  unfold Hdd
  exact Ja1 hc t _ (Q65 hc x _ _ (by rw [List.reverse_reverse,List.append_nil]; exact h) (fun y hy=>by cases hy))
theorem H5e {c:α→α→Int} (hc:Ydc c) (l:List α):(H6c c l).Pairwise (Q75 c):=Ja1 hc l [] .nil
theorem J24 {β:Type} {z:Int} {k:Int→Option β} (h : -9223372036854775808≤z∧z≤9223372036854775807):chk z k=k z:=by
 unfold chk R47
 rw [M4 h.1,M4 h.2]; rfl
theorem J84 {β:Type} {l:List α} {i:Int} {k:α→Option β} {m:Nat} {x:α} (hi:i=(m:Int)) (hx:l[m]? = some x):Qm l i k=k x:=by
 subst hi
 unfold Qm
 rw [M4 (by omega:(0:Int)≤m),cond_true,show (m:Int).toNat=m by omega,hx]
 rfl
theorem Q64 [Inhabited α] {β:Type} {cmp:α→α→Option Int} {c:α→α→Int} (hc:∀ x y,cmp x y=some (c x y)) {i:Int} {x:α} {post:List α} {nx3:Int×List α→Option β}
  (hi : -9223372036854775808≤i+1∧i+1≤9223372036854775807) :
  ∀ (rp mid:List α) (n:Nat),rp.length < n→rp.length < 4611686018427387904 →
  loop (fun nx58 (s58:Int×(List α))=>
    bnd (bif decide (0 < s58.1) then Qm s58.2 s58.1 some else some default) fun y61=>
    bnd (bif decide (0 < s58.1) then chk (s58.1 - 1) some else some 0) fun v62=>
    bnd (bif decide (0 < s58.1) then Qm s58.2 v62 some else some default) fun y63=>
    bnd (bif decide (0 < s58.1) then cmp y61 y63 else some default) fun r64=>
    bif ((decide (0 < s58.1))&&(decide (r64 < 0))) then
    (chk (s58.1 - 1) fun v66=>
     chk (s58.1 - 1) fun v67=>
     Qm s58.2 v67 fun y68=>
     Qm s58.2 s58.1 fun y69=>
     Qm s58.2 s58.1 fun y70=>
     Qm (s58.2.set s58.1.toNat y68) v66 fun y71=>
     chk (s58.1 - 1) fun v72=>
     nx58 (v72,((s58.2.set s58.1.toNat y68).set v66.toNat y69)))
    else
    (chk (i+1) fun v73=>
     nx3 (v73,s58.2))) n ((rp.length:Int),rp.reverse++x::(mid++post))=nx3 (i+1,Q28 c x rp mid++post)
 | [],mid,n,hn,hl=>by
  obtain⟨n,rfl⟩:∃ m,n=m+1:=⟨n - 1,by simp at hn; omega⟩
  rw [loop]
  simp only [List.length_nil,Int.natCast_zero,Int.lt_irrefl,decide_false,cond_false,bnd,Bool.false_and]
  rw [J24 hi]; rfl
 | p::rp,mid,n,hn,hl=>by
  obtain⟨n,rfl⟩:∃ m,n=m+1:=⟨n - 1,by simp at hn; omega⟩
  rw [Me] at hn hl
  have e:(p::rp).reverse++x::(mid++post)=rp.reverse++p::x::(mid++post):=by simp
  have h0:(rp.reverse++p::x::(mid++post))[rp.length]? = some p:=by
   rw [Mc (by simp)]; simp
  have h1:(rp.reverse++p::x::(mid++post))[rp.length+1]? = some x:=by
   rw [Mc (by simp)]; simp
  have hj:decide (0 < (((p::rp).length:Nat):Int))=true:=by rw [Mm,Me]; omega
  have hz:(((p::rp).length:Nat):Int)=((rp.length+1:Nat):Int):=by rw [Me]
  have ih:=Q64 (nx3:=nx3) (post:=post) (x:=x) hc hi rp (p::mid) n (by omega) (by omega)
  rw [e,loop]
  generalize loop _ n=k at ih ⊢
  simp only [hj,cond_true]
  rw [J84 (m:=rp.length+1) hz h1]
  simp only [bnd]
  rw [J24 (by rw [hz]; omega)]
  simp only
  rw [J84 (m:=rp.length) (by rw [hz]; omega) h0]
  simp only [hc,Bool.true_and]
  unfold Q28
  by_cases h2:c x p < 0
  ·rw [if_pos h2,M4 h2,cond_true]
   rw [J24 (by rw [hz]; omega),J24 (by rw [hz]; omega)]
   rw [J84 (m:=rp.length) (by rw [hz]; omega) h0,J84 (m:=rp.length+1) hz h1,J84 (m:=rp.length+1) hz h1]
   have h5:(((p::rp).length:Nat):Int).toNat=rp.length+1:=by rw [hz]; omega
   have h6:((((p::rp).length:Nat):Int) - 1).toNat=rp.length:=by rw [hz]; omega
   have h3:(rp.reverse++p::x::(mid++post)).set (rp.length+1) p=rp.reverse++p::p::(mid++post):=by
    rw [List.set_append_right _ _ (by simp)]; simp
   have h4:(rp.reverse++p::p::(mid++post)).set rp.length x=rp.reverse++x::p::(mid++post):=by
    rw [List.set_append_right _ _ (by simp)]; simp
   have hg:(rp.reverse++p::p::(mid++post))[rp.length]? = some p:=by
    rw [Mc (by simp)]; simp
   rw [h5,h3,J84 (m:=rp.length) (by rw [hz]; omega) hg,J24 (by rw [hz]; omega),h6,h4]
   rw [show (((p::rp).length:Nat):Int) - 1=(rp.length:Int) by rw [hz]; omega]
   exact ih
  ·rw [if_neg h2,M5 h2,cond_false,J24 hi]
   simp
theorem Q63 [Inhabited α] {F:Nat} {cmp:α→α→Option Int} {c:α→α→Int} (hc:∀ x y,cmp x y=some (c x y)) {b:Nat} (hb:b < 4611686018427387904) (hF:b < F) :
  ∀ (t d:List α) (n:Nat),d.length+t.length=b→t.length < n →
  loop (fun nx3 (s3:Int×(List α))=>
  bif decide (s3.1 < (b:Int)) then
  (loop (fun nx58 (s58:Int×(List α))=>
    bnd (bif decide (0 < s58.1) then Qm s58.2 s58.1 some else some default) fun y61=>
    bnd (bif decide (0 < s58.1) then chk (s58.1 - 1) some else some 0) fun v62=>
    bnd (bif decide (0 < s58.1) then Qm s58.2 v62 some else some default) fun y63=>
    bnd (bif decide (0 < s58.1) then cmp y61 y63 else some default) fun r64=>
    bif ((decide (0 < s58.1))&&(decide (r64 < 0))) then
    (chk (s58.1 - 1) fun v66=>
     chk (s58.1 - 1) fun v67=>
     Qm s58.2 v67 fun y68=>
     Qm s58.2 s58.1 fun y69=>
     Qm s58.2 s58.1 fun y70=>
     Qm (s58.2.set s58.1.toNat y68) v66 fun y71=>
     chk (s58.1 - 1) fun v72=>
     nx58 (v72,((s58.2.set s58.1.toNat y68).set v66.toNat y69)))
    else
    (chk (s3.1+1) fun v73=>
     nx3 (v73,s58.2))) F (s3.1,s3.2))
  else
  (some s3.2)) n ((d.length:Int),d++t)=some (Hdd c d t)
 | [],d,n,hd,hn=>by
  obtain⟨n,rfl⟩:∃ m,n=m+1:=⟨n - 1,by simp at hn; omega⟩
  rw [loop]
  simp only [List.length_nil] at hd
  rw [M5 (by omega),cond_false]
  simp [Hdd]
 | x::t,d,n,hd,hn=>by
  obtain⟨n,rfl⟩:∃ m,n=m+1:=⟨n - 1,by simp at hn; omega⟩
  rw [Me] at hd hn
  rw [loop]
  simp only
  rw [M4 (by omega),cond_true]
  have h:=Q64 (post:=t) (i:=(d.length:Int)) (x:=x) (nx3:=fun s3=>loop (fun nx3 (s3:Int×(List α))=>
  bif decide (s3.1 < (b:Int)) then
  (loop (fun nx58 (s58:Int×(List α))=>
    bnd (bif decide (0 < s58.1) then Qm s58.2 s58.1 some else some default) fun y61=>
    bnd (bif decide (0 < s58.1) then chk (s58.1 - 1) some else some 0) fun v62=>
    bnd (bif decide (0 < s58.1) then Qm s58.2 v62 some else some default) fun y63=>
    bnd (bif decide (0 < s58.1) then cmp y61 y63 else some default) fun r64=>
    bif ((decide (0 < s58.1))&&(decide (r64 < 0))) then
    (chk (s58.1 - 1) fun v66=>
     chk (s58.1 - 1) fun v67=>
     Qm s58.2 v67 fun y68=>
     Qm s58.2 s58.1 fun y69=>
     Qm s58.2 s58.1 fun y70=>
     Qm (s58.2.set s58.1.toNat y68) v66 fun y71=>
     chk (s58.1 - 1) fun v72=>
     nx58 (v72,((s58.2.set s58.1.toNat y68).set v66.toNat y69)))
    else
    (chk (s3.1+1) fun v73=>
     nx3 (v73,s58.2))) F (s3.1,s3.2))
  else
  (some s3.2)) n s3) hc (by omega) d.reverse [] F (by simp; omega) (by simp; omega)
  rw [List.length_reverse,List.reverse_reverse,List.nil_append] at h
  rw [h]
  have hl:(Q28 c x d.reverse []).length=d.length+1:=by rw [Re0]; simp
  have:=Q63 hc hb hF t (Q28 c x d.reverse []) n (by rw [hl]; omega) (by omega)
  rw [hl] at this
  rw [Hdd,← this]
  rfl
theorem Q26 [Inhabited α] {F:Nat} {cmp:α→α→Option Int} {c:α→α→Int} (hc:∀ x y,cmp x y=some (c x y)) {data:List α} {b:Int} (hb:b=(data.length:Int)) (hl:data.length < 4611686018427387904) (hF:data.length < F) :
  Z0c F data 0 b cmp=some (H6c c data):=by
 subst hb
 unfold Z0c
 rw [J24 (by omega)]
 cases data with
 | nil=>
  obtain⟨n,rfl⟩:∃ m,F=m+1:=⟨F - 1,by simp at hF; omega⟩
  rw [loop]; rfl
 | cons x t=>
  have h:=Q63 (F:=F) hc hl hF t [x] F (by simp; omega) (by simp at hF; omega)
  rw [H6c,Hdd,List.reverse_nil,Q28]
  rw [← h]
  rfl
end isort
theorem Yfe:∀ (n:Nat) (l:List Nat),l.Nodup→(∀ x∈l,x < n)→l.length≤n
 | 0,l,_,h=>by
  cases l with
  | nil=>simp
  | cons x r=>exact absurd (h x (by simp)) (by omega)
 | n+1,l,hn,h=>by
  have h1:=Yfe n (l.filter (fun x=>decide (x≠n))) (hn.filter _) (fun x hx=>by
   have:=Ms.1 hx
   have h2:=h x this.1
   have h3:=M2 this.2
   omega)
  have h2:l.count n≤1:=List.nodup_iff_count.1 hn n
  have h3:=List.length_eq_countP_add_countP (fun x=>decide (x≠n)) (l:=l)
  rw [← List.countP_eq_length_filter] at h1
  have h4:l.countP (fun a=>decide (¬ decide (a≠n)=true))=l.count n:=by
   unfold List.count
   congr 1
   funext a
   by_cases e:a=n <;> simp [e]
  rw [h4] at h3
  omega
theorem Red (n:Nat) (h:n≤12):∃ r,G41 (IntKind.u64.wrap (n:Int))=some r:=by
 have h0:(List.range 13).all (fun n=>(G41 (IntKind.u64.wrap (n:Int))).isSome)=true:=by kernel_rfl
 have:=List.all_eq_true.1 h0 n (List.mem_range.2 (by omega))
 exact Kt this
theorem Rc7 {F:Nat} {x:List G1} {cmp:G1→G1→Option Int} {c:G1→G1→Int} (hc:∀ a b,cmp a b=some (c a b)) (hF:20≤F) (hl:x.length≤12):Ry F x cmp=some (H6c c x):=by
 unfold Ry
 obtain⟨F,rfl⟩:∃ m,F=m+1:=⟨F - 1,by omega⟩
 obtain⟨r,hr⟩:=Red _ hl
 rw [hr]
 simp only [bnd]
 unfold Rk
 rw [loop]
 generalize loop _ F=k
 simp only
 rw [J24 (by omega),M4 (by omega),cond_true]
 have:=Q26 (F:=F+1) hc (data:=x) (b:=(x.length:Int)) rfl (by omega) (by omega)
 rw [show Jg (F+1) x 0 (x.length:Int) cmp=some (H6c c x) from this]
 rfl
theorem Yf5 {F:Nat} {x:List Int} {cmp:Int→Int→Option Int} {c:Int→Int→Int} (hc:∀ a b,cmp a b=some (c a b)) (hF:20≤F) (hl:x.length≤12):Zy F x cmp=some (H6c c x):=by
 unfold Zy
 obtain⟨F,rfl⟩:∃ m,F=m+1:=⟨F - 1,by omega⟩
 obtain⟨r,hr⟩:=Red _ hl
 rw [hr]
 simp only [bnd]
 unfold Zi
 rw [loop]
 generalize loop _ F=k
 simp only
 rw [J24 (by omega),M4 (by omega),cond_true]
 have:=Q26 (F:=F+1) hc (data:=x) (b:=(x.length:Int)) rfl (by omega) (by omega)
 rw [show Rm (F+1) x 0 (x.length:Int) cmp=some (H6c c x) from this]
 rfl
theorem Rc8 {F:Nat} {x:List G1} {cmp:G1→G1→Option Int} {c:G1→G1→Int} (hc:∀ a b,cmp a b=some (c a b)) (hF:30≤F) (hl:x.length≤12):Qs F x cmp=some (H6c c x):=by
 unfold Qs Rx
 obtain⟨F,rfl⟩:∃ m,F=m+1:=⟨F - 1,by omega⟩
 rw [loop]
 generalize loop _ F=k
 simp only
 rw [M5 (by omega),cond_false]
 have:=Q26 (F:=F+1) hc (data:=x) (b:=(x.length:Int)) rfl (by omega) (by omega)
 rw [show Jg (F+1) x 0 (x.length:Int) cmp=some (H6c c x) from this]
 simp only [bnd]
 rw [loop]
 generalize loop _ F=k2
 rw [M5 (by omega),cond_false]
theorem Za6 (a b:Int):G28 a b=some (J63 a b):=by
 have h1:decide (a≠a)=false:=by simp
 have h2:decide (b≠b)=false:=by simp
 simp only [G28,G52,bnd,h1,h2,cond_false]
 unfold J63
 cases decide (a < b) <;> cases decide (b < a) <;> rfl
def orI:List Int→Int
 | []=>0
 | x::r=>bif decide (x≠0) then x else orI r
theorem Z18 (l:List Int):Gca l=some (orI l):=by
 unfold Gca
 have key:∀ (l:List Int) (i:Nat),each (fun(y19:Int) (_:Nat) (_:Unit) nx19=>bif decide (y19≠0) then some y19 else nx19 ()) (fun(_:Unit)=>some (0:Int)) l i ()=some (orI l):=by
  intro l
  induction l with
  | nil=>intro i; rfl
  | cons x r ih=>
   intro i
   rw [each,orI]
   cases decide (x≠0) with
   | true=>rfl
   | false=>exact ih _
 exact key l 0
def Z4e (a b:Slot):Int:=orI [J63 a.G3 b.G3,J63 a.Tier b.Tier,J63 a.Half b.Half]
theorem Yf8 (a b:Slot):Gb1 a b=some (Z4e a b):=by
 simp only [Gb1,Jf5,Za6,Z18,bnd]; rfl
def Rd1 (a b:G1):Int:=orI [J63 a.Slot.Tier b.Slot.Tier,Z4e a.Slot b.Slot]
theorem Z00 (a b:G1):G3a a b=some (Rd1 a b):=by
 simp only [G3a,Jf5,Yf8,Z18,bnd]; rfl
def J95 (a b:G1):Int:=J63 b.Slot.Tier a.Slot.Tier
theorem Yda (a b:G1):Zr a b=some (J95 a b):=by
 simp only [Zr,Jf5,bnd]; rfl
theorem H50 {a b:Int}:J63 a b < 0 ↔ a < b:=by
 unfold J63
 by_cases h:a < b
 ·simp [h]
 ·by_cases h2:b < a <;> simp [h,h2]
theorem J8b {a b:Int}:J63 a b=0 ↔ a=b:=by
 unfold J63
 by_cases h:a < b
 ·simp [h]; omega
 ·by_cases h2:b < a
  ·simp [h,h2]; omega
  ·simp [h,h2]; omega
theorem Qd0 (a:Int) (r:List Int):orI (a::r) < 0 ↔ a < 0∨(a=0∧orI r < 0):=by
 rw [orI]
 by_cases h:a=0
 ·simp [h]
 ·simp [h]
end Go.Proofs.YtgcpimpnpcdmmaaGreat
