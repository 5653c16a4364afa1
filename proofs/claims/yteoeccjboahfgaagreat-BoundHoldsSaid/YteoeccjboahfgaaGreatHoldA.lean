/-
 What plan.Count returns: how many boxes are lifted at calls although they stay. Boxes that are never restowed: two of groups that cross never stand over one another.
-/
import Derived.Test.YteoeccjboahfgaaGreatPlanH
set_option maxRecDepth 100000
namespace Go.Proofs.YteoeccjboahfgaaGreat
open Go.RowKit

def tot {α:Type} (f:α→Int):List α→Int
 | []=>0
 | x::l=>f x+tot f l
theorem Ha3 {α:Type} {f:α→Int}:∀ (l m:List α),tot f (l++m)=tot f l+tot f m
 | [],m=>by simp [tot]
 | x::l,m=>by rw [List.cons_append,tot,tot,Ha3 l m]; omega
theorem tot_snoc {α:Type} {f:α→Int} (l:List α) (x:α):tot f (l++[x])=tot f l+f x:=by rw [Ha3]; simp [tot]
/-- A box is on board before and behind a call. -/
def bothB (before after:List G7) (id:Int):Bool:=(Qm before id).2&&(Qm after id).2
theorem J8d {calls:Int} {boxes:List Gr} (hb:Yg calls boxes) {b:Gr} (hm:b∈boxes) (k:Int):b.ID∈Ga5 boxes k ↔ Gc9 k b=true:=by
 unfold Ga5
 rw [List.mem_map]
 constructor
 ·rintro⟨b',hb',e⟩
  obtain⟨q1,q2⟩:=List.mem_filter.1 hb'
  have:=hb.inj q1 hm e
  subst this; exact q2
 ·intro h
  exact⟨b,List.mem_filter.2 ⟨hm,h⟩,rfl⟩
/-- The restows of a call. -/
def RestAt (s:Hc) (states:List (List G7)) (k:Nat) (x:List Int):Prop:=
 ∃ after L,states[k]? = some after∧H72 s (G10 states k) after L∧x=L.filter (bothB (G10 states k) after)∧x.length≤16
theorem restow_least {s:Hc} {boxes:List Gr} {before after:List G7} {F:Nat} (hs:Small s) (h1:Gbd s boxes before) (h2:Gbd s boxes after) (l1:before.length≤8) (l2:after.length≤8) (hF:60≤F) :
  Wp (Y4 F s before after) (fun r23=>Wp (R3 F r23 (fun z0=>G1c z0 before after)) (fun x=>∃ L,H72 s before after L∧x=L.filter (bothB before after)∧x.length≤16)):=by
 have hU:=states_ok hs h1 h2 (by omega) (by omega)
 have hlen:(before.map (·.Gr)++after.map (·.Gr)).length≤16:=by simp only [List.length_append,List.length_map]; omega
 obtain⟨r,e,hr1,hr2,hr3⟩:=lifted_full hU (F:=F) (by omega)
 refine⟨r,e,?_⟩
 have hrl:=(G7c hr1).length_le_of_subset (fun a ha=>hr2 a ha)
 refine⟨_,deleteFunc (p:=fun id=>(!(Qm before id).2)||(!(Qm after id).2)) (fun x _=>G4f (H6 (G70 before x) (H6 (G70 after x) (Gw rfl)))) (by omega) (by omega),r,hr3,?_,Nat.le_trans (List.length_filter_le _ _) (by omega)⟩
 refine List.filter_congr (fun x _=>?_)
 unfold bothB
 cases (Qm before x).2 <;> cases (Qm after x).2 <;> rfl
theorem plan_restows3 {s:Hc} {boxes:List Gr} {calls:Int} {p:G6a} {F:Nat} (hs:Small s) (hb:Yg calls boxes) (hp:J91 s boxes calls p) (hF:60≤F) :
  Wp (G3e F s boxes calls p) (fun r=>r.2=0∧r.1.length=p.States.length∧∀ k x,r.1[k]? = some x→RestAt s p.States k x):=by
 unfold G3e
 refine H6 (plan_check hs hb hp) (Hq (fun h=>by simp at h) (fun _=>?_))
 refine H6 (show Gcf p=some () from rfl) ?_
 obtain⟨ys,e0,hyl,hys⟩:=plan_steps p
 refine H6 e0 ?_
 have hcalls:p.States.length≤20:=by have:=hp.len; have:=hb.num; omega
 have hbl:=hb.len
 refine J6 (fun pre out=>out.length=pre.length∧∀ (k:Nat) x,out[k]? = some x→RestAt s p.States k x) ⟨rfl,fun k x h=>(by simp at h)⟩ (fun pre y post out nx e hI hnx=>?_)
  (fun out hI=>Gw ⟨rfl,hI.1.trans hyl,hI.2⟩)
 obtain⟨h1,h2⟩:=hI
 have hyk:ys[pre.length]? = some y:=by rw [e]; simp
 have hpl:pre.length < 20:=by have:=(List.getElem?_eq_some_iff.1 hyk).1; omega
 obtain⟨g1,g2⟩:=hys pre.length y hyk
 have hafter:H07 s boxes pre.length y.2:=hp.each _ _ g2
 have hbefore:Gbd s boxes y.1∧y.1.length≤8:=by
  rw [g1]
  unfold G10
  by_cases hk:pre.length=0
  ·rw [if_pos hk]; exact⟨Hb4,by simp⟩
  ·rw [if_neg hk]
   have hlt:pre.length - 1 < p.States.length:=by have:=(List.getElem?_eq_some_iff.1 g2).1; omega
   have hgot:p.States[pre.length - 1]? = some p.States[pre.length - 1]:=by simp
   have:=hp.each _ _ hgot
   rw [hgot]
   exact⟨this.right,by have:=this.len; simp only [Option.getD_some]; omega⟩
 have hal:=hafter.len
 refine Hd (wp_mono (restow_least hs hbefore.1 hafter.right hbefore.2 (by omega) hF) (fun r23 hr=>Hd (wp_mono hr (fun r25 h25=>?_))))
 refine Q1 (Ro (by rw [List.length_singleton]; omega) (by omega)) (hnx _ ⟨by simp [h1],fun k x hx=>?_⟩)
 rw [List.getElem?_append] at hx
 split at hx
 ·exact h2 k x hx
 ·rename_i hk
  have hk0:k - out.length=0:=by
   have:=(List.getElem?_eq_some_iff.1 hx).1
   simp only [List.length_singleton] at this; omega
  rw [hk0] at hx
  simp only [List.getElem?_cons_zero,Option.some.injEq] at hx
  subst hx
  have:k=pre.length:=by omega
  subst this
  obtain⟨L,hL⟩:=h25
  exact⟨y.2,L,g2,g1 ▸ hL⟩
/-- How many of some lists' elements there are. -/
def totL (out:List (List Int)):Int:=tot (fun x:List Int=>(x.length:Int)) out
theorem plan_count3 {s:Hc} {boxes:List Gr} {calls:Int} {p:G6a} {F:Nat} (hs:Small s) (hb:Yg calls boxes) (hp:J91 s boxes calls p) (hF:60≤F) :
  Wp (G8b F s boxes calls p) (fun r=>r.2=0∧∃ out:List (List Int),out.length=p.States.length∧r.1=totL out∧(0≤r.1∧r.1≤400)∧∀ k x,out[k]? = some x→RestAt s p.States k x):=by
 have hcalls:p.States.length≤20:=by have:=hp.len; have:=hb.num; omega
 unfold G8b
 refine Hd (wp_mono (plan_restows3 hs hb hp hF) (fun r hr=>?_))
 obtain⟨h0,h1,h2⟩:=hr
 refine J6 (fun pre n=>n=totL pre∧0≤n∧n≤16*(pre.length:Int)) ⟨rfl,by omega,by simp⟩ (fun pre x post n nx e hI hnx=>?_) (fun n hI=>Gw ⟨h0,r.1,h1,hI.1,⟨hI.2.1,by have:=hI.2.2; omega⟩,h2⟩)
 obtain⟨i1,i2,i3⟩:=hI
 have hx:r.1[pre.length]? = some x:=by rw [e]; simp
 obtain⟨_,_,_,_,_,hx8⟩:=h2 _ _ hx
 have hpl:pre.length < 20:=by have:=(List.getElem?_eq_some_iff.1 hx).1; omega
 refine J1 ⟨by omega,by omega⟩ (hnx _ ⟨?_,by omega,?_⟩)
 ·unfold totL; rw [tot_snoc,i1]; rfl
 ·rw [List.length_append,List.length_singleton]; omega
end Go.Proofs.YteoeccjboahfgaaGreat
set_option maxRecDepth 100000
namespace Go.Proofs.YteoeccjboahfgaaGreat
open Go.RowKit

/-- The state behind a call, and ahead of one. -/
def J6e (S:List (List G7)) (k:Nat):List G7:=(S[k]?).getD []
/-- A plan that is right, with what is restowed at each call. -/
structure G4e (s:Hc) (boxes:List Gr) (calls:Int) (S:List (List G7)) (out:List (List Int)):Prop where
 bok:Yg calls boxes
 len:(S.length:Int)=calls
 each:∀ k,k < S.length→H07 s boxes k (J6e S k)
 rest:∀ k,k < S.length→∃ L x,out[k]? = some x∧H72 s (G10 S k) (J6e S k) L∧x=L.filter (bothB (G10 S k) (J6e S k))
/-- A box is restowed at some call. -/
def G69 (out:List (List Int)) (id:Int):Bool:=out.any (fun x=>x.any (fun y=>decide (id=y)))
theorem movedB_of {out:List (List Int)} {id:Int} {x:List Int} (h1:x∈out) (h2:id∈x):G69 out id=true:=List.any_eq_true.2 ⟨x,h1,List.any_eq_true.2 ⟨id,h2,decide_eq_true rfl⟩⟩
section
variable {s:Hc} {boxes:List Gr} {calls:Int} {S:List (List G7)} {out:List (List Int)} {a b:Gr}
theorem G4e.prev (h:G4e s boxes calls S out) {k:Nat} (hk:k < S.length):(G10 S k).map (·.Gr)=Ga5 boxes ((k:Int) - 1):=by
 unfold G10
 by_cases h0:k=0
 ·subst h0
  rw [if_pos rfl]
  unfold Ga5
  symm
  rw [List.map_nil,List.map_eq_nil_iff,List.filter_eq_nil_iff]
  intro b hb
  have:=(h.bok.each b hb).load
  unfold Gc9
  rw [decide_eq_false (by omega)]
  simp
 ·rw [if_neg h0]
  have:=(h.each (k - 1) (by omega)).ids
  unfold J6e at this
  rw [this]
  congr 1
  omega
theorem G4e.prev_eq (_:G4e s boxes calls S out) {k:Nat} (h0:0 < k):G10 S k=J6e S (k - 1):=by
 unfold G10 J6e
 rw [if_neg (by omega)]
theorem G4e.atPrev (h:G4e s boxes calls S out) {k:Nat} (hk:k < S.length) (hb:b∈boxes):b.ID∈(G10 S k).map (·.Gr) ↔ Gc9 ((k:Int) - 1) b=true:=by
 rw [h.prev hk]; exact J8d h.bok hb _
theorem G4e.at (h:G4e s boxes calls S out) {k:Nat} (hk:k < S.length) (hb:b∈boxes):b.ID∈(J6e S k).map (·.Gr) ↔ Gc9 (k:Int) b=true:=by
 rw [(h.each k hk).ids]; exact J8d h.bok hb _
theorem G4e.caught (h:G4e s boxes calls S out) {k:Nat} (hk:k < S.length) (hb:b∈boxes) (h1:Gc9 ((k:Int) - 1) b=true) (h2:Gc9 (k:Int) b=true) {L x:List Int} (ex:out[k]? = some x) (hx:x=L.filter (bothB (G10 S k) (J6e S k))) (hin:b.ID∈L):G69 out b.ID=true:=by
 refine movedB_of (List.mem_of_getElem? ex) ?_
 rw [hx,List.mem_filter]
 refine⟨hin,?_⟩
 unfold bothB
 rw [Bool.and_eq_true,G28,G28]
 exact⟨(h.atPrev hk hb).2 h1,(h.at hk hb).2 h2⟩
theorem G4e.stay (h:G4e s boxes calls S out) (hb:b∈boxes) (hm:G69 out b.ID=false) {k:Nat} (hk:k < S.length) (h1:Gc9 ((k:Int) - 1) b=true) (h2:Gc9 (k:Int) b=true):Qm (G10 S k) b.ID=Qm (J6e S k) b.ID:=by
 refine Decidable.byContradiction (fun hne=>?_)
 obtain⟨L,x,ex,hL,hx⟩:=h.rest k hk
 obtain⟨y,hy,e⟩:=List.mem_map.1 ((h.atPrev hk hb).2 h1)
 have hin:b.ID∈L:=by
  rw [← e]
  exact hL.seeds _ (by simp) y hy (by rw [e]; exact hne)
 rw [h.caught hk hb h1 h2 ex hx hin] at hm
 cases hm
theorem G4e.fixed (h:G4e s boxes calls S out) (hb:b∈boxes) (hm:G69 out b.ID=false):∀ (n t:Nat),t+n < S.length→b.Load≤t→((t+n:Nat):Int) < b.Discharge→Qm (J6e S t) b.ID=Qm (J6e S (t+n)) b.ID
 | 0,t,_,_,_=>rfl
 | n+1,t,hk,h1,h2=>by
  rw [h.fixed hb hm n t (by omega) h1 (by omega)]
  have:=h.stay hb hm (k:=t+(n+1)) hk (by unfold Gc9; rw [decide_eq_true (by omega),decide_eq_true (by omega)]; rfl) (by unfold Gc9; rw [decide_eq_true (by omega),decide_eq_true (by omega)]; rfl)
  rw [h.prev_eq (by omega)] at this
  exact this
/-- Of two boxes of groups that cross, neither stands over the other, if none is ever restowed. -/
theorem G4e.apart (h:G4e s boxes calls S out) (ha:a∈boxes) (hb:b∈boxes) (ma:G69 out a.ID=false) (mb:G69 out b.ID=false) (c1:a.Load < b.Load) (c2:b.Load < a.Discharge) (c3:a.Discharge < b.Discharge) {t:Nat} (ht:b.Load≤t) (ht2:(t:Int) < a.Discharge) :
  ¬ J92 (Qm (J6e S t) b.ID).1 (Qm (J6e S t) a.ID).1∧¬ J92 (Qm (J6e S t) a.ID).1 (Qm (J6e S t) b.ID).1:=by
 have ka:=(h.bok.each a ha)
 have kb:=(h.bok.each b hb)
 have la:=ka.load
 have oa:=ka.out
 have ob:=kb.out
 have hlen:=h.len
 constructor
 ·intro hov
  obtain⟨k,hk⟩:∃ k:Nat,a.Discharge=(k:Int):=⟨a.Discharge.toNat,by omega⟩
  have hkl:k < S.length:=by omega
  have ab1:Gc9 ((k:Int) - 1) a=true:=by unfold Gc9; rw [decide_eq_true (by omega),decide_eq_true (by omega)]; rfl
  have ab2:Gc9 (k:Int) a=false:=by unfold Gc9; rw [decide_eq_false (by omega:¬ (k:Int) < a.Discharge)]; simp
  have bb1:Gc9 ((k:Int) - 1) b=true:=by unfold Gc9; rw [decide_eq_true (by omega),decide_eq_true (by omega)]; rfl
  have bb2:Gc9 (k:Int) b=true:=by unfold Gc9; rw [decide_eq_true (by omega),decide_eq_true (by omega)]; rfl
  obtain⟨L,x,ex,hL,hx⟩:=h.rest k hkl
  have fa:=h.fixed ha ma (k - 1 - t) t (by omega) (by omega) (by omega)
  have fb:=h.fixed hb mb (k - 1 - t) t (by omega) ht (by omega)
  rw [show t+(k - 1 - t)=k - 1 by omega,← h.prev_eq (by omega:0 < k)] at fa fb
  rw [fa,fb] at hov
  have pa:=G28.2 ((h.atPrev hkl ha).2 ab1)
  have pb:=G28.2 ((h.atPrev hkl hb).2 bb1)
  have hna:(Qm (J6e S k) a.ID).2=false:=by
   cases hh:(Qm (J6e S k) a.ID).2 with
   | false=>rfl
   | true=>
    have:=(h.at hkl ha).1 (G28.1 hh)
    rw [ab2] at this; cases this
  obtain⟨y,hy,e,_⟩:=G9a pa
  have hLa:a.ID∈L:=by
   rw [← e]
   refine hL.seeds _ (by simp) y hy (fun he=>?_)
   rw [e] at he
   rw [← he,pa] at hna; cases hna
  obtain⟨z,hz,e2,e3⟩:=G9a pb
  have hLb:b.ID∈L:=hL.closed _ hLa _ ⟨G10 S k,by simp,pa,.inl ⟨z,hz,e2,by rw [← e3]; exact hov⟩⟩
  rw [h.caught hkl hb bb1 bb2 ex hx hLb] at mb
  cases mb
 ·intro hov
  obtain⟨k,hk⟩:∃ k:Nat,b.Load=(k:Int):=⟨b.Load.toNat,by omega⟩
  have hkl:k < S.length:=by omega
  have ab1:Gc9 ((k:Int) - 1) a=true:=by unfold Gc9; rw [decide_eq_true (by omega),decide_eq_true (by omega)]; rfl
  have ab2:Gc9 (k:Int) a=true:=by unfold Gc9; rw [decide_eq_true (by omega),decide_eq_true (by omega)]; rfl
  have bb1:Gc9 ((k:Int) - 1) b=false:=by unfold Gc9; rw [decide_eq_false (by omega:¬ b.Load≤(k:Int) - 1)]; rfl
  have bb2:Gc9 (k:Int) b=true:=by unfold Gc9; rw [decide_eq_true (by omega),decide_eq_true (by omega)]; rfl
  obtain⟨L,x,ex,hL,hx⟩:=h.rest k hkl
  have fa:=h.fixed ha ma (t - k) k (by omega) (by omega) (by omega)
  have fb:=h.fixed hb mb (t - k) k (by omega) (by omega) (by omega)
  rw [show k+(t - k)=t by omega] at fa fb
  rw [← fa,← fb] at hov
  have pa:=G28.2 ((h.at hkl ha).2 ab2)
  have pb:=G28.2 ((h.at hkl hb).2 bb2)
  have hnb:(Qm (G10 S k) b.ID).2=false:=by
   cases hh:(Qm (G10 S k) b.ID).2 with
   | false=>rfl
   | true=>
    have:=(h.atPrev hkl hb).1 (G28.1 hh)
    rw [bb1] at this; cases this
  obtain⟨y,hy,e,_⟩:=G9a pb
  have hLb:b.ID∈L:=by
   rw [← e]
   refine hL.seeds _ (by simp) y hy (fun he=>?_)
   rw [e] at he
   rw [he,pb] at hnb; cases hnb
  obtain⟨z,hz,e2,e3⟩:=G9a pa
  have hLa:a.ID∈L:=hL.closed _ hLb _ ⟨J6e S k,by simp,pb,.inl ⟨z,hz,e2,by rw [← e3]; exact hov⟩⟩
  rw [h.caught hkl ha ab1 ab2 ex hx hLa] at ma
  cases ma
end
end Go.Proofs.YteoeccjboahfgaaGreat
