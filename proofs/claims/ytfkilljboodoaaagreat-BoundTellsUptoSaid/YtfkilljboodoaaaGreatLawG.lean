/-
 What bound.Check returns. What the counts of bound.Groups are.
-/
import Derived.Test.YtfkilljboodoaaaGreatXB
import Derived.Test.YtfkilljboodoaaaGreatSpecG
set_option maxRecDepth 100000
namespace Go.Proofs.YtfkilljboodoaaaGreat
open Go.RowKit

theorem Hf5 (F:Nat) (s:J0) (boxes:List H4) (families:List (List G6)) (r:Int×Int):H80 r (G86 F s boxes families (fun r_=>r_=r)) (G3a F s boxes families):=by
 unfold G86 G3a
 refine G8c (fun v=>G8d (fun _=>H4b) (fun _=>G8c (fun v=>?_)))
 refine H4c (fun x i s nx nx' hnx=>?_) (fun s=>?_)
 ·refine G8c (fun v=>G8d (fun _=>H4b) (fun _=>G8c (fun v=>Hb3 (fun v=>?_))))
  refine H4c (fun x i s nx nx' hnx=>?_) (fun s=>hnx _)
  exact G8c (fun v=>Hb3 (fun v=>hnx _))
 ·exact rel_any (c:=fun x:G6×Int=>decide (1 < x.2)) (e:=(0,271)) (e':=(s.1,0))
abbrev Gc6:=G3a
def H7f:=PLift.up (J56 Gc6 (fun F s b f r h=>Hf5 F s b f r h))
end Go.Proofs.YtfkilljboodoaaaGreat
set_option maxRecDepth 100000
namespace Go.Proofs.YtfkilljboodoaaaGreat
open Go.RowKit Go.Shelf Go.Sort

theorem sum_mput {κ ν:Type} [DecidableEq κ] (f:κ×ν→Int) (a:κ) (v:ν):∀ {l:List (κ×ν)},(l.map (·.1)).Nodup→((G97 l a v).map f).sum=(l.map f).sum+f (a,v) - (match G3c l a with | some w=>f (a,w) | none=>0)
 | l,hn=>by
  unfold G97
  by_cases h:G69 l a=true
  ·rw [if_pos h]
   have key:∀ l:List (κ×ν),(l.map (·.1)).Nodup→G69 l a=true→((l.map fun p=>if p.1=a then (a,v) else p).map f).sum=(l.map f).sum+f (a,v) - (match G3c l a with | some w=>f (a,w) | none=>0):=by
    intro l
    induction l with
    | nil=>intro _ h; simp [G69] at h
    | cons p r ih=>
     intro hn h
     rw [List.map_cons,List.nodup_cons] at hn
     rw [G6a]
     by_cases e:p.1=a
     ·have hr:∀ q∈r,¬ q.1=a:=fun q hq e'=>hn.1 (List.mem_map.2 ⟨q,hq,by rw [e',e]⟩)
      have hm:(r.map fun p=>if p.1=a then (a,v) else p)=r:=by
       conv=>rhs; rw [← List.map_id r]
       exact List.map_congr_left (fun q hq=>by rw [if_neg (hr q hq)]; rfl)
      have ep:p=(a,p.2):=by rw [← e]
      simp only [List.map_cons,List.sum_cons,if_pos e,hm]
      rw [← ep]; omega
     ·have h':G69 r a=true:=by
       simp only [G69,List.any_cons,decide_eq_true_eq,Bool.or_eq_true,e,false_or] at h ⊢
       simpa using h
      have:=ih hn.2 h'
      simp only [List.map_cons,List.sum_cons,if_neg e]
      simp only [List.map_map] at this ⊢
      omega
   exact key l hn h
  ·rw [if_neg h,H6d (by simpa using h)]
   simp

def hit (g:G6) (z:Int) (x:H4):Bool:=decide (x.Load=g.Load)&&decide (x.Discharge=g.Discharge)&&decide (x.Size=z)
def Zo (z:Int) (g:G6) (pre:List H4):Int:=(pre.countP (hit g z):Nat)
def alln (z:Int) (pre:List H4):Int:=(pre.countP (fun x=>decide (x.Size=z)):Nat)
theorem Gf8 (z:Int) (g:G6) (pre:List H4) (x:H4):Zo z g (pre++[x])=Zo z g pre+(if hit g z x then 1 else 0):=by
 unfold Zo; rw [List.countP_append]; by_cases h:hit g z x <;> simp [h]
theorem Hbb (z:Int) (pre:List H4) (x:H4):alln z (pre++[x])=alln z pre+(if decide (x.Size=z) then 1 else 0):=by
 unfold alln; rw [List.countP_append]; by_cases h:x.Size=z <;> simp [h]
theorem G6c (z:Int) (g:G6) (pre:List H4):0≤Zo z g pre∧Zo z g pre≤(pre.length:Int):=by
 unfold Zo; have:=List.countP_le_length (p:=hit g z) (l:=pre); omega

/-- The map behind some boxes. -/
structure H56 (pre:List H4) (s:Hh G6 G2):Prop where
 get:∀ g,G3c (Hh.l s) g=if Zo 40 g pre+Zo 20 g pre=0 then none else some ⟨g,Zo 40 g pre,Zo 20 g pre⟩
 whole:((Hh.l s).map (fun e=>e.2.Whole)).sum=alln 40 pre
 half:((Hh.l s).map (fun e=>e.2.Half)).sum=alln 20 pre
 len:(Hh.l s).length≤pre.length
theorem H56.start:H56 [] Hh.empty:=⟨fun g=>by simp [Zo,Hh.empty,G3c],by simp [Hh.empty,alln],by simp [Hh.empty,alln],by simp [Hh.empty]⟩
theorem length_mput {κ ν:Type} [DecidableEq κ] (l:List (κ×ν)) (a:κ) (v:ν):(G97 l a v).length≤l.length+1:=by
 unfold G97; split <;> simp
theorem H56.old {pre:List H4} {s:Hh G6 G2} (h:H56 pre s) (g:G6):Hh.get s g (G2.mk (G6.mk 0 0) 0 0)=(if Zo 40 g pre+Zo 20 g pre=0 then G2.mk (G6.mk 0 0) 0 0 else ⟨g,Zo 40 g pre,Zo 20 g pre⟩):=by
 unfold Hh.get; rw [h.get]; split <;> rfl
theorem H56.old2 {pre:List H4} {s:Hh G6 G2} (h:H56 pre s) (g:G6):(Hh.get s g (G2.mk (G6.mk 0 0) 0 0)).Whole=Zo 40 g pre∧(Hh.get s g (G2.mk (G6.mk 0 0) 0 0)).Half=Zo 20 g pre:=by
 rw [h.old]
 have h1:=G6c 40 g pre
 have h2:=G6c 20 g pre
 split
 ·exact⟨by simp only; omega,by simp only; omega⟩
 ·exact⟨rfl,rfl⟩

theorem hit_self (x:H4) (z:Int):hit (G6.mk x.Load x.Discharge) z x=decide (x.Size=z):=by simp [hit]
theorem hit_other {x:H4} {g:G6} (z:Int) (h:¬ G6.mk x.Load x.Discharge=g):hit g z x=false:=by
 cases hb:hit g z x with
 | false=>rfl
 | true=>
  exfalso
  simp only [hit,Bool.and_eq_true,decide_eq_true_eq] at hb
  apply h
  cases g
  simp only at hb
  rw [hb.1.1,hb.1.2]
/-- One box more, of 40 or 20 feet. -/
theorem H56.put {pre:List H4} {s:Hh G6 G2} (h:H56 pre s) (x:H4) (hx:x.Size=40∨x.Size=20) :
  H56 (pre++[x]) (Hh.put s (G6.mk x.Load x.Discharge) (G2.mk (G6.mk x.Load x.Discharge) (Zo 40 (G6.mk x.Load x.Discharge) pre+(if decide (x.Size=40) then 1 else 0)) (Zo 20 (G6.mk x.Load x.Discharge) pre+(if decide (x.Size=20) then 1 else 0)))):=by
 have h40:=G6c 40 (G6.mk x.Load x.Discharge) pre
 have h20:=G6c 20 (G6.mk x.Load x.Discharge) pre
 refine⟨fun g=>?_,?_,?_,?_⟩
 ·show G3c (G97 (Hh.l s) _ _) g=_
  rw [mget_mput,Gf8,Gf8]
  by_cases e:G6.mk x.Load x.Discharge=g
  ·subst e
   have hone:(if decide (x.Size=40)=true then (1:Int) else 0)+(if decide (x.Size=20)=true then 1 else 0)=1:=by
    rcases hx with hx | hx <;> rw [hx] <;> rfl
   have hne:¬ (Zo 40 (G6.mk x.Load x.Discharge) pre+(if decide (x.Size=40)=true then 1 else 0)+(Zo 20 (G6.mk x.Load x.Discharge) pre+(if decide (x.Size=20)=true then 1 else 0))=0):=by omega
   rw [if_pos rfl,hit_self,hit_self,if_neg hne]
  ·rw [if_neg e,hit_other 40 e,hit_other 20 e,h.get]
   simp
 ·show ((G97 (Hh.l s) _ _).map _).sum=_
  rw [sum_mput _ _ _ s.nd,h.whole,h.get,Hbb]
  by_cases e0:Zo 40 (G6.mk x.Load x.Discharge) pre+Zo 20 (G6.mk x.Load x.Discharge) pre=0
  ·rw [if_pos e0]; simp only; omega
  ·rw [if_neg e0]; simp only; omega
 ·show ((G97 (Hh.l s) _ _).map _).sum=_
  rw [sum_mput _ _ _ s.nd,h.half,h.get,Hbb]
  by_cases e0:Zo 40 (G6.mk x.Load x.Discharge) pre+Zo 20 (G6.mk x.Load x.Discharge) pre=0
  ·rw [if_pos e0]; simp only; omega
  ·rw [if_neg e0]; simp only; omega
 ·have:=length_mput (Hh.l s) (G6.mk x.Load x.Discharge) (G2.mk (G6.mk x.Load x.Discharge) (Zo 40 (G6.mk x.Load x.Discharge) pre+(if decide (x.Size=40) then 1 else 0)) (Zo 20 (G6.mk x.Load x.Discharge) pre+(if decide (x.Size=20) then 1 else 0)))
  have:=h.len
  show (G97 _ _ _).length≤_
  rw [List.length_append,List.length_singleton]; omega
/-- One box more, of another size. -/
theorem H56.skip {pre:List H4} {s:Hh G6 G2} (h:H56 pre s) (x:H4) (h40:¬ x.Size=40) (h20:¬ x.Size=20):H56 (pre++[x]) s:=by
 have e1:∀ g,hit g 40 x=false:=fun g=>by simp [hit,h40]
 have e2:∀ g,hit g 20 x=false:=fun g=>by simp [hit,h20]
 refine⟨fun g=>by rw [Gf8,Gf8,e1,e2,h.get]; simp,by rw [Hbb,h.whole]; simp [h40],by rw [Hbb,h.half]; simp [h20],?_⟩
 have:=h.len
 rw [List.length_append]; omega
theorem chk_ok {β:Type} {z:Int} {k:Int→Option β} (h : -9223372036854775808≤z∧z≤9223372036854775807):Rm z k=k z:=by
 unfold Rm inI64
 rw [decide_eq_true h.1,decide_eq_true h.2,Bool.and_self,cond_true]
def gbody (y:H4) (_:Nat) (s:Hh G6 G2) (nx:Hh G6 G2→Option (List G2)):Option (List G2):=
  jp (fun kj=>
   bnd (some (Hh.get s (G6.mk y.Load y.Discharge) (G2.mk (G6.mk 0 0) 0 0))) fun v=>
   jp (fun kj2=>
    bif decide (y.Size=40) then (Rm (v.Whole+1) fun w=>kj2 (w,v.Half))
    else (bif decide (y.Size=20) then (Rm (v.Half+1) fun w=>kj2 (v.Whole,w)) else (kj (s,v.Whole,v.Half)))) fun(j:Int×Int)=>
   kj ((Hh.put s (G6.mk y.Load y.Discharge) (G2.mk (G6.mk y.Load y.Discharge) j.1 j.2)),j.1,j.2)) fun(j:(Hh G6 G2)×Int×Int)=>
  nx j.1
theorem gbody_step {pre:List H4} {s:Hh G6 G2} (h:H56 pre s) (y:H4) (i:Nat) (hl:pre.length≤1000000) (nx:Hh G6 G2→Option (List G2)):∃ s',H56 (pre++[y]) s'∧gbody y i s nx=nx s':=by
 obtain⟨e1,e2⟩:=h.old2 (G6.mk y.Load y.Discharge)
 have h40:=G6c 40 (G6.mk y.Load y.Discharge) pre
 have h20:=G6c 20 (G6.mk y.Load y.Discharge) pre
 by_cases a:y.Size=40
 ·have b:¬ y.Size=20:=by omega
  have hp:=h.put y (.inl a)
  rw [if_pos (decide_eq_true a),if_neg (by rw [decide_eq_false b]; exact Bool.false_ne_true),Int.add_zero] at hp
  refine⟨_,hp,?_⟩
  unfold gbody
  simp only [jp,bnd,e1,e2]
  rw [decide_eq_true a,cond_true,chk_ok ⟨by omega,by omega⟩]
 ·by_cases b:y.Size=20
  ·have hp:=h.put y (.inr b)
   rw [if_neg (by rw [decide_eq_false a]; exact Bool.false_ne_true),if_pos (decide_eq_true b),Int.add_zero] at hp
   refine⟨_,hp,?_⟩
   unfold gbody
   simp only [jp,bnd,e1,e2]
   rw [decide_eq_false a,cond_false,decide_eq_true b,cond_true,chk_ok ⟨by omega,by omega⟩]
  ·refine⟨s,h.skip y a b,?_⟩
   unfold gbody
   simp only [jp,bnd]
   rw [decide_eq_false a,cond_false,decide_eq_false b,cond_false]
theorem J42 (kx:Hh G6 G2→Option (List G2)):∀ (xs pre:List H4) (i:Nat) (s:Hh G6 G2),H56 pre s→pre.length+xs.length≤1000000→∃ m,H56 (pre++xs) m∧each gbody kx xs i s=kx m
 | [],pre,i,s,h,_=>⟨s,by simpa using h,rfl⟩
 | x::xs,pre,i,s,h,hl=>by
  rw [List.length_cons] at hl
  obtain⟨s',h',e⟩:=gbody_step h x i (by omega) (each gbody kx xs (i+1))
  obtain⟨m,hm,e2⟩:=J42 kx xs (pre++[x]) (i+1) s' h' (by rw [List.length_append,List.length_singleton]; omega)
  refine⟨m,by simpa using hm,?_⟩
  rw [each,e,e2]
/-- The groups of at most a million boxes. -/
theorem J41 (boxes:List H4) (hl:boxes.length≤1000000):∃ m,H56 boxes m∧Qp boxes=some (Ha3 ((Hh.l m).map (·.2))):=by
 obtain⟨m,hm,e⟩:=J42 (fun s=>need (decide ((Hh.l s).length*32≤140737488355328∧(Hh.l s).length≤maxLen)) <| some (Ha3 ((Hh.l s).map (·.2)))) boxes [] 0 Hh.empty H56.start (by simpa using hl)
 refine⟨m,by simpa using hm,?_⟩
 have hlen:=hm.len
 rw [List.nil_append] at hlen
 have hd:decide ((Hh.l m).length*32≤140737488355328∧(Hh.l m).length≤maxLen)=true:=by
  rw [decide_eq_true_eq]
  have:maxLen=9223372036854775807:=rfl
  omega
 unfold Qp
 refine Eq.trans e ?_
 simp only [hd,need_tt]
theorem H56.entry {pre:List H4} {s:Hh G6 G2} (h:H56 pre s) {e:G6×G2} (he:e∈Hh.l s):e.2=⟨e.1,Zo 40 e.1 pre,Zo 20 e.1 pre⟩∧Zo 40 e.1 pre+Zo 20 e.1 pre≠0:=by
 obtain⟨j,hj⟩:=List.mem_iff_getElem?.1 he
 have h1:=(H6e s.nd (j:=j) (a:=e.1) (v:=e.2) hj).1
 rw [h.get] at h1
 by_cases h0:Zo 40 e.1 pre+Zo 20 e.1 pre=0
 ·rw [if_pos h0] at h1; cases h1
 ·rw [if_neg h0] at h1; exact⟨(Option.some.inj h1).symm,h0⟩
theorem sum_perm {l q:List Int} (h:l.Perm q):l.sum=q.sum:=by
 induction h with
 | nil=>rfl
 | cons x _ ih=>simp [ih]
 | swap x y l=>simp; omega
 | trans _ _ h1 h2=>exact h1.trans h2
/-- The groups of boxes: their counts, their order, their sums. -/
theorem groups_facts (boxes:List H4) (hl:boxes.length≤1000000):∃ l,Qp boxes=some l∧l.length≤boxes.length ∧
  (∀ c∈l,c.Whole=Zo 40 c.G6 boxes∧c.Half=Zo 20 c.G6 boxes∧c.Whole+c.Half≠0) ∧
  (∀ i j (_:i < j) (hj:j < l.length),ltOf J0c l[i] l[j]=true)∧(l.map (·.Whole)).sum=alln 40 boxes∧(l.map (·.Half)).sum=alln 20 boxes:=by
 obtain⟨m,hm,e⟩:=J41 boxes hl
 have hp:=H0a ((Hh.l m).map (·.2))
 have hmem:∀ c∈Ha3 ((Hh.l m).map (·.2)),∃ x∈Hh.l m,x.2=c:=fun c hc=>List.mem_map.1 (hp.mem_iff.1 hc)
 refine⟨_,e,?_,fun c hc=>?_,fun i j hij hj=>?_,?_,?_⟩
 ·rw [hp.length_eq,List.length_map]; exact hm.len
 ·obtain⟨x,hx,rfl⟩:=hmem c hc
  obtain⟨h1,h2⟩:=hm.entry hx
  rw [h1]; exact⟨rfl,rfl,h2⟩
 ·have hle:=(List.pairwise_iff_getElem.1 (H73 ((Hh.l m).map (·.2)))) i j (by omega) hj hij
  unfold gle at hle
  have hnd:(Ha3 ((Hh.l m).map (·.2))).Pairwise (fun a b=>a.G6≠b.G6):=by
   refine List.Perm.pairwise hp.symm ?_ (fun h=>h.symm)
   rw [List.pairwise_map]
   have:=m.nd
   rw [List.nodup_iff_pairwise_ne,List.pairwise_map] at this
   refine List.Pairwise.imp_of_mem (fun {a b} ha hb hab=>?_) this
   rw [(hm.entry ha).1,(hm.entry hb).1]; exact hab
  have hne:=(List.pairwise_iff_getElem.1 hnd) i j (by omega) hj hij
  rw [Gaf] at hle ⊢
  simp only [decide_eq_false_iff_not,decide_eq_true_eq] at hle ⊢
  generalize (Ha3 ((Hh.l m).map (·.2)))[i]=a at *
  generalize (Ha3 ((Hh.l m).map (·.2)))[j]=b at *
  have:¬ (a.G6.Load=b.G6.Load∧a.G6.Discharge=b.G6.Discharge):=fun h=>hne (by
   obtain⟨⟨al,ad⟩,_,_⟩:=a
   obtain⟨⟨bl,bd⟩,_,_⟩:=b
   simp only at h
   rw [h.1,h.2])
  omega
 ·rw [sum_perm (hp.map _),List.map_map]; exact hm.whole
 ·rw [sum_perm (hp.map _),List.map_map]; exact hm.half
end Go.Proofs.YtfkilljboodoaaaGreat
