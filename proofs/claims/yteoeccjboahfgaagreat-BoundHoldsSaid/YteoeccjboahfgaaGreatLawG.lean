/-
 What the counts of bound.Groups are.
-/
import Derived.Test.YteoeccjboahfgaaGreatSpecG
set_option maxRecDepth 100000
namespace Go.Proofs.YteoeccjboahfgaaGreat
open Go.RowKit Go.Shelf Go.Sort

theorem sum_mput {κ ν:Type} [DecidableEq κ] (f:κ×ν→Int) (a:κ) (v:ν):∀ {l:List (κ×ν)},(l.map (·.1)).Nodup→((G4c l a v).map f).sum=(l.map f).sum+f (a,v) - (match G25 l a with | some w=>f (a,w) | none=>0)
 | l,hn=>by
  unfold G4c
  by_cases h:G42 l a=true
  ·rw [if_pos h]
   have key:∀ l:List (κ×ν),(l.map (·.1)).Nodup→G42 l a=true→((l.map fun p=>if p.1=a then (a,v) else p).map f).sum=(l.map f).sum+f (a,v) - (match G25 l a with | some w=>f (a,w) | none=>0):=by
    intro l
    induction l with
    | nil=>intro _ h; simp [G42] at h
    | cons p r ih=>
     intro hn h
     rw [List.map_cons,List.nodup_cons] at hn
     rw [G71]
     by_cases e:p.1=a
     ·have hr:∀ q∈r,¬ q.1=a:=fun q hq e'=>hn.1 (List.mem_map.2 ⟨q,hq,by rw [e',e]⟩)
      have hm:(r.map fun p=>if p.1=a then (a,v) else p)=r:=by
       conv=>rhs; rw [← List.map_id r]
       exact List.map_congr_left (fun q hq=>by rw [if_neg (hr q hq)]; rfl)
      have ep:p=(a,p.2):=by rw [← e]
      simp only [List.map_cons,List.sum_cons,if_pos e,hm]
      rw [← ep]; omega
     ·have h':G42 r a=true:=by
       simp only [G42,List.any_cons,decide_eq_true_eq,Bool.or_eq_true,e,false_or] at h ⊢
       simpa using h
      have:=ih hn.2 h'
      simp only [List.map_cons,List.sum_cons,if_neg e]
      simp only [List.map_map] at this ⊢
      omega
   exact key l hn h
  ·rw [if_neg h,H3e (by simpa using h)]
   simp

def hit (g:Ga) (z:Int) (x:Gr):Bool:=decide (x.Load=g.Load)&&decide (x.Discharge=g.Discharge)&&decide (x.Size=z)
def Zz (z:Int) (g:Ga) (pre:List Gr):Int:=(pre.countP (hit g z):Nat)
def alln (z:Int) (pre:List Gr):Int:=(pre.countP (fun x=>decide (x.Size=z)):Nat)
theorem H8e (z:Int) (g:Ga) (pre:List Gr) (x:Gr):Zz z g (pre++[x])=Zz z g pre+(if hit g z x then 1 else 0):=by
 unfold Zz; rw [List.countP_append]; by_cases h:hit g z x <;> simp [h]
theorem H8f (z:Int) (pre:List Gr) (x:Gr):alln z (pre++[x])=alln z pre+(if decide (x.Size=z) then 1 else 0):=by
 unfold alln; rw [List.countP_append]; by_cases h:x.Size=z <;> simp [h]
theorem H06 (z:Int) (g:Ga) (pre:List Gr):0≤Zz z g pre∧Zz z g pre≤(pre.length:Int):=by
 unfold Zz; have:=List.countP_le_length (p:=hit g z) (l:=pre); omega

/-- The map behind some boxes. -/
structure H28 (pre:List Gr) (s:Gu Ga G2):Prop where
 get:∀ g,G25 (Gu.l s) g=if Zz 40 g pre+Zz 20 g pre=0 then none else some ⟨g,Zz 40 g pre,Zz 20 g pre⟩
 whole:((Gu.l s).map (fun e=>e.2.Whole)).sum=alln 40 pre
 half:((Gu.l s).map (fun e=>e.2.Half)).sum=alln 20 pre
 len:(Gu.l s).length≤pre.length
theorem H28.start:H28 [] Gu.empty:=⟨fun g=>by simp [Zz,Gu.empty,G25],by simp [Gu.empty,alln],by simp [Gu.empty,alln],by simp [Gu.empty]⟩
theorem length_mput {κ ν:Type} [DecidableEq κ] (l:List (κ×ν)) (a:κ) (v:ν):(G4c l a v).length≤l.length+1:=by
 unfold G4c; split <;> simp
theorem H28.old {pre:List Gr} {s:Gu Ga G2} (h:H28 pre s) (g:Ga):Gu.get s g (G2.mk (Ga.mk 0 0) 0 0)=(if Zz 40 g pre+Zz 20 g pre=0 then G2.mk (Ga.mk 0 0) 0 0 else ⟨g,Zz 40 g pre,Zz 20 g pre⟩):=by
 unfold Gu.get; rw [h.get]; split <;> rfl
theorem H28.old2 {pre:List Gr} {s:Gu Ga G2} (h:H28 pre s) (g:Ga):(Gu.get s g (G2.mk (Ga.mk 0 0) 0 0)).Whole=Zz 40 g pre∧(Gu.get s g (G2.mk (Ga.mk 0 0) 0 0)).Half=Zz 20 g pre:=by
 rw [h.old]
 have h1:=H06 40 g pre
 have h2:=H06 20 g pre
 split
 ·exact⟨by simp only; omega,by simp only; omega⟩
 ·exact⟨rfl,rfl⟩

theorem hit_self (x:Gr) (z:Int):hit (Ga.mk x.Load x.Discharge) z x=decide (x.Size=z):=by simp [hit]
theorem hit_other {x:Gr} {g:Ga} (z:Int) (h:¬ Ga.mk x.Load x.Discharge=g):hit g z x=false:=by
 cases hb:hit g z x with
 | false=>rfl
 | true=>
  exfalso
  simp only [hit,Bool.and_eq_true,decide_eq_true_eq] at hb
  apply h
  cases g
  simp only at hb
  rw [hb.1.1,hb.1.2]
/-- One box more, of 40 or 20 feet. -/
theorem H28.put {pre:List Gr} {s:Gu Ga G2} (h:H28 pre s) (x:Gr) (hx:x.Size=40∨x.Size=20) :
  H28 (pre++[x]) (Gu.put s (Ga.mk x.Load x.Discharge) (G2.mk (Ga.mk x.Load x.Discharge) (Zz 40 (Ga.mk x.Load x.Discharge) pre+(if decide (x.Size=40) then 1 else 0)) (Zz 20 (Ga.mk x.Load x.Discharge) pre+(if decide (x.Size=20) then 1 else 0)))):=by
 have h40:=H06 40 (Ga.mk x.Load x.Discharge) pre
 have h20:=H06 20 (Ga.mk x.Load x.Discharge) pre
 refine⟨fun g=>?_,?_,?_,?_⟩
 ·show G25 (G4c (Gu.l s) _ _) g=_
  rw [H20,H8e,H8e]
  by_cases e:Ga.mk x.Load x.Discharge=g
  ·subst e
   have hone:(if decide (x.Size=40)=true then (1:Int) else 0)+(if decide (x.Size=20)=true then 1 else 0)=1:=by
    rcases hx with hx | hx <;> rw [hx] <;> rfl
   have hne:¬ (Zz 40 (Ga.mk x.Load x.Discharge) pre+(if decide (x.Size=40)=true then 1 else 0)+(Zz 20 (Ga.mk x.Load x.Discharge) pre+(if decide (x.Size=20)=true then 1 else 0))=0):=by omega
   rw [if_pos rfl,hit_self,hit_self,if_neg hne]
  ·rw [if_neg e,hit_other 40 e,hit_other 20 e,h.get]
   simp
 ·show ((G4c (Gu.l s) _ _).map _).sum=_
  rw [sum_mput _ _ _ s.nd,h.whole,h.get,H8f]
  by_cases e0:Zz 40 (Ga.mk x.Load x.Discharge) pre+Zz 20 (Ga.mk x.Load x.Discharge) pre=0
  ·rw [if_pos e0]; simp only; omega
  ·rw [if_neg e0]; simp only; omega
 ·show ((G4c (Gu.l s) _ _).map _).sum=_
  rw [sum_mput _ _ _ s.nd,h.half,h.get,H8f]
  by_cases e0:Zz 40 (Ga.mk x.Load x.Discharge) pre+Zz 20 (Ga.mk x.Load x.Discharge) pre=0
  ·rw [if_pos e0]; simp only; omega
  ·rw [if_neg e0]; simp only; omega
 ·have:=length_mput (Gu.l s) (Ga.mk x.Load x.Discharge) (G2.mk (Ga.mk x.Load x.Discharge) (Zz 40 (Ga.mk x.Load x.Discharge) pre+(if decide (x.Size=40) then 1 else 0)) (Zz 20 (Ga.mk x.Load x.Discharge) pre+(if decide (x.Size=20) then 1 else 0)))
  have:=h.len
  show (G4c _ _ _).length≤_
  rw [List.length_append,List.length_singleton]; omega
/-- One box more, of another size. -/
theorem H28.skip {pre:List Gr} {s:Gu Ga G2} (h:H28 pre s) (x:Gr) (h40:¬ x.Size=40) (h20:¬ x.Size=20):H28 (pre++[x]) s:=by
 have e1:∀ g,hit g 40 x=false:=fun g=>by simp [hit,h40]
 have e2:∀ g,hit g 20 x=false:=fun g=>by simp [hit,h20]
 refine⟨fun g=>by rw [H8e,H8e,e1,e2,h.get]; simp,by rw [H8f,h.whole]; simp [h40],by rw [H8f,h.half]; simp [h20],?_⟩
 have:=h.len
 rw [List.length_append]; omega
theorem chk_ok {β:Type} {z:Int} {k:Int→Option β} (h : -9223372036854775808≤z∧z≤9223372036854775807):Rn z k=k z:=by
 unfold Rn inI64
 rw [decide_eq_true h.1,decide_eq_true h.2,Bool.and_self,cond_true]
def gbody (y:Gr) (_:Nat) (s:Gu Ga G2) (nx:Gu Ga G2→Option (List G2)):Option (List G2):=
  jp (fun kj=>
   bnd (some (Gu.get s (Ga.mk y.Load y.Discharge) (G2.mk (Ga.mk 0 0) 0 0))) fun v=>
   jp (fun kj2=>
    bif decide (y.Size=40) then (Rn (v.Whole+1) fun w=>kj2 (w,v.Half))
    else (bif decide (y.Size=20) then (Rn (v.Half+1) fun w=>kj2 (v.Whole,w)) else (kj (s,v.Whole,v.Half)))) fun(j:Int×Int)=>
   kj ((Gu.put s (Ga.mk y.Load y.Discharge) (G2.mk (Ga.mk y.Load y.Discharge) j.1 j.2)),j.1,j.2)) fun(j:(Gu Ga G2)×Int×Int)=>
  nx j.1
theorem gbody_step {pre:List Gr} {s:Gu Ga G2} (h:H28 pre s) (y:Gr) (i:Nat) (hl:pre.length≤1000000) (nx:Gu Ga G2→Option (List G2)):∃ s',H28 (pre++[y]) s'∧gbody y i s nx=nx s':=by
 obtain⟨e1,e2⟩:=h.old2 (Ga.mk y.Load y.Discharge)
 have h40:=H06 40 (Ga.mk y.Load y.Discharge) pre
 have h20:=H06 20 (Ga.mk y.Load y.Discharge) pre
 by_cases a:y.Size=40
 ·have b:¬ y.Size=20:=by omega
  have hp:=h.put y (.inl a)
  rw [if_pos (decide_eq_true a),if_neg (by rw [decide_eq_false b]; exact Bool.false_ne_true),Int.add_zero] at hp
  refine⟨_,hp,?_⟩
  unfold gbody
  simp only [jp,bnd,e1,e2]
  rw [decide_eq_true a,cond_true,chk_ok ⟨by omega,by omega⟩]
 ·by_cases b:y.Size=20
  ·have hp:=h.put y (.inr b)
   rw [if_neg (by rw [decide_eq_false a]; exact Bool.false_ne_true),if_pos (decide_eq_true b),Int.add_zero] at hp
   refine⟨_,hp,?_⟩
   unfold gbody
   simp only [jp,bnd,e1,e2]
   rw [decide_eq_false a,cond_false,decide_eq_true b,cond_true,chk_ok ⟨by omega,by omega⟩]
  ·refine⟨s,h.skip y a b,?_⟩
   unfold gbody
   simp only [jp,bnd]
   rw [decide_eq_false a,cond_false,decide_eq_false b,cond_false]
theorem J29 (kx:Gu Ga G2→Option (List G2)):∀ (xs pre:List Gr) (i:Nat) (s:Gu Ga G2),H28 pre s→pre.length+xs.length≤1000000→∃ m,H28 (pre++xs) m∧each gbody kx xs i s=kx m
 | [],pre,i,s,h,_=>⟨s,by simpa using h,rfl⟩
 | x::xs,pre,i,s,h,hl=>by
  rw [List.length_cons] at hl
  obtain⟨s',h',e⟩:=gbody_step h x i (by omega) (each gbody kx xs (i+1))
  obtain⟨m,hm,e2⟩:=J29 kx xs (pre++[x]) (i+1) s' h' (by rw [List.length_append,List.length_singleton]; omega)
  refine⟨m,by simpa using hm,?_⟩
  rw [each,e,e2]
/-- The groups of at most a million boxes. -/
theorem groups_spec (boxes:List Gr) (hl:boxes.length≤1000000):∃ m,H28 boxes m∧Jo boxes=some (H65 ((Gu.l m).map (·.2))):=by
 obtain⟨m,hm,e⟩:=J29 (fun s=>need (decide ((Gu.l s).length*32≤140737488355328∧(Gu.l s).length≤maxLen)) <| some (H65 ((Gu.l s).map (·.2)))) boxes [] 0 Gu.empty H28.start (by simpa using hl)
 refine⟨m,by simpa using hm,?_⟩
 have hlen:=hm.len
 rw [List.nil_append] at hlen
 have hd:decide ((Gu.l m).length*32≤140737488355328∧(Gu.l m).length≤maxLen)=true:=by
  rw [decide_eq_true_eq]
  have:maxLen=9223372036854775807:=rfl
  omega
 unfold Jo
 refine Eq.trans e ?_
 simp only [hd,need_tt]
theorem H28.entry {pre:List Gr} {s:Gu Ga G2} (h:H28 pre s) {e:Ga×G2} (he:e∈Gu.l s):e.2=⟨e.1,Zz 40 e.1 pre,Zz 20 e.1 pre⟩∧Zz 40 e.1 pre+Zz 20 e.1 pre≠0:=by
 obtain⟨j,hj⟩:=List.mem_iff_getElem?.1 he
 have h1:=(H3f s.nd (j:=j) (a:=e.1) (v:=e.2) hj).1
 rw [h.get] at h1
 by_cases h0:Zz 40 e.1 pre+Zz 20 e.1 pre=0
 ·rw [if_pos h0] at h1; cases h1
 ·rw [if_neg h0] at h1; exact⟨(Option.some.inj h1).symm,h0⟩
theorem sum_perm {l q:List Int} (h:l.Perm q):l.sum=q.sum:=by
 induction h with
 | nil=>rfl
 | cons x _ ih=>simp [ih]
 | swap x y l=>simp; omega
 | trans _ _ h1 h2=>exact h1.trans h2
/-- The groups of boxes: their counts, their order, their sums. -/
theorem groups_facts (boxes:List Gr) (hl:boxes.length≤1000000):∃ l,Jo boxes=some l∧l.length≤boxes.length ∧
  (∀ c∈l,c.Whole=Zz 40 c.Ga boxes∧c.Half=Zz 20 c.Ga boxes∧c.Whole+c.Half≠0) ∧
  (∀ i j (_:i < j) (hj:j < l.length),ltOf Hfd l[i] l[j]=true)∧(l.map (·.Whole)).sum=alln 40 boxes∧(l.map (·.Half)).sum=alln 20 boxes:=by
 obtain⟨m,hm,e⟩:=groups_spec boxes hl
 have hp:=H42 ((Gu.l m).map (·.2))
 have hmem:∀ c∈H65 ((Gu.l m).map (·.2)),∃ x∈Gu.l m,x.2=c:=fun c hc=>List.mem_map.1 (hp.mem_iff.1 hc)
 refine⟨_,e,?_,fun c hc=>?_,fun i j hij hj=>?_,?_,?_⟩
 ·rw [hp.length_eq,List.length_map]; exact hm.len
 ·obtain⟨x,hx,rfl⟩:=hmem c hc
  obtain⟨h1,h2⟩:=hm.entry hx
  rw [h1]; exact⟨rfl,rfl,h2⟩
 ·have hle:=(List.pairwise_iff_getElem.1 (H41 ((Gu.l m).map (·.2)))) i j (by omega) hj hij
  unfold gle at hle
  have hnd:(H65 ((Gu.l m).map (·.2))).Pairwise (fun a b=>a.Ga≠b.Ga):=by
   refine List.Perm.pairwise hp.symm ?_ (fun h=>h.symm)
   rw [List.pairwise_map]
   have:=m.nd
   rw [List.nodup_iff_pairwise_ne,List.pairwise_map] at this
   refine List.Pairwise.imp_of_mem (fun {a b} ha hb hab=>?_) this
   rw [(hm.entry ha).1,(hm.entry hb).1]; exact hab
  have hne:=(List.pairwise_iff_getElem.1 hnd) i j (by omega) hj hij
  rw [G80] at hle ⊢
  simp only [decide_eq_false_iff_not,decide_eq_true_eq] at hle ⊢
  generalize (H65 ((Gu.l m).map (·.2)))[i]=a at *
  generalize (H65 ((Gu.l m).map (·.2)))[j]=b at *
  have:¬ (a.Ga.Load=b.Ga.Load∧a.Ga.Discharge=b.Ga.Discharge):=fun h=>hne (by
   obtain⟨⟨al,ad⟩,_,_⟩:=a
   obtain⟨⟨bl,bd⟩,_,_⟩:=b
   simp only at h
   rw [h.1,h.2])
  omega
 ·rw [sum_perm (hp.map _),List.map_map]; exact hm.whole
 ·rw [sum_perm (hp.map _),List.map_map]; exact hm.half
end Go.Proofs.YteoeccjboahfgaaGreat
