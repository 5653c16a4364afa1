/-
 MovesCalls: the moves of a call,of both. MovesCalls: the work of each bay and phase,of both. MovesCalls: Tasks of the program.
-/
import Derived.Test.YteogacmpgdpjlaaGreatMovV
set_option maxRecDepth 100000
set_option linter.unusedVariables false
namespace Go.Proofs.YteogacmpgdpjlaaGreat
open Go.RowKit

section
variable {s:H8} {boxes:List H2} {before after:List G6} {lifted:List Int}
def J0f (s:H8) (before:List G6) (lifted:List Int) (ks:Int→List Int) (bay:Int):List Move:=
 ((Gb5 J8c (before.filter (Qw s lifted bay true))).map (mvB 2)++(ks bay).map (mvC 1))++(Gb5 J8c (before.filter (Qw s lifted bay false))).map (mvB 2)
def insL (s:H8) (after:List G6) (lifted:List Int) (ks:Int→List Int) (bay:Int):List Move:=
 ((Gb5 Ga2 (after.filter (Qw s lifted bay false))).map (mvB 3)++(ks bay).map (mvC 4))++(Gb5 Ga2 (after.filter (Qw s lifted bay true))).map (mvB 3)
def H21 (f:Int→List Move) (n:Nat):List Move:=(List.range n).flatMap (fun i:Nat=>f (i:Int))
theorem H51 (f:Int→List Move) (n:Nat):H21 f (n+1)=H21 f n++f (n:Int):=by
 unfold H21
 rw [List.range_succ,List.flatMap_append]
 simp
theorem uptoL_len {f:Int→List Move} {b:Nat} (hf:∀ i,(f i).length≤b) (n:Nat):(H21 f n).length≤b*n:=by
 induction n with
 | zero=>simp [H21]
 | succ n ih=>
  rw [H51,List.length_append,Nat.mul_succ]
  have:=hf (n:Int)
  omega
theorem G83 {l:List G6} {c:G6→G6→Int} {bay:Int} {deck:Bool}:(Gb5 c (l.filter (Qw s lifted bay deck))).length≤l.length:=by
 rw [J13]; exact List.length_filter_le _ _
theorem calls_both {F:Nat} (h1:R0 s boxes before) (h2:R0 s boxes after) (l1:before.length≤14) (l2:after.length≤14) (hr:∀ x∈s.Covers,x.Rows.length≤1000000) (hcov:s.Covers.length≤12) (hF:30≤F) :
  ∃ r,Gfe F s before after lifted=some r∧r.length≤100000∧∀ {k:List Move→Option ((List Move)×Int)},(need (decide (40≤9223372036854775807)) <|
  upto (fun i31 (s31:(List Move)) nx31=>
   bnd (Jz F s before lifted (i31:Int) true 2) fun r36=>
   need (decide ((s31.length+r36.length)*48≤140737488355328∧s31.length+r36.length≤maxLen)) <|
   bnd (Qh s before after lifted (i31:Int) 1) fun r39=>
   need (decide (((s31++r36).length+r39.length)*48≤140737488355328∧(s31++r36).length+r39.length≤maxLen)) <|
   bnd (Jz F s before lifted (i31:Int) false 2) fun r41=>
   need (decide ((((s31++r36)++r39).length+r41.length)*48≤140737488355328∧((s31++r36)++r39).length+r41.length≤maxLen)) <|
   nx31 (((s31++r36)++r39)++r41))
  (fun(s31:(List Move))=>
   need (decide (40≤9223372036854775807)) <|
   upto (fun i66 (s66:(List Move)) nx66=>
    bnd (Jz F s after lifted (i66:Int) false 3) fun r71=>
    need (decide ((s66.length+r71.length)*48≤140737488355328∧s66.length+r71.length≤maxLen)) <|
    bnd (Qh s before after lifted (i66:Int) 4) fun r74=>
    need (decide (((s66++r71).length+r74.length)*48≤140737488355328∧(s66++r71).length+r74.length≤maxLen)) <|
    bnd (Jz F s after lifted (i66:Int) true 3) fun r76=>
    need (decide ((((s66++r71)++r74).length+r76.length)*48≤140737488355328∧((s66++r71)++r74).length+r76.length≤maxLen)) <|
    nx66 (((s66++r71)++r74)++r76))
   (fun(s66:(List Move))=>
    some (s66,(0:Int))) (40:Int).toNat 0 s31) (40:Int).toNat 0 [])=some (r,0):=by
 have hex:∀ bay:Int,∃ ks:List Int,G55 F s before after lifted bay=some ks∧(ks.Pairwise (· < ·)∧ks.length≤12∧∀ k,k∈ks ↔ Hb7 s lifted bay [before,after] k):=fun bay=>needed_spec h1 h2 l1 l2 hr hcov hF
 obtain⟨ks,hks⟩:=Classical.axiomOfChoice hex
 have hkl:∀ b,(ks b).length≤12:=fun b=>(hks b).2.2.1
 have hcv:∀ (bay:Int) (kind:Int),Qh s before after lifted bay kind=some ((ks bay).map (mvC kind)):=fun bay kind=>by
  obtain⟨r,e,q,rfl,hq,hm⟩:=ref_covers (kind:=kind) (lifted:=lifted) (bay:=bay) h1 h2 hcov
  rw [e,J8b hq (hks bay).2.1 (fun k=>(hm k).trans ((hks bay).2.2.2 k).symm)]
 have hlo:∀ b,(J0f s before lifted ks b).length≤40:=fun b=>by
  have g1:=G83 (s:=s) (lifted:=lifted) (l:=before) (c:=J8c) (bay:=b) (deck:=true)
  have g2:=G83 (s:=s) (lifted:=lifted) (l:=before) (c:=J8c) (bay:=b) (deck:=false)
  have g3:=hkl b
  unfold J0f
  simp only [List.length_append,List.length_map]
  omega
 have hli:∀ b,(insL s after lifted ks b).length≤40:=fun b=>by
  have g1:=G83 (s:=s) (lifted:=lifted) (l:=after) (c:=Ga2) (bay:=b) (deck:=true)
  have g2:=G83 (s:=s) (lifted:=lifted) (l:=after) (c:=Ga2) (bay:=b) (deck:=false)
  have g3:=hkl b
  unfold insL
  simp only [List.length_append,List.length_map]
  omega
 have ho:=uptoL_len hlo
 have hi:=uptoL_len hli
 have h40:(40:Int).toNat=40:=rfl
 refine⟨H21 (J0f s before lifted ks) 40++H21 (insL s after lifted ks) 40,G38 ?_,?_,fun {k}=>G38 ?_⟩
 ·unfold Gfe
  refine Qy rfl (Gec (fun i st=>st=H21 (J0f s before lifted ks) i) rfl (fun i st nx hi40 hI hnx=>?_) (fun st hI=>?_))
  ·subst hI
   have hi40:i < 40:=hi40
   have q1:=ho i
   have q2:=hkl (i:Int)
   have g1:=G83 (s:=s) (lifted:=lifted) (l:=before) (c:=J8c) (bay:=(i:Int)) (deck:=true)
   have g2:=G83 (s:=s) (lifted:=lifted) (l:=before) (c:=J8c) (bay:=(i:Int)) (deck:=false)
   have f1:=List.length_filter_le (Qw s lifted (i:Int) true) before
   have f2:=List.length_filter_le (Qw s lifted (i:Int) false) before
   refine Gy (h1.part (by omega)) (Gy (above_eq h1.apart2 hF (by omega)) (Gy (He8 (by omega)) (Gy (hks _).1 (Gy (Je2 (by simp only [List.length_append,List.length_map]; omega)) (Gy (h1.part (by omega)) (Gy (above_eq h1.apart2 hF (by omega)) (Gy (He8 (by simp only [List.length_append,List.length_map]; omega)) (hnx _ ?_))))))))
   rw [H51]
   unfold J0f
   simp only [List.append_assoc]
  ·have hI:st=H21 (J0f s before lifted ks) 40:=hI
   subst hI
   have q0:=ho 40
   refine Qy rfl (Gec (fun i st=>st=H21 (J0f s before lifted ks) 40++H21 (insL s after lifted ks) i) (by simp [H21]) (fun i st nx hi40 hI hnx=>?_) (fun st hI=>Gn hI))
   subst hI
   have hi40:i < 40:=hi40
   have q1:=hi i
   have q2:=hkl (i:Int)
   have g1:=G83 (s:=s) (lifted:=lifted) (l:=after) (c:=Ga2) (bay:=(i:Int)) (deck:=true)
   have g2:=G83 (s:=s) (lifted:=lifted) (l:=after) (c:=Ga2) (bay:=(i:Int)) (deck:=false)
   refine Gy (h2.part (by omega)) (Gy (He8 (by simp only [List.length_append]; omega)) (Gy (hks _).1 (Gy (Je2 (by simp only [List.length_append,List.length_map]; omega)) (Gy (h2.part (by omega)) (Gy (He8 (by simp only [List.length_append,List.length_map]; omega)) (hnx _ ?_))))))
   rw [H51 (insL s after lifted ks) i]
   unfold insL
   simp only [List.append_assoc]
 ·rw [List.length_append]
  have:=ho 40
  have:=hi 40
  omega
 ·refine Qy rfl (Gec (fun i st=>st=H21 (J0f s before lifted ks) i) rfl (fun i st nx hi40 hI hnx=>?_) (fun st hI=>?_))
  ·subst hI
   have hi40:i < 40:=hi40
   have q1:=ho i
   have q2:=hkl (i:Int)
   have g1:=G83 (s:=s) (lifted:=lifted) (l:=before) (c:=J8c) (bay:=(i:Int)) (deck:=true)
   have g2:=G83 (s:=s) (lifted:=lifted) (l:=before) (c:=J8c) (bay:=(i:Int)) (deck:=false)
   refine Gy (J2f h1 l1 hF) (Qy (H06 ?_ (by omega)) (Gy (hcv _ _) (Qy (H06 ?_ (by omega)) (Gy (J2f h1 l1 hF) (Qy (H06 ?_ (by omega)) (hnx _ ?_))))))
   ·simp only [List.length_append,List.length_map,cK,decide_true,cond_true]; omega
   ·simp only [List.length_append,List.length_map,cK,decide_true,cond_true]; omega
   ·simp only [List.length_append,List.length_map,cK,decide_true,cond_true]; omega
   ·rw [H51]
    unfold J0f
    simp only [List.append_assoc,cK,decide_true,cond_true]
  ·have hI:st=H21 (J0f s before lifted ks) 40:=hI
   subst hI
   have q0:=ho 40
   refine Qy rfl (Gec (fun i st=>st=H21 (J0f s before lifted ks) 40++H21 (insL s after lifted ks) i) (by simp [H21]) (fun i st nx hi40 hI hnx=>?_) (fun st hI=>Gn (Prod.ext hI rfl)))
   subst hI
   have hi40:i < 40:=hi40
   have q1:=hi i
   have q2:=hkl (i:Int)
   have e3:cK 3=Ga2:=rfl
   have g1:=G83 (s:=s) (lifted:=lifted) (l:=after) (c:=Ga2) (bay:=(i:Int)) (deck:=true)
   have g2:=G83 (s:=s) (lifted:=lifted) (l:=after) (c:=Ga2) (bay:=(i:Int)) (deck:=false)
   refine Gy (J2f h2 l2 hF) (Qy (H06 ?_ (by omega)) (Gy (hcv _ _) (Qy (H06 ?_ (by omega)) (Gy (J2f h2 l2 hF) (Qy (H06 ?_ (by omega)) (hnx _ ?_))))))
   ·simp only [List.length_append,List.length_map,e3]; omega
   ·simp only [List.length_append,List.length_map,e3]; omega
   ·simp only [List.length_append,List.length_map,e3]; omega
   ·rw [H51 (insL s after lifted ks) i]
    unfold insL
    simp only [List.append_assoc,e3]
end
end Go.Proofs.YteogacmpgdpjlaaGreat
set_option maxRecDepth 100000
set_option linter.unusedVariables false
namespace Go.Proofs.YteogacmpgdpjlaaGreat
open Go.RowKit

def isC (m:Move):Bool:=(decide (m.Kind=1))||(decide (m.Kind=4))
def H7b (m:Move):Int:=if 3≤m.Kind then 2 else 1
def Gc5 (s:H8) (m:Move):Int:=if isC m then ((s.Covers[m.Ge.toNat]?).map (·.Bay)).getD 0 else ((s.Columns[m.Slot.G4.toNat]?).map (·.Bay)).getD 0
def Q51 (s:H8) (m:Move):Prop:=((m.Kind=1∨m.Kind=4)∧0≤m.Ge∧m.Ge < (s.Covers.length:Int))∨((m.Kind=2∨m.Kind=3)∧0≤m.Slot.G4∧m.Slot.G4 < (s.Columns.length:Int))
def J6a (s:H8) (p b:Int) (c:Bool) (m:Move):Bool:=(decide (H7b m=p)&&decide (Gc5 s m=b))&&(isC m==c)
def nT (s:H8) (p b:Int) (c:Bool) (l:List Move):Int:=(l.countP (J6a s p b c):Nat)
def tk (s:H8) (l:List Move) (p b:Int):Hh:=Hh.mk b p (nT s p b false l) (nT s p b true l)
theorem J84 (s:H8) (p b:Int) (c:Bool) (l:List Move) (x:Move):nT s p b c (l++[x])=nT s p b c l+(if J6a s p b c x=true then 1 else 0):=by
 unfold nT; rw [List.countP_append]; by_cases h:J6a s p b c x=true <;> simp [h]
theorem J4a (s:H8) (p b:Int) (c:Bool) (l:List Move):0≤nT s p b c l∧nT s p b c l≤(l.length:Int):=by
 unfold nT; have:=List.countP_le_length (p:=J6a s p b c) (l:=l); omega
theorem length_mput {κ ν:Type} [DecidableEq κ] (l:List (κ×ν)) (a:κ) (v:ν):(H04 l a v).length≤l.length+1:=by
 unfold H04; split <;> simp
structure TMap (s:H8) (pre:List Move) (m:Hp J8 Hh):Prop where
 get:∀ p b,G72 (Hp.l m) ⟨p,b⟩=if nT s p b false pre+nT s p b true pre=0 then none else some (tk s pre p b)
 len:(Hp.l m).length≤pre.length
theorem TMap.old {s:H8} {pre:List Move} {m:Hp J8 Hh} (h:TMap s pre m) (p b:Int):(Hp.get m (J8.mk p b) (Hh.mk 0 0 0 0)).Lifts=nT s p b false pre∧(Hp.get m (J8.mk p b) (Hh.mk 0 0 0 0)).Covers=nT s p b true pre:=by
 have e:Hp.get m (J8.mk p b) (Hh.mk 0 0 0 0)=(G72 (Hp.l m) ⟨p,b⟩).getD (Hh.mk 0 0 0 0):=rfl
 rw [e,h.get]
 have g1:=J4a s p b false pre
 have g2:=J4a s p b true pre
 by_cases hz:nT s p b false pre+nT s p b true pre=0
 ·rw [if_pos hz]
  show (0:Int)=_∧(0:Int)=_
  omega
 ·rw [if_neg hz]; exact⟨rfl,rfl⟩
theorem TMap.put {s:H8} {pre:List Move} {m:Hp J8 Hh} (h:TMap s pre m) (y:Move):TMap s (pre++[y]) (Hp.put m (J8.mk (H7b y) (Gc5 s y)) (tk s (pre++[y]) (H7b y) (Gc5 s y))) where
 get p b:=by
  show G72 (H04 (Hp.l m) _ _) _=_
  rw [Jaf]
  have g1:=J4a s p b false pre
  have g2:=J4a s p b true pre
  by_cases hk:(J8.mk (H7b y) (Gc5 s y))=J8.mk p b
  ·have hp:H7b y=p:=congrArg J8.e0 hk
   have hb:Gc5 s y=b:=congrArg J8.e1 hk
   rw [if_pos hk,hp,hb,if_neg ?_]
   rw [J84,J84]
   have:J6a s p b (isC y) y=true:=by unfold J6a; rw [hp,hb]; simp
   cases hc:isC y with
   | true=>rw [hc] at this; rw [if_pos this]; split <;> omega
   | false=>rw [hc] at this; rw [if_pos this]; split <;> omega
  ·have hn:∀ c,J6a s p b c y=false:=fun c=>by
    unfold J6a
    by_cases hp:H7b y=p
    ·by_cases hb:Gc5 s y=b
     ·exact(hk (by rw [hp,hb])).elim
     ·simp [hb]
    ·simp [hp]
   rw [if_neg hk,h.get]
   have e:∀ c,nT s p b c (pre++[y])=nT s p b c pre:=fun c=>by rw [J84,hn c]; simp
   unfold tk
   rw [e,e]
 len:=by
  show (H04 (Hp.l m) _ _).length≤_
  have:=length_mput (Hp.l m) (J8.mk (H7b y) (Gc5 s y)) (tk s (pre++[y]) (H7b y) (Gc5 s y))
  have:=h.len
  rw [List.length_append,List.length_singleton]
  omega
structure Jb4 (s:H8) (l:List Move) (ts:List Hh):Prop where
 sorted:ts.Pairwise (fun a b=>J5d a b < 0)
 mem:∀ t,t∈ts ↔ ∃ p b,nT s p b false l+nT s p b true l≠0∧t=tk s l p b
theorem Jb4.eq {s:H8} {l:List Move} {a b:List Hh} (ha:Jb4 s l a) (hb:Jb4 s l b):a=b:=by
 have hn:∀ {q:List Hh},q.Pairwise (fun a b=>J5d a b < 0)→q.Nodup:=fun {q} h=>by
  rw [List.nodup_iff_pairwise_ne]
  exact h.imp (fun h e=>by subst e; exact H54.asym _ _ h h)
 exact List.Perm.eq_of_pairwise (le:=fun a b=>J5d a b < 0) (fun x y _ _ h1 h2=>(H54.asym _ _ h1 h2).elim) ha.sorted hb.sorted ((List.perm_ext_iff_of_nodup (hn ha.sorted) (hn hb.sorted)).2 (fun t=>(ha.mem t).trans (hb.mem t).symm))
theorem mget_mem {κ ν:Type} [DecidableEq κ] {a:κ} {v:ν}:∀ {l:List (κ×ν)},G72 l a=some v→(a,v)∈l
 | [],h=>by cases h
 | p::l,h=>by
  rw [Ge2] at h
  by_cases e:p.1=a
  ·rw [if_pos e] at h
   cases h
   rw [← e]
   exact List.mem_cons_self ..
  ·rw [if_neg e] at h
   exact List.mem_cons_of_mem _ (mget_mem h)
theorem TMap.done {s:H8} {l:List Move} {m:Hp J8 Hh} (h:TMap s l m):Jb4 s l (Gb5 J5d ((Hp.l m).map (·.2))):=by
 have hent:∀ e∈Hp.l m,nT s e.1.e0 e.1.e1 false l+nT s e.1.e0 e.1.e1 true l≠0∧e.2=tk s l e.1.e0 e.1.e1:=fun e he=>by
  obtain⟨j,hj⟩:=List.mem_iff_getElem?.1 he
  have h1:=(He2 m.nd (j:=j) (a:=e.1) (v:=e.2) hj).1
  have h2:=h.get e.1.e0 e.1.e1
  rw [show (J8.mk e.1.e0 e.1.e1)=e.1 from rfl,h1] at h2
  by_cases hz:nT s e.1.e0 e.1.e1 false l+nT s e.1.e0 e.1.e1 true l=0
  ·rw [if_pos hz] at h2; cases h2
  ·rw [if_neg hz] at h2; exact⟨hz,Option.some.inj h2⟩
 have hinv:TInv m:=fun e he=>by rw [(hent e he).2]; rfl
 have hnd:((Hp.l m).map (·.2)).Nodup:=by
  have:=m.nd
  rw [List.nodup_iff_pairwise_ne,List.pairwise_map] at this ⊢
  refine List.Pairwise.imp_of_mem (fun {a b} ha hb hab e=>hab ?_) this
  rw [hinv a ha,hinv b hb,e]
 refine⟨?_,fun t=>?_⟩
 ·have hn2:=(G95 J5d ((Hp.l m).map (·.2))).nodup_iff.2 hnd
  refine List.Pairwise.imp_of_mem (fun {a b} ha hb hab=>?_) (List.pairwise_and_iff.2 ⟨Ga3 H54 _,hn2⟩)
  refine Classical.byContradiction fun hn=>hab.2 ?_
  exact hinv.unique a (Ga4.1 ha) b (Ga4.1 hb) hn hab.1
 ·rw [Ga4,List.mem_map]
  constructor
  ·rintro⟨e,he,rfl⟩
   obtain⟨g1,g2⟩:=hent e he
   exact⟨_,_,g1,g2⟩
  ·rintro⟨p,b,g,rfl⟩
   have:=h.get p b
   rw [if_neg g] at this
   exact⟨_,mget_mem this,rfl⟩
end Go.Proofs.YteogacmpgdpjlaaGreat
set_option maxRecDepth 100000
set_option linter.unusedVariables false
namespace Go.Proofs.YteogacmpgdpjlaaGreat
open Go.RowKit

section
variable {s:H8} {l:List Move}
theorem nT_own (pre:List Move) (y:Move) (c:Bool):nT s (H7b y) (Gc5 s y) c (pre++[y])=nT s (H7b y) (Gc5 s y) c pre+(if isC y=c then 1 else 0):=by
 rw [J84]; unfold J6a; simp
theorem J35 (m:Move):isC m=true ↔ m.Kind=1∨m.Kind=4:=by
 unfold isC; rw [Bool.or_eq_true,decide_eq_true_eq,decide_eq_true_eq]
theorem Q51.cover {y:Move} (h:Q51 s y) (hc:isC y=true):∃ x,s.Covers[y.Ge.toNat]? = some x∧0≤y.Ge∧Gc5 s y=x.Bay:=by
 have hk:=(J35 y).1 hc
 rcases h with ⟨_,h1,h2⟩ | ⟨h0,_⟩
 ·have hx:s.Covers[y.Ge.toNat]? = some s.Covers[y.Ge.toNat]:=List.getElem?_eq_getElem (by omega)
  refine⟨_,hx,h1,?_⟩
  unfold Gc5
  rw [if_pos hc,hx]; rfl
 ·omega
theorem Q51.column {y:Move} (h:Q51 s y) (hc:isC y=false):∃ x,s.Columns[y.Slot.G4.toNat]? = some x∧0≤y.Slot.G4∧Gc5 s y=x.Bay:=by
 have hk:¬ (y.Kind=1∨y.Kind=4):=fun g=>by rw [(J35 y).2 g] at hc; cases hc
 rcases h with ⟨h0,_⟩ | ⟨_,h1,h2⟩
 ·exact(hk h0).elim
 ·have hx:s.Columns[y.Slot.G4.toNat]? = some s.Columns[y.Slot.G4.toNat]:=List.getElem?_eq_getElem (by omega)
  refine⟨_,hx,h1,?_⟩
  unfold Gc5
  rw [if_neg (by rw [hc]; exact fun e=>Bool.noConfusion e),hx]; rfl
theorem prog_tasks (hS:G29 s=some true) (hl:l.length≤100000):Wp (G2a s l) (fun r=>(¬ (∀ m∈l,Q51 s m)∧r=([],2))∨((∀ m∈l,Q51 s m)∧r.2=0∧Jb4 s l r.1)):=by
 unfold G2a
 refine Gy hS (Hm (fun h=>by cases h) (fun _=>?_))
 refine Q3 (fun pre m=>(∀ x∈pre,Q51 s x)∧TMap s pre m) ⟨fun x hx=>(List.not_mem_nil hx).elim,⟨fun p b=>by simp [nT,Hp.empty,G72],by simp [Hp.empty]⟩⟩ (fun pre y post m nx e hI hnx=>?_) (fun m hI=>?_)
 ·obtain⟨i1,i2⟩:=hI
  have hym:y∈l:=by rw [e]; simp
  have hpl:pre.length < l.length:=by rw [e]; simp
  refine G82 (fun j:Bool=>j=true ↔ ¬ Q51 s y) (fun K hK=>Hm (fun h=>hK _ ?_) (fun h=>Hm (fun h2=>hK _ ?_) (fun h2=>hK _ ?_))) (fun j hj=>Hm (fun h=>Gn (.inl ⟨fun hh=>hj.1 h (hh y hym),rfl⟩)) (fun h=>?_))
  ·refine⟨fun _=>?_,fun _=>h⟩
   simp only [Bool.or_eq_true,decide_eq_true_eq] at h
   unfold Q51; omega
  ·refine⟨fun _=>?_,fun _=>h2⟩
   simp only [Bool.or_eq_true,Bool.and_eq_true,decide_eq_true_eq] at h2
   unfold Q51; omega
  ·simp only [Bool.or_eq_false_iff,Bool.and_eq_false_iff,decide_eq_false_iff_not] at h h2
   rw [Bool.and_eq_true,Bool.not_eq_true',Bool.or_eq_false_iff,Bool.or_eq_true,decide_eq_false_iff_not,decide_eq_false_iff_not,decide_eq_true_eq,decide_eq_true_eq]
   unfold Q51; omega
  ·have hm:Q51 s y:=Classical.byContradiction fun g=>by rw [hj.2 g] at h; cases h
   have hk:1≤y.Kind∧y.Kind≤4:=by unfold Q51 at hm; omega
   refine G82 (fun j:Int=>j=H7b y) (fun K hK=>Hm (fun h=>hK _ ?_) (fun h=>hK _ ?_)) (fun j1 hj1=>?_)
   ·have:=of_decide_eq_true h; unfold H7b; rw [if_pos this]
   ·have:=of_decide_eq_false h; unfold H7b; rw [if_neg this]
   subst hj1
   refine G82 (fun j:Int=>j=Gc5 s y) (fun K hK=>Hm (fun h=>?_) (fun h=>?_)) (fun j2 hj2=>?_)
   ·have h:isC y=true:=h
    obtain⟨x,hx,h0,hb⟩:=hm.cover h
    exact G43 (m:=y.Ge.toNat) (by omega) hx (hK _ hb.symm)
   ·have h:isC y=false:=h
    obtain⟨x,hx,h0,hb⟩:=hm.column h
    exact G43 (m:=y.Slot.G4.toNat) (by omega) hx (hK _ hb.symm)
   subst hj2
   obtain⟨o1,o2⟩:=i2.old (H7b y) (Gc5 s y)
   have b1:=J4a s (H7b y) (Gc5 s y) false pre
   have b2:=J4a s (H7b y) (Gc5 s y) true pre
   have w1:=nT_own (s:=s) pre y false
   have w2:=nT_own (s:=s) pre y true
   refine H5 (Gn (H5 (Gn ?_)))
   refine G82 (fun j:Int×Int=>j=(nT s (H7b y) (Gc5 s y) false (pre++[y]),nT s (H7b y) (Gc5 s y) true (pre++[y]))) (fun K hK=>Hm (fun h=>?_) (fun h=>?_)) (fun j3 hj3=>hnx _ ⟨Q1 i1 hm,?_⟩)
   ·have h:isC y=true:=h
    rw [h] at w1 w2
    rw [if_neg (fun e=>Bool.noConfusion e)] at w1
    rw [if_pos rfl] at w2
    rw [o1,o2]
    exact G1a ⟨by omega,by omega⟩ (hK _ (Prod.ext (by simp only; omega) (by simp only; omega)))
   ·have h:isC y=false:=h
    rw [h] at w1 w2
    rw [if_neg (fun e=>Bool.noConfusion e)] at w2
    rw [if_pos rfl] at w1
    rw [o1,o2]
    exact G1a ⟨by omega,by omega⟩ (hK _ (Prod.ext (by simp only; omega) (by simp only; omega)))
   ·subst hj3
    exact i2.put y
 ·obtain⟨i1,i2⟩:=hI
  have:=i2.len
  exact Qy (decide_eq_true (by omega)) (Gn (.inr ⟨i1,rfl,i2.done⟩))
theorem ref30_right (y:Move):∃ r,G0d s y=some r∧(r=true ↔ Q51 s y):=by
 unfold G0d
 by_cases h:isC y=true
 ·have hk:=(J35 y).1 h
  rw [show (decide (y.Kind=1)||decide (y.Kind=4))=true from h,cond_true]
  refine⟨_,rfl,?_⟩
  simp only [Bool.and_eq_true,decide_eq_true_eq]
  unfold Q51; omega
 ·have hk:¬ (y.Kind=1∨y.Kind=4):=fun g=>h ((J35 y).2 g)
  rw [show (decide (y.Kind=1)||decide (y.Kind=4))=false from Bool.eq_false_iff.2 h,cond_false]
  refine⟨_,rfl,?_⟩
  simp only [Bool.and_eq_true,Bool.or_eq_true,decide_eq_true_eq]
  unfold Q51; omega
theorem nT_zero (hS:H25 s) (hm:∀ m∈l,Q51 s m) {p b:Int} {c:Bool} (h:nT s p b c l≠0):(p=1∨p=2)∧0≤b∧b < 40:=by
 unfold nT at h
 obtain⟨y,hy,hh⟩:=List.countP_pos_iff.1 (by omega:0 < l.countP (J6a s p b c))
 simp only [J6a,Bool.and_eq_true,decide_eq_true_eq] at hh
 obtain⟨⟨rfl,rfl⟩,_⟩:=hh
 refine⟨by unfold H7b; split <;> omega,?_⟩
 have hmy:=hm y hy
 cases hc:isC y with
 | true=>
  obtain⟨x,hx,_,e⟩:=hmy.cover hc
  have:=(hS.cov x (List.mem_of_getElem? hx)).bay
  omega
 | false=>
  obtain⟨x,hx,_,e⟩:=hmy.column hc
  have:=(hS.col x (List.mem_of_getElem? hx)).place
  omega
end
end Go.Proofs.YteogacmpgdpjlaaGreat
