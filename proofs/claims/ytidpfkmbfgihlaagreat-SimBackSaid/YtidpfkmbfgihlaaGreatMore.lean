/-
 Points where ways meet again; conditions that are known. Maps that count. Local structs that hold slices that are still appended to; results that lie in a variable.
-/
import Derived.Test.YtidpfkmbfgihlaaGreatKeys
namespace Go.Proofs.YtidpfkmbfgihlaaGreat
section
variable {P:Program} {N:Cfg} {Q:Post} {l:Fr} {L:Loc}
theorem Rg {x y:Code} {X:Type} (I:X→Prop) (F:X→Fr) (M:X→Loc)
  (h1:∀ K:Fr→Loc→Prop,(∀ l L v,I v→Fits N.base l L (F v) (M v)→K l L)→JC P N x (Q.seq K) l L)
  (h2:∀ v,I v→JC P N y Q (F v) (M v)):JC P N (.seq x y) Q l L:=
 G3 fun K hK=>h1 K fun l L v hv hf=>hK l L (Qc hf (h2 v hv))
theorem J31 {c:Operand} {x y:Code} (hc:ev l c=.sc (.bool true)) (ht:JC P N x Q l L):JC P N (.cond c x y) Q l L:=
 Gn hc (fun _=>ht) (fun h=>by cases h)
theorem G27 {c:Operand} {x y:Code} (hc:ev l c=.sc (.bool false)) (hf:JC P N y Q l L):JC P N (.cond c x y) Q l L:=
 Gn hc (fun h=>by cases h) (fun _=>hf)
def unseen (n:Nat) (seen:List Nat):Nat:=((List.range n).filter fun j=>!seen.contains j).length
theorem Ga4 {n j:Nat} {seen:List Nat} (hj:j < n) (hs:j ∉ seen):unseen n (seen++[j]) < unseen n seen:=by
 unfold unseen
 have h1:(List.range n).filter (fun i=>!(seen++[j]).contains i)=((List.range n).filter fun i=>!seen.contains i).filter fun i=>i != j:=by
  rw [List.filter_filter]
  congr 1
  funext i
  simp only [List.contains_append,Bool.not_or,List.contains_cons,List.contains_nil,Bool.or_false,bne]
  rw [Bool.and_comm]
 rw [h1]
 have hm:j∈(List.range n).filter fun i=>!seen.contains i:=by simp [hj,hs]
 have:∀ (l:List Nat),j∈l→(l.filter fun i=>i != j).length < l.length:=by
  intro l
  induction l with
  | nil=>intro h; cases h
  | cons a r ih=>
   intro h
   by_cases e:a=j
   ·subst e
    have:=List.length_filter_le (fun i=>i != a) r
    simp
    omega
   ·have hr:j∈r:=by
     rcases List.mem_cons.1 h with h | h
     ·exact absurd h.symm e
     ·exact h
    have:=ih hr
    simp [e]
    omega
 exact this _ hm
end
mutual
theorem R74 (ok:Nat→Bool):∀ u:AV,u.refs (fun _=>false)=true→u.refs ok=true
 | .junk,_=>rfl
 | .sc _,_=>rfl
 | .list _ _,_=>rfl
 | .lst ..,_=>rfl
 | .dptr _,_=>rfl
 | .dmap _,_=>rfl
 | .bag _ _,_=>rfl
 | .agg cs,h=>Jq ok cs h
 | .tup cs,h=>Jq ok cs h
 | .fn _ cs,h=>Jq ok cs h
 | .bfn _ cs,h=>Jq ok cs h
 | .opt _ x,h=>R74 ok x h
 | .ptr _ _,h=>by cases h
 | .own ..,h=>by cases h
 | .ms ..,h=>by cases h
 | .mp _,h=>by cases h
 | .it _,h=>by cases h
 | .vec ..,h=>by cases h
theorem Jq (ok:Nat→Bool):∀ us:List AV,Qy (fun _=>false) us=true→Qy ok us=true
 | [],_=>rfl
 | u::r,h=>by
  simp only [Qy,Bool.and_eq_true] at h ⊢
  exact⟨R74 ok u h.1,Jq ok r h.2⟩
end
end Go.Proofs.YtidpfkmbfgihlaaGreat
namespace Go.Proofs.YtidpfkmbfgihlaaGreat
set_option linter.unusedVariables false
set_option linter.unusedSimpArgs false
section
variable {κ ν:Type} [DecidableEq κ]

theorem Q80 {l:List (κ×ν)} {a:κ}:G32 l a=true ↔ a∈l.map (·.1):=by
 simp [G32]
theorem H0b (p:κ×ν) (l:List (κ×ν)) (a:κ):G2a (p::l) a=if p.1=a then some p.2 else G2a l a:=by
 unfold G2a
 rw [List.find?_cons]
 by_cases h:p.1=a <;> simp [h]
theorem Q13 (l m:List (κ×ν)) (a:κ):G2a (l++m) a=(G2a l a).or (G2a m a):=by
 induction l with
 | nil=>simp [G2a]
 | cons p l ih=>rw [List.cons_append,H0b,H0b,ih]; split <;> simp
theorem H95 {l:List (κ×ν)} {a:κ}:(G2a l a).isSome=G32 l a:=by
 induction l with
 | nil=>rfl
 | cons p l ih=>
  rw [H0b]
  simp only [G32,List.any_cons]
  by_cases h:p.1=a
  ·simp [h]
  ·simpa [h,G32] using ih
theorem Ja0 {l:List (κ×ν)} {a:κ} (h:G32 l a=false):G2a l a=none:=by
 have:=H95 (l:=l) (a:=a)
 rw [h] at this
 simpa using this
theorem J3d (l:List (κ×ν)) (a b:κ) (v:ν):G2a (Gfc l a v) b=if a=b then some v else G2a l b:=by
 unfold Gfc
 split
 ·rename_i h
  induction l with
  | nil=>simp [G32] at h
  | cons p l ih=>
   rw [List.map_cons,H0b,H0b]
   by_cases hp:p.1=a
   ·simp only [hp,if_true]
    by_cases hab:a=b
    ·simp [hab]
    ·simp only [hab,if_false]
     by_cases hl:G32 l a=true
     ·rw [ih hl,if_neg hab]
     ·have e:l.map (fun p=>if p.1=a then (a,v) else p)=l:=by
       conv=>rhs; rw [← List.map_id l]
       apply List.map_congr_left
       intro q hq
       have:q.1≠a:=fun e=>hl (Q80.2 (List.mem_map.2 ⟨q,hq,e⟩))
       simp [this]
      rw [e]
   ·simp only [hp,if_false]
    have hl:G32 l a=true:=by simpa [G32,hp] using h
    rw [ih hl]
    by_cases hpb:p.1=b
    ·have:¬ a=b:=fun e=>hp (hpb.trans e.symm)
     simp [hpb,this]
    ·simp [hpb]
 ·rename_i h
  rw [Q13,H0b]
  by_cases hab:a=b
  ·subst hab; rw [Ja0 (by simpa using h)]; simp
  ·have:G2a ([]:List (κ×ν)) b=none:=rfl
   simp [hab,this]
theorem Y51 (l:List (κ×ν)) (a:κ) (z:ν):(G2a (H26 l a z) a).getD z=(G2a l a).getD z:=by
 unfold H26
 split
 ·rfl
 ·rename_i h
  rw [Q13,Ja0 (by simpa using h),H0b]; simp

def tally (l:List κ):List (κ×Int):=l.foldl (fun m a=>Gfc m a ((G2a m a).getD 0+1)) []
theorem Hd8 (l:List κ) (a:κ):tally (l++[a])=Gfc (tally l) a ((G2a (tally l) a).getD 0+1):=by
 simp [tally,List.foldl_append]
theorem R1e {α:Type} {motive:List α→Prop} (l:List α) (h0:motive []) (h1:∀ l a,motive l→motive (l++[a])):motive l:=by
 have:∀ n (l:List α),l.length=n→motive l:=by
  intro n
  induction n with
  | zero=>intro l hl; rw [List.eq_nil_of_length_eq_zero hl]; exact h0
  | succ n ih=>
   intro l hl
   have hne:l≠[]:=by intro e; rw [e] at hl; simp at hl
   rw [← List.dropLast_concat_getLast hne]
   exact h1 _ _ (ih _ (by simp [hl]))
 exact this _ l rfl
theorem R65 (l:List κ):((tally l).map (·.1)).Nodup:=by
 induction l using R1e with
 | h0=>simp [tally]
 | h1 l a ih=>rw [Hd8]; exact He1 ih _ _
theorem Jca (l:List κ) (a:κ):(G2a (tally l) a).getD 0=(l.count a:Int):=by
 induction l using R1e with
 | h0=>simp [tally,G2a]
 | h1 l b ih=>
  rw [Hd8,J3d,List.count_append]
  by_cases h:b=a
  ·subst h; rw [if_pos rfl,ih]; simp
  ·rw [if_neg h,ih]; simp [h]
theorem Y42 (l:List κ) (b:κ) (h:b∈l):b∈(tally l).map (·.1):=by
 rw [← Q80,← H95]
 have h1:=Jca l b
 have h2:=List.count_pos_iff.2 h
 cases hm:G2a (tally l) b with
 | some _=>rfl
 | none=>rw [hm] at h1; simp at h1; omega
theorem Qe5 (l:List κ) {j:Nat} {a:κ} {n:Int} (h:(tally l)[j]? = some (a,n)):n=(l.count a:Int):=by
 have h1:=(He4 (R65 l) h).1
 have h2:=Jca l a
 rw [h1] at h2
 simpa using h2
theorem R66 (l:List κ) (a:κ):0≤(G2a (tally l) a).getD 0∧(G2a (tally l) a).getD 0≤(l.length:Int):=by
 rw [Jca]
 have:=List.count_le_length (a:=a) (l:=l)
 omega
theorem R1a (l:List κ):(∀ (j:Nat) a n,(tally l)[j]? = some (a,n)→n≤1) ↔ l.Nodup:=by
 rw [List.nodup_iff_count]
 constructor
 ·intro h a
  by_cases ha:a∈l
  ·obtain⟨p,hp,rfl⟩:=List.mem_map.1 (Y42 l a ha)
   obtain⟨j,hj⟩:=List.mem_iff_getElem?.1 hp
   have:=h j p.1 p.2 hj
   rw [Qe5 l hj] at this
   omega
  ·rw [List.count_eq_zero.2 ha]; omega
 ·intro h j a n hj
  rw [Qe5 l hj]
  have:=h a
  omega
end
section
variable {P:Program} {o:Oper} {l:Fr} {L:Loc} {κ ν:Type} [DecidableEq κ] {kv:κ→Value} {av:ν→AV}
def Ydb (P:Program) (T E k:Nat):Bool:=(match P.underlying T with | some (.array _ e)=>e==E | _=>false)&&Yt P E k
theorem J86 {T E k:Nat} {parts:List (Nat×Operand)} {cs:List AV} (zs:List Value) (hT:Ydb P T E k=true) (hz:(P.info? T).bind (fun i=>i.zero.map Value.cells)=some zs.toArray) (ho:o.op=.build T parts.toArray) (hfill:Ha5 (fun i=>some (i*k,k)) (zs.map .sc) (parts.map fun p=>(p.1,ev l p.2))=some cs):H0 P o l L (Is (.agg cs) L):=
 Hi fun a w β _ hf=>by
  unfold Ydb at hT
  simp only [Bool.and_eq_true] at hT
  obtain⟨hT,hE⟩:=hT
  split at hT
  ·rename_i n e hu
   simp at hT; subst hT
   cases h1:P.info? T with
   | none=>rw [h1] at hz; simp at hz
   | some inf=>
    rw [h1] at hz
    cases h2:inf.zero with
    | none=>simp [h2] at hz
    | some z=>
     simp only [Option.bind_some,h2,Option.map_some,Option.some.injEq] at hz
     obtain⟨vs',e1,e2,e3⟩:=H1b (w:=w) (β:=β) (L:=L) (qs:=parts.map fun p=>(p.1,a.eval p.2)) (vs:=zs.toArray) hfill (by simp) (fun j p q hp hq=>by
      simp only [List.getElem?_map,Option.map_eq_some_iff] at hp hq
      obtain⟨x,hx,rfl⟩:=hp
      obtain⟨y,hy,rfl⟩:=hq
      rw [hx] at hy; cases hy
      exact⟨rfl,hf.ev _⟩) (by simp) (fun j u v hu hv=>by
      simp only [List.getElem?_map,Option.map_eq_some_iff] at hu
      obtain⟨x,hx,rfl⟩:=hu
      simp [hx] at hv; subst hv; exact .sc)
     refine⟨.agg vs',?_,.agg e2 e3⟩
     simp [execOp,ho,Instr.build,zeroValue,typeInfo,h1,h2,run_underlying hu,Qe hE w,hz,e1]
  ·cases hT
theorem R9d {m x:Operand} {T K E i:Nat} {lst:List (κ×ν)} {a:κ} (z0:ν) (zv:Value) (ho:o.op=.lookup T m x false) (hm:ev l m=.mp i) (hi:lk L i=some (.map T (mapOf kv av (H26 lst a z0)))) (hn:(lst.map (·.1)).Nodup)
  (hx:ev l x=Rt (kv a)) (hk:Gd3 P K kv) (hT:Zj P T K E=true) (hz:(P.info? E).bind (·.zero)=some zv) (hzv:av z0=Rt zv) :
  H0 P o l L (Is (av ((G2a lst a).getD z0)) L):=by
 have h:=Qc3 (L:=L) z0 zv ho hm hi (Ree hn a z0) hx hk hT hz hzv
 rw [Y51] at h
 exact h
end
end Go.Proofs.YtidpfkmbfgihlaaGreat
namespace Go.Proofs.YtidpfkmbfgihlaaGreat
open Go.RowKit
set_option linter.unusedVariables false
set_option linter.unusedSimpArgs false

/-! ### The cells of a box, one by one -/
def J04 (ok:Nat→Bool):List AV→List AV→Prop
 | [],[]=>True
 | u::r,u'::r'=>Conv ok u u'∧J04 ok r r'
 | _,_=>False
theorem J04.length {ok:Nat→Bool}:∀ {cs cs':List AV},J04 ok cs cs'→cs.length=cs'.length
 | [],[],_=>rfl
 | _::_,_::_,h=>by simp [J04.length h.2]
 | [],_::_,h=>h.elim
 | _::_,[],h=>h.elim
theorem J04.get {ok:Nat→Bool}:∀ {cs cs':List AV},J04 ok cs cs'→∀ (j:Nat) u u',cs[j]? = some u→cs'[j]? = some u'→Conv ok u u'
 | u::r,u'::r',h,0,x,x',hx,hx'=>by simp at hx hx'; subst hx; subst hx'; exact h.1
 | u::r,u'::r',h,j+1,x,x',hx,hx'=>by simp at hx hx'; exact J04.get h.2 j x x' hx hx'
 | [],[],_,j,_,_,hx,_=>by simp at hx
 | [],_::_,h,_,_,_,_,_=>h.elim
 | _::_,[],h,_,_,_,_,_=>h.elim
theorem J04.sm {ok:Nat→Bool}:∀ {us us':List AV},us=us'→us'.all (fun u=>u.refs ok)=true→J04 ok us us'
 | [],_,rfl,_=>trivial
 | u::r,_,rfl,h=>by
  rw [List.all_cons,Bool.and_eq_true] at h
  exact⟨.same h.1,J04.sm rfl h.2⟩
def looks (l:Fr):Fr→List AV
 | []=>[]
 | (t,_)::r=>look l t::looks l r
def vals:Fr→List AV
 | []=>[]
 | (_,u)::r=>u::vals r
theorem Jbc.sm {ok:Nat→Bool} {l:Fr}:∀ {l':Fr},looks l l'=vals l'→(vals l').all (fun u=>u.refs ok)=true→Jbc ok l l'
 | [],_,_=>trivial
 | (t,u)::r,h,h2=>by
  have h':look l t::looks l r=u::vals r:=h
  have h2':(u::vals r).all (fun u=>u.refs ok)=true:=h2
  rw [List.all_cons,Bool.and_eq_true] at h2'
  injection h' with e1 e2
  exact⟨.eq e1 h2'.1,Jbc.sm e2 h2'.2⟩
theorem Ge6.boxL {ok:Nat→Bool} {o:Jh} {t:Nat} {cs cs':List AV} (ho:o=.box t cs) (h:J04 ok cs cs'):Ge6 ok o (.box t cs'):=by
 subst ho; exact .box h.length h.get

/-! ### A nil slice in a box that is going to be appended to -/
theorem H69 {w:World} {β:H4} {L:Loc} {i:Nat} (E k:Nat) (hi:lk L i=none):Step w β L w (upP β i none) ((i,.spare E k 0 0)::L):=by
 have hne:∀ id,(lk L id).isSome=true→i≠id:=fun id h e=>by subst e; rw [hi] at h; cases h
 refine⟨rfl,rfl,⟨rfl,Nat.le_refl _⟩,Nat.le_refl _,fun _ _ _=>Iff.rfl,fun b j hs=>⟨⟨hs.lt,hs.seen,fun id ob hid hb=>?_⟩,rfl⟩,fun b hb hfar=>⟨rfl,fun id hid e=>?_⟩,fun id t cs hid=>?_,fun id t cs hid=>?_,fun id t n cs hid=>?_,fun id t k' ver xs hid=>?_,fun id t k' ver hw hid=>?_⟩
 ·rw [Gh] at hid
  by_cases e:i=id
  ·subst e; simp [upP] at hb
  ·rw [if_neg e] at hid; simp only [upP,if_neg (Ne.symm e)] at hb; exact hs.kept id ob hid hb
 ·rw [Gh] at hid
  by_cases e':i=id
  ·subst e'; simp [upP] at e
  ·rw [if_neg e'] at hid; simp only [upP,if_neg (Ne.symm e')] at e; exact hfar id hid e
 all_goals
  have e:=hne id (by rw [hid]; rfl)
 ·exact⟨by simp [upP,Ne.symm e],cs,by rw [Gh,if_neg e]; exact hid⟩
 ·exact⟨by simp [upP,Ne.symm e],cs,by rw [Gh,if_neg e]; exact hid⟩
 ·exact⟨by simp [upP,Ne.symm e],n,cs,by rw [Gh,if_neg e]; exact hid⟩
 ·exact⟨ver,xs,by rw [Gh,if_neg e]; exact hid,Nat.le_refl _,fun _=>⟨rfl,by simp [upP,Ne.symm e],fun _ _=>rfl⟩⟩
 ·exact⟨ver,hw,by rw [Gh,if_neg e]; exact hid,Nat.le_refl _,fun _=>⟨rfl,by simp [upP,Ne.symm e],fun _ _=>rfl⟩⟩
theorem Jd1 {w:World} {β:H4} {L:Loc} {i:Nat} (E k:Nat) (hsat:Sat w β L) (hi:lk L i=none):Sat w (upP β i none) ((i,.spare E k 0 0)::L):=by
 refine⟨hsat.hid,fun id b hid hb=>?_,fun id b j hid hb=>?_,fun id id' b h1 h2 h3 h4=>?_,fun id ob hid=>?_⟩
 ·rw [Gh] at hid
  by_cases e:i=id
  ·subst e; simp [upP] at hb
  ·rw [if_neg e] at hid; simp only [upP,if_neg (Ne.symm e)] at hb; exact hsat.bnd id b hid hb
 ·rw [Gh] at hid
  by_cases e:i=id
  ·subst e; simp [upP] at hb
  ·rw [if_neg e] at hid; simp only [upP,if_neg (Ne.symm e)] at hb; exact hsat.apart id b j hid hb
 ·by_cases e:i=id
  ·subst e; simp [upP] at h3
  ·by_cases e':i=id'
   ·subst e'; simp [upP] at h4
   ·rw [Gh,if_neg e] at h1
    rw [Gh,if_neg e'] at h2
    simp only [upP,if_neg (Ne.symm e)] at h3
    simp only [upP,if_neg (Ne.symm e')] at h4
    exact hsat.inj id id' b h1 h2 h3 h4
 ·rw [Gh] at hid
  by_cases e:i=id
  ·subst e; simp at hid; subst hid; exact .inl ⟨by simp [upP],rfl⟩
  ·rw [if_neg e] at hid
   simp only [upP,if_neg (Ne.symm e)]
   exact(hsat.obj id ob hid).step (H69 E k hi) (fun b hb=>rfl)
theorem Ycb {w:World} {β:H4} {L:Loc} {i:Nat} (E k:Nat):V w (upP β i none) ((i,.spare E k 0 0)::L) (.own i 0 k []) (.slice none 0 0):=
 .own (.nil (Nat.zero_le _)) ⟨E,0,0,by rw [Gh,if_pos rfl],Nat.le_refl _,fun _=>⟨rfl,by simp [Value.ownBlock,upP],[],⟨by simp,.inl ⟨rfl,rfl⟩⟩,fun j u hu=>by simp [flat] at hu⟩⟩

theorem Ri.redescribeB {N:Cfg} {w0 w:World} {β0 β:H4} {L0 L:Loc} {a:Act} {l:Fr} (hs:Ri N w0 β0 L0 a w β l L) {i:Nat} {t:TypeId} {cs cs':List AV} (hi:lk L i=some (.box t cs)) (hl:cs.length=cs'.length)
  (h:∀ (vs:Array Value) (j:Nat) u v,(∃ b,β i=some b∧w.heap[b]? = some (.cells vs t (0,0)))→(∀ (j:Nat) u v,cs[j]? = some u→vs[j]? = some v→V w β L u v)→vs.size=cs.length→cs'[j]? = some u→vs[j]? = some v→V w β L u v):Ri N w0 β0 L0 a w β l ((i,.box t cs')::L):=by
 obtain⟨b,hb,vs,hv1,hv2,hv3⟩:=hs.sat.obj i _ hi
 have hsome:∀ id,(lk ((i,Jh.box t cs')::L) id).isSome=(lk L id).isSome:=fun id=>by
  rw [Gh]; split
  ·rename_i e; subst e; rw [hi]; rfl
  ·rfl
 have hstab:∀ b j,Jt w β L b j→Jt w β ((i,.box t cs')::L) b j:=fun b j hst=>⟨hst.lt,hst.seen,fun id o ho hb=>by
  rw [Gh] at ho
  split at ho
  ·rename_i e; subst e; cases ho; exact(hst.kept i _ hi hb).elim
  ·exact hst.kept id o ho hb⟩
 have st:Step w β L w β ((i,.box t cs')::L):=by
  refine⟨rfl,rfl,⟨rfl,Nat.le_refl _⟩,Nat.le_refl _,fun _ _ _=>Iff.rfl,fun b j h=>⟨hstab b j h,rfl⟩,fun b hb hf=>⟨rfl,fun id hid e=>hf id (by rw [← hsome id]; exact hid) e⟩,fun id t2 cs2 hid=>?_,fun id t2 cs2 hid=>?_,fun id m n es hid=>?_,fun id t2 k2 ver xs hid=>?_,fun id t2 k2 ver hw hid=>?_⟩
  ·refine⟨rfl,?_⟩
   rw [Gh]; split
   ·rename_i e; subst e; rw [hi] at hid; cases hid; exact⟨_,rfl⟩
   ·exact⟨_,hid⟩
  ·refine⟨rfl,cs2,?_⟩
   rw [Gh,if_neg (fun e=>by subst e; rw [hi] at hid; cases hid)]; exact hid
  ·refine⟨rfl,n,es,?_⟩
   rw [Gh,if_neg (fun e=>by subst e; rw [hi] at hid; cases hid)]; exact hid
  ·refine⟨ver,xs,?_,Nat.le_refl _,fun _=>⟨rfl,rfl,fun _ _=>rfl⟩⟩
   rw [Gh,if_neg (fun e=>by subst e; rw [hi] at hid; cases hid)]; exact hid
  ·refine⟨ver,hw,?_,Nat.le_refl _,fun _=>⟨rfl,rfl,fun _ _=>rfl⟩⟩
   rw [Gh,if_neg (fun e=>by subst e; rw [hi] at hid; cases hid)]; exact hid
 refine⟨⟨hs.sat.hid,fun id b h1 h2=>hs.sat.bnd id b (by rw [← hsome id]; exact h1) h2,fun id b j h1 h2=>hs.sat.apart id b j (by rw [← hsome id]; exact h1) h2,fun id id' b h1 h2 h3 h4=>hs.sat.inj id id' b (by rw [← hsome id]; exact h1) (by rw [← hsome id']; exact h2) h3 h4,fun id o ho=>?_⟩,hs.step.trans st,hs.frame.step st,hs.size,hs.base,hs.defers.step st⟩
 rw [Gh] at ho
 split at ho
 ·rename_i e; subst e; cases ho
  exact⟨b,hb,vs,hv1,by omega,fun j u v hu hv=>(h vs j u v ⟨b,hb,hv1⟩ hv3 hv2 hu hv).step st⟩
 ·exact(hs.sat.obj id o ho).step st (fun b hb=>rfl)

theorem Ri.redescribe {N:Cfg} {w0 w:World} {β0 β:H4} {L0 L:Loc} {a:Act} {l:Fr} (hs:Ri N w0 β0 L0 a w β l L) {i:Nat} {t:TypeId} {cs cs':List AV} (hi:lk L i=some (.box t cs)) (hl:cs.length=cs'.length)
  (h:∀ (vs:Array Value) (j:Nat) u v,(∀ (j:Nat) u v,cs[j]? = some u→vs[j]? = some v→V w β L u v)→vs.size=cs.length→cs'[j]? = some u→vs[j]? = some v→V w β L u v):Ri N w0 β0 L0 a w β l ((i,.box t cs')::L):=
 hs.redescribeB hi hl (fun vs j u v _=>h vs j u v)

theorem Ri.ownCell {N:Cfg} {w0 w:World} {β0 β:H4} {L0 L:Loc} {a:Act} {l:Fr} (hs:Ri N w0 β0 L0 a w β l L) (i j id E k:Nat) {t:TypeId} {cs cs':List AV} (hi:lk L i=some (.box t cs)) (hid:lk L id=none) (hj:cs[j]? = some (.sc (.slice none 0 0)))
  (hcs:cs.set j (.own id 0 k [])=cs'):∃ β',Ri N w0 β0 L0 a w β' l ((i,.box t cs')::(id,.spare E k 0 0)::L):=by
 have st:=H69 (w:=w) (β:=β) E k hid
 have h1:Ri N w0 β0 L0 a w (upP β id none) l ((id,.spare E k 0 0)::L):=⟨Jd1 E k hs.sat hid,hs.step.trans st,hs.frame.step st,hs.size,hs.base,hs.defers.step st⟩
 have hne:id≠i:=fun e=>by subst e; rw [hi] at hid; cases hid
 refine⟨_,h1.redescribe (i:=i) (t:=t) (cs:=cs) (by rw [Gh,if_neg hne]; exact hi) (by rw [← hcs]; simp) fun vs q u v hall hsz hu hv=>?_⟩
 rw [← hcs] at hu
 by_cases e:j=q
 ·subst e
  have hjl:j < cs.length:=(List.getElem?_eq_some_iff.1 hj).1
  simp [List.getElem?_set,hjl] at hu
  subst hu
  have:=hall j _ v hj hv
  rw [this.inv_sc]
  exact Ycb E k
 ·rw [List.getElem?_set_ne e] at hu
  exact hall q u v hu hv
theorem H84 {P:Program} {N:Cfg} {ops:Array Oper} {rest:List Oper} {Q:Post} {l:Fr} {L:Loc} (i j id E k:Nat) {t:TypeId} {cs cs':List AV} (hi:lk L i=some (.box t cs)) (hid:lk L id=none) (hj:cs[j]? = some (.sc (.slice none 0 0)))
  (hcs:cs.set j (.own id 0 k [])=cs') (hk:JL P N ops rest Q l ((i,.box t cs')::(id,.spare E k 0 0)::L)):JL P N ops rest Q l L:=
 fun n w0 β0 L0 a w β hs=>by
  obtain⟨β',h⟩:=hs.ownCell i j id E k hi hid hj hcs
  exact hk n w0 β0 L0 a w β' h

/-! ### Zero values whose slices are seen as empty lists -/
def ZOk:List AV→List Value→Prop
 | [],[]=>True
 | u::r,v::s=>(u=.sc v∨∃ k,u=.list k []∧v=.slice none 0 0)∧ZOk r s
 | _,_=>False
theorem ZOk.length:∀ {us:List AV} {vs:List Value},ZOk us vs→us.length=vs.length
 | [],[],_=>rfl
 | _::_,_::_,h=>by simp [ZOk.length h.2]
 | [],_::_,h=>h.elim
 | _::_,[],h=>h.elim
theorem ZOk.get {w:World} {β:H4} {L:Loc}:∀ {us:List AV} {vs:List Value},ZOk us vs→∀ (j:Nat) u v,us[j]? = some u→vs[j]? = some v→V w β L u v
 | u::r,v::s,h,0,x,y,hx,hy=>by
  simp at hx hy; subst hx; subst hy
  rcases h.1 with h | ⟨k,h1,h2⟩
  ·subst h; exact .sc
  ·subst h1; subst h2; exact .data (.nil (Nat.zero_le _))
 | u::r,v::s,h,j+1,x,y,hx,hy=>by simp at hx hy; exact ZOk.get h.2 j x y hx hy
 | [],[],_,j,_,_,hx,_=>by simp at hx
 | [],_::_,h,_,_,_,_,_=>h.elim
 | _::_,[],h,_,_,_,_,_=>h.elim
section
variable {P:Program} {o:Oper} {l:Fr} {L:Loc}
theorem G58 (i:Nat) {T:Nat} (us:List AV) (zs:List Value) (hz:(P.info? T).bind (fun i=>i.zero.map Value.cells)=some zs.toArray) (hu:ZOk us zs) (ho:o.op=.alloc T) (hi:lk L i=none) :
  H0 P o l L (Is (.ptr i 0) ((i,.box T us)::L)):=by
 intro a w β K Q hsat hf hK
 cases h1:P.info? T with
 | none=>rw [h1] at hz; simp at hz
 | some inf=>
  rw [h1] at hz
  cases h2:inf.zero with
  | none=>simp [h2] at hz
  | some z=>
   simp only [Option.bind_some,h2,Option.map_some,Option.some.injEq] at hz
   unfold Oper.wp
   have hr:(execOp a.eval o).run P w=.ok (.value (.pointer (some ⟨w.heap.size,0,none⟩))) (w.alloc (.cells z.cells T)):=by
    simp [execOp,ho,Instr.alloc,zeroValue,typeInfo,h1,h2,newVar,newRow]
   rw [hr]
   refine hK _ _ _ _ (upP β i (some w.heap.size)) ⟨rfl,rfl⟩ (hsat.alloc hi _ (fun hs=>⟨_,rfl,z.cells,heap_alloc_new w _,by simp [hz,hu.length],fun j u v hj hv=>?_⟩)) (Step.alloc hi hsat.bnd _) (.ptr (t:=T) (cs:=us) (by simp [Gh]) (by simp [upP]))
   rw [hz] at hv
   exact hu.get j u v hj (by simpa using hv)
theorem Hb {T:TypeId} {parts:List (Nat×Operand)} {cs:List AV} (pl:List (Nat×Nat)) (us:List AV) (zs:List Value) (hpl:placesOf P T=some pl) (hz:(P.info? T).bind (fun i=>i.zero.map Value.cells)=some zs.toArray) (hu:ZOk us zs) (ho:o.op=.build T parts.toArray) (hfill:Ha5 (fun i=>pl[i]?) us (parts.map fun p=>(p.1,ev l p.2))=some cs):H0 P o l L (Is (.agg cs) L):=
 Hi fun a w β _ hf=>by
  cases h1:P.info? T with
  | none=>rw [h1] at hz; simp at hz
  | some inf=>
   rw [h1] at hz
   cases h2:inf.zero with
   | none=>simp [h2] at hz
   | some z=>
    simp only [Option.bind_some,h2,Option.map_some,Option.some.injEq] at hz
    unfold placesOf at hpl
    split at hpl
    ·rename_i fs hfs
     have hrp:=run_places (P:=P) (w:=w) fs.toList pl hpl
     obtain⟨vs',e1,e2,e3⟩:=H1b (w:=w) (β:=β) (L:=L) (qs:=parts.map fun p=>(p.1,a.eval p.2)) (vs:=zs.toArray) hfill (by simp) (fun j p q hp hq=>by
      simp only [List.getElem?_map,Option.map_eq_some_iff] at hp hq
      obtain⟨x,hx,rfl⟩:=hp
      obtain⟨y,hy,rfl⟩:=hq
      rw [hx] at hy; cases hy
      exact⟨rfl,hf.ev _⟩) (by simp [hu.length]) (fun j u v hj hv=>hu.get j u v hj (by simpa using hv))
     refine⟨.agg vs',?_,.agg e2 e3⟩
     have hm:(fs.mapM (fun f=>Prod.mk f.offset <$> sizeOf f.type:Field→Sem (Nat×Nat))).run P w=.ok pl.toArray w:=by
      rw [← Array.toArray_toList (xs:=fs),List.mapM_toArray]
      simp only [Sem.run_map,hrp,Result.andThen_ok]
     simp [execOp,ho,Instr.build,zeroValue,typeInfo,h1,h2,underlying,hfs,hm,hz,e1]
    ·cases hpl
end
/-! ### A result that lies in a variable -/
theorem Q0e {P:Program} {T k b:Nat} {vs:Array Value} {t:TypeId} {w:World} (hT:Gf2 P T k=true) (hv:w.heap[b]? = some (.cells vs t (0,0))) (hk:vs.size=k) :
  (loadVar T ⟨b,0,none⟩).run P w=.ok (.agg vs) w:=by
 have h1:=Gef (P:=P) (T:=T) (k:=k) (b:=b) (o':=0) (vs:=vs.toList) hT (by simpa using hk) (w:=w) (fun j v h=>by
  simp at h
  simp [World.cell?,hv,h])
 simpa [Instr.loadAt,Instr.sureAddr,asAddr] using h1
end Go.Proofs.YtidpfkmbfgihlaaGreat
