/-
 Points where ways meet again; conditions that are known. Maps that count. Local structs that hold slices that are still appended to; results that lie in a variable.
-/
import Derived.Test.YtecjdioomlhhiaaGreatKeys
namespace Go.Proofs.YtecjdioomlhhiaaGreat
section
variable {P:Program} {N:Cfg} {Q:Post} {l:Fr} {L:Loc}
theorem G57 {x y:Code} {X:Type} (I:X→Prop) (F:X→Fr) (M:X→Loc)
  (h1:∀ K:Fr→Loc→Prop,(∀ l L v,I v→Fits N.base l L (F v) (M v)→K l L)→JC P N x (Q.seq K) l L)
  (h2:∀ v,I v→JC P N y Q (F v) (M v)):JC P N (.seq x y) Q l L:=
 G5 fun K hK=>h1 K fun l L v hv hf=>hK l L (G67 hf (h2 v hv))
theorem Qf1 {c:Operand} {x y:Code} (hc:ev l c=.sc (.bool true)) (ht:JC P N x Q l L):JC P N (.cond c x y) Q l L:=
 Gi hc (fun _=>ht) (fun h=>by cases h)
theorem Qf2 {c:Operand} {x y:Code} (hc:ev l c=.sc (.bool false)) (hf:JC P N y Q l L):JC P N (.cond c x y) Q l L:=
 Gi hc (fun h=>by cases h) (fun _=>hf)
def unseen (n:Nat) (seen:List Nat):Nat:=((List.range n).filter fun j=>!seen.contains j).length
theorem Q3e {n j:Nat} {seen:List Nat} (hj:j < n) (hs:j ∉ seen):unseen n (seen++[j]) < unseen n seen:=by
 unfold unseen
 have h1:(List.range n).filter (fun i=>!(seen++[j]).contains i)=((List.range n).filter fun i=>!seen.contains i).filter fun i=>i != j:=by
  rw [List.filter_filter]
  congr 1
  funext i
  simp only [List.contains_append,Bool.not_or,List.contains_cons,List.contains_nil,Bool.or_false,bne]
  rw [Bool.and_comm]
 rw [h1]
 have hm:j∈(List.range n).filter fun i=>!seen.contains i:=by simp [hj,hs]
 have:∀ (l:List Nat),j∈l→(l.filter fun i=>i != j).length < l.length:=by
  intro l
  induction l with
  | nil=>intro h; cases h
  | cons a r ih=>
   intro h
   by_cases e:a=j
   ·subst e
    have:=List.length_filter_le (fun i=>i != a) r
    simp
    omega
   ·have hr:j∈r:=by
     rcases List.mem_cons.1 h with h | h
     ·exact absurd h.symm e
     ·exact h
    have:=ih hr
    simp [e]
    omega
 exact this _ hm
end
mutual
theorem Qce (ok:Nat→Bool):∀ u:AV,u.refs (fun _=>false)=true→u.refs ok=true
 | .junk,_=>rfl
 | .sc _,_=>rfl
 | .list _ _,_=>rfl
 | .lst ..,_=>rfl
 | .dptr _,_=>rfl
 | .agg cs,h=>R0 ok cs h
 | .tup cs,h=>R0 ok cs h
 | .fn _ cs,h=>R0 ok cs h
 | .bfn _ cs,h=>R0 ok cs h
 | .opt _ x,h=>Qce ok x h
 | .ptr _ _,h=>by cases h
 | .own ..,h=>by cases h
 | .ms ..,h=>by cases h
 | .mp _,h=>by cases h
 | .it _,h=>by cases h
 | .vec ..,h=>by cases h
theorem R0 (ok:Nat→Bool):∀ us:List AV,G06 (fun _=>false) us=true→G06 ok us=true
 | [],_=>rfl
 | u::r,h=>by
  simp only [G06,Bool.and_eq_true] at h ⊢
  exact⟨Qce ok u h.1,R0 ok r h.2⟩
end
end Go.Proofs.YtecjdioomlhhiaaGreat
namespace Go.Proofs.YtecjdioomlhhiaaGreat
set_option linter.unusedVariables false
set_option linter.unusedSimpArgs false
section
variable {κ ν:Type} [DecidableEq κ]

theorem Qd6 {l:List (κ×ν)} {a:κ}:Gd0 l a=true ↔ a∈l.map (·.1):=by
 simp [Gd0]
theorem Gf1 (p:κ×ν) (l:List (κ×ν)) (a:κ):G7c (p::l) a=if p.1=a then some p.2 else G7c l a:=by
 unfold G7c
 rw [List.find?_cons]
 by_cases h:p.1=a <;> simp [h]
theorem J90 (l m:List (κ×ν)) (a:κ):G7c (l++m) a=(G7c l a).or (G7c m a):=by
 induction l with
 | nil=>simp [G7c]
 | cons p l ih=>rw [List.cons_append,Gf1,Gf1,ih]; split <;> simp
theorem H61 {l:List (κ×ν)} {a:κ}:(G7c l a).isSome=Gd0 l a:=by
 induction l with
 | nil=>rfl
 | cons p l ih=>
  rw [Gf1]
  simp only [Gd0,List.any_cons]
  by_cases h:p.1=a
  ·simp [h]
  ·simpa [h,Gd0] using ih
theorem J49 {l:List (κ×ν)} {a:κ} (h:Gd0 l a=false):G7c l a=none:=by
 have:=H61 (l:=l) (a:=a)
 rw [h] at this
 simpa using this
theorem Q57 (l:List (κ×ν)) (a b:κ) (v:ν):G7c (H4c l a v) b=if a=b then some v else G7c l b:=by
 unfold H4c
 split
 ·rename_i h
  induction l with
  | nil=>simp [Gd0] at h
  | cons p l ih=>
   rw [List.map_cons,Gf1,Gf1]
   by_cases hp:p.1=a
   ·simp only [hp,if_true]
    by_cases hab:a=b
    ·simp [hab]
    ·simp only [hab,if_false]
     by_cases hl:Gd0 l a=true
     ·rw [ih hl,if_neg hab]
     ·have e:l.map (fun p=>if p.1=a then (a,v) else p)=l:=by
       conv=>rhs; rw [← List.map_id l]
       apply List.map_congr_left
       intro q hq
       have:q.1≠a:=fun e=>hl (Qd6.2 (List.mem_map.2 ⟨q,hq,e⟩))
       simp [this]
      rw [e]
   ·simp only [hp,if_false]
    have hl:Gd0 l a=true:=by simpa [Gd0,hp] using h
    rw [ih hl]
    by_cases hpb:p.1=b
    ·have:¬ a=b:=fun e=>hp (hpb.trans e.symm)
     simp [hpb,this]
    ·simp [hpb]
 ·rename_i h
  rw [J90,Gf1]
  by_cases hab:a=b
  ·subst hab; rw [J49 (by simpa using h)]; simp
  ·have:G7c ([]:List (κ×ν)) b=none:=rfl
   simp [hab,this]
theorem R9f (l:List (κ×ν)) (a:κ) (z:ν):(G7c (Gfe l a z) a).getD z=(G7c l a).getD z:=by
 unfold Gfe
 split
 ·rfl
 ·rename_i h
  rw [J90,J49 (by simpa using h),Gf1]; simp

def tally (l:List κ):List (κ×Int):=l.foldl (fun m a=>H4c m a ((G7c m a).getD 0+1)) []
theorem Haa (l:List κ) (a:κ):tally (l++[a])=H4c (tally l) a ((G7c (tally l) a).getD 0+1):=by
 simp [tally,List.foldl_append]
theorem Q7a {α:Type} {motive:List α→Prop} (l:List α) (h0:motive []) (h1:∀ l a,motive l→motive (l++[a])):motive l:=by
 have:∀ n (l:List α),l.length=n→motive l:=by
  intro n
  induction n with
  | zero=>intro l hl; rw [List.eq_nil_of_length_eq_zero hl]; exact h0
  | succ n ih=>
   intro l hl
   have hne:l≠[]:=by intro e; rw [e] at hl; simp at hl
   rw [← List.dropLast_concat_getLast hne]
   exact h1 _ _ (ih _ (by simp [hl]))
 exact this _ l rfl
theorem Qc1 (l:List κ):((tally l).map (·.1)).Nodup:=by
 induction l using Q7a with
 | h0=>simp [tally]
 | h1 l a ih=>rw [Haa]; exact Jf5 ih _ _
theorem J5f (l:List κ) (a:κ):(G7c (tally l) a).getD 0=(l.count a:Int):=by
 induction l using Q7a with
 | h0=>simp [tally,G7c]
 | h1 l b ih=>
  rw [Haa,Q57,List.count_append]
  by_cases h:b=a
  ·subst h; rw [if_pos rfl,ih]; simp
  ·rw [if_neg h,ih]; simp [h]
theorem R89 (l:List κ) (b:κ) (h:b∈l):b∈(tally l).map (·.1):=by
 rw [← Qd6,← H61]
 have h1:=J5f l b
 have h2:=List.count_pos_iff.2 h
 cases hm:G7c (tally l) b with
 | some _=>rfl
 | none=>rw [hm] at h1; simp at h1; omega
theorem Q45 (l:List κ) {j:Nat} {a:κ} {n:Int} (h:(tally l)[j]? = some (a,n)):n=(l.count a:Int):=by
 have h1:=(Hfd (Qc1 l) h).1
 have h2:=J5f l a
 rw [h1] at h2
 simpa using h2
theorem Qc2 (l:List κ) (a:κ):0≤(G7c (tally l) a).getD 0∧(G7c (tally l) a).getD 0≤(l.length:Int):=by
 rw [J5f]
 have:=List.count_le_length (a:=a) (l:=l)
 omega
theorem Q76 (l:List κ):(∀ (j:Nat) a n,(tally l)[j]? = some (a,n)→n≤1) ↔ l.Nodup:=by
 rw [List.nodup_iff_count]
 constructor
 ·intro h a
  by_cases ha:a∈l
  ·obtain⟨p,hp,rfl⟩:=List.mem_map.1 (R89 l a ha)
   obtain⟨j,hj⟩:=List.mem_iff_getElem?.1 hp
   have:=h j p.1 p.2 hj
   rw [Q45 l hj] at this
   omega
  ·rw [List.count_eq_zero.2 ha]; omega
 ·intro h j a n hj
  rw [Q45 l hj]
  have:=h a
  omega
end
section
variable {P:Program} {o:Oper} {l:Fr} {L:Loc} {κ ν:Type} [DecidableEq κ] {kv:κ→Value} {av:ν→AV}
def Y06 (P:Program) (T E k:Nat):Bool:=(match P.underlying T with | some (.array _ e)=>e==E | _=>false)&&Zh P E k
theorem Hc0 {T E k:Nat} {parts:List (Nat×Operand)} {cs:List AV} (zs:List Value) (hT:Y06 P T E k=true) (hz:(P.info? T).bind (fun i=>i.zero.map Value.cells)=some zs.toArray) (ho:o.op=.build T parts.toArray) (hfill:H75 (fun i=>some (i*k,k)) (zs.map .sc) (parts.map fun p=>(p.1,ev l p.2))=some cs):H1 P o l L (Is (.agg cs) L):=
 Hq fun a w β _ hf=>by
  unfold Y06 at hT
  simp only [Bool.and_eq_true] at hT
  obtain⟨hT,hE⟩:=hT
  split at hT
  ·rename_i n e hu
   simp at hT; subst hT
   cases h1:P.info? T with
   | none=>rw [h1] at hz; simp at hz
   | some inf=>
    rw [h1] at hz
    cases h2:inf.zero with
    | none=>simp [h2] at hz
    | some z=>
     simp only [Option.bind_some,h2,Option.map_some,Option.some.injEq] at hz
     obtain⟨vs',e1,e2,e3⟩:=H63 (w:=w) (β:=β) (L:=L) (qs:=parts.map fun p=>(p.1,a.eval p.2)) (vs:=zs.toArray) hfill (by simp) (fun j p q hp hq=>by
      simp only [List.getElem?_map,Option.map_eq_some_iff] at hp hq
      obtain⟨x,hx,rfl⟩:=hp
      obtain⟨y,hy,rfl⟩:=hq
      rw [hx] at hy; cases hy
      exact⟨rfl,hf.ev _⟩) (by simp) (fun j u v hu hv=>by
      simp only [List.getElem?_map,Option.map_eq_some_iff] at hu
      obtain⟨x,hx,rfl⟩:=hu
      simp [hx] at hv; subst hv; exact .sc)
     refine⟨.agg vs',?_,.agg e2 e3⟩
     simp [execOp,ho,Instr.build,zeroValue,typeInfo,h1,h2,run_underlying hu,Qr hE w,hz,e1]
  ·cases hT
theorem Qfb {m x:Operand} {T K E i:Nat} {lst:List (κ×ν)} {a:κ} (z0:ν) (zv:Value) (ho:o.op=.lookup T m x false) (hm:ev l m=.mp i) (hi:lk L i=some (.map T (mapOf kv av (Gfe lst a z0)))) (hn:(lst.map (·.1)).Nodup)
  (hx:ev l x=G1d (kv a)) (hk:H5a P K kv) (hT:Ge3 P T K E=true) (hz:(P.info? E).bind (·.zero)=some zv) (hzv:av z0=G1d zv) :
  H1 P o l L (Is (av ((G7c lst a).getD z0)) L):=by
 have h:=Q24 (L:=L) z0 zv ho hm hi (R39 hn a z0) hx hk hT hz hzv
 rw [R9f] at h
 exact h
end
end Go.Proofs.YtecjdioomlhhiaaGreat
namespace Go.Proofs.YtecjdioomlhhiaaGreat
open Go.RowKit
set_option linter.unusedVariables false
set_option linter.unusedSimpArgs false

/-! ### The cells of a box, one by one -/
def Hc5 (ok:Nat→Bool):List AV→List AV→Prop
 | [],[]=>True
 | u::r,u'::r'=>Conv ok u u'∧Hc5 ok r r'
 | _,_=>False
theorem Hc5.length {ok:Nat→Bool}:∀ {cs cs':List AV},Hc5 ok cs cs'→cs.length=cs'.length
 | [],[],_=>rfl
 | _::_,_::_,h=>by simp [Hc5.length h.2]
 | [],_::_,h=>h.elim
 | _::_,[],h=>h.elim
theorem Hc5.get {ok:Nat→Bool}:∀ {cs cs':List AV},Hc5 ok cs cs'→∀ (j:Nat) u u',cs[j]? = some u→cs'[j]? = some u'→Conv ok u u'
 | u::r,u'::r',h,0,x,x',hx,hx'=>by simp at hx hx'; subst hx; subst hx'; exact h.1
 | u::r,u'::r',h,j+1,x,x',hx,hx'=>by simp at hx hx'; exact Hc5.get h.2 j x x' hx hx'
 | [],[],_,j,_,_,hx,_=>by simp at hx
 | [],_::_,h,_,_,_,_,_=>h.elim
 | _::_,[],h,_,_,_,_,_=>h.elim
theorem Hc5.sm {ok:Nat→Bool}:∀ {us us':List AV},us=us'→us'.all (fun u=>u.refs ok)=true→Hc5 ok us us'
 | [],_,rfl,_=>trivial
 | u::r,_,rfl,h=>by
  rw [List.all_cons,Bool.and_eq_true] at h
  exact⟨.same h.1,Hc5.sm rfl h.2⟩
def looks (l:Fr):Fr→List AV
 | []=>[]
 | (t,_)::r=>look l t::looks l r
def vals:Fr→List AV
 | []=>[]
 | (_,u)::r=>u::vals r
theorem J9e.sm {ok:Nat→Bool} {l:Fr}:∀ {l':Fr},looks l l'=vals l'→(vals l').all (fun u=>u.refs ok)=true→J9e ok l l'
 | [],_,_=>trivial
 | (t,u)::r,h,h2=>by
  have h':look l t::looks l r=u::vals r:=h
  have h2':(u::vals r).all (fun u=>u.refs ok)=true:=h2
  rw [List.all_cons,Bool.and_eq_true] at h2'
  injection h' with e1 e2
  exact⟨.eq e1 h2'.1,J9e.sm e2 h2'.2⟩
theorem Gca.boxL {ok:Nat→Bool} {o:Jg} {t:Nat} {cs cs':List AV} (ho:o=.box t cs) (h:Hc5 ok cs cs'):Gca ok o (.box t cs'):=by
 subst ho; exact .box h.length h.get

/-! ### A nil slice in a box that is going to be appended to -/
/-! ### Zero values whose slices are seen as empty lists -/
def ZOk:List AV→List Value→Prop
 | [],[]=>True
 | u::r,v::s=>(u=.sc v∨∃ k,u=.list k []∧v=.slice none 0 0)∧ZOk r s
 | _,_=>False
theorem ZOk.length:∀ {us:List AV} {vs:List Value},ZOk us vs→us.length=vs.length
 | [],[],_=>rfl
 | _::_,_::_,h=>by simp [ZOk.length h.2]
 | [],_::_,h=>h.elim
 | _::_,[],h=>h.elim
theorem ZOk.get {w:World} {β:H5} {L:Loc}:∀ {us:List AV} {vs:List Value},ZOk us vs→∀ (j:Nat) u v,us[j]? = some u→vs[j]? = some v→V w β L u v
 | u::r,v::s,h,0,x,y,hx,hy=>by
  simp at hx hy; subst hx; subst hy
  rcases h.1 with h | ⟨k,h1,h2⟩
  ·subst h; exact .sc
  ·subst h1; subst h2; exact .data (.nil (Nat.zero_le _))
 | u::r,v::s,h,j+1,x,y,hx,hy=>by simp at hx hy; exact ZOk.get h.2 j x y hx hy
 | [],[],_,j,_,_,hx,_=>by simp at hx
 | [],_::_,h,_,_,_,_,_=>h.elim
 | _::_,[],h,_,_,_,_,_=>h.elim
section
variable {P:Program} {o:Oper} {l:Fr} {L:Loc}
theorem G47 (i:Nat) {T:Nat} (us:List AV) (zs:List Value) (hz:(P.info? T).bind (fun i=>i.zero.map Value.cells)=some zs.toArray) (hu:ZOk us zs) (ho:o.op=.alloc T) (hi:lk L i=none) :
  H1 P o l L (Is (.ptr i 0) ((i,.box T us)::L)):=by
 intro a w β K Q hsat hf hK
 cases h1:P.info? T with
 | none=>rw [h1] at hz; simp at hz
 | some inf=>
  rw [h1] at hz
  cases h2:inf.zero with
  | none=>simp [h2] at hz
  | some z=>
   simp only [Option.bind_some,h2,Option.map_some,Option.some.injEq] at hz
   unfold Oper.wp
   have hr:(execOp a.eval o).run P w=.ok (.value (.pointer (some ⟨w.heap.size,0,none⟩))) (w.alloc (.cells z.cells T)):=by
    simp [execOp,ho,Instr.alloc,zeroValue,typeInfo,h1,h2,newVar,newRow]
   rw [hr]
   refine hK _ _ _ _ (upP β i (some w.heap.size)) ⟨rfl,rfl⟩ (hsat.alloc hi _ (fun hs=>⟨_,rfl,z.cells,heap_alloc_new w _,by simp [hz,hu.length],fun j u v hj hv=>?_⟩)) (Step.alloc hi hsat.bnd _) (.ptr (t:=T) (cs:=us) (by simp [Gr]) (by simp [upP]))
   rw [hz] at hv
   exact hu.get j u v hj (by simpa using hv)
theorem Jp {T:TypeId} {parts:List (Nat×Operand)} {cs:List AV} (pl:List (Nat×Nat)) (us:List AV) (zs:List Value) (hpl:placesOf P T=some pl) (hz:(P.info? T).bind (fun i=>i.zero.map Value.cells)=some zs.toArray) (hu:ZOk us zs) (ho:o.op=.build T parts.toArray) (hfill:H75 (fun i=>pl[i]?) us (parts.map fun p=>(p.1,ev l p.2))=some cs):H1 P o l L (Is (.agg cs) L):=
 Hq fun a w β _ hf=>by
  cases h1:P.info? T with
  | none=>rw [h1] at hz; simp at hz
  | some inf=>
   rw [h1] at hz
   cases h2:inf.zero with
   | none=>simp [h2] at hz
   | some z=>
    simp only [Option.bind_some,h2,Option.map_some,Option.some.injEq] at hz
    unfold placesOf at hpl
    split at hpl
    ·rename_i fs hfs
     have hrp:=run_places (P:=P) (w:=w) fs.toList pl hpl
     obtain⟨vs',e1,e2,e3⟩:=H63 (w:=w) (β:=β) (L:=L) (qs:=parts.map fun p=>(p.1,a.eval p.2)) (vs:=zs.toArray) hfill (by simp) (fun j p q hp hq=>by
      simp only [List.getElem?_map,Option.map_eq_some_iff] at hp hq
      obtain⟨x,hx,rfl⟩:=hp
      obtain⟨y,hy,rfl⟩:=hq
      rw [hx] at hy; cases hy
      exact⟨rfl,hf.ev _⟩) (by simp [hu.length]) (fun j u v hj hv=>hu.get j u v hj (by simpa using hv))
     refine⟨.agg vs',?_,.agg e2 e3⟩
     have hm:(fs.mapM (fun f=>Prod.mk f.offset <$> sizeOf f.type:Field→Sem (Nat×Nat))).run P w=.ok pl.toArray w:=by
      rw [← Array.toArray_toList (xs:=fs),List.mapM_toArray]
      simp only [Sem.run_map,hrp,Result.andThen_ok]
     simp [execOp,ho,Instr.build,zeroValue,typeInfo,h1,h2,underlying,hfs,hm,hz,e1]
    ·cases hpl
end
/-! ### A result that lies in a variable -/
theorem J8b {P:Program} {T k b:Nat} {vs:Array Value} {t:TypeId} {w:World} (hT:Ge6 P T k=true) (hv:w.heap[b]? = some (.cells vs t (0,0))) (hk:vs.size=k) :
  (loadVar T ⟨b,0,none⟩).run P w=.ok (.agg vs) w:=by
 have h1:=Gda (P:=P) (T:=T) (k:=k) (b:=b) (o':=0) (vs:=vs.toList) hT (by simpa using hk) (w:=w) (fun j v h=>by
  simp at h
  simp [World.cell?,hv,h])
 simpa [Instr.loadAt,Instr.sureAddr,asAddr] using h1
end Go.Proofs.YtecjdioomlhhiaaGreat
